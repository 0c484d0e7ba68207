/-
  A part of the proof of the law WorldCalm: Many, ManyN.
-/
import Derived.RowKit
import Derived.Lib.Hide
import Derived.Test.YtjhdaojclilakaaGreatDoorHd
import Derived.Test.YtjhdaojclilakaaGreatDoorP04
set_option maxHeartbeats 16000000
set_option maxRecDepth 1000000
namespace Go.Proofs.YtjhdaojclilakaaGreatDoor
namespace last
open Go
section
variable {P:Program} {ops:Array Oper} {Q:Exit->Act->World->Prop} {md:Region.Mode} {S:World->Prop} {L:Nat}
inductive Steps (P:Program) (ops:Array Oper) (ds:List Deferred) (W:World):List Value->List (Nat×Nat×Value)->List Value->Prop
 |z {ts:List Value}:Steps P ops ds W ts [] ts
 |s {ts ts2 Vx:List Value} {i:Nat} {d:Nat} {v:Value} {l:List (Nat×Nat×Value)} {o:Oper} (h:Steps P ops ds W ts2 l Vx) (h1:ops[i]?=some o:=by rfl) (h2:o.dst=some d:=by rfl) (h3:Region.wanted o (yielded ops ts.toArray)=true:=by rfl) (h4:(execOp (Act.eval ⟨ts.toArray,ds⟩) o).run P W=.ok (.value v) W:=by first|(go_simp;done)|(go_simp;rfl)) (h5:ts.set d v=ts2:=by dsimp only[List.set_cons_succ,List.set_cons_zero]):Steps P ops ds W ts ((i,d,v)::l) Vx
 |k {ts ts2 Vx:List Value} {i:Nat} {d:Nat} {v:Value} {l:List (Nat×Nat×Value)} {o:Oper} (h:Steps P ops ds W ts2 l Vx) (h1:ops[i]?=some o:=by rfl) (h2:o.dst=some d:=by rfl) (h3:Region.wanted o (yielded ops ts.toArray)=false:=by rfl) (h4:v=undef:=by rfl) (h5:ts.set d v=ts2:=by dsimp only[List.set_cons_succ,List.set_cons_zero]):Steps P ops ds W ts ((i,d,v)::l) Vx
def tX (md:Region.Mode) (ops:Array Oper) (L:Nat):List Bool->List (Nat×Nat×Value)->Bool
 |_,[]=>true
 |a,(i,_,_)::l=>Region.free md ops a.toArray i&&(Region.ready md ops a.toArray).contains i&&waits md ops L i&&tX md ops L (a.set i true) l
def tY:List Bool->List (Nat×Nat×Value)->List Bool
 |a,[]=>a
 |a,(i,_,_)::l=>tY (a.set i true) l
def wL:List Value->List (Nat×Nat×Value)->List Value
 |a,[]=>a
 |a,(_,d,v)::l=>wL (a.set d v) l
def more (f:Nat):List (Nat×Nat×Value)->Nat
 | []=>f
 |_::l=>more f l+1
theorem wM (hs:Region.noSelect ops=true) (hQ:∀c a w d v,Q (.panic c) (a.put (some d) v) w->Q (.panic c) a w) {fuel:Nat} {x:List Deferred} {w:World} (p:S w) :
 ∀(l:List (Nat×Nat×Value)) (t:List Bool) (u q:List Value),tX md ops L t l=true->(∀W,S W->Steps P ops x W u l q)->wpAnyL P md ops Q S L fuel (tY t l).toArray ⟨q.toArray,x⟩ w->wpAnyL P md ops Q S L (more fuel l) t.toArray ⟨u.toArray,x⟩ w
 | [],t,u,q,_,hy,h=>by
  cases hy w p;exact h
 |(i,d,v)::l,t,u,q,hc,hy,h=>by
  unfold tX at hc;simp only[aF]at hc;obtain⟨⟨⟨A,B⟩,C⟩,D⟩:=hc;have F:=hy w p
  cases F with
  |@s _ y _ _ _ _ _ o g e1 z r E G =>
   refine qw i d v e1 z hs A B C (fun c a w=>hQ c a w _ _) p r (fun W hW=>?_) ?_
   ·have:=hy W hW
    cases this with
    |s n b j m f e=>rw[e1]at b;obtain rfl:=aA b;exact f
    |k n b j m f e=>rw[e1]at b;obtain rfl:=aA b;rw[r]at m;cases m
   refine wM hs hQ p l _ _ q D (fun W hW=>?_) h;have:=hy W hW
   cases this with
   |s n b j m f e=>rw[e1]at b;obtain rfl:=aA b;rw[e];exact n
   |k n b j m f e=>rw[e1]at b;obtain rfl:=aA b;rw[r]at m;cases m
  |@k _ y _ _ _ _ _ o g e1 z r E G =>
   subst E;refine jH i d e1 z hs A B C (fun c a w=>hQ c a w _ _) p r ?_;refine wM hs hQ p l _ _ q D (fun W hW=>?_) h;have:=hy W hW
   cases this with
   |s n b j m f e=>rw[e1]at b;obtain rfl:=aA b;rw[r]at m;cases m
   |k n b j m f e=>rw[e1]at b;obtain rfl:=aA b;rw[e];exact n
theorem many (l:List (Nat×Nat×Value)) {fuel:Nat} {e b:List Bool} {f g:List Value} {i:List Deferred} {w:World} (j:S w) (h:wpAnyL P md ops Q S L fuel b.toArray ⟨g.toArray,i⟩ w)
 (hs:Region.noSelect ops=true:=by kernel_rfl) (hc:tX md ops L e l=true:=by kernel_rfl) (hQ:∀c a w d v,Q (.panic c) (a.put (some d) v) w->Q (.panic c) a w:=by exact fun _ _ _ _ _ h=>h)
 (hv:wL f l=g:=by dsimp only[last.wL,List.set_cons_succ,List.set_cons_zero]) (hy:∀W,S W->Steps P ops i W f l g:=by intro _ _;repeat (first|exact .z|refine .s ?_|refine .k ?_)) (hb:tY e l=b:=by dsimp only[last.tY,List.set_cons_succ,List.set_cons_zero]):wpAnyL P md ops Q S L (more fuel l) e.toArray ⟨f.toArray,i⟩ w:=by
 subst hb hv;exact wM hs hQ j l e f _ hc hy h
theorem one (i:Nat) {o:Oper} {fuel:Nat} {c:List Bool} {a:Act} {w:World}
 (h:∀b:Act->World->Prop,Shut (∀a w,(i≠L->S w)->wpAnyL P md ops Q S L fuel (c.set i true).toArray a w->b a w)->Oper.wp P o a w b Q)
 (d:Region.ready md ops c.toArray=[i]:=by kernel_rfl) (e:ops[i]?=some o:=by simp only[aJ,aO,aM];exact rfl) (hw:Region.wanted o (yielded ops a.tmps)=true:=by rfl):wpAnyL P md ops Q S L (fuel+1) c.toArray a w:=
 wJ d e fun b hK=>(if_pos hw).mpr (h b hK)
theorem done {b:List Bool} {a:Act} {w:World} {fuel:Nat} (h:Q .normal a w) (c:Region.ready md ops b.toArray=[]:=by kernel_rfl):wpAnyL P md ops Q S L fuel b.toArray a w:=Gc c h fuel
theorem head (S:World->Prop) (L n:Nat) {id:Nat} {a:Act} {w:World} {b:List Bool} (h:wpAnyL P .any ops Q S L n b.toArray a w.drew) (c:ops.size=n:=by rfl) (d:List.replicate n false=b:=by dsimp only[List.replicate]) (hm:P.follows .mixedOrders=true:=by kernel_rfl):(Code.region id ops true).wp P Q a w:=
 zJ c d hm h
theorem iJ (S:World->Prop) (L n:Nat) {id:Nat} {a:Act} {w:World} {b:List Bool} (c:S w.drew) (h:Hy (S w.drew)->wpAnyL P .any ops Q S L n b.toArray a w.drew) (d:ops.size=n:=by rfl) (e:List.replicate n false=b:=by dsimp only[List.replicate]) (hm:P.follows .mixedOrders=true:=by kernel_rfl):(Code.region id ops true).wp P Q a w:=
 zJ d e hm (h c)
theorem iF (g:List Nat) (i d:Nat) (v:Value) {e:Oper} {fuel:Nat} {b:List Bool} {f:List Value} {j:List Deferred} {w:World} (k:S w) (h:wpAnyL P md ops Q S L fuel (b.set i true).toArray ⟨(f.set d v).toArray,j⟩ w)
 (hi:ops[i]?=some e:=by rfl) (hd:e.dst=some d:=by rfl) (hs:Region.noSelect ops=true:=by kernel_rfl) (l:Region.free md ops b.toArray i=true:=by kernel_rfl) (m:(Region.ready md ops b.toArray).contains i=true:=by kernel_rfl) (n:(chain md ops L g&&g.contains i&&i !=L&&qx md ops b.toArray)=true:=by kernel_rfl)
 (hQ:∀c a w,Q (.panic c) (a.put (some d) v) w->Q (.panic c) a w:=by exact fun _ _ _ h=>h) (hw:Region.wanted e (yielded ops f.toArray)=true:=by rfl) (hy:∀w,S w->(execOp (Act.eval ⟨f.toArray,j⟩) e).run P w=.ok (.value v) w:=by intro _ _;go_simp):wpAnyL P md ops Q S L (fuel+1) b.toArray ⟨f.toArray,j⟩ w:=
 GI g i d v hi hd hs l m n hQ k hw hy h
end
end last
namespace phase
open Go
open last (qx)
section
variable {P:Program} {ops:Array Oper} {Q:Exit->Act->World->Prop} {md:Region.Mode} {S:World->Prop} {F:Nat->Bool}
theorem gN (i d:Nat) (v:Value) (B:List Nat) {e:Oper} {fuel:Nat} {b:List Bool} {f:List Value} {g:List Deferred} {w:World} (j:S w) (h:jZ P md ops Q S F fuel (b.set i true).toArray ⟨(f.set d v).toArray,g⟩ w)
 (hi:ops[i]?=some e:=by rfl) (hd:e.dst=some d:=by rfl) (hs:Region.noSelect ops=true:=by kernel_rfl) (k:Region.free md ops b.toArray i=true:=by kernel_rfl) (l:(Region.ready md ops b.toArray).contains i=true:=by kernel_rfl) (m:waits md ops F b.toArray i B=true:=by kernel_rfl) (hc:qx md ops b.toArray=true:=by kernel_rfl)
 (hQ:∀c a w,Q (.panic c) (a.put (some d) v) w->Q (.panic c) a w:=by exact fun _ _ _ h=>h) (hw:Region.wanted e (yielded ops f.toArray)=true:=by rfl) (hy:∀w,S w->(execOp (Act.eval ⟨f.toArray,g⟩) e).run P w=.ok (.value v) w:=by intro _ _;go_simp):jZ P md ops Q S F (fuel+1) b.toArray ⟨f.toArray,g⟩ w:=
 goN i d v B hi hd hs k l m hc hQ j hw hy h
theorem gM (i d:Nat) (v:Value) {b:Oper} {fuel:Nat} {e:List Bool} {f:List Value} {g:List Deferred} {w:World} (h:jZ P md ops Q S F fuel (e.set i true).toArray ⟨(f.set d v).toArray,g⟩ w)
 (hi:ops[i]?=some b:=by rfl) (hd:b.dst=some d:=by rfl) (hs:Region.noSelect ops=true:=by kernel_rfl) (j:Region.free md ops e.toArray i=true:=by kernel_rfl) (k:(Region.ready md ops e.toArray).contains i=true:=by kernel_rfl) (l:F i=false:=by kernel_rfl)
 (hQ:∀c a w,Q (.panic c) (a.put (some d) v) w->Q (.panic c) a w:=by exact fun _ _ _ h=>h) (hw:Region.wanted b (yielded ops f.toArray)=true:=by rfl) (hy:∀w,(execOp (Act.eval ⟨f.toArray,g⟩) b).run P w=.ok (.value v) w:=by intro _;go_simp):jZ P md ops Q S F (fuel+1) e.toArray ⟨f.toArray,g⟩ w:=
 MI i d v hi hd hs j k l hQ hw hy h
theorem g1 (i:Nat) {o:Oper} {fuel:Nat} {c:List Bool} {a:Act} {w:World} (h:∀b:Act->World->Prop,Shut (∀a w,(F i=true->S w)->jZ P md ops Q S F fuel (c.set i true).toArray a w->b a w)->Oper.wp P o a w b Q)
 (d:Region.ready md ops c.toArray=[i]:=by kernel_rfl) (e:ops[i]?=some o:=by simp only[aJ,aO,aM];exact rfl) (hw:Region.wanted o (yielded ops a.tmps)=true:=by rfl):jZ P md ops Q S F (fuel+1) c.toArray a w:=
 rT (l:=[i]) d ae fun j f=>by
  obtain rfl:=aD.1 f;exact⟨o,e,fun b hK=>(if_pos hw).mpr (h b hK)⟩
theorem gD {b:List Bool} {a:Act} {w:World} {fuel:Nat} (h:Q .normal a w) (c:Region.ready md ops b.toArray=[]:=by kernel_rfl):jZ P md ops Q S F fuel b.toArray a w:=MJ c h fuel
theorem gH (S:World->Prop) (F:Nat->Bool) (n:Nat) {id:Nat} {a:Act} {w:World} {b:List Bool} (h:jZ P .any ops Q S F n b.toArray a w.drew) (c:ops.size=n:=by rfl) (d:List.replicate n false=b:=by dsimp only[List.replicate]) (hm:P.follows .mixedOrders=true:=by kernel_rfl):(Code.region id ops true).wp P Q a w:=
 Dm c d hm h
theorem MK (S:World->Prop) (F:Nat->Bool) (n:Nat) {id:Nat} {a:Act} {w:World} {b:List Bool} (c:S w.drew) (h:Hy (S w.drew)->jZ P .any ops Q S F n b.toArray a w.drew) (d:ops.size=n:=by rfl) (e:List.replicate n false=b:=by dsimp only[List.replicate]) (hm:P.follows .mixedOrders=true:=by kernel_rfl):(Code.region id ops true).wp P Q a w:=
 Dm d e hm (h c)
end
end phase
end Go.Proofs.YtjhdaojclilakaaGreatDoor
