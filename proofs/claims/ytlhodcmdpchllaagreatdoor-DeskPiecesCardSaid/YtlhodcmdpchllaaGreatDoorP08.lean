/-
  A part of the proof of the law DeskPieces: Many, ManyN.
-/
import Derived.RowKit
import Derived.Lib.Hide
import Derived.Test.YtlhodcmdpchllaaGreatDoorHd
import Derived.Test.YtlhodcmdpchllaaGreatDoorP03
set_option maxHeartbeats 16000000
set_option maxRecDepth 1000000
namespace Go.Proofs.YtlhodcmdpchllaaGreatDoor
namespace last
open Go
section
variable {P:Program} {ops:Array Oper} {Q:Exit->Act->World->Prop} {md:Region.Mode} {S:World->Prop} {L:Nat}
inductive Steps (P:Program) (ops:Array Oper) (ds:List Deferred) (W:World):List Value->List (Nat×Nat×Value)->List Value->Prop
 |z {ts:List Value}:Steps P ops ds W ts [] ts
 |s {ts VF PJ:List Value} {i:Nat} {d:Nat} {v:Value} {l:List (Nat×Nat×Value)} {o:Oper} (h:Steps P ops ds W VF l PJ) (h1:ops[i]?=some o:=by rfl) (h2:o.dst=some d:=by rfl) (h3:Region.wanted o (yielded ops ts.toArray)=true:=by rfl) (h4:(execOp (Act.eval ⟨ts.toArray,ds⟩) o).run P W=.ok (.value v) W:=by first|(go_simp;done)|(go_simp;rfl)) (h5:ts.set d v=VF:=by dsimp only[List.set_cons_succ,List.set_cons_zero]):Steps P ops ds W ts ((i,d,v)::l) PJ
 |k {ts VF PJ:List Value} {i:Nat} {d:Nat} {v:Value} {l:List (Nat×Nat×Value)} {o:Oper} (h:Steps P ops ds W VF l PJ) (h1:ops[i]?=some o:=by rfl) (h2:o.dst=some d:=by rfl) (h3:Region.wanted o (yielded ops ts.toArray)=false:=by rfl) (h4:v=undef:=by rfl) (h5:ts.set d v=VF:=by dsimp only[List.set_cons_succ,List.set_cons_zero]):Steps P ops ds W ts ((i,d,v)::l) PJ
def qz (md:Region.Mode) (ops:Array Oper) (L:Nat):List Bool->List (Nat×Nat×Value)->Bool
 |_,[]=>true
 |lb,(i,_,_)::l=>Region.free md ops lb.toArray i&&(Region.ready md ops lb.toArray).contains i&&waits md ops L i&&qz md ops L (lb.set i true) l
def qA:List Bool->List (Nat×Nat×Value)->List Bool
 |lb,[]=>lb
 |lb,(i,_,_)::l=>qA (lb.set i true) l
def sB:List Value->List (Nat×Nat×Value)->List Value
 |ts,[]=>ts
 |ts,(_,d,v)::l=>sB (ts.set d v) l
def more (f:Nat):List (Nat×Nat×Value)->Nat
 | []=>f
 |_::l=>more f l+1
theorem sC (hs:Region.noSelect ops=true) (hQ:∀c a w d v,Q (.panic c) (a.put (some d) v) w->Q (.panic c) a w) {fuel:Nat} {ds:List Deferred} {w:World} (hS:S w) :
 ∀(l:List (Nat×Nat×Value)) (lb:List Bool) (ts PJ:List Value),qz md ops L lb l=true->(∀W,S W->Steps P ops ds W ts l PJ)->wpAnyL P md ops Q S L fuel (qA lb l).toArray ⟨PJ.toArray,ds⟩ w->wpAnyL P md ops Q S L (more fuel l) lb.toArray ⟨ts.toArray,ds⟩ w
 | [],lb,ts,PJ,_,hy,h=>by
  cases hy w hS;exact h
 |(i,d,v)::l,lb,ts,PJ,hc,hy,h=>by
  unfold qz at hc;simp only[aK]at hc;obtain⟨⟨⟨h1,h2⟩,h3⟩,h4⟩:=hc;have hz:=hy w hS
  cases hz with
  |@s _ VF _ _ _ _ _ o g e1 e2 e3 e4 e5 =>
   refine nL i d v e1 e2 hs h1 h2 h3 (fun c a w=>hQ c a w _ _) hS e3 (fun W hW=>?_) ?_
   ·have:=hy W hW
    cases this with
    |s g' Pa Yq R8 XC VG=>rw[e1]at Pa;obtain rfl:=aw Pa;exact XC
    |k g' Pa Yq R8 XC VG=>rw[e1]at Pa;obtain rfl:=aw Pa;rw[e3]at R8;cases R8
   refine sC hs hQ hS l _ _ PJ h4 (fun W hW=>?_) h;have:=hy W hW
   cases this with
   |s g' Pa Yq R8 XC VG=>rw[e1]at Pa;obtain rfl:=aw Pa;rw[VG];exact g'
   |k g' Pa Yq R8 XC VG=>rw[e1]at Pa;obtain rfl:=aw Pa;rw[e3]at R8;cases R8
  |@k _ VF _ _ _ _ _ o g e1 e2 e3 e4 e5 =>
   subst e4;refine gO i d e1 e2 hs h1 h2 h3 (fun c a w=>hQ c a w _ _) hS e3 ?_;refine sC hs hQ hS l _ _ PJ h4 (fun W hW=>?_) h;have:=hy W hW
   cases this with
   |s g' Pa Yq R8 XC VG=>rw[e1]at Pa;obtain rfl:=aw Pa;rw[e3]at R8;cases R8
   |k g' Pa Yq R8 XC VG=>rw[e1]at Pa;obtain rfl:=aw Pa;rw[VG];exact g'
theorem many (l:List (Nat×Nat×Value)) {fuel:Nat} {lb lb':List Bool} {ts PJ:List Value} {ds:List Deferred} {w:World} (hS:S w) (h:wpAnyL P md ops Q S L fuel lb'.toArray ⟨PJ.toArray,ds⟩ w)
 (hs:Region.noSelect ops=true:=by kernel_rfl) (hc:qz md ops L lb l=true:=by kernel_rfl) (hQ:∀c a w d v,Q (.panic c) (a.put (some d) v) w->Q (.panic c) a w:=by exact fun _ _ _ _ _ h=>h)
 (hv:sB ts l=PJ:=by dsimp only[last.sB,List.set_cons_succ,List.set_cons_zero]) (hy:∀W,S W->Steps P ops ds W ts l PJ:=by intro _ _;repeat (first|exact .z|refine .s ?_|refine .k ?_)) (hb:qA lb l=lb':=by dsimp only[last.qA,List.set_cons_succ,List.set_cons_zero]):wpAnyL P md ops Q S L (more fuel l) lb.toArray ⟨ts.toArray,ds⟩ w:=by
 subst hb hv;exact sC hs hQ hS l lb ts _ hc hy h
theorem one (i:Nat) {o:Oper} {fuel:Nat} {lb:List Bool} {a:Act} {w:World}
 (h:∀K':Act->World->Prop,Shut (∀a w,(i≠L->S w)->wpAnyL P md ops Q S L fuel (lb.set i true).toArray a w->K' a w)->Oper.wp P o a w K' Q)
 (hr:Region.ready md ops lb.toArray=[i]:=by kernel_rfl) (ho:ops[i]?=some o:=by simp only[aC,aD,aE];exact rfl) (hw:Region.wanted o (yielded ops a.tmps)=true:=by rfl):wpAnyL P md ops Q S L (fuel+1) lb.toArray a w:=
 sy hr ho fun K' hK=>(if_pos hw).mpr (h K' hK)
theorem done {lb:List Bool} {a:Act} {w:World} {fuel:Nat} (h:Q .normal a w) (hr:Region.ready md ops lb.toArray=[]:=by kernel_rfl):wpAnyL P md ops Q S L fuel lb.toArray a w:=Bo hr h fuel
theorem head (S:World->Prop) (L n:Nat) {id:Nat} {a:Act} {w:World} {lb:List Bool} (h:wpAnyL P .any ops Q S L n lb.toArray a w.drew) (hn:ops.size=n:=by rfl) (O5:List.replicate n false=lb:=by dsimp only[List.replicate]) (hm:P.follows .mixedOrders=true:=by kernel_rfl):(Code.region id ops true).wp P Q a w:=
 vu hn O5 hm h
theorem fS (S:World->Prop) (L n:Nat) {id:Nat} {a:Act} {w:World} {lb:List Bool} (hS:S w.drew) (h:Hy (S w.drew)->wpAnyL P .any ops Q S L n lb.toArray a w.drew) (hn:ops.size=n:=by rfl) (O5:List.replicate n false=lb:=by dsimp only[List.replicate]) (hm:P.follows .mixedOrders=true:=by kernel_rfl):(Code.region id ops true).wp P Q a w:=
 vu hn O5 hm (h hS)
theorem gp (ch:List Nat) (i d:Nat) (v:Value) {oi:Oper} {fuel:Nat} {lb:List Bool} {ts:List Value} {ds:List Deferred} {w:World} (hS:S w) (h:wpAnyL P md ops Q S L fuel (lb.set i true).toArray ⟨(ts.set d v).toArray,ds⟩ w)
 (hi:ops[i]?=some oi:=by rfl) (hd:oi.dst=some d:=by rfl) (hs:Region.noSelect ops=true:=by kernel_rfl) (hf:Region.free md ops lb.toArray i=true:=by kernel_rfl) (hr:(Region.ready md ops lb.toArray).contains i=true:=by kernel_rfl) (hl:(chain md ops L ch&&ch.contains i&&i !=L&&nM md ops lb.toArray)=true:=by kernel_rfl)
 (hQ:∀c a w,Q (.panic c) (a.put (some d) v) w->Q (.panic c) a w:=by exact fun _ _ _ h=>h) (hw:Region.wanted oi (yielded ops ts.toArray)=true:=by rfl) (hy:∀w,S w->(execOp (Act.eval ⟨ts.toArray,ds⟩) oi).run P w=.ok (.value v) w:=by intro _ _;go_simp):wpAnyL P md ops Q S L (fuel+1) lb.toArray ⟨ts.toArray,ds⟩ w:=
 BX ch i d v hi hd hs hf hr hl hQ hS hw hy h
end
end last
namespace phase
open Go
open last (nM)
section
variable {P:Program} {ops:Array Oper} {Q:Exit->Act->World->Prop} {md:Region.Mode} {S:World->Prop} {F:Nat->Bool}
theorem gN (i d:Nat) (v:Value) (B:List Nat) {oi:Oper} {fuel:Nat} {lb:List Bool} {ts:List Value} {ds:List Deferred} {w:World} (hS:S w) (h:ie P md ops Q S F fuel (lb.set i true).toArray ⟨(ts.set d v).toArray,ds⟩ w)
 (hi:ops[i]?=some oi:=by rfl) (hd:oi.dst=some d:=by rfl) (hs:Region.noSelect ops=true:=by kernel_rfl) (hf:Region.free md ops lb.toArray i=true:=by kernel_rfl) (hr:(Region.ready md ops lb.toArray).contains i=true:=by kernel_rfl) (hl:waits md ops F lb.toArray i B=true:=by kernel_rfl) (hc:nM md ops lb.toArray=true:=by kernel_rfl)
 (hQ:∀c a w,Q (.panic c) (a.put (some d) v) w->Q (.panic c) a w:=by exact fun _ _ _ h=>h) (hw:Region.wanted oi (yielded ops ts.toArray)=true:=by rfl) (hy:∀w,S w->(execOp (Act.eval ⟨ts.toArray,ds⟩) oi).run P w=.ok (.value v) w:=by intro _ _;go_simp):ie P md ops Q S F (fuel+1) lb.toArray ⟨ts.toArray,ds⟩ w:=
 goN i d v B hi hd hs hf hr hl hc hQ hS hw hy h
theorem gM (i d:Nat) (v:Value) {oi:Oper} {fuel:Nat} {lb:List Bool} {ts:List Value} {ds:List Deferred} {w:World} (h:ie P md ops Q S F fuel (lb.set i true).toArray ⟨(ts.set d v).toArray,ds⟩ w)
 (hi:ops[i]?=some oi:=by rfl) (hd:oi.dst=some d:=by rfl) (hs:Region.noSelect ops=true:=by kernel_rfl) (hf:Region.free md ops lb.toArray i=true:=by kernel_rfl) (hr:(Region.ready md ops lb.toArray).contains i=true:=by kernel_rfl) (hF:F i=false:=by kernel_rfl)
 (hQ:∀c a w,Q (.panic c) (a.put (some d) v) w->Q (.panic c) a w:=by exact fun _ _ _ h=>h) (hw:Region.wanted oi (yielded ops ts.toArray)=true:=by rfl) (hy:∀w,(execOp (Act.eval ⟨ts.toArray,ds⟩) oi).run P w=.ok (.value v) w:=by intro _;go_simp):ie P md ops Q S F (fuel+1) lb.toArray ⟨ts.toArray,ds⟩ w:=
 Is i d v hi hd hs hf hr hF hQ hw hy h
theorem g1 (i:Nat) {o:Oper} {fuel:Nat} {lb:List Bool} {a:Act} {w:World} (h:∀K':Act->World->Prop,Shut (∀a w,(F i=true->S w)->ie P md ops Q S F fuel (lb.set i true).toArray a w->K' a w)->Oper.wp P o a w K' Q)
 (hr:Region.ready md ops lb.toArray=[i]:=by kernel_rfl) (ho:ops[i]?=some o:=by simp only[aC,aD,aE];exact rfl) (hw:Region.wanted o (yielded ops a.tmps)=true:=by rfl):ie P md ops Q S F (fuel+1) lb.toArray a w:=
 uI (l:=[i]) hr (by simp) fun j hj=>by
  obtain rfl:=aH.1 hj;exact⟨o,ho,fun K' hK=>(if_pos hw).mpr (h K' hK)⟩
theorem gD {lb:List Bool} {a:Act} {w:World} {fuel:Nat} (h:Q .normal a w) (hr:Region.ready md ops lb.toArray=[]:=by kernel_rfl):ie P md ops Q S F fuel lb.toArray a w:=Iu hr h fuel
theorem gH (S:World->Prop) (F:Nat->Bool) (n:Nat) {id:Nat} {a:Act} {w:World} {lb:List Bool} (h:ie P .any ops Q S F n lb.toArray a w.drew) (hn:ops.size=n:=by rfl) (O5:List.replicate n false=lb:=by dsimp only[List.replicate]) (hm:P.follows .mixedOrders=true:=by kernel_rfl):(Code.region id ops true).wp P Q a w:=
 Am hn O5 hm h
theorem Iv (S:World->Prop) (F:Nat->Bool) (n:Nat) {id:Nat} {a:Act} {w:World} {lb:List Bool} (hS:S w.drew) (h:Hy (S w.drew)->ie P .any ops Q S F n lb.toArray a w.drew) (hn:ops.size=n:=by rfl) (O5:List.replicate n false=lb:=by dsimp only[List.replicate]) (hm:P.follows .mixedOrders=true:=by kernel_rfl):(Code.region id ops true).wp P Q a w:=
 Am hn O5 hm (h hS)
end
end phase
end Go.Proofs.YtlhodcmdpchllaaGreatDoor
