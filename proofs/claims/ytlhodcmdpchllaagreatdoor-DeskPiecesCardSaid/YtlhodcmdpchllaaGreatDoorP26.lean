/-
  A part of the proof of the law DeskPieces: SrvI, SrvJ, SrvL, SrvK, SrvM, ClA, ClB, ClC, SrvV.
-/
import Derived.Laws.ResultCell
import Derived.Deep.DeepCutAuto
import Derived.Test.YtlhodcmdpchllaaGreatDoorHd
import Derived.Test.YtlhodcmdpchllaaGreatDoorP14
import Derived.Test.YtlhodcmdpchllaaGreatDoorP25
set_option maxHeartbeats 16000000
set_option maxRecDepth 1000000
namespace Go.Proofs.YtlhodcmdpchllaaGreatDoor
namespace dR
open Go.RowKit heap own dK eO fq dZ fD eK
open dI (Rec dW fE Wr dC eY eA eG ez put del)
theorem xp {t:eA} {wb dm tb:Nat} {LR:List fE} {qs:List Value} {e q n o:Int} (hv:LR.length=8) (hl:qs.length=8) (k:Nat) (hk:k<8) (u:Value) :
 (iP t wb LR qs dm tb e q n o).set (20+k) u=iP t wb LR (qs.set k u) dm tb e q n o:=by
 (have QL:(LR.flatMap lp).length=16:=by rw[kS pQ,hv]);unfold iP;rw[bk _ _ (by simp;omega),show 20+k-([.int .i64 t.dF,.int .i64 t.ei,.int .i64 t.eS,.pointer (some ⟨wb,0,none⟩)]:List Value).length=16+k by simp;omega];rw[bk _ _ (by rw[QL];omega),QL,cy,cH _ _ (by omega)]
def ki (own:Nat->Nat) (w:World):Nat->Nat:=fun k=>if k<w.heap.size then own k else 0
theorem qY (own:Nat->Nat) (w:World):∀g,w.heap.size<=g->ki own w g=0:=fun g hg=>by unfold ki;rw[if_neg (by omega)]
theorem nR {own:Nat->Nat} {w:World} {k:Nat} (h:k<w.heap.size):ki own w k=own k:=by unfold ki;rw[if_pos h]
theorem ph {own own1:Nat->Nat} {w w':World} (h:Ext w own own1) (hs:w.heap.size<=w'.heap.size):Ext w own (ki own1 w'):=fun k hk=>by rw[nR (by omega)];exact h k hk
section
variable {P:Lib.PrintTabs} {own own1:Nat->Nat} {w0 w w':World} {sb db wb dm tb tm:Nat} {v:Value} {ps:List ByteArray} {qs:List Value} {d:dW} {s:dC}
theorem nT (s:dC) (o k:Nat) (l:List Wr) (ho:o<s.eQ.length):({s with eQ:=s.eQ.set o l}:dC).dX k=if k=o then l else s.dX k:=by
 unfold dC.dX;rw[aB,aB];by_cases h:k=o
 ·subst h;rw[if_pos rfl,aT ho];rfl
 rw[if_neg h,aX (fun e=>h e.symm)]
theorem D6 (qs:List Value) (o k:Nat) (u:Value) (ho:o<qs.length):(qs.set o u).getD k undef=if k=o then u else qs.getD k undef:=by
 rw[aB,aB];by_cases h:k=o
 ·subst h;rw[if_pos rfl,aT ho];rfl
 rw[if_neg h,aX (fun e=>h e.symm)]
theorem eh.tq (h:eh P own w0 w sb db wb dm tb tm v ps qs d s) (o:Nat) (ho:o<8) (u:Value) (l:List Wr) (ht:dD (fun g=>g=sb\/own g=10+o) w w') (he:Ext w own own1) (hf:∀g,w'.heap.size<=g->own1 g=0)
 (hs:Has w' sb (.cells (iP s.eJ wb s.values (qs.set o u) dm tb s.dQ s.quiet s.dE s.fa).toArray 103)) (hq:fH own1 (10+o) w' 263 4 u l.length (l.flatMap iF))
 (hc:∀x∈l,(0<=x.dL/\x.dL<4)/\x.data.length<=20) (adl:l.length<=10):eh P own1 w0 w' sb db wb dm tb tm v ps (qs.set o u) d {s with eQ:=s.eQ.set o l}:=by
 have ne:∀g k,own g=k->k≠4->k≠10+o->¬(g=sb\/own g=10+o):=fun g k hk h4 h5 e=>by
  rcases e with e|e
  ·rw[e,h.fJ]at hk;exact h4 hk.symm
  rw[e]at hk;exact h5 hk.symm
 have Y5:∀g,ey own1 g->w0.heap.size<=g:=fun g hg=>by
  rcases aW g w.heap.size with hg'|hg'
  ·unfold ey at hg;rw[he g hg']at hg;exact h.low g hg
  exact az h.le hg'
 (have hoq:o<s.eQ.length:=by rw[h.nq];exact ho);have Kg:=h.s_.lt
 refine⟨h.jT,h.kh,h.fF.trans (ht.lU h.le fun k hk e=>?_),Y5,hf,⟨ht.has h.dZ.w_ (ne _ 3 h.dZ.ow (by decide) (by omega)),h.dZ.row.ej ht he fun k _ hk=>ne k 2 hk (by decide) (by omega),by rw[he _ h.dZ.w_.lt];exact h.dZ.ow,fun g hg=>Y5 g ⟨by omega,by omega⟩,h.dZ.lw⟩,
  ⟨ht.has h.hZ.d_ (ne _ 1 h.gq (by decide) (by omega)),h.hZ.hp⟩,h.jf,by rw[he _ h.hZ.lt];exact h.gq,hs,by rw[he _ Kg];exact h.fJ,⟨h.nv,by show (s.eQ.set o l).length=8;rw[aN];exact h.nq,fun k x hx=>?_,h.ok.dk,h.ok.rc,fun k=>?_⟩,by rw[aN];exact h.lq,fun k hk=>?_,
  h.done.er ht (ne _ 5 h.ix (by decide) (by omega)),by rw[he _ h.done.lt];exact h.ix,h.eo.er ht (ne _ 6 h.iQ (by decide) (by omega)) (ne _ 7 h.iR (by decide) (by omega)),by rw[he _ h.eo.lt.1];exact h.iQ,by rw[he _ h.eo.lt.2];exact h.iR⟩
 ·rcases e with e|e
  ·have:=h.low sb ⟨by rw[h.fJ];decide,by rw[h.fJ];decide⟩;omega
  have:=h.low k ⟨by omega,by omega⟩;omega
 ·rw[nT s o k l hoq]at hx;by_cases MP:k=o
  ·rw[if_pos MP]at hx;exact hc x hx
  rw[if_neg MP]at hx;exact h.ok.qc k x hx
 ·rw[nT s o k l hoq];split
  ·exact adl
  exact h.ok.ql k
 rw[nT s o k l hoq,D6 qs o k u (by rw[h.lq];exact ho)];by_cases MP:k=o
 ·subst MP;rw[if_pos rfl,if_pos rfl];exact hq
 rw[if_neg MP,if_neg MP];exact (h.dX k hk).ej ht he fun g _ hg=>ne g _ hg (by omega) (by omega)
end
def l6 (t:eA):Value:=.agg #[.int .i64 t.dF,.int .i64 t.ei,.int .i64 t.eS]
theorem right_eq (t:eA):dI.ku t=(decide (1<=t.ei)&&decide (t.ei<=t.dF)&&decide (t.dF<=274877906944)&&decide (0<=t.eS)&&decide (t.eS<=500)):=by
 unfold dI.ku eG;simp only[Bool.and_assoc]
theorem D7 (t:eA) (w:World):Calls Tryz.prog 53 #[l6 t] w fun e w'=>e=.returned (.bool (dI.ku t))/\Below w.heap.size w w':=by
 rw[right_eq];obtain⟨tob,tv,td⟩:=t;unfold l6;dsimp only;obtain⟨b1,h1⟩:∃b1,b1=decide (1<=tv):=⟨_,rfl⟩;obtain⟨b2,h2⟩:∃b2,b2=decide (tv<=tob):=⟨_,rfl⟩;obtain⟨b3,h3⟩:∃b3,b3=decide (tob<=274877906944):=⟨_,rfl⟩;obtain⟨b4,h4⟩:∃b4,b4=decide (0<=td):=⟨_,rfl⟩;obtain⟨b5,h5⟩:∃b5,b5=decide (td<=500):=⟨_,rfl⟩;rw[<- h1,<- h2,<- h3,<- h4,<- h5];have e1:=h1.symm;have e2:=h2.symm;have e3:=h3.symm;have e4:=h4.symm;have e5:=h5.symm;clear h1 h2 h3 h4 h5
 cases b1 with
 |false =>
  (go_enter Tryz.func53,Tryz.ntmps53);go_wp2;go_ret;exact⟨rfl,(Below.refl _ _).alloc (aq _) _⟩
 |true =>
  cases b2 with
  |false =>
   (go_enter Tryz.func53,Tryz.ntmps53);go_wp2;go_ret;exact⟨rfl,(Below.refl _ _).alloc (aq _) _⟩
  |true =>
   cases b3 with
   |false =>
    (go_enter Tryz.func53,Tryz.ntmps53);go_wp2;go_ret;exact⟨rfl,(Below.refl _ _).alloc (aq _) _⟩
   |true =>
    cases b4 with
    |false =>
     (go_enter Tryz.func53,Tryz.ntmps53);go_wp2;go_ret;exact⟨rfl,(Below.refl _ _).alloc (aq _) _⟩
    |true =>
     cases b5
     all_goals
      (go_enter Tryz.func53,Tryz.ntmps53);go_wp2;go_ret;exact⟨rfl,(Below.refl _ _).alloc (aq _) _⟩
section
variable {P:Lib.PrintTabs} {own:Nat->Nat} {w0:World} {sb db wb dm tb tm:Nat} {v:Value} {ps:List ByteArray} {qs:List Value} {d:dW} {s:dC}
theorem D8 (w:World) (n:Int) (h:eh P own w0 w sb db wb dm tb tm v ps qs d s) :
 Calls Tryz.prog 117 #[.pointer (some ⟨sb,0,none⟩),.int .i64 n] w fun e w'=>e=.returned (.tuple #[])/\eh P own w0 w' sb db wb dm tb tm v ps qs d {s with fa:=n}/\dD (fun g=>g=sb) w w':=by
 have c5:=h.gQ 5 _ rfl
 have f5:=h.s_.frozen 33
 have H:=Hd h
 have HT:Hy (∀x,dD (fun g=>g=sb) w (w.setCell ⟨sb,33,none⟩ x)):=Hd fun x=>fp (dD.refl _ _) 33 _
 clear h
 go_enter Tryz.func117,Tryz.ntmps117
 go_wp2
 go_end0
 exact⟨rfl,H.o.DL _,HT.o _⟩
def xq (x:fE):Value:=.agg #[.string ⟨x.data.toArray⟩,.int .i64 x.dY]
end
theorem eE.block {B:Nat} {w:World} {v:Value} {l:List dH} (h:eE B w v l):∀k,v.ownBlock=some k->B<=k:=by
 rcases h.2 with⟨e,-⟩|⟨g,cap,cur,e,hb,-⟩
 ·intro k hk;rw[e]at hk;cases hk
 intro k hk;rw[e]at hk;cases hk;exact hb
theorem eE.ej {B:Nat} {w w':World} {v:Value} {l:List dH} {S:Nat->Prop} (h:eE B w v l) (ht:dD S w w') (hs:∀g,v.ownBlock=some g->¬S g):eE B w' v l:=
 mZ h fun g hg=>ht.block g (h.lt g hg).2 (hs g hg)
theorem pj {o:Oper} {rest:List Oper} {ops:Array Oper} {a:Act} {w:World} {Q:Exit->Act->World->Prop} (hg:o.guard=none) (x y:Operand) {B B':Nat} (hB:B<=w.heap.size) (v u:Value) (l n:List dH) (ho:o.op=.call {callee:=.builtin .append,args:=#[x,y],argTypes:=#[183,183]}) (hx:a.eval x=v) (hy:a.eval y=u)
 (hl:eE B w v l) (hn:eE B' w u n) (Km:n≠[]) (Rc:l.length+n.length<=1000000)
 (h:∀v' w',eE B w' v' (l++n)->w.grownBy w' v.ownBlock->(∀g,v'.ownBlock=some g->v.ownBlock=some g\/g=w.heap.size)->wpList Tryz.prog ops Q rest (a.put o.dst v') w'):wpList Tryz.prog ops Q (o::rest) a w:=
 wpList_plain hg fun _ hK=>xi x y hB v u l n ho hx hy hl hn Km Rc _ rfl fun v' w' h1 h2 h3=>hK _ _ (h v' w' h1 h2 h3)
section
variable {P:Lib.PrintTabs} {own own1 own2:Nat->Nat} {w0 w wr w':World} {sb db wb dm tb tm:Nat} {v v2:Value} {ps QN:List ByteArray} {qs qs2:List Value} {d d2:dW} {s s2:dC} {S:Nat->Prop}
structure GM (P:Lib.PrintTabs) (own own1:Nat->Nat) (w0 w wr:World) (sb db wb dm tb tm:Nat) (v:Value) (ps:List ByteArray) (qs:List Value) (d:dW) (s:dC) (q:Value) (out:List dH) (uh:Value) (hs:List Int):Prop where
 mM:w0.heap.size<=w.heap.size
 ext:Ext w own own1
 dR:eh P own1 w0 wr sb db wb dm tb tm v ps qs d s
 msgs:eE w.heap.size wr q out
 om:∀g,q.ownBlock=some g->own1 g=0
 box:Has wr w.heap.size (.cells #[.pointer (some ⟨sb,0,none⟩)] 65)
 ob:own1 w.heap.size=0
 er:dD (ey own) w wr
 row:wr.ownsRow w.heap.size 3 1 uh hs.length (hs.map (Value.int .i64))
 oh:∀g,uh.ownBlock=some g->own1 g=0
 apart:∀g,q.ownBlock=some g->uh.ownBlock=some g->False
 pT:q.ownBlock≠some w.heap.size
variable {q q' uh uh':Value} {out:List dH} {hs R7:List Int}
theorem GM.bound (h:GM P own own1 w0 w wr sb db wb dm tb tm v ps qs d s q out uh hs) (hS:∀g,g<wr.heap.size->S g->ey own1 g\/w.heap.size<=g):∀k,k<w.heap.size->S k->ey own k:=fun k hk hSk=>by
 rcases hS k (ay hk h.er.size) hSk with h1|h1
 ·unfold ey at h1⊢;rwa [h.ext k hk]at h1
 omega
theorem GM.xr (h:GM P own own1 w0 w wr sb db wb dm tb tm v ps qs d s q out uh hs):∀g,uh.ownBlock=some g->g<wr.heap.size:=fun g hg=>by
 rcases h.row.2 with⟨e,-⟩|⟨g',cap,cur,e,-,h2,-⟩
 ·rw[e]at hg;cases hg
 rw[e]at hg;cases hg;exact Has.lt (w:=wr) h2
theorem GM.step (h:GM P own own1 w0 w wr sb db wb dm tb tm v ps qs d s q out uh hs) (ht:dD S wr w') (hS:∀g,g<wr.heap.size->S g->ey own1 g) (he:Ext wr own1 own2) (hw:eh P own2 w0 w' sb db wb dm tb tm v2 QN qs2 d2 s2):GM P own own2 w0 w w' sb db wb dm tb tm v2 QN qs2 d2 s2 q out uh hs:=by
 (have no:∀g,g<wr.heap.size->own1 g=0->¬S g:=fun g hg h0 hs=>by have:=hS g hg hs;unfold ey at this;omega);have hlm:∀g,q.ownBlock=some g->g<wr.heap.size:=fun g hg=>(h.msgs.lt g hg).2;have hlh:=h.xr;exact⟨h.mM,fun k hk=>(he k (ay hk h.er.size)).trans (h.ext k hk),hw,h.msgs.ej ht fun g hg=>no g (hlm g hg) (h.om g hg),fun g hg=>(he g (hlm g hg)).trans (h.om g hg),ht.has h.box (no _ h.box.lt h.ob),(he _ h.box.lt).trans h.ob,h.er.trans ht (h.bound fun g hg hs=>.inl (hS g hg hs)),mZ h.row fun g hg=>ht.block g (hlh g hg) (no g (hlh g hg) (h.oh g hg)),fun g hg=>(he g (hlh g hg)).trans (h.oh g hg),h.apart,h.pT⟩
theorem GM.below (h:GM P own own1 w0 w wr sb db wb dm tb tm v ps qs d s q out uh hs) (hb:Below wr.heap.size wr w'):GM P own own1 w0 w w' sb db wb dm tb tm v ps qs d s q out uh hs:=
 h.step (S:=fun _=>False) (dD.fw hb (aq _)) (fun _ _ h=>h.elim) (Ext.refl _ _) (h.dR.below hb)
theorem GM.drew (h:GM P own own1 w0 w wr sb db wb dm tb tm v ps qs d s q out uh hs):GM P own own1 w0 w wr.drew sb db wb dm tb tm v ps qs d s q out uh hs:=h.below (Below.refl _ _).drew
theorem GM.drewN (h:GM P own own1 w0 w wr sb db wb dm tb tm v ps qs d s q out uh hs) (n:Nat):GM P own own1 w0 w (wr.drewN n) sb db wb dm tb tm v ps qs d s q out uh hs:=h.below (below_drewN (Below.refl _ _) n)
theorem GM.append {n:List dH} (h:GM P own own1 w0 w wr sb db wb dm tb tm v ps qs d s q out uh hs) (hm:eE w.heap.size w' q' (out++n)) (hg:wr.grownBy w' q.ownBlock) (hq:∀g,q'.ownBlock=some g->q.ownBlock=some g\/g=wr.heap.size):GM P own own1 w0 w w' sb db wb dm tb tm v ps qs d s q' (out++n) uh hs:=by
 have ht:dD (fun g=>q.ownBlock=some g) wr w':=⟨hg.os,hg.tape,hg.output,hg.size,fun k hk hn=>hg.block k hk (fun e=>hn e.symm)⟩;have hlh:=h.xr;have QO:=h.box.lt;refine⟨h.mM,h.ext,h.dR.nf ht fun g _ hg=>⟨h.om g hg,az h.mM (h.msgs.block g hg)⟩,hm,fun g hg=>?_,ht.has h.box fun e=>h.pT e,h.ob,h.er.trans ht fun k hk Mm=>?_,mZ h.row fun g hg=>ht.block g (hlh g hg) fun e=>h.apart g e hg,h.oh,fun g h1 h2=>?_,fun e=>?_⟩
 ·rcases hq g hg with h1|h1
  ·exact h.om g h1
  exact h.dR.fr g (by omega)
 ·have:=h.msgs.block k Mm;omega
 ·have h3:=hlh g h2;rcases hq g h1 with h4|h4
  ·exact h.apart g h4 h2
  omega
 rcases hq _ e with h4|h4
 ·exact h.pT h4
 omega
theorem GM.hold (h:GM P own own1 w0 w wr sb db wb dm tb tm v ps qs d s q out uh hs) (hb:Below wr.heap.size wr w') (hr:w'.ownsRow wr.heap.size 3 1 uh' R7.length (R7.map (Value.int .i64))):GM P own own1 w0 w w' sb db wb dm tb tm v ps qs d s q out uh' R7:=by
 have h1:=h.below hb;have hge:=jF hr
 exact⟨h1.mM,h1.ext,h1.dR,h1.msgs,h1.om,h1.box,h1.ob,h1.er,kO hr h.er.size,fun g hg=>h.dR.fr g (hge g hg),fun g h2 h3=>by
  have h4:=(h.msgs.lt g h2).2;have h5:=hge g h3
  omega,h1.pT⟩
theorem GM.free (h:GM P own own1 w0 w wr sb db wb dm tb tm v ps qs d s q out uh hs):GM P own own1 w0 w wr sb db wb dm tb tm v ps qs d s q out (.slice none 0 0) []:=
 ⟨h.mM,h.ext,h.dR,h.msgs,h.om,h.box,h.ob,h.er,World.ownsRow_nil wr _ _ 1,fun g hg=>(by cases hg),fun g _ hg=>(by cases hg),h.pT⟩
theorem GM.start (h:eh P own w0 w sb db wb dm tb tm v ps qs d s):GM P own own w0 w (w.alloc (.cells #[.pointer (some ⟨sb,0,none⟩)] 65)) sb db wb dm tb tm v ps qs d s (.slice none 0 0) [] (.slice none 0 0) []:=by
 have hb:=(Below.refl w.heap.size w).alloc (aq _) (.cells #[.pointer (some ⟨sb,0,none⟩)] 65);exact⟨h.le,Ext.refl _ _,h.below hb,eE.nil _ _,fun g hg=>(by cases hg),Has.new w _,h.fr _ (aq _),dD.fw hb (aq _),World.ownsRow_nil _ _ _ 1,fun g hg=>(by cases hg),fun g hg=>(by cases hg),fun e=>(by cases e)⟩
def qZ (P:Lib.PrintTabs) (own:Nat->Nat) (w0 w:World) (sb db wb dm tb tm:Nat) (qs:List Value) (d:dW) (s:dC) (r:Rec) (w':World):Prop:=
 ∃own2 v2 QN,Ext w own own2/\dD (fun g=>g=wb\/g=db\/own g=2) w w'/\eh P own2 w0 w' sb db wb dm tb tm v2 QN qs (d.add s.dU r).2.1 {s with dU:=(d.add s.dU r).2.2}
theorem D9 (d:dW) (dU:Bool) (r:Rec):∀x∈(d.add dU r).2.1.dK,x∈d.dK\/x=r:=by
 intro x hx;unfold dW.add at hx;split at hx
 ·exact .inl hx
 split at hx
 ·exact .inl hx
 split at hx
 ·exact .inl hx
 split at hx
 ·exact .inl hx
 rcases aO.1 hx with h|h
 ·exact .inl h
 exact .inr (aH.1 h)
theorem xu (w:World) (r:Rec) (fa:Int) (hr:r.data.length<=20) (hc:0<=r.dL/\r.dL<4) (h:eh P own w0 w sb db wb dm tb tm v ps qs d s) (hd:s.dU=false) :
 Calls Tryz.prog 58 #[.pointer (some ⟨wb,0,none⟩),ke r,.int .i64 fa] w fun e w'=>e=.returned (fx (d.add s.dU r).1)/\qZ P own w0 w sb db wb dm tb tm qs d s r w':=by
 have hw:=h.dZ;rw[hd]at hw;(have Km:wb≠db:=fun e=>by have h1:=h.dZ.ow;rw[e,h.gq]at h1;cases h1);unfold qZ;rw[hd];refine (Dx P own 2 w0.heap.size w wb db v ps d r (by omega) fa h.hO hw h.hZ h.jf (by rw[h.gq];decide) Km).mono ?_;rintro e w' ⟨rfl,own1,v2,QN,he,ht,Nh,hd2,TU⟩;refine⟨rfl,ki own1 w',v2,QN,ph he ht.size,ht,?_⟩;have hcx:=ph he ht.size
 have ne:∀g k,own g=k->k≠1->k≠2->k≠3->¬(g=wb\/g=db\/own g=2):=fun g k hk h1 h2 h3 e=>by
  rcases e with e|e|e
  ·rw[e,h.dZ.ow]at hk;exact h3 hk.symm
  ·rw[e,h.gq]at hk;exact h1 hk.symm
  rw[e]at hk;exact h2 hk.symm
 have Ly:∀g,ey (ki own1 w') g->w0.heap.size<=g:=fun g hg=>by
  rcases aW g w.heap.size with hg'|hg'
  ·unfold ey at hg;rw[hcx g hg']at hg;exact h.low g hg
  exact az h.le hg'
 have Tk:=h.dZ.w_.lt;refine⟨h.jT,h.kh,h.fF.trans (ht.lU h.le fun k hk e=>?_),Ly,qY _ _,⟨Nh.w_,⟨Nh.row.1,fun g hg=>?_⟩,by rw[hcx _ Tk];exact h.dZ.ow,fun g hg=>Ly g ⟨by omega,by omega⟩,Nh.lw⟩,hd2,TU,by rw[hcx _ h.hZ.lt];exact h.gq,ht.has h.s_ (ne _ 4 h.fJ (by decide) (by decide) (by decide)),by rw[hcx _ h.s_.lt];exact h.fJ,⟨h.nv,h.nq,h.ok.qc,h.ok.dk,fun x hx=>?_,h.ok.ql⟩,h.lq,fun o ho=>(h.dX o ho).ej ht hcx fun k _ hk=>ne k (10+o) hk (by omega) (by omega) (by omega),h.done.er ht (ne _ 5 h.ix (by decide) (by decide) (by decide)),by rw[hcx _ h.done.lt];exact h.ix,h.eo.er ht (ne _ 6 h.iQ (by decide) (by decide) (by decide)) (ne _ 7 h.iR (by decide) (by decide) (by decide)),by rw[hcx _ h.eo.lt.1];exact h.iQ,by rw[hcx _ h.eo.lt.2];exact h.iR⟩
 ·rcases e with e|e|e
  ·have:=h.low wb ⟨by rw[h.dZ.ow];decide,by rw[h.dZ.ow];decide⟩;omega
  ·have:=h.low db ⟨by rw[h.gq];decide,by rw[h.gq];decide⟩;omega
  have:=h.low k ⟨by omega,by omega⟩;omega
 ·rw[nR (Nh.row.lt g hg)];exact Nh.row.2 g hg
 rcases D9 d false r x hx with h1|rfl
 ·exact h.ok.rc x h1
 exact hc
theorem Ea (n:Int) (w:World) (hg:Handle w):Calls Tryz.prog 26 #[fx n] w fun e w'=>e=.returned (.int .i64 n)/\Below w.heap.size w w':=by
 by_cases h:n=0
 ·rw[h,kx];refine (Bn w).mono ?_;rintro e w' ⟨rfl,rfl⟩;exact⟨rfl,Below.refl _ _⟩
 rw[iE h];exact uX n w hg
theorem Eb (w:World) (c:Int) (h:eh P own w0 w sb db wb dm tb tm v ps qs d s) :
 Calls Tryz.prog 202 #[.pointer (some ⟨tb,0,none⟩),.int .i64 c] w fun e w'=>∃u,e=.returned u/\eh P own w0 w' sb db wb dm tb tm v ps qs d {s with eo:=(s.eo.flush c).2}/\dD (fun g=>g=tb\/g=tm) w w':=by
 refine (Cp c h.eo).mono ?_;rintro e w' ⟨rfl,hT,ht⟩;exact⟨_,rfl,h.setTable ht _ hT,ht⟩
theorem eh.tr (h:eh P own w0 w sb db wb dm tb tm v ps qs d s):∀g,g<w.heap.size->(g=tb\/g=tm)->ey own g:=fun g _ e=>by
 unfold ey;rcases e with rfl|rfl
 ·rw[h.iQ];decide
 rw[h.iR];decide
theorem eh.tw (h:eh P own w0 w sb db wb dm tb tm v ps qs d s):∀g,g<w.heap.size->(g=sb\/g=dm)->ey own g:=fun g _ e=>by
 unfold ey;rcases e with rfl|rfl
 ·rw[h.fJ];decide
 rw[h.ix];decide
theorem eh.xw (h:eh P own w0 w sb db wb dm tb tm v ps qs d s):∀g,g<w.heap.size->(g=wb\/g=db\/own g=2)->ey own g:=fun g _ e=>by
 unfold ey;rcases e with rfl|rfl|e
 ·rw[h.dZ.ow];decide
 ·rw[h.gq];decide
 rw[e];decide
theorem q9 (t:eY) (o dE:Int):(t.gr o dE).length<=4:=by
 unfold eY.gr;exact az (di _ _) (by decide)
end
section
variable {P:Lib.PrintTabs} {own:Nat->Nat} {w0:World} {sb db wb dm tb tm:Nat} {v:Value} {ps:List ByteArray} {qs:List Value} {d:dW} {s:dC}
theorem eight {qs:List Value} (h:qs.length=8):∃a b c d e f g i,qs=[a,b,c,d,e,f,g,i]:=by
 match qs,h with
 | [a,b,c,d,e,f,g,i],_=>exact⟨a,b,c,d,e,f,g,i,rfl⟩
theorem xx (q0 q1 q2 q3 q4 q5 q6 q7:Value) (w:World):∀(k:Nat),k<8->(Instr.index 101 (.agg #[q0,q1,q2,q3,q4,q5,q6,q7]) (.int .i64 k)).run Tryz.prog w=.ok ([q0,q1,q2,q3,q4,q5,q6,q7].getD k undef) w
 |0,_=>by kernel_rfl
 |1,_=>by kernel_rfl
 |2,_=>by kernel_rfl
 |3,_=>by kernel_rfl
 |4,_=>by kernel_rfl
 |5,_=>by kernel_rfl
 |6,_=>by kernel_rfl
 |7,_=>by kernel_rfl
theorem Ec (w:World) (m:dH) (RL:0<=m.dL/\m.dL<4) (h:eh P own w0 w sb db wb dm tb tm v ps qs d s) :
 Calls Tryz.prog 161 #[.pointer (some ⟨sb,0,none⟩),m.val] w fun e w'=>∃u,e=.returned u/\eE w.heap.size w' u (s.iq m).1/\eh P own w0 w' sb db wb dm tb tm v ps qs d (s.iq m).2/\dD (fun g=>g=tb\/g=tm) w w':=by
 obtain⟨mk,mc,mn,me,ms,mo,mv,ml,md⟩:=m;dsimp only at RL;obtain⟨W1,Kh⟩:∃W1,W1=w.alloc (.cells (gE mk mc mn me ms mo mv ml ⟨md.toArray⟩) 109):=⟨_,rfl⟩;(have Kd:Below w.heap.size w W1:=by rw[Kh];exact (Below.refl _ _).alloc (aq _) _);have KS:Hy (Has W1 w.heap.size (.cells (gE mk mc mn me ms mo mv ml ⟨md.toArray⟩) 109)):=Hd (by rw[Kh];exact Has.new w _);have H:=Hd h;have H1:=Hd (h.below Kd);have Ki:=Hd Kd;have OI:=Hd (tn W1 ⟨mk,mc,mn,me,ms,mo,mv,ml,md⟩ H1.o);unfold dH.val at OI⊢;dsimp only at OI⊢;clear h Kd
 cases OE:s.jl ⟨mk,mc,mn,me,ms,mo,mv,ml,md⟩with
 |false =>
  as_aux_lemma =>
   rw[OE]at OI;have Ll:Hy (s.iq ⟨mk,mc,mn,me,ms,mo,mv,ml,md⟩=([s.jz mc],s)):=Hd (by unfold dC.iq;rw[OE];rfl);(go_enter Tryz.func161,Tryz.ntmps161);(go_upto_region 1 with fail);rw[<- Kh];clear Kh
   go_wp2_with (first
    |(refine wpList_load_row rfl 109 (.tmp 3) rfl w.heap.size rfl 109 _ (0,0) _ KS.o Tryz.underlying109 rfl (by kernel_rfl) ?_)
    |(go_at_call 185;refine OI.o.mono ?_;rintro e W2 ⟨rfl,Ke⟩;have H2:=Hd (H1.o.below Ke);have Kn:=Hd (Ki.o.trans (Ke.mono Ki.o.size));have z1:W2.cell? ⟨w.heap.size,1,none⟩=some (.int .i64 mc):=(KS.o.below Ke KS.o.lt).cell 1)
    |(go_at_call 186;refine (wY _ mc H2.o).mono ?_;rintro e W3 ⟨rfl,Kk⟩)
    |(refine kU rfl (.tmp 17) (s.jz mc) rfl rfl ?_))
   go_ret;rw[Ll.o];have L0:=Kk.alloc Kk.size (.cells (([s.jz mc]:List dH).flatMap fT).toArray 109);exact⟨_,rfl,(eE.new (w:=W3) (l:=[s.jz mc]) (by simp)).base (by have:=Kn.o.size;have:=Kk.size;omega),H2.o.below L0,dD.fw (Kn.o.trans (L0.mono Kn.o.size)) (aq _)⟩
 |true =>
  rw[OE]at OI;(go_enter Tryz.func161,Tryz.ntmps161);(go_upto_region 1 with fail);rw[<- Kh];clear Kh;obtain⟨q0,q1,q2,q3,q4,q5,q6,q7,RE⟩:=eight H1.o.lq;subst RE
  go_wp2_with (first
   |(refine wpList_load_row rfl 109 (.tmp 3) rfl w.heap.size rfl 109 _ (0,0) _ KS.o Tryz.underlying109 rfl (by kernel_rfl) ?_)
   |(go_at_call 185;refine OI.o.mono ?_;rintro e W2 ⟨rfl,Ke⟩;have H2:=Hd (H1.o.below Ke);have a0:W2.cell? ⟨sb,20,none⟩=some q0:=H2.o.ik 0 (by decide);have a1:W2.cell? ⟨sb,21,none⟩=some q1:=H2.o.ik 1 (by decide);have a2:W2.cell? ⟨sb,22,none⟩=some q2:=H2.o.ik 2 (by decide);have a3:W2.cell? ⟨sb,23,none⟩=some q3:=H2.o.ik 3 (by decide);have a4:W2.cell? ⟨sb,24,none⟩=some q4:=H2.o.ik 4 (by decide);have a5:W2.cell? ⟨sb,25,none⟩=some q5:=H2.o.ik 5 (by decide);have a6:W2.cell? ⟨sb,26,none⟩=some q6:=H2.o.ik 6 (by decide);have a7:W2.cell? ⟨sb,27,none⟩=some q7:=H2.o.ik 7 (by decide)))
  have Kn:=Hd (Ki.o.trans (Ke.mono Ki.o.size));have KV:=Hd (KS.o.below Ke KS.o.lt);clear a0 a1 a2 a3 a4 a5 a6 a7 Ke KS H1 Ki OI;(go_loopw [23,5,6,7] (fun q23 q5 _ _ wr=>∃k:Nat,k<=8/\q23=.int .i64 k/\eE W2.heap.size wr q5 (((List.range k).filter fun j=>!(s.dX j).isEmpty&&(s.eo.gr j s.dE).contains mc).map fun j=>s.gv mc j)/\Below W2.heap.size W2 wr) (fun q23 _ _ _ _=>8-(intOf q23).toNat));case atStart=>exact⟨0,by omega,rfl,eE.nil _ _,Below.refl _ _⟩
  case round =>
   obtain⟨k,hk,rfl,hM,hb⟩:=hrel;have HM:=Hd hM;have HB:=Hd hb;clear hM hb;by_cases PT:k<8
   ·(have R6:(k:Int)<8:=by omega);have Y6:=xx q0 q1 q2 q3 q4 q5 q6 q7 wr k PT;obtain⟨qa,qc,hq,-,-⟩:=(H2.o.dX k PT).slice;rw[hq]at Y6
    have HF:Hy (((List.range (k+1)).filter fun j=>!(s.dX j).isEmpty&&(s.eo.gr j s.dE).contains mc).map (fun j=>s.gv mc j)=(((List.range k).filter fun j=>!(s.dX j).isEmpty&&(s.eo.gr j s.dE).contains mc).map fun j=>s.gv mc j)++if !(s.dX k).isEmpty&&(s.eo.gr k s.dE).contains mc then [s.gv mc k] else []):=Hd (by
     rw[List.range_succ,List.filter_append,bN];congr 1;simp only[List.filter_cons,List.filter_nil]
     split<;>rfl)
    go_upto_region 7 with fail
    cases Na:(s.dX k).isEmpty with
    |true =>
     (have e0:decide ((0:Int)<((s.dX k).length:Int))=false:=by rw[cR.1 Na];rfl);rw[Na]at HF
     as_aux_lemma =>
      (have e00:((s.dX k).length:Int)=0:=by rw[cR.1 Na];rfl);clear Y6 hq Na;(go_quiet (fail));(go_wp2_with fail);go_roundw
      case rel =>
       refine⟨k+1,by omega,by go_num,?_,below_drewN HB.o nq⟩;rw[HF.o];simp only[dh,dA,bK,if_false,cw];exact HM.o.below (below_drewN (Below.refl _ _) nq)
      case measure=>simp[intOf];omega
    |false =>
     have e0:(0:Int)<((s.dX k).length:Int):=by
      (have:(s.dX k).length≠0:=fun e=>by rw[aP e]at Na;cases Na);omega
     obtain⟨n,hn⟩:∃n,n=(s.dX k).length:=⟨_,rfl⟩;rw[<- hn]at e0⊢;clear hn;have e0':decide ((0:Int)<(n:Int))=true:=decide_eq_true e0;rw[Na]at HF;have hr:=H2.o.below HB.o;have Qf:wr.cell? ⟨sb,29,none⟩=some (.pointer (some ⟨tb,0,none⟩)):=hr.gQ 1 _ rfl;have Re:wr.cell? ⟨sb,32,none⟩=some (.int .i64 s.dE):=hr.gQ 4 _ rfl;have P7:=KV.o.below HB.o KV.o.lt;have z1:wr.cell? ⟨w.heap.size,1,none⟩=some (.int .i64 mc):=P7.cell 1;have Kg:sb<wr.heap.size:=hr.s_.lt;have LK:w.heap.size<wr.heap.size:=P7.lt;have HH:=Hd (vI k s.dE hr.eo.drew);have HR:=Hd hr;obtain⟨hs,VX⟩:∃hs,hs=s.eo.gr k s.dE:=⟨_,rfl⟩;(have hhl:hs.length<=1000:=by rw[VX];exact az (di _ _) (by decide));rw[<- VX]at HH HF;obtain⟨cc,KC⟩:∃cc,cc=hs.contains mc:=⟨_,rfl⟩;rw[<- KC]at HF;have HCC:=Hd KC;clear Y6 hq Na hr P7 VX KC;(have en:0<n:=by omega);refine last.fS (fun W=>W.cell? ⟨sb,29,none⟩=some (.pointer (some ⟨tb,0,none⟩))/\W.cell? ⟨sb,32,none⟩=some (.int .i64 s.dE)/\W.cell? ⟨w.heap.size,1,none⟩=some (.int .i64 mc)) 1000 18 ⟨Qf,Re,z1⟩ fun HS=>?_;refine last.many [(0,27,_),(1,28,_),(2,29,_),(3,30,_),(4,31,_),(5,32,_),(6,33,_),(7,34,_),(8,35,_),(9,36,_),(10,37,_),(11,38,_),(12,39,_),(14,41,_),(15,42,_)] HS.o ?_ (hy:=fun W' Kc=>by have e9:=en;have e1:=Kc.1;have f0:=Kc.2.1;have f1:=Kc.2.2;repeat (first|exact .z|refine .s ?_|refine .k ?_));refine last.one 13 fun K hK=>?_;go_simp;refine HH.o.mono ?_;rintro e w5 ⟨uh,rfl,Y7,OY⟩;have Kl:Hy ((fun W=>W.cell? ⟨sb,29,none⟩=some (.pointer (some ⟨tb,0,none⟩))/\W.cell? ⟨sb,32,none⟩=some (.int .i64 s.dE)/\W.cell? ⟨w.heap.size,1,none⟩=some (.int .i64 mc)) w5):=Hd ⟨(OY.cell (p:=⟨sb,29,none⟩) Kg).trans HS.o.1,(OY.cell (p:=⟨sb,32,none⟩) Kg).trans HS.o.2.1,(OY.cell (p:=⟨w.heap.size,1,none⟩) LK).trans HS.o.2.2⟩;refine hK.out _ _ (fun _=>Kl.o) ?_;clear hK K HS;refine last.one 16 fun K hK=>?_;go_simp;refine (D5 _ _ _ hs hhl mc Y7).mono ?_;rw[<- HCC.o];rintro e w6 ⟨rfl,rfl⟩;refine hK.out _ _ (fun _=>Kl.o) ?_;clear hK K;refine last.many [(17,44,_)] Kl.o ?_;refine last.done ?_;have OX:=Hd ((HR.o.below (Below.refl _ _).drew).below OY);have L1:=Hd (HB.o.drew.trans (OY.mono HB.o.size));have HM5:=Hd ((HM.o.below (Below.refl _ wr).drew).below OY);have z5:w5.cell? ⟨w.heap.size,1,none⟩=some (.int .i64 mc):=Kl.o.2.2;clear HR HB HM HH HCC OY Qf Re z1 Kl Y7 hhl
     cases cc with
     |false =>
      as_aux_lemma =>
       (go_wp2_with fail);go_roundw
       case rel =>
        refine⟨k+1,by omega,by go_num,?_,L1.o⟩;rw[HF.o];simp only[Bool.and_false,bK,if_false,cw];exact HM5.o
       case measure=>simp[intOf];omega
     |true =>
      have Lm:(((List.range k).filter fun j=>!(s.dX j).isEmpty&&(s.eo.gr j s.dE).contains mc).map fun j=>s.gv mc j).length<=8:=by
       rw[aS];exact az (di _ _) (by rw[List.length_range];omega)
      have KM:=Hd Lm;clear Lm
      go_wp2_with (first
       |(go_at_call 193;refine (wZ _ mc k PT OX.o).mono ?_;rintro e w6 ⟨rfl,LG⟩)
       |(refine kU rfl (.tmp 50) (s.gv mc k) rfl rfl ?_;have Lg:=Hd (L1.o.trans (LG.mono L1.o.size));have MR:=Hd (Lg.o.alloc Lg.o.size (.cells (([s.gv mc k]:List dH).flatMap fT).toArray 109));have XJ:=Hd (HM5.o.below (LG.alloc LG.size (.cells (([s.gv mc k]:List dH).flatMap fT).toArray 109)));have NK:=Hd (eE.new (w:=w6) (l:=[s.gv mc k]) (by simp));obtain⟨w7,O6⟩:∃w7,w7=w6.alloc (.cells (([s.gv mc k]:List dH).flatMap fT).toArray 109):=⟨_,rfl⟩;rw[<- O6]at MR XJ NK⊢;clear O6)
       |(refine pj rfl (.tmp 45) (.tmp 51) MR.o.size u5 (.slice (some ⟨w6.heap.size,0,none⟩) 1 1) _ [s.gv mc k] rfl rfl rfl XJ.o NK.o (by simp) (az (Nat.add_le_add KM.o (aq 1)) (by decide)) fun v' w8 RM Ow _=>?_;have Y8:=Hd RM;have Qj:=Hd (MR.o.grown Ow MR.o.size (eE.block XJ.o));clear RM Ow))
      go_roundw
      case rel =>
       refine⟨k+1,by omega,by go_num,?_,Qj.o⟩;rw[HF.o];simp only[Bool.not_false,Bool.and_self,if_true];exact Y8.o
      case measure=>simp[intOf];omega
   (obtain rfl:k=8:=by omega);have HR:=Hd (H2.o.below HB.o);have HBw:=Hd (Kn.o.trans (HB.o.mono Kn.o.size));have HXr:=Hd (KV.o.below HB.o KV.o.lt);obtain⟨L,hL⟩:∃L,L=(((List.range 8).filter fun j=>!(s.dX j).isEmpty&&(s.eo.gr j s.dE).contains mc).map fun j=>s.gv mc j):=⟨_,rfl⟩
   have Ll:Hy (s.iq ⟨mk,mc,mn,me,ms,mo,mv,ml,md⟩=if !L.isEmpty then (L,s) else ([(({s with eo:=(s.eo.ei mc (dI.jQ s.dE s.eJ.ei)).2}:dC)).eL {dI.gg with dT:=7,dL:=mc,dN:=mn}],{s with eo:=(s.eo.ei mc (dI.jQ s.dE s.eJ.ei)).2})):=Hd (by
    unfold dC.iq;rw[OE,hL]
    rfl)
   rw[<- hL]at HM;clear hL
   obtain⟨ua,uc,hu⟩:∃a c,u5=.slice a L.length c:=by
    rcases HM.o.2 with⟨e,h0⟩|⟨g,cap,cur,e,-⟩
    ·exact⟨none,0,by rw[e,h0]⟩
    exact⟨_,_,e⟩
   cases hl:L.isEmpty with
   |false =>
    have e0:0<L.length:=by
     (have:L.length≠0:=fun e=>by rw[aP e]at hl;cases hl);omega
    have e1:decide ((0:Int)<(L.length:Int))=true:=decide_eq_true (by omega);rw[hl]at Ll;subst hu
    as_aux_lemma =>
     (go_wp2_with fail);go_ret;rw[Ll.o];exact⟨_,rfl,HM.o.base Kn.o.size,HR.o,dD.fw HBw.o (aq _)⟩
   |true =>
    (have e0:L.length=0:=by rw[cR.1 hl];rfl);rw[hl]at Ll;rw[e0]at hu;subst hu;clear HM hl e0;obtain⟨tu,QM⟩:∃tu,tu=dI.jQ s.dE s.eJ.ei:=⟨_,rfl⟩;(have Ov:Hy (∀W,Calls Tryz.prog 187 #[.int .i64 s.dE,.int .i64 s.eJ.ei] W fun e w'=>∃ev,e=.returned (.tuple #[.int .i64 tu,ev])/\W=w'):=Hd fun W=>by rw[QM];exact xm _ _ W);rw[<- QM]at Ll;clear QM;have Re:wr.cell? ⟨sb,32,none⟩=some (.int .i64 s.dE):=HR.o.gQ 4 _ rfl;have c1:wr.cell? ⟨sb,1,none⟩=some (.int .i64 s.eJ.ei):=HR.o.cell0 1 _ rfl;(go_wp2_with fail);(go_region_held3 (fun W=>W.cell? ⟨sb,32,none⟩=some (.int .i64 s.dE)/\W.cell? ⟨sb,1,none⟩=some (.int .i64 s.eJ.ei)) (go_keep) ((go_at_call 187;refine (Ov.o _).mono ?_;rintro e w' ⟨ev,rfl,rfl⟩)));(go_wp2_with fail);obtain⟨W7,PQ⟩:∃W7,W7=wr.drew:=⟨_,rfl⟩;have OJ:Hy (Has W7 w.heap.size (.cells (gE mk mc mn me ms mo mv ml ⟨md.toArray⟩) 109)):=Hd (by rw[PQ];exact HXr.o.drew);have H7:Hy (eh P own w0 W7 sb db wb dm tb tm v ps [q0,q1,q2,q3,q4,q5,q6,q7] d s):=Hd (by rw[PQ];exact HR.o.below (Below.refl _ _).drew);have MR:Hy (Below w.heap.size w W7):=Hd (by rw[PQ];exact HBw.o.drew);rw[<- PQ];clear PQ HXr HR HBw HB Kn KV H2 Re c1 Ov;have Qf:W7.cell? ⟨sb,29,none⟩=some (.pointer (some ⟨tb,0,none⟩)):=H7.o.gQ 1 _ rfl;have z1:W7.cell? ⟨w.heap.size,1,none⟩=some (.int .i64 mc):=OJ.o.cell 1;have hwt:tb<w.heap.size/\tm<w.heap.size:=H.o.eo.lt;(have n2:¬(w.heap.size=tb\/w.heap.size=tm):=by omega);obtain⟨T',YY⟩:∃T':Int×eY,T'=s.eo.ei mc tu:=⟨_,rfl⟩;have HVO:=Hd (Co mc tu H7.o.eo.drew);rw[<- YY]at Ll HVO;obtain⟨ev,Lw⟩:∃ev,ev=fx T'.1:=⟨_,rfl⟩;rw[<- Lw]at HVO;clear YY Lw;have TS:sb<W7.heap.size:=H7.o.s_.lt;have O6:w.heap.size<W7.heap.size:=OJ.o.lt;have U6:sb≠tb/\sb≠tm:=⟨fun e=>(by have h1:=H7.o.fJ;rw[e,H7.o.iQ]at h1;cases h1),fun e=>(by have h1:=H7.o.fJ;rw[e,H7.o.iR]at h1;cases h1)⟩;have n1:¬(sb=tb\/sb=tm):=fun e=>e.elim U6.1 U6.2;(go_region_held3 (fun W=>W.cell? ⟨sb,29,none⟩=some (.pointer (some ⟨tb,0,none⟩))/\W.cell? ⟨w.heap.size,1,none⟩=some (.int .i64 mc)) (first|exact⟨(ht.cell (p:=⟨sb,29,none⟩) TS n1).trans Qf,(ht.cell (p:=⟨w.heap.size,1,none⟩) O6 n2).trans z1⟩|go_keep) ((go_at_call 194;refine HVO.o.mono ?_;rintro e W8 ⟨rfl,Sq,ht⟩)));have h8:=(H7.o.below (Below.refl _ _).drew).setTable ht T'.2 Sq;have K0:dD (fun g=>g=tb\/g=tm) w W8:=(dD.fw MR.o (aq _)).drew.trans ht (fun _ _ h=>h);have MS:=ht.has OJ.o.drew n2;have H8:=Hd h8;have ME:=Hd K0;have z1':W8.cell? ⟨w.heap.size,1,none⟩=some (.int .i64 mc):=MS.cell 1;have z2':W8.cell? ⟨w.heap.size,2,none⟩=some (.int .i64 mn):=MS.cell 2;clear h8 K0 MS Sq ht HVO Qf z1;obtain⟨sm,LU⟩:∃sm,sm=({s with eo:=T'.2}:dC).eL {dI.gg with dT:=7,dL:=mc,dN:=mn}:=⟨_,rfl⟩;have NL:Hy (Calls Tryz.prog 184 #[.pointer (some ⟨sb,0,none⟩),.agg #[.int .i64 7,.int .i64 mc,.int .i64 mn,.int .i64 0,.int .i64 0,.int .i64 0,.int .i64 0,.bool false,.string ⟨#[]⟩]] W8 fun e w'=>e=.returned sm.val/\Below W8.heap.size W8 w'):=Hd (by rw[LU];exact nQ W8 {dI.gg with dT:=7,dL:=mc,dN:=mn} H8.o);have VY:Hy (s.iq ⟨mk,mc,mn,me,ms,mo,mv,ml,md⟩=([sm],{s with eo:=T'.2})):=Hd (by rw[Ll.o,LU];rfl);clear LU Ll
    go_wp2_with (first
     |(refine NL.o.mono ?_;rintro e w9 ⟨rfl,Qk⟩)
     |(refine kU rfl (.tmp 85) sm rfl rfl ?_))
    go_ret;rw[VY.o];have L0:=Qk.alloc Qk.size (.cells (([sm]:List dH).flatMap fT).toArray 109);exact⟨_,rfl,(eE.new (w:=w9) (l:=[sm]) (by simp)).base (by have:=ME.o.size;have:=Qk.size;omega),H8.o.below L0,ME.o.gn L0 (aq _)⟩
end
theorem xy {n:Nat} {d:dW} {s:dC} {o:Nat} {out:List dH} (hq:s.dX o=[]):dC.jd (n+1) d s o out=(out,d,s):=by
 rw[dC.jd,hq]
theorem xz {n:Nat} {d:dW} {s:dC} {o:Nat} {out:List dH} (hd:s.dU=true):dC.jd (n+1) d s o out=(out,d,s):=by
 rw[dC.jd]
 cases s.dX o with
 |nil=>rfl
 |cons x l=>simp only[hd,if_true]
theorem rf {n:Nat} {d:dW} {s:dC} {o:Nat} {out:List dH} {x:Wr} {rest:List Wr} (hq:s.dX o=x::rest) (hd:s.dU=false) :
 dC.jd (n+1) d s o out=if (s.jA d o x rest out).1 then dC.jd n (s.jA d o x rest out).2.2.1 (s.jA d o x rest out).2.2.2 o (s.jA d o x rest out).2.1 else (s.jA d o x rest out).2:=by
 rw[dC.jd,hq];simp only[hd,bK,if_false]
def fI (s:dC) (o:Nat) (x:Wr) (rest:List Wr):dC:={s with eQ:=s.eQ.set o ({x with gC:=true}::rest)}
def told (s:dC) (o:Nat) (x:Wr) (out:List dH):List dH:=if x.gC then out else out++(s.eo.gr o s.dE).map fun c=>s.gv c o
def fV (s:dC) (o:Nat) (x:Wr):Rec:=⟨x.dL,x.dN,o,wrap64 ((s.value o).dY+1),x.data,0⟩
theorem xA {d:dW} {s:dC} {o:Nat} {x:Wr} {rest:List Wr} {out:List dH} (h:(decide (s.dE<s.quiet)||(s.eo.gr o s.dE).any fun c=>s.eo.iJ c s.dE)=true) :
 s.jA d o x rest out=(false,told s o x out,d,fI s o x rest):=by
 unfold dC.jA;dsimp only;rw[if_pos h];rfl
theorem xB {d:dW} {s:dC} {o:Nat} {x:Wr} {rest:List Wr} {out:List dH} (h:(decide (s.dE<s.quiet)||(s.eo.gr o s.dE).any fun c=>s.eo.iJ c s.dE)=false) :
 s.jA d o x rest out=dC.store d {fI s o x rest with eo:=dI.lY s.eo (s.eo.gr o s.dE)} o x rest (told s o x out):=by
 unfold dC.jA;dsimp only;rw[if_neg (by rw[h];decide)];rfl
theorem xC {d:dW} {s:dC} {o:Nat} {x:Wr} {rest:List Wr} {out:List dH} (h:(d.add s.dU (fV s o x)).1=14) :
 dC.store d s o x rest out=(false,[],(d.add s.dU (fV s o x)).2.1,{s with dU:=(d.add s.dU (fV s o x)).2.2}):=by
 unfold fV at h⊢;unfold dC.store;dsimp only at h⊢;rw[if_pos h]
theorem xD {d:dW} {s:dC} {o:Nat} {x:Wr} {rest:List Wr} {out:List dH} (h:(d.add s.dU (fV s o x)).1≠14) :
 dC.store d s o x rest out=(true,out++[(dC.answer {s with dU:=(d.add s.dU (fV s o x)).2.2} (d.add s.dU (fV s o x)).1 (fV s o x)).1.eL (dC.answer {s with dU:=(d.add s.dU (fV s o x)).2.2} (d.add s.dU (fV s o x)).1 (fV s o x)).2],(d.add s.dU (fV s o x)).2.1,
  { (dC.answer {s with dU:=(d.add s.dU (fV s o x)).2.2} (d.add s.dU (fV s o x)).1 (fV s o x)).1 with eQ:=(dC.answer {s with dU:=(d.add s.dU (fV s o x)).2.2} (d.add s.dU (fV s o x)).1 (fV s o x)).1.eQ.set o rest}):=by
 unfold fV at h⊢;unfold dC.store;dsimp only at h⊢;rw[if_neg h]
theorem Ed {s:dC} {o:Nat} {x:Wr} {rest:List Wr} (ho:o<s.eQ.length) (hq:s.dX o=x::rest) (hb:x.gC=true):fI s o x rest=s:=by
 have e:s.eQ.set o (x::rest)=s.eQ:=by
  rw[<- hq];unfold dC.dX;rw[aB,ax ho];exact List.set_getElem_self ho
 obtain⟨a,b,c,bg⟩:=x;dsimp only at hb;subst hb;unfold fI;dsimp only;rw[e]
theorem xE (s:dC) (e:Int) (r:Rec):(dC.answer s e r).1.eQ=s.eQ:=by
 unfold dC.answer;split<;>rfl
theorem xF (qs:List Value) (o:Nat) (h:o<qs.length):qs.set o (qs.getD o undef)=qs:=by
 rw[aB,ax h];exact List.set_getElem_self h
section
variable {P:Lib.PrintTabs} {own:Nat->Nat} {w0 w:World} {sb db wb dm tb tm:Nat} {v:Value} {ps:List ByteArray} {qs:List Value} {d:dW} {s:dC}
theorem eh.first (h:eh P own w0 w sb db wb dm tb tm v ps qs d s) {o:Nat} (ho:o<8) {x:Wr} {rest:List Wr} (hq:s.dX o=x::rest) :
 ∃g off cap,qs.getD o undef=.slice (some ⟨g,off,none⟩) (rest.length+1) cap/\own g=10+o/\g<w.heap.size/\1<=cap/\rest.length+1<=cap/\w.cell? ⟨g,off,none⟩=some (.int .i64 x.dL)/\w.cell? ⟨g,off+1,none⟩=some (.int .i64 x.dN)/\w.cell? ⟨g,off+2,none⟩=some (.string ⟨x.data.toArray⟩)/\w.cell? ⟨g,off+3,none⟩=some (.bool x.gC)/\w.frozen? ⟨g,off+3,none⟩=false:=by
 have hr:=h.dX o ho;rw[hq]at hr;obtain⟨g,off,cap,e,hg,hl,hc,-,hcell⟩:=fH.elem (f:=iF) (size:=4) ti hr (k:=0) (x:=x) rfl;refine⟨g,off,cap,e,hg,hl,by simp at hc;omega,by simpa using hc,?_⟩
 have hj:∀j u,(iF x)[j]?=some u->w.cell? ⟨g,off+j,none⟩=some u/\w.frozen? ⟨g,off+j,none⟩=false:=fun j u hu=>by
  have:=hcell j u hu;simpa using this
 exact⟨(hj 0 _ rfl).1,(hj 1 _ rfl).1,(hj 2 _ rfl).1,(hj 3 _ rfl).1,(hj 3 _ rfl).2⟩
theorem eh.tz (h:eh P own w0 w sb db wb dm tb tm v ps qs d s) {o:Nat} (ho:o<8) {x:Wr} {rest:List Wr} (hq:s.dX o=x::rest) {g off n cap:Nat} (he:qs.getD o undef=.slice (some ⟨g,off,none⟩) n cap) :
 own g=10+o/\g<w.heap.size/\w.cell? ⟨g,off,none⟩=some (.int .i64 x.dL)/\w.cell? ⟨g,off+1,none⟩=some (.int .i64 x.dN)/\w.cell? ⟨g,off+2,none⟩=some (.string ⟨x.data.toArray⟩)/\w.cell? ⟨g,off+3,none⟩=some (.bool x.gC)/\w.frozen? ⟨g,off+3,none⟩=false:=by
 obtain⟨g',TN,Ku,e,h1,h2,-,-,h3⟩:=h.first ho hq;rw[he]at e;simp only[Value.slice.injEq,bq,Addr.mk.injEq,and_true]at e;obtain⟨⟨rfl,rfl⟩,-⟩:=e;exact⟨h1,h2,h3⟩
theorem Ee {s:dC} {o:Nat} {x:Wr} {rest:List Wr} (ho:o<s.eQ.length):(fI s o x rest).dX o={x with gC:=true}::rest:=by
 unfold fI;rw[nT s o o _ ho,if_pos rfl]
theorem eh.gC (h:eh P own w0 w sb db wb dm tb tm v ps qs d s) {o:Nat} (ho:o<8) {x:Wr} {rest:List Wr} (hq:s.dX o=x::rest) {g off n cap:Nat} (he:qs.getD o undef=.slice (some ⟨g,off,none⟩) n cap) :
 eh P own w0 (w.setCell ⟨g,off+3,none⟩ (.bool true)) sb db wb dm tb tm v ps qs d (fI s o x rest)/\dD (fun k=>own k=10+o) w (w.setCell ⟨g,off+3,none⟩ (.bool true)):=by
 have hr:=h.dX o ho;rw[hq]at hr;obtain⟨g',TN,Ku,cur,e1,hg,hh,h1,h2,h3,h4⟩:=hr.shape (by simp);rw[he]at e1;injection e1 with e1 e2 e3;injection e1 with e1;injection e1 with e1 e4;subst e1 e4 e2 e3;have ht:dD (fun k=>own k=10+o) w (w.setCell ⟨g,off+3,none⟩ (.bool true)):=(dD.refl _ _).setCell (p:=⟨g,off+3,none⟩) (.inr hg) _;refine⟨?_,ht⟩;have hx:=h.ok.qc o;rw[hq]at hx;have Km:sb≠g:=fun e=>by have h5:=h.fJ;rw[e,hg]at h5;omega
 have key:=h.tq o ho (qs.getD o undef) ({x with gC:=true}::rest) (w':=w.setCell ⟨g,off+3,none⟩ (.bool true)) (own1:=own) (ht.mono fun _ _ h=>.inr h) (Ext.refl _ _) (fun k hk=>h.fr k (az ht.size hk)) (by
  rw[xF qs o (by rw[h.lq];exact ho)]
  exact h.s_.far (p:=⟨g,off+3,none⟩) Km _) (by
  rw[he];refine fH.mk hg (hh.eu (off+3) _) h1 (by simpa using h2) h3 ?_;have hlen:(cur.toList.drop off).length=cur.toList.length-off:=bO;rw[dp,List.drop_set,if_neg (by omega),show off+3-off=3 by omega,List.take_set,h4]
  simp[iF]) (fun y hy=>by
  rcases aM.1 hy with rfl|hy
  ·exact hx x (by simp)
  exact hx y (by simp[hy])) (by have:=h.ok.ql o;rw[hq]at this;simpa using this)
 rw[xF qs o (by rw[h.lq];exact ho)]at key;exact key
def lr (g off n cap:Nat):Value:=.slice (if cap=1 then some ⟨g,off,none⟩ else some ⟨g,off+4,none⟩) (n-1) (cap-1)
theorem fH.lr {T:Nat} {e:TypeId} {xs:List Value} {g off n cap:Nat} (h:fH own T w e 4 (.slice (some ⟨g,off,none⟩) n cap) n xs) (hn:0<n):fH own T w e 4 (dR.lr g off n cap) (n-1) (xs.drop 4):=by
 unfold dR.lr;by_cases hc:cap=1
 ·obtain⟨g',TN,Ku,cur,e1,hg,hh,h1,h2,h3,h4⟩:=h.shape hn;injection e1 with e1 e2 e3;injection e1 with e1;injection e1 with e1 e4;subst e1 e4 e3;rw[if_pos hc];(obtain rfl:n=1:=by omega);subst hc;have hl:=h.1;have e:xs.drop 4=[]:=bI (by omega);refine fH.mk hg hh (by omega) (by omega) (by omega) ?_;rw[e];simp
 rw[if_neg hc];exact h.tail hn
theorem eh.pop (h:eh P own w0 w sb db wb dm tb tm v ps qs d s) {o:Nat} (ho:o<8) {x:Wr} {rest:List Wr} (hq:s.dX o=x::rest) {g off n cap:Nat} (he:qs.getD o undef=.slice (some ⟨g,off,none⟩) n cap) :
 eh P own w0 (w.setCell ⟨sb,20+o,none⟩ (lr g off n cap)) sb db wb dm tb tm v ps (qs.set o (lr g off n cap)) d {s with eQ:=s.eQ.set o rest}/\dD (fun k=>k=sb) w (w.setCell ⟨sb,20+o,none⟩ (lr g off n cap)):=by
 have ht:dD (fun k=>k=sb) w (w.setCell ⟨sb,20+o,none⟩ (lr g off n cap)):=fp (dD.refl _ _) _ _;refine⟨?_,ht⟩;have hr:=h.dX o ho;rw[hq,he]at hr
 have MM:n=rest.length+1:=by
  rcases hr.2 with⟨e,-⟩|⟨g',TN,Ku,cur,e,-⟩
  ·cases e
  simp only[Value.slice.injEq]at e;simpa using e.2.1
 subst MM;have hx:=h.ok.qc o;rw[hq]at hx;have hl:=h.ok.ql o;rw[hq]at hl;refine h.tq o ho _ rest (ht.mono fun _ _ h=>.inl h) (Ext.refl _ _) (fun k hk=>h.fr k (az ht.size hk)) ?_ ?_ (fun y hy=>hx y (by simp[hy])) (by simp at hl;omega)
 ·have:=h.s_.eu (20+o) (lr g off (rest.length+1) cap);rw[aF,xp h.nv h.lq o ho]at this;exact this
 have h5:=(fH.lr (hr) (by simp)).ej (S:=fun k=>k=sb) ht (Ext.refl _ _) (fun k _ hk e=>by rw[e,h.fJ]at hk;omega);rw[bT]at h5;have e4:((x::rest).flatMap iF).drop 4=rest.flatMap iF:=DB ti x rest;rw[e4]at h5;exact h5
def lenOf (sb o:Nat) (W:World):Nat:=match W.cell? ⟨sb,20+o,none⟩with|some (.slice _ n _)=>n|_=>0
theorem eh.lenOf (h:eh P own w0 w sb db wb dm tb tm v ps qs d s) {o:Nat} (ho:o<8):dR.lenOf sb o w=(s.dX o).length:=by
 obtain⟨a,c,e,-⟩:=(h.dX o ho).slice;unfold dR.lenOf;rw[h.ik o ho,e]
end
end dR
namespace eZ
open Go.RowKit heap own eO fq eK dR cache
open dI (dJ gd fE eA ga ez put del)
noncomputable def iY:je Tryz.prog Int Int:=
 vp 3 3 113 Tryz.underlying3 (fun _=>by kernel_rfl) Tryz.underlying113 (Maps.int_keyed Tryz.underlying3) (Value.int .i64) (Lit.int .i64) gi (fun _ h=>Maps.keyOf_int_mk Tryz.underlying3 h)
  (fun _ _ h=>Maps.keyOf_int_inv Tryz.underlying3 h) (fun _ _ h=>by simpa using h)
def fY (x:gd):It:=⟨x.dF,x.value.data,x.value.dY,x.fO⟩
def jU (c:dJ) (cv:Value) (fm sm:Nat):Array Value:=#[.int .i64 c.id,.int .i64 c.eJ.dF,.int .i64 c.eJ.ei,.int .i64 c.eJ.eS,.int .i64 c.dN,.int .i64 c.dQ,.int .i64 c.fj,.int .i64 c.dE,.int .i64 c.ei,cv,.map (some fm),.map (some sm),.int .i64 c.call.dT,.int .i64 c.call.dF,.string ⟨c.call.value.data.toArray⟩,.int .i64 c.call.value.dY,.bool c.call.over,.bool c.call.hit,.int .i64 c.fc,.int .i64 c.fL,.int .i64 c.gh,.int .i64 c.jC]
structure eB (own:Nat->Nat) (T:Nat) (w:World) (cb fm sm:Nat) (cv:Value) (c:dJ):Prop where
 c_:Has w cb (.cells (jU c cv fm sm) 120)
 gI:own cb=T
 items:iX own (T+1) w cv (c.cache.map fY)
 ft:c.cache.length<=6
 fG:At iY w fm c.fG
 kV:own fm=T+2
 seen:At iY w sm c.seen
 kj:own sm=T+3
 fk:∀p∈c.fG,0<=p.1/\p.1<8
 sk:∀p∈c.seen,0<=p.1/\p.1<8
def fC (own:Nat->Nat) (T:Nat) (g:Nat):Prop:=T<=own g/\own g<T+4
section
variable {own own1:Nat->Nat} {T:Nat} {w w':World} {cb fm sm:Nat} {cv:Value} {c c':dJ} {S:Nat->Prop}
theorem eB.er (h:eB own T w cb fm sm cv c) (ht:dD S w w') (he:Ext w own own1) (hs:∀g,g<w.heap.size->S g->¬fC own T g):eB own1 T w' cb fm sm cv c:=by
 have nS:∀g k,g<w.heap.size->own g=T+k->k<4->¬S g:=fun g k hg hk h4 hS=>hs g hg hS ⟨by omega,by omega⟩;have h1:=h.c_.lt;have h2:=h.fG.lt;have h3:=h.seen.lt;exact⟨ht.has h.c_ (nS _ 0 h1 h.gI (by decide)),(he _ h1).trans h.gI,h.items.ej ht he fun k hk ho=>nS k 1 hk ho (by decide),h.ft,h.fG.er ht (nS _ 2 h2 h.kV (by decide)),(he _ h2).trans h.kV,h.seen.er ht (nS _ 3 h3 h.kj (by decide)),(he _ h3).trans h.kj,h.fk,h.sk⟩
theorem eB.below (h:eB own T w cb fm sm cv c) (hb:Below w.heap.size w w'):eB own T w' cb fm sm cv c:=
 h.er (S:=fun _=>False) (dD.fw hb (aq _)) (Ext.refl _ _) (fun _ _ h=>h.elim)
theorem eB.drew (h:eB own T w cb fm sm cv c):eB own T w.drew cb fm sm cv c:=h.below (Below.refl _ _).drew
theorem eB.drewN (h:eB own T w cb fm sm cv c) (n:Nat):eB own T (w.drewN n) cb fm sm cv c:=h.below (below_drewN (Below.refl _ _) n)
theorem eB.kT (h:eB own T w cb fm sm cv c) (ht:dD (fun g=>g=cb) w w') (hs:Has w' cb (.cells (jU c' cv fm sm) 120)) (e1:c'.cache=c.cache) (e2:c'.fG=c.fG) (e3:c'.seen=c.seen):eB own T w' cb fm sm cv c':=by
 (have ne:∀g k,own g=T+k->0<k->g≠cb:=fun g k hk h4 e=>by rw[e,h.gI]at hk;omega);refine⟨hs,h.gI,?_,by rw[e1];exact h.ft,by rw[e2];exact h.fG.er ht (ne _ 2 h.kV (by decide)),h.kV,by rw[e3];exact h.seen.er ht (ne _ 3 h.kj (by decide)),h.kj,by rw[e2];exact h.fk,by rw[e3];exact h.sk⟩;rw[e1];exact h.items.ej ht (Ext.refl _ _) fun k _ ho=>ne k 1 ho (by decide)
theorem eB.l8 (h:eB own T w cb fm sm cv c) (c':dJ) (i:Nat) (u:Value) (hc:(jU c cv fm sm).setIfInBounds i u=jU c' cv fm sm) (e1:c'.cache=c.cache) (e2:c'.fG=c.fG) (e3:c'.seen=c.seen):eB own T (w.setCell ⟨cb,i,none⟩ u) cb fm sm cv c':=
 h.kT (dZ.fp (dD.refl _ _) i u) (by rw[<- hc];exact h.c_.eu i u) e1 e2 e3
theorem eB.lt (h:eB own T w cb fm sm cv c):cb<w.heap.size:=h.c_.lt
theorem l9 (i:Nat) (u:Value):dD (fun g=>g=cb) w (w.setCell ⟨cb,i,none⟩ u):=dZ.fp (dD.refl _ _) i u
end
section
variable {own:Nat->Nat} {T:Nat} {cb fm sm:Nat} {cv:Value} {c:dJ}
theorem pn (w:World) (h:eB own T w cb fm sm cv c):Calls Tryz.prog 152 #[.pointer (some ⟨cb,0,none⟩)] w fun e w'=>e=.returned (.bool c.fX)/\w=w':=by
 have XV:w.cell? ⟨cb,18,none⟩=some (.int .i64 c.fc):=h.c_.cell 18;obtain⟨b,hb⟩:∃b,b=c.fX:=⟨_,rfl⟩;(have hb':(c.fc !=0)=b:=by rw[hb];unfold dJ.fX;rw[bE];simp);rw[<- hb];clear hb h;(go_enter Tryz.func152,Tryz.ntmps152);go_wp2
 all_goals
  go_ret;exact⟨rfl,rfl⟩
theorem EH (w:World) (h:eB own T w cb fm sm cv c):Calls Tryz.prog 170 #[.pointer (some ⟨cb,0,none⟩)] w fun e w'=>e=.returned (.bool c.iJ)/\∃n,w'=w.drewN n:=by
 have c7:w.cell? ⟨cb,7,none⟩=some (.int .i64 c.dE):=h.c_.cell 7;have c8:w.cell? ⟨cb,8,none⟩=some (.int .i64 c.ei):=h.c_.cell 8;clear h;unfold dJ.iJ;(go_enter Tryz.func170,Tryz.ntmps170);go_wp2;(go_quiet (fail));(go_wp2_with fail);go_ret;exact⟨rfl,nq,rfl⟩
theorem rr (w:World) (h:eB own T w cb fm sm cv c):Calls Tryz.prog 150 #[.pointer (some ⟨cb,0,none⟩)] w fun e w'=>e=.returned (.int .i64 (wrap64 (c.dN+1)))/\eB own T w' cb fm sm cv {c with dN:=wrap64 (c.dN+1)}/\dD (fun g=>g=cb) w w'/\w'.heap.size=w.heap.size:=by
 have c4:w.cell? ⟨cb,4,none⟩=some (.int .i64 c.dN):=h.c_.cell 4;have f4:=h.c_.frozen 4;obtain⟨n,hn⟩:∃n,n=wrap64 (c.dN+1):=⟨_,rfl⟩;have H:=Hd (h.l8 {c with dN:=n} 4 (.int .i64 n) rfl rfl rfl rfl);have HT:Hy (dD (fun g=>g=cb) w (w.setCell ⟨cb,4,none⟩ (.int .i64 n))):=Hd (l9 4 _);have HE:=Hd hn;rw[<- hn];clear h hn;(go_enter Tryz.func150,Tryz.ntmps150);go_wp2;rw[<- HE.o];go_ret;exact⟨rfl,H.o,HT.o,by simp[World.setCell]⟩
theorem EI (w:World) (n:Int) (h:eB own T w cb fm sm cv c):Calls Tryz.prog 118 #[.pointer (some ⟨cb,0,none⟩),.int .i64 n] w fun e w'=>e=.returned (.tuple #[])/\eB own T w' cb fm sm cv (c.at_ n)/\dD (fun g=>g=cb) w w':=by
 have c7:w.cell? ⟨cb,7,none⟩=some (.int .i64 c.dE):=h.c_.cell 7
 have f7:=h.c_.frozen 7
 have H:=Hd h
 clear h
 go_enter Tryz.func118,Tryz.ntmps118
 go_wp2
 go_end0
 exact⟨rfl,H.o.l8 (c.at_ n) 7 _ rfl rfl rfl rfl,l9 7 _⟩
theorem EJ (x y:Int) (w:World):Calls Tryz.prog 77 #[.int .i64 x,.int .i64 y] w fun e w'=>∃ev,e=.returned (.tuple #[.int .i64 (dI.short x y),ev])/\w=w':=by
 by_cases h:0<=x/\x<=500/\0<=y/\y<=1099511627776
 ·have e:dI.short x y=y*(1000-x)/(1000+x):=by
   unfold dI.short;rw[if_pos (by rw[aK,fD.iN,fD.iN,eK.mU];omega)]
  rw[e];refine (clock.xj x y w h.1 h.2.1 h.2.2.1 h.2.2.2).mono ?_;rintro e w' ⟨rfl,rfl⟩;exact⟨_,rfl,rfl⟩
 have e:dI.short x y=0:=by
  unfold dI.short;rw[if_neg (by rw[aK,fD.iN,fD.iN,eK.mU];omega)]
 rw[e];refine (clock.xk x y w h).mono ?_;rintro e w' ⟨rfl,rfl⟩;exact⟨_,rfl,rfl⟩
theorem xT (w:World) (fL term:Int) (h:eB own T w cb fm sm cv c):Calls Tryz.prog 164 #[.pointer (some ⟨cb,0,none⟩),.int .i64 fL,.int .i64 term] w fun e w'=>e=.returned (.int .i64 (c.ends fL term))/\w=w':=by
 have c3:w.cell? ⟨cb,3,none⟩=some (.int .i64 c.eJ.eS):=h.c_.cell 3;unfold dJ.ends;obtain⟨n,hn⟩:∃n,n=dI.short c.eJ.eS term:=⟨_,rfl⟩;have HS:Hy (Calls Tryz.prog 77 #[.int .i64 c.eJ.eS,.int .i64 term] w fun e w'=>∃ev,e=.returned (.tuple #[.int .i64 n,ev])/\w=w'):=Hd (by rw[hn];exact EJ _ _ w);obtain⟨z,hz⟩:∃z,z=wrap64 (fL+n):=⟨_,rfl⟩;have HZ:=Hd hz;rw[<- hn,<- hz];clear hn h hz;(go_enter Tryz.func164,Tryz.ntmps164);(go_wp2_with (go_at_call 77;refine HS.o.mono ?_;rintro e w' ⟨ev,rfl,rfl⟩));rw[<- HZ.o];go_ret;exact⟨rfl,rfl⟩
end
section
variable {own:Nat->Nat} {T:Nat} {cb fm sm:Nat} {cv:Value} {c:dJ}
theorem ru (w:World) (m:dH) (h:eB own T w cb fm sm cv c) :
 Calls Tryz.prog 151 #[.pointer (some ⟨cb,0,none⟩),m.val] w fun e w'=>e=.returned (c.eL m).val/\Below w.heap.size w w':=by
 obtain⟨mk,mc,mn,me,ms,mo,mv,ml,md⟩:=m;unfold dH.val;dsimp only;obtain⟨W1,Kh⟩:∃W1,W1=(w.alloc (.cells #[.int .i64 mk,.int .i64 mc,.int .i64 mn,.int .i64 me,.int .i64 ms,.int .i64 mo,.int .i64 mv,.bool ml,.string ⟨md.toArray⟩] 109)).alloc (.cells #[.int .i64 0,.int .i64 0,.int .i64 0,.int .i64 0,.int .i64 0,.int .i64 0,.int .i64 0,.bool false,.string ⟨#[]⟩] 109):=⟨_,rfl⟩;(have Kd:Below w.heap.size w W1:=by rw[Kh];exact ((Below.refl _ _).alloc (aq _) _).alloc (by simp) _);have Kg:=h.lt;have c0:W1.cell? ⟨cb,0,none⟩=some (.int .i64 c.id):=(h.below Kd).c_.cell 0;have c5:W1.cell? ⟨cb,5,none⟩=some (.int .i64 c.dQ):=(h.below Kd).c_.cell 5;have c6:W1.cell? ⟨cb,6,none⟩=some (.int .i64 c.fj):=(h.below Kd).c_.cell 6;(have Kf:Has W1 w.heap.size (.cells #[.int .i64 mk,.int .i64 mc,.int .i64 mn,.int .i64 me,.int .i64 ms,.int .i64 mo,.int .i64 mv,.bool ml,.string ⟨md.toArray⟩] 109):=by rw[Kh];exact (Has.new w _).alloc _);(have PN:Has W1 (w.heap.size+1) (.cells #[.int .i64 0,.int .i64 0,.int .i64 0,.int .i64 0,.int .i64 0,.int .i64 0,.int .i64 0,.bool false,.string ⟨#[]⟩] 109):=by rw[Kh,<- World.size_alloc w];exact Has.new _ _);have k1:W1.cell? ⟨w.heap.size,1,none⟩=some (.int .i64 mc):=Kf.cell 1;have k3:W1.cell? ⟨w.heap.size,3,none⟩=some (.int .i64 me):=Kf.cell 3;have k4:W1.cell? ⟨w.heap.size,4,none⟩=some (.int .i64 ms):=Kf.cell 4;have f1:W1.frozen? ⟨w.heap.size,1,none⟩=false:=Kf.frozen 1;have f3:W1.frozen? ⟨w.heap.size,3,none⟩=false:=Kf.frozen 3;have f4:W1.frozen? ⟨w.heap.size,4,none⟩=false:=Kf.frozen 4;have KS:=Hd Kf;have XW:=Hd PN;have Ki:=Hd Kd;clear h Kf PN Kd;(go_enter Tryz.func151,Tryz.ntmps151);go_wp2;rw[<- Kh];clear Kh;have Km:w.heap.size≠cb:=Nat.ne_of_gt Kg
 have fr:∀(W:World) (i:Nat) (u:Value),(W.cell? ⟨cb,0,none⟩=some (.int .i64 c.id)/\W.cell? ⟨cb,5,none⟩=some (.int .i64 c.dQ)/\W.cell? ⟨cb,6,none⟩=some (.int .i64 c.fj))->((W.setCell ⟨w.heap.size,i,none⟩ u).cell? ⟨cb,0,none⟩=some (.int .i64 c.id)/\(W.setCell ⟨w.heap.size,i,none⟩ u).cell? ⟨cb,5,none⟩=some (.int .i64 c.dQ)/\(W.setCell ⟨w.heap.size,i,none⟩ u).cell? ⟨cb,6,none⟩=some (.int .i64 c.fj)):=fun W i u hW =>
  ⟨(World.cell?_setCell_far _ _ _ _ Km).trans hW.1,(World.cell?_setCell_far _ _ _ _ Km).trans hW.2.1,(World.cell?_setCell_far _ _ _ _ Km).trans hW.2.2⟩
 have Md:=Hd fr;clear fr;(go_region_held3 (fun W=>W.cell? ⟨cb,0,none⟩=some (.int .i64 c.id)/\W.cell? ⟨cb,5,none⟩=some (.int .i64 c.dQ)/\W.cell? ⟨cb,6,none⟩=some (.int .i64 c.fj)) (first|exact Md.o _ _ _ ⟨c0,c5,c6⟩|exact Md.o _ _ _ (Md.o _ _ _ ⟨c0,c5,c6⟩)|exact Md.o _ _ _ (Md.o _ _ _ (Md.o _ _ _ ⟨c0,c5,c6⟩))|go_keep) (fail));obtain⟨W2,Kv⟩:∃W2,W2=(((W1.setCell ⟨w.heap.size,1,none⟩ (.int .i64 c.id)).setCell ⟨w.heap.size,3,none⟩ (.int .i64 c.dQ)).setCell ⟨w.heap.size,4,none⟩ (.int .i64 c.fj)).drew:=⟨_,rfl⟩;have HM:Hy (Has W2 w.heap.size (.cells #[.int .i64 mk,.int .i64 c.id,.int .i64 mn,.int .i64 c.dQ,.int .i64 c.fj,.int .i64 mo,.int .i64 mv,.bool ml,.string ⟨md.toArray⟩] 109)):=Hd (by rw[Kv];exact (((KS.o.eu 1 _).eu 3 _).eu 4 _).drew)
 have HR:Hy (Has W2 (w.heap.size+1) (.cells #[.int .i64 0,.int .i64 0,.int .i64 0,.int .i64 0,.int .i64 0,.int .i64 0,.int .i64 0,.bool false,.string ⟨#[]⟩] 109)):=Hd (by
  rw[Kv]
  exact (((XW.o.far (p:=⟨w.heap.size,1,none⟩) (by simp) _).far (p:=⟨w.heap.size,3,none⟩) (by simp) _).far (p:=⟨w.heap.size,4,none⟩) (by simp) _).drew)
 have Kn:Hy (Below w.heap.size w W2):=Hd (by rw[Kv];exact (((Ki.o.setCell (aq _) _).setCell (aq _) _).setCell (aq _) _).drew);rw[<- Kv];clear Kv Md c0 c5 c6 k1 k3 k4 f1 f3 f4 KS XW Ki
 go_wp2_with (first
  |(refine wpList_load_row rfl 109 (.tmp 3) rfl w.heap.size rfl 109 _ (0,0) _ HM.o Tryz.underlying109 rfl (by kernel_rfl) ?_)
  |(refine wpList_store_row rfl 109 (.tmp 4) (.tmp 20) rfl (w.heap.size+1) _ rfl rfl 109 _ HR.o (by kernel_rfl) (by kernel_rfl) (by kernel_rfl) ?_))
 exact bodyPost_ret (results_cell_row Tryz.results151 _ _ (w.heap.size+1) 109 _ (0,0) _ rfl (HR.o.setRow _) Tryz.underlying109 rfl (by kernel_rfl)) rfl ⟨rfl,below_setRow Kn.o (by omega) _⟩
end
section
variable {own:Nat->Nat} {T:Nat} {w wr w':World} {cb fm sm:Nat} {cv:Value} {c c':dJ} {q q':Value} {out:List dH}
structure CM (own:Nat->Nat) (T:Nat) (w wr:World) (cb fm sm:Nat) (cv:Value) (c:dJ) (q:Value) (out:List dH):Prop where
 eZ:eB own T wr cb fm sm cv c
 msgs:eE w.heap.size wr q out
 fr:∀g,w.heap.size<=g->own g=0
 hT:0<T
 er:dD (fun g=>g=cb) w wr
theorem CM.start (h:eB own T w cb fm sm cv c) (hf:∀g,w.heap.size<=g->own g=0) (hT:0<T):CM own T w w cb fm sm cv c (.slice none 0 0) []:=⟨h,eE.nil _ _,hf,hT,dD.refl _ _⟩
theorem CM.below (h:CM own T w wr cb fm sm cv c q out) (hb:Below wr.heap.size wr w'):CM own T w w' cb fm sm cv c q out:=
 ⟨h.eZ.below hb,h.msgs.below hb,h.fr,h.hT,h.er.gn hb (aq _)⟩
theorem CM.ia (h:CM own T w wr cb fm sm cv c q out):cb<w.heap.size:=by
 rcases aW cb w.heap.size with h1|h1
 ·exact h1
 have h2:=h.fr cb h1;have h3:=h.eZ.gI;have h4:=h.hT;omega
theorem CM.step (h:CM own T w wr cb fm sm cv c q out) (ht:dD (fun g=>g=cb) wr w') (hc:eB own T w' cb fm sm cv c'):CM own T w w' cb fm sm cv c' q out:=
 ⟨hc,h.msgs.ej ht fun g hg e=>by have:=h.msgs.block g hg;have:=h.ia;omega,h.fr,h.hT,h.er.trans ht fun _ _ e=>e⟩
theorem CM.append {n:List dH} (h:CM own T w wr cb fm sm cv c q out) (hm:eE w.heap.size w' q' (out++n)) (hg:wr.grownBy w' q.ownBlock):CM own T w w' cb fm sm cv c q' (out++n):=by
 have ht:dD (fun g=>q.ownBlock=some g) wr w':=⟨hg.os,hg.tape,hg.output,hg.size,fun k hk hn=>hg.block k hk (fun e=>hn e.symm)⟩;refine⟨h.eZ.er ht (Ext.refl _ _) fun g _ hg hs=>?_,hm,h.fr,h.hT,h.er.trans ht fun k hk e=>?_⟩
 ·have h1:=h.fr g (h.msgs.block g hg);have h2:=h.hT;unfold fC at hs;omega
 have:=h.msgs.block k e;omega
theorem CM.EL {H:Nat} (h:CM own T w wr cb fm sm cv c q out) (ht:dD (fun g=>g=H) wr w') (hH:w.heap.size<=H) (hc:H≠cb) (hq:q.ownBlock≠some H):CM own T w w' cb fm sm cv c q out:=by
 refine⟨h.eZ.er ht (Ext.refl _ _) fun g _ e hs=>?_,h.msgs.ej ht fun g hg e=>hq (by rw[hg,e]),h.fr,h.hT,h.er.trans ht fun k hk e=>by omega⟩;have h1:=h.fr H hH;have h2:=h.hT;subst e;unfold fC at hs;omega
def iq (c:dJ):dJ:={c with dN:=wrap64 (c.dN+1),gh:=wrap64 (c.dN+1),jC:=c.dE}
theorem EM (h:wrap64 (c.ei-2)<=c.dE):c.eV=([(iq c).eL {dI.gg with dT:=3,dN:=wrap64 (c.dN+1)}]++(iq c).asks,iq c):=by
 unfold dJ.eV;rw[if_pos h];rfl
theorem EN (h:¬wrap64 (c.ei-2)<=c.dE):c.eV=([]++c.asks,c):=by
 unfold dJ.eV;rw[if_neg h];rfl
theorem xU (h:eB own T w cb fm sm cv c) (hf:∀g,w.heap.size<=g->own g=0) (hT:0<T) :
 Calls Tryz.prog 107 #[.pointer (some ⟨cb,0,none⟩)] w fun e w'=>∃u,e=.returned u/\CM own T w w' cb fm sm cv c.eV.2 u c.eV.1:=by
 obtain⟨r,hr⟩:∃r,r=c.eV:=⟨_,rfl⟩;rw[<- hr];have Qt:=Hd (CM.start h hf hT);have c7:w.cell? ⟨cb,7,none⟩=some (.int .i64 c.dE):=h.c_.cell 7;have c8:w.cell? ⟨cb,8,none⟩=some (.int .i64 c.ei):=h.c_.cell 8;obtain⟨vz,hvz⟩:∃vz,vz=wrap64 (c.ei-2):=⟨_,rfl⟩;obtain⟨b,hb⟩:∃b,b=decide (vz<=c.dE):=⟨_,rfl⟩
 have HR:Hy (∃c1 M7,r=(M7++c1.asks,c1)/\c1=(if b then iq c else c)/\M7=(if b then [(iq c).eL {dI.gg with dT:=3,dN:=wrap64 (c.dN+1)}] else [])):=Hd (by
  rw[hr,hb];by_cases hd:vz<=c.dE
  ·rw[decide_eq_true hd];exact⟨_,_,EM (by rw[<- hvz];exact hd),rfl,rfl⟩
  rw[decide_eq_false hd]
  exact⟨_,_,EN (by rw[<- hvz];exact hd),rfl,rfl⟩)
 (have ew:IntKind.i64.wrap (c.ei-2)=vz:=by rw[IntWalk.i64_left,hvz]);have eb:decide (vz<=c.dE)=b:=hb.symm;obtain⟨c1,M7,LS,Ln,ho1⟩:=HR.o;have K3:=Hd LS;have N6:=Hd Ln;have Wx:=Hd ho1;clear hr hvz hb h HR LS Ln ho1;(go_enter Tryz.func107,Tryz.ntmps107);(go_upto_region 2 with fail);(go_quiet (fail));have Kw:=Hd (Qt.o.below (below_drewN (Below.refl _ w) nq));clear Qt c7 c8;(go_upto_if 14 with fail);obtain⟨W1,Kh⟩:∃W1,W1=w.drewN nq:=⟨_,rfl⟩;rw[<- Kh]at Kw⊢;clear Kh;go_cut [3] (fun q wx=>CM own T w wx cb fm sm cv c1 q M7)
 case first =>
  cases b with
  |false =>
   have Nn:Hy (c1=c/\M7=[]):=Hd ⟨N6.o,Wx.o⟩;(go_wp2_with fail);go_meet;case rel=>rw[Nn.o.1,Nn.o.2];exact Kw.o
  |true =>
   have Nn:Hy (c1=iq c/\M7=[(iq c).eL {dI.gg with dT:=3,dN:=wrap64 (c.dN+1)}]):=Hd ⟨N6.o,Wx.o⟩;obtain⟨n,hn⟩:∃n,n=wrap64 (c.dN+1):=⟨_,rfl⟩;have N4:=Hd (rr W1.drew Kw.o.eZ.drew);rw[<- hn]at N4 Nn;have Sf:Hy (iq c={c with dN:=n,gh:=n,jC:=c.dE}):=Hd (by unfold iq;rw[<- hn]);have c7:W1.cell? ⟨cb,7,none⟩=some (.int .i64 c.dE):=Kw.o.eZ.c_.cell 7;clear hn ew eb;(go_upto_region 3 with fail);(go_region_held3 (fun W=>W.cell? ⟨cb,7,none⟩=some (.int .i64 c.dE)) (first|exact KL.c_.cell 7|exact (KL.c_.eu 20 _).cell 7|exact ((KL.c_.eu 20 _).eu 21 _).cell 7|go_keep) ((go_at_call 150;refine N4.o.mono ?_;rintro e W2 ⟨rfl,KL,Kr,KY⟩;have c20:W2.cell? ⟨cb,20,none⟩=some (.int .i64 c.gh):=KL.c_.cell 20;have c21:W2.cell? ⟨cb,21,none⟩=some (.int .i64 c.jC):=KL.c_.cell 21;have f20:=KL.c_.frozen 20;have f21:=KL.c_.frozen 21)));obtain⟨W3,Kz⟩:∃W3,W3=((W2.setCell ⟨cb,20,none⟩ (.int .i64 n)).setCell ⟨cb,21,none⟩ (.int .i64 c.dE)):=⟨_,rfl⟩
   have Mh:eB own T W3 cb fm sm cv {c with dN:=n,gh:=n,jC:=c.dE}:=by
    rw[Kz];exact ((KL.l8 {c with dN:=n,gh:=n} 20 (.int .i64 n) rfl rfl rfl rfl).l8 {c with dN:=n,gh:=n,jC:=c.dE} 21 (.int .i64 c.dE) rfl rfl rfl rfl)
   (have KF:dD (fun g=>g=cb) W2 W3:=by rw[Kz];exact ((l9 20 _).trans (l9 21 _) fun _ _ e=>e));rw[<- Kz];have Oz:=Hd ((Kw.o.below (Below.refl _ _).drew).step (Kr.trans KF fun _ _ e=>e) Mh);rw[Sf.o]at Nn;obtain⟨c2,WN⟩:∃c2:dJ,c2={c with dN:=n,gh:=n,jC:=c.dE}:=⟨_,rfl⟩;(have Vh:c2.gh=n:=by rw[WN]);rw[<- WN]at Nn Oz;have HRNW:=Hd Vh;(have c20:W3.cell? ⟨cb,20,none⟩=some (.int .i64 n):=by rw[<- Vh];exact Oz.o.eZ.c_.cell 20);clear Kz Mh KF KL Kr KY WN Vh Kw N4 c7 Sf
   go_wp2_with (first
    |(go_at_call 151;refine (ru _ {dI.gg with dT:=3,dN:=n} Oz.o.eZ).mono ?_;rintro e w4 ⟨rfl,KB⟩;have ZP:=Hd (Oz.o.below KB))
    |(refine kU rfl (.tmp 34) (c2.eL {dI.gg with dT:=3,dN:=n}) rfl rfl ?_;have OA:=Hd (ZP.o.below ((Below.refl w4.heap.size w4).alloc (aq _) (.cells (([c2.eL {dI.gg with dT:=3,dN:=n}]:List dH).flatMap fT).toArray 109)));have HN5:=Hd (eE.new (w:=w4) (l:=[c2.eL {dI.gg with dT:=3,dN:=n}]) (by simp));obtain⟨w5,NY⟩:∃w5,w5=w4.alloc (.cells (([c2.eL {dI.gg with dT:=3,dN:=n}]:List dH).flatMap fT).toArray 109):=⟨_,rfl⟩;rw[<- NY]at OA HN5⊢;clear NY ZP)
    |(refine pj rfl (.tmp 27) (.tmp 35) OA.o.er.size (.slice none 0 0) (.slice (some ⟨w4.heap.size,0,none⟩) 1 1) [] [c2.eL {dI.gg with dT:=3,dN:=n}] rfl rfl rfl OA.o.msgs HN5.o (by simp) (by simp) fun v' w6 OP Vi hq6=>?_;have Qu:=Hd (OA.o.append OP Vi);clear OP Vi hq6))
   go_meet
   case rel =>
    rw[Nn.o.1,Nn.o.2];exact Qu.o
 case rest =>
  have Kw:=Hd hcut;clear hcut ew eb N6;have MV:=Hd (pn wc Kw.o.eZ);have Tt:Hy (M7.length<=1):=Hd (by rw[Wx.o];split<;>simp)
  cases XX:c1.fX with
  |false =>
   rw[XX]at MV
   have Ll:Hy (r=(M7,c1)):=Hd (by
    rw[K3.o];unfold dJ.asks
    rw[if_neg (by rw[XX];decide),cw])
   clear XX;(go_wp2_with (go_at_call 152;refine MV.o.mono ?_;rintro e w' ⟨rfl,rfl⟩));go_ret;rw[Ll.o];exact⟨_,rfl,Kw.o⟩
  |true =>
   rw[XX]at MV
   have Ll:Hy (r=(M7++[c1.eL {dI.gg with dT:=c1.call.dT,dN:=c1.fc,dF:=c1.call.dF,data:=if c1.call.dT=2 then c1.call.value.data else []}],c1)):=Hd (by
    rw[K3.o];unfold dJ.asks
    rw[if_pos XX])
   clear XX;have c12:wc.cell? ⟨cb,12,none⟩=some (.int .i64 c1.call.dT):=Kw.o.eZ.c_.cell 12;have Vj:wc.cell? ⟨cb,13,none⟩=some (.int .i64 c1.call.dF):=Kw.o.eZ.c_.cell 13;have XV:wc.cell? ⟨cb,18,none⟩=some (.int .i64 c1.fc):=Kw.o.eZ.c_.cell 18;(go_upto_region 6 with (go_at_call 152;refine MV.o.mono ?_;rintro e w' ⟨rfl,rfl⟩));(go_region_held3 (fun W=>W.cell? ⟨cb,12,none⟩=some (.int .i64 c1.call.dT)/\W.cell? ⟨cb,13,none⟩=some (.int .i64 c1.call.dF)/\W.cell? ⟨cb,18,none⟩=some (.int .i64 c1.fc)) (go_keep) (fail));obtain⟨ck,OB⟩:∃ck,ck=c1.call.dT:=⟨_,rfl⟩;obtain⟨ca,hca⟩:∃ca,ca=c1.fc:=⟨_,rfl⟩;obtain⟨co,hco⟩:∃co,co=c1.call.dF:=⟨_,rfl⟩;rw[<- OB,<- hca,<- hco]at Ll⊢;obtain⟨H,hH⟩:∃H,H=wc.heap.size:=⟨_,rfl⟩;obtain⟨W5,Mj⟩:∃W5,W5=(wc.alloc (.cells #[.int .i64 ck,.int .i64 0,.int .i64 ca,.int .i64 0,.int .i64 0,.int .i64 co,.int .i64 0,.bool false,.string ⟨#[]⟩] 109)).drew:=⟨_,rfl⟩;rw[<- Mj,<- hH];(have O7:Has W5 H (.cells #[.int .i64 ck,.int .i64 0,.int .i64 ca,.int .i64 0,.int .i64 0,.int .i64 co,.int .i64 0,.bool false,.string ⟨#[]⟩] 109):=by rw[Mj,hH];exact (Has.new wc _).drew);(have Kx:Below wc.heap.size wc W5:=by rw[Mj];exact ((Below.refl _ _).alloc (aq _) _).drew);have OA:=Hd (Kw.o.below Kx)
   have Ue:Hy (w.heap.size<=H/\H≠cb):=Hd (by
    have:=Kw.o.er.size;have:=Kw.o.ia
    omega)
   (have HQX:Hy (u3.ownBlock≠some H):=Hd fun e=>by have:=(Kw.o.msgs.lt H e).2;omega);have L6:=Hd O7;have x0:W5.cell? ⟨H,0,none⟩=some (.int .i64 ck):=O7.cell 0;have x8:W5.cell? ⟨H,8,none⟩=some (.string ⟨#[]⟩):=O7.cell 8;have f8:=O7.frozen 8;have Tu:W5.cell? ⟨cb,14,none⟩=some (.string ⟨c1.call.value.data.toArray⟩):=OA.o.eZ.c_.cell 14;obtain⟨kb,Od⟩:∃kb,kb=(ck==2):=⟨_,rfl⟩;have ekb:(ck==2)=kb:=Od.symm;have HKB:=Hd Od;clear Mj hH Kx O7 OB hca hco Od Kw MV c12 Vj XV
   cases kb with
   |false =>
    have Ld:Hy (r=(M7++[c1.eL ⟨ck,0,ca,0,0,co,0,false,[]⟩],c1)):=Hd (by
     (have h2:ck≠2:=by simpa using HKB.o.symm);rw[Ll.o,if_neg h2]
     rfl)
    clear f8 x8
    go_wp2_with (first
     |(refine wpList_load_row rfl 109 (.tmp 4) rfl H rfl 109 _ (0,0) _ L6.o Tryz.underlying109 rfl (by kernel_rfl) ?_)
     |(go_at_call 151;refine (ru _ ⟨ck,0,ca,0,0,co,0,false,[]⟩ OA.o.eZ).mono ?_;rintro e w6 ⟨rfl,LG⟩;have Qu:=Hd (OA.o.below LG))
     |(refine kU rfl (.tmp 67) (c1.eL ⟨ck,0,ca,0,0,co,0,false,[]⟩) rfl rfl ?_;have Qv:=Hd (Qu.o.below ((Below.refl w6.heap.size w6).alloc (aq _) (.cells (([c1.eL ⟨ck,0,ca,0,0,co,0,false,[]⟩]:List dH).flatMap fT).toArray 109)));have NK:=Hd (eE.new (w:=w6) (l:=[c1.eL ⟨ck,0,ca,0,0,co,0,false,[]⟩]) (by simp));obtain⟨w7,O6⟩:∃w7,w7=w6.alloc (.cells (([c1.eL ⟨ck,0,ca,0,0,co,0,false,[]⟩]:List dH).flatMap fT).toArray 109):=⟨_,rfl⟩;rw[<- O6]at Qv NK⊢;clear O6 Qu)
     |(refine pj rfl (.tmp 64) (.tmp 68) Qv.o.er.size u3 (.slice (some ⟨w6.heap.size,0,none⟩) 1 1) M7 [c1.eL ⟨ck,0,ca,0,0,co,0,false,[]⟩] rfl rfl rfl Qv.o.msgs NK.o (by simp) (by have:=Tt.o;simp;omega) fun v' w8 RM Ow V1=>?_;have Rp:=Hd (Qv.o.append RM Ow);clear RM Ow V1))
    go_ret;rw[Ld.o];exact⟨_,rfl,Rp.o⟩
   |true =>
    obtain⟨da,hda⟩:∃da,da=c1.call.value.data:=⟨_,rfl⟩;rw[<- hda]at Tu
    have Ld:Hy (r=(M7++[c1.eL ⟨ck,0,ca,0,0,co,0,false,da⟩],c1)):=Hd (by
     (have h2:ck=2:=by simpa using HKB.o.symm);rw[Ll.o,if_pos h2,<- hda]
     rfl)
    clear hda;(go_upto_region 9 with fail);obtain⟨W6,Oo⟩:∃W6,W6=W5.setCell ⟨H,8,none⟩ (.string ⟨da.toArray⟩):=⟨_,rfl⟩;(have MI:dD (fun g=>g=H) W5 W6:=by rw[Oo];exact dZ.fp (dD.refl _ _) 8 _);have Rb:Hy (Has W6 H (.cells (gE ck 0 ca 0 0 co 0 false ⟨da.toArray⟩) 109)):=Hd (by rw[Oo];exact L6.o.eu 8 _);have Qu:Hy (CM own T w W6 cb fm sm cv c1 u3 M7):=Hd (OA.o.EL MI Ue.o.1 Ue.o.2 HQX.o);rw[<- Oo];clear Oo MI L6 OA x0 x8 f8 Tu
    go_wp2_with (first
     |(refine wpList_load_row rfl 109 (.tmp 4) rfl H rfl 109 _ (0,0) _ Rb.o Tryz.underlying109 rfl (by kernel_rfl) ?_)
     |(go_at_call 151;refine (ru _ ⟨ck,0,ca,0,0,co,0,false,da⟩ Qu.o.eZ).mono ?_;rintro e w7 ⟨rfl,Lu⟩;have Qv:=Hd (Qu.o.below Lu))
     |(refine kU rfl (.tmp 67) (c1.eL ⟨ck,0,ca,0,0,co,0,false,da⟩) rfl rfl ?_;have Rp:=Hd (Qv.o.below ((Below.refl w7.heap.size w7).alloc (aq _) (.cells (([c1.eL ⟨ck,0,ca,0,0,co,0,false,da⟩]:List dH).flatMap fT).toArray 109)));have ZQ:=Hd (eE.new (w:=w7) (l:=[c1.eL ⟨ck,0,ca,0,0,co,0,false,da⟩]) (by simp));obtain⟨w8,WO⟩:∃w8,w8=w7.alloc (.cells (([c1.eL ⟨ck,0,ca,0,0,co,0,false,da⟩]:List dH).flatMap fT).toArray 109):=⟨_,rfl⟩;rw[<- WO]at Rp ZQ⊢;clear WO Qv)
     |(refine pj rfl (.tmp 64) (.tmp 68) Rp.o.er.size u3 (.slice (some ⟨w7.heap.size,0,none⟩) 1 1) M7 [c1.eL ⟨ck,0,ca,0,0,co,0,false,da⟩] rfl rfl rfl Rp.o.msgs ZQ.o (by simp) (by have:=Tt.o;simp;omega) fun v' w9 hm9 hg9 hq9=>?_;have aef:=Hd (Rp.o.append hm9 hg9);clear hm9 hg9 hq9))
    go_ret;rw[Ld.o];exact⟨_,rfl,aef.o⟩
end
end eZ
namespace dR
open Go.RowKit heap own dK eO fq dZ fD eK
open dI (Rec dW fE Wr dC eY eA eG ez put del)
section
variable {P:Lib.PrintTabs} {own:Nat->Nat} {w0:World} {sb db wb dm tb tm:Nat} {v:Value} {ps:List ByteArray} {qs:List Value} {d:dW} {s:dC}
theorem uu (tmps:Array Value) (W:World) (g:Nat) (cs:Array Value) (e:Value) (h2:tmps.getD 4 undef=.pointer (some ⟨g,0,none⟩)) (h3:tmps.getD 5 undef=e)
 (hg:Has W g (.cells cs 98)) (hs:cs.size=2):(results Tryz.f126 tmps).run Tryz.prog W=.ok (.tuple #[.agg cs,e]) W:=by
 rw[results_cell_tmp Tryz.results126,h2,h3];(have hi:(Tryz.prog.info? 98).map (·.size)=some cs.size:=by rw[hs];kernel_rfl);have:=run_loadVar_row (P:=Tryz.prog) W g 98 98 cs (0,0) _ hg Tryz.underlying98 rfl hi;simp[asAddr,Result.andThen,this]
theorem Hf (w:World) (o:Nat) (ho:o<8) (h:eh P own w0 w sb db wb dm tb tm v ps qs d s) :
 Calls Tryz.prog 126 #[.pointer (some ⟨sb,0,none⟩),.int .i64 o] w fun e w'=>e=.returned (.tuple #[xq (s.value o),.nilIface])/\Below w.heap.size w w':=by
 have c0:=(h.nh o ho).1;have c1:=(h.nh o ho).2;have Kg:=h.s_.lt;(have M5:(o:Int)<8:=by omega);have d8:decide ((8:Int)<=(o:Int))=false:=decide_eq_false (by omega);clear h;unfold xq;(go_enter Tryz.func126,Tryz.ntmps126);go_wp2;have hg:=Has.new w (.cells #[.string ⟨(s.value o).data.toArray⟩,.int .i64 (s.value o).dY] 98);exact bodyPost_ret (uu _ _ w.heap.size _ _ rfl rfl hg rfl) rfl ⟨rfl,(Below.refl _ _).alloc (aq _) _⟩
end
end dR
end Go.Proofs.YtlhodcmdpchllaaGreatDoor
