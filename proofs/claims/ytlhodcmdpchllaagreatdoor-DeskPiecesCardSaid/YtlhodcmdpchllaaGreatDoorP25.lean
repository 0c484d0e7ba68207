/-
  A part of the proof of the law DeskPieces: SrvA, SrvB, SrvC, SrvD, Msgs, SrvE, SrvF, SrvG, SrvH.
-/
import Derived.Deep.RegionHeld3
import Derived.BigQuiet
import Derived.Deep.QuietTactic
import Derived.Laws.ResultCell
import Derived.Great.BuildSlice
import Derived.Deep.AppendLies
import Derived.Deep.LoopGhost
import Derived.Test.YtlhodcmdpchllaaGreatDoorHd
import Derived.Test.YtlhodcmdpchllaaGreatDoorP13
import Derived.Test.YtlhodcmdpchllaaGreatDoorP23
import Derived.Test.YtlhodcmdpchllaaGreatDoorP24
set_option maxHeartbeats 16000000
set_option maxRecDepth 1000000
namespace Go.Proofs.YtlhodcmdpchllaaGreatDoor
namespace dR
open Go.RowKit heap own dK eO fq dZ fD eK
open dI (Rec dW fE Wr dC eY eA eG ez put del)
def fT (m:dH):List Value:=[.int .i64 m.dT,.int .i64 m.dL,.int .i64 m.dN,.int .i64 m.dQ,.int .i64 m.fj,.int .i64 m.dF,.int .i64 m.eI,.bool m.fu,.string ⟨m.data.toArray⟩]
theorem pP (m:dH):(fT m).length=9:=rfl
theorem wT (m:dH):∀u∈fT m,u.oneCell'=true:=by
 intro u hu;simp only[fT,aM,bc,or_false]at hu;rcases hu with rfl|rfl|rfl|rfl|rfl|rfl|rfl|rfl|rfl<;>rfl
def iF (x:Wr):List Value:=[.int .i64 x.dL,.int .i64 x.dN,.string ⟨x.data.toArray⟩,.bool x.gC]
theorem ti (x:Wr):(iF x).length=4:=rfl
theorem DE (x:Wr):∀u∈iF x,u.oneCell'=true:=by
 intro u hu;simp only[iF,aM,bc,or_false]at hu;rcases hu with rfl|rfl|rfl|rfl<;>rfl
def lp (v:fE):List Value:=[.string ⟨v.data.toArray⟩,.int .i64 v.dY]
theorem pQ (v:fE):(lp v).length=2:=rfl
theorem qS:(Tryz.prog.info? 109).map (fun i=>(i.zero,i.size,i.bytes))=some (some (.agg #[.int .i64 0,.int .i64 0,.int .i64 0,.int .i64 0,.int .i64 0,.int .i64 0,.int .i64 0,.bool false,.string ByteArray.empty]),9,80):=by kernel_rfl
theorem DG:(Tryz.prog.info? 263).map (fun i=>(i.zero,i.size,i.bytes))=some (some (.agg #[.int .i64 0,.int .i64 0,.string ByteArray.empty,.bool false]),4,40):=by kernel_rfl
theorem val_inj {m m':dH} (h:m.val=m'.val):m=m':=by
 obtain⟨a,b,c,d,e,f,g,l,s⟩:=m;obtain⟨a',b',c',d',e',f',g',l',s'⟩:=m';simp only[dH.val,Value.agg.injEq,Array.mk.injEq,List.cons.injEq,Value.int.injEq,true_and,Value.bool.injEq,Value.string.injEq,ByteArray.mk.injEq,and_true]at h;simp[h]
noncomputable def pR (v:Value):Option (DataW Unit×List MemPlace):=by
 classical exact if h:∃m:dH,v=m.val then some (.agg [.lit (.int .i64 h.choose.dT),.lit (.int .i64 h.choose.dL),.lit (.int .i64 h.choose.dN),.lit (.int .i64 h.choose.dQ),.lit (.int .i64 h.choose.fj),.lit (.int .i64 h.choose.dF),.lit (.int .i64 h.choose.eI),.lit (.bool h.choose.fu),.lit (.string h.choose.data)],[]) else none
def pg (m:dH):DataW Unit:=.agg [.lit (.int .i64 m.dT),.lit (.int .i64 m.dL),.lit (.int .i64 m.dN),.lit (.int .i64 m.dQ),.lit (.int .i64 m.fj),.lit (.int .i64 m.dF),.lit (.int .i64 m.eI),.lit (.bool m.fu),.lit (.string m.data)]
theorem wU (m:dH):pR m.val=some (pg m,[]):=by
 unfold pR;have h:∃m':dH,m.val=m'.val:=⟨m,rfl⟩;rw[dif_pos h,<- val_inj h.choose_spec];rfl
theorem DH {v:Value} {y:DataW Unit×List MemPlace} (h:pR v=some y):∃m,v=dH.val m/\y=(pg m,[]):=by
 by_cases hm:∃m:dH,v=m.val
 ·obtain⟨m,rfl⟩:=hm;rw[wU]at h;exact⟨m,rfl,(aw h).symm⟩
 unfold pR at h;rw[dif_neg hm]at h;cases h
theorem DI (m m':dH) (h:pg m=pg m'):m=m':=by
 obtain⟨a,b,c,d,e,f,g,l,s⟩:=m;obtain⟨a',b',c',d',e',f',g',l',s'⟩:=m';simp only[pg,DataW.agg.injEq,List.cons.injEq,DataW.lit.injEq,Lit.int.injEq,Lit.bool.injEq,Lit.string.injEq,true_and,and_true]at h;simp[h]
def tj:dH:=⟨0,0,0,0,0,0,0,false,[]⟩
theorem DJ:∀w,(zeroValue 109).run Tryz.prog w=.ok tj.val w:=fun w=>by kernel_rfl
noncomputable def kC:je Tryz.prog Int dH where
 K:=3
 e:=109
 t:=94
 kv:=Value.int .i64
 kl:=Lit.int .i64
 fR:=gi
 ev:=dH.val
 ed:=pg
 jD:=fun _=>True
 z:=tj
 R:=pR
 keyed:=Maps.int_keyed Tryz.underlying3
 ht:=Tryz.underlying94
 key:=fun _ h=>Maps.keyOf_int_mk Tryz.underlying3 h
 mG:=fun _ _ h=>Maps.keyOf_int_inv Tryz.underlying3 h
 elem:=fun m _=>wU m
 nJ:=fun v y h=>by
  obtain⟨m,h1,h2⟩:=DH h;exact⟨m,h1,h2,trivial⟩
 nK:=fun _ _ h=>by simpa using h
 o6:=DI
 zero:=DJ
 o7:=trivial
def iP (t:eA) (wb:Nat) (LR:List fE) (qs:List Value) (dm tb:Nat) (dQ quiet dE fa:Int):List Value:=
 [.int .i64 t.dF,.int .i64 t.ei,.int .i64 t.eS,.pointer (some ⟨wb,0,none⟩)]++(LR.flatMap lp++(qs++[.map (some dm),.pointer (some ⟨tb,0,none⟩),.int .i64 dQ,.int .i64 quiet,.int .i64 dE,.int .i64 fa]))
def ey (own:Nat->Nat) (g:Nat):Prop:=1<=own g/\own g<20
structure Plain (d:dW) (s:dC):Prop where
 nv:s.values.length=8
 nq:s.eQ.length=8
 qc:∀o,∀x∈s.dX o,(0<=x.dL/\x.dL<4)/\x.data.length<=20
 dk:∀p∈s.done,0<=p.1/\p.1<4
 rc:∀r∈d.dK,0<=r.dL/\r.dL<4
 ql:∀o,(s.dX o).length<=10
structure eh (P:Lib.PrintTabs) (own:Nat->Nat) (w0 w:World) (sb db wb dm tb tm:Nat) (v:Value) (ps:List ByteArray) (qs:List Value) (d:dW) (s:dC):Prop where
 jT:jr P w0
 kh:Handle w0
 fF:Below w0.heap.size w0 w
 low:∀g,ey own g->w0.heap.size<=g
 fr:∀g,w.heap.size<=g->own g=0
 dZ:iO own 2 w0.heap.size w wb db v s.dU d.dK
 hZ:fU w db ps d.cut d.left
 jf:kB P ps d.dK
 gq:own db=1
 s_:Has w sb (.cells (iP s.eJ wb s.values qs dm tb s.dQ s.quiet s.dE s.fa).toArray 103)
 fJ:own sb=4
 ok:Plain d s
 lq:qs.length=8
 dX:∀o,o<8->fH own (10+o) w 263 4 (qs.getD o undef) (s.dX o).length ((s.dX o).flatMap iF)
 done:At kC w dm s.done
 ix:own dm=5
 eo:gy w tb tm s.eo
 iQ:own tb=6
 iR:own tm=7
def tl (P:Lib.PrintTabs) (own:Nat->Nat) (w0 w:World) (sb db:Nat) (d:dW) (s:dC):Prop:=
 ∃wb dm tb tm v ps qs,eh P own w0 w sb db wb dm tb tm v ps qs d s
section
variable {P:Lib.PrintTabs} {own own1:Nat->Nat} {w0 w w':World} {sb db wb dm tb tm:Nat} {v:Value} {ps:List ByteArray} {qs:List Value} {d:dW} {s:dC} {S:Nat->Prop}
theorem eh.nv (h:eh P own w0 w sb db wb dm tb tm v ps qs d s):s.values.length=8:=h.ok.nv
theorem eh.nq (h:eh P own w0 w sb db wb dm tb tm v ps qs d s):s.eQ.length=8:=h.ok.nq
theorem eh.le (h:eh P own w0 w sb db wb dm tb tm v ps qs d s):w0.heap.size<=w.heap.size:=h.fF.size
theorem eh.hO (h:eh P own w0 w sb db wb dm tb tm v ps qs d s):kf P w0.heap.size w:=⟨w0,rfl,h.jT,h.fF⟩
theorem eh.kg (h:eh P own w0 w sb db wb dm tb tm v ps qs d s):Handle w:=h.kh.below h.fF
theorem eh.handle (h:eh P own w0 w sb db wb dm tb tm v ps qs d s) (hb:Below w.heap.size w w'):Handle w':=h.kg.below hb
theorem eh.er (h:eh P own w0 w sb db wb dm tb tm v ps qs d s) (ht:dD S w w') (he:Ext w own own1) (hf:∀g,w'.heap.size<=g->own1 g=0) (hs:∀g,g<w.heap.size->S g->¬ey own g/\w0.heap.size<=g):eh P own1 w0 w' sb db wb dm tb tm v ps qs d s:=by
 have Kr:dD (fun g=>g<w.heap.size/\S g) w w':=ht.mono fun k hk hS=>⟨hk,hS⟩
 have no:∀g k,own g=k->1<=k->k<20->¬S g\/w.heap.size<=g:=fun g k hk h1 h2=>by
  rcases aW g w.heap.size with hg|hg
  ·exact .inl fun hS=>(hs g hg hS).1 ⟨by omega,by omega⟩
  exact .inr hg
 have nS:∀g k,g<w.heap.size->own g=k->1<=k->k<20->¬S g:=fun g k hg hk h1 h2=>(no g k hk h1 h2).resolve_right (by omega);have Tk:=h.dZ.w_.lt;have kg:=h.hZ.lt;have MO:=h.s_.lt;have QE:=h.done.lt;have R5:=h.eo.lt
 refine⟨h.jT,h.kh,h.fF.trans (Kr.lU h.le fun k hk hS=>by have:=(hs k hS.1 hS.2).2;omega),fun g hg=>?_,hf,⟨ht.has h.dZ.w_ (nS _ 3 Tk h.dZ.ow (by decide) (by decide)),h.dZ.row.ej ht he fun k hk ho=>nS k 2 hk ho (by decide) (by decide),by rw[he _ Tk];exact h.dZ.ow,fun g hg=>?_,h.dZ.lw⟩,
  ⟨ht.has h.hZ.d_ (nS _ 1 kg h.gq (by decide) (by decide)),h.hZ.hp⟩,h.jf,by rw[he _ kg];exact h.gq,ht.has h.s_ (nS _ 4 MO h.fJ (by decide) (by decide)),by rw[he _ MO];exact h.fJ,h.ok,h.lq,fun o ho=>(h.dX o ho).ej ht he fun k hk MP=>nS k (10+o) hk MP (by omega) (by omega),
  h.done.er ht (nS _ 5 QE h.ix (by decide) (by decide)),by rw[he _ QE];exact h.ix,h.eo.er ht (nS _ 6 R5.1 h.iQ (by decide) (by decide)) (nS _ 7 R5.2 h.iR (by decide) (by decide)),by rw[he _ R5.1];exact h.iQ,by rw[he _ R5.2];exact h.iR⟩
 ·rcases aW g w.heap.size with hg'|hg'
  ·unfold ey at hg;rw[he g hg']at hg;exact h.low g hg
  exact az h.le hg'
 rcases aW g w.heap.size with hg'|hg'
 ·rw[he g hg']at hg;exact h.dZ.low g hg
 exact az h.le hg'
theorem eh.below (h:eh P own w0 w sb db wb dm tb tm v ps qs d s) (hb:Below w.heap.size w w'):eh P own w0 w' sb db wb dm tb tm v ps qs d s:=
 h.er (S:=fun _=>False) (dD.fw hb (aq _)) (Ext.refl _ _) (fun g hg=>h.fr g (az hb.size hg)) (fun _ _ h=>h.elim)
theorem eh.nf (h:eh P own w0 w sb db wb dm tb tm v ps qs d s) (ht:dD S w w') (hs:∀g,g<w.heap.size->S g->own g=0/\w0.heap.size<=g):eh P own w0 w' sb db wb dm tb tm v ps qs d s:=
 h.er ht (Ext.refl _ _) (fun g hg=>h.fr g (az ht.size hg)) fun g hg hS=>⟨fun hq=>by have:=(hs g hg hS).1;unfold ey at hq;omega,(hs g hg hS).2⟩
theorem tl.below (h:tl P own w0 w sb db d s) (hb:Below w.heap.size w w'):tl P own w0 w' sb db d s:=by
 obtain⟨wb,dm,tb,tm,v,ps,qs,h⟩:=h;exact⟨wb,dm,tb,tm,v,ps,qs,h.below hb⟩
end
theorem below_setRow {B g:Nat} {w w':World} (h:Below B w w') (hg:B<=g) (cs:Array Value):Below B w (w'.setRow g cs):=
 ⟨h.os,h.tape,h.output,by simpa[World.setRow]using h.size,fun k hk=>(setRow_other _ _ _ _ (by omega)).trans (h.block k hk)⟩
section
variable {P:Lib.PrintTabs} {own:Nat->Nat} {w0 w:World} {sb db wb dm tb tm:Nat} {v:Value} {ps:List ByteArray} {qs:List Value} {d:dW} {s:dC}
theorem eh.vl (h:eh P own w0 w sb db wb dm tb tm v ps qs d s):(s.values.flatMap lp).length=16:=by rw[kS pQ,h.nv]
theorem eh.gQ (h:eh P own w0 w sb db wb dm tb tm v ps qs d s) (j:Nat) (u:Value) (hj:([.map (some dm),.pointer (some ⟨tb,0,none⟩),.int .i64 s.dQ,.int .i64 s.quiet,.int .i64 s.dE,.int .i64 s.fa]:List Value)[j]?=some u):w.cell? ⟨sb,28+j,none⟩=some u:=by
 rw[h.s_.cell,aC,iP];rw[aL (by simp;omega),aL (by rw[h.vl];simp;omega),aL (by rw[h.vl,h.lq];simp;omega),h.vl,h.lq];rw[<- hj];congr 1;simp;omega
theorem eh.cell0 (h:eh P own w0 w sb db wb dm tb tm v ps qs d s) (j:Nat) (u:Value) (hj:([.int .i64 s.eJ.dF,.int .i64 s.eJ.ei,.int .i64 s.eJ.eS,.pointer (some ⟨wb,0,none⟩)]:List Value)[j]?=some u):w.cell? ⟨sb,j,none⟩=some u:=by
 rw[h.s_.cell,aC,iP];rw[aV (ar.1 hj).1];exact hj
theorem eh.nh (h:eh P own w0 w sb db wb dm tb tm v ps qs d s) (o:Nat) (ho:o<8):w.cell? ⟨sb,4+o*2,none⟩=some (.string ⟨(s.value o).data.toArray⟩)/\w.cell? ⟨sb,4+o*2+1,none⟩=some (.int .i64 (s.value o).dY):=by
 have hx:s.values[o]?=some (s.value o):=by
  (have hl:o<s.values.length:=by rw[h.nv];exact ho);rw[dC.value,aB,ax hl];rfl
 have g:=flat_get pQ s.values o _ hx
 have hc:∀j,j<2->w.cell? ⟨sb,4+(o*2+j),none⟩=(lp (s.value o))[j]?:=fun j hj=>by
  rw[h.s_.cell,aC,iP,aL (by simp),aV (by rw[h.vl];simp;omega),<- g j hj];congr 1;simp
 exact⟨hc 0 (by decide),by rw[Nat.add_assoc];exact hc 1 (by decide)⟩
theorem eh.ik (h:eh P own w0 w sb db wb dm tb tm v ps qs d s) (o:Nat) (ho:o<8):w.cell? ⟨sb,20+o,none⟩=some (qs.getD o undef):=by
 (have hl:o<qs.length:=by rw[h.lq];exact ho);rw[h.s_.cell,aC,iP,aL (by simp;omega),aL (by rw[h.vl];simp;omega),h.vl,aJ,aJ,aJ,aJ,aZ,aV (by omega),aB,show 20+o-4-16=o by omega];rw[ax hl];rfl
end
section
variable {P:Lib.PrintTabs} {own:Nat->Nat} {w0:World} {sb db wb dm tb tm:Nat} {v:Value} {ps:List ByteArray} {qs:List Value} {d:dW} {s:dC}
theorem qT (w:World) (h:eh P own w0 w sb db wb dm tb tm v ps qs d s) :
 Calls Tryz.prog 157 #[.pointer (some ⟨sb,0,none⟩)] w fun e w'=>e=.returned (.bool s.dU)/\w=w':=by
 have c3:=h.cell0 3 _ rfl;have D:=Dn w h.dZ;clear h;(go_enter Tryz.func157,Tryz.ntmps157);(go_wp2_with (go_at_call 183;refine D.mono ?_;rintro e w' ⟨rfl,rfl⟩));go_ret;exact⟨rfl,rfl⟩
theorem nQ (w:World) (m:dH) (h:eh P own w0 w sb db wb dm tb tm v ps qs d s) :
 Calls Tryz.prog 184 #[.pointer (some ⟨sb,0,none⟩),m.val] w fun e w'=>e=.returned (s.eL m).val/\Below w.heap.size w w':=by
 have c5:=h.gQ 1 _ rfl;have c6:=h.gQ 2 _ rfl;have Kg:=h.s_.lt;have HT:∀w',Below w.heap.size w w'->gy w' tb tm s.eo:=fun w' hb=>h.eo.below hb;obtain⟨mk,mc,mn,me,ms,mo,mv,ml,md⟩:=m;unfold dH.val;dsimp only;clear h;(go_enter Tryz.func184,Tryz.ntmps184);go_wp2;obtain⟨W1,Kh⟩:∃W1,W1=(w.alloc (.cells #[.int .i64 mk,.int .i64 mc,.int .i64 mn,.int .i64 s.dQ,.int .i64 ms,.int .i64 mo,.int .i64 mv,.bool ml,.string ⟨md.toArray⟩] 109)).alloc (.cells #[.int .i64 0,.int .i64 0,.int .i64 0,.int .i64 0,.int .i64 0,.int .i64 0,.int .i64 0,.bool false,.string ⟨#[]⟩] 109):=⟨_,rfl⟩;(have Kd:Below w.heap.size w W1:=by rw[Kh];exact ((Below.refl _ _).alloc (aq _) _).alloc (by simp) _);have k5:W1.cell? ⟨sb,29,none⟩=some (.pointer (some ⟨tb,0,none⟩)):=(Kd.cell (p:=⟨sb,29,none⟩) Kg).trans c5;(have Kf:Has W1 w.heap.size (.cells #[.int .i64 mk,.int .i64 mc,.int .i64 mn,.int .i64 s.dQ,.int .i64 ms,.int .i64 mo,.int .i64 mv,.bool ml,.string ⟨md.toArray⟩] 109):=by rw[Kh];exact (Has.new w _).alloc _);(have PN:Has W1 (w.heap.size+1) (.cells #[.int .i64 0,.int .i64 0,.int .i64 0,.int .i64 0,.int .i64 0,.int .i64 0,.int .i64 0,.bool false,.string ⟨#[]⟩] 109):=by rw[Kh,<- World.size_alloc w];exact Has.new _ _);have k1:W1.cell? ⟨w.heap.size,1,none⟩=some (.int .i64 mc):=Kf.cell 1;have k4:W1.cell? ⟨w.heap.size,4,none⟩=some (.int .i64 ms):=Kf.cell 4;have f4:W1.frozen? ⟨w.heap.size,4,none⟩=false:=Kf.frozen 4;have Le:gy W1 tb tm s.eo:=HT _ Kd;rw[<- Kh];clear Kh HT c5 c6;have Kq:∀u,((W1.setCell ⟨w.heap.size,4,none⟩ u).drew.cell? ⟨sb,29,none⟩=some (.pointer (some ⟨tb,0,none⟩))/\(W1.setCell ⟨w.heap.size,4,none⟩ u).drew.cell? ⟨w.heap.size,1,none⟩=some (.int .i64 mc)):=fun u=>⟨(World.cell?_setCell_far _ _ _ _ (Nat.ne_of_gt Kg)).trans k5,(Kf.eu 4 _).cell 1⟩;(go_region_held3 (fun W=>W.cell? ⟨sb,29,none⟩=some (.pointer (some ⟨tb,0,none⟩))/\W.cell? ⟨w.heap.size,1,none⟩=some (.int .i64 mc)) (first|exact Kq _|go_keep) ((go_at_call 212;refine (Cr mc (gy.drew Le)).mono ?_;rintro e w' ⟨ev,rfl,-,rfl⟩)));have Sp:=Kf.eu 4 (.int .i64 (s.eo.fj mc));have Ke:Below w.heap.size w (W1.setCell ⟨w.heap.size,4,none⟩ (.int .i64 (s.eo.fj mc))).drew:=(Kd.setCell (aq _) _).drew;obtain⟨W2,Kv⟩:∃W2,W2=(W1.setCell ⟨w.heap.size,4,none⟩ (.int .i64 (s.eo.fj mc))).drew:=⟨_,rfl⟩;(have OW:Has W2 w.heap.size (.cells #[.int .i64 mk,.int .i64 mc,.int .i64 mn,.int .i64 s.dQ,.int .i64 (s.eo.fj mc),.int .i64 mo,.int .i64 mv,.bool ml,.string ⟨md.toArray⟩] 109):=by rw[Kv];exact Sp);rw[<- Kv]at Ke⊢;(have LS:Has W2 (w.heap.size+1) (.cells #[.int .i64 0,.int .i64 0,.int .i64 0,.int .i64 0,.int .i64 0,.int .i64 0,.int .i64 0,.bool false,.string ⟨#[]⟩] 109):=by rw[Kv];exact (PN.far (p:=⟨w.heap.size,4,none⟩) (by simp) _).drew);clear Kv Sp Kq k5 k1 k4 f4 Kf Kd Le PN;have HM:=Hd OW;have HR:=Hd LS
 go_wp2_with (first
  |(refine wpList_load_row rfl 109 (.tmp 3) rfl w.heap.size rfl 109 _ (0,0) _ HM.o Tryz.underlying109 rfl (by kernel_rfl) ?_)
  |(refine wpList_store_row rfl 109 (.tmp 4) (.tmp 21) rfl (w.heap.size+1) _ rfl rfl 109 _ HR.o (by kernel_rfl) (by kernel_rfl) (by kernel_rfl) ?_))
 exact bodyPost_ret (results_cell_row Tryz.results184 _ _ (w.heap.size+1) 109 _ (0,0) _ rfl (HR.o.setRow _) Tryz.underlying109 rfl (by kernel_rfl)) rfl ⟨rfl,below_setRow Ke (by omega) _⟩
theorem eh.kT {w w':World} {s':dC} {qs':List Value} (h:eh P own w0 w sb db wb dm tb tm v ps qs d s) (ht:dD (fun g=>g=sb) w w')
 (hs:Has w' sb (.cells (iP s'.eJ wb s'.values qs' dm tb s'.dQ s'.quiet s'.dE s'.fa).toArray 103)) (L5:Plain d s') (hl:qs'.length=8)
 (hqu:∀o,o<8->fH own (10+o) w' 263 4 (qs'.getD o undef) (s'.dX o).length ((s'.dX o).flatMap iF)) (hdn:s'.dU=s.dU) (hdo:s'.done=s.done) (hta:s'.eo=s.eo):eh P own w0 w' sb db wb dm tb tm v ps qs' d s':=by
 (have ne:∀g k,own g=k->k≠4->g≠sb:=fun g k hk h4 e=>by rw[e,h.fJ]at hk;exact h4 hk.symm);have nw:=ne wb 3 h.dZ.ow (by decide);refine⟨h.jT,h.kh,h.fF.trans (ht.lU h.le fun k hk e=>by have:=h.low sb ⟨by rw[h.fJ];decide,by rw[h.fJ];decide⟩;omega),h.low,fun g hg=>h.fr g (az ht.size hg),?_,h.hZ.er ht (ne _ 1 h.gq (by decide)),h.jf,h.gq,hs,h.fJ,L5,hl,hqu,?_,h.ix,?_,h.iQ,h.iR⟩
 ·rw[hdn];exact h.dZ.er ht nw fun k hk=>ne k 2 hk (by decide)
 ·rw[hdo];exact h.done.er ht (ne _ 5 h.ix (by decide))
 rw[hta];exact h.eo.er ht (ne _ 6 h.iQ (by decide)) (ne _ 7 h.iR (by decide))
theorem eh.pS {w w':World} (h:eh P own w0 w sb db wb dm tb tm v ps qs d s) (ht:dD (fun g=>g=sb) w w'):∀o,o<8->fH own (10+o) w' 263 4 (qs.getD o undef) (s.dX o).length ((s.dX o).flatMap iF):=
 fun o ho=>(h.dX o ho).ej ht (Ext.refl _ _) fun k _ hk e=>by rw[e,h.fJ]at hk;omega
theorem qU {t:eA} {wb dm tb:Nat} {LR:List fE} {qs:List Value} {e q n o:Int} (hv:LR.length=8) (hl:qs.length=8) (j:Nat) (u:Value) :
 (iP t wb LR qs dm tb e q n o).set (28+j) u=[.int .i64 t.dF,.int .i64 t.ei,.int .i64 t.eS,.pointer (some ⟨wb,0,none⟩)]++(LR.flatMap lp++(qs++([.map (some dm),.pointer (some ⟨tb,0,none⟩),.int .i64 e,.int .i64 q,.int .i64 n,.int .i64 o]:List Value).set j u)):=by
 (have QL:(LR.flatMap lp).length=16:=by rw[kS pQ,hv]);unfold iP;rw[bk _ _ (by simp;omega),bk _ _ (by rw[QL];simp;omega),bk _ _ (by rw[QL,hl];simp;omega),QL,hl];congr 3;congr 1;simp;omega
theorem eh.DK {w:World} (h:eh P own w0 w sb db wb dm tb tm v ps qs d s) (n:Int):eh P own w0 (w.setCell ⟨sb,32,none⟩ (.int .i64 n)) sb db wb dm tb tm v ps qs d {s with dE:=n}:=by
 have ht:dD (fun g=>g=sb) w (w.setCell ⟨sb,32,none⟩ (.int .i64 n)):=fp (dD.refl _ _) 32 _;refine h.kT ht ?_ ⟨h.ok.nv,h.ok.nq,h.ok.qc,h.ok.dk,h.ok.rc,h.ok.ql⟩ h.lq (h.pS ht) rfl rfl rfl;have:=h.s_.eu 32 (.int .i64 n);rw[aF,qU h.nv h.lq 4]at this;exact this
theorem eh.DL {w:World} (h:eh P own w0 w sb db wb dm tb tm v ps qs d s) (n:Int):eh P own w0 (w.setCell ⟨sb,33,none⟩ (.int .i64 n)) sb db wb dm tb tm v ps qs d {s with fa:=n}:=by
 have ht:dD (fun g=>g=sb) w (w.setCell ⟨sb,33,none⟩ (.int .i64 n)):=fp (dD.refl _ _) 33 _;refine h.kT ht ?_ ⟨h.ok.nv,h.ok.nq,h.ok.qc,h.ok.dk,h.ok.rc,h.ok.ql⟩ h.lq (h.pS ht) rfl rfl rfl;have:=h.s_.eu 33 (.int .i64 n);rw[aF,qU h.nv h.lq 5]at this;exact this
theorem wV (w:World) (n:Int) (h:eh P own w0 w sb db wb dm tb tm v ps qs d s) :
 Calls Tryz.prog 158 #[.pointer (some ⟨sb,0,none⟩),.int .i64 n] w fun e w'=>e=.returned (.tuple #[])/\eh P own w0 w' sb db wb dm tb tm v ps qs d (s.at_ n)/\dD (fun g=>g=sb) w w':=by
 have c4:=h.gQ 4 _ rfl
 have f4:=h.s_.frozen 32
 have H:=Hd h
 have ht:∀x,dD (fun g=>g=sb) w (w.setCell ⟨sb,32,none⟩ x):=fun x=>fp (dD.refl _ _) 32 _
 have HT:=Hd ht
 unfold dC.at_
 clear h ht
 go_enter Tryz.func158,Tryz.ntmps158
 go_wp2
 go_end0
 exact⟨rfl,H.o.DK _,HT.o _⟩
theorem DM (m:dH):s.jl m=(dI.eX m.dL&&(m.dQ==s.dQ)&&(m.fj==s.eo.fj m.dL)):=rfl
theorem tn (w:World) (m:dH) (h:eh P own w0 w sb db wb dm tb tm v ps qs d s) :
 Calls Tryz.prog 185 #[.pointer (some ⟨sb,0,none⟩),m.val] w fun e w'=>e=.returned (.bool (s.jl m))/\Below w.heap.size w w':=by
 have c5:=h.gQ 1 _ rfl;have c6:=h.gQ 2 _ rfl;have Kg:=h.s_.lt;rw[DM];obtain⟨mk,mc,mn,me,ms,mo,mv,ml,md⟩:=m;unfold dH.val;dsimp only;obtain⟨W1,Kh⟩:∃W1,W1=w.alloc (.cells #[.int .i64 mk,.int .i64 mc,.int .i64 mn,.int .i64 me,.int .i64 ms,.int .i64 mo,.int .i64 mv,.bool ml,.string ⟨md.toArray⟩] 109):=⟨_,rfl⟩;(have Kd:Below w.heap.size w W1:=by rw[Kh];exact (Below.refl _ _).alloc (aq _) _);have k5:W1.cell? ⟨sb,29,none⟩=some (.pointer (some ⟨tb,0,none⟩)):=(Kd.cell (p:=⟨sb,29,none⟩) Kg).trans c5;have k6:W1.cell? ⟨sb,30,none⟩=some (.int .i64 s.dQ):=(Kd.cell (p:=⟨sb,30,none⟩) Kg).trans c6;(have Kf:Has W1 w.heap.size (.cells #[.int .i64 mk,.int .i64 mc,.int .i64 mn,.int .i64 me,.int .i64 ms,.int .i64 mo,.int .i64 mv,.bool ml,.string ⟨md.toArray⟩] 109):=by rw[Kh];exact Has.new w _);have k1:W1.cell? ⟨w.heap.size,1,none⟩=some (.int .i64 mc):=Kf.cell 1;have k3:W1.cell? ⟨w.heap.size,3,none⟩=some (.int .i64 me):=Kf.cell 3;have k4:W1.cell? ⟨w.heap.size,4,none⟩=some (.int .i64 ms):=Kf.cell 4;have Le:gy W1 tb tm s.eo:=h.eo.below Kd;have Ki:=Hd Kd;obtain⟨sn,Tl⟩:∃sn,sn=s.eo.fj mc:=⟨_,rfl⟩
 obtain⟨ev,Lw⟩:∃ev,ev=fx (if dI.eX mc then 0 else 2):=⟨_,rfl⟩
 have Lb:Hy (Calls Tryz.prog 212 #[.pointer (some ⟨tb,0,none⟩),.int .i64 mc] W1.drew fun e w'=>e=.returned (.tuple #[.int .i64 sn,ev])/\W1.drew=w'):=Hd (by
  rw[Tl,Lw]
  exact vH mc Le.drew)
 rw[<- Tl];obtain⟨b1,Qe⟩:∃b1,b1=(me==s.dQ):=⟨_,rfl⟩;obtain⟨b2,NH⟩:∃b2,b2=(ms==sn):=⟨_,rfl⟩;have e1:(me==s.dQ)=b1:=Qe.symm;have e2:(ms==sn)=b2:=NH.symm;rw[e1,e2];(have TP:ev=if dI.eX mc then .nilIface else .iface 52 (.int .i64 2):=by rw[Lw];split<;>rfl);clear Lw Tl Qe NH h c5 c6 Le Kd
 cases KW:dI.eX mc with
 |false =>
  rw[KW]at TP;obtain rfl:ev=.iface 52 (.int .i64 2):=TP;clear KW;(go_enter Tryz.func185,Tryz.ntmps185);go_wp2;rw[<- Kh];clear Kh;go_region_held3 (fun W=>W.cell? ⟨sb,29,none⟩=some (.pointer (some ⟨tb,0,none⟩))/\W.cell? ⟨w.heap.size,1,none⟩=some (.int .i64 mc)) (go_keep) ((go_at_call 212;refine Lb.o.mono ?_;rintro e w' ⟨rfl,rfl⟩))
  all_goals
   (go_wp2_with fail);(go_quiet (fail));(go_wp2_with fail);go_ret;exact⟨rfl,below_drewN Ki.o.drew _⟩
 |true =>
  rw[KW]at TP;obtain rfl:ev=.nilIface:=TP;clear KW;cases b1<;>cases b2
  all_goals
   (go_enter Tryz.func185,Tryz.ntmps185);go_wp2;rw[<- Kh];clear Kh;go_region_held3 (fun W=>W.cell? ⟨sb,29,none⟩=some (.pointer (some ⟨tb,0,none⟩))/\W.cell? ⟨w.heap.size,1,none⟩=some (.int .i64 mc)) (go_keep) ((go_at_call 212;refine Lb.o.mono ?_;rintro e w' ⟨rfl,rfl⟩))
   all_goals
    (go_wp2_with fail);(go_quiet (fail));(go_wp2_with fail);go_ret;exact⟨rfl,below_drewN Ki.o.drew _⟩
end
section
variable {P:Lib.PrintTabs} {own:Nat->Nat} {w0:World} {sb db wb dm tb tm:Nat} {v:Value} {ps:List ByteArray} {qs:List Value} {d:dW} {s:dC}
theorem wW (w:World):Has (w.alloc (.cells #[.int .i64 0,.int .i64 0,.int .i64 0,.int .i64 0,.int .i64 0,.int .i64 0,.int .i64 0,.bool false,.string ⟨#[]⟩] 109)) w.heap.size (.cells #[.int .i64 0,.int .i64 0,.int .i64 0,.int .i64 0,.int .i64 0,.int .i64 0,.int .i64 0,.bool false,.string ⟨#[]⟩] 109):=Has.new _ _
theorem wX (m:dH):∃cs:Array Value,m.val=.agg cs/\cs.size=9/\cs.all (·.oneCell')=true:=⟨(fT m).toArray,rfl,rfl,by simp[fT,Value.oneCell']⟩
theorem qV {cs:Array Value} (h:cs.size=9):(Tryz.prog.info? 109).map (·.size)=some cs.size:=by rw[h];kernel_rfl
theorem wY (w:World) (c:Int) (h:eh P own w0 w sb db wb dm tb tm v ps qs d s) :
 Calls Tryz.prog 186 #[.pointer (some ⟨sb,0,none⟩),.int .i64 c] w fun e w'=>e=.returned (s.jz c).val/\Below w.heap.size w w':=by
 have H:=Hd h;clear h;(go_enter Tryz.func186,Tryz.ntmps186);(go_wp2_with fail);have Kd:Below w.heap.size w (w.alloc (.cells #[.int .i64 0,.int .i64 0,.int .i64 0,.int .i64 0,.int .i64 0,.int .i64 0,.int .i64 0,.bool false,.string ⟨#[]⟩] 109)):=(Below.refl _ _).alloc (aq _) _;have HZ:=Hd (wW w);refine (nQ _ {dI.gg with dT:=8,dL:=c} (H.o.below Kd)).mono ?_;rintro e W2 ⟨rfl,Ke⟩;have Kn:=Hd (Kd.trans (Ke.mono Kd.size));have HR:=Hd (HZ.o.below Ke HZ.o.lt);obtain⟨cs,LN,h9,h1⟩:=wX (s.eL {dI.gg with dT:=8,dL:=c});have HCS:=Hd LN;rw[LN];clear LN Kd Ke;(go_wp2_with (refine wpList_store_row rfl 109 (.tmp 4) (.tmp 8) rfl w.heap.size cs rfl rfl 109 _ HR.o (qV h9) (by rw[h9];rfl) h1 ?_));refine bodyPost_ret (results_cell_row Tryz.results186 _ _ w.heap.size 109 _ (0,0) _ rfl (HR.o.setRow _) Tryz.underlying109 rfl (qV h9)) rfl ⟨?_,below_setRow Kn.o (aq _) _⟩;rw[<- HCS.o];rfl
theorem wZ (w:World) (c:Int) (o:Nat) (ho:o<8) (h:eh P own w0 w sb db wb dm tb tm v ps qs d s) :
 Calls Tryz.prog 193 #[.pointer (some ⟨sb,0,none⟩),.int .i64 c,.int .i64 o] w fun e w'=>e=.returned (s.gv c o).val/\Below w.heap.size w w':=by
 have H:=Hd h;have Kd:Below w.heap.size w (w.alloc (.cells #[.int .i64 0,.int .i64 0,.int .i64 0,.int .i64 0,.int .i64 0,.int .i64 0,.int .i64 0,.bool false,.string ⟨#[]⟩] 109)):=(Below.refl _ _).alloc (aq _) _;have HZ:=Hd (wW w);have cV:=(h.nh o ho).2;have Kg:=h.s_.lt;(have M5:(o:Int)<8:=by omega);have Ki:=Hd Kd;clear h Kd;(go_enter Tryz.func193,Tryz.ntmps193);(go_wp2_with fail);refine (nQ _ {dI.gg with dT:=9,dL:=c,dF:=o,eI:=wrap64 ((s.value o).dY+1)} (H.o.below Ki.o)).mono ?_;rintro e W2 ⟨rfl,Ke⟩;have Kn:=Hd (Ki.o.trans (Ke.mono Ki.o.size));have HR:=Hd (HZ.o.below Ke HZ.o.lt);obtain⟨cs,LN,h9,h1⟩:=wX (s.eL {dI.gg with dT:=9,dL:=c,dF:=o,eI:=wrap64 ((s.value o).dY+1)});have HCS:=Hd LN;rw[LN];clear LN Ke cV;(go_wp2_with (refine wpList_store_row rfl 109 (.tmp 6) (.tmp 19) rfl w.heap.size cs rfl rfl 109 _ HR.o (qV h9) (by rw[h9];rfl) h1 ?_));refine bodyPost_ret (results_cell_row Tryz.results193 _ _ w.heap.size 109 _ (0,0) _ rfl (HR.o.setRow _) Tryz.underlying109 rfl (qV h9)) rfl ⟨?_,below_setRow Kn.o (aq _) _⟩;rw[<- HCS.o];rfl
end
theorem xa (x:fE):∀(LR:List fE) (o:Nat),o<LR.length->((LR.flatMap lp).set (o*2) (.string ⟨x.data.toArray⟩)).set (o*2+1) (.int .i64 x.dY)=(LR.set o x).flatMap lp
 | [],_,h=>by simp at h
 |y::l,0,_=>by simp[lp]
 |y::l,o+1,h=>by
  simp only[aJ]at h;have ih:=xa x l o (by omega);have e:(lp y).length=2:=rfl;rw[aG,aU,aU,<- ih,cI,dz,bk _ _ (by rw[e];omega),bk _ _ (by rw[e];omega),e,bT,show o*2+2+1-2=o*2+1 by omega]
theorem DN {t:eA} {wb dm tb:Nat} {LR:List fE} {qs:List Value} {e q n o:Int} (hv:LR.length=8) (k:Nat) (hk:k<8) (x:fE) :
 ((iP t wb LR qs dm tb e q n o).set (4+k*2) (.string ⟨x.data.toArray⟩)).set (4+k*2+1) (.int .i64 x.dY)=iP t wb (LR.set k x) qs dm tb e q n o:=by
 (have QL:(LR.flatMap lp).length=16:=by rw[kS pQ,hv]);unfold iP;rw[bk _ _ (by simp),bk _ _ (by simp;omega),show 4+k*2-([.int .i64 t.dF,.int .i64 t.ei,.int .i64 t.eS,.pointer (some ⟨wb,0,none⟩)]:List Value).length=k*2 by simp,show 4+k*2+1-([.int .i64 t.dF,.int .i64 t.ei,.int .i64 t.eS,.pointer (some ⟨wb,0,none⟩)]:List Value).length=k*2+1 by simp;omega];rw[cH _ _ (by rw[QL];omega),cH _ _ (by rw[aN,QL];omega),xa x LR k (by omega)]
section
variable {P:Lib.PrintTabs} {own:Nat->Nat} {w0:World} {sb db wb dm tb tm:Nat} {v:Value} {ps:List ByteArray} {qs:List Value} {d:dW} {s:dC}
theorem xb {w:World} (h:eh P own w0 w sb db wb dm tb tm v ps qs d s):s.done.length<=4:=by
 have:=qE (s.done.map (·.1)) [0,1,2,3] h.done.nodup (fun x hx=>by
  obtain⟨p,hp,rfl⟩:=bA.1 hx;have:=h.ok.dk p hp;have h2:p.1=0\/p.1=1\/p.1=2\/p.1=3:=by omega
  rcases h2 with h2|h2|h2|h2<;>rw[h2]<;>simp)
 simpa using this
theorem eh.DO {w w':World} (h:eh P own w0 w sb db wb dm tb tm v ps qs d s) (k:Nat) (hk:k<8) (x:fE) (ht:dD (fun g=>g=sb) w w')
 (hs:Has w' sb (.cells (((iP s.eJ wb s.values qs dm tb s.dQ s.quiet s.dE s.fa).toArray.setIfInBounds (4+k*2) (.string ⟨x.data.toArray⟩)).setIfInBounds (4+k*2+1) (.int .i64 x.dY)) 103)):eh P own w0 w' sb db wb dm tb tm v ps qs d {s with values:=s.values.set k x}:=by
 refine h.kT ht ?_ ⟨by show (s.values.set k x).length=8;rw[aN];exact h.nv,h.nq,h.ok.qc,h.ok.dk,h.ok.rc,h.ok.ql⟩ h.lq (h.pS ht) rfl rfl rfl;rw[aF,aF,DN h.nv k hk]at hs;exact hs
theorem eh.xf {w w':World} (h:eh P own w0 w sb db wb dm tb tm v ps qs d s) (c:Int) (hc:0<=c/\c<4) (m:dH) (hm:At kC w' dm (put c m s.done)) (hg:w.grownBy w' (some dm)):eh P own w0 w' sb db wb dm tb tm v ps qs d {s with done:=put c m s.done}:=by
 have ht:dD (fun g=>g=dm) w w':=⟨hg.os,hg.tape,hg.output,hg.size,fun k hk hn=>hg.block k hk (fun e=>hn (by simpa using e))⟩;(have ne:∀g k,own g=k->k≠5->g≠dm:=fun g k hk h4 e=>by rw[e,h.ix]at hk;exact h4 hk.symm);refine⟨h.jT,h.kh,h.fF.trans (ht.lU h.le fun k hk e=>by have:=h.low dm ⟨by rw[h.ix];decide,by rw[h.ix];decide⟩;omega),h.low,fun g hg=>h.fr g (az ht.size hg),h.dZ.er ht (ne _ 3 h.dZ.ow (by decide)) fun k hk=>ne k 2 hk (by decide),h.hZ.er ht (ne _ 1 h.gq (by decide)),h.jf,h.gq,ht.has h.s_ (ne _ 4 h.fJ (by decide)),h.fJ,⟨h.nv,h.nq,h.ok.qc,fun p hp=>?_,h.ok.rc,h.ok.ql⟩,h.lq,fun o ho=>(h.dX o ho).ej ht (Ext.refl _ _) fun k _ hk=>ne k _ hk (by omega),hm,h.ix,h.eo.er ht (ne _ 6 h.iQ (by decide)) (ne _ 7 h.iR (by decide)),h.iQ,h.iR⟩;rcases aM.1 hp with rfl|hp
 ·exact hc
 exact h.ok.dk p ((nG _ _).mem hp)
theorem xg (w:World) (r:Rec) (o:Nat) (ho:o<8) (KQ:r.dF=o) (hc:0<=r.dL/\r.dL<4) (h:eh P own w0 w sb db wb dm tb tm v ps qs d s) :
 Calls Tryz.prog 57 #[.pointer (some ⟨sb,0,none⟩),ke r] w fun e w'=>e=.returned (s.iK r).2.val/\eh P own w0 w' sb db wb dm tb tm v ps qs d (s.iK r).1/\dD (fun g=>g=sb\/g=dm) w w':=by
 obtain⟨rc,rn,ro,rv,rd,re⟩:=r;dsimp only at KQ hc;subst KQ;obtain⟨W1,Kh⟩:∃W1,W1=(w.alloc (.cells (kd rc rn (o:Int) rv ⟨rd.toArray⟩ re) 107)).alloc (.cells #[.int .i64 0,.int .i64 0,.int .i64 0,.int .i64 0,.int .i64 0,.int .i64 0,.int .i64 0,.bool false,.string ⟨#[]⟩] 109):=⟨_,rfl⟩;(have Kd:Below w.heap.size w W1:=by rw[Kh];exact ((Below.refl _ _).alloc (aq _) _).alloc (by simp) _);(have Ol:W1.heap.size=w.heap.size+2:=by rw[Kh];simp);(have Kf:Has W1 w.heap.size (.cells (kd rc rn (o:Int) rv ⟨rd.toArray⟩ re) 107):=by rw[Kh];exact (Has.new w _).alloc _);(have LS:Has W1 (w.heap.size+1) (.cells #[.int .i64 0,.int .i64 0,.int .i64 0,.int .i64 0,.int .i64 0,.int .i64 0,.int .i64 0,.bool false,.string ⟨#[]⟩] 109):=by rw[Kh,<- World.size_alloc w];exact Has.new _ _);have h1:=h.below Kd;have Kg:=h.s_.lt;have HLD:=Hd (xb h);have RI:=Hd h.done.lt;have Md:=Hd h.fr;have Te:=Hd h.le;have OD:Hy (gi rc):=Hd (WalkArith.wf_i64 (by omega));have x2:W1.cell? ⟨w.heap.size,2,none⟩=some (.int .i64 o):=Kf.cell 2;have x3:W1.cell? ⟨w.heap.size,3,none⟩=some (.int .i64 rv):=Kf.cell 3;have x4:W1.cell? ⟨w.heap.size,4,none⟩=some (.string ⟨rd.toArray⟩):=Kf.cell 4;have cv:=h1.nh o ho;have c0:=cv.1;have c1:=cv.2;have f0:=h1.s_.frozen (4+o*2);have f1:=h1.s_.frozen (4+o*2+1);(have M5:(o:Int)<8:=by omega);have Km:w.heap.size≠sb:=Nat.ne_of_gt Kg;have H1:=Hd h1;have HX:=Hd Kf;have HR:=Hd LS;have HB:=Hd Kd;have HC:=Hd hc
 have Kq:∀(u v:Value),(((W1.setCell ⟨sb,4+o*2,none⟩ u).setCell ⟨sb,4+o*2+1,none⟩ v).drew.cell? ⟨w.heap.size,2,none⟩=some (.int .i64 o)/\((W1.setCell ⟨sb,4+o*2,none⟩ u).setCell ⟨sb,4+o*2+1,none⟩ v).drew.cell? ⟨w.heap.size,3,none⟩=some (.int .i64 rv)/\((W1.setCell ⟨sb,4+o*2,none⟩ u).setCell ⟨sb,4+o*2+1,none⟩ v).drew.cell? ⟨w.heap.size,4,none⟩=some (.string ⟨rd.toArray⟩)):=fun u v =>
  ⟨(World.cell?_setCell_far _ _ _ _ Km.symm).trans ((World.cell?_setCell_far _ _ _ _ Km.symm).trans x2),(World.cell?_setCell_far _ _ _ _ Km.symm).trans ((World.cell?_setCell_far _ _ _ _ Km.symm).trans x3),(World.cell?_setCell_far _ _ _ _ Km.symm).trans ((World.cell?_setCell_far _ _ _ _ Km.symm).trans x4)⟩
 unfold ke;clear h h1 Kf LS Kd cv hc;(go_enter Tryz.func57,Tryz.ntmps57);go_wp2;rw[<- Kh];clear Kh;(go_region_held3 (fun W=>W.cell? ⟨w.heap.size,2,none⟩=some (.int .i64 o)/\W.cell? ⟨w.heap.size,3,none⟩=some (.int .i64 rv)/\W.cell? ⟨w.heap.size,4,none⟩=some (.string ⟨rd.toArray⟩)) (first|exact Kq _ _|go_keep) (fail));obtain⟨W2,Kv⟩:∃W2,W2=((W1.setCell ⟨sb,4+o*2,none⟩ (.string ⟨rd.toArray⟩)).setCell ⟨sb,4+o*2+1,none⟩ (.int .i64 rv)).drew:=⟨_,rfl⟩;(have Kr:dD (fun g=>g=sb) W1 W2:=by rw[Kv];exact (fp (fp (dD.refl _ _) _ _) _ _).drew);have h2:eh P own w0 W2 sb db wb dm tb tm v ps qs d {s with values:=s.values.set o ⟨rd,rv⟩}:=H1.o.DO o ho ⟨rd,rv⟩ Kr (by rw[Kv];exact ((H1.o.s_.eu _ _).eu _ _).drew);have KA:Has W2 w.heap.size (.cells (kd rc rn o rv ⟨rd.toArray⟩ re) 107):=Kr.has HX.o Km;(have KY:W2.heap.size=w.heap.size+2:=by rw[Kv,<- Ol];simp[World.setCell]);have Ld:=Hd (Kr.has HR.o (by omega));have K4:=Hd Kr;have H2:=Hd h2;have KV:=Hd KA;have y0:W2.cell? ⟨w.heap.size,0,none⟩=some (.int .i64 rc):=KA.cell 0;have y1:W2.cell? ⟨w.heap.size,1,none⟩=some (.int .i64 rn):=KA.cell 1;have y2:W2.cell? ⟨w.heap.size,2,none⟩=some (.int .i64 o):=KA.cell 2;have y3:W2.cell? ⟨w.heap.size,3,none⟩=some (.int .i64 rv):=KA.cell 3;rw[<- Kv];clear Kv h2 KA Kr x2 x3 x4 c0 c1 f0 f1 Kq;(go_wp2_with fail);obtain⟨W3,Kz⟩:∃W3,W3=W2.alloc (.cells #[.int .i64 6,.int .i64 rc,.int .i64 rn,.int .i64 0,.int .i64 0,.int .i64 (o:Int),.int .i64 rv,.bool false,.string ⟨#[]⟩] 109):=⟨_,rfl⟩;(have Kk:Below W2.heap.size W2 W3:=by rw[Kz];exact (Below.refl _ _).alloc (aq _) _);(have gm:Has W3 (w.heap.size+2) (.cells #[.int .i64 6,.int .i64 rc,.int .i64 rn,.int .i64 0,.int .i64 0,.int .i64 (o:Int),.int .i64 rv,.bool false,.string ⟨#[]⟩] 109):=by rw[Kz,<- KY];exact Has.new _ _);have h3:=H2.o.below Kk;have g28:W3.cell? ⟨sb,28,none⟩=some (.map (some dm)):=h3.gQ 0 _ rfl;have gx0:W3.cell? ⟨w.heap.size,0,none⟩=some (.int .i64 rc):=(KV.o.below Kk (by omega)).cell 0;have TQ:=Hd h3.done;have H3:=Hd h3;have Nx:=Hd (Ld.o.below Kk (by omega));have LQ:=Hd (K4.o.gn Kk (aq _));(have NJ:W3.heap.size=w.heap.size+3:=by rw[Kz];simp;omega);rw[<- Kz];clear Kz Kk h3 y0 y1 y2 y3;have HS:Hy (W3.drew.cell? ⟨sb,28,none⟩=some (.map (some dm))/\W3.drew.cell? ⟨w.heap.size,0,none⟩=some (.int .i64 rc)/\Has W3.drew (w.heap.size+2) (.cells #[.int .i64 6,.int .i64 rc,.int .i64 rn,.int .i64 0,.int .i64 0,.int .i64 (o:Int),.int .i64 rv,.bool false,.string ⟨#[]⟩] 109)):=Hd ⟨g28,gx0,gm⟩;refine last.head (fun W=>W.cell? ⟨sb,28,none⟩=some (.map (some dm))/\W.cell? ⟨w.heap.size,0,none⟩=some (.int .i64 rc)/\Has W (w.heap.size+2) (.cells #[.int .i64 6,.int .i64 rc,.int .i64 rn,.int .i64 0,.int .i64 0,.int .i64 (o:Int),.int .i64 rv,.bool false,.string ⟨#[]⟩] 109)) 7 8 ?_;refine last.many [(0,26,_),(1,27,_),(2,28,_),(3,29,_),(4,30,_),(5,31,_),(6,32,_)] HS.o ?_ (hy:=fun W' Kc=>by have h1:=Kc.1;have f0:=Kc.2.1;have e0:W'.cell? ⟨w.heap.size+2,0,none⟩=some (.int .i64 6):=Kc.2.2.cell 0;have e1:W'.cell? ⟨w.heap.size+2,1,none⟩=some (.int .i64 rc):=Kc.2.2.cell 1;have e2:W'.cell? ⟨w.heap.size+2,2,none⟩=some (.int .i64 rn):=Kc.2.2.cell 2;have e3:W'.cell? ⟨w.heap.size+2,3,none⟩=some (.int .i64 0):=Kc.2.2.cell 3;have e4:W'.cell? ⟨w.heap.size+2,4,none⟩=some (.int .i64 0):=Kc.2.2.cell 4;have e5:W'.cell? ⟨w.heap.size+2,5,none⟩=some (.int .i64 (o:Int)):=Kc.2.2.cell 5;have e6:W'.cell? ⟨w.heap.size+2,6,none⟩=some (.int .i64 rv):=Kc.2.2.cell 6;have e7:W'.cell? ⟨w.heap.size+2,7,none⟩=some (.bool false):=Kc.2.2.cell 7;have e8:W'.cell? ⟨w.heap.size+2,8,none⟩=some (.string ⟨#[]⟩):=Kc.2.2.cell 8;repeat (first|exact .z|refine .s ?_|refine .k ?_));refine last.one 7 fun K hK=>?_;refine pK kC (.tmp 29) (.tmp 31) (.tmp 32) rfl rfl (TQ.o.drew) (by show s.done.length<maxLen;unfold maxLen;have:=HLD.o;omega) (k:=rc) (u:=(s.iK ⟨rc,rn,o,rv,rd,re⟩).2) OD.o trivial rfl rfl ?_;intro w4 hm4 Lq;refine hK.out _ _ (fun h=>absurd rfl h) ?_;refine last.done ?_;have h4:=(H3.o.below ((Below.refl _ _).drew)).xf rc HC.o _ hm4 Lq;have U5:=Lq.size;(have hs4':w.heap.size+3<=w4.heap.size:=by rw[<- NJ];exact U5);have H4:=Hd h4
 have HDM:dm≠w.heap.size+1/\dm≠w.heap.size+2:=by
  have:=RI.o;omega
 have HM4:Hy (Has w4 (w.heap.size+2) (.cells #[.int .i64 6,.int .i64 rc,.int .i64 rn,.int .i64 0,.int .i64 0,.int .i64 (o:Int),.int .i64 rv,.bool false,.string ⟨#[]⟩] 109)):=Hd (gm.drew.grown Lq (fun e=>HDM.2 (by simpa using e.symm)));have OH:=Hd (Nx.o.drew.grown Lq (fun e=>HDM.1 (by simpa using e.symm)));have RJ:Hy (dD (fun g=>g=sb\/g=dm) W1 w4):=Hd ((LQ.o.mono fun _ _ h=>.inl h).drew.grown Lq (fun k hk=>.inr (.inr (by simpa using hk.symm))));clear h4 hm4 Lq hK K gm g28 gx0 LQ Nx
 go_wp2_with (first
  |(refine wpList_load_row rfl 109 (.tmp 5) rfl (w.heap.size+2) rfl 109 _ (0,0) _ HM4.o Tryz.underlying109 rfl (by kernel_rfl) ?_)
  |(refine wpList_store_row rfl 109 (.tmp 4) (.tmp 33) rfl (w.heap.size+1) _ rfl rfl 109 _ OH.o (by kernel_rfl) (by kernel_rfl) (by kernel_rfl) ?_))
 have h5:=H4.o.nf (S:=fun g=>g=w.heap.size+1) (w':=w4.setRow (w.heap.size+1) #[.int .i64 6,.int .i64 rc,.int .i64 rn,.int .i64 0,.int .i64 0,.int .i64 o,.int .i64 rv,.bool false,.string ⟨#[]⟩]) (dD.setRow (S:=fun g=>g=w.heap.size+1) (dD.refl _ _) (.inr rfl) _) fun g _ hg=>⟨Md.o g (by omega),by have:=Te.o;omega⟩;refine bodyPost_ret (results_cell_row Tryz.results57 _ _ (w.heap.size+1) 109 _ (0,0) _ rfl (OH.o.setRow _) Tryz.underlying109 rfl (by kernel_rfl)) rfl ⟨rfl,h5,?_⟩;exact ((dD.fw HB.o (aq _)).trans RJ.o (fun _ _ h=>h)).setRow (.inl (by omega)) _
end
theorem mZ {B:Nat} {w w1:World} {e:TypeId} {size n:Nat} {v:Value} {xs:List Value} (h:w.ownsRow B e size v n xs) (hb:∀g,v.ownBlock=some g->w1.heap[g]?=w.heap[g]?):w1.ownsRow B e size v n xs:=by
 refine⟨h.1,?_⟩;rcases h.2 with h2|⟨g,cap,cur,h1,h2,h3,h4⟩
 ·exact .inl h2
 exact .inr ⟨g,cap,cur,h1,h2,(hb g (by rw[h1];rfl)).trans h3,h4⟩
def eE (B:Nat) (w:World) (v:Value) (l:List dH):Prop:=w.ownsRow B 109 9 v l.length (l.flatMap fT)
theorem eE.nil (B:Nat) (w:World):eE B w (.slice none 0 0) []:=World.ownsRow_nil w B _ 9
theorem eE.below {B:Nat} {w w':World} {v:Value} {l:List dH} (h:eE B w v l) (hb:Below w.heap.size w w'):eE B w' v l:=jE h hb
theorem eE.base {B B':Nat} {w:World} {v:Value} {l:List dH} (h:eE B w v l) (hb:B'<=B):eE B' w v l:=kO h hb
theorem eE.er {B:Nat} {w w':World} {v:Value} {l:List dH} {S:Nat->Prop} (h:eE B w v l) (ht:dD S w w') (hs:∀g,B<=g->g<w.heap.size->¬S g):eE B w' v l:=
 mZ h fun g hg=>by
  have h1:=h.lt g hg;exact ht.block g h1.2 (hs g h1.1 h1.2)
theorem eE.new {w:World} {l:List dH} (hl:l.length<=1000):eE w.heap.size (w.alloc (.cells (l.flatMap fT).toArray 109)) (.slice (some ⟨w.heap.size,0,none⟩) l.length l.length) l:=
 qD (Has.new w _) (aq _) (kS pP l) (by unfold maxLen;omega)
def qW:Value:=.agg #[.int .i64 0,.int .i64 0,.int .i64 0,.int .i64 0,.int .i64 0,.int .i64 0,.int .i64 0,.bool false,.string ByteArray.empty]
theorem DP (m:dH):Instr.fill (fun i=>some (i*9,9)) ((Array.range (1*9)).map (qW.cells[·%qW.cells.size]!)) [(0,m.val)]=some (([m]:List dH).flatMap fT).toArray:=by
 obtain⟨a,b,c,d,e,f,g,l,s⟩:=m
 kernel_rfl
theorem DQ (m m':dH):Instr.fill (fun i=>some (i*9,9)) ((Array.range (2*9)).map (qW.cells[·%qW.cells.size]!)) [(0,m.val),(1,m'.val)]=some (([m,m']:List dH).flatMap fT).toArray:=by
 obtain⟨a,b,c,d,e,f,g,l,s⟩:=m
 obtain⟨a',b',c',d',e',f',g',l',s'⟩:=m'
 kernel_rfl
section
variable {ops:Array Oper} {rest:List Oper} {o:Oper} {a:Act} {w:World} {K:Act->World->Prop} {Q:Exit->Act->World->Prop}
theorem xh (x:Operand) (m:dH) (ho:o.op=.buildSlice 183 1 #[(0,x)]) (hx:a.eval x=m.val)
 (h:K (a.put o.dst (.slice (some ⟨w.heap.size,0,none⟩) 1 1)) (w.alloc (.cells (([m]:List dH).flatMap fT).toArray 109))):o.wp Tryz.prog a w K Q:=by
 obtain⟨i0,KO,La,KH,KD⟩:=info_parts qS;refine wp_buildSlice 183 109 1 _ ho _ i0 _ Tryz.underlying183 KO La (by rw[KH];decide) (by rw[KH];decide) ?_ h;rw[KH];(have e:((#[(0,x)]:Array (Nat×Operand)).map fun (i,x)=>(i,a.eval x)).toList=[(0,m.val)]:=by simp[hx]);rw[e];exact DP m
theorem kU (hg:o.guard=none) (x:Operand) (m:dH) (ho:o.op=.buildSlice 183 1 #[(0,x)]) (hx:a.eval x=m.val)
 (h:wpList Tryz.prog ops Q rest (a.put o.dst (.slice (some ⟨w.heap.size,0,none⟩) 1 1)) (w.alloc (.cells (([m]:List dH).flatMap fT).toArray 109))):wpList Tryz.prog ops Q (o::rest) a w:=
 wpList_plain hg fun _ hK=>xh x m ho hx (hK _ _ h)
theorem DR (x x':Operand) (m m':dH) (ho:o.op=.buildSlice 183 2 #[(0,x),(1,x')]) (hx:a.eval x=m.val) (YW:a.eval x'=m'.val)
 (h:K (a.put o.dst (.slice (some ⟨w.heap.size,0,none⟩) 2 2)) (w.alloc (.cells (([m,m']:List dH).flatMap fT).toArray 109))):o.wp Tryz.prog a w K Q:=by
 obtain⟨i0,KO,La,KH,KD⟩:=info_parts qS;refine wp_buildSlice 183 109 2 _ ho _ i0 _ Tryz.underlying183 KO La (by rw[KH];decide) (by rw[KH];decide) ?_ h;rw[KH];(have e:((#[(0,x),(1,x')]:Array (Nat×Operand)).map fun (i,x)=>(i,a.eval x)).toList=[(0,m.val),(1,m'.val)]:=by simp[hx,YW]);rw[e];exact DQ m m'
theorem xi (x y:Operand) {B B':Nat} (hB:B<=w.heap.size) (v u:Value) (l n:List dH) (ho:o.op=.call {callee:=.builtin .append,args:=#[x,y],argTypes:=#[183,183]}) (hx:a.eval x=v) (hy:a.eval y=u)
 (hl:eE B w v l) (hn:eE B' w u n) (Km:n≠[]) (Rc:l.length+n.length<=1000000) (H:Nat) (hH:w.heap.size=H)
 (h:∀v' w',eE B w' v' (l++n)->w.grownBy w' v.ownBlock->(∀g,v'.ownBlock=some g->v.ownBlock=some g\/g=H)->K (a.put o.dst v') w'):o.wp Tryz.prog a w K Q:=by
 obtain⟨i0,KO,La,KH,KD⟩:=info_parts qS;have adi:0<n.length:=List.length_pos_iff.2 Km;rcases hn.2 with⟨-,h0⟩|⟨g,cap,cur,rfl,hb,hh,h1,h2,h3,h4⟩
 ·omega
 refine wp_append_lies w x y 183 ho B 109 i0 _ 9 80 Tryz.underlying183 KO La KH KD rfl (by decide) v l.length (l.flatMap fT) hx hl ⟨g,0,none⟩ n.length cap (n.flatMap fT) hy (kS pP n) (fun j u hj=>?_) (tf wT n) adi (by unfold maxLen;omega) (by omega) hB H hH fun g' Ku w' r1 r2 r3 _=>h _ _ ?_ r2 ?_
 ·(have Pl:j<n.length*9:=by rw[<- kS pP n];exact (ar.1 hj).1);(have e1:(⟨g,0,none⟩:Addr).add j=⟨g,j,none⟩:=by by_cases h0:j=0<;>simp[Addr.add,h0]);rw[e1,(ij hh h4 j Pl).1,hj]
 ·unfold eE;rw[aA,bY];exact r1
 intro g'' adj;(obtain rfl:g'=g'':=by simpa[Value.ownBlock]using adj);exact r3
end
theorem xm (x y:Int) (w:World):Calls Tryz.prog 187 #[.int .i64 x,.int .i64 y] w fun e w'=>∃ev,e=.returned (.tuple #[.int .i64 (dI.jQ x y),ev])/\w=w':=by
 by_cases h:0<=x/\x<=1099511627776/\0<=y/\y<=1099511627776
 ·have e:dI.jQ x y=min (x+y) 1099511627776:=by
   unfold dI.jQ;rw[if_pos (by rw[aK,fD.iN,fD.iN,eK.mU];omega)];rfl
  rw[e];exact (clock.DU x y w h.1 h.2.1 h.2.2.1 h.2.2.2).mono fun _ _ ⟨h1,h2⟩=>⟨_,h1,h2⟩
 have e:dI.jQ x y=0:=by
  unfold dI.jQ;rw[if_neg (by rw[aK,fD.iN,fD.iN,eK.mU];omega)]
 rw[e];exact (clock.DV x y w h).mono fun _ _ ⟨h1,h2⟩=>⟨_,h1,h2⟩
section
variable {P:Lib.PrintTabs} {own:Nat->Nat} {w0:World} {sb db wb dm tb tm:Nat} {v:Value} {ps:List ByteArray} {qs:List Value} {d:dW} {s:dC}
theorem eh.setTable {w w':World} (h:eh P own w0 w sb db wb dm tb tm v ps qs d s) (ht:dD (fun g=>g=tb\/g=tm) w w') (t:eY) (hT:gy w' tb tm t):eh P own w0 w' sb db wb dm tb tm v ps qs d {s with eo:=t}:=by
 have ne:∀g k,own g=k->k≠6->k≠7->¬(g=tb\/g=tm):=fun g k hk h4 h5 e=>by
  rcases e with e|e
  ·rw[e,h.iQ]at hk;exact h4 hk.symm
  rw[e,h.iR]at hk;exact h5 hk.symm
 refine⟨h.jT,h.kh,h.fF.trans (ht.lU h.le fun k hk e=>?_),h.low,fun g hg=>h.fr g (az ht.size hg),h.dZ.er ht (ne _ 3 h.dZ.ow (by decide) (by decide)) fun k hk=>ne k 2 hk (by decide) (by decide),h.hZ.er ht (ne _ 1 h.gq (by decide) (by decide)),h.jf,h.gq,ht.has h.s_ (ne _ 4 h.fJ (by decide) (by decide)),h.fJ,⟨h.nv,h.nq,h.ok.qc,h.ok.dk,h.ok.rc,h.ok.ql⟩,h.lq,fun o ho=>(h.dX o ho).ej ht (Ext.refl _ _) fun k _ hk=>ne k _ hk (by omega) (by omega),h.done.er ht (ne _ 5 h.ix (by decide) (by decide)),h.ix,hT,h.iQ,h.iR⟩;have h1:=h.low tb ⟨by rw[h.iQ];decide,by rw[h.iQ];decide⟩;have h2:=h.low tm ⟨by rw[h.iR];decide,by rw[h.iR];decide⟩;omega
theorem DW (w:World) (m:dH) (o:Nat) (ho:o<8) (Pp:m.dF=o) (RL:0<=m.dL/\m.dL<4) (h:eh P own w0 w sb db wb dm tb tm v ps qs d s) :
 Calls Tryz.prog 159 #[.pointer (some ⟨sb,0,none⟩),m.val] w fun e w'=>∃u,e=.returned u/\eE w.heap.size w' u (s.reads m).1/\eh P own w0 w' sb db wb dm tb tm v ps qs d (s.reads m).2/\dD (fun g=>g=tb\/g=tm) w w':=by
 obtain⟨mk,mc,mn,me,ms,mo,mv,ml,md⟩:=m;dsimp only at Pp RL;subst Pp;obtain⟨W1,Kh⟩:∃W1,W1=w.alloc (.cells (gE mk mc mn me ms o mv ml ⟨md.toArray⟩) 109):=⟨_,rfl⟩;(have Kd:Below w.heap.size w W1:=by rw[Kh];exact (Below.refl _ _).alloc (aq _) _);(have Ol:W1.heap.size=w.heap.size+1:=by rw[Kh];simp);(have Kf:Has W1 w.heap.size (.cells (gE mk mc mn me ms o mv ml ⟨md.toArray⟩) 109):=by rw[Kh];exact Has.new w _);have h1:=h.below Kd;have Kg:=h.s_.lt;have x5:W1.cell? ⟨w.heap.size,5,none⟩=some (.int .i64 o):=Kf.cell 5;have c0:=(h1.nh o ho).1;have c1:=(h1.nh o ho).2;(have M5:(o:Int)<8:=by omega);have Km:w.heap.size≠sb:=Nat.ne_of_gt Kg;have H:=Hd h;have H1:=Hd h1;have HX:=Hd Kf;have HB:=Hd Kd;unfold dH.val;dsimp only;clear h h1 Kf Kd;(go_enter Tryz.func159,Tryz.ntmps159);go_wp2;rw[<- Kh];clear Kh;(go_region_held3 (fun W=>W.cell? ⟨w.heap.size,5,none⟩=some (.int .i64 o)/\W.cell? ⟨sb,4+o*2,none⟩=some (.string ⟨(s.value o).data.toArray⟩)/\W.cell? ⟨sb,4+o*2+1,none⟩=some (.int .i64 (s.value o).dY)) (go_keep) (fail));obtain⟨W2,Kv⟩:∃W2,W2=(W1.alloc (.cells #[.string ⟨(s.value o).data.toArray⟩,.int .i64 (s.value o).dY] 98)).drew:=⟨_,rfl⟩;(have Ke:Below w.heap.size w W2:=by rw[Kv];exact (HB.o.alloc HB.o.size _).drew);(have KY:W2.heap.size=w.heap.size+2:=by rw[Kv];show (W1.alloc _).heap.size=_;rw[World.size_alloc,Ol]);(have KA:Has W2 w.heap.size (.cells (gE mk mc mn me ms o mv ml ⟨md.toArray⟩) 109):=by rw[Kv];exact (HX.o.alloc _).drew);(have TR:Has W2 (w.heap.size+1) (.cells #[.string ⟨(s.value o).data.toArray⟩,.int .i64 (s.value o).dY] 98):=by rw[Kv,<- Ol];exact (Has.new W1 _).drew);have h2:=H.o.below Ke;have y1:W2.cell? ⟨w.heap.size,1,none⟩=some (.int .i64 mc):=KA.cell 1;have y2:W2.cell? ⟨w.heap.size,2,none⟩=some (.int .i64 mn):=KA.cell 2;have y5:W2.cell? ⟨w.heap.size,5,none⟩=some (.int .i64 o):=KA.cell 5;have v0:W2.cell? ⟨w.heap.size+1,0,none⟩=some (.string ⟨(s.value o).data.toArray⟩):=TR.cell 0;have v1:W2.cell? ⟨w.heap.size+1,1,none⟩=some (.int .i64 (s.value o).dY):=TR.cell 1;have H2:=Hd h2;have KV:=Hd KA;have Kn:=Hd Ke;rw[<- Kv];clear Kv h2 KA TR Ke x5 c0 c1 H1 HX HB;(go_wp2_with fail);refine (nQ _ {dI.gg with dT:=5,dL:=mc,dN:=mn,dF:=o,eI:=(s.value o).dY,data:=(s.value o).data} H2.o).mono ?_;rintro e W3 ⟨rfl,Kk⟩;have hs23:=Kk.size;obtain⟨r,hr⟩:∃r,r=s.eL {dI.gg with dT:=5,dL:=mc,dN:=mn,dF:=o,eI:=(s.value o).dY,data:=(s.value o).data}:=⟨_,rfl⟩;rw[<- hr];obtain⟨rk,rc,rn,re,rs,ro,rv,rl,rd⟩:=r;have YX:=Hd hr;unfold dH.val;dsimp only;have HY3:=Hd (KV.o.below Kk KV.o.lt);have H3:=Hd (H2.o.below Kk);have Lf:=Hd (Kn.o.trans (Kk.mono Kn.o.size));clear hr Kk y1 y2 y5 v0 v1 H2 KV Kn;obtain⟨W4,MX⟩:∃W4,W4=W3.alloc (.cells (gE rk rc rn re rs ro rv rl ⟨rd.toArray⟩) 109):=⟨_,rfl⟩;(have KB:Below W3.heap.size W3 W4:=by rw[MX];exact (Below.refl _ _).alloc (aq _) _);have OH:Hy (Has W4 W3.heap.size (.cells (gE rk rc rn re rs ro rv rl ⟨rd.toArray⟩) 109)):=Hd (by rw[MX];exact Has.new _ _);have LC:=Hd (HY3.o.below KB HY3.o.lt);have H4:=Hd (H3.o.below KB);have KG:=Hd (Lf.o.trans (KB.mono Lf.o.size));(have hs34:w.heap.size+2<=W3.heap.size:=by have:=HY3.o.lt;have:=Lf.o.size;omega);(go_upto_region 3 with fail);rw[<- MX];clear MX KB HY3 H3;have OI:Hy (Calls Tryz.prog 185 #[.pointer (some ⟨sb,0,none⟩),.agg (gE mk mc mn me ms o mv ml ⟨md.toArray⟩)] W4 fun e w'=>e=.returned (.bool (s.jl ⟨mk,mc,mn,me,ms,o,mv,ml,md⟩))/\Below W4.heap.size W4 w'):=Hd (tn W4 ⟨mk,mc,mn,me,ms,o,mv,ml,md⟩ H4.o)
 have Ll:Hy ((s.reads ⟨mk,mc,mn,me,ms,o,mv,ml,md⟩)=if !s.jl ⟨mk,mc,mn,me,ms,o,mv,ml,md⟩ then ([⟨rk,rc,rn,re,rs,ro,rv,rl,rd⟩,s.jz mc],s) else if (s.dX o).isEmpty then ([{ (⟨rk,rc,rn,re,rs,ro,rv,rl,rd⟩:dH)with fu:=decide ((s.eo.dF mc o (dI.jQ s.dE s.eJ.dF)).1=0)}],{s with eo:=(s.eo.dF mc o (dI.jQ s.dE s.eJ.dF)).2}) else ([⟨rk,rc,rn,re,rs,ro,rv,rl,rd⟩],s)):=Hd (by
  rw[YX.o]
  rfl)
 obtain⟨R,hR⟩:∃R,R=s.reads ⟨mk,mc,mn,me,ms,o,mv,ml,md⟩:=⟨_,rfl⟩
 cases OE:s.jl ⟨mk,mc,mn,me,ms,o,mv,ml,md⟩with
 |false =>
  as_aux_lemma =>
   rw[OE]at Ll OI
   go_wp2_with (first
    |(refine wpList_load_row rfl 109 (.tmp 3) rfl w.heap.size rfl 109 _ (0,0) _ LC.o Tryz.underlying109 rfl (by kernel_rfl) ?_)
    |(go_at_call 185;refine OI.o.mono ?_;rintro e W5 ⟨rfl,Kx⟩))
   have OX:=Hd (OH.o.below Kx OH.o.lt);have L6:=Hd (LC.o.below Kx LC.o.lt);have H5:=Hd (H4.o.below Kx);have L1:=Hd (KG.o.trans (Kx.mono KG.o.size));clear Kx OH LC H4 KG;have HS:=Hd (And.intro OX.o.drew L6.o.drew);refine last.head (fun W=>Has W W3.heap.size (.cells (gE rk rc rn re rs ro rv rl ⟨rd.toArray⟩) 109)/\Has W w.heap.size (.cells (gE mk mc mn me ms o mv ml ⟨md.toArray⟩) 109)) 1000 7 ?_;refine last.many [(0,33,_),(1,34,_),(2,35,_),(3,36,_)] HS.o ?_ (hy:=fun W' Kc=>by have e0:W'.cell? ⟨W3.heap.size,0,none⟩=some (.int .i64 rk):=Kc.1.cell 0;have e1:W'.cell? ⟨W3.heap.size,1,none⟩=some (.int .i64 rc):=Kc.1.cell 1;have e2:W'.cell? ⟨W3.heap.size,2,none⟩=some (.int .i64 rn):=Kc.1.cell 2;have e3:W'.cell? ⟨W3.heap.size,3,none⟩=some (.int .i64 re):=Kc.1.cell 3;have e4:W'.cell? ⟨W3.heap.size,4,none⟩=some (.int .i64 rs):=Kc.1.cell 4;have e5:W'.cell? ⟨W3.heap.size,5,none⟩=some (.int .i64 ro):=Kc.1.cell 5;have e6:W'.cell? ⟨W3.heap.size,6,none⟩=some (.int .i64 rv):=Kc.1.cell 6;have e7:W'.cell? ⟨W3.heap.size,7,none⟩=some (.bool rl):=Kc.1.cell 7;have e8:W'.cell? ⟨W3.heap.size,8,none⟩=some (.string ⟨rd.toArray⟩):=Kc.1.cell 8;have f0:W'.cell? ⟨w.heap.size,1,none⟩=some (.int .i64 mc):=Kc.2.cell 1;repeat (first|exact .z|refine .s ?_|refine .k ?_));refine last.one 4 fun K hK=>?_;go_simp;refine (wY _ mc (H5.o.below (Below.refl _ _).drew)).mono ?_;rintro e W6 ⟨rfl,LG⟩;have MQ:=Hd (And.intro (OX.o.drew.below LG OX.o.drew.lt) (L6.o.drew.below LG L6.o.drew.lt));have H6:=Hd ((H5.o.below (Below.refl _ _).drew).below LG);have Lg:=Hd (L1.o.drew.trans (LG.mono L1.o.size));clear LG;refine hK.out _ _ (fun _=>MQ.o) ?_;clear hK K HS;have HS:=MQ;clear MQ;refine last.one 5 fun K hK=>?_;refine DR (.tmp 33) (.tmp 37) ⟨rk,rc,rn,re,rs,ro,rv,rl,rd⟩ (s.jz mc) rfl rfl rfl ?_;refine hK.out _ _ (fun _=>⟨HS.o.1.alloc _,HS.o.2.alloc _⟩) ?_;clear hK K;have XJ:=Hd (eE.new (w:=W6) (l:=[⟨rk,rc,rn,re,rs,ro,rv,rl,rd⟩,s.jz mc]) (by simp));obtain⟨W7,PQ⟩:∃W7,W7=W6.alloc (.cells (([⟨rk,rc,rn,re,rs,ro,rv,rl,rd⟩,s.jz mc]:List dH).flatMap fT).toArray 109):=⟨_,rfl⟩;(have Lu:Below W6.heap.size W6 W7:=by rw[PQ];exact (Below.refl _ _).alloc (aq _) _);have Ny:Hy ((fun W=>Has W W3.heap.size (.cells (gE rk rc rn re rs ro rv rl ⟨rd.toArray⟩) 109)/\Has W w.heap.size (.cells (gE mk mc mn me ms o mv ml ⟨md.toArray⟩) 109)) W7):=Hd ⟨HS.o.1.below Lu HS.o.1.lt,HS.o.2.below Lu HS.o.2.lt⟩;rw[<- PQ]at XJ⊢;have H7:=Hd (H6.o.below Lu);have MR:=Hd (Lg.o.trans (Lu.mono Lg.o.size));clear PQ Lu HS;have HS:=Ny;refine last.many [(6,4,_)] HS.o ?_;refine last.done ?_;(go_wp2_with fail);go_ret;(have e:s.reads ⟨mk,mc,mn,me,ms,o,mv,ml,md⟩=([⟨rk,rc,rn,re,rs,ro,rv,rl,rd⟩,s.jz mc],s):=by rw[Ll.o];rfl);rw[e];exact⟨_,rfl,XJ.o.base (by have:=Lg.o.size;omega),H7.o,dD.fw MR.o (aq _)⟩
 |true =>
  rw[OE]at Ll OI;obtain⟨qa,qc,hq,-,-⟩:=(H4.o.dX o ho).slice
  cases Na:(s.dX o).isEmpty with
  |false =>
   as_aux_lemma =>
    rw[Na]at Ll;have Yw:((s.dX o).length==0)=false:=by cases hs:s.dX o with|nil=>rw[hs]at Na;cases Na|cons a b=>rfl
    have hqi:(((s.dX o).length:Int)==0)=false:=by
     (have:(s.dX o).length≠0:=by simpa using Yw);exact beq_eq_false_iff_ne.2 (by omega)
    go_wp2_with (first
     |(refine wpList_load_row rfl 109 (.tmp 3) rfl w.heap.size rfl 109 _ (0,0) _ LC.o Tryz.underlying109 rfl (by kernel_rfl) ?_)
     |(go_at_call 185;refine OI.o.mono ?_;rintro e W5 ⟨rfl,Kx⟩))
    have OX:=Hd (OH.o.below Kx OH.o.lt);have L6:=Hd (LC.o.below Kx LC.o.lt);have H5:=Hd (H4.o.below Kx);have L1:=Hd (KG.o.trans (Kx.mono KG.o.size));(have q5:W5.cell? ⟨sb,20+o,none⟩=some (.slice qa (s.dX o).length qc):=by rw[<- hq];exact H5.o.ik o ho);have y5:W5.cell? ⟨w.heap.size,5,none⟩=some (.int .i64 o):=L6.o.cell 5;clear Kx OH LC H4 KG Yw hq;(go_quiet (fail));have HR6:=Hd (OX.o.drewN nq);have H6:=Hd (H5.o.below (below_drewN (Below.refl _ W5) nq));have Lg:=Hd (below_drewN L1.o nq);clear OX L6 H5 L1 q5 y5
    go_wp2_with (first
     |(refine wpList_load_row rfl 109 (.tmp 6) rfl W3.heap.size rfl 109 _ (0,0) _ HR6.o Tryz.underlying109 rfl (by kernel_rfl) ?_)
     |(refine kU rfl (.tmp 73) ⟨rk,rc,rn,re,rs,ro,rv,rl,rd⟩ rfl rfl ?_))
    go_ret;(have e:s.reads ⟨mk,mc,mn,me,ms,o,mv,ml,md⟩=([⟨rk,rc,rn,re,rs,ro,rv,rl,rd⟩],s):=by rw[Ll.o];rfl);rw[e];have L0:=(Below.refl (W5.drewN nq).heap.size (W5.drewN nq)).alloc (aq _) (.cells (([⟨rk,rc,rn,re,rs,ro,rv,rl,rd⟩]:List dH).flatMap fT).toArray 109);exact⟨_,rfl,(eE.new (w:=W5.drewN nq) (l:=[⟨rk,rc,rn,re,rs,ro,rv,rl,rd⟩]) (by simp)).base Lg.o.size,H6.o.below L0,dD.fw (Lg.o.trans (L0.mono Lg.o.size)) (aq _)⟩
  |true =>
   as_aux_lemma =>
    rw[Na]at Ll;(have hqi:(((s.dX o).length:Int)==0)=true:=by rw[cR.1 Na];rfl);obtain⟨tu,QM⟩:∃tu,tu=dI.jQ s.dE s.eJ.dF:=⟨_,rfl⟩;(have Ov:Hy (∀W,Calls Tryz.prog 187 #[.int .i64 s.dE,.int .i64 s.eJ.dF] W fun e w'=>∃ev,e=.returned (.tuple #[.int .i64 tu,ev])/\W=w'):=Hd fun W=>by rw[QM];exact xm _ _ W);rw[<- QM]at Ll
    go_wp2_with (first
     |(refine wpList_load_row rfl 109 (.tmp 3) rfl w.heap.size rfl 109 _ (0,0) _ LC.o Tryz.underlying109 rfl (by kernel_rfl) ?_)
     |(go_at_call 185;refine OI.o.mono ?_;rintro e W5 ⟨rfl,Kx⟩))
    have OX:=Hd (OH.o.below Kx OH.o.lt);have L6:=Hd (LC.o.below Kx LC.o.lt);have H5:=Hd (H4.o.below Kx);have L1:=Hd (KG.o.trans (Kx.mono KG.o.size));(have q5:W5.cell? ⟨sb,20+o,none⟩=some (.slice qa (s.dX o).length qc):=by rw[<- hq];exact H5.o.ik o ho);have y5:W5.cell? ⟨w.heap.size,5,none⟩=some (.int .i64 o):=L6.o.cell 5;clear Kx OH LC H4 KG hq QM;(go_quiet (fail));obtain⟨W6,Oo⟩:∃W6,W6=W5.drewN nq:=⟨_,rfl⟩;have HR6:Hy (Has W6 W3.heap.size (.cells (gE rk rc rn re rs ro rv rl ⟨rd.toArray⟩) 109)):=Hd (by rw[Oo];exact OX.o.drewN nq);have Rb:Hy (Has W6 w.heap.size (.cells (gE mk mc mn me ms o mv ml ⟨md.toArray⟩) 109)):=Hd (by rw[Oo];exact L6.o.drewN nq);have H6:Hy (eh P own w0 W6 sb db wb dm tb tm v ps qs d s):=Hd (by rw[Oo];exact H5.o.below (below_drewN (Below.refl _ W5) nq));have Lg:Hy (Below w.heap.size w W6):=Hd (by rw[Oo];exact below_drewN L1.o nq);rw[<- Oo];clear Oo OX L6 H5 L1 q5 y5;have Re:W6.cell? ⟨sb,32,none⟩=some (.int .i64 s.dE):=H6.o.gQ 4 _ rfl;have c0:W6.cell? ⟨sb,0,none⟩=some (.int .i64 s.eJ.dF):=H6.o.cell0 0 _ rfl;(go_wp2_with fail);(go_region_held3 (fun W=>W.cell? ⟨sb,32,none⟩=some (.int .i64 s.dE)/\W.cell? ⟨sb,0,none⟩=some (.int .i64 s.eJ.dF)) (go_keep) ((go_at_call 187;refine (Ov.o _).mono ?_;rintro e w' ⟨ev,rfl,rfl⟩)));(go_wp2_with fail);obtain⟨W7,PQ⟩:∃W7,W7=W6.drew:=⟨_,rfl⟩;have XK:Hy (Has W7 W3.heap.size (.cells (gE rk rc rn re rs ro rv rl ⟨rd.toArray⟩) 109)):=Hd (by rw[PQ];exact HR6.o.drew);have OJ:Hy (Has W7 w.heap.size (.cells (gE mk mc mn me ms o mv ml ⟨md.toArray⟩) 109)):=Hd (by rw[PQ];exact Rb.o.drew);have H7:Hy (eh P own w0 W7 sb db wb dm tb tm v ps qs d s):=Hd (by rw[PQ];exact H6.o.below (Below.refl _ _).drew);have MR:Hy (Below w.heap.size w W7):=Hd (by rw[PQ];exact Lg.o.drew);rw[<- PQ];clear PQ HR6 Rb H6 Lg Re c0;have Qf:W7.cell? ⟨sb,29,none⟩=some (.pointer (some ⟨tb,0,none⟩)):=H7.o.gQ 1 _ rfl;have z1:W7.cell? ⟨w.heap.size,1,none⟩=some (.int .i64 mc):=OJ.o.cell 1;have z5:W7.cell? ⟨w.heap.size,5,none⟩=some (.int .i64 o):=OJ.o.cell 5;have TS:sb<W7.heap.size:=H7.o.s_.lt;have U6:sb≠tb/\sb≠tm:=⟨fun e=>(by have h1:=H7.o.fJ;rw[e,H7.o.iQ]at h1;cases h1),fun e=>(by have h1:=H7.o.fJ;rw[e,H7.o.iR]at h1;cases h1)⟩;have n1:¬(sb=tb\/sb=tm):=fun e=>e.elim U6.1 U6.2;have hwt:tb<w.heap.size/\tm<w.heap.size:=H.o.eo.lt;(have n2:¬(w.heap.size=tb\/w.heap.size=tm):=by omega);(have n3:¬(W3.heap.size=tb\/W3.heap.size=tm):=by omega);have O6:w.heap.size<W7.heap.size:=OJ.o.lt;have Qg:W3.heap.size<W7.heap.size:=XK.o.lt;obtain⟨T',YY⟩:∃T':Int×eY,T'=s.eo.dF mc o tu:=⟨_,rfl⟩;have Qh:=Hd (Cn mc o tu H7.o.eo.drew (WalkArith.wf_i64 (by omega)) (WalkArith.wf_i64 (by omega)));rw[<- YY]at Ll Qh;obtain⟨ev,Lw⟩:∃ev,ev=fx T'.1:=⟨_,rfl⟩;rw[<- Lw]at Qh;obtain⟨bb,hbb⟩:∃bb,bb=decide (T'.1=0):=⟨_,rfl⟩;rw[<- hbb]at Ll
    have Qi:ev=if bb then .nilIface else .iface 52 (.int .i64 T'.1):=by
     rw[Lw,hbb];unfold fx;by_cases h0:T'.1=0<;>simp[h0]
    have Lp:∀(W:World) (u:Value),(W.cell? ⟨sb,29,none⟩=some (.pointer (some ⟨tb,0,none⟩))/\W.cell? ⟨w.heap.size,1,none⟩=some (.int .i64 mc)/\W.cell? ⟨w.heap.size,5,none⟩=some (.int .i64 o))->((W.setCell ⟨W3.heap.size,7,none⟩ u).cell? ⟨sb,29,none⟩=some (.pointer (some ⟨tb,0,none⟩))/\(W.setCell ⟨W3.heap.size,7,none⟩ u).cell? ⟨w.heap.size,1,none⟩=some (.int .i64 mc)/\(W.setCell ⟨W3.heap.size,7,none⟩ u).cell? ⟨w.heap.size,5,none⟩=some (.int .i64 o)):=fun W u h=>⟨(World.cell?_setCell_far _ _ _ _ (by show W3.heap.size≠sb;omega)).trans h.1,(World.cell?_setCell_far _ _ _ _ (by show W3.heap.size≠w.heap.size;omega)).trans h.2.1,(World.cell?_setCell_far _ _ _ _ (by show W3.heap.size≠w.heap.size;omega)).trans h.2.2⟩;clear YY Lw hbb
    cases bb with
    |false =>
     rw[if_neg (by decide)]at Qi;subst Qi;(go_region_held3 (fun W=>W.cell? ⟨sb,29,none⟩=some (.pointer (some ⟨tb,0,none⟩))/\W.cell? ⟨w.heap.size,1,none⟩=some (.int .i64 mc)/\W.cell? ⟨w.heap.size,5,none⟩=some (.int .i64 o)) (first|exact⟨(ht.cell (p:=⟨sb,29,none⟩) TS n1).trans Qf,(ht.cell (p:=⟨w.heap.size,1,none⟩) O6 n2).trans z1,(ht.cell (p:=⟨w.heap.size,5,none⟩) O6 n2).trans z5⟩|exact Lp _ _ (by assumption)|go_keep) ((go_at_call 188;refine Qh.o.mono ?_;rintro e W8 ⟨rfl,Sq,ht⟩;have Pq:=ht.has XK.o.drew n3;have k7:W8.cell? ⟨W3.heap.size,7,none⟩=some (.bool rl):=Pq.cell 7;have f7:=Pq.frozen 7)));have h8:=(H7.o.below (Below.refl _ _).drew).setTable ht T'.2 Sq;have K0:dD (fun g=>g=tb\/g=tm) w W8:=(dD.fw MR.o (aq _)).drew.trans ht (fun _ _ h=>h);have YZ:=Pq.eu 7 (.bool false);have h9:=h8.nf (S:=fun g=>g=W3.heap.size) (w':=W8.setCell ⟨W3.heap.size,7,none⟩ (.bool false)) (dD.setCell (S:=fun g=>g=W3.heap.size) (p:=⟨W3.heap.size,7,none⟩) (dD.refl _ _) (.inr rfl) _) fun g _ hg=>⟨H.o.fr g (by omega),by have:=H.o.le;omega⟩;have MC:dD (fun g=>g=tb\/g=tm) w (W8.setCell ⟨W3.heap.size,7,none⟩ (.bool false)):=K0.setCell (p:=⟨W3.heap.size,7,none⟩) (.inl (by show w.heap.size<=W3.heap.size;omega)) _;have Y0:=Hd YZ;have H9:=Hd h9;have PR:=Hd MC;clear h8 K0 YZ h9 MC Pq k7 f7 Sq ht Qh;obtain⟨W9,Y1⟩:∃W9,W9=W8.setCell ⟨W3.heap.size,7,none⟩ (.bool false):=⟨_,rfl⟩;rw[<- Y1]at Y0 H9 PR⊢;clear Y1 Lp
     go_wp2_with (first
      |(refine wpList_load_row rfl 109 (.tmp 6) rfl W3.heap.size rfl 109 _ (0,0) _ Y0.o Tryz.underlying109 rfl (by kernel_rfl) ?_)
      |(refine kU rfl (.tmp 73) ⟨rk,rc,rn,re,rs,ro,rv,false,rd⟩ rfl rfl ?_))
     go_ret;(have e:s.reads ⟨mk,mc,mn,me,ms,o,mv,ml,md⟩=([⟨rk,rc,rn,re,rs,ro,rv,false,rd⟩],{s with eo:=T'.2}):=by rw[Ll.o];rfl);rw[e];have L0:=(Below.refl W9.heap.size W9).alloc (aq _) (.cells (([⟨rk,rc,rn,re,rs,ro,rv,false,rd⟩]:List dH).flatMap fT).toArray 109);exact⟨_,rfl,(eE.new (w:=W9) (l:=[⟨rk,rc,rn,re,rs,ro,rv,false,rd⟩]) (by simp)).base PR.o.size,H9.o.below L0,PR.o.gn L0 (aq _)⟩
    |true =>
     rw[if_pos rfl]at Qi;subst Qi;(go_region_held3 (fun W=>W.cell? ⟨sb,29,none⟩=some (.pointer (some ⟨tb,0,none⟩))/\W.cell? ⟨w.heap.size,1,none⟩=some (.int .i64 mc)/\W.cell? ⟨w.heap.size,5,none⟩=some (.int .i64 o)) (first|exact⟨(ht.cell (p:=⟨sb,29,none⟩) TS n1).trans Qf,(ht.cell (p:=⟨w.heap.size,1,none⟩) O6 n2).trans z1,(ht.cell (p:=⟨w.heap.size,5,none⟩) O6 n2).trans z5⟩|exact Lp _ _ (by assumption)|go_keep) ((go_at_call 188;refine Qh.o.mono ?_;rintro e W8 ⟨rfl,Sq,ht⟩;have Pq:=ht.has XK.o.drew n3;have k7:W8.cell? ⟨W3.heap.size,7,none⟩=some (.bool rl):=Pq.cell 7;have f7:=Pq.frozen 7)));have h8:=(H7.o.below (Below.refl _ _).drew).setTable ht T'.2 Sq;have K0:dD (fun g=>g=tb\/g=tm) w W8:=(dD.fw MR.o (aq _)).drew.trans ht (fun _ _ h=>h);have YZ:=Pq.eu 7 (.bool true);have h9:=h8.nf (S:=fun g=>g=W3.heap.size) (w':=W8.setCell ⟨W3.heap.size,7,none⟩ (.bool true)) (dD.setCell (S:=fun g=>g=W3.heap.size) (p:=⟨W3.heap.size,7,none⟩) (dD.refl _ _) (.inr rfl) _) fun g _ hg=>⟨H.o.fr g (by omega),by have:=H.o.le;omega⟩;have MC:dD (fun g=>g=tb\/g=tm) w (W8.setCell ⟨W3.heap.size,7,none⟩ (.bool true)):=K0.setCell (p:=⟨W3.heap.size,7,none⟩) (.inl (by show w.heap.size<=W3.heap.size;omega)) _;have Y0:=Hd YZ;have H9:=Hd h9;have PR:=Hd MC;clear h8 K0 YZ h9 MC Pq k7 f7 Sq ht Qh;obtain⟨W9,Y1⟩:∃W9,W9=W8.setCell ⟨W3.heap.size,7,none⟩ (.bool true):=⟨_,rfl⟩;rw[<- Y1]at Y0 H9 PR⊢;clear Y1 Lp
     go_wp2_with (first
      |(refine wpList_load_row rfl 109 (.tmp 6) rfl W3.heap.size rfl 109 _ (0,0) _ Y0.o Tryz.underlying109 rfl (by kernel_rfl) ?_)
      |(refine kU rfl (.tmp 73) ⟨rk,rc,rn,re,rs,ro,rv,true,rd⟩ rfl rfl ?_))
     go_ret;(have e:s.reads ⟨mk,mc,mn,me,ms,o,mv,ml,md⟩=([⟨rk,rc,rn,re,rs,ro,rv,true,rd⟩],{s with eo:=T'.2}):=by rw[Ll.o];rfl);rw[e];have L0:=(Below.refl W9.heap.size W9).alloc (aq _) (.cells (([⟨rk,rc,rn,re,rs,ro,rv,true,rd⟩]:List dH).flatMap fT).toArray 109);exact⟨_,rfl,(eE.new (w:=W9) (l:=[⟨rk,rc,rn,re,rs,ro,rv,true,rd⟩]) (by simp)).base PR.o.size,H9.o.below L0,PR.o.gn L0 (aq _)⟩
end
def tp (x:Wr):Value:=.agg #[.int .i64 x.dL,.int .i64 x.dN,.string ⟨x.data.toArray⟩,.bool x.gC]
def kD (c n:Int) (x:Wr):Bool:=decide (x.dL=c)&&decide (n<=x.dN)
theorem DX (x:Wr) (mk mc mn me ms mo mv:Int) (ml:Bool) (md:ByteArray) (p:Nat) (w:World) (hp:Has w p (.cells (gE mk mc mn me ms mo mv ml md) 109)) :
 Calls Tryz.prog 190 #[tp x,.pointer (some ⟨p,0,none⟩)] w fun e w'=>e=.returned (.bool (kD mc mn x))/\Below w.heap.size w w':=by
 have Kg:=hp.lt;have p1:w.cell? ⟨p,1,none⟩=some (.int .i64 mc):=hp.cell 1;have p2:w.cell? ⟨p,2,none⟩=some (.int .i64 mn):=hp.cell 2;unfold tp kD;obtain⟨b1,Kd⟩:∃b1,b1=decide (x.dL=mc):=⟨_,rfl⟩;obtain⟨b2,Ke⟩:∃b2,b2=decide (mn<=x.dN):=⟨_,rfl⟩;have e1:(x.dL==mc)=b1:=Kd.symm;have e2:decide (mn<=x.dN)=b2:=Ke.symm;rw[<- Kd,<- Ke];clear Kd Ke hp
 cases b1 with
 |false =>
  (go_enter Tryz.func190,Tryz.ntmps190);go_wp2;go_ret;exact⟨rfl,(Below.refl _ _).alloc (aq _) _⟩
 |true =>
  cases b2
  all_goals
   (go_enter Tryz.func190,Tryz.ntmps190);go_wp2;go_ret;exact⟨rfl,(Below.refl _ _).alloc (aq _) _⟩
theorem DY (own:Nat->Nat) (T:Nat) (v:Value) (l:List Wr) (mk mc mn me ms mo mv:Int) (ml:Bool) (md:ByteArray) (p:Nat) (w:World) (h:fH own T w 263 4 v l.length (l.flatMap iF)) (hp:Has w p (.cells (gE mk mc mn me ms mo mv ml md) 109)) :
 Calls Tryz.prog 214 #[v,.func (.func 190) #[] #[.pointer (some ⟨p,0,none⟩)]] w fun e w'=>∃r:Int,e=.returned (.int .i64 r)/\decide (0<=r)=l.any (kD mc mn)/\Below w.heap.size w w':=by
 obtain⟨a,c,rfl,Y2,Oa⟩:=h.slice;(have Y3:l.length<=9223372036854775807:=by unfold maxLen at Oa;omega);have Sr:=hp.lt;have H:=Hd h;have HP:=Hd hp;clear h hp;(go_enter Tryz.func214,Tryz.ntmps214);go_wp2;(go_loopw [8,5] (fun i _ wr=>∃k:Nat,k<=l.length/\i=.int .i64 k/\(l.take k).any (kD mc mn)=false/\Below w.heap.size w wr) (fun i _ _=>l.length-(intOf i).toNat));case atStart=>exact⟨0,by omega,rfl,rfl,Below.refl _ _⟩
 case round =>
  obtain⟨k,hk,rfl,L3,hb⟩:=hrel;have Lz:=Hd L3;clear L3;by_cases Kg:k<l.length
  ·have MD:l[k]?=some l[k]:=ax Kg;generalize hx:l[k]=x at MD;obtain⟨g,off,cap,he,-,hg,-,-,hc⟩:=fH.elem (f:=iF) (size:=4) ti H.o MD;injection he with Y4 RH TT;subst Y4
   have hbc:∀j u,(iF x)[j]?=some u->wr.cell? ⟨g,off+k*4+j,none⟩=some u:=fun j u hu=>by
    rw[Nat.add_assoc];exact (hb.cell (p:=⟨g,off+(k*4+j),none⟩) hg).trans (hc j u hu).1
   have c0:wr.cell? ⟨g,off+k*4,none⟩=some (.int .i64 x.dL):=hbc 0 _ rfl;have c1:wr.cell? ⟨g,off+k*4+1,none⟩=some (.int .i64 x.dN):=hbc 1 _ rfl;have c2:wr.cell? ⟨g,off+k*4+2,none⟩=some (.string ⟨x.data.toArray⟩):=hbc 2 _ rfl;have c3:wr.cell? ⟨g,off+k*4+3,none⟩=some (.bool x.gC):=hbc 3 _ rfl;have F:=Hd (DX x mk mc mn me ms mo mv ml md p wr (HP.o.below hb Sr));have HKX:=Hd MD
   have HT:Hy ((l.take (k+1)).any (kD mc mn)=kD mc mn x):=Hd (by
    rw[bo,MD,dw,Lz.o]
    simp)
   have HA:Hy (kD mc mn x=true->l.any (kD mc mn)=true):=Hd fun hw=>cB.2 ⟨x,aR MD,hw⟩;unfold tp at F;clear hbc hc MD hx RH TT
   cases hw:kD mc mn x with
   |true =>
    rw[hw]at F HA;clear hw;(go_wp2_with fail);refine F.o.mono ?_;rintro e w2 ⟨rfl,Ke⟩;(go_wp2_with fail);go_ret;exact⟨_,rfl,by rw[HA.o trivial];simp,hb.trans (Ke.mono hb.size)⟩
   |false =>
    rw[hw]at F HT;clear hw HA;(go_wp2_with fail);refine F.o.mono ?_;rintro e w2 ⟨rfl,Ke⟩;(go_wp2_with fail);go_roundw;(case rel=>exact⟨k+1,by omega,by go_num,HT.o,hb.trans (Ke.mono hb.size)⟩);case measure=>simp[intOf];omega
  (obtain rfl:k=l.length:=by omega);(go_wp2_with fail);go_ret;exact⟨_,rfl,by have:=Lz.o;rw[bp]at this;rw[this];rfl,hb⟩
theorem DZ (own:Nat->Nat) (T:Nat) (v:Value) (l:List Wr) (mk mc mn me ms mo mv:Int) (ml:Bool) (md:ByteArray) (p:Nat) (w:World) (h:fH own T w 263 4 v l.length (l.flatMap iF)) (hp:Has w p (.cells (gE mk mc mn me ms mo mv ml md) 109)) :
 Calls Tryz.prog 189 #[v,.func (.func 190) #[] #[.pointer (some ⟨p,0,none⟩)]] w fun e w'=>e=.returned (.bool (l.any (kD mc mn)))/\Below w.heap.size w w':=by
 have I:=Hd (DY own T v l mk mc mn me ms mo mv ml md p w h hp);clear h hp;(go_enter Tryz.func189,Tryz.ntmps189);(go_wp2_with fail);refine I.o.mono ?_;rintro e w1 ⟨r,rfl,hr,hb⟩;have HR:=Hd hr;clear hr;(go_wp2_with fail);go_ret;exact⟨by rw[<- HR.o];rfl,hb⟩
section
variable {P:Lib.PrintTabs} {own:Nat->Nat} {w0:World} {sb db wb dm tb tm:Nat} {v:Value} {ps:List ByteArray} {qs:List Value} {d:dW} {s:dC}
theorem D0 (w:World) (c:Int) (p:Nat) (hp:Has w p (.cells #[.pointer (some ⟨sb,0,none⟩)] 65)) (h:eh P own w0 w sb db wb dm tb tm v ps qs d s) :
 Calls Tryz.prog 199 #[.int .i64 c,.pointer (some ⟨p,0,none⟩)] w fun e w'=>e=.returned (.bool (s.eo.iJ c s.dE))/\Below w.heap.size w w':=by
 have p0:w.cell? ⟨p,0,none⟩=some (.pointer (some ⟨sb,0,none⟩)):=hp.cell 0;have Qf:=h.gQ 1 _ rfl;have Re:=h.gQ 4 _ rfl;have HL:=Hd (Cq c s.dE h.eo.drew);have HB:=Hd (Below.refl w.heap.size w).drew;clear h hp;(go_enter Tryz.func199,Tryz.ntmps199);go_wp2;(go_region_held3 (fun W=>W.cell? ⟨p,0,none⟩=some (.pointer (some ⟨sb,0,none⟩))/\W.cell? ⟨sb,29,none⟩=some (.pointer (some ⟨tb,0,none⟩))/\W.cell? ⟨sb,32,none⟩=some (.int .i64 s.dE)) (go_keep) ((go_at_call 200;refine HL.o.mono ?_;rintro e w' ⟨rfl,rfl⟩)));(go_wp2_with fail);go_ret;exact⟨rfl,HB.o⟩
theorem qX {w:World} {B:Nat} {v:Value} {l:List Int} (h:w.ownsRow B 3 1 v l.length (l.map (Value.int .i64))) {k:Nat} {x:Int} (hk:l[k]?=some x) :
 ∃g cap,v=.slice (some ⟨g,0,none⟩) l.length cap/\g<w.heap.size/\w.cell? ⟨g,k,none⟩=some (.int .i64 x):=by
 have Ks:k<l.length:=(ar.1 hk).1;rcases h.2 with⟨-,h0⟩|⟨g,cap,cur,rfl,-,h2,-,-,-,h4⟩
 ·omega
 refine⟨g,cap,rfl,Has.lt (w:=w) h2,?_⟩;have h3:Has w g (.cells cur 3):=h2;rw[(ij h3 h4 k (by omega)).1,aY,hk];rfl
theorem D1 (w:World) (B:Nat) (u:Value) (l:List Int) (hl:l.length<=1000) (p:Nat) (hu:w.ownsRow B 3 1 u l.length (l.map (Value.int .i64))) (hp:Has w p (.cells #[.pointer (some ⟨sb,0,none⟩)] 65)) (h:eh P own w0 w sb db wb dm tb tm v ps qs d s) :
 Calls Tryz.prog 219 #[u,.func (.func 199) #[] #[.pointer (some ⟨p,0,none⟩)]] w fun e w'=>∃r:Int,e=.returned (.int .i64 r)/\decide (0<=r)=l.any (fun c=>s.eo.iJ c s.dE)/\Below w.heap.size w w':=by
 have MO:∃a c,u=.slice a l.length c:=by
  rcases hu.2 with⟨rfl,h0⟩|⟨g,cap,cur,rfl,-⟩
  ·exact⟨none,0,by rw[h0]⟩
  exact⟨_,cap,rfl⟩
 obtain⟨a,c,rfl⟩:=MO;have Sr:=hp.lt;have H:=Hd h;have HP:=Hd hp;have HU:=Hd hu;clear h hp hu;(go_enter Tryz.func219,Tryz.ntmps219);go_wp2;(go_loopw [8,5] (fun i _ wr=>∃k:Nat,k<=l.length/\i=.int .i64 k/\(l.take k).any (fun c=>s.eo.iJ c s.dE)=false/\Below w.heap.size w wr) (fun i _ _=>l.length-(intOf i).toNat));case atStart=>exact⟨0,by omega,rfl,rfl,Below.refl _ _⟩
 case round =>
  obtain⟨k,hk,rfl,L3,hb⟩:=hrel;have Lz:=Hd L3;clear L3;by_cases Kg:k<l.length
  ·have MD:l[k]?=some l[k]:=ax Kg;generalize hx:l[k]=x at MD;obtain⟨g,cap,he,hg,hc⟩:=qX HU.o MD;injection he with Y4 RH TT;subst Y4;have c0:wr.cell? ⟨g,k,none⟩=some (.int .i64 x):=(hb.cell (p:=⟨g,k,none⟩) hg).trans hc;have F:=Hd (D0 wr x p (HP.o.below hb Sr) (H.o.below hb))
   have HT:Hy ((l.take (k+1)).any (fun c=>s.eo.iJ c s.dE)=s.eo.iJ x s.dE):=Hd (by
    rw[bo,MD,dw,Lz.o]
    simp)
   have HA:Hy (s.eo.iJ x s.dE=true->l.any (fun c=>s.eo.iJ c s.dE)=true):=Hd fun hw=>cB.2 ⟨x,aR MD,hw⟩;clear hc MD hx RH TT
   cases hw:s.eo.iJ x s.dE with
   |true =>
    rw[hw]at F HA;clear hw;(go_wp2_with fail);refine F.o.mono ?_;rintro e w2 ⟨rfl,Ke⟩;(go_wp2_with fail);go_ret;exact⟨_,rfl,by rw[HA.o trivial];simp,hb.trans (Ke.mono hb.size)⟩
   |false =>
    rw[hw]at F HT;clear hw HA;(go_wp2_with fail);refine F.o.mono ?_;rintro e w2 ⟨rfl,Ke⟩;(go_wp2_with fail);go_roundw;(case rel=>exact⟨k+1,by omega,by go_num,HT.o,hb.trans (Ke.mono hb.size)⟩);case measure=>simp[intOf];omega
  (obtain rfl:k=l.length:=by omega);(go_wp2_with fail);go_ret;exact⟨_,rfl,by have:=Lz.o;rw[bp]at this;rw[this];rfl,hb⟩
theorem D2 (w:World) (B:Nat) (u:Value) (l:List Int) (hl:l.length<=1000) (p:Nat) (hu:w.ownsRow B 3 1 u l.length (l.map (Value.int .i64))) (hp:Has w p (.cells #[.pointer (some ⟨sb,0,none⟩)] 65)) (h:eh P own w0 w sb db wb dm tb tm v ps qs d s) :
 Calls Tryz.prog 201 #[u,.func (.func 199) #[] #[.pointer (some ⟨p,0,none⟩)]] w fun e w'=>e=.returned (.bool (l.any (fun c=>s.eo.iJ c s.dE)))/\Below w.heap.size w w':=by
 have I:=Hd (D1 w B u l hl p hu hp h);clear h hp hu;(go_enter Tryz.func201,Tryz.ntmps201);(go_wp2_with fail);refine I.o.mono ?_;rintro e w1 ⟨r,rfl,hr,hb⟩;have HR:=Hd hr;clear hr;(go_wp2_with fail);go_ret;exact⟨by rw[<- HR.o];rfl,hb⟩
end
theorem D3 (w:World) (B:Nat) (u:Value) (l:List Int) (hl:l.length<=1000) (y:Int) (hu:w.ownsRow B 3 1 u l.length (l.map (Value.int .i64))) :
 Calls Tryz.prog 215 #[u,.int .i64 y] w fun e w'=>∃r:Int,e=.returned (.int .i64 r)/\decide (0<=r)=l.any (fun x=>y==x)/\w=w':=by
 have MO:∃a c,u=.slice a l.length c:=by
  rcases hu.2 with⟨rfl,h0⟩|⟨g,cap,cur,rfl,-⟩
  ·exact⟨none,0,by rw[h0]⟩
  exact⟨_,cap,rfl⟩
 obtain⟨a,c,rfl⟩:=MO;have HU:=Hd hu;clear hu;(go_enter Tryz.func215,Tryz.ntmps215);go_wp2;(go_loopw [8,5] (fun i _ wr=>∃k:Nat,k<=l.length/\i=.int .i64 k/\(l.take k).any (fun x=>y==x)=false/\wr=w) (fun i _ _=>l.length-(intOf i).toNat));case atStart=>exact⟨0,by omega,rfl,rfl,rfl⟩
 case round =>
  obtain⟨k,hk,rfl,L3,rfl⟩:=hrel;have Lz:=Hd L3;clear L3;by_cases Kg:k<l.length
  ·have MD:l[k]?=some l[k]:=ax Kg;generalize hx:l[k]=x at MD;obtain⟨g,cap,he,hg,hc⟩:=qX HU.o MD;injection he with Y4 RH TT;subst Y4
   have HT:Hy ((l.take (k+1)).any (fun x=>y==x)=(y==x)):=Hd (by
    rw[bo,MD,dw,Lz.o];show (false||((y==x)||false))=(y==x)
    rw[Bool.or_false,Bool.false_or])
   have HA:Hy ((y==x)=true->l.any (fun x=>y==x)=true):=Hd fun hw=>cB.2 ⟨x,aR MD,hw⟩;clear MD hx RH TT
   cases hw:(y==x)with
   |true =>
    rw[hw]at HA;(go_wp2_with fail);go_ret;exact⟨_,rfl,by rw[HA.o trivial];exact decide_eq_true (by omega),rfl⟩
   |false =>
    rw[hw]at HT;clear HA;(go_wp2_with fail);go_roundw;(case rel=>exact⟨k+1,by omega,by go_num,HT.o,trivial⟩);case measure=>simp[intOf];omega
  (obtain rfl:k=l.length:=by omega);(go_wp2_with fail);go_ret;exact⟨_,rfl,by have:=Lz.o;rw[bp]at this;rw[this];rfl,rfl⟩
theorem D5 (w:World) (B:Nat) (u:Value) (l:List Int) (hl:l.length<=1000) (y:Int) (hu:w.ownsRow B 3 1 u l.length (l.map (Value.int .i64))) :
 Calls Tryz.prog 191 #[u,.int .i64 y] w fun e w'=>e=.returned (.bool (l.contains y))/\w=w':=by
 have I:=Hd (D3 w B u l hl y hu);clear hu;(go_enter Tryz.func191,Tryz.ntmps191);(go_wp2_with fail);refine I.o.mono ?_;rintro e w1 ⟨r,rfl,hr,rfl⟩;have HR:=Hd hr;clear hr;(go_wp2_with fail);go_ret;exact⟨by rw[List.contains_eq_any_beq,<- HR.o];rfl,rfl⟩
end dR
end Go.Proofs.YtlhodcmdpchllaaGreatDoor
