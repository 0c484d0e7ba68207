/-
  A part of the proof of the law WorldCalm: SrvA, SrvB, SrvC, SrvD, Msgs.
-/
import Derived.Deep.RegionHeld3
import Derived.BigQuiet
import Derived.Deep.QuietTactic
import Derived.Laws.ResultCell
import Derived.Great.BuildSlice
import Derived.Deep.AppendLies
import Derived.Test.YtjhdaojclilakaaGreatDoorHd
import Derived.Test.YtjhdaojclilakaaGreatDoorP11
import Derived.Test.YtjhdaojclilakaaGreatDoorP23
import Derived.Test.YtjhdaojclilakaaGreatDoorP24
set_option maxHeartbeats 16000000
set_option maxRecDepth 1000000
namespace Go.Proofs.YtjhdaojclilakaaGreatDoor
section
variable {p q:Prop}
theorem abn (h:p:=by
 rcases bk g w.heap.size with hg'|hg'
 ·unfold fL at hg;rw[he g hg']at hg;exact h.low g hg
 exact aB h.le hg'):p:=h
theorem aba (h:p:=by
 (go_enter Tryz.func90,Tryz.ntmps90);go_wp2;rw[<- Pz];clear Pz;go_region_held3 (fun W=>CP W sb 29 tb 0/\CI W w.heap.size 1 mc) (go_keep) ((go_at_call 119;refine HSE.o.mono ?_;rintro e w' ⟨rfl,rfl⟩))
 all_goals
  (go_wp2_with fail);(go_quiet (fail));(go_wp2_with fail);go_ret;exact⟨rfl,below_drewN PQ.o.drew _⟩):p:=h
end
namespace fj
open Go.RowKit heap own eG gC gO fF iR fD
open eY (Rec fe ir Wr eA fW fU fR fw put del)
def iS (m:eL):List Value:=[.int .i64 m.eO,.int .i64 m.eI,.int .i64 m.eK,.int .i64 m.eS,.int .i64 m.fx,.int .i64 m.eF,.int .i64 m.fJ,.bool m.gE,.string ⟨m.data.toArray⟩]
theorem sK (m:eL):(iS m).length=9:=rfl
theorem AQ (m:eL):∀u∈iS m,u.oneCell'=true:=by
 intro u hu;simp only[iS,aH,bq,or_false]at hu;rcases hu with rfl|rfl|rfl|rfl|rfl|rfl|rfl|rfl|rfl<;>rfl
def kA (x:Wr):List Value:=[.int .i64 x.eI,.int .i64 x.eK,.string ⟨x.data.toArray⟩,.bool x.gw]
theorem xy (x:Wr):(kA x).length=4:=rfl
theorem I3 (x:Wr):∀u∈kA x,u.oneCell'=true:=by
 intro u hu;simp only[kA,aH,bq,or_false]at hu;rcases hu with rfl|rfl|rfl|rfl<;>rfl
def nL (v:ir):List Value:=[.string ⟨v.data.toArray⟩,.int .i64 v.fq]
theorem sL (v:ir):(nL v).length=2:=rfl
theorem uy:(Tryz.prog.info? 93).map (fun i=>(i.zero,i.size,i.bytes))=some (some (.agg #[.int .i64 0,.int .i64 0,.int .i64 0,.int .i64 0,.int .i64 0,.int .i64 0,.int .i64 0,.bool false,.string ByteArray.empty]),9,80):=af
theorem I4:(Tryz.prog.info? 162).map (fun i=>(i.zero,i.size,i.bytes))=some (some (.agg #[.int .i64 0,.int .i64 0,.string ByteArray.empty,.bool false]),4,40):=af
theorem val_inj {m m':eL} (h:m.val=m'.val):m=m':=by
 obtain⟨a,b,c,d,e,f,g,l,s⟩:=m;obtain⟨i,b',c',j,k,n,o,l',p⟩:=m';simp only[eL.val,Value.agg.injEq,Array.mk.injEq,List.cons.injEq,Value.int.injEq,true_and,Value.bool.injEq,Value.string.injEq,ByteArray.mk.injEq,and_true]at h;simp[h]
noncomputable def sM (v:Value):Option (DataW Unit×List MemPlace):=by
 classical exact if h:∃m:eL,v=m.val then some (.agg [.lit (.int .i64 h.choose.eO),.lit (.int .i64 h.choose.eI),.lit (.int .i64 h.choose.eK),.lit (.int .i64 h.choose.eS),.lit (.int .i64 h.choose.fx),.lit (.int .i64 h.choose.eF),.lit (.int .i64 h.choose.fJ),.lit (.bool h.choose.gE),.lit (.string h.choose.data)],[]) else none
def rz (m:eL):DataW Unit:=.agg [.lit (.int .i64 m.eO),.lit (.int .i64 m.eI),.lit (.int .i64 m.eK),.lit (.int .i64 m.eS),.lit (.int .i64 m.fx),.lit (.int .i64 m.eF),.lit (.int .i64 m.fJ),.lit (.bool m.gE),.lit (.string m.data)]
theorem AR (m:eL):sM m.val=some (rz m,[]):=by
 unfold sM;have h:∃m':eL,m.val=m'.val:=⟨m,rfl⟩;rw[dif_pos h,<- val_inj h.choose_spec];rfl
theorem I5 {v:Value} {y:DataW Unit×List MemPlace} (h:sM v=some y):∃m,v=eL.val m/\y=(rz m,[]):=by
 by_cases hm:∃m:eL,v=m.val
 ·obtain⟨m,rfl⟩:=hm;rw[AR]at h;exact⟨m,rfl,(aA h).symm⟩
 unfold sM at h;rw[dif_neg hm]at h;cases h
theorem I6 (m m':eL) (h:rz m=rz m'):m=m':=by
 obtain⟨a,b,c,d,e,f,g,l,s⟩:=m;obtain⟨i,b',c',j,k,n,o,l',p⟩:=m';simp only[rz,DataW.agg.injEq,List.cons.injEq,DataW.lit.injEq,Lit.int.injEq,Lit.bool.injEq,Lit.string.injEq,true_and,and_true]at h;simp[h]
def xz:eL:=⟨0,0,0,0,0,0,0,false,[]⟩
theorem I7:∀w,(zeroValue 93).run Tryz.prog w=.ok xz.val w:=fun w=>af
noncomputable def mT:lJ Tryz.prog Int eL where
 K:=3
 e:=93
 t:=102
 kv:=Value.int .i64
 kl:=Lit.int .i64
 jb:=je
 ev:=eL.val
 ed:=rz
 lU:=fun _=>True
 z:=xz
 R:=sM
 keyed:=Maps.int_keyed Tryz.underlying3
 ht:=Tryz.underlying102
 key:=fun _ h=>Maps.keyOf_int_mk Tryz.underlying3 h
 pM:=fun _ _ h=>Maps.keyOf_int_inv Tryz.underlying3 h
 elem:=fun m _=>AR m
 rh:=fun v y h=>by
  obtain⟨m,a,b⟩:=I5 h;exact⟨m,a,b,trivial⟩
 rm:=fun _ _ h=>by simpa using h
 sH:=I6
 zero:=I7
 sI:=trivial
def kI (t:fU) (wb:Nat) (a:List ir) (qs:List Value) (dm tb:Nat) (eS quiet eB gy:Int):List Value:=
 [.int .i64 t.eF,.int .i64 t.fa,.int .i64 t.fH,.pointer (some ⟨wb,0,none⟩)]++(a.flatMap nL++(qs++[.map (some dm),.pointer (some ⟨tb,0,none⟩),.int .i64 eS,.int .i64 quiet,.int .i64 eB,.int .i64 gy]))
def fL (own:Nat->Nat) (g:Nat):Prop:=1<=own g/\own g<20
structure Plain (d:fe) (s:eA):Prop where
 nv:s.values.length=8
 nq:s.fi.length=8
 qc:∀o,∀x∈s.eQ o,(0<=x.eI/\x.eI<4)/\x.data.length<=20
 dk:∀p∈s.done,0<=p.1/\p.1<4
 rc:∀r∈d.eG,0<=r.eI/\r.eI<4
 ql:∀o,(s.eQ o).length<=10
structure fC (P:Lib.PrintTabs) (own:Nat->Nat) (w0 w:World) (sb db wb dm tb tm:Nat) (v:Value) (ps:List ByteArray) (qs:List Value) (d:fe) (s:eA):Prop where
 lW:kQ P w0
 my:Handle w0
 iA:BB w0 w
 low:∀g,fL own g->w0.heap.size<=g
 fr:∀g,w.heap.size<=g->own g=0
 fF:kH own 2 w0.heap.size w wb db v s.eX d.eG
 jU:iZ w db ps d.cut d.left
 kZ:mR P ps d.eG
 jk:own db=1
 s_:Has w sb (.cells (kI s.eZ wb s.values qs dm tb s.eS s.quiet s.eB s.gy).toArray 105)
 iL:own sb=4
 ok:Plain d s
 lq:qs.length=8
 eQ:∀o,o<8->iD own (10+o) w 162 4 (qs.getD o undef) (s.eQ o).length ((s.eQ o).flatMap kA)
 done:At mT w dm s.done
 km:own dm=5
 eW:jo w tb tm s.eW
 kJ:own tb=6
 kK:own tm=7
def xA (P:Lib.PrintTabs) (own:Nat->Nat) (w0 w:World) (sb db:Nat) (d:fe) (s:eA):Prop:=
 ∃wb dm tb tm v ps qs,fC P own w0 w sb db wb dm tb tm v ps qs d s
section
variable {P:Lib.PrintTabs} {own own1:Nat->Nat} {w0 w w':World} {sb db wb dm tb tm:Nat} {v:Value} {ps:List ByteArray} {qs:List Value} {d:fe} {s:eA} {S:Nat->Prop}
theorem fC.nv (h:fC P own w0 w sb db wb dm tb tm v ps qs d s):s.values.length=8:=h.ok.nv
theorem fC.nq (h:fC P own w0 w sb db wb dm tb tm v ps qs d s):s.fi.length=8:=h.ok.nq
theorem fC.le (h:fC P own w0 w sb db wb dm tb tm v ps qs d s):w0.heap.size<=w.heap.size:=h.iA.size
theorem fC.pR (h:fC P own w0 w sb db wb dm tb tm v ps qs d s):mu P w0.heap.size w:=⟨w0,rfl,h.lW,h.iA⟩
theorem fC.nh (h:fC P own w0 w sb db wb dm tb tm v ps qs d s):Handle w:=h.my.below h.iA
theorem fC.handle (h:fC P own w0 w sb db wb dm tb tm v ps qs d s) (hb:BB w w'):Handle w':=h.nh.below hb
theorem fC.fI (h:fC P own w0 w sb db wb dm tb tm v ps qs d s) (ht:eJ S w w') (he:Ext w own own1) (i:∀g,w'.heap.size<=g->own1 g=0) (hs:∀g,g<w.heap.size->S g->¬fL own g/\w0.heap.size<=g):fC P own1 w0 w' sb db wb dm tb tm v ps qs d s:=by
 have j:eJ (fun g=>g<w.heap.size/\S g) w w':=ht.mono fun k hk hS=>⟨hk,hS⟩
 have no:∀g k,own g=k->1<=k->k<20->¬S g\/w.heap.size<=g:=fun g k hk h1 h2=>by
  rcases bk g w.heap.size with hg|hg
  ·exact .inl fun hS=>(hs g hg hS).1 ⟨ab,ab⟩
  exact .inr hg
 have a:∀g k,g<w.heap.size->own g=k->1<=k->k<20->¬S g:=fun g k hg hk h1 h2=>(no g k hk h1 h2).resolve_right ab;have b:=h.fF.w_.lt;have nh:=h.jU.lt;have e:=h.s_.lt;have f:=h.done.lt;have c:=h.eW.lt
 refine⟨h.lW,h.my,h.iA.trans (j.oE h.le fun k hk hS=>by have:=(hs k hS.1 hS.2).2;omega),fun g hg=>?_,i,⟨ht.has h.fF.w_ (a _ 3 b h.fF.ow aj aj),h.fF.row.fc ht he fun k hk ho=>a k 2 hk ho aj aj,by rw[he _ b];exact h.fF.ow,fun g hg=>?_,h.fF.lw⟩,
  ⟨ht.has h.jU.d_ (a _ 1 nh h.jk aj aj),h.jU.hp⟩,h.kZ,by rw[he _ nh];exact h.jk,ht.has h.s_ (a _ 4 e h.iL aj aj),by rw[he _ e];exact h.iL,h.ok,h.lq,fun o ho=>(h.eQ o ho).fc ht he fun k hk QX=>a k (10+o) hk QX ab ab,
  h.done.fI ht (a _ 5 f h.km aj aj),by rw[he _ f];exact h.km,h.eW.fI ht (a _ 6 c.1 h.kJ aj aj) (a _ 7 c.2 h.kK aj aj),by rw[he _ c.1];exact h.kJ,by rw[he _ c.2];exact h.kK⟩
 ·exact abn
 rcases bk g w.heap.size with hg'|hg'
 ·rw[he g hg']at hg;exact h.fF.low g hg
 exact aB h.le hg'
theorem fC.below (h:fC P own w0 w sb db wb dm tb tm v ps qs d s) (hb:BB w w'):fC P own w0 w' sb db wb dm tb tm v ps qs d s:=
 h.fI (S:=fun _=>False) (eJ.il hb (ax _)) (Ext.refl _ _) (fun g hg=>h.fr g (aB hb.size hg)) (fun _ _ h=>h.elim)
theorem fC.pS (h:fC P own w0 w sb db wb dm tb tm v ps qs d s) (ht:eJ S w w') (hs:∀g,g<w.heap.size->S g->own g=0/\w0.heap.size<=g):fC P own w0 w' sb db wb dm tb tm v ps qs d s:=
 h.fI ht (Ext.refl _ _) (fun g a=>h.fr g (aB ht.size a)) fun g a hS=>⟨fun hq=>by have:=(hs g a hS).1;unfold fL at hq;omega,(hs g a hS).2⟩
theorem xA.below (h:xA P own w0 w sb db d s) (hb:BB w w'):xA P own w0 w' sb db d s:=by
 obtain⟨wb,dm,tb,tm,v,ps,qs,h⟩:=h;exact⟨wb,dm,tb,tm,v,ps,qs,h.below hb⟩
end
theorem below_setRow {B g:Nat} {w w':World} (h:Below B w w') (b:B<=g) (cs:Array Value):Below B w (w'.setRow g cs):=
 ⟨h.os,h.tape,h.output,by simpa[World.setRow]using h.size,fun k a=>(setRow_other _ _ _ _ ab).trans (h.block k a)⟩
section
variable {P:Lib.PrintTabs} {own:Nat->Nat} {w0 w:World} {sb db wb dm tb tm:Nat} {v:Value} {ps:List ByteArray} {qs:List Value} {d:fe} {s:eA}
theorem fC.vl (h:fC P own w0 w sb db wb dm tb tm v ps qs d s):(s.values.flatMap nL).length=16:=by rw[nf sL,h.nv]
theorem fC.jJ (h:fC P own w0 w sb db wb dm tb tm v ps qs d s) (j:Nat) (u:Value) (a:([.map (some dm),VP tb 0,VI s.eS,VI s.quiet,VI s.eB,VI s.gy]:List Value)[j]?=some u):w.cell? ⟨sb,28+j,none⟩=some u:=by
 rw[h.s_.cell,aJ,kI];rw[aR ah,aR (by rw[h.vl];simp;omega),aR (by rw[h.vl,h.lq];simp;omega),h.vl,h.lq];rw[<- a];congr 1;simp;omega
theorem fC.cell0 (h:fC P own w0 w sb db wb dm tb tm v ps qs d s) (j:Nat) (u:Value) (a:([VI s.eZ.eF,VI s.eZ.fa,VI s.eZ.fH,VP wb 0]:List Value)[j]?=some u):w.cell? ⟨sb,j,none⟩=some u:=by
 rw[h.s_.cell,aJ,kI];rw[ba (az.1 a).1];exact a
theorem fC.rA (h:fC P own w0 w sb db wb dm tb tm v ps qs d s) (o:Nat) (a:o<8):CC w sb (4+o*2) (.string ⟨(s.value o).data.toArray⟩)/\w.cell? ⟨sb,4+o*2+1,none⟩=some (VI (s.value o).fq):=by
 have b:s.values[o]?=some (s.value o):=by
  (have c:o<s.values.length:=by rw[h.nv];exact a);rw[eA.value,aC,ay c];rfl
 have g:=flat_get sL s.values o _ b
 have hc:∀j,j<2->w.cell? ⟨sb,4+(o*2+j),none⟩=(nL (s.value o))[j]?:=fun j hj=>by
  rw[h.s_.cell,aJ,kI,aR ae,ba (by rw[h.vl];simp;omega),<- g j hj];congr 1;simp
 exact⟨hc 0 aj,by rw[Nat.add_assoc];exact hc 1 aj⟩
theorem fC.kh (h:fC P own w0 w sb db wb dm tb tm v ps qs d s) (o:Nat) (a:o<8):w.cell? ⟨sb,20+o,none⟩=some (qs.getD o undef):=by
 (have b:o<qs.length:=by rw[h.lq];exact a);rw[h.s_.cell,aJ,kI,aR ah,aR (by rw[h.vl];simp;omega),h.vl,aL,aL,aL,aL,bJ,ba ab,aC,show 20+o-4-16=o by omega];rw[ay b];rfl
end
section
variable {P:Lib.PrintTabs} {own:Nat->Nat} {w0:World} {sb db wb dm tb tm:Nat} {v:Value} {ps:List ByteArray} {qs:List Value} {d:fe} {s:eA}
theorem uz (w:World) (h:fC P own w0 w sb db wb dm tb tm v ps qs d s) :
 Calls Tryz.prog 68 #[VP sb 0] w fun e w'=>e=.returned (.bool s.eX)/\w=w':=by
 have c3:=h.cell0 3 _ rfl;have D:=IJ w h.fF;clear h;(go_enter Tryz.func68,Tryz.ntmps68);(go_wp2_with (go_at_call 88;refine D.mono ?_;rintro e w' ⟨rfl,rfl⟩));go_ret;exact⟨rfl,rfl⟩
theorem qB (w:World) (m:eL) (h:fC P own w0 w sb db wb dm tb tm v ps qs d s) :
 Calls Tryz.prog 89 #[VP sb 0,m.val] w fun e w'=>e=.returned (s.fG m).val/\BB w w':=by
 have c5:=h.jJ 1 _ rfl;have c6:=h.jJ 2 _ rfl;have n:=h.s_.lt;have q:∀w',BB w w'->jo w' tb tm s.eW:=fun w' hb=>h.eW.below hb;obtain⟨mk,b,j,H,ms,k,mv,l,md⟩:=m;unfold eL.val;dsimp only;clear h;(go_enter Tryz.func89,Tryz.ntmps89);go_wp2;obtain⟨a,f⟩:=nm ((w.alloc (.cells #[VI mk,VI b,VI j,VI s.eS,VI ms,VI k,VI mv,.bool l,.string ⟨md.toArray⟩] 93)).alloc (.cells #[VI 0,VI 0,VI 0,VI 0,VI 0,VI 0,VI 0,.bool false,.string ⟨#[]⟩] 93));(have g:BB w a:=by rw[f];exact ((Below.refl _ _).alloc (ax _) _).alloc ae _);have r:CP a sb 29 tb 0:=(g.cell (p:=⟨sb,29,none⟩) n).trans c5;(have c:Has a w.heap.size (.cells #[VI mk,VI b,VI j,VI s.eS,VI ms,VI k,VI mv,.bool l,.string ⟨md.toArray⟩] 93):=by rw[f];exact (Has.new w _).alloc _);(have t:Has a (w.heap.size+1) (.cells #[VI 0,VI 0,VI 0,VI 0,VI 0,VI 0,VI 0,.bool false,.string ⟨#[]⟩] 93):=by rw[f,<- World.size_alloc w];exact Has.new _ _);have C:CI a w.heap.size 1 b:=c.cell 1;have D:CI a w.heap.size 4 ms:=c.cell 4;have f4:a.frozen? ⟨w.heap.size,4,none⟩=false:=c.frozen 4;have x:jo a tb tm s.eW:=q _ g;rw[<- f];clear f q c5 c6;have y:∀u,((a.setCell ⟨w.heap.size,4,none⟩ u).drew.cell? ⟨sb,29,none⟩=some (VP tb 0)/\(a.setCell ⟨w.heap.size,4,none⟩ u).drew.cell? ⟨w.heap.size,1,none⟩=some (VI b)):=fun u=>⟨(World.cell?_setCell_far _ _ _ _ (Nat.ne_of_gt n)).trans r,(c.fQ 4 _).cell 1⟩;(go_region_held3 (fun W=>CP W sb 29 tb 0/\CI W w.heap.size 1 b) (first|exact y _|go_keep) ((go_at_call 119;refine (Hl b (jo.drew x)).mono ?_;rintro e w' ⟨ev,rfl,-,rfl⟩)));have z:=c.fQ 4 (VI (s.eW.fx b));have A:BB w (a.setCell ⟨w.heap.size,4,none⟩ (VI (s.eW.fx b))).drew:=(g.setCell (ax _) _).drew;obtain⟨B,i⟩:=nm ((a.setCell ⟨w.heap.size,4,none⟩ (VI (s.eW.fx b))).drew);(have E:Has B w.heap.size (.cells #[VI mk,VI b,VI j,VI s.eS,VI (s.eW.fx b),VI k,VI mv,.bool l,.string ⟨md.toArray⟩] 93):=by rw[i];exact z);rw[<- i]at A⊢;(have F:Has B (w.heap.size+1) (.cells #[VI 0,VI 0,VI 0,VI 0,VI 0,VI 0,VI 0,.bool false,.string ⟨#[]⟩] 93):=by rw[i];exact (t.jv (p:=⟨w.heap.size,4,none⟩) ae _).drew);clear i z y r C D f4 c g x t;have G:=Hd E;have HR:=Hd F
 go_wp2_with (first
  |(refine wpList_load_row rfl 93 (.tmp 3) rfl w.heap.size rfl 93 _ (0,0) _ G.o Tryz.underlying93 rfl af ?_)
  |(refine wpList_store_row rfl 93 (.tmp 4) (.tmp 21) rfl (w.heap.size+1) _ rfl rfl 93 _ HR.o af af af ?_))
 exact bodyPost_ret (results_cell_row Tryz.results89 _ _ (w.heap.size+1) 93 _ (0,0) _ rfl (HR.o.setRow _) Tryz.underlying93 rfl af) rfl ⟨rfl,below_setRow A ab _⟩
theorem fC.nj {w w':World} {a:eA} {b:List Value} (h:fC P own w0 w sb db wb dm tb tm v ps qs d s) (ht:eJ (fun g=>g=sb) w w')
 (hs:Has w' sb (.cells (kI a.eZ wb a.values b dm tb a.eS a.quiet a.eB a.gy).toArray 105)) (j:Plain d a) (l:b.length=8)
 (c:∀o,o<8->iD own (10+o) w' 162 4 (b.getD o undef) (a.eQ o).length ((a.eQ o).flatMap kA)) (m:a.eX=s.eX) (f:a.done=s.done) (i:a.eW=s.eW):fC P own w0 w' sb db wb dm tb tm v ps b d a:=by
 (have ne:∀g k,own g=k->k≠4->g≠sb:=fun g k hk h4 e=>by rw[e,h.iL]at hk;exact h4 hk.symm);have n:=ne wb 3 h.fF.ow aj;refine⟨h.lW,h.my,h.iA.trans (ht.oE h.le fun k hk e=>by have:=h.low sb ⟨by rw[h.iL];decide,by rw[h.iL];decide⟩;omega),h.low,fun g p=>h.fr g (aB ht.size p),?_,h.jU.fI ht (ne _ 1 h.jk aj),h.kZ,h.jk,hs,h.iL,j,l,c,?_,h.km,?_,h.kJ,h.kK⟩
 ·rw[m];exact h.fF.fI ht n fun k hk=>ne k 2 hk aj
 ·rw[f];exact h.done.fI ht (ne _ 5 h.km aj)
 rw[i];exact h.eW.fI ht (ne _ 6 h.kJ aj) (ne _ 7 h.kK aj)
theorem fC.sN {w w':World} (h:fC P own w0 w sb db wb dm tb tm v ps qs d s) (ht:eJ (fun g=>g=sb) w w'):∀o,o<8->iD own (10+o) w' 162 4 (qs.getD o undef) (s.eQ o).length ((s.eQ o).flatMap kA):=
 fun o a=>(h.eQ o a).fc ht (Ext.refl _ _) fun k _ hk e=>by rw[e,h.iL]at hk;omega
theorem uA {t:fU} {wb dm tb:Nat} {b:List ir} {qs:List Value} {e q n o:Int} (hv:b.length=8) (c:qs.length=8) (j:Nat) (u:Value) :
 (kI t wb b qs dm tb e q n o).set (28+j) u=[VI t.eF,VI t.fa,VI t.fH,VP wb 0]++(b.flatMap nL++(qs++([.map (some dm),VP tb 0,VI e,VI q,VI n,VI o]:List Value).set j u)):=by
 (have a:(b.flatMap nL).length=16:=by rw[nf sL,hv]);unfold kI;rw[bE _ _ ah,bE _ _ (by rw[a];simp;omega),bE _ _ (by rw[a,c];simp;omega),a,c];congr 3;congr 1;simp;omega
theorem fC.I8 {w:World} (h:fC P own w0 w sb db wb dm tb tm v ps qs d s) (n:Int):fC P own w0 (w.setCell ⟨sb,32,none⟩ (VI n)) sb db wb dm tb tm v ps qs d {s with eB:=n}:=by
 have ht:eJ (fun g=>g=sb) w (w.setCell ⟨sb,32,none⟩ (VI n)):=gX (eJ.refl _ _) 32 _;refine h.nj ht ?_ ⟨h.ok.nv,h.ok.nq,h.ok.qc,h.ok.dk,h.ok.rc,h.ok.ql⟩ h.lq (h.sN ht) rfl rfl rfl;have:=h.s_.fQ 32 (VI n);rw[aP,uA h.nv h.lq 4]at this;exact this
theorem fC.I9 {w:World} (h:fC P own w0 w sb db wb dm tb tm v ps qs d s) (n:Int):fC P own w0 (w.setCell ⟨sb,33,none⟩ (VI n)) sb db wb dm tb tm v ps qs d {s with gy:=n}:=by
 have ht:eJ (fun g=>g=sb) w (w.setCell ⟨sb,33,none⟩ (VI n)):=gX (eJ.refl _ _) 33 _;refine h.nj ht ?_ ⟨h.ok.nv,h.ok.nq,h.ok.qc,h.ok.dk,h.ok.rc,h.ok.ql⟩ h.lq (h.sN ht) rfl rfl rfl;have:=h.s_.fQ 33 (VI n);rw[aP,uA h.nv h.lq 5]at this;exact this
theorem AU (w:World) (n:Int) (h:fC P own w0 w sb db wb dm tb tm v ps qs d s) :
 Calls Tryz.prog 69 #[VP sb 0,VI n] w fun e w'=>e=.returned (.tuple #[])/\fC P own w0 w' sb db wb dm tb tm v ps qs d (s.at_ n)/\eJ (fun g=>g=sb) w w':=by
 have c4:=h.jJ 4 _ rfl
 have f4:=h.s_.frozen 32
 have H:=Hd h
 have ht:∀x,eJ (fun g=>g=sb) w (w.setCell ⟨sb,32,none⟩ x):=fun x=>gX (eJ.refl _ _) 32 _
 have a:=Hd ht
 unfold eA.at_
 clear h ht
 go_enter Tryz.func69,Tryz.ntmps69
 go_wp2
 go_end0
 exact⟨rfl,H.o.I8 _,a.o _⟩
theorem Ja (m:eL):s.kF m=(eY.fX m.eI&&(m.eS==s.eS)&&(m.fx==s.eW.fx m.eI)):=rfl
theorem xB (w:World) (m:eL) (h:fC P own w0 w sb db wb dm tb tm v ps qs d s) :
 Calls Tryz.prog 90 #[VP sb 0,m.val] w fun e w'=>e=.returned (.bool (s.kF m))/\BB w w':=by
 have c5:=h.jJ 1 _ rfl;have c6:=h.jJ 2 _ rfl;have l:=h.s_.lt;rw[Ja];obtain⟨mk,mc,n,f,ms,q,mv,r,md⟩:=m;unfold eL.val;dsimp only;obtain⟨a,Pz⟩:=nm (w.alloc (.cells #[VI mk,VI mc,VI n,VI f,VI ms,VI q,VI mv,.bool r,.string ⟨md.toArray⟩] 93));(have g:BB w a:=by rw[Pz];exact (Below.refl _ _).alloc (ax _) _);have B:CP a sb 29 tb 0:=(g.cell (p:=⟨sb,29,none⟩) l).trans c5;have C:CI a sb 30 s.eS:=(g.cell (p:=⟨sb,30,none⟩) l).trans c6;(have i:Has a w.heap.size (.cells #[VI mk,VI mc,VI n,VI f,VI ms,VI q,VI mv,.bool r,.string ⟨md.toArray⟩] 93):=by rw[Pz];exact Has.new w _);have D:CI a w.heap.size 1 mc:=i.cell 1;have E:CI a w.heap.size 3 f:=i.cell 3;have F:CI a w.heap.size 4 ms:=i.cell 4;have t:jo a tb tm s.eW:=h.eW.below g;have PQ:=Hd g;obtain⟨j,c⟩:=nm (s.eW.fx mc)
 obtain⟨ev,k⟩:=nm (iC (if eY.fX mc then 0 else 2))
 have HSE:Hy (Calls Tryz.prog 119 #[VP tb 0,VI mc] a.drew fun e w'=>e=.returned (.tuple #[VI j,ev])/\a.drew=w'):=Hd (by
  rw[c,k]
  exact zT mc t.drew)
 rw[<- c];obtain⟨u,x⟩:=nm (f==s.eS);obtain⟨y,z⟩:=nm (ms==j);have e1:(f==s.eS)=u:=x.symm;have A:(ms==j)=y:=z.symm;rw[e1,A];(have b:ev=if eY.fX mc then .nilIface else .iface 70 (VI 2):=by rw[k];split<;>rfl);clear k c x z h c5 c6 t g
 cases PI:eY.fX mc with
 |false =>
  rw[PI]at b;obtain rfl:ev=.iface 70 (VI 2):=b;clear PI;exact aba
 |true =>
  rw[PI]at b;obtain rfl:ev=.nilIface:=b;clear PI;cases u<;>cases y
  all_goals
   exact aba
end
section
variable {P:Lib.PrintTabs} {own:Nat->Nat} {w0:World} {sb db wb dm tb tm:Nat} {v:Value} {ps:List ByteArray} {qs:List Value} {d:fe} {s:eA}
theorem AV (w:World):Has (w.alloc (.cells #[VI 0,VI 0,VI 0,VI 0,VI 0,VI 0,VI 0,.bool false,.string ⟨#[]⟩] 93)) w.heap.size (.cells #[VI 0,VI 0,VI 0,VI 0,VI 0,VI 0,VI 0,.bool false,.string ⟨#[]⟩] 93):=Has.new _ _
theorem AW (m:eL):∃cs:Array Value,m.val=.agg cs/\cs.size=9/\cs.all (·.oneCell')=true:=⟨(iS m).toArray,rfl,rfl,by simp[iS,Value.oneCell']⟩
theorem uB {cs:Array Value} (h:cs.size=9):(Tryz.prog.info? 93).map (·.size)=some cs.size:=by rw[h];kernel_rfl
theorem AX (w:World) (c:Int) (h:fC P own w0 w sb db wb dm tb tm v ps qs d s) :
 Calls Tryz.prog 91 #[VP sb 0,VI c] w fun e w'=>e=.returned (s.lp c).val/\BB w w':=by
 have H:=Hd h;clear h;(go_enter Tryz.func91,Tryz.ntmps91);(go_wp2_with fail);have a:BB w (w.alloc (.cells #[VI 0,VI 0,VI 0,VI 0,VI 0,VI 0,VI 0,.bool false,.string ⟨#[]⟩] 93)):=(Below.refl _ _).alloc (ax _) _;have j:=Hd (AV w);refine (qB _ {eY.iH with eO:=8,eI:=c} (H.o.below a)).mono ?_;rintro e m ⟨rfl,b⟩;have k:=Hd (a.trans (b.mono a.size));have HR:=Hd (j.o.below b j.o.lt);obtain⟨cs,f,g,l⟩:=AW (s.fG {eY.iH with eO:=8,eI:=c});have i:=Hd f;rw[f];clear f a b;(go_wp2_with (refine wpList_store_row rfl 93 (.tmp 4) (.tmp 8) rfl w.heap.size cs rfl rfl 93 _ HR.o (uB g) (by rw[g];rfl) l ?_));refine bodyPost_ret (results_cell_row Tryz.results91 _ _ w.heap.size 93 _ (0,0) _ rfl (HR.o.setRow _) Tryz.underlying93 rfl (uB g)) rfl ⟨?_,below_setRow k.o (ax _) _⟩;rw[<- i.o];rfl
theorem AY (w:World) (c:Int) (o:Nat) (l:o<8) (h:fC P own w0 w sb db wb dm tb tm v ps qs d s) :
 Calls Tryz.prog 98 #[VP sb 0,VI c,VI o] w fun e w'=>e=.returned (s.ig c o).val/\BB w w':=by
 have H:=Hd h;have j:BB w (w.alloc (.cells #[VI 0,VI 0,VI 0,VI 0,VI 0,VI 0,VI 0,.bool false,.string ⟨#[]⟩] 93)):=(Below.refl _ _).alloc (ax _) _;have k:=Hd (AV w);have m:=(h.rA o l).2;have q:=h.s_.lt;have r:(o:Int)<8:=ab;have a:=Hd j;clear h j;(go_enter Tryz.func98,Tryz.ntmps98);(go_wp2_with fail);refine (qB _ {eY.iH with eO:=9,eI:=c,eF:=o,fJ:=wrap64 ((s.value o).fq+1)} (H.o.below a.o)).mono ?_;rintro e t ⟨rfl,b⟩;have n:=Hd (a.o.trans (b.mono a.o.size));have HR:=Hd (k.o.below b k.o.lt);obtain⟨cs,f,g,p⟩:=AW (s.fG {eY.iH with eO:=9,eI:=c,eF:=o,fJ:=wrap64 ((s.value o).fq+1)});have i:=Hd f;rw[f];clear f b m;(go_wp2_with (refine wpList_store_row rfl 93 (.tmp 6) (.tmp 19) rfl w.heap.size cs rfl rfl 93 _ HR.o (uB g) (by rw[g];rfl) p ?_));refine bodyPost_ret (results_cell_row Tryz.results98 _ _ w.heap.size 93 _ (0,0) _ rfl (HR.o.setRow _) Tryz.underlying93 rfl (uB g)) rfl ⟨?_,below_setRow n.o (ax _) _⟩;rw[<- i.o];rfl
end
theorem AZ (x:ir):∀(a:List ir) (o:Nat),o<a.length->((a.flatMap nL).set (o*2) (.string ⟨x.data.toArray⟩)).set (o*2+1) (VI x.fq)=(a.set o x).flatMap nL
 | [],_,h=>by simp at h
 |y::l,0,_=>by simp[nL]
 |y::l,o+1,h=>by
  simp only[aL]at h;have ih:=AZ x l o ab;have e:(nL y).length=2:=rfl;rw[bf,bm,bm,<- ih,dQ,eu,bE _ _ (by rw[e];omega),bE _ _ (by rw[e];omega),e,cK,show o*2+2+1-2=o*2+1 by omega]
theorem Jb {t:fU} {wb dm tb:Nat} {a:List ir} {qs:List Value} {e q n o:Int} (hv:a.length=8) (k:Nat) (c:k<8) (x:ir) :
 ((kI t wb a qs dm tb e q n o).set (4+k*2) (.string ⟨x.data.toArray⟩)).set (4+k*2+1) (VI x.fq)=kI t wb (a.set k x) qs dm tb e q n o:=by
 (have b:(a.flatMap nL).length=16:=by rw[nf sL,hv]);unfold kI;rw[bE _ _ ae,bE _ _ ah,show 4+k*2-([VI t.eF,VI t.fa,VI t.fH,VP wb 0]:List Value).length=k*2 by simp,show 4+k*2+1-([VI t.eF,VI t.fa,VI t.fH,VP wb 0]:List Value).length=k*2+1 by simp;omega];rw[dy _ _ (by rw[b];omega),dy _ _ (by rw[aU,b];omega),AZ x a k ab]
section
variable {P:Lib.PrintTabs} {own:Nat->Nat} {w0:World} {sb db wb dm tb tm:Nat} {v:Value} {ps:List ByteArray} {qs:List Value} {d:fe} {s:eA}
theorem A0 {w:World} (h:fC P own w0 w sb db wb dm tb tm v ps qs d s):s.done.length<=4:=by
 have:=ud (s.done.map (·.1)) [0,1,2,3] h.done.nodup (fun x hx=>by
  obtain⟨p,hp,rfl⟩:=aW.1 hx;have:=h.ok.dk p hp;have a:p.1=0\/p.1=1\/p.1=2\/p.1=3:=ab
  rcases a with a|a|a|a<;>rw[a]<;>simp)
 simpa using this
theorem fC.Jc {w w':World} (h:fC P own w0 w sb db wb dm tb tm v ps qs d s) (k:Nat) (a:k<8) (x:ir) (ht:eJ (fun g=>g=sb) w w')
 (hs:Has w' sb (.cells (((kI s.eZ wb s.values qs dm tb s.eS s.quiet s.eB s.gy).toArray.setIfInBounds (4+k*2) (.string ⟨x.data.toArray⟩)).setIfInBounds (4+k*2+1) (VI x.fq)) 105)):fC P own w0 w' sb db wb dm tb tm v ps qs d {s with values:=s.values.set k x}:=by
 refine h.nj ht ?_ ⟨by show (s.values.set k x).length=8;rw[aU];exact h.nv,h.nq,h.ok.qc,h.ok.dk,h.ok.rc,h.ok.ql⟩ h.lq (h.sN ht) rfl rfl rfl;rw[aP,aP,Jb h.nv k a]at hs;exact hs
theorem fC.A3 {w w':World} (h:fC P own w0 w sb db wb dm tb tm v ps qs d s) (c:Int) (hc:0<=c/\c<4) (m:eL) (hm:At mT w' dm (put c m s.done)) (a:w.grownBy w' (some dm)):fC P own w0 w' sb db wb dm tb tm v ps qs d {s with done:=put c m s.done}:=by
 have ht:eJ (fun g=>g=dm) w w':=⟨a.os,a.tape,a.output,a.size,fun k hk hn=>a.block k hk (fun e=>hn (by simpa using e))⟩;(have ne:∀g k,own g=k->k≠5->g≠dm:=fun g k hk h4 e=>by rw[e,h.km]at hk;exact h4 hk.symm);refine⟨h.lW,h.my,h.iA.trans (ht.oE h.le fun k hk e=>by have:=h.low dm ⟨by rw[h.km];decide,by rw[h.km];decide⟩;omega),h.low,fun g a=>h.fr g (aB ht.size a),h.fF.fI ht (ne _ 3 h.fF.ow aj) fun k hk=>ne k 2 hk aj,h.jU.fI ht (ne _ 1 h.jk aj),h.kZ,h.jk,ht.has h.s_ (ne _ 4 h.iL aj),h.iL,⟨h.nv,h.nq,h.ok.qc,fun p hp=>?_,h.ok.rc,h.ok.ql⟩,h.lq,fun o ho=>(h.eQ o ho).fc ht (Ext.refl _ _) fun k _ hk=>ne k _ hk ab,hm,h.km,h.eW.fI ht (ne _ 6 h.kJ aj) (ne _ 7 h.kK aj),h.kJ,h.kK⟩;rcases aH.1 hp with rfl|hp
 ·exact hc
 exact h.ok.dk p ((qt _ _).mem hp)
theorem A4 (w:World) (r:Rec) (o:Nat) (R:o<8) (T:r.eF=o) (hc:0<=r.eI/\r.eI<4) (h:fC P own w0 w sb db wb dm tb tm v ps qs d s) :
 Calls Tryz.prog 60 #[VP sb 0,mr r] w fun e w'=>e=.returned (s.jB r).2.val/\fC P own w0 w' sb db wb dm tb tm v ps qs d (s.jB r).1/\eJ (fun g=>g=sb\/g=dm) w w':=by
 obtain⟨rc,c,ro,a,rd,H⟩:=r;dsimp only at T hc;subst T;obtain⟨b,n⟩:=nm ((w.alloc (.cells (mq rc c (o:Int) a ⟨rd.toArray⟩ H) 124)).alloc (.cells #[VI 0,VI 0,VI 0,VI 0,VI 0,VI 0,VI 0,.bool false,.string ⟨#[]⟩] 93));(have L:BB w b:=by rw[n];exact ((Below.refl _ _).alloc (ax _) _).alloc ae _);(have Qt:b.heap.size=w.heap.size+2:=by rw[n];simp);(have x:Has b w.heap.size (.cells (mq rc c (o:Int) a ⟨rd.toArray⟩ H) 124):=by rw[n];exact (Has.new w _).alloc _);(have U:Has b (w.heap.size+1) (.cells #[VI 0,VI 0,VI 0,VI 0,VI 0,VI 0,VI 0,.bool false,.string ⟨#[]⟩] 93):=by rw[n,<- World.size_alloc w];exact Has.new _ _);have p:=h.below L;have Pw:=h.s_.lt;have M:=Hd (A0 h);have X7:=Hd h.done.lt;have RI:=Hd h.fr;have Zy:=Hd h.le;have Up:Hy (je rc):=Hd (WalkArith.wf_i64 ab);have V:CI b w.heap.size 2 o:=x.cell 2;have X:CI b w.heap.size 3 a:=x.cell 3;have Y:CC b w.heap.size 4 (.string ⟨rd.toArray⟩):=x.cell 4;have N:=p.rA o R;have c0:=N.1;have c1:=N.2;have f0:=p.s_.frozen (4+o*2);have f1:=p.s_.frozen (4+o*2+1);have Sb:(o:Int)<8:=ab;have m:w.heap.size≠sb:=Nat.ne_of_gt Pw;have H1:=Hd p;have HX:=Hd x;have HR:=Hd U;have HB:=Hd L;have HC:=Hd hc
 have Z:∀(u v:Value),(((b.setCell ⟨sb,4+o*2,none⟩ u).setCell ⟨sb,4+o*2+1,none⟩ v).drew.cell? ⟨w.heap.size,2,none⟩=some (VI o)/\((b.setCell ⟨sb,4+o*2,none⟩ u).setCell ⟨sb,4+o*2+1,none⟩ v).drew.cell? ⟨w.heap.size,3,none⟩=some (VI a)/\((b.setCell ⟨sb,4+o*2,none⟩ u).setCell ⟨sb,4+o*2+1,none⟩ v).drew.cell? ⟨w.heap.size,4,none⟩=some (.string ⟨rd.toArray⟩)):=fun u v =>
  ⟨(World.cell?_setCell_far _ _ _ _ m.symm).trans ((World.cell?_setCell_far _ _ _ _ m.symm).trans V),(World.cell?_setCell_far _ _ _ _ m.symm).trans ((World.cell?_setCell_far _ _ _ _ m.symm).trans X),(World.cell?_setCell_far _ _ _ _ m.symm).trans ((World.cell?_setCell_far _ _ _ _ m.symm).trans Y)⟩
 unfold mr;clear h p x U L N hc;(go_enter Tryz.func60,Tryz.ntmps60);go_wp2;rw[<- n];clear n;(go_region_held3 (fun W=>CI W w.heap.size 2 o/\CI W w.heap.size 3 a/\CC W w.heap.size 4 (.string ⟨rd.toArray⟩)) (first|exact Z _ _|go_keep) (fail));obtain⟨i,y⟩:=nm (((b.setCell ⟨sb,4+o*2,none⟩ (.string ⟨rd.toArray⟩)).setCell ⟨sb,4+o*2+1,none⟩ (VI a)).drew);(have A:eJ (fun g=>g=sb) b i:=by rw[y];exact (gX (gX (eJ.refl _ _) _ _) _ _).drew);have h2:fC P own w0 i sb db wb dm tb tm v ps qs d {s with values:=s.values.set o ⟨rd,a⟩}:=H1.o.Jc o R ⟨rd,a⟩ A (by rw[y];exact ((H1.o.s_.fQ _ _).fQ _ _).drew);have q:Has i w.heap.size (.cells (mq rc c o a ⟨rd.toArray⟩ H) 124):=A.has HX.o m;(have Qi:i.heap.size=w.heap.size+2:=by rw[y,<- Qt];simp[World.setCell]);have Qu:=Hd (A.has HR.o ab);have Qo:=Hd A;have H2:=Hd h2;have Qg:=Hd q;have y0:CI i w.heap.size 0 rc:=q.cell 0;have y1:CI i w.heap.size 1 c:=q.cell 1;have y2:CI i w.heap.size 2 o:=q.cell 2;have y3:CI i w.heap.size 3 a:=q.cell 3;rw[<- y];clear y h2 q A V X Y c0 c1 f0 f1 Z;(go_wp2_with fail);obtain⟨l,B⟩:=nm (i.alloc (.cells #[VI 6,VI rc,VI c,VI 0,VI 0,VI (o:Int),VI a,.bool false,.string ⟨#[]⟩] 93));(have C:BB i l:=by rw[B];exact (Below.refl _ _).alloc (ax _) _);(have gm:Has l (w.heap.size+2) (.cells #[VI 6,VI rc,VI c,VI 0,VI 0,VI (o:Int),VI a,.bool false,.string ⟨#[]⟩] 93):=by rw[B,<- Qi];exact Has.new _ _);have I:=H2.o.below C;have D:CC l sb 28 (.map (some dm)):=I.jJ 0 _ rfl;have E:CI l w.heap.size 0 rc:=(Qg.o.below C ab).cell 0;have YK:=Hd I.done;have H3:=Hd I;have R9:=Hd (Qu.o.below C ab);have QV:=Hd (Qo.o.jl C (ax _));(have TK:l.heap.size=w.heap.size+3:=by rw[B];simp;omega);rw[<- B];clear B C I y0 y1 y2 y3;have HS:Hy (CC l.drew sb 28 (.map (some dm))/\CI l.drew w.heap.size 0 rc/\Has l.drew (w.heap.size+2) (.cells #[VI 6,VI rc,VI c,VI 0,VI 0,VI (o:Int),VI a,.bool false,.string ⟨#[]⟩] 93)):=Hd ⟨D,E,gm⟩;refine last.head (fun W=>CC W sb 28 (.map (some dm))/\CI W w.heap.size 0 rc/\Has W (w.heap.size+2) (.cells #[VI 6,VI rc,VI c,VI 0,VI 0,VI (o:Int),VI a,.bool false,.string ⟨#[]⟩] 93)) 7 8 ?_;refine last.many [(0,26,_),(1,27,_),(2,28,_),(3,29,_),(4,30,_),(5,31,_),(6,32,_)] HS.o ?_ (hy:=fun j f=>by have p:=f.1;have f0:=f.2.1;have e0:CI j (w.heap.size+2) 0 6:=f.2.2.cell 0;have e1:CI j (w.heap.size+2) 1 rc:=f.2.2.cell 1;have e2:CI j (w.heap.size+2) 2 c:=f.2.2.cell 2;have e3:CI j (w.heap.size+2) 3 0:=f.2.2.cell 3;have e4:CI j (w.heap.size+2) 4 0:=f.2.2.cell 4;have e5:CI j (w.heap.size+2) 5 (o:Int):=f.2.2.cell 5;have e6:CI j (w.heap.size+2) 6 a:=f.2.2.cell 6;have e7:CC j (w.heap.size+2) 7 (.bool false):=f.2.2.cell 7;have e8:CC j (w.heap.size+2) 8 (.string ⟨#[]⟩):=f.2.2.cell 8;repeat (first|exact .z|refine .s ?_|refine .k ?_));refine last.one 7 fun K hK=>?_;refine sE mT (.tmp 29) (.tmp 31) (.tmp 32) rfl rfl (YK.o.drew) (by show s.done.length<maxLen;unfold maxLen;have:=M.o;omega) (k:=rc) (u:=(s.jB ⟨rc,c,o,a,rd,H⟩).2) Up.o trivial rfl rfl ?_;intro J F t;refine hK.out _ _ (fun h=>absurd rfl h) ?_;refine last.done ?_;have h4:=(H3.o.below ((Below.refl _ _).drew)).A3 rc HC.o _ F t;have O:=t.size;(have aa:w.heap.size+3<=J.heap.size:=by rw[<- TK];exact O);have H4:=Hd h4
 have G:dm≠w.heap.size+1/\dm≠w.heap.size+2:=by
  have:=X7.o;omega
 have Q:Hy (Has J (w.heap.size+2) (.cells #[VI 6,VI rc,VI c,VI 0,VI 0,VI (o:Int),VI a,.bool false,.string ⟨#[]⟩] 93)):=Hd (gm.drew.grown t (fun e=>G.2 (by simpa using e.symm)));have T3:=Hd (R9.o.drew.grown t (fun e=>G.1 (by simpa using e.symm)));have X8:Hy (eJ (fun g=>g=sb\/g=dm) b J):=Hd ((QV.o.mono fun _ _ h=>.inl h).drew.grown t (fun k hk=>.inr (.inr (by simpa using hk.symm))));clear h4 F t hK K gm D E QV R9
 go_wp2_with (first
  |(refine wpList_load_row rfl 93 (.tmp 5) rfl (w.heap.size+2) rfl 93 _ (0,0) _ Q.o Tryz.underlying93 rfl af ?_)
  |(refine wpList_store_row rfl 93 (.tmp 4) (.tmp 33) rfl (w.heap.size+1) _ rfl rfl 93 _ T3.o af af af ?_))
 have h5:=H4.o.pS (S:=fun g=>g=w.heap.size+1) (w':=J.setRow (w.heap.size+1) #[VI 6,VI rc,VI c,VI 0,VI 0,VI o,VI a,.bool false,.string ⟨#[]⟩]) (eJ.setRow (S:=fun g=>g=w.heap.size+1) (eJ.refl _ _) (.inr rfl) _) fun g _ hg=>⟨RI.o g ab,by have:=Zy.o;omega⟩;refine bodyPost_ret (results_cell_row Tryz.results60 _ _ (w.heap.size+1) 93 _ (0,0) _ rfl (T3.o.setRow _) Tryz.underlying93 rfl af) rfl ⟨rfl,h5,?_⟩;exact ((eJ.il HB.o (ax _)).trans X8.o (fun _ _ h=>h)).setRow (.inl ab) _
end
theorem pN {B:Nat} {w a:World} {e:TypeId} {size n:Nat} {v:Value} {xs:List Value} (h:w.ownsRow B e size v n xs) (hb:∀g,v.ownBlock=some g->a.heap[g]?=w.heap[g]?):a.ownsRow B e size v n xs:=by
 exact abP
def fV (B:Nat) (w:World) (v:Value) (l:List eL):Prop:=w.ownsRow B 93 9 v l.length (l.flatMap iS)
theorem fV.nil (B:Nat) (w:World):fV B w (.slice none 0 0) []:=World.ownsRow_nil w B _ 9
theorem fV.below {B:Nat} {w w':World} {v:Value} {l:List eL} (h:fV B w v l) (hb:BB w w'):fV B w' v l:=mh h hb
theorem fV.base {B a:Nat} {w:World} {v:Value} {l:List eL} (h:fV B w v l) (hb:a<=B):fV a w v l:=mg h hb
theorem fV.fI {B:Nat} {w w':World} {v:Value} {l:List eL} {S:Nat->Prop} (h:fV B w v l) (ht:eJ S w w') (hs:∀g,B<=g->g<w.heap.size->¬S g):fV B w' v l:=
 pN h fun g b=>by
  have a:=h.lt g b;exact ht.block g a.2 (hs g a.1 a.2)
theorem fV.new {w:World} {l:List eL} (a:l.length<=1000):fV w.heap.size (w.alloc (.cells (l.flatMap iS).toArray 93)) (.slice (some ⟨w.heap.size,0,none⟩) l.length l.length) l:=
 rq (Has.new w _) (ax _) (nf sK l) ak
def uC:Value:=.agg #[VI 0,VI 0,VI 0,VI 0,VI 0,VI 0,VI 0,.bool false,.string ByteArray.empty]
theorem Jd (m:eL):Instr.fill (fun i=>some (i*9,9)) ((Array.range (1*9)).map (uC.cells[·%uC.cells.size]!)) [(0,m.val)]=some (([m]:List eL).flatMap iS).toArray:=by
 obtain⟨a,b,c,d,e,f,g,l,s⟩:=m
 kernel_rfl
theorem Je (m m':eL):Instr.fill (fun i=>some (i*9,9)) ((Array.range (2*9)).map (uC.cells[·%uC.cells.size]!)) [(0,m.val),(1,m'.val)]=some (([m,m']:List eL).flatMap iS).toArray:=by
 obtain⟨a,b,c,d,e,f,g,l,s⟩:=m
 obtain⟨h,b',c',j,k,n,o,l',p⟩:=m'
 kernel_rfl
section
variable {ops:Array Oper} {rest:List Oper} {o:Oper} {a:Act} {w:World} {K:Act->World->Prop} {Q:Exit->Act->World->Prop}
theorem A5 (x:Operand) (m:eL) (c:o.op=.buildSlice 73 1 #[(0,x)]) (d:a.eval x=m.val)
 (h:K (a.put o.dst (.slice (some ⟨w.heap.size,0,none⟩) 1 1)) (w.alloc (.cells (([m]:List eL).flatMap iS).toArray 93))):o.wp Tryz.prog a w K Q:=by
 obtain⟨i0,f,g,b,j⟩:=info_parts uy;refine wp_buildSlice 73 93 1 _ c _ i0 _ Tryz.underlying73 f g (by rw[b];decide) (by rw[b];decide) ?_ h;rw[b];(have e:((#[(0,x)]:Array (Nat×Operand)).map fun (i,x)=>(i,a.eval x)).toList=[(0,m.val)]:=by simp[d]);rw[e];exact Jd m
theorem nk (b:o.guard=none) (x:Operand) (m:eL) (c:o.op=.buildSlice 73 1 #[(0,x)]) (d:a.eval x=m.val)
 (h:wpList Tryz.prog ops Q rest (a.put o.dst (.slice (some ⟨w.heap.size,0,none⟩) 1 1)) (w.alloc (.cells (([m]:List eL).flatMap iS).toArray 93))):wpList Tryz.prog ops Q (o::rest) a w:=
 wpList_plain b fun _ hK=>A5 x m c d (hK _ _ h)
theorem Jf (x b:Operand) (m m':eL) (d:o.op=.buildSlice 73 2 #[(0,x),(1,b)]) (f:a.eval x=m.val) (g:a.eval b=m'.val)
 (h:K (a.put o.dst (.slice (some ⟨w.heap.size,0,none⟩) 2 2)) (w.alloc (.cells (([m,m']:List eL).flatMap iS).toArray 93))):o.wp Tryz.prog a w K Q:=by
 obtain⟨i0,j,k,c,l⟩:=info_parts uy;refine wp_buildSlice 73 93 2 _ d _ i0 _ Tryz.underlying73 j k (by rw[c];decide) (by rw[c];decide) ?_ h;rw[c];(have e:((#[(0,x),(1,b)]:Array (Nat×Operand)).map fun (i,x)=>(i,a.eval x)).toList=[(0,m.val),(1,m'.val)]:=by simp[f,g]);rw[e];exact Je m m'
theorem A6 (x y:Operand) {B k:Nat} (m:B<=w.heap.size) (v u:Value) (l n:List eL) (p:o.op=.call {callee:=.builtin .append,args:=#[x,y],argTypes:=#[73,73]}) (q:a.eval x=v) (hy:a.eval y=u)
 (r:fV B w v l) (s:fV k w u n) (t:n≠[]) (J:l.length+n.length<=1000000) (H:Nat) (z:w.heap.size=H)
 (h:∀b w',fV B w' b (l++n)->w.grownBy w' v.ownBlock->(∀g,b.ownBlock=some g->v.ownBlock=some g\/g=H)->K (a.put o.dst b) w'):o.wp Tryz.prog a w K Q:=by
 obtain⟨i0,A,C,D,E⟩:=info_parts uy;have c:0<n.length:=List.length_pos_iff.2 t;rcases s.2 with⟨-,f⟩|⟨g,cap,cur,rfl,hb,F,L,M,N,G⟩
 ·omega
 refine wp_append_lies w x y 73 p B 93 i0 _ 9 80 Tryz.underlying73 A C D E rfl aj v l.length (l.flatMap iS) q r ⟨g,0,none⟩ n.length cap (n.flatMap iS) hy (nf sK n) (fun j u i=>?_) (xu AQ n) c ak ab m H z fun g' PL w' r1 r2 r3 _=>h _ _ ?_ r2 ?_
 ·(have I:j<n.length*9:=by rw[<- nf sK n];exact (az.1 i).1);(have e1:(⟨g,0,none⟩:Addr).add j=⟨g,j,none⟩:=by by_cases f:j=0<;>simp[Addr.add,f]);rw[e1,(kj F G j I).1,i]
 ·unfold fV;rw[aE,cH];exact r1
 intro d e;(obtain rfl:g'=d:=by simpa[Value.ownBlock]using e);exact r3
end
end fj
end Go.Proofs.YtjhdaojclilakaaGreatDoor
