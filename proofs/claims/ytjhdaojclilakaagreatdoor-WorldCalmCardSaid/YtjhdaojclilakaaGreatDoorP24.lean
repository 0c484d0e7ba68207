/-
  A part of the proof of the law WorldCalm: WalI.
-/
import Derived.Test.YtjhdaojclilakaaGreatDoorHd
import Derived.Test.YtjhdaojclilakaaGreatDoorP22
set_option maxHeartbeats 16000000
set_option maxRecDepth 1000000
namespace Go.Proofs.YtjhdaojclilakaaGreatDoor
section
variable {p q:Prop}
theorem abW (h:p:=by
 go_ret;have hbb:=TJ.o.trans (Pu.mono TJ.o.size);exact⟨rfl,own,_,ps,Ext.refl _ _,eJ.il hbb (ax _),YF.o.below Pu (ax _),X7.o.below Pu X7.o.lt,HP.o⟩):p:=h
end
namespace fF
open Go.RowKit heap own eG gC
open eY (Rec fe)
def IN (P:Lib.PrintTabs) (own:Nat->Nat) (T B:Nat) (w:World) (wb db:Nat) (x:Int×fe×Bool) (e:Ending) (w':World):Prop:=
 e=.returned (iC x.1)/\∃own1 v ps,Ext w own own1/\eJ (fun g=>g=wb\/g=db\/own g=T) w w'/\kH own1 T B w' wb db v x.2.2 x.2.1.eG/\iZ w' db ps x.2.1.cut x.2.1.left/\mR P ps x.2.1.eG
variable {wb box db T B:Nat} {v:Value} {eX:Bool} {r:Rec} {W W' w:World}
theorem AS.below (h:AS wb box db v eX r W) (hb:BB W W'):AS wb box db v eX r W':=⟨h.1.below hb h.1.lt,h.2.below hb h.2.lt⟩
theorem AS.fI (h:AS wb box db v eX r W) (ht:eJ (fun g=>g=db) W W') (a:wb≠db) (b:box≠db):AS wb box db v eX r W':=⟨ht.has h.1 a,ht.has h.2 b⟩
variable {d:fe}
theorem IP (h:r.right=false):d.add false r=(1,d,false):=by simp[fe.add,h]
theorem IQ (h:r.right=true) (a:200<=d.eG.length):d.add false r=(12,d,false):=by simp[fe.add,h,a]
theorem IS (h:r.right=true) (b:d.eG.length<200) (a:d.cut=true/\d.left=0):d.add false r=(14,d,true):=by
 have:¬200<=d.eG.length:=ab;simp[fe.add,h,this,a.1,a.2]
theorem mS (h:r.right=true) (c:d.eG.length<200) (a:¬(d.cut=true/\d.left=0)):d.add false r=(0,{d with eG:=d.eG++[r],left:=wrap64 (d.left-1)},false):=by
 have:¬200<=d.eG.length:=ab
 have b:(d.cut&&decide (d.left=0))=false:=by
  cases hc:d.cut with
  |false=>rfl
  |true=>exact decide_eq_false (fun e=>a ⟨hc,e⟩)
 simp[fe.add,h,this,b]
variable {own:Nat->Nat} {l:List Rec}
theorem kH.fI {a:World} {S:Nat->Prop} (h:kH own T B w wb db v eX l) (ht:eJ S w a) (b:¬S wb) (c:∀k,own k=T->¬S k):kH own T B a wb db v eX l:=
 ⟨ht.has h.w_ b,h.row.fc ht (Ext.refl _ _) (fun k _ d=>c k d),h.ow,h.low,h.lw⟩
theorem iZ.jv {b:Nat} {ps:List ByteArray} {cut:Bool} {left:Int} (h:iZ w b ps cut left) (a:b≠wb) (o:Nat) (v:Value):iZ (w.setCell ⟨wb,o,none⟩ v) b ps cut left:=⟨h.d_.jv (p:=⟨wb,o,none⟩) a v,h.hp⟩
theorem IU (h:kH own T B w wb db v eX l):∃a c,v=.slice a l.length c:=by
 rcases h.row.1.2 with⟨e,b⟩|⟨g,cap,cur,e,-⟩
 ·exact⟨none,0,by rw[e,b]⟩
 exact⟨some ⟨g,0,none⟩,cap,e⟩
theorem IV (P:Lib.PrintTabs) (own:Nat->Nat) (T B:Nat) (w:World) (wb db:Nat) (v:Value) (ps:List ByteArray) (d:fe) (r:Rec) (hs:r.data.length<4611686018427387904) (gy:Int) (hK:mu P B w)
 (h:kH own T B w wb db v false d.eG) (hD:iZ w db ps d.cut d.left) (hP:mR P ps d.eG) (X:own db≠T) (PB:wb≠db) :
 Calls Tryz.prog 61 #[VP wb 0,mr r,VI gy] w (IN P own T B w wb db (d.add false r)):=by
 obtain⟨i0,P7,QC,PU,Qf⟩:=info_parts xr;have HI:=Hd (And.intro P7 (And.intro QC (And.intro PU Qf)));obtain⟨a,c,rfl⟩:=IU h;obtain⟨n,hn⟩:=nm d.eG.length;rw[<- hn]at h;have Pw:=h.w_.lt;have al:=hD.lt;have a6:=hP.len;have c1:=h.w_.cell 1;have c2:=h.w_.cell 2;simp only[aJ,aM,aO]at c1 c2;have Y:BB w (w.alloc (.cells #[VI r.eI,VI r.eK,VI r.eF,VI r.fJ,.string ⟨r.data.toArray⟩,VI r.eS] 124)):=(Below.refl _ _).alloc (ax _) _;have m:=lH r hs (w.alloc (.cells #[VI r.eI,VI r.eK,VI r.eF,VI r.fJ,.string ⟨r.data.toArray⟩,VI r.eS] 124));have x:Hy (Has (w.alloc (.cells #[VI r.eI,VI r.eK,VI r.eF,VI r.fJ,.string ⟨r.data.toArray⟩,VI r.eS] 124)) w.heap.size (.cells #[VI r.eI,VI r.eK,VI r.eF,VI r.fJ,.string ⟨r.data.toArray⟩,VI r.eS] 124)):=Hd (Has.new _ _);have YF:=Hd (h.below Y (ax _));have X7:=Hd (hD.below Y al);have y:=Hd (hK.below (Y.mono hK.le));have TJ:=Hd Y;have HP:=Hd hP;have an:=Hd (fun k (f:(Value.slice a n c).ownBlock=some k)=>And.intro (h.row.lt k f) (And.intro (h.row.2 k f) h.ow));have a7:=Hd h.low;have G:=Hd hn;have a1:=hK.le;have J:=Hd X;have S:=Hd PB;unfold mr mq;unfold mr mq at m;clear h hD hP Y hK P7 QC PU Qf hn X
 cases hr:r.right with
 |false =>
  rw[hr]at m;rw[IP hr];clear hr;(go_enter Tryz.func61,Tryz.ntmps61);(go_wp2_with (go_at_call 82;refine m.mono ?_;rintro e A ⟨rfl,Pu⟩;clear m));exact abW
 |true =>
  rw[hr]at m;have HR:=Hd hr;clear hr;by_cases WS:200<=n
  ·have d200:decide ((200:Int)<=(n:Int))=true:=decide_eq_true ab;rw[IQ HR.o (by rw[<- G.o];exact WS)];(go_enter Tryz.func61,Tryz.ntmps61);(go_wp2_with (go_at_call 82;refine m.mono ?_;rintro e A ⟨rfl,Pu⟩;clear m;have c3:=(YF.o.below Pu (ax _)).w_.cell 1;simp only[aJ,aM,aO]at c3));exact abW
  have U:n<200:=ab;have d200:decide ((200:Int)<=(n:Int))=false:=decide_eq_false ab;have bb:¬(200:Int)<=(n:Int):=ab;by_cases V:d.cut=true/\d.left=0
  ·rw[IS HR.o (by rw[<- G.o];exact U) V];have Z:=Hd V;clear V;(go_enter Tryz.func61,Tryz.ntmps61);(go_wp2_with (go_at_call 82;refine m.mono ?_;rintro e A ⟨rfl,Pu⟩;clear m;have c3:=(YF.o.below Pu (ax _)).w_.cell 1;simp only[aJ,aM,aO]at c3));have ZD:=Hd (YF.o.below Pu (ax _));have YH:=Hd (X7.o.below Pu X7.o.lt);have L:=Hd (y.o.below (Pu.mono y.o.le));have M:=Hd (x.o.below Pu x.o.lt);have YI:=Hd (TJ.o.trans (Pu.mono TJ.o.size));have N:Hy (AS wb w.heap.size db (.slice a n c) false r A.drew):=Hd ⟨ZD.o.w_,M.o⟩;clear c3 Pu;refine last.head (AS wb w.heap.size db (.slice a n c) false r) 1000 19 ?_;refine last.many [(0,27,_),(1,28,_),(2,29,_),(3,30,_),(4,31,_),(5,32,_),(6,33,_),(7,34,_),(8,35,_),(9,36,_),(10,37,_),(11,38,_),(12,39,_),(13,40,_),(14,41,_),(16,43,_)] N.o ?_ (hy:=fun W' b=>by have hv0:=b.1.cell 0;simp only[aJ,aM]at hv0;have H:=b.1.cell 1;simp only[aJ,aM,aO]at H;have e0:=b.2.cell 0;have e1:=b.2.cell 1;have e2:=b.2.cell 2;have e3:=b.2.cell 3;have e4:=b.2.cell 4;have e5:=b.2.cell 5;simp only[aJ,aM,aO]at e0 e1 e2 e3 e4 e5;repeat (first|exact .z|refine .s ?_|refine .k ?_));have O:=xa P n ab r (pO HR.o) A.drew (L.o.below (Below.refl _ _).drew).pR;obtain⟨l,C⟩:=nm (⟨(text P n r).toArray⟩:ByteArray);rw[<- C]at O;have q:=Hd C;(have R5:l.size<=1000:=by rw[C];show (text P n r).toArray.size<=1000;rw[bX];exact wW P n r ab ab (pO HR.o));clear C;refine last.one 15 fun K hK=>?_;go_simp;refine O.mono ?_;rintro e w2 ⟨rfl,j⟩;have I:=Hd (N.o.below j);refine hK.out _ _ (fun _=>I.o) ?_;clear hK K O;have D:BB A w2:=⟨j.os,j.tape,j.output,j.size,j.block⟩;have Q:=Hd (ZD.o.below D (ax _));have Vf:=Hd (YH.o.below D YH.o.lt);have YJ:=Hd (YI.o.trans (D.mono YI.o.size));clear j D;have E:=AI db ps d.cut d.left n U l ab gy w2 Vf.o;rw[if_pos Z.o]at E;simp only[if_pos Z.o]at E;refine last.one 17 fun K hK=>?_;go_simp;refine E.mono ?_;rintro e t ⟨rfl,u,F⟩;have W:=Hd (I.o.fI F S.o ab);refine hK.out _ _ (fun _=>W.o) ?_;clear hK K E;have ZE:=Hd (Q.o.fI F S.o (fun k f e=>J.o (by rw[<- show k=db from e];exact f)));have R:=Hd u;have QV:=Hd F;clear u F;refine last.one 18 fun K hK=>?_;go_simp;refine hK.out _ _ (fun _=>W.o) ?_;clear hK K;refine last.done ?_;rw[o8 (by decide:(14:Int)≠0)];have c3:=ZE.o.w_.cell 2;simp only[aJ,aM,aO]at c3;have f3:=ZE.o.w_.frozen 2;go_wp2;go_ret;refine⟨by rw[o8 (by decide:(14:Int)≠0)];rfl,own,_,_,Ext.refl _ _,?_,ZE.o.uw true,iZ.jv R.o (Ne.symm S.o) 2 _,?_⟩
   ·have h1:eJ (fun g=>g=wb\/g=db\/own g=T) w t:=(eJ.il YJ.o (ax _)).trans QV.o (fun k _ f=>.inr (.inl f));exact h1.setCell (p:=⟨wb,2,none⟩) (.inr (.inl rfl)) _
   by_cases ht:0<=gy
   ·rw[if_pos ht];(have aq:0<l.size:=by rw[q.o];show 0<(text P n r).toArray.size;rw[bX];exact Ap P n r);have bg:=IE aq ht;(have he:(l.extract 0 (na l.size gy)).data.toList=(text P d.eG.length r).take (na l.size gy):=by rw[Lib.extract_from_zero,q.o,G.o]);rw[G.o];refine HP.o.IG X7.o.hp r HR.o (by rw[<- G.o];exact U) _ ?_ ?_
    ·rw[he];exact List.take_prefix _ _
    intro e;(have h2:((text P d.eG.length r).take (na l.size gy)).length=(text P d.eG.length r).length:=by rw[<- he,e]);(have h3:l.size=(text P d.eG.length r).length:=by rw[q.o,G.o];show (text P d.eG.length r).toArray.size=_;rw[bX]);rw[bV]at h2;omega
   rw[if_neg ht];exact HP.o
  rw[mS HR.o (by rw[<- G.o];exact U) V];have Z:=Hd V;clear V;(go_enter Tryz.func61,Tryz.ntmps61);(go_wp2_with (go_at_call 82;refine m.mono ?_;rintro e A ⟨rfl,Pu⟩;clear m;have c3:=(YF.o.below Pu (ax _)).w_.cell 1;simp only[aJ,aM,aO]at c3));have ZD:=Hd (YF.o.below Pu (ax _));have YH:=Hd (X7.o.below Pu X7.o.lt);have L:=Hd (y.o.below (Pu.mono y.o.le));have M:=Hd (x.o.below Pu x.o.lt);have YI:=Hd (TJ.o.trans (Pu.mono TJ.o.size));have N:Hy (AS wb w.heap.size db (.slice a n c) false r A.drew):=Hd ⟨ZD.o.w_,M.o⟩;clear c3 Pu;refine last.head (AS wb w.heap.size db (.slice a n c) false r) 1000 19 ?_;refine last.many [(0,27,_),(1,28,_),(2,29,_),(3,30,_),(4,31,_),(5,32,_),(6,33,_),(7,34,_),(8,35,_),(9,36,_),(10,37,_),(11,38,_),(12,39,_),(13,40,_),(14,41,_),(16,43,_)] N.o ?_ (hy:=fun W' b=>by have hv0:=b.1.cell 0;simp only[aJ,aM]at hv0;have H:=b.1.cell 1;simp only[aJ,aM,aO]at H;have e0:=b.2.cell 0;have e1:=b.2.cell 1;have e2:=b.2.cell 2;have e3:=b.2.cell 3;have e4:=b.2.cell 4;have e5:=b.2.cell 5;simp only[aJ,aM,aO]at e0 e1 e2 e3 e4 e5;repeat (first|exact .z|refine .s ?_|refine .k ?_));have O:=xa P n ab r (pO HR.o) A.drew (L.o.below (Below.refl _ _).drew).pR;obtain⟨l,C⟩:=nm (⟨(text P n r).toArray⟩:ByteArray);rw[<- C]at O;have q:=Hd C;(have R5:l.size<=1000:=by rw[C];show (text P n r).toArray.size<=1000;rw[bX];exact wW P n r ab ab (pO HR.o));clear C;refine last.one 15 fun K hK=>?_;go_simp;refine O.mono ?_;rintro e w2 ⟨rfl,j⟩;have I:=Hd (N.o.below j);refine hK.out _ _ (fun _=>I.o) ?_;clear hK K O;have D:BB A w2:=⟨j.os,j.tape,j.output,j.size,j.block⟩;have Q:=Hd (ZD.o.below D (ax _));have Vf:=Hd (YH.o.below D YH.o.lt);have YJ:=Hd (YI.o.trans (D.mono YI.o.size));clear j D;have E:=AI db ps d.cut d.left n U l ab gy w2 Vf.o;rw[if_neg Z.o]at E;simp only[if_neg Z.o]at E;refine last.one 17 fun K hK=>?_;go_simp;refine E.mono ?_;rintro e t ⟨rfl,u,F⟩;have W:=Hd (I.o.fI F S.o ab);refine hK.out _ _ (fun _=>W.o) ?_;clear hK K E;have ZE:=Hd (Q.o.fI F S.o (fun k f e=>J.o (by rw[<- show k=db from e];exact f)));have R:=Hd u;have QV:=Hd F;clear u F;refine last.one 18 fun K hK=>?_;go_simp;refine hK.out _ _ (fun _=>W.o) ?_;clear hK K;refine last.done ?_;rw[o7];(go_wp2_with fail);have HW:=ZE;have aa:=Hd W.o.2;have RG:Hy (B<=t.heap.size):=Hd (by have:=QV.o.size;have:=YJ.o.size;omega)
  have V8:Hy (∀k,(Value.slice a n c).ownBlock=some k->k≠wb/\k≠w.heap.size):=Hd fun k f=>by
   obtain⟨h1,h2,h3⟩:=an.o k f;refine⟨fun e=>?_,ab⟩;rw[e,h3]at h2;omega
  rw[G.o]at *
  have N:Hy (AS wb (w.heap.size) db (.slice a d.eG.length c) false r t.drew):=Hd ⟨HW.o.w_,aa.o⟩
  have ar:Hy ((t.alloc (.cells #[VI r.eI,VI r.eK,VI r.eF,VI r.fJ,.string ⟨r.data.toArray⟩,VI r.eS] 124)).drew.ownsRow 0 124 6 (.slice a d.eG.length c) d.eG.length (lD d.eG)):=Hd (HW.o.row.1.alloc _)
  have ZB:Hy ((t.alloc (.cells #[VI r.eI,VI r.eK,VI r.eF,VI r.fJ,.string ⟨r.data.toArray⟩,VI r.eS] 124)).drew.heap.size=t.heap.size+1):=Hd (World.size_alloc _ _)
  refine last.head (AS wb (w.heap.size) db (.slice a d.eG.length c) false r) 10 11 ?_
  refine last.many [(0,51,_),(1,52,_),(2,53,_),(3,54,_),(4,55,_),(5,56,_)] N.o ?_ (hy:=fun W' b=>by have H:=b.1.cell 1;simp only[aJ,aM,aO]at H;have e0:=b.2.cell 0;have e1:=b.2.cell 1;have e2:=b.2.cell 2;have e3:=b.2.cell 3;have e4:=b.2.cell 4;have e5:=b.2.cell 5;simp only[aJ,aM,aO]at e0 e1 e2 e3 e4 e5;repeat (first|exact .z|refine .s ?_|refine .k ?_))
  refine last.one 6 fun K hK=>?_
  go_simp
  have I:Hy (AS wb (w.heap.size) db (.slice a d.eG.length c) false r (t.alloc (.cells #[VI r.eI,VI r.eK,VI r.eF,VI r.fJ,.string ⟨r.data.toArray⟩,VI r.eS] 124)).drew):=Hd (AS.alloc ⟨HW.o.w_,aa.o⟩ _)
  refine hK.out _ _ (fun _=>I.o) ?_
  clear hK K
  refine last.wJ (i:=7) af (by simp only[aJ,aO,aM];exact rfl) fun K hK=>?_
  refine step_append_lies _ ai (.tmp 55) (.tmp 57) 121 ai 0 124 i0 _ 6 56 Tryz.underlying121 HI.o.1 HI.o.2.1 HI.o.2.2.1 HI.o.2.2.2 ai aj (.slice a d.eG.length c) d.eG.length (lD d.eG) ai ar.o ⟨t.heap.size,0,none⟩ 1 1 (nK r) ai rfl (AN r) (xq r) ab ak ab ae (t.heap.size+1) ZB.o ?_
  intro g PL w4 P8 QJ QB YG
  have UH:Hy (AS wb (w.heap.size) db (.slice a d.eG.length c) false r w4):=Hd (AS.grown I.o QJ V8.o)
  refine hK.out _ _ (fun _=>UH.o) ?_
  have D4:=Hd (AL HW.o RG.o P8 QJ QB)
  clear hK K P8 QJ QB YG
  skip
  refine last.one 8 fun K hK=>?_;go_simp;refine hK.out _ _ (fun _=>UH.o) ?_;clear hK K;refine last.one 9 fun K hK=>?_;go_simp;refine hK.out _ _ (fun _=>UH.o) ?_;clear hK K;refine last.one 10 fun K hK=>?_;have H:=UH.o.1.cell 1;simp only[aJ,aM,aO]at H;have au:=UH.o.1.frozen 1;go_simp;refine hK.out _ _ (fun h=>absurd rfl h) ?_;clear hK K H au;refine last.done ?_;go_wp2;go_ret;obtain⟨ad,v2,VE,PK,P4⟩:=D4.o;have bj:=QV.o.size;have Qf:=YJ.o.size;refine⟨rfl,ad,v2,ps.set d.eG.length l,fun k f=>VE k ab,?_,P4,?_,?_⟩
  ·have h1:eJ (fun g=>g=wb\/g=db\/own g=T) w t:=(eJ.il YJ.o (ax _)).trans QV.o (fun k _ f=>.inr (.inl f));exact h1.trans PK (fun k _ f=>f.imp (fun h=>h) (fun h=>.inr h))
  ·exact R.o.fI PK (fun e=>e.elim (fun h=>S.o h.symm) J.o)
  have e:=HP.o.add X7.o.hp r HR.o U;rw[<- q.o]at e;exact e
end fF
end Go.Proofs.YtjhdaojclilakaaGreatDoor
