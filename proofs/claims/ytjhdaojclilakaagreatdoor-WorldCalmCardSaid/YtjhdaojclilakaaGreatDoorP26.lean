/-
  A part of the proof of the law WorldCalm: SrvE, SrvF, SrvG, SrvH, SrvI, SrvJ, SrvL.
-/
import Derived.Deep.LoopGhost
import Derived.Laws.ResultCell
import Derived.Test.YtjhdaojclilakaaGreatDoorHd
import Derived.Test.YtjhdaojclilakaaGreatDoorP13
import Derived.Test.YtjhdaojclilakaaGreatDoorP25
set_option maxHeartbeats 16000000
set_option maxRecDepth 1000000
namespace Go.Proofs.YtjhdaojclilakaaGreatDoor
section
variable {p q:Prop}
theorem abv (z:q) (h:Hy q->p:=by
 intro zz;have h8:=(H7.o.below (Below.refl _ _).drew).setTable ht T'.2 YM;have Qm:eJ (fun g=>g=tb\/g=tm) w W8:=(eJ.il UJ.o (ax _)).drew.trans ht (fun _ _ h=>h);revert h8 Qm;exact zz.o):p:=h z
theorem abC (z:q) (h:Hy q->p:=by
 intro zz;have T5:=Hd (T3.o.below PW T3.o.lt);have Rm:=Hd (Rt.o.below PW Rt.o.lt);have H5:=Hd (H4.o.below PW);have RT:=Hd (Rb.o.trans (PW.mono Rb.o.size));(have q5:W5.cell? ⟨sb,20+o,none⟩=some (.slice qa (s.eQ o).length qc):=by rw[<- hq];exact H5.o.kh o ho);have y5:CI W5 w.heap.size 5 o:=Rm.o.cell 5;revert T5 Rm H5 RT q5 y5;exact zz.o):p:=h z
theorem abk (h:p:=by
 rw[hw]at F HT;clear hw HA;(go_wp2_with fail);refine F.o.mono ?_;rintro e w2 ⟨rfl,Px⟩;(go_wp2_with fail);go_roundw;(case rel=>exact⟨k+1,ab,by go_num,HT.o,hb.trans (Px.mono hb.size)⟩);case measure=>simp[intOf];omega):p:=h
theorem abA (h:p:=by
 rw[hw]at F HA;clear hw;(go_wp2_with fail);refine F.o.mono ?_;rintro e w2 ⟨rfl,Px⟩;(go_wp2_with fail);go_ret;exact⟨_,rfl,by rw[HA.o trivial];simp,hb.trans (Px.mono hb.size)⟩):p:=h
theorem ab8 (h:p:=by
 (obtain rfl:k=l.length:=by omega);(go_wp2_with fail);go_ret;exact⟨_,rfl,by have:=QY.o;rw[bK]at this;rw[this];rfl,hb⟩):p:=h
theorem abJ (z:q) (h:Hy q->p:=by
 intro zz;have ht:eJ (fun g=>q.ownBlock=some g) wr w':=⟨hg.os,hg.tape,hg.output,hg.size,fun k hk hn=>hg.block k hk (fun e=>hn e.symm)⟩;revert ht;exact zz.o):p:=h z
end
namespace fj
open Go.RowKit heap own eG gC gO fF iR fD
open eY (Rec fe ir Wr eA fW fU fR fw put del)
theorem A8 (x y:Int) (w:World):Calls Tryz.prog 92 #[VI x,VI y] w fun e w'=>∃ev,e=.returned (.tuple #[VI (eY.ji x y),ev])/\w=w':=by
 by_cases h:0<=x/\x<=1099511627776/\0<=y/\y<=1099511627776
 ·have e:eY.ji x y=min (x+y) 1099511627776:=by
   unfold eY.ji;rw[if_pos (by rw[aF,iR.kG,iR.kG,fD.pJ];omega)];rfl
  rw[e];exact (clock.Jj x y w h.1 h.2.1 h.2.2.1 h.2.2.2).mono fun _ _ ⟨a,b⟩=>⟨_,a,b⟩
 have e:eY.ji x y=0:=by
  unfold eY.ji;rw[if_neg (by rw[aF,iR.kG,iR.kG,fD.pJ];omega)]
 rw[e];exact (clock.Jk x y w h).mono fun _ _ ⟨a,b⟩=>⟨_,a,b⟩
section
variable {P:Lib.PrintTabs} {own:Nat->Nat} {w0:World} {sb db wb dm tb tm:Nat} {v:Value} {ps:List ByteArray} {qs:List Value} {d:fe} {s:eA}
theorem fC.setTable {w w':World} (h:fC P own w0 w sb db wb dm tb tm v ps qs d s) (ht:eJ (fun g=>g=tb\/g=tm) w w') (t:fW) (hT:jo w' tb tm t):fC P own w0 w' sb db wb dm tb tm v ps qs d {s with eW:=t}:=by
 have ne:∀g k,own g=k->k≠6->k≠7->¬(g=tb\/g=tm):=fun g k hk h4 h5 e=>by
  rcases e with e|e
  ·rw[e,h.kJ]at hk;exact h4 hk.symm
  rw[e,h.kK]at hk;exact h5 hk.symm
 refine⟨h.lW,h.my,h.iA.trans (ht.oE h.le fun k hk e=>?_),h.low,fun g hg=>h.fr g (aB ht.size hg),h.fF.fI ht (ne _ 3 h.fF.ow aj aj) fun k hk=>ne k 2 hk aj aj,h.jU.fI ht (ne _ 1 h.jk aj aj),h.kZ,h.jk,ht.has h.s_ (ne _ 4 h.iL aj aj),h.iL,⟨h.nv,h.nq,h.ok.qc,h.ok.dk,h.ok.rc,h.ok.ql⟩,h.lq,fun o ho=>(h.eQ o ho).fc ht (Ext.refl _ _) fun k _ hk=>ne k _ hk ab ab,h.done.fI ht (ne _ 5 h.km aj aj),h.km,hT,h.kJ,h.kK⟩;have a:=h.low tb ⟨by rw[h.kJ];decide,by rw[h.kJ];decide⟩;have b:=h.low tm ⟨by rw[h.kK];decide,by rw[h.kK];decide⟩;omega
theorem Jl (w:World) (m:eL) (o:Nat) (ho:o<8) (Vh:m.eF=o) (X9:0<=m.eI/\m.eI<4) (h:fC P own w0 w sb db wb dm tb tm v ps qs d s) :
 Calls Tryz.prog 70 #[VP sb 0,m.val] w fun e w'=>∃u,e=.returned u/\fV w.heap.size w' u (s.reads m).1/\fC P own w0 w' sb db wb dm tb tm v ps qs d (s.reads m).2/\eJ (fun g=>g=tb\/g=tm) w w':=by
 obtain⟨mk,f,x,y,ms,mo,mv,A,md⟩:=m;dsimp only at Vh X9;subst Vh;obtain⟨Y,Pz⟩:=nm (w.alloc (.cells (ju mk f x y ms o mv A ⟨md.toArray⟩) 93));(have Pu:BB w Y:=by rw[Pz];exact (Below.refl _ _).alloc (ax _) _);(have Qt:Y.heap.size=w.heap.size+1:=by rw[Pz];simp);(have PC:Has Y w.heap.size (.cells (ju mk f x y ms o mv A ⟨md.toArray⟩) 93):=by rw[Pz];exact Has.new w _);have J:=h.below Pu;have Pw:=h.s_.lt;have x5:CI Y w.heap.size 5 o:=PC.cell 5;have c0:=(J.rA o ho).1;have c1:=(J.rA o ho).2;have Sb:(o:Int)<8:=ab;have PB:w.heap.size≠sb:=Nat.ne_of_gt Pw;have H:=Hd h;have H1:=Hd J;have HX:=Hd PC;have HB:=Hd Pu;unfold eL.val;dsimp only;clear h J PC Pu;(go_enter Tryz.func70,Tryz.ntmps70);go_wp2;rw[<- Pz];clear Pz;(go_region_held3 (fun W=>CI W w.heap.size 5 o/\CC W sb (4+o*2) (.string ⟨(s.value o).data.toArray⟩)/\CI W sb (4+o*2+1) (s.value o).fq) (go_keep) (fail));obtain⟨Q,PT⟩:=nm ((Y.alloc (.cells #[.string ⟨(s.value o).data.toArray⟩,VI (s.value o).fq] 41)).drew);(have Px:BB w Q:=by rw[PT];exact (HB.o.alloc HB.o.size _).drew);(have Qi:Q.heap.size=w.heap.size+2:=by rw[PT];show (Y.alloc _).heap.size=_;rw[World.size_alloc,Qt]);(have Si:Has Q w.heap.size (.cells (ju mk f x y ms o mv A ⟨md.toArray⟩) 93):=by rw[PT];exact (HX.o.alloc _).drew);(have Z:Has Q (w.heap.size+1) (.cells #[.string ⟨(s.value o).data.toArray⟩,VI (s.value o).fq] 41):=by rw[PT,<- Qt];exact (Has.new Y _).drew);have h2:=H.o.below Px;have y1:CI Q w.heap.size 1 f:=Si.cell 1;have y2:CI Q w.heap.size 2 x:=Si.cell 2;have y5:CI Q w.heap.size 5 o:=Si.cell 5;have v0:CC Q (w.heap.size+1) 0 (.string ⟨(s.value o).data.toArray⟩):=Z.cell 0;have v1:CI Q (w.heap.size+1) 1 (s.value o).fq:=Z.cell 1;have H2:=Hd h2;have Qg:=Hd Si;have Qk:=Hd Px;rw[<- PT];clear PT h2 Si Z Px x5 c0 c1 H1 HX HB;(go_wp2_with fail);refine (qB _ {eY.iH with eO:=5,eI:=f,eK:=x,eF:=o,fJ:=(s.value o).fq,data:=(s.value o).data} H2.o).mono ?_;rintro e c ⟨rfl,Qp⟩;have a1:=Qp.size;obtain⟨r,hr⟩:=nm (s.fG {eY.iH with eO:=5,eI:=f,eK:=x,eF:=o,fJ:=(s.value o).fq,data:=(s.value o).data});rw[<- hr];obtain⟨i,rc,j,n,rs,ro,t,rl,rd⟩:=r;have ar:=Hd hr;unfold eL.val;dsimp only;have UI:=Hd (Qg.o.below Qp Qg.o.lt);have H3:=Hd (H2.o.below Qp);have Ti:=Hd (Qk.o.trans (Qp.mono Qk.o.size));clear hr Qp y1 y2 y5 v0 v1 H2 Qg Qk;obtain⟨W4,S8⟩:=nm (c.alloc (.cells (ju i rc j n rs ro t rl ⟨rd.toArray⟩) 93));(have Qh:BB c W4:=by rw[S8];exact (Below.refl _ _).alloc (ax _) _);have T3:Hy (Has W4 c.heap.size (.cells (ju i rc j n rs ro t rl ⟨rd.toArray⟩) 93)):=Hd (by rw[S8];exact Has.new _ _);have Rt:=Hd (UI.o.below Qh UI.o.lt);have H4:=Hd (H3.o.below Qh);have Rb:=Hd (Ti.o.trans (Qh.mono Ti.o.size));(have a6:w.heap.size+2<=c.heap.size:=by have:=UI.o.lt;have:=Ti.o.size;omega);(go_upto_region 3 with fail);rw[<- S8];clear S8 Qh UI H3;have Ut:Hy (Calls Tryz.prog 90 #[VP sb 0,.agg (ju mk f x y ms o mv A ⟨md.toArray⟩)] W4 fun e w'=>e=.returned (.bool (s.kF ⟨mk,f,x,y,ms,o,mv,A,md⟩))/\BB W4 w'):=Hd (xB W4 ⟨mk,f,x,y,ms,o,mv,A,md⟩ H4.o)
 have D:Hy ((s.reads ⟨mk,f,x,y,ms,o,mv,A,md⟩)=if !s.kF ⟨mk,f,x,y,ms,o,mv,A,md⟩ then ([⟨i,rc,j,n,rs,ro,t,rl,rd⟩,s.lp f],s) else if (s.eQ o).isEmpty then ([{ (⟨i,rc,j,n,rs,ro,t,rl,rd⟩:eL)with gE:=decide ((s.eW.eF f o (eY.ji s.eB s.eZ.eF)).1=0)}],{s with eW:=(s.eW.eF f o (eY.ji s.eB s.eZ.eF)).2}) else ([⟨i,rc,j,n,rs,ro,t,rl,rd⟩],s)):=Hd (by
  rw[ar.o]
  rfl)
 obtain⟨R,hR⟩:=nm (s.reads ⟨mk,f,x,y,ms,o,mv,A,md⟩)
 cases Rx:s.kF ⟨mk,f,x,y,ms,o,mv,A,md⟩with
 |false =>
  as_aux_lemma =>
   rw[Rx]at D Ut
   go_wp2_with (first
    |(refine wpList_load_row rfl 93 (.tmp 3) rfl w.heap.size rfl 93 _ (0,0) _ Rt.o Tryz.underlying93 rfl af ?_)
    |(go_at_call 90;refine Ut.o.mono ?_;rintro e W5 ⟨rfl,PW⟩))
   have T5:=Hd (T3.o.below PW T3.o.lt);have Rm:=Hd (Rt.o.below PW Rt.o.lt);have H5:=Hd (H4.o.below PW);have RT:=Hd (Rb.o.trans (PW.mono Rb.o.size));clear PW T3 Rt H4 Rb;have C:=Hd (And.intro T5.o.drew Rm.o.drew);refine last.head (fun W=>Has W c.heap.size (.cells (ju i rc j n rs ro t rl ⟨rd.toArray⟩) 93)/\Has W w.heap.size (.cells (ju mk f x y ms o mv A ⟨md.toArray⟩) 93)) 1000 7 ?_;refine last.many [(0,33,_),(1,34,_),(2,35,_),(3,36,_)] C.o ?_ (hy:=fun L M=>by have e0:CI L c.heap.size 0 i:=M.1.cell 0;have e1:CI L c.heap.size 1 rc:=M.1.cell 1;have e2:CI L c.heap.size 2 j:=M.1.cell 2;have e3:CI L c.heap.size 3 n:=M.1.cell 3;have e4:CI L c.heap.size 4 rs:=M.1.cell 4;have e5:CI L c.heap.size 5 ro:=M.1.cell 5;have e6:CI L c.heap.size 6 t:=M.1.cell 6;have e7:CC L c.heap.size 7 (.bool rl):=M.1.cell 7;have e8:CC L c.heap.size 8 (.string ⟨rd.toArray⟩):=M.1.cell 8;have f0:CI L w.heap.size 1 f:=M.2.cell 1;repeat (first|exact .z|refine .s ?_|refine .k ?_));refine last.one 4 fun K hK=>?_;go_simp;refine (AX _ f (H5.o.below (Below.refl _ _).drew)).mono ?_;rintro e E ⟨rfl,RU⟩;have Tj:=Hd (And.intro (T5.o.drew.below RU T5.o.drew.lt) (Rm.o.drew.below RU Rm.o.drew.lt));have V:=Hd ((H5.o.below (Below.refl _ _).drew).below RU);have N:=Hd (RT.o.drew.trans (RU.mono RT.o.size));clear RU;refine hK.out _ _ (fun _=>Tj.o) ?_;clear hK K C;have C:=Tj;clear Tj;refine last.one 5 fun K hK=>?_;refine Jf (.tmp 33) (.tmp 37) ⟨i,rc,j,n,rs,ro,t,rl,rd⟩ (s.lp f) rfl rfl rfl ?_;refine hK.out _ _ (fun _=>⟨C.o.1.alloc _,C.o.2.alloc _⟩) ?_;clear hK K;have al:=Hd (fV.new (w:=E) (l:=[⟨i,rc,j,n,rs,ro,t,rl,rd⟩,s.lp f]) ae);obtain⟨B,O⟩:=nm (E.alloc (.cells (([⟨i,rc,j,n,rs,ro,t,rl,rd⟩,s.lp f]:List eL).flatMap iS).toArray 93));(have RN:BB E B:=by rw[O];exact (Below.refl _ _).alloc (ax _) _);have T6:Hy ((fun W=>Has W c.heap.size (.cells (ju i rc j n rs ro t rl ⟨rd.toArray⟩) 93)/\Has W w.heap.size (.cells (ju mk f x y ms o mv A ⟨md.toArray⟩) 93)) B):=Hd ⟨C.o.1.below RN C.o.1.lt,C.o.2.below RN C.o.2.lt⟩;rw[<- O]at al⊢;have H7:=Hd (V.o.below RN);have UJ:=Hd (N.o.trans (RN.mono N.o.size));clear O RN C;have C:=T6;refine last.many [(6,4,_)] C.o ?_;refine last.done ?_;(go_wp2_with fail);go_ret;(have e:s.reads ⟨mk,f,x,y,ms,o,mv,A,md⟩=([⟨i,rc,j,n,rs,ro,t,rl,rd⟩,s.lp f],s):=by rw[D.o];rfl);rw[e];exact⟨_,rfl,al.o.base (by have:=N.o.size;omega),H7.o,eJ.il UJ.o (ax _)⟩
 |true =>
  rw[Rx]at D Ut;obtain⟨qa,qc,hq,-,-⟩:=(H4.o.eQ o ho).slice
  cases SO:(s.eQ o).isEmpty with
  |false =>
   as_aux_lemma =>
    rw[SO]at D;have Xn:((s.eQ o).length==0)=false:=by cases hs:s.eQ o with|nil=>rw[hs]at SO;cases SO|cons a b=>rfl
    have au:(((s.eQ o).length:Int)==0)=false:=by
     (have:(s.eQ o).length≠0:=by simpa using Xn);exact beq_eq_false_iff_ne.2 ab
    go_wp2_with (first
     |(refine wpList_load_row rfl 93 (.tmp 3) rfl w.heap.size rfl 93 _ (0,0) _ Rt.o Tryz.underlying93 rfl af ?_)
     |(go_at_call 90;refine Ut.o.mono ?_;rintro e W5 ⟨rfl,PW⟩))
    refine abC ?_;intro T5 Rm H5 RT q5 y5;clear PW T3 Rt H4 Rb Xn hq;(go_quiet (fail));have T:=Hd (T5.o.drewN nq);have V:=Hd (H5.o.below (below_drewN (Below.refl _ W5) nq));have N:=Hd (below_drewN RT.o nq);clear T5 Rm H5 RT q5 y5
    go_wp2_with (first
     |(refine wpList_load_row rfl 93 (.tmp 6) rfl c.heap.size rfl 93 _ (0,0) _ T.o Tryz.underlying93 rfl af ?_)
     |(refine nk rfl (.tmp 73) ⟨i,rc,j,n,rs,ro,t,rl,rd⟩ rfl rfl ?_))
    go_ret;(have e:s.reads ⟨mk,f,x,y,ms,o,mv,A,md⟩=([⟨i,rc,j,n,rs,ro,t,rl,rd⟩],s):=by rw[D.o];rfl);rw[e];have X:=(Below.refl (W5.drewN nq).heap.size (W5.drewN nq)).alloc (ax _) (.cells (([⟨i,rc,j,n,rs,ro,t,rl,rd⟩]:List eL).flatMap iS).toArray 93);exact⟨_,rfl,(fV.new (w:=W5.drewN nq) (l:=[⟨i,rc,j,n,rs,ro,t,rl,rd⟩]) ae).base N.o.size,V.o.below X,eJ.il (N.o.trans (X.mono N.o.size)) (ax _)⟩
  |true =>
   as_aux_lemma =>
    rw[SO]at D;(have au:(((s.eQ o).length:Int)==0)=true:=by rw[dG.1 SO];rfl);obtain⟨tu,WU⟩:=nm (eY.ji s.eB s.eZ.eF);(have Uh:Hy (∀W,Calls Tryz.prog 92 #[VI s.eB,VI s.eZ.eF] W fun e w'=>∃ev,e=.returned (.tuple #[VI tu,ev])/\W=w'):=Hd fun W=>by rw[WU];exact A8 _ _ W);rw[<- WU]at D
    go_wp2_with (first
     |(refine wpList_load_row rfl 93 (.tmp 3) rfl w.heap.size rfl 93 _ (0,0) _ Rt.o Tryz.underlying93 rfl af ?_)
     |(go_at_call 90;refine Ut.o.mono ?_;rintro e W5 ⟨rfl,PW⟩))
    refine abC ?_;intro T5 Rm H5 RT q5 y5;clear PW T3 Rt H4 Rb hq WU;(go_quiet (fail));obtain⟨E,T7⟩:=nm (W5.drewN nq);have T:Hy (Has E c.heap.size (.cells (ju i rc j n rs ro t rl ⟨rd.toArray⟩) 93)):=Hd (by rw[T7];exact T5.o.drewN nq);have Xr:Hy (Has E w.heap.size (.cells (ju mk f x y ms o mv A ⟨md.toArray⟩) 93)):=Hd (by rw[T7];exact Rm.o.drewN nq);have V:Hy (fC P own w0 E sb db wb dm tb tm v ps qs d s):=Hd (by rw[T7];exact H5.o.below (below_drewN (Below.refl _ W5) nq));have N:Hy (BB w E):=Hd (by rw[T7];exact below_drewN RT.o nq);rw[<- T7];clear T7 T5 Rm H5 RT q5 y5;have Xt:CI E sb 32 s.eB:=V.o.jJ 4 _ rfl;have c0:CI E sb 0 s.eZ.eF:=V.o.cell0 0 _ rfl;(go_wp2_with fail);(go_region_held3 (fun W=>CI W sb 32 s.eB/\CI W sb 0 s.eZ.eF) (go_keep) ((go_at_call 92;refine (Uh.o _).mono ?_;rintro e w' ⟨ev,rfl,rfl⟩)));(go_wp2_with fail);obtain⟨B,O⟩:=nm E.drew;have aa:Hy (Has B c.heap.size (.cells (ju i rc j n rs ro t rl ⟨rd.toArray⟩) 93)):=Hd (by rw[O];exact T.o.drew);have Uu:Hy (Has B w.heap.size (.cells (ju mk f x y ms o mv A ⟨md.toArray⟩) 93)):=Hd (by rw[O];exact Xr.o.drew);have H7:Hy (fC P own w0 B sb db wb dm tb tm v ps qs d s):=Hd (by rw[O];exact V.o.below (Below.refl _ _).drew);have UJ:Hy (BB w B):=Hd (by rw[O];exact N.o.drew);rw[<- O];clear O T Xr V N Xt c0;have Wb:CP B sb 29 tb 0:=H7.o.jJ 1 _ rfl;have z1:CI B w.heap.size 1 f:=Uu.o.cell 1;have z5:CI B w.heap.size 5 o:=Uu.o.cell 5;have an:sb<B.heap.size:=H7.o.s_.lt;have YL:sb≠tb/\sb≠tm:=⟨fun e=>(by have J:=H7.o.iL;rw[e,H7.o.kJ]at J;cases J),fun e=>(by have J:=H7.o.iL;rw[e,H7.o.kK]at J;cases J)⟩;have n1:¬(sb=tb\/sb=tm):=fun e=>e.elim YL.1 YL.2;have a7:tb<w.heap.size/\tm<w.heap.size:=H.o.eW.lt;have n2:¬(w.heap.size=tb\/w.heap.size=tm):=ab;have n3:¬(c.heap.size=tb\/c.heap.size=tm):=ab;have UZ:w.heap.size<B.heap.size:=Uu.o.lt;have Wc:c.heap.size<B.heap.size:=aa.o.lt;obtain⟨T',aq⟩:=nm (s.eW.eF f o tu:Int×fW);have Wd:=Hd (Hh f o tu H7.o.eW.drew (WalkArith.wf_i64 ab) (WalkArith.wf_i64 ab));rw[<- aq]at D Wd;obtain⟨ev,Qx⟩:=nm (iC T'.1);rw[<- Qx]at Wd;obtain⟨bb,ad⟩:=nm (decide (T'.1=0));rw[<- ad]at D
    have We:ev=if bb then .nilIface else .iface 70 (VI T'.1):=by
     rw[Qx,ad];unfold iC;by_cases h0:T'.1=0<;>simp[h0]
    have Q9:∀(W:World) (u:Value),(CP W sb 29 tb 0/\CI W w.heap.size 1 f/\CI W w.heap.size 5 o)->((W.setCell ⟨c.heap.size,7,none⟩ u).cell? ⟨sb,29,none⟩=some (VP tb 0)/\(W.setCell ⟨c.heap.size,7,none⟩ u).cell? ⟨w.heap.size,1,none⟩=some (VI f)/\(W.setCell ⟨c.heap.size,7,none⟩ u).cell? ⟨w.heap.size,5,none⟩=some (VI o)):=fun W u h=>⟨(World.cell?_setCell_far _ _ _ _ (by show c.heap.size≠sb;omega)).trans h.1,(World.cell?_setCell_far _ _ _ _ (by show c.heap.size≠w.heap.size;omega)).trans h.2.1,(World.cell?_setCell_far _ _ _ _ (by show c.heap.size≠w.heap.size;omega)).trans h.2.2⟩;clear aq Qx ad
    cases bb with
    |false =>
     rw[if_neg aj]at We;subst We;(go_region_held3 (fun W=>CP W sb 29 tb 0/\CI W w.heap.size 1 f/\CI W w.heap.size 5 o) (first|exact⟨(ht.cell (p:=⟨sb,29,none⟩) an n1).trans Wb,(ht.cell (p:=⟨w.heap.size,1,none⟩) UZ n2).trans z1,(ht.cell (p:=⟨w.heap.size,5,none⟩) UZ n2).trans z5⟩|exact Q9 _ _ (by assumption)|go_keep) ((go_at_call 93;refine Wd.o.mono ?_;rintro e W8 ⟨rfl,YM,ht⟩;have U:=ht.has aa.o.drew n3;have k7:CC W8 c.heap.size 7 (.bool rl):=U.cell 7;have f7:=U.frozen 7)));refine abv ?_;intro h8 Qm;have F:=U.fQ 7 (.bool false);have h9:=h8.pS (S:=fun g=>g=c.heap.size) (w':=W8.setCell ⟨c.heap.size,7,none⟩ (.bool false)) (eJ.setCell (S:=fun g=>g=c.heap.size) (p:=⟨c.heap.size,7,none⟩) (eJ.refl _ _) (.inr rfl) _) fun g _ hg=>⟨H.o.fr g ab,by have:=H.o.le;omega⟩;have Su:eJ (fun g=>g=tb\/g=tm) w (W8.setCell ⟨c.heap.size,7,none⟩ (.bool false)):=Qm.setCell (p:=⟨c.heap.size,7,none⟩) (.inl (by show w.heap.size<=c.heap.size;omega)) _;have G:=Hd F;have H9:=Hd h9;have VG:=Hd Su;clear h8 Qm F h9 Su U k7 f7 YM ht Wd;obtain⟨W9,I⟩:=nm (W8.setCell ⟨c.heap.size,7,none⟩ (.bool false));rw[<- I]at G H9 VG⊢;clear I Q9
     go_wp2_with (first
      |(refine wpList_load_row rfl 93 (.tmp 6) rfl c.heap.size rfl 93 _ (0,0) _ G.o Tryz.underlying93 rfl af ?_)
      |(refine nk rfl (.tmp 73) ⟨i,rc,j,n,rs,ro,t,false,rd⟩ rfl rfl ?_))
     go_ret;(have e:s.reads ⟨mk,f,x,y,ms,o,mv,A,md⟩=([⟨i,rc,j,n,rs,ro,t,false,rd⟩],{s with eW:=T'.2}):=by rw[D.o];rfl);rw[e];have X:=(Below.refl W9.heap.size W9).alloc (ax _) (.cells (([⟨i,rc,j,n,rs,ro,t,false,rd⟩]:List eL).flatMap iS).toArray 93);exact⟨_,rfl,(fV.new (w:=W9) (l:=[⟨i,rc,j,n,rs,ro,t,false,rd⟩]) ae).base VG.o.size,H9.o.below X,VG.o.jl X (ax _)⟩
    |true =>
     rw[if_pos rfl]at We;subst We;(go_region_held3 (fun W=>CP W sb 29 tb 0/\CI W w.heap.size 1 f/\CI W w.heap.size 5 o) (first|exact⟨(ht.cell (p:=⟨sb,29,none⟩) an n1).trans Wb,(ht.cell (p:=⟨w.heap.size,1,none⟩) UZ n2).trans z1,(ht.cell (p:=⟨w.heap.size,5,none⟩) UZ n2).trans z5⟩|exact Q9 _ _ (by assumption)|go_keep) ((go_at_call 93;refine Wd.o.mono ?_;rintro e W8 ⟨rfl,YM,ht⟩;have U:=ht.has aa.o.drew n3;have k7:CC W8 c.heap.size 7 (.bool rl):=U.cell 7;have f7:=U.frozen 7)));refine abv ?_;intro h8 Qm;have F:=U.fQ 7 (.bool true);have h9:=h8.pS (S:=fun g=>g=c.heap.size) (w':=W8.setCell ⟨c.heap.size,7,none⟩ (.bool true)) (eJ.setCell (S:=fun g=>g=c.heap.size) (p:=⟨c.heap.size,7,none⟩) (eJ.refl _ _) (.inr rfl) _) fun g _ hg=>⟨H.o.fr g ab,by have:=H.o.le;omega⟩;have Su:eJ (fun g=>g=tb\/g=tm) w (W8.setCell ⟨c.heap.size,7,none⟩ (.bool true)):=Qm.setCell (p:=⟨c.heap.size,7,none⟩) (.inl (by show w.heap.size<=c.heap.size;omega)) _;have G:=Hd F;have H9:=Hd h9;have VG:=Hd Su;clear h8 Qm F h9 Su U k7 f7 YM ht Wd;obtain⟨W9,I⟩:=nm (W8.setCell ⟨c.heap.size,7,none⟩ (.bool true));rw[<- I]at G H9 VG⊢;clear I Q9
     go_wp2_with (first
      |(refine wpList_load_row rfl 93 (.tmp 6) rfl c.heap.size rfl 93 _ (0,0) _ G.o Tryz.underlying93 rfl af ?_)
      |(refine nk rfl (.tmp 73) ⟨i,rc,j,n,rs,ro,t,true,rd⟩ rfl rfl ?_))
     go_ret;(have e:s.reads ⟨mk,f,x,y,ms,o,mv,A,md⟩=([⟨i,rc,j,n,rs,ro,t,true,rd⟩],{s with eW:=T'.2}):=by rw[D.o];rfl);rw[e];have X:=(Below.refl W9.heap.size W9).alloc (ax _) (.cells (([⟨i,rc,j,n,rs,ro,t,true,rd⟩]:List eL).flatMap iS).toArray 93);exact⟨_,rfl,(fV.new (w:=W9) (l:=[⟨i,rc,j,n,rs,ro,t,true,rd⟩]) ae).base VG.o.size,H9.o.below X,VG.o.jl X (ax _)⟩
end
def xC (x:Wr):Value:=.agg #[VI x.eI,VI x.eK,.string ⟨x.data.toArray⟩,.bool x.gw]
def mU (c n:Int) (x:Wr):Bool:=decide (x.eI=c)&&decide (n<=x.eK)
theorem Jm (x:Wr) (mk a b i ms j mv:Int) (k:Bool) (md:ByteArray) (p:Nat) (w:World) (hp:Has w p (.cells (ju mk a b i ms j mv k md) 93)) :
 Calls Tryz.prog 95 #[xC x,VP p 0] w fun e w'=>e=.returned (.bool (mU a b x))/\BB w w':=by
 have l:=hp.lt;have m:CI w p 1 a:=hp.cell 1;have n:CI w p 2 b:=hp.cell 2;unfold xC mU;obtain⟨f,c⟩:=nm (decide (x.eI=a));obtain⟨g,d⟩:=nm (decide (b<=x.eK));have e1:(x.eI==a)=f:=c.symm;have o:decide (b<=x.eK)=g:=d.symm;rw[<- c,<- d];clear c d hp
 cases f with
 |false =>
  (go_enter Tryz.func95,Tryz.ntmps95);go_wp2;exact aa2
 |true =>
  cases g
  all_goals
   (go_enter Tryz.func95,Tryz.ntmps95);go_wp2;exact aa2
theorem Jn (own:Nat->Nat) (T:Nat) (v:Value) (l:List Wr) (mk d m q ms s mv:Int) (t:Bool) (md:ByteArray) (p:Nat) (w:World) (h:iD own T w 162 4 v l.length (l.flatMap kA)) (hp:Has w p (.cells (ju mk d m q ms s mv t md) 93)) :
 Calls Tryz.prog 121 #[v,.func (.func 95) #[] #[VP p 0]] w fun e w'=>∃r:Int,e=.returned (VI r)/\decide (0<=r)=l.any (mU d m)/\BB w w':=by
 obtain⟨a,c,rfl,z,A⟩:=h.slice;(have B:l.length<=9223372036854775807:=by unfold maxLen at A;omega);have C:=hp.lt;have H:=Hd h;have D:=Hd hp;clear h hp;(go_enter Tryz.func121,Tryz.ntmps121);go_wp2;(go_loopw [8,5] (fun i _ wr=>∃k:Nat,k<=l.length/\i=VI k/\(l.take k).any (mU d m)=false/\BB w wr) (fun i _ _=>l.length-(intOf i).toNat));case atStart=>exact⟨0,ab,rfl,rfl,Below.refl _ _⟩
 case round =>
  obtain⟨k,J,rfl,y,hb⟩:=hrel;have QY:=Hd y;clear y;by_cases E:k<l.length
  ·have n:l[k]?=some l[k]:=ay E;generalize hx:l[k]=x at n;obtain⟨g,off,cap,he,-,G,-,-,hc⟩:=iD.elem (f:=kA) (size:=4) xy H.o n;injection he with he1 VE Xu;subst he1
   have b:∀j u,(kA x)[j]?=some u->CC wr g (off+k*4+j) u:=fun j u hu=>by
    rw[Nat.add_assoc];exact (hb.cell (p:=⟨g,off+(k*4+j),none⟩) G).trans (hc j u hu).1
   have c0:CI wr g (off+k*4) x.eI:=b 0 _ rfl;have c1:CI wr g (off+k*4+1) x.eK:=b 1 _ rfl;have c2:CC wr g (off+k*4+2) (.string ⟨x.data.toArray⟩):=b 2 _ rfl;have c3:CC wr g (off+k*4+3) (.bool x.gw):=b 3 _ rfl;have F:=Hd (Jm x mk d m q ms s mv t md p wr (D.o.below hb C));have I:=Hd n
   have HT:Hy ((l.take (k+1)).any (mU d m)=mU d m x):=Hd (by
    rw[bH,n,eh,QY.o]
    simp)
   have HA:Hy (mU d m x=true->l.any (mU d m)=true):=Hd fun hw=>bW.2 ⟨x,aT n,hw⟩;unfold xC at F;clear b hc n hx VE Xu
   cases hw:mU d m x with
   |true =>
    exact abA
   |false =>
    exact abk
  exact ab8
theorem Jo (own:Nat->Nat) (T:Nat) (v:Value) (l:List Wr) (mk a b c ms d mv:Int) (f:Bool) (md:ByteArray) (p:Nat) (w:World) (h:iD own T w 162 4 v l.length (l.flatMap kA)) (hp:Has w p (.cells (ju mk a b c ms d mv f md) 93)) :
 Calls Tryz.prog 94 #[v,.func (.func 95) #[] #[VP p 0]] w fun e w'=>e=.returned (.bool (l.any (mU a b)))/\BB w w':=by
 have I:=Hd (Jn own T v l mk a b c ms d mv f md p w h hp);clear h hp;(go_enter Tryz.func94,Tryz.ntmps94);(go_wp2_with fail);refine I.o.mono ?_;rintro e i ⟨r,rfl,g,hb⟩;have HR:=Hd g;clear g;(go_wp2_with fail);go_ret;exact⟨by rw[<- HR.o];rfl,hb⟩
section
variable {P:Lib.PrintTabs} {own:Nat->Nat} {w0:World} {sb db wb dm tb tm:Nat} {v:Value} {ps:List ByteArray} {qs:List Value} {d:fe} {s:eA}
theorem Jp (w:World) (c:Int) (p:Nat) (hp:Has w p (.cells #[VP sb 0] 62)) (h:fC P own w0 w sb db wb dm tb tm v ps qs d s) :
 Calls Tryz.prog 102 #[VI c,VP p 0] w fun e w'=>e=.returned (.bool (s.eW.jT c s.eB))/\BB w w':=by
 have b:CP w p 0 sb 0:=hp.cell 0;have f:=h.jJ 1 _ rfl;have g:=h.jJ 4 _ rfl;have a:=Hd (Hk c s.eB h.eW.drew);have HB:=Hd (Below.refl w.heap.size w).drew;clear h hp;(go_enter Tryz.func102,Tryz.ntmps102);go_wp2;(go_region_held3 (fun W=>CP W p 0 sb 0/\CP W sb 29 tb 0/\CI W sb 32 s.eB) (go_keep) ((go_at_call 103;refine a.o.mono ?_;rintro e w' ⟨rfl,rfl⟩)));(go_wp2_with fail);go_ret;exact⟨rfl,HB.o⟩
theorem uD {w:World} {B:Nat} {v:Value} {l:List Int} (h:w.ownsRow B 3 1 v l.length (l.map (Value.int .i64))) {k:Nat} {x:Int} (a:l[k]?=some x) :
 ∃g cap,v=.slice (some ⟨g,0,none⟩) l.length cap/\g<w.heap.size/\w.cell? ⟨g,k,none⟩=some (VI x):=by
 have e:k<l.length:=(az.1 a).1;rcases h.2 with⟨-,f⟩|⟨g,cap,cur,rfl,-,b,-,-,-,c⟩
 ·omega
 refine⟨g,cap,rfl,Has.lt (w:=w) b,?_⟩;have d:Has w g (.cells cur 3):=b;rw[(kj d c k ab).1,br,a];rfl
theorem Jq (w:World) (B:Nat) (u:Value) (l:List Int) (A:l.length<=1000) (p:Nat) (hu:w.ownsRow B 3 1 u l.length (l.map (Value.int .i64))) (hp:Has w p (.cells #[VP sb 0] 62)) (h:fC P own w0 w sb db wb dm tb tm v ps qs d s) :
 Calls Tryz.prog 124 #[u,.func (.func 102) #[] #[VP p 0]] w fun e w'=>∃r:Int,e=.returned (VI r)/\decide (0<=r)=l.any (fun c=>s.eW.jT c s.eB)/\BB w w':=by
 have j:∃a c,u=.slice a l.length c:=by
  rcases hu.2 with⟨rfl,m⟩|⟨g,cap,cur,rfl,-⟩
  ·exact⟨none,0,by rw[m]⟩
  exact⟨_,cap,rfl⟩
 obtain⟨a,c,rfl⟩:=j;have n:=hp.lt;have H:=Hd h;have q:=Hd hp;have t:=Hd hu;clear h hp hu;(go_enter Tryz.func124,Tryz.ntmps124);go_wp2;(go_loopw [8,5] (fun i _ wr=>∃k:Nat,k<=l.length/\i=VI k/\(l.take k).any (fun c=>s.eW.jT c s.eB)=false/\BB w wr) (fun i _ _=>l.length-(intOf i).toNat));case atStart=>exact⟨0,ab,rfl,rfl,Below.refl _ _⟩
 case round =>
  obtain⟨k,C,rfl,f,hb⟩:=hrel;have QY:=Hd f;clear f;by_cases y:k<l.length
  ·have b:l[k]?=some l[k]:=ay y;generalize hx:l[k]=x at b;obtain⟨g,cap,he,z,hc⟩:=uD t.o b;injection he with he1 VE Xu;subst he1;have c0:CI wr g k x:=(hb.cell (p:=⟨g,k,none⟩) z).trans hc;have F:=Hd (Jp wr x p (q.o.below hb n) (H.o.below hb))
   have HT:Hy ((l.take (k+1)).any (fun c=>s.eW.jT c s.eB)=s.eW.jT x s.eB):=Hd (by
    rw[bH,b,eh,QY.o]
    simp)
   have HA:Hy (s.eW.jT x s.eB=true->l.any (fun c=>s.eW.jT c s.eB)=true):=Hd fun hw=>bW.2 ⟨x,aT b,hw⟩;clear hc b hx VE Xu
   cases hw:s.eW.jT x s.eB with
   |true =>
    exact abA
   |false =>
    exact abk
  exact ab8
theorem Jr (w:World) (B:Nat) (u:Value) (l:List Int) (b:l.length<=1000) (p:Nat) (hu:w.ownsRow B 3 1 u l.length (l.map (Value.int .i64))) (hp:Has w p (.cells #[VP sb 0] 62)) (h:fC P own w0 w sb db wb dm tb tm v ps qs d s) :
 Calls Tryz.prog 104 #[u,.func (.func 102) #[] #[VP p 0]] w fun e w'=>e=.returned (.bool (l.any (fun c=>s.eW.jT c s.eB)))/\BB w w':=by
 have I:=Hd (Jq w B u l b p hu hp h);clear h hp hu;(go_enter Tryz.func104,Tryz.ntmps104);(go_wp2_with fail);refine I.o.mono ?_;rintro e f ⟨r,rfl,a,hb⟩;have HR:=Hd a;clear a;(go_wp2_with fail);go_ret;exact⟨by rw[<- HR.o];rfl,hb⟩
end
theorem Js (w:World) (B:Nat) (u:Value) (l:List Int) (s:l.length<=1000) (y:Int) (hu:w.ownsRow B 3 1 u l.length (l.map (Value.int .i64))) :
 Calls Tryz.prog 122 #[u,VI y] w fun e w'=>∃r:Int,e=.returned (VI r)/\decide (0<=r)=l.any (fun x=>y==x)/\w=w':=by
 have m:∃a c,u=.slice a l.length c:=by
  rcases hu.2 with⟨rfl,n⟩|⟨g,cap,cur,rfl,-⟩
  ·exact⟨none,0,by rw[n]⟩
  exact⟨_,cap,rfl⟩
 obtain⟨a,c,rfl⟩:=m;have p:=Hd hu;clear hu;(go_enter Tryz.func122,Tryz.ntmps122);go_wp2;(go_loopw [8,5] (fun i _ wr=>∃k:Nat,k<=l.length/\i=VI k/\(l.take k).any (fun x=>y==x)=false/\wr=w) (fun i _ _=>l.length-(intOf i).toNat));case atStart=>exact⟨0,ab,rfl,rfl,rfl⟩
 case round =>
  obtain⟨k,t,rfl,f,rfl⟩:=hrel;have h:=Hd f;clear f;by_cases q:k<l.length
  ·have b:l[k]?=some l[k]:=ay q;generalize hx:l[k]=x at b;obtain⟨g,cap,he,v,hc⟩:=uD p.o b;injection he with he1 VE Xu;subst he1
   have j:Hy ((l.take (k+1)).any (fun x=>y==x)=(y==x)):=Hd (by
    rw[bH,b,eh,h.o];show (false||((y==x)||false))=(y==x)
    rw[Bool.or_false,Bool.false_or])
   have d:Hy ((y==x)=true->l.any (fun x=>y==x)=true):=Hd fun hw=>bW.2 ⟨x,aT b,hw⟩;clear b hx VE Xu
   cases hw:(y==x)with
   |true =>
    rw[hw]at d;(go_wp2_with fail);go_ret;exact⟨_,rfl,by rw[d.o trivial];exact decide_eq_true ab,rfl⟩
   |false =>
    rw[hw]at j;clear d;(go_wp2_with fail);go_roundw;(case rel=>exact⟨k+1,ab,by go_num,j.o,trivial⟩);case measure=>simp[intOf];omega
  (obtain rfl:k=l.length:=by omega);(go_wp2_with fail);go_ret;exact⟨_,rfl,by have:=h.o;rw[bK]at this;rw[this];rfl,rfl⟩
theorem Jt (w:World) (B:Nat) (u:Value) (l:List Int) (b:l.length<=1000) (y:Int) (hu:w.ownsRow B 3 1 u l.length (l.map (Value.int .i64))) :
 Calls Tryz.prog 96 #[u,VI y] w fun e w'=>e=.returned (.bool (l.contains y))/\w=w':=by
 have I:=Hd (Js w B u l b y hu);clear hu;(go_enter Tryz.func96,Tryz.ntmps96);(go_wp2_with fail);refine I.o.mono ?_;rintro e c ⟨r,rfl,a,rfl⟩;have HR:=Hd a;clear a;(go_wp2_with fail);go_ret;exact⟨by rw[List.contains_eq_any_beq,<- HR.o];rfl,rfl⟩
theorem A9 {t:fU} {wb dm tb:Nat} {b:List ir} {qs:List Value} {e q n o:Int} (hv:b.length=8) (c:qs.length=8) (k:Nat) (d:k<8) (u:Value) :
 (kI t wb b qs dm tb e q n o).set (20+k) u=kI t wb b (qs.set k u) dm tb e q n o:=by
 (have a:(b.flatMap nL).length=16:=by rw[nf sL,hv]);unfold kI;rw[bE _ _ ah,show 20+k-([VI t.eF,VI t.fa,VI t.fH,VP wb 0]:List Value).length=16+k by simp;omega];rw[bE _ _ (by rw[a];omega),a,cW,dy _ _ ab]
def mz (own:Nat->Nat) (w:World):Nat->Nat:=fun k=>if k<w.heap.size then own k else 0
theorem uE (own:Nat->Nat) (w:World):∀g,w.heap.size<=g->mz own w g=0:=fun g a=>by unfold mz;rw[if_neg ab]
theorem qC {own:Nat->Nat} {w:World} {k:Nat} (h:k<w.heap.size):mz own w k=own k:=by unfold mz;rw[if_pos h]
theorem rB {own own1:Nat->Nat} {w w':World} (h:Ext w own own1) (hs:w.heap.size<=w'.heap.size):Ext w own (mz own1 w'):=fun k a=>by rw[qC ab];exact h k a
section
variable {P:Lib.PrintTabs} {own own1:Nat->Nat} {w0 w w':World} {sb db wb dm tb tm:Nat} {v:Value} {ps:List ByteArray} {qs:List Value} {d:fe} {s:eA}
theorem ph (s:eA) (o k:Nat) (l:List Wr) (a:o<s.fi.length):({s with fi:=s.fi.set o l}:eA).eQ k=if k=o then l else s.eQ k:=by
 unfold eA.eQ;rw[aC,aC];by_cases h:k=o
 ·subst h;rw[if_pos rfl,aS a];rfl
 rw[if_neg h,a8 (fun e=>h e.symm)]
theorem Ju (qs:List Value) (o k:Nat) (u:Value) (a:o<qs.length):(qs.set o u).getD k undef=if k=o then u else qs.getD k undef:=by
 rw[aC,aC];by_cases h:k=o
 ·subst h;rw[if_pos rfl,aS a];rfl
 rw[if_neg h,a8 (fun e=>h e.symm)]
theorem fC.xD (h:fC P own w0 w sb db wb dm tb tm v ps qs d s) (o:Nat) (j:o<8) (u:Value) (l:List Wr) (ht:eJ (fun g=>g=sb\/own g=10+o) w w') (he:Ext w own own1) (m:∀g,w'.heap.size<=g->own1 g=0)
 (hs:Has w' sb (.cells (kI s.eZ wb s.values (qs.set o u) dm tb s.eS s.quiet s.eB s.gy).toArray 105)) (n:iD own1 (10+o) w' 162 4 u l.length (l.flatMap kA))
 (hc:∀x∈l,(0<=x.eI/\x.eI<4)/\x.data.length<=20) (i:l.length<=10):fC P own1 w0 w' sb db wb dm tb tm v ps (qs.set o u) d {s with fi:=s.fi.set o l}:=by
 have ne:∀g k,own g=k->k≠4->k≠10+o->¬(g=sb\/own g=10+o):=fun g k hk h4 h5 e=>by
  rcases e with e|e
  ·rw[e,h.iL]at hk;exact h4 hk.symm
  rw[e]at hk;exact h5 hk.symm
 have c:∀g,fL own1 g->w0.heap.size<=g:=fun g hg=>by
  exact abn
 (have a:o<s.fi.length:=by rw[h.nq];exact j);have q:=h.s_.lt
 refine⟨h.lW,h.my,h.iA.trans (ht.oE h.le fun k hk e=>?_),c,m,⟨ht.has h.fF.w_ (ne _ 3 h.fF.ow aj ab),h.fF.row.fc ht he fun k _ hk=>ne k 2 hk aj ab,by rw[he _ h.fF.w_.lt];exact h.fF.ow,fun g hg=>c g ⟨ab,ab⟩,h.fF.lw⟩,
  ⟨ht.has h.jU.d_ (ne _ 1 h.jk aj ab),h.jU.hp⟩,h.kZ,by rw[he _ h.jU.lt];exact h.jk,hs,by rw[he _ q];exact h.iL,⟨h.nv,by show (s.fi.set o l).length=8;rw[aU];exact h.nq,fun k x f=>?_,h.ok.dk,h.ok.rc,fun k=>?_⟩,by rw[aU];exact h.lq,fun k hk=>?_,
  h.done.fI ht (ne _ 5 h.km aj ab),by rw[he _ h.done.lt];exact h.km,h.eW.fI ht (ne _ 6 h.kJ aj ab) (ne _ 7 h.kK aj ab),by rw[he _ h.eW.lt.1];exact h.kJ,by rw[he _ h.eW.lt.2];exact h.kK⟩
 ·rcases e with e|e
  ·have:=h.low sb ⟨by rw[h.iL];decide,by rw[h.iL];decide⟩;omega
  have:=h.low k ⟨ab,ab⟩;omega
 ·rw[ph s o k l a]at f;by_cases b:k=o
  ·rw[if_pos b]at f;exact hc x f
  rw[if_neg b]at f;exact h.ok.qc k x f
 ·rw[ph s o k l a];split
  ·exact i
  exact h.ok.ql k
 rw[ph s o k l a,Ju qs o k u (by rw[h.lq];exact j)];by_cases b:k=o
 ·subst b;rw[if_pos rfl,if_pos rfl];exact n
 rw[if_neg b,if_neg b];exact (h.eQ k hk).fc ht he fun g _ hg=>ne g _ hg ab ab
end
def nM (t:fU):Value:=.agg #[VI t.eF,VI t.fa,VI t.fH]
theorem right_eq (t:fU):eY.kz t=(decide (1<=t.fa)&&decide (t.fa<=t.eF)&&decide (t.eF<=274877906944)&&decide (0<=t.fH)&&decide (t.fH<=500)):=by
 unfold eY.kz fR;simp only[Bool.and_assoc]
theorem Jv (t:fU) (w:World):Calls Tryz.prog 56 #[nM t] w fun e w'=>e=.returned (.bool (eY.kz t))/\BB w w':=by
 rw[right_eq];obtain⟨a,i,j⟩:=t;unfold nM;dsimp only;obtain⟨k,b⟩:=nm (decide (1<=i));obtain⟨l,c⟩:=nm (decide (i<=a));obtain⟨m,d⟩:=nm (decide (a<=274877906944));obtain⟨n,f⟩:=nm (decide (0<=j));obtain⟨o,g⟩:=nm (decide (j<=500));rw[<- b,<- c,<- d,<- f,<- g];have e1:=b.symm;have q:=c.symm;have r:=d.symm;have s:=f.symm;have u:=g.symm;clear b c d f g
 cases k with
 |false =>
  (go_enter Tryz.func56,Tryz.ntmps56);go_wp2;exact aa2
 |true =>
  cases l with
  |false =>
   (go_enter Tryz.func56,Tryz.ntmps56);go_wp2;exact aa2
  |true =>
   cases m with
   |false =>
    (go_enter Tryz.func56,Tryz.ntmps56);go_wp2;exact aa2
   |true =>
    cases n with
    |false =>
     (go_enter Tryz.func56,Tryz.ntmps56);go_wp2;exact aa2
    |true =>
     cases o
     all_goals
      (go_enter Tryz.func56,Tryz.ntmps56);go_wp2;exact aa2
section
variable {P:Lib.PrintTabs} {own:Nat->Nat} {w0:World} {sb db wb dm tb tm:Nat} {v:Value} {ps:List ByteArray} {qs:List Value} {d:fe} {s:eA}
theorem Jw (w:World) (n:Int) (h:fC P own w0 w sb db wb dm tb tm v ps qs d s) :
 Calls Tryz.prog 27 #[VP sb 0,VI n] w fun e w'=>e=.returned (.tuple #[])/\fC P own w0 w' sb db wb dm tb tm v ps qs d {s with gy:=n}/\eJ (fun g=>g=sb) w w':=by
 have c5:=h.jJ 5 _ rfl
 have f5:=h.s_.frozen 33
 have H:=Hd h
 have a:Hy (∀x,eJ (fun g=>g=sb) w (w.setCell ⟨sb,33,none⟩ x)):=Hd fun x=>gX (eJ.refl _ _) 33 _
 clear h
 go_enter Tryz.func27,Tryz.ntmps27
 go_wp2
 go_end0
 exact⟨rfl,H.o.I9 _,a.o _⟩
end
theorem fV.block {B:Nat} {w:World} {v:Value} {l:List eL} (h:fV B w v l):∀k,v.ownBlock=some k->B<=k:=by
 rcases h.2 with⟨e,-⟩|⟨g,cap,cur,e,hb,-⟩
 ·intro k a;rw[e]at a;cases a
 intro k a;rw[e]at a;cases a;exact hb
theorem fV.fc {B:Nat} {w w':World} {v:Value} {l:List eL} {S:Nat->Prop} (h:fV B w v l) (ht:eJ S w w') (hs:∀g,v.ownBlock=some g->¬S g):fV B w' v l:=
 pN h fun g a=>ht.block g (h.lt g a).2 (hs g a)
theorem rC {o:Oper} {rest:List Oper} {ops:Array Oper} {a:Act} {w:World} {Q:Exit->Act->World->Prop} (c:o.guard=none) (x y:Operand) {B d:Nat} (e:B<=w.heap.size) (v u:Value) (l n:List eL) (f:o.op=.call {callee:=.builtin .append,args:=#[x,y],argTypes:=#[73,73]}) (i:a.eval x=v) (hy:a.eval y=u)
 (j:fV B w v l) (k:fV d w u n) (m:n≠[]) (p:l.length+n.length<=1000000)
 (h:∀b w',fV B w' b (l++n)->w.grownBy w' v.ownBlock->(∀g,b.ownBlock=some g->v.ownBlock=some g\/g=w.heap.size)->wpList Tryz.prog ops Q rest (a.put o.dst b) w'):wpList Tryz.prog ops Q (o::rest) a w:=
 wpList_plain c fun _ hK=>A6 x y e v u l n f i hy j k m p _ rfl fun b w' h1 h2 h3=>hK _ _ (h b w' h1 h2 h3)
section
variable {P:Lib.PrintTabs} {own own1 own2:Nat->Nat} {w0 w wr w':World} {sb db wb dm tb tm:Nat} {v v2:Value} {ps WW:List ByteArray} {qs qs2:List Value} {d d2:fe} {s s2:eA} {S:Nat->Prop}
structure GM (P:Lib.PrintTabs) (own own1:Nat->Nat) (w0 w wr:World) (sb db wb dm tb tm:Nat) (v:Value) (ps:List ByteArray) (qs:List Value) (d:fe) (s:eA) (q:Value) (out:List eL) (uh:Value) (hs:List Int):Prop where
 pj:w0.heap.size<=w.heap.size
 ext:Ext w own own1
 fj:fC P own1 w0 wr sb db wb dm tb tm v ps qs d s
 msgs:fV w.heap.size wr q out
 om:∀g,q.ownBlock=some g->own1 g=0
 box:Has wr w.heap.size (.cells #[VP sb 0] 62)
 ob:own1 w.heap.size=0
 fI:eJ (fL own) w wr
 row:wr.ownsRow w.heap.size 3 1 uh hs.length (hs.map (Value.int .i64))
 oh:∀g,uh.ownBlock=some g->own1 g=0
 apart:∀g,q.ownBlock=some g->uh.ownBlock=some g->False
 sO:q.ownBlock≠some w.heap.size
variable {q q' uh uh':Value} {out:List eL} {hs PD:List Int}
theorem GM.bound (h:GM P own own1 w0 w wr sb db wb dm tb tm v ps qs d s q out uh hs) (e:∀g,g<wr.heap.size->S g->fL own1 g\/w.heap.size<=g):∀k,k<w.heap.size->S k->fL own k:=fun k c a=>by
 rcases e k (aG c h.fI.size) a with b|b
 ·unfold fL at b⊢;rwa [h.ext k c]at b
 omega
theorem GM.Ba (h:GM P own own1 w0 w wr sb db wb dm tb tm v ps qs d s q out uh hs):∀g,uh.ownBlock=some g->g<wr.heap.size:=fun g a=>by
 rcases h.row.2 with⟨e,-⟩|⟨c,cap,cur,e,-,b,-⟩
 ·rw[e]at a;cases a
 rw[e]at a;cases a;exact Has.lt (w:=wr) b
theorem GM.step (h:GM P own own1 w0 w wr sb db wb dm tb tm v ps qs d s q out uh hs) (ht:eJ S wr w') (c:∀g,g<wr.heap.size->S g->fL own1 g) (he:Ext wr own1 own2) (hw:fC P own2 w0 w' sb db wb dm tb tm v2 WW qs2 d2 s2):GM P own own2 w0 w w' sb db wb dm tb tm v2 WW qs2 d2 s2 q out uh hs:=by
 (have no:∀g,g<wr.heap.size->own1 g=0->¬S g:=fun g hg h0 hs=>by have:=c g hg hs;unfold fL at this;omega);have b:∀g,q.ownBlock=some g->g<wr.heap.size:=fun g hg=>(h.msgs.lt g hg).2;have a:=h.Ba;exact⟨h.pj,fun k e=>(he k (aG e h.fI.size)).trans (h.ext k e),hw,h.msgs.fc ht fun g hg=>no g (b g hg) (h.om g hg),fun g hg=>(he g (b g hg)).trans (h.om g hg),ht.has h.box (no _ h.box.lt h.ob),(he _ h.box.lt).trans h.ob,h.fI.trans ht (h.bound fun g hg hs=>.inl (c g hg hs)),pN h.row fun g hg=>ht.block g (a g hg) (no g (a g hg) (h.oh g hg)),fun g hg=>(he g (a g hg)).trans (h.oh g hg),h.apart,h.sO⟩
theorem GM.below (h:GM P own own1 w0 w wr sb db wb dm tb tm v ps qs d s q out uh hs) (hb:BB wr w'):GM P own own1 w0 w w' sb db wb dm tb tm v ps qs d s q out uh hs:=
 h.step (S:=fun _=>False) (eJ.il hb (ax _)) (fun _ _ h=>h.elim) (Ext.refl _ _) (h.fj.below hb)
theorem GM.drew (h:GM P own own1 w0 w wr sb db wb dm tb tm v ps qs d s q out uh hs):GM P own own1 w0 w wr.drew sb db wb dm tb tm v ps qs d s q out uh hs:=h.below (Below.refl _ _).drew
theorem GM.drewN (h:GM P own own1 w0 w wr sb db wb dm tb tm v ps qs d s q out uh hs) (n:Nat):GM P own own1 w0 w (wr.drewN n) sb db wb dm tb tm v ps qs d s q out uh hs:=h.below (below_drewN (Below.refl _ _) n)
theorem GM.append {n:List eL} (h:GM P own own1 w0 w wr sb db wb dm tb tm v ps qs d s q out uh hs) (hm:fV w.heap.size w' q' (out++n)) (hg:wr.grownBy w' q.ownBlock) (c:∀g,q'.ownBlock=some g->q.ownBlock=some g\/g=wr.heap.size):GM P own own1 w0 w w' sb db wb dm tb tm v ps qs d s q' (out++n) uh hs:=by
 refine abJ ?_;intro ht;have a:=h.Ba;have f:=h.box.lt;refine⟨h.pj,h.ext,h.fj.pS ht fun g _ hg=>⟨h.om g hg,aB h.pj (h.msgs.block g hg)⟩,hm,fun g hg=>?_,ht.has h.box fun e=>h.sO e,h.ob,h.fI.trans ht fun k hk QA=>?_,pN h.row fun g hg=>ht.block g (a g hg) fun e=>h.apart g e hg,h.oh,fun g h1 h2=>?_,fun e=>?_⟩
 ·rcases c g hg with h1|h1
  ·exact h.om g h1
  exact h.fj.fr g ab
 ·have:=h.msgs.block k QA;omega
 ·have i:=a g h2;rcases c g h1 with b|b
  ·exact h.apart g b h2
  omega
 rcases c _ e with b|b
 ·exact h.sO b
 omega
theorem GM.hold (h:GM P own own1 w0 w wr sb db wb dm tb tm v ps qs d s q out uh hs) (hb:BB wr w') (c:w'.ownsRow wr.heap.size 3 1 uh' PD.length (PD.map (Value.int .i64))):GM P own own1 w0 w w' sb db wb dm tb tm v ps qs d s q out uh' PD:=by
 have a:=h.below hb;have b:=lK c
 exact⟨a.pj,a.ext,a.fj,a.msgs,a.om,a.box,a.ob,a.fI,mg c h.fI.size,fun g e=>h.fj.fr g (b g e),fun g h2 h3=>by
  have f:=(h.msgs.lt g h2).2;have i:=b g h3
  omega,a.sO⟩
theorem GM.free (h:GM P own own1 w0 w wr sb db wb dm tb tm v ps qs d s q out uh hs):GM P own own1 w0 w wr sb db wb dm tb tm v ps qs d s q out (.slice none 0 0) []:=
 ⟨h.pj,h.ext,h.fj,h.msgs,h.om,h.box,h.ob,h.fI,World.ownsRow_nil wr _ _ 1,fun g a=>(by cases a),fun g _ a=>(by cases a),h.sO⟩
theorem GM.start (h:fC P own w0 w sb db wb dm tb tm v ps qs d s):GM P own own w0 w (w.alloc (.cells #[VP sb 0] 62)) sb db wb dm tb tm v ps qs d s (.slice none 0 0) [] (.slice none 0 0) []:=by
 have hb:=(Below.refl w.heap.size w).alloc (ax _) (.cells #[VP sb 0] 62);exact⟨h.le,Ext.refl _ _,h.below hb,fV.nil _ _,fun g a=>(by cases a),Has.new w _,h.fr _ (ax _),eJ.il hb (ax _),World.ownsRow_nil _ _ _ 1,fun g a=>(by cases a),fun g a=>(by cases a),fun e=>(by cases e)⟩
def uF (P:Lib.PrintTabs) (own:Nat->Nat) (w0 w:World) (sb db wb dm tb tm:Nat) (qs:List Value) (d:fe) (s:eA) (r:Rec) (w':World):Prop:=
 ∃own2 v2 WW,Ext w own own2/\eJ (fun g=>g=wb\/g=db\/own g=2) w w'/\fC P own2 w0 w' sb db wb dm tb tm v2 WW qs (d.add s.eX r).2.1 {s with eX:=(d.add s.eX r).2.2}
theorem Jx (d:fe) (eX:Bool) (r:Rec):∀x∈(d.add eX r).2.1.eG,x∈d.eG\/x=r:=by
 intro x a;unfold fe.add at a;split at a
 ·exact .inl a
 split at a
 ·exact .inl a
 split at a
 ·exact .inl a
 split at a
 ·exact .inl a
 rcases aN.1 a with h|h
 ·exact .inl h
 exact .inr (aD.1 h)
theorem Bb (w:World) (r:Rec) (gy:Int) (p:r.data.length<=20) (hc:0<=r.eI/\r.eI<4) (h:fC P own w0 w sb db wb dm tb tm v ps qs d s) (hd:s.eX=false) :
 Calls Tryz.prog 61 #[VP wb 0,mr r,VI gy] w fun e w'=>e=.returned (iC (d.add s.eX r).1)/\uF P own w0 w sb db wb dm tb tm qs d s r w':=by
 have hw:=h.fF;rw[hd]at hw;(have l:wb≠db:=fun e=>by have h1:=h.fF.ow;rw[e,h.jk]at h1;cases h1);unfold uF;rw[hd];refine (IV P own 2 w0.heap.size w wb db v ps d r ab gy h.pR hw h.jU h.kZ (by rw[h.jk];decide) l).mono ?_;rintro e w' ⟨rfl,own1,v2,WW,he,ht,c,f,m⟩;refine⟨rfl,mz own1 w',v2,WW,rB he ht.size,ht,?_⟩;have a:=rB he ht.size
 have ne:∀g k,own g=k->k≠1->k≠2->k≠3->¬(g=wb\/g=db\/own g=2):=fun g k hk h1 h2 h3 e=>by
  rcases e with e|e|e
  ·rw[e,h.fF.ow]at hk;exact h3 hk.symm
  ·rw[e,h.jk]at hk;exact h1 hk.symm
  rw[e]at hk;exact h2 hk.symm
 have j:∀g,fL (mz own1 w') g->w0.heap.size<=g:=fun g hg=>by
  rcases bk g w.heap.size with b|b
  ·unfold fL at hg;rw[a g b]at hg;exact h.low g hg
  exact aB h.le b
 have i:=h.fF.w_.lt;refine⟨h.lW,h.my,h.iA.trans (ht.oE h.le fun k hk e=>?_),j,uE _ _,⟨c.w_,⟨c.row.1,fun g hg=>?_⟩,by rw[a _ i];exact h.fF.ow,fun g hg=>j g ⟨ab,ab⟩,c.lw⟩,f,m,by rw[a _ h.jU.lt];exact h.jk,ht.has h.s_ (ne _ 4 h.iL aj aj aj),by rw[a _ h.s_.lt];exact h.iL,⟨h.nv,h.nq,h.ok.qc,h.ok.dk,fun x n=>?_,h.ok.ql⟩,h.lq,fun o ho=>(h.eQ o ho).fc ht a fun k _ hk=>ne k (10+o) hk ab ab ab,h.done.fI ht (ne _ 5 h.km aj aj aj),by rw[a _ h.done.lt];exact h.km,h.eW.fI ht (ne _ 6 h.kJ aj aj aj) (ne _ 7 h.kK aj aj aj),by rw[a _ h.eW.lt.1];exact h.kJ,by rw[a _ h.eW.lt.2];exact h.kK⟩
 ·rcases e with e|e|e
  ·have:=h.low wb ⟨by rw[h.fF.ow];decide,by rw[h.fF.ow];decide⟩;omega
  ·have:=h.low db ⟨by rw[h.jk];decide,by rw[h.jk];decide⟩;omega
  have:=h.low k ⟨ab,ab⟩;omega
 ·rw[qC (c.row.lt g hg)];exact c.row.2 g hg
 rcases Jx d false r x n with h1|rfl
 ·exact h.ok.rc x h1
 exact hc
theorem Jy (n:Int) (w:World) (a:Handle w):Calls Tryz.prog 106 #[iC n] w fun e w'=>e=.returned (VI n)/\BB w w':=by
 by_cases h:n=0
 ·rw[h,o7];refine (F9 w).mono ?_;rintro e w' ⟨rfl,rfl⟩;exact⟨rfl,Below.refl _ _⟩
 rw[o8 h];exact Ga n w a
theorem Jz (w:World) (c:Int) (h:fC P own w0 w sb db wb dm tb tm v ps qs d s) :
 Calls Tryz.prog 105 #[VP tb 0,VI c] w fun e w'=>∃u,e=.returned u/\fC P own w0 w' sb db wb dm tb tm v ps qs d {s with eW:=(s.eW.flush c).2}/\eJ (fun g=>g=tb\/g=tm) w w':=by
 refine (Hj c h.eW).mono ?_;rintro e w' ⟨rfl,hT,ht⟩;exact⟨_,rfl,h.setTable ht _ hT,ht⟩
theorem fC.xE (h:fC P own w0 w sb db wb dm tb tm v ps qs d s):∀g,g<w.heap.size->(g=tb\/g=tm)->fL own g:=fun g _ e=>by
 unfold fL;rcases e with rfl|rfl
 ·rw[h.kJ];decide
 rw[h.kK];decide
theorem fC.xF (h:fC P own w0 w sb db wb dm tb tm v ps qs d s):∀g,g<w.heap.size->(g=sb\/g=dm)->fL own g:=fun g _ e=>by
 unfold fL;rcases e with rfl|rfl
 ·rw[h.iL];decide
 rw[h.km];decide
theorem fC.Bc (h:fC P own w0 w sb db wb dm tb tm v ps qs d s):∀g,g<w.heap.size->(g=wb\/g=db\/own g=2)->fL own g:=fun g _ e=>by
 unfold fL;rcases e with rfl|rfl|e
 ·rw[h.fF.ow];decide
 ·rw[h.jk];decide
 rw[e];decide
theorem uG (t:fW) (o eB:Int):(t.ga o eB).length<=4:=by
 unfold fW.ga;exact aB (cR _ _) aj
end
end fj
end Go.Proofs.YtjhdaojclilakaaGreatDoor
