/-
  A part of the proof of the law DeskPieces: DkJ, DkK, DkN.
-/
import Derived.Test.YtlhodcmdpchllaaGreatDoorHd
import Derived.Test.YtlhodcmdpchllaaGreatDoorP36
import Derived.Test.YtlhodcmdpchllaaGreatDoorP41
set_option maxHeartbeats 16000000
set_option maxRecDepth 1000000
namespace Go.Proofs.YtlhodcmdpchllaaGreatDoor
namespace dk
open dI (Bytes dB eA)
open Go.RowKit heap eO dZ ff own fe
section
variable {P:Lib.PrintTabs} {own:Nat->Nat} {w0 w w':World} {k ob db:Nat} {v:WV} {r r':dB}
theorem Im (h:DkW P own w0 w k ob db v r) {b:Int} {n:Nat} (hf:DF b n r) (hb:b<=890000) (g o c:Nat) (ws:List Bytes) (hw:gF w g o ws) (hg:g<w.heap.size) (hc:ws.length<=c) (hl:ws.length<=100000) (hs:∀x∈ws,x.length<=100000) :
 Calls Tryz.prog 35 #[.pointer (some ⟨k,0,none⟩),.slice (some ⟨g,o,none⟩) ws.length c] w fun e w'=>Ends (oN r ws).1 e/\Dk P own w0 k w (oN r ws).2 w':=by
 have HN:=Hd (ja P w g o c ws 1 hw hg hc hl hs h.gz);have H:=Hd h;have HF:=Hd hf;obtain⟨x,hx⟩:∃x,x=oN r ws:=⟨_,rfl⟩;rw[<- hx]
 cases hn:ff.numbers ws 1 with
 |none =>
  (have Kf:x=(.no 3,r):=by rw[hx];unfold oN;rw[hn];rfl);rw[hn]at HN;subst Kf;clear hx hn hw h hf;(go_enter Tryz.func35,Tryz.ntmps35);(go_wp2_with (go_at_call 12;refine HN.o.mono ?_;rintro e w1 ⟨Kd,rfl⟩));exact⟨rfl,rfl,H.o.here.below Kd⟩
 |some l =>
  have Lm:=lA (n:=1) hn;(have Kf:x=if decide (at_ l 0<0)||decide (200<at_ l 0) then (.no 2,r) else (.yes lR,r.vg (at_ l 0)):=by rw[hx];unfold oN;rw[hn];rfl);rw[hn]at HN;obtain⟨q,hq⟩:∃q,q=at_ l 0:=⟨_,rfl⟩;rw[<- hq]at Kf;have HX:=Hd Kf;have HQ:=Hd hq;have KM:=Hd Lm;clear hx Kf hn hw h hf Lm hq;(go_enter Tryz.func35,Tryz.ntmps35);(go_upto_region 2 with (go_at_call 12;refine HN.o.mono ?_;rintro e w1 ⟨Kd,u,rfl,KQ⟩;obtain⟨g2,cap,rfl,ND,KE,hcell⟩:=lf KQ (by rw[KM.o];decide)));have Me:=hcell 0 (by rw[KM.o];decide);rw[KM.o];rw[<- HQ.o]at Me;have KI:=Hd (H.o.below Kd);have Ki:=Hd Kd;have TF:Hy (own g2=0):=Hd (H.o.world.fr g2 ND);have HM:=Hd (jO 2 w1 KI.o.gz.handle);clear KQ hcell Kd HN H;by_cases h1:q<0
  ·have d1:decide (q<0)=true:=decide_eq_true h1;(have KA:x=(.no 2,r):=by rw[HX.o,d1];rfl);subst KA;(go_wp2_with (go_at_call 14;refine HM.o.mono ?_;rintro e w2 ⟨rfl,Ke⟩));exact⟨rfl,rfl,(KI.o.here.below Ke).ahead Ki.o⟩
  have d1:decide (q<0)=false:=decide_eq_false h1;by_cases h2:200<q
  ·have d2:decide (200<q)=true:=decide_eq_true h2;(have KA:x=(.no 2,r):=by rw[HX.o,d1,d2];rfl);subst KA;(go_wp2_with (go_at_call 14;refine HM.o.mono ?_;rintro e w2 ⟨rfl,Ke⟩));exact⟨rfl,rfl,(KI.o.here.below Ke).ahead Ki.o⟩
  have d2:decide (200<q)=false:=decide_eq_false h2;obtain⟨m,rfl⟩:∃m:Nat,q=m:=⟨q.toNat,by omega⟩;(have KA:x=(.yes lR,dB.iw m r):=by rw[HX.o,d1,d2];rfl);subst KA;(go_upto_region 4 with fail);have HS:Hy ((fun W=>W.cell? ⟨k,0,none⟩=some (.pointer (some ⟨ob,0,none⟩))/\W.cell? ⟨g2,0,none⟩=some (.int .i64 m)) w1.drew):=Hd ⟨KI.o.im,Me⟩;have Lk:=Hd (KI.o.below (Below.refl _ _).drew);have HC:=Hd (by obtain⟨G,f1⟩:=HF.o.fits;exact Hc w1.drew m (by omega) (b:=b) (G:=G) ⟨f1.inv,f1.idx,f1.iH,f1.iU⟩ (by omega) Lk.o.world);have Mu:Hy (g2<w1.drew.heap.size):=Hd KE;clear Me KI KE ND HM;refine last.head (fun W=>W.cell? ⟨k,0,none⟩=some (.pointer (some ⟨ob,0,none⟩))/\W.cell? ⟨g2,0,none⟩=some (.int .i64 m)) 1000 8 ?_;refine last.many [(0,20,_),(1,21,_),(2,22,_),(3,23,_),(4,24,_),(5,25,_),(6,26,_)] HS.o ?_ (hy:=fun W' Kc=>by have e0:=Kc.1;have e1:=Kc.2;repeat (first|exact .z|refine .s ?_|refine .k ?_));refine last.one 7 fun K hK=>?_;go_simp;refine HC.o.mono ?_;rintro e w2 ⟨rfl,KU⟩;have LF:Hy (Dk P own w0 k w (dB.iw m r) w2):=Hd (((Lk.o.step KU).ahead (Below.refl _ _).drew).ahead Ki.o);have Kq:Hy ((fun W=>W.cell? ⟨k,0,none⟩=some (.pointer (some ⟨ob,0,none⟩))/\W.cell? ⟨g2,0,none⟩=some (.int .i64 m)) w2):=Hd ⟨(KU.mw Lk.o).trans HS.o.1,(KU.free Mu.o TF.o).trans HS.o.2⟩;clear KU HC;refine hK.out _ _ (fun _=>Kq.o) ?_;clear hK K HS;dsimp only[List.set];refine last.done ?_;(go_wp2_with fail);go_ret;exact⟨rfl,LF.o⟩
theorem Io (h:DkW P own w0 w k ob db v r) {b:Int} {n:Nat} (hf:DF b n r) (g o c:Nat) (ws:List Bytes) (hw:gF w g o ws) (hg:g<w.heap.size) (hc:ws.length<=c) (hl:ws.length<=100000) (hs:∀x∈ws,x.length<=100000) :
 Calls Tryz.prog 39 #[.pointer (some ⟨k,0,none⟩),.slice (some ⟨g,o,none⟩) ws.length c] w fun e w'=>Ends (oI r ws).1 e/\Dk P own w0 k w (oI r ws).2 w':=by
 have c0:=h.im;have HN:=Hd (ja P w.drew g o c ws (-1) (hw.below (Below.refl _ _).drew hg) hg hc hl hs (h.below (Below.refl _ _).drew).gz);have H:=Hd h;have HF:=Hd hf;obtain⟨x,hx⟩:∃x,x=oI r ws:=⟨_,rfl⟩;rw[<- hx];have HS:Hy ((fun W=>W.cell? ⟨k,0,none⟩=some (.pointer (some ⟨ob,0,none⟩))) w.drew):=Hd c0
 cases hn:ff.numbers ws (-1)with
 |none =>
  (have Kf:x=(.no 3,r):=by rw[hx];unfold oI;rw[hn];rfl);rw[hn]at HN;subst Kf;clear hx hn hw h hf;(go_enter Tryz.func39,Tryz.ntmps39);(go_upto_region 1 with fail);refine last.head (fun W=>W.cell? ⟨k,0,none⟩=some (.pointer (some ⟨ob,0,none⟩))) 1000 8 ?_;refine last.many [(0,5,_),(1,6,_),(2,7,_),(3,8,_),(4,9,_)] HS.o ?_;refine last.one 5 fun K hK=>?_;go_simp;refine HN.o.mono ?_;rintro e w1 ⟨Kd,rfl⟩;exact⟨rfl,rfl,H.o.here.below ((Below.refl _ _).drew.trans Kd)⟩
 |some l =>
  (have Kf:x=told lO (r.fA l):=by rw[hx];unfold oI;rw[hn];rfl);rw[hn]at HN;have HX:=Hd Kf;clear hx Kf hn hw h hf;(go_enter Tryz.func39,Tryz.ntmps39);(go_upto_region 1 with fail);refine last.head (fun W=>W.cell? ⟨k,0,none⟩=some (.pointer (some ⟨ob,0,none⟩))) 1000 8 ?_;refine last.many [(0,5,_),(1,6,_),(2,7,_),(3,8,_),(4,9,_)] HS.o ?_;refine last.one 5 fun K hK=>?_;go_simp;refine HN.o.mono ?_;rintro e w1 ⟨Kd,u,rfl,KQ⟩;have L9:Below w.heap.size w w1:=(Below.refl _ _).drew.trans Kd;have KI:=Hd (H.o.below L9);have Ki:=Hd L9;have Lj:Hy ((fun W=>W.cell? ⟨k,0,none⟩=some (.pointer (some ⟨ob,0,none⟩))) w1):=Hd KI.o.im;have HC:=Hd (by obtain⟨G,f1⟩:=HF.o.fits;exact zF w1 u l KQ (fun j hj=>H.o.world.fr j (jF KQ j hj)) f1.inv f1.iU KI.o.world);clear KQ Kd L9 HN;refine hK.out _ _ (fun _=>Lj.o) ?_;clear hK K HS;dsimp only[List.set];refine last.one 6 fun K hK=>?_;go_simp;refine HC.o.mono ?_;rintro e w2 ⟨rfl,KU⟩;have Kq:Hy ((fun W=>W.cell? ⟨k,0,none⟩=some (.pointer (some ⟨ob,0,none⟩))) w2):=Hd ((KU.mw KI.o).trans Lj.o);have LF:Hy (Dk P own w0 k w (r.fA l).2 w2):=Hd ((KI.o.step KU).ahead Ki.o);have QB:Hy (Handle w2):=Hd LF.o.base.handle;clear KU HC;refine hK.out _ _ (fun _=>Kq.o) ?_;clear hK K Lj;dsimp only[List.set];refine last.one 7 fun K hK=>?_;go_simp;obtain⟨z,hz⟩:∃z,z=(r.fA l).1:=⟨_,rfl⟩;rw[<- hz];by_cases h0:z=0
  ·(have KA:x=(.yes lO,(r.fA l).2):=by rw[HX.o];unfold told;rw[if_pos (by rw[<- hz];exact h0)]);subst h0;subst KA;rw[kx];refine (jV w2).mono ?_;rintro e w3 ⟨rfl,rfl⟩;refine hK.out _ _ (fun _=>Kq.o) ?_;clear hK K;dsimp only[List.set];refine last.done ?_;(go_wp2_with fail);go_ret;exact⟨rfl,LF.o⟩
  (have KA:x=(.no z,(r.fA l).2):=by rw[HX.o];unfold told;rw[if_neg (by rw[<- hz];exact h0),hz]);subst KA;rw[iE h0];refine (jO z w2 QB.o).mono ?_;rintro e w3 ⟨rfl,Kk⟩;exact⟨rfl,rfl,LF.o.below Kk⟩
end
section
variable {P:Lib.PrintTabs} {own:Nat->Nat} {w00 w0 w w':World} {k ob db:Nat} {v:WV} {r r':dB}
theorem As (h:dP P own w0 w ob db v r) (hk:jr P w00) (hh:Handle w00) (hb:Below w00.heap.size w00 w0):dP P own w00 w ob db v r:=by
 have hz:=hb.size;refine⟨h.fr,fun g hg=>az hz (h.low g hg),h.o_,h.fh,?_,h.cl,h.pl,h.cls,h.ft,h.li,h.ck,h.ev,h.op,h.dM,h.right,h.nl,h.nc,h.no⟩;have h1:=h.dR;unfold gY at h1⊢;split at h1
 ·obtain⟨sb,wb,dm,tb,tm,v,ps,qs,e,h2⟩:=h1;exact⟨sb,wb,dm,tb,tm,v,ps,qs,e,hk,hh,hb.trans (h2.fF.mono hz),fun g hg=>az hz (h2.low g hg),h2.fr,⟨h2.dZ.w_,h2.dZ.row,h2.dZ.ow,fun g hg=>az hz (h2.dZ.low g hg),az hz h2.dZ.lw⟩,h2.hZ,h2.jf,h2.gq,h2.s_,h2.fJ,h2.ok,h2.lq,h2.dX,h2.done,h2.ix,h2.eo,h2.iQ,h2.iR⟩
 obtain⟨e,ps,h2⟩:=h1;exact⟨e,ps,hk,hh,hb.trans (h2.fF.mono hz),fun g hg=>az hz (h2.low g hg),h2.fr,h2.hZ,h2.jf,h2.gq,h2.rc⟩
theorem gC {P:Lib.PrintTabs} {own:Nat->Nat} {w0 w:World} {ob db:Nat} {v:WV} {r:dB} (h:dP P own w0 w ob db v r) {g:Nat} (hg:g<w0.heap.size):own g=0:=by
 rcases bx (own g)with e|e
 ·exact e
 have:=h.low g (by omega);omega
theorem ID {t:eA} {d d':dI.dW} {n c:Int} (h:dI.dC.new t d n=(c,d',none)):c≠0:=by
 unfold dI.dC.new at h;split at h
 ·cases h;decide
 dsimp only at h
 repeat' split at h
 all_goals first|(have e:=(Prod.mk.inj h).1;rw[<- e];assumption)|(cases (congrArg (fun x=>x.2.2) h))
theorem uo {t:eA} {n c:Int} (h:dB.new t n=(c,none)):c≠0:=by
 unfold dB.new at h;split at h
 ·cases h;decide
 split at h
 ·split at h
  ·cases h
  cases h;decide
 next e _ hs=>cases h;exact ID hs
theorem IE (h:DkW P own w0 w k ob db v r) (g o c:Nat) (ws:List Bytes) (hw:gF w g o ws) (hg:g<w.heap.size) (hc:ws.length<=c) (hl:ws.length<=100000) (hs:∀x∈ws,x.length<=100000) :
 Calls Tryz.prog 6 #[.pointer (some ⟨k,0,none⟩),.slice (some ⟨g,o,none⟩) ws.length c] w fun e w'=>Ends (oC r ws).1 e/\Dk P own w0 k w (oC r ws).2 w':=by
 have HN:=Hd (ja P w g o c ws 4 hw hg hc hl hs h.gz);have H:=Hd h;obtain⟨x,hx⟩:∃x,x=oC r ws:=⟨_,rfl⟩;rw[<- hx]
 cases hn:ff.numbers ws 4 with
 |none =>
  (have Kf:x=(.no 3,r):=by rw[hx];unfold oC;rw[hn];rfl);rw[hn]at HN;subst Kf;clear hx hn hw h;(go_enter Tryz.func6,Tryz.ntmps6);(go_wp2_with (go_at_call 12;refine HN.o.mono ?_;rintro e w1 ⟨Kd,rfl⟩));exact⟨rfl,rfl,H.o.here.below Kd⟩
 |some l =>
  have Lm:=lA (n:=4) hn;obtain⟨y,hy⟩:∃y,y=dB.new ⟨at_ l 0,at_ l 1,at_ l 2⟩ (at_ l 3):=⟨_,rfl⟩
  have Kf:x=match (generalizing:=false) y with
   |(_,some x)=>(.yes mj,x)
   |(e,none)=>(.no e,r):=by subst hy;rw[hx];unfold oC;rw[hn];rfl
  rw[hn]at HN;have HX:=Hd Kf;have KM:=Hd Lm;clear hx Kf hn hw h Lm;(go_enter Tryz.func6,Tryz.ntmps6);(go_upto_region 2 with (go_at_call 12;refine HN.o.mono ?_;rintro e w1 ⟨Kd,u,rfl,KQ⟩;obtain⟨g2,cap,rfl,ND,KE,hcell⟩:=lf KQ (by rw[KM.o];decide)));have Me:=hcell 0 (by rw[KM.o];decide);have Ln:=hcell 1 (by rw[KM.o];decide);have KL:=hcell 2 (by rw[KM.o];decide);have Mh:=hcell 3 (by rw[KM.o];decide);rw[KM.o];obtain⟨q0,NP⟩:∃q,q=at_ l 0:=⟨_,rfl⟩;obtain⟨q1,M8⟩:∃q,q=at_ l 1:=⟨_,rfl⟩;obtain⟨q2,NF⟩:∃q,q=at_ l 2:=⟨_,rfl⟩;obtain⟨q3,Rh⟩:∃q,q=at_ l 3:=⟨_,rfl⟩;rw[<- NP]at Me;rw[<- M8]at Ln;rw[<- NF]at KL;rw[<- Rh]at Mh;rw[<- NP,<- M8,<- NF,<- Rh]at hy;have HS:Hy ((fun W=>W.cell? ⟨g2,0,none⟩=some (.int .i64 q0)/\W.cell? ⟨g2,1,none⟩=some (.int .i64 q1)/\W.cell? ⟨g2,2,none⟩=some (.int .i64 q2)/\W.cell? ⟨g2,3,none⟩=some (.int .i64 q3)) w1.drew):=Hd ⟨Me,Ln,KL,Mh⟩;have Ke:Below w.heap.size w w1.drew:=Kd.drew;have Kn:=Hd Ke;have Lk:=Hd (H.o.below Ke);have HC:=Hd (Ar w1.drew ⟨q0,q1,q2⟩ q3 Lk.o.gz.hO Lk.o.gz.handle);rw[<- hy]at HC;unfold dR.l6 at HC;have HY:=Hd hy;have Mu:Hy (g2<w1.drew.heap.size):=Hd KE;clear KQ hcell NP M8 NF Rh Kd HN Me Ln KL Mh KE ND hy Ke;refine last.head (fun W=>W.cell? ⟨g2,0,none⟩=some (.int .i64 q0)/\W.cell? ⟨g2,1,none⟩=some (.int .i64 q1)/\W.cell? ⟨g2,2,none⟩=some (.int .i64 q2)/\W.cell? ⟨g2,3,none⟩=some (.int .i64 q3)) 1000 19 ?_;refine last.many [(0,11,_),(1,12,_),(2,13,_),(3,14,_),(4,15,_),(5,16,_),(6,17,_),(7,18,_),(8,19,_),(9,20,.agg #[.int .i64 q0,.int .i64 q1,.int .i64 q2]),(10,21,_),(11,22,_),(12,23,_)] HS.o ?_ (hy:=fun W' Kc=>by have e0:=Kc.1;have e1:=Kc.2.1;have e2:=Kc.2.2.1;have e3:=Kc.2.2.2;repeat (first|exact .z|refine .s ?_|refine .k ?_));refine last.one 13 fun K hK=>?_;go_simp;refine HC.o.mono ?_;intro e w3 OV;obtain⟨yc,yo⟩:=y
  cases yo with
  |none =>
   obtain⟨rfl,Kk⟩:=OV;have hyc:=uo HY.o.symm;have HYC:=Hd hyc;clear hyc;have Kq:Hy ((fun W=>W.cell? ⟨g2,0,none⟩=some (.int .i64 q0)/\W.cell? ⟨g2,1,none⟩=some (.int .i64 q1)/\W.cell? ⟨g2,2,none⟩=some (.int .i64 q2)/\W.cell? ⟨g2,3,none⟩=some (.int .i64 q3)) w3):=Hd ⟨(Kk.cell (p:=⟨g2,0,none⟩) Mu.o).trans HS.o.1,(Kk.cell (p:=⟨g2,1,none⟩) Mu.o).trans HS.o.2.1,(Kk.cell (p:=⟨g2,2,none⟩) Mu.o).trans HS.o.2.2.1,(Kk.cell (p:=⟨g2,3,none⟩) Mu.o).trans HS.o.2.2.2⟩;have KA:=HX.o;subst KA;have HD:=Hd ((Lk.o.here.below Kk).ahead Kn.o);clear HC Kk;refine hK.out _ _ (fun _=>Kq.o) ?_;clear hK K HS;dsimp only[List.set];refine last.many [(14,10,_),(15,25,_),(16,26,_),(17,6,_),(18,7,_)] Kq.o ?_;refine last.done ?_;rw[show fx yc=.iface 52 (.int .i64 yc) from iE HYC.o];(go_wp2_with (go_at_call 14;refine (jO yc w3 HD.o.base.handle).mono ?_;rintro e w4 ⟨rfl,KB⟩));exact⟨rfl,rfl,HD.o.below KB⟩
  |some y =>
   obtain⟨own1,MU,Nd,v1,rfl,h3⟩:=OV;have Kk:=h3.fF;have Kq:Hy ((fun W=>W.cell? ⟨g2,0,none⟩=some (.int .i64 q0)/\W.cell? ⟨g2,1,none⟩=some (.int .i64 q1)/\W.cell? ⟨g2,2,none⟩=some (.int .i64 q2)/\W.cell? ⟨g2,3,none⟩=some (.int .i64 q3)) w3):=Hd ⟨(Kk.cell (p:=⟨g2,0,none⟩) Mu.o).trans HS.o.1,(Kk.cell (p:=⟨g2,1,none⟩) Mu.o).trans HS.o.2.1,(Kk.cell (p:=⟨g2,2,none⟩) Mu.o).trans HS.o.2.2.1,(Kk.cell (p:=⟨g2,3,none⟩) Mu.o).trans HS.o.2.2.2⟩;have KA:=HX.o;subst KA;have R4:=Hd h3;have hk3:Has w3 k (.cells #[.pointer (some ⟨ob,0,none⟩)] 28):=Lk.o.t_.below Kk Lk.o.t_.lt;have WU:=Hd hk3;have k0:w3.cell? ⟨k,0,none⟩=some (.pointer (some ⟨ob,0,none⟩)):=hk3.cell 0;have k1:w3.frozen? ⟨k,0,none⟩=false:=hk3.frozen 0;clear HC Kk h3 hk3;refine hK.out _ _ (fun _=>Kq.o) ?_;clear hK K HS;dsimp only[List.set];refine last.many [(14,10,_),(15,25,_),(16,26,_),(17,6,_),(18,7,_)] Kq.o ?_;refine last.done ?_;(go_wp2_with (go_at_call 14;refine (jV w3).mono ?_;rintro e w4 ⟨rfl,rfl⟩));go_ret;refine⟨rfl,own1,MU,Nd,v1,⟨?_,?_,H.o.low,?_,H.o.base⟩,?_,?_⟩
   ·exact WU.o.eu 0 _
   ·exact gC R4.o Lk.o.t_.lt
   ·(have Mm:∀g,g<w3.heap.size->g=k->own1 g=0/\w0.heap.size<=g:=fun g _ e=>by subst e;exact⟨gC R4.o Lk.o.t_.lt,H.o.low⟩);have hr:=As R4.o H.o.base.hO H.o.base.handle (H.o.world.fF.trans (Kn.o.mono H.o.world.fF.size));exact hr.ej (S:=fun g=>g=k) ((dD.refl (fun g=>g=k) w3).setCell (p:=⟨k,0,none⟩) (.inr rfl) _) (Ext.refl _ _) (fun g hg=>hr.fr g (by simpa using hg)) hr.low Mm
   ·exact fun g hg _=>gC R4.o (ay hg Kn.o.size)
   exact (dD.fw (Kn.o.trans (R4.o.fF.mono Kn.o.size)) (aq _)).setCell (p:=⟨k,0,none⟩) (.inr (.inr rfl)) _
end
section
variable {P:Lib.PrintTabs} {own:Nat->Nat} {w0 w w':World} {k ob db:Nat} {v:WV} {r r':dB}
theorem IF {ws:List Bytes} (h:ws.length≠3):jX r ws=(.no 3,r):=by
 unfold jX;split
 ·simp at h
 rfl
theorem IG {ws:List Bytes} (h:ws.length=3):∃a b d,ws=[a,b,d]:=by
 match ws,h with
 | [a,b,d],_=>exact⟨a,b,d,rfl⟩
theorem IH {w:World} {g o:Nat} {a b d:Bytes} (h:gF w g o [a,b,d]):gF w g o [a,b]:=by
 intro j x hx
 match j,hx with
 |0,hx=>exact h 0 x hx
 |1,hx=>exact h 1 x hx
 |j+2,hx=>simp at hx
theorem II (h:DkW P own w0 w k ob db v r) (g o c:Nat) (ws:List Bytes) (h3:ws.length≠3) :
 Calls Tryz.prog 50 #[.pointer (some ⟨k,0,none⟩),.slice (some ⟨g,o,none⟩) ws.length c] w fun e w'=>Ends (jX r ws).1 e/\Dk P own w0 k w (jX r ws).2 w':=by
 have H:=Hd h;rw[IF h3];obtain⟨m,hm⟩:∃m,m=ws.length:=⟨_,rfl⟩;rw[<- hm]at h3⊢;(have d0:((m:Int) !=3)=true:=by simp only[bne_iff_ne];omega);clear hm h3 h;(go_enter Tryz.func50,Tryz.ntmps50);(go_wp2_with (go_at_call 14;refine (jO 3 w H.o.gz.handle).mono ?_;rintro e w4 ⟨rfl,KB⟩));exact⟨rfl,rfl,H.o.here.below KB⟩
theorem IJ (h:DkW P own w0 w k ob db v r) {b:Int} {n:Nat} (hf:DF b n r) (hb:b<=900000) (L2:n<=100000) (g o c:Nat) (s t u:Bytes) (hw:gF w g o [s,t,u]) (hg:g<w.heap.size) (Lo:own g=0) (hc:3<=c) (hs:∀x∈[s,t,u],x.length<=100000) :
 Calls Tryz.prog 50 #[.pointer (some ⟨k,0,none⟩),.slice (some ⟨g,o,none⟩) 3 c] w fun e w'=>Ends (jX r [s,t,u]).1 e/\Dk P own w0 k w (jX r [s,t,u]).2 w':=by
 have HN:=Hd (ja P w g o c [s,t] 2 (IH hw) hg (by simp;omega) (by simp) (fun x hx=>hs x (by simp at hx⊢;rcases hx with e|e<;>simp[e])) h.gz);have H:=Hd h;have HF:=Hd hf;have hu:=hw 2 u rfl;obtain⟨x,hx⟩:∃x,x=jX r [s,t,u]:=⟨_,rfl⟩;rw[<- hx];have d2:decide (2<=c)=true:=decide_eq_true (by omega)
 cases hn:ff.numbers [s,t] 2 with
 |none =>
  (have Kf:x=(.no 3,r):=by rw[hx];unfold jX;dsimp only;rw[hn];rfl);rw[hn]at HN;subst Kf;clear hx hn hw h hf hu hs;(go_enter Tryz.func50,Tryz.ntmps50);(go_wp2_with (go_at_call 12;refine HN.o.mono ?_;rintro e w1 ⟨Kd,rfl⟩));exact⟨rfl,rfl,H.o.here.below Kd⟩
 |some l =>
  have Lm:=lA (n:=2) hn;(have Kf:x=told fQ (r.write (at_ l 0) (at_ l 1) u):=by rw[hx];unfold jX;dsimp only;rw[hn];rfl);rw[hn]at HN;have HX:=Hd Kf;have KM:=Hd Lm;have HGG:=Hd hg;have Xt:=Hd Lo;have HU:=Hd hu;clear hx Kf hn hw h hf Lm hs hg Lo hu;(go_enter Tryz.func50,Tryz.ntmps50);(go_upto_region 4 with (go_at_call 12;refine HN.o.mono ?_;rintro e w1 ⟨Kd,u,rfl,KQ⟩;obtain⟨g2,cap,rfl,ND,KE,hcell⟩:=lf KQ (by rw[KM.o];decide)));have Me:=hcell 0 (by rw[KM.o];decide);have Ln:=hcell 1 (by rw[KM.o];decide);rw[KM.o];have KI:=Hd (H.o.below Kd);have Ki:=Hd Kd;have TF:Hy (own g2=0):=Hd (H.o.world.fr g2 ND);have hu1:=(Kd.cell (p:=⟨g,o+2,none⟩) HGG.o).trans HU.o;obtain⟨q0,NP⟩:∃q,q=at_ l 0:=⟨_,rfl⟩;obtain⟨q1,M8⟩:∃q,q=at_ l 1:=⟨_,rfl⟩;rw[<- NP]at Me HX;rw[<- M8]at Ln HX;have HS:Hy ((fun W=>W.cell? ⟨k,0,none⟩=some (.pointer (some ⟨ob,0,none⟩))/\W.cell? ⟨g2,0,none⟩=some (.int .i64 q0)/\W.cell? ⟨g2,1,none⟩=some (.int .i64 q1)/\W.cell? ⟨g,o+2,none⟩=some (.string ⟨u.toArray⟩)) w1.drew):=Hd ⟨KI.o.im,Me,Ln,hu1⟩;have Lk:=Hd (KI.o.below (Below.refl _ _).drew);have HC:=Hd (by obtain⟨G,f1⟩:=HF.o.fits;exact G0 w1.drew q0 q1 u f1.inv (by omega) f1.idx (by have:=HF.o.mu;omega) Lk.o.world);have Mu:Hy (g2<w1.drew.heap.size):=Hd KE;have HGM:Hy (g<w1.drew.heap.size):=Hd (ay HGG.o Kd.size);clear KQ hcell NP M8 Kd HN H Me Ln KI KE ND hu1;refine last.head (fun W=>W.cell? ⟨k,0,none⟩=some (.pointer (some ⟨ob,0,none⟩))/\W.cell? ⟨g2,0,none⟩=some (.int .i64 q0)/\W.cell? ⟨g2,1,none⟩=some (.int .i64 q1)/\W.cell? ⟨g,o+2,none⟩=some (.string ⟨u.toArray⟩)) 1000 15 ?_;refine last.many [(0,14,_),(1,15,_),(2,16,_),(3,17,_),(4,18,_),(5,19,_),(6,20,_),(7,21,_),(8,22,_),(9,23,_),(10,24,_),(11,25,_),(12,26,_)] HS.o ?_ (hy:=fun W' Kc=>by have e0:=Kc.1;have e1:=Kc.2.1;have e2:=Kc.2.2.1;have e3:=Kc.2.2.2;repeat (first|exact .z|refine .s ?_|refine .k ?_));refine last.one 13 fun K hK=>?_;go_simp;refine HC.o.mono ?_;rintro e w2 ⟨rfl,KU⟩;have LF:Hy (Dk P own w0 k w (r.write q0 q1 u).2 w2):=Hd (((Lk.o.step KU).ahead (Below.refl _ _).drew).ahead Ki.o);have Kq:Hy ((fun W=>W.cell? ⟨k,0,none⟩=some (.pointer (some ⟨ob,0,none⟩))/\W.cell? ⟨g2,0,none⟩=some (.int .i64 q0)/\W.cell? ⟨g2,1,none⟩=some (.int .i64 q1)/\W.cell? ⟨g,o+2,none⟩=some (.string ⟨u.toArray⟩)) w2):=Hd ⟨(KU.mw Lk.o).trans HS.o.1,(KU.free Mu.o TF.o).trans HS.o.2.1,(KU.free Mu.o TF.o).trans HS.o.2.2.1,(KU.free HGM.o Xt.o).trans HS.o.2.2.2⟩;have QB:Hy (Handle w2):=Hd LF.o.base.handle;clear KU HC;refine hK.out _ _ (fun _=>Kq.o) ?_;clear hK K HS;dsimp only[List.set];refine last.one 14 fun K hK=>?_;go_simp;obtain⟨z,hz⟩:∃z,z=(r.write q0 q1 u).1:=⟨_,rfl⟩;rw[<- hz];by_cases h0:z=0
  ·(have KA:x=(.yes fQ,(r.write q0 q1 u).2):=by rw[HX.o];unfold told;rw[if_pos (by rw[<- hz];exact h0)]);subst h0;subst KA;rw[kx];refine (jV w2).mono ?_;rintro e w3 ⟨rfl,rfl⟩;refine hK.out _ _ (fun _=>Kq.o) ?_;clear hK K;dsimp only[List.set];refine last.done ?_;(go_wp2_with fail);go_ret;exact⟨rfl,LF.o⟩
  (have KA:x=(.no z,(r.write q0 q1 u).2):=by rw[HX.o];unfold told;rw[if_neg (by rw[<- hz];exact h0),hz]);subst KA;rw[iE h0];refine (jO z w2 QB.o).mono ?_;rintro e w3 ⟨rfl,Kk⟩;exact⟨rfl,rfl,LF.o.below Kk⟩
theorem IK (h:DkW P own w0 w k ob db v r) {b:Int} {n:Nat} (hf:DF b n r) (hb:b<=900000) (L2:n<=100000) (g o c:Nat) (ws:List Bytes) (hw:gF w g o ws) (hg:g<w.heap.size) (Lo:own g=0) (hc:ws.length<=c) (hs:∀x∈ws,x.length<=100000) :
 Calls Tryz.prog 50 #[.pointer (some ⟨k,0,none⟩),.slice (some ⟨g,o,none⟩) ws.length c] w fun e w'=>Ends (jX r ws).1 e/\Dk P own w0 k w (jX r ws).2 w':=by
 by_cases h3:ws.length=3
 ·obtain⟨s,t,u,rfl⟩:=IG h3;exact IJ h hf hb L2 g o c s t u hw hg Lo hc hs
 exact II h g o c ws h3
end
end dk
end Go.Proofs.YtlhodcmdpchllaaGreatDoor
