/-
  A part of the proof of the law DeskPieces: WoM, WoN, WoO, WoP, WoQ, WoR, WoV, WoS.
-/
import Derived.OwnWalk
import Derived.Deep.DeepCutAuto
import Derived.Deep.CutBlock
import Derived.Test.YtlhodcmdpchllaaGreatDoorHd
import Derived.Test.YtlhodcmdpchllaaGreatDoorP33
set_option maxHeartbeats 16000000
set_option maxRecDepth 1000000
namespace Go.Proofs.YtlhodcmdpchllaaGreatDoor
namespace fe
open Go.RowKit heap own eO fq eK dR eZ
open dI (dW dC dJ ga fB eA gL Net dB iv gG eG)
open eU (Idx Inv Tos Clk mv av)
section
variable {P:Lib.PrintTabs} {own own1:Nat->Nat} {w0 w w':World} {ob db:Nat} {v v':WV} {r r':dB}
theorem ints_at {B:Nat} {u:Value} {l:List Int} (h:w.ownsRow B 3 1 u l.length (ints l)) {k:Nat} {x:Int} (hk:l[k]?=some x) :
 ∃g cap,u=.slice (some ⟨g,0,none⟩) l.length cap/\g<w.heap.size/\w.cell? ⟨g,k,none⟩=some (.int .i64 x):=by
 have Ks:k<l.length:=(ar.1 hk).1;rcases h.2 with⟨-,h0⟩|⟨g,cap,cur,rfl,-,h2,-,-,-,h4⟩
 ·omega
 have h3:Has w g (.cells cur 3):=h2;refine⟨g,cap,rfl,h3.lt,?_⟩;rw[(ij h3 h4 k (by omega)).1];simp[ints,hk]
theorem GY (w:World) (n:Int) (h:dP P own w0 w ob db v r) {k cb:Nat} {c:dJ} (hk:r.dG[k]?=some c) (hp:v.fW[k]?=some cb) :
 Calls Tryz.prog 118 #[.pointer (some ⟨cb,0,none⟩),.int .i64 n] w fun e w'=>e=.returned (.tuple #[])/\dP P own w0 w' ob db v {r with dG:=r.dG.set k (c.at_ n)}/\dD (fun g=>own g≠0) w w':=by
 obtain⟨TE,fm,sm,cv,h1,h2⟩:=h.cls k c hk;obtain rfl:cb=TE:=aw (hp.symm.trans h1);refine (EI w n h2).mono ?_;rintro e w' ⟨rfl,h3,ht⟩
 have Kr:dD (fC own (20+4*k)) w w':=ht.mono fun g _ e=>by
  have e:g=cb:=e;unfold fC;rw[e,h2.gI];omega
 refine⟨rfl,h.dL k (ar.mp hk).1 Kr (Ext.refl _ _) (fun g hg=>h.fr g (az ht.size hg)) h.low _ ⟨cb,fm,sm,cv,h1,h3⟩,Kr.mono fun g _ e=>?_⟩;unfold fC at e;omega
theorem zF (w:World) (u:Value) (l:List Int) {B:Nat} (NI:w.ownsRow B 3 1 u l.length (ints l)) (hB:∀g,u.ownBlock=some g->own g=0) {b:Int} {G:eU.eF} (hi:Inv b G r) (hc:Clk r) (h:dP P own w0 w ob db v r) :
 Calls Tryz.prog 71 #[.pointer (some ⟨ob,0,none⟩),u] w fun e w'=>e=.returned (fx (r.fA l).1)/\eP P own w0 ob db w (r.fA l).2 w':=by
 obtain⟨ua,uc,hu⟩:=pk NI;subst hu;obtain⟨ka,kc,Xl⟩:=mb h.ck (by decide);obtain⟨n7,N0⟩:∃n7,n7=r.ee.length:=⟨_,rfl⟩;(have c7:w.cell? ⟨ob,7,none⟩=some (.slice ka n7 kc):=by rw[N0,<- Xl];exact h.o_.cell 7);have H:=Hd h;have NK:=Hd N0;by_cases hl:l.length=n7
 ·have Z0:=Hd NI;have PK:=Hd hB;have PW:Hy (Row own 0 w 3 1 (.slice ua l.length uc) l.length (ints l)):=Hd ⟨kO NI (bP _),hB⟩;have HI:=Hd hi;have HC:=Hd hc;have HVK:=Hd Xl;have HL:=Hd hl;(have h5:n7<=5:=by have:=h.nc.2;omega);clear h NI hB hi hc Xl N0;(go_enter Tryz.func71,Tryz.ntmps71);(go_wp2_with fail);(go_loopw [22] (fun Sd wx=>∃k:Nat,k<=l.length/\Sd=.int .i64 k/\((l.take k).any fun n=>!eG n 0 137438953472)=false/\wx=w) (fun Sd _=>l.length-(intOf Sd).toNat));case atStart=>exact⟨0,by omega,rfl,rfl,rfl⟩
  case round =>
   obtain⟨k,hk,rfl,L3,hwr⟩:=hrel;have aeR:=hwr.symm;subst aeR;clear hwr;have Lz:=Hd L3;clear L3;by_cases Ks:k<l.length
   ·have MD:l[k]?=some l[k]:=ax Ks;have K9:l[k]∈l:=cA Ks;(have UB:l.take (k+1)=l.take k++[l[k]]:=by rw[bo,MD];rfl);generalize l[k]=x at MD K9 UB;obtain⟨g,cap,e1,hg,z0⟩:=ints_at Z0.o MD;simp only[Value.slice.injEq]at e1;obtain⟨rfl,-,rfl⟩:=e1;have Q9:=Hd UB;have aaA:=Hd K9;clear MD K9 UB;by_cases K5:x<0
    ·have d0:decide (x<0)=true:=decide_eq_true K5
     have HR:Hy (r.fA l=(2,r)):=Hd (by
      unfold dB.fA;rw[if_neg (by rw[HL.o,NK.o];simp),if_pos];rw[cB]
      exact⟨x,aaA.o,by simp[eG];omega⟩)
     clear K5;(go_wp2_with fail);go_ret;rw[HR.o];exact⟨rfl,eP.here H.o⟩
    have d0:decide (x<0)=false:=decide_eq_false K5;by_cases Kf:137438953472<x
    ·have d1:decide (137438953472<x)=true:=decide_eq_true Kf
     have HR:Hy (r.fA l=(2,r)):=Hd (by
      unfold dB.fA;rw[if_neg (by rw[HL.o,NK.o];simp),if_pos];rw[cB]
      exact⟨x,aaA.o,by simp[eG];omega⟩)
     clear K5 Kf;(go_wp2_with fail);go_ret;rw[HR.o];exact⟨rfl,eP.here H.o⟩
    have d1:decide (137438953472<x)=false:=decide_eq_false Kf
    have X3:Hy (((l.take (k+1)).any fun n=>!eG n 0 137438953472)=false):=Hd (by
     rw[Q9.o,dw,Lz.o]
     simp[eG];omega)
    clear K5 Kf;(go_wp2_with fail);go_roundw;(case rel=>exact⟨k+1,by omega,by go_num,X3.o,by first|rfl|trivial⟩);case measure=>simp[intOf];omega
   obtain rfl:k=l.length:=by omega
   have Tw:Hy (∀x∈l,0<=x/\x<=137438953472):=Hd fun x hx=>by
    have h1:=Lz.o;rw[bp,List.any_eq_false]at h1;have h2:=h1 x hx;simp only[a8,bS,eG,aK,decide_eq_true_eq]at h2;exact h2
   obtain⟨r1,LS⟩:∃r1:dB,r1=r.eR:=⟨_,rfl⟩;have Ki:=Hd (ub w H.o);rw[<- LS]at Ki;have K3:=Hd LS;clear LS Ks hk Lz;go_upto_region 10 with (go_at_call 105;refine Ki.o.mono ?_;rintro e w1 ⟨rfl,h1,Le⟩;have H1:=Hd h1;have KP:=Hd Le;clear h1 Le)
   have H20:Hy (dP P own w0 w1 ob db v {r1 with ee:=mv 0 r.ee l}):=Hd (by
    have e:({r1 with ee:=mv 0 r.ee l}:dB)=r1:=by rw[eU.qk,K3.o];rfl
    rw[e];exact H1.o)
   clear c7;(go_wp2_with fail);(go_loopw [38] (fun q38 wx=>∃k:Nat,k<=n7/\q38=.int .i64 k/\dP P own w0 wx ob db v {r1 with ee:=mv k r.ee l}/\dD (fun g=>own g≠0) w wx) (fun q38 _=>n7-(intOf q38).toNat));case atStart=>exact⟨0,by omega,rfl,H20.o,KP.o⟩
   case round =>
    obtain⟨wb,Su⟩:∃x,x=wr:=⟨_,rfl⟩;subst Su;clear H20;obtain⟨k,hk,rfl,h2,Kr⟩:=hrel;have H2:=Hd h2;have K4:=Hd Kr;clear h2 Kr;by_cases Ks:k<n7
    ·(have aaB:k<l.length:=by rw[hl];exact Ks);have MD:l[k]?=some l[k]:=ax aaB;have K9:l[k]∈l:=cA aaB;generalize l[k]=x at MD K9;(have Rk:k<r.ee.length:=by rw[<- NK.o];exact Ks);have KZ:r.ee[k]?=some r.ee[k]:=ax Rk;have RL:=HC.o _ (cA Rk);generalize r.ee[k]=ck at KZ RL;have hmx:=Tw.o x K9;have NI:wb.ownsRow B 3 1 (.slice ua l.length uc) l.length (ints l):=mZ Z0.o fun g hg=>K4.o.block g (PW.o.lt g hg) fun e=>e (PK.o g hg);obtain⟨gb,capb,e1,Mw,z0⟩:=ints_at NI MD;simp only[Value.slice.injEq]at e1;obtain⟨e1,-,e2⟩:=e1;subst e1 e2;obtain⟨g7,KJ,NZ,NB,PD,z7,f7⟩:=jN H2.o.ck (by show (mv k r.ee l)[k]?=some ck;rw[eU.zz];exact KZ);(have Rx:v.ck=.slice (some ⟨g7,0,none⟩) n7 KJ:=by rw[NZ];show Value.slice _ (mv k r.ee l).length _=_;rw[eU.rZ,NK.o]);(have c7:wb.cell? ⟨ob,7,none⟩=some (.slice (some ⟨g7,0,none⟩) n7 KJ):=by rw[<- Rx];exact H2.o.o_.cell 7);have Xm:wrap64 (ck+x)=ck+x:=eU.p6 (by omega) (by unfold dI.half at RL;omega)
     have H3:Hy (dP P own w0 (wb.setCell ⟨g7,k,none⟩ (.int .i64 (min (wrap64 (ck+x)) 549755813888))).drew ob db v {r1 with ee:=mv (k+1) r.ee l}):=Hd (by
      have h3:=H2.o.FK k (min (wrap64 (ck+x)) 549755813888) (by show k<(mv k r.ee l).length;rw[eU.rZ];exact Rk) NZ NB;(have e:(mv k r.ee l).set k (min (wrap64 (ck+x)) 549755813888)=mv (k+1) r.ee l:=by rw[Xm];exact eU.zA k r.ee l ck x KZ MD);dsimp only at h3;rw[e]at h3
      exact h3.below (Below.refl _ _).drew h3.fr)
     have LQ:Hy (dD (fun g=>own g≠0) w (wb.setCell ⟨g7,k,none⟩ (.int .i64 (min (wrap64 (ck+x)) 549755813888))).drew):=Hd (K4.o.setCell (p:=⟨g7,k,none⟩) (.inr (by show own g7≠0;rw[NB];decide)) _).drew;have HW64:=Hd Xm;clear MD K9 KZ RL hmx NI Mw NZ Rx NB PD Rk H2 Xm;(go_upto_region 13 with fail);refine last.fS (fun W=>W.cell? ⟨ob,7,none⟩=some (.slice (some ⟨g7,0,none⟩) n7 KJ)/\W.cell? ⟨g7,k,none⟩=some (.int .i64 ck)) 16 17 ⟨c7,z7⟩ fun HS=>?_;refine last.many [(0,43,_),(1,44,_),(2,45,_),(3,46,_),(4,47,_),(5,48,_),(6,49,_),(7,50,_),(8,51,_),(9,52,_),(10,53,_),(11,54,_),(12,55,_),(13,56,_),(14,57,_),(15,58,_)] HS.o ?_ (hy:=fun W' Kc=>by have e1:=Kc.1;have f0:=Kc.2;repeat (first|exact .z|refine .s ?_|refine .k ?_));refine last.one 16 fun K hK=>?_;go_simp;refine hK.out _ _ (fun h=>absurd rfl h) ?_;clear hK K;refine last.done ?_;(go_wp2_with fail);go_roundw;(case rel=>exact⟨k+1,by omega,by go_num,H3.o,LQ.o⟩);case measure=>simp[intOf];omega
    (obtain rfl:k=n7:=by omega);obtain⟨r2,LO⟩:∃r2:dB,r2={r1 with ee:=iv r.ee l}:=⟨_,rfl⟩;(have SQ:mv k r.ee l=iv r.ee l:=by rw[NK.o];exact eU.zB _ _ (by rw[HL.o,NK.o]));rw[SQ,<- LO]at H2;have Ld:=Hd LO;have QV:Hy (r2.ee.length=k):=Hd (by rw[LO,NK.o];show (iv r.ee l).length=_;rw[<- SQ,eU.rZ]);have NW:Hy (r2.dG=r.dG):=Hd (by rw[LO,K3.o];rfl);clear LO SQ Ks hk;obtain⟨m,hm⟩:∃m,m=r2.dG.length:=⟨_,rfl⟩;obtain⟨pa,pc,Yc⟩:=mb H2.o.cl (by decide);(have c5:wb.cell? ⟨ob,5,none⟩=some (.slice pa m pc):=by rw[hm,<- Yc];exact H2.o.o_.cell 5);(have hm4:m<=4:=by rw[hm];exact H2.o.ft);(have O8:m+1<=k:=by have:=H2.o.nc.1;rw[QV.o]at this;omega);have HKM:=Hd O8;have HM:=Hd hm;have HVP:=Hd Yc;have H30:Hy (dP P own w0 wb ob db v {r2 with dG:=av 0 r2.dG r2.ee.tail}):=Hd (by rw[eU.qm];exact H2.o);clear hm Yc O8;(go_wp2_with fail);(go_loopw [65] (fun q65 wx=>∃j:Nat,j<=m/\q65=.int .i64 j/\dP P own w0 wx ob db v {r2 with dG:=av j r2.dG r2.ee.tail}/\dD (fun g=>own g≠0) w wx) (fun q65 _=>m-(intOf q65).toNat));case atStart=>exact⟨0,by omega,rfl,H30.o,K4.o⟩
    case round =>
     obtain⟨wd,hwd⟩:∃x,x=wr:=⟨_,rfl⟩;subst hwd;clear H30 c5 K4 H2;obtain⟨j,hj,rfl,h4,R0⟩:=hrel;have H4:=Hd h4;have RJ:=Hd R0;clear h4 R0;by_cases Pl:j<m
     ·(have aaC:j<r2.dG.length:=by rw[<- HM.o];exact Pl);have hjc:r2.dG[j]?=some r2.dG[j]:=ax aaC;generalize r2.dG[j]=c at hjc;(have aaD:j+1<r2.ee.length:=by rw[QV.o];have:=HKM.o;omega);(have hjk1:j+1<k:=by have:=HKM.o;omega);have NU:r2.ee[j+1]?=some r2.ee[j+1]:=ax aaD;generalize r2.ee[j+1]=cn at NU;(have Yd:(av j r2.dG r2.ee.tail)[j]?=some c:=by rw[eU.zC];exact hjc);obtain⟨g5,KT,cb,fm,sm,cv,MG,Nq,PC,Mo,z5,f5,Nc⟩:=H4.o.pt (k:=j) Yd;have e5:=HVP.o.symm.trans MG;simp only[Value.slice.injEq]at e5;obtain⟨e51,-,e52⟩:=e5;subst e51 e52;obtain⟨g7,KJ,NZ,NB,PD,z7,f7⟩:=jN H4.o.ck (k:=j+1) NU
      have c7:wd.cell? ⟨ob,7,none⟩=some (.slice (some ⟨g7,0,none⟩) k KJ):=by
       (have e:v.ck=.slice (some ⟨g7,0,none⟩) k KJ:=by rw[NZ];show Value.slice _ r2.ee.length _=_;rw[QV.o]);rw[<- e];exact H4.o.o_.cell 7
      have K6:=Hd (GY wd cn H4.o Yd Mo);have Lb:Hy ((av j r2.dG r2.ee.tail).set j (c.at_ cn)=av (j+1) r2.dG r2.ee.tail):=Hd (eU.zD j _ _ c cn hjc (by rw[List.getElem?_tail];exact NU));clear hjc NU Yd MG Nq Mo Nc NZ NB f5 f7 aaC aaD;(go_wp2_with (go_at_call 118;refine K6.o.mono ?_;rintro e w6 ⟨rfl,h6,MI⟩;dsimp only at h6;rw[Lb.o]at h6;have H6:=Hd h6;have Oy:=Hd (RJ.o.trans MI fun _ _ e=>e);clear h6 MI));go_roundw;(case rel=>exact⟨j+1,by omega,by go_num,H6.o,Oy.o⟩);case measure=>simp[intOf];omega
     (obtain rfl:j=m:=by omega);obtain⟨r4,SO⟩:∃r4:dB,r4={r2 with dG:=gG r2.dG r2.ee.tail}:=⟨_,rfl⟩;(have Yd:av j r2.dG r2.ee.tail=gG r2.dG r2.ee.tail:=by rw[HM.o];exact eU.zE _ _);rw[Yd,<- SO]at H4;have OH:=Hd SO
     have P6:Hy (r.fA l=match r4.eD with
      |none=>(0,r4)
      |some s=>(0,({r4 with eM:=(dC.tick r4.eM s (r4.ee.getD 0 0)).2.1,eD:=some (dC.tick r4.eM s (r4.ee.getD 0 0)).2.2}.fK true (dC.tick r4.eM s (r4.ee.getD 0 0)).1).iu)):=Hd (by
      unfold dB.fA;rw[if_neg (by rw[HL.o,NK.o];simp),if_neg]
      ·rw[SO,Ld.o,K3.o];rfl
      rw[Bool.not_eq_true,List.any_eq_false];intro x hx;have:=Tw.o x hx
      simp[eG];omega)
     have HI4:Hy (Inv b G r4):=Hd (by
      have h1:=(HI.o.rP (iv r.ee l).tail (iv r.ee l)).nk;rw[SO,Ld.o,K3.o]
      exact h1)
     (have UD:r4.ee.length=k:=by rw[SO];exact QV.o);clear SO Yd Pl hj;rcases H4.o.oy with⟨KK,My⟩|⟨s,sb,KK,My⟩
     ·rw[KK]at P6;dsimp only at P6;(have c4:wd.cell? ⟨ob,4,none⟩=some (.pointer none):=by rw[<- My];exact H4.o.o_.cell 4);clear KK My UD;(go_wp2_with fail);go_ret;rw[P6.o];exact⟨rfl,own,v,H4.o,Ext.refl _ _,RJ.o⟩
     rw[KK]at P6;dsimp only at P6;(have c4:wd.cell? ⟨ob,4,none⟩=some (.pointer (some ⟨sb,0,none⟩)):=by rw[<- My];exact H4.o.o_.cell 4);(have KW:0<r4.ee.length:=by rw[UD];have:=HKM.o;omega);have OB:r4.ee[0]?=some (r4.ee[0]'KW):=ax KW;generalize r4.ee[0]'KW=dE at OB;(have Qz:r4.ee.getD 0 0=dE:=by rw[aB,OB];rfl);rw[Qz]at P6;obtain⟨g7,KJ,NZ,NB,PD,z7,f7⟩:=jN H4.o.ck OB;(have c7:wd.cell? ⟨ob,7,none⟩=some (.slice (some ⟨g7,0,none⟩) k KJ):=by rw[<- UD,<- NZ];exact H4.o.o_.cell 7);(have Uq:0<k:=by have:=HKM.o;omega);have S1:=HI4.o.eD s KK;have UB:=eU.yK S1 HI4.o.dK dE;have OR:Hy (∀m'∈(dC.tick r4.eM s dE).1,m'.data.length<=20):=Hd fun m' hm'=>(UB.2.2.2 m' hm').short;have NL:=Hd (GP wd.drew dE (H4.o.below (Below.refl _ _).drew H4.o.fr) KK My);obtain⟨x,hx⟩:∃x,x=dC.tick r4.eM s dE:=⟨_,rfl⟩;rw[<- hx]at P6 OR NL;have Yb:=Hd OB;have X4:=Hd NZ;have M9:ob<wd.heap.size:=H4.o.o_.lt;clear KK My OB Qz NZ NB S1 UB hx f7 UD KW;(go_upto_region 21 with fail);refine last.fS (fun W=>W.cell? ⟨ob,4,none⟩=some (.pointer (some ⟨sb,0,none⟩))/\W.cell? ⟨ob,7,none⟩=some (.slice (some ⟨g7,0,none⟩) k KJ)/\W.cell? ⟨g7,0,none⟩=some (.int .i64 dE)) 12 13 ⟨c4,c7,z7⟩ fun HS=>?_;refine last.many [(0,86,_)] HS.o ?_;refine last.gp [11,4,3,2,1] 1 87 (.pointer (some ⟨ob,0,none⟩)) HS.o ?_;dsimp only[List.set];refine last.gp [11,4,3,2] 2 88 (.pointer (some ⟨ob,0,none⟩)) HS.o ?_;dsimp only[List.set];refine last.gp [11,4,3] 3 89 (.pointer (some ⟨ob,4,none⟩)) HS.o ?_;dsimp only[List.set];refine last.gp [11,4] 4 90 (.pointer (some ⟨sb,0,none⟩)) HS.o ?_ (hy:=(fun W' Kc=>by have e1:=Kc.1;go_simp));dsimp only[List.set];refine last.gp [11,10,9,8,7,6,5] 5 91 (.pointer (some ⟨ob,0,none⟩)) HS.o ?_;dsimp only[List.set];refine last.gp [11,10,9,8,7,6] 6 92 (.pointer (some ⟨ob,0,none⟩)) HS.o ?_;dsimp only[List.set];refine last.gp [11,10,9,8,7] 7 93 (.pointer (some ⟨ob,7,none⟩)) HS.o ?_;dsimp only[List.set];refine last.gp [11,10,9,8] 8 94 (.slice (some ⟨g7,0,none⟩) k KJ) HS.o ?_ (hy:=(fun W' Kc=>by have e1:=Kc.2.1;go_simp));dsimp only[List.set];refine last.gp [11,10,9] 9 95 (.pointer (some ⟨g7,0,none⟩)) HS.o ?_;dsimp only[List.set];refine last.gp [11,10] 10 96 (.int .i64 dE) HS.o ?_ (hy:=(fun W' Kc=>by have e1:=Kc.2.2;go_simp));dsimp only[List.set];refine last.one 11 fun K hK=>?_;go_simp;refine NL.o.mono ?_;rintro e w6 ⟨u6,own2,rfl,OP,h6,Pk,MI,LG⟩;have HM6:=Hd OP;have H6:=Hd h6;have OJ:Hy (Ext wd own own2):=Hd fun g hg=>Pk g hg;have MF:Hy (dD (fun g=>own g≠0) wd w6):=Hd ((dD.refl _ wd).drew.trans MI fun _ _ e=>e);have Lg:Hy (∀g,wd.heap.size<=g->g<w6.heap.size->g≠ob/\own2 g<60):=Hd LG;clear OP h6 Pk MI LG
     have z76:w6.cell? ⟨g7,0,none⟩=some (.int .i64 dE):=by
      obtain⟨g7',aaz,Rx,-,-,z7',-⟩:=jN H6.o.ck Yb.o;have e7:=X4.o.symm.trans Rx;simp only[Value.slice.injEq,bq,Addr.mk.injEq,and_true]at e7;rw[e7.1];exact z7'
     have MQ:Hy ((fun W=>W.cell? ⟨ob,4,none⟩=some (.pointer (some ⟨sb,0,none⟩))/\W.cell? ⟨ob,7,none⟩=some (.slice (some ⟨g7,0,none⟩) k KJ)/\W.cell? ⟨g7,0,none⟩=some (.int .i64 dE)) w6):=Hd ⟨(H6.o.o_.cell 4).trans ((H4.o.o_.cell 4).symm.trans c4),(H6.o.o_.cell 7).trans ((H4.o.o_.cell 7).symm.trans c7),z76⟩;refine hK.out _ _ (fun _=>MQ.o) ?_;clear hK K HS;have HS:=MQ;refine last.one 12 fun K hK=>?_;go_simp;refine (py true u6 _ H6.o HM6.o (fun g h1 h2=>⟨(Lg.o g h1 h2).1,by have:=(Lg.o g h1 h2).2;omega⟩) OR.o (0) rfl).mono ?_;rintro e w8 ⟨rfl,own3,v3,h8,MS,K0⟩;have H8:=Hd h8;have PV:=Hd MS;have ME:=Hd K0;clear h8 MS K0;refine hK.out _ _ (fun h=>absurd rfl h) ?_;clear hK K;refine last.done ?_;(go_wp2_with (go_at_call 113;refine (zq _ H8.o).mono ?_;rintro e w9 ⟨rfl,Pt⟩;have Ts:=Hd Pt;clear Pt));go_ret;rw[P6.o];exact⟨rfl,eP.ahead (Ext.refl _ _) RJ.o (eP.ahead OJ.o MF.o (eP.ahead PV.o ME.o Ts.o))⟩
 have e1:decide ((l.length:Int)=(n7:Int))=false:=decide_eq_false (by omega);have HR:Hy (r.fA l=(2,r)):=Hd (by unfold dB.fA;rw[if_pos (by rw[<- NK.o];exact hl)]);clear h hi hc Xl N0 NI hB;(go_enter Tryz.func71,Tryz.ntmps71);(go_wp2_with fail);go_ret;rw[HR.o];exact⟨rfl,eP.here H.o⟩
end
end fe
namespace fe
open Go.RowKit heap own eO fq eK dR eZ
open dI (dW dC dJ ga fB eA gL Net dB)
open eU (Idx Inv Tos Clk)
section
variable {P:Lib.PrintTabs} {own own1:Nat->Nat} {w0 w w':World} {ob db:Nat} {v v':WV} {r r':dB}
theorem GZ (w:World) (k o:Int) {b:Int} {G:eU.eF} (hi:Inv b G r) (hb:b<1000000) (hx:Idx r) (hn:r.ef.length<=100000) (h:dP P own w0 w ob db v r) :
 Calls Tryz.prog 74 #[.pointer (some ⟨ob,0,none⟩),.int .i64 k,.int .i64 o] w fun e w'=>e=.returned (fx (r.read k o).1)/\eP P own w0 ob db w (r.read k o).2 w':=by
 have Kd:Below w.heap.size w (w.alloc (.cells #[.int .i64 o] 3)):=(Below.refl _ _).alloc (aq _) _;have HC:=Hd (GA (w.alloc (.cells #[.int .i64 o] 3)) k o w.heap.size (Has.new w _) hi hb hx hn (h.below Kd fun g hg=>h.fr g (az Kd.size hg)));have Ki:=Hd Kd;clear h hi hb hx hn Kd;(go_enter Tryz.func74,Tryz.ntmps74);(go_wp2_with (go_at_call 121;refine HC.o.mono ?_;rintro e w' ⟨rfl,hs⟩));go_ret;exact⟨rfl,eP.ahead (Ext.refl _ _) (dD.fw Ki.o (aq _)) hs⟩
theorem G0 (w:World) (k o:Int) (data:List UInt8) {b:Int} {G:eU.eF} (hi:Inv b G r) (hb:b<1000000) (hx:Idx r) (hn:r.ef.length<=100000) (h:dP P own w0 w ob db v r) :
 Calls Tryz.prog 82 #[.pointer (some ⟨ob,0,none⟩),.int .i64 k,.int .i64 o,.string ⟨data.toArray⟩] w fun e w'=>e=.returned (fx (r.write k o data).1)/\eP P own w0 ob db w (r.write k o data).2 w':=by
 obtain⟨w1,N5⟩:∃w1,w1=w.alloc (.cells #[.int .i64 o] 3):=⟨_,rfl⟩;(have Kd:Below w.heap.size w (w1.alloc (.cells #[.string ⟨data.toArray⟩] 9)):=by rw[N5];exact ((Below.refl _ _).alloc (aq _) _).alloc (by simp) _);(have hp:Has (w1.alloc (.cells #[.string ⟨data.toArray⟩] 9)) w.heap.size (.cells #[.int .i64 o] 3):=by rw[N5];exact (Has.new w _).alloc _);have HC:=Hd (GC (w1.alloc (.cells #[.string ⟨data.toArray⟩] 9)) k o data w.heap.size w1.heap.size hp (Has.new w1 _) hi hb hx hn (h.below Kd fun g hg=>h.fr g (az Kd.size hg)));have Ki:=Hd Kd;(have LH:w1.heap.size=w.heap.size+1:=by rw[N5];simp);rw[LH]at HC;rw[N5]at HC Ki;clear h hi hb hx hn Kd hp LH N5;(go_enter Tryz.func82,Tryz.ntmps82);(go_wp2_with (go_at_call 121;refine HC.o.mono ?_;rintro e w' ⟨rfl,hs⟩));go_ret;exact⟨rfl,eP.ahead (Ext.refl _ _) (dD.fw Ki.o (aq _)) hs⟩
theorem zG (t:eA) (d:dW) (dE:Int):((dC.new t d dE).2.2=none->(dC.new t d dE).1≠0)/\∀s,(dC.new t d dE).2.2=some s->(dC.new t d dE).1=0:=by
 unfold dC.new;split
 ·exact⟨fun _=>by simp,fun s h=>by cases h⟩
 simp only
 generalize (if 1<wrap64 (((dC.blank t dE).gX d.dK).dQ+1) then ({ (dC.blank t dE).gX d.dK with dQ:=wrap64 (((dC.blank t dE).gX d.dK).dQ+1),quiet:=dE+t.ei}:dC) else { (dC.blank t dE).gX d.dK with dQ:=wrap64 (((dC.blank t dE).gX d.dK).dQ+1)})=s2
 generalize d.add false ⟨0,0,-1,0,[],s2.dQ⟩=p;split
 ·exact⟨(fun h=>by cases h),fun s _=>rfl⟩
 rename_i h0;exact⟨fun _=>h0,fun s h=>by cases h⟩
theorem zH (he:Ext w own own1):∀g,ey (only own own1 w 1 20) g->ey own1 g:=fun g hg=>by
 unfold ey only at *;split at hg
 ·rename_i h1;rw[he g h1];exact hg
 split at hg
 ·exact hg
 omega
theorem zI (h:dP P own w0 w ob db v r):∀g,only own own1 w 1 20 g≠0->w0.heap.size<=g:=fun g hg=>by
 rcases aW g w.heap.size with h1|h1
 ·rw[kG own own1 w 1 20 g h1]at hg;exact h.low g hg
 exact az h.fF.size h1
theorem uo {d:dW} {ps:List ByteArray} (h:dP P own w0 w ob db v r) (hs:r.eD=none) (hp:v.sp=.pointer none) (he:Ext w own own1) (ht:dD (ey own) w w') (hd:iW P own1 w0 w' db ps d) :
 ∃own2,dP P own2 w0 w' ob db v {r with eM:=d}/\Ext w own own2/\dD (fun g=>own g≠0) w w':=by
 have hf:=qh (own:=own) (own1:=own1) (lo:=1) (hi:=20) ht.size hd.fr;have h2:=Gl (own1:=only own own1 w 1 20) hd (fun g k h1 h2 h3=>qg he g k h1 h2 h3) (zH he) hf;have h3:=h.eD ht (kG own own1 w 1 20) hf (zI h) d none ⟨hp,ps,h2⟩;refine⟨only own own1 w 1 20,?_,kG own own1 w 1 20,ht.mono fun g _ e=>by unfold ey at e;show own g≠0;omega⟩;(have e:({r with eM:=d,eD:=none}:dB)={r with eM:=d}:=by rw[<- hs]);rw[<- e];exact h3
theorem zJ {d:dW} {s:dC} {sb wb dm tb tm:Nat} {vv:Value} {ps:List ByteArray} {qs:List Value} (h:dP P own w0 w ob db v r) (hp:v.sp=.pointer none) (he:Ext w own own1) (ht:dD (ey own) w w') (hs:eh P own1 w0 w' sb db wb dm tb tm vv ps qs d s) :
 ∃own2,dP P own2 w0 w' ob db v {r with eM:=d,eD:=none}/\Ext w own own2/\dD (fun g=>own g≠0) w w'/\eh P own2 w0 w' sb db wb dm tb tm vv ps qs d s:=by
 have hf:=qh (own:=own) (own1:=own1) (lo:=1) (hi:=20) ht.size hs.fr;have h2:=yY (own1:=only own own1 w 1 20) hs (fun g k h1 h2 h3=>qg he g k h1 h2 h3) (zH he) hf;exact⟨_,h.eD ht (kG own own1 w 1 20) hf (zI h) d none ⟨hp,ps,h2.eM⟩,kG _ _ _ _ _,ht.mono fun g _ e=>by unfold ey at e;show own g≠0;omega,h2⟩
theorem dP.zK {s:dC} {sb wb dm tb tm:Nat} {vv:Value} {ps:List ByteArray} {qs:List Value} (h:dP P own w0 w ob db v r) (hs:eh P own w0 w sb db wb dm tb tm vv ps qs r.eM s) :
 dP P own w0 (w.setCell ⟨ob,4,none⟩ (.pointer (some ⟨sb,0,none⟩))) ob db {v with sp:=.pointer (some ⟨sb,0,none⟩)} {r with eD:=some s}:=by
 have ht:dD (fun g=>g=ob) w (w.setCell ⟨ob,4,none⟩ (.pointer (some ⟨sb,0,none⟩))):=dZ.fp (dD.refl _ _) _ _;have hp:gY P own w0 w db (.pointer (some ⟨sb,0,none⟩)) r.eM (some s):=⟨sb,wb,dm,tb,tm,vv,ps,qs,rfl,hs⟩;exact h.tI r.step r.dM.lost (.pointer (some ⟨sb,0,none⟩)) (some s) ht (hp.ej ht (Ext.refl w own) (fun g hg=>h.fr g (az ht.size hg)) fun g _ e=>⟨fun e2=>by have e:g=ob:=e;unfold ey at e2;rw[e,h.fh]at e2;omega,by have e:g=ob:=e;rw[e];exact h.low ob (by rw[h.fh];decide)⟩) (h.o_.eu 4 (.pointer (some ⟨sb,0,none⟩)))
theorem uq (w:World) (h:dP P own w0 w ob db v r) :
 Calls Tryz.prog 76 #[.pointer (some ⟨ob,0,none⟩)] w fun e w'=>e=.returned (fx r.gx.1)/\eP P own w0 ob db w r.gx.2 w':=by
 have c4:w.cell? ⟨ob,4,none⟩=some v.sp:=h.o_.cell 4;rcases h.oy with⟨KK,My⟩|⟨s,sb,KK,My⟩
 ·rw[My]at c4;obtain⟨r3,NQ⟩:∃r3:dB,r3={r.eR with eM:=r.eR.eM.cutAt (-1)}:=⟨_,rfl⟩;(have NJ:r3.eD=none:=by rw[NQ];exact KK);(have KW:0<r3.ee.length:=by rw[NQ];show 0<r.ee.length;have:=h.nc.1;omega);have OB:r3.ee[0]?=some (r3.ee[0]'KW):=ax KW;generalize r3.ee[0]'KW=dE at OB;obtain⟨x,hx⟩:∃x,x=dC.new r3.eJ r3.eM dE:=⟨_,rfl⟩
  have HR:Hy (r.gx=(x.1,{r3 with eM:=x.2.1,eD:=x.2.2})):=Hd (by
   (have Qz:r3.ee.getD 0 0=dE:=by rw[aB,OB];rfl);unfold dB.gx;rw[KK];dsimp only
   rw[hx,<- Qz,NQ])
  have HX:=Hd hx;have Yb:=Hd OB;have H:=Hd h;have UE:=Hd My;have Lp:=Hd NJ;have Nx:=Hd NQ;have Xn:=Hd (zG r3.eJ r3.eM dE);rw[<- hx]at Xn;clear h KK My NQ NJ hx OB KW;go_enter Tryz.func76,Tryz.ntmps76
  go_upto_region 5 with first
   |(go_at_call 105;refine (ub _ H.o).mono ?_;rintro e w1 ⟨rfl,h1,Le⟩;have H1:=Hd h1;have KP:=Hd Le;have c3:w1.cell? ⟨ob,3,none⟩=some (.pointer (some ⟨db,0,none⟩)):=h1.o_.cell 3;clear h1 Le c4)
   |(go_at_call 116;refine (yW _ (-1) H1.o).mono ?_;rintro e w3 ⟨rfl,h3,KF⟩;rw[<- Nx.o]at h3;have H3:=Hd h3;have LQ:=Hd (KP.o.trans KF fun g _ e=>by unfold ey at e;show own g≠0;omega);clear h3 KF c3)
  have Ns:=H3.o.dR;rw[Lp.o]at Ns;obtain⟨-,ps,Ns⟩:=Ns;obtain⟨g7,KJ,NZ,NB,PD,z7,f7⟩:=jN H3.o.ck Yb.o;obtain⟨n7,N0⟩:∃n7,n7=r3.ee.length:=⟨_,rfl⟩;(have KW:0<n7:=by rw[N0];exact (ar.1 Yb.o).1);(have c7:w3.cell? ⟨ob,7,none⟩=some (.slice (some ⟨g7,0,none⟩) n7 KJ):=by rw[N0,<- NZ];exact H3.o.o_.cell 7);have d0:w3.cell? ⟨ob,0,none⟩=some (.int .i64 r3.eJ.dF):=H3.o.o_.cell 0;have d1:w3.cell? ⟨ob,1,none⟩=some (.int .i64 r3.eJ.ei):=H3.o.o_.cell 1;have d2:w3.cell? ⟨ob,2,none⟩=some (.int .i64 r3.eJ.eS):=H3.o.o_.cell 2;have d3:w3.cell? ⟨ob,3,none⟩=some (.pointer (some ⟨db,0,none⟩)):=H3.o.o_.cell 3;have Oq:=Hd (xJ w3.drew r3.eJ dE (Ns.below (Below.refl _ _).drew));rw[<- HX.o]at Oq;have KN:ob<w3.heap.size:=H3.o.o_.lt
  have Lz:Hy (¬ey own ob/\¬ey own g7):=Hd (by
   have h1:=H3.o.fh;unfold ey
   omega)
  clear Ns NZ NB N0 f7;obtain⟨n,d,o⟩:=x
  cases o with
  |none =>
   have RP:n≠0:=Xn.o.1 rfl;have TB:=Hd (iE RP);have Xo:=Hd RP;clear RP;refine last.fS (fun W=>W.cell? ⟨ob,0,none⟩=some (.int .i64 r3.eJ.dF)/\W.cell? ⟨ob,1,none⟩=some (.int .i64 r3.eJ.ei)/\W.cell? ⟨ob,2,none⟩=some (.int .i64 r3.eJ.eS)/\W.cell? ⟨ob,3,none⟩=some (.pointer (some ⟨db,0,none⟩))/\W.cell? ⟨ob,7,none⟩=some (.slice (some ⟨g7,0,none⟩) n7 KJ)/\W.cell? ⟨g7,0,none⟩=some (.int .i64 dE)) 1000 20 ⟨d0,d1,d2,d3,c7,z7⟩ fun HS=>?_;refine last.many [(0,19,_),(1,20,_),(2,21,_),(3,22,_),(4,23,_),(5,24,_),(6,25,_),(7,26,_),(8,27,_),(9,28,_),(10,29,_),(11,30,_),(12,31,_),(13,32,_)] HS.o ?_ (hy:=fun W' Kc=>by have e0:=Kc.1;have e1:=Kc.2.1;have e2:=Kc.2.2.1;have f0:=Kc.2.2.2.1;have f1:=Kc.2.2.2.2.1;have f2:=Kc.2.2.2.2.2;repeat (first|exact .z|refine .s ?_|refine .k ?_));refine last.one 14 fun K hK=>?_;go_simp;refine Oq.o.mono ?_;rintro e w5 ⟨S3,PF,QA,psN,rfl,hdN⟩;have Ye:=Hd PF;have T0:=Hd QA;rw[TB.o];have Tq:=Hd hdN;clear hdN;have KF:dD (ey own) w3 w5:=(dD.refl _ w3).drew.trans QA fun _ _ e=>e;have Kl:Hy ((fun W=>W.cell? ⟨ob,0,none⟩=some (.int .i64 r3.eJ.dF)/\W.cell? ⟨ob,1,none⟩=some (.int .i64 r3.eJ.ei)/\W.cell? ⟨ob,2,none⟩=some (.int .i64 r3.eJ.eS)/\W.cell? ⟨ob,3,none⟩=some (.pointer (some ⟨db,0,none⟩))/\W.cell? ⟨ob,7,none⟩=some (.slice (some ⟨g7,0,none⟩) n7 KJ)/\W.cell? ⟨g7,0,none⟩=some (.int .i64 dE)) w5):=Hd ⟨(KF.cell (p:=⟨ob,0,none⟩) KN Lz.o.1).trans d0,(KF.cell (p:=⟨ob,1,none⟩) KN Lz.o.1).trans d1,(KF.cell (p:=⟨ob,2,none⟩) KN Lz.o.1).trans d2,(KF.cell (p:=⟨ob,3,none⟩) KN Lz.o.1).trans d3,(KF.cell (p:=⟨ob,7,none⟩) KN Lz.o.1).trans c7,(KF.cell (p:=⟨g7,0,none⟩) PD Lz.o.2).trans z7⟩;clear PF QA KF;refine hK.out _ _ (fun _=>Kl.o) ?_;clear hK K HS;have HS:=Kl;refine last.many [(15,18,_),(16,34,_),(17,35,_),(18,3,_),(19,4,_)] HS.o ?_;refine last.done ?_;clear d0 d1 d2 d3 c7 z7 HS;(go_wp2_with fail);go_ret;obtain⟨own2,k1,k2,k3⟩:=uo (H3.o.below (Below.refl _ _).drew H3.o.fr) Lp.o UE.o Ye.o T0.o Tq.o;rw[HR.o];refine⟨by rw[TB.o];rfl,?_⟩;(have e:({r3 with eM:=d,eD:=none}:dB)={r3 with eM:=d}:=by rw[<- Lp.o]);rw[e];exact eP.ahead (Ext.refl _ _) LQ.o ⟨own2,v,k1,fun g hg=>k2 g hg,(dD.refl _ w3).drew.trans k3 fun _ _ e=>e⟩
  |some s =>
   have Xo:Hy (n=0):=Hd (Xn.o.2 s rfl);refine last.fS (fun W=>W.cell? ⟨ob,0,none⟩=some (.int .i64 r3.eJ.dF)/\W.cell? ⟨ob,1,none⟩=some (.int .i64 r3.eJ.ei)/\W.cell? ⟨ob,2,none⟩=some (.int .i64 r3.eJ.eS)/\W.cell? ⟨ob,3,none⟩=some (.pointer (some ⟨db,0,none⟩))/\W.cell? ⟨ob,7,none⟩=some (.slice (some ⟨g7,0,none⟩) n7 KJ)/\W.cell? ⟨g7,0,none⟩=some (.int .i64 dE)) 1000 20 ⟨d0,d1,d2,d3,c7,z7⟩ fun HS=>?_;refine last.many [(0,19,_),(1,20,_),(2,21,_),(3,22,_),(4,23,_),(5,24,_),(6,25,_),(7,26,_),(8,27,_),(9,28,_),(10,29,_),(11,30,_),(12,31,_),(13,32,_)] HS.o ?_ (hy:=fun W' Kc=>by have e0:=Kc.1;have e1:=Kc.2.1;have e2:=Kc.2.2.1;have f0:=Kc.2.2.2.1;have f1:=Kc.2.2.2.2.1;have f2:=Kc.2.2.2.2.2;repeat (first|exact .z|refine .s ?_|refine .k ?_));refine last.one 14 fun K hK=>?_;go_simp;refine Oq.o.mono ?_;rintro e w5 ⟨S3,PF,QA,sbN,wbN,dmN,tbN,tmN,vN,psN,qsN,rfl,hsN⟩;have Ye:=Hd PF;have T0:=Hd QA;have HSW:=Hd hsN;clear hsN;have KF:dD (ey own) w3 w5:=(dD.refl _ w3).drew.trans QA fun _ _ e=>e;have Kl:Hy ((fun W=>W.cell? ⟨ob,0,none⟩=some (.int .i64 r3.eJ.dF)/\W.cell? ⟨ob,1,none⟩=some (.int .i64 r3.eJ.ei)/\W.cell? ⟨ob,2,none⟩=some (.int .i64 r3.eJ.eS)/\W.cell? ⟨ob,3,none⟩=some (.pointer (some ⟨db,0,none⟩))/\W.cell? ⟨ob,7,none⟩=some (.slice (some ⟨g7,0,none⟩) n7 KJ)/\W.cell? ⟨g7,0,none⟩=some (.int .i64 dE)) w5):=Hd ⟨(KF.cell (p:=⟨ob,0,none⟩) KN Lz.o.1).trans d0,(KF.cell (p:=⟨ob,1,none⟩) KN Lz.o.1).trans d1,(KF.cell (p:=⟨ob,2,none⟩) KN Lz.o.1).trans d2,(KF.cell (p:=⟨ob,3,none⟩) KN Lz.o.1).trans d3,(KF.cell (p:=⟨ob,7,none⟩) KN Lz.o.1).trans c7,(KF.cell (p:=⟨g7,0,none⟩) PD Lz.o.2).trans z7⟩;clear PF QA KF;refine hK.out _ _ (fun _=>Kl.o) ?_;clear hK K HS;have HS:=Kl;refine last.many [(15,18,_),(16,34,_),(17,35,_),(18,3,_),(19,4,_)] HS.o ?_;refine last.done ?_;clear d0 d1 d2 d3 c7 z7 HS;obtain⟨own2,k1,k2,k3,k4⟩:=zJ (H3.o.below (Below.refl _ _).drew H3.o.fr) UE.o Ye.o T0.o HSW.o;have H5:=Hd k1;have L6:Hy (Ext w3 own own2):=Hd fun g hg=>k2 g hg;have MJ:Hy (dD (fun g=>own g≠0) w3 w5):=Hd ((dD.refl _ w3).drew.trans k3 fun _ _ e=>e);(have q4:w5.cell? ⟨ob,4,none⟩=some (.pointer none):=by rw[<- UE.o];exact k1.o_.cell 4);have f4:=k1.o_.frozen 4;have H6:=Hd (k1.zK k4);clear k1 k2 k3 k4;(go_wp2_with fail);go_ret;rw[HR.o,Xo.o];refine⟨rfl,eP.ahead (Ext.refl _ _) LQ.o ⟨own2,_,H6.o,L6.o,MJ.o.setCell (p:=⟨ob,4,none⟩) (.inr (by show own ob≠0;rw[H.o.fh];decide)) _⟩⟩
 rw[My]at c4;have HR:Hy (r.gx=(6,r)):=Hd (by unfold dB.gx;rw[KK]);have H:=Hd h;clear h KK My;(go_enter Tryz.func76,Tryz.ntmps76);(go_wp2_with fail);go_ret;rw[HR.o];exact⟨rfl,eP.here H.o⟩
end
section
variable {P:Lib.PrintTabs} {own own1:Nat->Nat} {w0 w w':World} {ob db:Nat} {v v':WV} {r r':dB}
theorem dP.G1 (h:dP P own w0 w ob db v r) (k:Nat) (hk:k<r.dG.length) {g cap:Nat} (hv:v.cl=.slice (some ⟨g,0,none⟩) r.dG.length cap) (hg:own g=61) {c':dJ} {cb fm sm:Nat} {cv:Value} (hc:eB own (20+4*k) w cb fm sm cv c') :
 dP P own w0 (w.setCell ⟨g,k,none⟩ (.pointer (some ⟨cb,0,none⟩))) ob db {v with fW:=v.fW.set k cb} {r with dG:=r.dG.set k c'}:=by
 obtain⟨a1,a2,a3,a4⟩:=h.rH (w':=w.setCell ⟨g,k,none⟩ (.pointer (some ⟨cb,0,none⟩))) g 61 hg (by decide) (by decide);have ht:dD (fun i=>i=g) w (w.setCell ⟨g,k,none⟩ (.pointer (some ⟨cb,0,none⟩))):=dZ.fp (dD.refl _ _) _ _;have he:=Ext.refl w own;have hf:∀i,(w.setCell ⟨g,k,none⟩ (.pointer (some ⟨cb,0,none⟩))).heap.size<=i->own i=0:=fun i hi=>a4 i hi ht.size;(have nC:∀j,j<4->∀i,i<w.heap.size->i=g->¬fC own (20+4*j) i:=fun j hj i _ e hc=>by unfold fC at hc;rw[e,hg]at hc;omega);have Ut:k<4:=ay hk h.ft;refine⟨hf,h.low,h.o_.far (Ne.symm a3) _,h.fh,h.dR.ej ht he hf fun i _ e=>?_,?_,?_,fun j c hj=>?_,?_,h.li.ej ht he fun i hi ho=>a2 i 62 hi ho (by decide),h.ck.ej ht he fun i hi ho=>a2 i 63 hi ho (by decide),h.ev.ej ht he fun i hi ho=>a2 i 64 hi ho (by decide),h.op.ej ht he fun i hi ho=>a2 i 65 hi ho (by decide),?_,h.right,?_,?_,?_⟩
 ·have e:i=g:=e;exact⟨fun e2=>by unfold ey at e2;rw[e,hg]at e2;omega,by rw[e];exact h.low g (by rw[hg];decide)⟩
 ·have h1:=h.cl;rw[hv]at h1;have h2:=p4 h1 k (by omega) (.pointer (some ⟨cb,0,none⟩));simp only[aN];rw[hv,List.map_set];exact h2
 ·simp only[aN];exact h.pl
 ·have OU:(r.dG.set k c')[j]?=some c:=hj;rw[List.getElem?_set]at OU;split at OU
  ·rename_i X1;subst X1;cases OU;refine⟨cb,fm,sm,cv,?_,hc.er ht he fun i hi e=>nC k Ut i hi e⟩;show (v.fW.set k cb)[k]?=some cb;rw[aT (by rw[h.pl];exact hk)]
  rename_i X1;obtain⟨cb2,fm2,iI,ZS,h1,h2⟩:=h.cls j c OU;have hj4:j<4:=ay (ar.mp OU).1 h.ft;refine⟨cb2,fm2,iI,ZS,?_,h2.er ht he fun i hi e=>nC j hj4 i hi e⟩;show (v.fW.set k cb)[j]?=some cb2;rw[aX X1];exact h1
 ·rw[aN];exact h.ft
 ·obtain⟨ps,h1,h2,h3,h4⟩:=h.dM;exact⟨ps,h1,h2.ej ht he fun i hi ho=>a2 i 66 hi ho (by decide),fun p hp=>(h3 p hp).ej ht he fun i hi ho=>a2 i 67 hi ho (by decide),h4⟩
 ·rw[aN];exact h.nl
 ·rw[aN];exact h.nc
 rw[aN];exact h.no
theorem zL {k cb fm sm:Nat} {c:dJ} {cv:Value} (h:dP P own w0 w ob db v r) (he:Ext w own own1) (RV:∀g,w'.heap.size<=g->own1 g=0) (hc:eB own1 (20+4*k) w' cb fm sm cv c) (hb:Below w.heap.size w w') :
 ∃own2,dP P own2 w0 w' ob db v r/\Ext w own own2/\eB own2 (20+4*k) w' cb fm sm cv c:=by
 have hf:=qh (own:=own) (own1:=own1) (lo:=20+4*k) (hi:=20+4*k+4) hb.size RV;have KL:=yZ (own1:=only own own1 w (20+4*k) (20+4*k+4)) hc fun g i h1 h2 h3=>qg he g i h1 h2 h3;refine⟨only own own1 w (20+4*k) (20+4*k+4),h.ej (S:=fun _=>False) (dD.fw hb (aq _)) (kG _ _ _ _ _) hf (fun g hg=>?_) fun _ _ h=>h.elim,kG _ _ _ _ _,KL⟩;rcases aW g w.heap.size with h1|h1
 ·rw[kG own own1 w _ _ g h1]at hg;exact h.low g hg
 exact az h.fF.size h1
theorem G2 (w:World) (k:Int) (h:dP P own w0 w ob db v r) :
 Calls Tryz.prog 75 #[.pointer (some ⟨ob,0,none⟩),.int .i64 k] w fun e w'=>e=.returned (fx (r.gV k).1)/\eP P own w0 ob db w (r.gV k).2 w':=by
 have Of:=Hd (rF w k h)
 cases hr:r.right k with
 |false =>
  rw[hr]at Of;have HR:Hy (r.gV k=(2,r)):=Hd (by unfold dB.gV;rw[hr];rfl);have H:=Hd h;clear h hr;(go_enter Tryz.func75,Tryz.ntmps75);(go_wp2_with (go_at_call 104;refine Of.o.mono ?_;rintro e w' ⟨rfl,rfl⟩));go_ret;rw[HR.o];exact⟨rfl,eP.here H.o⟩
 |true =>
  rw[hr]at Of;obtain⟨n,rfl,hn⟩:=rT hr;(have MM:n<r.eH.length:=by rw[h.nl];exact hn);have Ks:r.eH[n]?=some r.eH[n]:=ax MM;generalize r.eH[n]=lv at Ks;obtain⟨n1,NN⟩:∃n1,n1=n+1:=⟨_,rfl⟩;(have UF:n1<r.ee.length:=by have:=h.nc.1;omega);have KZ:r.ee[n1]?=some r.ee[n1]:=ax UF;generalize r.ee[n1]=cn at KZ;obtain⟨ln,Rc⟩:∃ln,ln=wrap64 (lv+1):=⟨_,rfl⟩;(have ew:IntKind.i64.wrap (lv+1)=ln:=by rw[IntWalk.i64_left,Rc]);have hn4:n<4:=ay hn h.ft;have ewk:IntKind.i64.wrap ((n:Int)+1)=(n1:Int):=by simp only[IntKind.wrap_i64];omega
  have HR:Hy (r.gV n=match dJ.new (n:Int) r.eJ ln cn with
   |none=>(2,r)
   |some c=>(0,{r with eH:=r.eH.set n ln,dG:=r.dG.set n c,eC:=r.eC.set n (-1)}.eR)):=Hd (by
   (have e1:r.eH.getD n 0=lv:=by rw[aB,Ks];rfl);(have e2:r.ee.getD (n+1) 0=cn:=by rw[aB,<- NN,KZ];rfl);unfold dB.gV;rw[hr];simp only[dh,bK,if_false,bH];rw[e1,e2,<- Rc]
   rfl)
  obtain⟨x,hx⟩:∃x,x=dJ.new (n:Int) r.eJ ln cn:=⟨_,rfl⟩;rw[<- hx]at HR;obtain⟨g6,Ma,Qy,SW,QW,z6,f6⟩:=jN h.li Ks;obtain⟨g7,KJ,NZ,NB,PD,z7,f7⟩:=jN h.ck KZ;obtain⟨n6,hn6⟩:∃n6,n6=r.eH.length:=⟨_,rfl⟩;obtain⟨n7,N0⟩:∃n7,n7=r.ee.length:=⟨_,rfl⟩;(have c6:w.cell? ⟨ob,6,none⟩=some (.slice (some ⟨g6,0,none⟩) n6 Ma):=by rw[hn6,<- Qy];exact h.o_.cell 6);(have c7:w.cell? ⟨ob,7,none⟩=some (.slice (some ⟨g7,0,none⟩) n7 KJ):=by rw[N0,<- NZ];exact h.o_.cell 7);have d0:w.cell? ⟨ob,0,none⟩=some (.int .i64 r.eJ.dF):=h.o_.cell 0;have d1:w.cell? ⟨ob,1,none⟩=some (.int .i64 r.eJ.ei):=h.o_.cell 1;have d2:w.cell? ⟨ob,2,none⟩=some (.int .i64 r.eJ.eS):=h.o_.cell 2;have Oq:=Hd (xX (own:=own) (T:=20+4*n) (n:Int) ln cn r.eJ w.drew fun g hg=>h.fr g hg);rw[<- hx]at Oq;have KN:ob<w.heap.size:=h.o_.lt;rw[<- hn6]at MM;rw[<- N0]at UF;have H:=Hd h;have HN:=Hd hn;have NC:=Hd Ks;have HN6:=Hd hn6;have X3:=Hd NN;clear h hr Ks KZ Rc hx Qy NZ SW NB f6 f7 hn6 N0 NN hn;(go_enter Tryz.func75,Tryz.ntmps75);go_upto_region 3 with (go_at_call 104;refine Of.o.mono ?_;rintro e w' ⟨rfl,rfl⟩)
  cases x with
  |none =>
   refine last.fS (fun W=>W.cell? ⟨ob,0,none⟩=some (.int .i64 r.eJ.dF)/\W.cell? ⟨ob,1,none⟩=some (.int .i64 r.eJ.ei)/\W.cell? ⟨ob,2,none⟩=some (.int .i64 r.eJ.eS)/\W.cell? ⟨ob,6,none⟩=some (.slice (some ⟨g6,0,none⟩) n6 Ma)/\W.cell? ⟨g6,n,none⟩=some (.int .i64 lv)/\W.cell? ⟨ob,7,none⟩=some (.slice (some ⟨g7,0,none⟩) n7 KJ)/\W.cell? ⟨g7,n1,none⟩=some (.int .i64 cn)) 1000 27 ⟨d0,d1,d2,c6,z6,c7,z7⟩ fun HS=>?_;refine last.many [(0,13,_),(1,14,_),(2,15,_),(3,16,_),(4,17,_),(5,18,_),(6,19,_),(7,20,_),(8,21,_),(9,22,_),(10,23,_),(11,24,_),(12,25,_),(13,26,_),(14,27,_),(15,28,_),(16,29,_),(17,30,_),(18,31,_),(19,32,_),(20,33,_)] HS.o ?_ (hy:=fun W' Kc=>by have e0:=Kc.1;have e1:=Kc.2.1;have e2:=Kc.2.2.1;have f0:=Kc.2.2.2.1;have f1:=Kc.2.2.2.2.1;have f2:=Kc.2.2.2.2.2.1;have f3:=Kc.2.2.2.2.2.2;repeat (first|exact .z|refine .s ?_|refine .k ?_));refine last.one 21 fun K hK=>?_;go_simp;refine Oq.o.mono ?_;rintro e w5 ⟨rfl,UG⟩;rw[show fx 2=.iface 52 (.int .i64 2) from rfl];have hbb:Below w.heap.size w w5:=((Below.refl _ w).drew).trans UG;have M4:=Hd hbb;have Kl:Hy ((fun W=>W.cell? ⟨ob,0,none⟩=some (.int .i64 r.eJ.dF)/\W.cell? ⟨ob,1,none⟩=some (.int .i64 r.eJ.ei)/\W.cell? ⟨ob,2,none⟩=some (.int .i64 r.eJ.eS)/\W.cell? ⟨ob,6,none⟩=some (.slice (some ⟨g6,0,none⟩) n6 Ma)/\W.cell? ⟨g6,n,none⟩=some (.int .i64 lv)/\W.cell? ⟨ob,7,none⟩=some (.slice (some ⟨g7,0,none⟩) n7 KJ)/\W.cell? ⟨g7,n1,none⟩=some (.int .i64 cn)) w5):=Hd ⟨(hbb.cell (p:=⟨ob,0,none⟩) KN).trans d0,(hbb.cell (p:=⟨ob,1,none⟩) KN).trans d1,(hbb.cell (p:=⟨ob,2,none⟩) KN).trans d2,(hbb.cell (p:=⟨ob,6,none⟩) KN).trans c6,(hbb.cell (p:=⟨g6,n,none⟩) QW).trans z6,(hbb.cell (p:=⟨ob,7,none⟩) KN).trans c7,(hbb.cell (p:=⟨g7,n1,none⟩) PD).trans z7⟩;clear UG hbb;refine hK.out _ _ (fun _=>Kl.o) ?_;clear hK K HS;have HS:=Kl;refine last.many [(22,12,_),(23,35,_),(24,36,_),(25,5,_),(26,6,_)] HS.o ?_;refine last.done ?_;clear d0 d1 d2 c6 z6 c7 z7 HS QW PD UF;(go_wp2_with fail);go_ret;rw[HR.o];exact⟨rfl,(eP.here H.o).below M4.o⟩
  |some c =>
   refine last.fS (fun W=>W.cell? ⟨ob,0,none⟩=some (.int .i64 r.eJ.dF)/\W.cell? ⟨ob,1,none⟩=some (.int .i64 r.eJ.ei)/\W.cell? ⟨ob,2,none⟩=some (.int .i64 r.eJ.eS)/\W.cell? ⟨ob,6,none⟩=some (.slice (some ⟨g6,0,none⟩) n6 Ma)/\W.cell? ⟨g6,n,none⟩=some (.int .i64 lv)/\W.cell? ⟨ob,7,none⟩=some (.slice (some ⟨g7,0,none⟩) n7 KJ)/\W.cell? ⟨g7,n1,none⟩=some (.int .i64 cn)) 1000 27 ⟨d0,d1,d2,c6,z6,c7,z7⟩ fun HS=>?_;refine last.many [(0,13,_),(1,14,_),(2,15,_),(3,16,_),(4,17,_),(5,18,_),(6,19,_),(7,20,_),(8,21,_),(9,22,_),(10,23,_),(11,24,_),(12,25,_),(13,26,_),(14,27,_),(15,28,_),(16,29,_),(17,30,_),(18,31,_),(19,32,_),(20,33,_)] HS.o ?_ (hy:=fun W' Kc=>by have e0:=Kc.1;have e1:=Kc.2.1;have e2:=Kc.2.2.1;have f0:=Kc.2.2.2.1;have f1:=Kc.2.2.2.2.1;have f2:=Kc.2.2.2.2.2.1;have f3:=Kc.2.2.2.2.2.2;repeat (first|exact .z|refine .s ?_|refine .k ?_));refine last.one 21 fun K hK=>?_;go_simp;refine Oq.o.mono ?_;rintro e w5 ⟨S3,O4,fmN,smN,rfl,PF,hfN,hcN,UG,-⟩;have HXN:=Hd PF;have X8:=Hd hfN;have Wb:=Hd hcN;have HBN:=Hd UG;clear PF hfN hcN;have hbb:Below w.heap.size w w5:=((Below.refl _ w).drew).trans UG;have M4:=Hd hbb;have Kl:Hy ((fun W=>W.cell? ⟨ob,0,none⟩=some (.int .i64 r.eJ.dF)/\W.cell? ⟨ob,1,none⟩=some (.int .i64 r.eJ.ei)/\W.cell? ⟨ob,2,none⟩=some (.int .i64 r.eJ.eS)/\W.cell? ⟨ob,6,none⟩=some (.slice (some ⟨g6,0,none⟩) n6 Ma)/\W.cell? ⟨g6,n,none⟩=some (.int .i64 lv)/\W.cell? ⟨ob,7,none⟩=some (.slice (some ⟨g7,0,none⟩) n7 KJ)/\W.cell? ⟨g7,n1,none⟩=some (.int .i64 cn)) w5):=Hd ⟨(hbb.cell (p:=⟨ob,0,none⟩) KN).trans d0,(hbb.cell (p:=⟨ob,1,none⟩) KN).trans d1,(hbb.cell (p:=⟨ob,2,none⟩) KN).trans d2,(hbb.cell (p:=⟨ob,6,none⟩) KN).trans c6,(hbb.cell (p:=⟨g6,n,none⟩) QW).trans z6,(hbb.cell (p:=⟨ob,7,none⟩) KN).trans c7,(hbb.cell (p:=⟨g7,n1,none⟩) PD).trans z7⟩;clear UG hbb;refine hK.out _ _ (fun _=>Kl.o) ?_;clear hK K HS;have HS:=Kl;refine last.many [(22,12,_),(23,35,_),(24,36,_),(25,5,_),(26,6,_)] HS.o ?_;refine last.done ?_;clear d0 d1 d2 c6 z6 c7 z7 HS QW PD UF;obtain⟨own2,k1,k2,k3⟩:=zL (H.o.below (Below.refl _ _).drew H.o.fr) HXN.o X8.o Wb.o HBN.o;have H5:=Hd k1;have L6:Hy (Ext w own own2):=Hd fun g hg=>k2 g hg;have O1:=Hd k3;have L1:Hy (Below w.heap.size w w5):=M4;clear k1 k2 k3 HXN X8 Wb HBN M4 Oq;have HBG:Hy (dP P own2 w0 w5 ob db v r):=H5;(go_upto_region 7 with (go_at_call 105;refine (oc _ H5.o).mono ?_;rintro e w6 ⟨rfl,h6,MI⟩;have H6:=Hd h6;have Oy:=Hd MI;clear h6 MI));have Mx:Hy (eB own2 (20+4*n) w6 O4 fmN smN (.slice none 0 0) c):=Hd (O1.o.er Oy.o (Ext.refl _ _) fun g _ e hc=>by have e:g=ob:=e;unfold fC at hc;rw[e,H5.o.fh]at hc;omega);have Xp:r.eR.eH[n]?=some lv:=NC.o;obtain⟨g6,Ma,Qy,SW,QW,z6,f6⟩:=jN H6.o.li Xp;(have c6:w6.cell? ⟨ob,6,none⟩=some (.slice (some ⟨g6,0,none⟩) n6 Ma):=by rw[HN6.o];exact (H6.o.o_.cell 6).trans (congrArg some Qy));obtain⟨r7,Rw⟩:∃r7:dB,r7={r.eR with eH:=r.eR.eH.set n ln}:=⟨_,rfl⟩;have H7:Hy (dP P own2 w0 (w6.setCell ⟨g6,n,none⟩ (.int .i64 ln)) ob db v r7):=Hd (by rw[Rw];exact H6.o.FJ n ln (ar.1 Xp).1 Qy SW);have MF:Hy (dD (fun g=>g=g6) w6 (w6.setCell ⟨g6,n,none⟩ (.int .i64 ln))):=Hd (dZ.fp (dD.refl _ _) _ _);have Vv:=Hd SW;have XK:=Hd Rw;clear Xp Qy SW Rw QW;(go_upto_region 8 with fail);obtain⟨w7,O6⟩:∃w7,w7=w6.setCell ⟨g6,n,none⟩ (.int .i64 ln):=⟨_,rfl⟩;rw[<- O6]at H7 MF⊢;have HC7:Hy (eB own2 (20+4*n) w7 O4 fmN smN (.slice none 0 0) c):=Hd (Mx.o.er MF.o (Ext.refl _ _) fun g _ e hc=>by have e:g=g6:=e;unfold fC at hc;rw[e,Vv.o]at hc;omega);clear O6 c6 z6 f6;(have aaK:r7.dG.length=r.dG.length:=by rw[XK.o];rfl);(have UH:n<r7.dG.length:=by rw[aaK];exact HN.o);obtain⟨g5,KT,cb0,fm0,kL,cv0,MG,Nq,PC,Mo,z5,f5,Nc⟩:=H7.o.pt (ax UH);(have Xq:n<r7.eC.length:=by rw[H7.o.no];exact UH);obtain⟨g8,NR,PB,M5,Ty,z8,f8⟩:=jN H7.o.op (ax Xq);obtain⟨m5,Yf⟩:∃m5,m5=r7.dG.length:=⟨_,rfl⟩;obtain⟨m8,RM⟩:∃m8,m8=r7.eC.length:=⟨_,rfl⟩;(have c5:w7.cell? ⟨ob,5,none⟩=some (.slice (some ⟨g5,0,none⟩) m5 KT):=by rw[Yf];exact (H7.o.o_.cell 5).trans (congrArg some MG));(have SP:w7.cell? ⟨ob,11,none⟩=some (.slice (some ⟨g8,0,none⟩) m8 NR):=by rw[RM];exact (H7.o.o_.cell 11).trans (congrArg some PB));(have aaL:ob≠g5:=fun e=>by have:=H7.o.fh;rw[e,Nq]at this;cases this);(have aaM:g8≠g5:=fun e=>by rw[e,Nq]at M5;cases M5);generalize r7.eC[n]=ov at z8;have H8:Hy (dP P own2 w0 (w7.setCell ⟨g5,n,none⟩ (.pointer (some ⟨O4,0,none⟩))) ob db {v with fW:=v.fW.set n O4} {r7 with dG:=r7.dG.set n c}):=Hd (H7.o.G1 n UH MG Nq HC7.o);have ME:Hy (dD (fun g=>own2 g≠0) w7 (w7.setCell ⟨g5,n,none⟩ (.pointer (some ⟨O4,0,none⟩)))):=Hd ((dD.refl (fun g=>own2 g≠0) w7).setCell (p:=⟨g5,n,none⟩) (.inr (by show own2 g5≠0;rw[Nq];decide)) _);have Vs:=Hd PB;have RY:=Hd M5;have Lz:=Hd Xq;rw[<- Yf]at UH;rw[<- RM]at Xq;have aaN:ob<w7.heap.size:=H7.o.o_.lt;clear MG Nq Mo Nc PB M5 Yf RM aaK PC;refine last.fS (fun W=>W.cell? ⟨ob,5,none⟩=some (.slice (some ⟨g5,0,none⟩) m5 KT)/\W.cell? ⟨ob,11,none⟩=some (.slice (some ⟨g8,0,none⟩) m8 NR)) 14 15 ⟨c5,SP⟩ fun HS=>?_;refine last.many [(0,51,_),(1,52,_),(2,53,_),(3,54,_),(4,55,_),(5,56,_),(6,57,_),(7,58,_),(8,59,_),(9,60,_),(10,61,_),(11,62,_)] HS.o ?_ (hy:=fun W' Kc=>by have e1:=Kc.1;have f0:=Kc.2;repeat (first|exact .z|refine .s ?_|refine .k ?_));refine last.one 12 fun K hK=>?_;go_simp;have K0:dD (fun i=>i=g5) w7 (w7.setCell ⟨g5,n,none⟩ (.pointer (some ⟨O4,0,none⟩))).drew:=(dZ.fp (dD.refl _ _) _ _).drew;have UI:Hy ((fun W=>W.cell? ⟨ob,5,none⟩=some (.slice (some ⟨g5,0,none⟩) m5 KT)/\W.cell? ⟨ob,11,none⟩=some (.slice (some ⟨g8,0,none⟩) m8 NR)) (w7.setCell ⟨g5,n,none⟩ (.pointer (some ⟨O4,0,none⟩))).drew):=Hd ⟨(K0.cell (p:=⟨ob,5,none⟩) aaN aaL).trans c5,(K0.cell (p:=⟨ob,11,none⟩) aaN aaL).trans SP⟩;have q8:=(K0.cell (p:=⟨g8,n,none⟩) Ty aaM).trans z8;have k8:=(K0.frozen (p:=⟨g8,n,none⟩) Ty aaM).trans f8;obtain⟨w8,WO⟩:∃w8,w8=(w7.setCell ⟨g5,n,none⟩ (.pointer (some ⟨O4,0,none⟩))).drew:=⟨_,rfl⟩;rw[<- WO]at UI q8 k8⊢;have H88:Hy (dP P own2 w0 w8 ob db {v with fW:=v.fW.set n O4} {r7 with dG:=r7.dG.set n c}):=Hd (by rw[WO];exact H8.o.below (Below.refl _ _).drew H8.o.fr);have aeZ:Hy (dD (fun g=>own2 g≠0) w7 w8):=Hd (by rw[WO];exact ME.o.drew);clear K0 WO;refine hK.out _ _ (fun _=>UI.o) ?_;clear hK K HS;have HS:=UI;refine last.many [(13,63,_)] HS.o ?_;refine last.one 14 fun K hK=>?_;go_simp;refine hK.out _ _ (fun h=>absurd rfl h) ?_;clear hK K;refine last.done ?_;have h9:=H88.o.rI n (-1) Lz.o Vs.o RY.o;have H9:=Hd h9;have PR:Hy (dD (fun g=>own2 g≠0) w7 (w8.setCell ⟨g8,n,none⟩ (.int .i64 (-1)))):=Hd (aeZ.o.setCell (p:=⟨g8,n,none⟩) (.inr (by show own2 g8≠0;rw[RY.o];decide)) _);clear h9 HS q8 k8;(go_wp2_with fail);go_ret;rw[HR.o];refine⟨rfl,own2,{v with fW:=v.fW.set n O4},?_,L6.o,?_⟩
   ·(have e:({r with eH:=r.eH.set n ln,dG:=r.dG.set n c,eC:=r.eC.set n (-1)}:dB).eR={r7 with dG:=r7.dG.set n c,eC:=r7.eC.set n (-1)}:=by rw[XK.o];rfl);show dP P own2 w0 _ ob db _ ({r with eH:=r.eH.set n ln,dG:=r.dG.set n c,eC:=r.eC.set n (-1)}:dB).eR;rw[e];exact H9.o
   have t5:dD (fun g=>own2 g≠0) w5 (w8.setCell ⟨g8,n,none⟩ (.int .i64 (-1))):=(((H5.o.nj Oy.o).trans (MF.o.mono fun g _ e=>by have e:g=g6:=e;show own2 g≠0;rw[e,Vv.o];decide) fun _ _ e=>e).trans PR.o fun _ _ e=>e)
   exact (dD.fw L1.o (aq _)).trans t5 fun g hg e=>by
    have e:own2 g≠0:=e;show own g≠0;rw[<- L6.o g hg];exact e
end
section
variable {P:Lib.PrintTabs} {own own1:Nat->Nat} {w0 w w':World} {ob db:Nat} {v v':WV} {r r':dB}
theorem G3 (f:Nat) {w:dB} (h:w.dM.l=[]):dB.iL f w=w:=by
 cases f with
 |zero=>rfl
 |succ f=>unfold dB.iL;rw[h];rfl
theorem G4 (f:Nat) {w:dB} (h:w.dM.l≠[]):dB.iL (f+1) w=dB.iL f (w.gw 0).2:=by
 rw[dB.iL,if_neg];intro e;exact h (cR.1 e)
theorem G6 (w:World) (h:dP P own w0 w ob db v r):Calls Tryz.prog 120 #[.pointer (some ⟨ob,8,none⟩)] w fun e w'=>e=.returned (.int .i64 r.dM.l.length)/\w=w':=by
 obtain⟨a,c,h1⟩:=h.pZ;(have c8:w.cell? ⟨ob,8,none⟩=some (.slice a r.dM.l.length c):=by rw[<- h1];exact h.o_.cell 8);exact dM.yh ob 8 a r.dM.l.length c w c8
theorem zM (w:World) {b:Int} {G:eU.eF} (hi:Inv b G r) (hx:Idx r) (ht:Tos r) (h:dP P own w0 w ob db v r) :
 Calls Tryz.prog 109 #[.pointer (some ⟨ob,0,none⟩)] w fun e w'=>e=.returned (.tuple #[])/\eP P own w0 ob db w r.jB w':=by
 have H0:Hy (Inv b G r/\Idx r/\Tos r/\eP P own w0 ob db w r w):=Hd ⟨hi,hx,ht,eP.here h⟩;clear hi hx ht h;(go_enter Tryz.func109,Tryz.ntmps109);(go_wp2_with fail);(go_loopw [2] (fun q2 wx=>∃(j f:Nat) (rj:dB),j+f=1000/\q2=.int .i64 j/\Inv b G rj/\Idx rj/\Tos rj/\eP P own w0 ob db w rj wx/\r.jB=dB.iL f rj) (fun q2 _=>1000-(intOf q2).toNat));case atStart=>exact⟨0,1000,r,by omega,rfl,H0.o.1,H0.o.2.1,H0.o.2.2.1,H0.o.2.2.2,rfl⟩
 case round =>
  clear H0;obtain⟨j,f,rj,hj,rfl,hi,hx,ht,hs,he⟩:=hrel;obtain⟨own1,v1,h1,Kf,Le⟩:=hs;have HMN:=Hd (G6 wr h1);obtain⟨m,hm⟩:∃m,m=rj.dM.l.length:=⟨_,rfl⟩;rw[<- hm]at HMN;have HE:=Hd he;have HM:=Hd hm;have HDV:=Hd (zr wr 0 hi hx ht h1);have N4:Hy (Inv b G (rj.gw 0).2/\Idx (rj.gw 0).2/\Tos (rj.gw 0).2):=Hd ⟨eU.tV hi 0,hx.ly 0,ht.ly 0⟩;have H1:=Hd h1;have KS:=Hd Kf;have KP:=Hd Le;clear hi hx ht he hm h1 Kf Le;by_cases hm0:m=0
  ·subst hm0
   have HF:Hy (r.jB=rj):=Hd (by rw[HE.o,G3 _ (aP HM.o.symm)])
   go_wp2_with (go_at_call 120;refine HMN.o.mono ?_;rintro e w2 ⟨rfl,rfl⟩)
   go_end0
   rw[HF.o];exact⟨rfl,own1,v1,H1.o,KS.o,KP.o⟩
  (have Km:rj.dM.l≠[]:=fun e=>by have:=HM.o;rw[e]at this;simp at this;omega);(have hmp:0<m:=by omega);have d0:decide ((0:Int)<(m:Int))=true:=decide_eq_true (by omega)
  cases f with
  |succ f =>
   have d1:decide ((j:Int)<1000)=true:=decide_eq_true (by omega);have HF:Hy (r.jB=dB.iL f (rj.gw 0).2):=Hd (by rw[HE.o,G4 f Km]);clear Km
   go_wp2_with first
    |(go_at_call 120;refine HMN.o.mono ?_;rintro e w2 ⟨rfl,rfl⟩)
    |(go_at_call 69;refine HDV.o.mono ?_;rintro e w3 ⟨rfl,NJ⟩;have Lp:=Hd NJ;clear NJ)
   go_roundw;(case rel=>exact⟨j+1,f,(rj.gw 0).2,by omega,by go_num,N4.o.1,N4.o.2.1,N4.o.2.2,eP.ahead KS.o KP.o Lp.o,HF.o⟩);case measure=>simp[intOf];omega
  |zero =>
   have d1:decide ((j:Int)<1000)=false:=decide_eq_false (by omega)
   have HF:Hy (r.jB=rj):=Hd (by rw[HE.o];rfl)
   clear hj Km
   go_wp2_with (go_at_call 120;refine HMN.o.mono ?_;rintro e w2 ⟨rfl,rfl⟩)
   go_end0
   rw[HF.o];exact⟨rfl,own1,v1,H1.o,KS.o,KP.o⟩
end
section
variable {P:Lib.PrintTabs} {own own1:Nat->Nat} {w0 w w':World} {ob db:Nat} {v v':WV} {r r':dB}
structure Fit (b:Int) (G:eU.eF) (r:dB):Prop where
 inv:Inv b G r
 idx:Idx r
 iH:Tos r
 iU:Clk r
theorem Fit.kF {b:Int} {G:eU.eF} (h:Fit b G r):Fit b G r.gx.2:=⟨eU.tX h.inv,h.idx.kF,h.iH.kF,h.iU.same (eU.um r)⟩
theorem Fit.kE {b:Int} {G:eU.eF} (h:Fit b G r) (hb:b<1000000) (k:Int):Fit (b+1) G (r.eV k).2:=⟨eU.tU h.inv hb k,h.idx.kE k,h.iH.kE k,h.iU.same (eU.rY r k)⟩
theorem Fit.zN {b:Int} {G:eU.eF} (h:Fit b G r):Fit b G r.jB:=⟨eU.rQ _ h.inv,eU.Idx.kY _ h.idx,eU.Tos.kY _ h.iH,h.iU.same (eU.qj _ r)⟩
theorem Fit.jh {b:Int} {G:eU.eF} (h:Fit b G r) (l:List Int):Fit b G (r.fA l).2:=⟨eU.tW h.inv l,h.idx.jh l,h.iH.jh l,h.iU.jh l⟩
theorem Fit.jt {b b':Int} {G:eU.eF} (h:Fit b G r) (hb:b<=b'):Fit b' G r:=⟨h.inv.jt hb,h.idx,h.iH,h.iU⟩
theorem zO:(Tryz.prog.info? 3).map (fun i=>(i.zero,i.size,i.bytes))=some (some (.int .i64 0),1,8):=by kernel_rfl
def iA (n i:Nat):List Int:=List.replicate i 1++List.replicate (n-i) 0
theorem G7 {n i:Nat} (h:i<=n):(iA n i).length=n:=by simp[iA];omega
theorem G9 {n i:Nat} (h:i<n):(iA n i)[i]?=some 0:=by
 unfold iA;rw[aL (by simp),bR,cX,bB,if_pos (by omega)]
theorem Ha {n i:Nat} (h:i<n):(iA n i).set i 1=iA n (i+1):=by
 unfold iA;obtain⟨m,hm⟩:∃m,n-i=m+1:=⟨n-i-1,by omega⟩;rw[hm,show n-(i+1)=m by omega,List.replicate_succ (n:=m),bk _ _ (by simp),bR,cX,aI,List.replicate_succ' (n:=i)];simp
theorem Hb (n:Nat):iA n n=List.replicate n 1:=by simp[iA]
theorem ur (n:Nat):(madeCells (Value.int .i64 0).cells (n*1)).toList=ints (iA n 0):=by
 apply List.ext_getElem?;intro j;by_cases hj:j<n
 ·simp[madeCells,iA,ints,hj,Nat.mod_one,Value.cells]
 simp[madeCells,iA,ints,hj]
theorem Hc (w:World) (m:Nat) (hm:m<=1000) {b:Int} {G:eU.eF} (hf:Fit b G r) (hb:b+4*m<=900000) (h:dP P own w0 w ob db v r) :
 Calls Tryz.prog 67 #[.pointer (some ⟨ob,0,none⟩),.int .i64 m] w fun e w'=>e=.returned (.tuple #[])/\eP P own w0 ob db w (dB.iw m r) w':=by
 have H0:Hy (Fit b G r/\b+4*m<=900000/\eP P own w0 ob db w r w):=Hd ⟨hf,hb,eP.here h⟩;clear hf hb h;(go_enter Tryz.func67,Tryz.ntmps67);(go_wp2_with fail);(go_loopw [1] (fun q1 wx=>∃(f:Nat) (rj:dB) (bj:Int),f<=m/\q1=.int .i64 f/\Fit bj G rj/\bj+4*f<=900000/\eP P own w0 ob db w rj wx/\dB.iw m r=dB.iw f rj) (fun q1 _=>(intOf q1).toNat));case atStart=>exact⟨m,r,b,aq _,rfl,H0.o.1,H0.o.2.1,H0.o.2.2,rfl⟩
 case round =>
  clear H0;obtain⟨f,rj,bj,hfm,rfl,aaO,hbj,⟨own1,v1,h1,Kf,Le⟩,he⟩:=hrel;have HE:=Hd he;have KS:=Hd Kf;have KP:=Hd Le;have H1:=Hd h1;have Zc:=Hd aaO;have HBJ:=Hd hbj;have HRS:=Hd (uq wr h1);clear he Kf Le h1 aaO hbj;obtain⟨wa,hwa⟩:∃x,x=wr:=⟨_,rfl⟩;subst hwa
  cases f with
  |zero =>
   have HF:Hy (dB.iw m r=rj):=Hd HE.o
   go_wp2_with fail
   go_end0
   rw[HF.o];exact⟨rfl,own1,v1,H1.o,KS.o,KP.o⟩
  |succ f =>
   have hf0:0<f+1:=Nat.succ_pos _;obtain⟨r1,LS⟩:∃r1,r1=rj.gx.2:=⟨_,rfl⟩;have K3:=Hd LS;rw[<- LS]at HRS;obtain⟨ev1,aaQ⟩:∃x,x=fx rj.gx.1:=⟨_,rfl⟩;rw[<- aaQ]at HRS;clear LS aaQ;(go_upto_region 3 with (go_at_call 76;refine HRS.o.mono ?_;rintro e w2 ⟨rfl,own2,v2,h2,KA,Kr⟩;have H2:=Hd h2;have KV:=Hd (show Ext wa own1 own2 from KA);have K4:=Hd Kr;clear h2 KA Kr));have HF2:Hy (Fit bj G r1):=Hd (by rw[K3.o];exact Zc.o.kF);obtain⟨pa,pc,Yc⟩:=mb H2.o.cl (by decide);obtain⟨K,hK⟩:∃K,K=r1.dG.length:=⟨_,rfl⟩;(have c5:w2.cell? ⟨ob,5,none⟩=some (.slice pa K pc):=by rw[hK,<- Yc];exact H2.o.o_.cell 5);(have hK4:K<=4:=by rw[hK];exact H2.o.ft);have HK:=Hd hK;clear Yc hK;(go_wp2_with fail);(go_loopw [18] (fun q18 wx=>∃(i:Nat) (ri:dB),i<=K/\q18=.int .i64 i/\Fit (bj+i) G ri/\eP P own2 w0 ob db w2 ri wx/\dB.jm (List.range K) r1=dB.jm ((List.range K).drop i) ri/\ri.ee=r1.ee) (fun q18 _=>K-(intOf q18).toNat));case atStart=>exact⟨0,r1,by omega,rfl,by simpa using HF2.o,eP.here H2.o,rfl,rfl⟩
   case round =>
    obtain⟨i,ri,hi,rfl,hfi,⟨own3,v3,h3,Nb,KF⟩,S0,XB⟩:=hrel;have Ya:=Hd S0;have HCI:=Hd XB;have Yg:=Hd hfi;have H3:=Hd h3;have L7:=Hd Nb;have LQ:=Hd KF;clear S0 XB hfi h3 Nb KF c5;obtain⟨wb,Su⟩:∃x,x=wr:=⟨_,rfl⟩;subst Su;by_cases S4:i<K
    ·(have hbi:bj+i<1000000:=by have:=HBJ.o;omega);have SD:=Hd (za wb i Yg.o.inv (by omega) H3.o);have HF4:=Hd (Yg.o.kE hbi i)
     have HF5:Hy (Fit (bj+((i+1:Nat):Int)) G (ri.eV i).2.jB):=Hd (by
      have h5:=HF4.o.zN;have e:bj+((i+1:Nat):Int)=bj+i+1:=by omega
      rw[e];exact h5)
     have Xc:Hy (dB.jm (List.range K) r1=dB.jm ((List.range K).drop (i+1)) (ri.eV i).2.jB):=Hd (by
      rw[Ya.o,bX (by rw[List.length_range];exact S4),List.getElem_range]
      rfl)
     have O1:Hy ((ri.eV i).2.jB.ee=r1.ee):=Hd (by
      show (dB.iL 1000 (ri.eV i).2).ee=_
      rw[eU.qj,eU.rY,HCI.o])
     obtain⟨ev2,Qi⟩:∃x,x=fx (ri.eV i).1:=⟨_,rfl⟩;rw[<- Qi]at SD;clear hbi Qi
     go_wp2_with first
      |(go_at_call 63;refine SD.o.mono ?_;rintro e w4 ⟨rfl,own4,v4,h4,Ps,R0⟩;have H4:=Hd h4;have LC:=Hd (show Ext wb own3 own4 from Ps);have RJ:=Hd R0;clear h4 Ps R0)
      |(go_at_call 109;refine (zM _ HF4.o.inv HF4.o.idx HF4.o.iH H4.o).mono ?_;rintro e w5 ⟨rfl,Uc⟩;have Kl:=Hd Uc;clear Uc)
     go_roundw;(case rel=>exact⟨i+1,(ri.eV i).2.jB,by omega,by go_num,HF5.o,eP.ahead L7.o LQ.o (eP.ahead LC.o RJ.o Kl.o),Xc.o,O1.o⟩);case measure=>simp[intOf];omega
    (obtain rfl:i=K:=by omega);have Of:Hy (dB.jm (List.range i) r1=ri):=Hd (by rw[Ya.o,bI (by simp)];rfl);obtain⟨ka,kc,Xl⟩:=mb H3.o.ck (by decide);obtain⟨n7,N0⟩:∃n7,n7=ri.ee.length:=⟨_,rfl⟩;(have c7:wb.cell? ⟨ob,7,none⟩=some (.slice ka n7 kc):=by rw[N0,<- Xl];exact H3.o.o_.cell 7);(have PZ:n7<=5:=by have:=H3.o.nc.2;omega);have NK:=Hd N0;clear Xl N0 S4;obtain⟨i0,KO,La,KH,KD⟩:=info_parts zO;(have Ke:i0.bytes*n7<=281474976710656:=by rw[KD];omega);have QX:=Hd (And.intro KO (And.intro La (And.intro KH Ke)));clear KO La KH KD Ke;(go_upto_region 10 with (refine wpList_make_full wb rfl (.tmp 31) (.tmp 31) 44 rfl wb.heap.size 3 i0 (.int .i64 0) 1 Tryz.underlying44 QX.o.1 QX.o.2.1 QX.o.2.2.1 .i64 .i64 n7 n7 n7 rfl rfl rfl rfl QX.o.2.2.2 (by unfold maxLen;omega) (aq _) ?_;rintro w6 Kj Mr));rw[ur]at Kj;have LG:Below wb.heap.size wb w6:=⟨Mr.os,Mr.tape,Mr.output,Mr.size,fun k hk=>Mr.block k hk (by simp)⟩;obtain⟨B,hB⟩:∃B,B=wb.heap.size:=⟨_,rfl⟩;have hoB:own3 B=0:=by rw[hB];exact H3.o.fr _ (aq _)
    have KQ:Row own3 0 w6 3 1 (.slice (some ⟨B,0,none⟩) n7 n7) n7 (ints (iA n7 0)):=by
     rw[hB];refine⟨kO Kj (bP _),fun g hg=>?_⟩;(have e:wb.heap.size=g:=by simpa[Value.ownBlock]using hg);rw[<- e,<- hB];exact hoB
    have PW:=Hd KQ;have Lg:=Hd LG;have Qh:=Hd hoB;have HBE:=Hd hB;rw[<- hB];clear Kj Mr LG hoB KQ hB QX c7;(go_wp2_with fail);(go_loopw [35] (fun q35 wx=>∃j:Nat,j<=n7/\q35=.int .i64 j/\Row own3 0 wx 3 1 (.slice (some ⟨B,0,none⟩) n7 n7) n7 (ints (iA n7 j))/\Below wb.heap.size wb wx) (fun q35 _=>n7-(intOf q35).toNat));case atStart=>exact⟨0,by omega,rfl,PW.o,Lg.o⟩
    case round =>
     clear PW Lg;obtain⟨j,hj,rfl,KQ,Lu⟩:=hrel;obtain⟨wd,hwd⟩:∃x,x=wr:=⟨_,rfl⟩;subst hwd;by_cases Pl:j<n7
     ·(have aaR:Row own3 0 wd 3 1 (.slice (some ⟨B,0,none⟩) n7 n7) (iA n7 j).length (ints (iA n7 j)):=by rw[G7 hj];exact KQ);obtain⟨g,cap,e1,-,Mi,z0,f0⟩:=jN aaR (G9 Pl);simp only[Value.slice.injEq,bq,Addr.mk.injEq,and_true]at e1;obtain⟨rfl,-,-⟩:=e1
      have Ny:Hy (Row own3 0 (wd.setCell ⟨B,j,none⟩ (.int .i64 1)) 3 1 (.slice (some ⟨B,0,none⟩) n7 n7) n7 (ints (iA n7 (j+1)))):=Hd (by
       have h1:=p4 KQ j (by omega) (.int .i64 1);rw[ints_set,Ha Pl]at h1
       exact h1)
      have MR:Hy (Below wb.heap.size wb (wd.setCell ⟨B,j,none⟩ (.int .i64 1))):=Hd (Lu.setCell (by show wb.heap.size<=B;rw[HBE.o];exact aq _) _);clear KQ aaR Lu;(go_wp2_with fail);go_roundw;(case rel=>exact⟨j+1,by omega,by go_num,Ny.o,MR.o⟩);case measure=>simp[intOf];omega
     (obtain rfl:j=n7:=by omega);rw[Hb]at KQ;(have NI:wd.ownsRow 0 3 1 (.slice (some ⟨B,0,none⟩) j j) (List.replicate j (1:Int)).length (ints (List.replicate j 1)):=by rw[bR];exact KQ.1);have H7:=Hd (H3.o.below Lu fun g hg=>H3.o.fr g (az Lu.size hg));have HFI2:Hy (Fit (bj+i) G ri):=Yg;have QP:=Hd (zF wd _ (List.replicate j 1) NI KQ.2 Yg.o.inv Yg.o.iU H7.o);have Tv:=Hd (Yg.o.jh (List.replicate j 1));have MR:=Hd Lu
     have Oe:Hy (dB.iw m r=dB.iw f (ri.fA (List.replicate j 1)).2.jB):=Hd (by
      rw[HE.o];show dB.iw f rj.round=_;unfold dB.round;rw[<- K3.o];dsimp only
      rw[<- HK.o,Of.o,<- NK.o])
     have HF9:Hy (Fit (bj+4) G (ri.fA (List.replicate j 1)).2.jB):=Hd (Tv.o.zN.jt (by omega));have HBK:Hy (bj+4+4*(f:Int)<=900000):=Hd (by have:=HBJ.o;omega);obtain⟨ev3,aaS⟩:∃x,x=fx (ri.fA (List.replicate j 1)).1:=⟨_,rfl⟩;rw[<- aaS]at QP;clear KQ NI Lu aaS Pl
     go_wp2_with first
      |(go_at_call 71;refine QP.o.mono ?_;rintro e w8 ⟨rfl,ae3,v8,h8,MS,K0⟩;have H8:=Hd h8;have PV:=Hd (show Ext wd own3 ae3 from MS);have ME:=Hd K0;clear h8 MS K0)
      |(go_at_call 109;refine (zM _ Tv.o.inv Tv.o.idx Tv.o.iH H8.o).mono ?_;rintro e w9 ⟨rfl,Pt⟩;have Ts:=Hd Pt;clear Pt)
     go_roundw
     case rel =>
      have s3:=eP.ahead (P:=P) (w0:=w0) (ob:=ob) (db:=db) (Ext.refl wb own3) (dD.fw (S:=fun g=>own3 g≠0) MR.o (aq _)) (eP.ahead PV.o ME.o Ts.o);exact⟨f,_,bj+4,by omega,by go_num,HF9.o,HBK.o,eP.ahead KS.o KP.o (eP.ahead KV.o K4.o (eP.ahead L7.o LQ.o s3)),Oe.o⟩
     case measure=>simp[intOf]
end
end fe
namespace fe
open Go.RowKit heap own eO fq eK dR eZ
open dI (dW dC dJ ga fB eA gL Net dB)
section
variable {P:Lib.PrintTabs} {own own1:Nat->Nat} {w0 w w':World} {ob db:Nat} {v v':WV} {r r':dB}
theorem He:(Tryz.prog.info? 127).map (fun i=>(i.zero,i.size,i.bytes))=some (some (.agg #[.int .i64 0,.int .i64 0,.int .i64 0,.string ByteArray.empty,.int .i64 0,.bool false,.bool false,.int .i64 0,.int .i64 0,.int .i64 0]),10,80):=by kernel_rfl
theorem zP (w:World):(w.alloc (.cells #[] 127)).ownsRow w.heap.size 127 10 (.slice (some ⟨w.heap.size,0,none⟩) 0 0) 0 []:=
 qD (l:=[]) (Has.new w _) (aq _) rfl (bP _)
theorem zQ (w:World) (h:dP P own w0 w ob db v r) (hl:r.ef.length<=100000) :
 Calls Tryz.prog 64 #[.pointer (some ⟨ob,0,none⟩)] w fun e w'=>∃u,e=.returned u/\w'.ownsRow w.heap.size 127 10 u r.ef.length (r.ef.flatMap fZ)/\Below w.heap.size w w':=by
 obtain⟨i0,KO,La,KH,KD⟩:=info_parts He;have HI:=Hd (And.intro KO (And.intro La (And.intro KH KD)));have M3:w.cell? ⟨ob,10,none⟩=some v.ev:=h.o_.cell 10;have Kg:=h.o_.lt;obtain⟨l,hle⟩:∃l,l=r.ef:=⟨_,rfl⟩;have Lw:=h.ev;rw[<- hle]at Lw hl⊢;clear hle h;rcases bx l.length with h0|h0
 ·have hv:v.ev=.slice none 0 0\/∃g cap,v.ev=.slice (some ⟨g,0,none⟩) 0 cap:=by
   rcases Lw.1.2 with⟨e,-⟩|⟨g,cap,cur,e,-⟩
   ·exact .inl e
   exact .inr ⟨g,cap,by rw[e,h0]⟩
  have OT:l=[]:=aP h0;clear Lw;subst OT;rcases hv with hv|⟨g,cap,hv⟩
  all_goals
   rw[hv]at M3;clear hv;(go_enter Tryz.func64,Tryz.ntmps64);go_wp2;go_ret;exact⟨_,rfl,zP w,(Below.refl _ _).alloc (aq _) _⟩
 obtain⟨g,cap,cur,hv,-,hg,Ln,KL,Mh,N2⟩:=Lw.shape h0;rw[hv]at M3;have HE:=Hd (zP w);have HG:=Hd hg;have H4:=Hd N2;have Mi:=Has.lt (w:=w) hg;clear hg N2 La KH KD KO Lw hv;(go_enter Tryz.func64,Tryz.ntmps64);go_wp2_with (at_builtin;refine wpList_append_own _ rfl (.tmp 3) (.tmp 7) 70 rfl w.heap.size 127 i0 _ 10 80 Tryz.underlying70 HI.o.1 HI.o.2.1 HI.o.2.2.1 HI.o.2.2.2 rfl (by decide) _ _ _ rfl HE.o ⟨g,0,none⟩ l.length cap (l.flatMap fZ) rfl (kS ni l) ?c1 ?c2 ?c3 ?c4 ?c5 ?_)
 case c1 =>
  intro j u hj;(have Pl:j<l.length*10:=by rw[<- kS ni l];exact (ar.1 hj).1);(have e:(⟨g,0,none⟩:Addr).add j=⟨g,j,none⟩:=by by_cases h0:j=0<;>simp[Addr.add,h0]);rw[e,(Has.alloc (w:=w) HG.o _).cell,<- hj,<- H4.o,cW,if_pos Pl,cC]
 (case c2=>exact tf rV l);(case c3=>unfold maxLen;omega);(case c4=>omega);(case c5=>simp);intro v2 w2 Kt KE _;go_wp2;go_ret
 exact⟨v2,rfl,Kt,((Below.refl _ _).alloc (aq _) _).grown KE (by simp) (fun k hk=>by
  have:w.heap.size=k:=by simpa[Value.ownBlock]using hk
  omega)⟩
end
section
variable {P:Lib.PrintTabs} {own own1:Nat->Nat} {w0 w w':World} {ob db:Nat} {v v':WV} {r r':dB}
theorem uv (tmps:Array Value) (W:World) (g:Nat) (cs:Array Value) (e:Value) (h2:tmps.getD 4 undef=.pointer (some ⟨g,0,none⟩)) (h3:tmps.getD 5 undef=e)
 (hg:Has W g (.cells cs 98)) (hs:cs.size=2):(results Tryz.f81 tmps).run Tryz.prog W=.ok (.tuple #[.agg cs,e]) W:=by
 rw[results_cell_tmp Tryz.results81,h2,h3];(have hi:(Tryz.prog.info? 98).map (·.size)=some cs.size:=by rw[hs];kernel_rfl);have:=run_loadVar_row (P:=Tryz.prog) W g 98 98 cs (0,0) _ hg Tryz.underlying98 rfl hi;simp[asAddr,Result.andThen,this]
theorem Hg (w:World) (o:Nat) (ho:o<8) (h:dP P own w0 w ob db v r) {s:dC} {sb:Nat} (hs:r.eD=some s) (hp:v.sp=.pointer (some ⟨sb,0,none⟩)) :
 Calls Tryz.prog 126 #[.pointer (some ⟨sb,0,none⟩),.int .i64 o] w fun e w'=>e=.returned (.tuple #[.agg #[.string ⟨(s.value o).data.toArray⟩,.int .i64 (s.value o).dY],.nilIface])/\Below w.heap.size w w':=by
 have hq:=h.dR;unfold gY at hq;rw[hs]at hq;obtain⟨sb2,wb,dm,tb,tm,v1,ps,qs,h1,h2⟩:=hq;have e:=hp.symm.trans h1;simp only[Value.pointer.injEq,bq,Addr.mk.injEq,and_true]at e;subst e;exact Hf w o ho h2
theorem Hh (w:World) (o:Nat) (ho:o<8) (h:dP P own w0 w ob db v r) {s:dC} (hs:r.eD=some s) :
 Calls Tryz.prog 81 #[.pointer (some ⟨ob,0,none⟩),.int .i64 o] w fun e w'=>e=.returned (.tuple #[.agg #[.string ⟨(s.value o).data.toArray⟩,.int .i64 (s.value o).dY],.nilIface])/\Below w.heap.size w w':=by
 rcases h.oy with⟨KK,-⟩|⟨s2,sb,KK,My⟩
 ·rw[hs]at KK;cases KK
 (have c4:w.cell? ⟨ob,4,none⟩=some (.pointer (some ⟨sb,0,none⟩)):=by rw[<- My];exact h.o_.cell 4);have KN:=h.o_.lt;have Kd:Below w.heap.size w (w.alloc (.cells #[.string ByteArray.empty,.int .i64 0] 98)):=(Below.refl _ _).alloc (aq _) _;have HV:=Hd (Hg (w.alloc (.cells #[.string ByteArray.empty,.int .i64 0] 98)) o ho (h.below Kd fun g hg=>h.fr g (az Kd.size hg)) hs My);have Ki:=Hd Kd;obtain⟨sd,hsd⟩:∃sd,sd=(s.value o).data:=⟨_,rfl⟩;obtain⟨sv,aaT⟩:∃sv,sv=(s.value o).dY:=⟨_,rfl⟩;rw[<- hsd,<- aaT]at HV⊢;clear h hs KK My Kd hsd aaT;go_enter Tryz.func81,Tryz.ntmps81
 go_wp2_with first
  |(go_at_call 126;refine HV.o.mono ?_;rintro e w2 ⟨rfl,Ke⟩;have HG:=Hd ((Has.new w (.cells #[.string ByteArray.empty,.int .i64 0] 98)).below Ke (by simp));have Kn:=Hd (Ki.o.trans (Ke.mono Ki.o.size));clear Ke)
  |(refine wpList_store_row rfl 98 (.tmp 4) (.tmp 19) rfl w.heap.size #[.string ⟨sd.toArray⟩,.int .i64 sv] rfl rfl 98 _ HG.o (by kernel_rfl) rfl (by simp[Value.oneCell']) ?_)
 exact bodyPost_ret (uv _ _ w.heap.size _ _ rfl rfl (HG.o.setRow _) rfl) rfl ⟨rfl,below_setRow Kn.o (aq _) _⟩
end
end fe
namespace fe
open Go.RowKit heap own eO fq eK dZ dR eZ
open dI (dW dC dJ ga fB eA gL Net dB)
section
variable {P:Lib.PrintTabs} {own own1 own2:Nat->Nat} {w0 w w1 w2 w':World} {ob db:Nat} {v v':WV} {r r':dB}
theorem An {P:Program} (w:World) {o:Oper} {a:Act} {K:Act->World->Prop} {Q:Exit->Act->World->Prop} (l c:Operand) (t:TypeId) (Ou:o.op=Op.makeSlice t l c)
 (base:Nat) (e:TypeId) (i:TypeInfo) (z:Value) (size:Nat) (h1:P.underlying t=some (.slice e)) (h2:P.info? e=some i) (h3:i.zero=some z) (h4:i.size=size)
 (kl kc:IntKind) (n:Nat) (hl:a.eval l=.int kl n) (hc:a.eval c=.int kc n) (b2:i.bytes*n<=281474976710656) (b3:n<=maxLen) (b4:base<=w.heap.size)
 (hK:∀w',w'.ownsRow base e size (.slice (some ⟨w.heap.size,0,none⟩) n n) n (madeCells z.cells (n*size)).toList->w.grownBy w' none->K (a.put o.dst (.slice (some ⟨w.heap.size,0,none⟩) n n)) w'):o.wp P a w K Q:=by
 obtain⟨w',L4,r1,r2⟩:=run_make_full (P:=P) w base t e i z size h1 h2 h3 h4 kl kc n b2 b3 b4;unfold Oper.wp;simp[execOp,Ou,hl,hc,L4,Result.andThen];exact hK w' r1 r2
structure Grow (own:Nat->Nat) (w:World) (own1:Nat->Nat) (w1:World) (c l o:Value) (kc kl ko:Nat) (xc xl xo:List Value):Prop where
 er:dD (fun g=>own g=61\/own g=62\/own g=65) w w1
 ext:Ext w own own1
 fr:∀g,w1.heap.size<=g->own1 g=0
 rc:Row own1 61 w1 75 1 c kc xc
 rl:Row own1 62 w1 3 1 l kl xl
 ro:Row own1 65 w1 3 1 o ko xo
section
variable {c l o c':Value} {kc kl ko k' g':Nat} {xc xl xo x':List Value}
theorem Grow.below (h:Grow own w own1 w1 c l o kc kl ko xc xl xo) (hb:Below w1.heap.size w1 w2):Grow own w own1 w2 c l o kc kl ko xc xl xo:=
 ⟨h.er.gn hb (aq _),h.ext,fun g hg=>h.fr g (az hb.size hg),h.rc.below hb,h.rl.below hb,h.ro.below hb⟩
theorem Grow.uJ (h:Grow own w own1 w1 c l o kc kl ko xc xl xo) {T:Nat} {u:Value} (hu:∀k,u.ownBlock=some k->own1 k=T) (h3:u.ownBlock=some g'\/g'=w1.heap.size):Ext w own (hJ own1 g' T):=fun g hg =>
 (pz (w:=w1) hu h3 g (ay hg h.er.size)).trans (h.ext g hg)
theorem Grow.uK (h:Grow own w own1 w1 c l o kc kl ko xc xl xo) {T:Nat} (hT:T=61\/T=62\/T=65) (ht:dD (fun k=>own1 k=T) w1 w2):dD (fun g=>own g=61\/own g=62\/own g=65) w w2:=
 h.er.trans ht fun g hg e=>by
  have e:own1 g=T:=e;rw[h.ext g hg]at e;rw[e];exact hT
theorem Grow.Iw (h:Grow own w own1 w1 c l o kc kl ko xc xl xo) (hr:Row (hJ own1 g' 61) 61 w2 75 1 c' k' x') (hg:w1.grownBy w2 c.ownBlock) (h3:c.ownBlock=some g'\/g'=w1.heap.size) (h4:g'<w2.heap.size):Grow own w (hJ own1 g' 61) w2 c' l o k' kl ko x' xl xo:=by
 have ht:=ox hg h.rc.2;have he:=pz (w:=w1) h.rc.2 h3;exact⟨h.uK (.inl rfl) ht,h.uJ h.rc.2 h3,rU h.fr ht.size h4,hr,h.rl.ej ht he fun k _ e e2=>by have e2:own1 k=61:=e2;omega,h.ro.ej ht he fun k _ e e2=>by have e2:own1 k=61:=e2;omega⟩
theorem Grow.Ix (h:Grow own w own1 w1 c l o kc kl ko xc xl xo) (hr:Row (hJ own1 g' 62) 62 w2 3 1 c' k' x') (hg:w1.grownBy w2 l.ownBlock) (h3:l.ownBlock=some g'\/g'=w1.heap.size) (h4:g'<w2.heap.size):Grow own w (hJ own1 g' 62) w2 c c' o kc k' ko xc x' xo:=by
 have ht:=ox hg h.rl.2;have he:=pz (w:=w1) h.rl.2 h3;exact⟨h.uK (.inr (.inl rfl)) ht,h.uJ h.rl.2 h3,rU h.fr ht.size h4,h.rc.ej ht he fun k _ e e2=>by have e2:own1 k=62:=e2;omega,hr,h.ro.ej ht he fun k _ e e2=>by have e2:own1 k=62:=e2;omega⟩
theorem Grow.Iy (h:Grow own w own1 w1 c l o kc kl ko xc xl xo) (hr:Row (hJ own1 g' 65) 65 w2 3 1 c' k' x') (hg:w1.grownBy w2 o.ownBlock) (h3:o.ownBlock=some g'\/g'=w1.heap.size) (h4:g'<w2.heap.size):Grow own w (hJ own1 g' 65) w2 c l c' kc kl k' xc xl x':=by
 have ht:=ox hg h.ro.2;have he:=pz (w:=w1) h.ro.2 h3;exact⟨h.uK (.inr (.inr rfl)) ht,h.uJ h.ro.2 h3,rU h.fr ht.size h4,h.rc.ej ht he fun k _ e e2=>by have e2:own1 k=65:=e2;omega,h.rl.ej ht he fun k _ e e2=>by have e2:own1 k=65:=e2;omega,hr⟩
end
structure Piece (own1:Nat->Nat) (w1:World) (G:Nat) (cs:Array Value) (t:TypeId):Prop where
 has:Has w1 G (.cells cs t)
 own:own1 G=0
section
variable {G g' T:Nat} {cs:Array Value} {t:TypeId} {u:Value}
theorem Piece.below (h:Piece own1 w1 G cs t) (hb:Below w1.heap.size w1 w2):Piece own1 w2 G cs t:=⟨h.has.below hb h.has.lt,h.own⟩
theorem Piece.app (h:Piece own1 w1 G cs t) (hT:T≠0) (hu:∀k,u.ownBlock=some k->own1 k=T) (hg:w1.grownBy w2 u.ownBlock) (h3:u.ownBlock=some g'\/g'=w1.heap.size):Piece (hJ own1 g' T) w2 G cs t:=by
 refine⟨(ox hg hu).has h.has (fun e=>hT (e.symm.trans h.own)),?_⟩;rw[pz (w:=w1) hu h3 G h.has.lt];exact h.own
theorem Piece.new (w1:World) (hf:∀g,w1.heap.size<=g->own1 g=0) (cs:Array Value) (t:TypeId):Piece own1 (w1.alloc (.cells cs t)) w1.heap.size cs t:=⟨Has.new w1 _,hf _ (aq _)⟩
end
theorem dP.Iz (h:dP P own w0 w ob db v r) {c l o:Value} {cb fm sm:Nat} {cv:Value} {cl:dJ} (hg:Grow own w own1 w1 c l o (r.dG.length+1) (r.eH.length+1) (r.eC.length+1) ((v.fW++[cb]).map fun b=>Value.pointer (some ⟨b,0,none⟩)) (ints (r.eH++[0])) (ints (r.eC++[-1])))
 (hc:eB own (20+4*r.dG.length) w cb fm sm cv cl) (h3:r.dG.length+1<=4) (h4:r.dG.length+2<=r.ee.length) :
 dP P own1 w0 (((w1.setCell ⟨ob,5,none⟩ c).setCell ⟨ob,6,none⟩ l).setCell ⟨ob,11,none⟩ o) ob db {v with cl:=c,li:=l,op:=o,fW:=v.fW++[cb]} {r with dG:=r.dG++[cl],eH:=r.eH++[0],eC:=r.eC++[-1]}:=by
 have Kr:dD (fun g=>g=ob) w1 (((w1.setCell ⟨ob,5,none⟩ c).setCell ⟨ob,6,none⟩ l).setCell ⟨ob,11,none⟩ o):=(((dD.refl (fun g=>g=ob) w1).setCell (p:=⟨ob,5,none⟩) (.inr rfl) _).setCell (p:=⟨ob,6,none⟩) (.inr rfl) _).setCell (p:=⟨ob,11,none⟩) (.inr rfl) _;obtain⟨W,hW⟩:∃W,W=((w1.setCell ⟨ob,5,none⟩ c).setCell ⟨ob,6,none⟩ l).setCell ⟨ob,11,none⟩ o:=⟨_,rfl⟩;have Ob:own1 ob=60:=(hg.ext ob h.o_.lt).trans h.fh
 have ht:dD (fun g=>g=ob\/own g=61\/own g=62\/own g=65) w W:=by
  rw[hW];exact (hg.er.mono fun g _ e=>.inr e).trans Kr fun g _ e=>.inl e
 have RV:∀g,W.heap.size<=g->own1 g=0:=fun g hge=>hg.fr g (az (by rw[hW];exact Kr.size) hge);have he:=hg.ext
 have no:∀g i,own g=i->i≠60->i≠61->i≠62->i≠65->¬(g=ob\/own g=61\/own g=62\/own g=65):=fun g i hi h1 h2 h3 h5 e=>by
  rcases e with e|e|e|e
  ·rw[e,h.fh]at hi;exact h1 hi.symm
  ·omega
  ·omega
  omega
 have n1:∀k,own1 k=61\/own1 k=62\/own1 k=65->¬k=ob:=fun k h1 e=>by rw[e,Ob]at h1;omega
 have r1:∀ {T e n u xs},(T=61\/T=62\/T=65)->Row own1 T w1 e 1 u n xs->Row own1 T W e 1 u n xs:=fun {T e n u xs} hT hr=>by
  rw[hW];exact hr.ej Kr (Ext.refl _ _) fun k _ hk=>n1 k (by omega)
 rw[<- hW];refine⟨RV,fun g Lo=>?_,?_,Ob,h.dR.ej ht he RV fun g _ e=>?_,?_,?_,fun j x hj=>?_,?_,?_,h.ck.ej ht he fun i _ hi=>no i 63 hi (by decide) (by decide) (by decide) (by decide),h.ev.ej ht he fun i _ hi=>no i 64 hi (by decide) (by decide) (by decide) (by decide),?_,?_,h.right,?_,?_,?_⟩
 ·rcases aW g w.heap.size with h1|h1
  ·rw[he g h1]at Lo;exact h.low g Lo
  exact az h.fF.size h1
 ·have h7:Has w1 ob (.cells (kX db v r) 72):=hg.er.has h.o_ (by rw[h.fh];decide);rw[hW];exact ((h7.eu 5 c).eu 6 l).eu 11 o
 ·rcases e with e|e
  ·exact⟨fun e2=>by unfold ey at e2;rw[e,h.fh]at e2;omega,by rw[e];exact h.low ob (by rw[h.fh];decide)⟩
  exact⟨fun e2=>by unfold ey at e2;omega,h.low g (by omega)⟩
 ·simp only[aA,aQ];exact r1 (.inl rfl) hg.rc
 ·simp only[aA,aQ,h.pl]
 ·have Ut:∀i,i<4->∀g,g<w.heap.size->(g=ob\/own g=61\/own g=62\/own g=65)->¬fC own (20+4*i) g:=fun i hi g _ e hc=>by
   unfold fC at hc;rcases e with e|e
   ·rw[e,h.fh]at hc;omega
   omega
  have hj:(r.dG++[cl])[j]?=some x:=hj;rw[List.getElem?_append]at hj;split at hj
  ·rename_i Pl;obtain⟨cb2,fm2,iI,ZS,h1,h2⟩:=h.cls j x hj;refine⟨cb2,fm2,iI,ZS,?_,h2.er ht he fun g Mi e=>Ut j (by omega) g Mi e⟩;show (v.fW++[cb])[j]?=some cb2;rw[aV (by rw[h.pl];exact Pl)];exact h1
  rename_i Pl
  obtain⟨e0,e1⟩:j=r.dG.length/\cl=x:=by
   have h0:j-r.dG.length=0:=by
    have:=(ar.mp hj).1;simp at this;omega
   rw[h0]at hj;exact⟨by omega,by simpa using hj⟩
  subst e0 e1;refine⟨cb,fm,sm,cv,?_,hc.er ht he fun g Mi e=>Ut _ (by omega) g Mi e⟩;show (v.fW++[cb])[r.dG.length]?=some cb;rw[aL (by rw[h.pl];exact aq _),h.pl,cX];rfl
 ·simp only[aA,aQ];exact h3
 ·simp only[aA,aQ];exact r1 (.inr (.inl rfl)) hg.rl
 ·simp only[aA,aQ];exact r1 (.inr (.inr rfl)) hg.ro
 ·obtain⟨ps,h1,h2,h5,h6⟩:=h.dM;exact⟨ps,h1,h2.ej ht he fun i _ hi=>no i 66 hi (by decide) (by decide) (by decide) (by decide),fun p hp=>(h5 p hp).ej ht he fun i _ hi=>no i 67 hi (by decide) (by decide) (by decide) (by decide),h6⟩
 ·simp only[aA,aQ,h.nl]
 ·simp only[aA,aQ];exact⟨by omega,h.nc.2⟩
 simp only[aA,aQ,h.no]
end
end fe
end Go.Proofs.YtlhodcmdpchllaaGreatDoor
