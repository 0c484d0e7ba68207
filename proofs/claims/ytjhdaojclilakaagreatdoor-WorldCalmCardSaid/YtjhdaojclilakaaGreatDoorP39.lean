/-
  A part of the proof of the law WorldCalm: WoO, WoP, WoQ, WoR, KpA, WoS.
-/
import Derived.OwnWalk
import Derived.Deep.DeepCutAuto
import Derived.Deep.CutBlock
import Derived.Test.YtjhdaojclilakaaGreatDoorHd
import Derived.Test.YtjhdaojclilakaaGreatDoorP38
set_option maxHeartbeats 16000000
set_option maxRecDepth 1000000
namespace Go.Proofs.YtjhdaojclilakaaGreatDoor
section
variable {p q:Prop}
theorem aaB (z:q) (h:Hy q->p:=by
 intro zz;have hbb:BB w w5:=((Below.refl _ w).drew).trans hbN;have HBB:=Hd hbb;have PF:Hy ((fun W=>CI W ob 0 r.eZ.eF/\CI W ob 1 r.eZ.fa/\CI W ob 2 r.eZ.fH/\CS W ob 6 g6 n6 Rp/\CI W g6 n lv/\CS W ob 7 g7 n7 P0/\CI W g7 n1 cn) w5):=Hd ⟨(hbb.cell (p:=⟨ob,0,none⟩) Qc).trans d0,(hbb.cell (p:=⟨ob,1,none⟩) Qc).trans d1,(hbb.cell (p:=⟨ob,2,none⟩) Qc).trans d2,(hbb.cell (p:=⟨ob,6,none⟩) Qc).trans c6,(hbb.cell (p:=⟨g6,n,none⟩) Xb).trans z6,(hbb.cell (p:=⟨ob,7,none⟩) Qc).trans c7,(hbb.cell (p:=⟨g7,n1,none⟩) UA).trans z7⟩;refine hK.out _ _ (fun _=>PF.o) ?_;have HS:=PF;refine last.many [(22,12,_),(23,35,_),(24,36,_),(25,5,_),(26,6,_)] HS.o ?_;refine last.done ?_;revert HBB PF HS;exact zz.o):p:=h z
theorem ab7 (z:q) (h:Hy q->p:=by
 intro zz;refine last.iJ (fun W=>CI W ob 0 r.eZ.eF/\CI W ob 1 r.eZ.fa/\CI W ob 2 r.eZ.fH/\CS W ob 6 g6 n6 Rp/\CI W g6 n lv/\CS W ob 7 g7 n7 P0/\CI W g7 n1 cn) 1000 27 ⟨d0,d1,d2,c6,z6,c7,z7⟩ fun HS=>?_;revert HS;exact zz.o):p:=h z
end
namespace iv
open Go.RowKit heap own gC gO fD fj gj
open eY (fe eA eM iM iw fU fY Net eC)
open fK (Idx Inv Tos Clk)
section
variable {P:Lib.PrintTabs} {own own1:Nat->Nat} {w0 w w':World} {ob db:Nat} {v v':WV} {r r':eC}
theorem fp.Ml (h:fp P own w0 w ob db v r) (k:Nat) (u:k<r.eD.length) {g cap:Nat} (hv:v.cl=.slice (some ⟨g,0,none⟩) r.eD.length cap) (n:own g=61) {c':eM} {a x sm:Nat} {y:Value} (hc:fM own (20+4*k) w a x sm y c') :
 fp P own w0 (w.setCell ⟨g,k,none⟩ (VP a 0)) ob db {v with ja:=v.ja.set k a} {r with eD:=r.eD.set k c'}:=by
 obtain⟨F,a2,a3,a4⟩:=h.uW (w':=w.setCell ⟨g,k,none⟩ (VP a 0)) g 61 n aj aj;have ht:eJ (fun i=>i=g) w (w.setCell ⟨g,k,none⟩ (VP a 0)):=fF.gX (eJ.refl _ _) _ _;have he:=Ext.refl w own;have z:∀i,(w.setCell ⟨g,k,none⟩ (VP a 0)).heap.size<=i->own i=0:=fun i hi=>a4 i hi ht.size;(have A:∀j,j<4->∀i,i<w.heap.size->i=g->¬hO own (20+4*j) i:=fun j hj i _ e hc=>by unfold hO at hc;rw[e,n]at hc;omega);have C:k<4:=aG u h.gz;refine⟨z,h.low,h.o_.jv (Ne.symm a3) _,h.gI,h.fj.fc ht he z fun i _ e=>?_,?_,?_,fun j c hj=>?_,?_,h.li.fc ht he fun i hi ho=>a2 i 62 hi ho aj,h.ck.fc ht he fun i hi ho=>a2 i 63 hi ho aj,h.ev.fc ht he fun i hi ho=>a2 i 64 hi ho aj,h.op.fc ht he fun i hi ho=>a2 i 65 hi ho aj,?_,h.right,?_,?_,?_⟩
 ·have e:i=g:=e;exact⟨fun B=>by unfold fL at B;rw[e,n]at B;omega,by rw[e];exact h.low g (by rw[n];decide)⟩
 ·have d:=h.cl;rw[hv]at d;have f:=rH d k ab (VP a 0);simp only[aU];rw[hv,List.map_set];exact f
 ·simp only[aU];exact h.pl
 ·have l:(r.eD.set k c')[j]?=some c:=hj;rw[bt]at l;split at l
  ·rename_i b;subst b;cases l;refine⟨a,x,sm,y,?_,hc.fI ht he fun i hi e=>A k C i hi e⟩;show (v.ja.set k a)[k]?=some a;rw[aS (by rw[h.pl];exact u)]
  rename_i b;obtain⟨m,o,q,s,d,f⟩:=h.cls j c l;have t:j<4:=aG (az.mp l).1 h.gz;refine⟨m,o,q,s,?_,f.fI ht he fun i hi e=>A j t i hi e⟩;show (v.ja.set k a)[j]?=some m;rw[a8 b];exact d
 ·rw[aU];exact h.gz
 ·obtain⟨ps,d,f,D,E⟩:=h.eH;exact⟨ps,d,f.fc ht he fun i hi ho=>a2 i 66 hi ho aj,fun p hp=>(D p hp).fc ht he fun i hi ho=>a2 i 67 hi ho aj,E⟩
 ·rw[aU];exact h.nl
 ·rw[aU];exact h.nc
 rw[aU];exact h.no
theorem C5 {k d e sm:Nat} {c:eM} {f:Value} (h:fp P own w0 w ob db v r) (he:Ext w own own1) (b:∀g,w'.heap.size<=g->own1 g=0) (hc:fM own1 (20+4*k) w' d e sm f c) (hb:BB w w') :
 ∃a,fp P a w0 w' ob db v r/\Ext w own a/\fM a (20+4*k) w' d e sm f c:=by
 have j:=s7 (own:=own) (own1:=own1) (lo:=20+4*k) (hi:=20+4*k+4) hb.size b;have l:=Cj (own1:=only own own1 w (20+4*k) (20+4*k+4)) hc fun g i h1 h2 h3=>sZ he g i h1 h2 h3;refine⟨only own own1 w (20+4*k) (20+4*k+4),h.fc (S:=fun _=>False) (eJ.il hb (ax _)) (mX _ _ _ _ _) j (fun g hg=>?_) fun _ _ h=>h.elim,mX _ _ _ _ _,l⟩;rcases bk g w.heap.size with h1|h1
 ·rw[mX own own1 w _ _ g h1]at hg;exact h.low g hg
 exact aB h.iA.size h1
theorem Mm (w:World) (k:Int) (h:fp P own w0 w ob db v r) :
 Calls Tryz.prog 25 #[VP ob 0,VI k] w fun e w'=>e=.returned (iC (r.jG k).1)/\gh P own w0 ob db w (r.jG k).2 w':=by
 have TS:=Hd (uU w k h)
 cases hr:r.right k with
 |false =>
  rw[hr]at TS;have HR:Hy (r.jG k=(2,r)):=Hd (by unfold eC.jG;rw[hr];rfl);have H:=Hd h;clear h hr;(go_enter Tryz.func25,Tryz.ntmps25);exact aa5
 |true =>
  rw[hr]at TS;obtain⟨n,rfl,hn⟩:=oT hr;(have SA:n<r.fy.length:=by rw[h.nl];exact hn);have I:r.fy[n]?=some r.fy[n]:=ay SA;generalize r.fy[n]=lv at I;obtain⟨n1,SP⟩:=nm (n+1);(have m:n1<r.eN.length:=by have:=h.nc.1;omega);have PH:r.eN[n1]?=some r.eN[n1]:=ay m;generalize r.eN[n1]=cn at PH;obtain⟨j,ZF⟩:=nm (wrap64 (lv+1));(have ew:IntKind.i64.wrap (lv+1)=j:=by rw[IntWalk.i64_left,ZF]);have a6:n<4:=aG hn h.gz;have a7:IntKind.i64.wrap ((n:Int)+1)=(n1:Int):=by simp only[IntKind.wrap_i64];omega
  have HR:Hy (r.jG n=match eM.new (n:Int) r.eZ j cn with
   |none=>(2,r)
   |some c=>(0,{r with fy:=r.fy.set n j,eD:=r.eD.set n c,ft:=r.ft.set n (-1)}.fA)):=Hd (by
   (have e1:r.fy.getD n 0=lv:=by rw[aC,I];rfl);(have e2:r.eN.getD (n+1) 0=cn:=by rw[aC,<- SP,PH];rfl);unfold eC.jG;rw[hr];simp only[cT,bh,if_false,bo];rw[e1,e2,<- ZF]
   rfl)
  obtain⟨x,hx⟩:=nm (eM.new (n:Int) r.eZ j cn);rw[<- hx]at HR;obtain⟨g6,Rp,F,J,Xb,z6,f6⟩:=lE h.li I;obtain⟨g7,P0,Tz,Te,UA,z7,f7⟩:=lE h.ck PH;obtain⟨n6,t⟩:=nm r.fy.length;obtain⟨n7,TB⟩:=nm r.eN.length;(have c6:w.cell? ⟨ob,6,none⟩=some (.slice (some ⟨g6,0,none⟩) n6 Rp):=by rw[t,<- F];exact h.o_.cell 6);(have c7:w.cell? ⟨ob,7,none⟩=some (.slice (some ⟨g7,0,none⟩) n7 P0):=by rw[TB,<- Tz];exact h.o_.cell 7);have d0:CI w ob 0 r.eZ.eF:=h.o_.cell 0;have d1:CI w ob 1 r.eZ.fa:=h.o_.cell 1;have d2:CI w ob 2 r.eZ.fH:=h.o_.cell 2;have SF:=Hd (BE (own:=own) (T:=20+4*n) (n:Int) j cn r.eZ w.drew fun g hg=>h.fr g hg);rw[<- hx]at SF;have Qc:ob<w.heap.size:=h.o_.lt;rw[<- t]at SA;rw[<- TB]at m;have H:=Hd h;have HN:=Hd hn;have UU:=Hd I;have an:=Hd t;have bb:=Hd SP;clear h hr I PH ZF hx F Tz J Te f6 f7 t TB SP hn;(go_enter Tryz.func25,Tryz.ntmps25);go_upto_region 3 with (go_at_call 38;refine TS.o.mono ?_;rintro e w' ⟨rfl,rfl⟩)
  cases x with
  |none =>
   refine ab7 ?_;intro HS;refine last.many [(0,13,_),(1,14,_),(2,15,_),(3,16,_),(4,17,_),(5,18,_),(6,19,_),(7,20,_),(8,21,_),(9,22,_),(10,23,_),(11,24,_),(12,25,_),(13,26,_),(14,27,_),(15,28,_),(16,29,_),(17,30,_),(18,31,_),(19,32,_),(20,33,_)] HS.o ?_ (hy:=fun W' b=>by have e0:=b.1;have e1:=b.2.1;have e2:=b.2.2.1;have f0:=b.2.2.2.1;have f1:=b.2.2.2.2.1;have f2:=b.2.2.2.2.2.1;have f3:=b.2.2.2.2.2.2;repeat (first|exact .z|refine .s ?_|refine .k ?_));refine last.one 21 fun K hK=>?_;go_simp;refine SF.o.mono ?_;rintro e w5 ⟨rfl,hbN⟩;rw[show iC 2=.iface 70 (VI 2) from rfl];refine aaB ?_;clear hbN hK K HS;intro HBB PF HS;clear d0 d1 d2 c6 z6 c7 z7 HS Xb UA m;(go_wp2_with fail);go_ret;rw[HR.o];exact⟨rfl,(gh.here H.o).below HBB.o⟩
  |some c =>
   refine ab7 ?_;intro HS;refine last.many [(0,13,_),(1,14,_),(2,15,_),(3,16,_),(4,17,_),(5,18,_),(6,19,_),(7,20,_),(8,21,_),(9,22,_),(10,23,_),(11,24,_),(12,25,_),(13,26,_),(14,27,_),(15,28,_),(16,29,_),(17,30,_),(18,31,_),(19,32,_),(20,33,_)] HS.o ?_ (hy:=fun W' b=>by have e0:=b.1;have e1:=b.2.1;have e2:=b.2.2.1;have f0:=b.2.2.2.1;have f1:=b.2.2.2.2.1;have f2:=b.2.2.2.2.2.1;have f3:=b.2.2.2.2.2.2;repeat (first|exact .z|refine .s ?_|refine .k ?_));refine last.one 21 fun K hK=>?_;go_simp;refine SF.o.mono ?_;rintro e w5 ⟨Zj,l,L,M,rfl,Vs,N,O,hbN,-⟩;have Q:=Hd Vs;have R:=Hd N;have S:=Hd O;have U:=Hd hbN;clear Vs N O;refine aaB ?_;clear hbN hK K HS;intro HBB PF HS;clear d0 d1 d2 c6 z6 c7 z7 HS Xb UA m;obtain⟨a,k1,k2,k3⟩:=C5 (H.o.below (Below.refl _ _).drew H.o.fr) Q.o R.o S.o U.o;have H5:=Hd k1;have Rm:Hy (Ext w own a):=Hd fun g hg=>k2 g hg;have UT:=Hd k3;have RT:Hy (BB w w5):=HBB;clear k1 k2 k3 Q R S U HBB SF;have bg:Hy (fp P a w0 w5 ob db v r):=H5;(go_upto_region 7 with (go_at_call 39;refine (qJ _ H5.o).mono ?_;rintro e G ⟨rfl,h6,RJ⟩;have H6:=Hd h6;have Uj:=Hd RJ;clear h6 RJ));have RP:Hy (fM a (20+4*n) G l L M (.slice none 0 0) c):=Hd (UT.o.fI Uj.o (Ext.refl _ _) fun g _ e hc=>by have e:g=ob:=e;unfold hO at hc;rw[e,H5.o.gI]at hc;omega);have B:r.fA.fy[n]?=some lv:=UU.o;obtain⟨g6,Rp,F,J,Xb,z6,f6⟩:=lE H6.o.li B;(have c6:G.cell? ⟨ob,6,none⟩=some (.slice (some ⟨g6,0,none⟩) n6 Rp):=by rw[an.o];exact (H6.o.o_.cell 6).trans (congrArg some F));obtain⟨d,VU⟩:=nm ({r.fA with fy:=r.fA.fy.set n j}:eC);have u:Hy (fp P a w0 (G.setCell ⟨g6,n,none⟩ (VI j)) ob db v d):=Hd (by rw[VU];exact H6.o.Le n j (az.1 B).1 F J);have RY:Hy (eJ (fun g=>g=g6) G (G.setCell ⟨g6,n,none⟩ (VI j))):=Hd (fF.gX (eJ.refl _ _) _ _);have V:=Hd J;have X:=Hd VU;clear B F J VU Xb;(go_upto_region 8 with fail);obtain⟨f,UZ⟩:=nm (G.setCell ⟨g6,n,none⟩ (VI j));rw[<- UZ]at u RY⊢;have aq:Hy (fM a (20+4*n) f l L M (.slice none 0 0) c):=Hd (RP.o.fI RY.o (Ext.refl _ _) fun g _ e hc=>by have e:g=g6:=e;unfold hO at hc;rw[e,V.o]at hc;omega);clear UZ c6 z6 f6;(have Y:d.eD.length=r.eD.length:=by rw[X.o];rfl);(have y:n<d.eD.length:=by rw[Y];exact HN.o);obtain⟨g5,Qe,bj,bl,b1,b2,R1,Z,Vp,Sn,z5,f5,SJ⟩:=u.o.pt (ay y);(have C:n<d.ft.length:=by rw[u.o.no];exact y);obtain⟨g8,To,Vo,Sb,ZX,z8,f8⟩:=lE u.o.op (ay C);obtain⟨m5,D⟩:=nm d.eD.length;obtain⟨m8,Ya⟩:=nm d.ft.length;(have c5:f.cell? ⟨ob,5,none⟩=some (.slice (some ⟨g5,0,none⟩) m5 Qe):=by rw[D];exact (u.o.o_.cell 5).trans (congrArg some R1));(have VQ:f.cell? ⟨ob,11,none⟩=some (.slice (some ⟨g8,0,none⟩) m8 To):=by rw[Ya];exact (u.o.o_.cell 11).trans (congrArg some Vo));(have aa:ob≠g5:=fun e=>by have:=u.o.gI;rw[e,Z]at this;cases this);(have ad:g8≠g5:=fun e=>by rw[e,Z]at Sb;cases Sb);generalize d.ft[n]=ov at z8;have H8:Hy (fp P a w0 (f.setCell ⟨g5,n,none⟩ (VP l 0)) ob db {v with ja:=v.ja.set n l} {d with eD:=d.eD.set n c}):=Hd (u.o.Ml n y R1 Z aq.o);have RW:Hy (eJ (fun g=>a g≠0) f (f.setCell ⟨g5,n,none⟩ (VP l 0))):=Hd ((eJ.refl (fun g=>a g≠0) f).setCell (p:=⟨g5,n,none⟩) (.inr (by show a g5≠0;rw[Z];decide)) _);have ar:=Hd Vo;have Yk:=Hd Sb;have QY:=Hd C;rw[<- D]at y;rw[<- Ya]at C;have al:ob<f.heap.size:=u.o.o_.lt;clear R1 Z Sn SJ Vo Sb D Ya Y Vp;refine last.iJ (fun W=>CS W ob 5 g5 m5 Qe/\CS W ob 11 g8 m8 To) 14 15 ⟨c5,VQ⟩ fun HS=>?_;refine last.many [(0,51,_),(1,52,_),(2,53,_),(3,54,_),(4,55,_),(5,56,_),(6,57,_),(7,58,_),(8,59,_),(9,60,_),(10,61,_),(11,62,_)] HS.o ?_ (hy:=fun W' b=>by have e1:=b.1;have f0:=b.2;repeat (first|exact .z|refine .s ?_|refine .k ?_));refine last.one 12 fun K hK=>?_;go_simp;have Qm:eJ (fun i=>i=g5) f (f.setCell ⟨g5,n,none⟩ (VP l 0)).drew:=(fF.gX (eJ.refl _ _) _ _).drew;have E:Hy ((fun W=>CS W ob 5 g5 m5 Qe/\CS W ob 11 g8 m8 To) (f.setCell ⟨g5,n,none⟩ (VP l 0)).drew):=Hd ⟨(Qm.cell (p:=⟨ob,5,none⟩) al aa).trans c5,(Qm.cell (p:=⟨ob,11,none⟩) al aa).trans VQ⟩;have q8:=(Qm.cell (p:=⟨g8,n,none⟩) ZX ad).trans z8;have k8:=(Qm.frozen (p:=⟨g8,n,none⟩) ZX ad).trans f8;obtain⟨w8,A⟩:=nm ((f.setCell ⟨g5,n,none⟩ (VP l 0)).drew);rw[<- A]at E q8 k8⊢;have au:Hy (fp P a w0 w8 ob db {v with ja:=v.ja.set n l} {d with eD:=d.eD.set n c}):=Hd (by rw[A];exact H8.o.below (Below.refl _ _).drew H8.o.fr);have a1:Hy (eJ (fun g=>a g≠0) f w8):=Hd (by rw[A];exact RW.o.drew);clear Qm A;refine hK.out _ _ (fun _=>E.o) ?_;clear hK K HS;have HS:=E;refine last.many [(13,63,_)] HS.o ?_;refine last.one 14 fun K hK=>?_;go_simp;refine hK.out _ _ (fun h=>absurd rfl h) ?_;clear hK K;refine last.done ?_;have h9:=au.o.uX n (-1) QY.o ar.o Yk.o;have H9:=Hd h9;have VG:Hy (eJ (fun g=>a g≠0) f (w8.setCell ⟨g8,n,none⟩ (VI (-1)))):=Hd (a1.o.setCell (p:=⟨g8,n,none⟩) (.inr (by show a g8≠0;rw[Yk.o];decide)) _);clear h9 HS q8 k8;(go_wp2_with fail);go_ret;rw[HR.o];refine⟨rfl,a,{v with ja:=v.ja.set n l},?_,Rm.o,?_⟩
   ·(have e:({r with fy:=r.fy.set n j,eD:=r.eD.set n c,ft:=r.ft.set n (-1)}:eC).fA={d with eD:=d.eD.set n c,ft:=d.ft.set n (-1)}:=by rw[X.o];rfl);show fp P a w0 _ ob db _ ({r with fy:=r.fy.set n j,eD:=r.eD.set n c,ft:=r.ft.set n (-1)}:eC).fA;rw[e];exact H9.o
   have t5:eJ (fun g=>a g≠0) w5 (w8.setCell ⟨g8,n,none⟩ (VI (-1))):=(((H5.o.pT Uj.o).trans (RY.o.mono fun g _ e=>by have e:g=g6:=e;show a g≠0;rw[e,V.o];decide) fun _ _ e=>e).trans VG.o fun _ _ e=>e)
   exact (eJ.il RT.o (ax _)).trans t5 fun g hg e=>by
    have e:a g≠0:=e;show own g≠0;rw[<- Rm.o g hg];exact e
end
section
variable {P:Lib.PrintTabs} {own own1:Nat->Nat} {w0 w w':World} {ob db:Nat} {v v':WV} {r r':eC}
theorem Mn (f:Nat) {w:eC} (h:w.eH.l=[]):eC.ia f w=w:=by
 cases f with
 |zero=>rfl
 |succ f=>unfold eC.ia;rw[h];rfl
theorem Mo (f:Nat) {w:eC} (h:w.eH.l≠[]):eC.ia (f+1) w=eC.ia f (w.gS 0).2:=by
 rw[eC.ia,if_neg];intro e;exact h (dG.1 e)
theorem Mp (w:World) (h:fp P own w0 w ob db v r):Calls Tryz.prog 33 #[VP ob 8] w fun e w'=>e=.returned (VI r.eH.l.length)/\w=w':=by
 obtain⟨a,c,b⟩:=h.sU;(have c8:w.cell? ⟨ob,8,none⟩=some (.slice a r.eH.l.length c):=by rw[<- b];exact h.o_.cell 8);exact eH.BM ob 8 a r.eH.l.length c w c8
theorem C6 (w:World) {b:Int} {G:fK.gd} (hi:Inv b G r) (c:Idx r) (ht:Tos r) (h:fp P own w0 w ob db v r) :
 Calls Tryz.prog 28 #[VP ob 0] w fun e w'=>e=.returned (.tuple #[])/\gh P own w0 ob db w r.gi w':=by
 have d:Hy (Inv b G r/\Idx r/\Tos r/\gh P own w0 ob db w r w):=Hd ⟨hi,c,ht,gh.here h⟩;clear hi c ht h;(go_enter Tryz.func28,Tryz.ntmps28);(go_wp2_with fail);(go_loopw [2] (fun n E=>∃(j f:Nat) (a:eC),j+f=1000/\n=VI j/\Inv b G a/\Idx a/\Tos a/\gh P own w0 ob db w a E/\r.gi=eC.ia f a) (fun n _=>1000-(intOf n).toNat));case atStart=>exact⟨0,1000,r,ab,rfl,d.o.1,d.o.2.1,d.o.2.2.1,d.o.2.2.2,rfl⟩
 case round =>
  clear d;obtain⟨j,f,a,F,rfl,hi,c,ht,hs,he⟩:=hrel;obtain⟨own1,v1,i,z,A⟩:=hs;have k:=Hd (Mp wr i);obtain⟨m,hm⟩:=nm a.eH.l.length;rw[<- hm]at k;have p:=Hd he;have B:=Hd hm;have q:=Hd (CE wr 0 hi c ht i);have s:Hy (Inv b G (a.gS 0).2/\Idx (a.gS 0).2/\Tos (a.gS 0).2):=Hd ⟨fK.oO hi 0,c.ku 0,ht.ku 0⟩;have H1:=Hd i;have t:=Hd z;have u:=Hd A;clear hi c ht he hm i z A;by_cases x:m=0
  ·subst x
   have g:Hy (r.gi=a):=Hd (by rw[p.o,Mn _ (bc B.o.symm)])
   go_wp2_with (go_at_call 33;refine k.o.mono ?_;rintro e C ⟨rfl,rfl⟩)
   go_end0
   rw[g.o];exact⟨rfl,own1,v1,H1.o,t.o,u.o⟩
  (have y:a.eH.l≠[]:=fun e=>by have:=B.o;rw[e]at this;simp at this;omega);have H:0<m:=ab;have d0:decide ((0:Int)<(m:Int))=true:=decide_eq_true ab
  cases f with
  |succ f =>
   have d1:decide ((j:Int)<1000)=true:=decide_eq_true ab;have g:Hy (r.gi=eC.ia f (a.gS 0).2):=Hd (by rw[p.o,Mo f y]);clear y
   go_wp2_with first
    |(go_at_call 33;refine k.o.mono ?_;rintro e C ⟨rfl,rfl⟩)
    |(go_at_call 19;refine q.o.mono ?_;rintro e J ⟨rfl,D⟩;have I:=Hd D;clear D)
   go_roundw;(case rel=>exact⟨j+1,f,(a.gS 0).2,ab,by go_num,s.o.1,s.o.2.1,s.o.2.2,gh.ahead t.o u.o I.o,g.o⟩);case measure=>simp[intOf];omega
  |zero =>
   have d1:decide ((j:Int)<1000)=false:=decide_eq_false ab
   have g:Hy (r.gi=a):=Hd (by rw[p.o];rfl)
   clear F y
   go_wp2_with (go_at_call 33;refine k.o.mono ?_;rintro e C ⟨rfl,rfl⟩)
   go_end0
   rw[g.o];exact⟨rfl,own1,v1,H1.o,t.o,u.o⟩
end
section
variable {P:Lib.PrintTabs} {own own1:Nat->Nat} {w0 w w':World} {ob db:Nat} {v v':WV} {r r':eC}
structure Fit (b:Int) (G:fK.gd) (r:eC):Prop where
 inv:Inv b G r
 idx:Idx r
 iT:Tos r
 ik:Clk r
theorem Fit.lF {b:Int} {G:fK.gd} (h:Fit b G r):Fit b G r.gK.2:=⟨fK.qL h.inv,h.idx.lF,h.iT.lF,h.ik.same (fK.yi r)⟩
theorem Fit.jd {b:Int} {G:fK.gd} (h:Fit b G r) (hb:b<1000000) (k:Int):Fit (b+1) G (r.fh k).2:=⟨fK.nP h.inv hb k,h.idx.jd k,h.iT.jd k,h.ik.same (fK.rR r k)⟩
theorem Fit.p7 {b:Int} {G:fK.gd} (h:Fit b G r):Fit b G r.gi:=⟨fK.pW _ h.inv,fK.Idx.ki _ h.idx,fK.Tos.ki _ h.iT,h.ik.same (fK.pZ _ r)⟩
theorem Fit.iB {b:Int} {G:fK.gd} (h:Fit b G r) (l:List Int):Fit b G (r.fu l).2:=⟨fK.pV h.inv l,h.idx.iB l,h.iT.iB l,h.ik.iB l⟩
theorem Fit.gx {b b':Int} {G:fK.gd} (h:Fit b G r) (hb:b<=b'):Fit b' G r:=⟨h.inv.gx hb,h.idx,h.iT,h.ik⟩
theorem vA:(Tryz.prog.info? 3).map (fun i=>(i.zero,i.size,i.bytes))=some (some (VI 0),1,8):=af
def jX (n i:Nat):List Int:=List.replicate i 1++List.replicate (n-i) 0
theorem Mq {n i:Nat} (h:i<=n):(jX n i).length=n:=by simp[jX];omega
theorem Mr {n i:Nat} (h:i<n):(jX n i)[i]?=some 0:=by
 unfold jX;rw[aR ae,cz,dA,bC,if_pos ab]
theorem Ms {n i:Nat} (h:i<n):(jX n i).set i 1=jX n (i+1):=by
 unfold jX;obtain⟨m,hm⟩:∃m,n-i=m+1:=⟨n-i-1,ab⟩;rw[hm,show n-(i+1)=m by omega,dY (n:=m),bE _ _ ae,cz,dA,bn,List.replicate_succ' (n:=i)];simp
theorem Mt (n:Nat):jX n n=List.replicate n 1:=by simp[jX]
theorem vB (n:Nat):(madeCells (VI 0).cells (n*1)).toList=ints (jX n 0):=by
 apply List.ext_getElem?;intro j;by_cases a:j<n
 ·simp[madeCells,jX,ints,a,Nat.mod_one,Value.cells]
 simp[madeCells,jX,ints,a]
theorem th (w:World) (m:Nat) (hm:m<=1000) {b:Int} {G:fK.gd} (hf:Fit b G r) (hb:b+4*m<=900000) (h:fp P own w0 w ob db v r) :
 Calls Tryz.prog 9 #[VP ob 0,VI m] w fun e w'=>e=.returned (.tuple #[])/\gh P own w0 ob db w (eC.iz m r) w':=by
 have H0:Hy (Fit b G r/\b+4*m<=900000/\gh P own w0 ob db w r w):=Hd ⟨hf,hb,gh.here h⟩;clear hf hb h;(go_enter Tryz.func9,Tryz.ntmps9);(go_wp2_with fail);(go_loopw [1] (fun q1 E=>∃(f:Nat) (s:eC) (l:Int),f<=m/\q1=VI f/\Fit l G s/\l+4*f<=900000/\gh P own w0 ob db w s E/\eC.iz m r=eC.iz f s) (fun q1 _=>(intOf q1).toNat));case atStart=>exact⟨m,r,b,ax _,rfl,H0.o.1,H0.o.2.1,H0.o.2.2,rfl⟩
 case round =>
  clear H0;obtain⟨f,s,l,a6,rfl,WD,L,⟨own1,v1,F,PC,QQ⟩,he⟩:=hrel;have HE:=Hd he;have Qn:=Hd PC;have Qd:=Hd QQ;have H1:=Hd F;have WY:=Hd WD;have M:=Hd L;have y:=Hd (C4 wr F);clear he PC QQ F WD L;obtain⟨wa,aa⟩:∃x,x=wr:=⟨_,rfl⟩;subst aa
  cases f with
  |zero =>
   have HF:Hy (eC.iz m r=s):=Hd HE.o
   go_wp2_with fail
   go_end0
   rw[HF.o];exact⟨rfl,own1,v1,H1.o,Qn.o,Qd.o⟩
  |succ f =>
   have a7:0<f+1:=Nat.succ_pos _;obtain⟨t,QI⟩:=nm s.gK.2;have Qj:=Hd QI;rw[<- QI]at y;obtain⟨bb,N⟩:∃x,x=iC s.gK.1:=⟨_,rfl⟩;rw[<- N]at y;clear QI N;(go_upto_region 3 with (go_at_call 24;refine y.o.mono ?_;rintro e w2 ⟨rfl,u,v2,h2,Si,PK⟩;have H2:=Hd h2;have Qg:=Hd (show Ext wa own1 u from Si);have Qo:=Hd PK;clear h2 Si PK));have Zk:Hy (Fit l G t):=Hd (by rw[Qj.o];exact WY.o.lF);obtain⟨pa,pc,O⟩:=oM H2.o.cl aj;obtain⟨K,hK⟩:=nm t.eD.length;(have c5:w2.cell? ⟨ob,5,none⟩=some (.slice pa K pc):=by rw[hK,<- O];exact H2.o.o_.cell 5);(have bg:K<=4:=by rw[hK];exact H2.o.gz);have HK:=Hd hK;clear O hK;(go_wp2_with fail);(go_loopw [18] (fun z E=>∃(i:Nat) (d:eC),i<=K/\z=VI i/\Fit (l+i) G d/\gh P u w0 ob db w2 d E/\eC.iY (List.range K) t=eC.iY ((List.range K).drop i) d/\d.eN=t.eN) (fun z _=>K-(intOf z).toNat));case atStart=>exact⟨0,t,ab,rfl,by simpa using Zk.o,gh.here H2.o,rfl,rfl⟩
   case round =>
    obtain⟨i,d,hi,rfl,Q,⟨a,v3,h3,T9,P5⟩,Ub,Rj⟩:=hrel;have R:=Hd Ub;have ad:=Hd Rj;have n:=Hd Q;have A:=Hd h3;have Rc:=Hd T9;have QV:=Hd P5;clear Ub Rj Q h3 T9 P5 c5;obtain⟨p,UN⟩:∃x,x=wr:=⟨_,rfl⟩;subst UN;by_cases T:i<K
    ·(have U:l+i<1000000:=by have:=M.o;omega);have YZ:=Hd (Co p i n.o.inv ab A.o);have XU:=Hd (n.o.jd U i)
     have al:Hy (Fit (l+((i+1:Nat):Int)) G (d.fh i).2.gi):=Hd (by
      have h5:=XU.o.p7;have e:l+((i+1:Nat):Int)=l+i+1:=ab
      rw[e];exact h5)
     have Z0:Hy (eC.iY (List.range K) t=eC.iY ((List.range K).drop (i+1)) (d.fh i).2.gi):=Hd (by
      rw[R.o,cG (by rw[List.length_range];exact T),List.getElem_range]
      rfl)
     have UT:Hy ((d.fh i).2.gi.eN=t.eN):=Hd (by
      show (eC.ia 1000 (d.fh i).2).eN=_
      rw[fK.pZ,fK.rR,ad.o])
     obtain⟨bl,We⟩:∃x,x=iC (d.fh i).1:=⟨_,rfl⟩;rw[<- We]at YZ;clear U We
     go_wp2_with first
      |(go_at_call 18;refine YZ.o.mono ?_;rintro e w4 ⟨rfl,V,v4,h4,Xw,Za⟩;have H4:=Hd h4;have Rt:=Hd (show Ext p a V from Xw);have X8:=Hd Za;clear h4 Xw Za)
      |(go_at_call 28;refine (C6 _ XU.o.inv XU.o.idx XU.o.iT H4.o).mono ?_;rintro e w5 ⟨rfl,Yd⟩;have PF:=Hd Yd;clear Yd)
     go_roundw;(case rel=>exact⟨i+1,(d.fh i).2.gi,ab,by go_num,al.o,gh.ahead Rc.o QV.o (gh.ahead Rt.o X8.o PF.o),Z0.o,UT.o⟩);case measure=>simp[intOf];omega
    (obtain rfl:i=K:=by omega);have TS:Hy (eC.iY (List.range i) t=d):=Hd (by rw[R.o,cd ae];rfl);obtain⟨ka,kc,W⟩:=oM A.o.ck aj;obtain⟨c,TB⟩:=nm d.eN.length;(have c7:p.cell? ⟨ob,7,none⟩=some (.slice ka c kc):=by rw[TB,<- W];exact A.o.o_.cell 7);(have VR:c<=5:=by have:=A.o.nc.2;omega);have Tk:=Hd TB;clear W TB T;obtain⟨i0,P7,QC,PU,Qf⟩:=info_parts vA;(have Px:i0.bytes*c<=281474976710656:=by rw[Qf];omega);have X:=Hd (And.intro P7 (And.intro QC (And.intro PU Px)));clear P7 QC PU Qf Px;(go_upto_region 10 with (refine wpList_make_full p rfl (.tmp 31) (.tmp 31) 26 rfl p.heap.size 3 i0 (VI 0) 1 Tryz.underlying26 X.o.1 X.o.2.1 X.o.2.2.1 .i64 .i64 c c c rfl rfl rfl rfl X.o.2.2.2 ak (ax _) ?_;rintro w6 Py H));rw[vB]at Py;have RU:BB p w6:=⟨H.os,H.tape,H.output,H.size,fun k hk=>H.block k hk ae⟩;obtain⟨B,I⟩:=nm p.heap.size;have C:a B=0:=by rw[I];exact A.o.fr _ (ax _)
    have q:Row a 0 w6 3 1 (.slice (some ⟨B,0,none⟩) c c) c (ints (jX c 0)):=by
     rw[I];refine⟨mg Py (bR _),fun g hg=>?_⟩;(have e:p.heap.size=g:=by simpa[Value.ownBlock]using hg);rw[<- e,<- I];exact C
    have XE:=Hd q;have SC:=Hd RU;have Wd:=Hd C;have an:=Hd I;rw[<- I];clear Py H RU C q I X c7;(go_wp2_with fail);(go_loopw [35] (fun D E=>∃j:Nat,j<=c/\D=VI j/\Row a 0 E 3 1 (.slice (some ⟨B,0,none⟩) c c) c (ints (jX c j))/\BB p E) (fun D _=>c-(intOf D).toNat));case atStart=>exact⟨0,ab,rfl,XE.o,SC.o⟩
    case round =>
     clear XE SC;obtain⟨j,hj,rfl,q,J⟩:=hrel;obtain⟨wd,Zi⟩:∃x,x=wr:=⟨_,rfl⟩;subst Zi;by_cases Vd:j<c
     ·(have Y:Row a 0 wd 3 1 (.slice (some ⟨B,0,none⟩) c c) (jX c j).length (ints (jX c j)):=by rw[Mq hj];exact q);obtain⟨g,cap,e1,-,QB,z0,f0⟩:=lE Y (Mr Vd);simp only[Value.slice.injEq,bI,Addr.mk.injEq,and_true]at e1;obtain⟨rfl,-,-⟩:=e1
      have T6:Hy (Row a 0 (wd.setCell ⟨B,j,none⟩ (VI 1)) 3 1 (.slice (some ⟨B,0,none⟩) c c) c (ints (jX c (j+1)))):=Hd (by
       have F:=rH q j ab (VI 1);rw[ints_set,Ms Vd]at F
       exact F)
      have UJ:Hy (BB p (wd.setCell ⟨B,j,none⟩ (VI 1))):=Hd (J.setCell (by show p.heap.size<=B;rw[an.o];exact ax _) _);clear q Y J;(go_wp2_with fail);go_roundw;(case rel=>exact⟨j+1,ab,by go_num,T6.o,UJ.o⟩);case measure=>simp[intOf];omega
     (obtain rfl:j=c:=by omega);rw[Mt]at q;(have Ug:wd.ownsRow 0 3 1 (.slice (some ⟨B,0,none⟩) j j) (List.replicate j (1:Int)).length (ints (List.replicate j 1)):=by rw[cz];exact q.1);have H7:=Hd (A.o.below J fun g hg=>A.o.fr g (aB J.size hg));have a1:Hy (Fit (l+i) G d):=n;have VJ:=Hd (CW wd _ (List.replicate j 1) Ug q.2 n.o.inv n.o.ik H7.o);have ZT:=Hd (n.o.iB (List.replicate j 1));have UJ:=Hd J
     have Td:Hy (eC.iz m r=eC.iz f (d.fu (List.replicate j 1)).2.gi):=Hd (by
      rw[HE.o];show eC.iz f s.round=_;unfold eC.round;rw[<- Qj.o];dsimp only
      rw[<- HK.o,TS.o,<- Tk.o])
     have aq:Hy (Fit (l+4) G (d.fu (List.replicate j 1)).2.gi):=Hd (ZT.o.p7.gx ab);have ar:Hy (l+4+4*(f:Int)<=900000):=Hd (by have:=M.o;omega);obtain⟨b1,Z⟩:∃x,x=iC (d.fu (List.replicate j 1)).1:=⟨_,rfl⟩;rw[<- Z]at VJ;clear q Ug J Z Vd
     go_wp2_with first
      |(go_at_call 29;refine VJ.o.mono ?_;rintro e w8 ⟨rfl,au,v8,h8,Sj,Qm⟩;have H8:=Hd h8;have VL:=Hd (show Ext wd a au from Sj);have RW:=Hd Qm;clear h8 Sj Qm)
      |(go_at_call 28;refine (C6 _ ZT.o.inv ZT.o.idx ZT.o.iT H8.o).mono ?_;rintro e w9 ⟨rfl,Vj⟩;have ZN:=Hd Vj;clear Vj)
     go_roundw
     case rel =>
      have s3:=gh.ahead (P:=P) (w0:=w0) (ob:=ob) (db:=db) (Ext.refl p a) (eJ.il (S:=fun g=>a g≠0) UJ.o (ax _)) (gh.ahead VL.o RW.o ZN.o);exact⟨f,_,l+4,ab,by go_num,aq.o,ar.o,gh.ahead Qn.o Qd.o (gh.ahead Qg.o Qo.o (gh.ahead Rc.o QV.o s3)),Td.o⟩
     case measure=>simp[intOf]
end
end iv
namespace iv
open Go.RowKit heap own gC gO fD fj gj
open eY (fe eA eM iM iw fU fY Net eC)
section
variable {P:Lib.PrintTabs} {own own1:Nat->Nat} {w0 w w':World} {ob db:Nat} {v v':WV} {r r':eC}
theorem Mu:(Tryz.prog.info? 45).map (fun i=>(i.zero,i.size,i.bytes))=some (some (.agg #[VI 0,VI 0,VI 0,.string ByteArray.empty,VI 0,.bool false,.bool false,VI 0,VI 0,VI 0]),10,80):=af
theorem C7 (w:World):(w.alloc (.cells #[] 45)).ownsRow w.heap.size 45 10 (.slice (some ⟨w.heap.size,0,none⟩) 0 0) 0 []:=
 rq (l:=[]) (Has.new w _) (ax _) rfl (bR _)
theorem yj (w:World) (h:fp P own w0 w ob db v r) (s:r.fg.length<=100000) :
 Calls Tryz.prog 10 #[VP ob 0] w fun e w'=>∃u,e=.returned u/\w'.ownsRow w.heap.size 45 10 u r.fg.length (r.fg.flatMap gB)/\BB w w':=by
 obtain⟨i0,d,f,i,m⟩:=info_parts Mu;have b:=Hd (And.intro d (And.intro f (And.intro i m)));have n:CC w ob 10 v.ev:=h.o_.cell 10;have B:=h.o_.lt;obtain⟨l,hle⟩:=nm r.fg;have a:=h.ev;rw[<- hle]at a s⊢;clear hle h;rcases bQ l.length with h0|h0
 ·have hv:v.ev=.slice none 0 0\/∃g cap,v.ev=.slice (some ⟨g,0,none⟩) 0 cap:=by
   rcases a.1.2 with⟨e,-⟩|⟨g,cap,cur,e,-⟩
   ·exact .inl e
   exact .inr ⟨g,cap,by rw[e,h0]⟩
  have t:l=[]:=bc h0;clear a;subst t;rcases hv with hv|⟨g,cap,hv⟩
  all_goals
   rw[hv]at n;clear hv;(go_enter Tryz.func10,Tryz.ntmps10);go_wp2;go_ret;exact⟨_,rfl,C7 w,(Below.refl _ _).alloc (ax _) _⟩
 obtain⟨g,cap,cur,hv,-,c,C,D,E,q⟩:=a.shape h0;rw[hv]at n;have x:=Hd (C7 w);have HG:=Hd c;have H4:=Hd q;have F:=Has.lt (w:=w) c;clear c q f i m d a hv;(go_enter Tryz.func10,Tryz.ntmps10);go_wp2_with (at_builtin;refine wpList_append_own _ rfl (.tmp 3) (.tmp 7) 38 rfl w.heap.size 45 i0 _ 10 80 Tryz.underlying38 b.o.1 b.o.2.1 b.o.2.2.1 b.o.2.2.2 rfl aj _ _ _ rfl x.o ⟨g,0,none⟩ l.length cap (l.flatMap gB) rfl (nf kM l) ?c1 ?c2 ?c3 ?c4 ?c5 ?_)
 case c1 =>
  intro j u hj;(have Vd:j<l.length*10:=by rw[<- nf kM l];exact (az.1 hj).1);exact abE
 (case c2=>exact xu qN l);(case c3=>unfold maxLen;omega);(case c4=>omega);(case c5=>simp);intro v2 G y z _;go_wp2;go_ret
 exact⟨v2,rfl,y,((Below.refl _ _).alloc (ax _) _).grown z ae (fun k A=>by
  have:w.heap.size=k:=by simpa[Value.ownBlock]using A
  omega)⟩
end
end iv
namespace kp
open Go.RowKit heap own gC gO fD fj gj iv fc
open eY (fe eA eM iM iw fU fY Net eC)
theorem l8 (a n:Int) (w:World) (d:1<=n) (f:n<=9223372036854775807) :
 Calls Tryz.prog 7 #[VI a,VI n] w fun e w'=>e=.returned (VI (fc.pick a n))/\w=w':=by
 obtain⟨x,b⟩:=nm (fc.pick a n);have c:=Hd b;rw[<- b];clear b;(go_enter Tryz.func7,Tryz.ntmps7);go_wp2;go_ret;rw[c.o];exact⟨rfl,rfl⟩
theorem ME (o v d:Int) (w:World) :
 Calls Tryz.prog 17 #[VI o,VI v,VI d] w fun e w'=>e=.returned (nM (pA o v d))/\BB w w':=by
 obtain⟨f,a⟩:∃x,x=fc.pick v 15:=⟨_,rfl⟩;obtain⟨j,b⟩:∃x,x=fc.pick o 25:=⟨_,rfl⟩;obtain⟨k,c⟩:∃x,x=fc.pick d 501:=⟨_,rfl⟩;have l:=jK v 15 ab ab;have m:=jK o 25 ab ab;rw[<- a]at l;rw[<- b]at m;have n:Hy (pA o v d=⟨1+f+j,1+f,k⟩):=Hd (by unfold pA;rw[a,b,c]);have g:=Hd fun w=>l8 v 15 w ab ab;have h:=Hd fun w=>l8 o 25 w ab ab;have i:=Hd fun w=>l8 d 501 w ab ab;rw[<- a]at g;rw[<- b]at h;rw[<- c]at i;clear a b c;(go_enter Tryz.func17,Tryz.ntmps17);(go_wp2_with (go_at_call 7;(first|with_reducible refine (g.o _).mono ?_|with_reducible refine (h.o _).mono ?_|with_reducible refine (i.o _).mono ?_);rintro e w' ⟨rfl,rfl⟩));rw[n.o];exact bodyPost_ret (results_cell_row Tryz.results17 _ _ w.heap.size 29 _ (0,0) _ rfl (Has.new w _) Tryz.underlying29 rfl af) rfl ⟨rfl,(Below.refl _ _).alloc (ax _) _⟩
end kp
namespace iv
open Go.RowKit heap own gC gO fD fF fj gj
open eY (fe eA eM iM iw fU fY Net eC)
section
variable {P:Lib.PrintTabs} {own own1 own2:Nat->Nat} {w0 w w1 w2 w':World} {ob db:Nat} {v v':WV} {r r':eC}
theorem Dn {P:Program} (w:World) {o:Oper} {a:Act} {K:Act->World->Prop} {Q:Exit->Act->World->Prop} (l c:Operand) (t:TypeId) (b:o.op=Op.makeSlice t l c)
 (base:Nat) (e:TypeId) (i:TypeInfo) (z:Value) (size:Nat) (d:P.underlying t=some (.slice e)) (f:P.info? e=some i) (g:i.zero=some z) (h:i.size=size)
 (kl kc:IntKind) (n:Nat) (j:a.eval l=.int kl n) (hc:a.eval c=.int kc n) (k:i.bytes*n<=281474976710656) (m:n<=maxLen) (p:base<=w.heap.size)
 (hK:∀w',w'.ownsRow base e size (.slice (some ⟨w.heap.size,0,none⟩) n n) n (madeCells z.cells (n*size)).toList->w.grownBy w' none->K (a.put o.dst (.slice (some ⟨w.heap.size,0,none⟩) n n)) w'):o.wp P a w K Q:=by
 obtain⟨w',q,r,s⟩:=run_make_full (P:=P) w base t e i z size d f g h kl kc n k m p;unfold Oper.wp;simp[execOp,b,j,hc,q,Result.andThen];exact hK w' r s
structure Grow (own:Nat->Nat) (w:World) (own1:Nat->Nat) (w1:World) (c l o:Value) (kc kl ko:Nat) (xc xl xo:List Value):Prop where
 fI:eJ (fun g=>own g=61\/own g=62\/own g=65) w w1
 ext:Ext w own own1
 fr:∀g,w1.heap.size<=g->own1 g=0
 rc:Row own1 61 w1 72 1 c kc xc
 rl:Row own1 62 w1 3 1 l kl xl
 ro:Row own1 65 w1 3 1 o ko xo
section
variable {c l o c':Value} {kc kl ko k' g':Nat} {xc xl xo x':List Value}
theorem Grow.below (h:Grow own w own1 w1 c l o kc kl ko xc xl xo) (hb:BB w1 w2):Grow own w own1 w2 c l o kc kl ko xc xl xo:=
 ⟨h.fI.jl hb (ax _),h.ext,fun g a=>h.fr g (aB hb.size a),h.rc.below hb,h.rl.below hb,h.ro.below hb⟩
theorem Grow.ym (h:Grow own w own1 w1 c l o kc kl ko xc xl xo) {T:Nat} {u:Value} (hu:∀k,u.ownBlock=some k->own1 k=T) (b:u.ownBlock=some g'\/g'=w1.heap.size):Ext w own (jS own1 g' T):=fun g a =>
 (rQ (w:=w1) hu b g (aG a h.fI.size)).trans (h.ext g a)
theorem Grow.yn (h:Grow own w own1 w1 c l o kc kl ko xc xl xo) {T:Nat} (hT:T=61\/T=62\/T=65) (ht:eJ (fun k=>own1 k=T) w1 w2):eJ (fun g=>own g=61\/own g=62\/own g=65) w w2:=
 h.fI.trans ht fun g a e=>by
  have e:own1 g=T:=e;rw[h.ext g a]at e;rw[e];exact hT
theorem Grow.ML (h:Grow own w own1 w1 c l o kc kl ko xc xl xo) (d:Row (jS own1 g' 61) 61 w2 72 1 c' k' x') (f:w1.grownBy w2 c.ownBlock) (b:c.ownBlock=some g'\/g'=w1.heap.size) (g:g'<w2.heap.size):Grow own w (jS own1 g' 61) w2 c' l o k' kl ko x' xl xo:=by
 have ht:=qM f h.rc.2;have he:=rQ (w:=w1) h.rc.2 b;exact⟨h.yn (.inl rfl) ht,h.ym h.rc.2 b,vj h.fr ht.size g,d,h.rl.fc ht he fun k _ e a=>by have a:own1 k=61:=a;omega,h.ro.fc ht he fun k _ e a=>by have a:own1 k=61:=a;omega⟩
theorem Grow.MM (h:Grow own w own1 w1 c l o kc kl ko xc xl xo) (d:Row (jS own1 g' 62) 62 w2 3 1 c' k' x') (f:w1.grownBy w2 l.ownBlock) (b:l.ownBlock=some g'\/g'=w1.heap.size) (g:g'<w2.heap.size):Grow own w (jS own1 g' 62) w2 c c' o kc k' ko xc x' xo:=by
 have ht:=qM f h.rl.2;have he:=rQ (w:=w1) h.rl.2 b;exact⟨h.yn (.inr (.inl rfl)) ht,h.ym h.rl.2 b,vj h.fr ht.size g,h.rc.fc ht he fun k _ e a=>by have a:own1 k=62:=a;omega,d,h.ro.fc ht he fun k _ e a=>by have a:own1 k=62:=a;omega⟩
theorem Grow.MN (h:Grow own w own1 w1 c l o kc kl ko xc xl xo) (d:Row (jS own1 g' 65) 65 w2 3 1 c' k' x') (f:w1.grownBy w2 o.ownBlock) (b:o.ownBlock=some g'\/g'=w1.heap.size) (g:g'<w2.heap.size):Grow own w (jS own1 g' 65) w2 c l c' kc kl k' xc xl x':=by
 have ht:=qM f h.ro.2;have he:=rQ (w:=w1) h.ro.2 b;exact⟨h.yn (.inr (.inr rfl)) ht,h.ym h.ro.2 b,vj h.fr ht.size g,h.rc.fc ht he fun k _ e a=>by have a:own1 k=65:=a;omega,h.rl.fc ht he fun k _ e a=>by have a:own1 k=65:=a;omega,d⟩
end
structure Piece (own1:Nat->Nat) (w1:World) (G:Nat) (cs:Array Value) (t:TypeId):Prop where
 has:Has w1 G (.cells cs t)
 own:own1 G=0
section
variable {G g' T:Nat} {cs:Array Value} {t:TypeId} {u:Value}
theorem Piece.below (h:Piece own1 w1 G cs t) (hb:BB w1 w2):Piece own1 w2 G cs t:=⟨h.has.below hb h.has.lt,h.own⟩
theorem Piece.app (h:Piece own1 w1 G cs t) (hT:T≠0) (hu:∀k,u.ownBlock=some k->own1 k=T) (a:w1.grownBy w2 u.ownBlock) (b:u.ownBlock=some g'\/g'=w1.heap.size):Piece (jS own1 g' T) w2 G cs t:=by
 refine⟨(qM a hu).has h.has (fun e=>hT (e.symm.trans h.own)),?_⟩;rw[rQ (w:=w1) hu b G h.has.lt];exact h.own
theorem Piece.new (w1:World) (a:∀g,w1.heap.size<=g->own1 g=0) (cs:Array Value) (t:TypeId):Piece own1 (w1.alloc (.cells cs t)) w1.heap.size cs t:=⟨Has.new w1 _,a _ (ax _)⟩
end
theorem fp.MO (h:fp P own w0 w ob db v r) {c l o:Value} {d D sm:Nat} {E:Value} {cl:eM} (a:Grow own w own1 w1 c l o (r.eD.length+1) (r.fy.length+1) (r.ft.length+1) ((v.ja++[d]).map fun b=>Value.pointer (some ⟨b,0,none⟩)) (ints (r.fy++[0])) (ints (r.ft++[-1])))
 (hc:fM own (20+4*r.eD.length) w d D sm E cl) (F:r.eD.length+1<=4) (N:r.eD.length+2<=r.eN.length) :
 fp P own1 w0 (((w1.setCell ⟨ob,5,none⟩ c).setCell ⟨ob,6,none⟩ l).setCell ⟨ob,11,none⟩ o) ob db {v with cl:=c,li:=l,op:=o,ja:=v.ja++[d]} {r with eD:=r.eD++[cl],fy:=r.fy++[0],ft:=r.ft++[-1]}:=by
 have t:eJ (fun g=>g=ob) w1 (((w1.setCell ⟨ob,5,none⟩ c).setCell ⟨ob,6,none⟩ l).setCell ⟨ob,11,none⟩ o):=(((eJ.refl (fun g=>g=ob) w1).setCell (p:=⟨ob,5,none⟩) (.inr rfl) _).setCell (p:=⟨ob,6,none⟩) (.inr rfl) _).setCell (p:=⟨ob,11,none⟩) (.inr rfl) _;obtain⟨W,f⟩:=nm (((w1.setCell ⟨ob,5,none⟩ c).setCell ⟨ob,6,none⟩ l).setCell ⟨ob,11,none⟩ o);have G:own1 ob=60:=(a.ext ob h.o_.lt).trans h.gI
 have ht:eJ (fun g=>g=ob\/own g=61\/own g=62\/own g=65) w W:=by
  rw[f];exact (a.fI.mono fun g _ e=>.inr e).trans t fun g _ e=>.inl e
 have m:∀g,W.heap.size<=g->own1 g=0:=fun g hge=>a.fr g (aB (by rw[f];exact t.size) hge);have he:=a.ext
 have no:∀g i,own g=i->i≠60->i≠61->i≠62->i≠65->¬(g=ob\/own g=61\/own g=62\/own g=65):=fun g i hi h1 h2 F h5 e=>by
  rcases e with e|e|e|e
  ·rw[e,h.gI]at hi;exact h1 hi.symm
  ·omega
  ·omega
  omega
 have n1:∀k,own1 k=61\/own1 k=62\/own1 k=65->¬k=ob:=fun k h1 e=>by rw[e,G]at h1;omega
 have y:∀ {T e n u xs},(T=61\/T=62\/T=65)->Row own1 T w1 e 1 u n xs->Row own1 T W e 1 u n xs:=fun {T e n u xs} hT hr=>by
  rw[f];exact hr.fc t (Ext.refl _ _) fun k _ O=>n1 k ab
 rw[<- f];refine⟨m,fun g H=>?_,?_,G,h.fj.fc ht he m fun g _ e=>?_,?_,?_,fun j x hj=>?_,?_,?_,h.ck.fc ht he fun i _ hi=>no i 63 hi aj aj aj aj,h.ev.fc ht he fun i _ hi=>no i 64 hi aj aj aj aj,?_,?_,h.right,?_,?_,?_⟩
 ·rcases bk g w.heap.size with h1|h1
  ·rw[he g h1]at H;exact h.low g H
  exact aB h.iA.size h1
 ·have K:Has w1 ob (.cells (ny db v r) 68):=a.fI.has h.o_ (by rw[h.gI];decide);rw[f];exact ((K.fQ 5 c).fQ 6 l).fQ 11 o
 ·rcases e with e|e
  ·exact⟨fun s=>by unfold fL at s;rw[e,h.gI]at s;omega,by rw[e];exact h.low ob (by rw[h.gI];decide)⟩
  exact⟨fun s=>by unfold fL at s;omega,h.low g ab⟩
 ·simp only[aE,aQ];exact y (.inl rfl) a.rc
 ·simp only[aE,aQ,h.pl]
 ·have I:∀i,i<4->∀g,g<w.heap.size->(g=ob\/own g=61\/own g=62\/own g=65)->¬hO own (20+4*i) g:=fun i hi g _ e hc=>by
   unfold hO at hc;rcases e with e|e
   ·rw[e,h.gI]at hc;omega
   omega
  have hj:(r.eD++[cl])[j]?=some x:=hj;rw[List.getElem?_append]at hj;split at hj
  ·rename_i J;obtain⟨q,z,A,B,h1,h2⟩:=h.cls j x hj;refine⟨q,z,A,B,?_,h2.fI ht he fun g C e=>I j ab g C e⟩;show (v.ja++[d])[j]?=some q;rw[ba (by rw[h.pl];exact J)];exact h1
  rename_i J
  obtain⟨e0,e1⟩:j=r.eD.length/\cl=x:=by
   have L:j-r.eD.length=0:=by
    have:=(az.mp hj).1;simp at this;omega
   rw[L]at hj;exact⟨ab,by simpa using hj⟩
  subst e0 e1;refine⟨d,D,sm,E,?_,hc.fI ht he fun g C e=>I _ ab g C e⟩;show (v.ja++[d])[r.eD.length]?=some d;rw[aR (by rw[h.pl];exact ax _),h.pl,dA];rfl
 ·simp only[aE,aQ];exact F
 ·simp only[aE,aQ];exact y (.inr (.inl rfl)) a.rl
 ·simp only[aE,aQ];exact y (.inr (.inr rfl)) a.ro
 ·obtain⟨ps,h1,h2,h5,M⟩:=h.eH;exact⟨ps,h1,h2.fc ht he fun i _ hi=>no i 66 hi aj aj aj aj,fun p hp=>(h5 p hp).fc ht he fun i _ hi=>no i 67 hi aj aj aj aj,M⟩
 ·simp only[aE,aQ,h.nl]
 ·simp only[aE,aQ];exact⟨ab,h.nc.2⟩
 simp only[aE,aQ,h.no]
end
end iv
end Go.Proofs.YtjhdaojclilakaaGreatDoor
