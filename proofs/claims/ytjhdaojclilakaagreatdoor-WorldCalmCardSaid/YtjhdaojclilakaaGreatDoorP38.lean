/-
  A part of the proof of the law WorldCalm: WoL, WoM, WoN.
-/
import Derived.Test.YtjhdaojclilakaaGreatDoorHd
import Derived.Test.YtjhdaojclilakaaGreatDoorP37
set_option maxHeartbeats 16000000
set_option maxRecDepth 1000000
namespace Go.Proofs.YtjhdaojclilakaaGreatDoor
section
variable {p q:Prop}
theorem aaY (z:q) (h:Hy q->p:=by
 intro zz;obtain⟨b5,TT⟩:=nm w1.heap.size;obtain⟨b7,UW⟩:=nm w4.heap.size;obtain⟨W5,Re⟩:=nm (w4.alloc (.cells #[VI mk,VI mc,VI mn,VI me,VI ms,VI mo,VI mv,.bool ml,.string ⟨md.toArray⟩] 93));have S4:BB w3 W5:=Rb.o.trans (by rw[Re];exact (Below.refl _ _).alloc Rb.o.size _);have H5:Hy (fp P own1 w0 W5 ob db v1 r1.fA):=Hd (H3.o.below S4 fun g hg=>H3.o.fr g (aB S4.size hg));have SD:Hy (eJ (fun g=>own g≠0) w W5):=Hd ((Qd.o.trans (S':=fun g=>own1 g≠0) (H1.o.pT QV.o) fun g hg e=>by rw[<- Qn.o g hg];exact e).jl S4 (ax _));have Rm:Hy (Ext w own own1):=Qn;revert b5 TT b7 UW W5 Re S4 H5 SD Rm;exact zz.o):p:=h z
theorem abj (z:q) (h:Hy q->p:=by
 intro zz;(have aaP:b5<W5.heap.size:=by rw[TT];exact aG Y6.o.lt S4.size);(have hx7:Has W5 b7 (.cells #[VI mk,VI mc,VI mn,VI me,VI ms,VI mo,VI mv,.bool ml,.string ⟨md.toArray⟩] 93):=by rw[Re,UW];exact Has.new w4 _);(have RN:own1 b7=0/\own1 b5=0:=by rw[UW,TT];exact⟨H3.o.fr _ Rb.o.size,H1.o.fr _ (ax _)⟩);rw[<- Re,<- TT,<- UW];have Uu:=Hd hx7;revert aaP hx7 RN Uu;exact zz.o):p:=h z
theorem abK (h:p:=by
 obtain⟨g7',ag4,XT,-,-,z7',-⟩:=lE H6.o.ck HCK.o;have e7:=HV7.o.symm.trans XT;simp only[Value.slice.injEq,bI,Addr.mk.injEq,and_true]at e7;rw[e7.1];exact z7'):p:=h
theorem abO (z:q) (h:Hy q->p:=by
 intro zz;have HM6:=Hd Uy;have H6:=Hd h6;have Uu:Hy (Ext W5 own1 own2):=Hd fun g hg=>Ur g hg;have RY:Hy (eJ (fun g=>own1 g≠0) W5 w6):=Hd ((eJ.refl _ W5).drew.trans RJ fun _ _ e=>e);have SC:Hy (∀g,W5.heap.size<=g->g<w6.heap.size->g≠ob/\own2 g<60):=Hd RU;revert HM6 H6 Uu RY SC;exact zz.o):p:=h z
theorem aaC (z:q) (h:Hy q->p:=by
 intro zz;have P5:eJ (fL own) w3 w5:=(eJ.refl _ w3).drew.trans WC fun _ _ e=>e;have PF:Hy ((fun W=>CI W ob 0 r3.eZ.eF/\CI W ob 1 r3.eZ.fa/\CI W ob 2 r3.eZ.fH/\CP W ob 3 db 0/\CS W ob 7 g7 n7 P0/\CI W g7 0 eB) w5):=Hd ⟨(P5.cell (p:=⟨ob,0,none⟩) Qc QY.o.1).trans d0,(P5.cell (p:=⟨ob,1,none⟩) Qc QY.o.1).trans d1,(P5.cell (p:=⟨ob,2,none⟩) Qc QY.o.1).trans d2,(P5.cell (p:=⟨ob,3,none⟩) Qc QY.o.1).trans d3,(P5.cell (p:=⟨ob,7,none⟩) Qc QY.o.1).trans c7,(P5.cell (p:=⟨g7,0,none⟩) UA QY.o.2).trans z7⟩;refine hK.out _ _ (fun _=>PF.o) ?_;have HS:=PF;refine last.many [(15,18,_),(16,34,_),(17,35,_),(18,3,_),(19,4,_)] HS.o ?_;refine last.done ?_;revert PF HS;exact zz.o):p:=h z
end
namespace iv
open Go.RowKit heap own gC gO fD fj gj
open eY (fe eA eM iM iw fU fY Net eC)
open fK (Idx Inv Tos)
section
variable {P:Lib.PrintTabs} {own own1:Nat->Nat} {w0 w w':World} {ob db:Nat} {v v':WV} {r r':eC}
theorem Ma (w:World) (k:Nat) (g:fY) (d:r.eH.l[k]?=some g) (h:fp P own w0 w ob db v r) :
 Calls Tryz.prog 42 #[VP ob 8,VI k] w fun e w'=>∃a n c b v2,e=.returned (.tuple #[.agg #[VI g.to,.slice a n c],.nilIface])/\fp P b w0 w' ob db v2 {r with eH:={r.eH with l:=r.eH.l.eraseIdx k} }/\Ext w own b/\eJ (fun g=>own g≠0) w w'/\Row b 67 w' 5 1 (.slice a n c) (lj g.eU).length ((lj g.eU).map B):=by
 have o:=(az.1 d).1;refine (eH.BP own 66 ob 8 (ny db v r) 68 v.nl (r.eH.l.map dg) k w h.o_ rfl (by rw[h.gI];decide) (by rw[h.gI];decide) h.eH (by rw[aX];exact o)).mono ?_;rintro e w' ⟨u,t,bs,v',rfl,f,i,p,j,m⟩;rw[br,d]at f;simp only[Option.map_some,dg,bI,dD]at f;obtain⟨rfl,rfl⟩:=f;obtain⟨q,s,rfl⟩:=oM m aj;have e:(r.eH.l.map dg).eraseIdx k=(r.eH.l.eraseIdx k).map dg:=sT _ _ _;rw[e]at j;exact⟨q,_,s,_,_,rfl,h.kt {r.eH with l:=r.eH.l.eraseIdx k} v' i (Ext.refl _ _) p j fun g d=>h.right g (bF d),fun g d=>qI own w' g (aG d i.size),h.uV i,m.fc (eJ.refl (fun _=>False) w') (qI own w') fun _ _ _ h=>h⟩
theorem CB (h:fp P own w0 w ob db v r) {sb c f i j:Nat} (hp:v.sp=VP sb 0) {x:List eL×fe×eA} {e:Ending} (b:jf P own w0 w sb db c f i j x e w'):oS P own w0 ob db v w {r with eP:=x.2.1,ff:=some x.2.2} x.1 (fun u=>u) e w':=by
 obtain⟨l,d,s⟩:=x;obtain⟨u,a,k,m,n,o,p,q⟩:=h.iB hp b;refine⟨u,a,k,m,n,o,p.mono fun g _ e=>?_,fun g b _=>⟨fun e=>?_,?_⟩⟩
 ·unfold fL at e;omega
 ·have:=h.o_.lt;omega
 have:=q g b;omega
theorem Mb (w:World) (eB:Int) (m:eL) (h:fp P own w0 w ob db v r) {s:eA} {sb:Nat} (hs:r.ff=some s) (hp:v.sp=VP sb 0) :
 Calls Tryz.prog 44 #[VP sb 0,VI eB,m.val] w (oS P own w0 ob db v w {r with eP:=(eA.take r.eP s eB m).2.1,ff:=some (eA.take r.eP s eB m).2.2} (eA.take r.eP s eB m).1 fun u=>u):=by
 have a:=h.fj;unfold jW at a;rw[hs]at a;obtain⟨b,g,i,j,k,v1,ps,l,c,d⟩:=a;have e:=hp.symm.trans c;simp only[Value.pointer.injEq,bI,Addr.mk.injEq,and_true]at e;subst e;exact (JM w eB m d).mono fun e w' f=>CB h hp f
theorem Mc (w:World) (eB:Int) (h:fp P own w0 w ob db v r) {s:eA} {sb:Nat} (hs:r.ff=some s) (hp:v.sp=VP sb 0) :
 Calls Tryz.prog 50 #[VP sb 0,VI eB] w (oS P own w0 ob db v w {r with eP:=(eA.tick r.eP s eB).2.1,ff:=some (eA.tick r.eP s eB).2.2} (eA.tick r.eP s eB).1 fun u=>u):=by
 have a:=h.fj;unfold jW at a;rw[hs]at a;obtain⟨b,g,i,j,k,v1,ps,l,c,d⟩:=a;have e:=hp.symm.trans c;simp only[Value.pointer.injEq,bI,Addr.mk.injEq,and_true]at e;subst e;exact (JL w eB d).mono fun e w' f=>CB h hp f
theorem CD (w:World) (h:fp P own w0 w ob db v r):Calls Tryz.prog 45 #[VP ob 0] w fun e w'=>e=.returned (.tuple #[])/\gh P own w0 ob db w r.iy w':=by
 refine (KY w h).mono ?_;rintro e w' ⟨rfl,⟨v',a⟩,b⟩;exact⟨rfl,own,v',a,Ext.refl _ _,h.pT b⟩
theorem fp.vp (h:fp P own w0 w ob db v r):(r.ff=none/\v.sp=.pointer none)\/∃s sb,r.ff=some s/\v.sp=VP sb 0:=by
 have a:=h.fj;unfold jW at a;split at a
 ·rename_i s hs;obtain⟨sb,c,d,e,f,v1,ps,g,b,-⟩:=a;exact .inr ⟨s,sb,hs,b⟩
 rename_i hs;exact .inl ⟨hs,a.1⟩
theorem Md {m:eL} (h:m.right=true):je m.fJ:=by
 have a:=rf h m.fJ (by simp[eL.iG]);exact WalkArith.wf_i64 ab
theorem CE (w:World) (k:Int) {b:Int} {G:fK.gd} (hi:Inv b G r) (F:Idx r) (ht:Tos r) (h:fp P own w0 w ob db v r) :
 Calls Tryz.prog 19 #[VP ob 0,VI k] w fun e w'=>e=.returned (iC (r.gS k).1)/\gh P own w0 ob db w (r.gS k).2 w':=by
 by_cases hk:0<=k/\k<r.eH.l.length
 ·obtain⟨n,rfl⟩:∃n:Nat,k=n:=⟨k.toNat,ab⟩;have SA:n<r.eH.l.length:=ab;have hg:r.eH.l[n]?=some r.eH.l[n]:=ay SA;generalize r.eH.l[n]=g at hg;have PX:g∈r.eH.l:=aT hg;have A:=Hd (Ma w n g hg h);have I:=Hd (h.right g PX);have Vh:=hi.eH g PX;have J:=Hd (ht.eH g PX);obtain⟨r1,T⟩:=nm ({r with eH:={r.eH with l:=r.eH.l.eraseIdx n} }:eC);rw[<- T]at A;have B:Hy (Inv b G r1.fA):=Hd (by rw[T];exact (hi.kt (n:={r.eH with l:=r.eH.l.eraseIdx n}) fun g hg=>bF hg).lZ);have aq:Hy (Idx r1.fA):=Hd (by rw[T];exact F);have L:Hy (fK.im G r1.fA.eP.eG g.eU):=Hd (by rw[T];exact Vh);have ar:Hy (r1.fA.eD=r.eD):=Hd (by rw[T];rfl)
  have HR:Hy (r.gS n=(if g.to<0 then match r1.fA.ff with
   |none=>(0,r1.fA)
   |some s=>(0,({r1.fA with eP:=(eA.take r1.fA.eP s (r1.fA.eN.getD 0 0) g.eU).2.1,ff:=some (eA.take r1.fA.eP s (r1.fA.eN.getD 0 0) g.eU).2.2}.gf true (eA.take r1.fA.eP s (r1.fA.eN.getD 0 0) g.eU).1).iy)
   else match r1.fA.eD[g.to.toNat]? with
    |some c=>(0,({r1.fA with eD:=r1.fA.eD.set g.to.toNat (c.take g.eU).2}.gf false (c.take g.eU).1).gG g.to.toNat)
    |none=>(0,r1.fA))):=Hd (by
   unfold eC.gS;rw[if_neg ah];simp only[bo,hg];rw[T]
   rfl)
  obtain⟨gt,gm⟩:=g;dsimp only at A I L J HR;clear h hi F ht hg PX hk SA T Vh;obtain⟨mk,mc,mn,me,ms,mo,mv,ml,md⟩:=gm;obtain⟨m,hm⟩:=nm (⟨mk,mc,mn,me,ms,mo,mv,ml,md⟩:eL);rw[<- hm]at A I L J HR;have HM:=Hd hm;have aa:Hy (rF (lj m)=.tuple #[.agg #[VI mk,VI mc,VI mn,VI me,VI ms,VI mo,VI mv,.bool ml,.string ⟨md.toArray⟩],.nilIface]):=Hd (by rw[BT (Gq m I.o),hm];rfl);clear hm
  cases hgt:decide (gt<0)with
  |true =>
   have Pw:gt<0:=of_decide_eq_true hgt;rw[if_pos Pw]at HR;go_enter Tryz.func19,Tryz.ntmps19
   go_upto_region 8 with first
    |(go_at_call 42;refine A.o.mono ?_;rintro e w1 ⟨a,n1,c1,own1,v1,rfl,t,PC,QQ,Py⟩;have H1:=Hd t;have Qn:=Hd PC;have Qd:=Hd QQ;have U:=Hd Py;have TO:ob<w1.heap.size:=t.o_.lt;clear t PC QQ Py)
    |(go_at_call 39;have C:BB w1 (w1.alloc (.cells #[.int .i64 gt,.slice a n1 c1] 89)):=(Below.refl _ _).alloc (ax _) _;refine (qJ _ (H1.o.below C fun g hg=>H1.o.fr g (aB C.size hg))).mono ?_;rintro e w3 ⟨rfl,h3,M⟩;have N:w1.heap.size≠ob:=ab;have O:Has w3 w1.heap.size (.cells #[VI gt,.slice a n1 c1] 89):=M.has (Has.new w1 _) N;have D:=O.cell 0;have V:=O.cell 1;have H3:=Hd h3;have Y6:=Hd O;have QV:=Hd ((eJ.il (S:=fun g=>g=ob) C (ax _)).trans M fun _ _ e=>e);have Q:=Hd (eH.uS (((U.o.below C).fc M (Ext.refl _ own1) fun i _ ho e=>by rw[e,H1.o.gI]at ho;cases ho).1));clear C h3 M N O)
    |(go_at_call 43;refine (BV a n1 c1 (lj m) _ Q.o.2.2.2 Q.o.2.1 (by have:=Q.o.2.1;have:=Q.o.2.2.1;unfold maxLen at this;omega)).mono ?_;rintro e w4 ⟨rfl,X⟩;rw[aa.o];have Y:w4.cell? ⟨w1.heap.size,0,none⟩=_:=(X.cell (p:=⟨w1.heap.size,0,none⟩) Y6.o.lt).trans D;have Rb:=Hd X;clear X D V)
   refine aaY ?_;intro b5 TT b7 UW W5 Re S4 H5 SD Rm;(have y5:W5.cell? ⟨b5,0,none⟩=some (VI gt):=by rw[TT];exact (S4.cell (p:=⟨w1.heap.size,0,none⟩) Y6.o.lt).trans (Y6.o.cell 0));refine abj ?_;intro aaP hx7 RN Uu;clear Y Re TT UW S4 hx7 TO;rcases H5.o.vp with⟨Z,TU⟩|⟨s,sb,Z,TU⟩
   ·rw[Z]at HR;dsimp only at HR;(have c4:W5.cell? ⟨ob,4,none⟩=some (.pointer none):=by rw[<- TU];exact H5.o.o_.cell 4);clear Z TU;(go_wp2_with fail);go_ret;rw[HR.o];exact⟨rfl,own1,v1,H5.o,Rm.o,SD.o⟩
   rw[Z]at HR;(have c4:W5.cell? ⟨ob,4,none⟩=some (VP sb 0):=by rw[<- TU];exact H5.o.o_.cell 4);(have PI:0<r1.fA.eN.length:=by have:=H5.o.nc.1;omega);have Um:r1.fA.eN[0]?=some (r1.fA.eN[0]'PI):=ay PI;generalize r1.fA.eN[0]'PI=eB at Um;(have P6:r1.fA.eN.getD 0 0=eB:=by rw[aC,Um];rfl);dsimp only at HR;rw[P6]at HR;have HCK:=Hd Um;obtain⟨g7,P0,Tz,Te,UA,z7,f7⟩:=lE H5.o.ck Um;obtain⟨n7,TB⟩:=nm r1.fA.eN.length;(have c7:W5.cell? ⟨ob,7,none⟩=some (.slice (some ⟨g7,0,none⟩) n7 P0):=by rw[TB,<- Tz];exact H5.o.o_.cell 7);rw[<- TB]at PI;have Zg:=B.o.ff s Z;have ad:=fK.vb Zg B.o.eG eB L.o;have Ty:Hy (∀m'∈(eA.take r1.fA.eP s eB m).1,m'.data.length<=20):=Hd fun m' VW=>(ad.2.2.2 m' VW).short;have Tl:=Hd (Mb W5.drew eB m (H5.o.below (Below.refl _ _).drew H5.o.fr) Z TU);obtain⟨x,F⟩:=nm (eA.take r1.fA.eP s eB m);rw[<- F]at HR Ty Tl;have SL:ob<W5.heap.size:=H5.o.o_.lt;have E:=Hd RN;have HV7:=Hd Tz;clear Z TU Um P6 Tz Te TB Zg ad F f7 RN;(go_upto_region 10 with fail);have Zh:=Uu;clear Uu;refine last.iJ (fun W=>CP W ob 4 sb 0/\CS W ob 7 g7 n7 P0/\CI W g7 0 eB/\Has W b7 (.cells #[VI mk,VI mc,VI mn,VI me,VI ms,VI mo,VI mv,.bool ml,.string ⟨md.toArray⟩] 93)) 13 14 ⟨c4,c7,z7,Zh.o⟩ fun HS=>?_;refine last.many [(0,37,_)] HS.o ?_;refine last.iF [12,4,3,2,1] 1 38 (VP ob 0) HS.o ?_;dsimp only[List.set];refine last.iF [12,4,3,2] 2 39 (VP ob 0) HS.o ?_;dsimp only[List.set];refine last.iF [12,4,3] 3 40 (VP ob 4) HS.o ?_;dsimp only[List.set];refine last.iF [12,4] 4 41 (VP sb 0) HS.o ?_ (hy:=(fun j d=>by have e1:=d.1;go_simp));dsimp only[List.set];refine last.iF [12,10,9,8,7,6,5] 5 42 (VP ob 0) HS.o ?_;dsimp only[List.set];refine last.iF [12,10,9,8,7,6] 6 43 (VP ob 0) HS.o ?_;dsimp only[List.set];refine last.iF [12,10,9,8,7] 7 44 (VP ob 7) HS.o ?_;dsimp only[List.set];refine last.iF [12,10,9,8] 8 45 (.slice (some ⟨g7,0,none⟩) n7 P0) HS.o ?_ (hy:=(fun j d=>by have e1:=d.2.1;go_simp));dsimp only[List.set];refine last.iF [12,10,9] 9 46 (VP g7 0) HS.o ?_;dsimp only[List.set];refine last.iF [12,10] 10 47 (VI eB) HS.o ?_ (hy:=(fun j d=>by have e1:=d.2.2.1;go_simp));dsimp only[List.set];refine last.iF [12,11] 11 48 (.agg #[VI mk,VI mc,VI mn,VI me,VI ms,VI mo,VI mv,.bool ml,.string ⟨md.toArray⟩]) HS.o ?_ (hy:=(fun j d=>by have e0:CI j b7 0 mk:=(d.2.2.2).cell 0;have e1:CI j b7 1 mc:=(d.2.2.2).cell 1;have e2:CI j b7 2 mn:=(d.2.2.2).cell 2;have e3:CI j b7 3 me:=(d.2.2.2).cell 3;have e4:CI j b7 4 ms:=(d.2.2.2).cell 4;have e5:CI j b7 5 mo:=(d.2.2.2).cell 5;have e6:CI j b7 6 mv:=(d.2.2.2).cell 6;have e7:CC j b7 7 (.bool ml):=(d.2.2.2).cell 7;have e8:CC j b7 8 (.string ⟨md.toArray⟩):=(d.2.2.2).cell 8;go_simp));dsimp only[List.set];refine last.one 12 fun K hK=>?_;go_simp;rw[HM.o]at Tl;refine Tl.o.mono ?_;rintro e w6 ⟨u,own2,rfl,Uy,h6,Ur,RJ,RU⟩;refine abO ?_;intro HM6 H6 Uu RY SC;clear Uy h6 Ur RJ RU
   have z76:w6.cell? ⟨g7,0,none⟩=some (VI eB):=by
    exact abK
   have Tj:Hy ((fun W=>CP W ob 4 sb 0/\CS W ob 7 g7 n7 P0/\CI W g7 0 eB/\Has W b7 (.cells #[VI mk,VI mc,VI mn,VI me,VI ms,VI mo,VI mv,.bool ml,.string ⟨md.toArray⟩] 93)) w6):=Hd ⟨(H6.o.o_.cell 4).trans ((H5.o.o_.cell 4).symm.trans c4),(H6.o.o_.cell 7).trans ((H5.o.o_.cell 7).symm.trans c7),z76,RY.o.has Zh.o (fun e=>e E.o.1)⟩;refine hK.out _ _ (fun _=>Tj.o) ?_;clear hK K HS;have HS:=Tj;refine last.one 13 fun K hK=>?_;go_simp;refine (rP true u _ H6.o HM6.o (fun g t R=>⟨(SC.o g t R).1,by have:=(SC.o g t R).2;omega⟩) Ty.o (0) rfl).mono ?_;rintro e w8 ⟨rfl,al,v3,h8,Sj,Qm⟩;have H8:=Hd h8;have VL:=Hd Sj;have RW:=Hd Qm;clear h8 Sj Qm;refine hK.out _ _ (fun h=>absurd rfl h) ?_;clear hK K;refine last.done ?_;(go_wp2_with (go_at_call 45;refine (CD _ H8.o).mono ?_;rintro e w9 ⟨rfl,Vj⟩;have ZN:=Hd Vj;clear Vj));go_ret;rw[HR.o];exact⟨rfl,gh.ahead Rm.o SD.o (gh.ahead Uu.o RY.o (gh.ahead VL.o RW.o ZN.o))⟩
  |false =>
   have au:¬gt<0:=of_decide_eq_false hgt;rw[if_neg au]at HR;obtain⟨f,rfl⟩:∃f:Nat,gt=f:=⟨gt.toNat,ab⟩
   have y:f<r1.fA.eD.length:=by
    rw[ar.o];have t:=J.o.1;rcases J.o.2 with R|R
    ·omega
    unfold fK.Cl at t;rw[<- R]at t;omega
   have PH:r1.fA.eD[f]?=some (r1.fA.eD[f]'y):=ay y;generalize r1.fA.eD[f]'y=c at PH;simp only[bo,PH]at HR;have ZW:=Hd PH;have ZK:=Hd y;clear PH y;go_enter Tryz.func19,Tryz.ntmps19
   go_upto_region 8 with first
    |(go_at_call 42;refine A.o.mono ?_;rintro e w1 ⟨a,n1,c1,own1,v1,rfl,t,PC,QQ,Py⟩;have H1:=Hd t;have Qn:=Hd PC;have Qd:=Hd QQ;have U:=Hd Py;have TO:ob<w1.heap.size:=t.o_.lt;clear t PC QQ Py)
    |(go_at_call 39;have C:BB w1 (w1.alloc (.cells #[.int .i64 f,.slice a n1 c1] 89)):=(Below.refl _ _).alloc (ax _) _;refine (qJ _ (H1.o.below C fun g hg=>H1.o.fr g (aB C.size hg))).mono ?_;rintro e w3 ⟨rfl,h3,M⟩;have N:w1.heap.size≠ob:=ab;have O:Has w3 w1.heap.size (.cells #[VI f,.slice a n1 c1] 89):=M.has (Has.new w1 _) N;have D:=O.cell 0;have V:=O.cell 1;have H3:=Hd h3;have Y6:=Hd O;have QV:=Hd ((eJ.il (S:=fun g=>g=ob) C (ax _)).trans M fun _ _ e=>e);have Q:=Hd (eH.uS (((U.o.below C).fc M (Ext.refl _ own1) fun i _ ho e=>by rw[e,H1.o.gI]at ho;cases ho).1));clear C h3 M N O)
    |(go_at_call 43;refine (BV a n1 c1 (lj m) _ Q.o.2.2.2 Q.o.2.1 (by have:=Q.o.2.1;have:=Q.o.2.2.1;unfold maxLen at this;omega)).mono ?_;rintro e w4 ⟨rfl,X⟩;rw[aa.o];have Y:w4.cell? ⟨w1.heap.size,0,none⟩=_:=(X.cell (p:=⟨w1.heap.size,0,none⟩) Y6.o.lt).trans D;have Rb:=Hd X;clear X D V)
   refine aaY ?_;intro b5 TT b7 UW W5 Re S4 H5 SD Rm;(have y5:W5.cell? ⟨b5,0,none⟩=some (VI f):=by rw[TT];exact (S4.cell (p:=⟨w1.heap.size,0,none⟩) Y6.o.lt).trans (Y6.o.cell 0));refine abj ?_;intro aaP hx7 RN Uu;clear Y Re TT UW S4 hx7 TO;obtain⟨g5,Qe,cb,fm,sm,cv,R1,S3,Vp,Sn,z5,f5,SJ⟩:=H5.o.pt ZW.o;obtain⟨n5,N⟩:=nm r1.fA.eD.length;(have y:f<n5:=by rw[N];exact ZK.o);(have c5:W5.cell? ⟨ob,5,none⟩=some (.slice (some ⟨g5,0,none⟩) n5 Qe):=by rw[N,<- R1];exact H5.o.o_.cell 5);have Ty:Hy (∀m'∈(c.take m).1,m'.data.length<=20):=Hd fun m' VW=>((fK.Cc (B.o.eD f c ZW.o) B.o.eG B.o.uniq L.o).1 m' VW).short;have Tl:=Hd (LZ W5.drew m (Md I.o) (H5.o.below (Below.refl _ _).drew H5.o.fr) ZW.o Sn);have SL:ob<W5.heap.size:=H5.o.o_.lt;have E:=Hd RN;have a1:=Hd R1;have a6:=Hd Sn;have an:Hy (f<({r1.fA with eD:=r1.fA.eD.set f (c.take m).2}.gf false (c.take m).1:eC).eD.length):=Hd (by show f<(r1.fA.eD.set f (c.take m).2).length;rw[aU];exact ZK.o);have Yn:Hy (Idx ({r1.fA with eD:=r1.fA.eD.set f (c.take m).2}.gf false (c.take m).1:eC)):=Hd aq.o;obtain⟨x,F⟩:=nm (c.take m);rw[<- F]at HR Ty Tl an Yn;clear R1 S3 Sn SJ N F f5 RN;(go_upto_region 13 with fail);have Zh:=Uu;clear Uu;refine last.iJ (fun W=>CS W ob 5 g5 n5 Qe/\CI W b5 0 f/\CP W g5 f cb 0/\Has W b7 (.cells #[VI mk,VI mc,VI mn,VI me,VI ms,VI mo,VI mv,.bool ml,.string ⟨md.toArray⟩] 93)) 11 12 ⟨c5,y5,z5,Zh.o⟩ fun HS=>?_;refine last.many [(0,53,_)] HS.o ?_;refine last.iF [10,8,7,4,3,2,1] 1 54 (VP ob 0) HS.o ?_;dsimp only[List.set];refine last.iF [10,8,7,4,3,2] 2 55 (VP ob 0) HS.o ?_;dsimp only[List.set];refine last.iF [10,8,7,4,3] 3 56 (VP ob 5) HS.o ?_;dsimp only[List.set];refine last.iF [10,8,7,4] 4 57 (.slice (some ⟨g5,0,none⟩) n5 Qe) HS.o ?_ (hy:=(fun j d=>by have e1:=d.1;go_simp));dsimp only[List.set];refine last.iF [10,8,7,6,5] 5 58 (VP b5 0) HS.o ?_;dsimp only[List.set];refine last.iF [10,8,7,6] 6 59 (VI f) HS.o ?_ (hy:=(fun j d=>by have e1:=d.2.1;go_simp));dsimp only[List.set];refine last.iF [10,8,7] 7 60 (VP g5 f) HS.o ?_;dsimp only[List.set];refine last.iF [10,8] 8 61 (VP cb 0) HS.o ?_ (hy:=(fun j d=>by have e1:=d.2.2.1;go_simp));dsimp only[List.set];refine last.iF [10,9] 9 62 (.agg #[VI mk,VI mc,VI mn,VI me,VI ms,VI mo,VI mv,.bool ml,.string ⟨md.toArray⟩]) HS.o ?_ (hy:=(fun j d=>by have e0:CI j b7 0 mk:=(d.2.2.2).cell 0;have e1:CI j b7 1 mc:=(d.2.2.2).cell 1;have e2:CI j b7 2 mn:=(d.2.2.2).cell 2;have e3:CI j b7 3 me:=(d.2.2.2).cell 3;have e4:CI j b7 4 ms:=(d.2.2.2).cell 4;have e5:CI j b7 5 mo:=(d.2.2.2).cell 5;have e6:CI j b7 6 mv:=(d.2.2.2).cell 6;have e7:CC j b7 7 (.bool ml):=(d.2.2.2).cell 7;have e8:CC j b7 8 (.string ⟨md.toArray⟩):=(d.2.2.2).cell 8;go_simp));dsimp only[List.set];refine last.one 10 fun K hK=>?_;go_simp;rw[HM.o]at Tl;refine Tl.o.mono ?_;rintro e w6 ⟨u,own2,rfl,Uy,h6,Ur,RJ,RU⟩;refine abO ?_;intro HM6 H6 Uu RY SC;clear Uy h6 Ur RJ RU
   have a7:w6.cell? ⟨g5,f,none⟩=some (VP cb 0):=by
    obtain⟨bl,b1,Z2,b2,b3,b4,bb,-,-,bg,bj,-,-⟩:=H6.o.pt (k:=f) (aS ZK.o);have e5:=a1.o.symm.trans bb;simp only[Value.slice.injEq,bI,Addr.mk.injEq,and_true]at e5;have e6:=aA (a6.o.symm.trans bg);rw[e5.1,e6];exact bj
   have Tj:Hy ((fun W=>CS W ob 5 g5 n5 Qe/\CI W b5 0 f/\CP W g5 f cb 0/\Has W b7 (.cells #[VI mk,VI mc,VI mn,VI me,VI ms,VI mo,VI mv,.bool ml,.string ⟨md.toArray⟩] 93)) w6):=Hd ⟨(H6.o.o_.cell 5).trans ((H5.o.o_.cell 5).symm.trans c5),(RY.o.cell (p:=⟨b5,0,none⟩) aaP (fun e=>e E.o.2)).trans y5,a7,RY.o.has Zh.o (fun e=>e E.o.1)⟩;refine hK.out _ _ (fun _=>Tj.o) ?_;clear hK K HS;have HS:=Tj;refine last.one 11 fun K hK=>?_;go_simp;refine (rP false u _ H6.o HM6.o (fun g t R=>⟨(SC.o g t R).1,by have:=(SC.o g t R).2;omega⟩) Ty.o (-1) rfl).mono ?_;rintro e w8 ⟨rfl,al,v3,h8,Sj,Qm⟩;have H8:=Hd h8;have VL:=Hd Sj;have RW:=Hd Qm;clear h8 Sj Qm;refine hK.out _ _ (fun h=>absurd rfl h) ?_;clear hK K;refine last.done ?_;have o2:own2 b5=0:=(Uu.o b5 aaP).trans E.o.2;have b6:CI w8 b5 0 f:=(RW.o.cell (p:=⟨b5,0,none⟩) (aG aaP RY.o.size) (fun e=>e o2)).trans HS.o.2.1;clear o2 HS;(go_wp2_with (go_at_call 47;refine (xZ _ f H8.o an.o Yn.o).mono ?_;rintro e w9 ⟨rfl,Vj⟩;have ZN:=Hd Vj;clear Vj));go_ret;rw[HR.o];exact⟨rfl,gh.ahead Rm.o SD.o (gh.ahead Uu.o RY.o (gh.ahead VL.o RW.o ZN.o))⟩
 obtain⟨a,c,SA⟩:=h.sU;have c8:w.cell? ⟨ob,8,none⟩=some (.slice a r.eH.l.length c):=by rw[<- SA];exact h.o_.cell 8
 have HR:Hy (r.gS k=(2,r)):=Hd (by
  unfold eC.gS
  rw[if_pos (by simp only[aV,bU,decide_eq_false_iff_not];omega)])
 have HT:=Hd (eH.BO ob 8 a r.eH.l.length c k w c8 hk);have H:=Hd h;clear h hi F ht c8 SA hk;(go_enter Tryz.func19,Tryz.ntmps19);(go_wp2_with (go_at_call 42;refine HT.o.mono ?_;rintro e w' ⟨rfl,t⟩));go_ret;rw[HR.o];exact⟨rfl,((gh.here H.o).below t).below ((Below.refl _ _).alloc (ax _) _)⟩
end
end iv
namespace iv
open Go.RowKit heap own gC gO fD fj gj
open eY (fe eA eM iM iw fU fY Net eC ib jj fR)
open fK (Idx Inv Tos Clk mv av)
section
variable {P:Lib.PrintTabs} {own own1:Nat->Nat} {w0 w w':World} {ob db:Nat} {v v':WV} {r r':eC}
theorem ints_at {B:Nat} {u:Value} {l:List Int} (h:w.ownsRow B 3 1 u l.length (ints l)) {k:Nat} {x:Int} (a:l[k]?=some x) :
 ∃g cap,u=.slice (some ⟨g,0,none⟩) l.length cap/\g<w.heap.size/\w.cell? ⟨g,k,none⟩=some (VI x):=by
 have e:k<l.length:=(az.1 a).1;rcases h.2 with⟨-,f⟩|⟨g,cap,cur,rfl,-,c,-,-,-,d⟩
 ·omega
 have b:Has w g (.cells cur 3):=c;refine⟨g,cap,rfl,b.lt,?_⟩;rw[(kj b d k ab).1];simp[ints,a]
theorem Mj (w:World) (n:Int) (h:fp P own w0 w ob db v r) {k a:Nat} {c:eM} (b:r.eD[k]?=some c) (hp:v.ja[k]?=some a) :
 Calls Tryz.prog 49 #[VP a 0,VI n] w fun e w'=>e=.returned (.tuple #[])/\fp P own w0 w' ob db v {r with eD:=r.eD.set k (c.at_ n)}/\eJ (fun g=>own g≠0) w w':=by
 obtain⟨j,l,sm,m,d,f⟩:=h.cls k c b;obtain rfl:a=j:=aA (hp.symm.trans d);refine (J7 w n f).mono ?_;rintro e w' ⟨rfl,o,ht⟩
 have i:eJ (hO own (20+4*k)) w w':=ht.mono fun g _ e=>by
  have e:g=a:=e;unfold hO;rw[e,f.jw];omega
 refine⟨rfl,h.eI k (az.mp b).1 i (Ext.refl _ _) (fun g p=>h.fr g (aB ht.size p)) h.low _ ⟨a,l,sm,m,d,o⟩,i.mono fun g _ e=>?_⟩;unfold hO at e;omega
theorem CW (w:World) (u:Value) (l:List Int) {B:Nat} (N:w.ownsRow B 3 1 u l.length (ints l)) (hB:∀g,u.ownBlock=some g->own g=0) {b:Int} {G:fK.gd} (hi:Inv b G r) (hc:Clk r) (h:fp P own w0 w ob db v r) :
 Calls Tryz.prog 29 #[VP ob 0,u] w fun e w'=>e=.returned (iC (r.fu l).1)/\gh P own w0 ob db w (r.fu l).2 w':=by
 obtain⟨ua,uc,hu⟩:=rD N;subst hu;obtain⟨ka,kc,E⟩:=oM h.ck aj;obtain⟨t,TB⟩:=nm r.eN.length;(have c7:w.cell? ⟨ob,7,none⟩=some (.slice ka t kc):=by rw[TB,<- E];exact h.o_.cell 7);have H:=Hd h;have F:=Hd TB;by_cases hl:l.length=t
 ·have an:=Hd N;have Vy:=Hd hB;have XE:Hy (Row own 0 w 3 1 (.slice ua l.length uc) l.length (ints l)):=Hd ⟨mg N (bR _),hB⟩;have HI:=Hd hi;have HC:=Hd hc;have ch:=Hd E;have HL:=Hd hl;(have h5:t<=5:=by have:=h.nc.2;omega);clear h N hB hi hc E TB;(go_enter Tryz.func29,Tryz.ntmps29);(go_wp2_with fail);(go_loopw [22] (fun T U=>∃k:Nat,k<=l.length/\T=VI k/\((l.take k).any fun n=>!fR n 0 137438953472)=false/\U=w) (fun T _=>l.length-(intOf T).toNat));case atStart=>exact⟨0,ab,rfl,rfl,rfl⟩
  case round =>
   obtain⟨k,hk,rfl,Qa,aq⟩:=hrel;have bj:=aq.symm;subst bj;clear aq;have QY:=Hd Qa;clear Qa;by_cases V:k<l.length
   ·have I:l[k]?=some l[k]:=ay V;have X:l[k]∈l:=bO V;(have i:l.take (k+1)=l.take k++[l[k]]:=by rw[bH,I];rfl);generalize l[k]=x at I X i;obtain⟨g,cap,e1,hg,z0⟩:=ints_at an.o I;simp only[Value.slice.injEq]at e1;obtain⟨rfl,-,rfl⟩:=e1;have Xp:=Hd i;have ar:=Hd X;clear I X i;by_cases Qq:x<0
    ·have d0:decide (x<0)=true:=decide_eq_true Qq
     have HR:Hy (r.fu l=(2,r)):=Hd (by
      unfold eC.fu;rw[if_neg (by rw[HL.o,F.o];simp),if_pos];rw[bW]
      exact⟨x,ar.o,by simp[fR];omega⟩)
     clear Qq;(go_wp2_with fail);go_ret;rw[HR.o];exact⟨rfl,gh.here H.o⟩
    have d0:decide (x<0)=false:=decide_eq_false Qq;by_cases PC:137438953472<x
    ·have d1:decide (137438953472<x)=true:=decide_eq_true PC
     have HR:Hy (r.fu l=(2,r)):=Hd (by
      unfold eC.fu;rw[if_neg (by rw[HL.o,F.o];simp),if_pos];rw[bW]
      exact⟨x,ar.o,by simp[fR];omega⟩)
     clear Qq PC;(go_wp2_with fail);go_ret;rw[HR.o];exact⟨rfl,gh.here H.o⟩
    have d1:decide (137438953472<x)=false:=decide_eq_false PC
    have bl:Hy (((l.take (k+1)).any fun n=>!fR n 0 137438953472)=false):=Hd (by
     rw[Xp.o,eh,QY.o]
     simp[fR];omega)
    clear Qq PC;(go_wp2_with fail);go_roundw;(case rel=>exact⟨k+1,ab,by go_num,bl.o,by first|rfl|trivial⟩);case measure=>simp[intOf];omega
   obtain rfl:k=l.length:=ab
   have ZU:Hy (∀x∈l,0<=x/\x<=137438953472):=Hd fun x hx=>by
    have C:=QY.o;rw[bK,List.any_eq_false]at C;have O:=C x hx;simp only[aV,bu,fR,aF,decide_eq_true_eq]at O;exact O
   obtain⟨r1,QI⟩:=nm (r.fA:eC);have PQ:=Hd (yc w H.o);rw[<- QI]at PQ;have Qj:=Hd QI;clear QI V hk QY;go_upto_region 10 with (go_at_call 39;refine PQ.o.mono ?_;rintro e w1 ⟨rfl,C,QQ⟩;have H1:=Hd C;have Qd:=Hd QQ;clear C QQ)
   have au:Hy (fp P own w0 w1 ob db v {r1 with eN:=mv 0 r.eN l}):=Hd (by
    have e:({r1 with eN:=mv 0 r.eN l}:eC)=r1:=by rw[fK.tf,Qj.o];rfl
    rw[e];exact H1.o)
   clear c7;(go_wp2_with fail);(go_loopw [38] (fun Y U=>∃k:Nat,k<=t/\Y=VI k/\fp P own w0 U ob db v {r1 with eN:=mv k r.eN l}/\eJ (fun g=>own g≠0) w U) (fun Y _=>t-(intOf Y).toNat));case atStart=>exact⟨0,ab,rfl,au.o,Qd.o⟩
   case round =>
    obtain⟨wb,UN⟩:∃x,x=wr:=⟨_,rfl⟩;subst UN;clear au;obtain⟨k,hk,rfl,O,PK⟩:=hrel;have y:=Hd O;have Qo:=Hd PK;clear O PK;by_cases V:k<t
    ·(have a1:k<l.length:=by rw[hl];exact V);have I:l[k]?=some l[k]:=ay a1;have X:l[k]∈l:=bO a1;generalize l[k]=x at I X;(have XF:k<r.eN.length:=by rw[<- F.o];exact V);have PH:r.eN[k]?=some r.eN[k]:=ay XF;have X9:=HC.o _ (bO XF);generalize r.eN[k]=ck at PH X9;have b1:=ZU.o x X;have N:wb.ownsRow B 3 1 (.slice ua l.length uc) l.length (ints l):=pN an.o fun g hg=>Qo.o.block g (XE.o.lt g hg) fun e=>e (Vy.o g hg);obtain⟨gb,b8,e1,Ra,z0⟩:=ints_at N I;simp only[Value.slice.injEq]at e1;obtain⟨e1,-,e2⟩:=e1;subst e1 e2;obtain⟨g7,A,D,Z,UA,z7,f7⟩:=lE y.o.ck (by show (mv k r.eN l)[k]?=some ck;rw[fK.CL];exact PH);(have XT:v.ck=.slice (some ⟨g7,0,none⟩) t A:=by rw[D];show Value.slice _ (mv k r.eN l).length _=_;rw[fK.vq,F.o]);(have c7:wb.cell? ⟨ob,7,none⟩=some (.slice (some ⟨g7,0,none⟩) t A):=by rw[<- XT];exact y.o.o_.cell 7);have aa:wrap64 (ck+x)=ck+x:=fK.jC ab (by unfold eY.half at X9;omega)
     have H3:Hy (fp P own w0 (wb.setCell ⟨g7,k,none⟩ (VI (min (wrap64 (ck+x)) 549755813888))).drew ob db v {r1 with eN:=mv (k+1) r.eN l}):=Hd (by
      have h3:=y.o.Lf k (min (wrap64 (ck+x)) 549755813888) (by show k<(mv k r.eN l).length;rw[fK.vq];exact XF) D Z;(have e:(mv k r.eN l).set k (min (wrap64 (ck+x)) 549755813888)=mv (k+1) r.eN l:=by rw[aa];exact fK.CN k r.eN l ck x PH I);dsimp only at h3;rw[e]at h3
      exact h3.below (Below.refl _ _).drew h3.fr)
     have QV:Hy (eJ (fun g=>own g≠0) w (wb.setCell ⟨g7,k,none⟩ (VI (min (wrap64 (ck+x)) 549755813888))).drew):=Hd (Qo.o.setCell (p:=⟨g7,k,none⟩) (.inr (by show own g7≠0;rw[Z];decide)) _).drew;have b9:=Hd aa;clear I X PH X9 b1 N Ra D XT Z UA XF y aa;(go_upto_region 13 with fail);refine last.iJ (fun W=>CS W ob 7 g7 t A/\CI W g7 k ck) 16 17 ⟨c7,z7⟩ fun HS=>?_;refine last.many [(0,43,_),(1,44,_),(2,45,_),(3,46,_),(4,47,_),(5,48,_),(6,49,_),(7,50,_),(8,51,_),(9,52,_),(10,53,_),(11,54,_),(12,55,_),(13,56,_),(14,57,_),(15,58,_)] HS.o ?_ (hy:=fun W' Q=>by have e1:=Q.1;have f0:=Q.2;repeat (first|exact .z|refine .s ?_|refine .k ?_));refine last.one 16 fun K hK=>?_;go_simp;refine hK.out _ _ (fun h=>absurd rfl h) ?_;clear hK K;refine last.done ?_;(go_wp2_with fail);go_roundw;(case rel=>exact⟨k+1,ab,by go_num,H3.o,QV.o⟩);case measure=>simp[intOf];omega
    (obtain rfl:k=t:=by omega);obtain⟨a,Q8⟩:=nm ({r1 with eN:=ib r.eN l}:eC);(have Y8:mv k r.eN l=ib r.eN l:=by rw[F.o];exact fK.CO _ _ (by rw[HL.o,F.o]));rw[Y8,<- Q8]at y;have Qu:=Hd Q8;have Z3:Hy (a.eN.length=k):=Hd (by rw[Q8,F.o];show (ib r.eN l).length=_;rw[<- Y8,fK.vq]);have S9:Hy (a.eD=r.eD):=Hd (by rw[Q8,Qj.o];rfl);clear Q8 Y8 V hk;obtain⟨m,hm⟩:=nm a.eD.length;obtain⟨pa,pc,ad⟩:=oM y.o.cl aj;(have c5:wb.cell? ⟨ob,5,none⟩=some (.slice pa m pc):=by rw[hm,<- ad];exact y.o.o_.cell 5);(have cj:m<=4:=by rw[hm];exact y.o.gz);(have ZV:m+1<=k:=by have:=y.o.nc.1;rw[Z3.o]at this;omega);have J:=Hd ZV;have HM:=Hd hm;have b2:=Hd ad;have a6:Hy (fp P own w0 wb ob db v {a with eD:=av 0 a.eD a.eN.tail}):=Hd (by rw[fK.vu];exact y.o);clear hm ad ZV;(go_wp2_with fail);(go_loopw [65] (fun al U=>∃j:Nat,j<=m/\al=VI j/\fp P own w0 U ob db v {a with eD:=av j a.eD a.eN.tail}/\eJ (fun g=>own g≠0) w U) (fun al _=>m-(intOf al).toNat));case atStart=>exact⟨0,ab,rfl,a6.o,Qo.o⟩
    case round =>
     obtain⟨wd,Zi⟩:∃x,x=wr:=⟨_,rfl⟩;subst Zi;clear a6 c5 Qo y;obtain⟨j,hj,rfl,h4,Za⟩:=hrel;have f:=Hd h4;have X8:=Hd Za;clear h4 Za;by_cases Vd:j<m
     ·(have a7:j<a.eD.length:=by rw[<- HM.o];exact Vd);have L:a.eD[j]?=some a.eD[j]:=ay a7;generalize a.eD[j]=c at L;(have bb:j+1<a.eN.length:=by rw[Z3.o];have:=J.o;omega);(have ca:j+1<k:=by have:=J.o;omega);have Sy:a.eN[j+1]?=some a.eN[j+1]:=ay bb;generalize a.eN[j+1]=cn at Sy;(have q:(av j a.eD a.eN.tail)[j]?=some c:=by rw[fK.CQ];exact L);obtain⟨g5,Qe,cb,fm,sm,cv,R1,S3,Vp,Sn,z5,f5,SJ⟩:=f.o.pt (k:=j) q;have e5:=b2.o.symm.trans R1;simp only[Value.slice.injEq]at e5;obtain⟨b3,-,b4⟩:=e5;subst b3 b4;obtain⟨g7,A,D,Z,UA,z7,f7⟩:=lE f.o.ck (k:=j+1) Sy
      have c7:wd.cell? ⟨ob,7,none⟩=some (.slice (some ⟨g7,0,none⟩) k A):=by
       (have e:v.ck=.slice (some ⟨g7,0,none⟩) k A:=by rw[D];show Value.slice _ a.eN.length _=_;rw[Z3.o]);rw[<- e];exact f.o.o_.cell 7
      have b5:=Hd (Mj wd cn f.o q Sn);have b6:Hy ((av j a.eD a.eN.tail).set j (c.at_ cn)=av (j+1) a.eD a.eN.tail):=Hd (fK.CR j _ _ c cn L (by rw[List.getElem?_tail];exact Sy));clear L Sy q R1 S3 Sn SJ D Z f5 f7 a7 bb;(go_wp2_with (go_at_call 49;refine b5.o.mono ?_;rintro e w6 ⟨rfl,h6,RJ⟩;dsimp only at h6;rw[b6.o]at h6;have H6:=Hd h6;have Uj:=Hd (X8.o.trans RJ fun _ _ e=>e);clear h6 RJ));go_roundw;(case rel=>exact⟨j+1,ab,by go_num,H6.o,Uj.o⟩);case measure=>simp[intOf];omega
     (obtain rfl:j=m:=by omega);obtain⟨d,VO⟩:=nm ({a with eD:=jj a.eD a.eN.tail}:eC);(have q:av j a.eD a.eN.tail=jj a.eD a.eN.tail:=by rw[HM.o];exact fK.CU _ _);rw[q,<- VO]at f;have T3:=Hd VO
     have R:Hy (r.fu l=match d.ff with
      |none=>(0,d)
      |some s=>(0,({d with eP:=(eA.tick d.eP s (d.eN.getD 0 0)).2.1,ff:=some (eA.tick d.eP s (d.eN.getD 0 0)).2.2}.gf true (eA.tick d.eP s (d.eN.getD 0 0)).1).iy)):=Hd (by
      unfold eC.fu;rw[if_neg (by rw[HL.o,F.o];simp),if_neg]
      ·rw[VO,Qu.o,Qj.o];rfl
      rw[dj,List.any_eq_false];intro x hx;have:=ZU.o x hx
      simp[fR];omega)
     have bg:Hy (Inv b G d):=Hd (by
      have C:=(HI.o.mW (ib r.eN l).tail (ib r.eN l)).lZ;rw[VO,Qu.o,Qj.o]
      exact C)
     (have M:d.eN.length=k:=by rw[VO];exact Z3.o);clear VO q Vd hj;rcases f.o.vp with⟨PV,TU⟩|⟨s,sb,PV,TU⟩
     ·rw[PV]at R;dsimp only at R;(have c4:wd.cell? ⟨ob,4,none⟩=some (.pointer none):=by rw[<- TU];exact f.o.o_.cell 4);clear PV TU M;(go_wp2_with fail);go_ret;rw[R.o];exact⟨rfl,own,v,f.o,Ext.refl _ _,X8.o⟩
     rw[PV]at R;dsimp only at R;(have c4:wd.cell? ⟨ob,4,none⟩=some (VP sb 0):=by rw[<- TU];exact f.o.o_.cell 4);(have PI:0<d.eN.length:=by rw[M];have:=J.o;omega);have Um:d.eN[0]?=some (d.eN[0]'PI):=ay PI;generalize d.eN[0]'PI=eB at Um;(have P6:d.eN.getD 0 0=eB:=by rw[aC,Um];rfl);rw[P6]at R;obtain⟨g7,A,D,Z,UA,z7,f7⟩:=lE f.o.ck Um;(have c7:wd.cell? ⟨ob,7,none⟩=some (.slice (some ⟨g7,0,none⟩) k A):=by rw[<- M,<- D];exact f.o.o_.cell 7);(have cm:0<k:=by have:=J.o;omega);have Zg:=bg.o.ff s PV;have i:=fK.vc Zg bg.o.eG eB;have Ty:Hy (∀m'∈(eA.tick d.eP s eB).1,m'.data.length<=20):=Hd fun m' VW=>(i.2.2.2 m' VW).short;have Tl:=Hd (Mc wd.drew eB (f.o.below (Below.refl _ _).drew f.o.fr) PV TU);obtain⟨x,hx⟩:=nm (eA.tick d.eP s eB);rw[<- hx]at R Ty Tl;have HCK:=Hd Um;have HV7:=Hd D;have SL:ob<wd.heap.size:=f.o.o_.lt;clear PV TU Um P6 D Z Zg i hx f7 M PI;(go_upto_region 21 with fail);refine last.iJ (fun W=>CP W ob 4 sb 0/\CS W ob 7 g7 k A/\CI W g7 0 eB) 12 13 ⟨c4,c7,z7⟩ fun HS=>?_;refine last.many [(0,86,_)] HS.o ?_;refine last.iF [11,4,3,2,1] 1 87 (VP ob 0) HS.o ?_;dsimp only[List.set];refine last.iF [11,4,3,2] 2 88 (VP ob 0) HS.o ?_;dsimp only[List.set];refine last.iF [11,4,3] 3 89 (VP ob 4) HS.o ?_;dsimp only[List.set];refine last.iF [11,4] 4 90 (VP sb 0) HS.o ?_ (hy:=(fun W' Q=>by have e1:=Q.1;go_simp));dsimp only[List.set];refine last.iF [11,10,9,8,7,6,5] 5 91 (VP ob 0) HS.o ?_;dsimp only[List.set];refine last.iF [11,10,9,8,7,6] 6 92 (VP ob 0) HS.o ?_;dsimp only[List.set];refine last.iF [11,10,9,8,7] 7 93 (VP ob 7) HS.o ?_;dsimp only[List.set];refine last.iF [11,10,9,8] 8 94 (.slice (some ⟨g7,0,none⟩) k A) HS.o ?_ (hy:=(fun W' Q=>by have e1:=Q.2.1;go_simp));dsimp only[List.set];refine last.iF [11,10,9] 9 95 (VP g7 0) HS.o ?_;dsimp only[List.set];refine last.iF [11,10] 10 96 (VI eB) HS.o ?_ (hy:=(fun W' Q=>by have e1:=Q.2.2;go_simp));dsimp only[List.set];refine last.one 11 fun K hK=>?_;go_simp;refine Tl.o.mono ?_;rintro e w6 ⟨u6,S,rfl,Uy,h6,Ur,RJ,RU⟩;have b7:=Hd Uy;have H6:=Hd h6;have Uu:Hy (Ext wd own S):=Hd fun g hg=>Ur g hg;have RY:Hy (eJ (fun g=>own g≠0) wd w6):=Hd ((eJ.refl _ wd).drew.trans RJ fun _ _ e=>e);have SC:Hy (∀g,wd.heap.size<=g->g<w6.heap.size->g≠ob/\S g<60):=Hd RU;clear Uy h6 Ur RJ RU
     have z76:w6.cell? ⟨g7,0,none⟩=some (VI eB):=by
      exact abK
     have Tj:Hy ((fun W=>CP W ob 4 sb 0/\CS W ob 7 g7 k A/\CI W g7 0 eB) w6):=Hd ⟨(H6.o.o_.cell 4).trans ((f.o.o_.cell 4).symm.trans c4),(H6.o.o_.cell 7).trans ((f.o.o_.cell 7).symm.trans c7),z76⟩;refine hK.out _ _ (fun _=>Tj.o) ?_;clear hK K HS;have HS:=Tj;refine last.one 12 fun K hK=>?_;go_simp;refine (rP true u6 _ H6.o b7.o (fun g C O=>⟨(SC.o g C O).1,by have:=(SC.o g C O).2;omega⟩) Ty.o (0) rfl).mono ?_;rintro e w8 ⟨rfl,cc,v3,h8,Sj,Qm⟩;have H8:=Hd h8;have VL:=Hd Sj;have RW:=Hd Qm;clear h8 Sj Qm;refine hK.out _ _ (fun h=>absurd rfl h) ?_;clear hK K;refine last.done ?_;(go_wp2_with (go_at_call 45;refine (CD _ H8.o).mono ?_;rintro e w9 ⟨rfl,Vj⟩;have ZN:=Hd Vj;clear Vj));go_ret;rw[R.o];exact⟨rfl,gh.ahead (Ext.refl _ _) X8.o (gh.ahead Uu.o RY.o (gh.ahead VL.o RW.o ZN.o))⟩
 have e1:decide ((l.length:Int)=(t:Int))=false:=decide_eq_false ab;have HR:Hy (r.fu l=(2,r)):=Hd (by unfold eC.fu;rw[if_pos (by rw[<- F.o];exact hl)]);clear h hi hc E TB N hB;(go_enter Tryz.func29,Tryz.ntmps29);(go_wp2_with fail);go_ret;rw[HR.o];exact⟨rfl,gh.here H.o⟩
end
end iv
namespace iv
open Go.RowKit heap own gC gO fD fj gj
open eY (fe eA eM iM iw fU fY Net eC)
open fK (Idx Inv Tos Clk)
section
variable {P:Lib.PrintTabs} {own own1:Nat->Nat} {w0 w w':World} {ob db:Nat} {v v':WV} {r r':eC}
theorem tg (w:World) (k o:Int) {b:Int} {G:fK.gd} (hi:Inv b G r) (hb:b<1000000) (c:Idx r) (d:r.fg.length<=100000) (h:fp P own w0 w ob db v r) :
 Calls Tryz.prog 13 #[VP ob 0,VI k,VI o] w fun e w'=>e=.returned (iC (r.read k o).1)/\gh P own w0 ob db w (r.read k o).2 w':=by
 have a:BB w (w.alloc (.cells #[VI o] 3)):=(Below.refl _ _).alloc (ax _) _;have HC:=Hd (L2 (w.alloc (.cells #[VI o] 3)) k o w.heap.size (Has.new w _) hi hb c d (h.below a fun g hg=>h.fr g (aB a.size hg)));have f:=Hd a;clear h hi hb c d a;(go_enter Tryz.func13,Tryz.ntmps13);(go_wp2_with (go_at_call 30;refine HC.o.mono ?_;rintro e w' ⟨rfl,hs⟩));go_ret;exact⟨rfl,gh.ahead (Ext.refl _ _) (eJ.il f.o (ax _)) hs⟩
theorem vw (w:World) (k o:Int) (data:List UInt8) {b:Int} {G:fK.gd} (hi:Inv b G r) (hb:b<1000000) (f:Idx r) (i:r.fg.length<=100000) (h:fp P own w0 w ob db v r) :
 Calls Tryz.prog 16 #[VP ob 0,VI k,VI o,.string ⟨data.toArray⟩] w fun e w'=>e=.returned (iC (r.write k o data).1)/\gh P own w0 ob db w (r.write k o data).2 w':=by
 obtain⟨a,c⟩:=nm (w.alloc (.cells #[VI o] 3));(have d:BB w (a.alloc (.cells #[.string ⟨data.toArray⟩] 9)):=by rw[c];exact ((Below.refl _ _).alloc (ax _) _).alloc ae _);(have hp:Has (a.alloc (.cells #[.string ⟨data.toArray⟩] 9)) w.heap.size (.cells #[VI o] 3):=by rw[c];exact (Has.new w _).alloc _);have HC:=Hd (L4 (a.alloc (.cells #[.string ⟨data.toArray⟩] 9)) k o data w.heap.size a.heap.size hp (Has.new a _) hi hb f i (h.below d fun g hg=>h.fr g (aB d.size hg)));have j:=Hd d;(have l:a.heap.size=w.heap.size+1:=by rw[c];simp);rw[l]at HC;rw[c]at HC j;clear h hi hb f i d hp l c;(go_enter Tryz.func16,Tryz.ntmps16);(go_wp2_with (go_at_call 30;refine HC.o.mono ?_;rintro e w' ⟨rfl,hs⟩));go_ret;exact⟨rfl,gh.ahead (Ext.refl _ _) (eJ.il j.o (ax _)) hs⟩
theorem CX (t:fU) (d:fe) (eB:Int):((eA.new t d eB).2.2=none->(eA.new t d eB).1≠0)/\∀s,(eA.new t d eB).2.2=some s->(eA.new t d eB).1=0:=by
 unfold eA.new;split
 ·exact⟨fun _=>ae,fun s h=>by cases h⟩
 simp only
 generalize (if 1<wrap64 (((eA.blank t eB).iN d.eG).eS+1) then ({ (eA.blank t eB).iN d.eG with eS:=wrap64 (((eA.blank t eB).iN d.eG).eS+1),quiet:=eB+t.fa}:eA) else { (eA.blank t eB).iN d.eG with eS:=wrap64 (((eA.blank t eB).iN d.eG).eS+1)})=s2
 generalize d.add false ⟨0,0,-1,0,[],s2.eS⟩=p;split
 ·exact⟨(fun h=>by cases h),fun s _=>rfl⟩
 rename_i a;exact⟨fun _=>a,fun s h=>by cases h⟩
theorem CY (he:Ext w own own1):∀g,fL (only own own1 w 1 20) g->fL own1 g:=fun g a=>by
 unfold fL only at *;split at a
 ·rename_i b;rw[he g b];exact a
 split at a
 ·exact a
 omega
theorem CZ (h:fp P own w0 w ob db v r):∀g,only own own1 w 1 20 g≠0->w0.heap.size<=g:=fun g b=>by
 rcases bk g w.heap.size with a|a
 ·rw[mX own own1 w 1 20 g a]at b;exact h.low g b
 exact aB h.iA.size a
theorem Mk {d:fe} {ps:List ByteArray} (h:fp P own w0 w ob db v r) (hs:r.ff=none) (hp:v.sp=.pointer none) (he:Ext w own own1) (ht:eJ (fL own) w w') (hd:kS P own1 w0 w' db ps d) :
 ∃a,fp P a w0 w' ob db v {r with eP:=d}/\Ext w own a/\eJ (fun g=>own g≠0) w w':=by
 have c:=s7 (own:=own) (own1:=own1) (lo:=1) (hi:=20) ht.size hd.fr;have b:=LN (own1:=only own own1 w 1 20) hd (fun g k f b h3=>sZ he g k f b h3) (CY he) c;have h3:=h.ff ht (mX own own1 w 1 20) c (CZ h) d none ⟨hp,ps,b⟩;refine⟨only own own1 w 1 20,?_,mX own own1 w 1 20,ht.mono fun g _ e=>by unfold fL at e;show own g≠0;omega⟩;(have e:({r with eP:=d,ff:=none}:eC)={r with eP:=d}:=by rw[<- hs]);rw[<- e];exact h3
theorem vy {d:fe} {s:eA} {sb c f i j:Nat} {l:Value} {ps:List ByteArray} {m:List Value} (h:fp P own w0 w ob db v r) (hp:v.sp=.pointer none) (he:Ext w own own1) (ht:eJ (fL own) w w') (hs:fC P own1 w0 w' sb db c f i j l ps m d s) :
 ∃a,fp P a w0 w' ob db v {r with eP:=d,ff:=none}/\Ext w own a/\eJ (fun g=>own g≠0) w w'/\fC P a w0 w' sb db c f i j l ps m d s:=by
 have n:=s7 (own:=own) (own1:=own1) (lo:=1) (hi:=20) ht.size hs.fr;have b:=Ci (own1:=only own own1 w 1 20) hs (fun g k o b h3=>sZ he g k o b h3) (CY he) n;exact⟨_,h.ff ht (mX own own1 w 1 20) n (CZ h) d none ⟨hp,ps,b.eP⟩,mX _ _ _ _ _,ht.mono fun g _ e=>by unfold fL at e;show own g≠0;omega,b⟩
theorem fp.C3 {s:eA} {sb a b c d:Nat} {f:Value} {ps:List ByteArray} {i:List Value} (h:fp P own w0 w ob db v r) (hs:fC P own w0 w sb db a b c d f ps i r.eP s) :
 fp P own w0 (w.setCell ⟨ob,4,none⟩ (VP sb 0)) ob db {v with sp:=VP sb 0} {r with ff:=some s}:=by
 have ht:eJ (fun g=>g=ob) w (w.setCell ⟨ob,4,none⟩ (VP sb 0)):=fF.gX (eJ.refl _ _) _ _;have hp:jW P own w0 w db (VP sb 0) r.eP (some s):=⟨sb,a,b,c,d,f,ps,i,rfl,hs⟩;exact h.xQ r.step r.eH.lost (VP sb 0) (some s) ht (hp.fc ht (Ext.refl w own) (fun g j=>h.fr g (aB ht.size j)) fun g _ e=>⟨fun e2=>by have e:g=ob:=e;unfold fL at e2;rw[e,h.gI]at e2;omega,by have e:g=ob:=e;rw[e];exact h.low ob (by rw[h.gI];decide)⟩) (h.o_.fQ 4 (VP sb 0))
theorem C4 (w:World) (h:fp P own w0 w ob db v r) :
 Calls Tryz.prog 24 #[VP ob 0] w fun e w'=>e=.returned (iC r.gK.1)/\gh P own w0 ob db w r.gK.2 w':=by
 have c4:CC w ob 4 v.sp:=h.o_.cell 4;rcases h.vp with⟨t,u⟩|⟨s,sb,t,u⟩
 ·rw[u]at c4;obtain⟨r3,y⟩:=nm ({r.fA with eP:=r.fA.eP.cutAt (-1)}:eC);(have Y:r3.ff=none:=by rw[y];exact t);(have A:0<r3.eN.length:=by rw[y];show 0<r.eN.length;have:=h.nc.1;omega);have I:r3.eN[0]?=some (r3.eN[0]'A):=ay A;generalize r3.eN[0]'A=eB at I;obtain⟨x,J⟩:=nm (eA.new r3.eZ r3.eP eB)
  have HR:Hy (r.gK=(x.1,{r3 with eP:=x.2.1,ff:=x.2.2})):=Hd (by
   (have P6:r3.eN.getD 0 0=eB:=by rw[aC,I];rfl);unfold eC.gK;rw[t];dsimp only
   rw[J,<- P6,y])
  have HX:=Hd J;have B:=Hd I;have H:=Hd h;have f:=Hd u;have O:=Hd Y;have R9:=Hd y;have i:=Hd (CX r3.eZ r3.eP eB);rw[<- J]at i;clear h t u y Y J I A;go_enter Tryz.func24,Tryz.ntmps24
  go_upto_region 5 with first
   |(go_at_call 39;refine (yc _ H.o).mono ?_;rintro e w1 ⟨rfl,L,Z⟩;have H1:=Hd L;have Qd:=Hd Z;have c3:CP w1 ob 3 db 0:=L.o_.cell 3;clear L Z c4)
   |(go_at_call 26;refine (Cg _ (-1) H1.o).mono ?_;rintro e w3 ⟨rfl,Q,P5⟩;rw[<- R9.o]at Q;have b:=Hd Q;have QV:=Hd (Qd.o.trans P5 fun g _ e=>by unfold fL at e;show own g≠0;omega);clear Q P5 c3)
  have C:=b.o.fj;rw[O.o]at C;obtain⟨-,ps,C⟩:=C;obtain⟨g7,P0,Tz,Te,UA,z7,f7⟩:=lE b.o.ck B.o;obtain⟨n7,R⟩:=nm r3.eN.length;(have A:0<n7:=by rw[R];exact (az.1 B.o).1);(have c7:w3.cell? ⟨ob,7,none⟩=some (.slice (some ⟨g7,0,none⟩) n7 P0):=by rw[R,<- Tz];exact b.o.o_.cell 7);have d0:CI w3 ob 0 r3.eZ.eF:=b.o.o_.cell 0;have d1:CI w3 ob 1 r3.eZ.fa:=b.o.o_.cell 1;have d2:CI w3 ob 2 r3.eZ.fH:=b.o.o_.cell 2;have d3:CP w3 ob 3 db 0:=b.o.o_.cell 3;have S:=Hd (Bq w3.drew r3.eZ eB (C.below (Below.refl _ _).drew));rw[<- HX.o]at S;have Qc:ob<w3.heap.size:=b.o.o_.lt
  have QY:Hy (¬fL own ob/\¬fL own g7):=Hd (by
   have L:=b.o.gI;unfold fL
   omega)
  clear C Tz Te R f7;obtain⟨n,d,o⟩:=x
  cases o with
  |none =>
   have T:n≠0:=i.o.1 rfl;have ZZ:=Hd (o8 T);have D:=Hd T;clear T;refine last.iJ (fun W=>CI W ob 0 r3.eZ.eF/\CI W ob 1 r3.eZ.fa/\CI W ob 2 r3.eZ.fH/\CP W ob 3 db 0/\CS W ob 7 g7 n7 P0/\CI W g7 0 eB) 1000 20 ⟨d0,d1,d2,d3,c7,z7⟩ fun HS=>?_;refine last.many [(0,19,_),(1,20,_),(2,21,_),(3,22,_),(4,23,_),(5,24,_),(6,25,_),(7,26,_),(8,27,_),(9,28,_),(10,29,_),(11,30,_),(12,31,_),(13,32,_)] HS.o ?_ (hy:=fun W' c=>by have e0:=c.1;have e1:=c.2.1;have e2:=c.2.2.1;have f0:=c.2.2.2.1;have f1:=c.2.2.2.2.1;have f2:=c.2.2.2.2.2;repeat (first|exact .z|refine .s ?_|refine .k ?_));refine last.one 14 fun K hK=>?_;go_simp;refine S.o.mono ?_;rintro e w5 ⟨Zj,E,WC,U,rfl,F⟩;have j:=Hd E;have l:=Hd WC;rw[ZZ.o];have ZM:=Hd F;clear F;refine aaC ?_;clear E WC hK K HS;intro PF HS;clear d0 d1 d2 d3 c7 z7 HS;(go_wp2_with fail);go_ret;obtain⟨a,m,M,N⟩:=Mk (b.o.below (Below.refl _ _).drew b.o.fr) O.o f.o j.o l.o ZM.o;rw[HR.o];refine⟨by rw[ZZ.o];rfl,?_⟩;(have e:({r3 with eP:=d,ff:=none}:eC)={r3 with eP:=d}:=by rw[<- O.o]);rw[e];exact gh.ahead (Ext.refl _ _) QV.o ⟨a,v,m,fun g V=>M g V,(eJ.refl _ w3).drew.trans N fun _ _ e=>e⟩
  |some s =>
   have D:Hy (n=0):=Hd (i.o.2 s rfl);refine last.iJ (fun W=>CI W ob 0 r3.eZ.eF/\CI W ob 1 r3.eZ.fa/\CI W ob 2 r3.eZ.fH/\CP W ob 3 db 0/\CS W ob 7 g7 n7 P0/\CI W g7 0 eB) 1000 20 ⟨d0,d1,d2,d3,c7,z7⟩ fun HS=>?_;refine last.many [(0,19,_),(1,20,_),(2,21,_),(3,22,_),(4,23,_),(5,24,_),(6,25,_),(7,26,_),(8,27,_),(9,28,_),(10,29,_),(11,30,_),(12,31,_),(13,32,_)] HS.o ?_ (hy:=fun W' c=>by have e0:=c.1;have e1:=c.2.1;have e2:=c.2.2.1;have f0:=c.2.2.2.1;have f1:=c.2.2.2.2.1;have f2:=c.2.2.2.2.2;repeat (first|exact .z|refine .s ?_|refine .k ?_));refine last.one 14 fun K hK=>?_;go_simp;refine S.o.mono ?_;rintro e w5 ⟨Zj,E,WC,aa,ad,al,an,aq,vN,U,ar,rfl,G⟩;have j:=Hd E;have l:=Hd WC;have X:=Hd G;clear G;refine aaC ?_;clear E WC hK K HS;intro PF HS;clear d0 d1 d2 d3 c7 z7 HS;obtain⟨a,m,M,N,k4⟩:=vy (b.o.below (Below.refl _ _).drew b.o.fr) f.o j.o l.o X.o;have H5:=Hd m;have Rm:Hy (Ext w3 own a):=Hd fun g V=>M g V;have SD:Hy (eJ (fun g=>own g≠0) w3 w5):=Hd ((eJ.refl _ w3).drew.trans N fun _ _ e=>e);(have q4:w5.cell? ⟨ob,4,none⟩=some (.pointer none):=by rw[<- f.o];exact m.o_.cell 4);have f4:=m.o_.frozen 4;have H6:=Hd (m.C3 k4);clear m M N k4;(go_wp2_with fail);go_ret;rw[HR.o,D.o];refine⟨rfl,gh.ahead (Ext.refl _ _) QV.o ⟨a,_,H6.o,Rm.o,SD.o.setCell (p:=⟨ob,4,none⟩) (.inr (by show own ob≠0;rw[H.o.gI];decide)) _⟩⟩
 rw[u]at c4;have HR:Hy (r.gK=(6,r)):=Hd (by unfold eC.gK;rw[t]);have H:=Hd h;clear h t u;(go_enter Tryz.func24,Tryz.ntmps24);(go_wp2_with fail);go_ret;rw[HR.o];exact⟨rfl,gh.here H.o⟩
end
end iv
end Go.Proofs.YtjhdaojclilakaaGreatDoor
