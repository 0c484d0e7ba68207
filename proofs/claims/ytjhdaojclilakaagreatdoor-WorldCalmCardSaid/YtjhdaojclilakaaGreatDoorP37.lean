/-
  A part of the proof of the law WorldCalm: WoK.
-/
import Derived.Test.YtjhdaojclilakaaGreatDoorHd
import Derived.Test.YtjhdaojclilakaaGreatDoorP36
set_option maxHeartbeats 16000000
set_option maxRecDepth 1000000
namespace Go.Proofs.YtjhdaojclilakaaGreatDoor
section
variable {p q:Prop}
theorem aaa (h:p:=by
 obtain⟨r1,QI⟩:=nm (({r with eD:=r.eD.set n c'}:eC).fA);have Qj:=Hd QI;have aly:Hy (eJ (fun g=>own2 g≠0) w1 w2):=Hd (H1.o.pT Qo.o);have QG:({r with eD:=r.eD.set n c'}:eC).fA=r1:=QI.symm;rw[QG]at H2;clear QG QI;(have Zb:r1.eD[n]?=some c':=by rw[Qj.o];show (r.eD.set n c')[n]?=_;rw[aS HNL.o]);(have UD:r1.eD.length=m:=by rw[Qj.o,HM.o];show (r.eD.set n c').length=_;simp);(have hol:r1.ft.length=m:=by rw[H2.o.no,UD]);(have Uv:r1.fy.length=m:=by rw[H2.o.nl,UD]);(have Qx:r1.fg.length<=100000:=by rw[Qj.o];exact HN.o);have QX:r1.ft[n]?=some (r1.ft[n]'(by omega)):=ay _;have PG:r1.fy[n]?=some (r1.fy[n]'(by omega)):=ay _;generalize r1.ft[n]'(by omega)=ov at QX;generalize r1.fy[n]'(by omega)=lv at PG;obtain⟨g8,To,Vo,Sb,ZX,z8,f8⟩:=lE H2.o.op QX;obtain⟨ea,ec,hve⟩:=oM H2.o.ev aj;(have VQ:w2.cell? ⟨ob,11,none⟩=some (.slice (some ⟨g8,0,none⟩) m To):=by rw[<- hol,<- Vo];exact H2.o.o_.cell 11);(have Rz:w2.cell? ⟨ob,10,none⟩=some (.slice ea r1.fg.length ec):=by rw[<- hve];exact H2.o.o_.cell 10);obtain⟨ne,PB⟩:=nm r1.fg.length;rw[<- PB]at Rz Qx hve;(have adr:ob≠g8:=fun e=>by have:=H2.o.gI;rw[e,Sb]at this;cases this);have HKO:=Hd QX;have UU:=Hd PG;have HV8:=Hd Vo;have Yk:=Hd Sb;have HVE:=Hd hve;have R8:=Hd PB;have HOL:=Hd hol;have WX:=Hd Uv;have Z3:=Hd UD;have S9:=Hd Zb;have TN:=Hd Qx;clear QX PG Vo Sb hve PB hol Uv UD Zb Qx;refine last.iJ (fun W=>CS W ob 11 g8 m To/\CC W ob 10 (.slice ea ne ec)) 11 12 ⟨VQ,Rz⟩ fun HS=>?_;refine last.many [(0,31,_),(1,32,_),(2,33,_),(3,34,_),(4,35,_),(5,36,_),(6,37,_),(7,38,_),(8,39,_),(9,40,_),(10,41,_)] HS.o ?_ (hy:=fun W' Pt=>by have e1:=Pt.1;have f0:=Pt.2;repeat (first|exact .z|refine .s ?_|refine .k ?_));refine last.one 11 fun K hK=>?_;go_simp;refine hK.out _ _ (fun h=>absurd rfl h) ?_;clear hK K;refine last.done ?_;obtain⟨W3,PO⟩:=nm ((w2.setCell ⟨g8,n,none⟩ (VI ne)).drew);rw[<- PO];obtain⟨r3,Ru⟩:=nm ({r1 with ft:=r1.ft.set n ne}:eC)
 have H3:Hy (fp P own2 w0 W3 ob db v r3):=Hd (by
  rw[PO,Ru];have h3:=H2.o.uX n ne (by rw[HOL.o,<- Z3.o];exact (az.mp S9.o).1) (HV8.o.trans (by rw[HOL.o])) Yk.o
  exact h3.below (Below.refl _ _).drew h3.fr)
 have QV:Hy (eJ (fun g=>own2 g=65) w2 W3):=Hd (by rw[PO];exact ((eJ.refl (fun g=>own2 g=65) w2).setCell (p:=⟨g8,n,none⟩) (.inr Yk.o) _).drew);have R9:=Hd Ru;(have Q7:r3.eD[n]?=some c':=by rw[Ru];exact S9.o);(have R7:r3.fy[n]?=some lv:=by rw[Ru];exact UU.o);(have ZL:r3.fy.length=m:=by rw[Ru];exact WX.o);(have Sr:r3.eD.length=m:=by rw[Ru];exact Z3.o);(have hn3:r3.fg.length=ne:=by rw[Ru];exact R8.o.symm);clear VQ Rz z8 f8 ZX adr PO Ru;obtain⟨g5,Qe,cb,fm,sm,cv,R1,S3,Vp,Sn,z5,f5,SJ⟩:=H3.o.pt Q7;obtain⟨g6,Rp,WB,Zc,Xb,z6,f6⟩:=lE H3.o.li R7;(have c5:W3.cell? ⟨ob,5,none⟩=some (.slice (some ⟨g5,0,none⟩) m Qe):=by rw[<- Sr,<- R1];exact H3.o.o_.cell 5);(have c6:W3.cell? ⟨ob,6,none⟩=some (.slice (some ⟨g6,0,none⟩) m Rp):=by rw[<- ZL,<- WB];exact H3.o.o_.cell 6);(have Rz:W3.cell? ⟨ob,10,none⟩=some (.slice ea ne ec):=by rw[<- HVE.o];exact H3.o.o_.cell 10);have TQ:CI W3 ob 12 r3.step:=H3.o.o_.cell 12;have PI:=xN W3.drew SJ.drew;unfold sR at PI;have HCA:=Hd PI;have Qy:ob<W3.heap.size:=H3.o.o_.lt;(have hnm:n<m:=by rw[<- Sr];exact (az.mp Q7).1);have RR:=Hd Q7;have HK3:=Hd R7;have YK:=Hd Sr;have HN3:=Hd hn3;have HO5:=Hd S3;have HO6:=Hd Zc;clear PI R1 WB Sn SJ Q7 R7 ZL Sr hn3 S3 Zc f5 f6;(go_upto_region 8 with fail);refine last.iJ (fun W=>CC W ob 10 (.slice ea ne ec)/\CS W ob 5 g5 m Qe/\CI W ob 12 r3.step/\CS W ob 6 g6 m Rp/\CP W g5 n cb 0/\CI W g6 n lv) 30 31 ⟨Rz,c5,TQ,c6,z5,z6⟩ fun HS=>?_;refine last.many [(0,42,_),(1,43,_),(2,44,_),(3,45,_),(4,46,_),(5,47,_),(6,48,_),(7,49,_),(8,50,_),(9,51,_),(10,52,_),(11,53,_),(12,54,_),(14,56,_),(15,57,_),(16,58,_),(17,59,_),(18,60,_),(19,61,_),(20,62,_),(21,63,_),(22,64,_),(23,65,_),(24,66,_)] HS.o ?_ (hy:=fun W' Pt=>by have e1:=Pt.1;have f0:=Pt.2.1;have f1:=Pt.2.2.2.2.1;have f2:=Pt.2.2.1;have f3:=Pt.2.2.2.1;have f4:=Pt.2.2.2.2.2;repeat (first|exact .z|refine .s ?_|refine .k ?_));refine last.one 13 fun K hK=>?_;go_simp;refine HCA.o.mono ?_;rintro e w4 ⟨rfl,Qh⟩;have Qh:=((Below.refl W3.heap.size W3).drew).trans Qh;have UH:Hy ((fun W=>CC W ob 10 (.slice ea ne ec)/\CS W ob 5 g5 m Qe/\CI W ob 12 r3.step/\CS W ob 6 g6 m Rp/\CP W g5 n cb 0/\CI W g6 n lv) w4):=Hd ⟨(Qh.cell (p:=⟨ob,10,none⟩) Qy).trans Rz,(Qh.cell (p:=⟨ob,5,none⟩) Qy).trans c5,(Qh.cell (p:=⟨ob,12,none⟩) Qy).trans TQ,(Qh.cell (p:=⟨ob,6,none⟩) Qy).trans c6,(Qh.cell (p:=⟨g5,n,none⟩) Vp).trans z5,(Qh.cell (p:=⟨g6,n,none⟩) Xb).trans z6⟩;have Rb:=Hd Qh;clear Qh;refine hK.out _ _ (fun _=>UH.o) ?_;clear hK K HS;have HS:=UH;clear UH;refine last.many [(25,67,_)] HS.o ?_;refine last.one 26 fun K hK=>?_;go_simp;obtain⟨G5,hG5⟩:=nm w4.heap.size;obtain⟨w5,Tx⟩:=nm (w4.alloc (.cells #[VI n,VI c'.call.eO,VI c'.call.eF,.string ⟨c'.call.value.data.toArray⟩,VI c'.call.value.fq,.bool c'.call.over,.bool c'.call.hit,VI r3.step,VI 0,VI lv] 45));rw[<- Tx,<- hG5];have PW:BB W3 w5:=Rb.o.trans (by rw[Tx];exact (Below.refl _ _).alloc Rb.o.size _);have PF:Hy ((fun W=>CC W ob 10 (.slice ea ne ec)/\CS W ob 5 g5 m Qe/\CI W ob 12 r3.step/\CS W ob 6 g6 m Rp/\CP W g5 n cb 0/\CI W g6 n lv) w5):=Hd ⟨(PW.cell (p:=⟨ob,10,none⟩) Qy).trans Rz,(PW.cell (p:=⟨ob,5,none⟩) Qy).trans c5,(PW.cell (p:=⟨ob,12,none⟩) Qy).trans TQ,(PW.cell (p:=⟨ob,6,none⟩) Qy).trans c6,(PW.cell (p:=⟨g5,n,none⟩) Vp).trans z5,(PW.cell (p:=⟨g6,n,none⟩) Xb).trans z6⟩;have Xx:Hy (Has w5 G5 (.cells (gB ⟨n,c'.call,r3.step,0,lv⟩).toArray 45)):=Hd (by rw[Tx,hG5];exact Has.new w4 _);have H5:Hy (fp P own2 w0 w5 ob db v r3):=Hd (H3.o.below PW fun g hg=>H3.o.fr g (aB PW.size hg));have RT:=Hd PW;clear PW Tx hG5;refine hK.out _ _ (fun _=>PF.o) ?_;clear hK K HS;have HS:=PF;clear PF;refine last.one 27 fun K hK=>?_;refine te (own:=own2) (.tmp 46) (.tmp 68) 38 45 64 10 80 (.agg #[VI 0,VI 0,VI 0,.string ByteArray.empty,VI 0,.bool false,.bool false,VI 0,VI 0,VI 0]) rfl Tryz.underlying38 af rfl aj (.slice ea ne ec) ne G5 (r3.fg.flatMap gB) (gB ⟨n,c'.call,r3.step,0,lv⟩) rfl (by rw[<- HVE.o,<- HN3.o];exact H5.o.ev) rfl Xx.o rfl (qN _) (by have:=TN.o;omega) aj w5.heap.size rfl fun g7 P0 w7 VU Vl h37 h47=>?_;rw[<- HVE.o]at Vl h37;rw[<- HN3.o]at VU;obtain⟨h8,Sj,Qm,hs8⟩:=H5.o.Cp _ VU Vl h37 h47;rw[HN3.o]at h8 Qm;have RY:Hy (eJ (fun k=>own2 k=64) w5 w7):=Hd (qM Vl H5.o.ev.2);have H8:=Hd h8;have VL:=Hd Sj;have RW:=Hd Qm;have SL:ob<w5.heap.size:=aG Qy RT.o.size;(have no:¬own2 ob=64:=by rw[H5.o.gI];decide);(have n5:¬own2 g5=64:=by rw[HO5.o];decide);(have n6:¬own2 g6=64:=by rw[HO6.o];decide);have T6:Hy ((fun W=>CC W ob 10 (.slice ea ne ec)/\CS W ob 5 g5 m Qe/\CI W ob 12 r3.step/\CS W ob 6 g6 m Rp/\CP W g5 n cb 0/\CI W g6 n lv) w7):=Hd ⟨(RY.o.cell (p:=⟨ob,10,none⟩) SL no).trans HS.o.1,(RY.o.cell (p:=⟨ob,5,none⟩) SL no).trans HS.o.2.1,(RY.o.cell (p:=⟨ob,12,none⟩) SL no).trans HS.o.2.2.1,(RY.o.cell (p:=⟨ob,6,none⟩) SL no).trans HS.o.2.2.2.1,(RY.o.cell (p:=⟨g5,n,none⟩) (aG Vp RT.o.size) n5).trans HS.o.2.2.2.2.1,(RY.o.cell (p:=⟨g6,n,none⟩) (aG Xb RT.o.size) n6).trans HS.o.2.2.2.2.2⟩;have oD:CC w7 ob 10 (.slice ea ne ec):=T6.o.1;have k10:w7.frozen? ⟨ob,10,none⟩=false:=(RY.o.frozen (p:=⟨ob,10,none⟩) SL no).trans (H5.o.o_.frozen 10);refine hK.out _ _ (fun _=>T6.o) ?_;clear hK K HS VU Vl h37 h47 h8 Sj Qm;have HS:=T6;clear T6;refine last.iF [29,28] 28 70 (VP ob 0) HS.o ?_;dsimp only[List.set];refine last.many [(29,71,_)] HS.o ?_;refine last.one 30 fun K hK=>?_;go_simp;refine hK.out _ _ (fun h=>absurd rfl h) ?_;clear hK K;refine last.done ?_;obtain⟨ev,Qx⟩:=nm (⟨n,c'.call,r3.step,0,lv⟩:iw);obtain⟨W8,QT⟩:=nm (w7.setCell ⟨ob,10,none⟩ (.slice (some ⟨g7,0,none⟩) (ne+1) P0));obtain⟨own3,Sq⟩:=nm (jS own2 g7 64);obtain⟨r8,Vi⟩:=nm ({r3 with fg:=r3.fg++[ev]}:eC);rw[<- Qx,<- QT,<- Sq,<- Vi]at H8;rw[<- QT]at RW;rw[<- Sq]at VL;rw[<- QT];have XQ:=Hd Sq;have HEE:=Hd Qx;have HR8:=Hd Vi;clear QT Sq Vi Qx oD k10 HS Rz c5 TQ c6 z5 z6
 have Zd:Hy (eJ (fun g=>g=ob\/own2 g=65\/own2 g=64) w1 W8):=Hd (by
  refine eJ.trans (eJ.trans (Qo.o.mono fun g _ e=>.inl e) (QV.o.mono fun g _ e=>.inr (.inl e)) fun _ _ e=>e) (eJ.trans (eJ.il (S:=fun g=>g=ob\/own2 g=65\/own2 g=64) RT.o (ax _)) RW.o fun g _ e=>?_) fun _ _ e=>e;rcases e with e|e
  ·exact .inl e
  exact .inr (.inr e))
 have HM8:Hy (fV w.heap.size W8 u l):=Hd (HM1.o.fI Zd.o fun g h1 h2 e=>by
  obtain⟨a1,a2⟩:=PQ.o g h1 h2;rcases e with e|e|e
  ·exact a1 e
  ·omega
  omega)
 have Ze:Hy (Ext w1 own2 own3):=Hd fun g hg=>VL.o g (aG hg (aB Qo.o.size (aB QV.o.size RT.o.size)))
 have HB8:Hy (∀g,w.heap.size<=g->g<W8.heap.size->g≠ob/\own3 g≠66):=Hd fun g h1 h2=>by
  have Ua:=Qd.o.size;rcases bk g w1.heap.size with h3|h3
  ·obtain⟨a1,a2⟩:=PQ.o g h1 h3;exact⟨a1,by rw[Ze.o g h3];omega⟩
  refine⟨fun e=>ab,fun e=>?_⟩;have h0:=H1.o.fr g h3;rw[XQ.o]at e;unfold jS at e;split at e
  ·cases e
  omega
 have Yn:Hy (Idx r8):=Hd (by
  rw[HR8.o,R9.o];intro x hx;simp only[aE,aQ]at hx⊢;have PB:=R8.o;rcases fK.mem_set hx with h1|h1
  ·rw[h1];omega
  rw[Qj.o]at h1⊢;have:=HX.o x h1;show x<((r.fg.length+1:Nat):Int)
  omega)
 have HNC:Hy (n<(r8.gf false l).eD.length):=Hd (by rw[HR8.o];show n<r3.eD.length;rw[YK.o];exact hnm)
 have V3:Hy (r.gJ n 0 l c'=(0,(r8.gf false l).gG n)):=Hd (by
  (have e1:r1.fy.getD n 0=lv:=by rw[aC,UU.o];rfl);unfold eC.gJ;rw[if_neg aj];simp only
  rw[<- Qj.o,<- R8.o,e1,HR8.o,HEE.o,R9.o])
 go_wp2_with first
  |(go_at_call 40;refine (rP false u _ H8.o HM8.o HB8.o Ty.o (-1) rfl).mono ?_;rintro e w9 ⟨rfl,Tm,v9,h9,hx9,Su⟩;have H9:=Hd h9;have HX9:=Hd hx9;have VG:=Hd Su;clear h9 hx9 Su)
  |(go_at_call 47;refine (xZ _ n H9.o HNC.o (Yn.o.xY false l)).mono ?_;rintro e w10 ⟨rfl,Zf⟩;have YU:=Hd Zf;clear Zf)
 go_ret;rw[HR.o,V3.o];refine⟨rfl,?_⟩
 have adw:eJ (fun g=>own2 g≠0) w1 W8:=Zd.o.mono fun g _ e=>by
  rcases e with e|e|e
  ·rw[e,H1.o.gI];decide
  ·show own2 g≠0;omega
  show own2 g≠0;omega
 have hT1:eJ (fun g=>own g≠0) w w1:=Qd.o;have s9:=gh.ahead HX9.o VG.o YU.o;have s8:=gh.ahead Ze.o adw s9;exact gh.ahead Qn.o hT1 s8):p:=h
end
namespace iv
open Go.RowKit heap own gC gO fD fj gj
open eY (fe eA eM iM iw fU fY Net eC)
open fK (Idx Inv)
section
variable {P:Lib.PrintTabs} {own own1:Nat->Nat} {w0 w w':World} {ob db:Nat} {v v':WV} {r r':eC}
theorem qN (e:iw):∀u∈gB e,u.oneCell'=true:=by
 intro u hu;simp only[gB,aH,bq,or_false]at hu;rcases hu with rfl|rfl|rfl|rfl|rfl|rfl|rfl|rfl|rfl|rfl<;>rfl
theorem fp.Cp {c b:World} {a cap:Nat} (h:fp P own w0 c ob db v r) (x:iw) (s:Row (jS own a 64) 64 b 45 10 (.slice (some ⟨a,0,none⟩) (r.fg.length+1) cap) (r.fg.length+1) (r.fg.flatMap gB++gB x)) (t:c.grownBy b v.ev.ownBlock) (d:v.ev.ownBlock=some a\/a=c.heap.size) (u:a<b.heap.size) :
 fp P (jS own a 64) w0 (b.setCell ⟨ob,10,none⟩ (.slice (some ⟨a,0,none⟩) (r.fg.length+1) cap)) ob db {v with ev:=.slice (some ⟨a,0,none⟩) (r.fg.length+1) cap} {r with fg:=r.fg++[x]}/\Ext c own (jS own a 64)/\eJ (fun g=>g=ob\/own g=64) c (b.setCell ⟨ob,10,none⟩ (.slice (some ⟨a,0,none⟩) (r.fg.length+1) cap))/\c.heap.size<=b.heap.size:=by
 have f:=h.ev.2;have m:=qM t f;have he:=rQ (w:=c) f d;have o:c.heap.size<=b.heap.size:=m.size;have ht:eJ (fun g=>g=ob\/own g=64) c (b.setCell ⟨ob,10,none⟩ (.slice (some ⟨a,0,none⟩) (r.fg.length+1) cap)):=(m.mono fun g _ e=>.inr e).setCell (p:=⟨ob,10,none⟩) (.inr (.inl rfl)) _;have n:eJ (fun g=>g=ob) b (b.setCell ⟨ob,10,none⟩ (.slice (some ⟨a,0,none⟩) (r.fg.length+1) cap)):=fF.gX (eJ.refl _ _) _ _
 have no:∀i j,i<c.heap.size->own i=j->j≠60->j≠64->¬(i=ob\/own i=64):=fun i j _ hi h1 h2 e=>by
  rcases e with e|e
  ·rw[e,h.gI]at hi;exact h1 hi.symm
  exact h2 (hi.symm.trans e)
 refine⟨h.rows ht (fun g _ e=>?_) he (vj h.fr (aB o n.size) (aG u n.size)) (fun g Tr=>?_) ?_ rfl rfl rfl rfl rfl rfl rfl (h.cl.fc ht he fun i hi ho=>no i 61 hi ho aj aj) (h.li.fc ht he fun i hi ho=>no i 62 hi ho aj aj) (h.ck.fc ht he fun i hi ho=>no i 63 hi ho aj aj) ?_ (h.op.fc ht he fun i hi ho=>no i 65 hi ho aj aj) rfl rfl rfl,he,ht,o⟩
 ·rcases e with e|e
  ·exact .inl e
  exact .inr ab
 ·unfold jS at Tr;split at Tr
  ·rename_i e;rcases d with d|d
   ·have:=f _ d;rw[e];exact h.low a ab
   rw[e,d];exact h.iA.size
  exact h.low g Tr
 ·have y:Has b ob (.cells (ny db v r) 68):=m.has h.o_ (by rw[h.gI];decide);exact y.fQ 10 _
 have h8:Row (jS own a 64) 64 b 45 10 (.slice (some ⟨a,0,none⟩) (r.fg.length+1) cap) (r.fg++[x]).length ((r.fg++[x]).flatMap gB):=by
  rw[aE,aQ,cH,List.flatMap_singleton];exact s
 refine h8.fc n (Ext.refl _ _) fun k _ l e=>?_;unfold jS at l;have e:k=ob:=e;split at l
 ·rename_i z;have q:=h.gI;rcases d with d|d
  ·rw[<- e,z,f _ d]at q;cases q
  have:=h.o_.lt;omega
 rw[e,h.gI]at l;cases l
theorem L1 (w:World) (o:Int) (p:Nat) (hp:Has w p (.cells #[VI o] 3)) (h:fp P own w0 w ob db v r) {k b:Nat} {c:eM} (d:r.eD[k]?=some c) (f:v.ja[k]?=some b) :
 Calls Tryz.prog 31 #[VP b 0,VP p 0] w (oS P own w0 ob db v w {r with eD:=r.eD.set k (c.read o).2.2} (c.read o).2.1 fun u=>.tuple #[u,iC (c.read o).1]):=by
 have q:CI w p 0 o:=hp.cell 0;have g:=Hd (LX w o h d f);clear h d f hp;(go_enter Tryz.func31,Tryz.ntmps31);(go_wp2_with (go_at_call 32;refine g.o.mono ?_;rintro e s ⟨u,a,rfl,i,j,l,m,n⟩));go_ret2;exact⟨u,a,rfl,i,j,l,m,n⟩
theorem L2 (w:World) (k o:Int) (p:Nat) (hp:Has w p (.cells #[VI o] 3)) {b:Int} {G:fK.gd} (hi:Inv b G r) (hb:b<1000000) (hx:Idx r) (D:r.fg.length<=100000) (h:fp P own w0 w ob db v r) :
 Calls Tryz.prog 30 #[VP ob 0,VI k,.func (.func 31) #[] #[VP p 0]] w fun e w'=>e=.returned (iC (r.read k o).1)/\gh P own w0 ob db w (r.read k o).2 w':=by
 have TS:=Hd (uU w k h)
 cases hr:r.right k with
 |false =>
  rw[hr]at TS;have HR:Hy (r.read k o=(2,r)):=Hd (by unfold eC.read;rw[hr];rfl);have H:=Hd h;clear h hr hp;(go_enter Tryz.func30,Tryz.ntmps30);exact aa5
 |true =>
  rw[hr]at TS;obtain⟨n,rfl,y⟩:=oT hr;have a:r.eD[n]?=some r.eD[n]:=ay y;generalize r.eD[n]=c at a;obtain⟨g5,Qe,cb,fm,sm,cv,R1,S3,Vp,Sn,z5,f5,SJ⟩:=h.pt a;have c5:CS w ob 5 g5 r.eD.length Qe:=(h.o_.cell 5).trans (congrArg some R1);have d:=Hd (L1 w o p hp h a Sn)
  have HR:Hy (r.read n o=r.gJ n (c.read o).1 (c.read o).2.1 (c.read o).2.2):=Hd (by
   unfold eC.read;rw[hr]
   simp only[cT,bh,if_false,bo,a])
  have Ty:Hy (∀m∈(c.read o).2.1,m.data.length<=20):=Hd (by
   obtain⟨I,J⟩:=fK.oN hi a
   exact fun m hm=>((fK.vf (hi.eD n c a) hi.b0 hb I J o).1 m hm).short)
  obtain⟨e,he⟩:=nm ((c.read o).1);obtain⟨l,A⟩:=nm ((c.read o).2.1);obtain⟨c',E⟩:=nm ((c.read o).2.2);rw[<- he,<- A,<- E]at HR d;rw[<- A]at Ty;have HX:=Hd hx;have HN:=Hd D;have HNL:=Hd y;have M:ob<w.heap.size:=h.o_.lt;obtain⟨m,hm⟩:=nm r.eD.length;rw[<- hm]at y c5;have HM:=Hd hm;have H:=Hd h;clear h hr a hi hm hp he A E hx D Sn R1 S3 SJ;by_cases j:e=0
  ·subst j;rw[o7]at d;go_enter Tryz.func30,Tryz.ntmps30
   go_upto_region 7 with first
    |(go_at_call 38;refine TS.o.mono ?_;rintro e w' ⟨rfl,rfl⟩)
    |(go_at_call 31;refine d.o.mono ?_;rintro e w1 ⟨u,own2,rfl,q,h1,f,i,t⟩;have HM1:=Hd q;have H1:=Hd h1;have Qn:=Hd f;have Qd:=Hd i;have PQ:=Hd t;clear q h1 f i t c5 z5 f5)
    |(go_at_call 39;refine (qJ _ H1.o).mono ?_;rintro e w2 ⟨rfl,h2,F⟩;have H2:=Hd h2;have Qo:=Hd F;clear h2 F)
   exact aaa
  have B:iC e=.iface 70 (VI e):=o8 j;rw[B]at d;have L:Hy (r.gJ n e l c'=(e,{r with eD:=r.eD.set n c'})):=Hd (by unfold eC.gJ;rw[if_pos j]);have C:=Hd B;clear B j;go_enter Tryz.func30,Tryz.ntmps30
  go_wp2_with first
   |(go_at_call 38;refine TS.o.mono ?_;rintro e w' ⟨rfl,rfl⟩)
   |(go_at_call 31;refine d.o.mono ?_;rintro e w1 ⟨u,own2,rfl,q,h1,f,i,t⟩;have H1:=Hd h1;have Qn:=Hd f;have Qd:=Hd i;clear q h1 f i t)
  go_ret;rw[HR.o,L.o];exact⟨by rw[C.o];rfl,own2,v,H1.o,Qn.o,Qd.o⟩
theorem L3 (w:World) (o:Int) (data:List UInt8) (p q:Nat) (hp:Has w p (.cells #[VI o] 3)) (b:Has w q (.cells #[.string ⟨data.toArray⟩] 9)) (h:fp P own w0 w ob db v r) {k d:Nat} {c:eM} (f:r.eD[k]?=some c) (g:v.ja[k]?=some d) :
 Calls Tryz.prog 36 #[VP d 0,VP p 0,VP q 0] w (oS P own w0 ob db v w {r with eD:=r.eD.set k (c.write o data).2.2} (c.write o data).2.1 fun u=>.tuple #[u,iC (c.write o data).1]):=by
 have t:CI w p 0 o:=hp.cell 0;have x:CC w q 0 (.string ⟨data.toArray⟩):=b.cell 0;have i:=Hd (LY w o data h f g);clear h f g hp b;(go_enter Tryz.func36,Tryz.ntmps36);(go_wp2_with (go_at_call 37;refine i.o.mono ?_;rintro e y ⟨u,a,rfl,j,l,m,n,s⟩));go_ret2;exact⟨u,a,rfl,j,l,m,n,s⟩
theorem L4 (w:World) (k o:Int) (data:List UInt8) (p q:Nat) (hp:Has w p (.cells #[VI o] 3)) (A:Has w q (.cells #[.string ⟨data.toArray⟩] 9)) {b:Int} {G:fK.gd} (hi:Inv b G r) (hb:b<1000000) (hx:Idx r) (F:r.fg.length<=100000) (h:fp P own w0 w ob db v r) :
 Calls Tryz.prog 30 #[VP ob 0,VI k,.func (.func 36) #[] #[VP p 0,VP q 0]] w fun e w'=>e=.returned (iC (r.write k o data).1)/\gh P own w0 ob db w (r.write k o data).2 w':=by
 have TS:=Hd (uU w k h)
 cases hr:r.right k with
 |false =>
  rw[hr]at TS;have HR:Hy (r.write k o data=(2,r)):=Hd (by unfold eC.write;rw[hr];rfl);have H:=Hd h;clear h hr hp A;(go_enter Tryz.func30,Tryz.ntmps30);exact aa5
 |true =>
  rw[hr]at TS;obtain⟨n,rfl,B⟩:=oT hr;have a:r.eD[n]?=some r.eD[n]:=ay B;generalize r.eD[n]=c at a;obtain⟨g5,Qe,cb,fm,sm,cv,R1,S3,Vp,Sn,z5,f5,SJ⟩:=h.pt a;have c5:CS w ob 5 g5 r.eD.length Qe:=(h.o_.cell 5).trans (congrArg some R1);have d:=Hd (L3 w o data p q hp A h a Sn)
  have HR:Hy (r.write n o data=r.gJ n (c.write o data).1 (c.write o data).2.1 (c.write o data).2.2):=Hd (by
   unfold eC.write;rw[hr]
   simp only[cT,bh,if_false,bo,a])
  have Ty:Hy (∀m∈(c.write o data).2.1,m.data.length<=20):=Hd (by
   obtain⟨L,M⟩:=fK.oN hi a;obtain⟨g,-,-,N,-⟩:=fK.Cb (hi.eD n c a) hi.b0 hb L M o data hi.uniq (by have:=(az.1 a).1;have:=hi.gz;omega)
   exact fun m hm=>(N m hm).short)
  obtain⟨e,he⟩:=nm ((c.write o data).1);obtain⟨l,C⟩:=nm ((c.write o data).2.1);obtain⟨c',I⟩:=nm ((c.write o data).2.2);rw[<- he,<- C,<- I]at HR d;rw[<- C]at Ty;have HX:=Hd hx;have HN:=Hd F;have HNL:=Hd B;have Q:ob<w.heap.size:=h.o_.lt;obtain⟨m,hm⟩:=nm r.eD.length;rw[<- hm]at B c5;have HM:=Hd hm;have H:=Hd h;clear h hr a hi hm hp he C I hx F Sn R1 S3 SJ A;by_cases j:e=0
  ·subst j;rw[o7]at d;go_enter Tryz.func30,Tryz.ntmps30
   go_upto_region 7 with first
    |(go_at_call 38;refine TS.o.mono ?_;rintro e w' ⟨rfl,rfl⟩)
    |(go_at_call 36;refine d.o.mono ?_;rintro e w1 ⟨u,own2,rfl,t,h1,f,i,y⟩;have HM1:=Hd t;have H1:=Hd h1;have Qn:=Hd f;have Qd:=Hd i;have PQ:=Hd y;clear t h1 f i y c5 z5 f5)
    |(go_at_call 39;refine (qJ _ H1.o).mono ?_;rintro e w2 ⟨rfl,h2,J⟩;have H2:=Hd h2;have Qo:=Hd J;clear h2 J)
   exact aaa
  have D:iC e=.iface 70 (VI e):=o8 j;rw[D]at d;have O:Hy (r.gJ n e l c'=(e,{r with eD:=r.eD.set n c'})):=Hd (by unfold eC.gJ;rw[if_pos j]);have E:=Hd D;clear D j;go_enter Tryz.func30,Tryz.ntmps30
  go_wp2_with first
   |(go_at_call 38;refine TS.o.mono ?_;rintro e w' ⟨rfl,rfl⟩)
   |(go_at_call 36;refine d.o.mono ?_;rintro e w1 ⟨u,own2,rfl,t,h1,f,i,y⟩;have H1:=Hd h1;have Qn:=Hd f;have Qd:=Hd i;clear t h1 f i y)
  go_ret;rw[HR.o,O.o];exact⟨by rw[E.o];rfl,own2,v,H1.o,Qn.o,Qd.o⟩
end
end iv
end Go.Proofs.YtjhdaojclilakaaGreatDoor
