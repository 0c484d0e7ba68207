/-
  A part of the proof of the law WorldCalm: SrvK, SrvM, ClA, ClB.
-/
import Derived.Test.YtjhdaojclilakaaGreatDoorHd
import Derived.Test.YtjhdaojclilakaaGreatDoorP14
import Derived.Test.YtjhdaojclilakaaGreatDoorP26
set_option maxHeartbeats 16000000
set_option maxRecDepth 1000000
namespace Go.Proofs.YtjhdaojclilakaaGreatDoor
namespace fj
open Go.RowKit heap own eG gC gO fF iR fD
open eY (Rec fe ir Wr eA fW fU fR fw put del)
section
variable {P:Lib.PrintTabs} {own:Nat->Nat} {w0:World} {sb db wb dm tb tm:Nat} {v:Value} {ps:List ByteArray} {qs:List Value} {d:fe} {s:eA}
theorem eight {qs:List Value} (h:qs.length=8):∃a b c d e f g i,qs=[a,b,c,d,e,f,g,i]:=by
 match qs,h with
 | [a,b,c,d,e,f,g,i],_=>exact⟨a,b,c,d,e,f,g,i,rfl⟩
theorem Be (a b c d e f g h:Value) (w:World):∀(k:Nat),k<8->(Instr.index 101 (.agg #[a,b,c,d,e,f,g,h]) (VI k)).run Tryz.prog w=.ok ([a,b,c,d,e,f,g,h].getD k undef) w
 |0,_=>af
 |1,_=>af
 |2,_=>af
 |3,_=>af
 |4,_=>af
 |5,_=>af
 |6,_=>af
 |7,_=>af
theorem JA (w:World) (m:eL) (X9:0<=m.eI/\m.eI<4) (h:fC P own w0 w sb db wb dm tb tm v ps qs d s) :
 Calls Tryz.prog 72 #[VP sb 0,m.val] w fun e w'=>∃u,e=.returned u/\fV w.heap.size w' u (s.j9 m).1/\fC P own w0 w' sb db wb dm tb tm v ps qs d (s.j9 m).2/\eJ (fun g=>g=tb\/g=tm) w w':=by
 obtain⟨mk,b,i,y,ms,A,mv,B,md⟩:=m;dsimp only at X9;obtain⟨W1,T⟩:=nm (w.alloc (.cells (ju mk b i y ms A mv B ⟨md.toArray⟩) 93));(have Pu:BB w W1:=by rw[T];exact (Below.refl _ _).alloc (ax _) _);have E:Hy (Has W1 w.heap.size (.cells (ju mk b i y ms A mv B ⟨md.toArray⟩) 93)):=Hd (by rw[T];exact Has.new w _);have H:=Hd h;have H1:=Hd (h.below Pu);have X:=Hd Pu;have F:=Hd (xB W1 ⟨mk,b,i,y,ms,A,mv,B,md⟩ H1.o);unfold eL.val at F⊢;dsimp only at F⊢;clear h Pu
 cases Rx:s.kF ⟨mk,b,i,y,ms,A,mv,B,md⟩with
 |false =>
  as_aux_lemma =>
   rw[Rx]at F;have t:Hy (s.j9 ⟨mk,b,i,y,ms,A,mv,B,md⟩=([s.lp b],s)):=Hd (by unfold eA.j9;rw[Rx];rfl);(go_enter Tryz.func72,Tryz.ntmps72);(go_upto_region 1 with fail);rw[<- T];clear T
   go_wp2_with (first
    |(refine wpList_load_row rfl 93 (.tmp 3) rfl w.heap.size rfl 93 _ (0,0) _ E.o Tryz.underlying93 rfl af ?_)
    |(go_at_call 90;refine F.o.mono ?_;rintro e r ⟨rfl,C⟩;have f:=Hd (H1.o.below C);have D:=Hd (X.o.trans (C.mono X.o.size));have U:CI r w.heap.size 1 b:=(E.o.below C E.o.lt).cell 1)
    |(go_at_call 91;refine (AX _ b f.o).mono ?_;rintro e W3 ⟨rfl,Qp⟩)
    |(refine nk rfl (.tmp 17) (s.lp b) rfl rfl ?_))
   go_ret;rw[t.o];have Y:=Qp.alloc Qp.size (.cells (([s.lp b]:List eL).flatMap iS).toArray 93);exact⟨_,rfl,(fV.new (w:=W3) (l:=[s.lp b]) ae).base (by have:=D.o.size;have:=Qp.size;omega),f.o.below Y,eJ.il (D.o.trans (Y.mono D.o.size)) (ax _)⟩
 |true =>
  rw[Rx]at F;(go_enter Tryz.func72,Tryz.ntmps72);(go_upto_region 1 with fail);rw[<- T];clear T;obtain⟨q0,q1,q2,q3,q4,Z,q6,q7,UY⟩:=eight H1.o.lq;subst UY
  go_wp2_with (first
   |(refine wpList_load_row rfl 93 (.tmp 3) rfl w.heap.size rfl 93 _ (0,0) _ E.o Tryz.underlying93 rfl af ?_)
   |(go_at_call 90;refine F.o.mono ?_;rintro e r ⟨rfl,C⟩;have f:=Hd (H1.o.below C);have a0:CC r sb 20 q0:=f.o.kh 0 aj;have a1:CC r sb 21 q1:=f.o.kh 1 aj;have a2:CC r sb 22 q2:=f.o.kh 2 aj;have a3:CC r sb 23 q3:=f.o.kh 3 aj;have a4:CC r sb 24 q4:=f.o.kh 4 aj;have a5:CC r sb 25 Z:=f.o.kh 5 aj;have a6:CC r sb 26 q6:=f.o.kh 6 aj;have a7:CC r sb 27 q7:=f.o.kh 7 aj))
  have D:=Hd (X.o.trans (C.mono X.o.size));have Qg:=Hd (E.o.below C E.o.lt);clear a0 a1 a2 a3 a4 a5 a6 a7 C E H1 X F;(go_loopw [23,5,6,7] (fun G Z _ _ wr=>∃k:Nat,k<=8/\G=VI k/\fV r.heap.size wr Z (((List.range k).filter fun j=>!(s.eQ j).isEmpty&&(s.eW.ga j s.eB).contains b).map fun j=>s.ig b j)/\BB r wr) (fun G _ _ _ _=>8-(intOf G).toNat));case atStart=>exact⟨0,ab,rfl,fV.nil _ _,Below.refl _ _⟩
  case round =>
   obtain⟨k,hk,rfl,hM,hb⟩:=hrel;have I:=Hd hM;have HB:=Hd hb;clear hM hb;by_cases RO:k<8
   ·have Yr:(k:Int)<8:=ab;have J:=Be q0 q1 q2 q3 q4 Z q6 q7 wr k RO;obtain⟨qa,qc,hq,-,-⟩:=(f.o.eQ k RO).slice;rw[hq]at J
    have M:Hy (((List.range (k+1)).filter fun j=>!(s.eQ j).isEmpty&&(s.eW.ga j s.eB).contains b).map (fun j=>s.ig b j)=(((List.range k).filter fun j=>!(s.eQ j).isEmpty&&(s.eW.ga j s.eB).contains b).map fun j=>s.ig b j)++if !(s.eQ k).isEmpty&&(s.eW.ga k s.eB).contains b then [s.ig b k] else []):=Hd (by
     rw[List.range_succ,List.filter_append,cF];congr 1;simp only[List.filter_cons,List.filter_nil]
     split<;>rfl)
    go_upto_region 7 with fail
    cases SO:(s.eQ k).isEmpty with
    |true =>
     (have e0:decide ((0:Int)<((s.eQ k).length:Int))=false:=by rw[dG.1 SO];rfl);rw[SO]at M
     as_aux_lemma =>
      (have bl:((s.eQ k).length:Int)=0:=by rw[dG.1 SO];rfl);clear J hq SO;(go_quiet (fail));(go_wp2_with fail);go_roundw
      case rel =>
       refine⟨k+1,ab,by go_num,?_,below_drewN HB.o nq⟩;rw[M.o];simp only[cT,ey,bh,if_false,bG];exact I.o.below (below_drewN (Below.refl _ _) nq)
      case measure=>simp[intOf];omega
    |false =>
     have e0:(0:Int)<((s.eQ k).length:Int):=by
      (have:(s.eQ k).length≠0:=fun e=>by rw[bc e]at SO;cases SO);omega
     obtain⟨n,hn⟩:=nm ((s.eQ k).length);rw[<- hn]at e0⊢;clear hn;have b1:decide ((0:Int)<(n:Int))=true:=decide_eq_true e0;rw[SO]at M;have V:=f.o.below HB.o;have Wb:CP wr sb 29 tb 0:=V.jJ 1 _ rfl;have Xt:CI wr sb 32 s.eB:=V.jJ 4 _ rfl;have V2:=Qg.o.below HB.o Qg.o.lt;have U:CI wr w.heap.size 1 b:=V2.cell 1;have Pw:sb<wr.heap.size:=V.s_.lt;have QW:w.heap.size<wr.heap.size:=V2.lt;have HH:=Hd (zU k s.eB V.eW.drew);have HR:=Hd V;obtain⟨hs,N⟩:=nm (s.eW.ga k s.eB);(have aa:hs.length<=1000:=by rw[N];exact aB (cR _ _) aj);rw[<- N]at HH M;obtain⟨cc,Qr⟩:=nm (hs.contains b);rw[<- Qr]at M;have ad:=Hd Qr;clear J hq SO V V2 N Qr;have en:0<n:=ab;refine last.iJ (fun W=>CP W sb 29 tb 0/\CI W sb 32 s.eB/\CI W w.heap.size 1 b) 1000 18 ⟨Wb,Xt,U⟩ fun HS=>?_;refine last.many [(0,27,_),(1,28,_),(2,29,_),(3,30,_),(4,31,_),(5,32,_),(6,33,_),(7,34,_),(8,35,_),(9,36,_),(10,37,_),(11,38,_),(12,39,_),(14,41,_),(15,42,_)] HS.o ?_ (hy:=fun W' Pt=>by have e9:=en;have e1:=Pt.1;have f0:=Pt.2.1;have f1:=Pt.2.2;repeat (first|exact .z|refine .s ?_|refine .k ?_));refine last.one 13 fun K hK=>?_;go_simp;refine HH.o.mono ?_;rintro e w5 ⟨uh,rfl,al,O⟩;have PF:Hy ((fun W=>CP W sb 29 tb 0/\CI W sb 32 s.eB/\CI W w.heap.size 1 b) w5):=Hd ⟨(O.cell (p:=⟨sb,29,none⟩) Pw).trans HS.o.1,(O.cell (p:=⟨sb,32,none⟩) Pw).trans HS.o.2.1,(O.cell (p:=⟨w.heap.size,1,none⟩) QW).trans HS.o.2.2⟩;refine hK.out _ _ (fun _=>PF.o) ?_;clear hK K HS;refine last.one 16 fun K hK=>?_;go_simp;refine (Jt _ _ _ hs aa b al).mono ?_;rw[<- ad.o];rintro e w6 ⟨rfl,rfl⟩;refine hK.out _ _ (fun _=>PF.o) ?_;clear hK K;refine last.many [(17,44,_)] PF.o ?_;refine last.done ?_;have T5:=Hd ((HR.o.below (Below.refl _ _).drew).below O);have RT:=Hd (HB.o.drew.trans (O.mono HB.o.size));have an:=Hd ((I.o.below (Below.refl _ wr).drew).below O);have z5:CI w5 w.heap.size 1 b:=PF.o.2.2;clear HR HB I HH ad O Wb Xt U PF al aa
     cases cc with
     |false =>
      as_aux_lemma =>
       (go_wp2_with fail);go_roundw
       case rel =>
        refine⟨k+1,ab,by go_num,?_,RT.o⟩;rw[M.o];simp only[Bool.and_false,bh,if_false,bG];exact an.o
       case measure=>simp[intOf];omega
     |true =>
      have Uv:(((List.range k).filter fun j=>!(s.eQ j).isEmpty&&(s.eW.ga j s.eB).contains b).map fun j=>s.ig b j).length<=8:=by
       rw[aX];exact aB (cR _ _) (by rw[List.length_range];omega)
      have WX:=Hd Uv;clear Uv
      go_wp2_with (first
       |(go_at_call 98;refine (AY _ b k RO T5.o).mono ?_;rintro e w6 ⟨rfl,RU⟩)
       |(refine nk rfl (.tmp 50) (s.ig b k) rfl rfl ?_;have SC:=Hd (RT.o.trans (RU.mono RT.o.size));have UJ:=Hd (SC.o.alloc SC.o.size (.cells (([s.ig b k]:List eL).flatMap iS).toArray 93));have Q:=Hd (an.o.below (RU.alloc RU.size (.cells (([s.ig b k]:List eL).flatMap iS).toArray 93)));have Tk:=Hd (fV.new (w:=w6) (l:=[s.ig b k]) ae);obtain⟨w7,UZ⟩:=nm (w6.alloc (.cells (([s.ig b k]:List eL).flatMap iS).toArray 93));rw[<- UZ]at UJ Q Tk⊢;clear UZ)
       |(refine rC rfl (.tmp 45) (.tmp 51) UJ.o.size u5 (.slice (some ⟨w6.heap.size,0,none⟩) 1 1) _ [s.ig b k] rfl rfl rfl Q.o Tk.o ae (aB (Nat.add_le_add WX.o (ax 1)) aj) fun v' w8 Ya Ui _=>?_;have au:=Hd Ya;have bb:=Hd (UJ.o.grown Ui UJ.o.size (fV.block Q.o));clear Ya Ui))
      go_roundw
      case rel =>
       refine⟨k+1,ab,by go_num,?_,bb.o⟩;rw[M.o];simp only[Bool.not_false,Bool.and_self,if_true];exact au.o
      case measure=>simp[intOf];omega
   (obtain rfl:k=8:=by omega);have HR:=Hd (f.o.below HB.o);have R:=Hd (D.o.trans (HB.o.mono D.o.size));have aq:=Hd (Qg.o.below HB.o Qg.o.lt);obtain⟨L,hL⟩:=nm (((List.range 8).filter fun j=>!(s.eQ j).isEmpty&&(s.eW.ga j s.eB).contains b).map fun j=>s.ig b j)
   have t:Hy (s.j9 ⟨mk,b,i,y,ms,A,mv,B,md⟩=if !L.isEmpty then (L,s) else ([(({s with eW:=(s.eW.fa b (eY.ji s.eB s.eZ.fa)).2}:eA)).fG {eY.iH with eO:=7,eI:=b,eK:=i}],{s with eW:=(s.eW.fa b (eY.ji s.eB s.eZ.fa)).2})):=Hd (by
    unfold eA.j9;rw[Rx,hL]
    rfl)
   rw[<- hL]at I;clear hL
   obtain⟨ua,uc,hu⟩:∃a c,u5=.slice a L.length c:=by
    rcases I.o.2 with⟨e,h0⟩|⟨g,cap,cur,e,-⟩
    ·exact⟨none,0,by rw[e,h0]⟩
    exact⟨_,_,e⟩
   cases hl:L.isEmpty with
   |false =>
    have e0:0<L.length:=by
     (have:L.length≠0:=fun e=>by rw[bc e]at hl;cases hl);omega
    have e1:decide ((0:Int)<(L.length:Int))=true:=decide_eq_true ab;rw[hl]at t;subst hu
    as_aux_lemma =>
     (go_wp2_with fail);go_ret;rw[t.o];exact⟨_,rfl,I.o.base D.o.size,HR.o,eJ.il R.o (ax _)⟩
   |true =>
    (have e0:L.length=0:=by rw[dG.1 hl];rfl);rw[hl]at t;rw[e0]at hu;subst hu;clear I hl e0;obtain⟨tu,WU⟩:=nm (eY.ji s.eB s.eZ.fa);(have Uh:Hy (∀W,Calls Tryz.prog 92 #[VI s.eB,VI s.eZ.fa] W fun e w'=>∃ev,e=.returned (.tuple #[VI tu,ev])/\W=w'):=Hd fun W=>by rw[WU];exact A8 _ _ W);rw[<- WU]at t;clear WU;have Xt:CI wr sb 32 s.eB:=HR.o.jJ 4 _ rfl;have c1:CI wr sb 1 s.eZ.fa:=HR.o.cell0 1 _ rfl;(go_wp2_with fail);(go_region_held3 (fun W=>CI W sb 32 s.eB/\CI W sb 1 s.eZ.fa) (go_keep) ((go_at_call 92;refine (Uh.o _).mono ?_;rintro e w' ⟨ev,rfl,rfl⟩)));(go_wp2_with fail);obtain⟨S,VF⟩:=nm wr.drew;have Uu:Hy (Has S w.heap.size (.cells (ju mk b i y ms A mv B ⟨md.toArray⟩) 93)):=Hd (by rw[VF];exact aq.o.drew);have H7:Hy (fC P own w0 S sb db wb dm tb tm v ps [q0,q1,q2,q3,q4,Z,q6,q7] d s):=Hd (by rw[VF];exact HR.o.below (Below.refl _ _).drew);have UJ:Hy (BB w S):=Hd (by rw[VF];exact R.o.drew);rw[<- VF];clear VF aq HR R HB D Qg f Xt c1 Uh;have Wb:CP S sb 29 tb 0:=H7.o.jJ 1 _ rfl;have U:CI S w.heap.size 1 b:=Uu.o.cell 1;have b2:tb<w.heap.size/\tm<w.heap.size:=H.o.eW.lt;have n2:¬(w.heap.size=tb\/w.heap.size=tm):=ab;obtain⟨T',ar⟩:=nm (s.eW.fa b tu:Int×fW);have x:=Hd (Hi b tu H7.o.eW.drew);rw[<- ar]at t x;obtain⟨ev,Qx⟩:=nm (iC T'.1);rw[<- Qx]at x;clear ar Qx;have bg:sb<S.heap.size:=H7.o.s_.lt;have UZ:w.heap.size<S.heap.size:=Uu.o.lt;have YL:sb≠tb/\sb≠tm:=⟨fun e=>(by have h1:=H7.o.iL;rw[e,H7.o.kJ]at h1;cases h1),fun e=>(by have h1:=H7.o.iL;rw[e,H7.o.kK]at h1;cases h1)⟩;have n1:¬(sb=tb\/sb=tm):=fun e=>e.elim YL.1 YL.2;(go_region_held3 (fun W=>CP W sb 29 tb 0/\CI W w.heap.size 1 b) (first|exact⟨(ht.cell (p:=⟨sb,29,none⟩) bg n1).trans Wb,(ht.cell (p:=⟨w.heap.size,1,none⟩) UZ n2).trans U⟩|go_keep) ((go_at_call 99;refine x.o.mono ?_;rintro e W8 ⟨rfl,YM,ht⟩)));refine abv ?_;intro h8 Qm;have Sj:=ht.has Uu.o.drew n2;have H8:=Hd h8;have RW:=Hd Qm;have b3:CI W8 w.heap.size 1 b:=Sj.cell 1;have b4:CI W8 w.heap.size 2 i:=Sj.cell 2;clear h8 Qm Sj YM ht x Wb U;obtain⟨sm,Ql⟩:=nm (({s with eW:=T'.2}:eA).fG {eY.iH with eO:=7,eI:=b,eK:=i});have Tl:Hy (Calls Tryz.prog 89 #[VP sb 0,.agg #[VI 7,VI b,VI i,VI 0,VI 0,VI 0,VI 0,.bool false,.string ⟨#[]⟩]] W8 fun e w'=>e=.returned sm.val/\BB W8 w'):=Hd (by rw[Ql];exact qB W8 {eY.iH with eO:=7,eI:=b,eK:=i} H8.o);have bj:Hy (s.j9 ⟨mk,b,i,y,ms,A,mv,B,md⟩=([sm],{s with eW:=T'.2})):=Hd (by rw[t.o,Ql];rfl);clear Ql t
    go_wp2_with (first
     |(refine Tl.o.mono ?_;rintro e w9 ⟨rfl,VH⟩)
     |(refine nk rfl (.tmp 85) sm rfl rfl ?_))
    go_ret;rw[bj.o];have Y:=VH.alloc VH.size (.cells (([sm]:List eL).flatMap iS).toArray 93);exact⟨_,rfl,(fV.new (w:=w9) (l:=[sm]) ae).base (by have:=RW.o.size;have:=VH.size;omega),H8.o.below Y,RW.o.jl Y (ax _)⟩
end
theorem Bf {n:Nat} {d:fe} {s:eA} {o:Nat} {out:List eL} (a:s.eQ o=[]):eA.iu (n+1) d s o out=(out,d,s):=by
 rw[eA.iu,a]
theorem Bg {n:Nat} {d:fe} {s:eA} {o:Nat} {out:List eL} (hd:s.eX=true):eA.iu (n+1) d s o out=(out,d,s):=by
 rw[eA.iu]
 cases s.eQ o with
 |nil=>rfl
 |cons x l=>simp only[hd,if_true]
theorem uH {n:Nat} {d:fe} {s:eA} {o:Nat} {out:List eL} {x:Wr} {rest:List Wr} (a:s.eQ o=x::rest) (hd:s.eX=false) :
 eA.iu (n+1) d s o out=if (s.iE d o x rest out).1 then eA.iu n (s.iE d o x rest out).2.2.1 (s.iE d o x rest out).2.2.2 o (s.iE d o x rest out).2.1 else (s.iE d o x rest out).2:=by
 rw[eA.iu,a];simp only[hd,bh,if_false]
def gJ (s:eA) (o:Nat) (x:Wr) (rest:List Wr):eA:={s with fi:=s.fi.set o ({x with gw:=true}::rest)}
def told (s:eA) (o:Nat) (x:Wr) (out:List eL):List eL:=if x.gw then out else out++(s.eW.ga o s.eB).map fun c=>s.ig c o
def jh (s:eA) (o:Nat) (x:Wr):Rec:=⟨x.eI,x.eK,o,wrap64 ((s.value o).fq+1),x.data,0⟩
theorem Bh {d:fe} {s:eA} {o:Nat} {x:Wr} {rest:List Wr} {out:List eL} (h:(decide (s.eB<s.quiet)||(s.eW.ga o s.eB).any fun c=>s.eW.jT c s.eB)=true) :
 s.iE d o x rest out=(false,told s o x out,d,gJ s o x rest):=by
 unfold eA.iE;dsimp only;rw[if_pos h];rfl
theorem Bi {d:fe} {s:eA} {o:Nat} {x:Wr} {rest:List Wr} {out:List eL} (h:(decide (s.eB<s.quiet)||(s.eW.ga o s.eB).any fun c=>s.eW.jT c s.eB)=false) :
 s.iE d o x rest out=eA.store d {gJ s o x rest with eW:=eY.jr s.eW (s.eW.ga o s.eB)} o x rest (told s o x out):=by
 unfold eA.iE;dsimp only;rw[if_neg (by rw[h];decide)];rfl
theorem Bj {d:fe} {s:eA} {o:Nat} {x:Wr} {rest:List Wr} {out:List eL} (h:(d.add s.eX (jh s o x)).1=14) :
 eA.store d s o x rest out=(false,[],(d.add s.eX (jh s o x)).2.1,{s with eX:=(d.add s.eX (jh s o x)).2.2}):=by
 unfold jh at h⊢;unfold eA.store;dsimp only at h⊢;rw[if_pos h]
theorem Bk {d:fe} {s:eA} {o:Nat} {x:Wr} {rest:List Wr} {out:List eL} (h:(d.add s.eX (jh s o x)).1≠14) :
 eA.store d s o x rest out=(true,out++[(eA.answer {s with eX:=(d.add s.eX (jh s o x)).2.2} (d.add s.eX (jh s o x)).1 (jh s o x)).1.fG (eA.answer {s with eX:=(d.add s.eX (jh s o x)).2.2} (d.add s.eX (jh s o x)).1 (jh s o x)).2],(d.add s.eX (jh s o x)).2.1,
  { (eA.answer {s with eX:=(d.add s.eX (jh s o x)).2.2} (d.add s.eX (jh s o x)).1 (jh s o x)).1 with fi:=(eA.answer {s with eX:=(d.add s.eX (jh s o x)).2.2} (d.add s.eX (jh s o x)).1 (jh s o x)).1.fi.set o rest}):=by
 unfold jh at h⊢;unfold eA.store;dsimp only at h⊢;rw[if_neg h]
theorem JB {s:eA} {o:Nat} {x:Wr} {rest:List Wr} (d:o<s.fi.length) (f:s.eQ o=x::rest) (hb:x.gw=true):gJ s o x rest=s:=by
 have e:s.fi.set o (x::rest)=s.fi:=by
  rw[<- f];unfold eA.eQ;rw[aC,ay d];exact List.set_getElem_self d
 obtain⟨a,b,c,g⟩:=x;dsimp only at hb;subst hb;unfold gJ;dsimp only;rw[e]
theorem Bl (s:eA) (e:Int) (r:Rec):(eA.answer s e r).1.fi=s.fi:=by
 unfold eA.answer;split<;>rfl
theorem Bm (qs:List Value) (o:Nat) (h:o<qs.length):qs.set o (qs.getD o undef)=qs:=by
 rw[aC,ay h];exact List.set_getElem_self h
section
variable {P:Lib.PrintTabs} {own:Nat->Nat} {w0 w:World} {sb db wb dm tb tm:Nat} {v:Value} {ps:List ByteArray} {qs:List Value} {d:fe} {s:eA}
theorem fC.first (h:fC P own w0 w sb db wb dm tb tm v ps qs d s) {o:Nat} (i:o<8) {x:Wr} {rest:List Wr} (l:s.eQ o=x::rest) :
 ∃g off cap,qs.getD o undef=.slice (some ⟨g,off,none⟩) (rest.length+1) cap/\own g=10+o/\g<w.heap.size/\1<=cap/\rest.length+1<=cap/\CI w g off x.eI/\CI w g (off+1) x.eK/\CC w g (off+2) (.string ⟨x.data.toArray⟩)/\CC w g (off+3) (.bool x.gw)/\w.frozen? ⟨g,off+3,none⟩=false:=by
 have c:=h.eQ o i;rw[l]at c;obtain⟨g,off,cap,e,m,n,hc,-,a⟩:=iD.elem (f:=kA) (size:=4) xy c (k:=0) (x:=x) rfl;refine⟨g,off,cap,e,m,n,by simp at hc;omega,by simpa using hc,?_⟩
 have b:∀j u,(kA x)[j]?=some u->CC w g (off+j) u/\w.frozen? ⟨g,off+j,none⟩=false:=fun j u hu=>by
  have:=a j u hu;simpa using this
 exact⟨(b 0 _ rfl).1,(b 1 _ rfl).1,(b 2 _ rfl).1,(b 3 _ rfl).1,(b 3 _ rfl).2⟩
theorem fC.xG (h:fC P own w0 w sb db wb dm tb tm v ps qs d s) {o:Nat} (a:o<8) {x:Wr} {rest:List Wr} (b:s.eQ o=x::rest) {g off n cap:Nat} (he:qs.getD o undef=.slice (some ⟨g,off,none⟩) n cap) :
 own g=10+o/\g<w.heap.size/\CI w g off x.eI/\CI w g (off+1) x.eK/\CC w g (off+2) (.string ⟨x.data.toArray⟩)/\CC w g (off+3) (.bool x.gw)/\w.frozen? ⟨g,off+3,none⟩=false:=by
 obtain⟨k,c,l,e,f,i,-,-,j⟩:=h.first a b;rw[he]at e;simp only[Value.slice.injEq,bI,Addr.mk.injEq,and_true]at e;obtain⟨⟨rfl,rfl⟩,-⟩:=e;exact⟨f,i,j⟩
theorem JC {s:eA} {o:Nat} {x:Wr} {rest:List Wr} (a:o<s.fi.length):(gJ s o x rest).eQ o={x with gw:=true}::rest:=by
 unfold gJ;rw[ph s o o _ a,if_pos rfl]
theorem fC.gw (h:fC P own w0 w sb db wb dm tb tm v ps qs d s) {o:Nat} (a:o<8) {x:Wr} {rest:List Wr} (b:s.eQ o=x::rest) {g off n cap:Nat} (he:qs.getD o undef=.slice (some ⟨g,off,none⟩) n cap) :
 fC P own w0 (w.setCell ⟨g,off+3,none⟩ (.bool true)) sb db wb dm tb tm v ps qs d (gJ s o x rest)/\eJ (fun k=>own k=10+o) w (w.setCell ⟨g,off+3,none⟩ (.bool true)):=by
 have i:=h.eQ o a;rw[b]at i;obtain⟨z,j,A,cur,e1,c,l,m,q,r,t⟩:=i.shape ae;rw[he]at e1;injection e1 with e1 e2 e3;injection e1 with e1;injection e1 with e1 e4;subst e1 e4 e2 e3;have ht:eJ (fun k=>own k=10+o) w (w.setCell ⟨g,off+3,none⟩ (.bool true)):=(eJ.refl _ _).setCell (p:=⟨g,off+3,none⟩) (.inr c) _;refine⟨?_,ht⟩;have f:=h.ok.qc o;rw[b]at f;have u:sb≠g:=fun e=>by have h5:=h.iL;rw[e,c]at h5;omega
 have key:=h.xD o a (qs.getD o undef) ({x with gw:=true}::rest) (w':=w.setCell ⟨g,off+3,none⟩ (.bool true)) (own1:=own) (ht.mono fun _ _ h=>.inr h) (Ext.refl _ _) (fun k hk=>h.fr k (aB ht.size hk)) (by
  rw[Bm qs o (by rw[h.lq];exact a)]
  exact h.s_.jv (p:=⟨g,off+3,none⟩) u _) (by
  rw[he];refine iD.mk c (l.fQ (off+3) _) m (by simpa using q) r ?_;have hlen:(cur.toList.drop off).length=cur.toList.length-off:=cx;rw[dP,List.drop_set,if_neg ab,show off+3-off=3 by omega,List.take_set,t]
  simp[kA]) (fun y hy=>by
  rcases aH.1 hy with rfl|hy
  ·exact f x ae
  exact f y (by simp[hy])) (by have:=h.ok.ql o;rw[b]at this;simpa using this)
 rw[Bm qs o (by rw[h.lq];exact a)]at key;exact key
def nN (g off n cap:Nat):Value:=.slice (if cap=1 then some ⟨g,off,none⟩ else some ⟨g,off+4,none⟩) (n-1) (cap-1)
theorem iD.nN {T:Nat} {e:TypeId} {xs:List Value} {g off n cap:Nat} (h:iD own T w e 4 (.slice (some ⟨g,off,none⟩) n cap) n xs) (a:0<n):iD own T w e 4 (fj.nN g off n cap) (n-1) (xs.drop 4):=by
 unfold fj.nN;by_cases hc:cap=1
 ·obtain⟨f,b,i,cur,e1,c,d,j,k,l,m⟩:=h.shape a;injection e1 with e1 e2 e3;injection e1 with e1;injection e1 with e1 e4;subst e1 e4 e3;rw[if_pos hc];(obtain rfl:n=1:=by omega);subst hc;have o:=h.1;have e:xs.drop 4=[]:=cd ab;refine iD.mk c d ab ab ab ?_;rw[e];simp
 rw[if_neg hc];exact h.tail a
theorem fC.pop (h:fC P own w0 w sb db wb dm tb tm v ps qs d s) {o:Nat} (a:o<8) {x:Wr} {rest:List Wr} (b:s.eQ o=x::rest) {g off n cap:Nat} (he:qs.getD o undef=.slice (some ⟨g,off,none⟩) n cap) :
 fC P own w0 (w.setCell ⟨sb,20+o,none⟩ (nN g off n cap)) sb db wb dm tb tm v ps (qs.set o (nN g off n cap)) d {s with fi:=s.fi.set o rest}/\eJ (fun k=>k=sb) w (w.setCell ⟨sb,20+o,none⟩ (nN g off n cap)):=by
 have ht:eJ (fun k=>k=sb) w (w.setCell ⟨sb,20+o,none⟩ (nN g off n cap)):=gX (eJ.refl _ _) _ _;refine⟨?_,ht⟩;have c:=h.eQ o a;rw[b,he]at c
 have l:n=rest.length+1:=by
  rcases c.2 with⟨e,-⟩|⟨q,m,r,cur,e,-⟩
  ·cases e
  simp only[Value.slice.injEq]at e;simpa using e.2.1
 subst l;have i:=h.ok.qc o;rw[b]at i;have j:=h.ok.ql o;rw[b]at j;refine h.xD o a _ rest (ht.mono fun _ _ h=>.inl h) (Ext.refl _ _) (fun k hk=>h.fr k (aB ht.size hk)) ?_ ?_ (fun y hy=>i y (by simp[hy])) (by simp at j;omega)
 ·have:=h.s_.fQ (20+o) (nN g off (rest.length+1) cap);rw[aP,A9 h.nv h.lq o a]at this;exact this
 have f:=(iD.nN (c) ae).fc (S:=fun k=>k=sb) ht (Ext.refl _ _) (fun k _ hk e=>by rw[e,h.iL]at hk;omega);rw[cK]at f;have p:((x::rest).flatMap kA).drop 4=rest.flatMap kA:=I0 xy x rest;rw[p]at f;exact f
def lenOf (sb o:Nat) (W:World):Nat:=match W.cell? ⟨sb,20+o,none⟩with|some (.slice _ n _)=>n|_=>0
theorem fC.lenOf (h:fC P own w0 w sb db wb dm tb tm v ps qs d s) {o:Nat} (b:o<8):fj.lenOf sb o w=(s.eQ o).length:=by
 obtain⟨a,c,e,-⟩:=(h.eQ o b).slice;unfold fj.lenOf;rw[h.kh o b,e]
end
end fj
namespace gj
open Go.RowKit heap own gC gO fD fj cache
open eY (eM jg ir fU iM fw put del)
noncomputable def kU:lJ Tryz.prog Int Int:=
 zG 3 3 111 Tryz.underlying3 (fun _=>af) Tryz.underlying111 (Maps.int_keyed Tryz.underlying3) (Value.int .i64) (Lit.int .i64) je (fun _ h=>Maps.keyOf_int_mk Tryz.underlying3 h)
  (fun _ _ h=>Maps.keyOf_int_inv Tryz.underlying3 h) (fun _ _ h=>by simpa using h)
def jc (x:jg):It:=⟨x.eF,x.value.data,x.value.fq,x.iK⟩
def lX (c:eM) (cv:Value) (fm sm:Nat):Array Value:=#[.int .i64 c.id,.int .i64 c.eZ.eF,.int .i64 c.eZ.fa,.int .i64 c.eZ.fH,.int .i64 c.eK,.int .i64 c.eS,.int .i64 c.fx,.int .i64 c.eB,.int .i64 c.fa,cv,.map (some fm),.map (some sm),.int .i64 c.call.eO,.int .i64 c.call.eF,.string ⟨c.call.value.data.toArray⟩,.int .i64 c.call.value.fq,.bool c.call.over,.bool c.call.hit,.int .i64 c.fE,.int .i64 c.gL,.int .i64 c.ij,.int .i64 c.iV]
structure fM (own:Nat->Nat) (T:Nat) (w:World) (cb fm sm:Nat) (cv:Value) (c:eM):Prop where
 c_:Has w cb (.cells (lX c cv fm sm) 113)
 jw:own cb=T
 items:kT own (T+1) w cv (c.cache.map jc)
 gz:c.cache.length<=6
 gW:At kU w fm c.gW
 np:own fm=T+2
 seen:At kU w sm c.seen
 mB:own sm=T+3
 fk:∀p∈c.gW,0<=p.1/\p.1<8
 sk:∀p∈c.seen,0<=p.1/\p.1<8
def hO (own:Nat->Nat) (T:Nat) (g:Nat):Prop:=T<=own g/\own g<T+4
section
variable {own own1:Nat->Nat} {T:Nat} {w w':World} {cb fm sm:Nat} {cv:Value} {c c':eM} {S:Nat->Prop}
theorem fM.fI (h:fM own T w cb fm sm cv c) (ht:eJ S w w') (he:Ext w own own1) (hs:∀g,g<w.heap.size->S g->¬hO own T g):fM own1 T w' cb fm sm cv c:=by
 have a:∀g k,g<w.heap.size->own g=T+k->k<4->¬S g:=fun g k hg hk h4 hS=>hs g hg hS ⟨ab,ab⟩;have b:=h.c_.lt;have d:=h.gW.lt;have e:=h.seen.lt;exact⟨ht.has h.c_ (a _ 0 b h.jw aj),(he _ b).trans h.jw,h.items.fc ht he fun k hk f=>a k 1 hk f aj,h.gz,h.gW.fI ht (a _ 2 d h.np aj),(he _ d).trans h.np,h.seen.fI ht (a _ 3 e h.mB aj),(he _ e).trans h.mB,h.fk,h.sk⟩
theorem fM.below (h:fM own T w cb fm sm cv c) (hb:BB w w'):fM own T w' cb fm sm cv c:=
 h.fI (S:=fun _=>False) (eJ.il hb (ax _)) (Ext.refl _ _) (fun _ _ h=>h.elim)
theorem fM.drew (h:fM own T w cb fm sm cv c):fM own T w.drew cb fm sm cv c:=h.below (Below.refl _ _).drew
theorem fM.drewN (h:fM own T w cb fm sm cv c) (n:Nat):fM own T (w.drewN n) cb fm sm cv c:=h.below (below_drewN (Below.refl _ _) n)
theorem fM.nj (h:fM own T w cb fm sm cv c) (ht:eJ (fun g=>g=cb) w w') (hs:Has w' cb (.cells (lX c' cv fm sm) 113)) (e1:c'.cache=c.cache) (a:c'.gW=c.gW) (b:c'.seen=c.seen):fM own T w' cb fm sm cv c':=by
 (have ne:∀g k,own g=T+k->0<k->g≠cb:=fun g k hk h4 e=>by rw[e,h.jw]at hk;omega);refine⟨hs,h.jw,?_,by rw[e1];exact h.gz,by rw[a];exact h.gW.fI ht (ne _ 2 h.np aj),h.np,by rw[b];exact h.seen.fI ht (ne _ 3 h.mB aj),h.mB,by rw[a];exact h.fk,by rw[b];exact h.sk⟩;rw[e1];exact h.items.fc ht (Ext.refl _ _) fun k _ d=>ne k 1 d aj
theorem fM.oJ (h:fM own T w cb fm sm cv c) (c':eM) (i:Nat) (u:Value) (hc:(lX c cv fm sm).setIfInBounds i u=lX c' cv fm sm) (e1:c'.cache=c.cache) (a:c'.gW=c.gW) (b:c'.seen=c.seen):fM own T (w.setCell ⟨cb,i,none⟩ u) cb fm sm cv c':=
 h.nj (fF.gX (eJ.refl _ _) i u) (by rw[<- hc];exact h.c_.fQ i u) e1 a b
theorem fM.lt (h:fM own T w cb fm sm cv c):cb<w.heap.size:=h.c_.lt
theorem oK (i:Nat) (u:Value):eJ (fun g=>g=cb) w (w.setCell ⟨cb,i,none⟩ u):=fF.gX (eJ.refl _ _) i u
theorem fM.J5 (h:fM own T w cb fm sm cv c):∀g,g<w.heap.size->g=cb->hO own T g:=fun g _ e=>by
 subst e;unfold hO;rw[h.jw];omega
end
section
variable {own:Nat->Nat} {T:Nat} {cb fm sm:Nat} {cv:Value} {c:eM}
theorem rE (w:World) (h:fM own T w cb fm sm cv c):Calls Tryz.prog 52 #[.pointer (some ⟨cb,0,none⟩)] w fun e w'=>e=.returned (.bool c.fB)/\w=w':=by
 have a:CI w cb 18 c.fE:=h.c_.cell 18;obtain⟨b,hb⟩:=nm c.fB;(have d:(c.fE !=0)=b:=by rw[hb];unfold eM.fB;rw[cr];simp);rw[<- hb];clear hb h;(go_enter Tryz.func52,Tryz.ntmps52);go_wp2
 all_goals
  go_ret;exact⟨rfl,rfl⟩
theorem J6 (w:World) (h:fM own T w cb fm sm cv c):Calls Tryz.prog 54 #[.pointer (some ⟨cb,0,none⟩)] w fun e w'=>e=.returned (.bool c.jT)/\∃n,w'=w.drewN n:=by
 have c7:CI w cb 7 c.eB:=h.c_.cell 7;have c8:CI w cb 8 c.fa:=h.c_.cell 8;clear h;unfold eM.jT;(go_enter Tryz.func54,Tryz.ntmps54);go_wp2;(go_quiet (fail));(go_wp2_with fail);go_ret;exact⟨rfl,nq,rfl⟩
theorem uM (w:World) (h:fM own T w cb fm sm cv c):Calls Tryz.prog 55 #[.pointer (some ⟨cb,0,none⟩)] w fun e w'=>e=.returned (.int .i64 (wrap64 (c.eK+1)))/\fM own T w' cb fm sm cv {c with eK:=wrap64 (c.eK+1)}/\eJ (fun g=>g=cb) w w'/\w'.heap.size=w.heap.size:=by
 have c4:CI w cb 4 c.eK:=h.c_.cell 4;have f4:=h.c_.frozen 4;obtain⟨n,a⟩:=nm (wrap64 (c.eK+1));have H:=Hd (h.oJ {c with eK:=n} 4 (.int .i64 n) rfl rfl rfl rfl);have b:Hy (eJ (fun g=>g=cb) w (w.setCell ⟨cb,4,none⟩ (.int .i64 n))):=Hd (oK 4 _);have d:=Hd a;rw[<- a];clear h a;(go_enter Tryz.func55,Tryz.ntmps55);go_wp2;rw[<- d.o];go_ret;exact⟨rfl,H.o,b.o,by simp[World.setCell]⟩
theorem J7 (w:World) (n:Int) (h:fM own T w cb fm sm cv c):Calls Tryz.prog 49 #[.pointer (some ⟨cb,0,none⟩),.int .i64 n] w fun e w'=>e=.returned (.tuple #[])/\fM own T w' cb fm sm cv (c.at_ n)/\eJ (fun g=>g=cb) w w':=by
 have c7:CI w cb 7 c.eB:=h.c_.cell 7
 have f7:=h.c_.frozen 7
 have H:=Hd h
 clear h
 go_enter Tryz.func49,Tryz.ntmps49
 go_wp2
 go_end0
 exact⟨rfl,H.o.oJ (c.at_ n) 7 _ rfl rfl rfl rfl,oK 7 _⟩
theorem J8 (x y:Int) (w:World):Calls Tryz.prog 12 #[.int .i64 x,.int .i64 y] w fun e w'=>∃ev,e=.returned (.tuple #[.int .i64 (eY.short x y),ev])/\w=w':=by
 by_cases h:0<=x/\x<=500/\0<=y/\y<=1099511627776
 ·have e:eY.short x y=y*(1000-x)/(1000+x):=by
   unfold eY.short;rw[if_pos (by rw[aF,iR.kG,iR.kG,fD.pJ];omega)]
  rw[e];refine (clock.A7 x y w h.1 h.2.1 h.2.2.1 h.2.2.2).mono ?_;rintro e w' ⟨rfl,rfl⟩;exact⟨_,rfl,rfl⟩
 have e:eY.short x y=0:=by
  unfold eY.short;rw[if_neg (by rw[aF,iR.kG,iR.kG,fD.pJ];omega)]
 rw[e];refine (clock.Ji x y w h).mono ?_;rintro e w' ⟨rfl,rfl⟩;exact⟨_,rfl,rfl⟩
theorem Bz (w:World) (gL term:Int) (h:fM own T w cb fm sm cv c):Calls Tryz.prog 75 #[.pointer (some ⟨cb,0,none⟩),.int .i64 gL,.int .i64 term] w fun e w'=>e=.returned (.int .i64 (c.ends gL term))/\w=w':=by
 have c3:CI w cb 3 c.eZ.fH:=h.c_.cell 3;unfold eM.ends;obtain⟨n,a⟩:=nm (eY.short c.eZ.fH term);have d:Hy (Calls Tryz.prog 12 #[.int .i64 c.eZ.fH,.int .i64 term] w fun e w'=>∃ev,e=.returned (.tuple #[.int .i64 n,ev])/\w=w'):=Hd (by rw[a];exact J8 _ _ w);obtain⟨z,b⟩:=nm (wrap64 (gL+n));have f:=Hd b;rw[<- a,<- b];clear a h b;(go_enter Tryz.func75,Tryz.ntmps75);(go_wp2_with (go_at_call 12;refine d.o.mono ?_;rintro e w' ⟨ev,rfl,rfl⟩));rw[<- f.o];go_ret;exact⟨rfl,rfl⟩
end
section
variable {own:Nat->Nat} {T:Nat} {cb fm sm:Nat} {cv:Value} {c:eM}
theorem uN (w:World) (m:eL) (h:fM own T w cb fm sm cv c) :
 Calls Tryz.prog 64 #[VP cb 0,m.val] w fun e w'=>e=.returned (c.fG m).val/\BB w w':=by
 obtain⟨mk,l,n,q,ms,r,mv,s,md⟩:=m;unfold eL.val;dsimp only;obtain⟨a,f⟩:=nm ((w.alloc (.cells #[VI mk,VI l,VI n,VI q,VI ms,VI r,VI mv,.bool s,.string ⟨md.toArray⟩] 93)).alloc (.cells #[VI 0,VI 0,VI 0,VI 0,VI 0,VI 0,VI 0,.bool false,.string ⟨#[]⟩] 93));(have g:BB w a:=by rw[f];exact ((Below.refl _ _).alloc (ax _) _).alloc ae _);have A:=h.lt;have c0:CI a cb 0 c.id:=(h.below g).c_.cell 0;have c5:CI a cb 5 c.eS:=(h.below g).c_.cell 5;have c6:CI a cb 6 c.fx:=(h.below g).c_.cell 6;(have b:Has a w.heap.size (.cells #[VI mk,VI l,VI n,VI q,VI ms,VI r,VI mv,.bool s,.string ⟨md.toArray⟩] 93):=by rw[f];exact (Has.new w _).alloc _);(have x:Has a (w.heap.size+1) (.cells #[VI 0,VI 0,VI 0,VI 0,VI 0,VI 0,VI 0,.bool false,.string ⟨#[]⟩] 93):=by rw[f,<- World.size_alloc w];exact Has.new _ _);have B:CI a w.heap.size 1 l:=b.cell 1;have C:CI a w.heap.size 3 q:=b.cell 3;have D:CI a w.heap.size 4 ms:=b.cell 4;have f1:a.frozen? ⟨w.heap.size,1,none⟩=false:=b.frozen 1;have f3:a.frozen? ⟨w.heap.size,3,none⟩=false:=b.frozen 3;have f4:a.frozen? ⟨w.heap.size,4,none⟩=false:=b.frozen 4;have y:=Hd b;have j:=Hd x;have z:=Hd g;clear h b x g;(go_enter Tryz.func64,Tryz.ntmps64);go_wp2;rw[<- f];clear f;have t:w.heap.size≠cb:=Nat.ne_of_gt A
 have fr:∀(W:World) (i:Nat) (u:Value),(CI W cb 0 c.id/\CI W cb 5 c.eS/\CI W cb 6 c.fx)->((W.setCell ⟨w.heap.size,i,none⟩ u).cell? ⟨cb,0,none⟩=some (VI c.id)/\(W.setCell ⟨w.heap.size,i,none⟩ u).cell? ⟨cb,5,none⟩=some (VI c.eS)/\(W.setCell ⟨w.heap.size,i,none⟩ u).cell? ⟨cb,6,none⟩=some (VI c.fx)):=fun W i u hW =>
  ⟨(World.cell?_setCell_far _ _ _ _ t).trans hW.1,(World.cell?_setCell_far _ _ _ _ t).trans hW.2.1,(World.cell?_setCell_far _ _ _ _ t).trans hW.2.2⟩
 have d:=Hd fr;clear fr;(go_region_held3 (fun W=>CI W cb 0 c.id/\CI W cb 5 c.eS/\CI W cb 6 c.fx) (first|exact d.o _ _ _ ⟨c0,c5,c6⟩|exact d.o _ _ _ (d.o _ _ _ ⟨c0,c5,c6⟩)|exact d.o _ _ _ (d.o _ _ _ (d.o _ _ _ ⟨c0,c5,c6⟩))|go_keep) (fail));obtain⟨v,k⟩:=nm ((((a.setCell ⟨w.heap.size,1,none⟩ (VI c.id)).setCell ⟨w.heap.size,3,none⟩ (VI c.eS)).setCell ⟨w.heap.size,4,none⟩ (VI c.fx)).drew);have E:Hy (Has v w.heap.size (.cells #[VI mk,VI c.id,VI n,VI c.eS,VI c.fx,VI r,VI mv,.bool s,.string ⟨md.toArray⟩] 93)):=Hd (by rw[k];exact (((y.o.fQ 1 _).fQ 3 _).fQ 4 _).drew)
 have HR:Hy (Has v (w.heap.size+1) (.cells #[VI 0,VI 0,VI 0,VI 0,VI 0,VI 0,VI 0,.bool false,.string ⟨#[]⟩] 93)):=Hd (by
  rw[k]
  exact (((j.o.jv (p:=⟨w.heap.size,1,none⟩) ae _).jv (p:=⟨w.heap.size,3,none⟩) ae _).jv (p:=⟨w.heap.size,4,none⟩) ae _).drew)
 have F:Hy (BB w v):=Hd (by rw[k];exact (((z.o.setCell (ax _) _).setCell (ax _) _).setCell (ax _) _).drew);rw[<- k];clear k d c0 c5 c6 B C D f1 f3 f4 y j z
 go_wp2_with (first
  |(refine wpList_load_row rfl 93 (.tmp 3) rfl w.heap.size rfl 93 _ (0,0) _ E.o Tryz.underlying93 rfl af ?_)
  |(refine wpList_store_row rfl 93 (.tmp 4) (.tmp 20) rfl (w.heap.size+1) _ rfl rfl 93 _ HR.o af af af ?_))
 exact bodyPost_ret (results_cell_row Tryz.results64 _ _ (w.heap.size+1) 93 _ (0,0) _ rfl (HR.o.setRow _) Tryz.underlying93 rfl af) rfl ⟨rfl,below_setRow F.o ab _⟩
end
end gj
end Go.Proofs.YtjhdaojclilakaaGreatDoor
