/-
  A part of the proof of the law WorldCalm: KpD.
-/
import Derived.Test.YtjhdaojclilakaaGreatDoorHd
import Derived.Test.YtjhdaojclilakaaGreatDoorP41
set_option maxHeartbeats 16000000
set_option maxRecDepth 1000000
namespace Go.Proofs.YtjhdaojclilakaaGreatDoor
namespace kp
open Go.RowKit heap own gC gO fD fj gj iv fc
open eY (fe eA eM iM iw fU fY Net eC)
section
variable {P:Lib.PrintTabs} {own own1:Nat->Nat} {w0 w wa w':World} {tb ob db:Nat} {v v':WV} {r r':eC} {y y':jY}
theorem Told.ahead (hb:BB w wa) (h:Told P own w0 tb ob db wa y w'):Told P own w0 tb ob db w y w':=by
 obtain⟨own1,v1,a,b,c⟩:=h;exact⟨own1,v1,a,fun k d=>b k (aG d hb.size),(eJ.il (S:=fun g=>own g≠0\/g=tb) hb (ax _)).trans c fun _ _ e=>e⟩
theorem jD.below (h:jD P own w0 w tb ob db v y) (hb:BB w w'):jD P own w0 w' tb ob db v y:=
 ⟨h.t_.below hb h.t_.lt,h.free,h.low,h.world.below hb fun g a=>h.world.fr g (aB hb.size a)⟩
theorem jD.here (h:jD P own w0 w tb ob db v y):Told P own w0 tb ob db w y w:=⟨own,v,h,Ext.refl _ _,eJ.refl _ _⟩
theorem Dv (n:Int):Lib.byteCells (text n)=[.int .u8 119,.int .u8 (n%256),.int .u8 (n/256%256)]:=by
 have e1:(((n%256).toNat%256:Nat):Int)=n%256:=ab;have a:(((n/256%256).toNat%256:Nat):Int)=n/256%256:=ab;simp only[Lib.byteCells,text,aY,bD,UInt8.toNat_ofNat',Nat.reducePow,e1,a];rfl
def vC (x:Step):Value:=.agg #[VI x.fz,VI x.k,VI x.a,VI x.b]
theorem MU (w:World) (x:Step) (h:jD P own w0 w tb ob db v y) (hd:0<=y.t.fH/\y.t.fH<=500) (hn:1<=y.n/\y.n<=4) (hw:0<=y.gp/\y.gp<=1000) {b:Int} {G:fK.gd} (hf:Fits b G y.r) (hb:b<=90000) :
 Calls Tryz.prog 6 #[VP tb 0,vC x] w fun e w'=>e=.returned (.tuple #[])/\Told P own w0 tb ob db w (fc.ie x y) w':=by
 unfold vC;obtain⟨w1,PR⟩:∃W,W=w.alloc (.cells #[VI x.fz,VI x.k,VI x.a,VI x.b] 34):=⟨_,rfl⟩;obtain⟨q,Ri⟩:=nm w.heap.size;(have PC:Has w1 q (.cells #[VI x.fz,VI x.k,VI x.a,VI x.b] 34):=by rw[PR,Ri];exact Has.new w _);(have Pu:BB w w1.drew:=by rw[PR];exact ((Below.refl _ _).alloc (ax _) _).drew);obtain⟨wa,R⟩:∃W,W=w1.drew:=⟨_,rfl⟩;(have E:Has wa q (.cells #[VI x.fz,VI x.k,VI x.a,VI x.b] 34):=by rw[R];exact PC.drew);rw[<- R]at Pu;have X:=h.below Pu;(have b3:q≠tb:=fun e=>by have:=h.t_.lt;omega);have kp:=fun n (h1:1<=n) (h2:n<=1000)=>jK x.k n h1 ab;obtain⟨k,hk⟩:=nm (fc.pick x.k y.n);have Z4:=Hd fun w=>l8 x.k y.n w ab ab;have I:=Hd fun a w=>l8 a 3 w ab ab;have a1:=Hd fun a w=>l8 a 4 w ab ab;have a6:=Hd fun a w=>l8 a 60 w ab ab;have p4:=jK x.a 4 ab ab;have b4:=jK x.b 60 ab ab;have q0:CP wa tb 0 ob 0:=X.t_.cell 0;have q4:CI wa tb 4 y.n:=X.t_.cell 4;have q5:CI wa tb 5 y.gp:=X.t_.cell 5;have q6:CC wa tb 6 (.bool false):=X.t_.cell 6;have s0:CI wa q 0 x.fz:=E.cell 0;have s1:CI wa q 1 x.k:=E.cell 1;have s2:CI wa q 2 x.a:=E.cell 2;have s3:CI wa q 3 x.b:=E.cell 3;have f5:=X.t_.frozen 5;have b5:=X.t_.lt;have QW:=E.lt;have an:=Hd (rG wa X.world);have j:=Hd X;have HX:=Hd E;have F:=Hd Pu;have u:=Hd hf;have ZK:=Hd hk;have Tu:=Hd (And.intro hd hn);have b6:=Hd hw;have A:Hy (b<=90000):=Hd hb;rw[<- hk]at Z4;have d:Hy ((fun W=>CP W tb 0 ob 0/\CI W tb 4 y.n/\CI W q 1 x.k) w1.drew):=Hd (by rw[<- R];exact⟨q0,q4,s1⟩);have a7:=Hd R
 have WM:Hy ((y.r.eH.l.length:Int)<=9223372036854775807):=Hd (by
  obtain⟨ps,-,Ss,-⟩:=X.world.eH;rw[aX]at Ss;rcases Ss.1.2 with⟨-,h2⟩|⟨g,cap,cur,-,-,-,h2,h3,-⟩
  ·rw[h2];decide
  unfold maxLen at h3;omega)
 clear PC Pu X E h hd hn hf hk kp hb R
 go_enter Tryz.func6,Tryz.ntmps6
 go_upto_region 1 with fail
 rw[<- PR,<- Ri]
 clear PR Ri
 refine last.head (fun W=>CP W tb 0 ob 0/\CI W tb 4 y.n/\CI W q 1 x.k) 1000 13 ?_
 refine last.many [(0,8,_),(1,9,_),(2,10,_),(3,11,_),(4,12,_),(5,13,_),(6,14,_),(7,15,_),(8,16,_),(9,17,_)] d.o ?_ (hy:=fun W' J=>by have e1:=J.1;have f0:=J.2.2;have f1:=J.2.1;repeat (first|exact .z|refine .s ?_|refine .k ?_))
 refine last.one 10 fun K hK=>?_
 go_simp
 refine (Z4.o _).mono ?_
 rintro e Y ⟨rfl,rfl⟩
 refine hK.out _ _ (fun _=>d.o) ?_
 clear hK K
 refine last.many [(11,4,_),(12,5,_)] d.o ?_
 refine last.done ?_
 clear d Z4
 rw[<- a7.o]
 clear a7
 obtain⟨ix,bb⟩:=nm (index x y.r)
 have Yn:=Hd bb
 clear bb
 rcases bk 0 y.r.eH.l.length with hl|hl
 case' inl =>
  have dl:decide ((0:Int)<(y.r.eH.l.length:Int))=true:=decide_eq_true ab;have bg:decide (0<y.r.eH.l.length)=true:=decide_eq_true hl;have aq:=Hd fun w=>l8 x.a y.r.eH.l.length w ab WM.o;have aa:Hy (ix=fc.pick x.a y.r.eH.l.length):=Hd (by rw[Yn.o];unfold index;rw[if_pos hl]);rw[<- aa.o]at aq;(go_upto_region 6 with (first|(go_at_call 14;refine an.o.mono ?_;rintro e Y ⟨rfl,rfl⟩)|(go_at_call 7;refine (aq.o _).mono ?_;rintro e Y ⟨rfl,rfl⟩)));clear aq
 case' inr =>
  have dl:decide ((0:Int)<(y.r.eH.l.length:Int))=false:=decide_eq_false ab;have bg:decide (0<y.r.eH.l.length)=false:=decide_eq_false ab;have aa:Hy (ix=0):=Hd (by rw[Yn.o];unfold index;rw[if_neg ab]);(go_upto_region 6 with (go_at_call 14;refine an.o.mono ?_;rintro e Y ⟨rfl,rfl⟩));rw[<- aa.o]
 all_goals
  clear an aa dl bg hl WM;by_cases c:x.fz=0
  ·have d0:decide (x.fz=0)=true:=decide_eq_true c
   have f:Hy (fc.ie x y={y with r:=(y.r.read (fc.pick x.k y.n) (fc.pick x.a 3)).2}):=Hd (by unfold fc.ie;rw[if_pos c])
   rw[<- ZK.o]at f
   have HC:=Hd (tg wa k (fc.pick x.a 3) u.o.inv (by have:=A.o;omega) u.o.idx (by have:=u.o.jM;have:=A.o;omega) j.o.world)
   obtain⟨p3,S0⟩:∃z,z=fc.pick x.a 3:=⟨_,rfl⟩
   have L:=Hd (I.o x.a)
   rw[<- S0]at HC L f
   clear I S0
   go_wp2_with (first|(go_at_call 7;refine (L.o _).mono ?_;rintro e Y ⟨rfl,rfl⟩)|(go_at_call 13;refine HC.o.mono ?_;rintro e H ⟨rfl,hs⟩))
   go_end0
   rw[f.o];exact⟨rfl,Told.ahead F.o (j.o.told hs)⟩
  have d0:decide (x.fz=0)=false:=decide_eq_false c;have M:=Hd c;clear c;by_cases c:x.fz=1
  ·have d1:decide (x.fz=1)=true:=decide_eq_true c;have f:Hy (fc.ie x y={y with r:=(y.r.write (fc.pick x.k y.n) (fc.pick x.a 3) (text (y.gp+1))).2,gp:=y.gp+1}):=Hd (by unfold fc.ie;rw[if_neg M.o,if_pos c]);rw[<- ZK.o]at f;obtain⟨p3,S0⟩:∃z,z=fc.pick x.a 3:=⟨_,rfl⟩;have L:=Hd (I.o x.a);rw[<- S0]at L f;clear I S0;have ca:=b6.o;(have cb:IntKind.u8.wrap (y.gp+1)=(y.gp+1)%256:=by simp[IntKind.wrap,IntKind.bits,IntKind.signed]);(have cc:IntKind.u8.wrap ((y.gp+1)/256)=(y.gp+1)/256%256:=by simp[IntKind.wrap,IntKind.bits,IntKind.signed]);(go_upto_region 11 with fail);obtain⟨wb,UN⟩:∃W,W=wa.setCell ⟨tb,5,none⟩ (VI (y.gp+1)):=⟨_,rfl⟩;rw[<- UN];have ar:Hy (jD P own w0 wb tb ob db v {y with gp:=y.gp+1}):=Hd (by rw[UN];exact j.o.set 5 _ _ rfl rfl);have bj:Hy (eJ (fun g=>own g≠0\/g=tb) wa wb):=Hd (by rw[UN];exact eJ.tj wa tb 5 _ (.inr rfl));(have g2:wb.cell? ⟨q,2,none⟩=some (VI x.a):=by rw[UN];exact (HX.o.jv (p:=⟨tb,5,none⟩) b3 _).cell 2);have g5:CI wb tb 5 (y.gp+1):=ar.o.t_.cell 5;(have b7:q<wb.heap.size:=by rw[UN];simpa using QW);(have b8:tb<wb.heap.size:=by rw[UN];simpa using b5);clear UN q0 q4 q5 q6 s0 s1 s2 s3 f5;refine phase.gH (fun W=>CI W q 2 x.a/\CI W tb 5 (y.gp+1)) (fun i=>decide (0<=i)&&decide (i<18)) 19 ?_;obtain⟨wd,Zi⟩:∃W,W=wb.drew:=⟨_,rfl⟩;have d:Hy ((fun W=>CI W q 2 x.a/\CI W tb 5 (y.gp+1)) wd):=Hd (by rw[Zi];exact⟨g2,g5⟩);have N:Hy (jD P own w0 wd tb ob db v {y with gp:=y.gp+1}):=Hd (by rw[Zi];exact ar.o.below (Below.refl _ _).drew);have O:Hy (eJ (fun g=>own g≠0\/g=tb) wa wd):=Hd (by rw[Zi];exact bj.o.drew);(have ZH:q<wd.heap.size:=by rw[Zi];exact b7);(have bl:tb<wd.heap.size:=by rw[Zi];exact b8);rw[<- Zi];clear Zi g2 g5 ar bj;refine phase.gN 0 46 (VP ob 0) [] d.o ?_;dsimp only[List.set];refine phase.gN 1 47 (VI k) [] d.o ?_;dsimp only[List.set];refine phase.gN 2 48 (VP q 2) [3,4] d.o ?_;dsimp only[List.set];refine phase.gN 3 49 (VI x.a) [4] d.o ?_ (hy:=(fun W' J=>by have e1:=J.1;go_simp));dsimp only[List.set];refine phase.gN 5 51 (VP tb 0) [6,7,8,9,16,17] d.o ?_;dsimp only[List.set];refine phase.gN 6 52 (VP tb 0) [7,8,9,16,17] d.o ?_;dsimp only[List.set];refine phase.gN 7 53 (VP tb 5) [8,9,16,17] d.o ?_;dsimp only[List.set];refine phase.gN 8 54 (VI (y.gp+1)) [9,16,17] d.o ?_ (hy:=(fun W' J=>by have e1:=J.2;go_simp));dsimp only[List.set];refine phase.gN 9 55 (.int .u8 ((y.gp+1)%256)) [16,17] d.o ?_;dsimp only[List.set];refine phase.gN 10 56 (VP tb 0) [11,12,13,14,15,16,17] d.o ?_;dsimp only[List.set];refine phase.gN 11 57 (VP tb 0) [12,13,14,15,16,17] d.o ?_;dsimp only[List.set];refine phase.gN 12 58 (VP tb 5) [13,14,15,16,17] d.o ?_;dsimp only[List.set];refine phase.gN 13 59 (VI (y.gp+1)) [14,15,16,17] d.o ?_ (hy:=(fun W' J=>by have e1:=J.2;go_simp));dsimp only[List.set];refine phase.gN 14 60 (VI ((y.gp+1)/256)) [15,16,17] d.o ?_;dsimp only[List.set];refine phase.gN 15 61 (.int .u8 ((y.gp+1)/256%256)) [16,17] d.o ?_;dsimp only[List.set];refine phase.rT (l:=[4,16]) af aj fun i hi=>?_;simp only[aH,bq,or_false]at hi;rcases hi with rfl|rfl
   ·refine⟨_,by simp only[aJ,aO,aM];exact rfl,fun K hK=>?_⟩
    refine (if_pos ai).mpr ?_
    go_simp
    refine (L.o _).mono ?_
    rintro e Y ⟨rfl,rfl⟩
    refine hK.out _ _ (fun _=>d.o) ?_
    clear hK K
    dsimp only[List.set]
    refine phase.g1 16 fun K hK=>?_
    go_simp
    obtain⟨gb,Ra⟩:=nm wd.heap.size
    obtain⟨wc,B⟩:∃W,W=wd.alloc (.cells #[.int .u8 119,.int .u8 ((y.gp+1)%256),.int .u8 ((y.gp+1)/256%256)] 5):=⟨_,rfl⟩
    rw[<- B,<- Ra]
    have ad:Hy (wc.ownsRow 0 5 1 (.slice (some ⟨gb,0,none⟩) 3 3) 3 (Lib.byteCells (text (y.gp+1)))):=Hd (by rw[Dv,B,Ra];exact rq (l:=[.int .u8 119,.int .u8 ((y.gp+1)%256),.int .u8 ((y.gp+1)/256%256)]) (Has.new wd _) (bR _) rfl ak)
    have C:BB wd wc:=by rw[B];exact (Below.refl _ _).alloc (ax _) _
    have Z:=Hd C
    have QK:Hy ((fun W=>CI W q 2 x.a/\CI W tb 5 (y.gp+1)) wc):=Hd ⟨(C.cell (p:=⟨q,2,none⟩) ZH).trans d.o.1,(C.cell (p:=⟨tb,5,none⟩) bl).trans d.o.2⟩
    clear B Ra C d
    have d:=QK
    clear QK
    refine hK.out _ _ (fun _=>d.o) ?_
    clear hK K
    dsimp only[List.set]
    refine phase.g1 17 fun K hK=>?_
    have S:=lx.ru ad.o rfl
    go_simp
    clear S
    refine hK.out _ _ (fun _=>d.o) ?_
    clear hK K
    dsimp only[List.set]
    refine phase.g1 18 fun K hK=>?_
    have T:=Hd (vw wc k p3 (text (y.gp+1)) u.o.inv (by have:=A.o;omega) u.o.idx (by have:=u.o.jM;have:=A.o;omega) ((N.o.below Z.o).world))
    go_simp
    refine T.o.mono ?_
    rintro e H ⟨rfl,hs⟩
    have U:=Hd hs
    clear hs
    refine hK.out _ _ (fun h=>absurd h aj) ?_
    clear hK K
    dsimp only[List.set]
    refine phase.gD ?_
    go_wp2_with fail
    go_end0
    rw[f.o];obtain⟨D,v5,z1,z2,z3⟩:=Told.ahead Z.o ((N.o.below Z.o).told U.o);exact⟨rfl,Told.ahead F.o ⟨D,v5,z1,fun g hg=>z2 g (aG hg O.o.size),O.o.trans z3 fun _ _ e=>e⟩⟩
   refine⟨_,by simp only[aJ,aO,aM];exact rfl,fun K hK=>?_⟩;refine (if_pos ai).mpr ?_;go_simp;obtain⟨gb,Ra⟩:=nm wd.heap.size;obtain⟨wc,B⟩:∃W,W=wd.alloc (.cells #[.int .u8 119,.int .u8 ((y.gp+1)%256),.int .u8 ((y.gp+1)/256%256)] 5):=⟨_,rfl⟩;rw[<- B,<- Ra];have ad:Hy (wc.ownsRow 0 5 1 (.slice (some ⟨gb,0,none⟩) 3 3) 3 (Lib.byteCells (text (y.gp+1)))):=Hd (by rw[Dv,B,Ra];exact rq (l:=[.int .u8 119,.int .u8 ((y.gp+1)%256),.int .u8 ((y.gp+1)/256%256)]) (Has.new wd _) (bR _) rfl ak);(have C:BB wd wc:=by rw[B];exact (Below.refl _ _).alloc (ax _) _);have Z:=Hd C;have QK:Hy ((fun W=>CI W q 2 x.a/\CI W tb 5 (y.gp+1)) wc):=Hd ⟨(C.cell (p:=⟨q,2,none⟩) ZH).trans d.o.1,(C.cell (p:=⟨tb,5,none⟩) bl).trans d.o.2⟩;clear B Ra C d;have d:=QK;clear QK;refine hK.out _ _ (fun _=>d.o) ?_;clear hK K;dsimp only[List.set];refine phase.rT (l:=[4,17]) af aj fun i hi=>?_;simp only[aH,bq,or_false]at hi;rcases hi with rfl|rfl
   ·refine⟨_,by simp only[aJ,aO,aM];exact rfl,fun K hK=>?_⟩
    refine (if_pos ai).mpr ?_
    go_simp
    refine (L.o _).mono ?_
    rintro e Y ⟨rfl,rfl⟩
    refine hK.out _ _ (fun _=>d.o) ?_
    clear hK K
    dsimp only[List.set]
    refine phase.g1 17 fun K hK=>?_
    have S:=lx.ru ad.o rfl
    go_simp
    clear S
    refine hK.out _ _ (fun _=>d.o) ?_
    clear hK K
    dsimp only[List.set]
    refine phase.g1 18 fun K hK=>?_
    have T:=Hd (vw wc k p3 (text (y.gp+1)) u.o.inv (by have:=A.o;omega) u.o.idx (by have:=u.o.jM;have:=A.o;omega) ((N.o.below Z.o).world))
    go_simp
    refine T.o.mono ?_
    rintro e H ⟨rfl,hs⟩
    have U:=Hd hs
    clear hs
    refine hK.out _ _ (fun h=>absurd h aj) ?_
    clear hK K
    dsimp only[List.set]
    refine phase.gD ?_
    go_wp2_with fail
    go_end0
    rw[f.o];obtain⟨D,v5,z1,z2,z3⟩:=Told.ahead Z.o ((N.o.below Z.o).told U.o);exact⟨rfl,Told.ahead F.o ⟨D,v5,z1,fun g hg=>z2 g (aG hg O.o.size),O.o.trans z3 fun _ _ e=>e⟩⟩
   refine⟨_,by simp only[aJ,aO,aM];exact rfl,fun K hK=>?_⟩
   refine (if_pos ai).mpr ?_
   have S:=lx.ru ad.o rfl
   go_simp
   clear S
   refine hK.out _ _ (fun _=>d.o) ?_
   clear hK K
   dsimp only[List.set]
   refine phase.g1 4 fun K hK=>?_
   go_simp
   refine (L.o _).mono ?_
   rintro e Y ⟨rfl,rfl⟩
   refine hK.out _ _ (fun _=>d.o) ?_
   clear hK K
   dsimp only[List.set]
   refine phase.g1 18 fun K hK=>?_
   have T:=Hd (vw wc k p3 (text (y.gp+1)) u.o.inv (by have:=A.o;omega) u.o.idx (by have:=u.o.jM;have:=A.o;omega) ((N.o.below Z.o).world))
   go_simp
   refine T.o.mono ?_
   rintro e H ⟨rfl,hs⟩
   have U:=Hd hs
   clear hs
   refine hK.out _ _ (fun h=>absurd h aj) ?_
   clear hK K
   dsimp only[List.set]
   refine phase.gD ?_
   go_wp2_with fail
   go_end0
   rw[f.o];obtain⟨D,v5,z1,z2,z3⟩:=Told.ahead Z.o ((N.o.below Z.o).told U.o);exact⟨rfl,Told.ahead F.o ⟨D,v5,z1,fun g hg=>z2 g (aG hg O.o.size),O.o.trans z3 fun _ _ e=>e⟩⟩
  have d1:decide (x.fz=1)=false:=decide_eq_false c;have Q:=Hd c;clear c;by_cases c:x.fz=2
  ·have d2:decide (x.fz=2)=true:=decide_eq_true c
   have f:Hy (fc.ie x y={y with r:=(y.r.fh (fc.pick x.k y.n)).2}):=Hd (by unfold fc.ie;rw[if_neg M.o,if_neg Q.o,if_pos c])
   rw[<- ZK.o]at f
   have HC:=Hd (Co wa k u.o.inv (by have:=A.o;omega) j.o.world)
   go_wp2_with ((go_at_call 18;refine HC.o.mono ?_;rintro e H ⟨rfl,hs⟩))
   go_end0
   rw[f.o];exact⟨rfl,Told.ahead F.o (j.o.told hs)⟩
  have d2:decide (x.fz=2)=false:=decide_eq_false c;have V:=Hd c;clear c;by_cases c:x.fz=3
  ·have d3:decide (x.fz=3)=true:=decide_eq_true c
   have f:Hy (fc.ie x y={y with r:=(y.r.gS (index x y.r)).2}):=Hd (by unfold fc.ie;rw[if_neg M.o,if_neg Q.o,if_neg V.o,if_pos c])
   rw[<- Yn.o]at f
   have HC:=Hd (CE wa ix u.o.inv u.o.idx u.o.iT j.o.world)
   go_wp2_with ((go_at_call 19;refine HC.o.mono ?_;rintro e H ⟨rfl,hs⟩))
   go_end0
   rw[f.o];exact⟨rfl,Told.ahead F.o (j.o.told hs)⟩
  have d3:decide (x.fz=3)=false:=decide_eq_false c;have N3:=Hd c;clear c;by_cases c:x.fz=4
  ·have d4:decide (x.fz=4)=true:=decide_eq_true c
   have f:Hy (fc.ie x y={y with r:=(y.r.jP (index x y.r)).2}):=Hd (by unfold fc.ie;rw[if_neg M.o,if_neg Q.o,if_neg V.o,if_neg N3.o,if_pos c])
   rw[<- Yn.o]at f
   have HC:=Hd (Lb wa ix j.o.world)
   go_wp2_with ((go_at_call 20;refine HC.o.mono ?_;rintro e H ⟨rfl,hs⟩))
   go_end0
   rw[f.o];exact⟨rfl,Told.ahead F.o (j.o.told hs)⟩
  have d4:decide (x.fz=4)=false:=decide_eq_false c;have N4:=Hd c;clear c;by_cases c:x.fz=5
  ·have d5:decide (x.fz=5)=true:=decide_eq_true c
   have f:Hy (fc.ie x y={y with r:=(y.r.jQ (index x y.r)).2}):=Hd (by unfold fc.ie;rw[if_neg M.o,if_neg Q.o,if_neg V.o,if_neg N3.o,if_neg N4.o,if_pos c])
   rw[<- Yn.o]at f
   have HC:=Hd (La wa ix j.o.world)
   go_wp2_with ((go_at_call 21;refine HC.o.mono ?_;rintro e H ⟨rfl,hs⟩))
   go_end0
   rw[f.o];exact⟨rfl,Told.ahead F.o (j.o.told hs)⟩
  have d5:decide (x.fz=5)=false:=decide_eq_false c;have N5:=Hd c;clear c;by_cases c:x.fz=6
  ·have d6:decide (x.fz=6)=true:=decide_eq_true c
   have f:Hy (fc.ie x y={y with r:=(y.r.fu (times (fc.pick x.a 12) y.t.fH (y.n.toNat+1) x.b)).2}):=Hd (by unfold fc.ie;rw[if_neg M.o,if_neg Q.o,if_neg V.o,if_neg N3.o,if_neg N4.o,if_neg N5.o,if_pos c])
   have HC:=Hd (MT wa x.a x.b j.o Tu.o.1 Tu.o.2 u.o)
   go_wp2_with ((go_at_call 22;refine HC.o.mono ?_;rintro e H ⟨rfl,hs⟩))
   go_end0
   rw[f.o];exact⟨rfl,Told.ahead F.o (j.o.told hs)⟩
  have d6:decide (x.fz=6)=false:=decide_eq_false c;have N6:=Hd c;clear c;by_cases c:x.fz=7
  ·have d7:decide (x.fz=7)=true:=decide_eq_true c;have f:Hy (fc.ie x y={y with r:=y.r.kf (fc.pick x.a 3) (fc.pick x.b 60-1)}):=Hd (by unfold fc.ie;rw[if_neg M.o,if_neg Q.o,if_neg V.o,if_neg N3.o,if_neg N4.o,if_neg N5.o,if_neg N6.o,if_pos c]);have HC:=Hd (ya wa (fc.pick x.a 3) (fc.pick x.b 60-1) j.o.world);obtain⟨p3,S0⟩:∃z,z=fc.pick x.a 3:=⟨_,rfl⟩;obtain⟨al,b1⟩:∃z,z=fc.pick x.b 60:=⟨_,rfl⟩;have L:=Hd (I.o x.a);have Xy:=Hd (a6.o x.b);rw[<- S0]at HC L f;rw[<- b1]at HC Xy f b4;clear I a6 S0 b1;(have b9:IntKind.i64.wrap (al-1)=al-1:=by simp only[IntKind.wrap_i64];omega);(go_upto_region 23 with fail);refine last.iJ (fun W=>CI W q 2 x.a/\CI W q 3 x.b) 8 9 ⟨s2,s3⟩ fun d=>?_;refine last.many [(0,95,_)] d.o ?_;refine last.iF [3,2,1] 1 96 (VP q 2) d.o ?_;dsimp only[List.set];refine last.iF [3,2] 2 97 (VI x.a) d.o ?_ (hy:=(fun W' J=>by have e1:=J.1;go_simp));dsimp only[List.set];refine last.iF [6,5,4] 4 99 (VP q 3) d.o ?_;dsimp only[List.set];refine last.iF [6,5] 5 100 (VI x.b) d.o ?_ (hy:=(fun W' J=>by have e1:=J.2;go_simp));dsimp only[List.set];refine last.one 3 fun K hK=>?_;go_simp;refine (L.o _).mono ?_;rintro e Y ⟨rfl,rfl⟩;refine hK.out _ _ (fun _=>d.o) ?_;clear hK K;refine last.one 6 fun K hK=>?_;go_simp;refine (Xy.o _).mono ?_;rintro e Y ⟨rfl,rfl⟩;refine hK.out _ _ (fun _=>d.o) ?_;clear hK K;refine last.one 7 fun K hK=>?_;go_simp
   try rw[b9]
   refine hK.out _ _ (fun _=>d.o) ?_
   clear hK K
   refine last.one 8 fun K hK=>?_
   go_simp
   refine (ya wa.drew p3 (al-1) (j.o.below (Below.refl _ _).drew).world).mono ?_
   rintro e H ⟨rfl,h4,Za⟩
   refine hK.out _ _ (fun h=>absurd rfl h) ?_
   clear hK K
   refine last.done ?_
   go_wp2_with fail
   go_end0
   rw[f.o];(have Wx:=Za.mono (S':=fun g=>own g≠0) fun g _ e=>by unfold fL at e;omega);have hs:iv.gh P own w0 ob db wa (y.r.kf p3 (al-1)) H:=⟨own,v,h4,Ext.refl _ _,(eJ.refl _ wa).drew.trans Wx fun _ _ e=>e⟩;exact⟨rfl,Told.ahead F.o (j.o.told hs)⟩
  have d7:decide (x.fz=7)=false:=decide_eq_false c;have N7:=Hd c;clear c;by_cases c:x.fz=8
  ·have d8:decide (x.fz=8)=true:=decide_eq_true c
   have f:Hy (fc.ie x y={y with r:=y.r.od}):=Hd (by unfold fc.ie;rw[if_neg M.o,if_neg Q.o,if_neg V.o,if_neg N3.o,if_neg N4.o,if_neg N5.o,if_neg N6.o,if_neg N7.o,if_pos c])
   have HC:=Hd (K0 wa j.o.world)
   go_wp2_with ((go_at_call 23;refine HC.o.mono ?_;rintro e H ⟨rfl,⟨v4,h4⟩,Za⟩))
   go_end0
   rw[f.o];have hs:iv.gh P own w0 ob db wa y.r.od H:=⟨own,v4,h4,Ext.refl _ _,j.o.world.pT Za⟩;exact⟨rfl,Told.ahead F.o (j.o.told hs)⟩
  have d8:decide (x.fz=8)=false:=decide_eq_false c;have N8:=Hd c;clear c;by_cases c:x.fz=9
  ·have d9:decide (x.fz=9)=true:=decide_eq_true c
   have f:Hy (fc.ie x y={y with r:=y.r.gK.2}):=Hd (by unfold fc.ie;rw[if_neg M.o,if_neg Q.o,if_neg V.o,if_neg N3.o,if_neg N4.o,if_neg N5.o,if_neg N6.o,if_neg N7.o,if_neg N8.o,if_pos c])
   have HC:=Hd (C4 wa j.o.world)
   go_wp2_with ((go_at_call 24;refine HC.o.mono ?_;rintro e H ⟨rfl,hs⟩))
   go_end0
   rw[f.o];exact⟨rfl,Told.ahead F.o (j.o.told hs)⟩
  have d9:decide (x.fz=9)=false:=decide_eq_false c;have N9:=Hd c;clear c;by_cases c:x.fz=10
  ·have d10:decide (x.fz=10)=true:=decide_eq_true c
   have f:Hy (fc.ie x y={y with r:=(y.r.jG (fc.pick x.k y.n)).2}):=Hd (by unfold fc.ie;rw[if_neg M.o,if_neg Q.o,if_neg V.o,if_neg N3.o,if_neg N4.o,if_neg N5.o,if_neg N6.o,if_neg N7.o,if_neg N8.o,if_neg N9.o,if_pos c])
   rw[<- ZK.o]at f
   have HC:=Hd (Mm wa k j.o.world)
   go_wp2_with ((go_at_call 25;refine HC.o.mono ?_;rintro e H ⟨rfl,hs⟩))
   go_end0
   rw[f.o];exact⟨rfl,Told.ahead F.o (j.o.told hs)⟩
  have d10:decide (x.fz=10)=false:=decide_eq_false c;have au:=Hd c;clear c;by_cases c:x.fz=11
  ·have d11:decide (x.fz=11)=true:=decide_eq_true c
   have f:Hy (fc.ie x y={y with r:=eC.iz (fc.pick x.a 4).toNat y.r}):=Hd (by unfold fc.ie;rw[if_neg M.o,if_neg Q.o,if_neg V.o,if_neg N3.o,if_neg N4.o,if_neg N5.o,if_neg N6.o,if_neg N7.o,if_neg N8.o,if_neg N9.o,if_neg au.o,if_pos c])
   obtain⟨m,hm⟩:∃m:Nat,fc.pick x.a 4=m:=⟨(fc.pick x.a 4).toNat,ab⟩
   have L:=Hd (a1.o x.a)
   rw[hm]at L f p4
   rw[bo]at f
   have HC:=Hd (th wa m ab (b:=b) (G:=G) ⟨u.o.inv,u.o.idx,u.o.iT,u.o.ik⟩ (by have:=A.o;omega) j.o.world)
   clear a1 hm
   go_wp2_with (first|(go_at_call 7;refine (L.o _).mono ?_;rintro e Y ⟨rfl,rfl⟩)|(go_at_call 9;refine HC.o.mono ?_;rintro e H ⟨rfl,hs⟩))
   go_end0
   rw[f.o];exact⟨rfl,Told.ahead F.o (j.o.told hs)⟩
  have d11:decide (x.fz=11)=false:=decide_eq_false c
  have b2:=Hd c
  clear c
  have m0:=M.o
  have m1:=Q.o
  have m2:=V.o
  have m3:=N3.o
  have m4:=N4.o
  have m5:=N5.o
  have m6:=N6.o
  have m7:=N7.o
  have m8:=N8.o
  have m9:=N9.o
  have m10:=au.o
  have m11:=b2.o
  have f:Hy (fc.ie x y=y):=Hd (by unfold fc.ie;rw[if_neg M.o,if_neg Q.o,if_neg V.o,if_neg N3.o,if_neg N4.o,if_neg N5.o,if_neg N6.o,if_neg N7.o,if_neg N8.o,if_neg N9.o,if_neg au.o,if_neg b2.o])
  go_wp2_with fail
  go_end0
  rw[f.o];exact⟨rfl,Told.ahead F.o j.o.here⟩
end
end kp
end Go.Proofs.YtjhdaojclilakaaGreatDoor
