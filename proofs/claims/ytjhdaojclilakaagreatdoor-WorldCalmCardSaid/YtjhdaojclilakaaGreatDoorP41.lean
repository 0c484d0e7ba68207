/-
  A part of the proof of the law WorldCalm: KpB, KpC.
-/
import Derived.Test.YtjhdaojclilakaaGreatDoorHd
import Derived.Test.YtjhdaojclilakaaGreatDoorP40
set_option maxHeartbeats 16000000
set_option maxRecDepth 1000000
namespace Go.Proofs.YtjhdaojclilakaaGreatDoor
namespace kp
open Go.RowKit heap own gC gO fD fj gj iv fc fF
open eY (fe eA eM iM iw fU fY Net eC)
theorem Dt (t:fU) (m:Nat) (a:eY.kz t=true) (g:1<=m) (i:m<=4):∃r,eC.new t m=(0,some r)/\r.eD.length=m:=by
 have hs:∃d s,eA.new t ⟨[],false,0⟩ 0=(0,d,some s):=by
  unfold eA.new;have c:eY.fR 0 0 eY.half=true:=aj;rw[if_neg (by rw[a,c];decide)];dsimp only;split
  ·rename_i h;exact absurd h (by show ¬(1:Int)<wrap64 (0+1);decide +kernel)
  split
  ·exact⟨_,_,rfl⟩
  rename_i h;(have e:wrap64 (((eA.blank t 0).iN []).eS+1)=1:=by show wrap64 (0+1)=1;decide +kernel);dsimp only at h;rw[e]at h;exact absurd (by decide +kernel) h
 obtain⟨d,s,hs⟩:=hs;obtain⟨cs,b⟩:=yp a m 0 ab;obtain⟨f,-⟩:=fK.pX m b;unfold eC.new;rw[if_neg (by simp[eY.fR];omega),hs];dsimp only;rw[bo,b];exact⟨_,rfl,f⟩
section
variable {P:Lib.PrintTabs} {own own1:Nat->Nat} {w00 w0 w w':World} {tb ob db:Nat} {v v':WV} {r r':eC} {y:jY}
theorem Du (h:fp P own w0 w ob db v r) (f:kQ P w00) (i:Handle w00) (hb:BB w00 w0):fp P own w00 w ob db v r:=by
 have b:=hb.size;refine⟨h.fr,fun g c=>aB b (h.low g c),h.o_,h.gI,?_,h.cl,h.pl,h.cls,h.gz,h.li,h.ck,h.ev,h.op,h.eH,h.right,h.nl,h.nc,h.no⟩;have d:=h.fj;unfold jW at d⊢;split at d
 ·obtain⟨sb,j,k,tb,l,v,ps,m,e,a⟩:=d;exact⟨sb,j,k,tb,l,v,ps,m,e,f,i,hb.trans (a.iA.mono b),fun g c=>aB b (a.low g c),a.fr,⟨a.fF.w_,a.fF.row,a.fF.ow,fun g c=>aB b (a.fF.low g c),aB b a.fF.lw⟩,a.jU,a.kZ,a.jk,a.s_,a.iL,a.ok,a.lq,a.eQ,a.done,a.km,a.eW,a.kJ,a.kK⟩
 obtain⟨e,ps,a⟩:=d;exact⟨e,ps,f,i,hb.trans (a.iA.mono b),fun g c=>aB b (a.low g c),a.fr,a.jU,a.kZ,a.jk,a.rc⟩
def kD (ob:Nat) (y:jY):Array Value:=#[VP ob 0,VI y.t.eF,VI y.t.fa,VI y.t.fH,VI y.n,VI y.gp,.bool false]
structure jD (P:Lib.PrintTabs) (own:Nat->Nat) (w0 w:World) (tb ob db:Nat) (v:WV) (y:jY):Prop where
 t_:Has w tb (.cells (kD ob y) 31)
 free:own tb=0
 low:w0.heap.size<=tb
 world:fp P own w0 w ob db v y.r
def Told (P:Lib.PrintTabs) (own:Nat->Nat) (w0:World) (tb ob db:Nat) (w:World) (y:jY) (w':World):Prop:=
 ∃own1 v1,jD P own1 w0 w' tb ob db v1 y/\Ext w own own1/\eJ (fun g=>own g≠0\/g=tb) w w'
theorem jD.step (h:jD P own w0 w tb ob db v y) (hs:iv.gh P own w0 ob db w r' w'):∃own1 v1,jD P own1 w0 w' tb ob db v1 {y with r:=r'}/\Ext w own own1/\eJ (fun g=>own g≠0) w w':=by
 obtain⟨own1,v1,c,a,b⟩:=hs;exact⟨own1,v1,⟨b.has h.t_ (fun e=>e h.free),(a tb h.t_.lt).trans h.free,h.low,c⟩,a,b⟩
theorem jD.told (h:jD P own w0 w tb ob db v y) (hs:iv.gh P own w0 ob db w r' w'):Told P own w0 tb ob db w {y with r:=r'} w':=by
 obtain⟨own1,v1,a,b,c⟩:=h.step hs;exact⟨own1,v1,a,b,c.mono fun _ _ e=>.inl e⟩
theorem jD.ne (h:jD P own w0 w tb ob db v y):tb≠ob:=fun e=>by have:=h.free;rw[e,h.world.gI]at this;cases this
theorem eJ.tj (w:World) {S:Nat->Prop} (g i:Nat) (u:Value) (a:S g):eJ S w (w.setCell ⟨g,i,none⟩ u):=(eJ.refl S w).setCell (.inr a) u
theorem jD.set (h:jD P own w0 w tb ob db v y) (i:Nat) (u:Value) (a:jY) (b:a.r=y.r) (hc:(kD ob y).setIfInBounds i u=kD ob a):jD P own w0 (w.setCell ⟨tb,i,none⟩ u) tb ob db v a:=by
 refine⟨?_,h.free,h.low,?_⟩
 ·rw[<- hc];exact h.t_.fQ i u
 rw[b];exact h.world.fc (S:=fun g=>g=tb) (eJ.tj w tb i u rfl) (Ext.refl _ _) (fun g hg=>h.world.fr g (by simpa using hg)) h.world.low fun g _ e=>by subst e;exact⟨h.free,h.low⟩
theorem MS (w:World) (o v d c:Int) (J:kQ P w) (L:Handle w) :
 Calls Tryz.prog 5 #[VI o,VI v,VI d,VI c,.bool false] w fun e w'=>∃own tb ob db B r,e=.returned (VP tb 0)/\(eC.new (pA o v d) (1+fc.pick c 4)).2=some r/\r.eD.length=(1+fc.pick c 4).toNat/\jD P own w w' tb ob db B ⟨r,pA o v d,1+fc.pick c 4,0⟩:=by
 have hp:=jK c 4 ab ab;obtain⟨m,hm⟩:∃m:Nat,1+fc.pick c 4=m:=⟨(1+fc.pick c 4).toNat,ab⟩;obtain⟨t,ht⟩:=nm (pA o v d);have C:=Mv o v d;rw[<- ht]at C;obtain⟨r,M,N⟩:=Dt t m C ab ab;have O:=Hd M;have X:=Hd N;have Q:=Hd hm;have Y:Hy (m<=4):=Hd ab;have D:=Hd fun w=>ME o v d w;have R:=Hd fun w=>l8 c 4 w ab ab;rw[<- ht]at D⊢;unfold nM at D;obtain⟨T,j⟩:=nm (fc.pick c 4);rw[<- j]at R Q hm⊢;have E:1+T=(m:Int):=hm;(have Z:IntKind.i64.wrap (1+T)=(m:Int):=by simp only[IntKind.wrap_i64];omega);have F:=Hd J;have G:=Hd L;clear hp ht C M N j hm J L E;(go_enter Tryz.func5,Tryz.ntmps5);(go_upto_region 2 with (first|(go_at_call 17;refine (D.o _).mono ?_;rintro e q ⟨rfl,u⟩)|(go_at_call 7;refine (R.o _).mono ?_;rintro e q ⟨rfl,rfl⟩)));obtain⟨tb,a⟩:=nm q.heap.size;obtain⟨b,x⟩:∃W,W=q.alloc (.cells #[.pointer none,VI t.eF,VI t.fa,VI t.fH,VI m,VI 0,.bool false] 31):=⟨_,rfl⟩;rw[<- x,<- a];(have f:Has b tb (.cells #[.pointer none,VI t.eF,VI t.fa,VI t.fH,VI m,VI 0,.bool false] 31):=by rw[x,a];exact Has.new q _);have U:Hy (w.heap.size<=tb):=Hd (by rw[a];exact u.size);have y:Hy (BB w b):=Hd (by rw[x];exact u.alloc u.size _);clear x a u;have d1:CI b tb 1 t.eF:=f.cell 1;have d2:CI b tb 2 t.fa:=f.cell 2;have d3:CI b tb 3 t.fH:=f.cell 3;have d4:CI b tb 4 m:=f.cell 4;have l:tb<b.heap.size:=f.lt;have H:=Hd (Ds b.drew t m ((F.o.below y.o).below (Below.refl _ _).drew) ((G.o.below y.o).below (Below.refl _ _).drew));unfold nM at H;rw[O.o]at H;have Qo:=Hd f;clear f;refine last.iJ (fun W=>CI W tb 1 t.eF/\CI W tb 2 t.fa/\CI W tb 3 t.fH/\CI W tb 4 m) 1000 14 ⟨d1,d2,d3,d4⟩ fun HS=>?_;refine last.many [(0,25,_),(1,26,_),(2,27,_),(3,28,_),(4,29,_),(5,30,_),(6,31,_),(7,32,_)] HS.o ?_ (hy:=fun W' A=>by have e0:=A.1;have e1:=A.2.1;have e2:=A.2.2.1;have f0:=A.2.2.2;repeat (first|exact .z|refine .s ?_|refine .k ?_));refine last.one 8 fun K hK=>?_;go_simp;refine H.o.mono ?_;rintro e w3 ⟨own,ob,db,B,rfl,i⟩;have I:Hy ((fun W=>CI W tb 1 t.eF/\CI W tb 2 t.fa/\CI W tb 3 t.fH/\CI W tb 4 m) w3):=Hd ⟨(i.iA.cell (p:=⟨tb,1,none⟩) l).trans d1,(i.iA.cell (p:=⟨tb,2,none⟩) l).trans d2,(i.iA.cell (p:=⟨tb,3,none⟩) l).trans d3,(i.iA.cell (p:=⟨tb,4,none⟩) l).trans d4⟩;have n:=Hd i;clear i;refine hK.out _ _ (fun _=>I.o) ?_;clear hK K HS;have HS:=I;clear I;refine last.many [(9,24,_),(10,34,_),(11,35,_),(12,12,_),(13,13,_)] HS.o ?_;refine last.done ?_;clear HS d1 d2 d3 d4;have t3:=Qo.o.drew.below n.o.iA l;have f0:=t3.frozen 0;have c0:=t3.cell 0;have QV:=Hd t3;clear t3;(go_wp2_with fail);go_ret
 have V:own tb=0:=by
  rcases bQ (own tb)with h|h
  ·exact h
  exact absurd (n.o.low tb ab) ah
 rw[Q.o];refine⟨own,tb,ob,db,B,r,rfl,by rw[O.o],by rw[X.o];rfl,QV.o.fQ 0 _,V,U.o,?_⟩;exact (Du n.o F.o G.o y.o.drew).fc (S:=fun g=>g=tb) (eJ.tj _ tb 0 _ rfl) (Ext.refl _ _) (fun g hg=>n.o.fr g (by simpa using hg)) (Du n.o F.o G.o y.o.drew).low fun g _ e=>by subst e;exact⟨V,U.o⟩
end
end kp
namespace kp
open Go.RowKit heap own gC gO fD fj gj iv fc
open eY (fe eA eM iM iw fU fY Net eC)
section
variable {P:Lib.PrintTabs} {own own1:Nat->Nat} {w0 w w':World} {tb ob db:Nat} {v v':WV} {r r':eC} {y:jY}
theorem MT (w:World) (a b0:Int) (h:jD P own w0 w tb ob db v y) (hd:0<=y.t.fH/\y.t.fH<=500) (M:1<=y.n/\y.n<=4) {b:Int} {G:fK.gd} (hf:Fits b G y.r) :
 Calls Tryz.prog 22 #[VP tb 0,VI a,VI b0] w fun e w'=>e=.returned (.tuple #[])/\iv.gh P own w0 ob db w (y.r.fu (times (fc.pick a 12) y.t.fH (y.n.toNat+1) b0)).2 w':=by
 obtain⟨i0,P7,QC,PU,Qf⟩:=info_parts vA;have hp:=jK a 12 ab ab;have c:=Hd fun w=>l8 a 12 w ab ab;have S:=Hd fun x w=>l8 x 1073741824 w ab ab;have A:=Hd l8;have B:=Hd jK;obtain⟨g,hg⟩:=nm (fc.pick a 12);rw[<- hg]at hp c⊢;obtain⟨d,q⟩:=nm y.t.fH;obtain⟨n,N⟩:∃n:Nat,(n:Int)=y.n:=⟨y.n.toNat,ab⟩;have YL:y.n.toNat=n:=ab;have q1:0<=g*(1000-d)/\g*(1000-d)<=11000:=⟨dF ab ab,cU (Int.mul_le_mul (show g<=11 by omega) (show 1000-d<=1000 by omega) ab ab) ab⟩;have q2:0<=g*(1000+d)/\g*(1000+d)<=16500:=⟨dF ab ab,cU (Int.mul_le_mul (show g<=11 by omega) (show 1000+d<=1500 by omega) ab ab) ab⟩;have c0:CP w tb 0 ob 0:=h.t_.cell 0;(have c3:w.cell? ⟨tb,3,none⟩=some (VI d):=by rw[q];exact h.t_.cell 3);(have c4:w.cell? ⟨tb,4,none⟩=some (VI n):=by rw[N];exact h.t_.cell 4);have c6:CC w tb 6 (.bool false):=h.t_.cell 6;have O:=h.t_.lt;have SP:n<=4:=ab;(have an:0<=d/\d<=500:=by rw[q];exact hd);rw[YL,<- q];have H:=Hd h;have HF:=Hd hf;clear hg h hf hd M N YL q;(go_enter Tryz.func22,Tryz.ntmps22);(go_wp2_with (go_at_call 7;refine (c.o _).mono ?_;rintro e T ⟨rfl,rfl⟩));(go_loopw [2,7,8,9,10,11] (fun q2 q7 U _ _ _ wx=>∃k:Nat,k<=n+1/\q2=VI (oU k b0)/\U=VI k/\wx.ownsRow w.heap.size 3 1 q7 k (ints (times g d k b0))/\BB w wx) (fun _ _ U _ _ _ _=>n+1-(intOf U).toNat));case atStart=>exact⟨0,ab,rfl,rfl,World.ownsRow_nil w _ 3 1,Below.refl _ _⟩
 case round =>
  obtain⟨k,hk,rfl,rfl,Ss,hb⟩:=hrel;have K:=Hd Ss;have HB:=Hd hb;have e0:CP wr tb 0 ob 0:=(hb.cell (p:=⟨tb,0,none⟩) O).trans c0;have e3:CI wr tb 3 d:=(hb.cell (p:=⟨tb,3,none⟩) O).trans c3;have e4:CI wr tb 4 n:=(hb.cell (p:=⟨tb,4,none⟩) O).trans c4;have e6:CC wr tb 6 (.bool false):=(hb.cell (p:=⟨tb,6,none⟩) O).trans c6;clear Ss hb c0 c3 c4 c6;by_cases V:k<=n
  ·have d1:decide ((k:Int)<=(n:Int))=true:=decide_eq_true ab;have X:decide (k<=n)=true:=decide_eq_true V;(go_upto_region 5 with fail);(go_quiet (fail));obtain⟨lo,C⟩:=nm ((g*(1000-d)+999)/1000);obtain⟨hi,D⟩:=nm (g*(1000+d)/1000);rw[<- C,<- D];obtain⟨m,Y⟩:∃W,W=wr.drewN nq:=⟨_,rfl⟩;rw[<- Y];(have Z:BB wr m:=by rw[Y];exact below_drewN (Below.refl _ _) nq);have g6:CC m tb 6 (.bool false):=(Z.cell (p:=⟨tb,6,none⟩) (aG O HB.o.size)).trans e6;have l1:0<=lo/\lo<=12:=ab;have l2:0<=hi/\hi<=17:=ab;have Q:Hy (fc.low g d=lo):=Hd C.symm;have R:Hy (fc.high g d=hi):=Hd D.symm;have L:=Hd Z;have xb:=jK (oU k b0) 1073741824 ab ab;have f:=Hd fun w=>S.o (oU k b0) w;obtain⟨x,hx⟩:=nm (fc.pick (oU k b0) 1073741824);rw[<- hx]at xb f;have E:Hy (oU (k+1) b0=x*31+7):=Hd (by rw[hx];rfl);clear C D Y Z hx e0 e3 e4 e6;by_cases s:lo<=hi
   ·have d2:decide (lo<=hi)=true:=decide_eq_true s;(go_upto_region 11 with (go_at_call 7;refine (f.o _).mono ?_;rintro e T ⟨rfl,rfl⟩));have aa:=jK ((x*31+7)/8) (hi-lo+1) ab ab;have F:=Hd fun w=>l8 ((x*31+7)/8) (hi-lo+1) w ab ab;obtain⟨z,hz⟩:=nm (fc.pick ((x*31+7)/8) (hi-lo+1));rw[<- hz]at aa F;have I:Hy (pB g d (oU (k+1) b0)=lo+z):=Hd (by unfold pB;rw[Q.o,R.o,E.o,if_pos s,hz]);clear hz;(go_upto_region 12 with (go_at_call 7;refine (F.o _).mono ?_;rintro e T ⟨rfl,rfl⟩));clear F f c S A B g6;have Vy:Hy ((m.alloc (.cells #[VI (lo+z)] 3)).ownsRow w.heap.size 3 1 u7 k (ints (times g d k b0))):=Hd ((mh K.o L.o).alloc _);have J:w.heap.size<=m.heap.size:=aB HB.o.size L.o.size;have ad:k<=5:=ab;go_wp2_with (at_builtin;refine wpList_append_own _ rfl (.tmp 62) (.tmp 64) 26 rfl w.heap.size 3 i0 (VI 0) 1 8 Tryz.underlying26 P7 QC PU Qf rfl aj _ _ _ rfl Vy.o ⟨m.heap.size,0,none⟩ 1 1 [VI (lo+z)] rfl rfl ?c1 ao ?c3 ?c4 ?c5 ?_)
    case c1 =>
     intro j u l;have M:=Has.new m (.cells #[VI (lo+z)] 3)
     match j,l with
     |0,l =>
      (obtain rfl:VI (lo+z)=u:=by simpa using l);exact M.cell 0
    (case c3=>unfold maxLen;omega);(case c4=>omega);(case c5=>simp;omega);intro u2 w2 P2 QF _;(go_wp2_with fail);go_roundw
    case rel =>
     refine⟨k+1,ab,by rw[E.o],by go_num,?_,?_⟩
     ·rw[C8,I.o];(have e1:ints (times g d k b0++[lo+z])=ints (times g d k b0)++[VI (lo+z)]:=by simp[ints]);rw[e1];exact P2
     exact ((HB.o.trans (L.o.mono HB.o.size)).alloc J _).grown QF ah (fun j l=>lK K.o j l)
    case measure=>simp[intOf];omega
   have d2:decide (lo<=hi)=false:=decide_eq_false s;have I:Hy (pB g d (oU (k+1) b0)=g):=Hd (by unfold pB;rw[Q.o,R.o,if_neg s]);(go_upto_region 12 with (go_at_call 7;refine (f.o _).mono ?_;rintro e T ⟨rfl,rfl⟩));clear f c S A B g6;have Vy:Hy ((m.alloc (.cells #[VI (g)] 3)).ownsRow w.heap.size 3 1 u7 k (ints (times g d k b0))):=Hd ((mh K.o L.o).alloc _);have J:w.heap.size<=m.heap.size:=aB HB.o.size L.o.size;have ad:k<=5:=ab;go_wp2_with (at_builtin;refine wpList_append_own _ rfl (.tmp 62) (.tmp 64) 26 rfl w.heap.size 3 i0 (VI 0) 1 8 Tryz.underlying26 P7 QC PU Qf rfl aj _ _ _ rfl Vy.o ⟨m.heap.size,0,none⟩ 1 1 [VI (g)] rfl rfl ?c1 ao ?c3 ?c4 ?c5 ?_)
   case c1 =>
    intro j u l;have M:=Has.new m (.cells #[VI (g)] 3)
    match j,l with
    |0,l =>
     (obtain rfl:VI (g)=u:=by simpa using l);exact M.cell 0
   (case c3=>unfold maxLen;omega);(case c4=>omega);(case c5=>simp;omega);intro u2 w2 P2 QF _;(go_wp2_with fail);go_roundw
   case rel =>
    refine⟨k+1,ab,by rw[E.o],by go_num,?_,?_⟩
    ·rw[C8,I.o];(have e1:ints (times g d k b0++[g])=ints (times g d k b0)++[VI (g)]:=by simp[ints]);rw[e1];exact P2
    exact ((HB.o.trans (L.o.mono HB.o.size)).alloc J _).grown QF ah (fun j l=>lK K.o j l)
   case measure=>simp[intOf];omega
  have d1:decide ((k:Int)<=(n:Int))=false:=decide_eq_false ab
  have X:decide (k<=n)=false:=decide_eq_false V
  have al:Hy (k=n+1):=Hd ab
  have VJ:=Hd (CW wr u7 (times g d k b0) (by rw[Mx];exact K.o) (fun i hi=>H.o.world.fr i (lK K.o i hi)) HF.o.inv HF.o.ik (H.o.world.below HB.o fun i hi=>H.o.world.fr i (aB HB.o.size hi)))
  clear V hk c S A B
  go_wp2_with (go_at_call 29;refine VJ.o.mono ?_;rintro e w2 ⟨rfl,hs⟩)
  go_end0
  rw[<- al.o];exact⟨rfl,gh.ahead (Ext.refl _ _) (eJ.il HB.o (ax _)) hs⟩
end
end kp
end Go.Proofs.YtjhdaojclilakaaGreatDoor
