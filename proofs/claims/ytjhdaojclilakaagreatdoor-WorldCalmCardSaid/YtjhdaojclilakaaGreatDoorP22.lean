/-
  A part of the proof of the law WorldCalm: WalE, WalF, WalG, WalH.
-/
import Derived.Laws.ResultCell
import Derived.Lib.AtoiErrMem
import Derived.Deep.AppendLies
import Derived.Laws.AppendOwnNone
import Derived.Deep.LoopGhost
import Derived.Test.YtjhdaojclilakaaGreatDoorHd
import Derived.Test.YtjhdaojclilakaaGreatDoorP07
import Derived.Test.YtjhdaojclilakaaGreatDoorP21
set_option maxHeartbeats 16000000
set_option maxRecDepth 1000000
namespace Go.Proofs.YtjhdaojclilakaaGreatDoor
section
variable {p q:Prop}
theorem acs (z:q) (h:Hy q->p:=by
 intro zz;have H3:=R9.o.below Pu R9.o.lt;(have k1:w1.cell? ⟨w.heap.size+1+1,1,none⟩=some (VI r.eI):=by rw[H3.cell,Xo.o];rfl);(have k2:w1.cell? ⟨w.heap.size+1+1,2,none⟩=some (VI r.eK):=by rw[H3.cell,Xo.o];rfl);(have k3:w1.cell? ⟨w.heap.size+1+1,3,none⟩=some (VI r.eF):=by rw[H3.cell,Xo.o];rfl);(have k4:w1.cell? ⟨w.heap.size+1+1,4,none⟩=some (VI r.fJ):=by rw[H3.cell,Xo.o];rfl);(have k5:w1.cell? ⟨w.heap.size+1+1,5,none⟩=some (VI r.eS):=by rw[H3.cell,Xo.o];rfl);have H1:=Hd (Qj.o.below Pu Qj.o.lt);revert H3 k1 k2 k3 k4 k5 H1;exact zz.o):p:=h z
theorem abE (h:p:=by
 (have e:(⟨g,0,none⟩:Addr).add j=⟨g,j,none⟩:=by by_cases h0:j=0<;>simp[Addr.add,h0]);rw[e,(Has.alloc (w:=w) HG.o _).cell,<- hj,<- H4.o,dI,if_pos Vd,du]):p:=h
end
namespace fF
open Go.RowKit heap own eG
open eY (Rec)
def Ay:Rec:=⟨0,0,0,0,[],0⟩
def zeroCells:Array Value:=mq 0 0 0 0 ⟨#[]⟩ 0
def sp:ByteArray:=⟨#[32]⟩
def uq (T:Lib.PrintTabs) (k:Nat) (r:Rec) (s:ByteArray) (w:World) (e:Ending) (w':World):Prop:=
 ∃(r':Rec) (ok:Bool),e=.returned (.tuple #[mr r',.bool ok])/\BB w w'/\ok=decide (s.data.toList=text T k r)/\(ok=true->r'=r)
theorem Az (s:ByteArray) (hs:s.size<4294967281) (w:World) (m:Int) (hm:CI w 2 0 m) :
 Calls Tryz.prog 109 #[.string s,.string ⟨#[32]⟩,VI 7] w fun e w' =>
  e=.returned (.slice (some ⟨w.heap.size,0,none⟩) (pieces s).length (min 7 (s.size+1):Nat))/\w'=w.alloc (.cells (Lib.cellsOf (pieces s) (min 7 (s.size+1))) 9):=
 Tryz.strings_SplitN s ⟨#[32]⟩ 7 m w hs hm aj aj aj
theorem Iv (s:ByteArray) (hs:s.size<4611686018427387904) (w:World) :
 Calls Tryz.prog 111 #[.string s,.int .u8 32] w fun e w'=>e=.returned (VI (Lib.lastIndexByte s 32))/\w'=w:=Tryz.strings_LastIndexByte s 32 hs w
theorem Iw (x:Int) (a : -1<=x) (b:x<=1099511627776) (s:ByteArray) (hs:s.data.toList=Lib.itoa x) (w:World) :
 Calls Tryz.prog 110 #[.string s] w fun e w'=>e=.returned (.tuple #[VI x,.nilIface])/\BB w w':=
 (Tryz.strconv_Atoi s x (by show s.data.size<=18;rw[<- cy,hs];have:=qy x a ab;omega) (by rw[hs];exact Hr x) w).mono fun _ _ ⟨he,t,hw⟩=>⟨he,by rw[hw];exact Lib.bytesWorld_below w _ t⟩
theorem Ix (tmps:Array Value) (W:World) (g:Nat) (r:Rec) (ok:Bool) (a:tmps.getD 4 undef=VP g 0) (b:tmps.getD 5 undef=.bool ok)
 (c:Has W g (.cells (mq r.eI r.eK r.eF r.fJ ⟨r.data.toArray⟩ r.eS) 124)):(results Tryz.f81 tmps).run Tryz.prog W=.ok (.tuple #[mr r,.bool ok]) W:=by
 rw[results_cell_tmp Tryz.results81,a,b]
 have hi:(Tryz.prog.info? 124).map (·.size)=some (mq r.eI r.eK r.eF r.fJ ⟨r.data.toArray⟩ r.eS).size:=by
  show _=some 6
  kernel_rfl
 have:=run_loadVar_row (P:=Tryz.prog) W g 124 124 _ (0,0) _ c Tryz.underlying124 rfl hi;simp[asAddr,Result.andThen,this,mr]
variable {T:Lib.PrintTabs} {r:Rec} {w W:World} {g j:Nat}
theorem ur {k:Nat} {r':Rec} {s:ByteArray} {a:Act} {ok:Bool} (hd:a.defers=[]) (b:a.tmps.getD 4 undef=VP g 0) (c:a.tmps.getD 5 undef=.bool ok)
 (d:Has W g (.cells (mq r'.eI r'.eK r'.eF r'.fJ ⟨r'.data.toArray⟩ r'.eS) 124)) (hb:BB w W) (e:ok=decide (s.data.toList=text T k r)) (f:ok=true->r'=r) :
 bodyPost Tryz.prog Tryz.f81 (uq T k r s w) Exit.ret a W:=
 bodyPost_ret (Ix a.tmps W g r' ok b c d) hd ⟨r',ok,rfl,hb,e,f⟩
theorem Iy (T:Lib.PrintTabs) (k:Nat) (r:Rec) (s:ByteArray) (hs:s.size<=1000) (b:s.data.toList≠text T k r) (w:World) (hK:kQ T w) (h:(pieces s).length<=6) :
 Calls Tryz.prog 81 #[VI k,.string s] w (uq T k r s w):=by
 obtain⟨m,hm⟩:=hK.mx;have d:=pP hm;have a:=Az s ab (w.alloc (.cells zeroCells 124)) m ((World.cell?_alloc_old _ _ _ (Nat.ne_of_lt d)).trans hm);obtain⟨n,c⟩:=nm ((pieces s).length);rw[<- c]at a h;have i:((n:Int) !=7)=true:=bne_iff_ne.mpr ab;have f:=Hd b;clear c b hK;unfold zeroCells mq at a;(go_enter Tryz.func81,Tryz.ntmps81);(go_wp2_with (go_at_call 109;refine a.mono ?_;rintro e j ⟨rfl,rfl⟩;clear a));refine ur (g:=w.heap.size) (r':=Ay) (ok:=false) rfl rfl rfl ((Has.new w _).alloc _) (((Below.refl _ _).alloc (ax _) _).alloc ae _) ?_ (fun h=>by cases h);exact (decide_eq_false f.o).symm
theorem Iz (g:Array Value) (h:g.size=6) (a b c d e f:Value):(((((g.setIfInBounds 0 a).setIfInBounds 1 b).setIfInBounds 2 c).setIfInBounds 3 d).setIfInBounds 4 e).setIfInBounds 5 f=#[a,b,c,d,e,f]:=by
 obtain⟨l⟩:=g
 match l,h with
 | [_,_,_,_,_,_],_=>rfl
theorem AA {i:Array Value} {t:TypeId} (h:Has W g (.cells i t)) (k:i.size=6) (a b c d e f:Value) :
 Has ((((((W.setCell ⟨g,0,none⟩ a).setCell ⟨g,1,none⟩ b).setCell ⟨g,2,none⟩ c).setCell ⟨g,3,none⟩ d).setCell ⟨g,4,none⟩ e).setCell ⟨g,5,none⟩ f) g (.cells #[a,b,c,d,e,f] t):=by
 have j:=(((((h.fQ 0 a).fQ 1 b).fQ 2 c).fQ 3 d).fQ 4 e).fQ 5 f;rw[Iz i k]at j;exact j
theorem AB {B:Nat} (h:Below B w W) (k:B<=g) (a b c d e f:Value) :
 Below B w ((((((W.setCell ⟨g,0,none⟩ a).setCell ⟨g,1,none⟩ b).setCell ⟨g,2,none⟩ c).setCell ⟨g,3,none⟩ d).setCell ⟨g,4,none⟩ e).setCell ⟨g,5,none⟩ f):=by
 have st:∀ {j:World} (_:Below B w j) (i:Nat) (v:Value),Below B w (j.setCell ⟨g,i,none⟩ v):=fun h i v=>h.setCell (p:=⟨g,i,none⟩) k v;exact st (st (st (st (st (st h 0 a) 1 b) 2 c) 3 d) 4 e) 5 f
theorem xm {o:Obj} (h:Has W g o):Has W.drew g o:=h
def PS (T:Lib.PrintTabs) (w:World) (D:Nat) (r:Rec) (W:World):Prop:=
 Has W D (.cells #[VI r.eI,VI r.eK,VI r.eF,VI r.fJ,.string ⟨r.data.toArray⟩,VI r.eS] 124)/\kQ T W/\(∃a:Array Value,a.size=6/\Has W w.heap.size (.cells a 124))/\BB w W
theorem PS.below {D:Nat} {a:World} (h:PS T w D r W) (hb:BB W a):PS T w D r a:=by
 obtain⟨b,e,⟨f,g,c⟩,d⟩:=h;exact⟨b.below hb b.lt,e.below hb,⟨f,g,c.below hb c.lt⟩,d.trans (hb.mono d.size)⟩
def pQ (ns:List Int) (j:Nat):Array Value:=((ns.take j).map (Value.int .i64)++List.replicate (6-j) (VI 0)).toArray
variable {ns:List Int}
theorem IA {x:Int} (c:ns.length=6) (a:ns[j]?=some x):(pQ ns j).setIfInBounds j (VI x)=pQ ns (j+1):=by
 (have d:j<6:=by rcases bk j 6 with h|h;exact h;rw[bw ab]at a;cases a);have b:((ns.take j).map (Value.int .i64)).length=j:=ah;have e:6-j=6-(j+1)+1:=ab;unfold pQ;rw[aP,bE _ _ ab,b,dA,e,dY,bn,bH,a];simp
theorem IB (b:ns.length=6) (c:j<6):(pQ ns j)[j]?=some (VI 0):=by
 have a:((ns.take j).map (Value.int .i64)).length=j:=ah;have e:6-j=6-(j+1)+1:=ab;unfold pQ;rw[aJ,aR ab,a,dA,e,dY];rfl
theorem IC (a:ns.length=6):pQ ns 6=(ns.map (Value.int .i64)).toArray:=by
 unfold pQ;rw[bB ab];simp
theorem xp (T:Lib.PrintTabs) (k:Nat) (r:Rec) (b:r.right=true) (s:ByteArray) (hs:s.size<=1000) (w:World) (hK:kQ T w) (hk:k<1000) (rest:ByteArray)
 (hp:(pieces s).map (·.data.toList)=iG k r++[rest.data.toList]) (h7:(pieces s).length=7) (N:min 7 (s.size+1)=7) (bl:rest.size<=1000)
 (hC:(s.data.toList≠text T k r/\Lib.lastIndexByte rest 32 = -1) \/
   (s.data.toList≠text T k r/\∃(q:Nat) (C:List oq.Tok),Lib.lastIndexByte rest 32=q/\q<=rest.size/\lx.sJ (rest.extract 0 q) C []) \/
   (∃(q:Nat) (C:List oq.Tok),Lib.lastIndexByte rest 32=q/\q<=rest.size/\lx.sJ (rest.extract 0 q) C [34]/\C.flatMap oq.Tok.val=r.data)) :
 Calls Tryz.prog 81 #[VI k,.string s] w (uq T k r s w):=by
 obtain⟨m,hm⟩:=hK.mx;have hl:=pP hm;have I:=Az s ab (w.alloc (.cells zeroCells 124)) m ((World.cell?_alloc_old _ _ _ (Nat.ne_of_lt hl)).trans hm);obtain⟨xs,WO⟩:=nm (pieces s);rw[h7,N,<- WO]at I;rw[<- WO]at hp h7;(have QH:Lib.cellsOf xs 7=(xs.map Value.string).toArray:=by have:=Lib.cellsOf_full xs;rw[h7]at this;exact this);rw[QH]at I;obtain⟨O,A⟩:=nm ((xs.map Value.string).toArray);rw[<- A]at I;obtain⟨ns,P⟩:=nm ([(k:Int),r.eI,r.eK,r.eF,r.fJ,r.eS]:List Int);have Z7:ns.length=6:=by rw[P];rfl
 have TG:∀x∈ns,-1<=x/\x<=1099511627776:=by
  have b:=pO b;have:=b.c0;have:=b.c1;have:=b.n0;have:=b.n1;have:=b.o0;have:=b.o1;have:=b.v0;have:=b.v1;have:=b.e0;have:=b.e1;intro x f;rw[P]at f;simp only[aH,bq,or_false]at f;rcases f with rfl|rfl|rfl|rfl|rfl|rfl<;>omega
 have Q:∀(j:Nat) x,ns[j]?=some x->∃z:ByteArray,O[j]?=some (.string z)/\z.data.toList=Lib.itoa x:=by
  intro j x f;(have hj:j<6:=by rcases bk j 6 with h|h;exact h;rw[bw ab]at f;cases f);have e:iG k r=ns.map Lib.itoa:=by rw[P];rfl
  have a:(xs.map (·.data.toList))[j]?=some (Lib.itoa x):=by
   rw[hp,e,ba ah,br,f];rfl
  rw[br]at a
  cases hz:xs[j]? with
  |none=>rw[hz]at a;cases a
  |some z =>
   rw[hz]at a;exact⟨z,by rw[A];simp[hz],by simpa using a⟩
 have Ur:O[6]?=some (.string rest):=by
  (have a:(xs.map (·.data.toList))[6]?=some rest.data.toList:=by rw[hp];rfl);rw[br]at a
  cases hz:xs[6]? with
  |none=>rw[hz]at a;cases a
  |some z =>
   rw[hz]at a;have:z=rest:=Ar (by simpa using a);rw[A];simp[hz,this]
 have HR:=Hd b;have HK:=Hd hK;have Xo:=Hd P;have VZ:=Hd TG;have al:=Hd Q;have Xr:=Hd Ur;have HC:=Hd hC;clear b hK P TG Q Ur hC hp h7 N WO QH A;unfold zeroCells mq at I;(go_enter Tryz.func81,Tryz.ntmps81);(go_wp2_with (go_at_call 109;refine I.mono ?_;rintro e w1 ⟨rfl,rfl⟩;clear I));obtain⟨u,D⟩:=nm (#[VI 0,VI 0,VI 0,VI 0,.string ⟨#[]⟩,VI 0]:Array Value);rw[<- D];have E:=Hd D;clear D;go_loopw [19] (fun F wr=>∃(j:Nat),j<=6/\F=VI j/\Has wr w.heap.size (.cells u 124)/\Has wr (w.heap.size+1) (.cells O 9)/\Has wr (w.heap.size+1+1) (.cells (pQ ns j) 176)/\BB w wr) (fun F _=>6-(intOf F).toNat)
 case atStart =>
  have h1:=Has.new w (.cells u 124);have h2:=Has.new (w.alloc (.cells u 124)) (.cells O 9);have h3:=Has.new ((w.alloc (.cells u 124)).alloc (.cells O 9)) (.cells #[VI 0,VI 0,VI 0,VI 0,VI 0,VI 0] 176);rw[World.size_alloc]at h2;rw[World.size_alloc,World.size_alloc]at h3;exact⟨0,ab,rfl,(h1.alloc _).alloc _,h2.alloc _,h3,(((Below.refl _ _).alloc (ax _) _).alloc ae _).alloc ah _⟩
 case round =>
  obtain⟨j,hj,rfl,J,G,H,hb⟩:=hrel;by_cases Pw:j<6
  ·obtain⟨x,f⟩:∃x,ns[j]?=some x:=⟨_,ay ab⟩;obtain⟨z,PU,Qf⟩:=al.o j x f;(have hc:wr.cell? ⟨w.heap.size+1,j,none⟩=some (.string z):=by rw[G.cell];exact PU);have V2:=VZ.o x (aT f);have Rh:(j:Int)<6:=ab;have AT:=Iw x V2.1 V2.2 z Qf wr;have Qj:=Hd J;have Qu:=Hd G;have R9:=Hd H;have HB:=Hd hb;have HX:=Hd f;clear f PU Qf J G H hb V2;(go_wp2_with (go_at_call 110;refine AT.mono ?_;rintro e w1 ⟨rfl,Pu⟩;clear AT;have b1:w1.cell? ⟨w.heap.size+1+1,j,none⟩=some (VI 0):=(by rw[(R9.o.below Pu R9.o.lt).cell];exact IB Z7 Pw);have b2:=(R9.o.below Pu R9.o.lt).frozen j));go_roundw
   case rel =>
    refine⟨j+1,ab,by go_num,(Qj.o.below Pu Qj.o.lt).jv (by show w.heap.size≠w.heap.size+1+1;omega) _,(Qu.o.below Pu Qu.o.lt).jv (by show w.heap.size+1≠w.heap.size+1+1;omega) _,?_,(HB.o.trans (Pu.mono HB.o.size)).setCell (by show w.heap.size<=w.heap.size+1+1;omega) _⟩;rw[<- IA Z7 HX.o];exact (R9.o.below Pu R9.o.lt).fQ j _
   case measure=>simp[intOf];omega
  (obtain rfl:j=6:=by omega);rw[IC Z7]at H;(have Ur:wr.cell? ⟨w.heap.size+1,6,none⟩=some (.string rest):=by rw[G.cell];exact Xr.o);have B:=Iv rest ab wr;have c:kQ T wr:=HK.o.below hb;obtain⟨ty,ev,R⟩:=c.err;have S:=c.As;have Qj:=Hd J;have R9:=Hd H;have HB:=Hd hb;have b3:=Hd c;rcases HC.o with⟨U,a⟩|⟨U,q,C,a,Xn,V⟩|⟨q,C,a,Xn,V,hv⟩
  ·rw[a]at B;have R8:=Hd U;clear U a J G H hb c R S;(have n:u.size=6:=by rw[E.o];rfl);(have c0:∀i,i<6->∃v,CC wr w.heap.size i v:=fun i hi=>by show ∃v,World.cell? _ _=some v;rw[Qj.o.cell];exact⟨_,dw ab⟩);obtain⟨v0,z0⟩:=c0 0 ab;obtain⟨v1,z1⟩:=c0 1 ab;obtain⟨v2,z2⟩:=c0 2 ab;obtain⟨v3,z3⟩:=c0 3 ab;obtain⟨v4,z4⟩:=c0 4 ab;obtain⟨v5,z5⟩:=c0 5 ab;have f0:=Qj.o.frozen 0;have f1:=Qj.o.frozen 1;have f2:=Qj.o.frozen 2;have f3:=Qj.o.frozen 3;have f4:=Qj.o.frozen 4;have f5:=Qj.o.frozen 5;clear c0
   go_wp2_with (first
    |(go_at_call 111;refine B.mono ?_;rintro e w1 ⟨rfl,rfl⟩;clear B))
   exact ur (g:=w.heap.size) (r':=Ay) (ok:=false) rfl rfl rfl (AA Qj.o n _ _ _ _ _ _) (AB HB.o (ax _) _ _ _ _ _ _) (decide_eq_false R8.o).symm (fun h=>by cases h)
  ·rw[a]at B;have R8:=Hd U;have L:=lx.Iu _ C V _ wr S R;have d0:decide ((q:Int)<0)=false:=decide_eq_false ab;have an:(q:Int)<=rest.size:=ab;clear U a J G H hb c R S V
   go_wp2_with (first
    |(go_at_call 111;refine B.mono ?_;rintro e w1 ⟨rfl,rfl⟩;clear B)
    | (go_at_call 112;refine L.mono ?_;rintro e w1 ⟨rfl,Pu⟩;clear L
       refine acs ?_;intro H3 k1 k2 k3 k4 k5 H1
       clear H3))
   have n:u.size=6:=by rw[E.o];rfl
   obtain⟨W,t⟩:=nm (w1.alloc (.cells #[VI r.eI,VI r.eK,VI r.eF,VI r.fJ,.string ⟨#[]⟩,VI r.eS] 124))
   have y:Has W w1.heap.size (.cells #[VI r.eI,VI r.eK,VI r.eF,VI r.fJ,.string ⟨#[]⟩,VI r.eS] 124):=by rw[t];exact Has.new _ _
   have l:Has W w.heap.size (.cells u 124):=by rw[t];exact H1.o.alloc _
   have M:BB w W:=by rw[t];exact (HB.o.trans (Pu.mono HB.o.size)).alloc (aB HB.o.size Pu.size) _
   rw[<- t]
   clear t
   have c0:∀i,i<6->∃v,CC W w.heap.size i v:=fun i hi=>by show ∃v,World.cell? _ _=some v;rw[l.cell];exact⟨_,dw ab⟩
   obtain⟨v0,z0⟩:=c0 0 ab
   obtain⟨v1,z1⟩:=c0 1 ab
   obtain⟨v2,z2⟩:=c0 2 ab
   obtain⟨v3,z3⟩:=c0 3 ab
   obtain⟨v4,z4⟩:=c0 4 ab
   obtain⟨v5,z5⟩:=c0 5 ab
   have f0:=l.frozen 0
   have f1:=l.frozen 1
   have f2:=l.frozen 2
   have f3:=l.frozen 3
   have f4:=l.frozen 4
   have f5:=l.frozen 5
   have aq:=y.cell 0
   have ar:=y.cell 1
   have au:=y.cell 2
   have a1:=y.cell 3
   have a6:=y.cell 4
   have a7:=y.cell 5
   simp only[aJ,aM,aO]at aq ar au a1 a6 a7
   have HA:=Hd l
   have RG:=Hd M
   clear l M y c0
   go_region
   go_wp2;refine ur (g:=w.heap.size) (r':=⟨r.eI,r.eK,r.eF,r.fJ,[],r.eS⟩) (ok:=false) rfl rfl rfl ?_ ?_ (decide_eq_false R8.o).symm (fun h=>by cases h)
   ·exact xm (AA HA.o n _ _ _ _ _ _)
   exact (AB RG.o (ax _) _ _ _ _ _ _).drew
  rw[a]at B;have L:=lx.Is _ C V _ wr S R;rw[hv]at L;have d0:decide ((q:Int)<0)=false:=decide_eq_false ab;have an:(q:Int)<=rest.size:=ab;clear a J G H hb c R S V hv
  go_wp2_with (first
   |(go_at_call 111;refine B.mono ?_;rintro e w1 ⟨rfl,rfl⟩;clear B)
   | (go_at_call 112;refine L.mono ?_;rintro e w1 ⟨rfl,Pu⟩;clear L
      refine acs ?_;intro H3 k1 k2 k3 k4 k5 H1
      clear H3))
  (have n:u.size=6:=by rw[E.o];rfl);obtain⟨W,t⟩:=nm (w1.alloc (.cells #[VI r.eI,VI r.eK,VI r.eF,VI r.fJ,.string ⟨r.data.toArray⟩,VI r.eS] 124));(have y:Has W w1.heap.size (.cells #[VI r.eI,VI r.eK,VI r.eF,VI r.fJ,.string ⟨r.data.toArray⟩,VI r.eS] 124):=by rw[t];exact Has.new _ _);(have l:Has W w.heap.size (.cells u 124):=by rw[t];exact H1.o.alloc _);(have M:BB w W:=by rw[t];exact (HB.o.trans (Pu.mono HB.o.size)).alloc (aB HB.o.size Pu.size) _);rw[<- t];clear t;have X:kQ T W:=HK.o.below M;have HS:Hy (PS T w w1.heap.size r W.drew):=Hd ⟨xm y,X.below (Below.refl _ _).drew,⟨u,n,xm l⟩,M.drew⟩;have RA:=lH r (by have:=(pO HR.o).d1;omega) W.drew;rw[HR.o]at RA;clear y X l M H1 k1 k2 k3 k4 k5;refine last.head (PS T w w1.heap.size r) 15 16 ?_;refine last.many [(0,61,_),(1,62,_),(2,63,_),(3,64,_),(4,65,_)] HS.o ?_ (hy:=fun W' d=>by have e0:=d.1.cell 0;have e1:=d.1.cell 1;have Y:=d.1.cell 2;have e3:=d.1.cell 3;have e4:=d.1.cell 4;have e5:=d.1.cell 5;simp only[aJ,aM,aO]at e0 e1 Y e3 e4 e5;repeat (first|exact .z|refine .s ?_|refine .k ?_));refine last.one 5 fun K hK=>?_;go_simp;refine RA.mono ?_;rintro e W2 ⟨rfl,Px⟩;have Qw:=Hd (HS.o.below Px);refine hK.out _ _ (fun _=>Qw.o) ?_;clear hK K RA;refine last.many [(6,67,_),(7,68,_),(8,69,_),(9,70,_),(11,72,_)] Qw.o ?_ (hy:=fun W' d=>by have e0:=d.1.cell 0;have e1:=d.1.cell 1;have Y:=d.1.cell 2;have e3:=d.1.cell 3;have e4:=d.1.cell 4;have e5:=d.1.cell 5;simp only[aJ,aM,aO]at e0 e1 Y e3 e4 e5;repeat (first|exact .z|refine .s ?_|refine .k ?_));have TA:=xa T k hk r (pO HR.o) W2 Qw.o.2.1;obtain⟨tx,Vz⟩:=nm (⟨(text T k r).toArray⟩:ByteArray);rw[<- Vz]at TA;have bb:=Hd Vz;clear Vz;refine last.one 10 fun K hK=>?_;go_simp;refine TA.mono ?_;rintro e W3 ⟨rfl,Qp⟩;have Z:=Hd (Qw.o.below Qp);refine hK.out _ _ (fun _=>Z.o) ?_;clear hK K TA;refine last.many [(12,73,_),(13,74,_)] Z.o ?_;obtain⟨bg,bj,aa⟩:=Z.o.2.2.1;refine last.one 14 fun K hK=>?_;refine wp_store_row 124 (.tmp 4) (.tmp 61) rfl w.heap.size #[VI r.eI,VI r.eK,VI r.eF,VI r.fJ,.string ⟨r.data.toArray⟩,VI r.eS] rfl rfl 124 bg aa af bj af ?_;have Qh:BB w (W3.setRow w.heap.size #[VI r.eI,VI r.eK,VI r.eF,VI r.fJ,.string ⟨r.data.toArray⟩,VI r.eS]):=below_setRow Z.o.2.2.2 (ax _) _;have ad:=aa.setRow #[VI r.eI,VI r.eK,VI r.eF,VI r.fJ,.string ⟨r.data.toArray⟩,VI r.eS];refine hK.out _ _ (fun _=>⟨Z.o.1.sy (by have:=HB.o.size;have:=Pu.size;have:=Qj.o.lt;omega) _,HK.o.below Qh,⟨_,rfl,ad⟩,Qh⟩) ?_;clear hK K;refine last.one 15 fun K hK=>?_;go_simp;refine hK.out _ _ (fun h=>absurd rfl h) ?_;refine last.done ?_;go_wp2;refine ur (g:=w.heap.size) (r':=r) (ok:=tx.toList==s.toList) rfl rfl rfl ad Qh ?_ (fun _=>rfl);(have e1:tx.toList=text T k r:=by rw[Lib.toList_data,bb.o]);have Y:s.toList=s.data.toList:=Lib.toList_data s;rw[e1,Y];by_cases he:s.data.toList=text T k r
  ·rw[he];simp
  rw[decide_eq_false he];exact beq_eq_false_iff_ne.2 (fun e=>he e.symm)
end fF
namespace fF
open Go.RowKit heap own eG gC
open eY (Rec)
theorem AJ (T:Lib.PrintTabs) (k:Nat) (i:k<1000) (r:Rec) (g:r.right=true) (s:ByteArray) (o:s.data.toList <+: text T k r) (w:World) (hK:kQ T w) :
 Calls Tryz.prog 81 #[VI k,.string s] w (uq T k r s w):=by
 have p:s.data.toList.length=s.size:=rfl
 have hs:s.size<=1000:=by
  have t:=o.length_le;have u:=wW T k r ab ab (pO g);omega
 have small:∀rest:ByteArray,Lib.splitK [32] 0 6 s.data.toList=iG k r++[rest.data.toList]->rest.size<=1000:=fun rest h=>by
  have:=(ui 6 s.data.toList).2 rest.data.toList (by rw[h];simp);have e:rest.data.toList.length=rest.size:=rfl;omega
 have j:∀rest:ByteArray,(iG k r++[rest.data.toList]).length=7:=fun _=>rfl
 cases Hx T k r _ o with
 |gz a h=>exact Iy T k r s hs a w hK (Hz h)
 |bare a rest h b =>
  obtain⟨c,d,f⟩:=wX h (j rest);exact xp T k r g s hs w hK i rest c d f (small rest h) (.inl ⟨a,b⟩)
 |gy a rest q l h b m ht e =>
  obtain⟨c,d,f⟩:=wX h (j rest);have n:=small rest h;exact xp T k r g s hs w hK i rest c d f n (.inr (.inl ⟨a,q,l,b,m,⟨by rw[Lib.extract_from_zero];exact e,ht,ah⟩⟩))
 |whole rest q l h b m ht e hv =>
  obtain⟨c,d,f⟩:=wX h (j rest);have n:=small rest h;exact xp T k r g s hs w hK i rest c d f n (.inr (.inr ⟨q,l,b,m,⟨by rw[Lib.extract_from_zero];exact e,ht,ah⟩,hv⟩))
structure mR (T:Lib.PrintTabs) (ps:List ByteArray) (l:List Rec):Prop where
 len:l.length<=200
 right:∀r∈l,r.right=true
 there:∀(k:Nat) r,l[k]?=some r->ps[k]?=some ⟨(text T k r).toArray⟩
 none:∀(k:Nat),l.length<=k->k<200->∃(s:ByteArray) (r:Rec),ps[k]?=some s/\r.right=true/\s.data.toList <+: text T k r/\s.data.toList≠text T k r
theorem IF:(⟨0,0,0,0,[],0⟩:Rec).right=true:=aj
theorem mR.new (T:Lib.PrintTabs):mR T (List.replicate 200 ⟨#[]⟩) []:=
 ⟨bR _,fun _ h=>(by cases h),fun _ _ h=>(by simp at h),fun k _ hk=>⟨⟨#[]⟩,⟨0,0,0,0,[],0⟩,by rw[bC,if_pos hk],IF,List.nil_prefix,fun e=>by
  have:=Ap T k ⟨0,0,0,0,[],0⟩;rw[<- e]at this
  exact absurd this (Nat.lt_irrefl _)⟩⟩
variable {T:Lib.PrintTabs} {ps:List ByteArray} {l:List Rec}
theorem mR.add (h:mR T ps l) (d:ps.length=200) (r:Rec) (b:r.right=true) (e:l.length<200) :
 mR T (ps.set l.length ⟨(text T l.length r).toArray⟩) (l++[r]):=by
 refine⟨ah,fun x a=>?_,fun k x hk=>?_,fun k h0 h1=>?_⟩
 ·rcases aN.1 a with a|a
  ·exact h.right x a
  rw[aD.1 a];exact b
 ·by_cases c:k<l.length
  ·rw[ba c]at hk;rw[a8 ab];exact h.there k x hk
  rw[aR ab]at hk
  cases hq:k-l.length with
  |zero =>
   rw[hq]at hk;(obtain rfl:r=x:=by simpa using hk);(obtain rfl:k=l.length:=by omega);rw[aS ab]
  |succ n=>rw[hq]at hk;simp at hk
 simp only[aE,aL,bJ]at h0;rw[a8 ab];exact h.none k ab h1
theorem mR.IG (h:mR T ps l) (f:ps.length=200) (r:Rec) (c:r.right=true) (g:l.length<200) (s:ByteArray)
 (d:s.data.toList <+: text T l.length r) (e:s.data.toList≠text T l.length r):mR T (ps.set l.length s) l:=by
 refine⟨h.len,h.right,fun k x a=>?_,fun k h0 h1=>?_⟩
 ·have b:k<l.length:=by
   rcases bk k l.length with h|h
   ·exact h
   rw[bw h]at a;cases a
  rw[a8 ab];exact h.there k x a
 by_cases b:k=l.length
 ·subst b;exact⟨s,r,aS ab,c,d,e⟩
 rw[a8 ab];exact h.none k h0 h1
end fF
namespace fF
open Go.RowKit heap own eG gC
open eY (Rec)
def nK (r:Rec):List Value:=[VI r.eI,VI r.eK,VI r.eF,VI r.fJ,.string ⟨r.data.toArray⟩,VI r.eS]
def lD (l:List Rec):List Value:=l.flatMap nK
theorem xq (x:Rec):∀u∈nK x,u.oneCell'=true:=by
 intro u hu;simp only[nK,aH,bq,or_false]at hu;rcases hu with rfl|rfl|rfl|rfl|rfl|rfl<;>rfl
theorem AK (l:List Rec):(lD l).length=l.length*6:=by
 induction l with
 |nil=>rfl
 |cons x l ih =>
  (have e:lD (x::l)=nK x++lD l:=by simp[lD]);rw[e,aE,ih,aL];show 6+_=_;omega
theorem IH (l:List Rec) (r:Rec):lD (l++[r])=lD l++nK r:=by simp[lD]
theorem xr:(Tryz.prog.info? 124).map (fun i=>(i.zero,i.size,i.bytes))=some (some (.agg #[VI 0,VI 0,VI 0,VI 0,.string ByteArray.empty,VI 0]),6,56):=af
structure kH (own:Nat->Nat) (T B:Nat) (w:World) (wb db:Nat) (v:Value) (eX:Bool) (l:List Rec):Prop where
 w_:Has w wb (.cells #[VP db 0,v,.bool eX] 144)
 row:Row own T w 124 6 v l.length (lD l)
 ow:own wb=T+1
 low:∀g,own g=T->B<=g
 lw:B<=wb
section
variable {own own1:Nat->Nat} {T B:Nat} {w w1:World} {wb db:Nat} {v:Value} {eX:Bool} {l:List Rec}
theorem kH.below {a:Nat} (h:kH own T B w wb db v eX l) (hb:Below a w w1) (b:w.heap.size<=a):kH own T B w1 wb db v eX l:=
 ⟨h.w_.below hb (aG h.w_.lt b),h.row.below (hb.mono b),h.ow,h.low,h.lw⟩
theorem kH.uw (h:kH own T B w wb db v eX l) (d:Bool):kH own T B (w.setCell ⟨wb,2,none⟩ (.bool d)) wb db v d l:=by
 refine⟨h.w_.fQ 2 _,?_,h.ow,h.low,h.lw⟩;refine⟨oa h.row.1 fun g a=>Below.heap_setCell _ _ _ _ ?_,h.row.2⟩;have:=h.row.2 g a;intro e;rw[show g=wb from e,h.ow]at this;omega
end
def II (own:Nat->Nat) (T B wb db:Nat) (eX:Bool) (l:List Rec) (w W:World):Prop:=
 ∃own1 v,Ext w own own1/\eJ (fun g=>g=wb\/own g=T) w W/\kH own1 T B W wb db v eX l
theorem AL {own:Nat->Nat} {T B wb db g f:Nat} {v:Value} {eX:Bool} {l:List Rec} {r:Rec} {w d:World} {ob:Obj} (h:kH own T B w wb db v eX l) (n:B<=w.heap.size)
 (o:d.ownsRow 0 124 6 (.slice (some ⟨g,0,none⟩) (l.length+1) f) (l.length+1) (lD l++nK r)) (j:(w.alloc ob).drew.grownBy d v.ownBlock) (q:v.ownBlock=some g\/g=w.heap.size+1) :
 II own T B wb db eX (l++[r]) w (d.setCell ⟨wb,1,none⟩ (.slice (some ⟨g,0,none⟩) (l.length+1) f)):=by
 have i:=h.w_.lt;have a:∀k,v.ownBlock=some k->k<w.heap.size/\own k=T:=fun k hk=>⟨h.row.lt k hk,h.row.2 k hk⟩;have m:own g=T/\g<w.heap.size\/g=w.heap.size+1:=q.imp (fun h=>⟨(a g h).2,(a g h).1⟩) (fun h=>h);have c:∀k,own k=T->k≠wb:=fun k hk e=>by rw[e,h.ow]at hk;omega
 have u:g≠wb:=by
  rcases m with b|b
  ·exact c g b.1
  omega
 refine⟨lh own w T,.slice (some ⟨g,0,none⟩) (l.length+1) f,Ext.new _ _ _,?_,?_,?_,?_,fun k hk=>?_,h.lw⟩
 ·exact (((eJ.refl _ w).alloc ob).drew.grown j (fun k hk=>.inr (.inr (a k hk).2))).setCell (p:=⟨wb,1,none⟩) (.inr (.inl rfl)) _
 ·have s:Has d wb (.cells #[VP db 0,v,.bool eX] 144):=by
   refine (j.block wb (by show wb<(w.alloc ob).heap.size;simp;omega) (fun e=>c wb (a wb e.symm).2 rfl)).trans ?_;exact (h.w_.alloc ob).drew
  exact s.fQ 1 _
 ·rw[aE,aQ,IH]
  refine⟨oa o fun k hk=>Below.heap_setCell _ _ _ _ (by
   (have:g=k:=by simpa[Value.ownBlock]using hk);show k≠wb
   omega),fun k hk=>?_⟩
  (obtain rfl:g=k:=by simpa[Value.ownBlock]using hk);rcases m with b|b
  ·rw[oY b.2];exact b.1
  exact sA ab
 ·rw[oY i];exact h.ow
 by_cases t:k<w.heap.size
 ·rw[oY t]at hk;exact h.low k hk
 omega
theorem AM (w:World):(w.alloc (.cells #[] 124)).ownsRow w.heap.size 124 6 (.slice (some ⟨w.heap.size,0,none⟩) 0 0) 0 []:=
 rq (l:=[]) (Has.new w _) (ax _) rfl (bR _)
theorem IJ {own:Nat->Nat} {T B wb db:Nat} {v:Value} {eX:Bool} {l:List Rec} (w:World) (h:kH own T B w wb db v eX l) :
 Calls Tryz.prog 88 #[VP wb 0] w fun e w'=>e=.returned (.bool eX)/\w=w':=by
 have c2:=h.w_.cell 2;simp only[aJ,aM,aO]at c2;clear h;(go_enter Tryz.func88,Tryz.ntmps88);go_wp2;go_ret;exact⟨rfl,rfl⟩
theorem IK {own:Nat->Nat} {T B wb db:Nat} {v:Value} {eX:Bool} {l:List Rec} (w:World) (h:kH own T B w wb db v eX l) (A:l.length<=200) :
 Calls Tryz.prog 59 #[VP wb 0] w fun e w'=>∃c,e=.returned c/\w'.ownsRow w.heap.size 124 6 c l.length (lD l)/\BB w w':=by
 obtain⟨i0,d,f,i,m⟩:=info_parts xr;have a:=Hd (And.intro d (And.intro f (And.intro i m)));have c1:=h.w_.cell 1;simp only[aJ,aM,aO]at c1;have C:=h.w_.lt;have H:=Hd h;rcases bQ l.length with h0|h0
 ·have hv:v=.slice none 0 0\/∃g cap,v=.slice (some ⟨g,0,none⟩) 0 cap:=by
   rcases h.row.1.2 with⟨e,-⟩|⟨g,cap,cur,e,-⟩
   ·exact .inl e
   exact .inr ⟨g,cap,by rw[e,h0]⟩
  have q:l=[]:=bc h0;clear h;subst q;rcases hv with rfl|⟨g,cap,rfl⟩
  all_goals
   (go_enter Tryz.func59,Tryz.ntmps59);go_wp2;go_ret;exact⟨_,rfl,AM w,(Below.refl _ _).alloc (ax _) _⟩
 obtain⟨g,cap,cur,rfl,-,b,D,E,F,n⟩:=h.row.shape h0;clear h;(go_enter Tryz.func59,Tryz.ntmps59);have r:=Hd (AM w);have HG:=Hd b;have H4:=Hd n;have G:=Has.lt (w:=w) b;clear b n f i m d;go_wp2_with (at_builtin;refine wpList_append_own _ rfl (.tmp 3) (.tmp 7) 121 rfl w.heap.size 124 i0 _ 6 56 Tryz.underlying121 a.o.1 a.o.2.1 a.o.2.2.1 a.o.2.2.2 rfl aj _ _ _ rfl r.o ⟨g,0,none⟩ l.length cap (lD l) rfl (AK l) ?c1 ?c2 ?c3 ?c4 ?c5 ?_)
 case c1 =>
  intro j u hj;(have Vd:j<l.length*6:=by rw[<- AK];rcases bk j (lD l).length with h|h;exact h;rw[bw h]at hj;cases hj);exact abE
 case c2 =>
  intro u hu;obtain⟨x,-,s⟩:=di.1 hu;exact xq x u s
 (case c3=>unfold maxLen;omega);(case c4=>omega);(case c5=>simp);intro v2 I t y _;go_wp2;go_ret
 exact⟨v2,rfl,t,((Below.refl _ _).alloc (ax _) _).grown y ae (fun k z=>by
  have:w.heap.size=k:=by simpa[Value.ownBlock]using z
  omega)⟩
def mu (P:Lib.PrintTabs) (B:Nat) (w:World):Prop:=∃w0:World,w0.heap.size=B/\kQ P w0/\Below B w0 w
variable {P:Lib.PrintTabs} {B wb box db:Nat} {w w' W:World}
theorem mu.pR (h:mu P B w):kQ P w:=by
 obtain⟨w0,rfl,a,hb⟩:=h;exact a.below hb
theorem mu.le (h:mu P B w):B<=w.heap.size:=by
 obtain⟨w0,a,b,hb⟩:=h;have:=hb.size;omega
theorem mu.below (h:mu P B w) (hb:Below B w w'):mu P B w':=by
 obtain⟨w0,a,b,c⟩:=h;exact⟨w0,a,b,c.trans hb⟩
variable {S:Nat->Prop}
theorem mu.fI (h:mu P B w) (ht:eJ S w w') (hs:∀g,S g->B<=g):mu P B w':=
 h.below (ht.oE h.le fun k b a=>by have:=hs k a;omega)
theorem iZ.fI {b:Nat} {ps:List ByteArray} {cut:Bool} {left:Int} (h:iZ w b ps cut left) (ht:eJ S w w') (a:¬S b):iZ w' b ps cut left:=⟨ht.has h.d_ a,h.hp⟩
def AS (wb box db:Nat) (v:Value) (eX:Bool) (r:Rec) (W:World):Prop:=
 Has W wb (.cells #[VP db 0,v,.bool eX] 144)/\Has W box (.cells #[VI r.eI,VI r.eK,VI r.eF,VI r.fJ,.string ⟨r.data.toArray⟩,VI r.eS] 124)
variable {v:Value} {eX:Bool} {r:Rec}
theorem AS.alloc (h:AS wb box db v eX r W) (o:Obj):AS wb box db v eX r (W.alloc o).drew:=⟨h.1.alloc o,h.2.alloc o⟩
theorem AS.grown {a:World} {row:Option Nat} (h:AS wb box db v eX r W) (b:W.grownBy a row) (c:∀k,row=some k->k≠wb/\k≠box):AS wb box db v eX r a:=
 ⟨h.1.grown b (fun e=>(c wb e.symm).1 rfl),h.2.grown b (fun e=>(c box e.symm).2 rfl)⟩
theorem AN (r:Rec):∀(j:Nat) (x:Value),(nK r)[j]?=some x->(w.alloc (.cells #[VI r.eI,VI r.eK,VI r.eF,VI r.fJ,.string ⟨r.data.toArray⟩,VI r.eS] 124)).drew.cell? ((⟨w.heap.size,0,none⟩:Addr).add j)=some x:=by
 intro j x a;have h:=(Has.new w (.cells #[VI r.eI,VI r.eK,VI r.eF,VI r.fJ,.string ⟨r.data.toArray⟩,VI r.eS] 124)).cell j;(have e:(⟨w.heap.size,0,none⟩:Addr).add j=⟨w.heap.size,j,none⟩:=by by_cases h0:j=0<;>simp[Addr.add,h0]);rw[e];refine h.trans ?_;rw[<- a];simp[nK]
def IL (own:Nat->Nat) (T B:Nat) (w:World) (db:Nat) (l:List Rec) (e:Ending) (w':World):Prop:=
 ∃own1 wb v,e=.returned (.tuple #[VP wb 0,.nilIface])/\Ext w own own1/\eJ (fun g=>own g=T) w w'/\kH own1 T B w' wb db v false l/\w.heap.size<=wb
theorem IM (P:Lib.PrintTabs) (own:Nat->Nat) (T B:Nat) (w:World) (db:Nat) (ps:List ByteArray) (cut:Bool) (left:Int) (l:List Rec) (hK:mu P B w) (S:iZ w db ps cut left) (U:mR P ps l) (q:own db≠T) (Q1:∀g,own g=T->B<=g) :
 Calls Tryz.prog 57 #[VP db 0] w (IL own T B w db l):=by
 obtain⟨i0,P7,QC,PU,Qf⟩:=info_parts xr;have G:=Hd (And.intro P7 (And.intro QC (And.intro PU Qf)));have HK:=Hd hK;have HD:=Hd S;have V:=Hd U;have X:=Hd q;have t:=Hd Q1;have YE:=S.lt;have au:=U.len;have Y:=hK.le;clear P7 QC PU Qf hK S U q Q1;(go_enter Tryz.func57,Tryz.ntmps57);go_wp2;go_loopw [14] (fun Z wr=>∃(k:Nat) (own1:Nat->Nat) (v:Value),k<=l.length/\Z=VI k/\Ext w own own1/\kH own1 T B wr w.heap.size db v false (l.take k)/\eJ (fun g=>own g=T) w wr) (fun Z _=>200-(intOf Z).toNat)
 case atStart =>
  refine⟨0,fun k=>if k=w.heap.size then T+1 else own k,.slice none 0 0,ab,rfl,fun k hk=>ah,⟨?_,Row.nil _ _ _ _ _,ae,fun g hg=>?_,Y⟩,(eJ.refl _ _).alloc _⟩
  ·exact Has.new w _
  by_cases e:g=w.heap.size
  ·omega
  simp only[if_neg e]at hg;exact t.o g hg
 case round =>
  obtain⟨k,own1,v,hk,rfl,H,hw,ht⟩:=hrel;have I:=Hd ht;have J:=Hd H;have a1:=hw.w_.lt;have a:mu P B wr:=HK.o.fI ht t.o;have b:=HD.o.fI ht X.o;have a6:=Hd a;have aa:=a.le;by_cases PG:k<l.length
  ·obtain⟨r,L⟩:∃r,l[k]?=some r:=⟨_,ay PG⟩;have u:=V.o.right r (aT L);obtain⟨s,hs⟩:=nm (⟨(text P k r).toArray⟩:ByteArray);(have SW:s.data.toList=text P k r:=by rw[hs]);have hc:CC wr db k (.string s):=b.place k ab s (by rw[V.o.there k r L,hs]);have x:=AJ P k ab r u s (by rw[SW];exact List.prefix_refl _) wr a.pR;have QA:(k:Int)<200:=ab;have V7:=Hd SW;have HR:=Hd L;have YF:=Hd hw;obtain⟨f,M⟩:=nm (l.take k);(have hlen:f.length=k:=by rw[M,bV];omega);have ad:=Hd M;rw[<- M]at hw;have N:=Hd hw;clear hs SW L u a b H hw M ht;(go_wp2_with (go_at_call 81;refine x.mono ?_;rintro e c ⟨r',ok,rfl,m,y,A⟩;have n:ok=true:=(by rw[y];exact decide_eq_true V7.o);subst n;obtain rfl:r=r':=(A rfl).symm;clear y A x;unfold mr mq));obtain⟨W,O⟩:=nm (c.alloc (.cells #[VI r.eI,VI r.eK,VI r.eF,VI r.fJ,.string ⟨r.data.toArray⟩,VI r.eS] 124));have C:Hy (Has W c.heap.size (.cells #[VI r.eI,VI r.eK,VI r.eF,VI r.fJ,.string ⟨r.data.toArray⟩,VI r.eS] 124)):=Hd (by rw[O];exact Has.new _ _);have d:Hy (BB wr W):=Hd (by rw[O];exact m.alloc m.size _);have Q:Hy (kH own1 T B W w.heap.size db v false f):=Hd (N.o.below d.o (ax _));have RG:Hy (B<=W.heap.size):=Hd (aB aa d.o.size)
   have V8:Hy (∀k,v.ownBlock=some k->k≠w.heap.size/\k≠c.heap.size):=Hd fun k hk=>by
    have h1:=N.o.row.lt k hk;have h2:=N.o.row.2 k hk;have h3:=N.o.ow;have h4:=m.size;refine⟨fun e=>?_,ab⟩;rw[e,h3]at h2;omega
   rw[<- O]
   clear O m
   have HS:Hy (AS w.heap.size (c.heap.size) db v false r W.drew):=Hd ⟨Q.o.w_,C.o⟩
   have al:Hy ((W.alloc (.cells #[VI r.eI,VI r.eK,VI r.eF,VI r.fJ,.string ⟨r.data.toArray⟩,VI r.eS] 124)).drew.ownsRow 0 124 6 v f.length (lD f)):=Hd (Q.o.row.1.alloc _)
   have ZB:Hy ((W.alloc (.cells #[VI r.eI,VI r.eK,VI r.eF,VI r.fJ,.string ⟨r.data.toArray⟩,VI r.eS] 124)).drew.heap.size=W.heap.size+1):=Hd (World.size_alloc _ _)
   refine last.head (AS w.heap.size (c.heap.size) db v false r) 10 11 ?_
   refine last.many [(0,30,_),(1,31,_),(2,32,_),(3,33,_),(4,34,_),(5,35,_)] HS.o ?_ (hy:=fun W' p=>by have Sh:=p.1.cell 1;simp only[aJ,aM,aO]at Sh;have e0:=p.2.cell 0;have e1:=p.2.cell 1;have e2:=p.2.cell 2;have e3:=p.2.cell 3;have e4:=p.2.cell 4;have e5:=p.2.cell 5;simp only[aJ,aM,aO]at e0 e1 e2 e3 e4 e5;repeat (first|exact .z|refine .s ?_|refine .k ?_))
   refine last.one 6 fun K hK=>?_
   go_simp
   have Qw:Hy (AS w.heap.size (c.heap.size) db v false r (W.alloc (.cells #[VI r.eI,VI r.eK,VI r.eF,VI r.fJ,.string ⟨r.data.toArray⟩,VI r.eS] 124)).drew):=Hd (AS.alloc ⟨Q.o.w_,C.o⟩ _)
   refine hK.out _ _ (fun _=>Qw.o) ?_
   clear hK K
   refine last.wJ (i:=7) af (by simp only[aJ,aO,aM];exact rfl) fun K hK=>?_
   refine step_append_lies _ ai (.tmp 34) (.tmp 36) 121 ai 0 124 i0 _ 6 56 Tryz.underlying121 G.o.1 G.o.2.1 G.o.2.2.1 G.o.2.2.2 ai aj v f.length (lD f) ai al.o ⟨W.heap.size,0,none⟩ 1 1 (nK r) ai rfl (AN r) (xq r) ab ak ab ae (W.heap.size+1) ZB.o ?_
   intro g PL w4 P8 QJ QB YG
   have D:Hy (AS w.heap.size (c.heap.size) db v false r w4):=Hd (AS.grown Qw.o QJ V8.o)
   refine hK.out _ _ (fun _=>D.o) ?_
   have D4:=Hd (AL Q.o RG.o P8 QJ QB)
   clear hK K P8 QJ QB YG
   skip
   refine last.one 8 fun K hK=>?_;go_simp;refine hK.out _ _ (fun _=>D.o) ?_;clear hK K;refine last.one 9 fun K hK=>?_;go_simp;refine hK.out _ _ (fun _=>D.o) ?_;clear hK K;refine last.one 10 fun K hK=>?_;have Sh:=D.o.1.cell 1;simp only[aJ,aM,aO]at Sh;have an:=D.o.1.frozen 1;go_simp;refine hK.out _ _ (fun h=>absurd rfl h) ?_;clear hK K Sh an;refine last.done ?_;(go_wp2_with fail);go_roundw
   case rel =>
    subst hlen;obtain⟨E,v2,VE,PK,P4⟩:=D4.o;have Q5:=d.o.size;have aq:=I.o.size;refine⟨f.length+1,E,v2,ab,by go_num,J.o.trans (fun j hj=>VE j ab) aq,?_,?_⟩
    ·rw[bH,HR.o,<- ad.o];exact P4
    refine (I.o.jl d.o (ax _)).trans PK (fun j hj R=>?_);rcases R with rfl|R
    ·omega
    rw[J.o j hj]at R;exact R
   case measure=>simp[intOf];omega
  (obtain rfl:k=l.length:=by omega);rw[bK]at hw;have YF:=Hd hw;by_cases QA:l.length<200
  ·obtain⟨s,r,hs,u,V9,PB⟩:=V.o.none l.length (ax _) QA;have hc:CC wr db l.length (.string s):=b.place _ QA s hs;have x:=AJ P l.length ab r u s V9 wr a.pR;have ar:(l.length:Int)<200:=ab;have R8:=Hd PB;clear hs V9 PB u a b H hw ht;(go_wp2_with (go_at_call 81;refine x.mono ?_;rintro e c ⟨r',ok,rfl,m,y,-⟩;have n:ok=false:=(by rw[y];exact decide_eq_false R8.o);subst n;clear y x;unfold mr mq));go_ret2;have F:∀o,BB wr (c.alloc o):=fun o=>m.alloc m.size o;exact⟨own1,w.heap.size,v,rfl,J.o,I.o.jl (F _) (ax _),YF.o.below (F _) (ax _),ax _⟩
  have ar:¬(l.length:Int)<200:=ab;clear a b H hw ht;(go_wp2_with fail);go_ret2;exact⟨own1,w.heap.size,v,rfl,J.o,I.o,YF.o,ax _⟩
end fF
end Go.Proofs.YtjhdaojclilakaaGreatDoor
