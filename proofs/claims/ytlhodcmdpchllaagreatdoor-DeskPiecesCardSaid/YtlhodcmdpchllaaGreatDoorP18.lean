/-
  A part of the proof of the law DeskPieces: WireRead, NetA, Net, NetB, NetS.
-/
import Derived.Laws.Shifts
import Derived.WalkLawsBesides
import Derived.WalkSpells
import Derived.Shelf.Bytes.SlSmallAll
import Derived.Laws.BitsAllLaws
import Derived.Laws.BitsLemmas
import Derived.Test.YtlhodcmdpchllaaGreatDoorRows
import Derived.Deep.RegionLaw
import Derived.Deep.AppendLies
import Derived.Deep.RegionHeld3
import Derived.Deep.DrawnRows
import Derived.Laws.ResultCell
import Derived.Test.YtlhodcmdpchllaaGreatDoorHd
import Derived.Test.YtlhodcmdpchllaaGreatDoorP13
set_option maxHeartbeats 16000000
set_option maxRecDepth 1000000
namespace Go.Proofs.YtlhodcmdpchllaaGreatDoor
namespace eK
open Go.RowKit heap
def RD (w:World) (bound:Nat) (A:Option Addr) (n:Nat) (l:List UInt8):Prop:=
 l.length=n/\(0<n->∃b off,A=some ⟨b,off,none⟩/\b<bound/\∀j c,l[j]?=some c->w.cell? ⟨b,off+j,none⟩=some (B c))
theorem RD.at_ {w:World} {bound n:Nat} {A:Option Addr} {l:List UInt8} (h:RD w bound A n l) (hn:0<n) :
 ∃b off,A=some ⟨b,off,none⟩/\b<bound/\∀j c,l[j]?=some c->w.cell? ⟨b,off+j,none⟩=some (B c):=h.2 hn
theorem RD.below {w w':World} {bound B' n:Nat} {A:Option Addr} {l:List UInt8} (h:RD w bound A n l) (hb:Below B' w w') (hB:bound<=B'):RD w' bound A n l:=
 ⟨h.1,fun hn=>by
  obtain⟨b,off,e,Kg,hc⟩:=h.2 hn
  exact⟨b,off,e,Kg,fun j c hj=>(hb.cell (p:=⟨b,off+j,none⟩) (by simp;omega)).trans (hc j c hj)⟩⟩
theorem RD.more {w:World} {bound SK n:Nat} {A:Option Addr} {l:List UInt8} (h:RD w bound A n l) (hb:bound<=SK):RD w SK A n l:=
 ⟨h.1,fun hn=>by
  obtain⟨b,off,e,Kg,hc⟩:=h.2 hn
  exact⟨b,off,e,by omega,hc⟩⟩
theorem RD.take {w:World} {bound n:Nat} {A:Option Addr} {l:List UInt8} (h:RD w bound A n l) {k:Nat} (hk:k<=n):RD w bound A k (l.take k):=
 ⟨by rw[bG,h.1];omega,fun hn=>by
  obtain⟨b,off,e,Kg,hc⟩:=h.2 (by omega);refine⟨b,off,e,Kg,fun j c hj=>hc j c ?_⟩
  have NU:j<k:=by
   have:=(ar.1 hj).1;simp only[bG]at this;omega
  rwa [List.getElem?_take_of_lt NU]at hj⟩
theorem RD.setCell {w:World} {bound n:Nat} {A:Option Addr} {l:List UInt8} (h:RD w bound A n l) {p:Addr} (hp:bound<=p.block) (u:Value):RD (w.setCell p u) bound A n l:=
 ⟨h.1,fun hn=>by
  obtain⟨b,off,e,Kg,hc⟩:=h.2 hn
  exact⟨b,off,e,Kg,fun j c hj=>(World.cell?_setCell_other w p ⟨b,off+j,none⟩ u (fun e=>by subst e;simp at hp;omega)).trans (hc j c hj)⟩⟩
theorem RD.drop {w:World} {bound n:Nat} {A:Option Addr} {l:List UInt8} (h:RD w bound A n l) {k cap:Nat} (hk:k<=n) (hc:n<=cap) :
 RD w bound (if cap=k then A else A.map (·.add k)) (n-k) (l.drop k):=by
 refine⟨by rw[bO,h.1],fun hn=>?_⟩;obtain⟨b,off,rfl,Kg,hcell⟩:=h.2 (by omega);rw[if_neg (by omega)];refine⟨b,off+k,?_,Kg,fun j c hj=>?_⟩
 ·by_cases h0:k=0<;>simp[Addr.add,h0]
 rw[dx]at hj;have:=hcell _ c hj;rwa [show off+k+j=off+(k+j) from by omega]
def jL (l:List Int):Array Value:=gE (l.getD 0 0) (l.getD 1 0) (l.getD 2 0) (l.getD 3 0) (l.getD 4 0) (l.getD 5 0) (l.getD 6 0) false ByteArray.empty
theorem EY (l:List Int) (k:Nat) (x:Int) (hk:k<7) (hl:l.length=k):(jL l).setIfInBounds k (.int .i64 x)=jL (l++[x]):=by
 match k,hk with
 |0,_=>obtain rfl:=aP hl;rfl
 |1,_=>match l,hl with|[a],_=>rfl
 |2,_=>match l,hl with|[a,b],_=>rfl
 |3,_=>match l,hl with|[a,b,c],_=>rfl
 |4,_=>match l,hl with|[a,b,c,d],_=>rfl
 |5,_=>match l,hl with|[a,b,c,d,e],_=>rfl
 |6,_=>match l,hl with|[a,b,c,d,e,f],_=>rfl
def km (bs:List UInt8) (l:List Int) (k:Nat) (rest:List UInt8):Prop:=
 lh 7 bs=match lh (7-k) rest with|none=>none|some (ns,r)=>some (l++ns,r)
theorem km.zero (bs:List UInt8):km bs [] 0 bs:=by
 unfold km;cases lh (7-0) bs<;>simp
def Part (bs:List UInt8) (j acc:Nat):Prop:=
 lC bs=match jc (6-j) (decide (j=0)) (bs.drop j)with|none=>none|some (n,r)=>some (acc+128^j*n,r)
theorem Part.zero (bs:List UInt8):Part bs 0 0:=by
 unfold Part lC;simp;cases jc 6 true bs<;>simp
theorem yd {w:World} {bound n cap:Nat} {A:Option Addr} {l:List UInt8} (h:RD w bound A n l) :
 (convert 32 9 (.slice A n cap)).run Tryz.prog w=.ok (.string ⟨l.toArray⟩) w:=by
 rcases bx n with h0|h0
 ·subst h0;have:=aP h.1;subst this;exact run_convert_bytes_zero w _ _ Tryz.underlying32 Tryz.underlying5 A cap _ Tryz.underlying9
 obtain⟨b,off,rfl,_,hc⟩:=h.2 h0;have hl:=h.1;subst hl;refine run_convert_bytes_back w _ _ _ ⟨b,off,none⟩ cap l Tryz.underlying32 Tryz.underlying5 Tryz.underlying9 (fun j hj=>?_);have:=hc j _ (ax hj);rw[show (⟨b,off,none⟩:Addr).add j=⟨b,off+j,none⟩ from by by_cases h0:j=0<;>simp[Addr.add,h0]];exact this
theorem EZ:∀n:Fin 256,bits BinOp.and IntKind.u8 (n.val:Int) 127=((n.val%128:Nat):Int):=by decide +kernel
theorem ye (a:Nat) (ha:a<9223372036854775808):(BitVec.ofInt 64 (a:Int)).toNat=a:=by
 rw[BitVec.ofInt_natCast,BitVec.toNat_ofNat];exact Nat.mod_eq_of_lt (by omega)
theorem E0 (a b:Nat) (ha:a<9223372036854775808) (hb:b<9223372036854775808):bits .or .i64 (a:Int) (b:Int)=((a ||| b:Nat):Int):=by
 have hx:a ||| b<2^63:=Nat.or_lt_two_pow (by omega) (by omega);show IntKind.i64.wrap ((BitVec.ofInt 64 (a:Int) ||| BitVec.ofInt 64 (b:Int)).toNat:Int)=_;rw[BitVec.toNat_or,ye a ha,ye b hb,IntKind.wrap_i64];omega
theorem E1 (j:Nat):(2:Nat)^(7*j)=128^j:=by rw[Nat.pow_mul]
theorem E2 (j:Nat) (h:j<6):128^j<=34359738368:=by
 have:128^j<=128^5:=Nat.pow_le_pow_right (by omega) (by omega);(have e:(128^5:Nat)=34359738368:=by decide);omega
theorem E3 (c:UInt8):bits BinOp.and IntKind.u8 (c.toNat:Int) 127=((c.toNat%128:Nat):Int):=by
 have h:=c.toNat_lt;exact EZ ⟨c.toNat,h⟩
theorem wrap_small (n:Nat) (h:n<=4611686018427387904):wrap64 (n:Int)=n:=by rw[IntWalk.wrap64_in];omega
theorem E4 (acc p j x:Nat) (hp:p=2^(7*j)) (ha:acc<p):acc ||| x*p=acc+p*x:=by
 subst hp;have e3:=Nat.two_pow_add_eq_or_of_lt (i:=7*j) (b:=acc) ha x;rw[Nat.mul_comm x,Nat.or_comm,<- e3,cT]
theorem E5 (j:Nat):(2:Int)^(7*j)=((2^(7*j):Nat):Int):=by simp
theorem E6 (acc j:Nat) (c:UInt8) (hj:j<6) (ha:acc<128^j) :
 bits BinOp.or IntKind.i64 (acc:Int) (wrap64 (wrap64 (bits BinOp.and IntKind.u8 (c.toNat:Int) 127)*2^(7*j)))=((acc+128^j*(c.toNat%128):Nat):Int):=by
 have h2:=E2 j hj;have hx:c.toNat%128<128:=Nat.mod_lt _ (by omega);rw[E3];generalize c.toNat%128=x at hx⊢;have hp:=E1 j;rw[E5,hp];have hp':128^j=2^(7*j):=hp.symm;clear hp;generalize 128^j=p at *;have h3:x*p<=127*34359738368:=Nat.mul_le_mul (by omega) h2;rw[wrap_small x (by omega),<- Int.natCast_mul,wrap_small (x*p) (by omega),E0 _ _ (by omega) (by omega),E4 acc p j x hp' ha]
theorem E7 (acc j:Nat) (c:UInt8) (ha:acc<128^j):acc+128^j*(c.toNat%128)<128^(j+1):=by
 have h:128^j*(c.toNat%128)<=128^j*127:=Nat.mul_le_mul_left _ (by omega);rw[cf];omega
theorem drop_cons (bs:List UInt8) (j:Nat) (c:UInt8) (h:bs[j]?=some c):bs.drop j=c::bs.drop (j+1):=by
 obtain⟨hj,rfl⟩:=ar.1 h;exact bX hj
theorem Part.more {bs:List UInt8} {j acc:Nat} {c:UInt8} (h:Part bs j acc) (hj:j<6) (hc:bs[j]?=some c) (Un:¬c.toNat<128):Part bs (j+1) (acc+128^j*(c.toNat%128)):=by
 unfold Part at h⊢;rw[h,drop_cons bs j c hc];(have e:6-j=(6-(j+1))+1:=by omega);rw[e];simp only[jc];rw[if_neg Un,show decide (j+1=0)=false from rfl]
 cases jc (6-(j+1)) false (bs.drop (j+1))with
 |none=>rfl
 |some p =>
  simp only[bq,cM,and_true];rw[cf,Nat.mul_add,<- Nat.add_assoc,Nat.mul_assoc]
theorem Part.done {bs:List UInt8} {j acc:Nat} {c:UInt8} (h:Part bs j acc) (hj:j<6) (hc:bs[j]?=some c) (Un:c.toNat<128) (h0:¬(c.toNat=0/\0<j)) :
 lC bs=some (acc+128^j*(c.toNat%128),bs.drop (j+1)):=by
 unfold Part at h;rw[h,drop_cons bs j c hc];(have e:6-j=(6-(j+1))+1:=by omega);rw[e];simp only[jc];rw[if_pos Un,if_neg (by simp;omega)];simp only[Nat.mod_eq_of_lt Un]
theorem Part.bad {bs:List UInt8} {j acc:Nat} {c:UInt8} (h:Part bs j acc) (hj:j<6) (hc:bs[j]?=some c) (h0:c.toNat=0) (hp:0<j):lC bs=none:=by
 unfold Part at h;rw[h,drop_cons bs j c hc];(have e:6-j=(6-(j+1))+1:=by omega);rw[e];simp only[jc];rw[if_pos (by omega),if_pos (by simp;omega)]
theorem Part.short {bs:List UInt8} {j acc:Nat} (h:Part bs j acc) (hj:6<=j\/bs.length<=j):lC bs=none:=by
 unfold Part at h;rw[h];rcases aW j 6 with h6|h6
 ·(have e:6-j=(6-(j+1))+1:=by omega);rw[e,List.drop_eq_nil_of_le (by omega)];simp[jc]
 rw[show 6-j=0 from by omega];simp[jc]
theorem km.step {bs rest r:List UInt8} {l:List Int} {k x:Nat} (h:km bs l k rest) (hk:k<7) (hx:lC rest=some (x,r)):km bs (l++[(x:Int)]) (k+1) r:=by
 unfold km at h⊢;rw[h,show 7-k=(7-(k+1))+1 from by omega];simp only[lh,hx];cases lh (7-(k+1)) r<;>simp
theorem km.none_ {bs rest:List UInt8} {l:List Int} {k:Nat} (h:km bs l k rest) (hk:k<7) (hx:lC rest=none):kt bs=none:=by
 unfold km at h;unfold kt;rw[h,show 7-k=(7-(k+1))+1 from by omega];simp only[lh,hx]
theorem km.end_ {bs rest:List UInt8} {l:List Int} (h:km bs l 7 rest):kt bs=mC l rest:=by
 unfold km at h;unfold kt;rw[h];simp[lh]
end eK
namespace dM
open Go.RowKit heap own eK
theorem l4 {w:World} {a:Addr} {v:Value} (h:w.cell? a=some v):a.block<w.heap.size:=by
 exact Lt h
theorem E8 (A:Option Addr) (n cap:Nat) (bs:List UInt8) (w:World) (NA:RD w w.heap.size A n bs) (Uo:n<=cap) (hn:n<=140737488355328) :
 Calls Tryz.prog 179 #[.slice A n cap] w fun e w'=>∃v,e=.returned v/\w'.ownsRow w.heap.size 5 1 v n (bs.map B)/\Below w.heap.size w w':=by
 obtain⟨i0,KO,La,KH,KD⟩:=info_parts xY;have hnil:=fun (w:World) (a:Option Addr) (n c:Nat)=>Lib.run_eql_slice_nil (P:=Tryz.prog) w 32 5 a n c 0 0 Tryz.underlying32
 cases A with
 |none =>
  obtain rfl:n=0:=by
   rcases bx n with h|h
   ·exact h
   obtain⟨_,_,e,_⟩:=NA.2 h;cases e
  have hb:bs=[]:=aP NA.1;have HB:=Hd hb;clear hb NA;(go_enter Tryz.func179,Tryz.ntmps179);(go_wp2_with fail);go_ret;exact⟨_,rfl,by rw[HB.o];exact⟨rfl,.inl ⟨rfl,rfl⟩⟩,Below.refl _ _⟩
 |some ad =>
  have Oe:=Hd NA;have hl:=Hd NA.1
  have Po:Hy (∀(j:Nat) (u:Value),(bs.map B)[j]?=some u->w.cell? (ad.add j)=some u):=by
   intro j u hj;rw[aY]at hj
   cases hb:bs[j]? with
   |none=>rw[hb]at hj;cases hj
   |some c =>
    rw[hb]at hj;obtain rfl:=aw hj;have Kg:=(ar.1 hb).1;obtain⟨b,off,e,_,hc⟩:=NA.2 (by rw[<- NA.1];omega);obtain rfl:=aw e;rw[show (⟨b,off,none⟩:Addr).add j=⟨b,off+j,none⟩ from by by_cases h0:j=0<;>simp[Addr.add,h0]];exact hc j c hb
  clear NA;(go_enter Tryz.func179,Tryz.ntmps179);have Km:Hy ((w.alloc (.cells #[] 5)).ownsRow w.heap.size 5 1 (.slice (some ⟨w.heap.size,0,none⟩) 0 0) 0 []):=qD (l:=[]) (Has.new w (.cells #[] 5)) (aq _) rfl (bP _);(go_wp2_with (at_builtin;refine wpList_append_own _ rfl (.tmp 5) (.tmp 6) 32 rfl w.heap.size 5 i0 (.int .u8 0) 1 1 Tryz.underlying32 KO La KH KD rfl (by decide) _ _ _ rfl Km.o ad n cap (bs.map B) rfl ?c0 ?c1 ?c2 ?c3 ?c4 ?c5 ?_));case c0=>rw[aS,hl.o,Nat.mul_one]
  case c1 =>
   intro j u hj;have:=Po.o j u hj;have Kg:=(l4 this);rw[World.cell?_alloc_lt _ _ _ Kg];exact this
  (case c2=>exact pX _);(case c3=>unfold maxLen;omega);(case c4=>omega);(case c5=>simp);intro v w2 Kt hg _;have HO:=Hd Kt;have hb:Below w.heap.size w w2:=((Below.refl _ _).alloc (aq _) _).grown hg (by simp) (fun k hk=>by cases hk;exact aq _);clear Kt hg;go_wp2;go_ret;exact⟨_,rfl,HO.o,hb⟩
def mO:List Value:=[.int .i64 0,.slice none 0 0]
theorem E9:(Builtin.zeroCells (Value.agg #[.int .i64 0,.slice none 0 0]).cells 1).toList=mO:=by kernel_rfl
theorem Fa:∀v∈mO,v.oneCell'=true:=by simp[mO,Value.oneCell']
theorem yg:(Tryz.prog.info? 186).map (fun i=>(i.zero,i.size,i.bytes))=some (some (.agg #[.int .i64 0,.slice none 0 0]),2,32):=by kernel_rfl
theorem Fb (w:World):(zeroValue 186).run Tryz.prog w=.ok (.agg #[.int .i64 0,.slice none 0 0]) w:=by kernel_rfl
theorem Fc (own:Nat->Nat) (T:Nat) (v:Value) (n k:Nat) (xs:List Value) (w:World) (h:Row own T w 186 2 v n xs) (hk:k<n) (Qp:∀u∈xs,u.oneCell'=true) :
 Calls Tryz.prog 154 #[v,.int .i64 k,.int .i64 ((k:Int)+1)] w fun e w'=>∃v',e=.returned v'/\v'.ownBlock=v.ownBlock/\Row own T w' 186 2 v' (n-1) (cut 2 k xs)/\dD (fun g=>v.ownBlock=some g) w w':=by
 obtain⟨i0,KO,La,KH,KD⟩:=info_parts yg;obtain⟨g,cap,cur,rfl,ho,hh,Sy,Oa,LN,hcx⟩:=h.shape (by omega);have LK:xs.length=n*2:=h.1.1;have HX:=Hd LK;have HC:=Hd (vB (k:=k) (zs:=mO) ho hh.drew Sy Oa LN hcx hk rfl)
 have HT:Hy (dD (fun b=>(Value.slice (some ⟨g,0,none⟩) n cap).ownBlock=some b) w ((w.drew.setCells g (k*2) (xs.drop ((k+1)*2))).setCells g ((n-1)*2) mO)):=
  vy (S:=fun b=>(Value.slice (some ⟨g,0,none⟩) n cap).ownBlock=some b) rfl w _ _ _ _
 obtain⟨A,hA,Wt⟩:∃A:Addr,(if cap=k+1 then (some ⟨g,0,none⟩:Option Addr) else some ⟨g,(k+1)*2,none⟩)=some A/\Hy (∀t u,(xs.drop ((k+1)*2))[t]?=some u->w.drew.cell? (A.add t)=some u):=by
  by_cases h:cap=k+1
  ·refine⟨⟨g,0,none⟩,by simp[h],fun t u hu=>?_⟩;have:=(ar.1 hu).1;simp at this;omega
  refine⟨⟨g,(k+1)*2,none⟩,by simp[h],fun t u hu=>?_⟩;rw[dx]at hu;have Kg:=(ar.1 hu).1;have:=(ij hh hcx ((k+1)*2+t) (by omega)).1;rw[show (⟨g,(k+1)*2,none⟩:Addr).add t=⟨g,(k+1)*2+t,none⟩ from by by_cases h0:t=0<;>simp[Addr.add,h0]];exact this.trans hu
 (have s1:Hy ((xs.drop ((k+1)*2)).length=(n-(k+1))*2):=by rw[Hy,bO,LK];omega);have s2:Hy (∀u∈xs.drop ((k+1)*2),u.oneCell'=true):=fun u hu=>Qp u (List.mem_of_mem_drop hu)
 have s3:Hy (∀t,t<(xs.drop ((k+1)*2)).length->(w.drew.cell? ⟨g,0+k*2+t,none⟩).isSome=true/\w.drew.frozen? ⟨g,0+k*2+t,none⟩=false):=by
  intro t ht;rw[bO,LK]at ht;rw[bW];exact qC hh.drew LN _ (by omega)
 obtain⟨W1,Kh⟩:∃W1,W1=w.drew.setCells g (0+k*2) (xs.drop ((k+1)*2)):=⟨_,rfl⟩;have Qq:Hy (W1=w.drew.setCells g (k*2) (xs.drop ((k+1)*2))):=by rw[Kh,bW];rfl
 have KW:∀ty,(Builtin.clear_ #[67] ty #[.slice (some ⟨g,(k+(n-(k+1)))*2,none⟩) (n-(k+(n-(k+1)))) (cap-(k+(n-(k+1))))]).run Tryz.prog W1=.ok (.tuple #[]) (W1.setCells g ((n-1)*2) mO):=fun ty=>by
  rw[show k+(n-(k+1))=n-1 from by omega,show n-(n-1)=1 from by omega];(have Pg:Has W1 g (.cells (lay cur (k*2) (xs.drop ((k+1)*2))) 186):=by rw[Qq.o];exact Has.setCells _ hh.drew _);exact vA W1 _ _ ty _ mO Tryz.underlying67 (Fb _) E9 Fa g _ _ (fun j hj=>(qC Pg (by rw[o8,LN]) _ (by have e:mO.length=2:=rfl;rw[e]at hj;omega)).1) (fun j hj=>Pg.frozen _)
 have HW:=Hd Kh
 have KZ:k+1<=cap:=by omega
 have Rk:k<=cap:=by omega
 have g1:(0:Int)<=(k:Int)+1:=by omega
 have g2:(k:Int)+1<=(n:Int):=by omega
 unfold maxLen at Oa
 clear Kh h hh LN hcx LK Qp ho
 go_enter Tryz.func154,Tryz.ntmps154
 go_wp2_with fail
 go_region_law (refine step_append_room rfl (.tmp 22) (.tmp 25) 67 rfl 186 i0 2 Tryz.underlying67 KO KH g 0 k cap (by simp[Act.eval,Act.put]) A (n-(k+1)) (cap-(k+1)) (xs.drop ((k+1)*2)) (by simp[Act.eval,Act.put]) s1.o Wt.o s2.o (by omega) s3.o ?_;rw[<- HW.o])
 go_wp2;go_ret;refine⟨_,rfl,rfl,?_,?_⟩
 ·show Row own T (W1.setCells g ((n-1)*2) mO) _ 2 (.slice (some ⟨g,0,none⟩) (k+(n-(k+1))) cap) _ _;rw[show k+(n-(k+1))=n-1 from by omega,Qq.o];exact HC.o
 rw[Qq.o];exact HT.o
attribute [local go_sem ↓] Go.wp_at_zero Go.wp_at_succ
abbrev Dg:=Int×List UInt8
def js (ps:List (Dg×Value)):List Value:=ps.flatMap fun p=>[.int .i64 p.1.1,p.2]
def jM (own:Nat->Nat) (T:Nat) (w:World) (v:Value) (l:List Dg):Prop:=
 ∃ps:List (Dg×Value),ps.map (·.1)=l/\Row own T w 186 2 v l.length (js ps) /\
  (∀p∈ps,Row own (T+1) w 5 1 p.2 p.1.2.length (p.1.2.map B))/\(ps.filterMap (·.2.ownBlock)).Nodup
theorem pk {own:Nat->Nat} {T n size:Nat} {w:World} {e:TypeId} {v:Value} {xs:List Value} (h:Row own T w e size v n xs):v.oneCell'=true:=by
 rcases h.1.2 with⟨rfl,_⟩|⟨g,cap,cur,rfl,_⟩<;>rfl
theorem rB {base n size:Nat} {w:World} {e:TypeId} {v:Value} {xs:List Value} (h:w.ownsRow base e size v n xs):∃a m c,v=.slice a m c:=by
 rcases h.2 with⟨rfl,_⟩|⟨g,cap,cur,rfl,_⟩<;>exact⟨_,_,_,rfl⟩
theorem Fe {k:IntKind} {n:Int} {u:Value} (h:u.oneCell'=true):∀x∈[Value.int k n,u],x.oneCell'=true:=by
 intro x hx;simp only[aM,bc,or_false]at hx;rcases hx with rfl|rfl
 ·rfl
 exact h
theorem Ff {own:Nat->Nat} {T:Nat} {w:World} {ps:List (Dg×Value)} (h:∀p∈ps,Row own T w 5 1 p.2 p.1.2.length (p.1.2.map B)):∀u∈js ps,u.oneCell'=true:=by
 intro u hu;obtain⟨p,hp,hu⟩:=dt.1 hu;simp only[aM,bc,or_false]at hu;rcases hu with rfl|rfl
 ·rfl
 exact pk (h p hp)
theorem jM.ej {own own1:Nat->Nat} {T:Nat} {S:Nat->Prop} {w w1:World} {v:Value} {l:List Dg} (h:jM own T w v l) (ht:dD S w w1) (he:Ext w own own1) (hn:∀k,k<w.heap.size->(own k=T\/own k=T+1)->¬S k):jM own1 T w1 v l:=by
 obtain⟨ps,h1,h2,h3,h4⟩:=h;exact⟨ps,h1,h2.ej ht he (fun k hk e=>hn k hk (.inl e)),fun p hp=>(h3 p hp).ej ht he (fun k hk e=>hn k hk (.inr e)),h4⟩
def fL (l:List Dg) (lost:Int) (g:Dg):List Dg×Int:=if 200<=l.length then (l,wrap64 (lost+1)) else (l++[g],lost)
theorem Fg (b o:Nat) (cs:Array Value) (t:TypeId) (n c:Nat) (a:Option Addr) (lost:Int) (x:Value) (to:Int) (w:World)
 (hB:Has w b (.cells cs t)) (c0:cs[o]?=some (.slice a n c)) (c1:cs[o+1]?=some (.int .i64 lost)) (hl:200<=n) :
 Calls Tryz.prog 149 #[.pointer (some ⟨b,o,none⟩),.agg #[.int .i64 to,x]] w fun e w'=>e=.returned (.tuple #[]) /\
  w'=(w.setCell ⟨b,o+1,none⟩ (.int .i64 (wrap64 (lost+1)))).alloc (.cells #[.int .i64 to,x] 186):=by
 have Kg:=hB.lt;have k0:w.cell? ⟨b,o,none⟩=some (.slice a n c):=(hB.cell o).trans c0;have k1:w.cell? ⟨b,o+1,none⟩=some (.int .i64 lost):=(hB.cell (o+1)).trans c1;have f1:=hB.frozen (o+1);(have hl':(200:Int)<=n:=by omega);clear hB c0 c1;(go_enter Tryz.func149,Tryz.ntmps149);go_wp2;refine bodyPost_ret (results_none rfl _ _ _) rfl ?_;exact⟨rfl,rfl⟩
theorem Fh {w w2:World} {x0 x1 sl:Value} {t:TypeId} {b o:Nat} (Kg:b<w.heap.size) (k0:w.cell? ⟨b,o,none⟩=some sl)
 (hb:Below (w.alloc (.cells #[x0,x1] t)).drew.heap.size (w.alloc (.cells #[x0,x1] t)).drew w2) :
 w.heap.size+1<=w2.heap.size/\w2.cell? ⟨b,o,none⟩=some sl/\w2.cell? ⟨w.heap.size,0,none⟩=some x0/\w2.cell? ⟨w.heap.size,1,none⟩=some x1/\Below w.heap.size w w2:=by
 have e:(w.alloc (.cells #[x0,x1] t)).drew.heap.size=w.heap.size+1:=World.size_alloc _ _;have h0:Below w.heap.size w (w.alloc (.cells #[x0,x1] t)).drew:=((Below.refl _ _).alloc (aq _) _).drew;have hn:Has (w.alloc (.cells #[x0,x1] t)).drew w.heap.size (.cells #[x0,x1] t):=(Has.new w _).drew;have hs:=hb.size;rw[e]at hs hb;refine⟨hs,?_,?_,?_,h0.trans (hb.mono (by omega))⟩
 ·exact (hb.cell (p:=⟨b,o,none⟩) (by simp;omega)).trans ((h0.cell (p:=⟨b,o,none⟩) Kg).trans k0)
 ·exact (hb.cell (p:=⟨w.heap.size,0,none⟩) (by simp)).trans (hn.cell 0)
 exact (hb.cell (p:=⟨w.heap.size,1,none⟩) (by simp)).trans (hn.cell 1)
theorem iy {w:World} {p:Addr} {v:Value} (h:w.cell? p=some v):∀ob,(w.alloc ob).cell? p=some v:=fun ob=>(World.cell?_alloc_lt w ob p (l4 h)).trans h
theorem Fi {w w':World} {row:Option Nat} (hg:w.grownBy w' row) {p:Addr} (Kg:p.block<w.heap.size) (Km:some p.block≠row):w'.cell? p=w.cell? p/\w'.frozen? p=w.frozen? p:=
 ⟨World.cell?_of_block (hg.block _ Kg Km),World.frozen?_of_block (hg.block _ Kg Km)⟩
theorem Fj {w w':World} {row:Option Nat} (hg:w.grownBy w' row) {b:Nat} {o:Obj} (h:Has w b o) (Km:some b≠row):Has w' b o:=(hg.block _ h.lt Km).trans h
theorem Fk {w w2 w3:World} {x0 x1 sl:Value} {t:TypeId} {b o:Nat} {cs:Array Value} {ob:Obj} {row:Option Nat} (hB:Has w b (.cells cs t)) (c0:cs[o]?=some sl) (L9:Below w.heap.size w w2) (M8:w2.cell? ⟨w.heap.size,0,none⟩=some x0) (NF:w2.cell? ⟨w.heap.size,1,none⟩=some x1)
 (hs:w.heap.size+1<=w2.heap.size) (hg:(w2.alloc ob).grownBy w3 row) (hr:∀k,row=some k->k<w.heap.size/\k≠b) :
 w3.cell? ⟨b,o,none⟩=some sl/\w3.frozen? ⟨b,o,none⟩=false/\w3.cell? ⟨w.heap.size,0,none⟩=some x0/\w3.cell? ⟨w.heap.size,1,none⟩=some x1/\Has w3 b (.cells cs t):=by
 have Kg:=hB.lt;have h3:Has w3 b (.cells cs t):=Fj hg ((hB.below L9 Kg).alloc _) (fun e=>(hr b e.symm).2 rfl)
 have hz:∀i,w3.cell? ⟨w.heap.size,i,none⟩=w2.cell? ⟨w.heap.size,i,none⟩:=fun i=>by
  have:=(Fi hg (p:=⟨w.heap.size,i,none⟩) (by simp;omega) (fun e=>by have:=(hr _ e.symm).1;simp at this)).1;rw[this,World.cell?_alloc_lt _ _ _ (by simp;omega)]
 exact⟨(h3.cell o).trans c0,h3.frozen o,(hz 0).trans M8,(hz 1).trans NF,h3⟩
theorem Fl {own:Nat->Nat} {T b o n g Ku:Nat} {cs:Array Value} {t:TypeId} {sl:Value} {l:List Dg} {bs:List UInt8} {to:Int} {au:Option Addr} {nu cu:Nat} {w w2 w3:World} {ob:Obj} {ps:List (Dg×Value)}
 (hb:own b≠T) (Kd:own b≠T+1) (OQ:ps.map (·.1)=l) (Kj:Row own T w 186 2 sl l.length (js ps)) (Ky:∀p∈ps,Row own (T+1) w 5 1 p.2 p.1.2.length (p.1.2.map B)) (P5:(ps.filterMap (·.2.ownBlock)).Nodup)
 (Kg:b<w.heap.size) (L9:Below w.heap.size w w2) (KY:w.heap.size+1<=w2.heap.size) (SL:w2.ownsRow (w.heap.size+1) 5 1 (.slice au nu cu) n (bs.map B))
 (Rl:Has w3 b (.cells cs t)) (On:w3.ownsRow 0 186 2 (.slice (some ⟨g,0,none⟩) (l.length+1) Ku) (l.length+1) (js ps++[.int .i64 to,.slice au nu cu]))
 (MH:(w2.alloc ob).grownBy w3 sl.ownBlock) (hg:sl.ownBlock=some g\/g=w2.heap.size+1) :
 ∃Mp v',Ext w own Mp/\dD (fun k=>k=b\/own k=T) w (w3.setCell ⟨b,o,none⟩ (.slice (some ⟨g,0,none⟩) (l.length+1) Ku))/\Has (w3.setCell ⟨b,o,none⟩ (.slice (some ⟨g,0,none⟩) (l.length+1) Ku)) b (.cells (cs.setIfInBounds o v') t) /\
  jM Mp T (w3.setCell ⟨b,o,none⟩ (.slice (some ⟨g,0,none⟩) (l.length+1) Ku)) v' (l++[(to,bs)]):=by
 generalize hw4:w3.setCell ⟨b,o,none⟩ (.slice (some ⟨g,0,none⟩) (l.length+1) Ku)=w4;have hrb:∀k,sl.ownBlock=some k->k<w.heap.size/\own k=T:=fun k hk=>⟨Kj.lt k hk,Kj.2 k hk⟩
 have hT:dD (fun k=>k=b\/own k=T) w w4:=by
  rw[<- hw4];exact ((((dD.refl _ w).gn L9 (aq _)).alloc ob).grown MH (fun k hk=>.inr (.inr (hrb k hk).2))).setCell (.inr (.inl rfl)) _
 (have hE:Ext w own (fun k=>if k<w.heap.size then own k else if k<w2.heap.size then T+1 else T):=fun k hk=>by simp[hk]);have Up:∀k,k≠b->w4.heap[k]?=w3.heap[k]?:=fun k hk=>by rw[<- hw4];exact Below.heap_setCell _ _ _ _ hk
 have hblk:∀k,(Value.slice au nu cu).ownBlock=some k->w.heap.size+1<=k/\k<w2.heap.size:=fun k hk=>by
  refine⟨jF SL k hk,?_⟩;rcases SL.2 with⟨e,_⟩|⟨g',c',cu',e,_,h,_⟩
  ·rw[e]at hk;cases hk
  rw[e]at hk;(have:g'=k:=by simpa[Value.ownBlock]using hk);subst this;exact Has.lt (w:=w2) h
 refine⟨_,.slice (some ⟨g,0,none⟩) (l.length+1) Ku,hE,hT,?_,ps++[((to,bs),.slice au nu cu)],by simp[OQ],?_,?_,?_⟩
 ·rw[<- hw4];exact Rl.eu o _
 ·have Mi:own g=T/\g<w.heap.size\/g=w2.heap.size+1:=hg.imp (fun h=>⟨(hrb g h).2,(hrb g h).1⟩) (fun h=>h)
  have Mw:g≠b:=by
   rintro rfl;rcases Mi with h|h
   ·exact hb h.1
   omega
  refine⟨?_,fun k hk=>?_⟩
  ·rw[aA,aQ];(have e:js (ps++[((to,bs),.slice au nu cu)])=js ps++[.int .i64 to,.slice au nu cu]:=by simp[js]);rw[e]
   exact lV On fun k hk=>Up k (by
    have:g=k:=by simpa[Value.ownBlock]using hk
    omega)
  (obtain rfl:g=k:=by simpa[Value.ownBlock]using hk);rcases Mi with h|h
  ·simp[h.2,h.1]
  simp only[h];rw[if_neg (by omega),if_neg (by omega)]
 ·intro p hp;rcases aO.1 hp with hp|hp
  ·exact (Ky p hp).ej hT hE (fun k _ e h=>by
    rcases h with rfl|h
    ·exact Kd e
    omega)
  obtain rfl:=aH.1 hp;refine⟨?_,fun k hk=>?_⟩
  ·(have hn:bs.length=n:=by have:=SL.1;simpa using this);(have h0:w2.ownsRow 0 5 1 (.slice au nu cu) bs.length (bs.map B):=by rw[hn];exact kO SL (bP _));refine lV h0 fun k hk=>?_;obtain⟨h1,h2⟩:=hblk k hk;rw[Up k (by omega),MH.block k (by simp;omega) (fun e=>by have:=(hrb k e.symm).1;omega)];exact Below.heap_alloc _ _ _ h2
  obtain⟨h1,h2⟩:=hblk k hk
  show (if k<w.heap.size then own k else if k<w2.heap.size then T+1 else T)=T+1
  rw[if_neg (by omega),if_pos h2]
 rw[List.filterMap_append,List.nodup_append];refine⟨P5,?_,fun x hx y hy=>?_⟩
 ·cases au<;>simp[Value.ownBlock]
 obtain⟨p,hp,hpx⟩:=dy.1 hx;have h1:=(Ky p hp).lt x hpx
 have h2:(Value.slice au nu cu).ownBlock=some y:=by
  obtain⟨q,hq,hqy⟩:=dy.1 hy;obtain rfl:=aH.1 hq;exact hqy
 have:=(hblk y h2).1;omega
theorem Fm (own:Nat->Nat) (T b o:Nat) (cs:Array Value) (t:TypeId) (v:Value) (l:List Dg) (a:Option Addr) (n c:Nat) (bs:List UInt8) (to:Int) (w:World)
 (hB:Has w b (.cells cs t)) (c0:cs[o]?=some v) (hb:own b≠T) (Kd:own b≠T+1) (hg:jM own T w v l) (hl:l.length<200) (NA:RD w w.heap.size a n bs) (hc:n<=c) (hn:n<=140737488355328) :
 Calls Tryz.prog 149 #[.pointer (some ⟨b,o,none⟩),.agg #[.int .i64 to,.slice a n c]] w fun e w'=>e=.returned (.tuple #[]) /\
  ∃Mp v',Ext w own Mp/\dD (fun k=>k=b\/own k=T) w w'/\Has w' b (.cells (cs.setIfInBounds o v') t)/\jM Mp T w' v' (l++[(to,bs)]):=by
 obtain⟨i0,KO,La,KH,KD⟩:=info_parts yg;obtain⟨ps,OQ,Kj,Ky,P5⟩:=hg;have Kg:=hB.lt;have k0:w.cell? ⟨b,o,none⟩=some v:=(hB.cell o).trans c0;have f0:w.frozen? ⟨b,o,none⟩=false:=hB.frozen o
 have hv:∃A m cap,v=.slice A m cap/\m=l.length:=by
  rcases Kj.1.2 with⟨rfl,h0⟩|⟨g,cap,cur,rfl,_⟩
  ·exact⟨_,_,_,rfl,h0.symm⟩
  exact⟨_,_,_,rfl,rfl⟩
 obtain⟨A,m,cap,rfl,hm⟩:=hv
 have HM:=Hd hm
 have Sp:m<200:=by omega
 have OW:¬(200:Int)<=m:=by omega
 have MN:=Hd Kj
 have Me:=Hd c0
 have MY:Hy (∀k,(Value.slice A m cap).ownBlock=some k->k<w.heap.size/\k≠b):=fun k hk=>⟨Kj.lt k hk,fun e=>by subst e;exact hb (Kj.2 k hk)⟩
 have HB:=Hd hB
 have RO:(w.alloc (.cells #[.int .i64 to,.slice a n c] 186)).cell? ⟨w.heap.size,0,none⟩=some (.int .i64 to):=(Has.new w (.cells #[.int .i64 to,.slice a n c] 186)).cell 0
 have Vo:(w.alloc (.cells #[.int .i64 to,.slice a n c] 186)).cell? ⟨w.heap.size,1,none⟩=some (.slice a n c):=(Has.new w (.cells #[.int .i64 to,.slice a n c] 186)).cell 1
 have ZZ:RD (w.alloc (.cells #[.int .i64 to,.slice a n c] 186)).drew (w.alloc (.cells #[.int .i64 to,.slice a n c] 186)).drew.heap.size a n bs:=(NA.below ((Below.refl _ _).alloc (aq _) _).drew (aq _)).more (Nat.le_of_lt (by show w.heap.size<(w.alloc _).heap.size;rw[World.size_alloc];omega))
 have Oe:=Hd ZZ
 have Uq:(w.alloc (.cells #[.int .i64 to,.slice a n c] 186)).drew.cell? ⟨b,o,none⟩=some (.slice A m cap):=(Below.cell ((Below.refl w.heap.size w).alloc (aq _) (.cells #[.int .i64 to,.slice a n c] 186)) (p:=⟨b,o,none⟩) Kg).trans k0
 clear hm Kj hB c0 ZZ
 go_enter Tryz.func149,Tryz.ntmps149
 go_wp2_with fail
 go_region_law
  (first
    |((refine step_append_lies _ (by rfl) (.tmp 21) (.tmp 28) 67 (by rfl) 0 186 i0 _ 2 32 Tryz.underlying67 KO La KH KD (by rfl) (by decide) (.slice A m cap) l.length (js ps) (by rfl) (Ld.o.alloc _) ⟨w2.heap.size,0,none⟩ 1 1 [.int .i64 to,.slice au nu cu] (by rfl) (by rfl) (tH rfl rfl) (Fe rfl) (by omega) (by unfold maxLen;omega) (by omega) (by omega) (w2.heap.size+1) (by simp) ?_);intro g Ku w3 LM MH hg agA;obtain⟨r0,rf0,r1,r2,Rl⟩:=Fk HB.o Me.o Mb.o M8 NF KY MH MY.o;have Lf:=Hd Rl;have Rs:=Hd LM;have Rt:=Hd MH;have HG:=Hd hg;clear LM MH hg Rl NP M8 NF n0 n1 n2)
    |(go_simp;go_at_call 179;refine (E8 a n c bs _ Oe.o hc hn).mono ?_;rintro e w2 ⟨u,rfl,Kp,Ke⟩;obtain⟨au,nu,cu,rfl⟩:=rB Kp;obtain⟨KY,NP,M8,NF,L9⟩:=Fh Kg k0 Ke;have n0:=iy NP;have n1:=iy M8;have n2:=iy NF;have Tt:=Hd Kp;have Mb:=Hd L9;have Ld:Hy (w2.ownsRow 0 186 2 (.slice A m cap) l.length (js ps)):=jE MN.o.1 Mb.o;clear Kp Ke L9))
 all_goals
  go_end0
  exact⟨rfl,Fl hb Kd OQ MN.o Ky P5 Kg Mb.o KY (kO Tt.o (cU (World.size_alloc w _).symm)) Lf.o Rs.o Rt.o HG.o⟩
theorem yh (b o:Nat) (a:Option Addr) (n c:Nat) (w:World) (h:w.cell? ⟨b,o,none⟩=some (.slice a n c)) :
 Calls Tryz.prog 120 #[.pointer (some ⟨b,o,none⟩)] w fun e w'=>e=.returned (.int .i64 n)/\w=w':=by
 (go_enter Tryz.func120,Tryz.ntmps120);go_wp2;go_ret;exact⟨rfl,rfl⟩
theorem yi (ps:List (Dg×Value)) (k:Nat) (p:Dg×Value) (h:ps[k]?=some p):(js ps)[k*2]?=some (.int .i64 p.1.1)/\(js ps)[k*2+1]?=some p.2:=by
 induction ps generalizing k with
 |nil=>simp at h
 |cons q ps ih =>
  cases k with
  |zero =>
   (obtain rfl:q=p:=by simpa using h);simp[js]
  |succ k =>
   have:=ih k (by simpa using h);simp only[js,aU]at this⊢;rw[aL (by simp;omega),aL (by simp;omega)];simpa[Nat.succ_mul]using this
theorem yj (b o:Nat) (a:Option Addr) (n c:Nat) (k:Int) (w:World) (h:w.cell? ⟨b,o,none⟩=some (.slice a n c)) (hk:¬(0<=k/\k<n)) :
 Calls Tryz.prog 110 #[.pointer (some ⟨b,o,none⟩),.int .i64 k] w fun e w'=>e=.returned (.tuple #[.agg #[.int .i64 0,.slice none 0 0],.iface 52 (.int .i64 2)])/\Below w.heap.size w w':=by
 have Kg:=l4 h;by_cases h0:k<0
 ·(have d0:decide (k<0)=true:=by simpa using h0);(go_enter Tryz.func110,Tryz.ntmps110);go_wp2;exact bodyPost_ret (v:=.tuple #[.agg #[.int .i64 0,.slice none 0 0],.iface 52 (.int .i64 2)]) (by simp[results,Tryz.results110,go_sem]) rfl ⟨rfl,(Below.refl _ _).alloc (aq _) _⟩
 (have d0:decide (k<0)=false:=by simpa using h0);(have d1:(n:Int)<=k:=by omega);(go_enter Tryz.func110,Tryz.ntmps110);go_wp2;exact bodyPost_ret (v:=.tuple #[.agg #[.int .i64 0,.slice none 0 0],.iface 52 (.int .i64 2)]) (by simp[results,Tryz.results110,go_sem]) rfl ⟨rfl,(Below.refl _ _).alloc (aq _) _⟩
theorem Fo (tmps:Array Value) (W:World) (g:Nat) (to:Int) (u:Value) (h2:tmps.getD 4 undef=.pointer (some ⟨g,0,none⟩)) (h3:tmps.getD 5 undef=.nilIface)
 (hg:Has W g (.cells #[.int .i64 to,u] 186)):(results Tryz.f110 tmps).run Tryz.prog W=.ok (.tuple #[.agg #[.int .i64 to,u],.nilIface]) W:=by
 rw[results_cell_tmp Tryz.results110,h2,h3];(have hi:(Tryz.prog.info? 186).map (·.size)=some (#[Value.int .i64 to,u]:Array Value).size:=by kernel_rfl);have:=run_loadVar_row (P:=Tryz.prog) W g 186 186 _ (0,0) _ hg Tryz.underlying186 rfl hi;simp[asAddr,Result.andThen,this]
theorem Fp {α β:Type} (f:α->Option β) (l:List α) (k:Nat) (h:(l.filterMap f).Nodup):((l.eraseIdx k).filterMap f).Nodup:=
 h.sublist ((List.eraseIdx_sublist l k).filterMap f)
theorem pY {α β:Type} (f:α->β) (l:List α) (k:Nat):(l.eraseIdx k).map f=(l.map f).eraseIdx k:=by
 rw[cN,cN,bN,List.map_take,List.map_drop]
theorem Fq {own:Nat->Nat} {T b o k g cap:Nat} {cs:Array Value} {t:TypeId} {l:List Dg} {bs:List UInt8} {to:Int} {au:Option Addr} {nu cu:Nat} {ag:Option Addr} {ng cg:Nat} {w w2:World} {x0 x1 x2 x3:Value} {ps:List (Dg×Value)}
 (hb:own b≠T) (Kd:own b≠T+1) (Kg:b<w.heap.size) (hB:Has w b (.cells cs t)) (OQ:ps.map (·.1)=l) (Kj:Row own T w 186 2 (.slice (some ⟨g,0,none⟩) l.length cap) l.length (js ps))
 (Ky:∀p∈ps,Row own (T+1) w 5 1 p.2 p.1.2.length (p.1.2.map B)) (P5:(ps.filterMap (·.2.ownBlock)).Nodup) (hp:ps[k]?=some ((to,bs),.slice au nu cu)) (RW:Row own (T+1) w 5 1 (.slice au nu cu) bs.length (bs.map B))
 (Kr:dD (fun g'=>(Value.slice (some ⟨g,0,none⟩) l.length cap).ownBlock=some g') ((w.alloc (.cells #[x0,x1] 186)).alloc (.cells #[x2,x3] 186)) w2)
 (hv:(Value.slice ag ng cg).ownBlock=(Value.slice (some ⟨g,0,none⟩) l.length cap).ownBlock) (LO:Row own T w2 186 2 (.slice ag ng cg) (l.length-1) (cut 2 k (js ps))) (Nl:Has w2 b (.cells cs t)) {y0 y1:Value} :
 dD (fun k=>k=b\/own k=T) w (((w2.setCell ⟨b,o,none⟩ (.slice ag ng cg)).setCell ⟨w.heap.size,0,none⟩ y0).setCell ⟨w.heap.size,1,none⟩ y1) /\
  Has (((w2.setCell ⟨b,o,none⟩ (.slice ag ng cg)).setCell ⟨w.heap.size,0,none⟩ y0).setCell ⟨w.heap.size,1,none⟩ y1) b (.cells (cs.setIfInBounds o (.slice ag ng cg)) t) /\
  jM own T (((w2.setCell ⟨b,o,none⟩ (.slice ag ng cg)).setCell ⟨w.heap.size,0,none⟩ y0).setCell ⟨w.heap.size,1,none⟩ y1) (.slice ag ng cg) (l.eraseIdx k) /\
  Row own (T+1) (((w2.setCell ⟨b,o,none⟩ (.slice ag ng cg)).setCell ⟨w.heap.size,0,none⟩ y0).setCell ⟨w.heap.size,1,none⟩ y1) 5 1 (.slice au nu cu) bs.length (bs.map B):=by
 have hgT:own g=T:=Kj.2 g rfl;have Rm:g<w.heap.size:=Kj.lt g rfl
 have hT:dD (fun k=>k=b\/own k=T) w (((w2.setCell ⟨b,o,none⟩ (.slice ag ng cg)).setCell ⟨w.heap.size,0,none⟩ y0).setCell ⟨w.heap.size,1,none⟩ y1):=by
  have h1:dD (fun k=>k=b\/own k=T) w w2:=(((dD.refl _ w).alloc _).alloc _).trans Kr (fun k hk e=>.inr (by
   have:g=k:=by simpa[Value.ownBlock]using e
   rw[<- this];exact hgT))
  exact ((h1.setCell (p:=⟨b,o,none⟩) (.inr (.inl rfl)) _).setCell (p:=⟨w.heap.size,0,none⟩) (.inl (aq _)) _).setCell (p:=⟨w.heap.size,1,none⟩) (.inl (aq _)) _
 have NI:∀ {v:Value} {n:Nat} {xs:List Value},Row own (T+1) w 5 1 v n xs->Row own (T+1) (((w2.setCell ⟨b,o,none⟩ (.slice ag ng cg)).setCell ⟨w.heap.size,0,none⟩ y0).setCell ⟨w.heap.size,1,none⟩ y1) 5 1 v n xs:=fun h =>
  h.ej hT (Ext.refl _ _) (fun k _ e h=>by
   rcases h with rfl|h
   ·exact Kd e
   omega)
 refine⟨hT,?_,⟨ps.eraseIdx k,?_,?_,fun p hp=>NI (Ky p (bD hp)),Fp _ _ _ P5⟩,NI RW⟩
 ·exact ((Nl.eu o _).far (p:=⟨w.heap.size,0,none⟩) (by simp;omega) _).far (p:=⟨w.heap.size,1,none⟩) (by simp;omega) _
 ·rw[pY,OQ]
 have e1:(l.eraseIdx k).length=l.length-1:=bU (by rw[<- OQ,aS];exact (ar.1 hp).1);have e2:cut 2 k (js ps)=js (ps.eraseIdx k):=qB 2 k _ (fun _=>rfl) ps;rw[e1,<- e2];refine⟨lV LO.1 fun k' MW=>?_,LO.2⟩;rw[hv]at MW;(have:g=k':=by simpa[Value.ownBlock]using MW);subst this;(have Mw:g≠b:=by rintro rfl;exact hb hgT);rw[Below.heap_setCell _ _ _ _ (by simp;omega),Below.heap_setCell _ _ _ _ (by simp;omega),Below.heap_setCell _ _ _ _ Mw]
theorem yk (own:Nat->Nat) (T b o:Nat) (cs:Array Value) (t:TypeId) (v:Value) (l:List Dg) (k:Nat) (w:World)
 (hB:Has w b (.cells cs t)) (c0:cs[o]?=some v) (hb:own b≠T) (Kd:own b≠T+1) (hg:jM own T w v l) (hk:k<l.length) :
 Calls Tryz.prog 110 #[.pointer (some ⟨b,o,none⟩),.int .i64 k] w fun e w'=>∃(u:Value) (to:Int) (bs:List UInt8) (v':Value),e=.returned (.tuple #[.agg #[.int .i64 to,u],.nilIface])/\l[k]?=some (to,bs) /\
  dD (fun k=>k=b\/own k=T) w w'/\Has w' b (.cells (cs.setIfInBounds o v') t)/\jM own T w' v' (l.eraseIdx k)/\Row own (T+1) w' 5 1 u bs.length (bs.map B):=by
 obtain⟨ps,OQ,Kj,Ky,P5⟩:=hg;obtain⟨g,cap,cur,rfl,ho,hh,Sy,Oa,LN,hcx⟩:=Kj.shape (by omega);have k0:w.cell? ⟨b,o,none⟩=some _:=(hB.cell o).trans c0;have Kg:=hB.lt;have Rm:=hh.lt;(have Mw:g≠b:=by rintro rfl;exact hb ho);obtain⟨p,hp⟩:∃p,ps[k]?=some p:=⟨_,ax (by rw[<- OQ]at hk;simpa using hk)⟩;obtain⟨q0,q1⟩:=yi ps k p hp;have r0:=(ij hh hcx (k*2) (by omega)).1.trans q0;have r1:=(ij hh hcx (k*2+1) (by omega)).1.trans q1;have RW:=Ky p (aR hp);obtain⟨⟨to,bs⟩,u⟩:=p;simp only at r0 r1 RW;obtain⟨au,nu,cu,rfl⟩:=rB RW.1;(have XD:Hy (l[k]?=some (to,bs)):=by rw[Hy,<- OQ,aY,hp];rfl);have RR:=Hd c0;have HB:=Hd hB;have HPS:=Hd OQ;have MN:=Hd Kj;have Z0:=Hd Ky;have Yv:=Hd P5;have HP:=Hd hp;have HPR:=Hd RW;have HO:=Hd ho;(have OT:(k:Int)<l.length:=by omega);unfold maxLen at Oa;(have Y3:l.length<=9223372036854775807:=by omega);have HK:=Hd hk;have XW:Hy (Row own T ((w.alloc (.cells #[.int .i64 0,.slice none 0 0] 186)).alloc (.cells #[.int .i64 to,.slice au nu cu] 186)) 186 2 (.slice (some ⟨g,0,none⟩) l.length cap) l.length (js ps)):=Kj.below (((Below.refl _ _).alloc (aq _) _).alloc (by simp) _);clear c0 hB OQ Kj Ky P5 hp RW ho hh LN hcx q0 q1 Oa Sy;(go_enter Tryz.func110,Tryz.ntmps110);(go_wp2_with fail);refine (Fc own T _ l.length k (js ps) _ XW.o HK.o (Ff Z0.o)).mono ?_;rintro e w2 ⟨v',rfl,Om,K7,Kr⟩;obtain⟨ag,ng,cg,rfl⟩:=rB K7.1;have hS:∀k,k≠g->¬((Value.slice (some ⟨g,0,none⟩) l.length cap).ownBlock=some k):=fun k hk e=>hk (by simpa[Value.ownBlock]using e.symm);(have hz:w.heap.size+2<=w2.heap.size:=by have:=Kr.size;simpa using this);have RT:Has w2 w.heap.size (.cells #[.int .i64 0,.slice none 0 0] 186):=Kr.has ((Has.new w _).alloc _) (hS _ (by omega))
 have ON:Has w2 (w.heap.size+1) (.cells #[.int .i64 to,.slice au nu cu] 186):=by
  refine Kr.has ?_ (hS _ (by omega));have:=Has.new (w.alloc (.cells #[.int .i64 0,.slice none 0 0] 186)) (.cells #[.int .i64 to,.slice au nu cu] 186);rwa [World.size_alloc]at this
 have Nl:Has w2 b (.cells cs t):=Kr.has ((HB.o.alloc _).alloc _) (hS _ (Ne.symm Mw));have d0:w2.cell? ⟨w.heap.size,0,none⟩=some (.int .i64 0):=RT.cell 0;have d1:w2.cell? ⟨w.heap.size,1,none⟩=some (.slice none 0 0):=RT.cell 1;have e0:w2.frozen? ⟨w.heap.size,0,none⟩=false:=RT.frozen 0;have e1:w2.frozen? ⟨w.heap.size,1,none⟩=false:=RT.frozen 1;have d2:w2.cell? ⟨w.heap.size+1,0,none⟩=some (.int .i64 to):=ON.cell 0;have d3:w2.cell? ⟨w.heap.size+1,1,none⟩=some (.slice au nu cu):=ON.cell 1;have d4:w2.cell? ⟨b,o,none⟩=some (.slice (some ⟨g,0,none⟩) l.length cap):=(Nl.cell o).trans RR.o;have e4:w2.frozen? ⟨b,o,none⟩=false:=Nl.frozen o;(have L0:b≠w.heap.size:=by omega);(have hbz1:b≠w.heap.size+1:=by omega);have HV:=Hd Om;have aek:=Hd RT;have Ld:=Hd K7;have K4:=Hd Kr;have Kn:=Hd Nl;clear Om K7 Kr Nl RT ON hS;go_wp2
 have hW:Has (((w2.setCell ⟨b,o,none⟩ (.slice ag ng cg)).setCell ⟨w.heap.size,0,none⟩ (.int .i64 to)).setCell ⟨w.heap.size,1,none⟩ (.slice au nu cu)) w.heap.size (.cells #[.int .i64 to,.slice au nu cu] 186):=
  ((aek.o.far (p:=⟨b,o,none⟩) (Ne.symm L0) _).eu 0 _).eu 1 _
 refine bodyPost_ret (Fo _ _ w.heap.size to (.slice au nu cu) rfl rfl hW) rfl ⟨.slice au nu cu,to,bs,.slice ag ng cg,rfl,XD.o,?_⟩;exact Fq hb Kd Kg HB.o HPS.o MN.o Z0.o Yv.o HP.o HPR.o K4.o HV.o Ld.o Kn.o
theorem rC {base n m c:Nat} {a:Option Addr} {w:World} {bs:List UInt8} (h:w.ownsRow base 5 1 (.slice a m c) n (bs.map B)):m=n/\m<=c/\c<=maxLen/\RD w w.heap.size a m bs:=by
 have hl:=h.1;rw[aS,Nat.mul_one]at hl;rcases h.2 with⟨e,rfl⟩|⟨g,cap,cur,e,_,hh,hn,hc,hs,hx⟩
 ·injection e with e1 e2 e3;subst e1 e2 e3;exact⟨rfl,aq _,by simp[maxLen],hl,fun h=>absurd h (Nat.lt_irrefl 0)⟩
 injection e with e1 e2 e3;subst e1 e2 e3;refine⟨rfl,hn,hc,hl,fun h0=>⟨g,0,rfl,Has.lt (w:=w) hh,fun j x hj=>?_⟩⟩;show World.cell? _ _=_;rw[bW];have OU:=(ar.1 hj).1;rw[(ij (size:=1) (n:=m) (xs:=bs.map B) (w:=w) hh hx j (by omega)).1,aY,hj];rfl
theorem Fs (b o:Nat) (a:Option Addr) (n c:Nat) (k:Int) (w:World) (h:w.cell? ⟨b,o,none⟩=some (.slice a n c)) (hk:¬(0<=k/\k<n)) :
 Calls Tryz.prog 124 #[.pointer (some ⟨b,o,none⟩),.int .i64 k] w fun e w'=>e=.returned (.iface 52 (.int .i64 2))/\w=w':=by
 by_cases h0:k<0
 ·(have d0:decide (k<0)=true:=by simpa using h0);(go_enter Tryz.func124,Tryz.ntmps124);go_wp2;go_ret;exact⟨rfl,rfl⟩
 (have d0:decide (k<0)=false:=by simpa using h0);(have d1:(n:Int)<=k:=by omega);(go_enter Tryz.func124,Tryz.ntmps124);go_wp2;go_ret;exact⟨rfl,rfl⟩
theorem yl {l:List Dg} {lost:Int} {g:Dg} (h:200<=l.length):fL l lost g=(l,wrap64 (lost+1)):=by simp[fL,h]
theorem ym {l:List Dg} {lost:Int} {g:Dg} (h:l.length<200):fL l lost g=(l++[g],lost):=by simp[fL];omega
theorem rp {cs:Array Value} {o:Nat} {v:Value} (h:cs[o]?=some v):cs.setIfInBounds o v=cs:=by
 apply Array.ext_getElem?;intro i;rw[cZ];split
 ·rename_i e;subst e;rw[if_pos (bz.1 h).1,h]
 rfl
theorem rD {cs:Array Value} {o p:Nat} {v:Value} (h:o≠p):(cs.setIfInBounds o v)[p]?=cs[p]?:=by
 rw[cZ,if_neg h]
def rE (own:Nat->Nat) (T b o:Nat) (cs:Array Value) (t:TypeId) (l:List Dg) (lost:Int) (g:Dg) (w w':World):Prop:=
 ∃Mp v',Ext w own Mp/\dD (fun k=>k=b\/own k=T) w w'/\Has w' b (.cells ((cs.setIfInBounds o v').setIfInBounds (o+1) (.int .i64 (fL l lost g).2)) t)/\jM Mp T w' v' (fL l lost g).1
theorem yn (own:Nat->Nat) (T b o:Nat) (cs:Array Value) (t:TypeId) (v:Value) (l:List Dg) (lost:Int) (a:Option Addr) (n c:Nat) (bs:List UInt8) (to:Int) (w:World)
 (hB:Has w b (.cells cs t)) (c0:cs[o]?=some v) (c1:cs[o+1]?=some (.int .i64 lost)) (hb:own b≠T) (Kd:own b≠T+1) (hg:jM own T w v l) (NA:RD w w.heap.size a n bs) (hc:n<=c) (hn:n<=140737488355328) :
 Calls Tryz.prog 149 #[.pointer (some ⟨b,o,none⟩),.agg #[.int .i64 to,.slice a n c]] w fun e w'=>e=.returned (.tuple #[])/\rE own T b o cs t l lost (to,bs) w w':=by
 by_cases hl:l.length<200
 ·refine (Fm own T b o cs t v l a n c bs to w hB c0 hb Kd hg hl NA hc hn).mono fun e w' ⟨he,Mp,v',h1,h2,h3,h4⟩=>⟨he,Mp,v',h1,h2,?_,?_⟩
  ·rw[ym hl,rp (by rw[rD (by omega)];exact c1)];exact h3
  rw[ym hl];exact h4
 (have hl':200<=l.length:=by omega);have hg':=hg;obtain⟨ps,OQ,Kj,Ky,P5⟩:=hg
 obtain⟨A,m,cap,rfl,hm⟩:∃A m cap,v=.slice A m cap/\m=l.length:=by
  rcases Kj.1.2 with⟨rfl,h0⟩|⟨g,cap,cur,rfl,_⟩
  ·exact⟨_,_,_,rfl,h0.symm⟩
  exact⟨_,_,_,rfl,rfl⟩
 refine (Fg b o cs t m cap A lost (.slice a n c) to w hB c0 c1 (by omega)).mono fun e w' ⟨he,hw⟩=>⟨he,own,.slice A m cap,Ext.refl _ _,?_,?_,?_⟩
 ·rw[hw];exact ((dD.refl _ w).setCell (p:=⟨b,o+1,none⟩) (.inr (.inl rfl)) _).alloc _
 ·rw[yl hl',rp c0,hw];exact (hB.eu (o+1) _).alloc _
 rw[yl hl',hw];refine hg'.ej (S:=fun k=>k=b) (((dD.refl (fun k=>k=b) w).setCell (p:=⟨b,o+1,none⟩) (.inr rfl) _).alloc _) (Ext.refl _ _) (fun k _ e h=>?_);subst h;rcases e with e|e
 ·exact hb e
 exact Kd e
theorem Ft (own:Nat->Nat) (T b o:Nat) (cs:Array Value) (t:TypeId) (v:Value) (l:List Dg) (lost:Int) (k:Nat) (to:Int) (bs:List UInt8) (w:World)
 (hB:Has w b (.cells cs t)) (c0:cs[o]?=some v) (c1:cs[o+1]?=some (.int .i64 lost)) (hb:own b≠T) (Kd:own b≠T+1) (hg:jM own T w v l) (hk:l[k]?=some (to,bs)) (hn:bs.length<=140737488355328) :
 Calls Tryz.prog 124 #[.pointer (some ⟨b,o,none⟩),.int .i64 k] w fun e w'=>e=.returned .nilIface/\rE own T b o cs t l lost (to,bs) w w':=by
 have hg':=hg;have Ks:=(ar.1 hk).1;obtain⟨ps,OQ,Kj,Ky,P5⟩:=hg;obtain⟨g,cap,cur,rfl,ho,hh,Sy,Oa,LN,hcx⟩:=Kj.shape (by omega);have k0:w.cell? ⟨b,o,none⟩=some _:=(hB.cell o).trans c0;obtain⟨p,hp⟩:∃p,ps[k]?=some p:=⟨_,ax (by rw[<- OQ]at Ks;simpa using Ks)⟩
 have hpe:p.1=(to,bs):=by
  rw[<- OQ,aY,hp]at hk;exact aw hk
 obtain⟨q0,q1⟩:=yi ps k p hp;have r0:=(ij hh hcx (k*2) (by omega)).1.trans q0;have r1:=(ij hh hcx (k*2+1) (by omega)).1.trans q1;have RW:=Ky p (aR hp);rw[hpe]at r0 RW;obtain⟨_,u⟩:=p;simp only at r0 r1 RW;obtain⟨au,nu,cu,rfl⟩:=rB RW.1;obtain⟨e1,e2,e3,e4⟩:=rC RW.1;have C:=Hd (yn own T b o cs t (.slice (some ⟨g,0,none⟩) l.length cap) l lost au nu cu bs to w hB c0 c1 hb Kd hg' e4 e2 (by omega));(have OT:(k:Int)<l.length:=by omega);unfold maxLen at Oa;(have Y3:l.length<=9223372036854775807:=by omega);clear c0 c1 hB OQ Kj Ky P5 hp RW ho hh LN hcx q0 q1 Oa Sy hpe e1 e2 e3 e4 hg' hk;(go_enter Tryz.func124,Tryz.ntmps124);(go_wp2_with fail);refine C.o.mono ?_;rintro e w2 ⟨rfl,hp⟩;have HP:=Hd hp;clear hp;(go_wp2_with fail);go_ret;exact⟨rfl,HP.o⟩
end dM
end Go.Proofs.YtlhodcmdpchllaaGreatDoor
