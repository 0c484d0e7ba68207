/-
  A part of the proof of the law WorldCalm: WireRead, NetA, Net, NetB, NetS.
-/
import Derived.Laws.Shifts
import Derived.WalkLawsBesides
import Derived.WalkSpells
import Derived.Shelf.Bytes.SlSmallAll
import Derived.Laws.BitsAllLaws
import Derived.Laws.BitsLemmas
import Derived.Test.YtjhdaojclilakaaGreatDoorRows
import Derived.Deep.RegionLaw
import Derived.Deep.AppendLies
import Derived.Deep.RegionHeld3
import Derived.Deep.DrawnRows
import Derived.Laws.ResultCell
import Derived.Test.YtjhdaojclilakaaGreatDoorHd
import Derived.Test.YtjhdaojclilakaaGreatDoorP11
import Derived.Test.YtjhdaojclilakaaGreatDoorP12
set_option maxHeartbeats 16000000
set_option maxRecDepth 1000000
namespace Go.Proofs.YtjhdaojclilakaaGreatDoor
namespace fD
open Go.RowKit heap
def RD (w:World) (bound:Nat) (A:Option Addr) (n:Nat) (l:List UInt8):Prop:=
 l.length=n/\(0<n->∃b off,A=some ⟨b,off,none⟩/\b<bound/\∀j c,l[j]?=some c->CC w b (off+j) (B c))
variable {w:World} {bound n k cap j acc:Nat} {A:Option Addr} {l bs rest:List UInt8}
theorem RD.at_ (h:RD w bound A n l) (a:0<n) :
 ∃b off,A=some ⟨b,off,none⟩/\b<bound/\∀j c,l[j]?=some c->CC w b (off+j) (B c):=h.2 a
theorem RD.below {w':World} {a:Nat} (h:RD w bound A n l) (hb:Below a w w') (i:bound<=a):RD w' bound A n l:=
 ⟨h.1,fun d=>by
  obtain⟨b,off,e,f,hc⟩:=h.2 d
  exact⟨b,off,e,f,fun j c g=>(hb.cell (p:=⟨b,off+j,none⟩) ah).trans (hc j c g)⟩⟩
theorem RD.more {a:Nat} (h:RD w bound A n l) (hb:bound<=a):RD w a A n l:=
 ⟨h.1,fun c=>by
  obtain⟨b,off,e,d,hc⟩:=h.2 c
  exact⟨b,off,e,ab,hc⟩⟩
theorem RD.take (h:RD w bound A n l) (g:k<=n):RD w bound A k (l.take k):=
 ⟨by rw[bV,h.1];omega,fun i=>by
  obtain⟨b,off,e,d,hc⟩:=h.2 ab;refine⟨b,off,e,d,fun j c a=>hc j c ?_⟩
  have f:j<k:=by
   have:=(az.1 a).1;simp only[bV]at this;omega
  rwa [List.getElem?_take_of_lt f]at a⟩
theorem RD.setCell (h:RD w bound A n l) {p:Addr} (hp:bound<=p.block) (u:Value):RD (w.setCell p u) bound A n l:=
 ⟨h.1,fun a=>by
  obtain⟨b,off,e,d,hc⟩:=h.2 a
  exact⟨b,off,e,d,fun j c f=>(World.cell?_setCell_other w p ⟨b,off+j,none⟩ u (fun e=>by subst e;simp at hp;omega)).trans (hc j c f)⟩⟩
theorem RD.drop (h:RD w bound A n l) (g:k<=n) (hc:n<=cap) :
 RD w bound (if cap=k then A else A.map (·.add k)) (n-k) (l.drop k):=by
 refine⟨by rw[cx,h.1],fun i=>?_⟩;obtain⟨b,off,rfl,e,a⟩:=h.2 ab;rw[if_neg ab];refine⟨b,off+k,?_,e,fun j c d=>?_⟩
 ·by_cases f:k=0<;>simp[Addr.add,f]
 rw[eo]at d;have:=a _ c d;rwa [show off+k+j=off+(k+j) from by omega]
def lM (l:List Int):Array Value:=ju (l.getD 0 0) (l.getD 1 0) (l.getD 2 0) (l.getD 3 0) (l.getD 4 0) (l.getD 5 0) (l.getD 6 0) false ByteArray.empty
theorem Km (l:List Int) (k:Nat) (x:Int) (h:k<7) (g:l.length=k):(lM l).setIfInBounds k (VI x)=lM (l++[x]):=by
 match k,h with
 |0,_=>obtain rfl:=bc g;rfl
 |1,_=>match l,g with|[a],_=>rfl
 |2,_=>match l,g with|[a,b],_=>rfl
 |3,_=>match l,g with|[a,b,c],_=>rfl
 |4,_=>match l,g with|[a,b,c,d],_=>rfl
 |5,_=>match l,g with|[a,b,c,d,e],_=>rfl
 |6,_=>match l,g with|[a,b,c,d,e,f],_=>rfl
def mC (bs:List UInt8) (l:List Int) (k:Nat) (rest:List UInt8):Prop:=
 nI 7 bs=match nI (7-k) rest with|none=>none|some (ns,r)=>some (l++ns,r)
theorem mC.zero (bs:List UInt8):mC bs [] 0 bs:=by
 unfold mC;cases nI (7-0) bs<;>simp
def Part (bs:List UInt8) (j acc:Nat):Prop:=
 oF bs=match mM (6-j) (decide (j=0)) (bs.drop j)with|none=>none|some (n,r)=>some (acc+128^j*n,r)
theorem Part.zero (bs:List UInt8):Part bs 0 0:=by
 unfold Part oF;simp;cases mM 6 true bs<;>simp
theorem BJ (h:RD w bound A n l) :
 (convert 58 9 (.slice A n cap)).run Tryz.prog w=.ok (.string ⟨l.toArray⟩) w:=by
 rcases bQ n with a|a
 ·subst a;have:=bc h.1;subst this;exact run_convert_bytes_zero w _ _ Tryz.underlying58 Tryz.underlying5 A cap _ Tryz.underlying9
 obtain⟨b,off,rfl,_,hc⟩:=h.2 a;have c:=h.1;subst c;refine run_convert_bytes_back w _ _ _ ⟨b,off,none⟩ cap l Tryz.underlying58 Tryz.underlying5 Tryz.underlying9 (fun j d=>?_);have:=hc j _ (ay d);rw[show (⟨b,off,none⟩:Addr).add j=⟨b,off+j,none⟩ from by by_cases a:j=0<;>simp[Addr.add,a]];exact this
theorem Ko:∀n:Fin 256,bits BinOp.and IntKind.u8 (n.val:Int) 127=((n.val%128:Nat):Int):=by decide +kernel
theorem BK (a:Nat) (b:a<9223372036854775808):(BitVec.ofInt 64 (a:Int)).toNat=a:=by
 rw[BitVec.ofInt_natCast,BitVec.toNat_ofNat];exact Nat.mod_eq_of_lt ab
theorem Kp (a b:Nat) (c:a<9223372036854775808) (hb:b<9223372036854775808):bits .or .i64 (a:Int) (b:Int)=((a ||| b:Nat):Int):=by
 have d:a ||| b<2^63:=Nat.or_lt_two_pow ab ab;show IntKind.i64.wrap ((BitVec.ofInt 64 (a:Int) ||| BitVec.ofInt 64 (b:Int)).toNat:Int)=_;rw[BitVec.toNat_or,BK a c,BK b hb,IntKind.wrap_i64];omega
theorem Kq (j:Nat):(2:Nat)^(7*j)=128^j:=by rw[Nat.pow_mul]
theorem Kr (j:Nat) (h:j<6):128^j<=34359738368:=by
 have:128^j<=128^5:=Nat.pow_le_pow_right ab ab;have e:(128^5:Nat)=34359738368:=aj;omega
theorem Ks (c:UInt8):bits BinOp.and IntKind.u8 (c.toNat:Int) 127=((c.toNat%128:Nat):Int):=by
 have h:=c.toNat_lt;exact Ko ⟨c.toNat,h⟩
theorem wrap_small (n:Nat) (h:n<=4611686018427387904):wrap64 (n:Int)=n:=by rw[IntWalk.wrap64_in];omega
theorem Kt (acc p j x:Nat) (hp:p=2^(7*j)) (a:acc<p):acc ||| x*p=acc+p*x:=by
 subst hp;have c:=Nat.two_pow_add_eq_or_of_lt (i:=7*j) (b:=acc) a x;rw[Nat.mul_comm x,Nat.or_comm,<- c,dT]
theorem Ku (j:Nat):(2:Int)^(7*j)=((2^(7*j):Nat):Int):=ae
theorem Kv (acc j:Nat) (c:UInt8) (b:j<6) (d:acc<128^j) :
 bits BinOp.or IntKind.i64 (acc:Int) (wrap64 (wrap64 (bits BinOp.and IntKind.u8 (c.toNat:Int) 127)*2^(7*j)))=((acc+128^j*(c.toNat%128):Nat):Int):=by
 have e:=Kr j b;have f:c.toNat%128<128:=Nat.mod_lt _ ab;rw[Ks];generalize c.toNat%128=x at f⊢;have hp:=Kq j;rw[Ku,hp];have a:128^j=2^(7*j):=hp.symm;clear hp;generalize 128^j=p at *;have g:x*p<=127*34359738368:=Nat.mul_le_mul ab e;rw[wrap_small x ab,<- Int.natCast_mul,wrap_small (x*p) ab,Kp _ _ ab ab,Kt acc p j x a d]
theorem Kw (acc j:Nat) (c:UInt8) (a:acc<128^j):acc+128^j*(c.toNat%128)<128^(j+1):=by
 have h:128^j*(c.toNat%128)<=128^j*127:=Nat.mul_le_mul_left _ ab;rw[cY];omega
theorem drop_cons (bs:List UInt8) (j:Nat) (c:UInt8) (h:bs[j]?=some c):bs.drop j=c::bs.drop (j+1):=by
 obtain⟨a,rfl⟩:=az.1 h;exact cG a
variable {c:UInt8}
theorem Part.more (h:Part bs j acc) (b:j<6) (hc:bs[j]?=some c) (a:¬c.toNat<128):Part bs (j+1) (acc+128^j*(c.toNat%128)):=by
 unfold Part at h⊢;rw[h,drop_cons bs j c hc];have e:6-j=(6-(j+1))+1:=ab;rw[e];simp only[mM];rw[if_neg a,show decide (j+1=0)=false from rfl]
 cases mM (6-(j+1)) false (bs.drop (j+1))with
 |none=>rfl
 |some p =>
  simp only[bI,dD,and_true];rw[cY,Nat.mul_add,<- Nat.add_assoc,Nat.mul_assoc]
theorem Part.done (h:Part bs j acc) (b:j<6) (hc:bs[j]?=some c) (a:c.toNat<128) (d:¬(c.toNat=0/\0<j)) :
 oF bs=some (acc+128^j*(c.toNat%128),bs.drop (j+1)):=by
 unfold Part at h;rw[h,drop_cons bs j c hc];have e:6-j=(6-(j+1))+1:=ab;rw[e];simp only[mM];rw[if_pos a,if_neg ah];simp only[Nat.mod_eq_of_lt a]
theorem Part.bad (h:Part bs j acc) (a:j<6) (hc:bs[j]?=some c) (b:c.toNat=0) (hp:0<j):oF bs=none:=by
 unfold Part at h;rw[h,drop_cons bs j c hc];have e:6-j=(6-(j+1))+1:=ab;rw[e];simp only[mM];rw[if_pos ab,if_pos ah]
theorem Part.short (h:Part bs j acc) (b:6<=j\/bs.length<=j):oF bs=none:=by
 unfold Part at h;rw[h];rcases bk j 6 with a|a
 ·have e:6-j=(6-(j+1))+1:=ab;rw[e,List.drop_eq_nil_of_le ab];simp[mM]
 rw[show 6-j=0 from by omega];simp[mM]
theorem mC.step {r:List UInt8} {l:List Int} {x:Nat} (h:mC bs l k rest) (b:k<7) (a:oF rest=some (x,r)):mC bs (l++[(x:Int)]) (k+1) r:=by
 unfold mC at h⊢;rw[h,show 7-k=(7-(k+1))+1 from by omega];simp only[nI,a];cases nI (7-(k+1)) r<;>simp
theorem mC.none_ {l:List Int} (h:mC bs l k rest) (b:k<7) (a:oF rest=none):mN bs=none:=by
 unfold mC at h;unfold mN;rw[h,show 7-k=(7-(k+1))+1 from by omega];simp only[nI,a]
theorem mC.end_ {l:List Int} (h:mC bs l 7 rest):mN bs=oZ l rest:=by
 unfold mC at h;unfold mN;rw[h];simp[nI]
end fD
namespace eH
open Go.RowKit heap own fD
theorem pP {w:World} {a:Addr} {v:Value} (h:w.cell? a=some v):a.block<w.heap.size:=by
 exact Lt h
theorem Kx (A:Option Addr) (n cap:Nat) (bs:List UInt8) (w:World) (d:RD w w.heap.size A n bs) (q:n<=cap) (G:n<=140737488355328) :
 Calls Tryz.prog 85 #[.slice A n cap] w fun e w'=>∃v,e=.returned v/\w'.ownsRow w.heap.size 5 1 v n (bs.map B)/\BB w w':=by
 obtain⟨i0,r,s,t,x⟩:=info_parts BF;have H:=fun (w:World) (a:Option Addr) (n c:Nat)=>Lib.run_eql_slice_nil (P:=Tryz.prog) w 58 5 a n c 0 0 Tryz.underlying58
 cases A with
 |none =>
  obtain rfl:n=0:=by
   rcases bQ n with h|h
   ·exact h
   obtain⟨_,_,e,_⟩:=d.2 h;cases e
  have hb:bs=[]:=bc d.1;have HB:=Hd hb;clear hb d;(go_enter Tryz.func85,Tryz.ntmps85);(go_wp2_with fail);go_ret;exact⟨_,rfl,by rw[HB.o];exact⟨rfl,.inl ⟨rfl,rfl⟩⟩,Below.refl _ _⟩
 |some g =>
  have I:=Hd d;have y:=Hd d.1
  have z:Hy (∀(j:Nat) (u:Value),(bs.map B)[j]?=some u->w.cell? (g.add j)=some u):=by
   intro j u f;rw[br]at f
   cases hb:bs[j]? with
   |none=>rw[hb]at f;cases f
   |some c =>
    rw[hb]at f;obtain rfl:=aA f;have i:=(az.1 hb).1;obtain⟨b,off,e,_,hc⟩:=d.2 (by rw[<- d.1];omega);obtain rfl:=aA e;rw[show (⟨b,off,none⟩:Addr).add j=⟨b,off+j,none⟩ from by by_cases C:j=0<;>simp[Addr.add,C]];exact hc j c hb
  clear d;(go_enter Tryz.func85,Tryz.ntmps85);have D:Hy ((w.alloc (.cells #[] 5)).ownsRow w.heap.size 5 1 (.slice (some ⟨w.heap.size,0,none⟩) 0 0) 0 []):=rq (l:=[]) (Has.new w (.cells #[] 5)) (ax _) rfl (bR _);(go_wp2_with (at_builtin;refine wpList_append_own _ rfl (.tmp 5) (.tmp 6) 58 rfl w.heap.size 5 i0 (.int .u8 0) 1 1 Tryz.underlying58 r s t x rfl aj _ _ _ rfl D.o g n cap (bs.map B) rfl ?c0 ?c1 ?c2 ?c3 ?c4 ?c5 ?_));case c0=>rw[aX,y.o,Nat.mul_one]
  case c1 =>
   intro j u f;have:=z.o j u f;have i:=(pP this);rw[World.cell?_alloc_lt _ _ _ i];exact this
  (case c2=>exact sS _);(case c3=>unfold maxLen;omega);(case c4=>omega);(case c5=>simp);intro v E m p _;have F:=Hd m;have hb:BB w E:=((Below.refl _ _).alloc (ax _) _).grown p ae (fun k hk=>by cases hk;exact ax _);clear m p;go_wp2;go_ret;exact⟨_,rfl,F.o,hb⟩
def pn:List Value:=[VI 0,.slice none 0 0]
theorem Ky:(Builtin.zeroCells (Value.agg #[VI 0,.slice none 0 0]).cells 1).toList=pn:=af
theorem Kz:∀v∈pn,v.oneCell'=true:=by simp[pn,Value.oneCell']
theorem BL:(Tryz.prog.info? 89).map (fun i=>(i.zero,i.size,i.bytes))=some (some (.agg #[VI 0,.slice none 0 0]),2,32):=af
theorem KA (w:World):(zeroValue 89).run Tryz.prog w=.ok (.agg #[VI 0,.slice none 0 0]) w:=af
theorem KB (own:Nat->Nat) (T:Nat) (v:Value) (n k:Nat) (xs:List Value) (w:World) (h:Row own T w 89 2 v n xs) (B:k<n) (r:∀u∈xs,u.oneCell'=true) :
 Calls Tryz.prog 65 #[v,VI k,VI ((k:Int)+1)] w fun e w'=>∃l,e=.returned l/\l.ownBlock=v.ownBlock/\Row own T w' 89 2 l (n-1) (cut 2 k xs)/\eJ (fun g=>v.ownBlock=some g) w w':=by
 obtain⟨i0,C,J,D,K⟩:=info_parts BL;obtain⟨g,cap,cur,rfl,s,d,E,x,f,a⟩:=h.shape ab;have i:xs.length=n*2:=h.1.1;have L:=Hd i;have HC:=Hd (zN (k:=k) (zs:=pn) s d.drew E x f a B rfl)
 have F:Hy (eJ (fun b=>(Value.slice (some ⟨g,0,none⟩) n cap).ownBlock=some b) w ((w.drew.setCells g (k*2) (xs.drop ((k+1)*2))).setCells g ((n-1)*2) pn)):=
  zL (S:=fun b=>(Value.slice (some ⟨g,0,none⟩) n cap).ownBlock=some b) rfl w _ _ _ _
 obtain⟨A,M,m⟩:∃A:Addr,(if cap=k+1 then (some ⟨g,0,none⟩:Option Addr) else some ⟨g,(k+1)*2,none⟩)=some A/\Hy (∀t u,(xs.drop ((k+1)*2))[t]?=some u->w.drew.cell? (A.add t)=some u):=by
  by_cases h:cap=k+1
  ·refine⟨⟨g,0,none⟩,by simp[h],fun t u hu=>?_⟩;have:=(az.1 hu).1;simp at this;omega
  refine⟨⟨g,(k+1)*2,none⟩,by simp[h],fun t u hu=>?_⟩;rw[eo]at hu;have N:=(az.1 hu).1;have:=(kj d a ((k+1)*2+t) ab).1;rw[show (⟨g,(k+1)*2,none⟩:Addr).add t=⟨g,(k+1)*2+t,none⟩ from by by_cases G:t=0<;>simp[Addr.add,G]];exact this.trans hu
 (have s1:Hy ((xs.drop ((k+1)*2)).length=(n-(k+1))*2):=by rw[Hy,cx,i];omega);have s2:Hy (∀u∈xs.drop ((k+1)*2),u.oneCell'=true):=fun u hu=>r u (List.mem_of_mem_drop hu)
 have H:Hy (∀t,t<(xs.drop ((k+1)*2)).length->(w.drew.cell? ⟨g,0+k*2+t,none⟩).isSome=true/\w.drew.frozen? ⟨g,0+k*2+t,none⟩=false):=by
  intro t ht;rw[cx,i]at ht;rw[cN];exact ub d.drew f _ ab
 obtain⟨c,p⟩:=nm (w.drew.setCells g (0+k*2) (xs.drop ((k+1)*2)));have q:Hy (c=w.drew.setCells g (k*2) (xs.drop ((k+1)*2))):=by rw[p,cN];rfl
 have O:∀ty,(Builtin.clear_ #[64] ty #[.slice (some ⟨g,(k+(n-(k+1)))*2,none⟩) (n-(k+(n-(k+1)))) (cap-(k+(n-(k+1))))]).run Tryz.prog c=.ok (.tuple #[]) (c.setCells g ((n-1)*2) pn):=fun ty=>by
  rw[show k+(n-(k+1))=n-1 from by omega,show n-(n-1)=1 from by omega];(have y:Has c g (.cells (lay cur (k*2) (xs.drop ((k+1)*2))) 89):=by rw[q.o];exact Has.setCells _ d.drew _);exact zM c _ _ ty _ pn Tryz.underlying64 (KA _) Ky Kz g _ _ (fun j z=>(ub y (by rw[rp,f]) _ (by have e:pn.length=2:=rfl;rw[e]at z;omega)).1) (fun j z=>y.frozen _)
 have I:=Hd p
 have P:k+1<=cap:=ab
 have Q:k<=cap:=ab
 have g1:(0:Int)<=(k:Int)+1:=ab
 have g2:(k:Int)+1<=(n:Int):=ab
 unfold maxLen at x
 clear p h d f a i r s
 go_enter Tryz.func65,Tryz.ntmps65
 go_wp2_with fail
 go_region_law (refine step_append_room rfl (.tmp 22) (.tmp 25) 64 rfl 89 i0 2 Tryz.underlying64 C D g 0 k cap (by simp[Act.eval,Act.put]) A (n-(k+1)) (cap-(k+1)) (xs.drop ((k+1)*2)) (by simp[Act.eval,Act.put]) s1.o m.o s2.o ab H.o ?_;rw[<- I.o])
 go_wp2;go_ret;refine⟨_,rfl,rfl,?_,?_⟩
 ·show Row own T (c.setCells g ((n-1)*2) pn) _ 2 (.slice (some ⟨g,0,none⟩) (k+(n-(k+1))) cap) _ _;rw[show k+(n-(k+1))=n-1 from by omega,q.o];exact HC.o
 rw[q.o];exact F.o
attribute [local go_sem ↓] Go.wp_at_zero Go.wp_at_succ
abbrev Dg:=Int×List UInt8
def ly (ps:List (Dg×Value)):List Value:=ps.flatMap fun p=>[VI p.1.1,p.2]
def lz (own:Nat->Nat) (T:Nat) (w:World) (v:Value) (l:List Dg):Prop:=
 ∃ps:List (Dg×Value),ps.map (·.1)=l/\Row own T w 89 2 v l.length (ly ps) /\
  (∀p∈ps,Row own (T+1) w 5 1 p.2 p.1.2.length (p.1.2.map B))/\(ps.filterMap (·.2.ownBlock)).Nodup
variable {own:Nat->Nat} {T n size b o:Nat} {w w2 w' w3:World} {e t:TypeId} {v x0 x1 sl:Value} {xs:List Value}
theorem rD (h:Row own T w e size v n xs):v.oneCell'=true:=by
 rcases h.1.2 with⟨rfl,_⟩|⟨g,cap,cur,rfl,_⟩<;>rfl
theorem uR {base:Nat} (h:w.ownsRow base e size v n xs):∃a m c,v=.slice a m c:=by
 rcases h.2 with⟨rfl,_⟩|⟨g,cap,cur,rfl,_⟩<;>exact⟨_,_,_,rfl⟩
theorem KC {k:IntKind} {n:Int} {u:Value} (h:u.oneCell'=true):∀x∈[Value.int k n,u],x.oneCell'=true:=by
 intro x a;simp only[aH,bq,or_false]at a;rcases a with rfl|rfl
 ·rfl
 exact h
variable {ps:List (Dg×Value)}
theorem KD (h:∀p∈ps,Row own T w 5 1 p.2 p.1.2.length (p.1.2.map B)):∀u∈ly ps,u.oneCell'=true:=by
 intro u hu;obtain⟨p,hp,hu⟩:=di.1 hu;simp only[aH,bq,or_false]at hu;rcases hu with rfl|rfl
 ·rfl
 exact rD (h p hp)
variable {l:List Dg}
theorem lz.fc {own1:Nat->Nat} {S:Nat->Prop} {b:World} (h:lz own T w v l) (ht:eJ S w b) (he:Ext w own own1) (c:∀k,k<w.heap.size->(own k=T\/own k=T+1)->¬S k):lz own1 T b v l:=by
 obtain⟨ps,d,f,g,i⟩:=h;exact⟨ps,d,f.fc ht he (fun k a e=>c k a (.inl e)),fun p hp=>(g p hp).fc ht he (fun k a e=>c k a (.inr e)),i⟩
theorem lz.nil (own:Nat->Nat) (T:Nat) (w:World):lz own T w (.slice none 0 0) []:=⟨[],rfl,Row.nil _ _ _ _ _,(fun p hp=>by cases hp),ae⟩
def gL (l:List Dg) (lost:Int) (g:Dg):List Dg×Int:=if 200<=l.length then (l,wrap64 (lost+1)) else (l++[g],lost)
theorem KE (b o:Nat) (cs:Array Value) (t:TypeId) (n c:Nat) (a:Option Addr) (lost:Int) (x:Value) (to:Int) (w:World)
 (d:Has w b (.cells cs t)) (c0:cs[o]?=some (.slice a n c)) (c1:cs[o+1]?=some (VI lost)) (g:200<=n) :
 Calls Tryz.prog 63 #[VP b o,.agg #[VI to,x]] w fun e w'=>e=.returned (.tuple #[]) /\
  w'=(w.setCell ⟨b,o+1,none⟩ (VI (wrap64 (lost+1)))).alloc (.cells #[VI to,x] 89):=by
 have h:=d.lt;have i:CC w b o (.slice a n c):=(d.cell o).trans c0;have j:CI w b (o+1) lost:=(d.cell (o+1)).trans c1;have f1:=d.frozen (o+1);have f:(200:Int)<=n:=ab;clear d c0 c1;(go_enter Tryz.func63,Tryz.ntmps63);go_wp2;refine bodyPost_ret (results_none rfl _ _ _) rfl ?_;exact⟨rfl,rfl⟩
theorem KF (d:b<w.heap.size) (f:CC w b o sl)
 (hb:Below (w.alloc (.cells #[x0,x1] t)).drew.heap.size (w.alloc (.cells #[x0,x1] t)).drew w2) :
 w.heap.size+1<=w2.heap.size/\CC w2 b o sl/\CC w2 w.heap.size 0 x0/\CC w2 w.heap.size 1 x1/\BB w w2:=by
 have e:(w.alloc (.cells #[x0,x1] t)).drew.heap.size=w.heap.size+1:=World.size_alloc _ _;have a:BB w (w.alloc (.cells #[x0,x1] t)).drew:=((Below.refl _ _).alloc (ax _) _).drew;have c:Has (w.alloc (.cells #[x0,x1] t)).drew w.heap.size (.cells #[x0,x1] t):=(Has.new w _).drew;have hs:=hb.size;rw[e]at hs hb;refine⟨hs,?_,?_,?_,a.trans (hb.mono ab)⟩
 ·exact (hb.cell (p:=⟨b,o,none⟩) ah).trans ((a.cell (p:=⟨b,o,none⟩) d).trans f)
 ·exact (hb.cell (p:=⟨w.heap.size,0,none⟩) ae).trans (c.cell 0)
 exact (hb.cell (p:=⟨w.heap.size,1,none⟩) ae).trans (c.cell 1)
variable {p:Addr}
theorem kq (h:w.cell? p=some v):∀ob,(w.alloc ob).cell? p=some v:=fun ob=>(World.cell?_alloc_lt w ob p (pP h)).trans h
variable {row:Option Nat}
theorem KG (a:w.grownBy w' row) (b:p.block<w.heap.size) (c:some p.block≠row):w'.cell? p=w.cell? p/\w'.frozen? p=w.frozen? p:=
 ⟨World.cell?_of_block (a.block _ b c),World.frozen?_of_block (a.block _ b c)⟩
theorem KH (a:w.grownBy w' row) {o:Obj} (h:Has w b o) (c:some b≠row):Has w' b o:=(a.block _ h.lt c).trans h
variable {cs:Array Value} {ob:Obj}
theorem KI (c:Has w b (.cells cs t)) (c0:cs[o]?=some sl) (h:BB w w2) (j:CC w2 w.heap.size 0 x0) (l:CC w2 w.heap.size 1 x1)
 (hs:w.heap.size+1<=w2.heap.size) (d:(w2.alloc ob).grownBy w3 row) (f:∀k,row=some k->k<w.heap.size/\k≠b) :
 CC w3 b o sl/\w3.frozen? ⟨b,o,none⟩=false/\CC w3 w.heap.size 0 x0/\CC w3 w.heap.size 1 x1/\Has w3 b (.cells cs t):=by
 have m:=c.lt;have a:Has w3 b (.cells cs t):=KH d ((c.below h m).alloc _) (fun e=>(f b e.symm).2 rfl)
 have g:∀i,w3.cell? ⟨w.heap.size,i,none⟩=w2.cell? ⟨w.heap.size,i,none⟩:=fun i=>by
  have:=(KG d (p:=⟨w.heap.size,i,none⟩) ah (fun e=>by have:=(f _ e.symm).1;simp at this)).1;rw[this,World.cell?_alloc_lt _ _ _ ah]
 exact⟨(a.cell o).trans c0,a.frozen o,(g 0).trans j,(g 1).trans l,a⟩
theorem KJ {g j:Nat} {bs:List UInt8} {to:Int} {c:Option Addr} {f i:Nat} 
 (hb:own b≠T) (I:own b≠T+1) (J:ps.map (·.1)=l) (z:Row own T w 89 2 sl l.length (ly ps)) (A:∀p∈ps,Row own (T+1) w 5 1 p.2 p.1.2.length (p.1.2.map B)) (K:(ps.filterMap (·.2.ownBlock)).Nodup)
 (W:b<w.heap.size) (L:BB w w2) (X:w.heap.size+1<=w2.heap.size) (s:w2.ownsRow (w.heap.size+1) 5 1 (.slice c f i) n (bs.map B))
 (M:Has w3 b (.cells cs t)) (N:w3.ownsRow 0 89 2 (.slice (some ⟨g,0,none⟩) (l.length+1) j) (l.length+1) (ly ps++[VI to,.slice c f i]))
 (C:(w2.alloc ob).grownBy w3 sl.ownBlock) (O:sl.ownBlock=some g\/g=w2.heap.size+1) :
 ∃D E,Ext w own D/\eJ (fun k=>k=b\/own k=T) w (w3.setCell ⟨b,o,none⟩ (.slice (some ⟨g,0,none⟩) (l.length+1) j))/\Has (w3.setCell ⟨b,o,none⟩ (.slice (some ⟨g,0,none⟩) (l.length+1) j)) b (.cells (cs.setIfInBounds o E) t) /\
  lz D T (w3.setCell ⟨b,o,none⟩ (.slice (some ⟨g,0,none⟩) (l.length+1) j)) E (l++[(to,bs)]):=by
 generalize hw4:w3.setCell ⟨b,o,none⟩ (.slice (some ⟨g,0,none⟩) (l.length+1) j)=w4;have d:∀k,sl.ownBlock=some k->k<w.heap.size/\own k=T:=fun k hk=>⟨z.lt k hk,z.2 k hk⟩
 have hT:eJ (fun k=>k=b\/own k=T) w w4:=by
  rw[<- hw4];exact ((((eJ.refl _ w).jl L (ax _)).alloc ob).grown C (fun k hk=>.inr (.inr (d k hk).2))).setCell (.inr (.inl rfl)) _
 (have F:Ext w own (fun k=>if k<w.heap.size then own k else if k<w2.heap.size then T+1 else T):=fun k hk=>by simp[hk]);have m:∀k,k≠b->w4.heap[k]?=w3.heap[k]?:=fun k hk=>by rw[<- hw4];exact Below.heap_setCell _ _ _ _ hk
 have a:∀k,(Value.slice c f i).ownBlock=some k->w.heap.size+1<=k/\k<w2.heap.size:=fun k hk=>by
  refine⟨lK s k hk,?_⟩;rcases s.2 with⟨e,_⟩|⟨P,c',Q,e,_,h,_⟩
  ·rw[e]at hk;cases hk
  rw[e]at hk;(have:P=k:=by simpa[Value.ownBlock]using hk);subst this;exact Has.lt (w:=w2) h
 refine⟨_,.slice (some ⟨g,0,none⟩) (l.length+1) j,F,hT,?_,ps++[((to,bs),.slice c f i)],by simp[J],?_,?_,?_⟩
 ·rw[<- hw4];exact M.fQ o _
 ·have G:own g=T/\g<w.heap.size\/g=w2.heap.size+1:=O.imp (fun h=>⟨(d g h).2,(d g h).1⟩) (fun h=>h)
  have Y:g≠b:=by
   rintro rfl;rcases G with h|h
   ·exact hb h.1
   omega
  refine⟨?_,fun k hk=>?_⟩
  ·rw[aE,aQ];(have e:ly (ps++[((to,bs),.slice c f i)])=ly ps++[VI to,.slice c f i]:=by simp[ly]);rw[e]
   exact oa N fun k hk=>m k (by
    have:g=k:=by simpa[Value.ownBlock]using hk
    omega)
  (obtain rfl:g=k:=by simpa[Value.ownBlock]using hk);rcases G with h|h
  ·simp[h.2,h.1]
  simp only[h];rw[if_neg ab,if_neg ab]
 ·intro p hp;rcases aN.1 hp with hp|hp
  ·exact (A p hp).fc hT F (fun k _ e h=>by
    rcases h with rfl|h
    ·exact I e
    omega)
  obtain rfl:=aD.1 hp;refine⟨?_,fun k hk=>?_⟩
  ·(have R:bs.length=n:=by have:=s.1;simpa using this);(have S:w2.ownsRow 0 5 1 (.slice c f i) bs.length (bs.map B):=by rw[R];exact mg s (bR _));refine oa S fun k hk=>?_;obtain⟨H,r⟩:=a k hk;rw[m k ab,C.block k ah (fun e=>by have:=(d k e.symm).1;omega)];exact Below.heap_alloc _ _ _ r
  obtain⟨H,r⟩:=a k hk
  show (if k<w.heap.size then own k else if k<w2.heap.size then T+1 else T)=T+1
  rw[if_neg ab,if_pos r]
 rw[List.filterMap_append,List.nodup_append];refine⟨K,?_,fun x U y hy=>?_⟩
 ·cases c<;>simp[Value.ownBlock]
 obtain⟨p,hp,u⟩:=dJ.1 U;have H:=(A p hp).lt x u
 have r:(Value.slice c f i).ownBlock=some y:=by
  obtain⟨q,V,v⟩:=dJ.1 hy;obtain rfl:=aD.1 V;exact v
 have:=(a y r).1;omega
theorem KK (own:Nat->Nat) (T b o:Nat) (cs:Array Value) (t:TypeId) (v:Value) (l:List Dg) (a:Option Addr) (n c:Nat) (bs:List UInt8) (to:Int) (w:World)
 (d:Has w b (.cells cs t)) (c0:cs[o]?=some v) (hb:own b≠T) (F:own b≠T+1) (h:lz own T w v l) (hl:l.length<200) (G:RD w w.heap.size a n bs) (hc:n<=c) (H:n<=140737488355328) :
 Calls Tryz.prog 63 #[VP b o,.agg #[VI to,.slice a n c]] w fun e w'=>e=.returned (.tuple #[]) /\
  ∃r s,Ext w own r/\eJ (fun k=>k=b\/own k=T) w w'/\Has w' b (.cells (cs.setIfInBounds o s) t)/\lz r T w' s (l++[(to,bs)]):=by
 obtain⟨i0,I,J,K,L⟩:=info_parts BL;obtain⟨ps,M,f,N,O⟩:=h;have i:=d.lt;have x:CC w b o v:=(d.cell o).trans c0;have f0:w.frozen? ⟨b,o,none⟩=false:=d.frozen o
 have hv:∃A m cap,v=.slice A m cap/\m=l.length:=by
  rcases f.1.2 with⟨rfl,P⟩|⟨g,cap,cur,rfl,_⟩
  ·exact⟨_,_,_,rfl,P.symm⟩
  exact⟨_,_,_,rfl,rfl⟩
 obtain⟨A,m,cap,rfl,hm⟩:=hv
 have HM:=Hd hm
 have Xs:m<200:=ab
 have Sr:¬(200:Int)<=m:=ab
 have y:=Hd f
 have Q:=Hd c0
 have R:Hy (∀k,(Value.slice A m cap).ownBlock=some k->k<w.heap.size/\k≠b):=fun k hk=>⟨f.lt k hk,fun e=>by subst e;exact hb (f.2 k hk)⟩
 have HB:=Hd d
 have WZ:(w.alloc (.cells #[VI to,.slice a n c] 89)).cell? ⟨w.heap.size,0,none⟩=some (VI to):=(Has.new w (.cells #[VI to,.slice a n c] 89)).cell 0
 have U0:(w.alloc (.cells #[VI to,.slice a n c] 89)).cell? ⟨w.heap.size,1,none⟩=some (.slice a n c):=(Has.new w (.cells #[VI to,.slice a n c] 89)).cell 1
 have z:RD (w.alloc (.cells #[VI to,.slice a n c] 89)).drew (w.alloc (.cells #[VI to,.slice a n c] 89)).drew.heap.size a n bs:=(G.below ((Below.refl _ _).alloc (ax _) _).drew (ax _)).more (Nat.le_of_lt (by show w.heap.size<(w.alloc _).heap.size;rw[World.size_alloc];omega))
 have S:=Hd z
 have U:(w.alloc (.cells #[VI to,.slice a n c] 89)).drew.cell? ⟨b,o,none⟩=some (.slice A m cap):=(Below.cell ((Below.refl w.heap.size w).alloc (ax _) (.cells #[VI to,.slice a n c] 89)) (p:=⟨b,o,none⟩) i).trans x
 clear hm f d c0 z
 go_enter Tryz.func63,Tryz.ntmps63
 go_wp2_with fail
 go_region_law
  (first
    |((refine step_append_lies _ ai (.tmp 21) (.tmp 28) 64 ai 0 89 i0 _ 2 32 Tryz.underlying64 I J K L ai aj (.slice A m cap) l.length (ly ps) ai (V.o.alloc _) ⟨w2.heap.size,0,none⟩ 1 1 [VI to,.slice W X Y] ai ai (xP rfl rfl) (KC rfl) ab ak ab ab (w2.heap.size+1) ae ?_);intro g PL w3 B j h Z;obtain⟨r0,aa,r1,r2,C⟩:=KI HB.o Q.o RG.o Ww Sf Qi j R.o;have Ti:=Hd C;have XQ:=Hd B;have Y6:=Hd j;have HG:=Hd h;clear B j h C hq0 Ww Sf n0 n1 n2)
    |(go_simp;go_at_call 85;refine (Kx a n c bs _ S.o hc H).mono ?_;rintro e w2 ⟨u,rfl,q,D⟩;obtain⟨W,X,Y,rfl⟩:=uR q;obtain⟨Qi,hq0,Ww,Sf,E⟩:=KF i x D;have n0:=kq hq0;have n1:=kq Ww;have n2:=kq Sf;have ZQ:=Hd q;have RG:=Hd E;have V:Hy (w2.ownsRow 0 89 2 (.slice A m cap) l.length (ly ps)):=mh y.o.1 RG.o;clear q D E))
 all_goals
  go_end0
  exact⟨rfl,KJ hb F M y.o N O i RG.o Qi (mg ZQ.o (cZ (World.size_alloc w _).symm)) Ti.o XQ.o Y6.o HG.o⟩
end eH
namespace eH
open Go.RowKit heap own fD
theorem BM (b o:Nat) (a:Option Addr) (n c:Nat) (w:World) (h:CC w b o (.slice a n c)) :
 Calls Tryz.prog 33 #[VP b o] w fun e w'=>e=.returned (VI n)/\w=w':=by
 (go_enter Tryz.func33,Tryz.ntmps33);go_wp2;go_ret;exact⟨rfl,rfl⟩
theorem BN (ps:List (Dg×Value)) (k:Nat) (p:Dg×Value) (h:ps[k]?=some p):(ly ps)[k*2]?=some (VI p.1.1)/\(ly ps)[k*2+1]?=some p.2:=by
 induction ps generalizing k with
 |nil=>simp at h
 |cons q ps ih =>
  cases k with
  |zero =>
   (obtain rfl:q=p:=by simpa using h);simp[ly]
  |succ k =>
   have:=ih k (by simpa using h);simp only[ly,bm]at this⊢;rw[aR ah,aR ah];simpa[Nat.succ_mul]using this
theorem BO (b o:Nat) (a:Option Addr) (n c:Nat) (k:Int) (w:World) (h:CC w b o (.slice a n c)) (f:¬(0<=k/\k<n)) :
 Calls Tryz.prog 42 #[VP b o,VI k] w fun e w'=>e=.returned (.tuple #[.agg #[VI 0,.slice none 0 0],.iface 70 (VI 2)])/\BB w w':=by
 have g:=pP h;by_cases d:k<0
 ·(have d0:decide (k<0)=true:=by simpa using d);(go_enter Tryz.func42,Tryz.ntmps42);go_wp2;exact bodyPost_ret (v:=.tuple #[.agg #[VI 0,.slice none 0 0],.iface 70 (VI 2)]) (by simp[results,Tryz.results42,go_sem]) rfl ⟨rfl,(Below.refl _ _).alloc (ax _) _⟩
 (have d0:decide (k<0)=false:=by simpa using d);have d1:(n:Int)<=k:=ab;(go_enter Tryz.func42,Tryz.ntmps42);go_wp2;exact bodyPost_ret (v:=.tuple #[.agg #[VI 0,.slice none 0 0],.iface 70 (VI 2)]) (by simp[results,Tryz.results42,go_sem]) rfl ⟨rfl,(Below.refl _ _).alloc (ax _) _⟩
theorem KL (tmps:Array Value) (W:World) (g:Nat) (to:Int) (u:Value) (a:tmps.getD 4 undef=VP g 0) (b:tmps.getD 5 undef=.nilIface)
 (c:Has W g (.cells #[VI to,u] 89)):(results Tryz.f42 tmps).run Tryz.prog W=.ok (.tuple #[.agg #[VI to,u],.nilIface]) W:=by
 rw[results_cell_tmp Tryz.results42,a,b];have hi:(Tryz.prog.info? 89).map (·.size)=some (#[VI to,u]:Array Value).size:=af;have:=run_loadVar_row (P:=Tryz.prog) W g 89 89 _ (0,0) _ c Tryz.underlying89 rfl hi;simp[asAddr,Result.andThen,this]
variable {α β:Type}
theorem KM (f:α->Option β) (l:List α) (k:Nat) (h:(l.filterMap f).Nodup):((l.eraseIdx k).filterMap f).Nodup:=
 h.sublist ((List.eraseIdx_sublist l k).filterMap f)
theorem sT (f:α->β) (l:List α) (k:Nat):(l.eraseIdx k).map f=(l.map f).eraseIdx k:=by
 rw[cO,cO,cF,List.map_take,List.map_drop]
theorem KO {own:Nat->Nat} {T b o k g cap:Nat} {cs:Array Value} {t:TypeId} {l:List Dg} {bs:List UInt8} {to:Int} {j:Option Addr} {m q:Nat} {ag:Option Addr} {a cg:Nat} {w c:World} {z A C D:Value} {ps:List (Dg×Value)}
 (hb:own b≠T) (E:own b≠T+1) (P:b<w.heap.size) (Q:Has w b (.cells cs t)) (r:ps.map (·.1)=l) (s:Row own T w 89 2 (.slice (some ⟨g,0,none⟩) l.length cap) l.length (ly ps))
 (F:∀p∈ps,Row own (T+1) w 5 1 p.2 p.1.2.length (p.1.2.map B)) (G:(ps.filterMap (·.2.ownBlock)).Nodup) (hp:ps[k]?=some ((to,bs),.slice j m q)) (H:Row own (T+1) w 5 1 (.slice j m q) bs.length (bs.map B))
 (I:eJ (fun J=>(Value.slice (some ⟨g,0,none⟩) l.length cap).ownBlock=some J) ((w.alloc (.cells #[z,A] 89)).alloc (.cells #[C,D] 89)) c)
 (hv:(Value.slice ag a cg).ownBlock=(Value.slice (some ⟨g,0,none⟩) l.length cap).ownBlock) (u:Row own T c 89 2 (.slice ag a cg) (l.length-1) (cut 2 k (ly ps))) (K:Has c b (.cells cs t)) {d f:Value} :
 eJ (fun k=>k=b\/own k=T) w (((c.setCell ⟨b,o,none⟩ (.slice ag a cg)).setCell ⟨w.heap.size,0,none⟩ d).setCell ⟨w.heap.size,1,none⟩ f) /\
  Has (((c.setCell ⟨b,o,none⟩ (.slice ag a cg)).setCell ⟨w.heap.size,0,none⟩ d).setCell ⟨w.heap.size,1,none⟩ f) b (.cells (cs.setIfInBounds o (.slice ag a cg)) t) /\
  lz own T (((c.setCell ⟨b,o,none⟩ (.slice ag a cg)).setCell ⟨w.heap.size,0,none⟩ d).setCell ⟨w.heap.size,1,none⟩ f) (.slice ag a cg) (l.eraseIdx k) /\
  Row own (T+1) (((c.setCell ⟨b,o,none⟩ (.slice ag a cg)).setCell ⟨w.heap.size,0,none⟩ d).setCell ⟨w.heap.size,1,none⟩ f) 5 1 (.slice j m q) bs.length (bs.map B):=by
 have i:own g=T:=s.2 g rfl;have R:g<w.heap.size:=s.lt g rfl
 have hT:eJ (fun k=>k=b\/own k=T) w (((c.setCell ⟨b,o,none⟩ (.slice ag a cg)).setCell ⟨w.heap.size,0,none⟩ d).setCell ⟨w.heap.size,1,none⟩ f):=by
  have L:eJ (fun k=>k=b\/own k=T) w c:=(((eJ.refl _ w).alloc _).alloc _).trans I (fun k S e=>.inr (by
   have:g=k:=by simpa[Value.ownBlock]using e
   rw[<- this];exact i))
  exact ((L.setCell (p:=⟨b,o,none⟩) (.inr (.inl rfl)) _).setCell (p:=⟨w.heap.size,0,none⟩) (.inl (ax _)) _).setCell (p:=⟨w.heap.size,1,none⟩) (.inl (ax _)) _
 have x:∀ {v:Value} {n:Nat} {xs:List Value},Row own (T+1) w 5 1 v n xs->Row own (T+1) (((c.setCell ⟨b,o,none⟩ (.slice ag a cg)).setCell ⟨w.heap.size,0,none⟩ d).setCell ⟨w.heap.size,1,none⟩ f) 5 1 v n xs:=fun h =>
  h.fc hT (Ext.refl _ _) (fun k _ e h=>by
   rcases h with rfl|h
   ·exact E e
   omega)
 refine⟨hT,?_,⟨ps.eraseIdx k,?_,?_,fun p hp=>x (F p (bF hp)),KM _ _ _ G⟩,x H⟩
 ·exact ((K.fQ o _).jv (p:=⟨w.heap.size,0,none⟩) ah _).jv (p:=⟨w.heap.size,1,none⟩) ah _
 ·rw[sT,r]
 have e1:(l.eraseIdx k).length=l.length-1:=cD (by rw[<- r,aX];exact (az.1 hp).1);have M:cut 2 k (ly ps)=ly (ps.eraseIdx k):=tZ 2 k _ (fun _=>rfl) ps;rw[e1,<- M];refine⟨oa u.1 fun N y=>?_,u.2⟩;rw[hv]at y;(have:g=N:=by simpa[Value.ownBlock]using y);subst this;(have O:g≠b:=by rintro rfl;exact hb i);rw[Below.heap_setCell _ _ _ _ ah,Below.heap_setCell _ _ _ _ ah,Below.heap_setCell _ _ _ _ O]
theorem BP (own:Nat->Nat) (T b o:Nat) (cs:Array Value) (t:TypeId) (v:Value) (l:List Dg) (k:Nat) (w:World)
 (q:Has w b (.cells cs t)) (c0:cs[o]?=some v) (hb:own b≠T) (V:own b≠T+1) (W:lz own T w v l) (m:k<l.length) :
 Calls Tryz.prog 42 #[VP b o,VI k] w fun e w'=>∃(u:Value) (to:Int) (bs:List UInt8) (C:Value),e=.returned (.tuple #[.agg #[VI to,u],.nilIface])/\l[k]?=some (to,bs) /\
  eJ (fun k=>k=b\/own k=T) w w'/\Has w' b (.cells (cs.setIfInBounds o C) t)/\lz own T w' C (l.eraseIdx k)/\Row own (T+1) w' 5 1 u bs.length (bs.map B):=by
 obtain⟨ps,r,s,D,N⟩:=W;obtain⟨g,cap,cur,rfl,E,x,X,O,Y,h⟩:=s.shape ab;have k0:CC w b o _:=(q.cell o).trans c0;have Z:=q.lt;have XH:=x.lt;(have Ra:g≠b:=by rintro rfl;exact hb E);obtain⟨p,hp⟩:∃p,ps[k]?=some p:=⟨_,ay (by rw[<- r]at m;simpa using m)⟩;obtain⟨P,Q⟩:=BN ps k p hp;have r0:=(kj x h (k*2) ab).1.trans P;have r1:=(kj x h (k*2+1) ab).1.trans Q;have y:=D p (aT hp);obtain⟨⟨to,bs⟩,u⟩:=p;simp only at r0 r1 y;obtain⟨c,d,f,rfl⟩:=uR y.1;(have F:Hy (l[k]?=some (to,bs)):=by rw[Hy,<- r,br,hp];rfl);have Ye:=Hd c0;have HB:=Hd q;have G:=Hd r;have Sg:=Hd s;have n:=Hd D;have H:=Hd N;have HP:=Hd hp;have I:=Hd y;have HO:=Hd E;have UE:(k:Int)<l.length:=ab;unfold maxLen at O;have aa:l.length<=9223372036854775807:=ab;have HK:=Hd m;have J:Hy (Row own T ((w.alloc (.cells #[VI 0,.slice none 0 0] 89)).alloc (.cells #[VI to,.slice c d f] 89)) 89 2 (.slice (some ⟨g,0,none⟩) l.length cap) l.length (ly ps)):=s.below (((Below.refl _ _).alloc (ax _) _).alloc ae _);clear c0 q r s D N hp y E x Y h P Q O X;(go_enter Tryz.func42,Tryz.ntmps42);(go_wp2_with fail);refine (KB own T _ l.length k (ly ps) _ J.o HK.o (KD n.o)).mono ?_;rintro e a ⟨C,rfl,R,K,i⟩;obtain⟨ag,S,cg,rfl⟩:=uR K.1;have z:∀k,k≠g->¬((Value.slice (some ⟨g,0,none⟩) l.length cap).ownBlock=some k):=fun k m e=>m (by simpa[Value.ownBlock]using e.symm);(have hz:w.heap.size+2<=a.heap.size:=by have:=i.size;simpa using this);have j:Has a w.heap.size (.cells #[VI 0,.slice none 0 0] 89):=i.has ((Has.new w _).alloc _) (z _ ab)
 have L:Has a (w.heap.size+1) (.cells #[VI to,.slice c d f] 89):=by
  refine i.has ?_ (z _ ab);have:=Has.new (w.alloc (.cells #[VI 0,.slice none 0 0] 89)) (.cells #[VI to,.slice c d f] 89);rwa [World.size_alloc]at this
 have A:Has a b (.cells cs t):=i.has ((HB.o.alloc _).alloc _) (z _ (Ne.symm Ra));have d0:CI a w.heap.size 0 0:=j.cell 0;have d1:CC a w.heap.size 1 (.slice none 0 0):=j.cell 1;have e0:a.frozen? ⟨w.heap.size,0,none⟩=false:=j.frozen 0;have e1:a.frozen? ⟨w.heap.size,1,none⟩=false:=j.frozen 1;have d2:CI a (w.heap.size+1) 0 to:=L.cell 0;have d3:CC a (w.heap.size+1) 1 (.slice c d f):=L.cell 1;have d4:CS a b o g l.length cap:=(A.cell o).trans Ye.o;have e4:a.frozen? ⟨b,o,none⟩=false:=A.frozen o;have QL:b≠w.heap.size:=ab;have U:b≠w.heap.size+1:=ab;have HV:=Hd R;have M:=Hd j;have Qu:=Hd K;have Qo:=Hd i;have Qk:=Hd A;clear R K i A j L z;go_wp2
 have hW:Has (((a.setCell ⟨b,o,none⟩ (.slice ag S cg)).setCell ⟨w.heap.size,0,none⟩ (VI to)).setCell ⟨w.heap.size,1,none⟩ (.slice c d f)) w.heap.size (.cells #[VI to,.slice c d f] 89):=
  ((M.o.jv (p:=⟨b,o,none⟩) (Ne.symm QL) _).fQ 0 _).fQ 1 _
 refine bodyPost_ret (KL _ _ w.heap.size to (.slice c d f) rfl rfl hW) rfl ⟨.slice c d f,to,bs,.slice ag S cg,rfl,F.o,?_⟩;exact KO hb V Z HB.o G.o Sg.o n.o H.o HP.o I.o Qo.o HV.o Qu.o Qk.o
end eH
namespace eH
open Go.RowKit heap own fD
theorem uS {base n m c:Nat} {a:Option Addr} {w:World} {bs:List UInt8} (h:w.ownsRow base 5 1 (.slice a m c) n (bs.map B)):m=n/\m<=c/\c<=maxLen/\RD w w.heap.size a m bs:=by
 have b:=h.1;rw[aX,Nat.mul_one]at b;rcases h.2 with⟨e,rfl⟩|⟨g,cap,cur,e,_,d,f,hc,hs,i⟩
 ·injection e with e1 e2 e3;subst e1 e2 e3;exact⟨rfl,ax _,by simp[maxLen],b,fun h=>absurd h (Nat.lt_irrefl 0)⟩
 injection e with e1 e2 e3;subst e1 e2 e3;refine⟨rfl,f,hc,b,fun k=>⟨g,0,rfl,Has.lt (w:=w) d,fun j x hj=>?_⟩⟩;show World.cell? _ _=_;rw[cN];have l:=(az.1 hj).1;rw[(kj (size:=1) (n:=m) (xs:=bs.map B) (w:=w) d i j ab).1,br,hj];rfl
theorem KP (b o:Nat) (a:Option Addr) (n c:Nat) (k:Int) (w:World) (h:CC w b o (.slice a n c)) (f:¬(0<=k/\k<n)) :
 Calls Tryz.prog 48 #[VP b o,VI k] w fun e w'=>e=.returned (.iface 70 (VI 2))/\w=w':=by
 by_cases d:k<0
 ·(have d0:decide (k<0)=true:=by simpa using d);(go_enter Tryz.func48,Tryz.ntmps48);go_wp2;go_ret;exact⟨rfl,rfl⟩
 (have d0:decide (k<0)=false:=by simpa using d);have d1:(n:Int)<=k:=ab;(go_enter Tryz.func48,Tryz.ntmps48);go_wp2;go_ret;exact⟨rfl,rfl⟩
variable {l:List Dg} {lost:Int} {g:Dg}
theorem BQ (h:200<=l.length):gL l lost g=(l,wrap64 (lost+1)):=by simp[gL,h]
theorem BR (h:l.length<200):gL l lost g=(l++[g],lost):=by simp[gL];omega
variable {cs:Array Value} {o:Nat} {v:Value}
theorem uK (h:cs[o]?=some v):cs.setIfInBounds o v=cs:=by
 apply Array.ext_getElem?;intro i;rw[dL];split
 ·rename_i e;subst e;rw[if_pos (cM.1 h).1,h]
 rfl
theorem KQ {p:Nat} (h:o≠p):(cs.setIfInBounds o v)[p]?=cs[p]?:=by
 rw[dL,if_neg h]
def uT (own:Nat->Nat) (T b o:Nat) (cs:Array Value) (t:TypeId) (l:List Dg) (lost:Int) (g:Dg) (w w':World):Prop:=
 ∃a c,Ext w own a/\eJ (fun k=>k=b\/own k=T) w w'/\Has w' b (.cells ((cs.setIfInBounds o c).setIfInBounds (o+1) (VI (gL l lost g).2)) t)/\lz a T w' c (gL l lost g).1
theorem BS (own:Nat->Nat) (T b o:Nat) (cs:Array Value) (t:TypeId) (v:Value) (l:List Dg) (lost:Int) (a:Option Addr) (n c:Nat) (bs:List UInt8) (to:Int) (w:World)
 (f:Has w b (.cells cs t)) (c0:cs[o]?=some v) (c1:cs[o+1]?=some (VI lost)) (hb:own b≠T) (r:own b≠T+1) (i:lz own T w v l) (s:RD w w.heap.size a n bs) (hc:n<=c) (u:n<=140737488355328) :
 Calls Tryz.prog 63 #[VP b o,.agg #[VI to,.slice a n c]] w fun e w'=>e=.returned (.tuple #[])/\uT own T b o cs t l lost (to,bs) w w':=by
 by_cases j:l.length<200
 ·refine (KK own T b o cs t v l a n c bs to w f c0 hb r i j s hc u).mono fun e w' ⟨he,x,y,z,B,C,D⟩=>⟨he,x,y,z,B,?_,?_⟩
  ·rw[BR j,uK (by rw[KQ ab];exact c1)];exact C
  rw[BR j];exact D
 have d:200<=l.length:=ab;have q:=i;obtain⟨ps,G,E,H,I⟩:=i
 obtain⟨A,m,cap,rfl,hm⟩:∃A m cap,v=.slice A m cap/\m=l.length:=by
  rcases E.1.2 with⟨rfl,F⟩|⟨g,cap,cur,rfl,_⟩
  ·exact⟨_,_,_,rfl,F.symm⟩
  exact⟨_,_,_,rfl,rfl⟩
 refine (KE b o cs t m cap A lost (.slice a n c) to w f c0 c1 ab).mono fun e w' ⟨he,hw⟩=>⟨he,own,.slice A m cap,Ext.refl _ _,?_,?_,?_⟩
 ·rw[hw];exact ((eJ.refl _ w).setCell (p:=⟨b,o+1,none⟩) (.inr (.inl rfl)) _).alloc _
 ·rw[BQ d,uK c0,hw];exact (f.fQ (o+1) _).alloc _
 rw[BQ d,hw];refine q.fc (S:=fun k=>k=b) (((eJ.refl (fun k=>k=b) w).setCell (p:=⟨b,o+1,none⟩) (.inr rfl) _).alloc _) (Ext.refl _ _) (fun k _ e h=>?_);subst h;rcases e with e|e
 ·exact hb e
 exact r e
theorem KR (own:Nat->Nat) (T b o:Nat) (cs:Array Value) (t:TypeId) (v:Value) (l:List Dg) (lost:Int) (k:Nat) (to:Int) (bs:List UInt8) (w:World)
 (i:Has w b (.cells cs t)) (c0:cs[o]?=some v) (c1:cs[o+1]?=some (VI lost)) (hb:own b≠T) (E:own b≠T+1) (n:lz own T w v l) (h:l[k]?=some (to,bs)) (Q:bs.length<=140737488355328) :
 Calls Tryz.prog 48 #[VP b o,VI k] w fun e w'=>e=.returned .nilIface/\uT own T b o cs t l lost (to,bs) w w':=by
 have c:=n;have q:=(az.1 h).1;obtain⟨ps,j,r,s,F⟩:=n;obtain⟨g,cap,cur,rfl,G,m,H,x,I,a⟩:=r.shape ab;have R:CC w b o _:=(i.cell o).trans c0;obtain⟨p,hp⟩:∃p,ps[k]?=some p:=⟨_,ay (by rw[<- j]at q;simpa using q)⟩
 have d:p.1=(to,bs):=by
  rw[<- j,br,hp]at h;exact aA h
 obtain⟨y,z⟩:=BN ps k p hp;have A:=(kj m a (k*2) ab).1.trans y;have J:=(kj m a (k*2+1) ab).1.trans z;have f:=s p (aT hp);rw[d]at A f;obtain⟨_,u⟩:=p;simp only at A J f;obtain⟨K,L,M,rfl⟩:=uR f.1;obtain⟨e1,B,N,D⟩:=uS f.1;have C:=Hd (BS own T b o cs t (.slice (some ⟨g,0,none⟩) l.length cap) l lost K L M bs to w i c0 c1 hb E c D B ab);have S:(k:Int)<l.length:=ab;unfold maxLen at x;have O:l.length<=9223372036854775807:=ab;clear c0 c1 i j r s F hp f G m I a y z x H d e1 B N D c h;(go_enter Tryz.func48,Tryz.ntmps48);(go_wp2_with fail);refine C.o.mono ?_;rintro e U ⟨rfl,hp⟩;have P:=Hd hp;clear hp;(go_wp2_with fail);go_ret;exact⟨rfl,P.o⟩
end eH
end Go.Proofs.YtjhdaojclilakaaGreatDoor
