/-
  A part of the proof of the law WorldLasts: WireRead, NetA, Net, NetB.
-/
import Derived.Laws.Shifts
import Derived.WalkLawsBesides
import Derived.WalkSpells
import Derived.Shelf.Bytes.SlSmallAll
import Derived.Laws.BitsAllLaws
import Derived.Laws.BitsLemmas
import Derived.Test.YtefkmcjhgoagcaaGreatDoorRows
import Derived.Deep.RegionLaw
import Derived.Deep.AppendLies
import Derived.Deep.RegionHeld3
import Derived.Deep.DrawnRows
import Derived.Laws.ResultCell
import Derived.Test.YtefkmcjhgoagcaaGreatDoorHd
import Derived.Test.YtefkmcjhgoagcaaGreatDoorP10
import Derived.Test.YtefkmcjhgoagcaaGreatDoorP11
namespace Go.Proofs.YtefkmcjhgoagcaaGreatDoor
namespace wire
open Go.RowKit heap
def RD (w : World) (bound : Nat) (A : Option Addr) (n : Nat) (l : List UInt8) : Prop:=
 l.length = n ∧ (0 < n → ∃ b off,A = some ⟨b,off,none⟩ ∧ b < bound ∧ ∀ j c,l[j]? = some c → w.cell? ⟨b,off + j,none⟩ = some (B c))
theorem RD.at_ {w : World} {bound n : Nat} {A : Option Addr} {l : List UInt8} (h : RD w bound A n l) (hn : 0 < n) :
 ∃ b off,A = some ⟨b,off,none⟩ ∧ b < bound ∧ ∀ j c,l[j]? = some c → w.cell? ⟨b,off + j,none⟩ = some (B c):=h.2 hn
theorem RD.below {w w' : World} {bound B' n : Nat} {A : Option Addr} {l : List UInt8} (h : RD w bound A n l) (hb : Below B' w w') (hB : bound ≤ B') : RD w' bound A n l:=
 ⟨h.1,fun hn => by
  obtain ⟨b,off,e,hlt,hc⟩:=h.2 hn
  exact ⟨b,off,e,hlt,fun j c hj => (hb.cell (p:=⟨b,off + j,none⟩) (by simp;omega)).trans (hc j c hj)⟩⟩
theorem RD.more {w : World} {bound bound' n : Nat} {A : Option Addr} {l : List UInt8} (h : RD w bound A n l) (hb : bound ≤ bound') : RD w bound' A n l:=
 ⟨h.1,fun hn => by
  obtain ⟨b,off,e,hlt,hc⟩:=h.2 hn
  exact ⟨b,off,e,by omega,hc⟩⟩
theorem RD.take {w : World} {bound n : Nat} {A : Option Addr} {l : List UInt8} (h : RD w bound A n l) {k : Nat} (hk : k ≤ n) : RD w bound A k (l.take k):=
 ⟨by rw [List.length_take,h.1];omega,fun hn => by
  obtain ⟨b,off,e,hlt,hc⟩:=h.2 (by omega);refine ⟨b,off,e,hlt,fun j c hj => hc j c ?_⟩
  have hjk : j < k:=by
   have:=(List.getElem?_eq_some_iff.1 hj).1;simp only [List.length_take] at this;omega
  rwa [List.getElem?_take_of_lt hjk] at hj⟩
theorem RD.setCell {w : World} {bound n : Nat} {A : Option Addr} {l : List UInt8} (h : RD w bound A n l) {p : Addr} (hp : bound ≤ p.block) (u : Value) : RD (w.setCell p u) bound A n l:=
 ⟨h.1,fun hn => by
  obtain ⟨b,off,e,hlt,hc⟩:=h.2 hn
  exact ⟨b,off,e,hlt,fun j c hj => (World.cell?_setCell_other w p ⟨b,off + j,none⟩ u (fun e => by subst e;simp at hp;omega)).trans (hc j c hj)⟩⟩
theorem RD.drop {w : World} {bound n : Nat} {A : Option Addr} {l : List UInt8} (h : RD w bound A n l) {k cap : Nat} (hk : k ≤ n) (hc : n ≤ cap) :
 RD w bound (if cap = k then A else A.map (·.add k)) (n - k) (l.drop k):=by
 refine ⟨by rw [List.length_drop,h.1],fun hn => ?_⟩;obtain ⟨b,off,rfl,hlt,hcell⟩:=h.2 (by omega);rw [if_neg (by omega)];refine ⟨b,off + k,?_,hlt,fun j c hj => ?_⟩
 ·by_cases h0 : k = 0 <;> simp [Addr.add,h0]
 ·rw [List.getElem?_drop] at hj;have:=hcell _ c hj;rwa [show off + k + j = off + (k + j) from by omega]
def nCells (l : List Int) : Array Value:=msgCells (l.getD 0 0) (l.getD 1 0) (l.getD 2 0) (l.getD 3 0) (l.getD 4 0) (l.getD 5 0) (l.getD 6 0) false ByteArray.empty
theorem nCells_set (l : List Int) (k : Nat) (x : Int) (hk : k < 7) (hl : l.length = k) : (nCells l).setIfInBounds k (.int .i64 x) = nCells (l ++ [x]):=by
 match k,hk with
 | 0,_ => obtain rfl:=List.eq_nil_of_length_eq_zero hl;rfl
 | 1,_ => match l,hl with | [a],_ => rfl
 | 2,_ => match l,hl with | [a,b],_ => rfl
 | 3,_ => match l,hl with | [a,b,c],_ => rfl
 | 4,_ => match l,hl with | [a,b,c,d],_ => rfl
 | 5,_ => match l,hl with | [a,b,c,d,e],_ => rfl
 | 6,_ => match l,hl with | [a,b,c,d,e,f],_ => rfl
def ReadsTo (bs : List UInt8) (l : List Int) (k : Nat) (rest : List UInt8) : Prop:=
 readsN 7 bs = match readsN (7 - k) rest with | none => none | some (ns,r) => some (l ++ ns,r)
theorem ReadsTo.zero (bs : List UInt8) : ReadsTo bs [] 0 bs:=by
 unfold ReadsTo;cases readsN (7 - 0) bs <;> simp
def Part (bs : List UInt8) (j acc : Nat) : Prop:=
 readN bs = match readF (6 - j) (decide (j = 0)) (bs.drop j) with | none => none | some (n,r) => some (acc + 128 ^ j * n,r)
theorem Part.zero (bs : List UInt8) : Part bs 0 0:=by
 unfold Part readN;simp;cases readF 6 true bs <;> simp
theorem convert_RD {w : World} {bound n cap : Nat} {A : Option Addr} {l : List UInt8} (h : RD w bound A n l) :
 (convert 56 9 (.slice A n cap)).run Tryz.prog w = .ok (.string ⟨l.toArray⟩) w:=by
 rcases Nat.eq_zero_or_pos n with h0 | h0
 ·subst h0;have:=List.eq_nil_of_length_eq_zero h.1;subst this;exact run_convert_bytes_zero w _ _ Tryz.underlying56 Tryz.underlying5 A cap _ Tryz.underlying9
 ·obtain ⟨b,off,rfl,_,hc⟩:=h.2 h0;have hl:=h.1;subst hl;refine run_convert_bytes_back w _ _ _ ⟨b,off,none⟩ cap l Tryz.underlying56 Tryz.underlying5 Tryz.underlying9 (fun j hj => ?_);have:=hc j _ (List.getElem?_eq_getElem hj);rw [show (⟨b,off,none⟩ : Addr).add j = ⟨b,off + j,none⟩ from by by_cases h0 : j = 0 <;> simp [Addr.add,h0]];exact this
theorem and_all : ∀ n : Fin 256,bits BinOp.and IntKind.u8 (n.val : Int) 127 = ((n.val % 128 : Nat) : Int):=by decide +kernel
theorem ofInt_i64 (a : Nat) (ha : a < 9223372036854775808) : (BitVec.ofInt 64 (a : Int)).toNat = a:=by
 rw [BitVec.ofInt_natCast,BitVec.toNat_ofNat];exact Nat.mod_eq_of_lt (by omega)
theorem or_i64 (a b : Nat) (ha : a < 9223372036854775808) (hb : b < 9223372036854775808) : bits .or .i64 (a : Int) (b : Int) = ((a ||| b : Nat) : Int):=by
 have hx : a ||| b < 2 ^ 63:=Nat.or_lt_two_pow (by omega) (by omega);show IntKind.i64.wrap ((BitVec.ofInt 64 (a : Int) ||| BitVec.ofInt 64 (b : Int)).toNat : Int) = _;rw [BitVec.toNat_or,ofInt_i64 a ha,ofInt_i64 b hb,IntKind.wrap_i64];omega
theorem pow128 (j : Nat) : (2 : Nat) ^ (7 * j) = 128 ^ j:=by rw [Nat.pow_mul]
theorem pow_le (j : Nat) (h : j < 6) : 128 ^ j ≤ 34359738368:=by
 have : 128 ^ j ≤ 128 ^ 5:=Nat.pow_le_pow_right (by omega) (by omega);(have e : (128 ^ 5 : Nat) = 34359738368:=by decide);omega
theorem and_byte (c : UInt8) : bits BinOp.and IntKind.u8 (c.toNat : Int) 127 = ((c.toNat % 128 : Nat) : Int):=by
 have h:=c.toNat_lt;exact and_all ⟨c.toNat,h⟩
theorem wrap_small (n : Nat) (h : n ≤ 4611686018427387904) : wrap64 (n : Int) = n:=by rw [IntWalk.wrap64_in];omega
theorem or_add (acc p j x : Nat) (hp : p = 2 ^ (7 * j)) (ha : acc < p) : acc ||| x * p = acc + p * x:=by
 subst hp;have e3:=Nat.two_pow_add_eq_or_of_lt (i:=7 * j) (b:=acc) ha x;rw [Nat.mul_comm x,Nat.or_comm,← e3,Nat.add_comm]
theorem pow_cast (j : Nat) : (2 : Int) ^ (7 * j) = ((2 ^ (7 * j) : Nat) : Int):=by simp
theorem acc_step (acc j : Nat) (c : UInt8) (hj : j < 6) (ha : acc < 128 ^ j) :
 bits BinOp.or IntKind.i64 (acc : Int) (wrap64 (wrap64 (bits BinOp.and IntKind.u8 (c.toNat : Int) 127) * 2 ^ (7 * j))) = ((acc + 128 ^ j * (c.toNat % 128) : Nat) : Int):=by
 have h2:=pow_le j hj;have hx : c.toNat % 128 < 128:=Nat.mod_lt _ (by omega);rw [and_byte];generalize c.toNat % 128 = x at hx ⊢;have hp:=pow128 j;rw [pow_cast,hp];have hp' : 128 ^ j = 2 ^ (7 * j):=hp.symm;clear hp;generalize 128 ^ j = p at *;have h3 : x * p ≤ 127 * 34359738368:=Nat.mul_le_mul (by omega) h2;rw [wrap_small x (by omega),← Int.natCast_mul,wrap_small (x * p) (by omega),or_i64 _ _ (by omega) (by omega),or_add acc p j x hp' ha]
theorem acc_lt (acc j : Nat) (c : UInt8) (ha : acc < 128 ^ j) : acc + 128 ^ j * (c.toNat % 128) < 128 ^ (j + 1):=by
 have h : 128 ^ j * (c.toNat % 128) ≤ 128 ^ j * 127:=Nat.mul_le_mul_left _ (by omega);rw [Nat.pow_succ];omega
theorem drop_cons (bs : List UInt8) (j : Nat) (c : UInt8) (h : bs[j]? = some c) : bs.drop j = c :: bs.drop (j + 1):=by
 obtain ⟨hj,rfl⟩:=List.getElem?_eq_some_iff.1 h;exact List.drop_eq_getElem_cons hj
theorem Part.more {bs : List UInt8} {j acc : Nat} {c : UInt8} (h : Part bs j acc) (hj : j < 6) (hc : bs[j]? = some c) (h128 : ¬ c.toNat < 128) : Part bs (j + 1) (acc + 128 ^ j * (c.toNat % 128)):=by
 unfold Part at h ⊢;rw [h,drop_cons bs j c hc];(have e : 6 - j = (6 - (j + 1)) + 1:=by omega);rw [e];simp only [readF];rw [if_neg h128,show decide (j + 1 = 0) = false from rfl]
 cases readF (6 - (j + 1)) false (bs.drop (j + 1)) with
 | none => rfl
 | some p =>
  simp only [Option.some.injEq,Prod.mk.injEq,and_true];rw [Nat.pow_succ,Nat.mul_add,← Nat.add_assoc,Nat.mul_assoc]
theorem Part.done {bs : List UInt8} {j acc : Nat} {c : UInt8} (h : Part bs j acc) (hj : j < 6) (hc : bs[j]? = some c) (h128 : c.toNat < 128) (h0 : ¬ (c.toNat = 0 ∧ 0 < j)) :
 readN bs = some (acc + 128 ^ j * (c.toNat % 128),bs.drop (j + 1)):=by
 unfold Part at h;rw [h,drop_cons bs j c hc];(have e : 6 - j = (6 - (j + 1)) + 1:=by omega);rw [e];simp only [readF];rw [if_pos h128,if_neg (by simp;omega)];simp only [Nat.mod_eq_of_lt h128]
theorem Part.bad {bs : List UInt8} {j acc : Nat} {c : UInt8} (h : Part bs j acc) (hj : j < 6) (hc : bs[j]? = some c) (h0 : c.toNat = 0) (hp : 0 < j) : readN bs = none:=by
 unfold Part at h;rw [h,drop_cons bs j c hc];(have e : 6 - j = (6 - (j + 1)) + 1:=by omega);rw [e];simp only [readF];rw [if_pos (by omega),if_pos (by simp;omega)]
theorem Part.short {bs : List UInt8} {j acc : Nat} (h : Part bs j acc) (hj : 6 ≤ j ∨ bs.length ≤ j) : readN bs = none:=by
 unfold Part at h;rw [h];rcases Nat.lt_or_ge j 6 with h6 | h6
 ·(have e : 6 - j = (6 - (j + 1)) + 1:=by omega);rw [e,List.drop_eq_nil_of_le (by omega)];simp [readF]
 ·rw [show 6 - j = 0 from by omega];simp [readF]
theorem ReadsTo.step {bs rest r : List UInt8} {l : List Int} {k x : Nat} (h : ReadsTo bs l k rest) (hk : k < 7) (hx : readN rest = some (x,r)) : ReadsTo bs (l ++ [(x : Int)]) (k + 1) r:=by
 unfold ReadsTo at h ⊢;rw [h,show 7 - k = (7 - (k + 1)) + 1 from by omega];simp only [readsN,hx];cases readsN (7 - (k + 1)) r <;> simp
theorem ReadsTo.none_ {bs rest : List UInt8} {l : List Int} {k : Nat} (h : ReadsTo bs l k rest) (hk : k < 7) (hx : readN rest = none) : decB bs = none:=by
 unfold ReadsTo at h;unfold decB;rw [h,show 7 - k = (7 - (k + 1)) + 1 from by omega];simp only [readsN,hx]
theorem ReadsTo.end_ {bs rest : List UInt8} {l : List Int} (h : ReadsTo bs l 7 rest) : decB bs = tailB l rest:=by
 unfold ReadsTo at h;unfold decB;rw [h];simp [readsN]
end wire
namespace net
open Go.RowKit heap own wire
theorem cell_lt {w : World} {a : Addr} {v : Value} (h : w.cell? a = some v) : a.block < w.heap.size:=by
 rcases Nat.lt_or_ge a.block w.heap.size with h' | h'
 ·exact h'
 ·simp [World.cell?,Array.getElem?_eq_none h'] at h
set_option maxHeartbeats 1000000 in
set_option maxRecDepth 100000 in
theorem Clone_any (A : Option Addr) (n cap : Nat) (bs : List UInt8) (w : World) (hrd : RD w w.heap.size A n bs) (hcap : n ≤ cap) (hn : n ≤ 140737488355328) :
 Calls Tryz.prog 86 #[.slice A n cap] w fun e w' => ∃ v,e = .returned v ∧ w'.ownsRow w.heap.size 5 1 v n (bs.map B) ∧ Below w.heap.size w w':=by
 obtain ⟨i0,hi0,hz0,hz1,hz2⟩:=info_parts info5;have hnil:=fun (w : World) (a : Option Addr) (n c : Nat) => Lib.run_eql_slice_nil (P:=Tryz.prog) w 56 5 a n c 0 0 Tryz.underlying56
 cases A with
 | none =>
  obtain rfl : n = 0:=by
   rcases Nat.eq_zero_or_pos n with h | h
   ·exact h
   ·obtain ⟨_,_,e,_⟩:=hrd.2 h;cases e
  have hb : bs = []:=List.eq_nil_of_length_eq_zero hrd.1;have HB:=Hd hb;clear hb hrd;(go_enter Tryz.func86,Tryz.ntmps86);(go_wp2_with fail);go_ret;exact ⟨_,rfl,by rw [HB.out];exact ⟨rfl,.inl ⟨rfl,rfl⟩⟩,Below.refl _ _⟩
 | some ad =>
  have HRD:=Hd hrd;have hl:=Hd hrd.1
  have hnews : Hid (∀ (j : Nat) (u : Value),(bs.map B)[j]? = some u → w.cell? (ad.add j) = some u):=by
   intro j u hj;rw [List.getElem?_map] at hj
   cases hb : bs[j]? with
   | none => rw [hb] at hj;cases hj
   | some c =>
    rw [hb] at hj;obtain rfl:=Option.some.inj hj;have hlt:=(List.getElem?_eq_some_iff.1 hb).1;obtain ⟨b,off,e,_,hc⟩:=hrd.2 (by rw [← hrd.1];omega);obtain rfl:=Option.some.inj e;rw [show (⟨b,off,none⟩ : Addr).add j = ⟨b,off + j,none⟩ from by by_cases h0 : j = 0 <;> simp [Addr.add,h0]];exact hc j c hb
  clear hrd;(go_enter Tryz.func86,Tryz.ntmps86);have hne : Hid ((w.alloc (.cells #[] 5)).ownsRow w.heap.size 5 1 (.slice (some ⟨w.heap.size,0,none⟩) 0 0) 0 []):=owns_new (l:=[]) (Has.new w (.cells #[] 5)) (Nat.le_refl _) rfl (Nat.zero_le _);(go_wp2_with (at_builtin;refine wpList_append_own _ rfl (.tmp 5) (.tmp 6) 56 rfl w.heap.size 5 i0 (.int .u8 0) 1 1 Tryz.underlying56 hi0 hz0 hz1 hz2 rfl (by decide) _ _ _ rfl hne.out ad n cap (bs.map B) rfl ?c0 ?c1 ?c2 ?c3 ?c4 ?c5 ?_));case c0 => rw [List.length_map,hl.out,Nat.mul_one]
  case c1 =>
   intro j u hj;have:=hnews.out j u hj;have hlt:=(cell_lt this);rw [World.cell?_alloc_lt _ _ _ hlt];exact this
  (case c2 => exact B_one _);(case c3 => unfold maxLen;omega);(case c4 => omega);(case c5 => simp);intro v w2 hown hg _;have HO:=Hd hown;have hb : Below w.heap.size w w2:=((Below.refl _ _).alloc (Nat.le_refl _) _).grown hg (by simp) (fun k hk => by cases hk;exact Nat.le_refl _);clear hown hg;go_wp2;go_ret;exact ⟨_,rfl,HO.out,hb⟩
def gramZero : List Value:=[.int .i64 0,.slice none 0 0]
theorem gramZero_cells : (Builtin.zeroCells (Value.agg #[.int .i64 0,.slice none 0 0]).cells 1).toList = gramZero:=by kernel_rfl
theorem gramZero_one : ∀ v ∈ gramZero,v.oneCell' = true:=by simp [gramZero,Value.oneCell']
theorem infoGram : (Tryz.prog.info? 89).map (fun i => (i.zero,i.size,i.bytes)) = some (some (.agg #[.int .i64 0,.slice none 0 0]),2,32):=by kernel_rfl
theorem zeroGram (w : World) : (zeroValue 89).run Tryz.prog w = .ok (.agg #[.int .i64 0,.slice none 0 0]) w:=by kernel_rfl
set_option maxHeartbeats 1000000 in
set_option maxRecDepth 100000 in
theorem DelGram_any (own : Nat → Nat) (T : Nat) (v : Value) (n k : Nat) (xs : List Value) (w : World) (h : Row own T w 89 2 v n xs) (hk : k < n) (hone : ∀ u ∈ xs,u.oneCell' = true) :
 Calls Tryz.prog 66 #[v,.int .i64 k,.int .i64 ((k : Int) + 1)] w fun e w' => ∃ v',e = .returned v' ∧ v'.ownBlock = v.ownBlock ∧ Row own T w' 89 2 v' (n - 1) (cut 2 k xs) ∧ Turn (fun g => v.ownBlock = some g) w w':=by
 obtain ⟨i0,hi0,hz0,hz1,hz2⟩:=info_parts infoGram;obtain ⟨g,cap,cur,rfl,ho,hh,hnc,hcm,hcs,hcx⟩:=h.shape (by omega);have hxl : xs.length = n * 2:=h.1.1;have HX:=Hd hxl;have HC:=Hd (row_cut (k:=k) (zs:=gramZero) ho hh.drew hnc hcm hcs hcx hk rfl)
 have HT : Hid (Turn (fun b => (Value.slice (some ⟨g,0,none⟩) n cap).ownBlock = some b) w ((w.drew.setCells g (k * 2) (xs.drop ((k + 1) * 2))).setCells g ((n - 1) * 2) gramZero)):=
  turn_two (S:=fun b => (Value.slice (some ⟨g,0,none⟩) n cap).ownBlock = some b) rfl w _ _ _ _
 obtain ⟨A,hA,hsrc⟩ : ∃ A : Addr,(if cap = k + 1 then (some ⟨g,0,none⟩ : Option Addr) else some ⟨g,(k + 1) * 2,none⟩) = some A ∧ Hid (∀ t u,(xs.drop ((k + 1) * 2))[t]? = some u → w.drew.cell? (A.add t) = some u):=by
  by_cases h : cap = k + 1
  ·refine ⟨⟨g,0,none⟩,by simp [h],fun t u hu => ?_⟩;have:=(List.getElem?_eq_some_iff.1 hu).1;simp at this;omega
  ·refine ⟨⟨g,(k + 1) * 2,none⟩,by simp [h],fun t u hu => ?_⟩;rw [List.getElem?_drop] at hu;have hlt:=(List.getElem?_eq_some_iff.1 hu).1;have:=(row_cell hh hcx ((k + 1) * 2 + t) (by omega)).1;rw [show (⟨g,(k + 1) * 2,none⟩ : Addr).add t = ⟨g,(k + 1) * 2 + t,none⟩ from by by_cases h0 : t = 0 <;> simp [Addr.add,h0]];exact this.trans hu
 (have s1 : Hid ((xs.drop ((k + 1) * 2)).length = (n - (k + 1)) * 2):=by rw [Hid,List.length_drop,hxl];omega);have s2 : Hid (∀ u ∈ xs.drop ((k + 1) * 2),u.oneCell' = true):=fun u hu => hone u (List.mem_of_mem_drop hu)
 have s3 : Hid (∀ t,t < (xs.drop ((k + 1) * 2)).length → (w.drew.cell? ⟨g,0 + k * 2 + t,none⟩).isSome = true ∧ w.drew.frozen? ⟨g,0 + k * 2 + t,none⟩ = false):=by
  intro t ht;rw [List.length_drop,hxl] at ht;rw [Nat.zero_add];exact row_there hh.drew hcs _ (by omega)
 obtain ⟨W1,hW1⟩ : ∃ W1,W1 = w.drew.setCells g (0 + k * 2) (xs.drop ((k + 1) * 2)):=⟨_,rfl⟩;have hW1' : Hid (W1 = w.drew.setCells g (k * 2) (xs.drop ((k + 1) * 2))):=by rw [hW1,Nat.zero_add];rfl
 have hcl : ∀ ty,(Builtin.clear_ #[64] ty #[.slice (some ⟨g,(k + (n - (k + 1))) * 2,none⟩) (n - (k + (n - (k + 1)))) (cap - (k + (n - (k + 1))))]).run Tryz.prog W1 = .ok (.tuple #[]) (W1.setCells g ((n - 1) * 2) gramZero):=fun ty => by
  rw [show k + (n - (k + 1)) = n - 1 from by omega,show n - (n - 1) = 1 from by omega];(have hh1 : Has W1 g (.cells (lay cur (k * 2) (xs.drop ((k + 1) * 2))) 89):=by rw [hW1'.out];exact Has.setCells _ hh.drew _);exact run_clear_one W1 _ _ ty _ gramZero Tryz.underlying64 (zeroGram _) gramZero_cells gramZero_one g _ _ (fun j hj => (row_there hh1 (by rw [lay_size,hcs]) _ (by have e : gramZero.length = 2:=rfl;rw [e] at hj;omega)).1) (fun j hj => hh1.frozen _)
 have HW:=Hd hW1
 have hkc : k + 1 ≤ cap:=by omega
 have hkc0 : k ≤ cap:=by omega
 have g1 : (0 : Int) ≤ (k : Int) + 1:=by omega
 have g2 : (k : Int) + 1 ≤ (n : Int):=by omega
 unfold maxLen at hcm
 clear hW1 h hh hcs hcx hxl hone ho
 go_enter Tryz.func66,Tryz.ntmps66
 go_wp2_with fail
 go_region_law (refine step_append_room rfl (.tmp 22) (.tmp 25) 64 rfl 89 i0 2 Tryz.underlying64 hi0 hz1 g 0 k cap (by simp [Act.eval,Act.put]) A (n - (k + 1)) (cap - (k + 1)) (xs.drop ((k + 1) * 2)) (by simp [Act.eval,Act.put]) s1.out hsrc.out s2.out (by omega) s3.out ?_;rw [← HW.out])
 go_wp2;go_ret;refine ⟨_,rfl,rfl,?_,?_⟩
 ·show Row own T (W1.setCells g ((n - 1) * 2) gramZero) _ 2 (.slice (some ⟨g,0,none⟩) (k + (n - (k + 1))) cap) _ _;rw [show k + (n - (k + 1)) = n - 1 from by omega,hW1'.out];exact HC.out
 ·rw [hW1'.out];exact HT.out
attribute [local go_sem ↓] Go.wp_at_zero Go.wp_at_succ
abbrev Dg:=Int × List UInt8
def gcells (ps : List (Dg × Value)) : List Value:=ps.flatMap fun p => [.int .i64 p.1.1,p.2]
def Grams (own : Nat → Nat) (T : Nat) (w : World) (v : Value) (l : List Dg) : Prop:=
 ∃ ps : List (Dg × Value),ps.map (·.1) = l ∧ Row own T w 89 2 v l.length (gcells ps) ∧
  (∀ p ∈ ps,Row own (T + 1) w 5 1 p.2 p.1.2.length (p.1.2.map B)) ∧ (ps.filterMap (·.2.ownBlock)).Nodup
theorem row_slice {own : Nat → Nat} {T n size : Nat} {w : World} {e : TypeId} {v : Value} {xs : List Value} (h : Row own T w e size v n xs) : v.oneCell' = true:=by
 rcases h.1.2 with ⟨rfl,_⟩ | ⟨g,cap,cur,rfl,_⟩ <;> rfl
theorem owns_any {base n size : Nat} {w : World} {e : TypeId} {v : Value} {xs : List Value} (h : w.ownsRow base e size v n xs) : ∃ a m c,v = .slice a m c:=by
 rcases h.2 with ⟨rfl,_⟩ | ⟨g,cap,cur,rfl,_⟩ <;> exact ⟨_,_,_,rfl⟩
theorem two_one {k : IntKind} {n : Int} {u : Value} (h : u.oneCell' = true) : ∀ x ∈ [Value.int k n,u],x.oneCell' = true:=by
 intro x hx;simp only [List.mem_cons,List.not_mem_nil,or_false] at hx;rcases hx with rfl | rfl
 ·rfl
 ·exact h
theorem gcells_one {own : Nat → Nat} {T : Nat} {w : World} {ps : List (Dg × Value)} (h : ∀ p ∈ ps,Row own T w 5 1 p.2 p.1.2.length (p.1.2.map B)) : ∀ u ∈ gcells ps,u.oneCell' = true:=by
 intro u hu;obtain ⟨p,hp,hu⟩:=List.mem_flatMap.1 hu;simp only [List.mem_cons,List.not_mem_nil,or_false] at hu;rcases hu with rfl | rfl
 ·rfl
 ·exact row_slice (h p hp)
theorem Grams.keep {own own1 : Nat → Nat} {T : Nat} {S : Nat → Prop} {w w1 : World} {v : Value} {l : List Dg} (h : Grams own T w v l) (ht : Turn S w w1) (he : Ext w own own1) (hn : ∀ k,k < w.heap.size → (own k = T ∨ own k = T + 1) → ¬ S k) : Grams own1 T w1 v l:=by
 obtain ⟨ps,h1,h2,h3,h4⟩:=h;exact ⟨ps,h1,h2.keep ht he (fun k hk e => hn k hk (.inl e)),fun p hp => (h3 p hp).keep ht he (fun k hk e => hn k hk (.inr e)),h4⟩
def sent (l : List Dg) (lost : Int) (g : Dg) : List Dg × Int:=if 200 ≤ l.length then (l,wrap64 (lost + 1)) else (l ++ [g],lost)
theorem Send_full (b o : Nat) (cs : Array Value) (t : TypeId) (n c : Nat) (a : Option Addr) (lost : Int) (x : Value) (to : Int) (w : World)
 (hB : Has w b (.cells cs t)) (c0 : cs[o]? = some (.slice a n c)) (c1 : cs[o + 1]? = some (.int .i64 lost)) (hl : 200 ≤ n) :
 Calls Tryz.prog 64 #[.pointer (some ⟨b,o,none⟩),.agg #[.int .i64 to,x]] w fun e w' => e = .returned (.tuple #[]) ∧
  w' = (w.setCell ⟨b,o + 1,none⟩ (.int .i64 (wrap64 (lost + 1)))).alloc (.cells #[.int .i64 to,x] 89):=by
 have hlt:=hB.lt;have k0 : w.cell? ⟨b,o,none⟩ = some (.slice a n c):=(hB.cell o).trans c0;have k1 : w.cell? ⟨b,o + 1,none⟩ = some (.int .i64 lost):=(hB.cell (o + 1)).trans c1;have f1:=hB.frozen (o + 1);(have hl' : (200 : Int) ≤ n:=by omega);clear hB c0 c1;(go_enter Tryz.func64,Tryz.ntmps64);go_wp2;refine bodyPost_ret (results_none rfl _ _ _) rfl ?_;exact ⟨rfl,rfl⟩
theorem boxed2 {w w2 : World} {x0 x1 sl : Value} {t : TypeId} {b o : Nat} (hlt : b < w.heap.size) (k0 : w.cell? ⟨b,o,none⟩ = some sl)
 (hb : Below (w.alloc (.cells #[x0,x1] t)).drew.heap.size (w.alloc (.cells #[x0,x1] t)).drew w2) :
 w.heap.size + 1 ≤ w2.heap.size ∧ w2.cell? ⟨b,o,none⟩ = some sl ∧ w2.cell? ⟨w.heap.size,0,none⟩ = some x0 ∧ w2.cell? ⟨w.heap.size,1,none⟩ = some x1 ∧ Below w.heap.size w w2:=by
 have e : (w.alloc (.cells #[x0,x1] t)).drew.heap.size = w.heap.size + 1:=World.size_alloc _ _;have h0 : Below w.heap.size w (w.alloc (.cells #[x0,x1] t)).drew:=((Below.refl _ _).alloc (Nat.le_refl _) _).drew;have hn : Has (w.alloc (.cells #[x0,x1] t)).drew w.heap.size (.cells #[x0,x1] t):=(Has.new w _).drew;have hs:=hb.size;rw [e] at hs hb;refine ⟨hs,?_,?_,?_,h0.trans (hb.mono (by omega))⟩
 ·exact (hb.cell (p:=⟨b,o,none⟩) (by simp;omega)).trans ((h0.cell (p:=⟨b,o,none⟩) hlt).trans k0)
 ·exact (hb.cell (p:=⟨w.heap.size,0,none⟩) (by simp)).trans (hn.cell 0)
 ·exact (hb.cell (p:=⟨w.heap.size,1,none⟩) (by simp)).trans (hn.cell 1)
theorem alloc_cell {w : World} {p : Addr} {v : Value} (h : w.cell? p = some v) : ∀ ob,(w.alloc ob).cell? p = some v:=fun ob => (World.cell?_alloc_lt w ob p (cell_lt h)).trans h
theorem grown_cell {w w' : World} {row : Option Nat} (hg : w.grownBy w' row) {p : Addr} (hlt : p.block < w.heap.size) (hne : some p.block ≠ row) : w'.cell? p = w.cell? p ∧ w'.frozen? p = w.frozen? p:=
 ⟨World.cell?_of_block (hg.block _ hlt hne),World.frozen?_of_block (hg.block _ hlt hne)⟩
theorem grown_has {w w' : World} {row : Option Nat} (hg : w.grownBy w' row) {b : Nat} {o : Obj} (h : Has w b o) (hne : some b ≠ row) : Has w' b o:=(hg.block _ h.lt hne).trans h
theorem boxed3 {w w2 w3 : World} {x0 x1 sl : Value} {t : TypeId} {b o : Nat} {cs : Array Value} {ob : Obj} {row : Option Nat} (hB : Has w b (.cells cs t)) (c0 : cs[o]? = some sl) (hbw : Below w.heap.size w w2) (hq1 : w2.cell? ⟨w.heap.size,0,none⟩ = some x0) (hq2 : w2.cell? ⟨w.heap.size,1,none⟩ = some x1)
 (hs : w.heap.size + 1 ≤ w2.heap.size) (hg : (w2.alloc ob).grownBy w3 row) (hr : ∀ k,row = some k → k < w.heap.size ∧ k ≠ b) :
 w3.cell? ⟨b,o,none⟩ = some sl ∧ w3.frozen? ⟨b,o,none⟩ = false ∧ w3.cell? ⟨w.heap.size,0,none⟩ = some x0 ∧ w3.cell? ⟨w.heap.size,1,none⟩ = some x1 ∧ Has w3 b (.cells cs t):=by
 have hlt:=hB.lt;have h3 : Has w3 b (.cells cs t):=grown_has hg ((hB.below hbw hlt).alloc _) (fun e => (hr b e.symm).2 rfl)
 have hz : ∀ i,w3.cell? ⟨w.heap.size,i,none⟩ = w2.cell? ⟨w.heap.size,i,none⟩:=fun i => by
  have:=(grown_cell hg (p:=⟨w.heap.size,i,none⟩) (by simp;omega) (fun e => by have:=(hr _ e.symm).1;simp at this)).1;rw [this,World.cell?_alloc_lt _ _ _ (by simp;omega)]
 exact ⟨(h3.cell o).trans c0,h3.frozen o,(hz 0).trans hq1,(hz 1).trans hq2,h3⟩
theorem sent_done {own : Nat → Nat} {T b o n g cap' : Nat} {cs : Array Value} {t : TypeId} {sl : Value} {l : List Dg} {bs : List UInt8} {to : Int} {au : Option Addr} {nu cu : Nat} {w w2 w3 : World} {ob : Obj} {ps : List (Dg × Value)}
 (hb : own b ≠ T) (hb1 : own b ≠ T + 1) (hps : ps.map (·.1) = l) (hrow : Row own T w 89 2 sl l.length (gcells ps)) (hbytes : ∀ p ∈ ps,Row own (T + 1) w 5 1 p.2 p.1.2.length (p.1.2.map B)) (hnd : (ps.filterMap (·.2.ownBlock)).Nodup)
 (hlt : b < w.heap.size) (hbw : Below w.heap.size w w2) (hs2 : w.heap.size + 1 ≤ w2.heap.size) (ho2 : w2.ownsRow (w.heap.size + 1) 5 1 (.slice au nu cu) n (bs.map B))
 (hB3 : Has w3 b (.cells cs t)) (ho3 : w3.ownsRow 0 89 2 (.slice (some ⟨g,0,none⟩) (l.length + 1) cap') (l.length + 1) (gcells ps ++ [.int .i64 to,.slice au nu cu]))
 (hg3 : (w2.alloc ob).grownBy w3 sl.ownBlock) (hg : sl.ownBlock = some g ∨ g = w2.heap.size + 1) :
 ∃ own' v',Ext w own own' ∧ Turn (fun k => k = b ∨ own k = T) w (w3.setCell ⟨b,o,none⟩ (.slice (some ⟨g,0,none⟩) (l.length + 1) cap')) ∧ Has (w3.setCell ⟨b,o,none⟩ (.slice (some ⟨g,0,none⟩) (l.length + 1) cap')) b (.cells (cs.setIfInBounds o v') t) ∧
  Grams own' T (w3.setCell ⟨b,o,none⟩ (.slice (some ⟨g,0,none⟩) (l.length + 1) cap')) v' (l ++ [(to,bs)]):=by
 generalize hw4 : w3.setCell ⟨b,o,none⟩ (.slice (some ⟨g,0,none⟩) (l.length + 1) cap') = w4;have hrb : ∀ k,sl.ownBlock = some k → k < w.heap.size ∧ own k = T:=fun k hk => ⟨hrow.lt k hk,hrow.2 k hk⟩
 have hT : Turn (fun k => k = b ∨ own k = T) w w4:=by
  rw [← hw4];exact ((((Turn.refl _ w).then_below hbw (Nat.le_refl _)).alloc ob).grown hg3 (fun k hk => .inr (.inr (hrb k hk).2))).setCell (.inr (.inl rfl)) _
 (have hE : Ext w own (fun k => if k < w.heap.size then own k else if k < w2.heap.size then T + 1 else T):=fun k hk => by simp [hk]);have hset : ∀ k,k ≠ b → w4.heap[k]? = w3.heap[k]?:=fun k hk => by rw [← hw4];exact Below.heap_setCell _ _ _ _ hk
 have hblk : ∀ k,(Value.slice au nu cu).ownBlock = some k → w.heap.size + 1 ≤ k ∧ k < w2.heap.size:=fun k hk => by
  refine ⟨owns_ge ho2 k hk,?_⟩;rcases ho2.2 with ⟨e,_⟩ | ⟨g',c',cu',e,_,h,_⟩
  ·rw [e] at hk;cases hk
  ·rw [e] at hk;(have : g' = k:=by simpa [Value.ownBlock] using hk);subst this;exact Has.lt (w:=w2) h
 refine ⟨_,.slice (some ⟨g,0,none⟩) (l.length + 1) cap',hE,hT,?_,ps ++ [((to,bs),.slice au nu cu)],by simp [hps],?_,?_,?_⟩
 ·rw [← hw4];exact hB3.set_ o _
 ·have hgl : own g = T ∧ g < w.heap.size ∨ g = w2.heap.size + 1:=hg.imp (fun h => ⟨(hrb g h).2,(hrb g h).1⟩) (fun h => h)
  have hgb : g ≠ b:=by
   rintro rfl;rcases hgl with h | h
   ·exact hb h.1
   ·omega
  refine ⟨?_,fun k hk => ?_⟩
  ·rw [List.length_append,List.length_singleton];(have e : gcells (ps ++ [((to,bs),.slice au nu cu)]) = gcells ps ++ [.int .i64 to,.slice au nu cu]:=by simp [gcells]);rw [e]
   exact row_kept ho3 fun k hk => hset k (by
    have : g = k:=by simpa [Value.ownBlock] using hk
    omega)
  ·(obtain rfl : g = k:=by simpa [Value.ownBlock] using hk);rcases hgl with h | h
   ·simp [h.2,h.1]
   ·simp only [h];rw [if_neg (by omega),if_neg (by omega)]
 ·intro p hp;rcases List.mem_append.1 hp with hp | hp
  ·exact (hbytes p hp).keep hT hE (fun k _ e h => by
    rcases h with rfl | h
    ·exact hb1 e
    ·omega)
  ·obtain rfl:=List.mem_singleton.1 hp;refine ⟨?_,fun k hk => ?_⟩
   ·(have hn : bs.length = n:=by have:=ho2.1;simpa using this);(have h0 : w2.ownsRow 0 5 1 (.slice au nu cu) bs.length (bs.map B):=by rw [hn];exact owns_base ho2 (Nat.zero_le _));refine row_kept h0 fun k hk => ?_;obtain ⟨h1,h2⟩:=hblk k hk;rw [hset k (by omega),hg3.block k (by simp;omega) (fun e => by have:=(hrb k e.symm).1;omega)];exact Below.heap_alloc _ _ _ h2
   ·obtain ⟨h1,h2⟩:=hblk k hk
    show (if k < w.heap.size then own k else if k < w2.heap.size then T + 1 else T) = T + 1
    rw [if_neg (by omega),if_pos h2]
 ·rw [List.filterMap_append,List.nodup_append];refine ⟨hnd,?_,fun x hx y hy => ?_⟩
  ·cases au <;> simp [Value.ownBlock]
  ·obtain ⟨p,hp,hpx⟩:=List.mem_filterMap.1 hx;have h1:=(hbytes p hp).lt x hpx
   have h2 : (Value.slice au nu cu).ownBlock = some y:=by
    obtain ⟨q,hq,hqy⟩:=List.mem_filterMap.1 hy;obtain rfl:=List.mem_singleton.1 hq;exact hqy
   have:=(hblk y h2).1;omega
set_option maxHeartbeats 2000000 in
set_option maxRecDepth 100000 in
theorem Send_room (own : Nat → Nat) (T b o : Nat) (cs : Array Value) (t : TypeId) (v : Value) (l : List Dg) (a : Option Addr) (n c : Nat) (bs : List UInt8) (to : Int) (w : World)
 (hB : Has w b (.cells cs t)) (c0 : cs[o]? = some v) (hb : own b ≠ T) (hb1 : own b ≠ T + 1) (hg : Grams own T w v l) (hl : l.length < 200) (hrd : RD w w.heap.size a n bs) (hc : n ≤ c) (hn : n ≤ 140737488355328) :
 Calls Tryz.prog 64 #[.pointer (some ⟨b,o,none⟩),.agg #[.int .i64 to,.slice a n c]] w fun e w' => e = .returned (.tuple #[]) ∧
  ∃ own' v',Ext w own own' ∧ Turn (fun k => k = b ∨ own k = T) w w' ∧ Has w' b (.cells (cs.setIfInBounds o v') t) ∧ Grams own' T w' v' (l ++ [(to,bs)]):=by
 obtain ⟨i0,hi0,hz0,hz1,hz2⟩:=info_parts infoGram;obtain ⟨ps,hps,hrow,hbytes,hnd⟩:=hg;have hlt:=hB.lt;have k0 : w.cell? ⟨b,o,none⟩ = some v:=(hB.cell o).trans c0;have f0 : w.frozen? ⟨b,o,none⟩ = false:=hB.frozen o
 have hv : ∃ A m cap,v = .slice A m cap ∧ m = l.length:=by
  rcases hrow.1.2 with ⟨rfl,h0⟩ | ⟨g,cap,cur,rfl,_⟩
  ·exact ⟨_,_,_,rfl,h0.symm⟩
  ·exact ⟨_,_,_,rfl,rfl⟩
 obtain ⟨A,m,cap,rfl,hm⟩:=hv
 have HM:=Hd hm
 have hm2 : m < 200:=by omega
 have hm3 : ¬ (200 : Int) ≤ m:=by omega
 have HROW:=Hd hrow
 have hc0:=Hd c0
 have HNE : Hid (∀ k,(Value.slice A m cap).ownBlock = some k → k < w.heap.size ∧ k ≠ b):=fun k hk => ⟨hrow.lt k hk,fun e => by subst e;exact hb (hrow.2 k hk)⟩
 have HB:=Hd hB
 have hp0 : (w.alloc (.cells #[.int .i64 to,.slice a n c] 89)).cell? ⟨w.heap.size,0,none⟩ = some (.int .i64 to):=(Has.new w (.cells #[.int .i64 to,.slice a n c] 89)).cell 0
 have hp1 : (w.alloc (.cells #[.int .i64 to,.slice a n c] 89)).cell? ⟨w.heap.size,1,none⟩ = some (.slice a n c):=(Has.new w (.cells #[.int .i64 to,.slice a n c] 89)).cell 1
 have hrd1 : RD (w.alloc (.cells #[.int .i64 to,.slice a n c] 89)).drew (w.alloc (.cells #[.int .i64 to,.slice a n c] 89)).drew.heap.size a n bs:=(hrd.below ((Below.refl _ _).alloc (Nat.le_refl _) _).drew (Nat.le_refl _)).more (Nat.le_of_lt (by show w.heap.size < (w.alloc _).heap.size;rw [World.size_alloc];omega))
 have HRD:=Hd hrd1
 have hk0 : (w.alloc (.cells #[.int .i64 to,.slice a n c] 89)).drew.cell? ⟨b,o,none⟩ = some (.slice A m cap):=(Below.cell ((Below.refl w.heap.size w).alloc (Nat.le_refl _) (.cells #[.int .i64 to,.slice a n c] 89)) (p:=⟨b,o,none⟩) hlt).trans k0
 clear hm hrow hB c0 hrd1
 go_enter Tryz.func64,Tryz.ntmps64
 go_wp2_with fail
 go_region_law
  (first
    | ((refine step_append_lies _ (by rfl) (.tmp 21) (.tmp 28) 64 (by rfl) 0 89 i0 _ 2 32 Tryz.underlying64 hi0 hz0 hz1 hz2 (by rfl) (by decide) (.slice A m cap) l.length (gcells ps) (by rfl) (HR2.out.alloc _) ⟨w2.heap.size,0,none⟩ 1 1 [.int .i64 to,.slice au nu cu] (by rfl) (by rfl) (two_cells rfl rfl) (two_one rfl) (by omega) (by unfold maxLen;omega) (by omega) (by omega) (w2.heap.size + 1) (by simp) ?_);intro g cap' w3 hown3 hg3 hg hg3lt;obtain ⟨r0,rf0,r1,r2,hB3⟩:=boxed3 HB.out hc0.out HBW.out hq1 hq2 hs2 hg3 HNE.out;have HB3:=Hd hB3;have HO3:=Hd hown3;have HG3:=Hd hg3;have HG:=Hd hg;clear hown3 hg3 hg hB3 hq0 hq1 hq2 n0 n1 n2)
    | (go_simp;go_at_call 86;refine (Clone_any a n c bs _ HRD.out hc hn).mono ?_;rintro e w2 ⟨u,rfl,hown2,hb2⟩;obtain ⟨au,nu,cu,rfl⟩:=owns_any hown2;obtain ⟨hs2,hq0,hq1,hq2,hbw⟩:=boxed2 hlt k0 hb2;have n0:=alloc_cell hq0;have n1:=alloc_cell hq1;have n2:=alloc_cell hq2;have HO2:=Hd hown2;have HBW:=Hd hbw;have HR2 : Hid (w2.ownsRow 0 89 2 (.slice A m cap) l.length (gcells ps)):=owns_below HROW.out.1 HBW.out;clear hown2 hb2 hbw))
 all_goals
  go_end0
  exact ⟨rfl,sent_done hb hb1 hps HROW.out hbytes hnd hlt HBW.out hs2 (owns_base HO2.out (Nat.le_of_eq (World.size_alloc w _).symm)) HB3.out HO3.out HG3.out HG.out⟩
theorem Many_any (b o : Nat) (a : Option Addr) (n c : Nat) (w : World) (h : w.cell? ⟨b,o,none⟩ = some (.slice a n c)) :
 Calls Tryz.prog 36 #[.pointer (some ⟨b,o,none⟩)] w fun e w' => e = .returned (.int .i64 n) ∧ w = w':=by
 (go_enter Tryz.func36,Tryz.ntmps36);go_wp2;go_ret;exact ⟨rfl,rfl⟩
theorem gcells_get (ps : List (Dg × Value)) (k : Nat) (p : Dg × Value) (h : ps[k]? = some p) : (gcells ps)[k * 2]? = some (.int .i64 p.1.1) ∧ (gcells ps)[k * 2 + 1]? = some p.2:=by
 induction ps generalizing k with
 | nil => simp at h
 | cons q ps ih =>
  cases k with
  | zero =>
   (obtain rfl : q = p:=by simpa using h);simp [gcells]
  | succ k =>
   have:=ih k (by simpa using h);simp only [gcells,List.flatMap_cons] at this ⊢;rw [List.getElem?_append_right (by simp;omega),List.getElem?_append_right (by simp;omega)];simpa [Nat.succ_mul] using this
theorem Take_no (b o : Nat) (a : Option Addr) (n c : Nat) (k : Int) (w : World) (h : w.cell? ⟨b,o,none⟩ = some (.slice a n c)) (hk : ¬ (0 ≤ k ∧ k < n)) :
 Calls Tryz.prog 41 #[.pointer (some ⟨b,o,none⟩),.int .i64 k] w fun e w' => e = .returned (.tuple #[.agg #[.int .i64 0,.slice none 0 0],.iface 69 (.int .i64 2)]) ∧ Below w.heap.size w w':=by
 have hlt:=cell_lt h;by_cases h0 : k < 0
 ·(have d0 : decide (k < 0) = true:=by simpa using h0);(go_enter Tryz.func41,Tryz.ntmps41);go_wp2;exact bodyPost_ret (v:=.tuple #[.agg #[.int .i64 0,.slice none 0 0],.iface 69 (.int .i64 2)]) (by simp [results,Tryz.results41,go_sem]) rfl ⟨rfl,(Below.refl _ _).alloc (Nat.le_refl _) _⟩
 ·(have d0 : decide (k < 0) = false:=by simpa using h0);(have d1 : (n : Int) ≤ k:=by omega);(go_enter Tryz.func41,Tryz.ntmps41);go_wp2;exact bodyPost_ret (v:=.tuple #[.agg #[.int .i64 0,.slice none 0 0],.iface 69 (.int .i64 2)]) (by simp [results,Tryz.results41,go_sem]) rfl ⟨rfl,(Below.refl _ _).alloc (Nat.le_refl _) _⟩
theorem take_results (tmps : Array Value) (W : World) (g : Nat) (to : Int) (u : Value) (h2 : tmps.getD 4 undef = .pointer (some ⟨g,0,none⟩)) (h3 : tmps.getD 5 undef = .nilIface)
 (hg : Has W g (.cells #[.int .i64 to,u] 89)) : (results Tryz.f41 tmps).run Tryz.prog W = .ok (.tuple #[.agg #[.int .i64 to,u],.nilIface]) W:=by
 rw [results_cell_tmp Tryz.results41,h2,h3];(have hi : (Tryz.prog.info? 89).map (·.size) = some (#[Value.int .i64 to,u] : Array Value).size:=by kernel_rfl);have:=run_loadVar_row (P:=Tryz.prog) W g 89 89 _ (0,0) _ hg Tryz.underlying89 rfl hi;simp [asAddr,Result.andThen,this]
theorem nodup_erase {α β : Type} (f : α → Option β) (l : List α) (k : Nat) (h : (l.filterMap f).Nodup) : ((l.eraseIdx k).filterMap f).Nodup:=
 h.sublist ((List.eraseIdx_sublist l k).filterMap f)
theorem erase_map {α β : Type} (f : α → β) (l : List α) (k : Nat) : (l.eraseIdx k).map f = (l.map f).eraseIdx k:=by
 rw [List.eraseIdx_eq_take_drop_succ,List.eraseIdx_eq_take_drop_succ,List.map_append,List.map_take,List.map_drop]
theorem take_done {own : Nat → Nat} {T b o k g cap : Nat} {cs : Array Value} {t : TypeId} {l : List Dg} {bs : List UInt8} {to : Int} {au : Option Addr} {nu cu : Nat} {ag : Option Addr} {ng cg : Nat} {w w2 : World} {x0 x1 x2 x3 : Value} {ps : List (Dg × Value)}
 (hb : own b ≠ T) (hb1 : own b ≠ T + 1) (hlt : b < w.heap.size) (hB : Has w b (.cells cs t)) (hps : ps.map (·.1) = l) (hrow : Row own T w 89 2 (.slice (some ⟨g,0,none⟩) l.length cap) l.length (gcells ps))
 (hbytes : ∀ p ∈ ps,Row own (T + 1) w 5 1 p.2 p.1.2.length (p.1.2.map B)) (hnd : (ps.filterMap (·.2.ownBlock)).Nodup) (hp : ps[k]? = some ((to,bs),.slice au nu cu)) (hpr : Row own (T + 1) w 5 1 (.slice au nu cu) bs.length (bs.map B))
 (ht2 : Turn (fun g' => (Value.slice (some ⟨g,0,none⟩) l.length cap).ownBlock = some g') ((w.alloc (.cells #[x0,x1] 89)).alloc (.cells #[x2,x3] 89)) w2)
 (hv : (Value.slice ag ng cg).ownBlock = (Value.slice (some ⟨g,0,none⟩) l.length cap).ownBlock) (hr2 : Row own T w2 89 2 (.slice ag ng cg) (l.length - 1) (cut 2 k (gcells ps))) (hB2 : Has w2 b (.cells cs t)) {y0 y1 : Value} :
 Turn (fun k => k = b ∨ own k = T) w (((w2.setCell ⟨b,o,none⟩ (.slice ag ng cg)).setCell ⟨w.heap.size,0,none⟩ y0).setCell ⟨w.heap.size,1,none⟩ y1) ∧
  Has (((w2.setCell ⟨b,o,none⟩ (.slice ag ng cg)).setCell ⟨w.heap.size,0,none⟩ y0).setCell ⟨w.heap.size,1,none⟩ y1) b (.cells (cs.setIfInBounds o (.slice ag ng cg)) t) ∧
  Grams own T (((w2.setCell ⟨b,o,none⟩ (.slice ag ng cg)).setCell ⟨w.heap.size,0,none⟩ y0).setCell ⟨w.heap.size,1,none⟩ y1) (.slice ag ng cg) (l.eraseIdx k) ∧
  Row own (T + 1) (((w2.setCell ⟨b,o,none⟩ (.slice ag ng cg)).setCell ⟨w.heap.size,0,none⟩ y0).setCell ⟨w.heap.size,1,none⟩ y1) 5 1 (.slice au nu cu) bs.length (bs.map B):=by
 have hgT : own g = T:=hrow.2 g rfl;have hglt : g < w.heap.size:=hrow.lt g rfl
 have hT : Turn (fun k => k = b ∨ own k = T) w (((w2.setCell ⟨b,o,none⟩ (.slice ag ng cg)).setCell ⟨w.heap.size,0,none⟩ y0).setCell ⟨w.heap.size,1,none⟩ y1):=by
  have h1 : Turn (fun k => k = b ∨ own k = T) w w2:=(((Turn.refl _ w).alloc _).alloc _).trans ht2 (fun k hk e => .inr (by
   have : g = k:=by simpa [Value.ownBlock] using e
   rw [← this];exact hgT))
  exact ((h1.setCell (p:=⟨b,o,none⟩) (.inr (.inl rfl)) _).setCell (p:=⟨w.heap.size,0,none⟩) (.inl (Nat.le_refl _)) _).setCell (p:=⟨w.heap.size,1,none⟩) (.inl (Nat.le_refl _)) _
 have hby : ∀ {v : Value} {n : Nat} {xs : List Value},Row own (T + 1) w 5 1 v n xs → Row own (T + 1) (((w2.setCell ⟨b,o,none⟩ (.slice ag ng cg)).setCell ⟨w.heap.size,0,none⟩ y0).setCell ⟨w.heap.size,1,none⟩ y1) 5 1 v n xs:=fun h =>
  h.keep hT (Ext.refl _ _) (fun k _ e h => by
   rcases h with rfl | h
   ·exact hb1 e
   ·omega)
 refine ⟨hT,?_,⟨ps.eraseIdx k,?_,?_,fun p hp => hby (hbytes p (List.mem_of_mem_eraseIdx hp)),nodup_erase _ _ _ hnd⟩,hby hpr⟩
 ·exact ((hB2.set_ o _).far (p:=⟨w.heap.size,0,none⟩) (by simp;omega) _).far (p:=⟨w.heap.size,1,none⟩) (by simp;omega) _
 ·rw [erase_map,hps]
 ·have e1 : (l.eraseIdx k).length = l.length - 1:=List.length_eraseIdx_of_lt (by rw [← hps,List.length_map];exact (List.getElem?_eq_some_iff.1 hp).1);have e2 : cut 2 k (gcells ps) = gcells (ps.eraseIdx k):=cut_flat 2 k _ (fun _ => rfl) ps;rw [e1,← e2];refine ⟨row_kept hr2.1 fun k' hk' => ?_,hr2.2⟩;rw [hv] at hk';(have : g = k':=by simpa [Value.ownBlock] using hk');subst this;(have hgb : g ≠ b:=by rintro rfl;exact hb hgT);rw [Below.heap_setCell _ _ _ _ (by simp;omega),Below.heap_setCell _ _ _ _ (by simp;omega),Below.heap_setCell _ _ _ _ hgb]
theorem Take_yes (own : Nat → Nat) (T b o : Nat) (cs : Array Value) (t : TypeId) (v : Value) (l : List Dg) (k : Nat) (w : World)
 (hB : Has w b (.cells cs t)) (c0 : cs[o]? = some v) (hb : own b ≠ T) (hb1 : own b ≠ T + 1) (hg : Grams own T w v l) (hk : k < l.length) :
 Calls Tryz.prog 41 #[.pointer (some ⟨b,o,none⟩),.int .i64 k] w fun e w' => ∃ (u : Value) (to : Int) (bs : List UInt8) (v' : Value),e = .returned (.tuple #[.agg #[.int .i64 to,u],.nilIface]) ∧ l[k]? = some (to,bs) ∧
  Turn (fun k => k = b ∨ own k = T) w w' ∧ Has w' b (.cells (cs.setIfInBounds o v') t) ∧ Grams own T w' v' (l.eraseIdx k) ∧ Row own (T + 1) w' 5 1 u bs.length (bs.map B):=by
 obtain ⟨ps,hps,hrow,hbytes,hnd⟩:=hg;obtain ⟨g,cap,cur,rfl,ho,hh,hnc,hcm,hcs,hcx⟩:=hrow.shape (by omega);have k0 : w.cell? ⟨b,o,none⟩ = some _:=(hB.cell o).trans c0;have hlt:=hB.lt;have hglt:=hh.lt;(have hgb : g ≠ b:=by rintro rfl;exact hb ho);obtain ⟨p,hp⟩ : ∃ p,ps[k]? = some p:=⟨_,List.getElem?_eq_getElem (by rw [← hps] at hk;simpa using hk)⟩;obtain ⟨q0,q1⟩:=gcells_get ps k p hp;have r0:=(row_cell hh hcx (k * 2) (by omega)).1.trans q0;have r1:=(row_cell hh hcx (k * 2 + 1) (by omega)).1.trans q1;have hpr:=hbytes p (List.mem_of_getElem? hp);obtain ⟨⟨to,bs⟩,u⟩:=p;simp only at r0 r1 hpr;obtain ⟨au,nu,cu,rfl⟩:=owns_any hpr.1;(have HLK : Hid (l[k]? = some (to,bs)):=by rw [Hid,← hps,List.getElem?_map,hp];rfl);have HC0:=Hd c0;have HB:=Hd hB;have HPS:=Hd hps;have HROW:=Hd hrow;have HBY:=Hd hbytes;have HND:=Hd hnd;have HP:=Hd hp;have HPR:=Hd hpr;have HO:=Hd ho;(have hl0 : (k : Int) < l.length:=by omega);unfold maxLen at hcm;(have hl9 : l.length ≤ 9223372036854775807:=by omega);have HK:=Hd hk;have HR0 : Hid (Row own T ((w.alloc (.cells #[.int .i64 0,.slice none 0 0] 89)).alloc (.cells #[.int .i64 to,.slice au nu cu] 89)) 89 2 (.slice (some ⟨g,0,none⟩) l.length cap) l.length (gcells ps)):=hrow.below (((Below.refl _ _).alloc (Nat.le_refl _) _).alloc (by simp) _);clear c0 hB hps hrow hbytes hnd hp hpr ho hh hcs hcx q0 q1 hcm hnc;(go_enter Tryz.func41,Tryz.ntmps41);(go_wp2_with fail);refine (DelGram_any own T _ l.length k (gcells ps) _ HR0.out HK.out (gcells_one HBY.out)).mono ?_;rintro e w2 ⟨v',rfl,hv',hrow2,ht2⟩;obtain ⟨ag,ng,cg,rfl⟩:=owns_any hrow2.1;have hS : ∀ k,k ≠ g → ¬ ((Value.slice (some ⟨g,0,none⟩) l.length cap).ownBlock = some k):=fun k hk e => hk (by simpa [Value.ownBlock] using e.symm);(have hz : w.heap.size + 2 ≤ w2.heap.size:=by have:=ht2.size;simpa using this);have hR2 : Has w2 w.heap.size (.cells #[.int .i64 0,.slice none 0 0] 89):=ht2.has ((Has.new w _).alloc _) (hS _ (by omega))
 have hX2 : Has w2 (w.heap.size + 1) (.cells #[.int .i64 to,.slice au nu cu] 89):=by
  refine ht2.has ?_ (hS _ (by omega));have:=Has.new (w.alloc (.cells #[.int .i64 0,.slice none 0 0] 89)) (.cells #[.int .i64 to,.slice au nu cu] 89);rwa [World.size_alloc] at this
 have hB2 : Has w2 b (.cells cs t):=ht2.has ((HB.out.alloc _).alloc _) (hS _ (Ne.symm hgb));have d0 : w2.cell? ⟨w.heap.size,0,none⟩ = some (.int .i64 0):=hR2.cell 0;have d1 : w2.cell? ⟨w.heap.size,1,none⟩ = some (.slice none 0 0):=hR2.cell 1;have e0 : w2.frozen? ⟨w.heap.size,0,none⟩ = false:=hR2.frozen 0;have e1 : w2.frozen? ⟨w.heap.size,1,none⟩ = false:=hR2.frozen 1;have d2 : w2.cell? ⟨w.heap.size + 1,0,none⟩ = some (.int .i64 to):=hX2.cell 0;have d3 : w2.cell? ⟨w.heap.size + 1,1,none⟩ = some (.slice au nu cu):=hX2.cell 1;have d4 : w2.cell? ⟨b,o,none⟩ = some (.slice (some ⟨g,0,none⟩) l.length cap):=(hB2.cell o).trans HC0.out;have e4 : w2.frozen? ⟨b,o,none⟩ = false:=hB2.frozen o;(have hbz : b ≠ w.heap.size:=by omega);(have hbz1 : b ≠ w.heap.size + 1:=by omega);have HV:=Hd hv';have HRes:=Hd hR2;have HR2:=Hd hrow2;have HT2:=Hd ht2;have HB2:=Hd hB2;clear hv' hrow2 ht2 hB2 hR2 hX2 hS;go_wp2
 have hW : Has (((w2.setCell ⟨b,o,none⟩ (.slice ag ng cg)).setCell ⟨w.heap.size,0,none⟩ (.int .i64 to)).setCell ⟨w.heap.size,1,none⟩ (.slice au nu cu)) w.heap.size (.cells #[.int .i64 to,.slice au nu cu] 89):=
  ((HRes.out.far (p:=⟨b,o,none⟩) (Ne.symm hbz) _).set_ 0 _).set_ 1 _
 refine bodyPost_ret (take_results _ _ w.heap.size to (.slice au nu cu) rfl rfl hW) rfl ⟨.slice au nu cu,to,bs,.slice ag ng cg,rfl,HLK.out,?_⟩;exact take_done hb hb1 hlt HB.out HPS.out HROW.out HBY.out HND.out HP.out HPR.out HT2.out HV.out HR2.out HB2.out
end net
end Go.Proofs.YtefkmcjhgoagcaaGreatDoor
