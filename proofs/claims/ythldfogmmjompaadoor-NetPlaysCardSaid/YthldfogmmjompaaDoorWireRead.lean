/-
  Reading slices of bytes; steps of wire.Decode's loops, in plain terms.
-/
import Derived.Test.YthldfogmmjompaaDoorWire2
import Derived.Laws.Shifts
import Derived.WalkLawsBesides
import Derived.WalkSpells
import Derived.Shelf.Bytes.SlSmallAll
import Derived.Laws.BitsAllLaws
import Derived.Laws.BitsLemmas
namespace Go.Proofs.YthldfogmmjompaaDoor.wire
open Go.RowKit Go.Proofs.YthldfogmmjompaaDoor.heap

/-- A slice of bytes that came in, nil let in. -/
def RD (w : World) (bound : Nat) (A : Option Addr) (n : Nat) (l : List UInt8) : Prop :=
  l.length = n ∧ (0 < n → ∃ b off, A = some ⟨b, off, none⟩ ∧ b < bound ∧ ∀ j c, l[j]? = some c → w.cell? ⟨b, off + j, none⟩ = some (B c))
theorem RD.at_ {w : World} {bound n : Nat} {A : Option Addr} {l : List UInt8} (h : RD w bound A n l) (hn : 0 < n) :
    ∃ b off, A = some ⟨b, off, none⟩ ∧ b < bound ∧ ∀ j c, l[j]? = some c → w.cell? ⟨b, off + j, none⟩ = some (B c) := h.2 hn
theorem RD.below {w w' : World} {bound B' n : Nat} {A : Option Addr} {l : List UInt8} (h : RD w bound A n l) (hb : Below B' w w') (hB : bound ≤ B') : RD w' bound A n l :=
  ⟨h.1, fun hn => by
    obtain ⟨b, off, e, hlt, hc⟩ := h.2 hn
    exact ⟨b, off, e, hlt, fun j c hj => (hb.cell (p := ⟨b, off + j, none⟩) (by simp; omega)).trans (hc j c hj)⟩⟩
theorem RD.more {w : World} {bound bound' n : Nat} {A : Option Addr} {l : List UInt8} (h : RD w bound A n l) (hb : bound ≤ bound') : RD w bound' A n l :=
  ⟨h.1, fun hn => by
    obtain ⟨b, off, e, hlt, hc⟩ := h.2 hn
    exact ⟨b, off, e, by omega, hc⟩⟩
theorem RD.take {w : World} {bound n : Nat} {A : Option Addr} {l : List UInt8} (h : RD w bound A n l) {k : Nat} (hk : k ≤ n) : RD w bound A k (l.take k) :=
  ⟨by rw [List.length_take, h.1]; omega, fun hn => by
    obtain ⟨b, off, e, hlt, hc⟩ := h.2 (by omega)
    refine ⟨b, off, e, hlt, fun j c hj => hc j c ?_⟩
    have hjk : j < k := by
      have := (List.getElem?_eq_some_iff.1 hj).1
      simp only [List.length_take] at this
      omega
    rwa [List.getElem?_take_of_lt hjk] at hj⟩
theorem RD.setCell {w : World} {bound n : Nat} {A : Option Addr} {l : List UInt8} (h : RD w bound A n l) {p : Addr} (hp : bound ≤ p.block) (u : Value) : RD (w.setCell p u) bound A n l :=
  ⟨h.1, fun hn => by
    obtain ⟨b, off, e, hlt, hc⟩ := h.2 hn
    exact ⟨b, off, e, hlt, fun j c hj => (World.cell?_setCell_other w p ⟨b, off + j, none⟩ u (fun e => by subst e; simp at hp; omega)).trans (hc j c hj)⟩⟩
theorem RD.drop {w : World} {bound n : Nat} {A : Option Addr} {l : List UInt8} (h : RD w bound A n l) {k cap : Nat} (hk : k ≤ n) (hc : n ≤ cap) :
    RD w bound (if cap = k then A else A.map (·.add k)) (n - k) (l.drop k) := by
  refine ⟨by rw [List.length_drop, h.1], fun hn => ?_⟩
  obtain ⟨b, off, rfl, hlt, hcell⟩ := h.2 (by omega)
  rw [if_neg (by omega)]
  refine ⟨b, off + k, ?_, hlt, fun j c hj => ?_⟩
  · by_cases h0 : k = 0 <;> simp [Addr.add, h0]
  · rw [List.getElem?_drop] at hj
    have := hcell _ c hj
    rwa [show off + k + j = off + (k + j) from by omega]

def nCells (l : List Int) : Array Value := msgCells (l.getD 0 0) (l.getD 1 0) (l.getD 2 0) (l.getD 3 0) (l.getD 4 0) (l.getD 5 0) (l.getD 6 0) false ByteArray.empty
theorem nCells_set (l : List Int) (k : Nat) (x : Int) (hk : k < 7) (hl : l.length = k) : (nCells l).setIfInBounds k (.int .i64 x) = nCells (l ++ [x]) := by
  match k, hk with
  | 0, _ => obtain rfl := List.eq_nil_of_length_eq_zero hl; rfl
  | 1, _ => match l, hl with | [a], _ => rfl
  | 2, _ => match l, hl with | [a, b], _ => rfl
  | 3, _ => match l, hl with | [a, b, c], _ => rfl
  | 4, _ => match l, hl with | [a, b, c, d], _ => rfl
  | 5, _ => match l, hl with | [a, b, c, d, e], _ => rfl
  | 6, _ => match l, hl with | [a, b, c, d, e, f], _ => rfl

/-- What the bytes bs read as is what is left reads as, behind the k numbers l. -/
def ReadsTo (bs : List UInt8) (l : List Int) (k : Nat) (rest : List UInt8) : Prop :=
  readsN 7 bs = match readsN (7 - k) rest with | none => none | some (ns, r) => some (l ++ ns, r)
theorem ReadsTo.zero (bs : List UInt8) : ReadsTo bs [] 0 bs := by
  unfold ReadsTo
  cases readsN (7 - 0) bs <;> simp
/-- Behind j bytes of 128 and more the rest of the number is read. -/
def Part (bs : List UInt8) (j acc : Nat) : Prop :=
  readN bs = match readF (6 - j) (decide (j = 0)) (bs.drop j) with | none => none | some (n, r) => some (acc + 128 ^ j * n, r)
theorem Part.zero (bs : List UInt8) : Part bs 0 0 := by
  unfold Part readN
  simp
  cases readF 6 true bs <;> simp


theorem convert_RD {w : World} {bound n cap : Nat} {A : Option Addr} {l : List UInt8} (h : RD w bound A n l) :
    (convert 33 9 (.slice A n cap)).run Tryd.prog w = .ok (.string ⟨l.toArray⟩) w := by
  rcases Nat.eq_zero_or_pos n with h0 | h0
  · subst h0
    have := List.eq_nil_of_length_eq_zero h.1
    subst this
    exact run_convert_bytes_zero w _ _ Tryd.underlying33 Tryd.underlying5 A cap _ Tryd.underlying9
  · obtain ⟨b, off, rfl, _, hc⟩ := h.2 h0
    have hl := h.1
    subst hl
    refine run_convert_bytes_back w _ _ _ ⟨b, off, none⟩ cap l Tryd.underlying33 Tryd.underlying5 Tryd.underlying9 (fun j hj => ?_)
    have := hc j _ (List.getElem?_eq_getElem hj)
    rw [show (⟨b, off, none⟩ : Addr).add j = ⟨b, off + j, none⟩ from by by_cases h0 : j = 0 <;> simp [Addr.add, h0]]
    exact this

theorem and_all : ∀ n : Fin 256, bits BinOp.and IntKind.u8 (n.val : Int) 127 = ((n.val % 128 : Nat) : Int) := by decide +kernel
theorem ofInt_i64 (a : Nat) (ha : a < 9223372036854775808) : (BitVec.ofInt 64 (a : Int)).toNat = a := by
  rw [BitVec.ofInt_natCast, BitVec.toNat_ofNat]; exact Nat.mod_eq_of_lt (by omega)
theorem or_i64 (a b : Nat) (ha : a < 9223372036854775808) (hb : b < 9223372036854775808) : bits .or .i64 (a : Int) (b : Int) = ((a ||| b : Nat) : Int) := by
  have hx : a ||| b < 2 ^ 63 := Nat.or_lt_two_pow (by omega) (by omega)
  show IntKind.i64.wrap ((BitVec.ofInt 64 (a : Int) ||| BitVec.ofInt 64 (b : Int)).toNat : Int) = _
  rw [BitVec.toNat_or, ofInt_i64 a ha, ofInt_i64 b hb, IntKind.wrap_i64]
  omega
theorem pow128 (j : Nat) : (2 : Nat) ^ (7 * j) = 128 ^ j := by rw [Nat.pow_mul]
theorem pow_le (j : Nat) (h : j < 6) : 128 ^ j ≤ 34359738368 := by
  have : 128 ^ j ≤ 128 ^ 5 := Nat.pow_le_pow_right (by omega) (by omega)
  have e : (128 ^ 5 : Nat) = 34359738368 := by decide
  omega
theorem and_byte (c : UInt8) : bits BinOp.and IntKind.u8 (c.toNat : Int) 127 = ((c.toNat % 128 : Nat) : Int) := by
  have h := c.toNat_lt
  exact and_all ⟨c.toNat, h⟩
theorem wrap_small (n : Nat) (h : n ≤ 4611686018427387904) : wrap64 (n : Int) = n := by rw [IntWalk.wrap64_in]; omega
theorem or_add (acc p j x : Nat) (hp : p = 2 ^ (7 * j)) (ha : acc < p) : acc ||| x * p = acc + p * x := by
  subst hp
  have e3 := Nat.two_pow_add_eq_or_of_lt (i := 7 * j) (b := acc) ha x
  rw [Nat.mul_comm x, Nat.or_comm, ← e3, Nat.add_comm]
theorem pow_cast (j : Nat) : (2 : Int) ^ (7 * j) = ((2 ^ (7 * j) : Nat) : Int) := by simp
/-- One byte more: as the walk spells it. -/
theorem acc_step (acc j : Nat) (c : UInt8) (hj : j < 6) (ha : acc < 128 ^ j) :
    bits BinOp.or IntKind.i64 (acc : Int) (wrap64 (wrap64 (bits BinOp.and IntKind.u8 (c.toNat : Int) 127) * 2 ^ (7 * j))) = ((acc + 128 ^ j * (c.toNat % 128) : Nat) : Int) := by
  have h2 := pow_le j hj
  have hx : c.toNat % 128 < 128 := Nat.mod_lt _ (by omega)
  rw [and_byte]
  generalize c.toNat % 128 = x at hx ⊢
  have hp := pow128 j
  rw [pow_cast, hp]
  have hp' : 128 ^ j = 2 ^ (7 * j) := hp.symm
  clear hp
  generalize 128 ^ j = p at *
  have h3 : x * p ≤ 127 * 34359738368 := Nat.mul_le_mul (by omega) h2
  rw [wrap_small x (by omega), ← Int.natCast_mul, wrap_small (x * p) (by omega), or_i64 _ _ (by omega) (by omega), or_add acc p j x hp' ha]
theorem acc_lt (acc j : Nat) (c : UInt8) (ha : acc < 128 ^ j) : acc + 128 ^ j * (c.toNat % 128) < 128 ^ (j + 1) := by
  have h : 128 ^ j * (c.toNat % 128) ≤ 128 ^ j * 127 := Nat.mul_le_mul_left _ (by omega)
  rw [Nat.pow_succ]
  omega

theorem drop_cons (bs : List UInt8) (j : Nat) (c : UInt8) (h : bs[j]? = some c) : bs.drop j = c :: bs.drop (j + 1) := by
  obtain ⟨hj, rfl⟩ := List.getElem?_eq_some_iff.1 h
  exact List.drop_eq_getElem_cons hj
theorem Part.more {bs : List UInt8} {j acc : Nat} {c : UInt8} (h : Part bs j acc) (hj : j < 6) (hc : bs[j]? = some c) (h128 : ¬ c.toNat < 128) : Part bs (j + 1) (acc + 128 ^ j * (c.toNat % 128)) := by
  unfold Part at h ⊢
  rw [h, drop_cons bs j c hc]
  have e : 6 - j = (6 - (j + 1)) + 1 := by omega
  rw [e]
  simp only [readF]
  rw [if_neg h128, show decide (j + 1 = 0) = false from rfl]
  cases readF (6 - (j + 1)) false (bs.drop (j + 1)) with
  | none => rfl
  | some p =>
    simp only [Option.some.injEq, Prod.mk.injEq, and_true]
    rw [Nat.pow_succ, Nat.mul_add, ← Nat.add_assoc, Nat.mul_assoc]
theorem Part.done {bs : List UInt8} {j acc : Nat} {c : UInt8} (h : Part bs j acc) (hj : j < 6) (hc : bs[j]? = some c) (h128 : c.toNat < 128) (h0 : ¬ (c.toNat = 0 ∧ 0 < j)) :
    readN bs = some (acc + 128 ^ j * (c.toNat % 128), bs.drop (j + 1)) := by
  unfold Part at h
  rw [h, drop_cons bs j c hc]
  have e : 6 - j = (6 - (j + 1)) + 1 := by omega
  rw [e]
  simp only [readF]
  rw [if_pos h128, if_neg (by simp; omega)]
  simp only [Nat.mod_eq_of_lt h128]
theorem Part.bad {bs : List UInt8} {j acc : Nat} {c : UInt8} (h : Part bs j acc) (hj : j < 6) (hc : bs[j]? = some c) (h0 : c.toNat = 0) (hp : 0 < j) : readN bs = none := by
  unfold Part at h
  rw [h, drop_cons bs j c hc]
  have e : 6 - j = (6 - (j + 1)) + 1 := by omega
  rw [e]
  simp only [readF]
  rw [if_pos (by omega), if_pos (by simp; omega)]
theorem Part.short {bs : List UInt8} {j acc : Nat} (h : Part bs j acc) (hj : 6 ≤ j ∨ bs.length ≤ j) : readN bs = none := by
  unfold Part at h
  rw [h]
  rcases Nat.lt_or_ge j 6 with h6 | h6
  · have e : 6 - j = (6 - (j + 1)) + 1 := by omega
    rw [e, List.drop_eq_nil_of_le (by omega)]
    simp [readF]
  · rw [show 6 - j = 0 from by omega]
    simp [readF]

theorem ReadsTo.step {bs rest r : List UInt8} {l : List Int} {k x : Nat} (h : ReadsTo bs l k rest) (hk : k < 7) (hx : readN rest = some (x, r)) : ReadsTo bs (l ++ [(x : Int)]) (k + 1) r := by
  unfold ReadsTo at h ⊢
  rw [h, show 7 - k = (7 - (k + 1)) + 1 from by omega]
  simp only [readsN, hx]
  cases readsN (7 - (k + 1)) r <;> simp
theorem ReadsTo.none_ {bs rest : List UInt8} {l : List Int} {k : Nat} (h : ReadsTo bs l k rest) (hk : k < 7) (hx : readN rest = none) : decB bs = none := by
  unfold ReadsTo at h
  unfold decB
  rw [h, show 7 - k = (7 - (k + 1)) + 1 from by omega]
  simp only [readsN, hx]
theorem ReadsTo.end_ {bs rest : List UInt8} {l : List Int} (h : ReadsTo bs l 7 rest) : decB bs = tailB l rest := by
  unfold ReadsTo at h
  unfold decB
  rw [h]
  simp [readsN]
end Go.Proofs.YthldfogmmjompaaDoor.wire
