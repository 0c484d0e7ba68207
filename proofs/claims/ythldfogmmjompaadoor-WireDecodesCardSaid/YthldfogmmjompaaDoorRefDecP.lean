/-
  The reference's way of reading a message, in plain terms.
-/
import Derived.Test.YthldfogmmjompaaDoorWirePlain
namespace Go.Proofs.YthldfogmmjompaaDoor.wire

/-- Reading a number, whatever stands behind its first byte. -/
def readG : Nat → List UInt8 → Option (Nat × List UInt8)
  | 0, _ => none
  | _ + 1, [] => none
  | f + 1, c :: l =>
    if c.toNat < 128 then some (c.toNat % 128, l)
    else match readG f l with
      | none => none
      | some (n, r) => some (c.toNat % 128 + 128 * n, r)
theorem readG_of_readF (f : Nat) (first : Bool) (l : List UInt8) (x : Nat × List UInt8) (h : readF f first l = some x) : readG f l = some x := by
  induction f generalizing first l x with
  | zero => simp [readF] at h
  | succ f ih =>
    cases l with
    | nil => simp [readF] at h
    | cons c l =>
      simp only [readF] at h
      simp only [readG]
      split at h
      · rename_i hc
        rw [if_pos hc]
        split at h
        · cases h
        · rw [Nat.mod_eq_of_lt hc]; exact h
      · rename_i hc
        rw [if_neg hc]
        cases hr : readF f false l with
        | none => rw [hr] at h; cases h
        | some p => rw [hr] at h; rw [ih _ _ _ hr]; exact h
def readsG : Nat → List UInt8 → Option (List Int × List UInt8)
  | 0, l => some ([], l)
  | k + 1, l => match readG 6 l with
    | none => none
    | some (n, r) => match readsG k r with
      | none => none
      | some (ns, r) => some ((n : Int) :: ns, r)
theorem readsG_of_readsN (k : Nat) (l : List UInt8) (x : List Int × List UInt8) (h : readsN k l = some x) : readsG k l = some x := by
  induction k generalizing l x with
  | zero => exact h
  | succ k ih =>
    simp only [readsN] at h
    simp only [readsG]
    cases h1 : readN l with
    | none => rw [h1] at h; cases h
    | some p =>
      obtain ⟨n, r⟩ := p
      rw [h1] at h
      rw [readG_of_readF _ _ _ _ h1]
      simp only at h ⊢
      cases h2 : readsN k r with
      | none => rw [h2] at h; cases h
      | some q => rw [h2] at h; rw [ih _ _ h2]; exact h

def GTo (bs : List UInt8) (l : List Int) (k : Nat) (rest : List UInt8) : Prop :=
  readsG 7 bs = match readsG (7 - k) rest with | none => none | some (ns, r) => some (l ++ ns, r)
theorem GTo.zero (bs : List UInt8) : GTo bs [] 0 bs := by
  unfold GTo
  cases readsG (7 - 0) bs <;> simp
theorem GTo.step {bs rest r : List UInt8} {l : List Int} {k x : Nat} (h : GTo bs l k rest) (hk : k < 7) (hx : readG 6 rest = some (x, r)) : GTo bs (l ++ [(x : Int)]) (k + 1) r := by
  unfold GTo at h ⊢
  rw [h, show 7 - k = (7 - (k + 1)) + 1 from by omega]
  simp only [readsG, hx]
  cases readsG (7 - (k + 1)) r <;> simp
theorem GTo.none_ {bs rest : List UInt8} {l : List Int} {k : Nat} (h : GTo bs l k rest) (hk : k < 7) (hx : readG 6 rest = none) : decB bs = none := by
  unfold GTo at h
  have h2 : readsG 7 bs = none := by
    rw [h, show 7 - k = (7 - (k + 1)) + 1 from by omega]
    simp only [readsG, hx]
  unfold decB
  cases h3 : readsN 7 bs with
  | none => rfl
  | some x => rw [readsG_of_readsN _ _ _ h3] at h2; cases h2

/-- Behind j bytes of 128 and more. -/
def PartG (bs : List UInt8) (j acc : Nat) (rest : List UInt8) : Prop :=
  readG 6 bs = match readG (6 - j) rest with | none => none | some (n, r) => some (acc + 128 ^ j * n, r)
theorem PartG.zero (bs : List UInt8) : PartG bs 0 0 bs := by
  unfold PartG
  cases readG 6 bs <;> simp
theorem PartG.more {bs rest : List UInt8} {j acc : Nat} {c : UInt8} (h : PartG bs j acc (c :: rest)) (hj : j < 6) (h128 : ¬ c.toNat < 128) : PartG bs (j + 1) (acc + 128 ^ j * (c.toNat % 128)) rest := by
  unfold PartG at h ⊢
  rw [h]
  have e : 6 - j = (6 - (j + 1)) + 1 := by omega
  rw [e]
  simp only [readG]
  rw [if_neg h128]
  cases readG (6 - (j + 1)) rest with
  | none => rfl
  | some p =>
    simp only [Option.some.injEq, Prod.mk.injEq, and_true]
    rw [Nat.pow_succ, Nat.mul_add, ← Nat.add_assoc, Nat.mul_assoc]
theorem PartG.done {bs rest : List UInt8} {j acc : Nat} {c : UInt8} (h : PartG bs j acc (c :: rest)) (hj : j < 6) (h128 : c.toNat < 128) : readG 6 bs = some (acc + 128 ^ j * (c.toNat % 128), rest) := by
  unfold PartG at h
  rw [h]
  have e : 6 - j = (6 - (j + 1)) + 1 := by omega
  rw [e]
  simp only [readG]
  rw [if_pos h128]
theorem PartG.short {bs rest : List UInt8} {j acc : Nat} (h : PartG bs j acc rest) (hj : 6 ≤ j ∨ rest = []) : readG 6 bs = none := by
  unfold PartG at h
  rw [h]
  rcases Nat.lt_or_ge j 6 with h6 | h6
  · have e : 6 - j = (6 - (j + 1)) + 1 := by omega
    rcases hj with hj | rfl
    · omega
    · rw [e]
      simp [readG]
  · rw [show 6 - j = 0 from by omega]
    simp [readG]

/-- The message that the reference builds. -/
def mk9 (l : List Int) (x : UInt8) (r : List UInt8) : Msg :=
  { kind := l.getD 0 0, client := l.getD 1 0, number := l.getD 2 0, epoch := l.getD 3 0, session := l.getD 4 0, object := l.getD 5 0, version := l.getD 6 0, lease := decide (x.toNat = 1), data := r }
theorem GTo.end_short {bs rest : List UInt8} {l : List Int} (h : GTo bs l 7 rest) (hs : rest.length < 2) : decB bs = none := by
  unfold GTo at h
  have h2 : readsG 7 bs = some (l, rest) := by rw [h]; simp [readsG]
  unfold decB
  cases h3 : readsN 7 bs with
  | none => rfl
  | some x =>
    obtain ⟨ns, r⟩ := x
    rw [readsG_of_readsN _ _ _ h3] at h2
    obtain ⟨rfl, rfl⟩ : ns = l ∧ r = rest := by simpa using h2
    simp only
    unfold tailB
    split
    · simp at hs; omega
    · rfl
theorem GTo.end_ {bs r : List UInt8} {l : List Int} {x y : UInt8} (h : GTo bs l 7 (x :: y :: r)) : decB bs = if (mk9 l x r).right = true ∧ encB (mk9 l x r) = bs then some (mk9 l x r) else none := by
  unfold GTo at h
  have h2 : readsG 7 bs = some (l, x :: y :: r) := by rw [h]; simp [readsG]
  split
  · rename_i hc
    exact (dec_iff _ _).2 hc
  · rename_i hc
    cases hd : decB bs with
    | none => rfl
    | some m =>
      exfalso
      apply hc
      have he := enc_dec _ _ hd
      have : m = mk9 l x r := by
        unfold decB at hd
        cases h3 : readsN 7 bs with
        | none => rw [h3] at hd; cases hd
        | some q =>
          obtain ⟨ns, r'⟩ := q
          rw [h3] at hd
          rw [readsG_of_readsN _ _ _ h3] at h2
          obtain ⟨rfl, rfl⟩ : ns = l ∧ r' = x :: y :: r := by simpa using h2
          simp only at hd
          match ns, hd with
          | [a, b, c, d, e, f, g], hd =>
            simp only [tailB] at hd
            split at hd
            · split at hd
              · exact (Option.some.inj hd).symm
              · cases hd
            · cases hd
      rw [← this]
      exact he
end Go.Proofs.YthldfogmmjompaaDoor.wire
