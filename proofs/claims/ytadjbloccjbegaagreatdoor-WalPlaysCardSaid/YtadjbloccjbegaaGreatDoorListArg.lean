/-
  An argument that is a slice of structs: its elements' cells, whatever the struct.
-/
import Derived.Test.YtadjbloccjbegaaGreatDoorLaw
import Derived.Test.YtadjbloccjbegaaGreatDoorHeap
import Derived.ChangeSlices
namespace Go.Proofs.YtadjbloccjbegaaGreatDoor.law
open Go.ChangeShapes Go.WideShapes Go.RowKit Go.Deep Go.Proofs.YtadjbloccjbegaaGreatDoor.heap

/-- Elements of so many cells each; Pd: what their cells are. -/
structure ListAt (Pd : List Value → Prop) (w : World) (size : Nat) (a : Option Addr) (n : Nat) (l : List (List Value)) : Prop where
  len : l.length = n
  each : ∀ r ∈ l, Pd r ∧ r.length = size
  cells : 0 < n → ∃ b o, a = some ⟨b, o, none⟩ ∧ b < w.heap.size ∧ ∀ (i : Nat) r, l[i]? = some r → ∀ (j : Nat) u, r[j]? = some u → w.cell? ⟨b, o + i * size + j, none⟩ = some u

theorem open_list {H : Type} {enc : TypeId × Value → H} {w : World} {base : Nat} {spare : Nat → Bool} {held : Bool} {fuel : Nat} {cs : List Value} {x : DataW H × List MemPlace} {ts e : TypeId} (size : Nat) (hu : Tryz.prog.underlying ts = some (.slice e)) (he : Tryz.prog.cellsOf e = size) (hp : 0 < size)
    (Pd : List Value → Prop) (hone : ∀ (fuel : Nat) (cs : List Value) (x : DataW H × List MemPlace), cs.length = size → DataW.trod enc Tryz.prog w base spare held fuel e cs = some x → Pd cs)
    (h : DataW.trod enc Tryz.prog w base spare held fuel ts cs = some x) : ∃ (a : Option Addr) (n c : Nat) (l : List (List Value)), cs = [.slice a n c] ∧ ListAt Pd w size a n l ∧ n ≤ c ∧ c ≤ maxLen := by
  rcases open_slice hu h with ⟨rfl, -⟩ | ⟨a, len, cap, m, n', D, Pl, rfl, -, hlc, hcm, hm, -, hel⟩
  · exact ⟨none, 0, 0, [], rfl, ⟨rfl, fun r hr => (by cases hr), fun h => absurd h (Nat.lt_irrefl 0)⟩, Nat.le_refl _, by simp [maxLen]⟩
  · rw [he] at hel
    have hml : len ≤ m := by rw [hm]; split <;> omega
    rcases Nat.eq_zero_or_pos len with h0 | h0
    · exact ⟨some a, len, cap, [], rfl, ⟨by rw [h0]; rfl, fun r hr => (by cases hr), fun h => by omega⟩, hlc, hcm⟩
    · obtain ⟨b, o, spot⟩ := a
      obtain ⟨cs0, hc0, -⟩ := hel 0 (by omega)
      rw [Nat.zero_mul] at hc0
      obtain ⟨-, hcl0, hcell0⟩ := World.cells?_some hc0
      have d0 := hcell0 0 (by omega)
      have hspot : spot = none := by
        have : w.cell? (((⟨b, o, spot⟩ : Addr).add 0).add 0) = some (cs0[0]'(by omega)) := d0.trans (List.getElem?_eq_getElem (by omega))
        simpa [Addr.add] using World.cell?_spot this
      subst hspot
      have hadd : ∀ i j, ((⟨b, o, none⟩ : Addr).add i).add j = ⟨b, o + i + j, none⟩ := fun i j => by by_cases h0 : i = 0 <;> by_cases h1 : j = 0 <;> simp [Addr.add, h0, h1]
      have hb : b < w.heap.size := by
        rcases Nat.lt_or_ge b w.heap.size with h' | h'
        · exact h'
        · have e := d0.trans (List.getElem?_eq_getElem (by omega))
          rw [hadd] at e
          simp [World.cell?, Array.getElem?_eq_none h'] at e
      have hex : ∀ k, k ≤ len → ∃ l : List (List Value), l.length = k ∧ (∀ r ∈ l, Pd r ∧ r.length = size) ∧ ∀ (i : Nat) r, l[i]? = some r → ∀ (j : Nat) u, r[j]? = some u → w.cell? ⟨b, o + i * size + j, none⟩ = some u := by
        intro k
        induction k with
        | zero => intro _; exact ⟨[], rfl, fun r hr => (by cases hr), fun i r h => by simp at h⟩
        | succ k ih =>
          intro hk
          obtain ⟨l, h1, h2, h3⟩ := ih (by omega)
          obtain ⟨cs', hc, ht⟩ := hel k (by omega)
          obtain ⟨-, hcl, hcell⟩ := World.cells?_some hc
          refine ⟨l ++ [cs'], by simp [h1], fun r hr => ?_, fun i r hi j u hj => ?_⟩
          · rcases List.mem_append.1 hr with hr | hr
            · exact h2 r hr
            · rw [List.mem_singleton.1 hr]; exact ⟨hone _ _ _ hcl ht, hcl⟩
          · by_cases hik : i < l.length
            · rw [List.getElem?_append_left hik] at hi
              exact h3 i r hi j u hj
            · rw [List.getElem?_append_right (by omega)] at hi
              have : i = k := by
                have := (List.getElem?_eq_some_iff.1 hi).1
                simp at this; omega
              subst this
              rw [h1, Nat.sub_self] at hi
              obtain rfl : cs' = r := by simpa using hi
              obtain ⟨hj1, hj2⟩ := List.getElem?_eq_some_iff.1 hj
              have e := hcell j (by omega)
              rw [hadd] at e
              rw [e, hj]
      obtain ⟨l, h1, h2, h3⟩ := hex len (Nat.le_refl _)
      exact ⟨some ⟨b, o, none⟩, len, cap, l, rfl, ⟨h1, h2, fun _ => ⟨b, o, rfl, hb, h3⟩⟩, hlc, hcm⟩
end Go.Proofs.YtadjbloccjbegaaGreatDoor.law
