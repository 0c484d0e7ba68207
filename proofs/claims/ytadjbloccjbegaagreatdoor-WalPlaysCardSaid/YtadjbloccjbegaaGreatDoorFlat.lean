/-
  Rows of elements of one size: a list of things as a list of cells.
-/
import Derived.Test.YtadjbloccjbegaaGreatDoorQueue
namespace Go.Proofs.YtadjbloccjbegaaGreatDoor.own
open Go.RowKit Go.Proofs.YtadjbloccjbegaaGreatDoor.heap

section
variable {α : Type} {f : α → List Value} {size : Nat}
theorem flat_len (hf : ∀ x, (f x).length = size) : ∀ (l : List α), (l.flatMap f).length = l.length * size
  | [] => by simp
  | x :: l => by rw [List.flatMap_cons, List.length_append, flat_len hf l, hf, List.length_cons, Nat.add_mul, Nat.one_mul, Nat.add_comm]
theorem flat_snoc (l : List α) (x : α) : (l ++ [x]).flatMap f = l.flatMap f ++ f x := by simp
theorem flat_get (hf : ∀ x, (f x).length = size) : ∀ (l : List α) (k : Nat) (x : α), l[k]? = some x → ∀ j, j < size → (l.flatMap f)[k * size + j]? = (f x)[j]?
  | [], k, x, h => by simp at h
  | y :: l, 0, x, h => fun j hj => by
    obtain rfl : y = x := by simpa using h
    rw [List.flatMap_cons, Nat.zero_mul, Nat.zero_add, List.getElem?_append_left (by rw [hf]; exact hj)]
  | y :: l, k + 1, x, h => fun j hj => by
    rw [List.flatMap_cons, Nat.add_mul, Nat.one_mul, List.getElem?_append_right (by rw [hf]; omega), hf, show k * size + size + j - size = k * size + j by omega]
    exact flat_get hf l k x (by simpa using h) j hj
theorem flat_set (hf : ∀ x, (f x).length = size) : ∀ (l : List α) (k : Nat) (x : α), k < l.length → (l.set k x).flatMap f = (l.flatMap f).take (k * size) ++ f x ++ (l.flatMap f).drop (k * size + size)
  | [], k, x, h => by simp at h
  | y :: l, 0, x, h => by
    rw [List.set_cons_zero, List.flatMap_cons, List.flatMap_cons, Nat.zero_mul, Nat.zero_add, List.take_zero, List.nil_append, List.drop_append_of_le_length (by rw [hf]; exact Nat.le_refl _), List.drop_of_length_le (by rw [hf]; exact Nat.le_refl _), List.nil_append]
  | y :: l, k + 1, x, h => by
    simp only [List.length_cons] at h
    have e1 : (f y).take (size + k * size) = f y := List.take_of_length_le (by rw [hf]; omega)
    have e2 : (f y).drop (size + k * size + size) = [] := List.drop_of_length_le (by rw [hf]; omega)
    rw [List.set_cons_succ, List.flatMap_cons, List.flatMap_cons, flat_set hf l k x (by omega), Nat.add_mul, Nat.one_mul, Nat.add_comm (k * size) size, List.take_append, List.drop_append, hf, e1, e2]
    rw [show size + k * size - size = k * size by omega, show size + k * size + size - size = k * size + size by omega]
    simp [Nat.add_comm]
theorem flat_drop (hf : ∀ x, (f x).length = size) (x : α) (l : List α) : ((x :: l).flatMap f).drop size = l.flatMap f := by
  rw [List.flatMap_cons, List.drop_append_of_le_length (by rw [hf]; exact Nat.le_refl _), List.drop_of_length_le (by rw [hf]; exact Nat.le_refl _), List.nil_append]
theorem flat_one (h1 : ∀ x, ∀ u ∈ f x, u.oneCell' = true) (l : List α) : ∀ u ∈ l.flatMap f, u.oneCell' = true := fun u hu => by
  obtain ⟨x, -, hx⟩ := List.mem_flatMap.1 hu
  exact h1 x u hx

variable {own : Nat → Nat} {T n : Nat} {w : World} {e : TypeId} {v : Value} {l : List α}
/-- The cells of an element of a row. -/
theorem Row.elem (hf : ∀ x, (f x).length = size) (h : Row own T w e size v l.length (l.flatMap f)) {k : Nat} {x : α} (hk : l[k]? = some x) :
    ∃ g cap, v = .slice (some ⟨g, 0, none⟩) l.length cap ∧ own g = T ∧ g < w.heap.size ∧ l.length ≤ cap ∧ cap ≤ maxLen ∧ ∀ j u, (f x)[j]? = some u → w.cell? ⟨g, k * size + j, none⟩ = some u ∧ w.frozen? ⟨g, k * size + j, none⟩ = false := by
  have hkl : k < l.length := (List.getElem?_eq_some_iff.1 hk).1
  obtain ⟨g, cap, cur, rfl, ho, hh, h1, h2, h3, h4⟩ := h.shape (by omega)
  refine ⟨g, cap, rfl, ho, hh.lt, h1, h2, fun j u hj => ?_⟩
  have hj' : j < size := by rw [← hf x]; exact (List.getElem?_eq_some_iff.1 hj).1
  have hm : k * size + size ≤ l.length * size := by
    have := Nat.mul_le_mul_right size (show k + 1 ≤ l.length from hkl)
    rwa [Nat.add_mul, Nat.one_mul] at this
  have := row_cell hh h4 (k * size + j) (by omega)
  exact ⟨this.1.trans ((flat_get hf l k x hk j hj').trans hj), this.2⟩
theorem QRow.elem (hf : ∀ x, (f x).length = size) (h : QRow own T w e size v l.length (l.flatMap f)) {k : Nat} {x : α} (hk : l[k]? = some x) :
    ∃ g off cap, v = .slice (some ⟨g, off, none⟩) l.length cap ∧ own g = T ∧ g < w.heap.size ∧ l.length ≤ cap ∧ cap ≤ maxLen ∧ ∀ j u, (f x)[j]? = some u → w.cell? ⟨g, off + (k * size + j), none⟩ = some u ∧ w.frozen? ⟨g, off + (k * size + j), none⟩ = false := by
  have hkl : k < l.length := (List.getElem?_eq_some_iff.1 hk).1
  obtain ⟨g, off, cap, cur, rfl, ho, hh, h1, h2, h3, h4⟩ := h.shape (by omega)
  refine ⟨g, off, cap, rfl, ho, hh.lt, h1, h3, fun j u hj => ?_⟩
  have hj' : j < size := by rw [← hf x]; exact (List.getElem?_eq_some_iff.1 hj).1
  have hm : k * size + size ≤ l.length * size := by
    have := Nat.mul_le_mul_right size (show k + 1 ≤ l.length from hkl)
    rwa [Nat.add_mul, Nat.one_mul] at this
  have := qrow_cell hh h4 (k * size + j) (by omega)
  exact ⟨this.1.trans ((flat_get hf l k x hk j hj').trans hj), this.2⟩
end
end Go.Proofs.YtadjbloccjbegaaGreatDoor.own
