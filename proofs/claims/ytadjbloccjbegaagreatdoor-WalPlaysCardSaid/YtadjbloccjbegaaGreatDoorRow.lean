/-
  Rows of cells: a run of cells written over; clear of one element; what is left of a row when one element is deleted.
-/
import Derived.Test.YtadjbloccjbegaaGreatDoorOwn
import Derived.Laws.IdiomCopy
import Derived.Lib.SliceRun
namespace Go.Proofs.YtadjbloccjbegaaGreatDoor.own
open Go.RowKit Go.Proofs.YtadjbloccjbegaaGreatDoor.heap

def lay (cs : Array Value) : Nat → List Value → Array Value
  | _, [] => cs
  | o, v :: r => lay (cs.setIfInBounds o v) (o + 1) r

theorem lay_size (vs : List Value) : ∀ (cs : Array Value) (o : Nat), (lay cs o vs).size = cs.size := by
  induction vs with
  | nil => intro cs o; rfl
  | cons v r ih => intro cs o; simp [lay, ih]

theorem lay_toList (vs : List Value) : ∀ (cs : Array Value) (o : Nat), o + vs.length ≤ cs.size → (lay cs o vs).toList = cs.toList.take o ++ vs ++ cs.toList.drop (o + vs.length) := by
  induction vs with
  | nil => intro cs o _; simp [lay]
  | cons v r ih =>
    intro cs o h
    simp only [List.length_cons] at h
    simp only [lay]
    rw [ih _ _ (by simp; omega)]
    have hl : o < cs.toList.length := by simp; omega
    have e1 : (cs.setIfInBounds o v).toList = cs.toList.take o ++ v :: cs.toList.drop (o + 1) := by
      rw [Array.toList_setIfInBounds, List.set_eq_take_append_cons_drop, if_pos hl]
    have ht : (cs.toList.take o).length = o := by rw [List.length_take]; omega
    rw [e1]
    have e2 : (cs.toList.take o ++ v :: cs.toList.drop (o + 1)).take (o + 1) = cs.toList.take o ++ [v] := by
      rw [List.take_append, ht, Nat.add_sub_cancel_left, List.take_of_length_le (by rw [ht]; omega)]
      simp
    have e3 : (cs.toList.take o ++ v :: cs.toList.drop (o + 1)).drop (o + 1 + r.length) = cs.toList.drop (o + (r.length + 1)) := by
      rw [List.drop_append, ht, List.drop_of_length_le (by rw [ht]; omega), List.nil_append, show o + 1 + r.length - o = r.length + 1 from by omega, List.drop_succ_cons, List.drop_drop]
      congr 1; omega
    rw [e2, e3]
    simp

theorem Has.setCells {t : TypeId} {g : Nat} (vs : List Value) : ∀ {w : World} {cs : Array Value} (_ : Has w g (.cells cs t)) (o : Nat), Has (w.setCells g o vs) g (.cells (lay cs o vs) t) := by
  induction vs with
  | nil => intro w cs h o; exact h
  | cons v r ih => intro w cs h o; exact ih (h.set_ o v) (o + 1)

section
variable {S : Nat → Prop} {w : World}
theorem Turn.setCells {g : Nat} (vs : List Value) : ∀ {w1 : World} (_ : Turn S w w1) (_ : w.heap.size ≤ g ∨ S g) (o : Nat), Turn S w (w1.setCells g o vs) := by
  induction vs with
  | nil => intro w1 h _ o; exact h
  | cons v r ih => intro w1 h hp o; exact ih (h.setCell (p := ⟨g, o, none⟩) hp v) hp (o + 1)
end

theorem turn_two {S : Nat → Prop} {g : Nat} (hg : S g) (w : World) (a b : Nat) (xs ys : List Value) : Turn S w ((w.drew.setCells g a xs).setCells g b ys) :=
  Turn.setCells ys (Turn.setCells xs (Turn.refl S w).drew (.inr hg) a) (.inr hg) b
theorem size_setCells (b : Nat) : ∀ (vs : List Value) (o : Nat) (w : World), (w.setCells b o vs).heap.size = w.heap.size
  | [], _, _ => rfl
  | v :: r, o, w => by rw [World.setCells, size_setCells b r]; simp [World.setCell]

variable {P : Program}
/-- 'clear(s)' of just one element. -/
theorem run_clear_one (w : World) (t e ty : TypeId) (z : Value) (zs : List Value) (ht : P.underlying t = some (.slice e)) (hv : (zeroValue e).run P w = .ok z w) (hz : (Builtin.zeroCells z.cells 1).toList = zs) (h1 : ∀ v ∈ zs, v.oneCell' = true) (b o c : Nat)
    (hc : ∀ j, j < zs.length → (w.cell? ⟨b, o + j, none⟩).isSome = true) (hf : ∀ j, j < zs.length → w.frozen? ⟨b, o + j, none⟩ = false) :
    (Builtin.clear_ #[t] ty #[.slice (some ⟨b, o, none⟩) 1 c]).run P w = .ok (.tuple #[]) (w.setCells b o zs) := by
  have hst := run_storeCells_cells (P := P) b o zs 0 w (by simpa using hc) (by simpa using hf) h1
  simp only [Nat.add_zero] at hst
  simp [Builtin.clear_, run_underlying ht, hv, hz, hst]

/-- The cells of a row of n elements of size cells each, the k-th one struck. -/
def cut (size k : Nat) (xs : List Value) : List Value := xs.take (k * size) ++ xs.drop ((k + 1) * size)

theorem cut_len {size k n : Nat} {xs : List Value} (hl : xs.length = n * size) (hk : k < n) : (cut size k xs).length = (n - 1) * size := by
  obtain ⟨m, rfl⟩ : ∃ m, n = m + 1 := ⟨n - 1, by omega⟩
  have h1 : (k + 1) * size ≤ (m + 1) * size := Nat.mul_le_mul_right _ (by omega)
  have h2 : k * size ≤ (m + 1) * size := Nat.mul_le_mul_right _ (by omega)
  simp only [cut, List.length_append, List.length_take, List.length_drop, hl, Nat.add_sub_cancel]
  rw [Nat.min_eq_left h2]
  simp only [Nat.succ_mul] at *
  omega

theorem cut_flat {α : Type} (size k : Nat) (f : α → List Value) (hf : ∀ x, (f x).length = size) (l : List α) : cut size k (l.flatMap f) = (l.eraseIdx k).flatMap f := by
  have ht : ∀ (l : List α) (k : Nat), (l.flatMap f).take (k * size) = (l.take k).flatMap f := by
    intro l
    induction l with
    | nil => intro k; simp
    | cons x l ih =>
      intro k
      cases k with
      | zero => simp
      | succ k =>
        rw [List.flatMap_cons, List.take_append, hf, Nat.succ_mul, Nat.add_sub_cancel, ih, List.take_of_length_le (by rw [hf]; omega)]
        simp
  have hd : ∀ (l : List α) (k : Nat), (l.flatMap f).drop (k * size) = (l.drop k).flatMap f := by
    intro l
    induction l with
    | nil => intro k; simp
    | cons x l ih =>
      intro k
      cases k with
      | zero => simp
      | succ k =>
        rw [List.flatMap_cons, List.drop_append, hf, Nat.succ_mul, Nat.add_sub_cancel, ih, List.drop_of_length_le (by rw [hf]; omega)]
        simp
  unfold cut
  rw [ht, hd, ← List.flatMap_append, List.eraseIdx_eq_take_drop_succ]

section
variable {own : Nat → Nat} {w : World} {T : Nat} {e : TypeId} {size n : Nat} {v : Value} {xs : List Value}
/-- A row that holds something, opened. -/
theorem Row.shape (h : Row own T w e size v n xs) (hn : 0 < n) : ∃ g cap cur, v = .slice (some ⟨g, 0, none⟩) n cap ∧ own g = T ∧ Has w g (.cells cur e) ∧ n ≤ cap ∧ cap ≤ maxLen ∧ cur.size = cap * size ∧ cur.toList.take (n * size) = xs := by
  rcases h.1.2 with ⟨_, h0⟩ | ⟨g, cap, cur, h1, _, h3, h4, h5, h6, h7⟩
  · omega
  · exact ⟨g, cap, cur, h1, h.2 g (by rw [h1]; rfl), h3, h4, h5, h6, h7⟩
theorem Row.mk {g cap : Nat} {cur : Array Value} (ho : own g = T) (h : Has w g (.cells cur e)) (h1 : n ≤ cap) (h2 : cap ≤ maxLen) (h3 : cur.size = cap * size) (h4 : cur.toList.take (n * size) = xs) : Row own T w e size (.slice (some ⟨g, 0, none⟩) n cap) n xs := by
  refine ⟨⟨?_, .inr ⟨g, cap, cur, rfl, Nat.zero_le _, h, h1, h2, h3, h4⟩⟩, fun k hk => ?_⟩
  · rw [← h4, List.length_take, Array.length_toList, h3]
    exact Nat.min_eq_left (Nat.mul_le_mul_right _ h1)
  · have : g = k := by simpa [Value.ownBlock] using hk
    rw [← this]; exact ho
theorem row_cell {g : Nat} {cur : Array Value} (h : Has w g (.cells cur e)) (h4 : cur.toList.take (n * size) = xs) (j : Nat) (hj : j < n * size) : w.cell? ⟨g, j, none⟩ = xs[j]? ∧ w.frozen? ⟨g, j, none⟩ = false := by
  refine ⟨?_, h.frozen j⟩
  rw [h.cell, ← h4, List.getElem?_take, if_pos hj, Array.getElem?_toList]
theorem row_there {g cap : Nat} {cur : Array Value} (h : Has w g (.cells cur e)) (h3 : cur.size = cap * size) (j : Nat) (hj : j < cap * size) : (w.cell? ⟨g, j, none⟩).isSome = true ∧ w.frozen? ⟨g, j, none⟩ = false := by
  refine ⟨?_, h.frozen j⟩
  rw [h.cell, Array.getElem?_eq_getElem (by omega)]; rfl

theorem owns_new {w : World} {g : Nat} {t : TypeId} {l : List Value} {base size n : Nat} (h : Has w g (.cells l.toArray t)) (hb : base ≤ g) (hl : l.length = n * size) (hn : n ≤ maxLen) :
    w.ownsRow base t size (.slice (some ⟨g, 0, none⟩) n n) n l :=
  ⟨hl, .inr ⟨g, n, l.toArray, rfl, hb, h, Nat.le_refl _, hn, by simp [hl], by simp [← hl]⟩⟩
theorem owns_base {w : World} {base base' : Nat} (h : w.ownsRow base e size v n xs) (hb : base' ≤ base) : w.ownsRow base' e size v n xs := by
  refine ⟨h.1, ?_⟩
  rcases h.2 with h2 | ⟨g', cap, cur, h1, h2, h3⟩
  · exact .inl h2
  · exact .inr ⟨g', cap, cur, h1, by omega, h3⟩
theorem owns_below {w w' : World} {base : Nat} (h : w.ownsRow base e size v n xs) (hb : Below w.heap.size w w') : w'.ownsRow base e size v n xs := by
  refine ⟨h.1, ?_⟩
  rcases h.2 with h2 | ⟨g, cap, cur, h1, h2, h3, h4⟩
  · exact .inl h2
  · exact .inr ⟨g, cap, cur, h1, h2, (hb.block g (Has.lt (w := w) (g := g) h3)).trans h3, h4⟩
theorem owns_ge {w : World} {base : Nat} (h : w.ownsRow base e size v n xs) : ∀ g, v.ownBlock = some g → base ≤ g := by
  intro g hg
  rcases h.2 with ⟨rfl, _⟩ | ⟨g', _, _, rfl, h, _⟩
  · cases hg
  · have : g' = g := by simpa [Value.ownBlock] using hg
    omega
theorem Row.below {own : Nat → Nat} {T : Nat} {w w' : World} (h : Row own T w e size v n xs) (hb : Below w.heap.size w w') : Row own T w' e size v n xs := ⟨owns_below h.1 hb, h.2⟩
theorem Row.of {own : Nat → Nat} {T base : Nat} (h : w.ownsRow base e size v n xs) (ho : ∀ g, base ≤ g → own g = T) : Row own T w e size v n xs :=
  ⟨owns_base h (Nat.zero_le _), fun g hg => ho g (owns_ge h g hg)⟩

/-- A row behind slices.Delete of its k-th element. -/
theorem row_cut {g cap k : Nat} {cur : Array Value} {zs : List Value} (ho : own g = T) (h : Has w g (.cells cur e)) (h1 : n ≤ cap) (h2 : cap ≤ maxLen) (h3 : cur.size = cap * size) (h4 : cur.toList.take (n * size) = xs) (hk : k < n) (hz : zs.length = size) :
    Row own T ((w.setCells g (k * size) (xs.drop ((k + 1) * size))).setCells g ((n - 1) * size) zs) e size (.slice (some ⟨g, 0, none⟩) (n - 1) cap) (n - 1) (cut size k xs) := by
  have hxl : xs.length = n * size := by
    rw [← h4, List.length_take, Array.length_toList, h3]
    exact Nat.min_eq_left (Nat.mul_le_mul_right _ h1)
  have hcs : n * size ≤ cap * size := Nat.mul_le_mul_right _ h1
  obtain ⟨m, rfl⟩ : ∃ m, n = m + 1 := ⟨n - 1, by omega⟩
  have hk1 : (k + 1) * size ≤ (m + 1) * size := Nat.mul_le_mul_right _ (by omega)
  have hk2 : k * size ≤ m * size := Nat.mul_le_mul_right _ (by omega)
  simp only [Nat.add_sub_cancel]
  have hm1 : (m + 1) * size = m * size + size := Nat.succ_mul _ _
  have hkk : (k + 1) * size = k * size + size := Nat.succ_mul _ _
  have hA := lay_toList (xs.drop ((k + 1) * size)) cur (k * size) (by rw [List.length_drop, hxl, h3]; omega)
  have hB := lay_toList zs (lay cur (k * size) (xs.drop ((k + 1) * size))) (m * size) (by rw [lay_size, hz, h3]; omega)
  refine Row.mk ho (Has.setCells zs (Has.setCells _ h _) _) (by omega) h2 (by rw [lay_size, lay_size, h3]) ?_
  rw [hB, hA]
  have hl : (cur.toList.take (k * size)).length = k * size := by rw [List.length_take, Array.length_toList, h3]; omega
  have hd : (xs.drop ((k + 1) * size)).length = m * size - k * size := by rw [List.length_drop, hxl]; omega
  have e1 : (cur.toList.take (k * size) ++ xs.drop ((k + 1) * size) ++ cur.toList.drop (k * size + (xs.drop ((k + 1) * size)).length)).take (m * size) = cur.toList.take (k * size) ++ xs.drop ((k + 1) * size) := by
    rw [List.take_append, List.take_of_length_le (by rw [List.length_append, hl, hd]; omega), List.length_append, hl, hd, show m * size - (k * size + (m * size - k * size)) = 0 from by omega]
    simp
  have e2 : cur.toList.take (k * size) = xs.take (k * size) := by
    rw [← h4, List.take_take, Nat.min_eq_left (by omega)]
  rw [e1, List.append_assoc, List.take_append, List.take_of_length_le (by rw [List.length_append, hl, hd]; omega), List.length_append, hl, hd, show m * size - (k * size + (m * size - k * size)) = 0 from by omega, List.take_zero, List.append_nil, e2]
  rfl
end
end Go.Proofs.YtadjbloccjbegaaGreatDoor.own
