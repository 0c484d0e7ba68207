/-
  A slice that stands at whatever place of a row: append to it, its first element taken off.
-/
import Derived.Test.YtadjbloccjbegaaGreatDoorRow
import Derived.ArgAppend
namespace Go.Proofs.YtadjbloccjbegaaGreatDoor.own
open Go.RowKit Go.Proofs.YtadjbloccjbegaaGreatDoor.heap

/-- A slice of the call's own, at whatever place of a row of T's. -/
def QRow (own : Nat → Nat) (T : Nat) (w : World) (e : TypeId) (size : Nat) (v : Value) (n : Nat) (xs : List Value) : Prop :=
  xs.length = n * size ∧ ((v = .slice none 0 0 ∧ n = 0) ∨ ∃ g off cap cur, v = .slice (some ⟨g, off, none⟩) n cap ∧ own g = T ∧ Has w g (.cells cur e) ∧ n ≤ cap ∧ off + cap * size ≤ cur.size ∧ cap ≤ maxLen ∧ (cur.toList.drop off).take (n * size) = xs)

section
variable {own own1 : Nat → Nat} {S : Nat → Prop} {w w1 w2 : World} {T : Nat} {e : TypeId} {size n : Nat} {v : Value} {xs : List Value}
theorem QRow.of_row (h : Row own T w e size v n xs) : QRow own T w e size v n xs := by
  refine ⟨h.1.1, ?_⟩
  rcases h.1.2 with h0 | ⟨g, cap, cur, rfl, -, h2, h3, h4, h5, h6⟩
  · exact .inl h0
  · exact .inr ⟨g, 0, cap, cur, rfl, h.2 g rfl, h2, h3, by omega, h4, by simpa using h6⟩
theorem QRow.lt (h : QRow own T w e size v n xs) : ∀ g, v.ownBlock = some g → g < w.heap.size ∧ own g = T := by
  intro g hg
  rcases h.2 with ⟨rfl, _⟩ | ⟨g', off, cap, cur, rfl, h1, h2, _⟩
  · cases hg
  · obtain rfl : g' = g := by simpa [Value.ownBlock] using hg
    exact ⟨h2.lt, h1⟩
theorem QRow.nil (own : Nat → Nat) (T : Nat) (w : World) (e : TypeId) (size : Nat) : QRow own T w e size (.slice none 0 0) 0 [] := ⟨by simp, .inl ⟨rfl, rfl⟩⟩
theorem QRow.keep (h : QRow own T w e size v n xs) (ht : Turn S w w1) (he : Ext w own own1) (hn : ∀ k, k < w.heap.size → own k = T → ¬ S k) : QRow own1 T w1 e size v n xs := by
  refine ⟨h.1, ?_⟩
  rcases h.2 with h0 | ⟨g, off, cap, cur, rfl, h1, h2, h3⟩
  · exact .inl h0
  · exact .inr ⟨g, off, cap, cur, rfl, by rw [he g h2.lt]; exact h1, ht.has h2 (hn g h2.lt h1), h3⟩
theorem QRow.below (h : QRow own T w e size v n xs) (hb : Below w.heap.size w w1) : QRow own T w1 e size v n xs :=
  h.keep (S := fun _ => False) (Turn.of_below hb (Nat.le_refl _)) (Ext.refl _ _) (fun _ _ _ h => h)
theorem QRow.slice (h : QRow own T w e size v n xs) : ∃ a c, v = .slice a n c ∧ n ≤ c ∧ c ≤ maxLen := by
  rcases h.2 with ⟨rfl, rfl⟩ | ⟨g, off, cap, cur, rfl, -, -, h3, -, h5, -⟩
  · exact ⟨none, 0, rfl, Nat.le_refl _, by simp [maxLen]⟩
  · exact ⟨_, cap, rfl, h3, h5⟩
theorem QRow.shape (h : QRow own T w e size v n xs) (hn : 0 < n) : ∃ g off cap cur, v = .slice (some ⟨g, off, none⟩) n cap ∧ own g = T ∧ Has w g (.cells cur e) ∧ n ≤ cap ∧ off + cap * size ≤ cur.size ∧ cap ≤ maxLen ∧ (cur.toList.drop off).take (n * size) = xs := by
  rcases h.2 with ⟨-, h0⟩ | h
  · omega
  · exact h
theorem QRow.mk {g off cap : Nat} {cur : Array Value} (ho : own g = T) (h : Has w g (.cells cur e)) (h1 : n ≤ cap) (h2 : off + cap * size ≤ cur.size) (h3 : cap ≤ maxLen) (h4 : (cur.toList.drop off).take (n * size) = xs) : QRow own T w e size (.slice (some ⟨g, off, none⟩) n cap) n xs := by
  refine ⟨?_, .inr ⟨g, off, cap, cur, rfl, ho, h, h1, h2, h3, h4⟩⟩
  have : n * size ≤ cap * size := Nat.mul_le_mul_right _ h1
  rw [← h4, List.length_take, List.length_drop, Array.length_toList]
  omega
theorem qrow_cell {g off : Nat} {cur : Array Value} (h : Has w g (.cells cur e)) (h4 : (cur.toList.drop off).take (n * size) = xs) (j : Nat) (hj : j < n * size) : w.cell? ⟨g, off + j, none⟩ = xs[j]? ∧ w.frozen? ⟨g, off + j, none⟩ = false := by
  refine ⟨?_, h.frozen _⟩
  rw [h.cell, ← h4, List.getElem?_take, if_pos hj, List.getElem?_drop, Array.getElem?_toList]
/-- The first element is taken off. -/
theorem QRow.tail {g off cap : Nat} (h : QRow own T w e size (.slice (some ⟨g, off, none⟩) n cap) n xs) (hn : 0 < n) : QRow own T w e size (.slice (some ⟨g, off + size, none⟩) (n - 1) (cap - 1)) (n - 1) (xs.drop size) := by
  obtain ⟨g', off', cap', cur, e1, ho, hh, h1, h2, h3, h4⟩ := h.shape hn
  injection e1 with e1 e2 e3
  injection e1 with e1
  injection e1 with e1 e4
  subst e1 e3 e4
  have hm : cap * size = (cap - 1) * size + size := by
    obtain ⟨c, rfl⟩ : ∃ c, cap = c + 1 := ⟨cap - 1, by omega⟩
    rw [Nat.add_sub_cancel, Nat.add_mul, Nat.one_mul]
  have hm2 : n * size = (n - 1) * size + size := by
    obtain ⟨c, rfl⟩ : ∃ c, n = c + 1 := ⟨n - 1, by omega⟩
    rw [Nat.add_sub_cancel, Nat.add_mul, Nat.one_mul]
  refine QRow.mk ho hh (by omega) (by omega) (by omega) ?_
  rw [← h4, hm2, Nat.add_comm ((n - 1) * size) size, List.drop_take, List.drop_drop, show size + (n - 1) * size - size = (n - 1) * size by omega]
theorem grown_setRow {g : Nat} (cs : Array Value) (w : World) (row : Option Nat) (h : row = some g) : w.grownBy (w.setRow g cs) row :=
  ⟨rfl, rfl, rfl, by simp [World.setRow], fun k _ hk => setRow_other _ _ _ _ fun e => hk (by rw [h, e])⟩

variable {P : Program}
set_option maxHeartbeats 1000000 in
theorem run_append_q (t ty : TypeId) (i : TypeInfo) (z : Value) (bytes : Nat) (ht : P.underlying t = some (.slice e)) (hi : P.info? e = some i) (hz : i.zero = some z)
    (hsize : i.size = size) (hby : i.bytes = bytes) (hzs : z.cells.size = size) (hsz : 0 < size) (h : QRow own T w e size v n xs)
    (a : Addr) (m c : Nat) (news : List Value) (hl : news.length = m * size) (hnews : ∀ j u, news[j]? = some u → w.cell? (a.add j) = some u) (h1 : ∀ u ∈ news, u.oneCell' = true)
    (hm : 0 < m) (h63 : n + m ≤ maxLen) (hbytes : (n + m) * bytes ≤ 140737488355328) :
    ∃ g off cap w', (Builtin.append_ #[t, t] ty #[v, .slice (some a) m c]).run P w = .ok (.slice (some ⟨g, off, none⟩) (n + m) cap) w' ∧ QRow (newOwn own w T) T w' e size (.slice (some ⟨g, off, none⟩) (n + m) cap) (n + m) (xs ++ news) ∧ w.grownBy w' v.ownBlock ∧ (v.ownBlock = some g ∨ w.heap.size ≤ g) := by
  have other : ∀ v' w', w'.ownsRow w.heap.size e size v' (n + m) (xs ++ news) → w.grownBy w' none → (∃ g cap, v' = .slice (some ⟨g, 0, none⟩) (n + m) cap ∧ QRow (newOwn own w T) T w' e size v' (n + m) (xs ++ news) ∧ w.grownBy w' v.ownBlock ∧ w.heap.size ≤ g) := fun v' w' h1 h2 => by
    rcases h1.2 with ⟨-, h0⟩ | ⟨g, cap, cur, rfl, hb, hh, q1, q2, q3, q4⟩
    · omega
    · exact ⟨g, cap, rfl, QRow.of_row ⟨owns_base h1 (Nat.zero_le _), fun g' hg => by
        obtain rfl : g = g' := by simpa [Value.ownBlock] using hg
        exact new_new hb⟩, ⟨h2.os, h2.tape, h2.output, h2.size, fun k hk _ => h2.block k hk (by simp)⟩, hb⟩
  rcases h.2 with ⟨rfl, rfl⟩ | ⟨g, off, cap, cur, rfl, ho, hh, h2, h3, h4, h5⟩
  · obtain rfl : xs = [] := List.eq_nil_of_length_eq_zero (by simpa using h.1)
    obtain ⟨v', w', hrun, r1, r2, -⟩ := run_append_own (P := P) w w.heap.size t ty e i z size bytes ht hi hz hsize hby hzs hsz (.slice none 0 0) 0 [] (World.ownsRow_nil w _ e size) a m c news hl hnews h1 h63 hbytes (Nat.le_refl _)
    obtain ⟨g, cap, rfl, q1, q2, q3⟩ := other v' w' r1 ⟨r2.os, r2.tape, r2.output, r2.size, fun k hk _ => r2.block k hk (by simp [Value.ownBlock])⟩
    exact ⟨g, 0, cap, w', hrun, q1, q2, .inr q3⟩
  · rcases Nat.lt_or_ge cap (n + m) with hc | hc
    · have hmn : n * size ≤ cap * size := Nat.mul_le_mul_right _ h2
      obtain ⟨v', w', hrun, r1, r2⟩ := run_append_arg_grows (P := P) w t ty e i z size bytes ht hi hz hsize hby hzs hsz ⟨g, off, none⟩ n cap xs h.1 (fun j u hj => by
        have hj' : j < n * size := by rw [← h.1]; exact (List.getElem?_eq_some_iff.1 hj).1
        have e1 : (⟨g, off, none⟩ : Addr).add j = ⟨g, off + j, none⟩ := by by_cases h0 : j = 0 <;> simp [Addr.add, h0]
        rw [e1, (qrow_cell hh h5 j hj').1, hj]) a m c news hl hnews hc h63 hbytes
      obtain ⟨g', cap', rfl, q1, q2, q3⟩ := other v' w' r1 r2
      exact ⟨g', 0, cap', w', hrun, q1, q2, .inr q3⟩
    · have hmn : (n + m) * size ≤ cap * size := Nat.mul_le_mul_right _ hc
      have hsum : (n + m) * size = n * size + m * size := Nat.add_mul _ _ _
      have hf := run_firstCells_some (P := P) w i.size m a m c news (by rw [hsize]; exact hl) hnews
      have hst := run_storeCells_at P g (off + n * size) e news 0 cur w hh (by omega) h1
      simp only [Nat.add_zero] at hst
      refine ⟨g, off, cap, w.setRow g (cur.toList.take (off + n * size) ++ news ++ cur.toList.drop (off + n * size + news.length)).toArray, ?_, ?_, grown_setRow _ _ _ rfl, .inl rfl⟩
      · subst hsize
        simp [Builtin.append_, run_underlying ht, sizeOf, typeInfo, hi, Builtin.lenOf, hc, hf, Addr.add_lit, hst]
      · have hg2 := hh.lt
        have hcl : cur.toList.length = cur.size := by simp
        refine QRow.mk (by rw [new_old hg2]; exact ho) (hh.setRow _) hc ?_ h4 ?_
        · simp; omega
        · simp only [List.append_assoc]
          rw [List.drop_append_of_le_length (by simp; omega), List.drop_take, show off + n * size - off = n * size by omega, h5, List.take_append, h.1]
          rw [List.take_of_length_le (by rw [h.1]; omega), hsum, Nat.add_sub_cancel_left, ← hl, List.take_left']
          rfl
end
end Go.Proofs.YtadjbloccjbegaaGreatDoor.own
