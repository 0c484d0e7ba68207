/-
  Slices of numbers; tenurelaw.sameInts.
-/
import Derived.Test.YthldfogmmjompaaDoorRow
import Derived.Test.YthldfogmmjompaaDoorErrs
import Derived.Deep.RegionLaw
import Derived.WalkSpells
namespace Go.Proofs.YthldfogmmjompaaDoor.ints
open Go.RowKit Go.Proofs.YthldfogmmjompaaDoor.heap Go.Proofs.YthldfogmmjompaaDoor.own

theorem infoInt : (Tryd.prog.info? 3).map (fun i => (i.zero, i.size, i.bytes)) = some (some (.int .i64 0), 1, 8) := by kernel_rfl
def nums (l : List Int) : List Value := l.map (Value.int .i64)
theorem nums_one (l : List Int) : ∀ u ∈ nums l, u.oneCell' = true := by
  intro u hu
  obtain ⟨x, -, rfl⟩ := List.mem_map.1 hu
  rfl
/-- A slice of numbers, new from base on. -/
def Ints (base : Nat) (w : World) (v : Value) (l : List Int) : Prop := w.ownsRow base 3 1 v l.length (nums l)
theorem Ints.slice {base : Nat} {w : World} {v : Value} {l : List Int} (h : Ints base w v l) : ∃ a c, v = .slice a l.length c := by
  rcases h.2 with ⟨rfl, h0⟩ | ⟨g, cap, cur, rfl, _⟩
  · exact ⟨none, 0, by rw [← h0]⟩
  · exact ⟨_, _, rfl⟩
theorem Ints.cell {base : Nat} {w : World} {v : Value} {l : List Int} (h : Ints base w v l) (h0 : 0 < l.length) : ∃ g c, v = .slice (some ⟨g, 0, none⟩) l.length c ∧ g < w.heap.size ∧ l.length ≤ maxLen ∧ ∀ i x, l[i]? = some x → w.cell? ⟨g, i, none⟩ = some (.int .i64 x) := by
  rcases h.2 with ⟨_, h1⟩ | ⟨g, cap, cur, rfl, _, hh, hn, hm, hs, hx⟩
  · omega
  · refine ⟨g, cap, rfl, Has.lt (w := w) hh, by omega, fun i x hi => ?_⟩
    have hil := (List.getElem?_eq_some_iff.1 hi).1
    rw [(row_cell (w := w) hh hx i (by omega)).1]
    simp [nums, hi]
theorem Ints.below {base B : Nat} {w w' : World} {v : Value} {l : List Int} (h : Ints base w v l) (hb : Below B w w') (hB : w.heap.size ≤ B) : Ints base w' v l := owns_below h (hb.mono hB)

theorem take_snoc {α : Type} {l : List α} {k : Nat} {x : α} (h : l[k]? = some x) : l.take (k + 1) = l.take k ++ [x] := by
  rw [List.take_add_one, h]; rfl

set_option maxHeartbeats 1000000 in
set_option maxRecDepth 100000 in
theorem sameInts_any (bA bB : Nat) (u v : Value) (xs ys : List Int) (w : World) (hu : Ints bA w u xs) (hv : Ints bB w v ys) :
    Calls Tryd.prog 35 #[u, v] w fun e w' => e = .returned (.bool (decide (xs = ys))) ∧ Below w.heap.size w w' := by
  obtain ⟨a, c, rfl⟩ := hu.slice
  obtain ⟨a', c', rfl⟩ := hv.slice
  by_cases hl : xs.length = ys.length
  · have hl9 : xs.length ≤ 9223372036854775807 := by
      rcases Nat.eq_zero_or_pos xs.length with h0 | h0
      · omega
      · obtain ⟨g, c, e, _, h, _⟩ := hu.cell h0
        unfold maxLen at h
        omega
    obtain ⟨n, hn⟩ : ∃ n, xs.length = n := ⟨_, rfl⟩
    have HX := Lib.hid hn
    have HY : Hid (ys.length = n) := by rw [← hn, hl]; rfl
    have HU := Lib.hid hu
    have HV := Lib.hid hv
    rw [HY.out, hn]
    rw [hn] at hl9
    have hll : ((n : Int) != (n : Int)) = false := by simp
    clear hu hv hl hn
    go_enter Tryd.func35, Tryd.ntmps35
    go_wp2_with fail
    go_loopw [5] (fun i wr => ∃ k : Nat, k ≤ n ∧ i = .int .i64 k ∧ xs.take k = ys.take k ∧ Below w.heap.size w wr) (fun i _ => n - (intOf i).toNat)
    case atStart => exact ⟨0, by omega, rfl, rfl, Below.refl _ _⟩
    case round =>
      obtain ⟨k, hk, rfl, htk, hb⟩ := hrel
      have HTK := Lib.hid htk
      clear htk
      by_cases hlt : k < n
      · obtain ⟨g, c1, e1, hg, -, hc⟩ := HU.out.cell (by rw [HX.out]; omega)
        obtain ⟨g', c1', e1', hg', -, hc'⟩ := HV.out.cell (by rw [HY.out]; omega)
        rw [HX.out] at e1
        rw [HY.out] at e1'
        injection e1 with e2 e3 e4
        injection e1' with e2' e3' e4'
        subst e2 e2' e4 e4'
        obtain ⟨xk, hkx⟩ : ∃ xk, xs[k]? = some xk := ⟨_, List.getElem?_eq_getElem (by rw [HX.out]; exact hlt)⟩
        obtain ⟨yk, hky⟩ : ∃ yk, ys[k]? = some yk := ⟨_, List.getElem?_eq_getElem (by rw [HY.out]; exact hlt)⟩
        have d1 := (hb.cell (p := ⟨g, k, none⟩) hg).trans (hc k _ hkx)
        have d2 := (hb.cell (p := ⟨g', k, none⟩) hg').trans (hc' k _ hky)
        have HKX := Lib.hid hkx
        have HKY := Lib.hid hky
        have hk9 : (k : Int) < n := by omega
        clear hc hc' hkx hky
        by_cases he : xk = yk
        · subst he
          have hn : (xk != xk) = false := by simp
          go_wp2_with fail
          go_region
          all_goals
            go_wp2_with fail
            go_roundw
            case rel => exact ⟨k + 1, by omega, by go_num, by rw [take_snoc HKX.out, take_snoc HKY.out, HTK.out], hb.drew⟩
            case measure => simp [intOf]; omega
        · have hn : (xk != yk) = true := by simpa using he
          have hne : decide (xs = ys) = false := decide_eq_false (fun e => he (by have h1 := HKX.out; have h2 := HKY.out; rw [e] at h1; rw [h1] at h2; exact Option.some.inj h2))
          go_wp2_with fail
          go_region
          all_goals
            go_wp2_with fail
            go_ret
            exact ⟨by rw [hne]; rfl, hb.drew⟩
      · obtain rfl : k = n := by omega
        have hye : decide (xs = ys) = true := decide_eq_true (by have := HTK.out; rw [List.take_of_length_le (Nat.le_of_eq HX.out), List.take_of_length_le (Nat.le_of_eq HY.out)] at this; exact this)
        go_wp2_with fail
        go_ret
        exact ⟨by rw [hye]; rfl, hb⟩
  · have hll : ((xs.length : Int) != (ys.length : Int)) = true := by simp; omega
    have hne : decide (xs = ys) = false := decide_eq_false (fun e => hl (by rw [e]))
    rw [hne]
    go_enter Tryd.func35, Tryd.ntmps35
    go_wp2_with fail
    go_ret
    exact ⟨rfl, Below.refl _ _⟩
end Go.Proofs.YthldfogmmjompaaDoor.ints
