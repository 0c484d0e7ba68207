/-
  Contracts of the walks of cache.Objects and tenurelaw.sameInts.
-/
import Derived.Test.YthldfogmmjompaaDoorCacheD
namespace Go.Proofs.YthldfogmmjompaaDoor.cache
open Go.RowKit Go.Proofs.YthldfogmmjompaaDoor.heap Go.Proofs.YthldfogmmjompaaDoor.own

theorem infoInt : (Tryd.prog.info? 3).map (fun i => (i.zero, i.size, i.bytes)) = some (some (.int .i64 0), 1, 8) := by kernel_rfl
def nums (l : List Int) : List Value := l.map (Value.int .i64)
theorem nums_one (l : List Int) : ∀ u ∈ nums l, u.oneCell' = true := by
  intro u hu
  obtain ⟨x, -, rfl⟩ := List.mem_map.1 hu
  rfl
/-- A slice of numbers, new from base on. -/
def Ints (base : Nat) (w : World) (v : Value) (l : List Int) : Prop := w.ownsRow base 3 1 v l.length (nums l)
theorem Ints.slice {base : Nat} {w : World} {v : Value} {l : List Int} (h : Ints base w v l) : ∃ a c, v = .slice a l.length c := by
  rcases h.2 with ⟨rfl, h0⟩ | ⟨g, cap, cur, rfl, _⟩
  · exact ⟨none, 0, by rw [← h0]⟩
  · exact ⟨_, _, rfl⟩
theorem Ints.cell {base : Nat} {w : World} {v : Value} {l : List Int} (h : Ints base w v l) (h0 : 0 < l.length) : ∃ g c, v = .slice (some ⟨g, 0, none⟩) l.length c ∧ g < w.heap.size ∧ l.length ≤ maxLen ∧ ∀ i x, l[i]? = some x → w.cell? ⟨g, i, none⟩ = some (.int .i64 x) := by
  rcases h.2 with ⟨_, h1⟩ | ⟨g, cap, cur, rfl, _, hh, hn, hm, hs, hx⟩
  · omega
  · refine ⟨g, cap, rfl, Has.lt (w := w) hh, by omega, fun i x hi => ?_⟩
    have hil := (List.getElem?_eq_some_iff.1 hi).1
    rw [(row_cell (w := w) hh hx i (by omega)).1]
    simp [nums, hi]
theorem Ints.below {base B : Nat} {w w' : World} {v : Value} {l : List Int} (h : Ints base w v l) (hb : Below B w w') (hB : w.heap.size ≤ B) : Ints base w' v l := owns_below h (hb.mono hB)

theorem Ints.snoc {base n : Nat} {w : World} {u : Value} {l : List Int} {x : Int} (hn : l.length = n) (h : w.ownsRow base 3 1 u (n + 1) (nums l ++ [.int .i64 x])) : Ints base w u (l ++ [x]) := by
  subst hn
  unfold Ints
  rw [List.length_append, List.length_singleton]
  have : nums (l ++ [x]) = nums l ++ [.int .i64 x] := by simp [nums]
  rw [this]
  exact h
theorem take_snoc {α : Type} {l : List α} {k : Nat} {x : α} (h : l[k]? = some x) : l.take (k + 1) = l.take k ++ [x] := by
  rw [List.take_add_one, h]; rfl

set_option maxHeartbeats 1000000 in
set_option maxRecDepth 100000 in
theorem Objects_any (own : Nat → Nat) (T b q : Nat) (v : Value) (l : List It) (w : World) (k0 : w.cell? ⟨b, q, none⟩ = some v) (h : Items own T w v l) (hl : l.length ≤ 1000) :
    Calls Tryd.prog 36 #[.pointer (some ⟨b, q, none⟩)] w fun e w' => ∃ u, e = .returned u ∧ Ints w.heap.size w' u (l.map (·.obj)) ∧ Below w.heap.size w w' := by
  obtain ⟨i0, hi0, hz0, hz1, hz2⟩ := info_parts infoInt
  have hsh : ∃ a c, v = .slice a l.length c ∧ (0 < l.length → ∃ g, a = some ⟨g, 0, none⟩ ∧ g < w.heap.size ∧ ∀ k x, l[k]? = some x → ∀ j, j < 4 → w.cell? ⟨g, k * 4 + j, none⟩ = (itc x)[j]?) := by
    rcases Nat.eq_zero_or_pos l.length with h0 | h0
    · rcases h.1.2 with ⟨rfl, e⟩ | ⟨g, cap, cur, rfl, _⟩
      · exact ⟨none, 0, by rw [← h0], fun h => by omega⟩
      · exact ⟨_, _, rfl, fun h => by omega⟩
    · obtain ⟨g, cap, cur, rfl, ho, hh, hnc, hcm, hcs, hcx⟩ := h.shape h0
      refine ⟨_, _, rfl, fun _ => ⟨g, rfl, hh.lt, fun k x hk j hj => ?_⟩⟩
      have hkl := (List.getElem?_eq_some_iff.1 hk).1
      rw [(row_cell hh hcx (k * 4 + j) (by omega)).1, icells_get l k x hk j hj]
  obtain ⟨a, c, rfl, hcell⟩ := hsh
  have hblt : b < w.heap.size := by
    rcases Nat.lt_or_ge b w.heap.size with h' | h'
    · exact h'
    · simp [World.cell?, Array.getElem?_eq_none h'] at k0
  have HC := Lib.hid hcell
  clear h hcell
  go_enter Tryd.func36, Tryd.ntmps36
  go_wp2
  go_loopw [3, 5, 11] (fun u _ i wr => ∃ k : Nat, k ≤ l.length ∧ i = .int .i64 k ∧ Ints w.heap.size wr u ((l.take k).map (·.obj)) ∧ Below w.heap.size w wr) (fun _ _ i _ => l.length - (intOf i).toNat)
  case atStart => exact ⟨0, by omega, rfl, ⟨rfl, .inl ⟨rfl, rfl⟩⟩, Below.refl _ _⟩
  case round =>
    obtain ⟨k, hk, rfl, hin, hb⟩ := hrel
    by_cases hlt : k < l.length
    · obtain ⟨g, rfl, hg, hc⟩ := HC.out (by omega)
      have hkx : l[k]? = some l[k] := List.getElem?_eq_getElem hlt
      have hcx := hc k _ hkx
      have hbc : ∀ j, wr.cell? ⟨g, k * 4 + j, none⟩ = w.cell? ⟨g, k * 4 + j, none⟩ := fun j => hb.cell (p := ⟨g, k * 4 + j, none⟩) hg
      generalize hx : l[k] = x at hkx hcx
      have c0 : wr.cell? ⟨g, k * 4, none⟩ = some (.int .i64 x.obj) := (hbc 0).trans (hcx 0 (by omega))
      have c1 : wr.cell? ⟨g, k * 4 + 1, none⟩ = some (.string ⟨x.data.toArray⟩) := (hbc 1).trans (hcx 1 (by omega))
      have c2 : wr.cell? ⟨g, k * 4 + 2, none⟩ = some (.int .i64 x.ver) := (hbc 2).trans (hcx 2 (by omega))
      have c3 : wr.cell? ⟨g, k * 4 + 3, none⟩ = some (.int .i64 x.till) := (hbc 3).trans (hcx 3 (by omega))
      have hlen : ((l.take k).map (·.obj)).length = k := by simp; omega
      have HIN := Lib.hid hin
      have HB := Lib.hid hb
      have HKX := Lib.hid hkx
      have HLEN := Lib.hid hlen
      have hsw := hb.size
      have HOW : Hid (((wr.alloc (.cells #[.int .i64 x.obj, .string ⟨x.data.toArray⟩, .int .i64 x.ver, .int .i64 x.till] 122)).alloc (.cells #[.int .i64 x.obj] 3)).ownsRow w.heap.size 3 1 _ _ _) := (owns_below hin ((Below.refl wr.heap.size wr).alloc (Nat.le_refl _) _)).alloc _
      rw [hlen] at HOW
      clear hbc hcx hc hkx hx hin hb hlen
      go_wp2_with (at_builtin; refine wpList_append_own _ rfl (.tmp 15) (.tmp 18) 80 rfl w.heap.size 3 i0 (.int .i64 0) 1 8 Tryd.underlying80 hi0 hz0 hz1 hz2 rfl (by decide) _ _ _ rfl HOW.out ⟨wr.heap.size + 1, 0, none⟩ 1 1 [.int .i64 x.obj] rfl rfl ?c1 (by simp [Value.oneCell']) ?c3 ?c4 ?c5 ?_)
      case c1 =>
        intro j u hj
        have hn := Has.new (wr.alloc (.cells #[.int .i64 x.obj, .string ⟨x.data.toArray⟩, .int .i64 x.ver, .int .i64 x.till] 122)) (.cells #[.int .i64 x.obj] 3)
        rw [World.size_alloc] at hn
        match j, hj with
        | 0, hj =>
          obtain rfl : Value.int .i64 x.obj = u := by simpa using hj
          exact hn.cell 0
      case c3 => unfold maxLen; omega
      case c4 => omega
      case c5 => simp; omega
      intro u2 w2 hown hg2 _
      go_wp2_with fail
      go_roundw
      case rel =>
        refine ⟨k + 1, by omega, by go_num, ?_, ?_⟩
        · rw [take_snoc HKX.out, List.map_append]
          rw [← List.map_take] at hown
          exact Ints.snoc HLEN.out hown
        · exact ((HB.out.alloc hsw _).alloc (by simp; omega) _).grown hg2 (by simp; omega) (fun j hj => owns_ge HIN.out j hj)
      case measure => simp [intOf]; omega
    · obtain rfl : k = l.length := by omega
      go_wp2_with fail
      go_ret
      rw [List.take_length] at hin
      exact ⟨_, rfl, hin, hb⟩

set_option maxHeartbeats 1000000 in
set_option maxRecDepth 100000 in
theorem sameInts_any (bA bB : Nat) (u v : Value) (xs ys : List Int) (w : World) (hu : Ints bA w u xs) (hv : Ints bB w v ys) :
    Calls Tryd.prog 35 #[u, v] w fun e w' => e = .returned (.bool (decide (xs = ys))) ∧ Below w.heap.size w w' := by
  obtain ⟨a, c, rfl⟩ := hu.slice
  obtain ⟨a', c', rfl⟩ := hv.slice
  by_cases hl : xs.length = ys.length
  · have hl9 : xs.length ≤ 9223372036854775807 := by
      rcases Nat.eq_zero_or_pos xs.length with h0 | h0
      · omega
      · obtain ⟨g, c, e, _, h, _⟩ := hu.cell h0
        unfold maxLen at h
        omega
    obtain ⟨n, hn⟩ : ∃ n, xs.length = n := ⟨_, rfl⟩
    have HX := Lib.hid hn
    have HY : Hid (ys.length = n) := by rw [← hn, hl]; rfl
    have HU := Lib.hid hu
    have HV := Lib.hid hv
    rw [HY.out, hn]
    rw [hn] at hl9
    have hll : ((n : Int) != (n : Int)) = false := by simp
    clear hu hv hl hn
    go_enter Tryd.func35, Tryd.ntmps35
    go_wp2_with fail
    go_loopw [5] (fun i wr => ∃ k : Nat, k ≤ n ∧ i = .int .i64 k ∧ xs.take k = ys.take k ∧ Below w.heap.size w wr) (fun i _ => n - (intOf i).toNat)
    case atStart => exact ⟨0, by omega, rfl, rfl, Below.refl _ _⟩
    case round =>
      obtain ⟨k, hk, rfl, htk, hb⟩ := hrel
      have HTK := Lib.hid htk
      clear htk
      by_cases hlt : k < n
      · obtain ⟨g, c1, e1, hg, -, hc⟩ := HU.out.cell (by rw [HX.out]; omega)
        obtain ⟨g', c1', e1', hg', -, hc'⟩ := HV.out.cell (by rw [HY.out]; omega)
        rw [HX.out] at e1
        rw [HY.out] at e1'
        injection e1 with e2 e3 e4
        injection e1' with e2' e3' e4'
        subst e2 e2' e4 e4'
        obtain ⟨xk, hkx⟩ : ∃ xk, xs[k]? = some xk := ⟨_, List.getElem?_eq_getElem (by rw [HX.out]; exact hlt)⟩
        obtain ⟨yk, hky⟩ : ∃ yk, ys[k]? = some yk := ⟨_, List.getElem?_eq_getElem (by rw [HY.out]; exact hlt)⟩
        have d1 := (hb.cell (p := ⟨g, k, none⟩) hg).trans (hc k _ hkx)
        have d2 := (hb.cell (p := ⟨g', k, none⟩) hg').trans (hc' k _ hky)
        have HKX := Lib.hid hkx
        have HKY := Lib.hid hky
        have hk9 : (k : Int) < n := by omega
        clear hc hc' hkx hky
        by_cases he : xk = yk
        · subst he
          have hn : (xk != xk) = false := by simp
          go_wp2_with fail
          go_region
          all_goals
            go_wp2_with fail
            go_roundw
            case rel => exact ⟨k + 1, by omega, by go_num, by rw [take_snoc HKX.out, take_snoc HKY.out, HTK.out], hb.drew⟩
            case measure => simp [intOf]; omega
        · have hn : (xk != yk) = true := by simpa using he
          have hne : decide (xs = ys) = false := decide_eq_false (fun e => he (by have h1 := HKX.out; have h2 := HKY.out; rw [e] at h1; rw [h1] at h2; exact Option.some.inj h2))
          go_wp2_with fail
          go_region
          all_goals
            go_wp2_with fail
            go_ret
            exact ⟨by rw [hne]; rfl, hb.drew⟩
      · obtain rfl : k = n := by omega
        have hye : decide (xs = ys) = true := decide_eq_true (by have := HTK.out; rw [List.take_of_length_le (Nat.le_of_eq HX.out), List.take_of_length_le (Nat.le_of_eq HY.out)] at this; exact this)
        go_wp2_with fail
        go_ret
        exact ⟨by rw [hye]; rfl, hb⟩
  · have hll : ((xs.length : Int) != (ys.length : Int)) = true := by simp; omega
    have hne : decide (xs = ys) = false := decide_eq_false (fun e => hl (by rw [e]))
    rw [hne]
    go_enter Tryd.func35, Tryd.ntmps35
    go_wp2_with fail
    go_ret
    exact ⟨rfl, Below.refl _ _⟩
end Go.Proofs.YthldfogmmjompaaDoor.cache
