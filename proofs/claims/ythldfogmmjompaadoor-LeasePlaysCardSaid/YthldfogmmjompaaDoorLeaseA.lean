/-
  Contracts of the walks of package lease: right, Leans, Session, Volume.
-/
import Derived.Test.YthldfogmmjompaaDoorOwn
import Derived.Test.YthldfogmmjompaaDoorErrs
import Derived.Test.YthldfogmmjompaaDoorRegionLast
import Derived.Deep.RegionLaw
import Derived.WalkSpells
namespace Go.Proofs.YthldfogmmjompaaDoor.lease
open Go.RowKit Go.Proofs.YthldfogmmjompaaDoor.heap Go.Proofs.YthldfogmmjompaaDoor.own


def isClient (c : Int) : Bool := decide (0 ≤ c) && decide (c < 4)
def isObject (o : Int) : Bool := decide (0 ≤ o) && decide (o < 8)

theorem right_any (c o : Int) (w : World) :
    Calls Tryd.prog 62 #[.int .i64 c, .int .i64 o] w fun e w' => e = .returned (.bool (isClient c && isObject o)) ∧ w = w' := by
  by_cases h1 : 0 ≤ c
  · by_cases h2 : c < 4
    · by_cases h3 : 0 ≤ o
      · by_cases h4 : o < 8
        · have d1 := decide_eq_true h1
          have d2 := decide_eq_true h2
          have d3 := decide_eq_true h3
          have d4 := decide_eq_true h4
          have e : (isClient c && isObject o) = true := by simp [isClient, isObject, h1, h2, h3, h4]
          rw [e]
          go_enter Tryd.func62, Tryd.ntmps62
          go_wp2
          go_ret
          exact ⟨rfl, rfl⟩
        · have d1 := decide_eq_true h1
          have d2 := decide_eq_true h2
          have d3 := decide_eq_true h3
          have d4 := decide_eq_false h4
          have e : (isClient c && isObject o) = false := by simp [isClient, isObject, h1, h2, h3, h4]
          rw [e]
          go_enter Tryd.func62, Tryd.ntmps62
          go_wp2
          go_ret
          exact ⟨rfl, rfl⟩
      · have d1 := decide_eq_true h1
        have d2 := decide_eq_true h2
        have d3 := decide_eq_false h3
        have e : (isClient c && isObject o) = false := by simp [isClient, isObject, h1, h2, h3]
        rw [e]
        go_enter Tryd.func62, Tryd.ntmps62
        go_wp2
        go_ret
        exact ⟨rfl, rfl⟩
    · have d1 := decide_eq_true h1
      have d2 := decide_eq_false h2
      have e : (isClient c && isObject o) = false := by simp [isClient, isObject, h1, h2]
      rw [e]
      go_enter Tryd.func62, Tryd.ntmps62
      go_wp2
      go_ret
      exact ⟨rfl, rfl⟩
  · have d1 := decide_eq_false h1
    have e : (isClient c && isObject o) = false := by simp [isClient, isObject, h1]
    rw [e]
    go_enter Tryd.func62, Tryd.ntmps62
    go_wp2
    go_ret
    exact ⟨rfl, rfl⟩

/-- A table's cells: its map, the leases of the volume, the sessions. -/
def tcells (m : Value) (vs ss : List Int) : List Value := m :: (vs.map (Value.int .i64) ++ ss.map (Value.int .i64))
theorem tcells_vol {m : Value} {vs ss : List Int} {c : Nat} (hc : c < vs.length) : (tcells m vs ss)[1 + c]? = some (.int .i64 (vs.getD c 0)) := by
  rw [Nat.add_comm]
  simp only [tcells, List.getElem?_cons_succ]
  rw [List.getElem?_append_left (by simpa using hc), List.getElem?_map, List.getElem?_eq_getElem hc]
  simp [List.getD, hc]
theorem tcells_ses {m : Value} {vs ss : List Int} {c : Nat} (hv : vs.length = 4) (hc : c < ss.length) : (tcells m vs ss)[5 + c]? = some (.int .i64 (ss.getD c 0)) := by
  rw [show 5 + c = (4 + c) + 1 from by omega]
  simp only [tcells, List.getElem?_cons_succ]
  rw [List.getElem?_append_right (by simp; omega), List.length_map, hv, Nat.add_sub_cancel_left, List.getElem?_map, List.getElem?_eq_getElem hc]
  simp [List.getD, hc]

theorem Leans_no (p : Value) (c now : Int) (w : World) (h : isClient c = false) :
    Calls Tryd.prog 48 #[p, .int .i64 c, .int .i64 now] w fun e w' => e = .returned (.bool false) ∧ w = w' := by
  have R := right_any c 0 w
  rw [h, Bool.false_and] at R
  go_enter Tryd.func48, Tryd.ntmps48
  go_wp2_with (go_at_call 62; refine R.mono ?_; rintro e w' ⟨rfl, rfl⟩)
  go_ret
  exact ⟨rfl, rfl⟩
theorem Leans_yes (b : Nat) (m : Value) (vs ss : List Int) (c : Nat) (now : Int) (w : World) (hB : Has w b (.cells (tcells m vs ss).toArray 129)) (hv : vs.length = 4) (hc : c < 4) :
    Calls Tryd.prog 48 #[.pointer (some ⟨b, 0, none⟩), .int .i64 c, .int .i64 now] w fun e w' => e = .returned (.bool (decide (now < vs.getD c 0))) ∧ w = w' := by
  have R := right_any c 0 w
  have e0 : (isClient c && isObject 0) = true := by simp [isClient, isObject]; omega
  rw [e0] at R
  have k0 : w.cell? ⟨b, 1 + c, none⟩ = some (.int .i64 (vs.getD c 0)) := by rw [hB.cell, ← tcells_vol (m := m) (ss := ss) (c := c) (by omega)]; simp
  have k1 : w.cell? ⟨b, c + 1, none⟩ = some (.int .i64 (vs.getD c 0)) := by rw [Nat.add_comm]; exact k0
  have hc4 : (c : Int) < 4 := by omega
  generalize vs.getD c 0 = x at k0 k1
  clear hB
  go_enter Tryd.func48, Tryd.ntmps48
  go_wp2_with (go_at_call 62; refine R.mono ?_; rintro e w' ⟨rfl, rfl⟩)
  go_ret
  exact ⟨rfl, rfl⟩
end Go.Proofs.YthldfogmmjompaaDoor.lease
