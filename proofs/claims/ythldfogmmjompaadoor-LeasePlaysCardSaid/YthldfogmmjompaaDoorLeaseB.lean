/-
  Contracts of the walks of package lease, on: Session, Volume.
-/
import Derived.Test.YthldfogmmjompaaDoorLeaseA
namespace Go.Proofs.YthldfogmmjompaaDoor.lease
open Go.RowKit Go.Proofs.YthldfogmmjompaaDoor.heap Go.Proofs.YthldfogmmjompaaDoor.own

theorem Session_no (p : Value) (c : Int) (w : World) (h : isClient c = false) :
    Calls Tryd.prog 47 #[p, .int .i64 c] w fun e w' => e = .returned (.tuple #[.int .i64 0, .iface 22 (.int .i64 2)]) ∧ w = w' := by
  have R := right_any c 0 w
  rw [h, Bool.false_and] at R
  go_enter Tryd.func47, Tryd.ntmps47
  go_wp2_with (go_at_call 62; refine R.mono ?_; rintro e w' ⟨rfl, rfl⟩)
  exact bodyPost_ret (v := .tuple #[.int .i64 0, .iface 22 (.int .i64 2)]) (by simp [results, Tryd.results47, go_sem]) rfl ⟨rfl, rfl⟩
theorem Session_yes (b : Nat) (m : Value) (vs ss : List Int) (c : Nat) (w : World) (hB : Has w b (.cells (tcells m vs ss).toArray 129)) (hv : vs.length = 4) (hs : ss.length = 4) (hc : c < 4) :
    Calls Tryd.prog 47 #[.pointer (some ⟨b, 0, none⟩), .int .i64 c] w fun e w' => e = .returned (.tuple #[.int .i64 (ss.getD c 0), .nilIface]) ∧ w = w' := by
  have R := right_any c 0 w
  have e0 : (isClient c && isObject 0) = true := by simp [isClient, isObject]; omega
  rw [e0] at R
  have k0 : w.cell? ⟨b, 5 + c, none⟩ = some (.int .i64 (ss.getD c 0)) := by rw [hB.cell, ← tcells_ses (m := m) (vs := vs) (c := c) hv (by omega)]; simp
  have k1 : w.cell? ⟨b, c + 5, none⟩ = some (.int .i64 (ss.getD c 0)) := by rw [Nat.add_comm]; exact k0
  have hc4 : (c : Int) < 4 := by omega
  generalize ss.getD c 0 = x at k0 k1
  clear hB
  go_enter Tryd.func47, Tryd.ntmps47
  go_wp2_with (go_at_call 62; refine R.mono ?_; rintro e w' ⟨rfl, rfl⟩)
  exact bodyPost_ret (v := .tuple #[.int .i64 x, .nilIface]) (by simp [results, Tryd.results47, go_sem]) rfl ⟨rfl, rfl⟩

theorem Volume_no (p : Value) (c u : Int) (w : World) (h : ¬ (isClient c = true ∧ 0 ≤ u ∧ u ≤ 1099511627776)) :
    Calls Tryd.prog 42 #[p, .int .i64 c, .int .i64 u] w fun e w' => e = .returned (.iface 22 (.int .i64 2)) ∧ w = w' := by
  have R := right_any c 0 w
  have e1 : isObject 0 = true := rfl
  rw [e1, Bool.and_true] at R
  cases hc : isClient c with
  | false =>
    rw [hc] at R
    go_enter Tryd.func42, Tryd.ntmps42
    go_wp2_with (go_at_call 62; refine R.mono ?_; rintro e w' ⟨rfl, rfl⟩)
    go_ret
    exact ⟨rfl, rfl⟩
  | true =>
    rw [hc] at R h
    by_cases h0 : u < 0
    · have d0 := decide_eq_true h0
      go_enter Tryd.func42, Tryd.ntmps42
      go_wp2_with (go_at_call 62; refine R.mono ?_; rintro e w' ⟨rfl, rfl⟩)
      go_ret
      exact ⟨rfl, rfl⟩
    · have d0 := decide_eq_false h0
      have h1 : (1099511627776 : Int) < u := by
        have : ¬ (0 ≤ u ∧ u ≤ 1099511627776) := fun hh => h ⟨rfl, hh⟩
        omega
      have d1 := decide_eq_true h1
      go_enter Tryd.func42, Tryd.ntmps42
      go_wp2_with (go_at_call 62; refine R.mono ?_; rintro e w' ⟨rfl, rfl⟩)
      go_ret
      exact ⟨rfl, rfl⟩

theorem tcells_setvol {m : Value} {vs ss : List Int} {c : Nat} (x : Int) (hc : c < vs.length) : (tcells m vs ss).toArray.setIfInBounds (1 + c) (.int .i64 x) = (tcells m (vs.set c x) ss).toArray := by
  rw [Nat.add_comm]
  simp only [tcells, List.setIfInBounds_toArray, List.set_cons_succ]
  rw [List.set_append_left _ _ (by simpa using hc), List.map_set]

theorem Volume_yes (b : Nat) (m : Value) (vs ss : List Int) (c : Nat) (u : Int) (w : World) (hB : Has w b (.cells (tcells m vs ss).toArray 129)) (hv : vs.length = 4) (hc : c < 4) (h0 : 0 ≤ u) (h1 : u ≤ 1099511627776) :
    Calls Tryd.prog 42 #[.pointer (some ⟨b, 0, none⟩), .int .i64 c, .int .i64 u] w fun e w' => e = .returned .nilIface ∧ Turn (fun k => k = b) w w' ∧ Has w' b (.cells (tcells m (vs.set c (max (vs.getD c 0) u)) ss).toArray 129) := by
  have R := right_any c 0 w
  have e0 : (isClient c && isObject 0) = true := by simp [isClient, isObject]; omega
  rw [e0] at R
  have k0 : w.cell? ⟨b, 1 + c, none⟩ = some (.int .i64 (vs.getD c 0)) := by rw [hB.cell, ← tcells_vol (m := m) (ss := ss) (c := c) (by omega)]; simp
  have f0 : w.frozen? ⟨b, 1 + c, none⟩ = false := hB.frozen _
  have hc4 : (c : Int) < 4 := by omega
  have d0 : decide (u < 0) = false := by simpa using h0
  have d1 : decide ((1099511627776 : Int) < u) = false := by simpa using h1
  have HB := Lib.hid hB
  generalize hx : vs.getD c 0 = x at k0
  clear hB
  go_enter Tryd.func42, Tryd.ntmps42
  go_wp2_with (go_at_call 62; refine R.mono ?_; rintro e w' ⟨rfl, rfl⟩)
  go_region
  all_goals go_wp2
  all_goals go_ret
  all_goals
    refine ⟨rfl, ((Turn.refl (fun k => k = b) w).drew).setCell (p := ⟨b, 1 + c, none⟩) (.inr rfl) _, ?_⟩
    rw [← tcells_setvol _ (by omega)]
    first
      | (rw [show max x u = x from by omega]; exact HB.out.drew.set_ (1 + c) (.int .i64 x))
      | (rw [show max x u = u from by omega]; exact HB.out.drew.set_ (1 + c) (.int .i64 u))
end Go.Proofs.YthldfogmmjompaaDoor.lease
