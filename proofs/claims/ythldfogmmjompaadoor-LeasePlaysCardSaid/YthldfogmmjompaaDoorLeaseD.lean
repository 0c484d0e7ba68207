/-
  Contracts of the walks of package lease: Object.
-/
import Derived.Test.YthldfogmmjompaaDoorLeaseC
namespace Go.Proofs.YthldfogmmjompaaDoor.lease
open Go.RowKit Go.Proofs.YthldfogmmjompaaDoor.heap Go.Proofs.YthldfogmmjompaaDoor.own Go.Proofs.YthldfogmmjompaaDoor.model Go.Proofs.YthldfogmmjompaaDoor.mapof

theorem Object_no (p : Value) (c o u : Int) (w : World) (h : ¬ ((lease.isClient c && lease.isObject o) = true ∧ 0 ≤ u ∧ u ≤ 1099511627776)) :
    Calls Tryd.prog 40 #[p, .int .i64 c, .int .i64 o, .int .i64 u] w fun e w' => e = .returned (.iface 22 (.int .i64 2)) ∧ w = w' := by
  have R := right_any c o w
  cases hc : (lease.isClient c && lease.isObject o) with
  | false =>
    rw [hc] at R
    go_enter Tryd.func40, Tryd.ntmps40
    go_wp2_with (go_at_call 62; refine R.mono ?_; rintro e w' ⟨rfl, rfl⟩)
    go_ret
    exact ⟨rfl, rfl⟩
  | true =>
    rw [hc] at R h
    by_cases h0 : u < 0
    · have d0 := decide_eq_true h0
      go_enter Tryd.func40, Tryd.ntmps40
      go_wp2_with (go_at_call 62; refine R.mono ?_; rintro e w' ⟨rfl, rfl⟩)
      go_ret
      exact ⟨rfl, rfl⟩
    · have d0 := decide_eq_false h0
      have h1 : (1099511627776 : Int) < u := by
        have : ¬ (0 ≤ u ∧ u ≤ 1099511627776) := fun hh => h ⟨rfl, hh⟩
        omega
      have d1 := decide_eq_true h1
      go_enter Tryd.func40, Tryd.ntmps40
      go_wp2_with (go_at_call 62; refine R.mono ?_; rintro e w' ⟨rfl, rfl⟩)
      go_ret
      exact ⟨rfl, rfl⟩
end Go.Proofs.YthldfogmmjompaaDoor.lease
