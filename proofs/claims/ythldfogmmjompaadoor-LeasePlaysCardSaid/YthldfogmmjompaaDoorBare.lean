/-
  Contracts of the walks of plain.Bare and tenurelaw.bare.
-/
import Derived.Test.YthldfogmmjompaaDoorErrV
namespace Go.Proofs.YthldfogmmjompaaDoor.errs
open Go.RowKit Go.Extern.Stop Go.Stop Go.Extern

theorem noUnwrap (v : Value) (xT : TypeId) (w : World) : (Instr.typeAssert (.iface 22 v) xT 136 true).run Tryd.prog w = .ok (.tuple #[.nilIface, .bool false]) w :=
  run_typeAssert_lacksB Tryd.underlying136 (by kernel_rfl) (by kernel_rfl) v xT w
theorem noAt (v : Value) (xT : TypeId) (w : World) : (Instr.typeAssert (.iface 22 v) xT 134 true).run Tryd.prog w = .ok (.tuple #[.pointer none, .bool false]) w := by kernel_rfl

theorem Bare_nil (w : World) : Calls Tryd.prog 53 #[.nilIface] w fun e w' => e = .returned (.tuple #[.int .i64 0, .bool true]) ∧ w = w' := by
  go_enter Tryd.func53, Tryd.ntmps53
  go_wp2_with (go_at_call 64; refine (tell_nil _).mono ?_; rintro e w' ⟨rfl, rfl⟩)
  refine wp_loop_rounds 1 ?_
  rw [rounds_succ]
  go_wp2
  go_ret2
  exact ⟨rfl, rfl⟩

theorem Bare_errno (n : Int) (w : World) (hg : Handle w) : Calls Tryd.prog 53 #[.iface 22 (.int .i64 n)] w fun e w' => e = .returned (.tuple #[.int .i64 n, .bool true]) ∧ Below w.heap.size w w' := by
  have a1 := noAt
  have a2 := noUnwrap
  go_enter Tryd.func53, Tryd.ntmps53
  go_wp2_with (go_at_call 64; refine (tell_errno _ _ hg).mono ?_; rintro e w' ⟨rfl, hb⟩)
  refine wp_loop_rounds 1 ?_
  rw [rounds_succ]
  go_wp2
  go_ret2
  exact ⟨rfl, hb⟩


theorem bare_nil (m : Int) (w : World) :
    Calls Tryd.prog 13 #[.nilIface, .int .i64 m] w fun e w' => e = .returned (.bool (0 == m)) ∧ w = w' := by
  go_enter Tryd.func13, Tryd.ntmps13
  go_wp2_with (go_at_call 53; refine (Bare_nil _).mono ?_; rintro e w' ⟨rfl, rfl⟩)
  go_ret
  exact ⟨rfl, rfl⟩
theorem bare_errno (n m : Int) (w : World) (hg : Handle w) :
    Calls Tryd.prog 13 #[.iface 22 (.int .i64 n), .int .i64 m] w fun e w' => e = .returned (.bool (n == m)) ∧ Below w.heap.size w w' := by
  go_enter Tryd.func13, Tryd.ntmps13
  go_wp2_with (go_at_call 53; refine (Bare_errno _ _ hg).mono ?_; rintro e w' ⟨rfl, hb⟩)
  go_ret
  exact ⟨rfl, hb⟩
theorem bare_any (n m : Int) (w : World) (hg : Handle w) :
    Calls Tryd.prog 13 #[errV n, .int .i64 m] w fun e w' => e = .returned (.bool (n == m)) ∧ Below w.heap.size w w' := by
  by_cases h : n = 0
  · subst h
    exact (bare_nil m w).mono fun _ _ ⟨he, hw⟩ => ⟨he, hw ▸ Below.refl _ _⟩
  · rw [errV_of h]
    exact bare_errno n m w hg
end Go.Proofs.YthldfogmmjompaaDoor.errs
