/-
  Contracts of the walks of plain.Bare and tenurelaw.bare.
-/
import Derived.Test.YtadjbloccjbegaaGreatDoorErrV
namespace Go.Proofs.YtadjbloccjbegaaGreatDoor.errs
open Go.RowKit Go.Extern.Stop Go.Stop Go.Extern

theorem noUnwrap (v : Value) (xT : TypeId) (w : World) : (Instr.typeAssert (.iface 33 v) xT 71 true).run Tryz.prog w = .ok (.tuple #[.nilIface, .bool false]) w :=
  run_typeAssert_lacksB Tryz.underlying71 (by kernel_rfl) (by kernel_rfl) v xT w
theorem noAt (v : Value) (xT : TypeId) (w : World) : (Instr.typeAssert (.iface 33 v) xT 69 true).run Tryz.prog w = .ok (.tuple #[.pointer none, .bool false]) w := by kernel_rfl

theorem Bare_nil (w : World) : Calls Tryz.prog 13 #[.nilIface] w fun e w' => e = .returned (.tuple #[.int .i64 0, .bool true]) ∧ w = w' := by
  go_enter Tryz.func13, Tryz.ntmps13
  go_wp2_with (go_at_call 22; refine (tell_nil _).mono ?_; rintro e w' ⟨rfl, rfl⟩)
  refine wp_loop_rounds 1 ?_
  rw [rounds_succ]
  go_wp2
  go_ret2
  exact ⟨rfl, rfl⟩

theorem Bare_errno (n : Int) (w : World) (hg : Handle w) : Calls Tryz.prog 13 #[.iface 33 (.int .i64 n)] w fun e w' => e = .returned (.tuple #[.int .i64 n, .bool true]) ∧ Below w.heap.size w w' := by
  have a1 := noAt
  have a2 := noUnwrap
  go_enter Tryz.func13, Tryz.ntmps13
  go_wp2_with (go_at_call 22; refine (tell_errno _ _ hg).mono ?_; rintro e w' ⟨rfl, hb⟩)
  refine wp_loop_rounds 1 ?_
  rw [rounds_succ]
  go_wp2
  go_ret2
  exact ⟨rfl, hb⟩


theorem bare_nil (m : Int) (w : World) :
    Calls Tryz.prog 5 #[.nilIface, .int .i64 m] w fun e w' => e = .returned (.bool (0 == m)) ∧ w = w' := by
  go_enter Tryz.func5, Tryz.ntmps5
  go_wp2_with (go_at_call 13; refine (Bare_nil _).mono ?_; rintro e w' ⟨rfl, rfl⟩)
  go_ret
  exact ⟨rfl, rfl⟩
theorem bare_errno (n m : Int) (w : World) (hg : Handle w) :
    Calls Tryz.prog 5 #[.iface 33 (.int .i64 n), .int .i64 m] w fun e w' => e = .returned (.bool (n == m)) ∧ Below w.heap.size w w' := by
  go_enter Tryz.func5, Tryz.ntmps5
  go_wp2_with (go_at_call 13; refine (Bare_errno _ _ hg).mono ?_; rintro e w' ⟨rfl, hb⟩)
  go_ret
  exact ⟨rfl, hb⟩
theorem bare_any (n m : Int) (w : World) (hg : Handle w) :
    Calls Tryz.prog 5 #[errV n, .int .i64 m] w fun e w' => e = .returned (.bool (n == m)) ∧ Below w.heap.size w w' := by
  by_cases h : n = 0
  · subst h
    exact (bare_nil m w).mono fun _ _ ⟨he, hw⟩ => ⟨he, hw ▸ Below.refl _ _⟩
  · rw [errV_of h]
    exact bare_errno n m w hg
end Go.Proofs.YtadjbloccjbegaaGreatDoor.errs
