/-
  An error that is nil, or an Errno, as a value.
-/
import Derived.Test.YtadjbloccjbegaaGreatDoorErrs
namespace Go.Proofs.YtadjbloccjbegaaGreatDoor.errs
open Go.RowKit

/-- An error that is nil (0) or an Errno. -/
def errV (n : Int) : Value := if n = 0 then .nilIface else .iface 33 (.int .i64 n)
theorem errV_zero : errV 0 = .nilIface := rfl
theorem errV_of {n : Int} (h : n ≠ 0) : errV n = .iface 33 (.int .i64 n) := by simp [errV, h]
end Go.Proofs.YtadjbloccjbegaaGreatDoor.errs
