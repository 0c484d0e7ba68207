/-
  An error that is nil, or an Errno, as a value.
-/
import Derived.Test.YthldfogmmjompaaDoorErrs
namespace Go.Proofs.YthldfogmmjompaaDoor.errs
open Go.RowKit

/-- An error that is nil (0) or an Errno. -/
def errV (n : Int) : Value := if n = 0 then .nilIface else .iface 22 (.int .i64 n)
theorem errV_zero : errV 0 = .nilIface := rfl
theorem errV_of {n : Int} (h : n ≠ 0) : errV n = .iface 22 (.int .i64 n) := by simp [errV, h]
end Go.Proofs.YthldfogmmjompaaDoor.errs
