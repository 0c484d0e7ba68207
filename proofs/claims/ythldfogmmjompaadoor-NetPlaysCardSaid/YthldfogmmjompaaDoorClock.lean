/-
  Contracts of the walks of package clock.
-/
import Derived.Test.YthldfogmmjompaaDoorErrs
namespace Go.Proofs.YthldfogmmjompaaDoor.errs
open Go.RowKit

/-- An error that is nil (0) or an Errno. -/
def errV (n : Int) : Value := if n = 0 then .nilIface else .iface 22 (.int .i64 n)
theorem errV_zero : errV 0 = .nilIface := rfl
theorem errV_of {n : Int} (h : n ≠ 0) : errV n = .iface 22 (.int .i64 n) := by simp [errV, h]
end Go.Proofs.YthldfogmmjompaaDoor.errs

namespace Go.Proofs.YthldfogmmjompaaDoor.clock
open Go.RowKit Go.Proofs.YthldfogmmjompaaDoor.errs

theorem mul_hi (a b A B : Int) (h0 : 0 ≤ a) (h1 : a ≤ A) (h2 : 0 ≤ b) (h3 : b ≤ B) : 0 ≤ a * b ∧ a * b ≤ A * B :=
  ⟨Int.mul_nonneg h0 h2, Int.mul_le_mul h1 h3 h2 (by omega)⟩

theorem ret_two {x y : Int} {v : Value} (h : x = y) : Ending.returned (.tuple #[.int .i64 x, v]) = Ending.returned (.tuple #[.int .i64 y, v]) := by rw [h]

theorem Short_yes (d t : Int) (w : World) (h1 : 0 ≤ d) (h2 : d ≤ 500) (h3 : 0 ≤ t) (h4 : t ≤ 1099511627776) :
    Calls Tryd.prog 10 #[.int .i64 d, .int .i64 t] w fun e w' => e = .returned (.tuple #[.int .i64 (t * (1000 - d) / (1000 + d)), .nilIface]) ∧ w = w' := by
  obtain ⟨m0, m1⟩ := mul_hi t (1000 - d) 1099511627776 1000 h3 h4 (by omega) (by omega)
  go_enter Tryd.func10, Tryd.ntmps10
  go_wp2
  go_ret2
  exact ⟨rfl, rfl⟩
theorem Short_no (d t : Int) (w : World) (h : ¬ (0 ≤ d ∧ d ≤ 500 ∧ 0 ≤ t ∧ t ≤ 1099511627776)) :
    Calls Tryd.prog 10 #[.int .i64 d, .int .i64 t] w fun e w' => e = .returned (.tuple #[.int .i64 0, .iface 22 (.int .i64 2)]) ∧ w = w' := by
  have h' : d < 0 ∨ 500 < d ∨ t < 0 ∨ 1099511627776 < t := by omega
  clear h
  go_enter Tryd.func10, Tryd.ntmps10
  go_wp2
  all_goals
    go_ret2
    exact ⟨rfl, rfl⟩

theorem Add_yes (a b : Int) (w : World) (h1 : 0 ≤ a) (h2 : a ≤ 1099511627776) (h3 : 0 ≤ b) (h4 : b ≤ 1099511627776) :
    Calls Tryd.prog 12 #[.int .i64 a, .int .i64 b] w fun e w' => e = .returned (.tuple #[.int .i64 (min (a + b) 1099511627776), .nilIface]) ∧ w = w' := by
  have i0 : ∀ w, (Instr.index 99 (.agg #[.int .i64 a, .int .i64 b]) (.int .i64 0)).run Tryd.prog w = .ok (.int .i64 a) w := fun _ => by kernel_rfl
  have i1 : ∀ w, (Instr.index 99 (.agg #[.int .i64 a, .int .i64 b]) (.int .i64 1)).run Tryd.prog w = .ok (.int .i64 b) w := fun _ => by kernel_rfl
  go_enter Tryd.func12, Tryd.ntmps12
  go_wp2
  refine wp_loop_rounds 3 ?_
  rw [rounds_succ]
  go_wp2
  rw [rounds_succ]
  go_wp2
  rw [rounds_succ]
  go_wp2
  all_goals
    go_ret2
    exact ⟨ret_two (by omega), rfl⟩
theorem Add_no (a b : Int) (w : World) (h : ¬ (0 ≤ a ∧ a ≤ 1099511627776 ∧ 0 ≤ b ∧ b ≤ 1099511627776)) :
    Calls Tryd.prog 12 #[.int .i64 a, .int .i64 b] w fun e w' => e = .returned (.tuple #[.int .i64 0, .iface 22 (.int .i64 2)]) ∧ w = w' := by
  have i0 : ∀ w, (Instr.index 99 (.agg #[.int .i64 a, .int .i64 b]) (.int .i64 0)).run Tryd.prog w = .ok (.int .i64 a) w := fun _ => by kernel_rfl
  have i1 : ∀ w, (Instr.index 99 (.agg #[.int .i64 a, .int .i64 b]) (.int .i64 1)).run Tryd.prog w = .ok (.int .i64 b) w := fun _ => by kernel_rfl
  by_cases ha : a < 0 ∨ 1099511627776 < a
  · clear h
    go_enter Tryd.func12, Tryd.ntmps12
    go_wp2
    refine wp_loop_rounds 1 ?_
    rw [rounds_succ]
    go_wp2
    all_goals
      go_ret2
      exact ⟨rfl, rfl⟩
  · have h0 : 0 ≤ a := by omega
    have h1 : a ≤ 1099511627776 := by omega
    have h2 : b < 0 ∨ 1099511627776 < b := by omega
    clear h ha
    go_enter Tryd.func12, Tryd.ntmps12
    go_wp2
    refine wp_loop_rounds 2 ?_
    rw [rounds_succ]
    go_wp2
    rw [rounds_succ]
    go_wp2
    all_goals
      go_ret2
      exact ⟨rfl, rfl⟩

def honestB (d g l : Int) : Bool := decide (0 ≤ d ∧ d ≤ 500 ∧ 0 ≤ g ∧ g ≤ 1099511627776 ∧ 0 ≤ l ∧ l ≤ 2199023255552 ∧ g * (1000 - d) ≤ 1000 * l ∧ 1000 * l ≤ g * (1000 + d))

theorem Honest_yes (d g l : Int) (w : World) (h : honestB d g l = true) :
    Calls Tryd.prog 14 #[.int .i64 d, .int .i64 g, .int .i64 l] w fun e w' => e = .returned (.bool true) ∧ w = w' := by
  obtain ⟨h1, h2, h3, h4, h5, h6, c1, c2⟩ := of_decide_eq_true h
  clear h
  obtain ⟨m0, m1⟩ := mul_hi g (1000 - d) 1099511627776 1000 h3 h4 (by omega) (by omega)
  obtain ⟨m2, m3⟩ := mul_hi g (1000 + d) 1099511627776 1500 h3 h4 (by omega) (by omega)
  go_enter Tryd.func14, Tryd.ntmps14
  go_wp2
  go_ret
  exact ⟨rfl, rfl⟩

theorem Honest_no (d g l : Int) (w : World) (h : honestB d g l = false) :
    Calls Tryd.prog 14 #[.int .i64 d, .int .i64 g, .int .i64 l] w fun e w' => e = .returned (.bool false) ∧ w = w' := by
  have h' := of_decide_eq_false h
  clear h
  by_cases hr : 0 ≤ d ∧ d ≤ 500 ∧ 0 ≤ g ∧ g ≤ 1099511627776 ∧ 0 ≤ l ∧ l ≤ 2199023255552
  · obtain ⟨h1, h2, h3, h4, h5, h6⟩ := hr
    obtain ⟨m0, m1⟩ := mul_hi g (1000 - d) 1099511627776 1000 h3 h4 (by omega) (by omega)
    obtain ⟨m2, m3⟩ := mul_hi g (1000 + d) 1099511627776 1500 h3 h4 (by omega) (by omega)
    by_cases c1 : 1000 * l < g * (1000 - d)
    · clear h'
      go_enter Tryd.func14, Tryd.ntmps14
      go_wp2
      go_ret
      exact ⟨rfl, rfl⟩
    · have c3 : g * (1000 - d) ≤ 1000 * l := by omega
      have c2 : g * (1000 + d) < 1000 * l := by
        refine Int.not_le.1 fun c2 => h' ⟨h1, h2, h3, h4, h5, h6, c3, c2⟩
      have c4 : decide (1000 * l ≤ g * (1000 + d)) = false := by simp; omega
      clear h' c1
      go_enter Tryd.func14, Tryd.ntmps14
      go_wp2
      go_ret
      exact ⟨rfl, rfl⟩
  · have hq : d < 0 ∨ 500 < d ∨ g < 0 ∨ 1099511627776 < g ∨ l < 0 ∨ 2199023255552 < l := by omega
    clear h' hr
    go_enter Tryd.func14, Tryd.ntmps14
    go_wp2
    all_goals
      go_ret
      exact ⟨rfl, rfl⟩

theorem Honest_any (d g l : Int) (w : World) :
    Calls Tryd.prog 14 #[.int .i64 d, .int .i64 g, .int .i64 l] w fun e w' => e = .returned (.bool (honestB d g l)) ∧ w = w' := by
  cases h : honestB d g l
  · exact Honest_no d g l w h
  · exact Honest_yes d g l w h
end Go.Proofs.YthldfogmmjompaaDoor.clock
