/-
  The law ClockShort holds of the given program for every input.
-/
import Derived.Test.YthldfogmmjompaaRows
import Derived.WalkKit
import Derived.ProofKit
import Derived.OpenShut
import Derived.Lib.Hide
namespace Go.Proofs.Ythldfogmmjompaa.clockShort
open Go.ChangeShapes Go.WideShapes Go.ChangeAt Go.RowKit
set_option linter.unusedVariables false

theorem own : ownKnob Try.prog.godebug = none := by kernel_rfl

theorem pick_eq (a n : Int) (h1 : 1 ≤ n) (h2 : n ≤ 1000000000000000) :
    0 ≤ wrap64 ((IntKind.u64.wrap a).tmod n) ∧ wrap64 ((IntKind.u64.wrap a).tmod n) < n := by
  have e : IntKind.u64.wrap a = a % 18446744073709551616 := by simp [IntKind.wrap_u64]
  rw [e, Int.tmod_eq_emod_of_nonneg (Int.emod_nonneg _ (by omega))]
  have lo := Int.emod_nonneg (a % 18446744073709551616) (b := n) (by omega)
  have hi := Int.emod_lt_of_pos (a % 18446744073709551616) (b := n) (by omega)
  rw [IntWalk.wrap64_in] <;> omega

theorem pick_any (a n : Int) (w : World) (h1 : 1 ≤ n) (h2 : n ≤ 1000000000000000) :
    Calls Try.prog 6 #[.int .i64 a, .int .i64 n] w fun e w' => ∃ r : Int, e = .returned (.int .i64 r) ∧ 0 ≤ r ∧ r < n ∧ w = w' := by
  obtain ⟨h3, h4⟩ := pick_eq a n h1 h2
  have H3 := Lib.hid h3
  have H4 := Lib.hid h4
  clear h3 h4
  go_enter Try.func6, Try.ntmps6
  go_wp2
  go_ret
  exact ⟨_, rfl, H3.out, H4.out, rfl⟩

theorem mul_hi (a b A B : Int) (h0 : 0 ≤ a) (h1 : a ≤ A) (h2 : 0 ≤ b) (h3 : b ≤ B) : 0 ≤ a * b ∧ a * b ≤ A * B :=
  ⟨Int.mul_nonneg h0 h2, Int.mul_le_mul h1 h3 h2 (by omega)⟩

theorem short_any (d t : Int) (w : World) (h1 : 0 ≤ d) (h2 : d ≤ 500) (h3 : 0 ≤ t) (h4 : t ≤ 1099511627776) :
    Calls Try.prog 7 #[.int .i64 d, .int .i64 t] w fun e w' => e = .returned (.tuple #[.int .i64 (t * (1000 - d) / (1000 + d)), .nilIface]) ∧ w = w' := by
  obtain ⟨m0, m1⟩ := mul_hi t (1000 - d) 1099511627776 1000 h3 h4 (by omega) (by omega)
  go_enter Try.func7, Try.ntmps7
  go_wp2
  go_ret2
  exact ⟨rfl, rfl⟩

theorem honest_yes (d g l : Int) (w : World) (h1 : 0 ≤ d) (h2 : d ≤ 500) (h3 : 0 ≤ g) (h4 : g ≤ 1099511627776) (h5 : 0 ≤ l) (h6 : l ≤ 2199023255552)
    (c1 : g * (1000 - d) ≤ 1000 * l) (c2 : 1000 * l ≤ g * (1000 + d)) :
    Calls Try.prog 8 #[.int .i64 d, .int .i64 g, .int .i64 l] w fun e w' => e = .returned (.bool true) ∧ w = w' := by
  obtain ⟨m0, m1⟩ := mul_hi g (1000 - d) 1099511627776 1000 h3 h4 (by omega) (by omega)
  obtain ⟨m2, m3⟩ := mul_hi g (1000 + d) 1099511627776 1500 h3 h4 (by omega) (by omega)
  go_enter Try.func8, Try.ntmps8
  go_wp2
  go_ret
  exact ⟨rfl, rfl⟩

theorem honest_no (d g l : Int) (w : World) (h1 : 0 ≤ d) (h2 : d ≤ 500) (h3 : 0 ≤ g) (h4 : g ≤ 1099511627776) (h5 : 0 ≤ l) (h6 : l ≤ 2199023255552)
    (c : 1000 * l < g * (1000 - d) ∨ g * (1000 + d) < 1000 * l) :
    Calls Try.prog 8 #[.int .i64 d, .int .i64 g, .int .i64 l] w fun e w' => e = .returned (.bool false) ∧ w = w' := by
  obtain ⟨m0, m1⟩ := mul_hi g (1000 - d) 1099511627776 1000 h3 h4 (by omega) (by omega)
  obtain ⟨m2, m3⟩ := mul_hi g (1000 + d) 1099511627776 1500 h3 h4 (by omega) (by omega)
  by_cases c1 : 1000 * l < g * (1000 - d)
  · clear c
    go_enter Try.func8, Try.ntmps8
    go_wp2
    go_ret
    exact ⟨rfl, rfl⟩
  · have c2 : g * (1000 + d) < 1000 * l := by omega
    have c3 : g * (1000 - d) ≤ 1000 * l := by omega
    have c4 : decide (1000 * l ≤ g * (1000 + d)) = false := by simp; omega
    clear c c1
    go_enter Try.func8, Try.ntmps8
    go_wp2
    go_ret
    exact ⟨rfl, rfl⟩

theorem timed_any (w : World) : Calls Try.prog 5 #[] w fun e w' => e = .returned (.bool true) ∧ w = w' := by
  go_enter Try.func5, Try.ntmps5
  go_wp2
  go_ret
  exact ⟨rfl, rfl⟩


/-- The plain law. -/
theorem plain (d g t a b n : Int) (h2 : d ≤ 500) (h3 : 0 ≤ d) (h0 : 0 ≤ t) (ha : g * (1000 - d) ≤ 1000 * a) (hb : 1000 * b ≤ g * (1000 + d)) (hn : n = t * (1000 - d) / (1000 + d)) (han : a ≤ n) : b ≤ t := by
  have h1 : n * (1000 + d) ≤ t * (1000 - d) := by
    rw [hn]; exact Int.ediv_mul_le _ (by omega)
  have h4 : a * (1000 + d) ≤ n * (1000 + d) := Int.mul_le_mul_of_nonneg_right han (by omega)
  have h5 : 1000 * b * (1000 - d) ≤ g * (1000 + d) * (1000 - d) := Int.mul_le_mul_of_nonneg_right hb (by omega)
  have h6 : g * (1000 - d) * (1000 + d) ≤ 1000 * a * (1000 + d) := Int.mul_le_mul_of_nonneg_right ha (by omega)
  have e1 : g * (1000 + d) * (1000 - d) = g * (1000 - d) * (1000 + d) := by rw [Int.mul_assoc, Int.mul_assoc, Int.mul_comm (1000 + d)]
  have h7 : b * (1000 - d) ≤ t * (1000 - d) := by
    rw [Int.mul_assoc] at h5
    rw [Int.mul_assoc 1000 a] at h6
    omega
  exact Int.le_of_mul_le_mul_right h7 (by omega)

theorem low_ok (m l : Int) (h : l = (m + 999) / 1000) : m ≤ 1000 * l ∧ 1000 * (l - 1) < m := by omega
theorem high_ok (m l : Int) (h : l = m / 1000) : 1000 * l ≤ m ∧ m < 1000 * (l + 1) := by omega

set_option maxHeartbeats 400000 in
theorem walk (a0 : Int) (a1 : Int) (a2 : Int) (a3 : Int) (a4 : Int) (w : World) :
    Calls Try.prog 3 #[.int .i64 a0, .int .i64 a1, .int .i64 a2, .int .i64 a3, .int .i64 a4] w fun e w' => e = .returned (.bool true) ∧ Grown w w' := by
  go_enter Try.func3, Try.ntmps3
  go_wp2_with fail
  refine (timed_any _).mono ?_
  rintro e w' ⟨rfl, rfl⟩
  go_wp2_with fail
  refine (pick_any _ _ _ (by omega) (by omega)).mono ?_
  rintro e w' ⟨d, rfl, d0, d1, rfl⟩
  go_wp2_with fail
  refine (pick_any _ _ _ (by omega) (by omega)).mono ?_
  rintro e w' ⟨t, rfl, t0, t1, rfl⟩
  go_wp2_with fail
  refine (pick_any _ _ _ (by omega) (by omega)).mono ?_
  rintro e w' ⟨g, rfl, g0, g1, rfl⟩
  obtain ⟨m0, m1⟩ := mul_hi g (1000 - d) 274877906944 1000 g0 (by omega) (by omega) (by omega)
  obtain ⟨m2, m3⟩ := mul_hi g (1000 + d) 274877906944 1500 g0 (by omega) (by omega) (by omega)
  go_wp2_with fail
  · go_ret
    exact ⟨rfl, Grown.refl _⟩
  refine (pick_any _ _ _ (by omega) (by omega)).mono ?_
  rintro e w' ⟨x, rfl, x0, x1, rfl⟩
  go_wp2_with fail
  refine (pick_any _ _ _ (by omega) (by omega)).mono ?_
  rintro e w' ⟨y, rfl, y0, y1, rfl⟩
  have hp : (decide (t * (1000 - d) / (1000 + d) < (g * (1000 - d) + 999) / 1000 + x) || decide ((g * (1000 - d) + 999) / 1000 + y ≤ t)) = true := by
    have := plain d g t ((g * (1000 - d) + 999) / 1000 + x) ((g * (1000 - d) + 999) / 1000 + y) _ (by omega) d0 t0 (by omega) (by omega) rfl
    rw [Bool.or_eq_true, decide_eq_true_eq, decide_eq_true_eq]
    omega
  have HP := Lib.hid hp
  clear hp
  go_wp2_with fail
  refine (short_any _ _ _ (by omega) (by omega) (by omega) (by omega)).mono ?_
  rintro e w' ⟨rfl, rfl⟩
  go_wp2_with fail
  refine (honest_yes _ _ _ _ (by omega) (by omega) (by omega) (by omega) (by omega) (by omega) (by omega) (by omega)).mono ?_
  rintro e w' ⟨rfl, rfl⟩
  go_wp2_with fail
  refine (honest_yes _ _ _ _ (by omega) (by omega) (by omega) (by omega) (by omega) (by omega) (by omega) (by omega)).mono ?_
  rintro e w' ⟨rfl, rfl⟩
  go_wp2_with fail
  refine (honest_no _ _ _ _ (by omega) (by omega) (by omega) (by omega) (by omega) (by omega) (.inr (by omega))).mono ?_
  rintro e w' ⟨rfl, rfl⟩
  go_wp2_with fail
  · refine (honest_no _ _ _ _ (by omega) (by omega) (by omega) (by omega) (by omega) (by omega) (.inl (by omega))).mono ?_
    rintro e w' ⟨rfl, rfl⟩
    go_wp2_with fail
    all_goals
      go_ret
      first | exact ⟨rfl, Grown.refl _⟩ | exact ⟨congrArg (fun b => Ending.returned (Value.bool b)) HP.out, Grown.refl _⟩
  all_goals
    go_ret
    first | exact ⟨rfl, Grown.refl _⟩ | exact ⟨congrArg (fun b => Ending.returned (Value.bool b)) HP.out, Grown.refl _⟩


set_option maxRecDepth 100000 in
theorem lifted (os : Os) (started : os.Started) (H : Type) (enc : TypeId × Value → H) :
    ReturnsInHanded {} Try.checked os 3 .any (Rows.clockShortSpec.pre6 enc Try.prog Try.f3 Rows.clockShortRow.domain false) (Rows.clockShortSpec.post enc Try.prog Try.f3 false true false false) := by
  refine returnsInHanded_of_change (C := Try.checked) own started (by kernel_rfl) Try.func3
    (ChangeSpec.witness6 (enc := enc) (C := Try.checked) false ⟨#[], #[.int .i64 0, .int .i64 0, .int .i64 0, .int .i64 0, .int .i64 0], []⟩ 8 (by kernel_rfl) (by kernel_rfl) (by kernel_rfl) (by kernel_rfl)) ?_
  intro W base args ds gs before hval0 hW hcnd _
  have hval : ∀ (j : Nat) t v, Try.f3.params[j]? = some t → args[j]? = some v → Value.okWide Try.prog W .any base t v := hval0
  have hW' := hW
  obtain ⟨p, q, hA0, hV, rfl, hfz, hnd⟩ := hW
  have hA : DataW.TrodAll enc Try.prog W 0 (fun _ => true) true Try.f3.params.toList args.toList ds p := hA0
  rw [Try.params3] at hA hval
  obtain ⟨v0, vs0, d0, ds0, p0, q0, hargs, rfl, rfl, h0, r0⟩ := trodAll_cons hA
  obtain ⟨v1, vs1, d1, ds1, p1, q1, rfl, rfl, rfl, h1, r1⟩ := trodAll_cons r0
  obtain ⟨v2, vs2, d2, ds2, p2, q2, rfl, rfl, rfl, h2, r2⟩ := trodAll_cons r1
  obtain ⟨v3, vs3, d3, ds3, p3, q3, rfl, rfl, rfl, h3, r3⟩ := trodAll_cons r2
  obtain ⟨v4, vs4, d4, ds4, p4, q4, rfl, rfl, rfl, h4, r4⟩ := trodAll_cons r3
  obtain ⟨rfl, rfl, rfl⟩ := trodAll_nil r4
  obtain rfl : args = #[v0, v1, v2, v3, v4] := by cases args; simp_all
  obtain ⟨rfl, rfl⟩ := trodVars_none hV
  obtain ⟨a0, rfl, rfl, rfl, w0⟩ := open_int Try.underlying3 (hval 0 3 v0 rfl rfl) h0
  obtain ⟨a1, rfl, rfl, rfl, w1⟩ := open_int Try.underlying3 (hval 1 3 v1 rfl rfl) h1
  obtain ⟨a2, rfl, rfl, rfl, w2⟩ := open_int Try.underlying3 (hval 2 3 v2 rfl rfl) h2
  obtain ⟨a3, rfl, rfl, rfl, w3⟩ := open_int Try.underlying3 (hval 3 3 v3 rfl rfl) h3
  obtain ⟨a4, rfl, rfl, rfl, w4⟩ := open_int Try.underlying3 (hval 4 3 v4 rfl rfl) h4
  clear hA0 hval0
  simp only [List.append_nil] at hW'
  refine (walk a0 a1 a2 a3 a4 W).mono fun e W' ⟨he, hg⟩ => ?_
  subst he
  exact ⟨_, rfl, post_of_same (pa := []) (pv := []) hW' (fun _ _ _ => (trodAll_cons_mk (shut_bool Try.underlying4 _) trodAll_mk0)) (fun sp _ => (trodAll_cons_mk (shut_int Try.underlying3 w0) (trodAll_cons_mk (shut_int Try.underlying3 w1) (trodAll_cons_mk (shut_int Try.underlying3 w2) (trodAll_cons_mk (shut_int Try.underlying3 w3) (trodAll_cons_mk (shut_int Try.underlying3 w4) trodAll_mk0)))))) (fun _ _ => rfl) rfl
    (hg.frame _) hg.2.1 (ok_one (by kernel_rfl) rfl (okWide_bool_mk Try.underlying4 _))⟩

theorem over : Rows.clockShortRow.holds Try.pinned (OpenSpec.ofChange Rows.clockShortSpec) :=
  OpenClaim.holds_of_wide 3 Try.f3 rfl rfl rfl rfl rfl rfl rfl ⟨rfl, rfl, rfl, rfl, rfl⟩ rfl rfl rfl rfl rfl (by kernel_rfl) Try.func3 (by kernel_rfl)
    (of_decide_eq_true (by kernel_rfl)) (by unfold Func.isWrapper; first | (rw [if_pos (by decide +kernel)]; kernel_rfl) | (rw [if_neg (by decide +kernel)]; exact ⟨rfl, rfl⟩))
    (fun os started H enc _ => lifted os started H enc)

/-- The statement. -/
theorem proved : Rows.ClockShortSaid :=
  over
#print axioms proved
end Go.Proofs.Ythldfogmmjompaa.clockShort
