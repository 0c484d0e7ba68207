/-
  The law ClockTerms: the references' contracts and the law's walk.
-/
import Derived.Test.YthldfogmmjompaaDoorBare
namespace Go.Proofs.YthldfogmmjompaaDoor.clockTerms
open Go.RowKit Go.Proofs.YthldfogmmjompaaDoor.errs Go.Proofs.YthldfogmmjompaaDoor.clock

def inB (n lo hi : Int) : Bool := decide (lo ≤ n ∧ n ≤ hi)
theorem in_any (n lo hi : Int) (w : World) :
    Calls Tryd.prog 52 #[.int .i64 n, .int .i64 lo, .int .i64 hi] w fun e w' => e = .returned (.bool (inB n lo hi)) ∧ w = w' := by
  by_cases h1 : lo ≤ n
  · by_cases h2 : n ≤ hi
    · go_enter Tryd.func52, Tryd.ntmps52
      go_wp2
      go_ret
      exact ⟨by simp [inB, h1, h2], rfl⟩
    · have h3 : decide (n ≤ hi) = false := by simp; omega
      go_enter Tryd.func52, Tryd.ntmps52
      go_wp2
      go_ret
      exact ⟨by simp [inB, h2], rfl⟩
  · have h3 : decide (lo ≤ n) = false := by simp; omega
    go_enter Tryd.func52, Tryd.ntmps52
    go_wp2
    go_ret
    exact ⟨by simp [inB]; omega, rfl⟩
theorem in_yes (n lo hi : Int) (w : World) (h1 : lo ≤ n) (h2 : n ≤ hi) :
    Calls Tryd.prog 52 #[.int .i64 n, .int .i64 lo, .int .i64 hi] w fun e w' => e = .returned (.bool true) ∧ w = w' := by
  have := in_any n lo hi w
  rwa [show inB n lo hi = true from decide_eq_true ⟨h1, h2⟩] at this
theorem in_no (n lo hi : Int) (w : World) (h : n < lo ∨ hi < n) :
    Calls Tryd.prog 52 #[.int .i64 n, .int .i64 lo, .int .i64 hi] w fun e w' => e = .returned (.bool false) ∧ w = w' := by
  have := in_any n lo hi w
  rwa [show inB n lo hi = false from decide_eq_false (by omega)] at this

theorem mid_lo (x d t : Int) : x * (1000 + d) ≤ t * (1000 - d) ∨ t * (1000 - d) < x * (1000 + d) := by omega
theorem short_val (x d t : Int) (h1 : 0 ≤ d) (h2 : x * (1000 + d) ≤ t * (1000 - d)) (h3 : t * (1000 - d) < (x + 1) * (1000 + d)) : x = t * (1000 - d) / (1000 + d) := by
  have e := Int.ediv_emod_unique (a := t * (1000 - d)) (b := 1000 + d) (r := t * (1000 - d) - x * (1000 + d)) (q := x) (by omega)
  have h4 : (x + 1) * (1000 + d) = x * (1000 + d) + (1000 + d) := by rw [Int.add_mul, Int.one_mul]
  have := e.2 ⟨by rw [Int.mul_comm (1000 + d) x]; omega, by omega, by omega⟩
  exact this.1.symm

set_option maxHeartbeats 400000 in
theorem rShort_yes (d t : Int) (w : World) (h1 : 0 ≤ d) (h2 : d ≤ 500) (h3 : 0 ≤ t) (h4 : t ≤ 1099511627776) :
    Calls Tryd.prog 9 #[.int .i64 d, .int .i64 t] w fun e w' => e = .returned (.tuple #[.int .i64 (t * (1000 - d) / (1000 + d)), .int .i64 0]) ∧ w = w' := by
  obtain ⟨m0, m1⟩ := mul_hi t (1000 - d) 1099511627776 1000 h3 h4 (by omega) (by omega)
  have hend : t * (1000 - d) < (t + 1) * (1000 + d) := by
    have e : (t + 1) * (1000 + d) = t * (1000 - d) + 2 * (t * d) + (1000 + d) := by
      rw [Int.add_mul, Int.mul_add, Int.mul_sub]; omega
    have := Int.mul_nonneg h3 h1
    omega
  go_enter Tryd.func9, Tryd.ntmps9
  go_wp2_with (go_at_call 52; refine (in_yes _ _ _ _ (by omega) (by omega)).mono ?_; rintro e w' ⟨rfl, rfl⟩)
  go_loop [6, 7] (fun lo hi => ∃ x y : Int, lo = .int .i64 x ∧ hi = .int .i64 y ∧ 0 ≤ x ∧ x ≤ y ∧ y ≤ t ∧ x * (1000 + d) ≤ t * (1000 - d) ∧ t * (1000 - d) < (y + 1) * (1000 + d)) (fun lo hi => (intOf hi - intOf lo).toNat)
  case atStart => exact ⟨0, t, rfl, rfl, by omega, h3, by omega, by simpa using m0, hend⟩
  case round =>
    obtain ⟨x, y, rfl, rfl, a1, a2, a3, a4, a5⟩ := hrel
    by_cases hxy : x < y
    · obtain ⟨q0, q1⟩ := mul_hi ((x + y + 1) / 2) (1000 + d) 1099511627776 1500 (by omega) (by omega) (by omega) (by omega)
      by_cases hc : (x + y + 1) / 2 * (1000 + d) ≤ t * (1000 - d)
      · go_wp2
        go_round
        case rel => exact ⟨_, _, rfl, rfl, by omega, by omega, a3, hc, a5⟩
        case measure => simp [intOf]; omega
      · have hc' : t * (1000 - d) < (x + y + 1) / 2 * (1000 + d) := by omega
        clear hc
        go_wp2
        go_round
        case rel => exact ⟨_, _, rfl, rfl, a1, by omega, by omega, a4, by rw [Int.sub_add_cancel]; exact hc'⟩
        case measure => simp [intOf]; omega
    · obtain rfl : x = y := by omega
      have HV := Lib.hid (short_val x d t h1 a4 a5)
      go_wp2
      go_ret2
      exact ⟨ret_two HV.out, rfl⟩

theorem rShort_no (d t : Int) (w : World) (h : ¬ (0 ≤ d ∧ d ≤ 500 ∧ 0 ≤ t ∧ t ≤ 1099511627776)) :
    Calls Tryd.prog 9 #[.int .i64 d, .int .i64 t] w fun e w' => e = .returned (.tuple #[.int .i64 0, .int .i64 2]) ∧ w = w' := by
  by_cases hd : 0 ≤ d ∧ d ≤ 500
  · have ht : t < 0 ∨ 1099511627776 < t := by omega
    obtain ⟨h1, h2⟩ := hd
    clear h
    go_enter Tryd.func9, Tryd.ntmps9
    go_wp2_with fail
    refine (in_yes _ _ _ _ h1 h2).mono ?_
    rintro e w' ⟨rfl, rfl⟩
    go_wp2_with fail
    refine (in_no _ _ _ _ ht).mono ?_
    rintro e w' ⟨rfl, rfl⟩
    go_wp2_with fail
    go_ret2
    exact ⟨rfl, rfl⟩
  · have hd' : d < 0 ∨ 500 < d := by omega
    clear h hd
    go_enter Tryd.func9, Tryd.ntmps9
    go_wp2_with (go_at_call 52; refine (in_no _ 0 500 _ hd').mono ?_; rintro e w' ⟨rfl, rfl⟩)
    go_ret2
    exact ⟨rfl, rfl⟩

theorem rAdd_yes (a b : Int) (w : World) (h1 : 0 ≤ a) (h2 : a ≤ 1099511627776) (h3 : 0 ≤ b) (h4 : b ≤ 1099511627776) :
    Calls Tryd.prog 11 #[.int .i64 a, .int .i64 b] w fun e w' => e = .returned (.tuple #[.int .i64 (min (a + b) 1099511627776), .int .i64 0]) ∧ w = w' := by
  go_enter Tryd.func11, Tryd.ntmps11
  go_wp2_with (go_at_call 52; refine (in_yes _ 0 1099511627776 _ (by assumption) (by assumption)).mono ?_; rintro e w' ⟨rfl, rfl⟩)
  all_goals
    go_ret2
    exact ⟨ret_two (by omega), rfl⟩

theorem rAdd_no (a b : Int) (w : World) (h : ¬ (0 ≤ a ∧ a ≤ 1099511627776 ∧ 0 ≤ b ∧ b ≤ 1099511627776)) :
    Calls Tryd.prog 11 #[.int .i64 a, .int .i64 b] w fun e w' => e = .returned (.tuple #[.int .i64 0, .int .i64 2]) ∧ w = w' := by
  by_cases ha : 0 ≤ a ∧ a ≤ 1099511627776
  · have hb : b < 0 ∨ 1099511627776 < b := by omega
    obtain ⟨h1, h2⟩ := ha
    clear h
    go_enter Tryd.func11, Tryd.ntmps11
    go_wp2_with fail
    refine (in_yes _ 0 1099511627776 _ h1 h2).mono ?_
    rintro e w' ⟨rfl, rfl⟩
    go_wp2_with fail
    refine (in_no _ 0 1099511627776 _ hb).mono ?_
    rintro e w' ⟨rfl, rfl⟩
    go_wp2_with fail
    go_ret2
    exact ⟨rfl, rfl⟩
  · have ha' : a < 0 ∨ 1099511627776 < a := by omega
    clear h ha
    go_enter Tryd.func11, Tryd.ntmps11
    go_wp2_with (go_at_call 52; refine (in_no _ 0 1099511627776 _ ha').mono ?_; rintro e w' ⟨rfl, rfl⟩)
    go_ret2
    exact ⟨rfl, rfl⟩

theorem rHonest_any (d g l : Int) (w : World) :
    Calls Tryd.prog 15 #[.int .i64 d, .int .i64 g, .int .i64 l] w fun e w' => e = .returned (.bool (honestB d g l)) ∧ w = w' := by
  by_cases hd : 0 ≤ d ∧ d ≤ 500
  · obtain ⟨h1, h2⟩ := hd
    by_cases hg : 0 ≤ g ∧ g ≤ 1099511627776
    · obtain ⟨h3, h4⟩ := hg
      by_cases hl : 0 ≤ l ∧ l ≤ 2199023255552
      · obtain ⟨h5, h6⟩ := hl
        obtain ⟨m0, m1⟩ := mul_hi g (1000 - d) 1099511627776 1000 h3 h4 (by omega) (by omega)
        obtain ⟨m2, m3⟩ := mul_hi g (1000 + d) 1099511627776 1500 h3 h4 (by omega) (by omega)
        have he : inB (1000 * l) (g * (1000 - d)) (g * (1000 + d)) = honestB d g l := by
          simp [inB, honestB, h1, h2, h3, h4, h5, h6]
        have HE := Lib.hid he
        clear he
        go_enter Tryd.func15, Tryd.ntmps15
        go_wp2_with fail
        refine (in_yes _ _ _ _ h1 h2).mono ?_
        rintro e w' ⟨rfl, rfl⟩
        go_wp2_with fail
        refine (in_yes _ _ _ _ h3 h4).mono ?_
        rintro e w' ⟨rfl, rfl⟩
        go_wp2_with fail
        refine (in_yes _ _ _ _ h5 h6).mono ?_
        rintro e w' ⟨rfl, rfl⟩
        go_wp2_with fail
        refine (in_any _ _ _ _).mono ?_
        rintro e w' ⟨rfl, rfl⟩
        rw [HE.out]
        go_wp2_with fail
        go_ret
        exact ⟨rfl, rfl⟩
      · have hl' : l < 0 ∨ 2199023255552 < l := by omega
        have he : honestB d g l = false := decide_eq_false (by omega)
        rw [he]
        clear hl he
        go_enter Tryd.func15, Tryd.ntmps15
        go_wp2_with fail
        refine (in_yes _ _ _ _ h1 h2).mono ?_
        rintro e w' ⟨rfl, rfl⟩
        go_wp2_with fail
        refine (in_yes _ _ _ _ h3 h4).mono ?_
        rintro e w' ⟨rfl, rfl⟩
        go_wp2_with fail
        refine (in_no _ _ _ _ hl').mono ?_
        rintro e w' ⟨rfl, rfl⟩
        go_wp2_with fail
        go_ret
        exact ⟨rfl, rfl⟩
    · have hg' : g < 0 ∨ 1099511627776 < g := by omega
      have he : honestB d g l = false := decide_eq_false (by omega)
      rw [he]
      clear hg he
      go_enter Tryd.func15, Tryd.ntmps15
      go_wp2_with fail
      refine (in_yes _ _ _ _ h1 h2).mono ?_
      rintro e w' ⟨rfl, rfl⟩
      go_wp2_with fail
      refine (in_no _ _ _ _ hg').mono ?_
      rintro e w' ⟨rfl, rfl⟩
      go_wp2_with fail
      go_ret
      exact ⟨rfl, rfl⟩
  · have hd' : d < 0 ∨ 500 < d := by omega
    have he : honestB d g l = false := decide_eq_false (by omega)
    rw [he]
    clear hd he
    go_enter Tryd.func15, Tryd.ntmps15
    go_wp2_with fail
    refine (in_no _ _ _ _ hd').mono ?_
    rintro e w' ⟨rfl, rfl⟩
    go_wp2_with fail
    go_ret
    exact ⟨rfl, rfl⟩

theorem rShort_any (d t : Int) (w : World) : ∃ x n : Int, ∃ v : Value, v = errV n ∧
    (Calls Tryd.prog 9 #[.int .i64 d, .int .i64 t] w fun e w' => e = .returned (.tuple #[.int .i64 x, .int .i64 n]) ∧ w = w') ∧
    (Calls Tryd.prog 10 #[.int .i64 d, .int .i64 t] w fun e w' => e = .returned (.tuple #[.int .i64 x, v]) ∧ w = w') := by
  by_cases h : 0 ≤ d ∧ d ≤ 500 ∧ 0 ≤ t ∧ t ≤ 1099511627776
  · obtain ⟨h1, h2, h3, h4⟩ := h
    exact ⟨_, 0, _, rfl, rShort_yes d t w h1 h2 h3 h4, Short_yes d t w h1 h2 h3 h4⟩
  · exact ⟨_, 2, _, rfl, rShort_no d t w h, by rw [errV_of (by decide)]; exact Short_no d t w h⟩
theorem rAdd_any (a b : Int) (w : World) : ∃ x n : Int, ∃ v : Value, v = errV n ∧
    (Calls Tryd.prog 11 #[.int .i64 a, .int .i64 b] w fun e w' => e = .returned (.tuple #[.int .i64 x, .int .i64 n]) ∧ w = w') ∧
    (Calls Tryd.prog 12 #[.int .i64 a, .int .i64 b] w fun e w' => e = .returned (.tuple #[.int .i64 x, v]) ∧ w = w') := by
  by_cases h : 0 ≤ a ∧ a ≤ 1099511627776 ∧ 0 ≤ b ∧ b ≤ 1099511627776
  · obtain ⟨h1, h2, h3, h4⟩ := h
    exact ⟨_, 0, _, rfl, rAdd_yes a b w h1 h2 h3 h4, Add_yes a b w h1 h2 h3 h4⟩
  · exact ⟨_, 2, _, rfl, rAdd_no a b w h, by rw [errV_of (by decide)]; exact Add_no a b w h⟩

theorem bare_same (n : Int) (v : Value) (w : World) (hv : v = errV n) (hg : Handle w) :
    Calls Tryd.prog 13 #[v, .int .i64 n] w fun e w' => e = .returned (.bool true) ∧ Below w.heap.size w w' := by
  subst hv
  have := bare_any n n w hg
  rwa [beq_self_eq_true] at this

set_option maxHeartbeats 400000 in
theorem walk (d a b : Int) (w : World) (hg : Handle w) :
    Calls Tryd.prog 3 #[.int .i64 d, .int .i64 a, .int .i64 b] w fun e w' => e = .returned (.bool true) ∧ Below w.heap.size w w' := by
  obtain ⟨x, n, v, hv, c1, c2⟩ := rShort_any d a w
  obtain ⟨y, m, u, hu, c3, c4⟩ := rAdd_any a b w
  have HV := Lib.hid hv; clear hv
  have HU := Lib.hid hu; clear hu
  have C1 := Lib.hid c1; clear c1
  have C2 := Lib.hid c2; clear c2
  have C3 := Lib.hid c3; clear c3
  have C4 := Lib.hid c4; clear c4
  go_enter Tryd.func3, Tryd.ntmps3
  go_wp2_with fail
  refine C1.out.mono ?_
  rintro e w' ⟨rfl, rfl⟩
  go_wp2_with fail
  refine C2.out.mono ?_
  rintro e w' ⟨rfl, rfl⟩
  go_wp2_with fail
  refine C3.out.mono ?_
  rintro e w' ⟨rfl, rfl⟩
  go_wp2_with fail
  refine C4.out.mono ?_
  rintro e w' ⟨rfl, rfl⟩
  go_wp2_with fail
  refine (bare_same n v _ HV.out hg).mono ?_
  rintro e w1 ⟨rfl, hb1⟩
  have hg1 := hg.below hb1
  go_wp2_with fail
  refine (bare_same m u _ HU.out hg1).mono ?_
  rintro e w2 ⟨rfl, hb2⟩
  go_wp2_with fail
  refine (Honest_any _ _ _ _).mono ?_
  rintro e w' ⟨rfl, rfl⟩
  go_wp2_with fail
  refine (rHonest_any _ _ _ _).mono ?_
  rintro e w' ⟨rfl, rfl⟩
  go_wp2_with fail
  go_ret
  exact ⟨by simp, hb1.trans (hb2.mono hb1.size)⟩

end Go.Proofs.YthldfogmmjompaaDoor.clockTerms
