/-
  The document's records: May; what tenurelaw.recorded makes of a record.
-/
import Derived.Test.YtadjbloccjbegaaGreatDoorWalB
import Derived.Test.YtadjbloccjbegaaGreatDoorBare
namespace Go.Proofs.YtadjbloccjbegaaGreatDoor.wal
open Go.RowKit Go.Proofs.YtadjbloccjbegaaGreatDoor.heap Go.Proofs.YtadjbloccjbegaaGreatDoor.own Go.Proofs.YtadjbloccjbegaaGreatDoor.recs Go.Proofs.YtadjbloccjbegaaGreatDoor.errs
open Go.Proofs.YtadjbloccjbegaaGreatDoor.model (Rec inR)
open Go.Proofs.YtadjbloccjbegaaGreatDoor.wire (okN)

theorem rin_any (n lo hi : Int) (w : World) :
    Calls Tryz.prog 17 #[.int .i64 n, .int .i64 lo, .int .i64 hi] w fun e w' => e = .returned (.bool (inR n lo hi)) ∧ w = w' := by
  by_cases h1 : lo ≤ n
  · by_cases h2 : n ≤ hi
    · go_enter Tryz.func17, Tryz.ntmps17
      go_wp2
      go_ret
      exact ⟨by simp [inR, h1, h2], rfl⟩
    · have h3 : decide (n ≤ hi) = false := by simp; omega
      go_enter Tryz.func17, Tryz.ntmps17
      go_wp2
      go_ret
      exact ⟨by simp [inR, h2], rfl⟩
  · have h3 : decide (lo ≤ n) = false := by simp; omega
    go_enter Tryz.func17, Tryz.ntmps17
    go_wp2
    go_ret
    exact ⟨by simp [inR]; omega, rfl⟩

set_option maxHeartbeats 1000000 in
theorem recorded_any (r : Rec) (w : World) :
    Calls Tryz.prog 8 #[recV r] w fun e w' => e = .returned (recV r) ∧ Below w.heap.size w w' := by
  unfold recV
  go_enter Tryz.func8, Tryz.ntmps8
  go_wp2
  have hg := Has.new (w.alloc (.cells (recCells r.client r.number r.object r.version ⟨r.data.toArray⟩ r.epoch) 38)) (.cells (recCells r.client r.number r.object r.version ⟨r.data.toArray⟩ r.epoch) 39)
  rw [World.size_alloc] at hg
  exact bodyPost_ret (results_cell_row Tryz.results8 _ _ (w.heap.size + 1) 39 _ (0, 0) _ rfl hg Tryz.underlying39 rfl (by kernel_rfl)) rfl ⟨rfl, ((Below.refl _ _).alloc (Nat.le_refl _) _).alloc (by simp) _⟩

theorem May_arms {c n o v ep : Int} {d : List UInt8} (ho : o ≠ -1) : (⟨c, n, o, v, d, ep⟩ : Rec).right = (inR c 0 1099511627776 && inR n 0 1099511627776 && inR v 0 1099511627776 && inR o 0 7 && decide (d.length ≤ 20) && decide (ep = 0)) := by
  unfold Rec.right
  rw [if_neg ho]
  simp only [okN, inR]
  rw [Bool.eq_iff_iff]
  simp only [Bool.and_eq_true, decide_eq_true_eq]
  omega
theorem May_epoch {c n v ep : Int} {d : List UInt8} : (⟨c, n, -1, v, d, ep⟩ : Rec).right = (inR ep 0 1099511627776 && decide (c = 0) && decide (n = 0) && decide (v = 0) && decide (d = [])) := by
  unfold Rec.right
  rw [if_pos rfl]
  simp only [okN, inR]
  rw [Bool.eq_iff_iff]
  simp only [Bool.and_eq_true, decide_eq_true_eq]

set_option maxHeartbeats 4000000 in
set_option maxRecDepth 100000 in
theorem May_any (r : Rec) (hs : r.data.length < 4611686018427387904) (w : World) :
    Calls Tryz.prog 7 #[recV r] w fun e w' => e = .returned (.bool r.right) ∧ Below w.heap.size w w' := by
  unfold recV
  obtain ⟨c, n, o, v, d, ep⟩ := r
  dsimp only
  dsimp only at hs
  obtain ⟨s, hs'⟩ : ∃ s : ByteArray, s = ⟨d.toArray⟩ := ⟨_, rfl⟩
  rw [← hs']
  have hz : s.size = d.length := by rw [hs']; rfl
  by_cases ho : o = -1
  · subst ho
    rw [May_epoch]
    obtain ⟨q, hq⟩ : ∃ q, q = decide (d = []) := ⟨_, rfl⟩
    have hs2 : s.toList.isEmpty = q := by
      rw [hq, hs', Lib.toList_data, Bool.eq_iff_iff, decide_eq_true_eq, List.isEmpty_iff]
    rw [← hq]
    have I1 := rin_any ep 0 1099511627776
    generalize inR ep 0 1099511627776 = b1 at I1 ⊢
    clear hs hs' hq hz
    obtain ⟨b2, hb2⟩ : ∃ b2, b2 = decide (c = 0) := ⟨_, rfl⟩
    obtain ⟨b3, hb3⟩ : ∃ b3, b3 = decide (n = 0) := ⟨_, rfl⟩
    obtain ⟨b4, hb4⟩ : ∃ b4, b4 = decide (v = 0) := ⟨_, rfl⟩
    have e2 : (c == 0) = b2 := by rw [hb2]; rfl
    have e3 : (n == 0) = b3 := by rw [hb3]; rfl
    have e4 : (v == 0) = b4 := by rw [hb4]; rfl
    rw [← hb2, ← hb3, ← hb4]
    clear hb2 hb3 hb4
    cases b1 with
    | false =>
      simp only [Bool.false_and]
      go_enter Tryz.func7, Tryz.ntmps7
      go_wp2_with (go_at_call 17; refine (I1 _).mono ?_; rintro e w' ⟨rfl, rfl⟩)
      go_ret
      exact ⟨rfl, Below.alloc (Below.refl _ _) (Nat.le_refl _) _⟩
    | true =>
      cases b2 with
      | false =>
        simp only [Bool.false_and, Bool.true_and]
        go_enter Tryz.func7, Tryz.ntmps7
        go_wp2_with (go_at_call 17; refine (I1 _).mono ?_; rintro e w' ⟨rfl, rfl⟩)
        go_ret
        exact ⟨rfl, Below.alloc (Below.refl _ _) (Nat.le_refl _) _⟩
      | true =>
        cases b3 with
        | false =>
          simp only [Bool.false_and, Bool.true_and]
          go_enter Tryz.func7, Tryz.ntmps7
          go_wp2_with (go_at_call 17; refine (I1 _).mono ?_; rintro e w' ⟨rfl, rfl⟩)
          go_ret
          exact ⟨rfl, Below.alloc (Below.refl _ _) (Nat.le_refl _) _⟩
        | true =>
          cases b4 with
          | false =>
            simp only [Bool.false_and, Bool.true_and]
            go_enter Tryz.func7, Tryz.ntmps7
            go_wp2_with (go_at_call 17; refine (I1 _).mono ?_; rintro e w' ⟨rfl, rfl⟩)
            go_ret
            exact ⟨rfl, Below.alloc (Below.refl _ _) (Nat.le_refl _) _⟩
          | true =>
            cases q
            all_goals
              go_enter Tryz.func7, Tryz.ntmps7
              go_wp2_with (go_at_call 17; refine (I1 _).mono ?_; rintro e w' ⟨rfl, rfl⟩)
              go_ret
              exact ⟨rfl, Below.alloc (Below.refl _ _) (Nat.le_refl _) _⟩
  · rw [May_arms ho]
    obtain ⟨q, hq⟩ : ∃ q, q = decide (d.length ≤ 20) := ⟨_, rfl⟩
    have hs2 : decide ((s.size : Int) ≤ 20) = q := by rw [hq, hz]; simp only [decide_eq_decide]; omega
    rw [← hq]
    have I1 := rin_any c 0 1099511627776
    have I2 := rin_any n 0 1099511627776
    have I3 := rin_any v 0 1099511627776
    have I4 := rin_any o 0 7
    generalize inR c 0 1099511627776 = b1 at I1 ⊢
    generalize inR n 0 1099511627776 = b2 at I2 ⊢
    generalize inR v 0 1099511627776 = b3 at I3 ⊢
    generalize inR o 0 7 = b4 at I4 ⊢
    obtain ⟨b5, hb5⟩ : ∃ b5, b5 = decide (ep = 0) := ⟨_, rfl⟩
    have e5 : (ep == 0) = b5 := by rw [hb5]; rfl
    have e0 : (o == -1) = false := by simpa using ho
    rw [← hb5]
    clear hs hs' hq hz hb5 ho
    cases b1 with
    | false =>
      go_enter Tryz.func7, Tryz.ntmps7
      go_wp2
      refine wp_loop_rounds 4 ?_
      rw [rounds_succ]
      go_wp2_with (go_at_call 17; refine (I1 _).mono ?_; rintro e w' ⟨rfl, rfl⟩)
      go_ret
      exact ⟨rfl, ((Below.refl _ _).alloc (Nat.le_refl _) _).alloc (by simp) _⟩
    | true =>
      cases b2 with
      | false =>
        go_enter Tryz.func7, Tryz.ntmps7
        go_wp2
        refine wp_loop_rounds 4 ?_
        rw [rounds_succ]
        go_wp2_with (go_at_call 17; refine (I1 _).mono ?_; rintro e w' ⟨rfl, rfl⟩)
        rw [rounds_succ]
        go_wp2_with (go_at_call 17; refine (I2 _).mono ?_; rintro e w' ⟨rfl, rfl⟩)
        go_ret
        exact ⟨rfl, ((Below.refl _ _).alloc (Nat.le_refl _) _).alloc (by simp) _⟩
      | true =>
        cases b3 with
        | false =>
          go_enter Tryz.func7, Tryz.ntmps7
          go_wp2
          refine wp_loop_rounds 4 ?_
          rw [rounds_succ]
          go_wp2_with (go_at_call 17; refine (I1 _).mono ?_; rintro e w' ⟨rfl, rfl⟩)
          rw [rounds_succ]
          go_wp2_with (go_at_call 17; refine (I2 _).mono ?_; rintro e w' ⟨rfl, rfl⟩)
          rw [rounds_succ]
          go_wp2_with (go_at_call 17; refine (I3 _).mono ?_; rintro e w' ⟨rfl, rfl⟩)
          go_ret
          exact ⟨rfl, ((Below.refl _ _).alloc (Nat.le_refl _) _).alloc (by simp) _⟩
        | true =>
          cases b4 with
          | false =>
            simp only [Bool.false_and, Bool.and_false, Bool.true_and]
            go_enter Tryz.func7, Tryz.ntmps7
            go_wp2
            refine wp_loop_rounds 4 ?_
            rw [rounds_succ]
            go_wp2_with (go_at_call 17; refine (I1 _).mono ?_; rintro e w' ⟨rfl, rfl⟩)
            rw [rounds_succ]
            go_wp2_with (go_at_call 17; refine (I2 _).mono ?_; rintro e w' ⟨rfl, rfl⟩)
            rw [rounds_succ]
            go_wp2_with (go_at_call 17; refine (I3 _).mono ?_; rintro e w' ⟨rfl, rfl⟩)
            rw [rounds_succ]
            go_wp2_with (go_at_call 17; refine (I4 _).mono ?_; rintro e w' ⟨rfl, rfl⟩)
            go_ret
            exact ⟨rfl, ((Below.refl _ _).alloc (Nat.le_refl _) _).alloc (by simp) _⟩
          | true =>
            cases q with
            | false =>
              simp only [Bool.false_and, Bool.and_false, Bool.true_and]
              go_enter Tryz.func7, Tryz.ntmps7
              go_wp2
              refine wp_loop_rounds 4 ?_
              rw [rounds_succ]
              go_wp2_with (go_at_call 17; refine (I1 _).mono ?_; rintro e w' ⟨rfl, rfl⟩)
              rw [rounds_succ]
              go_wp2_with (go_at_call 17; refine (I2 _).mono ?_; rintro e w' ⟨rfl, rfl⟩)
              rw [rounds_succ]
              go_wp2_with (go_at_call 17; refine (I3 _).mono ?_; rintro e w' ⟨rfl, rfl⟩)
              rw [rounds_succ]
              go_wp2_with (go_at_call 17; refine (I4 _).mono ?_; rintro e w' ⟨rfl, rfl⟩)
              go_ret
              exact ⟨rfl, ((Below.refl _ _).alloc (Nat.le_refl _) _).alloc (by simp) _⟩
            | true =>
              cases b5
              all_goals
                go_enter Tryz.func7, Tryz.ntmps7
                go_wp2
                refine wp_loop_rounds 4 ?_
                rw [rounds_succ]
                go_wp2_with (go_at_call 17; refine (I1 _).mono ?_; rintro e w' ⟨rfl, rfl⟩)
                rw [rounds_succ]
                go_wp2_with (go_at_call 17; refine (I2 _).mono ?_; rintro e w' ⟨rfl, rfl⟩)
                rw [rounds_succ]
                go_wp2_with (go_at_call 17; refine (I3 _).mono ?_; rintro e w' ⟨rfl, rfl⟩)
                rw [rounds_succ]
                go_wp2_with (go_at_call 17; refine (I4 _).mono ?_; rintro e w' ⟨rfl, rfl⟩)
                go_ret
                exact ⟨rfl, ((Below.refl _ _).alloc (Nat.le_refl _) _).alloc (by simp) _⟩
end Go.Proofs.YtadjbloccjbegaaGreatDoor.wal
