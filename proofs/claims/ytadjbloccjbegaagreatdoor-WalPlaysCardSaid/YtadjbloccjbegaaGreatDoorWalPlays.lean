/-
  The law WalPlays holds of the given program, for every input; the card ties the listed variables to the program's text.
-/
import Derived.Test.YtadjbloccjbegaaGreatDoorWalW
import Derived.Test.YtadjbloccjbegaaGreatDoorLaw
import Derived.Test.YtadjbloccjbegaaGreatDoorLaidZ
namespace Go.Proofs.YtadjbloccjbegaaGreatDoor.walPlays
open Go.ChangeShapes Go.WideShapes Go.RowKit Go.Proofs.YtadjbloccjbegaaGreatDoor.errs Go.Proofs.YtadjbloccjbegaaGreatDoor.laidz Go.Proofs.YtadjbloccjbegaaGreatDoor.law Go.Proofs.YtadjbloccjbegaaGreatDoor.wal

set_option maxRecDepth 100000 in
theorem lifted (os : Os) (started : os.Started) (H : Type) (enc : TypeId × Value → H) :
    ReturnsInHanded {} Tryz.checked os 3 .any (fun w args => (Rows.walPlaysSpec.pre enc Tryz.prog Tryz.f3 [] false w args ∧ laidMetH Tryz.prog laidz.laid w) ∧ sizedMet enc Tryz.prog Tryz.f3 (OpenSpec.ofChange Rows.walPlaysSpec) false w args)
      (Rows.walPlaysSpec.post enc Tryz.prog Tryz.f3 false true false false) := by
  refine handed_shaped (C := Tryz.checked) (X := fun w _ => laidMetH Tryz.prog laidz.laid w) (fun _ _ _ hh h => h.of_heap hh) laidz.own started (by kernel_rfl) Tryz.func3
    ⟨laidWorld os, fun _ _ => 0, ⟨#[], #[.slice none 0 0, .int .i64 0], []⟩, laidWorld_os os, laidWorld_shaped os _, rfl, (Input.okWide_of_okWideB (by kernel_rfl)).2, ⟨⟨ChangeSpec.pre_of_preB (fuel := 8) (by kernel_rfl), laidWorld_met os _⟩, sizedMet_of_sizedB (fuel := 8) (by kernel_rfl)⟩, by
      simp only [Assume.holds]
      exact ⟨by simp, by simp, fun _ => Modest.zero, by simp, by simp⟩⟩ ?_
  intro W base args ds gs before hval0 hW hsh hL
  have hval : ∀ (j : Nat) t v, Tryz.f3.params[j]? = some t → args[j]? = some v → Value.okWide Tryz.prog W .any base t v := hval0
  have hW' := hW
  obtain ⟨p, q, hA0, hV, rfl, hfz, hnd⟩ := hW
  have hA : DataW.TrodAll enc Tryz.prog W 0 (fun _ => true) true Tryz.f3.params.toList args.toList ds p := hA0
  rw [Tryz.params3] at hA hval
  obtain ⟨v0, vs0, d0, ds0, p0, q0, hargs, rfl, rfl, h0, r0⟩ := trodAll_cons hA
  obtain ⟨v1, vs1, d1, ds1, p1, q1, rfl, rfl, rfl, h1, r1⟩ := trodAll_cons r0
  obtain ⟨rfl, rfl, rfl⟩ := trodAll_nil r1
  obtain rfl : args = #[v0, v1] := by cases args; simp_all
  obtain ⟨fuel, h0⟩ := h0
  obtain ⟨A, n, cap, l, e0, hst, hcap, hmax⟩ := open_list 9 Tryz.underlying22 (by kernel_rfl) (by decide) IsPu (fun _ _ _ hl ht => open_put hl ht) h0
  obtain ⟨a0, len0, cap0, rfl⟩ := okWide_slice Tryz.underlying22 (hval 0 22 v0 rfl rfl)
  obtain ⟨rfl, rfl, rfl⟩ : a0 = A ∧ len0 = n ∧ cap0 = cap := by simpa [Value.cells] using e0
  obtain ⟨z1, rfl, -, -, -⟩ := open_int Tryz.underlying3 (hval 1 3 v1 rfl rfl) h1
  obtain ⟨hk, hg⟩ := kit_of hL hsh
  refine (walkW Lib.goPrintTabs a0 len0 cap0 z1 l W hst (by unfold maxLen at hmax; omega) hg hk).mono fun e W' ⟨he, hb⟩ => ?_
  subst he
  exact ⟨_, rfl, law_post hW' rfl rfl (fun t ht => by rw [Tryz.params3] at ht; simp only [List.mem_cons, List.not_mem_nil, or_false] at ht; rcases ht with rfl | rfl <;> exact ⟨by kernel_rfl, of_decide_eq_true (by kernel_rfl)⟩) (fun gs hg => by subst hg; rfl) hb⟩

theorem row_holds : Rows.WalPlaysSaid :=
  OpenClaim.holds_of_wide 3 Tryz.f3 rfl rfl rfl rfl rfl rfl rfl ⟨rfl, rfl, rfl, rfl, rfl⟩ rfl rfl rfl rfl rfl (by kernel_rfl) Tryz.func3 (by kernel_rfl)
    (of_decide_eq_true (by kernel_rfl)) (by unfold Func.isWrapper; rw [if_neg (of_decide_eq_false (by kernel_rfl))]; exact ⟨rfl, rfl⟩)
    (fun os started H enc _ => lifted os started H enc)

theorem named : Tryz.prog.funcNamed "tenure/tenurelaw.WalPlays" = some 3 := by kernel_rfl
theorem noStandIn0 : Tryz.prog.wantsStandIn 22 = false := by kernel_rfl
theorem noStandIn1 : Tryz.prog.wantsStandIn 3 = false := by kernel_rfl
/-- The statement: the tied card. -/
theorem proved : Rows.WalPlaysCardSaid :=
  Claim7.holds_tied_plain_at .later [] [.data, .data, .data, .data, .handle, .sentinel, .sentinel, .pinned, .pinned, .pinned, .pinned, .pinned, .pinned] true (true, "84278b09c917bdb547e9b42fee79a54543420935a73df7db49ce18321d8c1a1d") true
    row_holds (fun _ h => by cases h) (by kernel_rfl) (fun _ h => by cases h) walPlays_row_tie rfl ⟨rfl, rfl⟩ (by kernel_rfl) rfl
    (fun f fn hf hfn => by
      obtain rfl : f = 3 := Option.some.inj (named.symm.trans hf) |>.symm
      obtain rfl : fn = Tryz.f3 := (Option.some.inj (Tryz.func3.symm.trans hfn)).symm
      exact ⟨by kernel_rfl, fun j t ht => by
        rw [Tryz.params3] at ht
        match j, ht with
        | 0, ht =>
          obtain rfl : 22 = t := by simpa using ht
          exact noStandIn0
        | 1, ht =>
          obtain rfl : 3 = t := by simpa using ht
          exact noStandIn1
        | j + 2, ht => simp at ht⟩)
    (by kernel_rfl)
#print axioms proved
end Go.Proofs.YtadjbloccjbegaaGreatDoor.walPlays
