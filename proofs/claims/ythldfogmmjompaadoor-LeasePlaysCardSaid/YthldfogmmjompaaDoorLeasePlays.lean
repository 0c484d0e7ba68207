/-
  The law LeasePlays holds of the given program, for every input; the card ties the listed variable to the program's text.
-/
import Derived.Test.YthldfogmmjompaaDoorLeaseW
import Derived.Test.YthldfogmmjompaaDoorLaw
import Derived.Test.YthldfogmmjompaaDoorLaid
namespace Go.Proofs.YthldfogmmjompaaDoor.leasePlays
open Go.ChangeShapes Go.WideShapes Go.RowKit Go.Proofs.YthldfogmmjompaaDoor.errs Go.Proofs.YthldfogmmjompaaDoor.laid Go.Proofs.YthldfogmmjompaaDoor.law Go.Proofs.YthldfogmmjompaaDoor.lease

set_option maxRecDepth 100000 in
theorem lifted (os : Os) (started : os.Started) (H : Type) (enc : TypeId × Value → H) :
    ReturnsInHanded {} Tryd.checked os 8 .any (fun w args => (Rows.leasePlaysSpec.pre enc Tryd.prog Tryd.f8 [] false w args ∧ laidMetH Tryd.prog [("errors.errorType", Rows.laid_errors_errorType)] w) ∧ sizedMet enc Tryd.prog Tryd.f8 (OpenSpec.ofChange Rows.leasePlaysSpec) false w args)
      (Rows.leasePlaysSpec.post enc Tryd.prog Tryd.f8 false true false false) := by
  refine returnsInHanded_of_change_and (C := Tryd.checked) (X := fun w _ => laidMetH Tryd.prog [("errors.errorType", Rows.laid_errors_errorType)] w) (fun _ _ _ hh h => h.of_heap hh) laid.own started (by kernel_rfl) Tryd.func8
    (ChangeSpec.witness_at (enc := enc) (C := Tryd.checked) (os := os) (X := fun w _ => laidMetH Tryd.prog [("errors.errorType", Rows.laid_errors_errorType)] w) false (laidWorld os) #[.slice none 0 0] 8 rfl (by kernel_rfl) (by kernel_rfl) (by kernel_rfl) (by kernel_rfl) (by kernel_rfl) (laidWorld_met os _)) ?_
  intro W base args ds gs before hval0 hW _ _ hL _
  have hval : ∀ (j : Nat) t v, Tryd.f8.params[j]? = some t → args[j]? = some v → Value.okWide Tryd.prog W .any base t v := hval0
  have hW' := hW
  obtain ⟨p, q, hA0, hV, rfl, hfz, hnd⟩ := hW
  have hA : DataW.TrodAll enc Tryd.prog W 0 (fun _ => true) true Tryd.f8.params.toList args.toList ds p := hA0
  have hbl : ∀ x ∈ p, x.block < W.heap.size := fun x hx => hW'.lt x (by simp [hx])
  rw [Tryd.params8] at hA hval
  obtain ⟨v0, vs0, d0, ds0, p0, q0, hargs, rfl, rfl, h0, r0⟩ := trodAll_cons hA
  obtain ⟨rfl, rfl, rfl⟩ := trodAll_nil r0
  obtain rfl : args = #[v0] := by cases args; simp_all
  obtain ⟨fuel, h0⟩ := h0
  obtain ⟨A, n, cap, l, e0, hst, hcap, hmax⟩ := open_holds h0
  obtain ⟨a0, len0, cap0, rfl⟩ := okWide_slice Tryd.underlying83 (hval 0 83 v0 rfl rfl)
  obtain ⟨rfl, rfl, rfl⟩ : a0 = A ∧ len0 = n ∧ cap0 = cap := by simpa [Value.cells] using e0
  have hg := handle_of_laid hL
  refine (walkL a0 len0 cap0 l W hst (by unfold maxLen at hmax; omega) hg).mono fun e W' ⟨he, hb⟩ => ?_
  subst he
  exact ⟨_, rfl, law_post hW' rfl rfl (fun t ht => by rw [Tryd.params8] at ht; simp only [List.mem_cons, List.not_mem_nil, or_false] at ht; subst ht; exact ⟨by kernel_rfl, of_decide_eq_true (by kernel_rfl)⟩) (fun gs hg => by subst hg; rfl) hb⟩

theorem row_holds : Rows.LeasePlaysSaid :=
  OpenClaim.holds_of_wide 8 Tryd.f8 rfl rfl rfl rfl rfl rfl rfl ⟨rfl, rfl, rfl, rfl, rfl⟩ rfl rfl rfl rfl rfl (by kernel_rfl) Tryd.func8 (by kernel_rfl)
    (of_decide_eq_true (by kernel_rfl)) (by unfold Func.isWrapper; rw [if_neg (of_decide_eq_false (by kernel_rfl))]; exact ⟨rfl, rfl⟩)
    (fun os started H enc _ => lifted os started H enc)

theorem named : Tryd.prog.funcNamed "tenure/tenurelaw.LeasePlays" = some 8 := by kernel_rfl
theorem noStandIn0 : Tryd.prog.wantsStandIn 83 = false := by kernel_rfl
/-- The statement: the tied card. -/
theorem proved : Rows.LeasePlaysCardSaid :=
  Claim7.holds_tied_plain_at .later [] [.handle] true (true, "da475708035f2f1e7b88b1f16b897fc9ca27798c138ff257cb08be08ab042d3b") true
    row_holds (fun _ h => by cases h) (by kernel_rfl) (fun _ h => by cases h) leasePlays_row_tie rfl ⟨rfl, rfl⟩ (by kernel_rfl) rfl
    (fun f fn hf hfn => by
      obtain rfl : f = 8 := Option.some.inj (named.symm.trans hf) |>.symm
      obtain rfl : fn = Tryd.f8 := (Option.some.inj (Tryd.func8.symm.trans hfn)).symm
      exact ⟨by kernel_rfl, fun j t ht => by
        rw [Tryd.params8] at ht
        match j, ht with
        | 0, ht =>
          obtain rfl : 83 = t := by simpa using ht
          exact noStandIn0
        | j + 1, ht => simp at ht⟩)
    (by kernel_rfl)
#print axioms proved
end Go.Proofs.YthldfogmmjompaaDoor.leasePlays
