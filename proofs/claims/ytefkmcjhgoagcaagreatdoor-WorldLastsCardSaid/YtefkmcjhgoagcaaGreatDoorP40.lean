/-
  The law WorldLasts holds of the given program, for every input; the card ties the listed variables to the program's text.
-/
import Derived.Test.YtefkmcjhgoagcaaGreatDoorP38
import Derived.Test.YtefkmcjhgoagcaaGreatDoorP39
namespace Go.Proofs.YtefkmcjhgoagcaaGreatDoor
namespace worldLasts
open Go.ChangeShapes Go.WideShapes Go.RowKit errs laidz law wal kp keep
set_option maxRecDepth 100000 in
theorem lifted (os : Os) (started : os.Started) (H : Type) (enc : TypeId × Value → H) :
 ReturnsInHanded {} Tryz.checked os 3 .any (fun w args => (Rows.worldLastsSpec.pre enc Tryz.prog Tryz.f3 [] false w args ∧ laidMetH Tryz.prog laidz.laid w) ∧ sizedMet enc Tryz.prog Tryz.f3 (OpenSpec.ofChange Rows.worldLastsSpec) false w args)
  (Rows.worldLastsSpec.post enc Tryz.prog Tryz.f3 false true false false):=by
 refine handed_shaped (C:=Tryz.checked) (X:=fun w _ => laidMetH Tryz.prog laidz.laid w) (fun _ _ _ hh h => h.of_heap hh) laidz.own started (by kernel_rfl) Tryz.func3
  ⟨laidWorld os,fun _ _ => 0,⟨#[],#[.int .i64 0,.int .i64 0,.int .i64 0,.int .i64 0,.slice none 0 0],[]⟩,laidWorld_os os,laidWorld_shaped os _,rfl,(Input.okWide_of_okWideB (by kernel_rfl)).2,⟨⟨ChangeSpec.pre_of_preB (fuel:=8) (by kernel_rfl),laidWorld_met os _⟩,sizedMet_of_sizedB (fuel:=8) (by kernel_rfl)⟩,by
   simp only [Assume.holds]
   exact ⟨by simp,by simp,fun _ => Modest.zero,by simp,by simp⟩⟩ ?_
 intro W base args ds gs before hval0 hW hsh hL;have hval : ∀ (j : Nat) t v,Tryz.f3.params[j]? = some t → args[j]? = some v → Value.okWide Tryz.prog W .any base t v:=hval0;have hW':=hW;obtain ⟨p,q,hA0,hV,rfl,hfz,hnd⟩:=hW;have hA : DataW.TrodAll enc Tryz.prog W 0 (fun _ => true) true Tryz.f3.params.toList args.toList ds p:=hA0;rw [Tryz.params3] at hA hval;obtain ⟨v0,vs0,d0,ds0,p0,q0,hargs,rfl,rfl,h0,r0⟩:=trodAll_cons hA;obtain ⟨v1,vs1,d1,ds1,p1,q1,rfl,rfl,rfl,h1,r1⟩:=trodAll_cons r0;obtain ⟨v2,vs2,d2,ds2,p2,q2,rfl,rfl,rfl,h2,r2⟩:=trodAll_cons r1;obtain ⟨v3,vs3,d3,ds3,p3,q3,rfl,rfl,rfl,h3,r3⟩:=trodAll_cons r2;obtain ⟨v4,vs4,d4,ds4,p4,q4,rfl,rfl,rfl,h4,r4⟩:=trodAll_cons r3;obtain ⟨rfl,rfl,rfl⟩:=trodAll_nil r4;(obtain rfl : args = #[v0,v1,v2,v3,v4]:=by cases args;simp_all);obtain ⟨z0,rfl,-,-,-⟩:=open_int Tryz.underlying3 (hval 0 3 v0 rfl rfl) h0;obtain ⟨z1,rfl,-,-,-⟩:=open_int Tryz.underlying3 (hval 1 3 v1 rfl rfl) h1;obtain ⟨z2,rfl,-,-,-⟩:=open_int Tryz.underlying3 (hval 2 3 v2 rfl rfl) h2;obtain ⟨z3,rfl,-,-,-⟩:=open_int Tryz.underlying3 (hval 3 3 v3 rfl rfl) h3;obtain ⟨fuel,h4⟩:=h4;obtain ⟨A,n,cap,l,e0,hst,hcap,hmax⟩:=open_list 4 Tryz.underlying22 (by kernel_rfl) (by decide) IsStep (fun _ _ _ hl ht => open_step hl ht) h4;obtain ⟨a0,len0,cap0,rfl⟩:=okWide_slice Tryz.underlying22 (hval 4 22 v4 rfl rfl);(obtain ⟨rfl,rfl,rfl⟩ : a0 = A ∧ len0 = n ∧ cap0 = cap:=by simpa [Value.cells] using e0);obtain ⟨hk,hg⟩:=kit_of hL hsh;refine (lasts_w (P:=Lib.goPrintTabs) W z0 z1 z2 z3 a0 len0 cap0 l hst hk hg).mono fun e W' ⟨he,hb⟩ => ?_;subst he;exact ⟨_,rfl,law_post hW' rfl rfl (fun t ht => by rw [Tryz.params3] at ht;simp only [List.mem_cons,List.not_mem_nil,or_false] at ht;rcases ht with rfl | rfl | rfl | rfl | rfl <;> exact ⟨by kernel_rfl,of_decide_eq_true (by kernel_rfl)⟩) (fun gs hg => by subst hg;rfl) hb⟩
theorem row_holds : Rows.WorldLastsSaid:=
 OpenClaim.holds_of_wide 3 Tryz.f3 rfl rfl rfl rfl rfl rfl rfl ⟨rfl,rfl,rfl,rfl,rfl⟩ rfl rfl rfl rfl rfl (by kernel_rfl) Tryz.func3 (by kernel_rfl)
  (of_decide_eq_true (by kernel_rfl)) (by unfold Func.isWrapper;rw [if_neg (of_decide_eq_false (by kernel_rfl))];exact ⟨rfl,rfl⟩)
  (fun os started H enc _ => lifted os started H enc)
theorem named : Tryz.prog.funcNamed "tenure/tenurekeep.WorldLasts" = some 3:=by kernel_rfl
theorem noStandIn4 : Tryz.prog.wantsStandIn 22 = false:=by kernel_rfl
theorem noStandIn0 : Tryz.prog.wantsStandIn 3 = false:=by kernel_rfl
theorem proved : Rows.WorldLastsCardSaid:=
 Claim7.holds_tied_plain_at .later [] [.data,.data,.data,.data,.handle,.sentinel,.sentinel,.pinned,.pinned,.pinned,.pinned,.pinned,.pinned] true (true,"651c45f48f2a737a33e1084bdb42e013ae4e1b19dccbb4754a3d29ac904f4e9c") true
  row_holds (fun _ h => by cases h) (by kernel_rfl) (fun _ h => by cases h) worldLasts_row_tie rfl ⟨rfl,rfl⟩ (by kernel_rfl) rfl
  (fun f fn hf hfn => by
    obtain rfl : f = 3:=Option.some.inj (named.symm.trans hf) |>.symm;obtain rfl : fn = Tryz.f3:=(Option.some.inj (Tryz.func3.symm.trans hfn)).symm
    exact ⟨by kernel_rfl,fun j t ht => by
     rw [Tryz.params3] at ht
     match j,ht with
     | 0,ht =>
      (obtain rfl : 3 = t:=by simpa using ht);exact noStandIn0
     | 1,ht =>
      (obtain rfl : 3 = t:=by simpa using ht);exact noStandIn0
     | 2,ht =>
      (obtain rfl : 3 = t:=by simpa using ht);exact noStandIn0
     | 3,ht =>
      (obtain rfl : 3 = t:=by simpa using ht);exact noStandIn0
     | 4,ht =>
      (obtain rfl : 22 = t:=by simpa using ht);exact noStandIn4
     | j + 5,ht => simp at ht⟩)
  (by kernel_rfl)
#print axioms proved
end worldLasts
end Go.Proofs.YtefkmcjhgoagcaaGreatDoor
