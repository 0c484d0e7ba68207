/-
  The reference's table: Object, Volume.
-/
import Derived.Test.YthldfogmmjompaaDoorLeaseR
namespace Go.Proofs.YthldfogmmjompaaDoor.lease
open Go.RowKit Go.Proofs.YthldfogmmjompaaDoor.heap Go.Proofs.YthldfogmmjompaaDoor.own Go.Proofs.YthldfogmmjompaaDoor.model Go.Proofs.YthldfogmmjompaaDoor.mapof

section
variable {w w' : World} {b m1 m2 m3 : Nat} {l l' : Pairs} {vl vl' sl sl' : List (Int × Int)}
theorem RefAt.grown1 (h : RefAt w b m1 m2 m3 l vl sl) (hg : w.grownBy w' (some m1)) (ha : At refS w' m1 l') : RefAt w' b m1 m2 m3 l' vl sl :=
  ⟨h.t_.grown hg (fun e => h.n1 (Option.some.inj e).symm), ha, h.v.grown hg (fun e => h.n12 (Option.some.inj e).symm), h.s.grown hg (fun e => h.n13 (Option.some.inj e).symm), h.n1, h.n2, h.n3, h.n12, h.n13, h.n23⟩
theorem RefAt.grown2 (h : RefAt w b m1 m2 m3 l vl sl) (hg : w.grownBy w' (some m2)) (ha : At numS w' m2 vl') : RefAt w' b m1 m2 m3 l vl' sl :=
  ⟨h.t_.grown hg (fun e => h.n2 (Option.some.inj e).symm), h.a.grown hg (fun e => h.n12 (Option.some.inj e)), ha, h.s.grown hg (fun e => h.n23 (Option.some.inj e).symm), h.n1, h.n2, h.n3, h.n12, h.n13, h.n23⟩
theorem RefAt.grown3 (h : RefAt w b m1 m2 m3 l vl sl) (hg : w.grownBy w' (some m3)) (ha : At numS w' m3 sl') : RefAt w' b m1 m2 m3 l vl sl' :=
  ⟨h.t_.grown hg (fun e => h.n3 (Option.some.inj e).symm), h.a.grown hg (fun e => h.n13 (Option.some.inj e)), h.v.grown hg (fun e => h.n23 (Option.some.inj e)), ha, h.n1, h.n2, h.n3, h.n12, h.n13, h.n23⟩
theorem RefAt.below (h : RefAt w b m1 m2 m3 l vl sl) (hb : Below w.heap.size w w') : RefAt w' b m1 m2 m3 l vl sl :=
  ⟨h.t_.below hb h.t_.lt, h.a.below hb, h.v.below hb, h.s.below hb, h.n1, h.n2, h.n3, h.n12, h.n13, h.n23⟩
theorem RefAt.drew (h : RefAt w b m1 m2 m3 l vl sl) : RefAt w.drew b m1 m2 m3 l vl sl :=
  ⟨h.t_.drew, h.a.drew, h.v.drew, h.s.drew, h.n1, h.n2, h.n3, h.n12, h.n13, h.n23⟩
end

theorem grown_drew {w w1 : World} {row : Option Nat} (h : w.drew.grownBy w1 row) : w.grownBy w1 row := ⟨h.os, h.tape, h.output, h.size, h.block⟩

theorem RObject_no (p : Value) (c o u : Int) (w : World) (h : (inR c 0 3 && inR o 0 7 && inR u 0 1099511627776) = false) :
    Calls Tryd.prog 41 #[p, .int .i64 c, .int .i64 o, .int .i64 u] w fun e w' => e = .returned (.int .i64 2) ∧ w = w' := by
  have I1 := in_any c 0 3 w
  have I2 := in_any o 0 7 w
  have I3 := in_any u 0 1099511627776 w
  cases h1 : inR c 0 3 with
  | false =>
    rw [h1] at I1
    clear h h1 I2 I3
    go_enter Tryd.func41, Tryd.ntmps41
    go_wp2_with (go_at_call 52; refine I1.mono ?_; rintro e w' ⟨rfl, rfl⟩; clear I1)
    go_ret
    exact ⟨rfl, rfl⟩
  | true =>
    rw [h1] at I1 h
    cases h2 : inR o 0 7 with
    | false =>
      rw [h2] at I2
      clear h h1 h2 I3
      go_enter Tryd.func41, Tryd.ntmps41
      go_wp2_with (first
        | (go_at_call 52; refine I1.mono ?_; rintro e w' ⟨rfl, rfl⟩; clear I1)
        | (go_at_call 52; refine I2.mono ?_; rintro e w' ⟨rfl, rfl⟩; clear I2))
      go_ret
      exact ⟨rfl, rfl⟩
    | true =>
      rw [h2] at I2 h
      have h3 : inR u 0 1099511627776 = false := h
      rw [h3] at I3
      clear h h1 h2 h3
      go_enter Tryd.func41, Tryd.ntmps41
      go_wp2_with (first
        | (go_at_call 52; refine I1.mono ?_; rintro e w' ⟨rfl, rfl⟩; clear I1)
        | (go_at_call 52; refine I2.mono ?_; rintro e w' ⟨rfl, rfl⟩; clear I2)
        | (go_at_call 52; refine I3.mono ?_; rintro e w' ⟨rfl, rfl⟩; clear I3))
      go_ret
      exact ⟨rfl, rfl⟩

/-- What the reference's Object makes of its leases. -/
def robject (l : Pairs) (k : Int × Int) (u : Int) : Pairs := if (seek k l).isSome = true ∧ ¬ (seek k l).getD 0 < u then l else put k u l

set_option maxHeartbeats 1000000 in
set_option maxRecDepth 100000 in
theorem RObject_yes (b m1 m2 m3 : Nat) (l : Pairs) (vl sl : List (Int × Int)) (c o u : Int) (w : World) (H : RefAt w b m1 m2 m3 l vl sl) (hl : l.length < 1000)
    (h1 : inR c 0 3 = true) (h2 : inR o 0 7 = true) (h3 : inR u 0 1099511627776 = true) (hc : i64ok c) (ho : i64ok o) (hu : i64ok u) :
    Calls Tryd.prog 41 #[.pointer (some ⟨b, 0, none⟩), .int .i64 c, .int .i64 o, .int .i64 u] w fun e w' => e = .returned (.int .i64 0) ∧ RefAt w' b m1 m2 m3 (robject l (c, o) u) vl sl ∧ w.grownBy w' (some m1) := by
  have I1 := in_any c 0 3 w
  have I2 := in_any o 0 7 w
  have I3 := in_any u 0 1099511627776 w
  rw [h1] at I1
  rw [h2] at I2
  rw [h3] at I3
  have k0 : w.cell? ⟨b, 0, none⟩ = some (.map (some m1)) := H.t_.cell 0
  have HH := Lib.hid H
  obtain ⟨x, hx⟩ : ∃ x, x = (seek (c, o) l).getD 0 := ⟨_, rfl⟩
  obtain ⟨y, hy⟩ : ∃ y, y = (seek (c, o) l).isSome := ⟨_, rfl⟩
  have HXY : Hid (Value.tuple #[refS.ev ((seek (c, o) l).getD refS.z), .bool (seek (c, o) l).isSome] = .tuple #[.int .i64 x, .bool y]) := Lib.hid (by rw [hx, hy]; rfl)
  have HA := Lib.hid H.a
  have HE : Hid (robject l (c, o) u = if y = true ∧ ¬ x < u then l else put (c, o) u l) := Lib.hid (by unfold robject; rw [hx, hy])
  clear H hx hy h1 h2 h3
  have fin : ∀ w', At refS w' m1 (put (c, o) u l) → w.grownBy w' (some m1) → ¬ (y = true ∧ ¬ x < u) → RefAt w' b m1 m2 m3 (robject l (c, o) u) vl sl ∧ w.grownBy w' (some m1) := by
    intro w' ha hg hn
    rw [HE.out, if_neg hn]
    exact ⟨HH.out.grown1 hg ha, hg⟩
  have FIN := Lib.hid fin
  clear fin
  cases hyy : y with
  | false =>
    subst hyy
    go_enter Tryd.func41, Tryd.ntmps41
    go_wp2_with (first
        | (go_at_call 52; refine I1.mono ?_; rintro e w' ⟨rfl, rfl⟩; clear I1)
        | (go_at_call 52; refine I2.mono ?_; rintro e w' ⟨rfl, rfl⟩; clear I2)
        | (go_at_call 52; refine I3.mono ?_; rintro e w' ⟨rfl, rfl⟩; clear I3)
        | (at_lookup; refine wpList_mlook_ok refS rfl (.tmp 28) (.tmp 31) rfl rfl HA.out (k := (c, o)) ⟨hc, ho⟩ rfl ?_; rw [HXY.out])
        | (at_mapUpdate; refine wpList_mstore refS rfl (.tmp 45) (.tmp 48) (.tmp 49) rfl rfl HA.out (by unfold maxLen; omega) (k := (c, o)) ⟨hc, ho⟩ hu rfl rfl ?_; intro w1 hm1 hg1))
    go_ret
    exact ⟨rfl, FIN.out _ hm1 hg1 (fun h => by cases h.1)⟩
  | true =>
    subst hyy
    by_cases hlt : x < u
    · have d : decide (x < u) = true := decide_eq_true hlt
      have HL := Lib.hid hlt
      clear hlt
      go_enter Tryd.func41, Tryd.ntmps41
      go_wp2_with (first
        | (go_at_call 52; refine I1.mono ?_; rintro e w' ⟨rfl, rfl⟩; clear I1)
        | (go_at_call 52; refine I2.mono ?_; rintro e w' ⟨rfl, rfl⟩; clear I2)
        | (go_at_call 52; refine I3.mono ?_; rintro e w' ⟨rfl, rfl⟩; clear I3)
        | (at_lookup; refine wpList_mlook_ok refS rfl (.tmp 28) (.tmp 31) rfl rfl HA.out (k := (c, o)) ⟨hc, ho⟩ rfl ?_; rw [HXY.out])
        | (at_mapUpdate; refine wpList_mstore refS rfl (.tmp 45) (.tmp 48) (.tmp 49) rfl rfl HA.out (by unfold maxLen; omega) (k := (c, o)) ⟨hc, ho⟩ hu rfl rfl ?_; intro w1 hm1 hg1))
      go_ret
      exact ⟨rfl, FIN.out _ hm1 hg1 (fun h => by have h2 := h.2; have := HL.out; omega)⟩
    · have d : decide (x < u) = false := decide_eq_false hlt
      have HL := Lib.hid hlt
      clear hlt
      go_enter Tryd.func41, Tryd.ntmps41
      go_wp2_with (first
        | (go_at_call 52; refine I1.mono ?_; rintro e w' ⟨rfl, rfl⟩; clear I1)
        | (go_at_call 52; refine I2.mono ?_; rintro e w' ⟨rfl, rfl⟩; clear I2)
        | (go_at_call 52; refine I3.mono ?_; rintro e w' ⟨rfl, rfl⟩; clear I3)
        | (at_lookup; refine wpList_mlook_ok refS rfl (.tmp 28) (.tmp 31) rfl rfl HA.out (k := (c, o)) ⟨hc, ho⟩ rfl ?_; rw [HXY.out]))
      go_ret
      refine ⟨rfl, ?_, ⟨rfl, rfl, rfl, Nat.le_refl _, fun _ _ _ => rfl⟩⟩
      rw [HE.out, if_pos (by have := HL.out; simp; omega)]
      exact HH.out

theorem RVolume_no (p : Value) (c u : Int) (w : World) (h : (inR c 0 3 && inR u 0 1099511627776) = false) :
    Calls Tryd.prog 43 #[p, .int .i64 c, .int .i64 u] w fun e w' => e = .returned (.int .i64 2) ∧ w = w' := by
  have I1 := in_any c 0 3 w
  have I3 := in_any u 0 1099511627776 w
  cases h1 : inR c 0 3 with
  | false =>
    rw [h1] at I1
    clear h h1 I3
    go_enter Tryd.func43, Tryd.ntmps43
    go_wp2_with (go_at_call 52; refine I1.mono ?_; rintro e w' ⟨rfl, rfl⟩; clear I1)
    go_ret
    exact ⟨rfl, rfl⟩
  | true =>
    rw [h1] at I1 h
    have h3 : inR u 0 1099511627776 = false := h
    rw [h3] at I3
    clear h h1 h3
    go_enter Tryd.func43, Tryd.ntmps43
    go_wp2_with (first
        | (go_at_call 52; refine I1.mono ?_; rintro e w' ⟨rfl, rfl⟩; clear I1)
        | (go_at_call 52; refine I3.mono ?_; rintro e w' ⟨rfl, rfl⟩; clear I3))
    go_ret
    exact ⟨rfl, rfl⟩

set_option maxHeartbeats 1000000 in
set_option maxRecDepth 100000 in
theorem RVolume_yes_ (b m1 m2 m3 : Nat) (l : Pairs) (vl sl : List (Int × Int)) (c u x y : Int) (w : World) (HY : Hid ((if u > x then u else x) = y)) (HX : Hid ((seek c vl).getD 0 = x)) (H : RefAt w b m1 m2 m3 l vl sl) (hl : vl.length < 1000)
    (h1 : inR c 0 3 = true) (h3 : inR u 0 1099511627776 = true) (hc : i64ok c) (hu : i64ok y) :
    Calls Tryd.prog 43 #[.pointer (some ⟨b, 0, none⟩), .int .i64 c, .int .i64 u] w fun e w' => e = .returned (.int .i64 0) ∧ RefAt w' b m1 m2 m3 l (put c y vl) sl ∧ w.grownBy w' (some m2) := by
  have I1 := in_any c 0 3 w
  have I3 := in_any u 0 1099511627776 w
  rw [h1] at I1
  rw [h3] at I3
  have HS : Hid (w.cell? ⟨b, 1, none⟩ = some (.map (some m2)) ∧ At numS w m2 vl) := Lib.hid ⟨H.t_.cell 1, H.v⟩
  have HH := Lib.hid H
  clear H h1 h3
  go_enter Tryd.func43, Tryd.ntmps43
  go_wp2_with (first
        | (go_at_call 52; refine I1.mono ?_; rintro e w' ⟨rfl, rfl⟩; clear I1)
        | (go_at_call 52; refine I3.mono ?_; rintro e w' ⟨rfl, rfl⟩; clear I3))
  refine last.wp_region_last (S := fun W => W.cell? ⟨b, 1, none⟩ = some (.map (some m2)) ∧ At numS W m2 vl) (L := 13) (by kernel_rfl) ?_
  refine last.wpAnyL_go 0 15 (.pointer (some ⟨b, 0, none⟩)) rfl rfl (by kernel_rfl) (by kernel_rfl) (by kernel_rfl) (by kernel_rfl) (fun _ _ _ h => h) HS.out (by rfl) (fun W hW => by obtain ⟨hW1, -⟩ := hW; go_simp) ?_
  simp only [List.setIfInBounds_toArray, List.set_cons_succ, List.set_cons_zero]
  refine last.wpAnyL_go 1 16 (.pointer (some ⟨b, 0, none⟩)) rfl rfl (by kernel_rfl) (by kernel_rfl) (by kernel_rfl) (by kernel_rfl) (fun _ _ _ h => h) HS.out (by rfl) (fun W hW => by obtain ⟨hW1, -⟩ := hW; go_simp) ?_
  simp only [List.setIfInBounds_toArray, List.set_cons_succ, List.set_cons_zero]
  refine last.wpAnyL_go 2 17 (.pointer (some ⟨b, 1, none⟩)) rfl rfl (by kernel_rfl) (by kernel_rfl) (by kernel_rfl) (by kernel_rfl) (fun _ _ _ h => h) HS.out (by rfl) (fun W hW => by obtain ⟨hW1, -⟩ := hW; go_simp) ?_
  simp only [List.setIfInBounds_toArray, List.set_cons_succ, List.set_cons_zero]
  refine last.wpAnyL_go 3 18 (.map (some m2)) rfl rfl (by kernel_rfl) (by kernel_rfl) (by kernel_rfl) (by kernel_rfl) (fun _ _ _ h => h) HS.out (by rfl) (fun W hW => by obtain ⟨hW1, -⟩ := hW; go_simp) ?_
  simp only [List.setIfInBounds_toArray, List.set_cons_succ, List.set_cons_zero]
  refine last.wpAnyL_go 4 19 (.int .i64 c) rfl rfl (by kernel_rfl) (by kernel_rfl) (by kernel_rfl) (by kernel_rfl) (fun _ _ _ h => h) HS.out (by rfl) (fun W hW => by obtain ⟨hW1, -⟩ := hW; go_simp) ?_
  simp only [List.setIfInBounds_toArray, List.set_cons_succ, List.set_cons_zero]
  refine last.wpAnyL_go 5 20 (.pointer (some ⟨b, 0, none⟩)) rfl rfl (by kernel_rfl) (by kernel_rfl) (by kernel_rfl) (by kernel_rfl) (fun _ _ _ h => h) HS.out (by rfl) (fun W hW => by obtain ⟨hW1, -⟩ := hW; go_simp) ?_
  simp only [List.setIfInBounds_toArray, List.set_cons_succ, List.set_cons_zero]
  refine last.wpAnyL_go 6 21 (.pointer (some ⟨b, 0, none⟩)) rfl rfl (by kernel_rfl) (by kernel_rfl) (by kernel_rfl) (by kernel_rfl) (fun _ _ _ h => h) HS.out (by rfl) (fun W hW => by obtain ⟨hW1, -⟩ := hW; go_simp) ?_
  simp only [List.setIfInBounds_toArray, List.set_cons_succ, List.set_cons_zero]
  refine last.wpAnyL_go 7 22 (.pointer (some ⟨b, 1, none⟩)) rfl rfl (by kernel_rfl) (by kernel_rfl) (by kernel_rfl) (by kernel_rfl) (fun _ _ _ h => h) HS.out (by rfl) (fun W hW => by obtain ⟨hW1, -⟩ := hW; go_simp) ?_
  simp only [List.setIfInBounds_toArray, List.set_cons_succ, List.set_cons_zero]
  refine last.wpAnyL_go 8 23 (.map (some m2)) rfl rfl (by kernel_rfl) (by kernel_rfl) (by kernel_rfl) (by kernel_rfl) (fun _ _ _ h => h) HS.out (by rfl) (fun W hW => by obtain ⟨hW1, -⟩ := hW; go_simp) ?_
  simp only [List.setIfInBounds_toArray, List.set_cons_succ, List.set_cons_zero]
  refine last.wpAnyL_go 9 24 (.int .i64 c) rfl rfl (by kernel_rfl) (by kernel_rfl) (by kernel_rfl) (by kernel_rfl) (fun _ _ _ h => h) HS.out (by rfl) (fun W hW => by obtain ⟨hW1, -⟩ := hW; go_simp) ?_
  simp only [List.setIfInBounds_toArray, List.set_cons_succ, List.set_cons_zero]
  refine last.wpAnyL_go 10 25 (.int .i64 x) rfl rfl (by kernel_rfl) (by kernel_rfl) (by kernel_rfl) (by kernel_rfl) (fun _ _ _ h => h) HS.out (by rfl) (fun W hW => by obtain ⟨hW1, hW4⟩ := hW; rw [← HX.out]; exact exec_mlook numS (.tmp 23) (.tmp 24) rfl (by go_simp) hW4 (k := c) hc (by go_simp; rfl)) ?_
  simp only [List.setIfInBounds_toArray, List.set_cons_succ, List.set_cons_zero]
  refine last.wpAnyL_go 11 26 (.int .i64 u) rfl rfl (by kernel_rfl) (by kernel_rfl) (by kernel_rfl) (by kernel_rfl) (fun _ _ _ h => h) HS.out (by rfl) (fun W hW => by obtain ⟨hW1, -⟩ := hW; go_simp) ?_
  simp only [List.setIfInBounds_toArray, List.set_cons_succ, List.set_cons_zero]
  refine last.wpAnyL_go 12 27 (.int .i64 y) rfl rfl (by kernel_rfl) (by kernel_rfl) (by kernel_rfl) (by kernel_rfl) (fun _ _ _ h => h) HS.out (by rfl) (fun W hW => by obtain ⟨hW1, -⟩ := hW; go_simp; rw [← HY.out]; split <;> omega) ?_
  simp only [List.setIfInBounds_toArray, List.set_cons_succ, List.set_cons_zero]
  refine last.wpAnyL_one (i := 13) (by kernel_rfl) rfl fun K hK => ?_
  refine (if_pos (by rfl)).mpr ?_
  refine wp_mstore numS (.tmp 18) (.tmp 19) (.tmp 27) rfl rfl HS.out.2 (by unfold maxLen; omega) (k := c) hc hu rfl rfl ?_
  intro w1 hm1 hg1
  refine hK.out _ _ (fun h => absurd rfl h) ?_
  refine last.wpAnyL_done (by kernel_rfl) ?_ _
  go_wp2
  go_ret
  exact ⟨rfl, HH.out.drew.grown2 hg1 hm1, grown_drew hg1⟩
end Go.Proofs.YthldfogmmjompaaDoor.lease
