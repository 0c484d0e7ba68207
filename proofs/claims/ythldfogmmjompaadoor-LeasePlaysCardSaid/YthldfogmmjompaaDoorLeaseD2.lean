/-
  Contracts of the walks of package lease: Object.
-/
import Derived.Test.YthldfogmmjompaaDoorLeaseD
import Derived.Test.YthldfogmmjompaaDoorRegionGo
namespace Go.Proofs.YthldfogmmjompaaDoor.lease
open Go.RowKit Go.Proofs.YthldfogmmjompaaDoor.heap Go.Proofs.YthldfogmmjompaaDoor.own Go.Proofs.YthldfogmmjompaaDoor.model Go.Proofs.YthldfogmmjompaaDoor.mapof

theorem grown_alloc {w w1 : World} {o : Obj} {row : Option Nat} (h : (w.alloc o).drew.grownBy w1 row) : w.grownBy w1 row :=
  ⟨h.os, h.tape, h.output, Nat.le_trans (by simp) h.size, fun k hk hr => (h.block k (by simp; omega) hr).trans (Below.heap_alloc _ _ _ hk)⟩

set_option maxHeartbeats 1000000 in
set_option maxRecDepth 100000 in
theorem Object_yes_ (b m : Nat) (l : Pairs) (vs ss : List Int) (c o u x y : Int) (w : World) (HY : Hid ((if u > x then u else x) = y)) (HX : Hid ((seek (c, o) l).getD 0 = x)) (h : TabAt w b m l vs ss) (hl : l.length < 1000) (hr : (lease.isClient c && lease.isObject o) = true) (h0 : 0 ≤ u) (h1 : u ≤ 1099511627776) (hc : i64ok c) (ho : i64ok o) (hu : i64ok y) :
    Calls Tryd.prog 40 #[.pointer (some ⟨b, 0, none⟩), .int .i64 c, .int .i64 o, .int .i64 u] w fun e w' => e = .returned .nilIface ∧ TabAt w' b m (put (c, o) y l) vs ss ∧ w.grownBy w' (some m) := by
  have R := right_any c o w
  rw [hr] at R
  have d0 : decide (u < 0) = false := by simpa using h0
  have d1 : decide ((1099511627776 : Int) < u) = false := by simpa using h1
  have H := Lib.hid h
  have hlt := h.t_.lt
  obtain ⟨V, hV⟩ : ∃ V, V = w.alloc (.cells #[.int .i64 c, .int .i64 o] 131) := ⟨_, rfl⟩
  have HS : Hid (V.cell? ⟨b, 0, none⟩ = some (.map (some m)) ∧ V.cell? ⟨w.heap.size, 0, none⟩ = some (.int .i64 c) ∧ V.cell? ⟨w.heap.size, 1, none⟩ = some (.int .i64 o) ∧ At keyS V m l) := by
    rw [hV]
    exact ⟨(World.cell?_alloc_lt _ _ _ hlt).trans h.cell0, (Has.new w _).cell 0, (Has.new w _).cell 1, h.m_.below ((Below.refl _ _).alloc (Nat.le_refl _) _)⟩
  have HV := Lib.hid hV
  clear h
  go_enter Tryd.func40, Tryd.ntmps40
  go_wp2_with (go_at_call 62; refine R.mono ?_; rintro e w' ⟨rfl, rfl⟩)
  rw [← hV]
  refine last.wp_region_last (S := fun W => W.cell? ⟨b, 0, none⟩ = some (.map (some m)) ∧ W.cell? ⟨w.heap.size, 0, none⟩ = some (.int .i64 c) ∧ W.cell? ⟨w.heap.size, 1, none⟩ = some (.int .i64 o) ∧ At keyS W m l) (L := 13) (by kernel_rfl) ?_
  refine last.wpAnyL_go 0 26 (.pointer (some ⟨b, 0, none⟩)) rfl rfl (by kernel_rfl) (by kernel_rfl) (by kernel_rfl) (by kernel_rfl) (fun _ _ _ h => h) HS.out (by rfl) (fun W hW => by obtain ⟨hW1, hW2, hW3, -⟩ := hW; go_simp) ?_
  simp only [List.setIfInBounds_toArray, List.set_cons_succ, List.set_cons_zero]
  refine last.wpAnyL_go 1 27 (.pointer (some ⟨b, 0, none⟩)) rfl rfl (by kernel_rfl) (by kernel_rfl) (by kernel_rfl) (by kernel_rfl) (fun _ _ _ h => h) HS.out (by rfl) (fun W hW => by obtain ⟨hW1, hW2, hW3, -⟩ := hW; go_simp) ?_
  simp only [List.setIfInBounds_toArray, List.set_cons_succ, List.set_cons_zero]
  refine last.wpAnyL_go 2 28 (.pointer (some ⟨b, 0, none⟩)) rfl rfl (by kernel_rfl) (by kernel_rfl) (by kernel_rfl) (by kernel_rfl) (fun _ _ _ h => h) HS.out (by rfl) (fun W hW => by obtain ⟨hW1, hW2, hW3, -⟩ := hW; go_simp) ?_
  simp only [List.setIfInBounds_toArray, List.set_cons_succ, List.set_cons_zero]
  refine last.wpAnyL_go 3 29 (.map (some m)) rfl rfl (by kernel_rfl) (by kernel_rfl) (by kernel_rfl) (by kernel_rfl) (fun _ _ _ h => h) HS.out (by rfl) (fun W hW => by obtain ⟨hW1, hW2, hW3, -⟩ := hW; go_simp) ?_
  simp only [List.setIfInBounds_toArray, List.set_cons_succ, List.set_cons_zero]
  refine last.wpAnyL_go 4 30 (.agg #[.int .i64 c, .int .i64 o]) rfl rfl (by kernel_rfl) (by kernel_rfl) (by kernel_rfl) (by kernel_rfl) (fun _ _ _ h => h) HS.out (by rfl) (fun W hW => by obtain ⟨hW1, hW2, hW3, -⟩ := hW; go_simp) ?_
  simp only [List.setIfInBounds_toArray, List.set_cons_succ, List.set_cons_zero]
  refine last.wpAnyL_go 5 31 (.pointer (some ⟨b, 0, none⟩)) rfl rfl (by kernel_rfl) (by kernel_rfl) (by kernel_rfl) (by kernel_rfl) (fun _ _ _ h => h) HS.out (by rfl) (fun W hW => by obtain ⟨hW1, hW2, hW3, -⟩ := hW; go_simp) ?_
  simp only [List.setIfInBounds_toArray, List.set_cons_succ, List.set_cons_zero]
  refine last.wpAnyL_go 6 32 (.pointer (some ⟨b, 0, none⟩)) rfl rfl (by kernel_rfl) (by kernel_rfl) (by kernel_rfl) (by kernel_rfl) (fun _ _ _ h => h) HS.out (by rfl) (fun W hW => by obtain ⟨hW1, hW2, hW3, -⟩ := hW; go_simp) ?_
  simp only [List.setIfInBounds_toArray, List.set_cons_succ, List.set_cons_zero]
  refine last.wpAnyL_go 7 33 (.pointer (some ⟨b, 0, none⟩)) rfl rfl (by kernel_rfl) (by kernel_rfl) (by kernel_rfl) (by kernel_rfl) (fun _ _ _ h => h) HS.out (by rfl) (fun W hW => by obtain ⟨hW1, hW2, hW3, -⟩ := hW; go_simp) ?_
  simp only [List.setIfInBounds_toArray, List.set_cons_succ, List.set_cons_zero]
  refine last.wpAnyL_go 8 34 (.map (some m)) rfl rfl (by kernel_rfl) (by kernel_rfl) (by kernel_rfl) (by kernel_rfl) (fun _ _ _ h => h) HS.out (by rfl) (fun W hW => by obtain ⟨hW1, hW2, hW3, -⟩ := hW; go_simp) ?_
  simp only [List.setIfInBounds_toArray, List.set_cons_succ, List.set_cons_zero]
  refine last.wpAnyL_go 9 35 (.agg #[.int .i64 c, .int .i64 o]) rfl rfl (by kernel_rfl) (by kernel_rfl) (by kernel_rfl) (by kernel_rfl) (fun _ _ _ h => h) HS.out (by rfl) (fun W hW => by obtain ⟨hW1, hW2, hW3, -⟩ := hW; go_simp) ?_
  simp only [List.setIfInBounds_toArray, List.set_cons_succ, List.set_cons_zero]
  refine last.wpAnyL_go 10 36 (.int .i64 x) rfl rfl (by kernel_rfl) (by kernel_rfl) (by kernel_rfl) (by kernel_rfl) (fun _ _ _ h => h) HS.out (by rfl) (fun W hW => by obtain ⟨hW1, hW2, hW3, hW4⟩ := hW; rw [← HX.out]; exact exec_mlook keyS (.tmp 34) (.tmp 35) rfl (by go_simp) hW4 (k := (c, o)) ⟨hc, ho⟩ (by go_simp; rfl)) ?_
  simp only [List.setIfInBounds_toArray, List.set_cons_succ, List.set_cons_zero]
  refine last.wpAnyL_go 11 37 (.int .i64 u) rfl rfl (by kernel_rfl) (by kernel_rfl) (by kernel_rfl) (by kernel_rfl) (fun _ _ _ h => h) HS.out (by rfl) (fun W hW => by obtain ⟨hW1, hW2, hW3, -⟩ := hW; go_simp) ?_
  simp only [List.setIfInBounds_toArray, List.set_cons_succ, List.set_cons_zero]
  refine last.wpAnyL_go 12 38 (.int .i64 y) rfl rfl (by kernel_rfl) (by kernel_rfl) (by kernel_rfl) (by kernel_rfl) (fun _ _ _ h => h) HS.out (by rfl) (fun W hW => by obtain ⟨hW1, hW2, hW3, -⟩ := hW; go_simp; exact HY.out) ?_
  simp only [List.setIfInBounds_toArray, List.set_cons_succ, List.set_cons_zero]
  refine last.wpAnyL_one (i := 13) (by kernel_rfl) rfl fun K hK => ?_
  refine (if_pos (by rfl)).mpr ?_
  refine wp_mstore keyS (.tmp 29) (.tmp 30) (.tmp 38) rfl rfl HS.out.2.2.2 (by unfold maxLen; omega) (k := (c, o)) ⟨hc, ho⟩ hu rfl rfl ?_
  intro w1 hm1 hg1
  refine hK.out _ _ (fun h => absurd rfl h) ?_
  refine last.wpAnyL_done (by kernel_rfl) ?_ _
  go_wp2
  go_ret
  obtain rfl := HV.out
  have hb : TabAt (w.alloc (.cells #[.int .i64 c, .int .i64 o] 131)).drew b m l vs ss := ⟨(H.out.t_.alloc _).drew, H.out.m_.below (((Below.refl _ _).alloc (Nat.le_refl _) _).drew), H.out.ne, H.out.hv, H.out.hs⟩
  exact ⟨rfl, hb.grown hg1 hm1, grown_alloc hg1⟩

theorem Object_yes (b m : Nat) (l : Pairs) (vs ss : List Int) (c o u : Int) (w : World) (h : TabAt w b m l vs ss) (hl : l.length < 1000) (hr : (lease.isClient c && lease.isObject o) = true) (h0 : 0 ≤ u) (h1 : u ≤ 1099511627776) (hc : i64ok c) (ho : i64ok o) (hu : i64ok (max ((seek (c, o) l).getD 0) u)) :
    Calls Tryd.prog 40 #[.pointer (some ⟨b, 0, none⟩), .int .i64 c, .int .i64 o, .int .i64 u] w fun e w' => e = .returned .nilIface ∧ TabAt w' b m (put (c, o) (max ((seek (c, o) l).getD 0) u) l) vs ss ∧ w.grownBy w' (some m) :=
  Object_yes_ b m l vs ss c o u _ _ w (Lib.hid (by split <;> omega)) (Lib.hid rfl) h hl hr h0 h1 hc ho hu
end Go.Proofs.YthldfogmmjompaaDoor.lease
