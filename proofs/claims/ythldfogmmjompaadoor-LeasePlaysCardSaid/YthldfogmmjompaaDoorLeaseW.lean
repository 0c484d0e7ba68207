/-
  The walk of the law LeasePlays.
-/
import Derived.Test.YthldfogmmjompaaDoorLeaseX
import Derived.Test.YthldfogmmjompaaDoorRegionGo
import Derived.BigQuiet
import Derived.Deep.QuietTactic
import Derived.Deep.LoopGhost
import Derived.Deep.DeepCutAuto
import Derived.Deep.CutBlock
namespace Go.Proofs.YthldfogmmjompaaDoor.lease
open Go.RowKit Go.Proofs.YthldfogmmjompaaDoor.heap Go.Proofs.YthldfogmmjompaaDoor.own Go.Proofs.YthldfogmmjompaaDoor.model Go.Proofs.YthldfogmmjompaaDoor.mapof Go.Proofs.YthldfogmmjompaaDoor.ints Go.Proofs.YthldfogmmjompaaDoor.errs

/-- What stands behind a round's switch: its step lies in block x. -/
def LDone (w : World) (k : Nat) (wc : World) : Prop :=
  ∃ (l : Pairs) (vs ss : List Int) (vl sl : List (Int × Int)), LAt w.heap.size wc l vs ss vl sl k ∧ Below w.heap.size w wc
def LRel (w : World) (n g : Nat) (i : Value) (wr : World) : Prop := ∃ k : Nat, k + g = n ∧ i = .int .i64 k ∧ LDone w k wr

set_option maxHeartbeats 4000000 in
set_option maxRecDepth 100000 in
theorem walkL (a : Option Addr) (n cap : Nat) (us : List Ho) (w : World) (hst : HosAt w a n us) (hn : n ≤ 9223372036854775807) (hg : Handle w) :
    Calls Tryd.prog 8 #[.slice a n cap] w fun e w' => e = .returned (.bool true) ∧ Below w.heap.size w w' := by
  by_cases h150 : 150 < n
  · go_enter Tryd.func8, Tryd.ntmps8
    go_wp2_with fail
    go_ret
    exact ⟨rfl, Below.refl _ _⟩
  · have HST := Lib.hid hst
    have HG := Lib.hid hg
    clear hst hg
    go_enter Tryd.func8, Tryd.ntmps8
    go_wp2_with fail
    refine (New_any w).mono ?_
    rintro e W0 ⟨rfl, hT0, hb0, hsz0⟩
    have hT0' := Lib.hid hT0
    have hb0' := Lib.hid hb0
    have HZ0 := Lib.hid hsz0
    clear hT0 hb0 hsz0
    go_wp2_with fail
    refine (NewTable_any W0).mono ?_
    rintro e W1 ⟨rfl, hR1, hb1⟩
    have hsz0 := HZ0.out
    rw [hsz0] at hR1 hb1 ⊢
    have HD0 : Hid (LDone w 0 W1) := Lib.hid ⟨[], [0, 0, 0, 0], [0, 0, 0, 0], [], [], ⟨hT0'.out.below (by rw [hsz0]; exact hb1), hR1, Good.start⟩, hb0'.out.trans (hb1.mono (by omega))⟩
    clear hR1 hb1
    clear hT0' hb0' hsz0 HZ0
    go_wp2_with fail
    go_loopg [5, 6, 7, 8, 9, 10, 11, 12] n (fun g i _ _ _ _ _ _ _ wr => LRel w n g i wr)
    case atStart => exact ⟨0, by omega, rfl, HD0.out⟩
    case round =>
      obtain ⟨k, hkg, rfl, l, vs, ss, vl, sl, hL, hbw⟩ := hrel
      have HL := Lib.hid hL
      have HBW := Lib.hid hbw
      have hlt0 : w.heap.size + 5 < wr.heap.size := hL.r.t_.lt
      clear hL hbw
      by_cases hk : k < n
      · obtain ⟨x, hx⟩ : ∃ x, us[k]? = some x := ⟨_, List.getElem?_eq_getElem (by rw [HST.out.1]; exact hk)⟩
        obtain ⟨b, o, rfl, hbl, -⟩ := HST.out.2 (by omega)
        obtain ⟨q0, q1, q2, q3, q4, hcl, hob⟩ := HST.out.below HBW.out b o k x (by omega) rfl hx
        obtain ⟨what, cl, obj, till, now⟩ := x
        simp only at q0 q1 q2 q3 q4 hcl hob
        have hbl2 : b < wr.heap.size := Nat.lt_of_lt_of_le hbl HBW.out.size
        clear hx
        go_upto_block 2 with fail
        obtain ⟨W1, hW1⟩ : ∃ W1, W1 = wr.alloc (.cells #[.int .i64 what, .int .i64 cl, .int .i64 obj, .int .i64 till, .int .i64 now] 89) := ⟨_, rfl⟩
        rw [← hW1]
        have hbw1 : Below wr.heap.size wr W1 := by rw [hW1]; exact (Below.refl _ _).alloc (Nat.le_refl _) _
        have HL1 := Lib.hid (HL.out.below hbw1)
        have HX1 : Hid (Has W1 wr.heap.size (.cells #[.int .i64 what, .int .i64 cl, .int .i64 obj, .int .i64 till, .int .i64 now] 89)) := by rw [hW1]; exact Has.new _ _
        have HBW1 := Lib.hid (HBW.out.trans (hbw1.mono HBW.out.size))
        have hs1 : W1.heap.size = wr.heap.size + 1 := by rw [hW1]; simp
        have x0 : W1.cell? ⟨wr.heap.size, 0, none⟩ = some (.int .i64 what) := HX1.out.cell 0
        have x1 : W1.cell? ⟨wr.heap.size, 1, none⟩ = some (.int .i64 cl) := HX1.out.cell 1
        have x2 : W1.cell? ⟨wr.heap.size, 2, none⟩ = some (.int .i64 obj) := HX1.out.cell 2
        have x3 : W1.cell? ⟨wr.heap.size, 3, none⟩ = some (.int .i64 till) := HX1.out.cell 3
        have x4 : W1.cell? ⟨wr.heap.size, 4, none⟩ = some (.int .i64 now) := HX1.out.cell 4
        have HS1 := Lib.hid hs1
        have HW1 : Hid (Ws w W1 wr.heap.size (.cells #[.int .i64 what, .int .i64 cl, .int .i64 obj, .int .i64 till, .int .i64 now] 89) l vs ss l vl sl) := Lib.hid ⟨HL1.out.t, HL1.out.r, HX1.out, HBW1.out, hlt0⟩
        have HGD := Lib.hid HL.out.g
        have hln : l.length < 1000 := by have := HL.out.g.ln; omega
        have hlv : vl.length < 1000 := by have := HL.out.g.lv; omega
        have hls : sl.length < 1000 := by have := HL.out.g.ls; omega
        clear hW1 hbw1 q0 q1 q2 q3 q4 hs1 HL1 HX1 HBW1 HL HBW HS1
        go_cut [7] (fun _ wx => ∃ (l2 : Pairs) (vs2 ss2 : List Int) (vl2 sl2 : List (Int × Int)), Ws w wx wr.heap.size (.cells #[.int .i64 what, .int .i64 cl, .int .i64 obj, .int .i64 till, .int .i64 now] 89) l2 vs2 ss2 l2 vl2 sl2 ∧ Good l2 vs2 ss2 vl2 sl2 (k + 1))
        case first =>
          by_cases w0 : what = 0
          · have wb0 : (what == 0) = true := (by simpa using w0); clear w0
            as_aux_lemma =>
              go_wp2_with fail
              have HS := Lib.hid HW1.out.drew.two
              refine last.wp_region_lastL (S := fun W => Has W wr.heap.size (.cells #[.int .i64 what, .int .i64 cl, .int .i64 obj, .int .i64 till, .int .i64 now] 89) ∧ Has W (w.heap.size + 5) (.cells #[.map (some (w.heap.size + 2)), .map (some (w.heap.size + 3)), .map (some (w.heap.size + 4))] 98)) (L := 1000) rfl rfl (by kernel_rfl) ?_
              refine last.wpAnyL_goL 0 34 (.pointer (some ⟨w.heap.size + 1, 0, none⟩)) rfl rfl (by kernel_rfl) (by kernel_rfl) (by kernel_rfl) (by kernel_rfl) (fun _ _ _ h => h) HS.out (by rfl) (fun W hW => by go_simp) ?_
              dsimp only [List.set_cons_succ, List.set_cons_zero]
              refine last.wpAnyL_goL 1 35 (.pointer (some ⟨wr.heap.size, 1, none⟩)) rfl rfl (by kernel_rfl) (by kernel_rfl) (by kernel_rfl) (by kernel_rfl) (fun _ _ _ h => h) HS.out (by rfl) (fun W hW => by go_simp) ?_
              dsimp only [List.set_cons_succ, List.set_cons_zero]
              refine last.wpAnyL_goL 2 36 (.int .i64 cl) rfl rfl (by kernel_rfl) (by kernel_rfl) (by kernel_rfl) (by kernel_rfl) (fun _ _ _ h => h) HS.out (by rfl) (fun W hW => by have hW1 : W.cell? ⟨wr.heap.size, 1, none⟩ = some (.int .i64 cl) := hW.1.cell 1; go_simp) ?_
              dsimp only [List.set_cons_succ, List.set_cons_zero]
              refine last.wpAnyL_goL 3 37 (.pointer (some ⟨wr.heap.size, 2, none⟩)) rfl rfl (by kernel_rfl) (by kernel_rfl) (by kernel_rfl) (by kernel_rfl) (fun _ _ _ h => h) HS.out (by rfl) (fun W hW => by go_simp) ?_
              dsimp only [List.set_cons_succ, List.set_cons_zero]
              refine last.wpAnyL_goL 4 38 (.int .i64 obj) rfl rfl (by kernel_rfl) (by kernel_rfl) (by kernel_rfl) (by kernel_rfl) (fun _ _ _ h => h) HS.out (by rfl) (fun W hW => by have hW1 : W.cell? ⟨wr.heap.size, 2, none⟩ = some (.int .i64 obj) := hW.1.cell 2; go_simp) ?_
              dsimp only [List.set_cons_succ, List.set_cons_zero]
              refine last.wpAnyL_goL 5 39 (.pointer (some ⟨wr.heap.size, 3, none⟩)) rfl rfl (by kernel_rfl) (by kernel_rfl) (by kernel_rfl) (by kernel_rfl) (fun _ _ _ h => h) HS.out (by rfl) (fun W hW => by go_simp) ?_
              dsimp only [List.set_cons_succ, List.set_cons_zero]
              refine last.wpAnyL_goL 6 40 (.int .i64 till) rfl rfl (by kernel_rfl) (by kernel_rfl) (by kernel_rfl) (by kernel_rfl) (fun _ _ _ h => h) HS.out (by rfl) (fun W hW => by have hW1 : W.cell? ⟨wr.heap.size, 3, none⟩ = some (.int .i64 till) := hW.1.cell 3; go_simp) ?_
              dsimp only [List.set_cons_succ, List.set_cons_zero]
              refine last.wpAnyL_goL 8 42 (.pointer (some ⟨w.heap.size + 5, 0, none⟩)) rfl rfl (by kernel_rfl) (by kernel_rfl) (by kernel_rfl) (by kernel_rfl) (fun _ _ _ h => h) HS.out (by rfl) (fun W hW => by go_simp) ?_
              dsimp only [List.set_cons_succ, List.set_cons_zero]
              refine last.wpAnyL_goL 9 43 (.pointer (some ⟨wr.heap.size, 1, none⟩)) rfl rfl (by kernel_rfl) (by kernel_rfl) (by kernel_rfl) (by kernel_rfl) (fun _ _ _ h => h) HS.out (by rfl) (fun W hW => by go_simp) ?_
              dsimp only [List.set_cons_succ, List.set_cons_zero]
              refine last.wpAnyL_goL 10 44 (.int .i64 cl) rfl rfl (by kernel_rfl) (by kernel_rfl) (by kernel_rfl) (by kernel_rfl) (fun _ _ _ h => h) HS.out (by rfl) (fun W hW => by have hW1 : W.cell? ⟨wr.heap.size, 1, none⟩ = some (.int .i64 cl) := hW.1.cell 1; go_simp) ?_
              dsimp only [List.set_cons_succ, List.set_cons_zero]
              refine last.wpAnyL_goL 11 45 (.pointer (some ⟨wr.heap.size, 2, none⟩)) rfl rfl (by kernel_rfl) (by kernel_rfl) (by kernel_rfl) (by kernel_rfl) (fun _ _ _ h => h) HS.out (by rfl) (fun W hW => by go_simp) ?_
              dsimp only [List.set_cons_succ, List.set_cons_zero]
              refine last.wpAnyL_goL 12 46 (.int .i64 obj) rfl rfl (by kernel_rfl) (by kernel_rfl) (by kernel_rfl) (by kernel_rfl) (fun _ _ _ h => h) HS.out (by rfl) (fun W hW => by have hW1 : W.cell? ⟨wr.heap.size, 2, none⟩ = some (.int .i64 obj) := hW.1.cell 2; go_simp) ?_
              dsimp only [List.set_cons_succ, List.set_cons_zero]
              refine last.wpAnyL_goL 13 47 (.pointer (some ⟨wr.heap.size, 3, none⟩)) rfl rfl (by kernel_rfl) (by kernel_rfl) (by kernel_rfl) (by kernel_rfl) (fun _ _ _ h => h) HS.out (by rfl) (fun W hW => by go_simp) ?_
              dsimp only [List.set_cons_succ, List.set_cons_zero]
              refine last.wpAnyL_goL 14 48 (.int .i64 till) rfl rfl (by kernel_rfl) (by kernel_rfl) (by kernel_rfl) (by kernel_rfl) (fun _ _ _ h => h) HS.out (by rfl) (fun W hW => by have hW1 : W.cell? ⟨wr.heap.size, 3, none⟩ = some (.int .i64 till) := hW.1.cell 3; go_simp) ?_
              dsimp only [List.set_cons_succ, List.set_cons_zero]
              refine last.wpAnyL_oneL (i := 7) (by kernel_rfl) (by simp only [List.getElem?_toArray, List.getElem?_cons_succ, List.getElem?_cons_zero]; exact rfl) fun K hK => ?_
              refine (if_pos (by rfl)).mpr ?_
              go_simp
              refine (Object_both _ _ l vs ss cl obj till _ HW1.out.drew.t hln hcl hob).mono ?_
              rintro e W2 ⟨rfl, hT2, hg2⟩
              have HW2 := Lib.hid (HW1.out.drew.tableG hg2 hT2)
              clear hT2 hg2
              have HS := Lib.hid HW2.out.two
              refine hK.out _ _ (fun _ => HS.out) ?_
              clear hK K
              refine last.wpAnyL_oneL (i := 15) (by kernel_rfl) (by simp only [List.getElem?_toArray, List.getElem?_cons_succ, List.getElem?_cons_zero]; exact rfl) fun K hK => ?_
              refine (if_pos (by rfl)).mpr ?_
              go_simp
              refine (RObject_both _ _ _ _ l vl sl cl obj till _ HW2.out.r hln hcl hob).mono ?_
              rintro e W3 ⟨rfl, hT3, hg3⟩
              have HW3 := Lib.hid (HW2.out.refG1 hg3 hT3)
              clear hT3 hg3
              have HS := Lib.hid HW3.out.two
              refine hK.out _ _ (fun _ => HS.out) ?_
              clear hK K
              refine last.wpAnyL_oneL (i := 16) (by kernel_rfl) (by simp only [List.getElem?_toArray, List.getElem?_cons_succ, List.getElem?_cons_zero]; exact rfl) fun K hK => ?_
              refine (if_pos (by rfl)).mpr ?_
              go_simp
              refine (bare_any _ _ _ (HG.out.below HW3.out.b)).mono ?_
              rintro e W4 ⟨he, hb4⟩
              rw [beq_self_eq_true] at he
              subst he
              have HW4 := Lib.hid (HW3.out.below hb4)
              clear hb4
              have HS := Lib.hid HW4.out.two
              refine hK.out _ _ (fun _ => HS.out) ?_
              clear hK K
              refine last.wpAnyL_goL 17 51 (.bool false) rfl rfl (by kernel_rfl) (by kernel_rfl) (by kernel_rfl) (by kernel_rfl) (fun _ _ _ h => h) HS.out (by rfl) (fun W hW => by go_simp) ?_
              dsimp only [List.set_cons_succ, List.set_cons_zero]
              refine last.wpAnyL_done (by kernel_rfl) ?_ _
              go_wp2_with fail
              go_meet
              case rel => exact ⟨_, _, _, _, _, HW4.out, HGD.out.lput cl obj till⟩
          · have wb0 : (what == 0) = false := by simpa using w0
            by_cases w1 : what = 1
            · have wb1 : (what == 1) = true := (by simpa using w1); clear w1
              as_aux_lemma =>
                go_wp2_with fail
                have HS := Lib.hid HW1.out.drew.two
                refine last.wp_region_lastL (S := fun W => Has W wr.heap.size (.cells #[.int .i64 what, .int .i64 cl, .int .i64 obj, .int .i64 till, .int .i64 now] 89) ∧ Has W (w.heap.size + 5) (.cells #[.map (some (w.heap.size + 2)), .map (some (w.heap.size + 3)), .map (some (w.heap.size + 4))] 98)) (L := 1000) rfl rfl (by kernel_rfl) ?_
                refine last.wpAnyL_goL 0 54 (.pointer (some ⟨w.heap.size + 1, 0, none⟩)) rfl rfl (by kernel_rfl) (by kernel_rfl) (by kernel_rfl) (by kernel_rfl) (fun _ _ _ h => h) HS.out (by rfl) (fun W hW => by go_simp) ?_
                dsimp only [List.set_cons_succ, List.set_cons_zero]
                refine last.wpAnyL_goL 1 55 (.pointer (some ⟨wr.heap.size, 1, none⟩)) rfl rfl (by kernel_rfl) (by kernel_rfl) (by kernel_rfl) (by kernel_rfl) (fun _ _ _ h => h) HS.out (by rfl) (fun W hW => by go_simp) ?_
                dsimp only [List.set_cons_succ, List.set_cons_zero]
                refine last.wpAnyL_goL 2 56 (.int .i64 cl) rfl rfl (by kernel_rfl) (by kernel_rfl) (by kernel_rfl) (by kernel_rfl) (fun _ _ _ h => h) HS.out (by rfl) (fun W hW => by have hW1 : W.cell? ⟨wr.heap.size, 1, none⟩ = some (.int .i64 cl) := hW.1.cell 1; go_simp) ?_
                dsimp only [List.set_cons_succ, List.set_cons_zero]
                refine last.wpAnyL_goL 3 57 (.pointer (some ⟨wr.heap.size, 3, none⟩)) rfl rfl (by kernel_rfl) (by kernel_rfl) (by kernel_rfl) (by kernel_rfl) (fun _ _ _ h => h) HS.out (by rfl) (fun W hW => by go_simp) ?_
                dsimp only [List.set_cons_succ, List.set_cons_zero]
                refine last.wpAnyL_goL 4 58 (.int .i64 till) rfl rfl (by kernel_rfl) (by kernel_rfl) (by kernel_rfl) (by kernel_rfl) (fun _ _ _ h => h) HS.out (by rfl) (fun W hW => by have hW1 : W.cell? ⟨wr.heap.size, 3, none⟩ = some (.int .i64 till) := hW.1.cell 3; go_simp) ?_
                dsimp only [List.set_cons_succ, List.set_cons_zero]
                refine last.wpAnyL_goL 6 60 (.pointer (some ⟨w.heap.size + 5, 0, none⟩)) rfl rfl (by kernel_rfl) (by kernel_rfl) (by kernel_rfl) (by kernel_rfl) (fun _ _ _ h => h) HS.out (by rfl) (fun W hW => by go_simp) ?_
                dsimp only [List.set_cons_succ, List.set_cons_zero]
                refine last.wpAnyL_goL 7 61 (.pointer (some ⟨wr.heap.size, 1, none⟩)) rfl rfl (by kernel_rfl) (by kernel_rfl) (by kernel_rfl) (by kernel_rfl) (fun _ _ _ h => h) HS.out (by rfl) (fun W hW => by go_simp) ?_
                dsimp only [List.set_cons_succ, List.set_cons_zero]
                refine last.wpAnyL_goL 8 62 (.int .i64 cl) rfl rfl (by kernel_rfl) (by kernel_rfl) (by kernel_rfl) (by kernel_rfl) (fun _ _ _ h => h) HS.out (by rfl) (fun W hW => by have hW1 : W.cell? ⟨wr.heap.size, 1, none⟩ = some (.int .i64 cl) := hW.1.cell 1; go_simp) ?_
                dsimp only [List.set_cons_succ, List.set_cons_zero]
                refine last.wpAnyL_goL 9 63 (.pointer (some ⟨wr.heap.size, 3, none⟩)) rfl rfl (by kernel_rfl) (by kernel_rfl) (by kernel_rfl) (by kernel_rfl) (fun _ _ _ h => h) HS.out (by rfl) (fun W hW => by go_simp) ?_
                dsimp only [List.set_cons_succ, List.set_cons_zero]
                refine last.wpAnyL_goL 10 64 (.int .i64 till) rfl rfl (by kernel_rfl) (by kernel_rfl) (by kernel_rfl) (by kernel_rfl) (fun _ _ _ h => h) HS.out (by rfl) (fun W hW => by have hW1 : W.cell? ⟨wr.heap.size, 3, none⟩ = some (.int .i64 till) := hW.1.cell 3; go_simp) ?_
                dsimp only [List.set_cons_succ, List.set_cons_zero]
                refine last.wpAnyL_oneL (i := 5) (by kernel_rfl) (by simp only [List.getElem?_toArray, List.getElem?_cons_succ, List.getElem?_cons_zero]; exact rfl) fun K hK => ?_
                refine (if_pos (by rfl)).mpr ?_
                go_simp
                refine (Volume_both _ _ l vs ss cl till _ HW1.out.drew.t).mono ?_
                rintro e W2 ⟨rfl, hT2, hg2⟩
                have HW2 := Lib.hid (HW1.out.drew.tableT hg2 hT2)
                clear hT2 hg2
                have HS := Lib.hid HW2.out.two
                refine hK.out _ _ (fun _ => HS.out) ?_
                clear hK K
                refine last.wpAnyL_oneL (i := 11) (by kernel_rfl) (by simp only [List.getElem?_toArray, List.getElem?_cons_succ, List.getElem?_cons_zero]; exact rfl) fun K hK => ?_
                refine (if_pos (by rfl)).mpr ?_
                go_simp
                refine (RVolume_both _ _ _ _ l vl sl cl till _ HW2.out.r hlv hcl).mono ?_
                rintro e W3 ⟨rfl, hT3, hg3⟩
                have HW3 := Lib.hid (HW2.out.refG2 hg3 hT3)
                clear hT3 hg3
                have HS := Lib.hid HW3.out.two
                refine hK.out _ _ (fun _ => HS.out) ?_
                clear hK K
                refine last.wpAnyL_oneL (i := 12) (by kernel_rfl) (by simp only [List.getElem?_toArray, List.getElem?_cons_succ, List.getElem?_cons_zero]; exact rfl) fun K hK => ?_
                refine (if_pos (by rfl)).mpr ?_
                go_simp
                refine (bare_any _ _ _ (HG.out.below HW3.out.b)).mono ?_
                rintro e W4 ⟨he, hb4⟩
                rw [beq_self_eq_true] at he
                subst he
                have HW4 := Lib.hid (HW3.out.below hb4)
                clear hb4
                have HS := Lib.hid HW4.out.two
                refine hK.out _ _ (fun _ => HS.out) ?_
                clear hK K
                refine last.wpAnyL_goL 13 67 (.bool false) rfl rfl (by kernel_rfl) (by kernel_rfl) (by kernel_rfl) (by kernel_rfl) (fun _ _ _ h => h) HS.out (by rfl) (fun W hW => by go_simp) ?_
                dsimp only [List.set_cons_succ, List.set_cons_zero]
                refine last.wpAnyL_done (by kernel_rfl) ?_ _
                go_wp2_with fail
                go_meet
                case rel => exact ⟨_, _, _, _, _, HW4.out, HGD.out.vput cl till⟩
            · have wb1 : (what == 1) = false := by simpa using w1
              by_cases w2 : what = 2
              · have wb2 : (what == 2) = true := (by simpa using w2); clear w2
                as_aux_lemma =>
                  go_wp2_with fail
                  refine (TDrop_any _ _ l vs ss cl obj _ HW1.out.t hcl hob).mono ?_
                  rintro e W2 ⟨rfl, hT2, hg2⟩
                  have HW2 := Lib.hid (HW1.out.tableG hg2 hT2)
                  clear hT2 hg2
                  go_wp2_with fail
                  have HS := Lib.hid HW2.out.drew.two
                  refine last.wp_region_lastL (S := fun W => Has W wr.heap.size (.cells #[.int .i64 what, .int .i64 cl, .int .i64 obj, .int .i64 till, .int .i64 now] 89) ∧ Has W (w.heap.size + 5) (.cells #[.map (some (w.heap.size + 2)), .map (some (w.heap.size + 3)), .map (some (w.heap.size + 4))] 98)) (L := 1000) rfl rfl (by kernel_rfl) ?_
                  refine last.wpAnyL_goL 0 76 (.pointer (some ⟨w.heap.size + 5, 0, none⟩)) rfl rfl (by kernel_rfl) (by kernel_rfl) (by kernel_rfl) (by kernel_rfl) (fun _ _ _ h => h) HS.out (by rfl) (fun W hW => by go_simp) ?_
                  dsimp only [List.set_cons_succ, List.set_cons_zero]
                  refine last.wpAnyL_goL 1 77 (.pointer (some ⟨w.heap.size + 5, 0, none⟩)) rfl rfl (by kernel_rfl) (by kernel_rfl) (by kernel_rfl) (by kernel_rfl) (fun _ _ _ h => h) HS.out (by rfl) (fun W hW => by go_simp) ?_
                  dsimp only [List.set_cons_succ, List.set_cons_zero]
                  refine last.wpAnyL_goL 2 78 (.pointer (some ⟨w.heap.size + 5, 0, none⟩)) rfl rfl (by kernel_rfl) (by kernel_rfl) (by kernel_rfl) (by kernel_rfl) (fun _ _ _ h => h) HS.out (by rfl) (fun W hW => by go_simp) ?_
                  dsimp only [List.set_cons_succ, List.set_cons_zero]
                  refine last.wpAnyL_goL 3 79 (.map (some (w.heap.size + 2))) rfl rfl (by kernel_rfl) (by kernel_rfl) (by kernel_rfl) (by kernel_rfl) (fun _ _ _ h => h) HS.out (by rfl) (fun W hW => by have hW1 : W.cell? ⟨w.heap.size + 5, 0, none⟩ = some (.map (some (w.heap.size + 2))) := hW.2.cell 0; go_simp) ?_
                  dsimp only [List.set_cons_succ, List.set_cons_zero]
                  refine last.wpAnyL_goL 4 80 (.pointer (some ⟨wr.heap.size, 1, none⟩)) rfl rfl (by kernel_rfl) (by kernel_rfl) (by kernel_rfl) (by kernel_rfl) (fun _ _ _ h => h) HS.out (by rfl) (fun W hW => by go_simp) ?_
                  dsimp only [List.set_cons_succ, List.set_cons_zero]
                  refine last.wpAnyL_goL 5 81 (.int .i64 cl) rfl rfl (by kernel_rfl) (by kernel_rfl) (by kernel_rfl) (by kernel_rfl) (fun _ _ _ h => h) HS.out (by rfl) (fun W hW => by have hW1 : W.cell? ⟨wr.heap.size, 1, none⟩ = some (.int .i64 cl) := hW.1.cell 1; go_simp) ?_
                  dsimp only [List.set_cons_succ, List.set_cons_zero]
                  refine last.wpAnyL_goL 6 82 (.pointer (some ⟨wr.heap.size, 2, none⟩)) rfl rfl (by kernel_rfl) (by kernel_rfl) (by kernel_rfl) (by kernel_rfl) (fun _ _ _ h => h) HS.out (by rfl) (fun W hW => by go_simp) ?_
                  dsimp only [List.set_cons_succ, List.set_cons_zero]
                  refine last.wpAnyL_goL 7 83 (.int .i64 obj) rfl rfl (by kernel_rfl) (by kernel_rfl) (by kernel_rfl) (by kernel_rfl) (fun _ _ _ h => h) HS.out (by rfl) (fun W hW => by have hW1 : W.cell? ⟨wr.heap.size, 2, none⟩ = some (.int .i64 obj) := hW.1.cell 2; go_simp) ?_
                  dsimp only [List.set_cons_succ, List.set_cons_zero]
                  refine last.wpAnyL_goL 8 84 (.agg #[.int .i64 cl, .int .i64 obj]) rfl rfl (by kernel_rfl) (by kernel_rfl) (by kernel_rfl) (by kernel_rfl) (fun _ _ _ h => h) HS.out (by rfl) (fun W hW => by go_simp) ?_
                  dsimp only [List.set_cons_succ, List.set_cons_zero]
                  refine last.wpAnyL_oneL (i := 9) (by kernel_rfl) (by simp only [List.getElem?_toArray, List.getElem?_cons_succ, List.getElem?_cons_zero]; exact rfl) fun K hK => ?_
                  refine (if_pos (by rfl)).mpr ?_
                  refine wp_mdrop refS (.tmp 79) (.tmp 84) rfl rfl HW2.out.drew.r.a (k := (cl, obj)) ⟨hcl, hob⟩ rfl ?_
                  intro W3 hm3 hg3
                  have HW3 := Lib.hid (HW2.out.drew.refG1 hg3 (HW2.out.drew.r.grown1 hg3 hm3))
                  clear hm3 hg3
                  refine hK.out _ _ (fun _ => HW3.out.two) ?_
                  clear hK K
                  refine last.wpAnyL_done (by kernel_rfl) ?_ _
                  go_wp2_with fail
                  go_meet
                  case rel => exact ⟨_, _, _, _, _, HW3.out, HGD.out.del (cl, obj)⟩
              · have wb2 : (what == 2) = false := by simpa using w2
                by_cases w3 : what = 3
                · have wb3 : (what == 3) = true := (by simpa using w3); clear w3
                  as_aux_lemma =>
                    go_wp2_with fail
                    have HS := Lib.hid HW1.out.drew.two
                    refine last.wp_region_lastL (S := fun W => Has W wr.heap.size (.cells #[.int .i64 what, .int .i64 cl, .int .i64 obj, .int .i64 till, .int .i64 now] 89) ∧ Has W (w.heap.size + 5) (.cells #[.map (some (w.heap.size + 2)), .map (some (w.heap.size + 3)), .map (some (w.heap.size + 4))] 98)) (L := 1000) rfl rfl (by kernel_rfl) ?_
                    refine last.wpAnyL_goL 0 87 (.pointer (some ⟨w.heap.size + 1, 0, none⟩)) rfl rfl (by kernel_rfl) (by kernel_rfl) (by kernel_rfl) (by kernel_rfl) (fun _ _ _ h => h) HS.out (by rfl) (fun W hW => by go_simp) ?_
                    dsimp only [List.set_cons_succ, List.set_cons_zero]
                    refine last.wpAnyL_goL 1 88 (.pointer (some ⟨wr.heap.size, 1, none⟩)) rfl rfl (by kernel_rfl) (by kernel_rfl) (by kernel_rfl) (by kernel_rfl) (fun _ _ _ h => h) HS.out (by rfl) (fun W hW => by go_simp) ?_
                    dsimp only [List.set_cons_succ, List.set_cons_zero]
                    refine last.wpAnyL_goL 2 89 (.int .i64 cl) rfl rfl (by kernel_rfl) (by kernel_rfl) (by kernel_rfl) (by kernel_rfl) (fun _ _ _ h => h) HS.out (by rfl) (fun W hW => by have hW1 : W.cell? ⟨wr.heap.size, 1, none⟩ = some (.int .i64 cl) := hW.1.cell 1; go_simp) ?_
                    dsimp only [List.set_cons_succ, List.set_cons_zero]
                    refine last.wpAnyL_goL 4 91 (.pointer (some ⟨w.heap.size + 5, 0, none⟩)) rfl rfl (by kernel_rfl) (by kernel_rfl) (by kernel_rfl) (by kernel_rfl) (fun _ _ _ h => h) HS.out (by rfl) (fun W hW => by go_simp) ?_
                    dsimp only [List.set_cons_succ, List.set_cons_zero]
                    refine last.wpAnyL_goL 5 92 (.pointer (some ⟨wr.heap.size, 1, none⟩)) rfl rfl (by kernel_rfl) (by kernel_rfl) (by kernel_rfl) (by kernel_rfl) (fun _ _ _ h => h) HS.out (by rfl) (fun W hW => by go_simp) ?_
                    dsimp only [List.set_cons_succ, List.set_cons_zero]
                    refine last.wpAnyL_goL 6 93 (.int .i64 cl) rfl rfl (by kernel_rfl) (by kernel_rfl) (by kernel_rfl) (by kernel_rfl) (fun _ _ _ h => h) HS.out (by rfl) (fun W hW => by have hW1 : W.cell? ⟨wr.heap.size, 1, none⟩ = some (.int .i64 cl) := hW.1.cell 1; go_simp) ?_
                    dsimp only [List.set_cons_succ, List.set_cons_zero]
                    refine last.wpAnyL_oneL (i := 3) (by kernel_rfl) (by simp only [List.getElem?_toArray, List.getElem?_cons_succ, List.getElem?_cons_zero]; exact rfl) fun K hK => ?_
                    refine (if_pos (by rfl)).mpr ?_
                    go_simp
                    refine (Flush_both _ _ l vs ss cl _ HW1.out.drew.t).mono ?_
                    rintro e W2 ⟨rfl, hT2, hg2⟩
                    have HW2 := Lib.hid (HW1.out.drew.tableF hg2 hT2)
                    clear hT2 hg2
                    have HS := Lib.hid HW2.out.two
                    refine hK.out _ _ (fun _ => HS.out) ?_
                    clear hK K
                    refine last.wpAnyL_oneL (i := 7) (by kernel_rfl) (by simp only [List.getElem?_toArray, List.getElem?_cons_succ, List.getElem?_cons_zero]; exact rfl) fun K hK => ?_
                    refine (if_pos (by rfl)).mpr ?_
                    go_simp
                    refine (RFlush_both _ _ _ _ l vl sl cl _ HW2.out.r hcl HGD.out.ob hls).mono ?_
                    rintro e W3 ⟨rfl, hT3, hg3⟩
                    have HW3 := Lib.hid (HW2.out.refT hg3 hT3)
                    clear hT3 hg3
                    have HS := Lib.hid HW3.out.two
                    refine hK.out _ _ (fun _ => HS.out) ?_
                    clear hK K
                    refine last.wpAnyL_oneL (i := 8) (by kernel_rfl) (by simp only [List.getElem?_toArray, List.getElem?_cons_succ, List.getElem?_cons_zero]; exact rfl) fun K hK => ?_
                    refine (if_pos (by rfl)).mpr ?_
                    go_simp
                    refine (bare_any _ _ _ (HG.out.below HW3.out.b)).mono ?_
                    rintro e W4 ⟨he, hb4⟩
                    rw [beq_self_eq_true] at he
                    subst he
                    have HW4 := Lib.hid (HW3.out.below hb4)
                    clear hb4
                    have HS := Lib.hid HW4.out.two
                    refine hK.out _ _ (fun _ => HS.out) ?_
                    clear hK K
                    refine last.wpAnyL_goL 9 96 (.bool false) rfl rfl (by kernel_rfl) (by kernel_rfl) (by kernel_rfl) (by kernel_rfl) (fun _ _ _ h => h) HS.out (by rfl) (fun W hW => by go_simp) ?_
                    dsimp only [List.set_cons_succ, List.set_cons_zero]
                    refine last.wpAnyL_done (by kernel_rfl) ?_ _
                    go_wp2_with fail
                    go_meet
                    case rel => exact ⟨_, _, _, _, _, HW4.out, HGD.out.lflush cl⟩
                · have wb3 : (what == 3) = false := by simpa using w3
                  go_wp2_with fail
                  go_meet
                  case rel => exact ⟨_, _, _, _, _, HW1.out, HGD.out.later⟩
        case rest =>
          obtain ⟨l2, vs2, ss2, vl2, sl2, hW2, hG2⟩ := hcut
          have HW2 := Lib.hid hW2
          have HGD2 := Lib.hid hG2
          have y1 : wc.cell? ⟨wr.heap.size, 1, none⟩ = some (.int .i64 cl) := hW2.x.cell 1
          have y4 : wc.cell? ⟨wr.heap.size, 4, none⟩ = some (.int .i64 now) := hW2.x.cell 4
          have hln2 : l2.length < 1000 := by have := hG2.ln; omega
          clear hW2 hG2 HGD HW1 x0 x1 x2 x3 x4 hln hlv hls
          obtain ⟨q, hq⟩ : ∃ q, q = code (inR cl 0 3) := ⟨_, rfl⟩
          have HQ := Lib.hid hq
          clear hq
          go_upto_region 25 with fail
          go_cut [104] (fun t wx => wx = wc ∧ t = .bool (!inR cl 0 3))
          case first =>
            by_cases c0 : cl < 0
            · have d0 : decide (cl < 0) = true := decide_eq_true c0
              have HI : Hid (inR cl 0 3 = false) := Lib.hid (by rw [Bool.eq_false_iff]; intro h; rw [inR_iff] at h; omega)
              clear c0
              go_wp2_with fail
              go_meet
              case rel => exact ⟨rfl, by rw [HI.out]; rfl⟩
            · have d0 : decide (cl < 0) = false := decide_eq_false c0
              by_cases c1 : 4 ≤ cl
              · have d1 : decide (4 ≤ cl) = true := decide_eq_true c1
                have HI : Hid (inR cl 0 3 = false) := Lib.hid (by rw [Bool.eq_false_iff]; intro h; rw [inR_iff] at h; omega)
                clear c0 c1
                go_wp2_with fail
                go_meet
                case rel => exact ⟨rfl, by rw [HI.out]; rfl⟩
              · have d1 : decide (4 ≤ cl) = false := decide_eq_false c1
                have HI : Hid (inR cl 0 3 = true) := Lib.hid (inR_iff.2 (by omega))
                clear c0 c1
                go_wp2_with fail
                go_meet
                case rel => exact ⟨rfl, by rw [HI.out]; rfl⟩
          case rest =>
            as_aux_lemma =>
              obtain ⟨hwx, rfl⟩ := hcut
              subst hwx
              go_upto_if 104 with fail
              go_cut [7] (fun e wx => wx = wc ∧ e = .int .i64 q)
              case first =>
                cases hi : inR cl 0 3 with
                | true =>
                  have HQ0 : Hid (q = 0) := Lib.hid (by rw [HQ.out, hi]; rfl)
                  clear hi
                  go_wp2_with fail
                  go_meet
                  case rel => exact ⟨rfl, by rw [HQ0.out]⟩
                | false =>
                  have HQ0 : Hid (q = 2) := Lib.hid (by rw [HQ.out, hi]; rfl)
                  clear hi
                  go_wp2_with fail
                  go_meet
                  case rel => exact ⟨rfl, by rw [HQ0.out]⟩
              case rest =>
                as_aux_lemma =>
                  obtain ⟨hwx, rfl⟩ := hcut
                  subst hwx
                  obtain ⟨xv, hxv⟩ : ∃ xv, xv = (seek cl vl2).getD 0 := ⟨_, rfl⟩
                  obtain ⟨y, hy⟩ : ∃ y, y = (seek cl vl2).isSome := ⟨_, rfl⟩
                  have HXY : Hid (Value.tuple #[numS.ev ((seek cl vl2).getD numS.z), .bool (seek cl vl2).isSome] = .tuple #[.int .i64 xv, .bool y]) := Lib.hid (by rw [hxv, hy]; rfl)
                  obtain ⟨lv, hlv⟩ : ∃ lv, LV y (decide (now < xv)) (q == 0) (decide (now < 0)) = lv := ⟨_, rfl⟩
                  have HLV : Hid (LV (seek cl vl2).isSome (decide (now < (seek cl vl2).getD 0)) (code (inR cl 0 3) == 0) (decide (now < 0)) = lv) := Lib.hid (by rw [← hxv, ← hy, ← HQ.out]; exact hlv)
                  have HLW := Lib.hid hlv
                  clear hxv hy hlv
                  go_upto_region 27 with fail
                  have HS := Lib.hid (And.intro HW2.out.drew.two HW2.out.drew.r)
                  refine last.wp_region_lastL (S := fun W => (Has W wr.heap.size (.cells #[.int .i64 what, .int .i64 cl, .int .i64 obj, .int .i64 till, .int .i64 now] 89) ∧ Has W (w.heap.size + 5) (.cells #[.map (some (w.heap.size + 2)), .map (some (w.heap.size + 3)), .map (some (w.heap.size + 4))] 98)) ∧ RefAt W (w.heap.size + 5) (w.heap.size + 2) (w.heap.size + 3) (w.heap.size + 4) l2 vl2 sl2) (L := 1000) rfl rfl (by kernel_rfl) ?_
                  refine last.wpAnyL_goL 0 106 (.pointer (some ⟨w.heap.size + 5, 0, none⟩)) rfl rfl (by kernel_rfl) (by kernel_rfl) (by kernel_rfl) (by kernel_rfl) (fun _ _ _ h => h) HS.out (by rfl) (fun W hW => by go_simp) ?_
                  dsimp only [List.set_cons_succ, List.set_cons_zero]
                  refine last.wpAnyL_goL 1 107 (.pointer (some ⟨w.heap.size + 5, 0, none⟩)) rfl rfl (by kernel_rfl) (by kernel_rfl) (by kernel_rfl) (by kernel_rfl) (fun _ _ _ h => h) HS.out (by rfl) (fun W hW => by go_simp) ?_
                  dsimp only [List.set_cons_succ, List.set_cons_zero]
                  refine last.wpAnyL_goL 2 108 (.pointer (some ⟨w.heap.size + 5, 1, none⟩)) rfl rfl (by kernel_rfl) (by kernel_rfl) (by kernel_rfl) (by kernel_rfl) (fun _ _ _ h => h) HS.out (by rfl) (fun W hW => by go_simp) ?_
                  dsimp only [List.set_cons_succ, List.set_cons_zero]
                  refine last.wpAnyL_goL 3 109 (.map (some (w.heap.size + 3))) rfl rfl (by kernel_rfl) (by kernel_rfl) (by kernel_rfl) (by kernel_rfl) (fun _ _ _ h => h) HS.out (by rfl) (fun W hW => by have hW1 : W.cell? ⟨w.heap.size + 5, 1, none⟩ = some (.map (some (w.heap.size + 3))) := hW.1.2.cell 1; go_simp) ?_
                  dsimp only [List.set_cons_succ, List.set_cons_zero]
                  refine last.wpAnyL_goL 4 110 (.pointer (some ⟨wr.heap.size, 1, none⟩)) rfl rfl (by kernel_rfl) (by kernel_rfl) (by kernel_rfl) (by kernel_rfl) (fun _ _ _ h => h) HS.out (by rfl) (fun W hW => by go_simp) ?_
                  dsimp only [List.set_cons_succ, List.set_cons_zero]
                  refine last.wpAnyL_goL 5 111 (.int .i64 cl) rfl rfl (by kernel_rfl) (by kernel_rfl) (by kernel_rfl) (by kernel_rfl) (fun _ _ _ h => h) HS.out (by rfl) (fun W hW => by have hW1 : W.cell? ⟨wr.heap.size, 1, none⟩ = some (.int .i64 cl) := hW.1.1.cell 1; go_simp) ?_
                  dsimp only [List.set_cons_succ, List.set_cons_zero]
                  refine last.wpAnyL_goL 6 112 (.tuple #[.int .i64 xv, .bool y]) rfl rfl (by kernel_rfl) (by kernel_rfl) (by kernel_rfl) (by kernel_rfl) (fun _ _ _ h => h) HS.out (by rfl) (fun W hW => by rw [← HXY.out]; exact exec_mlook_ok numS (.tmp 109) (.tmp 111) rfl (by go_simp) hW.2.v (k := cl) hcl (by go_simp; rfl)) ?_
                  dsimp only [List.set_cons_succ, List.set_cons_zero]
                  refine last.wpAnyL_goL 7 105 (.tuple #[.int .i64 xv, .bool y]) rfl rfl (by kernel_rfl) (by kernel_rfl) (by kernel_rfl) (by kernel_rfl) (fun _ _ _ h => h) HS.out (by rfl) (fun W hW => by go_simp) ?_
                  dsimp only [List.set_cons_succ, List.set_cons_zero]
                  refine last.wpAnyL_goL 8 113 (.int .i64 xv) rfl rfl (by kernel_rfl) (by kernel_rfl) (by kernel_rfl) (by kernel_rfl) (fun _ _ _ h => h) HS.out (by rfl) (fun W hW => by go_simp) ?_
                  dsimp only [List.set_cons_succ, List.set_cons_zero]
                  refine last.wpAnyL_goL 9 114 (.bool y) rfl rfl (by kernel_rfl) (by kernel_rfl) (by kernel_rfl) (by kernel_rfl) (fun _ _ _ h => h) HS.out (by rfl) (fun W hW => by go_simp) ?_
                  dsimp only [List.set_cons_succ, List.set_cons_zero]
                  refine last.wpAnyL_goL 10 8 (.int .i64 xv) rfl rfl (by kernel_rfl) (by kernel_rfl) (by kernel_rfl) (by kernel_rfl) (fun _ _ _ h => h) HS.out (by rfl) (fun W hW => by go_simp) ?_
                  dsimp only [List.set_cons_succ, List.set_cons_zero]
                  refine last.wpAnyL_goL 11 9 (.bool y) rfl rfl (by kernel_rfl) (by kernel_rfl) (by kernel_rfl) (by kernel_rfl) (fun _ _ _ h => h) HS.out (by rfl) (fun W hW => by go_simp) ?_
                  dsimp only [List.set_cons_succ, List.set_cons_zero]
                  refine last.wpAnyL_done (by kernel_rfl) ?_ _
                  go_upto_region 28 with fail
                  have y4 : wc.drew.cell? ⟨wr.heap.size, 4, none⟩ = some (.int .i64 now) := y4
                  go_cut [10] (fun t wx => wx = wc.drew ∧ t = .bool lv)
                  case first =>
                    obtain ⟨d1, hd1⟩ : ∃ d1, decide (now < xv) = d1 := ⟨_, rfl⟩
                    obtain ⟨d0, hd0⟩ : ∃ d0, decide (now < 0) = d0 := ⟨_, rfl⟩
                    obtain ⟨q0, hq0⟩ : ∃ q0, (q == 0) = q0 := ⟨_, rfl⟩
                    have HE : Hid (LV y d1 q0 d0 = lv) := Lib.hid (by rw [← hd1, ← hd0, ← hq0]; exact HLW.out)
                    clear HLW HLV HXY
                    cases y <;> cases d1 <;> cases q0 <;> cases d0
                    all_goals
                      as_aux_lemma =>
                        go_wp2_with fail
                        go_meet
                        case rel => exact ⟨rfl, by rw [← HE.out]; rfl⟩
                  case rest =>
                    obtain ⟨hwx, rfl⟩ := hcut
                    obtain ⟨wd, hwd⟩ : ∃ wd, wd = wc := ⟨_, rfl⟩
                    subst hwx
                    have HW3 := Lib.hid HW2.out.drew
                    obtain ⟨sv, hsv⟩ : ∃ sv, sv = (seek cl sl2).getD 0 := ⟨_, rfl⟩
                    have HSV : Hid (numS.ev ((seek cl sl2).getD numS.z) = .int .i64 sv) := Lib.hid (by rw [hsv]; rfl)
                    have HSV' := Lib.hid hsv
                    have hsvv : (sv != sv) = false := by simp
                    have hlvv : (lv != lv) = false := by simp
                    have hnn : ((l2.length : Int) != (l2.length : Int)) = false := by simp
                    clear hsv y1 y4
                    have y1 : wc.drew.cell? ⟨wr.heap.size, 1, none⟩ = some (.int .i64 cl) := HW3.out.x.cell 1
                    as_aux_lemma =>
                      go_wp2_with fail
                      refine (Session_both _ _ l2 vs2 ss2 sl2 cl _ HW3.out.t HGD2.out.s).mono ?_
                      rw [← HSV'.out, ← HQ.out]
                      rintro e W3' ⟨rfl, rfl⟩
                      go_upto_region 30 with fail
                      have HS := Lib.hid (And.intro HW3.out.drew.two HW3.out.drew.r)
                      refine last.wp_region_lastL (S := fun W => (Has W wr.heap.size (.cells #[.int .i64 what, .int .i64 cl, .int .i64 obj, .int .i64 till, .int .i64 now] 89) ∧ Has W (w.heap.size + 5) (.cells #[.map (some (w.heap.size + 2)), .map (some (w.heap.size + 3)), .map (some (w.heap.size + 4))] 98)) ∧ RefAt W (w.heap.size + 5) (w.heap.size + 2) (w.heap.size + 3) (w.heap.size + 4) l2 vl2 sl2) (L := 1000) rfl rfl (by kernel_rfl) ?_
                      refine last.wpAnyL_goL 0 142 (errV q) rfl rfl (by kernel_rfl) (by kernel_rfl) (by kernel_rfl) (by kernel_rfl) (fun _ _ _ h => h) HS.out (by rfl) (fun W hW => by go_simp) ?_
                      dsimp only [List.set_cons_succ, List.set_cons_zero]
                      refine last.wpAnyL_goL 1 143 (.int .i64 q) rfl rfl (by kernel_rfl) (by kernel_rfl) (by kernel_rfl) (by kernel_rfl) (fun _ _ _ h => h) HS.out (by rfl) (fun W hW => by go_simp) ?_
                      dsimp only [List.set_cons_succ, List.set_cons_zero]
                      refine last.wpAnyL_oneL (i := 2) (by kernel_rfl) (by simp only [List.getElem?_toArray, List.getElem?_cons_succ, List.getElem?_cons_zero]; exact rfl) fun K hK => ?_
                      refine (if_pos (by rfl)).mpr ?_
                      go_simp
                      refine (bare_any _ _ _ (HG.out.below HW3.out.drew.b)).mono ?_
                      rintro e W4 ⟨he, hb4⟩
                      rw [beq_self_eq_true] at he
                      subst he
                      have HW4 := Lib.hid (HW3.out.drew.below hb4)
                      clear hb4
                      have HS := Lib.hid (And.intro HW4.out.two HW4.out.r)
                      refine hK.out _ _ (fun _ => HS.out) ?_
                      clear hK K
                      refine last.wpAnyL_goL 3 145 (.bool false) rfl rfl (by kernel_rfl) (by kernel_rfl) (by kernel_rfl) (by kernel_rfl) (fun _ _ _ h => h) HS.out (by rfl) (fun W hW => by go_simp) ?_
                      dsimp only [List.set_cons_succ, List.set_cons_zero]
                      refine last.wpAnyL_goL 4 146 (.bool false) rfl rfl (by kernel_rfl) (by kernel_rfl) (by kernel_rfl) (by kernel_rfl) (fun _ _ _ h => h) HS.out (by rfl) (fun W hW => by go_simp) ?_
                      dsimp only [List.set_cons_succ, List.set_cons_zero]
                      refine last.wpAnyL_goL 5 147 (.int .i64 sv) rfl rfl (by kernel_rfl) (by kernel_rfl) (by kernel_rfl) (by kernel_rfl) (fun _ _ _ h => h) HS.out (by rfl) (fun W hW => by go_simp) ?_
                      dsimp only [List.set_cons_succ, List.set_cons_zero]
                      refine last.wpAnyL_goL 6 148 (.pointer (some ⟨w.heap.size + 5, 0, none⟩)) rfl rfl (by kernel_rfl) (by kernel_rfl) (by kernel_rfl) (by kernel_rfl) (fun _ _ _ h => h) HS.out (by rfl) (fun W hW => by go_simp) ?_
                      dsimp only [List.set_cons_succ, List.set_cons_zero]
                      refine last.wpAnyL_goL 7 149 (.pointer (some ⟨w.heap.size + 5, 0, none⟩)) rfl rfl (by kernel_rfl) (by kernel_rfl) (by kernel_rfl) (by kernel_rfl) (fun _ _ _ h => h) HS.out (by rfl) (fun W hW => by go_simp) ?_
                      dsimp only [List.set_cons_succ, List.set_cons_zero]
                      refine last.wpAnyL_goL 8 150 (.pointer (some ⟨w.heap.size + 5, 2, none⟩)) rfl rfl (by kernel_rfl) (by kernel_rfl) (by kernel_rfl) (by kernel_rfl) (fun _ _ _ h => h) HS.out (by rfl) (fun W hW => by go_simp) ?_
                      dsimp only [List.set_cons_succ, List.set_cons_zero]
                      refine last.wpAnyL_goL 9 151 (.map (some (w.heap.size + 4))) rfl rfl (by kernel_rfl) (by kernel_rfl) (by kernel_rfl) (by kernel_rfl) (fun _ _ _ h => h) HS.out (by rfl) (fun W hW => by have hW1 : W.cell? ⟨w.heap.size + 5, 2, none⟩ = some (.map (some (w.heap.size + 4))) := hW.1.2.cell 2; go_simp) ?_
                      dsimp only [List.set_cons_succ, List.set_cons_zero]
                      refine last.wpAnyL_goL 10 152 (.pointer (some ⟨wr.heap.size, 1, none⟩)) rfl rfl (by kernel_rfl) (by kernel_rfl) (by kernel_rfl) (by kernel_rfl) (fun _ _ _ h => h) HS.out (by rfl) (fun W hW => by go_simp) ?_
                      dsimp only [List.set_cons_succ, List.set_cons_zero]
                      refine last.wpAnyL_goL 11 153 (.int .i64 cl) rfl rfl (by kernel_rfl) (by kernel_rfl) (by kernel_rfl) (by kernel_rfl) (fun _ _ _ h => h) HS.out (by rfl) (fun W hW => by have hW1 : W.cell? ⟨wr.heap.size, 1, none⟩ = some (.int .i64 cl) := hW.1.1.cell 1; go_simp) ?_
                      dsimp only [List.set_cons_succ, List.set_cons_zero]
                      refine last.wpAnyL_goL 12 154 (.int .i64 sv) rfl rfl (by kernel_rfl) (by kernel_rfl) (by kernel_rfl) (by kernel_rfl) (fun _ _ _ h => h) HS.out (by rfl) (fun W hW => by rw [← HSV.out]; exact exec_mlook numS (.tmp 151) (.tmp 153) rfl (by go_simp) hW.2.s (k := cl) hcl (by go_simp; rfl)) ?_
                      dsimp only [List.set_cons_succ, List.set_cons_zero]
                      refine last.wpAnyL_goL 13 155 (.bool false) rfl rfl (by kernel_rfl) (by kernel_rfl) (by kernel_rfl) (by kernel_rfl) (fun _ _ _ h => h) HS.out (by rfl) (fun W hW => by go_simp) ?_
                      dsimp only [List.set_cons_succ, List.set_cons_zero]
                      refine last.wpAnyL_goL 14 156 (.bool false) rfl rfl (by kernel_rfl) (by kernel_rfl) (by kernel_rfl) (by kernel_rfl) (fun _ _ _ h => h) HS.out (by rfl) (fun W hW => by go_simp) ?_
                      dsimp only [List.set_cons_succ, List.set_cons_zero]
                      refine last.wpAnyL_goL 15 157 (.bool false) rfl rfl (by kernel_rfl) (by kernel_rfl) (by kernel_rfl) (by kernel_rfl) (fun _ _ _ h => h) HS.out (by rfl) (fun W hW => by go_simp) ?_
                      dsimp only [List.set_cons_succ, List.set_cons_zero]
                      refine last.wpAnyL_goL 16 158 (.pointer (some ⟨w.heap.size + 1, 0, none⟩)) rfl rfl (by kernel_rfl) (by kernel_rfl) (by kernel_rfl) (by kernel_rfl) (fun _ _ _ h => h) HS.out (by rfl) (fun W hW => by go_simp) ?_
                      dsimp only [List.set_cons_succ, List.set_cons_zero]
                      refine last.wpAnyL_goL 17 159 (.pointer (some ⟨wr.heap.size, 1, none⟩)) rfl rfl (by kernel_rfl) (by kernel_rfl) (by kernel_rfl) (by kernel_rfl) (fun _ _ _ h => h) HS.out (by rfl) (fun W hW => by go_simp) ?_
                      dsimp only [List.set_cons_succ, List.set_cons_zero]
                      refine last.wpAnyL_goL 18 160 (.int .i64 cl) rfl rfl (by kernel_rfl) (by kernel_rfl) (by kernel_rfl) (by kernel_rfl) (fun _ _ _ h => h) HS.out (by rfl) (fun W hW => by have hW1 : W.cell? ⟨wr.heap.size, 1, none⟩ = some (.int .i64 cl) := hW.1.1.cell 1; go_simp) ?_
                      dsimp only [List.set_cons_succ, List.set_cons_zero]
                      refine last.wpAnyL_goL 19 161 (.pointer (some ⟨wr.heap.size, 4, none⟩)) rfl rfl (by kernel_rfl) (by kernel_rfl) (by kernel_rfl) (by kernel_rfl) (fun _ _ _ h => h) HS.out (by rfl) (fun W hW => by go_simp) ?_
                      dsimp only [List.set_cons_succ, List.set_cons_zero]
                      refine last.wpAnyL_goL 20 162 (.int .i64 now) rfl rfl (by kernel_rfl) (by kernel_rfl) (by kernel_rfl) (by kernel_rfl) (fun _ _ _ h => h) HS.out (by rfl) (fun W hW => by have hW1 : W.cell? ⟨wr.heap.size, 4, none⟩ = some (.int .i64 now) := hW.1.1.cell 4; go_simp) ?_
                      dsimp only [List.set_cons_succ, List.set_cons_zero]
                      refine last.wpAnyL_goL 22 164 (.bool lv) rfl rfl (by kernel_rfl) (by kernel_rfl) (by kernel_rfl) (by kernel_rfl) (fun _ _ _ h => h) HS.out (by rfl) (fun W hW => by go_simp) ?_
                      dsimp only [List.set_cons_succ, List.set_cons_zero]
                      refine last.wpAnyL_oneL (i := 21) (by kernel_rfl) (by simp only [List.getElem?_toArray, List.getElem?_cons_succ, List.getElem?_cons_zero]; exact rfl) fun K hK => ?_
                      refine (if_pos (by rfl)).mpr ?_
                      go_simp
                      refine (Leans_both _ _ l2 vs2 ss2 vl2 cl now _ HW4.out.t HGD2.out.v).mono ?_
                      rw [HLV.out]
                      rintro e W4' ⟨rfl, rfl⟩
                      refine hK.out _ _ (fun _ => HS.out) ?_
                      clear hK K
                      refine last.wpAnyL_goL 23 165 (.bool false) rfl rfl (by kernel_rfl) (by kernel_rfl) (by kernel_rfl) (by kernel_rfl) (fun _ _ _ h => h) HS.out (by rfl) (fun W hW => by go_simp) ?_
                      dsimp only [List.set_cons_succ, List.set_cons_zero]
                      refine last.wpAnyL_goL 24 166 (.bool false) rfl rfl (by kernel_rfl) (by kernel_rfl) (by kernel_rfl) (by kernel_rfl) (fun _ _ _ h => h) HS.out (by rfl) (fun W hW => by go_simp) ?_
                      dsimp only [List.set_cons_succ, List.set_cons_zero]
                      refine last.wpAnyL_goL 25 167 (.bool false) rfl rfl (by kernel_rfl) (by kernel_rfl) (by kernel_rfl) (by kernel_rfl) (fun _ _ _ h => h) HS.out (by rfl) (fun W hW => by go_simp) ?_
                      dsimp only [List.set_cons_succ, List.set_cons_zero]
                      refine last.wpAnyL_goL 26 168 (.pointer (some ⟨w.heap.size + 1, 0, none⟩)) rfl rfl (by kernel_rfl) (by kernel_rfl) (by kernel_rfl) (by kernel_rfl) (fun _ _ _ h => h) HS.out (by rfl) (fun W hW => by go_simp) ?_
                      dsimp only [List.set_cons_succ, List.set_cons_zero]
                      refine last.wpAnyL_goL 27 169 (.pointer (some ⟨wr.heap.size, 2, none⟩)) rfl rfl (by kernel_rfl) (by kernel_rfl) (by kernel_rfl) (by kernel_rfl) (fun _ _ _ h => h) HS.out (by rfl) (fun W hW => by go_simp) ?_
                      dsimp only [List.set_cons_succ, List.set_cons_zero]
                      refine last.wpAnyL_goL 28 170 (.int .i64 obj) rfl rfl (by kernel_rfl) (by kernel_rfl) (by kernel_rfl) (by kernel_rfl) (fun _ _ _ h => h) HS.out (by rfl) (fun W hW => by have hW1 : W.cell? ⟨wr.heap.size, 2, none⟩ = some (.int .i64 obj) := hW.1.1.cell 2; go_simp) ?_
                      dsimp only [List.set_cons_succ, List.set_cons_zero]
                      refine last.wpAnyL_goL 29 171 (.pointer (some ⟨wr.heap.size, 4, none⟩)) rfl rfl (by kernel_rfl) (by kernel_rfl) (by kernel_rfl) (by kernel_rfl) (fun _ _ _ h => h) HS.out (by rfl) (fun W hW => by go_simp) ?_
                      dsimp only [List.set_cons_succ, List.set_cons_zero]
                      refine last.wpAnyL_goL 30 172 (.int .i64 now) rfl rfl (by kernel_rfl) (by kernel_rfl) (by kernel_rfl) (by kernel_rfl) (fun _ _ _ h => h) HS.out (by rfl) (fun W hW => by have hW1 : W.cell? ⟨wr.heap.size, 4, none⟩ = some (.int .i64 now) := hW.1.1.cell 4; go_simp) ?_
                      dsimp only [List.set_cons_succ, List.set_cons_zero]
                      refine last.wpAnyL_goL 32 174 (.pointer (some ⟨w.heap.size + 5, 0, none⟩)) rfl rfl (by kernel_rfl) (by kernel_rfl) (by kernel_rfl) (by kernel_rfl) (fun _ _ _ h => h) HS.out (by rfl) (fun W hW => by go_simp) ?_
                      dsimp only [List.set_cons_succ, List.set_cons_zero]
                      refine last.wpAnyL_goL 33 175 (.pointer (some ⟨wr.heap.size, 2, none⟩)) rfl rfl (by kernel_rfl) (by kernel_rfl) (by kernel_rfl) (by kernel_rfl) (fun _ _ _ h => h) HS.out (by rfl) (fun W hW => by go_simp) ?_
                      dsimp only [List.set_cons_succ, List.set_cons_zero]
                      refine last.wpAnyL_goL 34 176 (.int .i64 obj) rfl rfl (by kernel_rfl) (by kernel_rfl) (by kernel_rfl) (by kernel_rfl) (fun _ _ _ h => h) HS.out (by rfl) (fun W hW => by have hW1 : W.cell? ⟨wr.heap.size, 2, none⟩ = some (.int .i64 obj) := hW.1.1.cell 2; go_simp) ?_
                      dsimp only [List.set_cons_succ, List.set_cons_zero]
                      refine last.wpAnyL_goL 35 177 (.pointer (some ⟨wr.heap.size, 4, none⟩)) rfl rfl (by kernel_rfl) (by kernel_rfl) (by kernel_rfl) (by kernel_rfl) (fun _ _ _ h => h) HS.out (by rfl) (fun W hW => by go_simp) ?_
                      dsimp only [List.set_cons_succ, List.set_cons_zero]
                      refine last.wpAnyL_goL 36 178 (.int .i64 now) rfl rfl (by kernel_rfl) (by kernel_rfl) (by kernel_rfl) (by kernel_rfl) (fun _ _ _ h => h) HS.out (by rfl) (fun W hW => by have hW1 : W.cell? ⟨wr.heap.size, 4, none⟩ = some (.int .i64 now) := hW.1.1.cell 4; go_simp) ?_
                      dsimp only [List.set_cons_succ, List.set_cons_zero]
                      refine last.wpAnyL_oneL (i := 31) (by kernel_rfl) (by simp only [List.getElem?_toArray, List.getElem?_cons_succ, List.getElem?_cons_zero]; exact rfl) fun K hK => ?_
                      refine (if_pos (by rfl)).mpr ?_
                      go_simp
                      refine (Holders_any _ _ l2 vs2 ss2 obj now _ HW4.out.t hln2 HGD2.out.cl).mono ?_
                      rintro e W5 ⟨v5, rfl, hv5, hb5⟩
                      have HV5 := Lib.hid hv5
                      have HW5 := Lib.hid (HW4.out.below hb5)
                      clear hv5 hb5
                      have HS := Lib.hid (And.intro HW5.out.two HW5.out.r)
                      refine hK.out _ _ (fun _ => HS.out) ?_
                      clear hK K
                      refine last.wpAnyL_oneL (i := 37) (by kernel_rfl) (by simp only [List.getElem?_toArray, List.getElem?_cons_succ, List.getElem?_cons_zero]; exact rfl) fun K hK => ?_
                      refine (if_pos (by rfl)).mpr ?_
                      go_simp
                      refine (RHolders_any _ _ _ _ l2 vl2 sl2 obj now _ HW5.out.r hob).mono ?_
                      rintro e W6 ⟨v6, rfl, hv6, hb6⟩
                      have HV6 := Lib.hid hv6
                      have HV5 := Lib.hid (Ints.below HV5.out hb6 (Nat.le_refl _))
                      have HW6 := Lib.hid (HW5.out.below hb6)
                      clear hv6 hb6
                      have HS := Lib.hid (And.intro HW6.out.two HW6.out.r)
                      refine hK.out _ _ (fun _ => HS.out) ?_
                      clear hK K
                      refine last.wpAnyL_oneL (i := 38) (by kernel_rfl) (by simp only [List.getElem?_toArray, List.getElem?_cons_succ, List.getElem?_cons_zero]; exact rfl) fun K hK => ?_
                      refine (if_pos (by rfl)).mpr ?_
                      go_simp
                      refine (sameInts_any _ _ v5 v6 _ _ _ HV5.out HV6.out).mono ?_
                      rintro e W7 ⟨he, hb7⟩
                      rw [decide_eq_true rfl] at he
                      subst he
                      have HW7 := Lib.hid (HW6.out.below hb7)
                      clear hb7
                      have HS := Lib.hid (And.intro HW7.out.two HW7.out.r)
                      refine hK.out _ _ (fun _ => HS.out) ?_
                      clear hK K
                      refine last.wpAnyL_goL 39 181 (.bool false) rfl rfl (by kernel_rfl) (by kernel_rfl) (by kernel_rfl) (by kernel_rfl) (fun _ _ _ h => h) HS.out (by rfl) (fun W hW => by go_simp) ?_
                      dsimp only [List.set_cons_succ, List.set_cons_zero]
                      refine last.wpAnyL_goL 40 182 (.bool false) rfl rfl (by kernel_rfl) (by kernel_rfl) (by kernel_rfl) (by kernel_rfl) (fun _ _ _ h => h) HS.out (by rfl) (fun W hW => by go_simp) ?_
                      dsimp only [List.set_cons_succ, List.set_cons_zero]
                      refine last.wpAnyL_goL 41 183 (.bool false) rfl rfl (by kernel_rfl) (by kernel_rfl) (by kernel_rfl) (by kernel_rfl) (fun _ _ _ h => h) HS.out (by rfl) (fun W hW => by go_simp) ?_
                      dsimp only [List.set_cons_succ, List.set_cons_zero]
                      refine last.wpAnyL_goL 42 184 (.pointer (some ⟨w.heap.size + 1, 0, none⟩)) rfl rfl (by kernel_rfl) (by kernel_rfl) (by kernel_rfl) (by kernel_rfl) (fun _ _ _ h => h) HS.out (by rfl) (fun W hW => by go_simp) ?_
                      dsimp only [List.set_cons_succ, List.set_cons_zero]
                      refine last.wpAnyL_goL 44 186 (.pointer (some ⟨w.heap.size + 5, 0, none⟩)) rfl rfl (by kernel_rfl) (by kernel_rfl) (by kernel_rfl) (by kernel_rfl) (fun _ _ _ h => h) HS.out (by rfl) (fun W hW => by go_simp) ?_
                      dsimp only [List.set_cons_succ, List.set_cons_zero]
                      refine last.wpAnyL_goL 45 187 (.pointer (some ⟨w.heap.size + 5, 0, none⟩)) rfl rfl (by kernel_rfl) (by kernel_rfl) (by kernel_rfl) (by kernel_rfl) (fun _ _ _ h => h) HS.out (by rfl) (fun W hW => by go_simp) ?_
                      dsimp only [List.set_cons_succ, List.set_cons_zero]
                      refine last.wpAnyL_goL 46 188 (.pointer (some ⟨w.heap.size + 5, 0, none⟩)) rfl rfl (by kernel_rfl) (by kernel_rfl) (by kernel_rfl) (by kernel_rfl) (fun _ _ _ h => h) HS.out (by rfl) (fun W hW => by go_simp) ?_
                      dsimp only [List.set_cons_succ, List.set_cons_zero]
                      refine last.wpAnyL_goL 47 189 (.map (some (w.heap.size + 2))) rfl rfl (by kernel_rfl) (by kernel_rfl) (by kernel_rfl) (by kernel_rfl) (fun _ _ _ h => h) HS.out (by rfl) (fun W hW => by have hW1 : W.cell? ⟨w.heap.size + 5, 0, none⟩ = some (.map (some (w.heap.size + 2))) := hW.1.2.cell 0; go_simp) ?_
                      dsimp only [List.set_cons_succ, List.set_cons_zero]
                      refine last.wpAnyL_oneL (i := 43) (by kernel_rfl) (by simp only [List.getElem?_toArray, List.getElem?_cons_succ, List.getElem?_cons_zero]; exact rfl) fun K hK => ?_
                      refine (if_pos (by rfl)).mpr ?_
                      go_simp
                      refine (Many_any _ _ l2 vs2 ss2 _ HW7.out.t).mono ?_
                      rintro e W7' ⟨rfl, rfl⟩
                      refine hK.out _ _ (fun _ => HS.out) ?_
                      clear hK K
                      refine last.wpAnyL_goL 48 190 (.int .i64 l2.length) rfl rfl (by kernel_rfl) (by kernel_rfl) (by kernel_rfl) (by kernel_rfl) (fun _ _ _ h => h) HS.out (by rfl) (fun W hW => by have hL : ∀ ty, (Builtin.len_ #[95] ty #[.map (some (w.heap.size + 2))]).run Tryd.prog W = .ok (.int .i64 l2.length) W := fun ty => hW.2.a.len ty; go_simp) ?_
                      dsimp only [List.set_cons_succ, List.set_cons_zero]
                      refine last.wpAnyL_goL 49 191 (.bool false) rfl rfl (by kernel_rfl) (by kernel_rfl) (by kernel_rfl) (by kernel_rfl) (fun _ _ _ h => h) HS.out (by rfl) (fun W hW => by go_simp) ?_
                      dsimp only [List.set_cons_succ, List.set_cons_zero]
                      refine last.wpAnyL_goL 50 192 (.bool false) rfl rfl (by kernel_rfl) (by kernel_rfl) (by kernel_rfl) (by kernel_rfl) (fun _ _ _ h => h) HS.out (by rfl) (fun W hW => by go_simp) ?_
                      dsimp only [List.set_cons_succ, List.set_cons_zero]
                      refine last.wpAnyL_done (by kernel_rfl) ?_ _
                      go_wp2_with fail
                      go_roundg (gk - 1)
                      case measure => omega
                      case rel => exact ⟨k + 1, by omega, by go_num, l2, vs2, ss2, vl2, sl2, ⟨HW7.out.t, HW7.out.r, HGD2.out⟩, HW7.out.b⟩
      · go_wp2_with fail
        go_ret
        exact ⟨rfl, HBW.out⟩
end Go.Proofs.YthldfogmmjompaaDoor.lease
