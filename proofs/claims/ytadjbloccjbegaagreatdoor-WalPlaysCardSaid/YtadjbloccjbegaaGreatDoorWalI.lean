/-
  wal.Add.
-/
import Derived.Test.YtadjbloccjbegaaGreatDoorWalH
namespace Go.Proofs.YtadjbloccjbegaaGreatDoor.wal
open Go.RowKit Go.Proofs.YtadjbloccjbegaaGreatDoor.heap Go.Proofs.YtadjbloccjbegaaGreatDoor.own Go.Proofs.YtadjbloccjbegaaGreatDoor.recs Go.Proofs.YtadjbloccjbegaaGreatDoor.errs
open Go.Proofs.YtadjbloccjbegaaGreatDoor.model (Rec Disk)

/-- What Add leaves: the error, the wal, the disk. -/
def AddPost (P : Lib.PrintTabs) (own : Nat → Nat) (T B : Nat) (w : World) (wb db : Nat) (x : Int × Disk × Bool) (e : Ending) (w' : World) : Prop :=
  e = .returned (errV x.1) ∧ ∃ own1 v ps, Ext w own own1 ∧ Turn (fun g => g = wb ∨ g = db ∨ own g = T) w w' ∧ WalAt own1 T B w' wb db v x.2.2 x.2.1.recs ∧ DiskAt w' db ps x.2.1.cut x.2.1.left ∧ Places P ps x.2.1.recs

/-- What the region 'w.disk.write(len(w.l), text(len(w.l), r), torn)' loads. -/
theorem AS.below {wb box db : Nat} {v : Value} {down : Bool} {r : Rec} {W W' : World} (h : AS wb box db v down r W) (hb : Below W.heap.size W W') : AS wb box db v down r W' := ⟨h.1.below hb h.1.lt, h.2.below hb h.2.lt⟩
theorem AS.turn {wb box db : Nat} {v : Value} {down : Bool} {r : Rec} {W W' : World} (h : AS wb box db v down r W) (ht : Turn (fun g => g = db) W W') (h1 : wb ≠ db) (h2 : box ≠ db) : AS wb box db v down r W' := ⟨ht.has h.1 h1, ht.has h.2 h2⟩

set_option maxHeartbeats 4000000 in
set_option maxRecDepth 100000 in
theorem Add_down (P : Lib.PrintTabs) (own : Nat → Nat) (T B : Nat) (w : World) (wb db : Nat) (v : Value) (ps : List ByteArray) (d : Disk) (r : Rec) (torn : Int)
    (h : WalAt own T B w wb db v true d.recs) (hD : DiskAt w db ps d.cut d.left) (hP : Places P ps d.recs) :
    Calls Tryz.prog 6 #[.pointer (some ⟨wb, 0, none⟩), recV r, .int .i64 torn] w (AddPost P own T B w wb db (d.add true r)) := by
  have c2 := h.w_.cell 2
  simp only [List.getElem?_toArray, List.getElem?_cons_zero, List.getElem?_cons_succ] at c2
  have hlt := h.w_.lt
  have H := Lib.hid h
  have HD := Lib.hid hD
  have HP := Lib.hid hP
  unfold recV recCells
  clear h hD hP
  go_enter Tryz.func6, Tryz.ntmps6
  go_wp2
  go_ret
  have hb : ∀ o, Below w.heap.size w (w.alloc o) := fun o => (Below.refl _ _).alloc (Nat.le_refl _) o
  refine ⟨rfl, own, v, ps, Ext.refl _ _, (Turn.refl _ _).alloc _, ?_, ?_, ?_⟩
  · exact H.out.below (hb _) (Nat.le_refl _)
  · exact HD.out.below (hb _) HD.out.lt
  · exact HP.out

theorem add_bad {d : Disk} {r : Rec} (h : r.right = false) : d.add false r = (1, d, false) := by simp [Disk.add, h]
theorem add_full {d : Disk} {r : Rec} (h : r.right = true) (h2 : 200 ≤ d.recs.length) : d.add false r = (12, d, false) := by simp [Disk.add, h, h2]
theorem add_dev {d : Disk} {r : Rec} (h : r.right = true) (h2 : d.recs.length < 200) (h3 : d.cut = true ∧ d.left = 0) : d.add false r = (14, d, true) := by
  have : ¬ 200 ≤ d.recs.length := by omega
  simp [Disk.add, h, this, h3.1, h3.2]
theorem add_ok {d : Disk} {r : Rec} (h : r.right = true) (h2 : d.recs.length < 200) (h3 : ¬ (d.cut = true ∧ d.left = 0)) : d.add false r = (0, { d with recs := d.recs ++ [r], left := wrap64 (d.left - 1) }, false) := by
  have : ¬ 200 ≤ d.recs.length := by omega
  have h4 : (d.cut && decide (d.left = 0)) = false := by
    cases hc : d.cut with
    | false => rfl
    | true => exact decide_eq_false (fun e => h3 ⟨hc, e⟩)
  simp [Disk.add, h, this, h4]
theorem WalAt.turn {own : Nat → Nat} {T B : Nat} {w w1 : World} {wb db : Nat} {v : Value} {down : Bool} {l : List Rec} {S : Nat → Prop} (h : WalAt own T B w wb db v down l) (ht : Turn S w w1) (h1 : ¬ S wb) (h2 : ∀ k, own k = T → ¬ S k) : WalAt own T B w1 wb db v down l :=
  ⟨ht.has h.w_ h1, h.row.keep ht (Ext.refl _ _) (fun k _ hk => h2 k hk), h.ow, h.low, h.lw⟩
theorem DiskAt.far {w : World} {b wb : Nat} {ps : List ByteArray} {cut : Bool} {left : Int} (h : DiskAt w b ps cut left) (hn : b ≠ wb) (o : Nat) (v : Value) : DiskAt (w.setCell ⟨wb, o, none⟩ v) b ps cut left := ⟨h.d_.far (p := ⟨wb, o, none⟩) hn v, h.hp⟩
theorem slice_shape {own : Nat → Nat} {T B : Nat} {w : World} {wb db : Nat} {v : Value} {down : Bool} {l : List Rec} (h : WalAt own T B w wb db v down l) : ∃ a c, v = .slice a l.length c := by
  rcases h.row.1.2 with ⟨e, h0⟩ | ⟨g, cap, cur, e, -⟩
  · exact ⟨none, 0, by rw [e, h0]⟩
  · exact ⟨some ⟨g, 0, none⟩, cap, e⟩

set_option maxHeartbeats 4000000 in
set_option maxRecDepth 100000 in
theorem Add_up (P : Lib.PrintTabs) (own : Nat → Nat) (T B : Nat) (w : World) (wb db : Nat) (v : Value) (ps : List ByteArray) (d : Disk) (r : Rec) (hs : r.data.length < 4611686018427387904) (torn : Int) (hK : KitB P B w)
    (h : WalAt own T B w wb db v false d.recs) (hD : DiskAt w db ps d.cut d.left) (hP : Places P ps d.recs) (hod : own db ≠ T) (hne : wb ≠ db) :
    Calls Tryz.prog 6 #[.pointer (some ⟨wb, 0, none⟩), recV r, .int .i64 torn] w (AddPost P own T B w wb db (d.add false r)) := by
  obtain ⟨i0, hi0, hz0, hz1, hz2⟩ := info_parts infoRec
  have HI := Lib.hid (And.intro hi0 (And.intro hz0 (And.intro hz1 hz2)))
  obtain ⟨a, c, rfl⟩ := slice_shape h
  obtain ⟨n, hn⟩ : ∃ n, n = d.recs.length := ⟨_, rfl⟩
  rw [← hn] at h
  have hlt := h.w_.lt
  have hdlt := hD.lt
  have hl200 := hP.len
  have c1 := h.w_.cell 1
  have c2 := h.w_.cell 2
  simp only [List.getElem?_toArray, List.getElem?_cons_zero, List.getElem?_cons_succ] at c1 c2
  have hbW : Below w.heap.size w (w.alloc (.cells #[.int .i64 r.client, .int .i64 r.number, .int .i64 r.object, .int .i64 r.version, .string ⟨r.data.toArray⟩, .int .i64 r.epoch] 38)) := (Below.refl _ _).alloc (Nat.le_refl _) _
  have RA := right_any r hs (w.alloc (.cells #[.int .i64 r.client, .int .i64 r.number, .int .i64 r.object, .int .i64 r.version, .string ⟨r.data.toArray⟩, .int .i64 r.epoch] 38))
  have HBX0 : Hid (Has (w.alloc (.cells #[.int .i64 r.client, .int .i64 r.number, .int .i64 r.object, .int .i64 r.version, .string ⟨r.data.toArray⟩, .int .i64 r.epoch] 38)) w.heap.size (.cells #[.int .i64 r.client, .int .i64 r.number, .int .i64 r.object, .int .i64 r.version, .string ⟨r.data.toArray⟩, .int .i64 r.epoch] 38)) := Lib.hid (Has.new _ _)
  have HW0 := Lib.hid (h.below hbW (Nat.le_refl _))
  have HD0 := Lib.hid (hD.below hbW hdlt)
  have HK0 := Lib.hid (hK.below (hbW.mono hK.le))
  have HBW0 := Lib.hid hbW
  have HP := Lib.hid hP
  have HOWN := Lib.hid (fun k (hk : (Value.slice a n c).ownBlock = some k) => And.intro (h.row.lt k hk) (And.intro (h.row.2 k hk) h.ow))
  have HLOW := Lib.hid h.low
  have HN := Lib.hid hn
  have hBle := hK.le
  have HOD := Lib.hid hod
  have HNE := Lib.hid hne
  unfold recV recCells
  unfold recV recCells at RA
  clear h hD hP hbW hK hi0 hz0 hz1 hz2 hn hod
  cases hr : r.right with
  | false =>
    rw [hr] at RA
    rw [add_bad hr]
    clear hr
    go_enter Tryz.func6, Tryz.ntmps6
    go_wp2_with (go_at_call 14; refine RA.mono ?_; rintro e w1 ⟨rfl, hb1⟩; clear RA)
    go_ret
    have hbb := HBW0.out.trans (hb1.mono HBW0.out.size)
    exact ⟨rfl, own, _, ps, Ext.refl _ _, Turn.of_below hbb (Nat.le_refl _), HW0.out.below hb1 (Nat.le_refl _), HD0.out.below hb1 HD0.out.lt, HP.out⟩
  | true =>
    rw [hr] at RA
    have HR := Lib.hid hr
    clear hr
    by_cases hfull : 200 ≤ n
    · have d200 : decide ((200 : Int) ≤ (n : Int)) = true := decide_eq_true (by omega)
      rw [add_full HR.out (by rw [← HN.out]; exact hfull)]
      go_enter Tryz.func6, Tryz.ntmps6
      go_wp2_with (go_at_call 14; refine RA.mono ?_; rintro e w1 ⟨rfl, hb1⟩; clear RA; have c3 := (HW0.out.below hb1 (Nat.le_refl _)).w_.cell 1; simp only [List.getElem?_toArray, List.getElem?_cons_zero, List.getElem?_cons_succ] at c3)
      go_ret
      have hbb := HBW0.out.trans (hb1.mono HBW0.out.size)
      exact ⟨rfl, own, _, ps, Ext.refl _ _, Turn.of_below hbb (Nat.le_refl _), HW0.out.below hb1 (Nat.le_refl _), HD0.out.below hb1 HD0.out.lt, HP.out⟩
    · have hn200 : n < 200 := by omega
      have d200 : decide ((200 : Int) ≤ (n : Int)) = false := decide_eq_false (by omega)
      have hnI : ¬ (200 : Int) ≤ (n : Int) := by omega
      by_cases hcl : d.cut = true ∧ d.left = 0
      · rw [add_dev HR.out (by rw [← HN.out]; exact hn200) hcl]
        have HCL := Lib.hid hcl
        clear hcl
        go_enter Tryz.func6, Tryz.ntmps6
        go_wp2_with (go_at_call 14; refine RA.mono ?_; rintro e w1 ⟨rfl, hb1⟩; clear RA; have c3 := (HW0.out.below hb1 (Nat.le_refl _)).w_.cell 1; simp only [List.getElem?_toArray, List.getElem?_cons_zero, List.getElem?_cons_succ] at c3)
        have HW1 := Lib.hid (HW0.out.below hb1 (Nat.le_refl _))
        have HD1 := Lib.hid (HD0.out.below hb1 HD0.out.lt)
        have HK1 := Lib.hid (HK0.out.below (hb1.mono HK0.out.le))
        have HBX1 := Lib.hid (HBX0.out.below hb1 HBX0.out.lt)
        have HBW1 := Lib.hid (HBW0.out.trans (hb1.mono HBW0.out.size))
        have HS : Hid (AS wb w.heap.size db (.slice a n c) false r w1.drew) := Lib.hid ⟨HW1.out.w_, HBX1.out⟩
        clear c3 hb1
        refine last.wp_region_lastL (S := AS wb w.heap.size db (.slice a n c) false r) (L := 1000) (n := 19) (lb := [false, false, false, false, false, false, false, false, false, false, false, false, false, false, false, false, false, false, false]) rfl rfl (by kernel_rfl) ?_
        refine last.wpAnyL_goL 0 27 (.pointer (some ⟨wb, 0, none⟩)) rfl rfl (by kernel_rfl) (by kernel_rfl) (by kernel_rfl) (by kernel_rfl) (fun _ _ _ h => h) HS.out (by rfl) (fun W' hW' => by go_simp) ?_
        dsimp only [List.set_cons_succ, List.set_cons_zero]
        refine last.wpAnyL_goL 1 28 (.pointer (some ⟨wb, 0, none⟩)) rfl rfl (by kernel_rfl) (by kernel_rfl) (by kernel_rfl) (by kernel_rfl) (fun _ _ _ h => h) HS.out (by rfl) (fun W' hW' => by go_simp) ?_
        dsimp only [List.set_cons_succ, List.set_cons_zero]
        refine last.wpAnyL_goL 2 29 (.pointer (some ⟨wb, 0, none⟩)) rfl rfl (by kernel_rfl) (by kernel_rfl) (by kernel_rfl) (by kernel_rfl) (fun _ _ _ h => h) HS.out (by rfl) (fun W' hW' => by go_simp) ?_
        dsimp only [List.set_cons_succ, List.set_cons_zero]
        refine last.wpAnyL_goL 3 30 (.pointer (some ⟨db, 0, none⟩)) rfl rfl (by kernel_rfl) (by kernel_rfl) (by kernel_rfl) (by kernel_rfl) (fun _ _ _ h => h) HS.out (by rfl) (fun W' hW' => by have hv0 := hW'.1.cell 0; simp only [List.getElem?_toArray, List.getElem?_cons_zero] at hv0; go_simp) ?_
        dsimp only [List.set_cons_succ, List.set_cons_zero]
        refine last.wpAnyL_goL 4 31 (.pointer (some ⟨wb, 0, none⟩)) rfl rfl (by kernel_rfl) (by kernel_rfl) (by kernel_rfl) (by kernel_rfl) (fun _ _ _ h => h) HS.out (by rfl) (fun W' hW' => by go_simp) ?_
        dsimp only [List.set_cons_succ, List.set_cons_zero]
        refine last.wpAnyL_goL 5 32 (.pointer (some ⟨wb, 0, none⟩)) rfl rfl (by kernel_rfl) (by kernel_rfl) (by kernel_rfl) (by kernel_rfl) (fun _ _ _ h => h) HS.out (by rfl) (fun W' hW' => by go_simp) ?_
        dsimp only [List.set_cons_succ, List.set_cons_zero]
        refine last.wpAnyL_goL 6 33 (.pointer (some ⟨wb, 1, none⟩)) rfl rfl (by kernel_rfl) (by kernel_rfl) (by kernel_rfl) (by kernel_rfl) (fun _ _ _ h => h) HS.out (by rfl) (fun W' hW' => by go_simp) ?_
        dsimp only [List.set_cons_succ, List.set_cons_zero]
        refine last.wpAnyL_goL 7 34 (.slice a n c) rfl rfl (by kernel_rfl) (by kernel_rfl) (by kernel_rfl) (by kernel_rfl) (fun _ _ _ h => h) HS.out (by rfl) (fun W' hW' => by have hv1 := hW'.1.cell 1; simp only [List.getElem?_toArray, List.getElem?_cons_zero, List.getElem?_cons_succ] at hv1; go_simp) ?_
        dsimp only [List.set_cons_succ, List.set_cons_zero]
        refine last.wpAnyL_goL 8 35 (.int .i64 n) rfl rfl (by kernel_rfl) (by kernel_rfl) (by kernel_rfl) (by kernel_rfl) (fun _ _ _ h => h) HS.out (by rfl) (fun W' hW' => by go_simp) ?_
        dsimp only [List.set_cons_succ, List.set_cons_zero]
        refine last.wpAnyL_goL 9 36 (.pointer (some ⟨wb, 0, none⟩)) rfl rfl (by kernel_rfl) (by kernel_rfl) (by kernel_rfl) (by kernel_rfl) (fun _ _ _ h => h) HS.out (by rfl) (fun W' hW' => by go_simp) ?_
        dsimp only [List.set_cons_succ, List.set_cons_zero]
        refine last.wpAnyL_goL 10 37 (.pointer (some ⟨wb, 0, none⟩)) rfl rfl (by kernel_rfl) (by kernel_rfl) (by kernel_rfl) (by kernel_rfl) (fun _ _ _ h => h) HS.out (by rfl) (fun W' hW' => by go_simp) ?_
        dsimp only [List.set_cons_succ, List.set_cons_zero]
        refine last.wpAnyL_goL 11 38 (.pointer (some ⟨wb, 1, none⟩)) rfl rfl (by kernel_rfl) (by kernel_rfl) (by kernel_rfl) (by kernel_rfl) (fun _ _ _ h => h) HS.out (by rfl) (fun W' hW' => by go_simp) ?_
        dsimp only [List.set_cons_succ, List.set_cons_zero]
        refine last.wpAnyL_goL 12 39 (.slice a n c) rfl rfl (by kernel_rfl) (by kernel_rfl) (by kernel_rfl) (by kernel_rfl) (fun _ _ _ h => h) HS.out (by rfl) (fun W' hW' => by have hv1 := hW'.1.cell 1; simp only [List.getElem?_toArray, List.getElem?_cons_zero, List.getElem?_cons_succ] at hv1; go_simp) ?_
        dsimp only [List.set_cons_succ, List.set_cons_zero]
        refine last.wpAnyL_goL 13 40 (.int .i64 n) rfl rfl (by kernel_rfl) (by kernel_rfl) (by kernel_rfl) (by kernel_rfl) (fun _ _ _ h => h) HS.out (by rfl) (fun W' hW' => by go_simp) ?_
        dsimp only [List.set_cons_succ, List.set_cons_zero]
        refine last.wpAnyL_goL 14 41 (.agg #[.int .i64 r.client, .int .i64 r.number, .int .i64 r.object, .int .i64 r.version, .string ⟨r.data.toArray⟩, .int .i64 r.epoch]) rfl rfl (by kernel_rfl) (by kernel_rfl) (by kernel_rfl) (by kernel_rfl) (fun _ _ _ h => h) HS.out (by rfl) (fun W' hW' => by have e0 := hW'.2.cell 0; have e1 := hW'.2.cell 1; have e2 := hW'.2.cell 2; have e3 := hW'.2.cell 3; have e4 := hW'.2.cell 4; have e5 := hW'.2.cell 5; simp only [List.getElem?_toArray, List.getElem?_cons_zero, List.getElem?_cons_succ] at e0 e1 e2 e3 e4 e5; go_simp) ?_
        dsimp only [List.set_cons_succ, List.set_cons_zero]
        refine last.wpAnyL_goL 16 43 (.int .i64 torn) rfl rfl (by kernel_rfl) (by kernel_rfl) (by kernel_rfl) (by kernel_rfl) (fun _ _ _ h => h) HS.out (by rfl) (fun W' hW' => by go_simp) ?_
        dsimp only [List.set_cons_succ, List.set_cons_zero]
        have TA := text_any P n (by omega) r (right_small HR.out) w1.drew (HK1.out.below (Below.refl _ _).drew).kit
        obtain ⟨tx, htx⟩ : ∃ tx : ByteArray, tx = ⟨(text P n r).toArray⟩ := ⟨_, rfl⟩
        rw [← htx] at TA
        have HTX := Lib.hid htx
        have htl : tx.size ≤ 1000 := by rw [htx]; show (text P n r).toArray.size ≤ 1000; rw [List.size_toArray]; exact text_len P n r (by omega) (by omega) (right_small HR.out)
        clear htx
        refine last.wpAnyL_oneL (i := 15) (by kernel_rfl) (by simp only [List.getElem?_toArray, List.getElem?_cons_succ, List.getElem?_cons_zero]; exact rfl) fun K hK => ?_
        refine (if_pos (by rfl)).mpr ?_
        go_simp
        refine TA.mono ?_
        rintro e w2 ⟨rfl, hb2⟩
        have HS2 := Lib.hid (HS.out.below hb2)
        refine hK.out _ _ (fun _ => HS2.out) ?_
        clear hK K TA
        have hb2' : Below w1.heap.size w1 w2 := ⟨hb2.os, hb2.tape, hb2.output, hb2.size, hb2.block⟩
        have HW2 := Lib.hid (HW1.out.below hb2' (Nat.le_refl _))
        have HD2 := Lib.hid (HD1.out.below hb2' HD1.out.lt)
        have HBW2 := Lib.hid (HBW1.out.trans (hb2'.mono HBW1.out.size))
        clear hb2 hb2'
        have WA := write_any db ps d.cut d.left n hn200 tx (by omega) torn w2 HD2.out
        rw [if_pos HCL.out] at WA
        simp only [if_pos HCL.out] at WA
        refine last.wpAnyL_oneL (i := 17) (by kernel_rfl) (by simp only [List.getElem?_toArray, List.getElem?_cons_succ, List.getElem?_cons_zero]; exact rfl) fun K hK => ?_
        refine (if_pos (by rfl)).mpr ?_
        go_simp
        refine WA.mono ?_
        rintro e w3 ⟨rfl, hd3, ht3⟩
        have HS3 := Lib.hid (HS2.out.turn ht3 HNE.out (by omega))
        refine hK.out _ _ (fun _ => HS3.out) ?_
        clear hK K WA
        have HW3 := Lib.hid (HW2.out.turn ht3 HNE.out (fun k hk e => HOD.out (by rw [← show k = db from e]; exact hk)))
        have HD3 := Lib.hid hd3
        have HT3 := Lib.hid ht3
        clear hd3 ht3
        refine last.wpAnyL_oneL (i := 18) (by kernel_rfl) (by simp only [List.getElem?_toArray, List.getElem?_cons_succ, List.getElem?_cons_zero]; exact rfl) fun K hK => ?_
        refine (if_pos (by rfl)).mpr ?_
        go_simp
        refine hK.out _ _ (fun _ => HS3.out) ?_
        clear hK K
        refine last.wpAnyL_done (by kernel_rfl) ?_ _
        rw [errV_of (by decide : (14 : Int) ≠ 0)]
        have c3 := HW3.out.w_.cell 2
        simp only [List.getElem?_toArray, List.getElem?_cons_zero, List.getElem?_cons_succ] at c3
        have f3 := HW3.out.w_.frozen 2
        go_wp2
        go_ret
        refine ⟨by rw [errV_of (by decide : (14 : Int) ≠ 0)]; rfl, own, _, _, Ext.refl _ _, ?_, HW3.out.setDown true, DiskAt.far HD3.out (Ne.symm HNE.out) 2 _, ?_⟩
        · have h1 : Turn (fun g => g = wb ∨ g = db ∨ own g = T) w w3 := (Turn.of_below HBW2.out (Nat.le_refl _)).trans HT3.out (fun k _ hk => .inr (.inl hk))
          exact h1.setCell (p := ⟨wb, 2, none⟩) (.inr (.inl rfl)) _
        · by_cases ht : 0 ≤ torn
          · rw [if_pos ht]
            have htz : 0 < tx.size := by rw [HTX.out]; show 0 < (text P n r).toArray.size; rw [List.size_toArray]; exact text_pos P n r
            have hlt2 := tornAt_lt htz ht
            have he : (tx.extract 0 (tornAt tx.size torn)).data.toList = (text P d.recs.length r).take (tornAt tx.size torn) := by rw [Lib.extract_from_zero, HTX.out, HN.out]
            rw [HN.out]
            refine HP.out.tear HD0.out.hp r HR.out (by rw [← HN.out]; exact hn200) _ ?_ ?_
            · rw [he]; exact List.take_prefix _ _
            · intro e
              have h2 : ((text P d.recs.length r).take (tornAt tx.size torn)).length = (text P d.recs.length r).length := by rw [← he, e]
              have h3 : tx.size = (text P d.recs.length r).length := by rw [HTX.out, HN.out]; show (text P d.recs.length r).toArray.size = _; rw [List.size_toArray]
              rw [List.length_take] at h2
              omega
          · rw [if_neg ht]; exact HP.out
      · rw [add_ok HR.out (by rw [← HN.out]; exact hn200) hcl]
        have HCL := Lib.hid hcl
        clear hcl
        go_enter Tryz.func6, Tryz.ntmps6
        go_wp2_with (go_at_call 14; refine RA.mono ?_; rintro e w1 ⟨rfl, hb1⟩; clear RA; have c3 := (HW0.out.below hb1 (Nat.le_refl _)).w_.cell 1; simp only [List.getElem?_toArray, List.getElem?_cons_zero, List.getElem?_cons_succ] at c3)
        have HW1 := Lib.hid (HW0.out.below hb1 (Nat.le_refl _))
        have HD1 := Lib.hid (HD0.out.below hb1 HD0.out.lt)
        have HK1 := Lib.hid (HK0.out.below (hb1.mono HK0.out.le))
        have HBX1 := Lib.hid (HBX0.out.below hb1 HBX0.out.lt)
        have HBW1 := Lib.hid (HBW0.out.trans (hb1.mono HBW0.out.size))
        have HS : Hid (AS wb w.heap.size db (.slice a n c) false r w1.drew) := Lib.hid ⟨HW1.out.w_, HBX1.out⟩
        clear c3 hb1
        refine last.wp_region_lastL (S := AS wb w.heap.size db (.slice a n c) false r) (L := 1000) (n := 19) (lb := [false, false, false, false, false, false, false, false, false, false, false, false, false, false, false, false, false, false, false]) rfl rfl (by kernel_rfl) ?_
        refine last.wpAnyL_goL 0 27 (.pointer (some ⟨wb, 0, none⟩)) rfl rfl (by kernel_rfl) (by kernel_rfl) (by kernel_rfl) (by kernel_rfl) (fun _ _ _ h => h) HS.out (by rfl) (fun W' hW' => by go_simp) ?_
        dsimp only [List.set_cons_succ, List.set_cons_zero]
        refine last.wpAnyL_goL 1 28 (.pointer (some ⟨wb, 0, none⟩)) rfl rfl (by kernel_rfl) (by kernel_rfl) (by kernel_rfl) (by kernel_rfl) (fun _ _ _ h => h) HS.out (by rfl) (fun W' hW' => by go_simp) ?_
        dsimp only [List.set_cons_succ, List.set_cons_zero]
        refine last.wpAnyL_goL 2 29 (.pointer (some ⟨wb, 0, none⟩)) rfl rfl (by kernel_rfl) (by kernel_rfl) (by kernel_rfl) (by kernel_rfl) (fun _ _ _ h => h) HS.out (by rfl) (fun W' hW' => by go_simp) ?_
        dsimp only [List.set_cons_succ, List.set_cons_zero]
        refine last.wpAnyL_goL 3 30 (.pointer (some ⟨db, 0, none⟩)) rfl rfl (by kernel_rfl) (by kernel_rfl) (by kernel_rfl) (by kernel_rfl) (fun _ _ _ h => h) HS.out (by rfl) (fun W' hW' => by have hv0 := hW'.1.cell 0; simp only [List.getElem?_toArray, List.getElem?_cons_zero] at hv0; go_simp) ?_
        dsimp only [List.set_cons_succ, List.set_cons_zero]
        refine last.wpAnyL_goL 4 31 (.pointer (some ⟨wb, 0, none⟩)) rfl rfl (by kernel_rfl) (by kernel_rfl) (by kernel_rfl) (by kernel_rfl) (fun _ _ _ h => h) HS.out (by rfl) (fun W' hW' => by go_simp) ?_
        dsimp only [List.set_cons_succ, List.set_cons_zero]
        refine last.wpAnyL_goL 5 32 (.pointer (some ⟨wb, 0, none⟩)) rfl rfl (by kernel_rfl) (by kernel_rfl) (by kernel_rfl) (by kernel_rfl) (fun _ _ _ h => h) HS.out (by rfl) (fun W' hW' => by go_simp) ?_
        dsimp only [List.set_cons_succ, List.set_cons_zero]
        refine last.wpAnyL_goL 6 33 (.pointer (some ⟨wb, 1, none⟩)) rfl rfl (by kernel_rfl) (by kernel_rfl) (by kernel_rfl) (by kernel_rfl) (fun _ _ _ h => h) HS.out (by rfl) (fun W' hW' => by go_simp) ?_
        dsimp only [List.set_cons_succ, List.set_cons_zero]
        refine last.wpAnyL_goL 7 34 (.slice a n c) rfl rfl (by kernel_rfl) (by kernel_rfl) (by kernel_rfl) (by kernel_rfl) (fun _ _ _ h => h) HS.out (by rfl) (fun W' hW' => by have hv1 := hW'.1.cell 1; simp only [List.getElem?_toArray, List.getElem?_cons_zero, List.getElem?_cons_succ] at hv1; go_simp) ?_
        dsimp only [List.set_cons_succ, List.set_cons_zero]
        refine last.wpAnyL_goL 8 35 (.int .i64 n) rfl rfl (by kernel_rfl) (by kernel_rfl) (by kernel_rfl) (by kernel_rfl) (fun _ _ _ h => h) HS.out (by rfl) (fun W' hW' => by go_simp) ?_
        dsimp only [List.set_cons_succ, List.set_cons_zero]
        refine last.wpAnyL_goL 9 36 (.pointer (some ⟨wb, 0, none⟩)) rfl rfl (by kernel_rfl) (by kernel_rfl) (by kernel_rfl) (by kernel_rfl) (fun _ _ _ h => h) HS.out (by rfl) (fun W' hW' => by go_simp) ?_
        dsimp only [List.set_cons_succ, List.set_cons_zero]
        refine last.wpAnyL_goL 10 37 (.pointer (some ⟨wb, 0, none⟩)) rfl rfl (by kernel_rfl) (by kernel_rfl) (by kernel_rfl) (by kernel_rfl) (fun _ _ _ h => h) HS.out (by rfl) (fun W' hW' => by go_simp) ?_
        dsimp only [List.set_cons_succ, List.set_cons_zero]
        refine last.wpAnyL_goL 11 38 (.pointer (some ⟨wb, 1, none⟩)) rfl rfl (by kernel_rfl) (by kernel_rfl) (by kernel_rfl) (by kernel_rfl) (fun _ _ _ h => h) HS.out (by rfl) (fun W' hW' => by go_simp) ?_
        dsimp only [List.set_cons_succ, List.set_cons_zero]
        refine last.wpAnyL_goL 12 39 (.slice a n c) rfl rfl (by kernel_rfl) (by kernel_rfl) (by kernel_rfl) (by kernel_rfl) (fun _ _ _ h => h) HS.out (by rfl) (fun W' hW' => by have hv1 := hW'.1.cell 1; simp only [List.getElem?_toArray, List.getElem?_cons_zero, List.getElem?_cons_succ] at hv1; go_simp) ?_
        dsimp only [List.set_cons_succ, List.set_cons_zero]
        refine last.wpAnyL_goL 13 40 (.int .i64 n) rfl rfl (by kernel_rfl) (by kernel_rfl) (by kernel_rfl) (by kernel_rfl) (fun _ _ _ h => h) HS.out (by rfl) (fun W' hW' => by go_simp) ?_
        dsimp only [List.set_cons_succ, List.set_cons_zero]
        refine last.wpAnyL_goL 14 41 (.agg #[.int .i64 r.client, .int .i64 r.number, .int .i64 r.object, .int .i64 r.version, .string ⟨r.data.toArray⟩, .int .i64 r.epoch]) rfl rfl (by kernel_rfl) (by kernel_rfl) (by kernel_rfl) (by kernel_rfl) (fun _ _ _ h => h) HS.out (by rfl) (fun W' hW' => by have e0 := hW'.2.cell 0; have e1 := hW'.2.cell 1; have e2 := hW'.2.cell 2; have e3 := hW'.2.cell 3; have e4 := hW'.2.cell 4; have e5 := hW'.2.cell 5; simp only [List.getElem?_toArray, List.getElem?_cons_zero, List.getElem?_cons_succ] at e0 e1 e2 e3 e4 e5; go_simp) ?_
        dsimp only [List.set_cons_succ, List.set_cons_zero]
        refine last.wpAnyL_goL 16 43 (.int .i64 torn) rfl rfl (by kernel_rfl) (by kernel_rfl) (by kernel_rfl) (by kernel_rfl) (fun _ _ _ h => h) HS.out (by rfl) (fun W' hW' => by go_simp) ?_
        dsimp only [List.set_cons_succ, List.set_cons_zero]
        have TA := text_any P n (by omega) r (right_small HR.out) w1.drew (HK1.out.below (Below.refl _ _).drew).kit
        obtain ⟨tx, htx⟩ : ∃ tx : ByteArray, tx = ⟨(text P n r).toArray⟩ := ⟨_, rfl⟩
        rw [← htx] at TA
        have HTX := Lib.hid htx
        have htl : tx.size ≤ 1000 := by rw [htx]; show (text P n r).toArray.size ≤ 1000; rw [List.size_toArray]; exact text_len P n r (by omega) (by omega) (right_small HR.out)
        clear htx
        refine last.wpAnyL_oneL (i := 15) (by kernel_rfl) (by simp only [List.getElem?_toArray, List.getElem?_cons_succ, List.getElem?_cons_zero]; exact rfl) fun K hK => ?_
        refine (if_pos (by rfl)).mpr ?_
        go_simp
        refine TA.mono ?_
        rintro e w2 ⟨rfl, hb2⟩
        have HS2 := Lib.hid (HS.out.below hb2)
        refine hK.out _ _ (fun _ => HS2.out) ?_
        clear hK K TA
        have hb2' : Below w1.heap.size w1 w2 := ⟨hb2.os, hb2.tape, hb2.output, hb2.size, hb2.block⟩
        have HW2 := Lib.hid (HW1.out.below hb2' (Nat.le_refl _))
        have HD2 := Lib.hid (HD1.out.below hb2' HD1.out.lt)
        have HBW2 := Lib.hid (HBW1.out.trans (hb2'.mono HBW1.out.size))
        clear hb2 hb2'
        have WA := write_any db ps d.cut d.left n hn200 tx (by omega) torn w2 HD2.out
        rw [if_neg HCL.out] at WA
        simp only [if_neg HCL.out] at WA
        refine last.wpAnyL_oneL (i := 17) (by kernel_rfl) (by simp only [List.getElem?_toArray, List.getElem?_cons_succ, List.getElem?_cons_zero]; exact rfl) fun K hK => ?_
        refine (if_pos (by rfl)).mpr ?_
        go_simp
        refine WA.mono ?_
        rintro e w3 ⟨rfl, hd3, ht3⟩
        have HS3 := Lib.hid (HS2.out.turn ht3 HNE.out (by omega))
        refine hK.out _ _ (fun _ => HS3.out) ?_
        clear hK K WA
        have HW3 := Lib.hid (HW2.out.turn ht3 HNE.out (fun k hk e => HOD.out (by rw [← show k = db from e]; exact hk)))
        have HD3 := Lib.hid hd3
        have HT3 := Lib.hid ht3
        clear hd3 ht3
        refine last.wpAnyL_oneL (i := 18) (by kernel_rfl) (by simp only [List.getElem?_toArray, List.getElem?_cons_succ, List.getElem?_cons_zero]; exact rfl) fun K hK => ?_
        refine (if_pos (by rfl)).mpr ?_
        go_simp
        refine hK.out _ _ (fun _ => HS3.out) ?_
        clear hK K
        refine last.wpAnyL_done (by kernel_rfl) ?_ _
        rw [errV_zero]
        go_wp2_with fail
        have HW := HW3
        have HBX := Lib.hid HS3.out.2
        have HBW : Hid (B ≤ w3.heap.size) := Lib.hid (by have := HT3.out.size; have := HBW2.out.size; omega)
        have HNB : Hid (∀ k, (Value.slice a n c).ownBlock = some k → k ≠ wb ∧ k ≠ w.heap.size) := Lib.hid fun k hk => by
          obtain ⟨h1, h2, h3⟩ := HOWN.out k hk
          refine ⟨fun e => ?_, by omega⟩
          rw [e, h3] at h2
          omega
        rw [HN.out] at *
        have HS : Hid (AS wb (w.heap.size) db (.slice a d.recs.length c) false r w3.drew) := Lib.hid ⟨HW.out.w_, HBX.out⟩
        have HRW : Hid ((w3.alloc (.cells #[.int .i64 r.client, .int .i64 r.number, .int .i64 r.object, .int .i64 r.version, .string ⟨r.data.toArray⟩, .int .i64 r.epoch] 38)).drew.ownsRow 0 38 6 (.slice a d.recs.length c) d.recs.length (recCs d.recs)) := Lib.hid (HW.out.row.1.alloc _)
        have HSZ : Hid ((w3.alloc (.cells #[.int .i64 r.client, .int .i64 r.number, .int .i64 r.object, .int .i64 r.version, .string ⟨r.data.toArray⟩, .int .i64 r.epoch] 38)).drew.heap.size = w3.heap.size + 1) := Lib.hid (World.size_alloc _ _)
        refine last.wp_region_lastL (S := AS wb (w.heap.size) db (.slice a d.recs.length c) false r) (L := 10) (n := 11) (lb := [false, false, false, false, false, false, false, false, false, false, false]) rfl rfl (by kernel_rfl) ?_
        refine last.wpAnyL_goL 0 51 (.pointer (some ⟨wb, 0, none⟩)) rfl rfl (by kernel_rfl) (by kernel_rfl) (by kernel_rfl) (by kernel_rfl) (fun _ _ _ h => h) HS.out (by rfl) (fun W' hW' => by go_simp) ?_
        dsimp only [List.set_cons_succ, List.set_cons_zero]
        refine last.wpAnyL_goL 1 52 (.pointer (some ⟨wb, 0, none⟩)) rfl rfl (by kernel_rfl) (by kernel_rfl) (by kernel_rfl) (by kernel_rfl) (fun _ _ _ h => h) HS.out (by rfl) (fun W' hW' => by go_simp) ?_
        dsimp only [List.set_cons_succ, List.set_cons_zero]
        refine last.wpAnyL_goL 2 53 (.pointer (some ⟨wb, 0, none⟩)) rfl rfl (by kernel_rfl) (by kernel_rfl) (by kernel_rfl) (by kernel_rfl) (fun _ _ _ h => h) HS.out (by rfl) (fun W' hW' => by go_simp) ?_
        dsimp only [List.set_cons_succ, List.set_cons_zero]
        refine last.wpAnyL_goL 3 54 (.pointer (some ⟨wb, 1, none⟩)) rfl rfl (by kernel_rfl) (by kernel_rfl) (by kernel_rfl) (by kernel_rfl) (fun _ _ _ h => h) HS.out (by rfl) (fun W' hW' => by go_simp) ?_
        dsimp only [List.set_cons_succ, List.set_cons_zero]
        refine last.wpAnyL_goL 4 55 ((.slice a d.recs.length c)) rfl rfl (by kernel_rfl) (by kernel_rfl) (by kernel_rfl) (by kernel_rfl) (fun _ _ _ h => h) HS.out (by rfl) (fun W' hW' => by have hv1 := hW'.1.cell 1; simp only [List.getElem?_toArray, List.getElem?_cons_zero, List.getElem?_cons_succ] at hv1; go_simp) ?_
        dsimp only [List.set_cons_succ, List.set_cons_zero]
        refine last.wpAnyL_goL 5 56 (.agg #[.int .i64 r.client, .int .i64 r.number, .int .i64 r.object, .int .i64 r.version, .string ⟨r.data.toArray⟩, .int .i64 r.epoch]) rfl rfl (by kernel_rfl) (by kernel_rfl) (by kernel_rfl) (by kernel_rfl) (fun _ _ _ h => h) HS.out (by rfl) (fun W' hW' => by have e0 := hW'.2.cell 0; have e1 := hW'.2.cell 1; have e2 := hW'.2.cell 2; have e3 := hW'.2.cell 3; have e4 := hW'.2.cell 4; have e5 := hW'.2.cell 5; simp only [List.getElem?_toArray, List.getElem?_cons_zero, List.getElem?_cons_succ] at e0 e1 e2 e3 e4 e5; go_simp) ?_
        dsimp only [List.set_cons_succ, List.set_cons_zero]
        refine last.wpAnyL_oneL (i := 6) (by kernel_rfl) (by simp only [List.getElem?_toArray, List.getElem?_cons_succ, List.getElem?_cons_zero]; exact rfl) fun K hK => ?_
        refine (if_pos (by rfl)).mpr ?_
        go_simp
        have HS2 : Hid (AS wb (w.heap.size) db (.slice a d.recs.length c) false r (w3.alloc (.cells #[.int .i64 r.client, .int .i64 r.number, .int .i64 r.object, .int .i64 r.version, .string ⟨r.data.toArray⟩, .int .i64 r.epoch] 38)).drew) := Lib.hid (AS.alloc ⟨HW.out.w_, HBX.out⟩ _)
        refine hK.out _ _ (fun _ => HS2.out) ?_
        clear hK K
        refine last.wpAnyL_oneL (i := 7) (by kernel_rfl) (by simp only [List.getElem?_toArray, List.getElem?_cons_succ, List.getElem?_cons_zero]; exact rfl) fun K hK => ?_
        refine step_append_lies _ (by rfl) (.tmp 55) (.tmp 57) 45 (by rfl) 0 38 i0 _ 6 56 Tryz.underlying45 HI.out.1 HI.out.2.1 HI.out.2.2.1 HI.out.2.2.2 (by rfl) (by decide) (.slice a d.recs.length c) d.recs.length (recCs d.recs) (by rfl) HRW.out ⟨w3.heap.size, 0, none⟩ 1 1 (recRow r) (by rfl) rfl (rec_cells r) (recRow_one r) (by omega) (by unfold maxLen; omega) (by omega) (by simp) (w3.heap.size + 1) HSZ.out ?_
        intro g cap' w4 hown4 hg4 hgl hgw
        have HS4 : Hid (AS wb (w.heap.size) db (.slice a d.recs.length c) false r w4) := Lib.hid (AS.grown HS2.out hg4 HNB.out)
        refine hK.out _ _ (fun _ => HS4.out) ?_
        have D4 := Lib.hid (wal_append HW.out HBW.out hown4 hg4 hgl)
        clear hK K hown4 hg4 hgl hgw
        skip
        refine last.wpAnyL_oneL (i := 8) (by kernel_rfl) (by simp only [List.getElem?_toArray, List.getElem?_cons_succ, List.getElem?_cons_zero]; exact rfl) fun K hK => ?_
        refine (if_pos (by rfl)).mpr ?_
        go_simp
        refine hK.out _ _ (fun _ => HS4.out) ?_
        clear hK K
        refine last.wpAnyL_oneL (i := 9) (by kernel_rfl) (by simp only [List.getElem?_toArray, List.getElem?_cons_succ, List.getElem?_cons_zero]; exact rfl) fun K hK => ?_
        refine (if_pos (by rfl)).mpr ?_
        go_simp
        refine hK.out _ _ (fun _ => HS4.out) ?_
        clear hK K
        refine last.wpAnyL_oneL (i := 10) (by kernel_rfl) (by simp only [List.getElem?_toArray, List.getElem?_cons_succ, List.getElem?_cons_zero]; exact rfl) fun K hK => ?_
        refine (if_pos (by rfl)).mpr ?_
        have hv1 := HS4.out.1.cell 1
        simp only [List.getElem?_toArray, List.getElem?_cons_zero, List.getElem?_cons_succ] at hv1
        have fv1 := HS4.out.1.frozen 1
        go_simp
        refine hK.out _ _ (fun h => absurd rfl h) ?_
        clear hK K hv1 fv1
        refine last.wpAnyL_done (by kernel_rfl) ?_ _
        go_wp2
        go_ret
        obtain ⟨own2, v2, he2, ht2, hw2⟩ := D4.out
        have hz3 := HT3.out.size
        have hz2 := HBW2.out.size
        refine ⟨rfl, own2, v2, ps.set d.recs.length tx, fun k hk => he2 k (by omega), ?_, hw2, ?_, ?_⟩
        · have h1 : Turn (fun g => g = wb ∨ g = db ∨ own g = T) w w3 := (Turn.of_below HBW2.out (Nat.le_refl _)).trans HT3.out (fun k _ hk => .inr (.inl hk))
          exact h1.trans ht2 (fun k _ hk => hk.imp (fun h => h) (fun h => .inr h))
        · exact HD3.out.turn ht2 (fun e => e.elim (fun h => HNE.out h.symm) HOD.out)
        · have e := HP.out.add HD0.out.hp r HR.out hn200
          rw [← HTX.out] at e
          exact e
end Go.Proofs.YtadjbloccjbegaaGreatDoor.wal
