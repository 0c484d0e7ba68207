/-
  wal.Open: a disk's records are read again.
-/
import Derived.Test.YtadjbloccjbegaaGreatDoorWalG
import Derived.Test.YtadjbloccjbegaaGreatDoorRegionGo
import Derived.Deep.LoopGhost
namespace Go.Proofs.YtadjbloccjbegaaGreatDoor.wal
open Go.RowKit Go.Proofs.YtadjbloccjbegaaGreatDoor.heap Go.Proofs.YtadjbloccjbegaaGreatDoor.own Go.Proofs.YtadjbloccjbegaaGreatDoor.recs Go.Proofs.YtadjbloccjbegaaGreatDoor.errs
open Go.Proofs.YtadjbloccjbegaaGreatDoor.model (Rec)

/-- The library's variables lie below B, and what is below B stands. -/
def KitB (P : Lib.PrintTabs) (B : Nat) (w : World) : Prop := ∃ w0 : World, w0.heap.size = B ∧ Kit P w0 ∧ Below B w0 w
theorem KitB.kit {P : Lib.PrintTabs} {B : Nat} {w : World} (h : KitB P B w) : Kit P w := by
  obtain ⟨w0, hB, hk, hb⟩ := h
  exact hk.below (by rw [hB]; exact hb)
theorem KitB.le {P : Lib.PrintTabs} {B : Nat} {w : World} (h : KitB P B w) : B ≤ w.heap.size := by
  obtain ⟨w0, hB, hk, hb⟩ := h
  have := hb.size
  omega
theorem KitB.below {P : Lib.PrintTabs} {B : Nat} {w w' : World} (h : KitB P B w) (hb : Below B w w') : KitB P B w' := by
  obtain ⟨w0, hB, hk, hb0⟩ := h
  exact ⟨w0, hB, hk, hb0.trans hb⟩
theorem KitB.turn {P : Lib.PrintTabs} {B : Nat} {w w' : World} {S : Nat → Prop} (h : KitB P B w) (ht : Turn S w w') (hs : ∀ g, S g → B ≤ g) : KitB P B w' :=
  h.below (ht.to_below h.le fun k hk hS => by have := hs k hS; omega)
theorem DiskAt.turn {w w' : World} {b : Nat} {ps : List ByteArray} {cut : Bool} {left : Int} {S : Nat → Prop} (h : DiskAt w b ps cut left) (ht : Turn S w w') (hn : ¬ S b) : DiskAt w' b ps cut left := ⟨ht.has h.d_ hn, h.hp⟩

/-- What the region 'w.l = append(w.l, r)' loads. -/
def AS (wb box db : Nat) (v : Value) (down : Bool) (r : Rec) (W : World) : Prop :=
  Has W wb (.cells #[.pointer (some ⟨db, 0, none⟩), v, .bool down] 50) ∧ Has W box (.cells #[.int .i64 r.client, .int .i64 r.number, .int .i64 r.object, .int .i64 r.version, .string ⟨r.data.toArray⟩, .int .i64 r.epoch] 38)
theorem AS.alloc {wb box db : Nat} {v : Value} {down : Bool} {r : Rec} {W : World} (h : AS wb box db v down r W) (o : Obj) : AS wb box db v down r (W.alloc o).drew := ⟨h.1.alloc o, h.2.alloc o⟩
theorem AS.grown {wb box db : Nat} {v : Value} {down : Bool} {r : Rec} {W W' : World} {row : Option Nat} (h : AS wb box db v down r W) (hg : W.grownBy W' row) (hn : ∀ k, row = some k → k ≠ wb ∧ k ≠ box) : AS wb box db v down r W' :=
  ⟨h.1.grown hg (fun e => (hn wb e.symm).1 rfl), h.2.grown hg (fun e => (hn box e.symm).2 rfl)⟩
theorem rec_cells (r : Rec) {w : World} : ∀ (j : Nat) (x : Value), (recRow r)[j]? = some x → (w.alloc (.cells #[.int .i64 r.client, .int .i64 r.number, .int .i64 r.object, .int .i64 r.version, .string ⟨r.data.toArray⟩, .int .i64 r.epoch] 38)).drew.cell? ((⟨w.heap.size, 0, none⟩ : Addr).add j) = some x := by
  intro j x hj
  have h := (Has.new w (.cells #[.int .i64 r.client, .int .i64 r.number, .int .i64 r.object, .int .i64 r.version, .string ⟨r.data.toArray⟩, .int .i64 r.epoch] 38)).cell j
  have e : (⟨w.heap.size, 0, none⟩ : Addr).add j = ⟨w.heap.size, j, none⟩ := by by_cases h0 : j = 0 <;> simp [Addr.add, h0]
  rw [e]
  refine h.trans ?_
  rw [← hj]
  simp [recRow]

def OpenPost (own : Nat → Nat) (T B : Nat) (w : World) (db : Nat) (l : List Rec) (e : Ending) (w' : World) : Prop :=
  ∃ own1 wb v, e = .returned (.tuple #[.pointer (some ⟨wb, 0, none⟩), .nilIface]) ∧ Ext w own own1 ∧ Turn (fun g => own g = T) w w' ∧ WalAt own1 T B w' wb db v false l ∧ w.heap.size ≤ wb
theorem Open_none (w : World) : Calls Tryz.prog 4 #[.pointer none] w fun e w' => e = .returned (.tuple #[.pointer none, errV 7]) ∧ w = w' := by
  go_enter Tryz.func4, Tryz.ntmps4
  go_wp2
  go_ret2
  exact ⟨rfl, rfl⟩

set_option maxHeartbeats 4000000 in
set_option maxRecDepth 100000 in
theorem Open_any (P : Lib.PrintTabs) (own : Nat → Nat) (T B : Nat) (w : World) (db : Nat) (ps : List ByteArray) (cut : Bool) (left : Int) (l : List Rec) (hK : KitB P B w) (hD : DiskAt w db ps cut left) (hP : Places P ps l) (hod : own db ≠ T) (hlow : ∀ g, own g = T → B ≤ g) :
    Calls Tryz.prog 4 #[.pointer (some ⟨db, 0, none⟩)] w (OpenPost own T B w db l) := by
  obtain ⟨i0, hi0, hz0, hz1, hz2⟩ := info_parts infoRec
  have HI := Lib.hid (And.intro hi0 (And.intro hz0 (And.intro hz1 hz2)))
  have HK := Lib.hid hK
  have HD := Lib.hid hD
  have HP := Lib.hid hP
  have HOD := Lib.hid hod
  have HLOW := Lib.hid hlow
  have hdb := hD.lt
  have hl200 := hP.len
  have hBl := hK.le
  clear hi0 hz0 hz1 hz2 hK hD hP hod hlow
  go_enter Tryz.func4, Tryz.ntmps4
  go_wp2
  go_loopw [14] (fun q14 wr => ∃ (k : Nat) (own1 : Nat → Nat) (v : Value), k ≤ l.length ∧ q14 = .int .i64 k ∧ Ext w own own1 ∧ WalAt own1 T B wr w.heap.size db v false (l.take k) ∧ Turn (fun g => own g = T) w wr) (fun q14 _ => 200 - (intOf q14).toNat)
  case atStart =>
    refine ⟨0, fun k => if k = w.heap.size then T + 1 else own k, .slice none 0 0, by omega, rfl, fun k hk => by simp; omega, ⟨?_, Row.nil _ _ _ _ _, by simp, fun g hg => ?_, hBl⟩, (Turn.refl _ _).alloc _⟩
    · exact Has.new w _
    · by_cases e : g = w.heap.size
      · omega
      · simp only [if_neg e] at hg; exact HLOW.out g hg
  case round =>
    obtain ⟨k, own1, v, hk, rfl, hext, hw, ht⟩ := hrel
    have HT := Lib.hid ht
    have HEX := Lib.hid hext
    have hwlt := hw.w_.lt
    have hKr : KitB P B wr := HK.out.turn ht HLOW.out
    have hDr := HD.out.turn ht HOD.out
    have HKR := Lib.hid hKr
    have hBr := hKr.le
    by_cases hkl : k < l.length
    · obtain ⟨r, hr⟩ : ∃ r, l[k]? = some r := ⟨_, List.getElem?_eq_getElem hkl⟩
      have hright := HP.out.right r (List.mem_of_getElem? hr)
      obtain ⟨s, hs⟩ : ∃ s : ByteArray, s = ⟨(text P k r).toArray⟩ := ⟨_, rfl⟩
      have hsl : s.data.toList = text P k r := by rw [hs]
      have hc : wr.cell? ⟨db, k, none⟩ = some (.string s) := hDr.place k (by omega) s (by rw [HP.out.there k r hr, hs])
      have PA := parse_any P k (by omega) r hright s (by rw [hsl]; exact List.prefix_refl _) wr hKr.kit
      have hk2 : (k : Int) < 200 := by omega
      have HSL := Lib.hid hsl
      have HR := Lib.hid hr
      have HW0 := Lib.hid hw
      obtain ⟨lk, hlk⟩ : ∃ lk, lk = l.take k := ⟨_, rfl⟩
      have hlen : lk.length = k := by rw [hlk, List.length_take]; omega
      have HLK := Lib.hid hlk
      rw [← hlk] at hw
      have HW1 := Lib.hid hw
      clear hs hsl hr hright hKr hDr hext hw hlk ht
      go_wp2_with (go_at_call 12; refine PA.mono ?_; rintro e w1 ⟨r', ok, rfl, hb1, hok, hr'⟩; have hok' : ok = true := (by rw [hok]; exact decide_eq_true HSL.out); subst hok'; obtain rfl : r = r' := (hr' rfl).symm; clear hok hr' PA; unfold recV recCells)
      obtain ⟨W, hW⟩ : ∃ W, W = w1.alloc (.cells #[.int .i64 r.client, .int .i64 r.number, .int .i64 r.object, .int .i64 r.version, .string ⟨r.data.toArray⟩, .int .i64 r.epoch] 38) := ⟨_, rfl⟩
      have HBX : Hid (Has W w1.heap.size (.cells #[.int .i64 r.client, .int .i64 r.number, .int .i64 r.object, .int .i64 r.version, .string ⟨r.data.toArray⟩, .int .i64 r.epoch] 38)) := Lib.hid (by rw [hW]; exact Has.new _ _)
      have HBB : Hid (Below wr.heap.size wr W) := Lib.hid (by rw [hW]; exact hb1.alloc hb1.size _)
      have HW : Hid (WalAt own1 T B W w.heap.size db v false lk) := Lib.hid (HW1.out.below HBB.out (Nat.le_refl _))
      have HBW : Hid (B ≤ W.heap.size) := Lib.hid (Nat.le_trans hBr HBB.out.size)
      have HNB : Hid (∀ k, v.ownBlock = some k → k ≠ w.heap.size ∧ k ≠ w1.heap.size) := Lib.hid fun k hk => by
        have h1 := HW1.out.row.lt k hk
        have h2 := HW1.out.row.2 k hk
        have h3 := HW1.out.ow
        have h4 := hb1.size
        refine ⟨fun e => ?_, by omega⟩
        rw [e, h3] at h2
        omega
      rw [← hW]
      clear hW hb1
      have HS : Hid (AS w.heap.size (w1.heap.size) db v false r W.drew) := Lib.hid ⟨HW.out.w_, HBX.out⟩
      have HRW : Hid ((W.alloc (.cells #[.int .i64 r.client, .int .i64 r.number, .int .i64 r.object, .int .i64 r.version, .string ⟨r.data.toArray⟩, .int .i64 r.epoch] 38)).drew.ownsRow 0 38 6 v lk.length (recCs lk)) := Lib.hid (HW.out.row.1.alloc _)
      have HSZ : Hid ((W.alloc (.cells #[.int .i64 r.client, .int .i64 r.number, .int .i64 r.object, .int .i64 r.version, .string ⟨r.data.toArray⟩, .int .i64 r.epoch] 38)).drew.heap.size = W.heap.size + 1) := Lib.hid (World.size_alloc _ _)
      refine last.wp_region_lastL (S := AS w.heap.size (w1.heap.size) db v false r) (L := 10) (n := 11) (lb := [false, false, false, false, false, false, false, false, false, false, false]) rfl rfl (by kernel_rfl) ?_
      refine last.wpAnyL_goL 0 30 (.pointer (some ⟨w.heap.size, 0, none⟩)) rfl rfl (by kernel_rfl) (by kernel_rfl) (by kernel_rfl) (by kernel_rfl) (fun _ _ _ h => h) HS.out (by rfl) (fun W' hW' => by go_simp) ?_
      dsimp only [List.set_cons_succ, List.set_cons_zero]
      refine last.wpAnyL_goL 1 31 (.pointer (some ⟨w.heap.size, 0, none⟩)) rfl rfl (by kernel_rfl) (by kernel_rfl) (by kernel_rfl) (by kernel_rfl) (fun _ _ _ h => h) HS.out (by rfl) (fun W' hW' => by go_simp) ?_
      dsimp only [List.set_cons_succ, List.set_cons_zero]
      refine last.wpAnyL_goL 2 32 (.pointer (some ⟨w.heap.size, 0, none⟩)) rfl rfl (by kernel_rfl) (by kernel_rfl) (by kernel_rfl) (by kernel_rfl) (fun _ _ _ h => h) HS.out (by rfl) (fun W' hW' => by go_simp) ?_
      dsimp only [List.set_cons_succ, List.set_cons_zero]
      refine last.wpAnyL_goL 3 33 (.pointer (some ⟨w.heap.size, 1, none⟩)) rfl rfl (by kernel_rfl) (by kernel_rfl) (by kernel_rfl) (by kernel_rfl) (fun _ _ _ h => h) HS.out (by rfl) (fun W' hW' => by go_simp) ?_
      dsimp only [List.set_cons_succ, List.set_cons_zero]
      refine last.wpAnyL_goL 4 34 (v) rfl rfl (by kernel_rfl) (by kernel_rfl) (by kernel_rfl) (by kernel_rfl) (fun _ _ _ h => h) HS.out (by rfl) (fun W' hW' => by have hv1 := hW'.1.cell 1; simp only [List.getElem?_toArray, List.getElem?_cons_zero, List.getElem?_cons_succ] at hv1; go_simp) ?_
      dsimp only [List.set_cons_succ, List.set_cons_zero]
      refine last.wpAnyL_goL 5 35 (.agg #[.int .i64 r.client, .int .i64 r.number, .int .i64 r.object, .int .i64 r.version, .string ⟨r.data.toArray⟩, .int .i64 r.epoch]) rfl rfl (by kernel_rfl) (by kernel_rfl) (by kernel_rfl) (by kernel_rfl) (fun _ _ _ h => h) HS.out (by rfl) (fun W' hW' => by have e0 := hW'.2.cell 0; have e1 := hW'.2.cell 1; have e2 := hW'.2.cell 2; have e3 := hW'.2.cell 3; have e4 := hW'.2.cell 4; have e5 := hW'.2.cell 5; simp only [List.getElem?_toArray, List.getElem?_cons_zero, List.getElem?_cons_succ] at e0 e1 e2 e3 e4 e5; go_simp) ?_
      dsimp only [List.set_cons_succ, List.set_cons_zero]
      refine last.wpAnyL_oneL (i := 6) (by kernel_rfl) (by simp only [List.getElem?_toArray, List.getElem?_cons_succ, List.getElem?_cons_zero]; exact rfl) fun K hK => ?_
      refine (if_pos (by rfl)).mpr ?_
      go_simp
      have HS2 : Hid (AS w.heap.size (w1.heap.size) db v false r (W.alloc (.cells #[.int .i64 r.client, .int .i64 r.number, .int .i64 r.object, .int .i64 r.version, .string ⟨r.data.toArray⟩, .int .i64 r.epoch] 38)).drew) := Lib.hid (AS.alloc ⟨HW.out.w_, HBX.out⟩ _)
      refine hK.out _ _ (fun _ => HS2.out) ?_
      clear hK K
      refine last.wpAnyL_oneL (i := 7) (by kernel_rfl) (by simp only [List.getElem?_toArray, List.getElem?_cons_succ, List.getElem?_cons_zero]; exact rfl) fun K hK => ?_
      refine step_append_lies _ (by rfl) (.tmp 34) (.tmp 36) 45 (by rfl) 0 38 i0 _ 6 56 Tryz.underlying45 HI.out.1 HI.out.2.1 HI.out.2.2.1 HI.out.2.2.2 (by rfl) (by decide) v lk.length (recCs lk) (by rfl) HRW.out ⟨W.heap.size, 0, none⟩ 1 1 (recRow r) (by rfl) rfl (rec_cells r) (recRow_one r) (by omega) (by unfold maxLen; omega) (by omega) (by simp) (W.heap.size + 1) HSZ.out ?_
      intro g cap' w4 hown4 hg4 hgl hgw
      have HS4 : Hid (AS w.heap.size (w1.heap.size) db v false r w4) := Lib.hid (AS.grown HS2.out hg4 HNB.out)
      refine hK.out _ _ (fun _ => HS4.out) ?_
      have D4 := Lib.hid (wal_append HW.out HBW.out hown4 hg4 hgl)
      clear hK K hown4 hg4 hgl hgw
      skip
      refine last.wpAnyL_oneL (i := 8) (by kernel_rfl) (by simp only [List.getElem?_toArray, List.getElem?_cons_succ, List.getElem?_cons_zero]; exact rfl) fun K hK => ?_
      refine (if_pos (by rfl)).mpr ?_
      go_simp
      refine hK.out _ _ (fun _ => HS4.out) ?_
      clear hK K
      refine last.wpAnyL_oneL (i := 9) (by kernel_rfl) (by simp only [List.getElem?_toArray, List.getElem?_cons_succ, List.getElem?_cons_zero]; exact rfl) fun K hK => ?_
      refine (if_pos (by rfl)).mpr ?_
      go_simp
      refine hK.out _ _ (fun _ => HS4.out) ?_
      clear hK K
      refine last.wpAnyL_oneL (i := 10) (by kernel_rfl) (by simp only [List.getElem?_toArray, List.getElem?_cons_succ, List.getElem?_cons_zero]; exact rfl) fun K hK => ?_
      refine (if_pos (by rfl)).mpr ?_
      have hv1 := HS4.out.1.cell 1
      simp only [List.getElem?_toArray, List.getElem?_cons_zero, List.getElem?_cons_succ] at hv1
      have fv1 := HS4.out.1.frozen 1
      go_simp
      refine hK.out _ _ (fun h => absurd rfl h) ?_
      clear hK K hv1 fv1
      refine last.wpAnyL_done (by kernel_rfl) ?_ _
      go_wp2_with fail
      go_roundw
      case rel =>
        subst hlen
        obtain ⟨own2, v2, he2, ht2, hw2⟩ := D4.out
        have hsz := HBB.out.size
        have hwz := HT.out.size
        refine ⟨lk.length + 1, own2, v2, by omega, by go_num, HEX.out.trans (fun j hj => he2 j (by omega)) hwz, ?_, ?_⟩
        · rw [List.take_add_one, HR.out, ← HLK.out]
          exact hw2
        · refine (HT.out.then_below HBB.out (Nat.le_refl _)).trans ht2 (fun j hj hS => ?_)
          rcases hS with rfl | hS
          · omega
          · rw [HEX.out j hj] at hS; exact hS
      case measure => simp [intOf]; omega
    · obtain rfl : k = l.length := by omega
      rw [List.take_length] at hw
      have HW0 := Lib.hid hw
      by_cases hk2 : l.length < 200
      · obtain ⟨s, r, hs, hright, hpre, hne⟩ := HP.out.none l.length (Nat.le_refl _) hk2
        have hc : wr.cell? ⟨db, l.length, none⟩ = some (.string s) := hDr.place _ hk2 s hs
        have PA := parse_any P l.length (by omega) r hright s hpre wr hKr.kit
        have hk2' : (l.length : Int) < 200 := by omega
        have HNE := Lib.hid hne
        clear hs hpre hne hright hKr hDr hext hw ht
        go_wp2_with (go_at_call 12; refine PA.mono ?_; rintro e w1 ⟨r', ok, rfl, hb1, hok, -⟩; have hok' : ok = false := (by rw [hok]; exact decide_eq_false HNE.out); subst hok'; clear hok PA; unfold recV recCells)
        go_ret2
        have hbb : ∀ o, Below wr.heap.size wr (w1.alloc o) := fun o => hb1.alloc hb1.size o
        exact ⟨own1, w.heap.size, v, rfl, HEX.out, HT.out.then_below (hbb _) (Nat.le_refl _), HW0.out.below (hbb _) (Nat.le_refl _), Nat.le_refl _⟩
      · have hk2' : ¬ (l.length : Int) < 200 := by omega
        clear hKr hDr hext hw ht
        go_wp2_with fail
        go_ret2
        exact ⟨own1, w.heap.size, v, rfl, HEX.out, HT.out, HW0.out, Nat.le_refl _⟩
end Go.Proofs.YtadjbloccjbegaaGreatDoor.wal
