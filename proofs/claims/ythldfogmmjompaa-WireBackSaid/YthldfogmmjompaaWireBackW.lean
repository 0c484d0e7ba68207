/-
  The walk of the law WireBack.
-/
import Derived.Test.YthldfogmmjompaaWire3
namespace Go.Proofs.Ythldfogmmjompaa.wire
open Go.RowKit Go.Proofs.Ythldfogmmjompaa.heap

theorem nCells_nil : nCells [] = msgCells 0 0 0 0 0 0 0 false ByteArray.empty := rfl
theorem pick_eq (a n : Int) (h1 : 1 ≤ n) (h2 : n ≤ 1000000000000000) :
    0 ≤ wrap64 ((IntKind.u64.wrap a).tmod n) ∧ wrap64 ((IntKind.u64.wrap a).tmod n) < n := by
  have e : IntKind.u64.wrap a = a % 18446744073709551616 := by simp [IntKind.wrap_u64]
  rw [e, Int.tmod_eq_emod_of_nonneg (Int.emod_nonneg _ (by omega))]
  have lo := Int.emod_nonneg (a % 18446744073709551616) (b := n) (by omega)
  have hi := Int.emod_lt_of_pos (a % 18446744073709551616) (b := n) (by omega)
  rw [IntWalk.wrap64_in] <;> omega
theorem pick_any (a n : Int) (w : World) (h1 : 1 ≤ n) (h2 : n ≤ 1000000000000000) :
    Calls Try.prog 6 #[.int .i64 a, .int .i64 n] w fun e w' => ∃ r : Int, e = .returned (.int .i64 r) ∧ 0 ≤ r ∧ r < n ∧ w = w' := by
  obtain ⟨h3, h4⟩ := pick_eq a n h1 h2
  have H3 := Lib.hid h3
  have H4 := Lib.hid h4
  clear h3 h4
  go_enter Try.func6, Try.ntmps6
  go_wp2
  go_ret
  exact ⟨_, rfl, H3.out, H4.out, rfl⟩

/-- Both ways of Encode in one. -/
theorem Encode_full (m : Msg) (w : World) (hr : m.right = true) :
    Calls Try.prog 10 #[m.val] w fun e w' => ∃ g cap, e = .returned (.tuple #[.slice (some ⟨g, 0, none⟩) (encB m).length cap, .nilIface]) ∧ (encB m).length ≤ cap ∧ (encB m).length ≤ 1000 ∧ RD w' w'.heap.size (some ⟨g, 0, none⟩) (encB m).length (encB m) ∧ Below w.heap.size w w' := by
  refine (Encode_yes m w hr).mono fun e w' ⟨v, n, he, hown, hb⟩ => ?_
  obtain ⟨g, cap, rfl, hg, hlt, hn, hc, _, hcell⟩ := own_shape hown (by simpa using enc_ne m)
  rw [List.length_map] at hn
  subst hn
  refine ⟨g, cap, he, hc, ?_, ⟨rfl, fun _ => ⟨g, 0, rfl, hlt, fun j c hj => ?_⟩⟩, hb⟩
  · have h6 : (128 ^ 6 : Nat) = 4398046511104 := by decide
    have e1 := numsB_len m.nums (fun y hy => by
      have := right_nums hr y hy
      refine ⟨this.1, ?_⟩
      rw [h6]
      omega)
    have e2 := right_data hr
    have e3 : m.nums.length = 7 := rfl
    simp only [encB, List.length_append, List.length_cons, List.length_nil]
    omega
  · rw [Nat.zero_add]
    exact hcell j _ (by rw [List.getElem?_map, hj]; rfl)

theorem eq_msg (a1 a2 a3 a4 a5 a6 a7 : Int) (l : Bool) (s : ByteArray) (w : World) :
    (binOp .eql 31 (.agg (msgCells a1 a2 a3 a4 a5 a6 a7 l s)) (.agg (msgCells a1 a2 a3 a4 a5 a6 a7 l s))).run Try.prog w = .ok (.bool true) w := by
  go_simp
set_option maxHeartbeats 1000000 in
set_option maxRecDepth 100000 in
theorem told_any (w : World) :
    Calls Try.prog 9 #[] w fun e w' => e = .returned (.bool true) ∧ Below w.heap.size w w' := by
  have eqm := eq_msg 5 2 0 0 0 0 300 true ⟨[120].toArray⟩
  have E := Lib.hid (fun w => Encode_full { kind := 5, client := 2, number := 0, epoch := 0, session := 0, object := 0, version := 300, lease := true, data := [120] } w (by decide))
  have D : Hid (decB (encB { kind := 5, client := 2, number := 0, epoch := 0, session := 0, object := 0, version := 300, lease := true, data := [120] }) = some { kind := 5, client := 2, number := 0, epoch := 0, session := 0, object := 0, version := 300, lease := true, data := [120] }) := dec_enc _ (by decide)
  generalize encB { kind := 5, client := 2, number := 0, epoch := 0, session := 0, object := 0, version := 300, lease := true, data := [120] } = bs at E D
  go_enter Try.func9, Try.ntmps9
  go_wp2_with fail
  refine (E.out _).mono ?_
  rintro e w1 ⟨g, cap, rfl, hc, hl, hrd, hb⟩
  have HRD := Lib.hid hrd
  clear hrd
  go_wp2_with fail
  refine (Decode_any _ _ _ bs _ HRD.out hc (by omega)).mono ?_
  rintro e w2 ⟨rfl, hb2⟩
  rw [decV_some D.out]
  unfold Msg.val
  have hs1 := hb.size
  rw [World.size_alloc] at hs1
  have HM : Hid (Has w2 w.heap.size _) := ((Has.new w _).below hb (by simp)).below hb2 (by omega)
  have hbw : Below w.heap.size w w2 := (((Below.refl _ _).alloc (Nat.le_refl _) _).trans (hb.mono (by simp))).trans (hb2.mono (by omega))
  have c0 : w2.cell? ⟨w.heap.size, 0, none⟩ = some (.int .i64 5) := HM.out.cell 0
  have c1 : w2.cell? ⟨w.heap.size, 1, none⟩ = some (.int .i64 2) := HM.out.cell 1
  have c2 : w2.cell? ⟨w.heap.size, 2, none⟩ = some (.int .i64 0) := HM.out.cell 2
  have c3 : w2.cell? ⟨w.heap.size, 3, none⟩ = some (.int .i64 0) := HM.out.cell 3
  have c4 : w2.cell? ⟨w.heap.size, 4, none⟩ = some (.int .i64 0) := HM.out.cell 4
  have c5 : w2.cell? ⟨w.heap.size, 5, none⟩ = some (.int .i64 0) := HM.out.cell 5
  have c6 : w2.cell? ⟨w.heap.size, 6, none⟩ = some (.int .i64 300) := HM.out.cell 6
  have c7 : w2.cell? ⟨w.heap.size, 7, none⟩ = some (.bool true) := HM.out.cell 7
  have c8 : w2.cell? ⟨w.heap.size, 8, none⟩ = some (.string ⟨[120].toArray⟩) := HM.out.cell 8
  have hlt : w.heap.size < w2.heap.size := by have := hb2.size; omega
  go_wp2_with fail
  go_ret
  exact ⟨rfl, hbw.alloc (by omega) _⟩

set_option maxHeartbeats 1000000 in
set_option maxRecDepth 100000 in
theorem walk (m : Msg) (cut : Int) (w : World) (hs : m.data.length ≤ 9223372036854775807) :
    Calls Try.prog 4 #[m.val, .int .i64 cut] w fun e w' => e = .returned (.bool true) ∧ Below w.heap.size w w' := by
  unfold Msg.val
  go_enter Try.func4, Try.ntmps4
  by_cases h100 : 100 < m.data.length
  · go_wp2_with fail
    go_ret
    exact ⟨rfl, (Below.refl _ _).alloc (Nat.le_refl _) _⟩
  · go_wp2_with fail
    refine (told_any _).mono ?_
    rintro e w1 ⟨rfl, hb1⟩
    have H1 := Lib.hid ((Has.new w (.cells (msgCells m.kind m.client m.number m.epoch m.session m.object m.version m.lease ⟨m.data.toArray⟩) 31)).below hb1 (by simp))
    go_wp2_with (refine wpList_load_row rfl 31 (.tmp 2) rfl w.heap.size rfl 31 (msgCells m.kind m.client m.number m.epoch m.session m.object m.version m.lease ⟨m.data.toArray⟩) (0, 0) _ H1.out Try.underlying31 rfl (by kernel_rfl) ?_)
    cases hr : m.right
    · refine (Encode_no m _ hr (by omega)).mono ?_
      rintro e w2 ⟨rfl, hb2⟩
      have hs1 := hb1.size
      go_wp2_with fail
      go_ret
      exact ⟨rfl, (((Below.refl _ _).alloc (Nat.le_refl _) _).trans (hb1.mono (by simp))).trans (hb2.mono (by rw [World.size_alloc] at hs1; omega))⟩
    · refine (Encode_full m _ hr).mono ?_
      rintro e w2 ⟨g, cap, rfl, hc, hl, hrd, hb2⟩
      have hs1 := hb1.size
      rw [World.size_alloc] at hs1
      have hs2 := hb2.size
      have H2 := Lib.hid (H1.out.below hb2 (by omega))
      have HD := Lib.hid (dec_enc m hr)
      have HC := Lib.hid (dec_cut m hr)
      have HR := Lib.hid hr
      have hne : 0 < (encB m).length := by
        have := enc_ne m
        cases h : encB m
        · exact absurd h this
        · simp
      have hbw2 : Below w.heap.size w w2 := (((Below.refl _ _).alloc (Nat.le_refl _) _).trans (hb1.mono (by simp))).trans (hb2.mono (by omega))
      clear hr hb1 hb2
      generalize encB m = bs at *
      have HRD := Lib.hid hrd
      clear hrd
      go_wp2_with fail
      refine (Decode_any _ _ _ bs _ HRD.out hc (by omega)).mono ?_
      rintro e w3 ⟨rfl, hb3⟩
      rw [decV_some HD.out]
      have hs3 := hb3.size
      have H3 := Lib.hid (H2.out.below hb3 (by omega))
      have HRD3 := Lib.hid (HRD.out.below hb3 (Nat.le_refl _))
      unfold Msg.val
      go_wp2_with fail
      refine (pick_any _ _ _ (by omega) (by omega)).mono ?_
      rintro e w' ⟨r, rfl, r0, r1, rfl⟩
      obtain ⟨r, rfl⟩ := Int.eq_ofNat_of_zero_le r0
      go_wp2_with fail
      have HA := Lib.hid (H3.out.alloc (.cells (msgCells m.kind m.client m.number m.epoch m.session m.object m.version m.lease ⟨m.data.toArray⟩) 31))
      have HN := Lib.hid (Has.new w3 (.cells (msgCells m.kind m.client m.number m.epoch m.session m.object m.version m.lease ⟨m.data.toArray⟩) 31))
      have HR5 := Lib.hid (((HRD3.out.below ((Below.refl _ _).alloc (Nat.le_refl _) (.cells (msgCells m.kind m.client m.number m.epoch m.session m.object m.version m.lease ⟨m.data.toArray⟩) 31)) hs3).more (bound' := (w3.alloc (.cells (msgCells m.kind m.client m.number m.epoch m.session m.object m.version m.lease ⟨m.data.toArray⟩) 31)).heap.size) (by rw [World.size_alloc]; omega)).take (k := r) (by omega))
      refine (Decode_any _ _ _ (bs.take r) _ HR5.out (by omega) (by omega)).mono ?_
      rintro e w4 ⟨rfl, hb4⟩
      rw [decV_none (HC.out r (by omega)), nCells_nil]
      rw [World.size_alloc] at hb4
      have H4 := Lib.hid (HA.out.below hb4 (by omega))
      have H5 := Lib.hid (HN.out.below hb4 (by omega))
      have hs4 := hb4.size
      rw [World.size_alloc] at hs4
      have hbw4 : Below w.heap.size w w4 := (hbw2.trans (hb3.mono (by omega))).trans (((Below.refl _ _).alloc (by omega) _).trans (hb4.mono (by omega)))
      have eqm := eq_msg m.kind m.client m.number m.epoch m.session m.object m.version m.lease ⟨m.data.toArray⟩
      have hl4 : w.heap.size < w4.heap.size := by omega
      have hl5 : w3.heap.size < w4.heap.size := by omega
      clear hb3 hb4 hbw2
      have c0 : w4.cell? ⟨w.heap.size, 0, none⟩ = some (.int .i64 m.kind) := H4.out.cell 0
      have c1 : w4.cell? ⟨w.heap.size, 1, none⟩ = some (.int .i64 m.client) := H4.out.cell 1
      have c2 : w4.cell? ⟨w.heap.size, 2, none⟩ = some (.int .i64 m.number) := H4.out.cell 2
      have c3 : w4.cell? ⟨w.heap.size, 3, none⟩ = some (.int .i64 m.epoch) := H4.out.cell 3
      have c4 : w4.cell? ⟨w.heap.size, 4, none⟩ = some (.int .i64 m.session) := H4.out.cell 4
      have c5 : w4.cell? ⟨w.heap.size, 5, none⟩ = some (.int .i64 m.object) := H4.out.cell 5
      have c6 : w4.cell? ⟨w.heap.size, 6, none⟩ = some (.int .i64 m.version) := H4.out.cell 6
      have c7 : w4.cell? ⟨w.heap.size, 7, none⟩ = some (.bool m.lease) := H4.out.cell 7
      have c8 : w4.cell? ⟨w.heap.size, 8, none⟩ = some (.string ⟨m.data.toArray⟩) := H4.out.cell 8
      have d0 : w4.cell? ⟨w3.heap.size, 0, none⟩ = some (.int .i64 m.kind) := H5.out.cell 0
      have d1 : w4.cell? ⟨w3.heap.size, 1, none⟩ = some (.int .i64 m.client) := H5.out.cell 1
      have d2 : w4.cell? ⟨w3.heap.size, 2, none⟩ = some (.int .i64 m.number) := H5.out.cell 2
      have d3 : w4.cell? ⟨w3.heap.size, 3, none⟩ = some (.int .i64 m.epoch) := H5.out.cell 3
      have d4 : w4.cell? ⟨w3.heap.size, 4, none⟩ = some (.int .i64 m.session) := H5.out.cell 4
      have d5 : w4.cell? ⟨w3.heap.size, 5, none⟩ = some (.int .i64 m.object) := H5.out.cell 5
      have d6 : w4.cell? ⟨w3.heap.size, 6, none⟩ = some (.int .i64 m.version) := H5.out.cell 6
      have d7 : w4.cell? ⟨w3.heap.size, 7, none⟩ = some (.bool m.lease) := H5.out.cell 7
      have d8 : w4.cell? ⟨w3.heap.size, 8, none⟩ = some (.string ⟨m.data.toArray⟩) := H5.out.cell 8
      go_wp2_with fail
      go_ret
      exact ⟨rfl, hbw4.alloc (by omega) _⟩
end Go.Proofs.Ythldfogmmjompaa.wire
