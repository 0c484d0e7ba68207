/-
  The walk of the law WireEncodes.
-/
import Derived.Test.YthldfogmmjompaaDoorRefWire
import Derived.Test.YthldfogmmjompaaDoorBare
namespace Go.Proofs.YthldfogmmjompaaDoor.refw
open Go.RowKit Go.Proofs.YthldfogmmjompaaDoor.heap Go.Proofs.YthldfogmmjompaaDoor.wire Go.Proofs.YthldfogmmjompaaDoor.errs

/-- Both ways of the program's Encode in one. -/
def PEncPost (m : Msg) (w : World) (e : Ending) (w' : World) : Prop :=
  (m.right = true → ∃ g cap, e = .returned (.tuple #[.slice (some ⟨g, 0, none⟩) (encB m).length cap, .nilIface]) ∧ RD w' w'.heap.size (some ⟨g, 0, none⟩) (encB m).length (encB m) ∧ (encB m).length ≤ cap) ∧
  (m.right = false → e = .returned (.tuple #[.slice none 0 0, .iface 22 (.int .i64 1)])) ∧ Below w.heap.size w w'
theorem Encode_both (m : Msg) (w : World) (hs : m.data.length ≤ 9223372036854775807) :
    Calls Tryd.prog 18 #[m.val] w (PEncPost m w) := by
  cases hr : m.right
  · exact (Encode_no m w hr hs).mono fun e w' ⟨he, hb⟩ => ⟨(fun h => by rw [hr] at h; cases h), fun _ => he, hb⟩
  · refine (Encode_yes m w hr).mono fun e w' ⟨v, n, he, hown, hb⟩ => ?_
    obtain ⟨g, cap, rfl, h1, h2⟩ := RD_of_own hown (enc_ne m)
    exact ⟨fun _ => ⟨g, cap, he, h1, h2⟩, (fun h => by rw [hr] at h; cases h), hb⟩

set_option maxHeartbeats 1000000 in
set_option maxRecDepth 100000 in
theorem told_any (m : Msg) (w : World) :
    Calls Tryd.prog 17 #[m.val] w fun e w' => e = .returned m.val ∧ Below w.heap.size w w' := by
  unfold Msg.val
  go_enter Tryd.func17, Tryd.ntmps17
  go_wp2
  have hg := Has.new (w.alloc (.cells (msgCells m.kind m.client m.number m.epoch m.session m.object m.version m.lease ⟨m.data.toArray⟩) 32)) (.cells (msgCells m.kind m.client m.number m.epoch m.session m.object m.version m.lease ⟨m.data.toArray⟩) 36)
  rw [World.size_alloc] at hg
  exact bodyPost_ret (results_cell_row Tryd.results17 _ _ (w.heap.size + 1) 36 _ (0, 0) _ rfl hg Tryd.underlying36 rfl (by kernel_rfl)) rfl ⟨rfl, ((Below.refl _ _).alloc (Nat.le_refl _) _).alloc (by simp) _⟩

set_option maxHeartbeats 1000000 in
set_option maxRecDepth 100000 in
theorem walkE (m : Msg) (w : World) (hs : m.data.length ≤ 9223372036854775807) (hg : Handle w) :
    Calls Tryd.prog 4 #[m.val] w fun e w' => e = .returned (.bool true) ∧ Below w.heap.size w w' := by
  unfold Msg.val
  go_enter Tryd.func4, Tryd.ntmps4
  by_cases h100 : 200 < m.data.length
  · go_wp2_with fail
    go_ret
    exact ⟨rfl, (Below.refl _ _).alloc (Nat.le_refl _) _⟩
  · have hb0 : Below w.heap.size w (w.alloc (.cells (msgCells m.kind m.client m.number m.epoch m.session m.object m.version m.lease ⟨m.data.toArray⟩) 32)) := (Below.refl _ _).alloc (Nat.le_refl _) _
    have hm0 := Has.new w (.cells (msgCells m.kind m.client m.number m.epoch m.session m.object m.version m.lease ⟨m.data.toArray⟩) 32)
    have hs0 : (w.alloc (.cells (msgCells m.kind m.client m.number m.epoch m.session m.object m.version m.lease ⟨m.data.toArray⟩) 32)).heap.size = w.heap.size + 1 := World.size_alloc _ _
    generalize hw0 : w.alloc (.cells (msgCells m.kind m.client m.number m.epoch m.session m.object m.version m.lease ⟨m.data.toArray⟩) 32) = w0 at hb0 hm0 hs0
    have HW0 := Lib.hid hw0
    have HS0 := Lib.hid hs0
    have HM0 := Lib.hid hm0
    have HG := Lib.hid hg
    clear hs0 hm0 hg hw0
    go_wp2_with fail
    rw [HW0.out]
    refine (told_any m _).mono ?_
    rintro e w1 ⟨rfl, hb1⟩
    unfold Msg.val
    have hs1 : w.heap.size + 1 ≤ w1.heap.size := by have := hb1.size; have := HS0.out; omega
    have HM1 := Lib.hid (HM0.out.below hb1 (by have := HS0.out; omega))
    have HB1 : Hid (Below w.heap.size w w1) := hb0.trans (hb1.mono (by have := HS0.out; omega))
    clear hb0 hb1 HM0
    go_wp2_with fail
    refine (rEncode_any m _ hs).mono ?_
    rintro e w2 ⟨hy2, hn2, hb2⟩
    have hs2 := hb2.size
    have HM2 := Lib.hid (HM1.out.below hb2 (by omega))
    have HB2 : Hid (Below w.heap.size w w2) := HB1.out.trans (hb2.mono (by omega))
    cases hr : m.right
    · obtain rfl := hn2 hr
      clear hy2 hn2 hb2
      have HR := Lib.hid hr
      clear hr
      go_wp2_with (refine wpList_load_row rfl 32 (.tmp 1) rfl w.heap.size rfl 32 (msgCells m.kind m.client m.number m.epoch m.session m.object m.version m.lease ⟨m.data.toArray⟩) (0, 0) _ HM2.out Tryd.underlying32 rfl (by kernel_rfl) ?_)
      refine (Encode_both m _ hs).mono ?_
      rintro e w3 ⟨hy3, hn3, hb3⟩
      obtain rfl := hn3 HR.out
      have hs3 := hb3.size
      have HB3 : Hid (Below w.heap.size w w3) := HB2.out.trans (hb3.mono (by omega))
      clear hy3 hn3 hb3
      go_wp2_with fail
      refine (bare_errno _ _ _ (HG.out.below HB3.out)).mono ?_
      rintro e w4 ⟨rfl, hb4⟩
      have HB4 : Hid (Below w.heap.size w w4) := HB3.out.trans (hb4.mono (by omega))
      have cv := convert_RD (w := w4) (bound := 0) (n := 0) (cap := 0) (A := none) (l := []) ⟨rfl, fun h => absurd h (by omega)⟩
      clear hb4
      go_wp2_with fail
      go_ret
      exact ⟨rfl, HB4.out⟩
    · obtain ⟨g, cap, rfl, hrd, hcap⟩ := hy2 hr
      have HR2 := Lib.hid hrd
      clear hy2 hn2 hb2 hrd
      have HR := Lib.hid hr
      clear hr
      go_wp2_with (refine wpList_load_row rfl 32 (.tmp 1) rfl w.heap.size rfl 32 (msgCells m.kind m.client m.number m.epoch m.session m.object m.version m.lease ⟨m.data.toArray⟩) (0, 0) _ HM2.out Tryd.underlying32 rfl (by kernel_rfl) ?_)
      refine (Encode_both m _ hs).mono ?_
      rintro e w3 ⟨hy3, hn3, hb3⟩
      obtain ⟨g3, cap3, rfl, hrd3, hcap3⟩ := hy3 HR.out
      have hs3 := hb3.size
      have HB3 : Hid (Below w.heap.size w w3) := HB2.out.trans (hb3.mono (by omega))
      have HR3 := Lib.hid hrd3
      have HR23 := Lib.hid ((HR2.out.below hb3 (Nat.le_refl _)).more hs3)
      clear hy3 hn3 hb3 hrd3
      go_wp2_with fail
      refine (bare_nil _ _).mono ?_
      rintro e w4 ⟨rfl, rfl⟩
      have cv := convert_RD (cap := cap) HR23.out
      have cv3 := convert_RD (cap := cap3) HR3.out
      go_wp2_with fail
      go_ret
      exact ⟨rfl, HB3.out⟩
end Go.Proofs.YthldfogmmjompaaDoor.refw
