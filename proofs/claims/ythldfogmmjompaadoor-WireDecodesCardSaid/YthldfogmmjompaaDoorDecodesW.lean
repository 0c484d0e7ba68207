/-
  The walk of the law WireDecodes.
-/
import Derived.Test.YthldfogmmjompaaDoorRefDec
import Derived.Test.YthldfogmmjompaaDoorEncodesW
namespace Go.Proofs.YthldfogmmjompaaDoor.refw
open Go.RowKit Go.Proofs.YthldfogmmjompaaDoor.heap Go.Proofs.YthldfogmmjompaaDoor.wire Go.Proofs.YthldfogmmjompaaDoor.errs

theorem nCells_zero : nCells [] = msgCells 0 0 0 0 0 0 0 false ByteArray.empty := rfl

theorem eq_ref (a1 a2 a3 a4 a5 a6 a7 : Int) (l : Bool) (s : ByteArray) (w : World) :
    (binOp .eql 36 (.agg (msgCells a1 a2 a3 a4 a5 a6 a7 l s)) (.agg (msgCells a1 a2 a3 a4 a5 a6 a7 l s))).run Tryd.prog w = .ok (.bool true) w := by
  go_simp
set_option maxHeartbeats 1000000 in
set_option maxRecDepth 100000 in
theorem walkD (A : Option Addr) (n cap : Nat) (bs : List UInt8) (w : World) (hrd : RD w w.heap.size A n bs) (hcap : n ≤ cap) (hn : n ≤ 9223372036854775807) (hg : Handle w) :
    Calls Tryd.prog 5 #[.slice A n cap] w fun e w' => e = .returned (.bool true) ∧ Below w.heap.size w w' := by
  have HRD := Lib.hid hrd
  have HG := Lib.hid hg
  clear hrd hg
  go_enter Tryd.func5, Tryd.ntmps5
  by_cases h200 : 200 < n
  · go_wp2_with fail
    go_ret
    exact ⟨rfl, Below.refl _ _⟩
  · go_wp2_with fail
    refine (rDecode_any _ _ _ bs _ HRD.out hcap hn).mono ?_
    rintro e w1 ⟨rfl, hb1⟩
    have hs1 := hb1.size
    cases hd : decB bs with
    | none =>
      have HD := Lib.hid hd
      clear hd
      rw [rdecV_none HD.out, nCells_zero]
      have R1 := Lib.hid (HRD.out.below hb1 (Nat.le_refl _))
      have R2 := Lib.hid ((R1.out.below ((Below.refl w1.heap.size w1).alloc (Nat.le_refl _) (.cells (msgCells 0 0 0 0 0 0 0 false ByteArray.empty) 36)) hs1).more (bound' := (w1.alloc (.cells (msgCells 0 0 0 0 0 0 0 false ByteArray.empty) 36)).heap.size) (by rw [World.size_alloc]; omega))
      go_wp2_with fail
      refine (Decode_any _ _ _ bs _ R2.out hcap hn).mono ?_
      rintro e w2 ⟨rfl, hb2⟩
      rw [decV_none HD.out, nCells_zero]
      have hs2 := hb2.size
      rw [World.size_alloc] at hb2 hs2
      have K1 := Lib.hid (((Has.new w1 (.cells (msgCells 0 0 0 0 0 0 0 false ByteArray.empty) 36)).below hb2 (by omega)).alloc (.cells (msgCells 0 0 0 0 0 0 0 false ByteArray.empty) 32))
      have K2 := Lib.hid (Has.new w2 (.cells (msgCells 0 0 0 0 0 0 0 false ByteArray.empty) 32))
      have HBW : Hid (Below w.heap.size w (w2.alloc (.cells (msgCells 0 0 0 0 0 0 0 false ByteArray.empty) 32))) := ((hb1.trans ((Below.refl _ _).alloc hs1 _)).trans (hb2.mono (by omega))).alloc (by omega) _
      have HG1 := Lib.hid (HG.out.below HBW.out)
      have hsz : (w2.alloc (.cells (msgCells 0 0 0 0 0 0 0 false ByteArray.empty) 32)).heap.size = w2.heap.size + 1 := World.size_alloc _ _
      have eqm := eq_ref 0 0 0 0 0 0 0 false ByteArray.empty
      clear hb1 hb2 R1 R2
      go_wp2_with fail
      generalize w2.alloc (.cells #[.int .i64 0, .int .i64 0, .int .i64 0, .int .i64 0, .int .i64 0, .int .i64 0, .int .i64 0, .bool false, .string ByteArray.empty] 32) = W at K1 K2 HBW HG1 hsz ⊢
      have hW2 : w2.heap.size < W.heap.size := by omega
      have hW1 : w1.heap.size < W.heap.size := by omega
      have HSZ := Lib.hid hsz
      clear hsz
      have k0 : W.cell? ⟨w1.heap.size, 0, none⟩ = some (.int .i64 0) := K1.out.cell 0
      have k1 : W.cell? ⟨w1.heap.size, 1, none⟩ = some (.int .i64 0) := K1.out.cell 1
      have k2 : W.cell? ⟨w1.heap.size, 2, none⟩ = some (.int .i64 0) := K1.out.cell 2
      have k3 : W.cell? ⟨w1.heap.size, 3, none⟩ = some (.int .i64 0) := K1.out.cell 3
      have k4 : W.cell? ⟨w1.heap.size, 4, none⟩ = some (.int .i64 0) := K1.out.cell 4
      have k5 : W.cell? ⟨w1.heap.size, 5, none⟩ = some (.int .i64 0) := K1.out.cell 5
      have k6 : W.cell? ⟨w1.heap.size, 6, none⟩ = some (.int .i64 0) := K1.out.cell 6
      have k7 : W.cell? ⟨w1.heap.size, 7, none⟩ = some (.bool false) := K1.out.cell 7
      have k8 : W.cell? ⟨w1.heap.size, 8, none⟩ = some (.string ByteArray.empty) := K1.out.cell 8
      have l0 : W.cell? ⟨w2.heap.size, 0, none⟩ = some (.int .i64 0) := K2.out.cell 0
      have l1 : W.cell? ⟨w2.heap.size, 1, none⟩ = some (.int .i64 0) := K2.out.cell 1
      have l2 : W.cell? ⟨w2.heap.size, 2, none⟩ = some (.int .i64 0) := K2.out.cell 2
      have l3 : W.cell? ⟨w2.heap.size, 3, none⟩ = some (.int .i64 0) := K2.out.cell 3
      have l4 : W.cell? ⟨w2.heap.size, 4, none⟩ = some (.int .i64 0) := K2.out.cell 4
      have l5 : W.cell? ⟨w2.heap.size, 5, none⟩ = some (.int .i64 0) := K2.out.cell 5
      have l6 : W.cell? ⟨w2.heap.size, 6, none⟩ = some (.int .i64 0) := K2.out.cell 6
      have l7 : W.cell? ⟨w2.heap.size, 7, none⟩ = some (.bool false) := K2.out.cell 7
      have l8 : W.cell? ⟨w2.heap.size, 8, none⟩ = some (.string ByteArray.empty) := K2.out.cell 8
      go_region_with (first
        | (go_at_call 13; go_must (refine (bare_errno _ _ _ (show Handle W.drew from HG1.out)).mono ?_); rintro e W1 ⟨rfl, hb3⟩; have q1 : ∀ i, W1.cell? ⟨w1.heap.size, i, none⟩ = W.cell? ⟨w1.heap.size, i, none⟩ := fun i => hb3.cell (p := ⟨w1.heap.size, i, none⟩) hW1; have q2 : ∀ i, W1.cell? ⟨w2.heap.size, i, none⟩ = W.cell? ⟨w2.heap.size, i, none⟩ := fun i => hb3.cell (p := ⟨w2.heap.size, i, none⟩) hW2; have HB3 : Hid (Below W.heap.size W W1) := ⟨hb3.os, hb3.tape, hb3.output, hb3.size, hb3.block⟩; have hW12 : W.heap.size ≤ W1.heap.size := hb3.size; clear hb3)
        | (go_at_call 17; refine (told_any { kind := 0, client := 0, number := 0, epoch := 0, session := 0, object := 0, version := 0, lease := false, data := [] } _).mono ?_; rintro e W2 ⟨rfl, hb4⟩; unfold Msg.val; have q3 : ∀ i, W2.cell? ⟨w1.heap.size, i, none⟩ = W1.cell? ⟨w1.heap.size, i, none⟩ := fun i => hb4.cell (p := ⟨w1.heap.size, i, none⟩) (by simp; omega); have HB4 : Hid (Below W1.heap.size W1 W2) := hb4; clear hb4))
      all_goals
        go_wp2
        go_ret
        exact ⟨rfl, HBW.out.trans ((HB3.out.mono (by have := HBW.out.size; omega)).trans (HB4.out.mono (by have := HBW.out.size; omega)))⟩
    | some m =>
      have HD := Lib.hid hd
      clear hd
      rw [rdecV_some HD.out]
      unfold Msg.val
      have R1 := Lib.hid (HRD.out.below hb1 (Nat.le_refl _))
      have R2 := Lib.hid ((R1.out.below ((Below.refl w1.heap.size w1).alloc (Nat.le_refl _) (.cells (msgCells m.kind m.client m.number m.epoch m.session m.object m.version m.lease ⟨m.data.toArray⟩) 36)) hs1).more (bound' := (w1.alloc (.cells (msgCells m.kind m.client m.number m.epoch m.session m.object m.version m.lease ⟨m.data.toArray⟩) 36)).heap.size) (by rw [World.size_alloc]; omega))
      go_wp2_with fail
      refine (Decode_any _ _ _ bs _ R2.out hcap hn).mono ?_
      rintro e w2 ⟨rfl, hb2⟩
      rw [decV_some HD.out]
      unfold Msg.val
      have hs2 := hb2.size
      rw [World.size_alloc] at hb2 hs2
      have K1 := Lib.hid (((Has.new w1 (.cells (msgCells m.kind m.client m.number m.epoch m.session m.object m.version m.lease ⟨m.data.toArray⟩) 36)).below hb2 (by omega)).alloc (.cells (msgCells m.kind m.client m.number m.epoch m.session m.object m.version m.lease ⟨m.data.toArray⟩) 32))
      have K2 := Lib.hid (Has.new w2 (.cells (msgCells m.kind m.client m.number m.epoch m.session m.object m.version m.lease ⟨m.data.toArray⟩) 32))
      have HBW : Hid (Below w.heap.size w (w2.alloc (.cells (msgCells m.kind m.client m.number m.epoch m.session m.object m.version m.lease ⟨m.data.toArray⟩) 32))) := ((hb1.trans ((Below.refl _ _).alloc hs1 _)).trans (hb2.mono (by omega))).alloc (by omega) _
      have HG1 := Lib.hid (HG.out.below HBW.out)
      have hsz : (w2.alloc (.cells (msgCells m.kind m.client m.number m.epoch m.session m.object m.version m.lease ⟨m.data.toArray⟩) 32)).heap.size = w2.heap.size + 1 := World.size_alloc _ _
      have eqm := eq_ref m.kind m.client m.number m.epoch m.session m.object m.version m.lease ⟨m.data.toArray⟩
      clear hb1 hb2 R1 R2
      go_wp2_with fail
      generalize w2.alloc (.cells #[.int .i64 m.kind, .int .i64 m.client, .int .i64 m.number, .int .i64 m.epoch, .int .i64 m.session, .int .i64 m.object, .int .i64 m.version, .bool m.lease, .string ⟨m.data.toArray⟩] 32) = W at K1 K2 HBW HG1 hsz ⊢
      have hW2 : w2.heap.size < W.heap.size := by omega
      have hW1 : w1.heap.size < W.heap.size := by omega
      have HSZ := Lib.hid hsz
      clear hsz
      have k0 : W.cell? ⟨w1.heap.size, 0, none⟩ = some (.int .i64 m.kind) := K1.out.cell 0
      have k1 : W.cell? ⟨w1.heap.size, 1, none⟩ = some (.int .i64 m.client) := K1.out.cell 1
      have k2 : W.cell? ⟨w1.heap.size, 2, none⟩ = some (.int .i64 m.number) := K1.out.cell 2
      have k3 : W.cell? ⟨w1.heap.size, 3, none⟩ = some (.int .i64 m.epoch) := K1.out.cell 3
      have k4 : W.cell? ⟨w1.heap.size, 4, none⟩ = some (.int .i64 m.session) := K1.out.cell 4
      have k5 : W.cell? ⟨w1.heap.size, 5, none⟩ = some (.int .i64 m.object) := K1.out.cell 5
      have k6 : W.cell? ⟨w1.heap.size, 6, none⟩ = some (.int .i64 m.version) := K1.out.cell 6
      have k7 : W.cell? ⟨w1.heap.size, 7, none⟩ = some (.bool m.lease) := K1.out.cell 7
      have k8 : W.cell? ⟨w1.heap.size, 8, none⟩ = some (.string ⟨m.data.toArray⟩) := K1.out.cell 8
      have l0 : W.cell? ⟨w2.heap.size, 0, none⟩ = some (.int .i64 m.kind) := K2.out.cell 0
      have l1 : W.cell? ⟨w2.heap.size, 1, none⟩ = some (.int .i64 m.client) := K2.out.cell 1
      have l2 : W.cell? ⟨w2.heap.size, 2, none⟩ = some (.int .i64 m.number) := K2.out.cell 2
      have l3 : W.cell? ⟨w2.heap.size, 3, none⟩ = some (.int .i64 m.epoch) := K2.out.cell 3
      have l4 : W.cell? ⟨w2.heap.size, 4, none⟩ = some (.int .i64 m.session) := K2.out.cell 4
      have l5 : W.cell? ⟨w2.heap.size, 5, none⟩ = some (.int .i64 m.object) := K2.out.cell 5
      have l6 : W.cell? ⟨w2.heap.size, 6, none⟩ = some (.int .i64 m.version) := K2.out.cell 6
      have l7 : W.cell? ⟨w2.heap.size, 7, none⟩ = some (.bool m.lease) := K2.out.cell 7
      have l8 : W.cell? ⟨w2.heap.size, 8, none⟩ = some (.string ⟨m.data.toArray⟩) := K2.out.cell 8
      go_region_with (first
        | (go_at_call 13; refine (bare_nil _ _).mono ?_; rintro e W1 ⟨rfl, hw3⟩; have hb3 : Below W.drew.heap.size W.drew W1 := hw3 ▸ Below.refl _ _; clear hw3; have q1 : ∀ i, W1.cell? ⟨w1.heap.size, i, none⟩ = W.cell? ⟨w1.heap.size, i, none⟩ := fun i => hb3.cell (p := ⟨w1.heap.size, i, none⟩) hW1; have q2 : ∀ i, W1.cell? ⟨w2.heap.size, i, none⟩ = W.cell? ⟨w2.heap.size, i, none⟩ := fun i => hb3.cell (p := ⟨w2.heap.size, i, none⟩) hW2; have HB3 : Hid (Below W.heap.size W W1) := ⟨hb3.os, hb3.tape, hb3.output, hb3.size, hb3.block⟩; have hW12 : W.heap.size ≤ W1.heap.size := hb3.size; clear hb3)
        | (go_at_call 17; refine (told_any m _).mono ?_; rintro e W2 ⟨rfl, hb4⟩; unfold Msg.val; have q3 : ∀ i, W2.cell? ⟨w1.heap.size, i, none⟩ = W1.cell? ⟨w1.heap.size, i, none⟩ := fun i => hb4.cell (p := ⟨w1.heap.size, i, none⟩) (by simp; omega); have HB4 : Hid (Below W1.heap.size W1 W2) := hb4; clear hb4))
      all_goals
        go_wp2
        go_ret
        exact ⟨rfl, HBW.out.trans ((HB3.out.mono (by have := HBW.out.size; omega)).trans (HB4.out.mono (by have := HBW.out.size; omega)))⟩
end Go.Proofs.YthldfogmmjompaaDoor.refw
