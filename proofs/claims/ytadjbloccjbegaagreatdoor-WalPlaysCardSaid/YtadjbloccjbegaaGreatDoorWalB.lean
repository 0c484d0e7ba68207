/-
  wal.right: which records may be.
-/
import Derived.Test.YtadjbloccjbegaaGreatDoorWalA
import Derived.Test.YtadjbloccjbegaaGreatDoorRow
namespace Go.Proofs.YtadjbloccjbegaaGreatDoor.wal
open Go.RowKit Go.Proofs.YtadjbloccjbegaaGreatDoor.heap Go.Proofs.YtadjbloccjbegaaGreatDoor.own Go.Proofs.YtadjbloccjbegaaGreatDoor.recs
open Go.Proofs.YtadjbloccjbegaaGreatDoor.model (Rec)
open Go.Proofs.YtadjbloccjbegaaGreatDoor.wire (okN)

set_option maxHeartbeats 1000000 in
set_option maxRecDepth 100000 in
theorem right_any (r : Rec) (hs : r.data.length < 4611686018427387904) (w : World) :
    Calls Tryz.prog 14 #[recV r] w fun e w' => e = .returned (.bool r.right) ∧ Below w.heap.size w w' := by
  unfold recV
  obtain ⟨c, n, o, v, d, ep⟩ := r
  dsimp only
  dsimp only at hs
  obtain ⟨s, hs'⟩ : ∃ s : ByteArray, s = ⟨d.toArray⟩ := ⟨_, rfl⟩
  rw [← hs']
  have hz : s.size = d.length := by rw [hs']; rfl
  go_enter Tryz.func14, Tryz.ntmps14
  go_wp2_with (go_at_call 23; refine (ok_one _ _).mono ?_; rintro e w1 ⟨rfl, rfl⟩)
  all_goals
    go_ret
    refine ⟨?_, Below.alloc (Below.refl _ _) (Nat.le_refl _) _⟩
    show Ending.returned (Value.bool _) = Ending.returned (Value.bool _)
    congr 2
    clear hs' hs
    unfold Rec.right model.inR
    simp_all
  all_goals first
    | (intros; omega)
    | (have a : o ≤ 7 := by omega
       have b : List.length d ≤ 20 := by omega
       simp [a, b]; done)
    | (have a : o ≤ 7 := by omega
       have b : List.length d ≤ 20 := by omega
       by_cases e0 : ep = 0 <;> simp [a, b, e0])
end Go.Proofs.YtadjbloccjbegaaGreatDoor.wal
