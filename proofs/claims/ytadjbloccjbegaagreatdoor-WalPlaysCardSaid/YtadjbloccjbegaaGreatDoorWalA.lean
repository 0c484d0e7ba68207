/-
  wal: which records may be; a text's sum.
-/
import Derived.Test.YtadjbloccjbegaaGreatDoorRows
import Derived.WalkKit
import Derived.ProofKit
import Derived.OpenShut
import Derived.Test.YtadjbloccjbegaaGreatDoorWalP
import Derived.Test.YtadjbloccjbegaaGreatDoorOwn
import Derived.RegionTactic
import Derived.ChangeAlike
import Derived.StillTailTactics
import Derived.Deep.LoopGhost
namespace Go.Proofs.YtadjbloccjbegaaGreatDoor.wal
open Go.RowKit Go.Proofs.YtadjbloccjbegaaGreatDoor.heap Go.Proofs.YtadjbloccjbegaaGreatDoor.own Go.Proofs.YtadjbloccjbegaaGreatDoor.recs
open Go.Proofs.YtadjbloccjbegaaGreatDoor.model (Rec)
open Go.Proofs.YtadjbloccjbegaaGreatDoor.wire (okN)

abbrev recCells (a b c d : Int) (s : ByteArray) (e : Int) : Array Value := #[.int .i64 a, .int .i64 b, .int .i64 c, .int .i64 d, .string s, .int .i64 e]
def recV (r : Rec) : Value := .agg (recCells r.client r.number r.object r.version ⟨r.data.toArray⟩ r.epoch)

theorem ok_one (n : Int) (w : World) :
    Calls Tryz.prog 23 #[.int .i64 n] w fun e w' => e = .returned (.bool (okN n)) ∧ w = w' := by
  by_cases h1 : n < 0
  · have d1 : decide (0 ≤ n) = false := decide_eq_false (by omega)
    have h0 : okN n = false := decide_eq_false (by omega)
    rw [h0]
    clear h0
    go_enter Tryz.func23, Tryz.ntmps23
    go_wp2
    go_ret
    exact ⟨rfl, rfl⟩
  · have h2 : okN n = decide (n ≤ 1099511627776) := by unfold okN; simp only [decide_eq_decide]; omega
    rw [h2]
    have h3 : 0 ≤ n := by omega
    have d1 : decide (0 ≤ n) = true := decide_eq_true h3
    clear h1 h2 h3
    go_enter Tryz.func23, Tryz.ntmps23
    go_wp2
    go_ret
    exact ⟨rfl, rfl⟩

theorem fold_take (s : ByteArray) (k : Nat) (h : k < s.size) (a : Int) : (s.data.toList.take (k + 1)).foldl sumStep a = sumStep ((s.data.toList.take k).foldl sumStep a) (s[k]'h) := by
  have h' : k < s.data.toList.length := h
  rw [List.take_succ_eq_append_getElem h', List.foldl_append]
  rfl
theorem wrap_byte (c : UInt8) : IntKind.u64.wrap (c.toNat : Int) = c.toNat := by
  have h : IntKind.u64.wrap (c.toNat : Int) = (c.toNat : Int) % 18446744073709551616 := rfl
  have := c.toNat_lt
  rw [h]; omega
set_option maxHeartbeats 1000000 in
set_option maxRecDepth 100000 in
theorem sum_any (s : ByteArray) (hs : s.size < 4611686018427387904) (w : World) :
    Calls Tryz.prog 27 #[.string s] w fun e w' => e = .returned (.int .i64 (sumN s.data.toList)) ∧ w = w' := by
  go_enter Tryz.func27, Tryz.ntmps27
  go_wp2
  go_loop [7, 3] (fun q7 q3 => ∃ (k : Nat), k ≤ s.size ∧ q7 = .int .i64 k ∧ q3 = .int .u64 ((s.data.toList.take k).foldl sumStep 14695981039346656037)) (fun q7 _ => s.size - (intOf q7).toNat)
  case atStart => exact ⟨0, by omega, rfl, rfl⟩
  case round =>
    obtain ⟨k, hk, rfl, rfl⟩ := hrel
    obtain ⟨x, hx⟩ : ∃ x, x = (s.data.toList.take k).foldl sumStep 14695981039346656037 := ⟨_, rfl⟩
    have hx0 := fold_range (s.data.toList.take k) 14695981039346656037 (by decide) (by decide)
    rw [← hx] at hx0 ⊢
    have HX := Lib.hid hx
    clear hx
    have hl : s.data.toList.length = s.size := rfl
    by_cases hlt : k < s.size
    · have d0 : decide ((k : Int) < s.size) = true := decide_eq_true (by omega)
      have hki : (k : Int) < s.size := by omega
      have hstep : Hid ((s.data.toList.take (k + 1)).foldl sumStep 14695981039346656037 = sumStep x (s[k]'hlt)) := Lib.hid (by rw [fold_take s k hlt, HX.out])
      clear hk
      go_wp2
      go_round
      case rel => exact ⟨k + 1, by omega, rfl, by rw [hstep.out, wrap_byte]; rfl⟩
      case measure => show s.size - ((k : Int) + 1).toNat < s.size - (k : Int).toNat; omega
    · have d0 : decide ((k : Int) < s.size) = false := decide_eq_false (by omega)
      have hkk : k = s.size := by omega
      go_wp2
      go_ret
      refine ⟨?_, rfl⟩
      have e : sumN s.data.toList = x / 8 := by rw [sumN, HX.out, List.take_of_length_le (by omega)]
      rw [e]; rfl

end Go.Proofs.YtadjbloccjbegaaGreatDoor.wal
