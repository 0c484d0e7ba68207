/-
  strconv.unhex, strconv.UnquoteChar at the tokens that strconv.Quote writes.
-/
import Derived.Test.YtadjbloccjbegaaGreatDoorShelf
import Derived.Test.YtadjbloccjbegaaGreatDoorToks
import Derived.Test.YtadjbloccjbegaaGreatDoorHeap
import Derived.Test.YtadjbloccjbegaaGreatDoorRows
import Derived.WalkKit
import Derived.ProofKit
import Derived.OpenShut
import Derived.BigQuiet
import Derived.Deep.QuietTactic
namespace Go.Proofs.YtadjbloccjbegaaGreatDoor.unq
open Go.RowKit Go.Proofs.YtadjbloccjbegaaGreatDoor.toks

theorem results_tmp4 {fn : Func} {t u v x : Tmp} (h : fn.results = #[.tmp t, .tmp u, .tmp v, .tmp x]) (tmps : Array Value) (P : Program) (w : World) :
    (results fn tmps).run P w = .ok (.tuple #[tmps.getD t undef, tmps.getD u undef, tmps.getD v undef, tmps.getD x undef]) w := by
  simp [results, h]

theorem unhex_any (x : Nat) (hx : x < 16) (w : World) : Calls Tryz.prog 70 #[.int .u8 ((hd x).toNat : Int)] w fun e w' => e = .returned (.tuple #[.int .i32 x, .bool true]) ∧ w = w' := by
  by_cases h : x < 10
  · have e : (((hd x).toNat : Nat) : Int) = 48 + x := by unfold hd; rw [if_pos h]; simp; omega
    rw [e]
    have d1 : decide ((48 : Int) ≤ 48 + x) = true := by simp; omega
    have d2 : decide ((48 : Int) + x ≤ 57) = true := by simp; omega
    go_enter Tryz.func70, Tryz.ntmps70
    go_wp2
    go_ret2
    exact ⟨by rw [show (48 : Int) + x - 48 = x from by omega]; rfl, rfl⟩
  · have e : (((hd x).toNat : Nat) : Int) = 87 + x := by unfold hd; rw [if_neg h]; simp; omega
    rw [e]
    have d1 : decide ((48 : Int) ≤ 87 + x) = true := by simp; omega
    have d2 : decide ((87 : Int) + x ≤ 57) = false := by simp; omega
    have d3 : decide ((97 : Int) ≤ 87 + x) = true := by simp; omega
    have d4 : decide ((87 : Int) + x ≤ 102) = true := by simp; omega
    go_enter Tryz.func70, Tryz.ntmps70
    go_wp2
    go_ret2
    exact ⟨by rw [show (87 : Int) + x - 97 + 10 = x from by omega]; rfl, rfl⟩

theorem wrap32_small {n : Int} (h0 : 0 ≤ n) (h1 : n < 2147483648) : wrap32 n = n := by unfold wrap32; omega

set_option maxHeartbeats 4000000 in
set_option maxRecDepth 100000 in
theorem char_ascii (s : ByteArray) (hs : 0 < s.size) (hm : s.size < 100000) (h0 : 32 ≤ (s[0]'hs).toNat) (h1 : (s[0]'hs).toNat < 127) (h2 : (s[0]'hs).toNat ≠ 34) (h3 : (s[0]'hs).toNat ≠ 92) (w : World) :
    Calls Tryz.prog 51 #[.string s, .int .u8 34] w fun e w' => e = .returned (.tuple #[.int .i32 (s[0]'hs).toNat, .bool false, .string (s.extract 1 s.size), .nilIface]) ∧ ∃ n, w' = w.drewN n := by
  have b0 : ((s.size : Int) == 0) = false := beq_eq_false_iff_ne.mpr (by omega)
  have b1 : (((s[0]'hs).toNat : Int) == 34) = false := beq_eq_false_iff_ne.mpr (by omega)
  have b2 : decide ((128 : Int) ≤ (s[0]'hs).toNat) = false := decide_eq_false (by omega)
  have b3 : (((s[0]'hs).toNat : Int) != 92) = true := bne_iff_ne.mpr (by omega)
  have hsI : (0 : Int) < s.size := by omega
  have HW : Hid (wrap32 ((s[0]'hs).toNat : Int) = (s[0]'hs).toNat) := Lib.hid (wrap32_small (by omega) (by omega))
  clear h0 h1 h2 h3
  go_enter Tryz.func51, Tryz.ntmps51
  go_wp2
  go_quiet (fail)
  go_wp2
  refine bodyPost_ret (results_tmp4 rfl _ _ _) rfl ?_
  rw [HW.out]
  exact ⟨rfl, _, rfl⟩

set_option maxHeartbeats 4000000 in
set_option maxRecDepth 100000 in
theorem char_short (s : ByteArray) (hs : 1 < s.size) (hm : s.size < 100000) (h0 : (s[0]'(by omega)).toNat = 92) (v : Int) (h : Short (s[1]'hs) v) (w : World) :
    Calls Tryz.prog 51 #[.string s, .int .u8 34] w fun e w' => e = .returned (.tuple #[.int .i32 v, .bool false, .string (s.extract 2 s.size), .nilIface]) ∧ w = w' := by
  have b0 : ((s.size : Int) == 0) = false := beq_eq_false_iff_ne.mpr (by omega)
  have b1 : decide ((s.size : Int) ≤ 1) = false := decide_eq_false (by omega)
  have e0 : ((s[0]'(by omega)).toNat : Int) = 92 := by omega
  have hsI : (0 : Int) < s.size := by omega
  have hsJ : (1 : Int) < s.size := by omega
  have hsK : (2 : Int) ≤ s.size := by omega
  unfold Short at h
  rcases h with ⟨h1, rfl⟩ | ⟨h1, rfl⟩ | ⟨h1, rfl⟩ | ⟨h1, rfl⟩ | ⟨h1, rfl⟩ | ⟨h1, rfl⟩ | ⟨h1, rfl⟩ | ⟨h1, rfl⟩ | ⟨h1, rfl⟩
  · have e1 : ((s[1]'hs).toNat : Int) = 97 := by rw [h1]; rfl
    clear h0 h1
    go_enter Tryz.func51, Tryz.ntmps51
    go_wp2
    refine bodyPost_ret (results_tmp4 rfl _ _ _) rfl ?_
    exact ⟨rfl, rfl⟩
  · have e1 : ((s[1]'hs).toNat : Int) = 98 := by rw [h1]; rfl
    clear h0 h1
    go_enter Tryz.func51, Tryz.ntmps51
    go_wp2
    refine bodyPost_ret (results_tmp4 rfl _ _ _) rfl ?_
    exact ⟨rfl, rfl⟩
  · have e1 : ((s[1]'hs).toNat : Int) = 102 := by rw [h1]; rfl
    clear h0 h1
    go_enter Tryz.func51, Tryz.ntmps51
    go_wp2
    refine bodyPost_ret (results_tmp4 rfl _ _ _) rfl ?_
    exact ⟨rfl, rfl⟩
  · have e1 : ((s[1]'hs).toNat : Int) = 110 := by rw [h1]; rfl
    clear h0 h1
    go_enter Tryz.func51, Tryz.ntmps51
    go_wp2
    refine bodyPost_ret (results_tmp4 rfl _ _ _) rfl ?_
    exact ⟨rfl, rfl⟩
  · have e1 : ((s[1]'hs).toNat : Int) = 114 := by rw [h1]; rfl
    clear h0 h1
    go_enter Tryz.func51, Tryz.ntmps51
    go_wp2
    refine bodyPost_ret (results_tmp4 rfl _ _ _) rfl ?_
    exact ⟨rfl, rfl⟩
  · have e1 : ((s[1]'hs).toNat : Int) = 116 := by rw [h1]; rfl
    clear h0 h1
    go_enter Tryz.func51, Tryz.ntmps51
    go_wp2
    refine bodyPost_ret (results_tmp4 rfl _ _ _) rfl ?_
    exact ⟨rfl, rfl⟩
  · have e1 : ((s[1]'hs).toNat : Int) = 118 := by rw [h1]; rfl
    clear h0 h1
    go_enter Tryz.func51, Tryz.ntmps51
    go_wp2
    refine bodyPost_ret (results_tmp4 rfl _ _ _) rfl ?_
    exact ⟨rfl, rfl⟩
  · have e1 : ((s[1]'hs).toNat : Int) = 92 := by rw [h1]; rfl
    clear h0 h1
    go_enter Tryz.func51, Tryz.ntmps51
    go_wp2
    refine bodyPost_ret (results_tmp4 rfl _ _ _) rfl ?_
    exact ⟨rfl, rfl⟩
  · have e1 : ((s[1]'hs).toNat : Int) = 34 := by rw [h1]; rfl
    clear h0 h1
    go_enter Tryz.func51, Tryz.ntmps51
    go_wp2
    refine bodyPost_ret (results_tmp4 rfl _ _ _) rfl ?_
    exact ⟨rfl, rfl⟩
end Go.Proofs.YtadjbloccjbegaaGreatDoor.unq
