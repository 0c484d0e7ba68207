/-
  strconv.UnquoteChar at runes of many bytes, and at hexadecimal escapes.
-/
import Derived.Test.YtadjbloccjbegaaGreatDoorUnqA
import Derived.Test.YtadjbloccjbegaaGreatDoorOwn
namespace Go.Proofs.YtadjbloccjbegaaGreatDoor.unq
open Go.RowKit Go.Proofs.YtadjbloccjbegaaGreatDoor.toks

abbrev U8 (w : World) : Prop := Lib.Utf8Tabs 4 5 w

theorem below_drewN {B : Nat} {w w1 : World} (h : Below B w w1) (n : Nat) : Below B w (w1.drewN n) := ⟨h.os, h.tape, h.output, h.size, h.block⟩

set_option maxHeartbeats 4000000 in
set_option maxRecDepth 100000 in
theorem char_multi (s : ByteArray) (hs : 0 < s.size) (hm : s.size < 100000) (h0 : 128 ≤ (s[0]'hs).toNat) (R K : Nat) (hR : (Lib.decodeGo s).1 = R) (hK : (Lib.decodeGo s).2 = K) (hKs : K ≤ s.size) (w : World) (hU : U8 w) :
    Calls Tryz.prog 51 #[.string s, .int .u8 34] w fun e w' => e = .returned (.tuple #[.int .i32 R, .bool true, .string (s.extract K s.size), .nilIface]) ∧ Below w.heap.size w w' := by
  have c1 := Tryz.utf8_DecodeRuneInString s w hU
  rw [hR, hK] at c1
  have b0 : ((s.size : Int) == 0) = false := beq_eq_false_iff_ne.mpr (by omega)
  have b1 : (((s[0]'hs).toNat : Int) == 34) = false := beq_eq_false_iff_ne.mpr (by omega)
  have b2 : decide ((128 : Int) ≤ (s[0]'hs).toNat) = true := decide_eq_true (by omega)
  have hsI : (0 : Int) < s.size := by omega
  have hsK : (K : Int) ≤ s.size := by omega
  clear h0 hU hR hK
  go_enter Tryz.func51, Tryz.ntmps51
  go_wp2_with (go_at_call 50; refine c1.mono ?_; rintro e w1 ⟨rfl, hb1⟩)
  go_quiet (fail)
  go_wp2
  refine bodyPost_ret (results_tmp4 rfl _ _ _) rfl ?_
  exact ⟨rfl, below_drewN hb1 _⟩

theorem i32_or_nat (a b : Nat) (ha : a < 2147483648) (hb : b < 2147483648) : bits .or .i32 (a : Int) (b : Int) = ((a ||| b : Nat) : Int) := by
  have h : a ||| b < 2147483648 := Nat.or_lt_two_pow (n := 31) ha hb
  have e : (BitVec.ofInt IntKind.i32.bits (a : Int) ||| BitVec.ofInt IntKind.i32.bits (b : Int)).toNat = a ||| b := by
    rw [BitVec.toNat_or, BitVec.toNat_ofInt, BitVec.toNat_ofInt]
    congr 1 <;> (simp [IntKind.bits]; omega)
  unfold bits
  simp only
  rw [e]
  rw [IntKind.wrap_i32]
  omega
theorem or16 (y x : Nat) (hx : x < 16) (hy : y * 16 < 2147483632) : bits BinOp.or IntKind.i32 ((y * 16 : Nat) : Int) (x : Int) = ((y * 16 + x : Nat) : Int) := by
  rw [i32_or_nat (y * 16) x (by omega) (by omega)]
  congr 1
  rw [show (16 : Nat) = 2 ^ 4 from rfl, ← Nat.shiftLeft_eq, Nat.shiftLeft_add_eq_or_of_lt hx]

set_option maxHeartbeats 4000000 in
set_option maxRecDepth 100000 in
theorem char_x (s : ByteArray) (hs : 4 ≤ s.size) (hm : s.size < 100000) (h0 : (s[0]'(by omega)).toNat = 92) (h1 : (s[1]'(by omega)).toNat = 120) (r : Nat) (hr : r < 256)
    (hdig : ∀ (k : Nat) (h : k < (s.extract 2 s.size).size), k < 2 → (s.extract 2 s.size)[k]'h = hd (r / 16 ^ (1 - k) % 16)) (w : World) :
    Calls Tryz.prog 51 #[.string s, .int .u8 34] w fun e w' => e = .returned (.tuple #[.int .i32 r, .bool false, .string ((s.extract 2 s.size).extract 2 (s.extract 2 s.size).size), .nilIface]) ∧ w = w' := by
  obtain ⟨s2, hs2⟩ : ∃ s2, s2 = s.extract 2 s.size := ⟨_, rfl⟩
  have hsz : s2.size = s.size - 2 := by rw [hs2]; simp
  have b0 : ((s.size : Int) == 0) = false := beq_eq_false_iff_ne.mpr (by omega)
  have b1 : decide ((s.size : Int) ≤ 1) = false := decide_eq_false (by omega)
  have e0 : ((s[0]'(by omega)).toNat : Int) = 92 := by omega
  have e1 : ((s[1]'(by omega)).toNat : Int) = 120 := by omega
  have hsI : (0 : Int) < s.size := by omega
  have hsJ : (1 : Int) < s.size := by omega
  have hsK : (2 : Int) ≤ s.size := by omega
  have b2 : decide ((s2.size : Int) < 2) = false := decide_eq_false (by omega)
  have hs2n : 2 ≤ s2.size := by omega
  have hs2m : s2.size < 100000 := by omega
  rw [← hs2]
  have HD : Hid (∀ (k : Nat) (h : k < s2.size), k < 2 → s2[k]'h = hd (r / 16 ^ (1 - k) % 16)) := Lib.hid (by subst hs2; exact hdig)
  have hs2' := hs2.symm
  clear h0 h1 hs2 hdig hsz
  go_enter Tryz.func51, Tryz.ntmps51
  go_wp2
  go_loopw [7, 13, 14, 15, 16] (fun e v j _ _ wr => ∃ k : Nat, k ≤ 2 ∧ j = .int .i64 k ∧ v = .int .i32 ((r / 16 ^ (2 - k) : Nat) : Int) ∧ wr = w ∧ e = .nilIface) (fun _ _ j _ _ _ => 2 - (intOf j).toNat)
  case atStart => exact ⟨0, by omega, by simp, by rw [Nat.div_eq_of_lt (by omega)]; rfl, by simp⟩
  case round =>
    obtain ⟨k, hk, rfl, rfl, rfl, rfl⟩ := hrel
    by_cases hkn : k < 2
    · have hkI : (k : Int) < 2 := by omega
      have hk2 : (k : Int) < s2.size := by omega
      have hk3 : k < s2.size := by omega
      obtain ⟨x, hx⟩ : ∃ x, x = r / 16 ^ (1 - k) % 16 := ⟨_, rfl⟩
      have hx16 : x < 16 := by omega
      have ek : ((s2[k]'hk3).toNat : Int) = ((hd x).toNat : Int) := by rw [HD.out k hk3 hkn, hx]
      obtain ⟨y, hy⟩ : ∃ y, y = r / 16 ^ (2 - k) := ⟨_, rfl⟩
      have HQ : Hid (r / 16 ^ (2 - (k + 1)) = y * 16 + x) := Lib.hid (by
        rw [hx, hy, show 2 - k = (2 - (k + 1)) + 1 from by omega, Nat.pow_succ, ← Nat.div_div_eq_div_mul, show 1 - k = 2 - (k + 1) from by omega]
        omega)
      have HYR : Hid (y * 16 ≤ r) := Lib.hid (by have h1 := Nat.div_le_self r (16 ^ (2 - (k + 1))); have h2 := HQ.out; omega)
      rw [← hy]
      clear hx hy
      go_wp2_with (go_at_call 70; refine (unhex_any x hx16 _).mono ?_; rintro e w1 ⟨rfl, rfl⟩)
      go_roundw
      case rel =>
        refine ⟨k + 1, by omega, by go_num, ?_, by simp⟩
        have h5 := HYR.out
        rw [wrap32_small (by omega) (by omega), show ((y : Int) * 16) = ((y * 16 : Nat) : Int) from by omega, or16 y x hx16 (by omega), HQ.out]
      case measure => simp [intOf]; omega
    · have hkI : ¬ (k : Int) < 2 := by omega
      obtain rfl : k = 2 := by omega
      have hpw : r / 16 ^ (2 - 2) = r := by simp
      rw [hpw]
      go_wp2
      refine bodyPost_ret (results_tmp4 rfl _ _ _) rfl ?_
      exact ⟨rfl, rfl⟩

set_option maxHeartbeats 4000000 in
set_option maxRecDepth 100000 in
theorem char_u (s : ByteArray) (hs : 6 ≤ s.size) (hm : s.size < 100000) (h0 : (s[0]'(by omega)).toNat = 92) (h1 : (s[1]'(by omega)).toNat = 117) (r : Nat) (hr : r < 65536) (hv : Lib.validRune (r : Int) = true)
    (hdig : ∀ (k : Nat) (h : k < (s.extract 2 s.size).size), k < 4 → (s.extract 2 s.size)[k]'h = hd (r / 16 ^ (3 - k) % 16)) (w : World) :
    Calls Tryz.prog 51 #[.string s, .int .u8 34] w fun e w' => e = .returned (.tuple #[.int .i32 r, .bool true, .string ((s.extract 2 s.size).extract 4 (s.extract 2 s.size).size), .nilIface]) ∧ w = w' := by
  obtain ⟨s2, hs2⟩ : ∃ s2, s2 = s.extract 2 s.size := ⟨_, rfl⟩
  have hsz : s2.size = s.size - 2 := by rw [hs2]; simp
  have b0 : ((s.size : Int) == 0) = false := beq_eq_false_iff_ne.mpr (by omega)
  have b1 : decide ((s.size : Int) ≤ 1) = false := decide_eq_false (by omega)
  have e0 : ((s[0]'(by omega)).toNat : Int) = 92 := by omega
  have e1 : ((s[1]'(by omega)).toNat : Int) = 117 := by omega
  have hsI : (0 : Int) < s.size := by omega
  have hsJ : (1 : Int) < s.size := by omega
  have hsK : (2 : Int) ≤ s.size := by omega
  have b2 : decide ((s2.size : Int) < 4) = false := decide_eq_false (by omega)
  have hs2n : 4 ≤ s2.size := by omega
  have hs2m : s2.size < 100000 := by omega
  rw [← hs2]
  have HD : Hid (∀ (k : Nat) (h : k < s2.size), k < 4 → s2[k]'h = hd (r / 16 ^ (3 - k) % 16)) := Lib.hid (by subst hs2; exact hdig)
  have hs2' := hs2.symm
  clear h0 h1 hs2 hdig hsz
  have cv := Tryz.utf8_ValidRune (r : Int) w
  rw [hv] at cv
  clear hv
  go_enter Tryz.func51, Tryz.ntmps51
  go_wp2
  go_loopw [7, 13, 14, 15, 16] (fun e v j _ _ wr => ∃ k : Nat, k ≤ 4 ∧ j = .int .i64 k ∧ v = .int .i32 ((r / 16 ^ (4 - k) : Nat) : Int) ∧ wr = w ∧ e = .nilIface) (fun _ _ j _ _ _ => 4 - (intOf j).toNat)
  case atStart => exact ⟨0, by omega, by simp, by rw [Nat.div_eq_of_lt (by omega)]; rfl, by simp⟩
  case round =>
    obtain ⟨k, hk, rfl, rfl, rfl, rfl⟩ := hrel
    by_cases hkn : k < 4
    · have hkI : (k : Int) < 4 := by omega
      have hk2 : (k : Int) < s2.size := by omega
      have hk3 : k < s2.size := by omega
      obtain ⟨x, hx⟩ : ∃ x, x = r / 16 ^ (3 - k) % 16 := ⟨_, rfl⟩
      have hx16 : x < 16 := by omega
      have ek : ((s2[k]'hk3).toNat : Int) = ((hd x).toNat : Int) := by rw [HD.out k hk3 hkn, hx]
      obtain ⟨y, hy⟩ : ∃ y, y = r / 16 ^ (4 - k) := ⟨_, rfl⟩
      have HQ : Hid (r / 16 ^ (4 - (k + 1)) = y * 16 + x) := Lib.hid (by
        rw [hx, hy, show 4 - k = (4 - (k + 1)) + 1 from by omega, Nat.pow_succ, ← Nat.div_div_eq_div_mul, show 3 - k = 4 - (k + 1) from by omega]
        omega)
      have HYR : Hid (y * 16 ≤ r) := Lib.hid (by have h1 := Nat.div_le_self r (16 ^ (4 - (k + 1))); have h2 := HQ.out; omega)
      rw [← hy]
      clear hx hy
      go_wp2_with (go_at_call 70; refine (unhex_any x hx16 _).mono ?_; rintro e w1 ⟨rfl, rfl⟩)
      go_roundw
      case rel =>
        refine ⟨k + 1, by omega, by go_num, ?_, by simp⟩
        have h5 := HYR.out
        rw [wrap32_small (by omega) (by omega), show ((y : Int) * 16) = ((y * 16 : Nat) : Int) from by omega, or16 y x hx16 (by omega), HQ.out]
      case measure => simp [intOf]; omega
    · have hkI : ¬ (k : Int) < 4 := by omega
      obtain rfl : k = 4 := by omega
      have hpw : r / 16 ^ (4 - 4) = r := by simp
      rw [hpw]
      go_wp2_with (go_at_call 71; refine cv.mono ?_; rintro e w1 ⟨rfl, rfl⟩)
      refine bodyPost_ret (results_tmp4 rfl _ _ _) rfl ?_
      exact ⟨rfl, rfl⟩

set_option maxHeartbeats 4000000 in
set_option maxRecDepth 100000 in
theorem char_U (s : ByteArray) (hs : 10 ≤ s.size) (hm : s.size < 100000) (h0 : (s[0]'(by omega)).toNat = 92) (h1 : (s[1]'(by omega)).toNat = 85) (r : Nat) (hr : r < 1114112) (hv : Lib.validRune (r : Int) = true)
    (hdig : ∀ (k : Nat) (h : k < (s.extract 2 s.size).size), k < 8 → (s.extract 2 s.size)[k]'h = hd (r / 16 ^ (7 - k) % 16)) (w : World) :
    Calls Tryz.prog 51 #[.string s, .int .u8 34] w fun e w' => e = .returned (.tuple #[.int .i32 r, .bool true, .string ((s.extract 2 s.size).extract 8 (s.extract 2 s.size).size), .nilIface]) ∧ w = w' := by
  obtain ⟨s2, hs2⟩ : ∃ s2, s2 = s.extract 2 s.size := ⟨_, rfl⟩
  have hsz : s2.size = s.size - 2 := by rw [hs2]; simp
  have b0 : ((s.size : Int) == 0) = false := beq_eq_false_iff_ne.mpr (by omega)
  have b1 : decide ((s.size : Int) ≤ 1) = false := decide_eq_false (by omega)
  have e0 : ((s[0]'(by omega)).toNat : Int) = 92 := by omega
  have e1 : ((s[1]'(by omega)).toNat : Int) = 85 := by omega
  have hsI : (0 : Int) < s.size := by omega
  have hsJ : (1 : Int) < s.size := by omega
  have hsK : (2 : Int) ≤ s.size := by omega
  have b2 : decide ((s2.size : Int) < 8) = false := decide_eq_false (by omega)
  have hs2n : 8 ≤ s2.size := by omega
  have hs2m : s2.size < 100000 := by omega
  rw [← hs2]
  have HD : Hid (∀ (k : Nat) (h : k < s2.size), k < 8 → s2[k]'h = hd (r / 16 ^ (7 - k) % 16)) := Lib.hid (by subst hs2; exact hdig)
  have hs2' := hs2.symm
  clear h0 h1 hs2 hdig hsz
  have cv := Tryz.utf8_ValidRune (r : Int) w
  rw [hv] at cv
  clear hv
  go_enter Tryz.func51, Tryz.ntmps51
  go_wp2
  go_loopw [7, 13, 14, 15, 16] (fun e v j _ _ wr => ∃ k : Nat, k ≤ 8 ∧ j = .int .i64 k ∧ v = .int .i32 ((r / 16 ^ (8 - k) : Nat) : Int) ∧ wr = w ∧ e = .nilIface) (fun _ _ j _ _ _ => 8 - (intOf j).toNat)
  case atStart => exact ⟨0, by omega, by simp, by rw [Nat.div_eq_of_lt (by omega)]; rfl, by simp⟩
  case round =>
    obtain ⟨k, hk, rfl, rfl, rfl, rfl⟩ := hrel
    by_cases hkn : k < 8
    · have hkI : (k : Int) < 8 := by omega
      have hk2 : (k : Int) < s2.size := by omega
      have hk3 : k < s2.size := by omega
      obtain ⟨x, hx⟩ : ∃ x, x = r / 16 ^ (7 - k) % 16 := ⟨_, rfl⟩
      have hx16 : x < 16 := by omega
      have ek : ((s2[k]'hk3).toNat : Int) = ((hd x).toNat : Int) := by rw [HD.out k hk3 hkn, hx]
      obtain ⟨y, hy⟩ : ∃ y, y = r / 16 ^ (8 - k) := ⟨_, rfl⟩
      have HQ : Hid (r / 16 ^ (8 - (k + 1)) = y * 16 + x) := Lib.hid (by
        rw [hx, hy, show 8 - k = (8 - (k + 1)) + 1 from by omega, Nat.pow_succ, ← Nat.div_div_eq_div_mul, show 7 - k = 8 - (k + 1) from by omega]
        omega)
      have HYR : Hid (y * 16 ≤ r) := Lib.hid (by have h1 := Nat.div_le_self r (16 ^ (8 - (k + 1))); have h2 := HQ.out; omega)
      rw [← hy]
      clear hx hy
      go_wp2_with (go_at_call 70; refine (unhex_any x hx16 _).mono ?_; rintro e w1 ⟨rfl, rfl⟩)
      go_roundw
      case rel =>
        refine ⟨k + 1, by omega, by go_num, ?_, by simp⟩
        have h5 := HYR.out
        rw [wrap32_small (by omega) (by omega), show ((y : Int) * 16) = ((y * 16 : Nat) : Int) from by omega, or16 y x hx16 (by omega), HQ.out]
      case measure => simp [intOf]; omega
    · have hkI : ¬ (k : Int) < 8 := by omega
      obtain rfl : k = 8 := by omega
      have hpw : r / 16 ^ (8 - 8) = r := by simp
      rw [hpw]
      go_wp2_with (go_at_call 71; refine cv.mono ?_; rintro e w1 ⟨rfl, rfl⟩)
      refine bodyPost_ret (results_tmp4 rfl _ _ _) rfl ?_
      exact ⟨rfl, rfl⟩
end Go.Proofs.YtadjbloccjbegaaGreatDoor.unq
