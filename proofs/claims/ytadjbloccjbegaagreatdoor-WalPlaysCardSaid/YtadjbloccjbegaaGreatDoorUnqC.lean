/-
  strconv.UnquoteChar at whatever token strconv.Quote writes.
-/
import Derived.Test.YtadjbloccjbegaaGreatDoorUnqB
namespace Go.Proofs.YtadjbloccjbegaaGreatDoor.unq
open Go.RowKit Go.Proofs.YtadjbloccjbegaaGreatDoor.toks

theorem ba_ext {a b : ByteArray} (h : a.data.toList = b.data.toList) : a = b := by
  obtain ⟨⟨x⟩⟩ := a
  obtain ⟨⟨y⟩⟩ := b
  simp only at h
  rw [h]
theorem cut_at (l r : Bytes) (s : ByteArray) (e : s = ⟨(l ++ r).toArray⟩) (k : Nat) (hk : k = l.length) : s.extract k s.size = ⟨r.toArray⟩ := by
  apply ba_ext
  rw [Lib.extract_to_end, e, hk]
  simp
theorem decode_enc (r : Nat) (h0 : 128 ≤ r) (hv : Lib.validRune (r : Int) = true) (rest : Bytes) : Lib.decodeGo ⟨(Lib.encodeRune r ++ rest).toArray⟩ = (r, (Lib.encodeRune r).length) := by
  have hv' : ((r : Int) < 55296) ∨ (57343 < (r : Int) ∧ (r : Int) ≤ 1114111) := by
    simp only [Lib.validRune, decide_eq_true_eq] at hv
    omega
  clear hv
  have hlen := Lib.encodeRuneZ_length r
  have hne : (Lib.encodeRune r).length = (Lib.encodeRuneZ r).length := by simp [Lib.encodeRune]
  unfold Lib.decodeGo
  rw [if_neg (by simp [ByteArray.size]; intro h; rw [h] at hne; simp at hne; omega)]
  have : Utf8.decode ⟨(Lib.encodeRune r ++ rest).toArray⟩ 0 = Lib.decodeL (Lib.encodeRune r ++ rest) := rfl
  rw [this, Lib.decodeL_N]
  by_cases h1 : r ≤ 2047
  · have e : Lib.encodeRune r = [UInt8.ofNat (192 + r / 64), UInt8.ofNat (128 + r % 64)] := by
      unfold Lib.encodeRune
      rw [Lib.encodeRuneZ_two (by omega) (by omega)]
      simp only [List.map_cons, List.map_nil]
      congr 2
      all_goals
        congr 1
        omega
    rw [e]
    simp only [List.cons_append, List.nil_append, List.length_cons, List.getD_cons_zero, List.getD_cons_succ]
    have e0 : (UInt8.ofNat (192 + r / 64)).toNat = 192 + r / 64 := by simp; omega
    have e1 : (UInt8.ofNat (128 + r % 64)).toNat = 128 + r % 64 := by simp; omega
    rw [e0, e1]
    unfold Lib.decodeN
    repeat' split
    all_goals first
      | omega
      | (refine Prod.ext ?_ ?_ <;> simp only [List.length_nil] <;> omega)
  · by_cases h2 : r ≤ 65535
    · have e : Lib.encodeRune r = [UInt8.ofNat (224 + r / 4096), UInt8.ofNat (128 + r / 64 % 64), UInt8.ofNat (128 + r % 64)] := by
        unfold Lib.encodeRune
        rw [Lib.encodeRuneZ_three (by omega)]
        simp only [List.map_cons, List.map_nil]
        congr 2
      rw [e]
      simp only [List.cons_append, List.nil_append, List.length_cons, List.getD_cons_zero, List.getD_cons_succ]
      have e0 : (UInt8.ofNat (224 + r / 4096)).toNat = 224 + r / 4096 := by simp; omega
      have e1 : (UInt8.ofNat (128 + r / 64 % 64)).toNat = 128 + r / 64 % 64 := by simp; omega
      have e2 : (UInt8.ofNat (128 + r % 64)).toNat = 128 + r % 64 := by simp; omega
      rw [e0, e1, e2]
      unfold Lib.decodeN
      repeat' split
      all_goals first
        | omega
        | (refine Prod.ext ?_ ?_ <;> simp only [List.length_nil] <;> omega)
    · have e : Lib.encodeRune r = [UInt8.ofNat (240 + r / 262144), UInt8.ofNat (128 + r / 4096 % 64), UInt8.ofNat (128 + r / 64 % 64), UInt8.ofNat (128 + r % 64)] := by
        unfold Lib.encodeRune
        rw [Lib.encodeRuneZ_four (by omega) (by omega)]
        simp only [List.map_cons, List.map_nil]
        congr 2
      rw [e]
      simp only [List.cons_append, List.nil_append, List.length_cons, List.getD_cons_zero, List.getD_cons_succ]
      have e0 : (UInt8.ofNat (240 + r / 262144)).toNat = 240 + r / 262144 := by simp; omega
      have e1 : (UInt8.ofNat (128 + r / 4096 % 64)).toNat = 128 + r / 4096 % 64 := by simp; omega
      have e2 : (UInt8.ofNat (128 + r / 64 % 64)).toNat = 128 + r / 64 % 64 := by simp; omega
      have e3 : (UInt8.ofNat (128 + r % 64)).toNat = 128 + r % 64 := by simp; omega
      rw [e0, e1, e2, e3]
      unfold Lib.decodeN
      repeat' split
      all_goals first
        | omega
        | (refine Prod.ext ?_ ?_ <;> simp only [List.length_nil] <;> omega)
theorem enc_head (r : Nat) (h0 : 128 ≤ r) (hv : Lib.validRune (r : Int) = true) : ∃ b l, Lib.encodeRune r = b :: l ∧ 128 ≤ b.toNat := by
  have hv' : ((r : Int) < 55296) ∨ (57343 < (r : Int) ∧ (r : Int) ≤ 1114111) := by
    simp only [Lib.validRune, decide_eq_true_eq] at hv
    omega
  unfold Lib.encodeRune
  by_cases h1 : r ≤ 2047
  · rw [Lib.encodeRuneZ_two (by omega) (by omega)]
    exact ⟨_, _, rfl, by simp; omega⟩
  · by_cases h2 : r ≤ 65535
    · rw [Lib.encodeRuneZ_three (by omega)]
      exact ⟨_, _, rfl, by simp; omega⟩
    · rw [Lib.encodeRuneZ_four (by omega) (by omega)]
      exact ⟨_, _, rfl, by simp; omega⟩

theorem char_tok (t : Tok) (ht : TokOk t) (rest : Bytes) (s : ByteArray) (e : s = ⟨(t.bs ++ rest).toArray⟩) (hm : s.size < 100000) (w : World) (hU : U8 w) :
    Calls Tryz.prog 51 #[.string s, .int .u8 34] w fun e w' => e = .returned (.tuple #[.int .i32 t.r, .bool t.m, .string ⟨rest.toArray⟩, .nilIface]) ∧ Below w.heap.size w w' := by
  have hsz : s.size = t.bs.length + rest.length := by rw [e]; simp [ByteArray.size]
  cases ht with
  | ascii c h0 h1 h2 h3 =>
    have hx : ∀ h, s[0]'h = c := fun h => by subst e; rfl
    have hs : 0 < s.size := by rw [hsz]; simp; omega
    refine (char_ascii s hs hm (by rw [hx]; exact h0) (by rw [hx]; exact h1) (by rw [hx]; exact h2) (by rw [hx]; exact h3) w).mono ?_
    rintro e' w' ⟨rfl, n, rfl⟩
    rw [hx, cut_at [c] rest s e 1 rfl]
    exact ⟨rfl, below_drewN (Below.refl _ _) n⟩
  | multi r h0 hv =>
    obtain ⟨n, rfl⟩ : ∃ n : Nat, r = n := ⟨r.toNat, by omega⟩
    obtain ⟨b, l, hb, hb8⟩ := enc_head n (by omega) hv
    have hx : ∀ h, s[0]'h = b := fun h => by subst e; simp only [hb]; rfl
    have hs : 0 < s.size := by rw [hsz, hb]; simp; omega
    have hd := decode_enc n (by omega) hv rest
    rw [← e] at hd
    refine (char_multi s hs hm (by rw [hx]; exact hb8) n (Lib.encodeRune n).length (by rw [hd]) (by rw [hd]) (by rw [hsz]; simp) w hU).mono ?_
    rintro e' w' ⟨rfl, hb'⟩
    rw [cut_at (Lib.encodeRune n) rest s e _ rfl]
    exact ⟨rfl, hb'⟩
  | short x v h =>
    have hx0 : ∀ h, s[0]'h = 92 := fun h => by subst e; rfl
    have hx1 : ∀ h, s[1]'h = x := fun h => by subst e; rfl
    have hs : 1 < s.size := by rw [hsz]; simp; omega
    refine (char_short s hs hm (by rw [hx0]; rfl) v (by rw [hx1]; exact h) w).mono ?_
    rintro e' w' ⟨rfl, rfl⟩
    rw [cut_at [92, x] rest s e 2 rfl]
    exact ⟨rfl, Below.refl _ _⟩
  | hex a h =>
    have hx0 : ∀ h, s[0]'h = 92 := fun h => by subst e; rfl
    have hx1 : ∀ h, s[1]'h = 120 := fun h => by subst e; rfl
    have hs : 4 ≤ s.size := by rw [hsz]; simp
    have e2 : s.extract 2 s.size = ⟨([hd (a / 16), hd (a % 16)] ++ rest).toArray⟩ := cut_at [92, 120] _ s e 2 rfl
    refine (char_x s hs hm (by rw [hx0]; rfl) (by rw [hx1]; rfl) a h (fun k hk hk2 => ?_) w).mono ?_
    · revert hk
      rw [e2]
      intro hk
      match k, hk2 with
      | 0, _ => show hd (a / 16) = hd (a / 16 ^ 1 % 16); congr 1; omega
      | 1, _ => show hd (a % 16) = hd (a / 16 ^ 0 % 16); congr 1; omega
    · rintro e' w' ⟨rfl, rfl⟩
      rw [e2, cut_at [hd (a / 16), hd (a % 16)] rest _ rfl 2 rfl]
      exact ⟨rfl, Below.refl _ _⟩
  | u4 r h0 h1 hv =>
    have hx0 : ∀ h, s[0]'h = 92 := fun h => by subst e; rfl
    have hx1 : ∀ h, s[1]'h = 117 := fun h => by subst e; rfl
    have hs : 6 ≤ s.size := by rw [hsz]; simp [hds]
    have e2 : s.extract 2 s.size = ⟨(hds r 4 ++ rest).toArray⟩ := cut_at [92, 117] _ s e 2 rfl
    refine (char_u s hs hm (by rw [hx0]; rfl) (by rw [hx1]; rfl) r h1 hv (fun k hk hk2 => ?_) w).mono ?_
    · revert hk
      rw [e2]
      intro hk
      match k, hk2 with
      | 0, _ => rfl
      | 1, _ => rfl
      | 2, _ => rfl
      | 3, _ => rfl
    · rintro e' w' ⟨rfl, rfl⟩
      rw [e2, cut_at (hds r 4) rest _ rfl 4 rfl]
      exact ⟨rfl, Below.refl _ _⟩
  | u8 r h0 hv =>
    have hr : r < 1114112 := by simp only [Lib.validRune, decide_eq_true_eq] at hv; omega
    have hx0 : ∀ h, s[0]'h = 92 := fun h => by subst e; rfl
    have hx1 : ∀ h, s[1]'h = 85 := fun h => by subst e; rfl
    have hs : 10 ≤ s.size := by rw [hsz]; simp [hds]
    have e2 : s.extract 2 s.size = ⟨(hds r 8 ++ rest).toArray⟩ := cut_at [92, 85] _ s e 2 rfl
    refine (char_U s hs hm (by rw [hx0]; rfl) (by rw [hx1]; rfl) r hr hv (fun k hk hk2 => ?_) w).mono ?_
    · revert hk
      rw [e2]
      intro hk
      match k, hk2 with
      | 0, _ => rfl
      | 1, _ => rfl
      | 2, _ => rfl
      | 3, _ => rfl
      | 4, _ => rfl
      | 5, _ => rfl
      | 6, _ => rfl
      | 7, _ => rfl
    · rintro e' w' ⟨rfl, rfl⟩
      rw [e2, cut_at (hds r 8) rest _ rfl 8 rfl]
      exact ⟨rfl, Below.refl _ _⟩
end Go.Proofs.YtadjbloccjbegaaGreatDoor.unq
