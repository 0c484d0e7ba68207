/-
  strconv.index, strconv.contains.
-/
import Derived.Test.YtadjbloccjbegaaGreatDoorUnqC
import Derived.Lib.Bytealg
import Derived.Lib.IndexLaws
namespace Go.Proofs.YtadjbloccjbegaaGreatDoor.unq
open Go.RowKit Go.Proofs.YtadjbloccjbegaaGreatDoor.toks

set_option maxRecDepth 100000 in
theorem index_any (s : ByteArray) (c : Int) (w : World) :
    Calls Tryz.prog 47 #[.string s, .int .u8 c] w fun e w' => e = .returned (.int .i64 (Lib.indexByte s.data.toList c.toNat.toUInt8)) ∧ w = w' := by
  go_enter Tryz.func47, Tryz.ntmps47
  go_wp2
  rw [run_callFunc_extern Tryz.func67 (by kernel_rfl) (by kernel_rfl) (by kernel_rfl) (e := Extern.BytealgIndexByte.indexByte) (by kernel_rfl), Lib.run_indexByteString]
  simp only [Result.andThen]
  rw [Oper.upon_value]
  go_wp2
  go_ret
  exact ⟨rfl, rfl⟩
theorem contains_any (s : ByteArray) (c : Int) (w : World) :
    Calls Tryz.prog 48 #[.string s, .int .u8 c] w fun e w' => e = .returned (.bool (Lib.indexByte s.data.toList c.toNat.toUInt8 != -1)) ∧ w = w' := by
  go_enter Tryz.func48, Tryz.ntmps48
  go_wp2_with (go_at_call 47; refine (index_any _ _ _).mono ?_; rintro e w1 ⟨rfl, rfl⟩)
  go_ret
  exact ⟨rfl, rfl⟩

/-! Tokens' bytes. -/
theorem hd_safe (x : Nat) (hx : x < 16) : hd x ≠ 34 ∧ hd x ≠ 92 ∧ hd x ≠ 10 := by
  have : ∀ y : Fin 16, hd y.val ≠ 34 ∧ hd y.val ≠ 92 ∧ hd y.val ≠ 10 := by decide
  exact this ⟨x, hx⟩
theorem hds_safe (r : Nat) : ∀ n, ∀ b ∈ hds r n, b ≠ 34 ∧ b ≠ 92 ∧ b ≠ 10
  | 0, b, h => by cases h
  | n + 1, b, h => by
    rcases List.mem_cons.1 h with rfl | h
    · exact hd_safe _ (by omega)
    · exact hds_safe r n b h
theorem enc_safe (r : Int) (h0 : 128 ≤ r) (hv : Lib.validRune r = true) : ∀ b ∈ Lib.encodeRune r, 128 ≤ b.toNat := by
  have hv' : (r < 55296) ∨ (57343 < r ∧ r ≤ 1114111) := by
    simp only [Lib.validRune, decide_eq_true_eq] at hv
    omega
  intro b hb
  unfold Lib.encodeRune at hb
  by_cases h1 : r ≤ 2047
  · rw [Lib.encodeRuneZ_two (by omega) (by omega)] at hb
    simp only [List.map_cons, List.map_nil, List.mem_cons, List.not_mem_nil, or_false] at hb
    rcases hb with rfl | rfl <;> (simp; omega)
  · by_cases h2 : r ≤ 65535
    · rw [Lib.encodeRuneZ_three (by omega)] at hb
      simp only [List.map_cons, List.map_nil, List.mem_cons, List.not_mem_nil, or_false] at hb
      rcases hb with rfl | rfl | rfl <;> (simp; omega)
    · rw [Lib.encodeRuneZ_four (by omega) (by omega)] at hb
      simp only [List.map_cons, List.map_nil, List.mem_cons, List.not_mem_nil, or_false] at hb
      rcases hb with rfl | rfl | rfl | rfl <;> (simp; omega)
/-- A token is plain, and spells itself; or begins with a backslash. -/
theorem tok_kind {t : Tok} (ht : TokOk t) : ((∀ b ∈ t.bs, b ≠ 34 ∧ b ≠ 92 ∧ b ≠ 10) ∧ t.val = t.bs ∧ t.bs ≠ []) ∨ (∃ l, t.bs = 92 :: l) := by
  cases ht with
  | ascii c h0 h1 h2 h3 =>
    refine .inl ⟨fun b hb => ?_, ?_, by simp⟩
    · rw [List.mem_singleton.1 hb]
      refine ⟨fun e => h2 (by rw [e]; rfl), fun e => h3 (by rw [e]; rfl), fun e => by rw [e] at h0; revert h0; decide⟩
    · simp [Tok.val]
  | multi r h0 hv =>
    refine .inl ⟨fun b hb => ?_, ?_, ?_⟩
    · have := enc_safe r h0 hv b hb
      refine ⟨fun e => ?_, fun e => ?_, fun e => ?_⟩ <;> (rw [e] at this; revert this; decide)
    · unfold Tok.val
      rw [if_neg (by simp; omega)]
    · intro e
      have h1 := Lib.encodeRuneZ_length r
      have h2 : (Lib.encodeRune r).length = 0 := by have e2 : Lib.encodeRune r = [] := e; rw [e2]; rfl
      rw [show (Lib.encodeRune r).length = (Lib.encodeRuneZ r).length from by simp [Lib.encodeRune]] at h2
      omega
  | short x v h => exact .inr ⟨_, rfl⟩
  | hex a h => exact .inr ⟨_, rfl⟩
  | u4 r h0 h1 hv => exact .inr ⟨_, rfl⟩
  | u8 r h0 hv => exact .inr ⟨_, rfl⟩
theorem tok_head {t : Tok} (ht : TokOk t) : ∃ b l, t.bs = b :: l ∧ b ≠ 34 ∧ b ≠ 10 := by
  rcases tok_kind ht with ⟨h1, -, h3⟩ | ⟨l, h⟩
  · cases hb : t.bs with
    | nil => exact absurd hb h3
    | cons b l => exact ⟨b, l, rfl, (h1 b (by rw [hb]; simp)).1, (h1 b (by rw [hb]; simp)).2.2⟩
  · exact ⟨92, l, h, by decide, by decide⟩
/-- Tokens without a backslash spell themselves, and have no quote. -/
theorem toks_plain : ∀ (ts : List Tok), (∀ t ∈ ts, TokOk t) → (92 : UInt8) ∉ ts.flatMap Tok.bs → ts.flatMap Tok.val = ts.flatMap Tok.bs ∧ (34 : UInt8) ∉ ts.flatMap Tok.bs
  | [], _, _ => ⟨rfl, by simp⟩
  | t :: ts, ht, h => by
    rw [List.flatMap_cons] at h
    rw [List.flatMap_cons, List.flatMap_cons]
    have h1 : (92 : UInt8) ∉ t.bs := fun hm => h (List.mem_append_left _ hm)
    have h2 : (92 : UInt8) ∉ ts.flatMap Tok.bs := fun hm => h (List.mem_append_right _ hm)
    obtain ⟨i1, i2⟩ := toks_plain ts (fun x hx => ht x (List.mem_cons_of_mem _ hx)) h2
    rcases tok_kind (ht t (List.mem_cons_self ..)) with ⟨k1, k2, -⟩ | ⟨l, k⟩
    · refine ⟨by rw [k2, i1], fun hm => ?_⟩
      rcases List.mem_append.1 hm with hm | hm
      · exact (k1 _ hm).1 rfl
      · exact i2 hm
    · exact absurd (by rw [k]; simp) h1
/-- Ahead of a quote among the tokens stands a backslash. -/
theorem toks_quote : ∀ (ts : List Tok), (∀ t ∈ ts, TokOk t) → ∀ o : Nat, (ts.flatMap Tok.bs)[o]? = some 34 → (92 : UInt8) ∈ (ts.flatMap Tok.bs).take o
  | [], _, o, h => by simp at h
  | t :: ts, ht, o, h => by
    rw [List.flatMap_cons] at h ⊢
    by_cases ho : o < t.bs.length
    · rw [List.getElem?_append_left ho] at h
      rcases tok_kind (ht t (List.mem_cons_self ..)) with ⟨k1, -, -⟩ | ⟨l, k⟩
      · exact absurd rfl (k1 34 (List.mem_of_getElem? h)).1
      · rw [k] at h ⊢
        cases o with
        | zero => simp at h
        | succ o => simp
    · rw [List.getElem?_append_right (by omega)] at h
      have := toks_quote ts (fun x hx => ht x (List.mem_cons_of_mem _ hx)) _ h
      rw [List.take_append, List.mem_append]
      exact .inr this
end Go.Proofs.YtadjbloccjbegaaGreatDoor.unq
