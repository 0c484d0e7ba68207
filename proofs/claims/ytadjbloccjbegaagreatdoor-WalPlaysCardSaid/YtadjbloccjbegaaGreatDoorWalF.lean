/-
  wal.parse, told whole; what a disk's places hold.
-/
import Derived.Test.YtadjbloccjbegaaGreatDoorWalE
import Derived.Test.YtadjbloccjbegaaGreatDoorWalC
namespace Go.Proofs.YtadjbloccjbegaaGreatDoor.wal
open Go.RowKit Go.Proofs.YtadjbloccjbegaaGreatDoor.heap Go.Proofs.YtadjbloccjbegaaGreatDoor.own Go.Proofs.YtadjbloccjbegaaGreatDoor.recs Go.Proofs.YtadjbloccjbegaaGreatDoor.errs
open Go.Proofs.YtadjbloccjbegaaGreatDoor.model (Rec)

theorem parse_any (T : Lib.PrintTabs) (k : Nat) (hk : k < 1000) (r : Rec) (hr : r.right = true) (s : ByteArray) (hP : s.data.toList <+: text T k r) (w : World) (hK : Kit T w) :
    Calls Tryz.prog 12 #[.int .i64 k, .string s] w (Parsed T k r s w) := by
  have hsl : s.data.toList.length = s.size := rfl
  have hs : s.size ≤ 1000 := by
    have h1 := hP.length_le
    have h2 := text_len T k r (by omega) (by omega) (right_small hr)
    omega
  have small : ∀ rest : ByteArray, Lib.splitK [32] 0 6 s.data.toList = nums k r ++ [rest.data.toList] → rest.size ≤ 1000 := fun rest h => by
    have := (split_len 6 s.data.toList).2 rest.data.toList (by rw [h]; simp)
    have e : rest.data.toList.length = rest.size := rfl
    omega
  have h7 : ∀ rest : ByteArray, (nums k r ++ [rest.data.toList]).length = 7 := fun _ => rfl
  cases cutting T k r _ hP with
  | few hne h => exact parse_few T k r s hs hne w hK (pieces_few h)
  | bare hne rest h hq =>
    obtain ⟨p1, p2, p3⟩ := pieces_seven h (h7 rest)
    exact parse_seven T k r hr s hs w hK hk rest p1 p2 p3 (small rest h) (.inl ⟨hne, hq⟩)
  | torn hne rest q ts h hq hl ht e =>
    obtain ⟨p1, p2, p3⟩ := pieces_seven h (h7 rest)
    have hsm := small rest h
    exact parse_seven T k r hr s hs w hK hk rest p1 p2 p3 hsm (.inr (.inl ⟨hne, q, ts, hq, hl, ⟨by rw [Lib.extract_from_zero]; exact e, ht, by simp; omega⟩⟩))
  | whole rest q ts h hq hl ht e hv =>
    obtain ⟨p1, p2, p3⟩ := pieces_seven h (h7 rest)
    have hsm := small rest h
    exact parse_seven T k r hr s hs w hK hk rest p1 p2 p3 hsm (.inr (.inr ⟨q, ts, hq, hl, ⟨by rw [Lib.extract_from_zero]; exact e, ht, by simp; omega⟩, hv⟩))

/-- The places of a disk that has these records. -/
structure Places (T : Lib.PrintTabs) (ps : List ByteArray) (l : List Rec) : Prop where
  len : l.length ≤ 200
  right : ∀ r ∈ l, r.right = true
  there : ∀ (k : Nat) r, l[k]? = some r → ps[k]? = some ⟨(text T k r).toArray⟩
  none : ∀ (k : Nat), l.length ≤ k → k < 200 → ∃ (s : ByteArray) (r : Rec), ps[k]? = some s ∧ r.right = true ∧ s.data.toList <+: text T k r ∧ s.data.toList ≠ text T k r
theorem blank_right : (⟨0, 0, 0, 0, [], 0⟩ : Rec).right = true := by decide
theorem Places.new (T : Lib.PrintTabs) : Places T (List.replicate 200 ⟨#[]⟩) [] :=
  ⟨Nat.zero_le _, fun _ h => (by cases h), fun _ _ h => (by simp at h), fun k _ hk => ⟨⟨#[]⟩, ⟨0, 0, 0, 0, [], 0⟩, by rw [List.getElem?_replicate, if_pos hk], blank_right, List.nil_prefix, fun e => by
    have := text_pos T k ⟨0, 0, 0, 0, [], 0⟩
    rw [← e] at this
    exact absurd this (Nat.lt_irrefl _)⟩⟩
theorem Places.add {T : Lib.PrintTabs} {ps : List ByteArray} {l : List Rec} (h : Places T ps l) (hl : ps.length = 200) (r : Rec) (hr : r.right = true) (h2 : l.length < 200) :
    Places T (ps.set l.length ⟨(text T l.length r).toArray⟩) (l ++ [r]) := by
  refine ⟨by simp; omega, fun x hx => ?_, fun k x hk => ?_, fun k h0 h1 => ?_⟩
  · rcases List.mem_append.1 hx with hx | hx
    · exact h.right x hx
    · rw [List.mem_singleton.1 hx]; exact hr
  · by_cases hkl : k < l.length
    · rw [List.getElem?_append_left hkl] at hk
      rw [List.getElem?_set_ne (by omega)]
      exact h.there k x hk
    · rw [List.getElem?_append_right (by omega)] at hk
      cases hq : k - l.length with
      | zero =>
        rw [hq] at hk
        obtain rfl : r = x := by simpa using hk
        obtain rfl : k = l.length := by omega
        rw [List.getElem?_set_self (by omega)]
      | succ n => rw [hq] at hk; simp at hk
  · simp only [List.length_append, List.length_cons, List.length_nil] at h0
    rw [List.getElem?_set_ne (by omega)]
    exact h.none k (by omega) h1
theorem Places.tear {T : Lib.PrintTabs} {ps : List ByteArray} {l : List Rec} (h : Places T ps l) (hl : ps.length = 200) (r : Rec) (hr : r.right = true) (h2 : l.length < 200) (s : ByteArray)
    (h3 : s.data.toList <+: text T l.length r) (h4 : s.data.toList ≠ text T l.length r) : Places T (ps.set l.length s) l := by
  refine ⟨h.len, h.right, fun k x hk => ?_, fun k h0 h1 => ?_⟩
  · have hkl : k < l.length := by
      rcases Nat.lt_or_ge k l.length with h | h
      · exact h
      · rw [List.getElem?_eq_none h] at hk; cases hk
    rw [List.getElem?_set_ne (by omega)]
    exact h.there k x hk
  · by_cases hkl : k = l.length
    · subst hkl
      exact ⟨s, r, List.getElem?_set_self (by omega), hr, h3, h4⟩
    · rw [List.getElem?_set_ne (by omega)]
      exact h.none k h0 h1
end Go.Proofs.YtadjbloccjbegaaGreatDoor.wal
