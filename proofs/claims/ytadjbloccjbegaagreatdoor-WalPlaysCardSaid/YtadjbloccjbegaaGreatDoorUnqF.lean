/-
  strconv.Unquote at a quoted text, and at its beginnings.
-/
import Derived.Test.YtadjbloccjbegaaGreatDoorUnqE
namespace Go.Proofs.YtadjbloccjbegaaGreatDoor.unq
open Go.RowKit Go.Proofs.YtadjbloccjbegaaGreatDoor.toks Go.Proofs.YtadjbloccjbegaaGreatDoor.heap Go.Proofs.YtadjbloccjbegaaGreatDoor.own

set_option maxHeartbeats 1000000 in
set_option maxRecDepth 100000 in
theorem Unquote_whole (s : ByteArray) (ts : List Tok) (h : InStr s ts [34]) (ev : Value) (w : World) (hU : U8 w) (hE : w.cell? ⟨0, 0, none⟩ = some ev) :
    Calls Tryz.prog 21 #[.string s] w fun e w' => e = .returned (.tuple #[.string ⟨(ts.flatMap Tok.val).toArray⟩, .nilIface]) ∧ Below w.heap.size w w' := by
  have U := unquote_try s ts [34] (.inl rfl) h ev w hU hE
  rw [if_pos rfl] at U
  obtain ⟨d, hd⟩ : ∃ d : ByteArray, d = ⟨(ts.flatMap Tok.val).toArray⟩ := ⟨_, rfl⟩
  rw [← hd] at U ⊢
  clear hd h
  go_enter Tryz.func21, Tryz.ntmps21
  go_wp2_with (go_at_call 32; refine U.mono ?_; rintro e w1 ⟨rfl, hb⟩)
  go_ret2
  exact ⟨rfl, hb⟩

set_option maxHeartbeats 1000000 in
set_option maxRecDepth 100000 in
theorem Unquote_torn (s : ByteArray) (ts : List Tok) (h : InStr s ts []) (ev : Value) (w : World) (hU : U8 w) (hE : w.cell? ⟨0, 0, none⟩ = some ev) :
    Calls Tryz.prog 21 #[.string s] w fun e w' => e = .returned (.tuple #[.string ⟨#[]⟩, ev]) ∧ Below w.heap.size w w' := by
  have U := unquote_try s ts [] (.inr rfl) h ev w hU hE
  rw [if_neg (by simp)] at U
  have hs : (0 : Int) < s.size := by have : s.size = _ := size_list s; rw [h.e] at this; simp at this; omega
  have d0 : decide ((0 : Int) < s.size) = true := decide_eq_true hs
  have hEl : 0 < w.heap.size := by
    rcases Nat.lt_or_ge 0 w.heap.size with h' | h'
    · exact h'
    · simp [World.cell?, Array.getElem?_eq_none h'] at hE
  clear h
  go_enter Tryz.func21, Tryz.ntmps21
  go_wp2_with (go_at_call 32; refine U.mono ?_; rintro e w1 ⟨rfl, hb⟩; have hE1 := (hb.cell (p := ⟨0, 0, none⟩) hEl).trans hE)
  go_quiet (fail)
  go_wp2
  go_ret2
  exact ⟨rfl, below_drewN hb _⟩
end Go.Proofs.YtadjbloccjbegaaGreatDoor.unq
