/-
  A wal: its block, its row of records; Records, Down.
-/
import Derived.Test.YtadjbloccjbegaaGreatDoorWalF
import Derived.Deep.AppendLies
import Derived.Laws.AppendOwnNone
namespace Go.Proofs.YtadjbloccjbegaaGreatDoor.wal
open Go.RowKit Go.Proofs.YtadjbloccjbegaaGreatDoor.heap Go.Proofs.YtadjbloccjbegaaGreatDoor.own Go.Proofs.YtadjbloccjbegaaGreatDoor.recs Go.Proofs.YtadjbloccjbegaaGreatDoor.errs
open Go.Proofs.YtadjbloccjbegaaGreatDoor.model (Rec)

def recRow (r : Rec) : List Value := [.int .i64 r.client, .int .i64 r.number, .int .i64 r.object, .int .i64 r.version, .string ⟨r.data.toArray⟩, .int .i64 r.epoch]
def recCs (l : List Rec) : List Value := l.flatMap recRow
theorem recRow_one (x : Rec) : ∀ u ∈ recRow x, u.oneCell' = true := by
  intro u hu
  simp only [recRow, List.mem_cons, List.not_mem_nil, or_false] at hu
  rcases hu with rfl | rfl | rfl | rfl | rfl | rfl <;> rfl
theorem recCs_len (l : List Rec) : (recCs l).length = l.length * 6 := by
  induction l with
  | nil => rfl
  | cons x l ih =>
    have e : recCs (x :: l) = recRow x ++ recCs l := by simp [recCs]
    rw [e, List.length_append, ih, List.length_cons]
    show 6 + _ = _
    omega
theorem recCs_snoc (l : List Rec) (r : Rec) : recCs (l ++ [r]) = recCs l ++ recRow r := by simp [recCs]
theorem infoRec : (Tryz.prog.info? 38).map (fun i => (i.zero, i.size, i.bytes)) = some (some (.agg #[.int .i64 0, .int .i64 0, .int .i64 0, .int .i64 0, .string ByteArray.empty, .int .i64 0]), 6, 56) := by kernel_rfl

/-- A wal: its block wb (number T + 1), its records' rows (number T); what is below B stays as it is. -/
structure WalAt (own : Nat → Nat) (T B : Nat) (w : World) (wb db : Nat) (v : Value) (down : Bool) (l : List Rec) : Prop where
  w_ : Has w wb (.cells #[.pointer (some ⟨db, 0, none⟩), v, .bool down] 50)
  row : Row own T w 38 6 v l.length (recCs l)
  ow : own wb = T + 1
  low : ∀ g, own g = T → B ≤ g
  lw : B ≤ wb
section
variable {own own1 : Nat → Nat} {T B : Nat} {w w1 : World} {wb db : Nat} {v : Value} {down : Bool} {l : List Rec}
theorem WalAt.below {B' : Nat} (h : WalAt own T B w wb db v down l) (hb : Below B' w w1) (hB : w.heap.size ≤ B') : WalAt own T B w1 wb db v down l :=
  ⟨h.w_.below hb (Nat.lt_of_lt_of_le h.w_.lt hB), h.row.below (hb.mono hB), h.ow, h.low, h.lw⟩
theorem WalAt.setDown (h : WalAt own T B w wb db v down l) (d : Bool) : WalAt own T B (w.setCell ⟨wb, 2, none⟩ (.bool d)) wb db v d l := by
  refine ⟨h.w_.set_ 2 _, ?_, h.ow, h.low, h.lw⟩
  refine ⟨row_kept h.row.1 fun g hg => Below.heap_setCell _ _ _ _ ?_, h.row.2⟩
  have := h.row.2 g hg
  intro e
  rw [show g = wb from e, h.ow] at this
  omega
end
/-- What stands behind an append to w.l. -/
def WalPost (own : Nat → Nat) (T B wb db : Nat) (down : Bool) (l : List Rec) (w W : World) : Prop :=
  ∃ own1 v, Ext w own own1 ∧ Turn (fun g => g = wb ∨ own g = T) w W ∧ WalAt own1 T B W wb db v down l
theorem wal_append {own : Nat → Nat} {T B wb db g cap' : Nat} {v : Value} {down : Bool} {l : List Rec} {r : Rec} {w w3 : World} {ob : Obj} (h : WalAt own T B w wb db v down l) (hBw : B ≤ w.heap.size)
    (ho3 : w3.ownsRow 0 38 6 (.slice (some ⟨g, 0, none⟩) (l.length + 1) cap') (l.length + 1) (recCs l ++ recRow r)) (hg3 : (w.alloc ob).drew.grownBy w3 v.ownBlock) (hg : v.ownBlock = some g ∨ g = w.heap.size + 1) :
    WalPost own T B wb db down (l ++ [r]) w (w3.setCell ⟨wb, 1, none⟩ (.slice (some ⟨g, 0, none⟩) (l.length + 1) cap')) := by
  have hwlt := h.w_.lt
  have hrb : ∀ k, v.ownBlock = some k → k < w.heap.size ∧ own k = T := fun k hk => ⟨h.row.lt k hk, h.row.2 k hk⟩
  have hgl : own g = T ∧ g < w.heap.size ∨ g = w.heap.size + 1 := hg.imp (fun h => ⟨(hrb g h).2, (hrb g h).1⟩) (fun h => h)
  have hnb : ∀ k, own k = T → k ≠ wb := fun k hk e => by rw [e, h.ow] at hk; omega
  have hgb : g ≠ wb := by
    rcases hgl with h' | h'
    · exact hnb g h'.1
    · omega
  refine ⟨newOwn own w T, .slice (some ⟨g, 0, none⟩) (l.length + 1) cap', Ext.new _ _ _, ?_, ?_, ?_, ?_, fun k hk => ?_, h.lw⟩
  · exact (((Turn.refl _ w).alloc ob).drew.grown hg3 (fun k hk => .inr (.inr (hrb k hk).2))).setCell (p := ⟨wb, 1, none⟩) (.inr (.inl rfl)) _
  · have h1 : Has w3 wb (.cells #[.pointer (some ⟨db, 0, none⟩), v, .bool down] 50) := by
      refine (hg3.block wb (by show wb < (w.alloc ob).heap.size; simp; omega) (fun e => hnb wb (hrb wb e.symm).2 rfl)).trans ?_
      exact (h.w_.alloc ob).drew
    exact h1.set_ 1 _
  · rw [List.length_append, List.length_singleton, recCs_snoc]
    refine ⟨row_kept ho3 fun k hk => Below.heap_setCell _ _ _ _ (by
      have : g = k := by simpa [Value.ownBlock] using hk
      show k ≠ wb
      omega), fun k hk => ?_⟩
    obtain rfl : g = k := by simpa [Value.ownBlock] using hk
    rcases hgl with h' | h'
    · rw [new_old h'.2]; exact h'.1
    · exact new_new (by omega)
  · rw [new_old hwlt]; exact h.ow
  · by_cases hk2 : k < w.heap.size
    · rw [new_old hk2] at hk; exact h.low k hk
    · omega

theorem empty_row (w : World) : (w.alloc (.cells #[] 38)).ownsRow w.heap.size 38 6 (.slice (some ⟨w.heap.size, 0, none⟩) 0 0) 0 [] :=
  owns_new (l := []) (Has.new w _) (Nat.le_refl _) rfl (Nat.zero_le _)
theorem Down_any {own : Nat → Nat} {T B wb db : Nat} {v : Value} {down : Bool} {l : List Rec} (w : World) (h : WalAt own T B w wb db v down l) :
    Calls Tryz.prog 11 #[.pointer (some ⟨wb, 0, none⟩)] w fun e w' => e = .returned (.bool down) ∧ w = w' := by
  have c2 := h.w_.cell 2
  simp only [List.getElem?_toArray, List.getElem?_cons_zero, List.getElem?_cons_succ] at c2
  clear h
  go_enter Tryz.func11, Tryz.ntmps11
  go_wp2
  go_ret
  exact ⟨rfl, rfl⟩

set_option maxHeartbeats 1000000 in
set_option maxRecDepth 100000 in
theorem Records_any {own : Nat → Nat} {T B wb db : Nat} {v : Value} {down : Bool} {l : List Rec} (w : World) (h : WalAt own T B w wb db v down l) (hl : l.length ≤ 200) :
    Calls Tryz.prog 10 #[.pointer (some ⟨wb, 0, none⟩)] w fun e w' => ∃ v', e = .returned v' ∧ w'.ownsRow w.heap.size 38 6 v' l.length (recCs l) ∧ Below w.heap.size w w' := by
  obtain ⟨i0, hi0, hz0, hz1, hz2⟩ := info_parts infoRec
  have HI := Lib.hid (And.intro hi0 (And.intro hz0 (And.intro hz1 hz2)))
  have c1 := h.w_.cell 1
  simp only [List.getElem?_toArray, List.getElem?_cons_zero, List.getElem?_cons_succ] at c1
  have hlt := h.w_.lt
  have H := Lib.hid h
  rcases Nat.eq_zero_or_pos l.length with h0 | h0
  · have hv : v = .slice none 0 0 ∨ ∃ g cap, v = .slice (some ⟨g, 0, none⟩) 0 cap := by
      rcases h.row.1.2 with ⟨e, -⟩ | ⟨g, cap, cur, e, -⟩
      · exact .inl e
      · exact .inr ⟨g, cap, by rw [e, h0]⟩
    have hl0 : l = [] := List.eq_nil_of_length_eq_zero h0
    clear h
    subst hl0
    rcases hv with rfl | ⟨g, cap, rfl⟩
    all_goals
      go_enter Tryz.func10, Tryz.ntmps10
      go_wp2
      go_ret
      exact ⟨_, rfl, empty_row w, (Below.refl _ _).alloc (Nat.le_refl _) _⟩
  · obtain ⟨g, cap, cur, rfl, -, hg, hc1, hc2, hc3, hc4⟩ := h.row.shape h0
    clear h
    go_enter Tryz.func10, Tryz.ntmps10
    have HE := Lib.hid (empty_row w)
    have HG := Lib.hid hg
    have H4 := Lib.hid hc4
    have hgl := Has.lt (w := w) hg
    clear hg hc4 hz0 hz1 hz2 hi0
    go_wp2_with (at_builtin; refine wpList_append_own _ rfl (.tmp 3) (.tmp 7) 45 rfl w.heap.size 38 i0 _ 6 56 Tryz.underlying45 HI.out.1 HI.out.2.1 HI.out.2.2.1 HI.out.2.2.2 rfl (by decide) _ _ _ rfl HE.out ⟨g, 0, none⟩ l.length cap (recCs l) rfl (recCs_len l) ?c1 ?c2 ?c3 ?c4 ?c5 ?_)
    case c1 =>
      intro j u hj
      have hjl : j < l.length * 6 := by rw [← recCs_len]; rcases Nat.lt_or_ge j (recCs l).length with h | h; exact h; rw [List.getElem?_eq_none h] at hj; cases hj
      have e : (⟨g, 0, none⟩ : Addr).add j = ⟨g, j, none⟩ := by by_cases h0 : j = 0 <;> simp [Addr.add, h0]
      rw [e, (Has.alloc (w := w) HG.out _).cell, ← hj, ← H4.out, List.getElem?_take, if_pos hjl, Array.getElem?_toList]
    case c2 =>
      intro u hu
      obtain ⟨x, -, hx⟩ := List.mem_flatMap.1 hu
      exact recRow_one x u hx
    case c3 => unfold maxLen; omega
    case c4 => omega
    case c5 => simp
    intro v2 w2 hown hg2 _
    go_wp2
    go_ret
    exact ⟨v2, rfl, hown, ((Below.refl _ _).alloc (Nat.le_refl _) _).grown hg2 (by simp) (fun k hk => by
      have : w.heap.size = k := by simpa [Value.ownBlock] using hk
      omega)⟩
end Go.Proofs.YtadjbloccjbegaaGreatDoor.wal
