/-
  A disk: Cut, write.
-/
import Derived.Test.YtadjbloccjbegaaGreatDoorWalA
import Derived.Test.YtadjbloccjbegaaGreatDoorRow
import Derived.Test.YtadjbloccjbegaaGreatDoorErrV
import Derived.Deep.QuietTactic
namespace Go.Proofs.YtadjbloccjbegaaGreatDoor.wal
open Go.RowKit Go.Proofs.YtadjbloccjbegaaGreatDoor.heap Go.Proofs.YtadjbloccjbegaaGreatDoor.own Go.Proofs.YtadjbloccjbegaaGreatDoor.recs Go.Proofs.YtadjbloccjbegaaGreatDoor.errs
open Go.Proofs.YtadjbloccjbegaaGreatDoor.model (Rec)
open Go.Proofs.YtadjbloccjbegaaGreatDoor.wire (okN)

def dcells (ps : List ByteArray) (cut : Bool) (left : Int) : List Value := ps.map Value.string ++ [.bool cut, .int .i64 left]
/-- A disk: its block b, what its places hold. -/
structure DiskAt (w : World) (b : Nat) (ps : List ByteArray) (cut : Bool) (left : Int) : Prop where
  d_ : Has w b (.cells (dcells ps cut left).toArray 26)
  hp : ps.length = 200
section
variable {w w' : World} {b : Nat} {ps : List ByteArray} {cut : Bool} {left : Int}
theorem DiskAt.lt (h : DiskAt w b ps cut left) : b < w.heap.size := h.d_.lt
theorem DiskAt.place (h : DiskAt w b ps cut left) (k : Nat) (hk : k < 200) (s : ByteArray) (hs : ps[k]? = some s) : w.cell? ⟨b, k, none⟩ = some (.string s) := by
  rw [h.d_.cell]
  have hk' : k < (ps.map Value.string).length := by rw [List.length_map, h.hp]; exact hk
  simp only [dcells, List.getElem?_toArray]
  rw [List.getElem?_append_left hk', List.getElem?_map, hs]; rfl
theorem DiskAt.cutc (h : DiskAt w b ps cut left) : w.cell? ⟨b, 200, none⟩ = some (.bool cut) := by
  rw [h.d_.cell]
  have e : (ps.map Value.string).length = 200 := by rw [List.length_map, h.hp]
  simp only [dcells, List.getElem?_toArray]
  rw [List.getElem?_append_right (by omega), e]; rfl
theorem DiskAt.leftc (h : DiskAt w b ps cut left) : w.cell? ⟨b, 201, none⟩ = some (.int .i64 left) := by
  rw [h.d_.cell]
  have e : (ps.map Value.string).length = 200 := by rw [List.length_map, h.hp]
  simp only [dcells, List.getElem?_toArray]
  rw [List.getElem?_append_right (by omega), e]; rfl
theorem DiskAt.below {B : Nat} (h : DiskAt w b ps cut left) (hb : Below B w w') (hB : b < B) : DiskAt w' b ps cut left := ⟨h.d_.below hb hB, h.hp⟩
theorem DiskAt.setPlace (h : DiskAt w b ps cut left) (k : Nat) (hk : k < 200) (s : ByteArray) : DiskAt (w.setCell ⟨b, k, none⟩ (.string s)) b (ps.set k s) cut left := by
  refine ⟨?_, by rw [List.length_set]; exact h.hp⟩
  have := h.d_.set_ k (.string s)
  have hk' : k < (ps.map Value.string).length := by rw [List.length_map, h.hp]; exact hk
  simpa only [dcells, List.setIfInBounds_toArray, List.set_append_left _ _ hk', List.map_set] using this
theorem DiskAt.setCut (h : DiskAt w b ps cut left) (c : Bool) : DiskAt (w.setCell ⟨b, 200, none⟩ (.bool c)) b ps c left := by
  refine ⟨?_, h.hp⟩
  have := h.d_.set_ 200 (.bool c)
  have e : (ps.map Value.string).length = 200 := by rw [List.length_map, h.hp]
  simpa only [dcells, List.setIfInBounds_toArray, List.set_append_right 200 _ (Nat.le_of_eq e), e, Nat.sub_self, List.set_cons_zero] using this
theorem DiskAt.setLeft (h : DiskAt w b ps cut left) (n : Int) : DiskAt (w.setCell ⟨b, 201, none⟩ (.int .i64 n)) b ps cut n := by
  refine ⟨?_, h.hp⟩
  have := h.d_.set_ 201 (.int .i64 n)
  have e : (ps.map Value.string).length = 200 := by rw [List.length_map, h.hp]
  simpa only [dcells, List.setIfInBounds_toArray, List.set_append_right 201 _ (by omega : (ps.map Value.string).length ≤ 201), e, show 201 - 200 = 1 from rfl, List.set_cons_succ, List.set_cons_zero] using this
end

theorem turn_set {b : Nat} {w w' : World} (h : Turn (fun x => x = b) w w') (o : Nat) (v : Value) : Turn (fun x => x = b) w (w'.setCell ⟨b, o, none⟩ v) :=
  Turn.setCell (S := fun x => x = b) (p := ⟨b, o, none⟩) h (.inr rfl) v
set_option maxHeartbeats 1000000 in
set_option maxRecDepth 100000 in
theorem Cut_any (b : Nat) (ps : List ByteArray) (cut : Bool) (left n : Int) (w : World) (h : DiskAt w b ps cut left) :
    Calls Tryz.prog 9 #[.pointer (some ⟨b, 0, none⟩), .int .i64 n] w fun e w' =>
      e = .returned (.tuple #[]) ∧ DiskAt w' b ps (decide (0 ≤ n)) (max n 0) ∧ Turn (· = b) w w' := by
  have c1 := h.cutc
  have c2 := h.leftc
  have f1 := h.d_.frozen 200
  have f2 := h.d_.frozen 201
  have H := Lib.hid h
  have hlt := h.lt
  clear h
  go_enter Tryz.func9, Tryz.ntmps9
  go_wp2
  all_goals
    go_end0
    have T2 : ∀ (u v : Value), Turn (· = b) w ((w.setCell ⟨b, 200, none⟩ u).setCell ⟨b, 201, none⟩ v) := fun u v => turn_set (turn_set (Turn.refl _ _) 200 u) 201 v
    first
      | (rw [Int.max_eq_right (by omega)]; exact ⟨rfl, (H.out.setCut _).setLeft _, T2 _ _⟩)
      | (rw [Int.max_eq_left (by omega)]; exact ⟨rfl, (H.out.setCut _).setLeft _, T2 _ _⟩)

/-- How much of n bytes is torn off. -/
def tornAt (n : Nat) (torn : Int) : Nat := (if (if 1 < (n : Int) then (n : Int) - 1 else 0) < torn then if 1 < (n : Int) then (n : Int) - 1 else 0 else torn).toNat
theorem tornAt_eq (n : Nat) (torn : Int) : tornAt n torn = if 1 < n then (if (n : Int) - 1 < torn then n - 1 else torn.toNat) else if 0 < torn then 0 else torn.toNat := by
  unfold tornAt
  by_cases h : 1 < n
  · rw [if_pos (by omega : 1 < (n : Int)), if_pos h]
    split <;> omega
  · rw [if_neg (by omega : ¬ 1 < (n : Int)), if_neg h]
    split <;> omega
theorem tornAt_lt {n : Nat} {torn : Int} (h : 0 < n) (ht : 0 ≤ torn) : tornAt n torn < n := by
  unfold tornAt
  split <;> split at * <;> omega
set_option maxHeartbeats 1000000 in
set_option maxRecDepth 100000 in
theorem write_any (b : Nat) (ps : List ByteArray) (cut : Bool) (left : Int) (k : Nat) (hk : k < 200) (s : ByteArray) (hs : s.size < 4611686018427387904) (torn : Int) (w : World) (h : DiskAt w b ps cut left) :
    Calls Tryz.prog 15 #[.pointer (some ⟨b, 0, none⟩), .int .i64 k, .string s, .int .i64 torn] w fun e w' =>
      e = .returned (errV (if cut = true ∧ left = 0 then 14 else 0)) ∧
      (if cut = true ∧ left = 0 then DiskAt w' b (if 0 ≤ torn then ps.set k (s.extract 0 (tornAt s.size torn)) else ps) cut left else DiskAt w' b (ps.set k s) cut (wrap64 (left - 1))) ∧ Turn (· = b) w w' := by
  have c1 := h.cutc
  have c2 := h.leftc
  have f1 := h.d_.frozen 200
  have fk := h.d_.frozen k
  obtain ⟨x, hx⟩ : ∃ x, ps[k]? = some x := ⟨_, List.getElem?_eq_getElem (by rw [h.hp]; exact hk)⟩
  have ck := h.place k hk x hx
  have f2 := h.d_.frozen 201
  have H := Lib.hid h
  have hlt := h.lt
  clear h
  by_cases hc : cut = true ∧ left = 0
  · rw [if_pos hc]
    simp only [if_pos hc]
    obtain ⟨rfl, rfl⟩ := hc
    by_cases ht : 0 ≤ torn
    · have d0 : decide (0 ≤ torn) = true := decide_eq_true ht
      rw [if_pos ht]
      go_enter Tryz.func15, Tryz.ntmps15
      go_wp2
      have key : ∀ N, N = tornAt s.size torn → DiskAt (w.setCell ⟨b, k, none⟩ (.string (s.extract 0 N))).drew b (ps.set k (s.extract 0 (tornAt s.size torn))) true 0 := by
        rintro _ rfl
        have h1 := H.out.setPlace k hk (s.extract 0 (tornAt s.size torn))
        exact ⟨h1.d_, h1.hp⟩
      go_region
      go_wp2
      all_goals
        go_ret
        have hN := tornAt_eq s.size torn
        have h0 : ¬ (1 < (s.size : Int)) → 0 < torn → s.extract 0 (tornAt s.size torn) = ByteArray.empty := fun h1 h2 => by
          rw [hN, if_neg (by omega), if_pos h2]
          apply ByteArray.ext
          simp
        first
          | (have e := h0 (by omega) (by omega)
             have h1 := H.out.setPlace k hk (s.extract 0 (tornAt s.size torn))
             rw [e] at h1 ⊢
             exact ⟨rfl, ⟨h1.d_, h1.hp⟩, (turn_set (Turn.refl _ _) k _).drew⟩)
          | (refine ⟨rfl, key _ ?_, (turn_set (Turn.refl _ _) k _).drew⟩
             rw [hN]
             clear hN key
             repeat' split
             all_goals omega)
    · have d0 : decide (0 ≤ torn) = false := decide_eq_false ht
      rw [if_neg ht]
      go_enter Tryz.func15, Tryz.ntmps15
      go_wp2
      go_ret
      exact ⟨rfl, H.out, Turn.refl _ _⟩
  · rw [if_neg hc]
    simp only [if_neg hc]
    cases hcut : cut with
    | false =>
      subst hcut
      go_enter Tryz.func15, Tryz.ntmps15
      go_wp2
      go_ret
      exact ⟨rfl, (H.out.setLeft _).setPlace k hk _, turn_set (turn_set (Turn.refl _ _) 201 _) k _⟩
    | true =>
      subst hcut
      have hl : left ≠ 0 := fun e => hc ⟨rfl, e⟩
      have bl : (left == 0) = false := beq_eq_false_iff_ne.2 hl
      clear hc
      go_enter Tryz.func15, Tryz.ntmps15
      go_wp2
      go_ret
      exact ⟨rfl, (H.out.setLeft _).setPlace k hk _, turn_set (turn_set (Turn.refl _ _) 201 _) k _⟩
end Go.Proofs.YtadjbloccjbegaaGreatDoor.wal
