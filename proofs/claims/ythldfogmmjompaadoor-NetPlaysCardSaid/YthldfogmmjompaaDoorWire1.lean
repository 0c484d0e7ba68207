/-
  Contracts of the walks of wire.numbers, wire.right.
-/
import Derived.Test.YthldfogmmjompaaDoorRows
import Derived.WalkKit
import Derived.ProofKit
import Derived.OpenShut
import Derived.Test.YthldfogmmjompaaDoorWirePlain
import Derived.Test.YthldfogmmjompaaDoorHeap
import Derived.RegionTactic
import Derived.ChangeAlike
import Derived.StillTailTactics
import Derived.Deep.Draws
namespace Go.Proofs.YthldfogmmjompaaDoor.wire
open Go.RowKit Go.Proofs.YthldfogmmjompaaDoor.heap

abbrev msgCells (a b c d e f g : Int) (l : Bool) (s : ByteArray) : Array Value := #[.int .i64 a, .int .i64 b, .int .i64 c, .int .i64 d, .int .i64 e, .int .i64 f, .int .i64 g, .bool l, .string s]
def ptrs (b : Nat) : Array Value := #[.pointer (some ⟨b, 0, none⟩), .pointer (some ⟨b, 1, none⟩), .pointer (some ⟨b, 2, none⟩), .pointer (some ⟨b, 3, none⟩), .pointer (some ⟨b, 4, none⟩), .pointer (some ⟨b, 5, none⟩), .pointer (some ⟨b, 6, none⟩)]

set_option maxHeartbeats 1000000 in
set_option maxRecDepth 100000 in
theorem numbers_any (b : Nat) (w : World) :
    Calls Tryd.prog 57 #[.pointer (some ⟨b, 0, none⟩)] w fun e w' => e = .returned (.slice (some ⟨w.heap.size, 0, none⟩) 7 7) ∧ w' = (w.alloc (.cells (ptrs b) 113)).drew := by
  go_enter Tryd.func57, Tryd.ntmps57
  go_wp2
  go_region
  go_wp2
  go_ret
  exact ⟨rfl, rfl⟩

theorem fn_ok (n : Int) (a : Addr) (w : World) (hc : w.cell? a = some (.int .i64 n)) :
    Calls Tryd.prog 66 #[.pointer (some a)] w fun e w' => e = .returned (.bool (!okN n)) ∧ w = w' := by
  by_cases h1 : n < 0
  · go_enter Tryd.func66, Tryd.ntmps66
    go_wp2
    go_ret
    exact ⟨by simp [okN]; omega, rfl⟩
  · by_cases h2 : 1099511627776 < n
    · go_enter Tryd.func66, Tryd.ntmps66
      go_wp2
      go_ret
      exact ⟨by simp [okN]; omega, rfl⟩
    · have h3 : decide (1099511627776 < n) = false := by simp; omega
      have h4 : decide (n < 0) = false := by simp; omega
      have h5 : n ≤ 1099511627776 := by omega
      have h6 : 0 ≤ n := by omega
      go_enter Tryd.func66, Tryd.ntmps66
      go_wp2
      go_ret
      exact ⟨by simp [okN]; omega, rfl⟩

theorem all_take_succ (ns : List Int) (k : Nat) (h : (ns.take k).all okN = true) (hk : okN (ns.getD k 0) = true) (hl : k < ns.length) : (ns.take (k + 1)).all okN = true := by
  rw [List.take_succ_eq_append_getElem hl, List.all_append, h]
  simp [List.getD, hl] at hk
  simp [hk]
theorem all_no (ns : List Int) (k : Nat) (hk : okN (ns.getD k 0) = false) (hl : k < ns.length) : ns.all okN = false := by
  rw [List.all_eq_false]
  refine ⟨ns[k], List.getElem_mem hl, ?_⟩
  simp [List.getD, hl] at hk
  simp [hk]

theorem index_any (g b : Nat) (ns : List Int) (w : World) (hl : ns.length = 7)
    (hp : ∀ k, k < 7 → w.cell? ⟨g, k, none⟩ = some (.pointer (some ⟨b, k, none⟩))) (hn : ∀ k, k < 7 → w.cell? ⟨b, k, none⟩ = some (.int .i64 (ns.getD k 0))) :
    Calls Tryd.prog 72 #[.slice (some ⟨g, 0, none⟩) 7 7, .func (.func 66) #[] #[]] w fun e w' => ∃ r : Int, e = .returned (.int .i64 r) ∧ (decide (0 ≤ r) = !(ns.all okN)) ∧ w = w' := by
  have HL := Lib.hid hl
  clear hl
  go_enter Tryd.func72, Tryd.ntmps72
  go_wp2
  go_loop [8, 5] (fun i _ => ∃ k : Nat, k ≤ 7 ∧ i = .int .i64 k ∧ (ns.take k).all okN = true) (fun i _ => 7 - (intOf i).toNat)
  case atStart => exact ⟨0, by omega, rfl, rfl⟩
  case round =>
    obtain ⟨k, hk, rfl, hall⟩ := hrel
    have HA := Lib.hid hall
    clear hall
    by_cases hlt : k < 7
    · have c1 := hp k hlt
      have c2 := hn k hlt
      have HN := Lib.hid hn
      have HP := Lib.hid hp
      clear hn hp
      cases hok : okN (ns.getD k 0)
      · have HK := Lib.hid hok
        clear hok
        go_wp2_with (go_at_call 66; refine (fn_ok _ _ _ c2).mono ?_; rintro e w' ⟨rfl, rfl⟩; rw [HK.out])
        go_ret
        refine ⟨_, rfl, ?_, rfl⟩
        rw [all_no ns k HK.out (by rw [HL.out]; exact hlt)]
        simp
      · have HK := Lib.hid hok
        clear hok
        go_wp2_with (go_at_call 66; refine (fn_ok _ _ _ c2).mono ?_; rintro e w' ⟨rfl, rfl⟩; rw [HK.out])
        go_round
        case rel => exact ⟨k + 1, by omega, by go_num, all_take_succ ns k HA.out HK.out (by rw [HL.out]; exact hlt)⟩
        case measure => simp [intOf]; omega
    · obtain rfl : k = 7 := by omega
      go_wp2
      go_ret
      refine ⟨_, rfl, ?_, rfl⟩
      have := HA.out
      rw [List.take_of_length_le (by rw [HL.out]; exact Nat.le_refl _)] at this
      rw [this]
      rfl

theorem contains_any (g b : Nat) (ns : List Int) (w : World) (hl : ns.length = 7)
    (hp : ∀ k, k < 7 → w.cell? ⟨g, k, none⟩ = some (.pointer (some ⟨b, k, none⟩))) (hn : ∀ k, k < 7 → w.cell? ⟨b, k, none⟩ = some (.int .i64 (ns.getD k 0))) :
    Calls Tryd.prog 65 #[.slice (some ⟨g, 0, none⟩) 7 7, .func (.func 66) #[] #[]] w fun e w' => e = .returned (.bool (!(ns.all okN))) ∧ w = w' := by
  have C := Lib.hid (index_any g b ns w hl hp hn)
  clear hl hp hn
  go_enter Tryd.func65, Tryd.ntmps65
  go_wp2_with fail
  refine C.out.mono ?_
  rintro e w' ⟨r, rfl, hr, rfl⟩
  have HR := Lib.hid hr
  clear hr
  go_wp2_with fail
  go_ret
  exact ⟨by rw [← HR.out]; rfl, rfl⟩

theorem ptrs_cell (g b k : Nat) (w : World) (h : Has w g (.cells (ptrs b) 113)) (hk : k < 7) : w.cell? ⟨g, k, none⟩ = some (.pointer (some ⟨b, k, none⟩)) := by
  rw [h.cell]
  match k, hk with
  | 0, _ | 1, _ | 2, _ | 3, _ | 4, _ | 5, _ | 6, _ => rfl
theorem msg_cell {w : World} {b : Nat} {a1 a2 a3 a4 a5 a6 a7 : Int} {l : Bool} {s : ByteArray} (h : Has w b (.cells (msgCells a1 a2 a3 a4 a5 a6 a7 l s) 32)) (k : Nat) (hk : k < 7) :
    w.cell? ⟨b, k, none⟩ = some (.int .i64 ([a1, a2, a3, a4, a5, a6, a7].getD k 0)) := by
  rw [h.cell]
  match k, hk with
  | 0, _ | 1, _ | 2, _ | 3, _ | 4, _ | 5, _ | 6, _ => rfl

def Msg.val (m : Msg) : Value := .agg (msgCells m.kind m.client m.number m.epoch m.session m.object m.version m.lease ⟨m.data.toArray⟩)

theorem right_any (m : Msg) (w : World) (hs : m.data.length ≤ 9223372036854775807) :
    Calls Tryd.prog 56 #[m.val] w fun e w' => e = .returned (.bool m.right) ∧ Below w.heap.size w w' := by
  obtain ⟨a1, a2, a3, a4, a5, a6, a7, l, s⟩ := m
  simp only at hs
  have hsz : (ByteArray.mk s.toArray).size = s.length := rfl
  by_cases c1 : 1 ≤ a1
  · by_cases c2 : a1 ≤ 9
    · by_cases c3 : s.length ≤ 20
      · have e : Msg.right { kind := a1, client := a2, number := a3, epoch := a4, session := a5, object := a6, version := a7, lease := l, data := s } = [a1, a2, a3, a4, a5, a6, a7].all okN := by
          simp [Msg.right, c1, c2, c3, Msg.nums]
        rw [e]
        clear e
        have H1 := (((Has.new w (.cells (msgCells a1 a2 a3 a4 a5 a6 a7 l ⟨s.toArray⟩) 32)).alloc (.cells (ptrs w.heap.size) 113))).drew
        have H2 := (Has.new (w.alloc (.cells (msgCells a1 a2 a3 a4 a5 a6 a7 l ⟨s.toArray⟩) 32)) (.cells (ptrs w.heap.size) 113)).drew
        rw [World.size_alloc] at H2
        have C := Lib.hid (contains_any (w.heap.size + 1) w.heap.size [a1, a2, a3, a4, a5, a6, a7] _ rfl (fun k hk => ptrs_cell _ _ k _ H2 hk) (fun k hk => msg_cell H1 k hk))
        clear H1 H2
        unfold Msg.val
        go_enter Tryd.func56, Tryd.ntmps56
        go_wp2_with fail
        refine (numbers_any _ _).mono ?_
        rintro e w' ⟨rfl, rfl⟩
        go_wp2_with fail
        refine C.out.mono ?_
        rintro e w' ⟨rfl, rfl⟩
        go_wp2_with fail
        go_ret
        exact ⟨by simp, (((Below.refl _ _).alloc (Nat.le_refl _) _).alloc (by simp) _).drew⟩
      · have e : Msg.right { kind := a1, client := a2, number := a3, epoch := a4, session := a5, object := a6, version := a7, lease := l, data := s } = false := by
          simp [Msg.right, c3]
        rw [e]
        clear e
        have c4 : (20 : Int) < s.length := by omega
        unfold Msg.val
        go_enter Tryd.func56, Tryd.ntmps56
        go_wp2_with fail
        go_ret
        exact ⟨rfl, (Below.refl _ _).alloc (Nat.le_refl _) _⟩
    · have e : Msg.right { kind := a1, client := a2, number := a3, epoch := a4, session := a5, object := a6, version := a7, lease := l, data := s } = false := by
        simp [Msg.right, c2]
      rw [e]
      clear e
      have c4 : 9 < a1 := by omega
      unfold Msg.val
      go_enter Tryd.func56, Tryd.ntmps56
      go_wp2_with fail
      go_ret
      exact ⟨rfl, (Below.refl _ _).alloc (Nat.le_refl _) _⟩
  · have e : Msg.right { kind := a1, client := a2, number := a3, epoch := a4, session := a5, object := a6, version := a7, lease := l, data := s } = false := by
      simp [Msg.right, c1]
    rw [e]
    clear e
    have c4 : a1 < 1 := by omega
    unfold Msg.val
    go_enter Tryd.func56, Tryd.ntmps56
    go_wp2_with fail
    go_ret
    exact ⟨rfl, (Below.refl _ _).alloc (Nat.le_refl _) _⟩
end Go.Proofs.YthldfogmmjompaaDoor.wire
