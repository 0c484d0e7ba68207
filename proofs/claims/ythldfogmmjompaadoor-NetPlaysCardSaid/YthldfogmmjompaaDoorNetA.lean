/-
  Contracts of the walks of slices.Clone (bytes) and slices.Delete (datagrams).
-/
import Derived.Test.YthldfogmmjompaaDoorRows
import Derived.Test.YthldfogmmjompaaDoorRow
import Derived.Test.YthldfogmmjompaaDoorWireRead
import Derived.Deep.RegionLaw
import Derived.WalkSpells
namespace Go.Proofs.YthldfogmmjompaaDoor.net
open Go.RowKit Go.Proofs.YthldfogmmjompaaDoor.heap Go.Proofs.YthldfogmmjompaaDoor.own Go.Proofs.YthldfogmmjompaaDoor.wire

theorem cell_lt {w : World} {a : Addr} {v : Value} (h : w.cell? a = some v) : a.block < w.heap.size := by
  rcases Nat.lt_or_ge a.block w.heap.size with h' | h'
  · exact h'
  · simp [World.cell?, Array.getElem?_eq_none h'] at h

set_option maxHeartbeats 1000000 in
set_option maxRecDepth 100000 in
theorem Clone_any (A : Option Addr) (n cap : Nat) (bs : List UInt8) (w : World) (hrd : RD w w.heap.size A n bs) (hcap : n ≤ cap) (hn : n ≤ 140737488355328) :
    Calls Tryd.prog 58 #[.slice A n cap] w fun e w' => ∃ v, e = .returned v ∧ w'.ownsRow w.heap.size 5 1 v n (bs.map B) ∧ Below w.heap.size w w' := by
  obtain ⟨i0, hi0, hz0, hz1, hz2⟩ := info_parts info5
  have hnil := fun (w : World) (a : Option Addr) (n c : Nat) => Lib.run_eql_slice_nil (P := Tryd.prog) w 33 5 a n c 0 0 Tryd.underlying33
  cases A with
  | none =>
    obtain rfl : n = 0 := by
      rcases Nat.eq_zero_or_pos n with h | h
      · exact h
      · obtain ⟨_, _, e, _⟩ := hrd.2 h; cases e
    have hb : bs = [] := List.eq_nil_of_length_eq_zero hrd.1
    have HB := Lib.hid hb
    clear hb hrd
    go_enter Tryd.func58, Tryd.ntmps58
    go_wp2_with fail
    go_ret
    exact ⟨_, rfl, by rw [HB.out]; exact ⟨rfl, .inl ⟨rfl, rfl⟩⟩, Below.refl _ _⟩
  | some ad =>
    have HRD := Lib.hid hrd
    have hl := Lib.hid hrd.1
    have hnews : Hid (∀ (j : Nat) (u : Value), (bs.map B)[j]? = some u → w.cell? (ad.add j) = some u) := by
      intro j u hj
      rw [List.getElem?_map] at hj
      cases hb : bs[j]? with
      | none => rw [hb] at hj; cases hj
      | some c =>
        rw [hb] at hj
        obtain rfl := Option.some.inj hj
        have hlt := (List.getElem?_eq_some_iff.1 hb).1
        obtain ⟨b, off, e, _, hc⟩ := hrd.2 (by rw [← hrd.1]; omega)
        obtain rfl := Option.some.inj e
        rw [show (⟨b, off, none⟩ : Addr).add j = ⟨b, off + j, none⟩ from by by_cases h0 : j = 0 <;> simp [Addr.add, h0]]
        exact hc j c hb
    clear hrd
    go_enter Tryd.func58, Tryd.ntmps58
    have hne : Hid ((w.alloc (.cells #[] 5)).ownsRow w.heap.size 5 1 (.slice (some ⟨w.heap.size, 0, none⟩) 0 0) 0 []) := owns_new (l := []) (Has.new w (.cells #[] 5)) (Nat.le_refl _) rfl (Nat.zero_le _)
    go_wp2_with (at_builtin; refine wpList_append_own _ rfl (.tmp 5) (.tmp 6) 33 rfl w.heap.size 5 i0 (.int .u8 0) 1 1 Tryd.underlying33 hi0 hz0 hz1 hz2 rfl (by decide) _ _ _ rfl hne.out ad n cap (bs.map B) rfl ?c0 ?c1 ?c2 ?c3 ?c4 ?c5 ?_)
    case c0 => rw [List.length_map, hl.out, Nat.mul_one]
    case c1 =>
      intro j u hj
      have := hnews.out j u hj
      have hlt := (cell_lt this)
      rw [World.cell?_alloc_lt _ _ _ hlt]
      exact this
    case c2 => exact B_one _
    case c3 => unfold maxLen; omega
    case c4 => omega
    case c5 => simp
    intro v w2 hown hg _
    have HO := Lib.hid hown
    have hb : Below w.heap.size w w2 := ((Below.refl _ _).alloc (Nat.le_refl _) _).grown hg (by simp) (fun k hk => by cases hk; exact Nat.le_refl _)
    clear hown hg
    go_wp2
    go_ret
    exact ⟨_, rfl, HO.out, hb⟩

def gramZero : List Value := [.int .i64 0, .slice none 0 0]
theorem gramZero_cells : (Builtin.zeroCells (Value.agg #[.int .i64 0, .slice none 0 0]).cells 1).toList = gramZero := by kernel_rfl
theorem gramZero_one : ∀ v ∈ gramZero, v.oneCell' = true := by simp [gramZero, Value.oneCell']
theorem infoGram : (Tryd.prog.info? 51).map (fun i => (i.zero, i.size, i.bytes)) = some (some (.agg #[.int .i64 0, .slice none 0 0]), 2, 32) := by kernel_rfl
theorem zeroGram (w : World) : (zeroValue 51).run Tryd.prog w = .ok (.agg #[.int .i64 0, .slice none 0 0]) w := by kernel_rfl

set_option maxHeartbeats 1000000 in
set_option maxRecDepth 100000 in
theorem DelGram_any (own : Nat → Nat) (T : Nat) (v : Value) (n k : Nat) (xs : List Value) (w : World) (h : Row own T w 51 2 v n xs) (hk : k < n) (hone : ∀ u ∈ xs, u.oneCell' = true) :
    Calls Tryd.prog 59 #[v, .int .i64 k, .int .i64 ((k : Int) + 1)] w fun e w' => ∃ v', e = .returned v' ∧ v'.ownBlock = v.ownBlock ∧ Row own T w' 51 2 v' (n - 1) (cut 2 k xs) ∧ Turn (fun g => v.ownBlock = some g) w w' := by
  obtain ⟨i0, hi0, hz0, hz1, hz2⟩ := info_parts infoGram
  obtain ⟨g, cap, cur, rfl, ho, hh, hnc, hcm, hcs, hcx⟩ := h.shape (by omega)
  have hxl : xs.length = n * 2 := h.1.1
  have HX := Lib.hid hxl
  have HC := Lib.hid (row_cut (k := k) (zs := gramZero) ho hh.drew hnc hcm hcs hcx hk rfl)
  have HT : Hid (Turn (fun b => (Value.slice (some ⟨g, 0, none⟩) n cap).ownBlock = some b) w ((w.drew.setCells g (k * 2) (xs.drop ((k + 1) * 2))).setCells g ((n - 1) * 2) gramZero)) :=
    turn_two (S := fun b => (Value.slice (some ⟨g, 0, none⟩) n cap).ownBlock = some b) rfl w _ _ _ _
  obtain ⟨A, hA, hsrc⟩ : ∃ A : Addr, (if cap = k + 1 then (some ⟨g, 0, none⟩ : Option Addr) else some ⟨g, (k + 1) * 2, none⟩) = some A ∧ Hid (∀ t u, (xs.drop ((k + 1) * 2))[t]? = some u → w.drew.cell? (A.add t) = some u) := by
    by_cases h : cap = k + 1
    · refine ⟨⟨g, 0, none⟩, by simp [h], fun t u hu => ?_⟩
      have := (List.getElem?_eq_some_iff.1 hu).1
      simp at this
      omega
    · refine ⟨⟨g, (k + 1) * 2, none⟩, by simp [h], fun t u hu => ?_⟩
      rw [List.getElem?_drop] at hu
      have hlt := (List.getElem?_eq_some_iff.1 hu).1
      have := (row_cell hh hcx ((k + 1) * 2 + t) (by omega)).1
      rw [show (⟨g, (k + 1) * 2, none⟩ : Addr).add t = ⟨g, (k + 1) * 2 + t, none⟩ from by by_cases h0 : t = 0 <;> simp [Addr.add, h0]]
      exact this.trans hu
  have s1 : Hid ((xs.drop ((k + 1) * 2)).length = (n - (k + 1)) * 2) := by rw [Hid, List.length_drop, hxl]; omega
  have s2 : Hid (∀ u ∈ xs.drop ((k + 1) * 2), u.oneCell' = true) := fun u hu => hone u (List.mem_of_mem_drop hu)
  have s3 : Hid (∀ t, t < (xs.drop ((k + 1) * 2)).length → (w.drew.cell? ⟨g, 0 + k * 2 + t, none⟩).isSome = true ∧ w.drew.frozen? ⟨g, 0 + k * 2 + t, none⟩ = false) := by
    intro t ht
    rw [List.length_drop, hxl] at ht
    rw [Nat.zero_add]
    exact row_there hh.drew hcs _ (by omega)
  obtain ⟨W1, hW1⟩ : ∃ W1, W1 = w.drew.setCells g (0 + k * 2) (xs.drop ((k + 1) * 2)) := ⟨_, rfl⟩
  have hW1' : Hid (W1 = w.drew.setCells g (k * 2) (xs.drop ((k + 1) * 2))) := by rw [hW1, Nat.zero_add]; rfl
  have hcl : ∀ ty, (Builtin.clear_ #[47] ty #[.slice (some ⟨g, (k + (n - (k + 1))) * 2, none⟩) (n - (k + (n - (k + 1)))) (cap - (k + (n - (k + 1))))]).run Tryd.prog W1 = .ok (.tuple #[]) (W1.setCells g ((n - 1) * 2) gramZero) := fun ty => by
    rw [show k + (n - (k + 1)) = n - 1 from by omega, show n - (n - 1) = 1 from by omega]
    have hh1 : Has W1 g (.cells (lay cur (k * 2) (xs.drop ((k + 1) * 2))) 51) := by rw [hW1'.out]; exact Has.setCells _ hh.drew _
    exact run_clear_one W1 _ _ ty _ gramZero Tryd.underlying47 (zeroGram _) gramZero_cells gramZero_one g _ _ (fun j hj => (row_there hh1 (by rw [lay_size, hcs]) _ (by have e : gramZero.length = 2 := rfl; rw [e] at hj; omega)).1) (fun j hj => hh1.frozen _)
  have HW := Lib.hid hW1
  have hkc : k + 1 ≤ cap := by omega
  have hkc0 : k ≤ cap := by omega
  have g1 : (0 : Int) ≤ (k : Int) + 1 := by omega
  have g2 : (k : Int) + 1 ≤ (n : Int) := by omega
  unfold maxLen at hcm
  clear hW1 h hh hcs hcx hxl hone ho
  go_enter Tryd.func59, Tryd.ntmps59
  go_wp2_with fail
  go_region_law (refine step_append_room rfl (.tmp 22) (.tmp 25) 47 rfl 51 i0 2 Tryd.underlying47 hi0 hz1 g 0 k cap (by simp [Act.eval, Act.put]) A (n - (k + 1)) (cap - (k + 1)) (xs.drop ((k + 1) * 2)) (by simp [Act.eval, Act.put]) s1.out hsrc.out s2.out (by omega) s3.out ?_; rw [← HW.out])
  go_wp2
  go_ret
  refine ⟨_, rfl, rfl, ?_, ?_⟩
  · show Row own T (W1.setCells g ((n - 1) * 2) gramZero) _ 2 (.slice (some ⟨g, 0, none⟩) (k + (n - (k + 1))) cap) _ _
    rw [show k + (n - (k + 1)) = n - 1 from by omega, hW1'.out]
    exact HC.out
  · rw [hW1'.out]
    exact HT.out
end Go.Proofs.YthldfogmmjompaaDoor.net
