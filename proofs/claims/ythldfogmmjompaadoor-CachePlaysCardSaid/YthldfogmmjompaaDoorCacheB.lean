/-
  Contracts of the walks of package cache: slices.Delete of an item, Drop, Clear.
-/
import Derived.Test.YthldfogmmjompaaDoorCacheA
namespace Go.Proofs.YthldfogmmjompaaDoor.cache
open Go.RowKit Go.Proofs.YthldfogmmjompaaDoor.heap Go.Proofs.YthldfogmmjompaaDoor.own

def itemZero : List Value := [.int .i64 0, .string ByteArray.empty, .int .i64 0, .int .i64 0]
theorem itemZero_cells : (Builtin.zeroCells (Value.agg #[.int .i64 0, .string ByteArray.empty, .int .i64 0, .int .i64 0]).cells 1).toList = itemZero := by kernel_rfl
theorem itemZero_one : ∀ v ∈ itemZero, v.oneCell' = true := by simp [itemZero, Value.oneCell']
theorem infoItem : (Tryd.prog.info? 122).map (fun i => (i.zero, i.size, i.bytes)) = some (some (.agg #[.int .i64 0, .string ByteArray.empty, .int .i64 0, .int .i64 0]), 4, 40) := by kernel_rfl
theorem zeroItem (w : World) : (zeroValue 122).run Tryd.prog w = .ok (.agg #[.int .i64 0, .string ByteArray.empty, .int .i64 0, .int .i64 0]) w := by kernel_rfl

set_option maxHeartbeats 1000000 in
set_option maxRecDepth 100000 in
theorem DelItem_any (own : Nat → Nat) (T : Nat) (v : Value) (n k : Nat) (xs : List Value) (w : World) (h : Row own T w 122 4 v n xs) (hk : k < n) (hone : ∀ u ∈ xs, u.oneCell' = true) :
    Calls Tryd.prog 60 #[v, .int .i64 k, .int .i64 ((k : Int) + 1)] w fun e w' => ∃ v', e = .returned v' ∧ v'.ownBlock = v.ownBlock ∧ Row own T w' 122 4 v' (n - 1) (cut 4 k xs) ∧ Turn (fun g => v.ownBlock = some g) w w' := by
  obtain ⟨i0, hi0, hz0, hz1, hz2⟩ := info_parts infoItem
  obtain ⟨g, cap, cur, rfl, ho, hh, hnc, hcm, hcs, hcx⟩ := h.shape (by omega)
  have hxl : xs.length = n * 4 := h.1.1
  have HX := Lib.hid hxl
  have HC := Lib.hid (row_cut (k := k) (zs := itemZero) ho hh.drew hnc hcm hcs hcx hk rfl)
  have HT : Hid (Turn (fun b => (Value.slice (some ⟨g, 0, none⟩) n cap).ownBlock = some b) w ((w.drew.setCells g (k * 4) (xs.drop ((k + 1) * 4))).setCells g ((n - 1) * 4) itemZero)) :=
    turn_two (S := fun b => (Value.slice (some ⟨g, 0, none⟩) n cap).ownBlock = some b) rfl w _ _ _ _
  obtain ⟨A, hA, hsrc⟩ : ∃ A : Addr, (if cap = k + 1 then (some ⟨g, 0, none⟩ : Option Addr) else some ⟨g, (k + 1) * 4, none⟩) = some A ∧ Hid (∀ t u, (xs.drop ((k + 1) * 4))[t]? = some u → w.drew.cell? (A.add t) = some u) := by
    by_cases h : cap = k + 1
    · refine ⟨⟨g, 0, none⟩, by simp [h], fun t u hu => ?_⟩
      have := (List.getElem?_eq_some_iff.1 hu).1
      simp at this
      omega
    · refine ⟨⟨g, (k + 1) * 4, none⟩, by simp [h], fun t u hu => ?_⟩
      rw [List.getElem?_drop] at hu
      have hlt := (List.getElem?_eq_some_iff.1 hu).1
      have := (row_cell hh hcx ((k + 1) * 4 + t) (by omega)).1
      rw [show (⟨g, (k + 1) * 4, none⟩ : Addr).add t = ⟨g, (k + 1) * 4 + t, none⟩ from by by_cases h0 : t = 0 <;> simp [Addr.add, h0]]
      exact this.trans hu
  have s1 : Hid ((xs.drop ((k + 1) * 4)).length = (n - (k + 1)) * 4) := by rw [Hid, List.length_drop, hxl]; omega
  have s2 : Hid (∀ u ∈ xs.drop ((k + 1) * 4), u.oneCell' = true) := fun u hu => hone u (List.mem_of_mem_drop hu)
  have s3 : Hid (∀ t, t < (xs.drop ((k + 1) * 4)).length → (w.drew.cell? ⟨g, 0 + k * 4 + t, none⟩).isSome = true ∧ w.drew.frozen? ⟨g, 0 + k * 4 + t, none⟩ = false) := by
    intro t ht
    rw [List.length_drop, hxl] at ht
    rw [Nat.zero_add]
    exact row_there hh.drew hcs _ (by omega)
  obtain ⟨W1, hW1⟩ : ∃ W1, W1 = w.drew.setCells g (0 + k * 4) (xs.drop ((k + 1) * 4)) := ⟨_, rfl⟩
  have hW1' : Hid (W1 = w.drew.setCells g (k * 4) (xs.drop ((k + 1) * 4))) := by rw [hW1, Nat.zero_add]; rfl
  have hcl : ∀ ty, (Builtin.clear_ #[62] ty #[.slice (some ⟨g, (k + (n - (k + 1))) * 4, none⟩) (n - (k + (n - (k + 1)))) (cap - (k + (n - (k + 1))))]).run Tryd.prog W1 = .ok (.tuple #[]) (W1.setCells g ((n - 1) * 4) itemZero) := fun ty => by
    rw [show k + (n - (k + 1)) = n - 1 from by omega, show n - (n - 1) = 1 from by omega]
    have hh1 : Has W1 g (.cells (lay cur (k * 4) (xs.drop ((k + 1) * 4))) 122) := by rw [hW1'.out]; exact Has.setCells _ hh.drew _
    exact run_clear_one W1 _ _ ty _ itemZero Tryd.underlying62 (zeroItem _) itemZero_cells itemZero_one g _ _ (fun j hj => (row_there hh1 (by rw [lay_size, hcs]) _ (by have e : itemZero.length = 4 := rfl; rw [e] at hj; omega)).1) (fun j hj => hh1.frozen _)
  have HW := Lib.hid hW1
  have hkc : k + 1 ≤ cap := by omega
  have hkc0 : k ≤ cap := by omega
  have g1 : (0 : Int) ≤ (k : Int) + 1 := by omega
  have g2 : (k : Int) + 1 ≤ (n : Int) := by omega
  unfold maxLen at hcm
  clear hW1 h hh hcs hcx hxl hone ho
  go_enter Tryd.func60, Tryd.ntmps60
  go_wp2_with fail
  go_region_law (refine step_append_room rfl (.tmp 22) (.tmp 25) 62 rfl 122 i0 4 Tryd.underlying62 hi0 hz1 g 0 k cap (by simp [Act.eval, Act.put]) A (n - (k + 1)) (cap - (k + 1)) (xs.drop ((k + 1) * 4)) (by simp [Act.eval, Act.put]) s1.out hsrc.out s2.out (by omega) s3.out ?_; rw [← HW.out])
  go_wp2
  go_ret
  refine ⟨_, rfl, rfl, ?_, ?_⟩
  · show Row own T (W1.setCells g ((n - 1) * 4) itemZero) _ 4 (.slice (some ⟨g, 0, none⟩) (k + (n - (k + 1))) cap) _ _
    rw [show k + (n - (k + 1)) = n - 1 from by omega, hW1'.out]
    exact HC.out
  · rw [hW1'.out]
    exact HT.out

def dropI (l : List It) (o : Int) : List It := l.eraseP (fun x => decide (x.obj = o))
theorem find_cases (l : List It) (o : Int) : (∃ (k : Nat) (x : It), l[k]? = some x ∧ x.obj = o ∧ findAt l o = k ∧ k < l.length ∧ dropI l o = l.eraseIdx k ∧ l.find? (fun x => decide (x.obj = o)) = some x) ∨ (findAt l o = -1 ∧ dropI l o = l ∧ l.find? (fun x => decide (x.obj = o)) = none) := by
  unfold findAt dropI
  rw [List.eraseP_eq_eraseIdx]
  cases h : l.findIdx? (fun x => decide (x.obj = o)) with
  | none =>
    right
    refine ⟨rfl, rfl, ?_⟩
    rw [List.find?_eq_none]
    rw [List.findIdx?_eq_none_iff] at h
    intro x hx
    simpa using h x hx
  | some k =>
    left
    obtain ⟨hk, h1, h2⟩ := List.findIdx?_eq_some_iff_getElem.1 h
    refine ⟨k, l[k], List.getElem?_eq_getElem hk, by simpa using h1, rfl, hk, rfl, ?_⟩
    rw [List.find?_eq_some_iff_getElem]
    exact ⟨h1, k, hk, rfl, fun j hj => by simpa using h2 j hj⟩

theorem Items.below {own : Nat → Nat} {T : Nat} {w w' : World} {v : Value} {l : List It} (h : Items own T w v l) (hb : Below w.heap.size w w') : Items own T w' v l := Row.below h hb

/-- What becomes of a cache whose one cell lies at ⟨b, q⟩. -/
def CachePost (own : Nat → Nat) (T b q : Nat) (cs : Array Value) (t : TypeId) (l : List It) (w w' : World) : Prop :=
  ∃ own' v', Ext w own own' ∧ Turn (fun k => k = b ∨ own k = T) w w' ∧ Has w' b (.cells (cs.setIfInBounds q v') t) ∧ Items own' T w' v' l

theorem set_same {cs : Array Value} {o : Nat} {v : Value} (h : cs[o]? = some v) : cs.setIfInBounds o v = cs := by
  apply Array.ext_getElem?
  intro i
  rw [Array.getElem?_setIfInBounds]
  split
  · rename_i e; subst e
    rw [if_pos (Array.getElem?_eq_some_iff.1 h).1, h]
  · rfl

set_option maxHeartbeats 1000000 in
set_option maxRecDepth 100000 in
theorem Drop_any (own : Nat → Nat) (T b q : Nat) (cs : Array Value) (t : TypeId) (v : Value) (l : List It) (o : Int) (w : World) (hB : Has w b (.cells cs t)) (c0 : cs[q]? = some v) (hb : own b ≠ T) (h : Items own T w v l) :
    Calls Tryd.prog 32 #[.pointer (some ⟨b, q, none⟩), .int .i64 o] w fun e w' => e = .returned (.tuple #[]) ∧ CachePost own T b q cs t (dropI l o) w w' := by
  have k0 : w.cell? ⟨b, q, none⟩ = some v := (hB.cell q).trans c0
  have F := Lib.hid (find_any own T b q v l o w k0 h)
  have hlt := hB.lt
  rcases find_cases l o with ⟨k, x, hk, hx, hf, hkl, hd, -⟩ | ⟨hf, hd, -⟩
  · obtain ⟨g, cap, cur, rfl, ho, hh, hnc, hcm, hcs, hcx⟩ := h.shape (by omega)
    have hgb : g ≠ b := by rintro rfl; exact hb ho
    have HB := Lib.hid hB
    have HC0 := Lib.hid c0
    have HH := Lib.hid h
    have HD := Lib.hid hd
    have HF := Lib.hid hf
    unfold maxLen at hcm
    have hl9 : l.length ≤ 9223372036854775807 := by omega
    have hkz : (k : Int) + 1 ≤ l.length := by omega
    have hk9 : ¬ ((k : Int) < 0) := by omega
    clear hB c0 h hd hf hk hx ho hh hcs hcx
    go_enter Tryd.func32, Tryd.ntmps32
    go_wp2_with fail
    refine F.out.mono ?_
    rintro e w1 ⟨rfl, hb1⟩
    rw [HF.out]
    have k1 : w1.cell? ⟨b, q, none⟩ = some (.slice (some ⟨g, 0, none⟩) l.length cap) := (hb1.cell (p := ⟨b, q, none⟩) hlt).trans k0
    have HB1 := Lib.hid hb1
    clear hb1
    go_wp2_with fail
    refine (DelItem_any own T _ l.length k (icells l) _ (HH.out.below HB1.out) hkl (icells_one l)).mono ?_
    rintro e w2 ⟨v', rfl, hv', hrow2, ht2⟩
    obtain ⟨ag, ng, cg, rfl⟩ : ∃ a m c, v' = .slice a m c := by
      rcases hrow2.1.2 with ⟨rfl, _⟩ | ⟨g, cap, cur, rfl, _⟩ <;> exact ⟨_, _, _, rfl⟩
    have hS : ∀ k, k ≠ g → ¬ ((Value.slice (some ⟨g, 0, none⟩) l.length cap).ownBlock = some k) := fun k hk e => hk (by simpa [Value.ownBlock] using e.symm)
    have hB2 : Has w2 b (.cells cs t) := ht2.has (HB.out.below HB1.out hlt) (hS _ (Ne.symm hgb))
    have k2 : w2.cell? ⟨b, q, none⟩ = some (.slice (some ⟨g, 0, none⟩) l.length cap) := (hB2.cell q).trans HC0.out
    have f2 : w2.frozen? ⟨b, q, none⟩ = false := hB2.frozen q
    have HV := Lib.hid hv'
    have HR2 := Lib.hid hrow2
    have HT2 := Lib.hid ht2
    have HB2 := Lib.hid hB2
    clear hv' hrow2 ht2 hB2 hS k1
    go_wp2_with fail
    go_end0
    refine ⟨rfl, own, .slice ag ng cg, Ext.refl _ _, ?_, HB2.out.set_ q _, ?_⟩
    · refine ((((Turn.refl _ w).then_below HB1.out (Nat.le_refl _)).trans HT2.out (fun k' _ e => .inr ?_)).setCell (p := ⟨b, q, none⟩) (.inr (.inl rfl)) _)
      exact HH.out.2 k' e
    · rw [HD.out]
      have e1 : (l.eraseIdx k).length = l.length - 1 := List.length_eraseIdx_of_lt hkl
      have e2 : cut 4 k (icells l) = icells (l.eraseIdx k) := cut_flat 4 k _ (fun _ => rfl) l
      unfold Items
      rw [e1, ← e2]
      refine ⟨row_kept HR2.out.1 fun k' hk' => ?_, HR2.out.2⟩
      rw [HV.out] at hk'
      have : g = k' := by simpa [Value.ownBlock] using hk'
      subst this
      exact Below.heap_setCell _ _ _ _ hgb
  · have HF := Lib.hid hf
    have HB := Lib.hid hB
    have HC0 := Lib.hid c0
    have HH := Lib.hid h
    have HD := Lib.hid hd
    clear hB c0 h hd hf
    go_enter Tryd.func32, Tryd.ntmps32
    go_wp2_with fail
    refine F.out.mono ?_
    rintro e w1 ⟨rfl, hb1⟩
    rw [HF.out]
    have HB1 := Lib.hid hb1
    clear hb1
    go_wp2_with fail
    go_end0
    refine ⟨rfl, own, v, Ext.refl _ _, (Turn.refl _ w).then_below HB1.out (Nat.le_refl _), ?_, ?_⟩
    · rw [set_same HC0.out]; exact HB.out.below HB1.out hlt
    · rw [HD.out]; exact HH.out.below HB1.out

theorem Clear_any (own : Nat → Nat) (T b q : Nat) (cs : Array Value) (t : TypeId) (v : Value) (w : World) (hB : Has w b (.cells cs t)) (c0 : cs[q]? = some v) :
    Calls Tryd.prog 34 #[.pointer (some ⟨b, q, none⟩)] w fun e w' => e = .returned (.tuple #[]) ∧ CachePost own T b q cs t [] w w' := by
  have k0 : w.cell? ⟨b, q, none⟩ = some v := (hB.cell q).trans c0
  have f0 : w.frozen? ⟨b, q, none⟩ = false := hB.frozen q
  have HB := Lib.hid hB
  clear hB c0
  go_enter Tryd.func34, Tryd.ntmps34
  go_wp2_with fail
  go_end0
  exact ⟨rfl, own, .slice none 0 0, Ext.refl _ _, (Turn.refl _ w).setCell (p := ⟨b, q, none⟩) (.inr (.inl rfl)) _, HB.out.set_ q _, Row.nil _ _ _ _ _⟩
end Go.Proofs.YthldfogmmjompaaDoor.cache
