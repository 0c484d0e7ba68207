/-
  Contracts of the walks of the reference's cache: Put.
-/
import Derived.Test.YthldfogmmjompaaDoorCacheU
import Derived.Test.YthldfogmmjompaaDoorRegionLast
namespace Go.Proofs.YthldfogmmjompaaDoor.cache
open Go.RowKit Go.Proofs.YthldfogmmjompaaDoor.heap Go.Proofs.YthldfogmmjompaaDoor.own

attribute [local go_sem ↓] Go.wp_at_zero Go.wp_at_succ

theorem RPost.comp {own own1 : Nat → Nat} {T b : Nat} {time : Int} {l : List RIt} {w w1 w2 : World} (e1 : Ext w own own1) (t1 : Turn (fun k => k = b ∨ own k = T) w w1) (h2 : RPost own1 T b time l w1 w2) : RPost own T b time l w w2 := by
  obtain ⟨own2, v2, e2, t2, b2, i2⟩ := h2
  refine ⟨own2, v2, e1.trans e2 t1.size, t1.trans t2 (fun k hk hS => ?_), b2, i2⟩
  rcases hS with hS | hS
  · exact .inl hS
  · exact .inr ((e1 k hk).symm.trans hS)

/-- What Put of the reference leaves. -/
def rput (l : List RIt) (x : RIt) : List RIt :=
  let l' := rdrop l x.obj ++ [x]
  if 6 < l'.length then rdrop l' ((robjs l').headD 0) else l'

/-- Behind the append. -/
theorem rappend_done {own : Nat → Nat} {T b g cap' : Nat} {time : Int} {sl : Value} {l : List RIt} {x : RIt} {w wA w3 : World}
    (hb : own b ≠ T) (hT : Turn (fun k => k = b ∨ own k = T) w wA) (hI : Row own T wA 124 5 sl l.length (rcells l)) (hsl : ∀ k, sl.ownBlock = some k → k < w.heap.size) (hlt : b < w.heap.size) (hB : Has wA b (.cells #[sl, .int .i64 time] 68))
    (ho3 : w3.ownsRow 0 124 5 (.slice (some ⟨g, 0, none⟩) (l.length + 1) cap') (l.length + 1) (rcells l ++ ritc x))
    (hg3 : wA.grownBy w3 sl.ownBlock) (hg : sl.ownBlock = some g ∨ g = wA.heap.size) :
    RPost own T b time (l ++ [x]) w (w3.setCell ⟨b, 0, none⟩ (.slice (some ⟨g, 0, none⟩) (l.length + 1) cap')) := by
  have hrb : ∀ k, sl.ownBlock = some k → k < w.heap.size ∧ own k = T := fun k hk => ⟨hsl k hk, hI.2 k hk⟩
  have hs := hT.size
  have hgl : own g = T ∧ g < w.heap.size ∨ g = wA.heap.size := hg.imp (fun h => ⟨(hrb g h).2, (hrb g h).1⟩) (fun h => h)
  have hgb : g ≠ b := by
    rintro rfl
    rcases hgl with h | h
    · exact hb h.1
    · omega
  refine ⟨newOwn own w T, .slice (some ⟨g, 0, none⟩) (l.length + 1) cap', Ext.new _ _ _, (hT.grown hg3 (fun k hk => .inr (.inr (hrb k hk).2))).setCell (p := ⟨b, 0, none⟩) (.inr (.inl rfl)) _, ?_, ?_⟩
  · have h1 : Has w3 b (.cells #[sl, .int .i64 time] 68) := (hg3.block b (by omega) (fun e => hb (hrb b e.symm).2)).trans hB
    exact h1.set_ 0 _
  · unfold RItems
    rw [List.length_append, List.length_singleton, rcells_snoc]
    refine ⟨row_kept ho3 fun k hk => Below.heap_setCell _ _ _ _ (by
      have : g = k := by simpa [Value.ownBlock] using hk
      show k ≠ b
      omega), fun k hk => ?_⟩
    obtain rfl : g = k := by simpa [Value.ownBlock] using hk
    rcases hgl with h | h
    · rw [new_old h.2]; exact h.1
    · exact new_new (by omega)

set_option maxHeartbeats 2000000 in
set_option maxRecDepth 100000 in
theorem RPut_any (own : Nat → Nat) (T b : Nat) (time : Int) (v : Value) (l : List RIt) (x : RIt) (w : World) (hB : Has w b (.cells #[v, .int .i64 time] 68)) (hb : own b ≠ T) (h : RItems own T w v l) (hl : l.length ≤ 100) (ht : 0 ≤ time) (ht2 : time ≤ 1000) (hx : x.used = time + 1) :
    Calls Tryd.prog 29 #[.pointer (some ⟨b, 0, none⟩), .int .i64 x.obj, .agg #[.string ⟨x.data.toArray⟩, .int .i64 x.ver], .int .i64 x.till] w fun e w' => e = .returned (.tuple #[]) ∧ RPost own T b (time + 1) (rput l x) w w' := by
  obtain ⟨i0, hi0, hz0, hz1, hz2⟩ := info_parts infoRItem
  obtain ⟨a, c, rfl, -⟩ := h.shape
  have hlt := hB.lt
  have k0 : w.cell? ⟨b, 0, none⟩ = some (.slice a l.length c) := hB.cell 0
  have k1 : w.cell? ⟨b, 1, none⟩ = some (.int .i64 time) := hB.cell 1
  have f1 : w.frozen? ⟨b, 1, none⟩ = false := hB.frozen 1
  have hwrap : IntKind.i64.wrap (time + 1) = time + 1 := by simp only [IntKind.wrap_i64]; omega
  obtain ⟨W0, hW0⟩ : ∃ W0, W0 = w.setCell ⟨b, 1, none⟩ (.int .i64 (time + 1)) := ⟨_, rfl⟩
  have hs0 : W0.heap.size = w.heap.size := by rw [hW0]; simp [World.setCell]
  obtain ⟨W1, hW1⟩ : ∃ W1, W1 = W0.alloc (.cells #[.string ⟨x.data.toArray⟩, .int .i64 x.ver] 70) := ⟨_, rfl⟩
  have hs1 : W1.heap.size = w.heap.size + 1 := by rw [hW1, World.size_alloc, hs0]
  have HT1 : Hid (Turn (fun k => k = b) w W1) := by rw [hW1, hW0]; exact ((Turn.refl (fun k => k = b) w).setCell (p := ⟨b, 1, none⟩) (.inr rfl) _).alloc _
  have HB1 : Hid (Has W1 b (.cells #[.slice a l.length c, .int .i64 (time + 1)] 68)) := by rw [hW1, hW0]; exact (hB.set_ 1 _).alloc _
  have HX1 : Hid (Has W1 w.heap.size (.cells #[.string ⟨x.data.toArray⟩, .int .i64 x.ver] 70)) := by rw [hW1, ← hs0]; exact Has.new _ _
  have hE0 : Ext w own (newOwn own w (T + 1)) := Ext.new _ _ _
  have HX0 : Hid (newOwn own w (T + 1) w.heap.size = T + 1) := new_new (Nat.le_refl _)
  have hb0 : newOwn own w (T + 1) b ≠ T := by rw [new_old hlt]; exact hb
  have HOB := Lib.hid hb0
  have D := Lib.hid (RDrop_any (newOwn own w (T + 1)) T b (time + 1) (.slice a l.length c) l x.obj W1 HB1.out (Row.keep h HT1.out hE0 (fun j _ e hS => hb (by rw [← hS]; exact e))) (by omega))
  have HE0 := Lib.hid hE0
  have HL := Lib.hid hl
  clear hB h hb hb0 hE0
  go_enter Tryd.func29, Tryd.ntmps29
  go_wp2_with fail
  rw [← hW0, ← hW1]
  refine D.out.mono ?_
  rintro e w1 ⟨rfl, own1, v1, e1, t1, hB1, hI1⟩
  rw [← hx] at hB1
  obtain ⟨A, m, cap, rfl⟩ := owns_any hI1.1
  have hlt1 : b < w1.heap.size := hB1.lt
  have hX := t1.has HX1.out (fun h => by have := HX0.out; rcases h with h | h <;> omega)
  have j0 : w1.cell? ⟨b, 0, none⟩ = some (.slice A m cap) := hB1.cell 0
  have j1 : w1.cell? ⟨b, 1, none⟩ = some (.int .i64 x.used) := hB1.cell 1
  have j2 : w1.cell? ⟨w.heap.size, 0, none⟩ = some (.string ⟨x.data.toArray⟩) := hX.cell 0
  have j3 : w1.cell? ⟨w.heap.size, 1, none⟩ = some (.int .i64 x.ver) := hX.cell 1
  have ob1 : own1 b ≠ T := by rw [e1 b (by omega)]; exact HOB.out
  have ow1 : own1 w.heap.size ≠ T := by rw [e1 w.heap.size (by omega), HX0.out]; omega
  obtain ⟨LL, hLL⟩ : ∃ LL, LL = rdrop l x.obj := ⟨_, rfl⟩
  rw [← hLL] at hI1
  have hll : LL.length ≤ 100 := by rw [hLL]; exact Nat.le_trans (List.length_filter_le _ _) HL.out
  have HLL := Lib.hid hLL
  have HE1 := Lib.hid e1
  have HT1' := Lib.hid t1
  have HB1' := Lib.hid hB1
  have HI1 := Lib.hid hI1
  have HOB1 := Lib.hid ob1
  have HNB : Hid (∀ k, (Value.slice A m cap).ownBlock = some k → k ≠ b) := fun k hk e => ob1 (by rw [← e]; exact hI1.2 k hk)
  have HNW : Hid (∀ k, (Value.slice A m cap).ownBlock = some k → k ≠ w.heap.size) := fun k hk e => ow1 (by rw [← e]; exact hI1.2 k hk)
  have HSL : Hid (∀ k, (Value.slice A m cap).ownBlock = some k → k < w1.heap.size) := fun k hk => hI1.lt k hk
  have HXU := Lib.hid hx
  clear hLL e1 t1 hB1 hI1 ob1 ow1 hX k0 k1 f1 hwrap hW0 hW1 hx
  go_upto_region 3 with fail
  refine last.wp_region_last (S := fun W => W.cell? ⟨b, 0, none⟩ = some (.slice A m cap) ∧ W.cell? ⟨b, 1, none⟩ = some (.int .i64 x.used) ∧ W.cell? ⟨w.heap.size, 0, none⟩ = some (.string ⟨x.data.toArray⟩) ∧ W.cell? ⟨w.heap.size, 1, none⟩ = some (.int .i64 x.ver)) (L := 17) (by kernel_rfl) ?_
  refine last.wpAnyL_take (i := 0) (v := .pointer (some ⟨b, 0, none⟩)) rfl (by kernel_rfl) (by kernel_rfl) (by kernel_rfl) (by kernel_rfl) (fun _ _ _ h => h) ⟨j0, j1, j2, j3⟩ (by rfl) (fun W hW => by obtain ⟨hW1, hW2, hW3, hW4⟩ := hW; go_simp) ?_
  dsimp only [Act.put]
  refine last.wpAnyL_take (i := 1) (v := .pointer (some ⟨b, 0, none⟩)) rfl (by kernel_rfl) (by kernel_rfl) (by kernel_rfl) (by kernel_rfl) (fun _ _ _ h => h) ⟨j0, j1, j2, j3⟩ (by rfl) (fun W hW => by obtain ⟨hW1, hW2, hW3, hW4⟩ := hW; go_simp) ?_
  dsimp only [Act.put]
  refine last.wpAnyL_take (i := 2) (v := .pointer (some ⟨b, 0, none⟩)) rfl (by kernel_rfl) (by kernel_rfl) (by kernel_rfl) (by kernel_rfl) (fun _ _ _ h => h) ⟨j0, j1, j2, j3⟩ (by rfl) (fun W hW => by obtain ⟨hW1, hW2, hW3, hW4⟩ := hW; go_simp) ?_
  dsimp only [Act.put]
  refine last.wpAnyL_take (i := 3) (v := .pointer (some ⟨b, 0, none⟩)) rfl (by kernel_rfl) (by kernel_rfl) (by kernel_rfl) (by kernel_rfl) (fun _ _ _ h => h) ⟨j0, j1, j2, j3⟩ (by rfl) (fun W hW => by obtain ⟨hW1, hW2, hW3, hW4⟩ := hW; go_simp) ?_
  dsimp only [Act.put]
  refine last.wpAnyL_take (i := 4) (v := .slice A m cap) rfl (by kernel_rfl) (by kernel_rfl) (by kernel_rfl) (by kernel_rfl) (fun _ _ _ h => h) ⟨j0, j1, j2, j3⟩ (by rfl) (fun W hW => by obtain ⟨hW1, hW2, hW3, hW4⟩ := hW; go_simp) ?_
  dsimp only [Act.put]
  refine last.wpAnyL_take (i := 5) (v := .int .i64 x.obj) rfl (by kernel_rfl) (by kernel_rfl) (by kernel_rfl) (by kernel_rfl) (fun _ _ _ h => h) ⟨j0, j1, j2, j3⟩ (by rfl) (fun W hW => by obtain ⟨hW1, hW2, hW3, hW4⟩ := hW; go_simp) ?_
  dsimp only [Act.put]
  refine last.wpAnyL_take (i := 6) (v := .agg #[.string ⟨x.data.toArray⟩, .int .i64 x.ver]) rfl (by kernel_rfl) (by kernel_rfl) (by kernel_rfl) (by kernel_rfl) (fun _ _ _ h => h) ⟨j0, j1, j2, j3⟩ (by rfl) (fun W hW => by obtain ⟨hW1, hW2, hW3, hW4⟩ := hW; go_simp) ?_
  dsimp only [Act.put]
  refine last.wpAnyL_take (i := 7) (v := .int .i64 x.till) rfl (by kernel_rfl) (by kernel_rfl) (by kernel_rfl) (by kernel_rfl) (fun _ _ _ h => h) ⟨j0, j1, j2, j3⟩ (by rfl) (fun W hW => by obtain ⟨hW1, hW2, hW3, hW4⟩ := hW; go_simp) ?_
  dsimp only [Act.put]
  refine last.wpAnyL_take (i := 8) (v := .pointer (some ⟨b, 0, none⟩)) rfl (by kernel_rfl) (by kernel_rfl) (by kernel_rfl) (by kernel_rfl) (fun _ _ _ h => h) ⟨j0, j1, j2, j3⟩ (by rfl) (fun W hW => by obtain ⟨hW1, hW2, hW3, hW4⟩ := hW; go_simp) ?_
  dsimp only [Act.put]
  refine last.wpAnyL_take (i := 9) (v := .pointer (some ⟨b, 0, none⟩)) rfl (by kernel_rfl) (by kernel_rfl) (by kernel_rfl) (by kernel_rfl) (fun _ _ _ h => h) ⟨j0, j1, j2, j3⟩ (by rfl) (fun W hW => by obtain ⟨hW1, hW2, hW3, hW4⟩ := hW; go_simp) ?_
  dsimp only [Act.put]
  refine last.wpAnyL_take (i := 10) (v := .pointer (some ⟨b, 1, none⟩)) rfl (by kernel_rfl) (by kernel_rfl) (by kernel_rfl) (by kernel_rfl) (fun _ _ _ h => h) ⟨j0, j1, j2, j3⟩ (by rfl) (fun W hW => by obtain ⟨hW1, hW2, hW3, hW4⟩ := hW; go_simp) ?_
  dsimp only [Act.put]
  refine last.wpAnyL_take (i := 11) (v := .int .i64 x.used) rfl (by kernel_rfl) (by kernel_rfl) (by kernel_rfl) (by kernel_rfl) (fun _ _ _ h => h) ⟨j0, j1, j2, j3⟩ (by rfl) (fun W hW => by obtain ⟨hW1, hW2, hW3, hW4⟩ := hW; go_simp) ?_
  dsimp only [Act.put]
  refine last.wpAnyL_take (i := 12) (v := .agg #[.int .i64 x.obj, .string ⟨x.data.toArray⟩, .int .i64 x.ver, .int .i64 x.till, .int .i64 x.used]) rfl (by kernel_rfl) (by kernel_rfl) (by kernel_rfl) (by kernel_rfl) (fun _ _ _ h => h) ⟨j0, j1, j2, j3⟩ (by rfl) (fun W hW => by obtain ⟨hW1, hW2, hW3, hW4⟩ := hW; go_simp) ?_
  dsimp only [Act.put]
  refine last.wpAnyL_one (i := 13) (by kernel_rfl) rfl fun K hK => ?_
  go_simp
  refine hK.out _ _ (fun _ => ⟨alloc_cell j0 _, alloc_cell j1 _, alloc_cell j2 _, alloc_cell j3 _⟩) ?_
  clear hK
  obtain ⟨wA, hwA⟩ : ∃ wA, wA = (w1.alloc (.cells #[.int .i64 x.obj, .string ⟨x.data.toArray⟩, .int .i64 x.ver, .int .i64 x.till, .int .i64 x.used] 124)).drew := ⟨_, rfl⟩
  rw [← hwA]
  have hsA : wA.heap.size = w1.heap.size + 1 := by rw [hwA]; exact World.size_alloc _ _
  have hbA : Below w1.heap.size w1 wA := by rw [hwA]; exact ((Below.refl _ _).alloc (Nat.le_refl _) _).drew
  have HBA := Lib.hid hbA
  have HLIT : Hid (∀ (j : Nat) (u : Value), (ritc x)[j]? = some u → wA.cell? ((⟨w1.heap.size, 0, none⟩ : Addr).add j) = some u) := by
    rw [hwA]
    intro j u hj
    rw [show (⟨w1.heap.size, 0, none⟩ : Addr).add j = ⟨w1.heap.size, j, none⟩ from by by_cases h0 : j = 0 <;> simp [Addr.add, h0]]
    rw [((Has.new w1 (.cells #[.int .i64 x.obj, .string ⟨x.data.toArray⟩, .int .i64 x.ver, .int .i64 x.till, .int .i64 x.used] 124)).drew).cell, ← hj]
    simp [ritc]
  have j0A := (hbA.cell (p := ⟨b, 0, none⟩) hlt1).trans j0
  have j1A := (hbA.cell (p := ⟨b, 1, none⟩) hlt1).trans j1
  have hwl : w.heap.size < w1.heap.size := by
    rcases Nat.lt_or_ge w.heap.size w1.heap.size with h' | h'
    · exact h'
    · simp [World.cell?, Array.getElem?_eq_none h'] at j2
  have j2A := (hbA.cell (p := ⟨w.heap.size, 0, none⟩) hwl).trans j2
  have j3A := (hbA.cell (p := ⟨w.heap.size, 1, none⟩) hwl).trans j3
  have HRA : Hid (Row own1 T wA 124 5 (.slice A m cap) LL.length (rcells LL)) := Row.below HI1.out hbA
  have HBB := Lib.hid (HB1'.out.below hbA hlt1)
  clear hwA hbA j0 j1 j2 j3
  refine last.wpAnyL_one (i := 14) (by kernel_rfl) rfl fun K hK => ?_
  refine step_append_lies _ (by rfl) (.tmp 22) (.tmp 31) 66 (by rfl) 0 124 i0 _ 5 48 Tryd.underlying66 hi0 hz0 hz1 hz2 (by rfl) (by decide) (.slice A m cap) LL.length (rcells LL) (by rfl) HRA.out.1 ⟨w1.heap.size, 0, none⟩ 1 1 (ritc x) (by rfl) rfl HLIT.out (ritc_one x) (by omega) (by unfold maxLen; omega) (by omega) (by omega) wA.heap.size rfl ?_
  intro g' cap' w4 hown4 hg4 hgl hgw
  have gk : ∀ {p : Addr} {u : Value}, p.block < wA.heap.size → wA.cell? p = some u → (∀ k, (Value.slice A m cap).ownBlock = some k → k ≠ p.block) → w4.cell? p = some u := fun hp hu hr => (World.cell?_of_block (hg4.block _ hp (fun e => hr _ e.symm rfl))).trans hu
  have m0 := gk (by show b < wA.heap.size; omega) j0A HNB.out
  have m1 := gk (by show b < wA.heap.size; omega) j1A HNB.out
  have m2 := gk (by show w.heap.size < wA.heap.size; omega) j2A HNW.out
  have m3 := gk (by show w.heap.size < wA.heap.size; omega) j3A HNW.out
  have mf : w4.frozen? ⟨b, 0, none⟩ = false := by
    have h1 : Has w4 b (.cells #[.slice A m cap, .int .i64 x.used] 68) := (hg4.block b HBB.out.lt (fun e => HNB.out b e.symm rfl)).trans HBB.out
    exact h1.frozen 0
  refine hK.out _ _ (fun _ => ⟨m0, m1, m2, m3⟩) ?_
  have D4 := Lib.hid (rappend_done HOB1.out ((Turn.refl (fun k => k = b ∨ own1 k = T) w1).then_below HBA.out (Nat.le_refl _)) HRA.out HSL.out hlt1 HBB.out hown4 hg4 hgl)
  clear hK hown4 hg4 hgl hgw gk
  dsimp only [Act.put]
  refine last.wpAnyL_one (i := 15) (by kernel_rfl) rfl fun K hK => ?_
  go_simp
  refine hK.out _ _ (fun _ => ⟨m0, m1, m2, m3⟩) ?_
  clear hK
  refine last.wpAnyL_one (i := 16) (by kernel_rfl) rfl fun K hK => ?_
  go_simp
  refine hK.out _ _ (fun _ => ⟨m0, m1, m2, m3⟩) ?_
  clear hK
  refine last.wpAnyL_one (i := 17) (by kernel_rfl) rfl fun K hK => ?_
  go_simp
  refine hK.out _ _ (fun h => absurd rfl h) ?_
  clear hK
  refine last.wpAnyL_done (by kernel_rfl) ?_ _
  obtain ⟨W5, hW5⟩ : ∃ W5, W5 = w4.setCell ⟨b, 0, none⟩ (.slice (some ⟨g', 0, none⟩) (LL.length + 1) cap') := ⟨_, rfl⟩
  rw [← hW5] at D4 ⊢
  obtain ⟨own4, v4, e4, t4, b4, i4⟩ := D4.out
  obtain ⟨A4, c4, rfl, -⟩ := i4.shape
  have hlen4 : (LL ++ [x]).length = LL.length + 1 := by simp
  rw [hlen4] at b4 i4
  have n0 : W5.cell? ⟨b, 0, none⟩ = some (.slice A4 (LL.length + 1) c4) := b4.cell 0
  have fin : ∀ (W7 : World) (L : List RIt), RPost own4 T b x.used L W5 W7 → RPost own T b (time + 1) L w W7 := fun W7 L h7 => by
    rw [← HXU.out]
    exact RPost.comp HE0.out (HT1.out.mono (fun _ _ h => .inl h)) (RPost.comp HE1.out HT1'.out (RPost.comp e4 t4 h7))
  have FIN := Lib.hid fin
  have HB4 := Lib.hid b4
  have HI4 := Lib.hid i4
  clear m0 m1 m2 m3 mf hW5 D4 e4 t4 b4 i4 fin j0A j1A j2A j3A hlen4
  have hput : rput l x = if 6 < (LL ++ [x]).length then rdrop (LL ++ [x]) ((robjs (LL ++ [x])).headD 0) else LL ++ [x] := by rw [HLL.out]; rfl
  have HPUT := Lib.hid hput
  clear hput
  by_cases h6 : 6 < LL.length + 1
  · have h6' : (6 : Int) < ((LL.length + 1 : Nat) : Int) := by omega
    go_wp2_with fail
    refine (RObjects_any own4 T b (.slice A4 (LL.length + 1) c4) (LL ++ [x]) W5 (HB4.out.cell 0) HI4.out (by simp; omega)).mono ?_
    rintro e W6 ⟨u, rfl, hu, hb6⟩
    have hrl : (robjs (LL ++ [x])).length = LL.length + 1 := by unfold robjs; rw [rstate_len]; simp
    obtain ⟨ug, uc, rfl, hug, hum, hucell⟩ := hu.cell (by omega)
    have hhd : (robjs (LL ++ [x]))[0]? = some ((robjs (LL ++ [x])).headD 0) := by
      cases hq : robjs (LL ++ [x]) with
      | nil => rw [hq] at hrl; simp at hrl
      | cons y ys => rfl
    obtain ⟨o1, ho1⟩ : ∃ o1, o1 = (robjs (LL ++ [x])).headD 0 := ⟨_, rfl⟩
    rw [← ho1] at hhd
    have u0 : W6.cell? ⟨ug, 0, none⟩ = some (.int .i64 o1) := hucell 0 _ hhd
    have HO1 := Lib.hid ho1
    have hn9 : (0 : Int) < ((robjs (LL ++ [x])).length : Int) := by omega
    have HB6 := Lib.hid hb6
    clear hu hucell hhd hb6 ho1 hrl
    go_wp2_with fail
    refine (RDrop_any own4 T b x.used (.slice A4 (LL.length + 1) c4) (LL ++ [x]) o1 W6 (HB4.out.below HB6.out HB4.out.lt) (Row.below HI4.out HB6.out) (by simp; omega)).mono ?_
    rintro e W7 ⟨rfl, h7⟩
    have H7 := Lib.hid h7
    clear h7
    go_wp2_with fail
    go_end0
    refine ⟨rfl, ?_⟩
    rw [HPUT.out, if_pos (by simp; omega), ← HO1.out]
    exact FIN.out W7 _ (RPost.comp (Ext.refl _ _) (Turn.of_below HB6.out (Nat.le_refl _)) H7.out)
  · have h6' : ¬ (6 : Int) < ((LL.length + 1 : Nat) : Int) := by omega
    go_wp2_with fail
    go_end0
    refine ⟨rfl, ?_⟩
    rw [HPUT.out, if_neg (by simp; omega)]
    exact FIN.out W5 _ ⟨own4, _, Ext.refl _ _, Turn.refl _ _, HB4.out, HI4.out⟩
end Go.Proofs.YthldfogmmjompaaDoor.cache
