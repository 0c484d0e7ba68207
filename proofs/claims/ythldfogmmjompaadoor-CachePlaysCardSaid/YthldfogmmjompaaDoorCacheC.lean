/-
  Contracts of the walks of package cache: Put.
-/
import Derived.Test.YthldfogmmjompaaDoorCacheB
import Derived.Test.YthldfogmmjompaaDoorRegionLast
import Derived.Deep.DeepCutAuto
import Derived.Deep.CutBlock
namespace Go.Proofs.YthldfogmmjompaaDoor.cache
open Go.RowKit Go.Proofs.YthldfogmmjompaaDoor.heap Go.Proofs.YthldfogmmjompaaDoor.own

attribute [local go_sem ↓] Go.wp_at_zero Go.wp_at_succ

def putI (l : List It) (x : It) : List It := (if (dropI l x.obj).length = 6 then List.drop 1 (dropI l x.obj) else dropI l x.obj) ++ [x]

theorem DelItem_first (own : Nat → Nat) (T : Nat) (v : Value) (n : Nat) (xs : List Value) (w : World) (h : Row own T w 122 4 v n xs) (hk : 0 < n) (hone : ∀ u ∈ xs, u.oneCell' = true) :
    Calls Tryd.prog 60 #[v, .int .i64 0, .int .i64 1] w fun e w' => ∃ v', e = .returned v' ∧ v'.ownBlock = v.ownBlock ∧ Row own T w' 122 4 v' (n - 1) (cut 4 0 xs) ∧ Turn (fun g => v.ownBlock = some g) w w' := by
  have := DelItem_any own T v n 0 xs w h hk hone
  rwa [show (((0 : Nat) : Int) + 1) = 1 from rfl, show ((0 : Nat) : Int) = 0 from rfl] at this

theorem cells4 {w : World} {a b c d : Value} {t : TypeId} : ∀ (j : Nat) (x : Value), [a, b, c, d][j]? = some x → (w.alloc (.cells #[a, b, c, d] t)).drew.cell? ((⟨w.heap.size, 0, none⟩ : Addr).add j) = some x := by
  intro j x hj
  have h := (Has.new w (.cells #[a, b, c, d] t)).cell j
  have e : (⟨w.heap.size, 0, none⟩ : Addr).add j = ⟨w.heap.size, j, none⟩ := by by_cases h0 : j = 0 <;> simp [Addr.add, h0]
  rw [e]
  refine h.trans ?_
  rw [← hj]
  simp
theorem itc_one (x : It) : ∀ u ∈ itc x, u.oneCell' = true := by
  intro u hu
  simp only [itc, List.mem_cons, List.not_mem_nil, or_false] at hu
  rcases hu with rfl | rfl | rfl | rfl <;> rfl
theorem infoItem' : (Tryd.prog.info? 122).map (fun i => (i.zero, i.size, i.bytes)) = some (some (.agg #[.int .i64 0, .string ByteArray.empty, .int .i64 0, .int .i64 0]), 4, 40) := infoItem

theorem append_done {own : Nat → Nat} {T b q g cap' : Nat} {cs : Array Value} {t : TypeId} {sl : Value} {l : List It} {x : It} {w w3 : World} {ob : Obj}
    (hb : own b ≠ T) (hI : Items own T w sl l) (hlt : b < w.heap.size) (hB : Has w b (.cells cs t)) (ho3 : w3.ownsRow 0 122 4 (.slice (some ⟨g, 0, none⟩) (l.length + 1) cap') (l.length + 1) (icells l ++ itc x))
    (hg3 : (w.alloc ob).drew.grownBy w3 sl.ownBlock) (hg : sl.ownBlock = some g ∨ g = w.heap.size + 1) :
    CachePost own T b q cs t (l ++ [x]) w (w3.setCell ⟨b, q, none⟩ (.slice (some ⟨g, 0, none⟩) (l.length + 1) cap')) := by
  have hrb : ∀ k, sl.ownBlock = some k → k < w.heap.size ∧ own k = T := fun k hk => ⟨hI.lt k hk, hI.2 k hk⟩
  have hgl : own g = T ∧ g < w.heap.size ∨ g = w.heap.size + 1 := hg.imp (fun h => ⟨(hrb g h).2, (hrb g h).1⟩) (fun h => h)
  have hgb : g ≠ b := by
    rintro rfl
    rcases hgl with h | h
    · exact hb h.1
    · omega
  refine ⟨newOwn own w T, .slice (some ⟨g, 0, none⟩) (l.length + 1) cap', Ext.new _ _ _, ?_, ?_, ?_⟩
  · exact (((Turn.refl _ w).alloc ob).drew.grown hg3 (fun k hk => .inr (.inr (hrb k hk).2))).setCell (p := ⟨b, q, none⟩) (.inr (.inl rfl)) _
  · have h1 : Has w3 b (.cells cs t) := by
      refine (hg3.block b (by show b < (w.alloc ob).heap.size; simp; omega) (fun e => hb (hrb b e.symm).2)).trans ?_
      exact (hB.alloc ob).drew
    exact h1.set_ q _
  · unfold Items
    rw [List.length_append, List.length_singleton]
    have e : icells (l ++ [x]) = icells l ++ itc x := by simp [icells]
    rw [e]
    refine ⟨row_kept ho3 fun k hk => Below.heap_setCell _ _ _ _ (by
      have : g = k := by simpa [Value.ownBlock] using hk
      show k ≠ b
      omega), fun k hk => ?_⟩
    obtain rfl : g = k := by simpa [Value.ownBlock] using hk
    rcases hgl with h | h
    · rw [new_old h.2]; exact h.1
    · exact new_new (by omega)

theorem alloc_cell {w : World} {p : Addr} {v : Value} (h : w.cell? p = some v) : ∀ ob, (w.alloc ob).cell? p = some v := fun ob => (World.cell?_alloc_lt w ob p (by
  rcases Nat.lt_or_ge p.block w.heap.size with h' | h'
  · exact h'
  · simp [World.cell?, Array.getElem?_eq_none h'] at h)).trans h
theorem grown_keep {w w' : World} {ob : Obj} {row : Option Nat} {p : Addr} {v : Value} (hg : (w.alloc ob).drew.grownBy w' row) (h : w.cell? p = some v) (hr : ∀ k, row = some k → k ≠ p.block) : w'.cell? p = some v := by
  have hlt : p.block < w.heap.size := by
    rcases Nat.lt_or_ge p.block w.heap.size with h' | h'
    · exact h'
    · simp [World.cell?, Array.getElem?_eq_none h'] at h
  exact (World.cell?_of_block (hg.block _ (by show p.block < (w.alloc ob).heap.size; rw [World.size_alloc]; omega) (fun e => hr _ e.symm rfl))).trans (alloc_cell h ob)
theorem grown_frozen {w w' : World} {ob : Obj} {row : Option Nat} {b i : Nat} {cs : Array Value} {t : TypeId} (hg : (w.alloc ob).drew.grownBy w' row) (h : Has w b (.cells cs t)) (hr : ∀ k, row = some k → k ≠ b) : w'.frozen? ⟨b, i, none⟩ = false := by
  have h1 : Has w' b (.cells cs t) := (hg.block b (by show b < (w.alloc ob).heap.size; rw [World.size_alloc]; have := h.lt; omega) (fun e => hr _ e.symm rfl)).trans (h.alloc ob).drew
  exact h1.frozen i

theorem CachePost.comp {own own1 : Nat → Nat} {T b q : Nat} {cs : Array Value} {t : TypeId} {l2 : List It} {v1 : Value} {w w1 w2 : World} (e1 : Ext w own own1) (t1 : Turn (fun k => k = b ∨ own k = T) w w1)
    (h2 : CachePost own1 T b q (cs.setIfInBounds q v1) t l2 w1 w2) : CachePost own T b q cs t l2 w w2 := by
  obtain ⟨own2, v2, e2, t2, b2, i2⟩ := h2
  refine ⟨own2, v2, e1.trans e2 t1.size, t1.trans t2 (fun k hk hS => ?_), ?_, i2⟩
  · rcases hS with hS | hS
    · exact .inl hS
    · exact .inr ((e1 k hk).symm.trans hS)
  · have := b2
    rwa [Array.setIfInBounds_setIfInBounds] at this
theorem del_done {own : Nat → Nat} {T b q k : Nat} {cs : Array Value} {t : TypeId} {v v' : Value} {l : List It} {w w2 : World} (hb : own b ≠ T) (hB : Has w b (.cells cs t)) (h : Items own T w v l) (hk : k < l.length) (hv' : v'.ownBlock = v.ownBlock)
    (hrow : Row own T w2 122 4 v' (l.length - 1) (cut 4 k (icells l))) (ht : Turn (fun g => v.ownBlock = some g) w w2) : Turn (fun k => k = b ∨ own k = T) w (w2.setCell ⟨b, q, none⟩ v') ∧ Has (w2.setCell ⟨b, q, none⟩ v') b (.cells (cs.setIfInBounds q v') t) ∧ Items own T (w2.setCell ⟨b, q, none⟩ v') v' (l.eraseIdx k) := by
  have hnb : ¬ (v.ownBlock = some b) := fun e => hb (h.2 b e)
  refine ⟨(ht.mono (fun g _ e => .inr (h.2 g e))).setCell (p := ⟨b, q, none⟩) (.inr (.inl rfl)) _, (ht.has hB hnb).set_ q _, ?_⟩
  have e1 : (l.eraseIdx k).length = l.length - 1 := List.length_eraseIdx_of_lt hk
  have e2 : cut 4 k (icells l) = icells (l.eraseIdx k) := cut_flat 4 k _ (fun _ => rfl) l
  unfold Items
  rw [e1, ← e2]
  refine ⟨row_kept hrow.1 fun k' hk' => Below.heap_setCell _ _ _ _ ?_, hrow.2⟩
  rw [hv'] at hk'
  rintro rfl
  exact hnb hk'

theorem CachePost.ahead {own own0 : Nat → Nat} {T b q : Nat} {cs : Array Value} {t : TypeId} {l : List It} {w w0 w1 : World} (hb : Below w.heap.size w w0) (he : Ext w own own0) (h : CachePost own0 T b q cs t l w0 w1) : CachePost own T b q cs t l w w1 := by
  obtain ⟨own1, v1, e1, t1, b1, i1⟩ := h
  refine ⟨own1, v1, fun k hk => (e1 k (Nat.lt_of_lt_of_le hk hb.size)).trans (he k hk), (Turn.of_below hb (Nat.le_refl _)).trans t1 (fun k hk hS => ?_), b1, i1⟩
  rw [← he k hk]; exact hS

set_option maxHeartbeats 2000000 in
set_option maxRecDepth 100000 in
theorem Put_any (own : Nat → Nat) (T b q : Nat) (cs : Array Value) (t : TypeId) (v : Value) (l : List It) (x : It) (w : World) (hB : Has w b (.cells cs t)) (c0 : cs[q]? = some v) (hb : own b ≠ T) (h : Items own T w v l) (hl : l.length ≤ 6) :
    Calls Tryd.prog 28 #[.pointer (some ⟨b, q, none⟩), .int .i64 x.obj, .agg #[.string ⟨x.data.toArray⟩, .int .i64 x.ver], .int .i64 x.till] w fun e w' => e = .returned (.tuple #[]) ∧ CachePost own T b q cs t (putI l x) w w' := by
  obtain ⟨i0, hi0, hz0, hz1, hz2⟩ := info_parts infoItem'
  have hlt := hB.lt
  have hbw0 : Below w.heap.size w (w.alloc (.cells #[.string ⟨x.data.toArray⟩, .int .i64 x.ver] 70)) := (Below.refl _ _).alloc (Nat.le_refl _) _
  have hE0 : Ext w own (newOwn own w (T + 1)) := Ext.new _ _ _
  have hb0 : newOwn own w (T + 1) b ≠ T := by rw [new_old hlt]; exact hb
  have D := Lib.hid (Drop_any (newOwn own w (T + 1)) T b q cs t v l x.obj (w.alloc (.cells #[.string ⟨x.data.toArray⟩, .int .i64 x.ver] 70)) (hB.alloc _) c0 hb0 (Row.keep (S := fun _ => False) h (Turn.of_below hbw0 (Nat.le_refl _)) hE0 (fun _ _ _ h => h)))
  have HX0 : Hid (newOwn own w (T + 1) w.heap.size = T + 1) := new_new (Nat.le_refl _)
  have hP := Has.new w (.cells #[.string ⟨x.data.toArray⟩, .int .i64 x.ver] 70)
  have hdl : (dropI l x.obj).length ≤ 6 := Nat.le_trans (List.length_eraseP_le) hl
  have HP := Lib.hid hP
  have HBW0 := Lib.hid hbw0
  have HOB := Lib.hid hb
  have HQ := Lib.hid (show q < cs.size from (Array.getElem?_eq_some_iff.1 c0).1)
  have HIL := Lib.hid (fun k (hk : v.ownBlock = some k) => h.lt k hk)
  clear hB c0 h hb hP hbw0
  go_enter Tryd.func28, Tryd.ntmps28
  go_wp2_with fail
  refine D.out.mono ?_
  rintro e w1 ⟨rfl, own1, v1, e1, t1, hB1, hI1⟩
  have hs1 : w.heap.size + 1 ≤ w1.heap.size := by have := t1.size; simpa using this
  obtain ⟨A1, m1, cap1, rfl, hM1⟩ : ∃ a m c, v1 = .slice a m c ∧ m = (dropI l x.obj).length := by
    rcases hI1.1.2 with ⟨rfl, e⟩ | ⟨g, cap, cur, rfl, _⟩
    · exact ⟨_, _, _, rfl, e.symm⟩
    · exact ⟨_, _, _, rfl, rfl⟩
  have HT1 := Lib.hid t1
  have HE1 := Lib.hid e1
  have ob1 := (e1 b (by show b < (w.alloc _).heap.size; rw [World.size_alloc]; omega))
  have ow1 := (e1 w.heap.size (by rw [World.size_alloc]; omega)).trans HX0.out
  have hob1 : own1 b ≠ T := by rw [ob1]; exact hb0
  have hX1 := t1.has HP.out (fun h => by have := HX0.out; rcases h with h | h <;> omega)
  have HDL := Lib.hid hdl
  clear e1 t1 hdl hb0 ob1
  by_cases h6 : (dropI l x.obj).length = 6
  · have k1 : w1.cell? ⟨b, q, none⟩ = some (.slice A1 m1 cap1) := by rw [hB1.cell, Array.getElem?_setIfInBounds_self]; simp [HQ.out]
    obtain rfl : m1 = 6 := by rw [hM1]; exact h6
    have HB1 := Lib.hid hB1
    have HI1 := Lib.hid hI1
    have HX1 := Lib.hid hX1
    have HO1 := Lib.hid hob1
    have HR1 : Hid (Row own1 T w1 122 4 (.slice A1 6 cap1) 6 (icells (dropI l x.obj))) := by have := hI1; unfold Items at this; rwa [h6] at this
    clear hB1 hI1 hX1 hM1 hob1
    go_wp2_with fail
    refine (DelItem_first own1 T _ 6 (icells (dropI l x.obj)) w1 HR1.out (by omega) (icells_one _)).mono ?_
    rintro e w2 ⟨v', rfl, hv', hrow2, ht2⟩
    obtain ⟨A, m, cap, rfl⟩ : ∃ a m c, v' = .slice a m c := by
      rcases hrow2.1.2 with ⟨rfl, _⟩ | ⟨g, cap, cur, rfl, _⟩ <;> exact ⟨_, _, _, rfl⟩
    have hnb : ¬ ((Value.slice A1 6 cap1).ownBlock = some b) := fun e => HO1.out (HR1.out.2 b e)
    have hB2 := ht2.has HB1.out hnb
    have k2 : w2.cell? ⟨b, q, none⟩ = some (.slice A1 6 cap1) := by rw [hB2.cell, Array.getElem?_setIfInBounds_self]; simp [HQ.out]
    have f2 : w2.frozen? ⟨b, q, none⟩ = false := hB2.frozen q
    have hX2 := ht2.has HX1.out (fun e => by have := HR1.out.2 _ e; omega)
    have hne : b ≠ w.heap.size := by omega
    obtain ⟨LL, hLL⟩ : ∃ LL, LL = (dropI l x.obj).eraseIdx 0 := ⟨_, rfl⟩
    have hll : LL.length ≤ 6 := by rw [hLL, List.length_eraseIdx_of_lt (by omega)]; omega
    have CP := del_done (q := q) HO1.out HB1.out HI1.out (k := 0) (by omega) hv' (by rw [h6]; exact hrow2) ht2
    rw [← hLL] at CP
    have HLL := Lib.hid hLL
    have HW2 := Lib.hid hX2
    clear hLL hv' hrow2 ht2 hnb hB2 hX2
    go_upto_region 4 with fail
    obtain ⟨w3, hw3⟩ : ∃ w3, w3 = w2.setCell ⟨b, q, none⟩ (.slice A m cap) := ⟨_, rfl⟩
    rw [← hw3] at CP ⊢
    have hX3 := HW2.out.far (p := ⟨b, q, none⟩) (Ne.symm hne) (.slice A m cap)
    rw [← hw3] at hX3
    obtain ⟨t3, hB3, hI3⟩ := CP
    have HT3 := Lib.hid t3
    have hob3 := HO1.out
    have hno3 : own1 w.heap.size ≠ T := by omega
    have k3 : w3.cell? ⟨b, q, none⟩ = some (.slice A m cap) := by rw [hB3.cell, Array.getElem?_setIfInBounds_self]; simp [HQ.out]
    have k4 : w3.cell? ⟨w.heap.size, 0, none⟩ = some (.string ⟨x.data.toArray⟩) := hX3.cell 0
    have k5 : w3.cell? ⟨w.heap.size, 1, none⟩ = some (.int .i64 x.ver) := hX3.cell 1
    have HH6 := Lib.hid h6
    clear t3 hX3 hw3 k1 k2 f2 h6
    have HB3 := Lib.hid hB3
    have HI3 := Lib.hid hI3
    have HOB3 := Lib.hid hob3
    have HLT3 := Lib.hid (show b < w3.heap.size from hB3.lt)
    have HR3 : Hid ((w3.alloc (.cells #[.int .i64 x.obj, .string ⟨x.data.toArray⟩, .int .i64 x.ver, .int .i64 x.till] 122)).drew.ownsRow 0 122 4 (.slice A m cap) LL.length (icells LL)) := hI3.1.alloc _
    have HS3 : Hid ((w3.alloc (.cells #[.int .i64 x.obj, .string ⟨x.data.toArray⟩, .int .i64 x.ver, .int .i64 x.till] 122)).drew.heap.size = w3.heap.size + 1) := World.size_alloc _ _
    have HNB : Hid (∀ k, (Value.slice A m cap).ownBlock = some k → k ≠ b) := fun k hk e => hob3 (by rw [← e]; exact hI3.2 k hk)
    have HNW : Hid (∀ k, (Value.slice A m cap).ownBlock = some k → k ≠ w.heap.size) := fun k hk e => hno3 (by rw [← e]; exact hI3.2 k hk)
    clear hB3 hI3 hob3 hno3
    refine last.wp_region_last (S := fun W => W.cell? ⟨b, q, none⟩ = some (.slice A m cap) ∧ W.cell? ⟨w.heap.size, 0, none⟩ = some (.string ⟨x.data.toArray⟩) ∧ W.cell? ⟨w.heap.size, 1, none⟩ = some (.int .i64 x.ver)) (L := 13) (by kernel_rfl) ?_
    refine last.wpAnyL_take (i := 0) (v := .pointer (some ⟨b, q, none⟩)) rfl (by kernel_rfl) (by kernel_rfl) (by kernel_rfl) (by kernel_rfl) (fun _ _ _ h => h) ⟨k3, k4, k5⟩ (by rfl) (fun W hW => by obtain ⟨hW1, hW2, hW3⟩ := hW; go_simp) ?_
    dsimp only [Act.put]
    refine last.wpAnyL_take (i := 1) (v := .pointer (some ⟨b, q, none⟩)) rfl (by kernel_rfl) (by kernel_rfl) (by kernel_rfl) (by kernel_rfl) (fun _ _ _ h => h) ⟨k3, k4, k5⟩ (by rfl) (fun W hW => by obtain ⟨hW1, hW2, hW3⟩ := hW; go_simp) ?_
    dsimp only [Act.put]
    refine last.wpAnyL_take (i := 2) (v := .pointer (some ⟨b, q, none⟩)) rfl (by kernel_rfl) (by kernel_rfl) (by kernel_rfl) (by kernel_rfl) (fun _ _ _ h => h) ⟨k3, k4, k5⟩ (by rfl) (fun W hW => by obtain ⟨hW1, hW2, hW3⟩ := hW; go_simp) ?_
    dsimp only [Act.put]
    refine last.wpAnyL_take (i := 3) (v := .pointer (some ⟨b, q, none⟩)) rfl (by kernel_rfl) (by kernel_rfl) (by kernel_rfl) (by kernel_rfl) (fun _ _ _ h => h) ⟨k3, k4, k5⟩ (by rfl) (fun W hW => by obtain ⟨hW1, hW2, hW3⟩ := hW; go_simp) ?_
    dsimp only [Act.put]
    refine last.wpAnyL_take (i := 4) (v := .slice A m cap) rfl (by kernel_rfl) (by kernel_rfl) (by kernel_rfl) (by kernel_rfl) (fun _ _ _ h => h) ⟨k3, k4, k5⟩ (by rfl) (fun W hW => by obtain ⟨hW1, hW2, hW3⟩ := hW; go_simp) ?_
    dsimp only [Act.put]
    refine last.wpAnyL_take (i := 5) (v := .int .i64 x.obj) rfl (by kernel_rfl) (by kernel_rfl) (by kernel_rfl) (by kernel_rfl) (fun _ _ _ h => h) ⟨k3, k4, k5⟩ (by rfl) (fun W hW => by obtain ⟨hW1, hW2, hW3⟩ := hW; go_simp) ?_
    dsimp only [Act.put]
    refine last.wpAnyL_take (i := 6) (v := .agg #[.string ⟨x.data.toArray⟩, .int .i64 x.ver]) rfl (by kernel_rfl) (by kernel_rfl) (by kernel_rfl) (by kernel_rfl) (fun _ _ _ h => h) ⟨k3, k4, k5⟩ (by rfl) (fun W hW => by obtain ⟨hW1, hW2, hW3⟩ := hW; go_simp) ?_
    dsimp only [Act.put]
    refine last.wpAnyL_take (i := 7) (v := .int .i64 x.till) rfl (by kernel_rfl) (by kernel_rfl) (by kernel_rfl) (by kernel_rfl) (fun _ _ _ h => h) ⟨k3, k4, k5⟩ (by rfl) (fun W hW => by obtain ⟨hW1, hW2, hW3⟩ := hW; go_simp) ?_
    dsimp only [Act.put]
    refine last.wpAnyL_take (i := 8) (v := .agg #[.int .i64 x.obj, .string ⟨x.data.toArray⟩, .int .i64 x.ver, .int .i64 x.till]) rfl (by kernel_rfl) (by kernel_rfl) (by kernel_rfl) (by kernel_rfl) (fun _ _ _ h => h) ⟨k3, k4, k5⟩ (by rfl) (fun W hW => by obtain ⟨hW1, hW2, hW3⟩ := hW; go_simp) ?_
    dsimp only [Act.put]
    refine last.wpAnyL_one (i := 9) (by kernel_rfl) rfl fun K hK => ?_
    go_simp
    refine hK.out _ _ (fun _ => ⟨alloc_cell k3 _, alloc_cell k4 _, alloc_cell k5 _⟩) ?_
    clear hK
    refine last.wpAnyL_one (i := 10) (by kernel_rfl) rfl fun K hK => ?_
    refine step_append_lies _ (by rfl) (.tmp 29) (.tmp 34) 62 (by rfl) 0 122 i0 _ 4 40 Tryd.underlying62 hi0 hz0 hz1 hz2 (by rfl) (by decide) (.slice A m cap) LL.length (icells LL) (by rfl) HR3.out ⟨w3.heap.size, 0, none⟩ 1 1 (itc x) (by rfl) rfl cells4 (itc_one x) (by omega) (by unfold maxLen; omega) (by omega) (by simp) (w3.heap.size + 1) HS3.out ?_
    intro g cap' w4 hown4 hg4 hgl hgw
    refine hK.out _ _ (fun _ => ⟨grown_keep hg4 k3 HNB.out, grown_keep hg4 k4 HNW.out, grown_keep hg4 k5 HNW.out⟩) ?_
    have k6 := grown_keep hg4 k3 HNB.out
    have k7 := grown_keep hg4 k4 HNW.out
    have k8 := grown_keep hg4 k5 HNW.out
    have D4 := Lib.hid (append_done (q := q) HOB3.out HI3.out HLT3.out HB3.out hown4 hg4 hgl)
    have f6 : w4.frozen? ⟨b, q, none⟩ = false := grown_frozen hg4 HB3.out HNB.out
    clear hK hown4 hg4 hgl hgw
    dsimp only [Act.put]
    refine last.wpAnyL_one (i := 11) (by kernel_rfl) rfl fun K hK => ?_
    go_simp
    refine hK.out _ _ (fun _ => ⟨k6, k7, k8⟩) ?_
    clear hK
    refine last.wpAnyL_one (i := 12) (by kernel_rfl) rfl fun K hK => ?_
    go_simp
    refine hK.out _ _ (fun _ => ⟨k6, k7, k8⟩) ?_
    clear hK
    refine last.wpAnyL_one (i := 13) (by kernel_rfl) rfl fun K hK => ?_
    go_simp
    refine hK.out _ _ (fun h => absurd rfl h) ?_
    clear hK
    refine last.wpAnyL_done (by kernel_rfl) ?_ _
    go_wp2_with fail
    go_end0
    refine ⟨rfl, CachePost.ahead HBW0.out hE0 (CachePost.comp (v1 := .slice A1 6 cap1) HE1.out HT1.out (CachePost.comp (v1 := .slice A m cap) (Ext.refl _ _) HT3.out ?_))⟩
    have : putI l x = LL ++ [x] := by unfold putI; rw [HLL.out, if_pos HH6.out, List.eraseIdx_zero, List.drop_one]
    rw [this]
    exact D4.out
  · obtain ⟨LL, hLL⟩ : ∃ LL, LL = dropI l x.obj := ⟨_, rfl⟩
    have HLL := Lib.hid hLL
    have hll : LL.length ≤ 6 := by rw [hLL]; exact HDL.out
    have h6' : ((m1 : Int) == 6) = false := by rw [hM1]; exact beq_eq_false_iff_ne.2 (by omega)
    rw [← hLL] at hI1
    obtain ⟨w3, hw3⟩ : ∃ w3, w3 = w1 := ⟨_, rfl⟩
    subst hw3
    obtain ⟨A, m, cap, e3⟩ : ∃ A m cap, Value.slice A1 m1 cap1 = .slice A m cap := ⟨_, _, _, rfl⟩
    obtain ⟨rfl, rfl, rfl⟩ : A1 = A ∧ m1 = m ∧ cap1 = cap := by simpa using e3
    have hB3 := hB1
    have hI3 := hI1
    have hob3 := hob1
    have hno3 : own1 w.heap.size ≠ T := by omega
    have k3 : w3.cell? ⟨b, q, none⟩ = some (.slice A1 m1 cap1) := by rw [hB1.cell, Array.getElem?_setIfInBounds_self]; simp [HQ.out]
    have k4 : w3.cell? ⟨w.heap.size, 0, none⟩ = some (.string ⟨x.data.toArray⟩) := hX1.cell 0
    have k5 : w3.cell? ⟨w.heap.size, 1, none⟩ = some (.int .i64 x.ver) := hX1.cell 1
    have HH6 := Lib.hid h6
    clear e3 hB1 hI1 hob1 hX1 h6 hLL hM1
    have HB3 := Lib.hid hB3
    have HI3 := Lib.hid hI3
    have HOB3 := Lib.hid hob3
    have HLT3 := Lib.hid (show b < w3.heap.size from hB3.lt)
    have HR3 : Hid ((w3.alloc (.cells #[.int .i64 x.obj, .string ⟨x.data.toArray⟩, .int .i64 x.ver, .int .i64 x.till] 122)).drew.ownsRow 0 122 4 (.slice A1 m1 cap1) LL.length (icells LL)) := hI3.1.alloc _
    have HS3 : Hid ((w3.alloc (.cells #[.int .i64 x.obj, .string ⟨x.data.toArray⟩, .int .i64 x.ver, .int .i64 x.till] 122)).drew.heap.size = w3.heap.size + 1) := World.size_alloc _ _
    have HNB : Hid (∀ k, (Value.slice A1 m1 cap1).ownBlock = some k → k ≠ b) := fun k hk e => hob3 (by rw [← e]; exact hI3.2 k hk)
    have HNW : Hid (∀ k, (Value.slice A1 m1 cap1).ownBlock = some k → k ≠ w.heap.size) := fun k hk e => hno3 (by rw [← e]; exact hI3.2 k hk)
    clear hB3 hI3 hob3 hno3
    go_upto_region 4 with fail
    refine last.wp_region_last (S := fun W => W.cell? ⟨b, q, none⟩ = some (.slice A1 m1 cap1) ∧ W.cell? ⟨w.heap.size, 0, none⟩ = some (.string ⟨x.data.toArray⟩) ∧ W.cell? ⟨w.heap.size, 1, none⟩ = some (.int .i64 x.ver)) (L := 13) (by kernel_rfl) ?_
    refine last.wpAnyL_take (i := 0) (v := .pointer (some ⟨b, q, none⟩)) rfl (by kernel_rfl) (by kernel_rfl) (by kernel_rfl) (by kernel_rfl) (fun _ _ _ h => h) ⟨k3, k4, k5⟩ (by rfl) (fun W hW => by obtain ⟨hW1, hW2, hW3⟩ := hW; go_simp) ?_
    dsimp only [Act.put]
    refine last.wpAnyL_take (i := 1) (v := .pointer (some ⟨b, q, none⟩)) rfl (by kernel_rfl) (by kernel_rfl) (by kernel_rfl) (by kernel_rfl) (fun _ _ _ h => h) ⟨k3, k4, k5⟩ (by rfl) (fun W hW => by obtain ⟨hW1, hW2, hW3⟩ := hW; go_simp) ?_
    dsimp only [Act.put]
    refine last.wpAnyL_take (i := 2) (v := .pointer (some ⟨b, q, none⟩)) rfl (by kernel_rfl) (by kernel_rfl) (by kernel_rfl) (by kernel_rfl) (fun _ _ _ h => h) ⟨k3, k4, k5⟩ (by rfl) (fun W hW => by obtain ⟨hW1, hW2, hW3⟩ := hW; go_simp) ?_
    dsimp only [Act.put]
    refine last.wpAnyL_take (i := 3) (v := .pointer (some ⟨b, q, none⟩)) rfl (by kernel_rfl) (by kernel_rfl) (by kernel_rfl) (by kernel_rfl) (fun _ _ _ h => h) ⟨k3, k4, k5⟩ (by rfl) (fun W hW => by obtain ⟨hW1, hW2, hW3⟩ := hW; go_simp) ?_
    dsimp only [Act.put]
    refine last.wpAnyL_take (i := 4) (v := .slice A1 m1 cap1) rfl (by kernel_rfl) (by kernel_rfl) (by kernel_rfl) (by kernel_rfl) (fun _ _ _ h => h) ⟨k3, k4, k5⟩ (by rfl) (fun W hW => by obtain ⟨hW1, hW2, hW3⟩ := hW; go_simp) ?_
    dsimp only [Act.put]
    refine last.wpAnyL_take (i := 5) (v := .int .i64 x.obj) rfl (by kernel_rfl) (by kernel_rfl) (by kernel_rfl) (by kernel_rfl) (fun _ _ _ h => h) ⟨k3, k4, k5⟩ (by rfl) (fun W hW => by obtain ⟨hW1, hW2, hW3⟩ := hW; go_simp) ?_
    dsimp only [Act.put]
    refine last.wpAnyL_take (i := 6) (v := .agg #[.string ⟨x.data.toArray⟩, .int .i64 x.ver]) rfl (by kernel_rfl) (by kernel_rfl) (by kernel_rfl) (by kernel_rfl) (fun _ _ _ h => h) ⟨k3, k4, k5⟩ (by rfl) (fun W hW => by obtain ⟨hW1, hW2, hW3⟩ := hW; go_simp) ?_
    dsimp only [Act.put]
    refine last.wpAnyL_take (i := 7) (v := .int .i64 x.till) rfl (by kernel_rfl) (by kernel_rfl) (by kernel_rfl) (by kernel_rfl) (fun _ _ _ h => h) ⟨k3, k4, k5⟩ (by rfl) (fun W hW => by obtain ⟨hW1, hW2, hW3⟩ := hW; go_simp) ?_
    dsimp only [Act.put]
    refine last.wpAnyL_take (i := 8) (v := .agg #[.int .i64 x.obj, .string ⟨x.data.toArray⟩, .int .i64 x.ver, .int .i64 x.till]) rfl (by kernel_rfl) (by kernel_rfl) (by kernel_rfl) (by kernel_rfl) (fun _ _ _ h => h) ⟨k3, k4, k5⟩ (by rfl) (fun W hW => by obtain ⟨hW1, hW2, hW3⟩ := hW; go_simp) ?_
    dsimp only [Act.put]
    refine last.wpAnyL_one (i := 9) (by kernel_rfl) rfl fun K hK => ?_
    go_simp
    refine hK.out _ _ (fun _ => ⟨alloc_cell k3 _, alloc_cell k4 _, alloc_cell k5 _⟩) ?_
    clear hK
    refine last.wpAnyL_one (i := 10) (by kernel_rfl) rfl fun K hK => ?_
    refine step_append_lies _ (by rfl) (.tmp 29) (.tmp 34) 62 (by rfl) 0 122 i0 _ 4 40 Tryd.underlying62 hi0 hz0 hz1 hz2 (by rfl) (by decide) (.slice A1 m1 cap1) LL.length (icells LL) (by rfl) HR3.out ⟨w3.heap.size, 0, none⟩ 1 1 (itc x) (by rfl) rfl cells4 (itc_one x) (by omega) (by unfold maxLen; omega) (by omega) (by simp) (w3.heap.size + 1) HS3.out ?_
    intro g cap' w4 hown4 hg4 hgl hgw
    refine hK.out _ _ (fun _ => ⟨grown_keep hg4 k3 HNB.out, grown_keep hg4 k4 HNW.out, grown_keep hg4 k5 HNW.out⟩) ?_
    have k6 := grown_keep hg4 k3 HNB.out
    have k7 := grown_keep hg4 k4 HNW.out
    have k8 := grown_keep hg4 k5 HNW.out
    have D4 := Lib.hid (append_done (q := q) HOB3.out HI3.out HLT3.out HB3.out hown4 hg4 hgl)
    have f6 : w4.frozen? ⟨b, q, none⟩ = false := grown_frozen hg4 HB3.out HNB.out
    clear hK hown4 hg4 hgl hgw
    dsimp only [Act.put]
    refine last.wpAnyL_one (i := 11) (by kernel_rfl) rfl fun K hK => ?_
    go_simp
    refine hK.out _ _ (fun _ => ⟨k6, k7, k8⟩) ?_
    clear hK
    refine last.wpAnyL_one (i := 12) (by kernel_rfl) rfl fun K hK => ?_
    go_simp
    refine hK.out _ _ (fun _ => ⟨k6, k7, k8⟩) ?_
    clear hK
    refine last.wpAnyL_one (i := 13) (by kernel_rfl) rfl fun K hK => ?_
    go_simp
    refine hK.out _ _ (fun h => absurd rfl h) ?_
    clear hK
    refine last.wpAnyL_done (by kernel_rfl) ?_ _
    go_wp2_with fail
    go_end0
    refine ⟨rfl, CachePost.ahead HBW0.out hE0 (CachePost.comp (v1 := .slice A1 m1 cap1) HE1.out HT1.out ?_)⟩
    have : putI l x = LL ++ [x] := by unfold putI; rw [HLL.out, if_neg HH6.out]
    rw [this]
    exact D4.out
end Go.Proofs.YthldfogmmjompaaDoor.cache
