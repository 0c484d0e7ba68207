/-
  Contracts of the walks of package net.
-/
import Derived.Test.YthldfogmmjompaaDoorNetA
import Derived.Test.YthldfogmmjompaaDoorErrs
import Derived.Deep.AppendLies
import Derived.Deep.RegionHeld3
import Derived.Deep.DrawnRows
namespace Go.Proofs.YthldfogmmjompaaDoor.net
open Go.RowKit Go.Proofs.YthldfogmmjompaaDoor.heap Go.Proofs.YthldfogmmjompaaDoor.own Go.Proofs.YthldfogmmjompaaDoor.wire

attribute [local go_sem ↓] Go.wp_at_zero Go.wp_at_succ

/-- A datagram: for whom, and its bytes. -/
abbrev Dg := Int × List UInt8
def gcells (ps : List (Dg × Value)) : List Value := ps.flatMap fun p => [.int .i64 p.1.1, p.2]
/-- A slice of datagrams: its row is T's, the bytes are (T + 1)'s, each in a row of its own. -/
def Grams (own : Nat → Nat) (T : Nat) (w : World) (v : Value) (l : List Dg) : Prop :=
  ∃ ps : List (Dg × Value), ps.map (·.1) = l ∧ Row own T w 51 2 v l.length (gcells ps) ∧
    (∀ p ∈ ps, Row own (T + 1) w 5 1 p.2 p.1.2.length (p.1.2.map B)) ∧ (ps.filterMap (·.2.ownBlock)).Nodup

theorem row_slice {own : Nat → Nat} {T n size : Nat} {w : World} {e : TypeId} {v : Value} {xs : List Value} (h : Row own T w e size v n xs) : v.oneCell' = true := by
  rcases h.1.2 with ⟨rfl, _⟩ | ⟨g, cap, cur, rfl, _⟩ <;> rfl
theorem owns_slice {base n size : Nat} {w : World} {e : TypeId} {v : Value} {xs : List Value} (h : w.ownsRow base e size v n xs) : v.oneCell' = true := by
  rcases h.2 with ⟨rfl, _⟩ | ⟨g, cap, cur, rfl, _⟩ <;> rfl
theorem owns_any {base n size : Nat} {w : World} {e : TypeId} {v : Value} {xs : List Value} (h : w.ownsRow base e size v n xs) : ∃ a m c, v = .slice a m c := by
  rcases h.2 with ⟨rfl, _⟩ | ⟨g, cap, cur, rfl, _⟩ <;> exact ⟨_, _, _, rfl⟩
theorem two_one {k : IntKind} {n : Int} {u : Value} (h : u.oneCell' = true) : ∀ x ∈ [Value.int k n, u], x.oneCell' = true := by
  intro x hx
  simp only [List.mem_cons, List.not_mem_nil, or_false] at hx
  rcases hx with rfl | rfl
  · rfl
  · exact h
theorem gcells_len (ps : List (Dg × Value)) : (gcells ps).length = ps.length * 2 := by
  induction ps with
  | nil => rfl
  | cons p ps ih => simp only [gcells, List.flatMap_cons, List.length_append, List.length_cons, List.length_nil] at ih ⊢; omega
theorem gcells_one {own : Nat → Nat} {T : Nat} {w : World} {ps : List (Dg × Value)} (h : ∀ p ∈ ps, Row own T w 5 1 p.2 p.1.2.length (p.1.2.map B)) : ∀ u ∈ gcells ps, u.oneCell' = true := by
  intro u hu
  obtain ⟨p, hp, hu⟩ := List.mem_flatMap.1 hu
  simp only [List.mem_cons, List.not_mem_nil, or_false] at hu
  rcases hu with rfl | rfl
  · rfl
  · exact row_slice (h p hp)

theorem Grams.keep {own own1 : Nat → Nat} {T : Nat} {S : Nat → Prop} {w w1 : World} {v : Value} {l : List Dg} (h : Grams own T w v l) (ht : Turn S w w1) (he : Ext w own own1) (hn : ∀ k, k < w.heap.size → (own k = T ∨ own k = T + 1) → ¬ S k) : Grams own1 T w1 v l := by
  obtain ⟨ps, h1, h2, h3, h4⟩ := h
  exact ⟨ps, h1, h2.keep ht he (fun k hk e => hn k hk (.inl e)), fun p hp => (h3 p hp).keep ht he (fun k hk e => hn k hk (.inr e)), h4⟩
theorem Grams.nil (own : Nat → Nat) (T : Nat) (w : World) : Grams own T w (.slice none 0 0) [] := ⟨[], rfl, Row.nil _ _ _ _ _, (fun p hp => by cases hp), by simp⟩

/-- What Send does. -/
def sent (l : List Dg) (lost : Int) (g : Dg) : List Dg × Int := if 200 ≤ l.length then (l, wrap64 (lost + 1)) else (l ++ [g], lost)

theorem Send_full (b o : Nat) (cs : Array Value) (t : TypeId) (n c : Nat) (a : Option Addr) (lost : Int) (x : Value) (to : Int) (w : World)
    (hB : Has w b (.cells cs t)) (c0 : cs[o]? = some (.slice a n c)) (c1 : cs[o + 1]? = some (.int .i64 lost)) (hl : 200 ≤ n) :
    Calls Tryd.prog 22 #[.pointer (some ⟨b, o, none⟩), .agg #[.int .i64 to, x]] w fun e w' => e = .returned (.tuple #[]) ∧
      w' = (w.setCell ⟨b, o + 1, none⟩ (.int .i64 (wrap64 (lost + 1)))).alloc (.cells #[.int .i64 to, x] 51) := by
  have hlt := hB.lt
  have k0 : w.cell? ⟨b, o, none⟩ = some (.slice a n c) := (hB.cell o).trans c0
  have k1 : w.cell? ⟨b, o + 1, none⟩ = some (.int .i64 lost) := (hB.cell (o + 1)).trans c1
  have f1 := hB.frozen (o + 1)
  have hl' : (200 : Int) ≤ n := by omega
  clear hB c0 c1
  go_enter Tryd.func22, Tryd.ntmps22
  go_wp2
  refine bodyPost_ret (results_none rfl _ _ _) rfl ?_
  exact ⟨rfl, rfl⟩

/-- Behind a box of two cells, a draw and a call that makes memory. -/
theorem boxed2 {w w2 : World} {x0 x1 sl : Value} {t : TypeId} {b o : Nat} (hlt : b < w.heap.size) (k0 : w.cell? ⟨b, o, none⟩ = some sl)
    (hb : Below (w.alloc (.cells #[x0, x1] t)).drew.heap.size (w.alloc (.cells #[x0, x1] t)).drew w2) :
    w.heap.size + 1 ≤ w2.heap.size ∧ w2.cell? ⟨b, o, none⟩ = some sl ∧ w2.cell? ⟨w.heap.size, 0, none⟩ = some x0 ∧ w2.cell? ⟨w.heap.size, 1, none⟩ = some x1 ∧ Below w.heap.size w w2 := by
  have e : (w.alloc (.cells #[x0, x1] t)).drew.heap.size = w.heap.size + 1 := World.size_alloc _ _
  have h0 : Below w.heap.size w (w.alloc (.cells #[x0, x1] t)).drew := ((Below.refl _ _).alloc (Nat.le_refl _) _).drew
  have hn : Has (w.alloc (.cells #[x0, x1] t)).drew w.heap.size (.cells #[x0, x1] t) := (Has.new w _).drew
  have hs := hb.size
  rw [e] at hs hb
  refine ⟨hs, ?_, ?_, ?_, h0.trans (hb.mono (by omega))⟩
  · exact (hb.cell (p := ⟨b, o, none⟩) (by simp; omega)).trans ((h0.cell (p := ⟨b, o, none⟩) hlt).trans k0)
  · exact (hb.cell (p := ⟨w.heap.size, 0, none⟩) (by simp)).trans (hn.cell 0)
  · exact (hb.cell (p := ⟨w.heap.size, 1, none⟩) (by simp)).trans (hn.cell 1)

theorem alloc_cell {w : World} {p : Addr} {v : Value} (h : w.cell? p = some v) : ∀ ob, (w.alloc ob).cell? p = some v := fun ob => (World.cell?_alloc_lt w ob p (cell_lt h)).trans h
theorem grown_cell {w w' : World} {row : Option Nat} (hg : w.grownBy w' row) {p : Addr} (hlt : p.block < w.heap.size) (hne : some p.block ≠ row) : w'.cell? p = w.cell? p ∧ w'.frozen? p = w.frozen? p :=
  ⟨World.cell?_of_block (hg.block _ hlt hne), World.frozen?_of_block (hg.block _ hlt hne)⟩
theorem grown_has {w w' : World} {row : Option Nat} (hg : w.grownBy w' row) {b : Nat} {o : Obj} (h : Has w b o) (hne : some b ≠ row) : Has w' b o := (hg.block _ h.lt hne).trans h
/-- Behind the append, too. -/
theorem boxed3 {w w2 w3 : World} {x0 x1 sl : Value} {t : TypeId} {b o : Nat} {cs : Array Value} {ob : Obj} {row : Option Nat} (hB : Has w b (.cells cs t)) (c0 : cs[o]? = some sl) (hbw : Below w.heap.size w w2) (hq1 : w2.cell? ⟨w.heap.size, 0, none⟩ = some x0) (hq2 : w2.cell? ⟨w.heap.size, 1, none⟩ = some x1)
    (hs : w.heap.size + 1 ≤ w2.heap.size) (hg : (w2.alloc ob).grownBy w3 row) (hr : ∀ k, row = some k → k < w.heap.size ∧ k ≠ b) :
    w3.cell? ⟨b, o, none⟩ = some sl ∧ w3.frozen? ⟨b, o, none⟩ = false ∧ w3.cell? ⟨w.heap.size, 0, none⟩ = some x0 ∧ w3.cell? ⟨w.heap.size, 1, none⟩ = some x1 ∧ Has w3 b (.cells cs t) := by
  have hlt := hB.lt
  have h3 : Has w3 b (.cells cs t) := grown_has hg ((hB.below hbw hlt).alloc _) (fun e => (hr b e.symm).2 rfl)
  have hz : ∀ i, w3.cell? ⟨w.heap.size, i, none⟩ = w2.cell? ⟨w.heap.size, i, none⟩ := fun i => by
    have := (grown_cell hg (p := ⟨w.heap.size, i, none⟩) (by simp; omega) (fun e => by have := (hr _ e.symm).1; simp at this)).1
    rw [this, World.cell?_alloc_lt _ _ _ (by simp; omega)]
  exact ⟨(h3.cell o).trans c0, h3.frozen o, (hz 0).trans hq1, (hz 1).trans hq2, h3⟩

theorem sent_done {own : Nat → Nat} {T b o n g cap' : Nat} {cs : Array Value} {t : TypeId} {sl : Value} {l : List Dg} {bs : List UInt8} {to : Int} {au : Option Addr} {nu cu : Nat} {w w2 w3 : World} {ob : Obj} {ps : List (Dg × Value)}
    (hb : own b ≠ T) (hb1 : own b ≠ T + 1) (hps : ps.map (·.1) = l) (hrow : Row own T w 51 2 sl l.length (gcells ps)) (hbytes : ∀ p ∈ ps, Row own (T + 1) w 5 1 p.2 p.1.2.length (p.1.2.map B)) (hnd : (ps.filterMap (·.2.ownBlock)).Nodup)
    (hlt : b < w.heap.size) (hbw : Below w.heap.size w w2) (hs2 : w.heap.size + 1 ≤ w2.heap.size) (ho2 : w2.ownsRow (w.heap.size + 1) 5 1 (.slice au nu cu) n (bs.map B))
    (hB3 : Has w3 b (.cells cs t)) (ho3 : w3.ownsRow 0 51 2 (.slice (some ⟨g, 0, none⟩) (l.length + 1) cap') (l.length + 1) (gcells ps ++ [.int .i64 to, .slice au nu cu]))
    (hg3 : (w2.alloc ob).grownBy w3 sl.ownBlock) (hg : sl.ownBlock = some g ∨ g = w2.heap.size + 1) :
    ∃ own' v', Ext w own own' ∧ Turn (fun k => k = b ∨ own k = T) w (w3.setCell ⟨b, o, none⟩ (.slice (some ⟨g, 0, none⟩) (l.length + 1) cap')) ∧ Has (w3.setCell ⟨b, o, none⟩ (.slice (some ⟨g, 0, none⟩) (l.length + 1) cap')) b (.cells (cs.setIfInBounds o v') t) ∧
      Grams own' T (w3.setCell ⟨b, o, none⟩ (.slice (some ⟨g, 0, none⟩) (l.length + 1) cap')) v' (l ++ [(to, bs)]) := by
  generalize hw4 : w3.setCell ⟨b, o, none⟩ (.slice (some ⟨g, 0, none⟩) (l.length + 1) cap') = w4
  have hrb : ∀ k, sl.ownBlock = some k → k < w.heap.size ∧ own k = T := fun k hk => ⟨hrow.lt k hk, hrow.2 k hk⟩
  have hT : Turn (fun k => k = b ∨ own k = T) w w4 := by
    rw [← hw4]
    exact ((((Turn.refl _ w).then_below hbw (Nat.le_refl _)).alloc ob).grown hg3 (fun k hk => .inr (.inr (hrb k hk).2))).setCell (.inr (.inl rfl)) _
  have hE : Ext w own (fun k => if k < w.heap.size then own k else if k < w2.heap.size then T + 1 else T) := fun k hk => by simp [hk]
  have hset : ∀ k, k ≠ b → w4.heap[k]? = w3.heap[k]? := fun k hk => by rw [← hw4]; exact Below.heap_setCell _ _ _ _ hk
  have hblk : ∀ k, (Value.slice au nu cu).ownBlock = some k → w.heap.size + 1 ≤ k ∧ k < w2.heap.size := fun k hk => by
    refine ⟨owns_ge ho2 k hk, ?_⟩
    rcases ho2.2 with ⟨e, _⟩ | ⟨g', c', cu', e, _, h, _⟩
    · rw [e] at hk; cases hk
    · rw [e] at hk
      have : g' = k := by simpa [Value.ownBlock] using hk
      subst this
      exact Has.lt (w := w2) h
  refine ⟨_, .slice (some ⟨g, 0, none⟩) (l.length + 1) cap', hE, hT, ?_, ps ++ [((to, bs), .slice au nu cu)], by simp [hps], ?_, ?_, ?_⟩
  · rw [← hw4]; exact hB3.set_ o _
  · have hgl : own g = T ∧ g < w.heap.size ∨ g = w2.heap.size + 1 := hg.imp (fun h => ⟨(hrb g h).2, (hrb g h).1⟩) (fun h => h)
    have hgb : g ≠ b := by
      rintro rfl
      rcases hgl with h | h
      · exact hb h.1
      · omega
    refine ⟨?_, fun k hk => ?_⟩
    · rw [List.length_append, List.length_singleton]
      have e : gcells (ps ++ [((to, bs), .slice au nu cu)]) = gcells ps ++ [.int .i64 to, .slice au nu cu] := by simp [gcells]
      rw [e]
      exact row_kept ho3 fun k hk => hset k (by
        have : g = k := by simpa [Value.ownBlock] using hk
        omega)
    · obtain rfl : g = k := by simpa [Value.ownBlock] using hk
      rcases hgl with h | h
      · simp [h.2, h.1]
      · simp only [h]
        rw [if_neg (by omega), if_neg (by omega)]
  · intro p hp
    rcases List.mem_append.1 hp with hp | hp
    · exact (hbytes p hp).keep hT hE (fun k _ e h => by
        rcases h with rfl | h
        · exact hb1 e
        · omega)
    · obtain rfl := List.mem_singleton.1 hp
      refine ⟨?_, fun k hk => ?_⟩
      · have hn : bs.length = n := by have := ho2.1; simpa using this
        have h0 : w2.ownsRow 0 5 1 (.slice au nu cu) bs.length (bs.map B) := by rw [hn]; exact owns_base ho2 (Nat.zero_le _)
        refine row_kept h0 fun k hk => ?_
        obtain ⟨h1, h2⟩ := hblk k hk
        rw [hset k (by omega), hg3.block k (by simp; omega) (fun e => by have := (hrb k e.symm).1; omega)]
        exact Below.heap_alloc _ _ _ h2
      · obtain ⟨h1, h2⟩ := hblk k hk
        show (if k < w.heap.size then own k else if k < w2.heap.size then T + 1 else T) = T + 1
        rw [if_neg (by omega), if_pos h2]
  · rw [List.filterMap_append, List.nodup_append]
    refine ⟨hnd, ?_, fun x hx y hy => ?_⟩
    · cases au <;> simp [Value.ownBlock]
    · obtain ⟨p, hp, hpx⟩ := List.mem_filterMap.1 hx
      have h1 := (hbytes p hp).lt x hpx
      have h2 : (Value.slice au nu cu).ownBlock = some y := by
        obtain ⟨q, hq, hqy⟩ := List.mem_filterMap.1 hy
        obtain rfl := List.mem_singleton.1 hq
        exact hqy
      have := (hblk y h2).1
      omega

set_option maxHeartbeats 2000000 in
set_option maxRecDepth 100000 in
theorem Send_room (own : Nat → Nat) (T b o : Nat) (cs : Array Value) (t : TypeId) (v : Value) (l : List Dg) (a : Option Addr) (n c : Nat) (bs : List UInt8) (to : Int) (w : World)
    (hB : Has w b (.cells cs t)) (c0 : cs[o]? = some v) (hb : own b ≠ T) (hb1 : own b ≠ T + 1) (hg : Grams own T w v l) (hl : l.length < 200) (hrd : RD w w.heap.size a n bs) (hc : n ≤ c) (hn : n ≤ 140737488355328) :
    Calls Tryd.prog 22 #[.pointer (some ⟨b, o, none⟩), .agg #[.int .i64 to, .slice a n c]] w fun e w' => e = .returned (.tuple #[]) ∧
      ∃ own' v', Ext w own own' ∧ Turn (fun k => k = b ∨ own k = T) w w' ∧ Has w' b (.cells (cs.setIfInBounds o v') t) ∧ Grams own' T w' v' (l ++ [(to, bs)]) := by
  obtain ⟨i0, hi0, hz0, hz1, hz2⟩ := info_parts infoGram
  obtain ⟨ps, hps, hrow, hbytes, hnd⟩ := hg
  have hlt := hB.lt
  have k0 : w.cell? ⟨b, o, none⟩ = some v := (hB.cell o).trans c0
  have f0 : w.frozen? ⟨b, o, none⟩ = false := hB.frozen o
  have hv : ∃ A m cap, v = .slice A m cap ∧ m = l.length := by
    rcases hrow.1.2 with ⟨rfl, h0⟩ | ⟨g, cap, cur, rfl, _⟩
    · exact ⟨_, _, _, rfl, h0.symm⟩
    · exact ⟨_, _, _, rfl, rfl⟩
  obtain ⟨A, m, cap, rfl, hm⟩ := hv
  have HM := Lib.hid hm
  have hm2 : m < 200 := by omega
  have hm3 : ¬ (200 : Int) ≤ m := by omega
  have HROW := Lib.hid hrow
  have hc0 := Lib.hid c0
  have HNE : Hid (∀ k, (Value.slice A m cap).ownBlock = some k → k < w.heap.size ∧ k ≠ b) := fun k hk => ⟨hrow.lt k hk, fun e => by subst e; exact hb (hrow.2 k hk)⟩
  have HB := Lib.hid hB
  have hp0 : (w.alloc (.cells #[.int .i64 to, .slice a n c] 51)).cell? ⟨w.heap.size, 0, none⟩ = some (.int .i64 to) := (Has.new w (.cells #[.int .i64 to, .slice a n c] 51)).cell 0
  have hp1 : (w.alloc (.cells #[.int .i64 to, .slice a n c] 51)).cell? ⟨w.heap.size, 1, none⟩ = some (.slice a n c) := (Has.new w (.cells #[.int .i64 to, .slice a n c] 51)).cell 1
  have hrd1 : RD (w.alloc (.cells #[.int .i64 to, .slice a n c] 51)).drew (w.alloc (.cells #[.int .i64 to, .slice a n c] 51)).drew.heap.size a n bs := (hrd.below ((Below.refl _ _).alloc (Nat.le_refl _) _).drew (Nat.le_refl _)).more (Nat.le_of_lt (by show w.heap.size < (w.alloc _).heap.size; rw [World.size_alloc]; omega))
  have HRD := Lib.hid hrd1
  have hk0 : (w.alloc (.cells #[.int .i64 to, .slice a n c] 51)).drew.cell? ⟨b, o, none⟩ = some (.slice A m cap) := (Below.cell ((Below.refl w.heap.size w).alloc (Nat.le_refl _) (.cells #[.int .i64 to, .slice a n c] 51)) (p := ⟨b, o, none⟩) hlt).trans k0
  clear hm hrow hB c0 hrd1
  go_enter Tryd.func22, Tryd.ntmps22
  go_wp2_with fail
  go_region_law
    (first
      | ((refine step_append_lies _ (by rfl) (.tmp 21) (.tmp 28) 47 (by rfl) 0 51 i0 _ 2 32 Tryd.underlying47 hi0 hz0 hz1 hz2 (by rfl) (by decide) (.slice A m cap) l.length (gcells ps) (by rfl) (HR2.out.alloc _) ⟨w2.heap.size, 0, none⟩ 1 1 [.int .i64 to, .slice au nu cu] (by rfl) (by rfl) (two_cells rfl rfl) (two_one rfl) (by omega) (by unfold maxLen; omega) (by omega) (by omega) (w2.heap.size + 1) (by simp) ?_); intro g cap' w3 hown3 hg3 hg hg3lt; obtain ⟨r0, rf0, r1, r2, hB3⟩ := boxed3 HB.out hc0.out HBW.out hq1 hq2 hs2 hg3 HNE.out; have HB3 := Lib.hid hB3; have HO3 := Lib.hid hown3; have HG3 := Lib.hid hg3; have HG := Lib.hid hg; clear hown3 hg3 hg hB3 hq0 hq1 hq2 n0 n1 n2)
      | (go_simp; go_at_call 58; refine (Clone_any a n c bs _ HRD.out hc hn).mono ?_; rintro e w2 ⟨u, rfl, hown2, hb2⟩; obtain ⟨au, nu, cu, rfl⟩ := owns_any hown2; obtain ⟨hs2, hq0, hq1, hq2, hbw⟩ := boxed2 hlt k0 hb2; have n0 := alloc_cell hq0; have n1 := alloc_cell hq1; have n2 := alloc_cell hq2; have HO2 := Lib.hid hown2; have HBW := Lib.hid hbw; have HR2 : Hid (w2.ownsRow 0 51 2 (.slice A m cap) l.length (gcells ps)) := owns_below HROW.out.1 HBW.out; clear hown2 hb2 hbw))
  all_goals
    go_end0
    exact ⟨rfl, sent_done hb hb1 hps HROW.out hbytes hnd hlt HBW.out hs2 (owns_base HO2.out (Nat.le_of_eq (World.size_alloc w _).symm)) HB3.out HO3.out HG3.out HG.out⟩
end Go.Proofs.YthldfogmmjompaaDoor.net
