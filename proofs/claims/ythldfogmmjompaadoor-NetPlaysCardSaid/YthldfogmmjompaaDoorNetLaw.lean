/-
  The law NetPlays: its closure.
-/
import Derived.Test.YthldfogmmjompaaDoorNetC
import Derived.Test.YthldfogmmjompaaDoorRefWire
namespace Go.Proofs.YthldfogmmjompaaDoor.net
open Go.RowKit Go.Proofs.YthldfogmmjompaaDoor.heap Go.Proofs.YthldfogmmjompaaDoor.own Go.Proofs.YthldfogmmjompaaDoor.wire

attribute [local go_sem ↓] Go.wp_at_zero Go.wp_at_succ

/-- Behind what send does, for the law's own list. -/
def ClosePost (own : Nat → Nat) (T bw bl : Nat) (l : List Dg) (lost : Int) (g : Dg) (w w' : World) : Prop :=
  ∃ own' v', Ext w own own' ∧ Turn (fun k => k = bw ∨ k = bl ∨ own k = T) w w' ∧ Has w' bw (.cells #[v'] 47) ∧ Has w' bl (.cells #[.int .i64 (sent l lost g).2] 3) ∧ Grams own' T w' v' (sent l lost g).1

theorem Close_full (bw bl : Nat) (n c : Nat) (a : Option Addr) (lost : Int) (x : Value) (to : Int) (w : World) (hw : Has w bw (.cells #[.slice a n c] 47)) (hl : Has w bl (.cells #[.int .i64 lost] 3)) (hn : 200 ≤ n) :
    Calls Tryd.prog 21 #[.agg #[.int .i64 to, x], .pointer (some ⟨bw, 0, none⟩), .pointer (some ⟨bl, 0, none⟩)] w fun e w' => e = .returned (.tuple #[]) ∧
      w' = (w.setCell ⟨bl, 0, none⟩ (.int .i64 (wrap64 (lost + 1)))).alloc (.cells #[.int .i64 to, x] 51) := by
  have k0 : w.cell? ⟨bw, 0, none⟩ = some (.slice a n c) := hw.cell 0
  have k1 : w.cell? ⟨bl, 0, none⟩ = some (.int .i64 lost) := hl.cell 0
  have f1 : w.frozen? ⟨bl, 0, none⟩ = false := hl.frozen 0
  have h1 := hw.lt
  have h2 := hl.lt
  have hl' : (200 : Int) ≤ n := by omega
  clear hw hl
  go_enter Tryd.func21, Tryd.ntmps21
  go_wp2
  refine bodyPost_ret (results_none rfl _ _ _) rfl ?_
  exact ⟨rfl, rfl⟩


theorem boxed2e {w w2 : World} {x0 x1 sl : Value} {t e : TypeId} {b o : Nat} {row : Option Nat} (hlt : b < w.heap.size) (k0 : w.cell? ⟨b, o, none⟩ = some sl)
    (hg : ((w.alloc (.cells #[x0, x1] t)).alloc (.cells #[] e)).drew.grownBy w2 row) (hr : ∀ k, row = some k → w.heap.size + 1 ≤ k) :
    w.heap.size + 1 ≤ w2.heap.size ∧ w2.cell? ⟨b, o, none⟩ = some sl ∧ w2.cell? ⟨w.heap.size, 0, none⟩ = some x0 ∧ w2.cell? ⟨w.heap.size, 1, none⟩ = some x1 ∧ Below w.heap.size w w2 := by
  have h0 : Below w.heap.size w ((w.alloc (.cells #[x0, x1] t)).alloc (.cells #[] e)).drew := (((Below.refl _ _).alloc (Nat.le_refl _) _).alloc (by simp) _).drew
  have hn : Has ((w.alloc (.cells #[x0, x1] t)).alloc (.cells #[] e)).drew w.heap.size (.cells #[x0, x1] t) := ((Has.new w _).alloc _).drew
  have hb := h0.grown hg (by show w.heap.size ≤ ((w.alloc _).alloc _).heap.size; simp; omega) (fun k hk => by have := hr k hk; omega)
  have h2 := grown_has hg hn (fun e => by have := hr _ e.symm; omega)
  refine ⟨h2.lt, (hb.cell (p := ⟨b, o, none⟩) hlt).trans k0, h2.cell 0, h2.cell 1, hb⟩

set_option maxHeartbeats 4000000 in
set_option maxRecDepth 100000 in
theorem Close_room1 (own : Nat → Nat) (T b : Nat) (ptr : Value) (v : Value) (l : List Dg) (ad : Addr) (n c : Nat) (bs : List UInt8) (to : Int) (w : World)
    (hB : Has w b (.cells #[v] 47)) (hb : own b ≠ T) (hb1 : own b ≠ T + 1) (hg : Grams own T w v l) (hl : l.length < 200) (hrd : RD w w.heap.size (some ad) n bs) (hn0 : 0 < n) (hn : n ≤ 140737488355328) :
    Calls Tryd.prog 21 #[.agg #[.int .i64 to, .slice (some ad) n c], .pointer (some ⟨b, 0, none⟩), ptr] w fun e w' => e = .returned (.tuple #[]) ∧
      ∃ own' v', Ext w own own' ∧ Turn (fun k => k = b ∨ own k = T) w w' ∧ Has w' b (.cells ((#[v] : Array Value).setIfInBounds 0 v') 47) ∧ Grams own' T w' v' (l ++ [(to, bs)]) := by
  obtain ⟨i0, hi0, hz0, hz1, hz2⟩ := info_parts infoGram
  obtain ⟨j0, hj0, hy0, hy1, hy2⟩ := info_parts info5
  obtain ⟨ps, hps, hrow, hbytes, hnd⟩ := hg
  have hlt := hB.lt
  have k0 : w.cell? ⟨b, 0, none⟩ = some v := hB.cell 0
  have f0 : w.frozen? ⟨b, 0, none⟩ = false := hB.frozen 0
  have hv : ∃ A m cap, v = .slice A m cap ∧ m = l.length := by
    rcases hrow.1.2 with ⟨rfl, h0⟩ | ⟨g, cap, cur, rfl, _⟩
    · exact ⟨_, _, _, rfl, h0.symm⟩
    · exact ⟨_, _, _, rfl, rfl⟩
  obtain ⟨A, m, cap, rfl, hm⟩ := hv
  have HM := Lib.hid hm
  have hm2 : m < 200 := by omega
  have hm3 : ¬ (200 : Int) ≤ m := by omega
  have HROW := Lib.hid hrow
  have HNE : Hid (∀ k, (Value.slice A m cap).ownBlock = some k → k < w.heap.size ∧ k ≠ b) := fun k hk => ⟨hrow.lt k hk, fun e => by subst e; exact hb (hrow.2 k hk)⟩
  have HB := Lib.hid hB
  have HL0 : Hid ((bs.map B).length = n * 1) := by rw [Hid, List.length_map, Nat.mul_one]; exact hrd.1
  have HN0 : Hid (∀ (j : Nat) (u : Value), (bs.map B)[j]? = some u → ((w.alloc (.cells #[.int .i64 to, .slice (some ad) n c] 51)).alloc (.cells #[] 5)).drew.cell? (ad.add j) = some u) := by
    intro j u hj
    rw [List.getElem?_map] at hj
    cases hq : bs[j]? with
    | none => rw [hq] at hj; cases hj
    | some ch =>
      rw [hq] at hj
      obtain rfl := Option.some.inj hj
      obtain ⟨bb, off, e, hlt2, hcc⟩ := hrd.2 hn0
      obtain rfl := Option.some.inj e
      rw [show (⟨bb, off, none⟩ : Addr).add j = ⟨bb, off + j, none⟩ from by by_cases h0 : j = 0 <;> simp [Addr.add, h0]]
      exact (Below.cell (((Below.refl w.heap.size w).alloc (Nat.le_refl _) _).alloc (by simp) _).drew (p := ⟨bb, off + j, none⟩) hlt2).trans (hcc j ch hq)
  have HE0 : Hid (((w.alloc (.cells #[.int .i64 to, .slice (some ad) n c] 51)).alloc (.cells #[] 5)).drew.ownsRow (w.heap.size + 1) 5 1 (.slice (some ⟨w.heap.size + 1, 0, none⟩) 0 0) 0 []) := by
    have h0 := (Has.new (w.alloc (.cells #[.int .i64 to, .slice (some ad) n c] 51)) (.cells #[] 5)).drew
    rw [World.size_alloc] at h0
    exact owns_new (l := []) h0 (Nat.le_refl _) rfl (Nat.zero_le _)
  have hsz : ((w.alloc (.cells #[.int .i64 to, .slice (some ad) n c] 51)).alloc (.cells #[] 5)).drew.heap.size = w.heap.size + 2 := by show ((w.alloc _).alloc _).heap.size = _; simp
  have HSZ := Lib.hid hsz
  have HOB := Lib.hid (And.intro hb hb1)
  have z0 := alloc_cell k0
  clear hm hrow hB hrd hsz hb hb1
  go_enter Tryd.func21, Tryd.ntmps21
  go_wp2_with fail
  go_region_law
    (first
      | ((refine step_append_lies _ (by rfl) (.tmp 12) (.tmp 14) 33 (by rfl) (w.heap.size + 1) 5 j0 _ 1 1 Tryd.underlying33 hj0 hy0 hy1 hy2 (by rfl) (by decide) (.slice (some ⟨w.heap.size + 1, 0, none⟩) 0 0) 0 [] (by rfl) HE0.out ad n c (bs.map B) (by rfl) HL0.out HN0.out (B_one _) hn0 (by unfold maxLen; omega) (by omega) (by rw [HSZ.out]; omega) (w.heap.size + 2) HSZ.out ?_); intro gu cu w2 hown2 hg2 hgu hgult; rw [Nat.zero_add, List.nil_append] at hown2; obtain ⟨hs2, hq0, hq1, hq2, hbw⟩ := boxed2e hlt k0 hg2 (fun k hk => by cases hk; exact Nat.le_refl _); have n0 := alloc_cell hq0; have n1 := alloc_cell hq1; have n2 := alloc_cell hq2; have HO2 := Lib.hid hown2; have HBW := Lib.hid hbw; have HR2 : Hid (w2.ownsRow 0 51 2 (.slice A m cap) l.length (gcells ps)) := owns_below HROW.out.1 HBW.out)
      | ((refine step_append_lies _ (by rfl) (.tmp 9) (.tmp 17) 47 (by rfl) 0 51 i0 _ 2 32 Tryd.underlying47 hi0 hz0 hz1 hz2 (by rfl) (by decide) (.slice A m cap) l.length (gcells ps) (by rfl) (HR2.out.alloc _) ⟨w2.heap.size, 0, none⟩ 1 1 [.int .i64 to, .slice (some ⟨gu, 0, none⟩) n cu] (by rfl) (by rfl) (two_cells rfl rfl) (two_one rfl) (by omega) (by unfold maxLen; omega) (by omega) (by omega) (w2.heap.size + 1) (by simp) ?_); intro g cap' w3 hown3 hg3 hg hg3lt; obtain ⟨r0, rf0, r1, r2, hB3⟩ := boxed3 (o := 0) (sl := .slice A m cap) HB.out rfl HBW.out hq1 hq2 hs2 hg3 HNE.out; have HB3 := Lib.hid hB3; have HO3 := Lib.hid hown3; have HG3 := Lib.hid hg3; have HG := Lib.hid hg; clear hown3 hg3 hg hB3 hq0 hq1 hq2 n0 n1 n2))
  all_goals
    go_end0
    exact ⟨rfl, sent_done HOB.out.1 HOB.out.2 hps HROW.out hbytes hnd hlt HBW.out hs2 HO2.out HB3.out HO3.out HG3.out HG.out⟩
end Go.Proofs.YthldfogmmjompaaDoor.net
