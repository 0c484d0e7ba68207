/-
  The law NetPlays: its closure, on.
-/
import Derived.Test.YthldfogmmjompaaDoorNetLaw
namespace Go.Proofs.YthldfogmmjompaaDoor.net
open Go.RowKit Go.Proofs.YthldfogmmjompaaDoor.heap Go.Proofs.YthldfogmmjompaaDoor.own Go.Proofs.YthldfogmmjompaaDoor.wire

attribute [local go_sem ↓] Go.wp_at_zero Go.wp_at_succ

theorem boxed0 {w : World} {x0 x1 sl : Value} {t e : TypeId} {b : Nat} (hlt : b < w.heap.size) (k0 : w.cell? ⟨b, 0, none⟩ = some sl) :
    ∃ w2, w2 = ((w.alloc (.cells #[x0, x1] t)).alloc (.cells #[] e)).drew ∧ w.heap.size + 1 ≤ w2.heap.size ∧ w2.heap.size = w.heap.size + 2 ∧ w2.cell? ⟨b, 0, none⟩ = some sl ∧ w2.cell? ⟨w.heap.size, 0, none⟩ = some x0 ∧ w2.cell? ⟨w.heap.size, 1, none⟩ = some x1 ∧ Below w.heap.size w w2 ∧ Has w2 (w.heap.size + 1) (.cells #[] e) := by
  have hz : ((w.alloc (.cells #[x0, x1] t)).alloc (.cells #[] e)).drew.heap.size = w.heap.size + 2 := by show ((w.alloc _).alloc _).heap.size = _; simp
  have h0 : Below w.heap.size w ((w.alloc (.cells #[x0, x1] t)).alloc (.cells #[] e)).drew := (((Below.refl _ _).alloc (Nat.le_refl _) _).alloc (by simp) _).drew
  have hn : Has ((w.alloc (.cells #[x0, x1] t)).alloc (.cells #[] e)).drew w.heap.size (.cells #[x0, x1] t) := ((Has.new w _).alloc _).drew
  have he := (Has.new (w.alloc (.cells #[x0, x1] t)) (.cells #[] e)).drew
  rw [World.size_alloc] at he
  exact ⟨_, rfl, by omega, hz, (h0.cell (p := ⟨b, 0, none⟩) hlt).trans k0, hn.cell 0, hn.cell 1, h0, he⟩

theorem grown_world {w2 w3 W : World} {ob : Obj} {row : Option Nat} (h : w2 = W.drew) (hg : (W.alloc ob).drew.grownBy w3 row) : (w2.alloc ob).grownBy w3 row := by
  subst h
  exact ⟨hg.os, hg.tape, hg.output, hg.size, hg.block⟩

theorem run_nothing (W : World) (ty : TypeId) (b0 : Addr) (p : Option Addr) (c : Nat) :
    (Builtin.append_ #[33, 33] ty #[.slice (some b0) 0 0, .slice p 0 c]).run Tryd.prog W = .ok (.slice (some b0) 0 0) W := by
  obtain ⟨j0, hj0, hy0, hy1, hy2⟩ := info_parts info5
  cases p <;> simp [Builtin.append_, run_underlying Tryd.underlying33, sizeOf, typeInfo, hj0, Builtin.lenOf, Builtin.firstCells, loadCells, loadCellsFrom, storeCells]
theorem step_nothing {ops : Array Oper} {o : Oper} {a : Act} {w : World} {K : Act → World → Prop} {Q : Exit → Act → World → Prop} {E : Prop} (hgd : o.guard = none) (s x : Operand)
    (ho : o.op = .call { callee := .builtin .append, args := #[s, x], argTypes := #[33, 33] }) (b0 : Addr) (hs : a.eval s = .slice (some b0) 0 0) (p : Option Addr) (c : Nat) (hx : a.eval x = .slice p 0 c)
    (h : K (a.put o.dst (.slice (some b0) 0 0)) w) : if Region.wanted o (yielded ops a.tmps) = true then Oper.wp Tryd.prog o a w K Q else E := by
  rw [if_pos (by simp [Region.wanted, hgd])]
  unfold Oper.wp execOp
  simp only [ho, resolve, invoke, builtin, Sem.run_bind, Sem.run_pure, Result.andThen_ok, List.map_toArray, List.map_cons, List.map_nil, hs, hx, run_nothing]
  exact h

set_option maxHeartbeats 4000000 in
set_option maxRecDepth 100000 in
theorem Close_room0 (own : Nat → Nat) (T b : Nat) (ptr : Value) (v : Value) (l : List Dg) (a : Option Addr) (c : Nat) (to : Int) (w : World)
    (hB : Has w b (.cells #[v] 47)) (hb : own b ≠ T) (hb1 : own b ≠ T + 1) (hg : Grams own T w v l) (hl : l.length < 200) :
    Calls Tryd.prog 21 #[.agg #[.int .i64 to, .slice a 0 c], .pointer (some ⟨b, 0, none⟩), ptr] w fun e w' => e = .returned (.tuple #[]) ∧
      ∃ own' v', Ext w own own' ∧ Turn (fun k => k = b ∨ own k = T) w w' ∧ Has w' b (.cells ((#[v] : Array Value).setIfInBounds 0 v') 47) ∧ Grams own' T w' v' (l ++ [(to, [])]) := by
  obtain ⟨i0, hi0, hz0, hz1, hz2⟩ := info_parts infoGram
  obtain ⟨ps, hps, hrow, hbytes, hnd⟩ := hg
  have hlt := hB.lt
  have k0 : w.cell? ⟨b, 0, none⟩ = some v := hB.cell 0
  have hv : ∃ A m cap, v = .slice A m cap ∧ m = l.length := by
    rcases hrow.1.2 with ⟨rfl, h0⟩ | ⟨g, cap, cur, rfl, _⟩
    · exact ⟨_, _, _, rfl, h0.symm⟩
    · exact ⟨_, _, _, rfl, rfl⟩
  obtain ⟨A, m, cap, rfl, hm⟩ := hv
  have HM := Lib.hid hm
  have hm2 : m < 200 := by omega
  have hm3 : ¬ (200 : Int) ≤ m := by omega
  have HROW := Lib.hid hrow
  have HNE : Hid (∀ k, (Value.slice A m cap).ownBlock = some k → k < w.heap.size ∧ k ≠ b) := fun k hk => ⟨hrow.lt k hk, fun e => by subst e; exact hb (hrow.2 k hk)⟩
  have HB := Lib.hid hB
  obtain ⟨w2, hw2, hs2, hz2', hq0, hq1, hq2, hbw, he⟩ := boxed0 (x0 := .int .i64 to) (x1 := .slice a 0 c) (t := 51) (e := 5) hlt k0
  have HO2 : Hid (w2.ownsRow (w.heap.size + 1) 5 1 (.slice (some ⟨w.heap.size + 1, 0, none⟩) 0 0) 0 (([] : List UInt8).map B)) := owns_new (l := []) he (Nat.le_refl _) rfl (Nat.zero_le _)
  have HBW := Lib.hid hbw
  have HR2 : Hid (w2.ownsRow 0 51 2 (.slice A m cap) l.length (gcells ps)) := owns_below HROW.out.1 HBW.out
  have HOB := Lib.hid (And.intro hb hb1)
  have HW2 := Lib.hid hw2
  have HZ2 := Lib.hid hz2'
  have n0 := alloc_cell hq0
  have n1 := alloc_cell hq1
  have n2 := alloc_cell hq2
  have z0 := alloc_cell k0
  clear hm hrow hB hb hb1 hbw he hw2 hz2'
  go_enter Tryd.func21, Tryd.ntmps21
  go_wp2_with fail
  go_region_law
    (first
      | (refine step_nothing (by rfl) (.tmp 12) (.tmp 14) (by rfl) ⟨w.heap.size + 1, 0, none⟩ (by rfl) a c (by rfl) ?_; rw [← HW2.out])
      | ((refine step_append_lies _ (by rfl) (.tmp 9) (.tmp 17) 47 (by rfl) 0 51 i0 _ 2 32 Tryd.underlying47 hi0 hz0 hz1 hz2 (by rfl) (by decide) (.slice A m cap) l.length (gcells ps) (by rfl) (HR2.out.alloc _) ⟨w2.heap.size, 0, none⟩ 1 1 [.int .i64 to, .slice (some ⟨w.heap.size + 1, 0, none⟩) 0 0] (by rfl) (by rfl) (two_cells rfl rfl) (two_one rfl) (by omega) (by unfold maxLen; omega) (by omega) (by omega) (w2.heap.size + 1) (by simp) ?_); intro g cap' w3 hown3 hg3 hg hg3lt; obtain ⟨r0, rf0, r1, r2, hB3⟩ := boxed3 (o := 0) (sl := .slice A m cap) HB.out rfl HBW.out hq1 hq2 hs2 hg3 HNE.out; have HB3 := Lib.hid hB3; have HO3 := Lib.hid hown3; have HG3 := Lib.hid hg3; have HG := Lib.hid hg; clear hown3 hg3 hg hB3 hq0 hq1 hq2 n0 n1 n2))
  all_goals
    go_end0
    exact ⟨rfl, sent_done HOB.out.1 HOB.out.2 hps HROW.out hbytes hnd hlt HBW.out hs2 HO2.out HB3.out HO3.out HG3.out HG.out⟩
end Go.Proofs.YthldfogmmjompaaDoor.net
