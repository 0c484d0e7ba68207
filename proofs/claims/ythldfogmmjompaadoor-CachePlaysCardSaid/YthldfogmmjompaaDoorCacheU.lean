/-
  Contracts of the walks of the reference's cache: Get.
-/
import Derived.Test.YthldfogmmjompaaDoorCacheS
import Derived.Deep.CutBlock
namespace Go.Proofs.YthldfogmmjompaaDoor.cache
open Go.RowKit Go.Proofs.YthldfogmmjompaaDoor.heap Go.Proofs.YthldfogmmjompaaDoor.own

theorem rget_results (tmps : Array Value) (W : World) (g : Nat) (x y till err : Value) (h2 : tmps.getD 4 undef = .pointer (some ⟨g, 0, none⟩)) (h3 : tmps.getD 5 undef = till) (h4 : tmps.getD 6 undef = err)
    (hg : Has W g (.cells #[x, y] 70)) : (results Tryd.f30 tmps).run Tryd.prog W = .ok (.tuple #[.agg #[x, y], till, err]) W := by
  rw [results_cell_two Tryd.results30, h2, h3, h4]
  have hi : (Tryd.prog.info? 70).map (·.size) = some (#[x, y] : Array Value).size := by kernel_rfl
  have := run_loadVar_row (P := Tryd.prog) W g 70 70 _ (0, 0) _ hg Tryd.underlying70 rfl hi
  simp [asAddr, Result.andThen, this]

theorem rcells_set (l : List RIt) (k : Nat) (x : RIt) (u : Int) (h : l[k]? = some x) : (rcells l).set (k * 5 + 4) (.int .i64 u) = rcells (l.set k { x with used := u }) := by
  induction l generalizing k with
  | nil => cases h
  | cons q l ih =>
    cases k with
    | zero =>
      obtain rfl : q = x := by simpa using h
      rfl
    | succ k =>
      have := ih k (by simpa using h)
      simp only [rcells, List.flatMap_cons, List.set_cons_succ] at this ⊢
      rw [← this, List.set_append_right _ _ (by simp [ritc]; omega)]
      congr 2
      simp only [ritc, List.length_cons, List.length_nil]
      omega

/-- What Get of the reference answers. -/
def rgets (l : List RIt) (o : Int) : Value := match l.find? (fun x => x.obj == o) with
  | some x => .tuple #[.agg #[.string ⟨x.data.toArray⟩, .int .i64 x.ver], .int .i64 x.till, .int .i64 0]
  | none => .tuple #[.agg #[.string ⟨#[]⟩, .int .i64 0], .int .i64 0, .int .i64 7]
/-- .. and leaves. -/
def rused (l : List RIt) (o time : Int) : List RIt := match l.findIdx? (fun x => x.obj == o) with
  | some k => l.modify k (fun x => { x with used := time })
  | none => l

theorem rget_hit {l : List RIt} {o t : Int} {k : Nat} {x : RIt} (h : l[k]? = some x) (hx : x.obj = o) (hn : ∀ y ∈ l.take k, y.obj ≠ o) :
    rused l o t = l.set k { x with used := t } ∧ rgets l o = .tuple #[.agg #[.string ⟨x.data.toArray⟩, .int .i64 x.ver], .int .i64 x.till, .int .i64 0] := by
  obtain ⟨hk, rfl⟩ := List.getElem?_eq_some_iff.1 h
  have hj : ∀ (j : Nat) (hj : j < k), ¬ ((l[j]'(by omega)).obj == o) = true := fun j hj => by
    have := hn (l[j]'(by omega)) (by
      rw [List.mem_take_iff_getElem]
      exact ⟨j, by omega, rfl⟩)
    simpa using this
  have h1 : l.findIdx? (fun x => x.obj == o) = some k := by
    rw [List.findIdx?_eq_some_iff_getElem]
    exact ⟨hk, by simpa using hx, hj⟩
  have h2 : l.find? (fun x => x.obj == o) = some l[k] := by
    rw [List.find?_eq_some_iff_getElem]
    exact ⟨by simpa using hx, k, hk, rfl, fun j hjk => by have := hj j hjk; simpa using this⟩
  unfold rused rgets
  rw [h1, h2]
  refine ⟨?_, rfl⟩
  apply List.ext_getElem?
  intro i
  rw [List.getElem?_modify, List.getElem?_set]
  by_cases hi : k = i
  · subst hi
    simp [hk]
  · simp [hi]
theorem rget_miss {l : List RIt} {o t : Int} (hn : ∀ y ∈ l, y.obj ≠ o) : rused l o t = l ∧ rgets l o = .tuple #[.agg #[.string ⟨#[]⟩, .int .i64 0], .int .i64 0, .int .i64 7] := by
  have h1 : l.findIdx? (fun x => x.obj == o) = none := by
    rw [List.findIdx?_eq_none_iff]
    intro x hx
    simpa using hn x hx
  have h2 : l.find? (fun x => x.obj == o) = none := by
    rw [List.find?_eq_none]
    intro x hx
    simpa using hn x hx
  unfold rused rgets
  rw [h1, h2]
  exact ⟨rfl, rfl⟩

set_option maxHeartbeats 2000000 in
set_option maxRecDepth 100000 in
theorem RGet_any (own : Nat → Nat) (T b : Nat) (time : Int) (v : Value) (l : List RIt) (o : Int) (w : World) (hB : Has w b (.cells #[v, .int .i64 time] 68)) (hb : own b ≠ T) (h : RItems own T w v l) (hl : l.length ≤ 1000) (ht : 0 ≤ time) (ht2 : time ≤ 1000) :
    Calls Tryd.prog 30 #[.pointer (some ⟨b, 0, none⟩), .int .i64 o] w fun e w' => e = .returned (rgets l o) ∧ RPost own T b (time + 1) (rused l o (time + 1)) w w' := by
  obtain ⟨a, c, rfl, hcell⟩ := h.shape
  have hlt := hB.lt
  have k0 : w.cell? ⟨b, 0, none⟩ = some (.slice a l.length c) := hB.cell 0
  have k1 : w.cell? ⟨b, 1, none⟩ = some (.int .i64 time) := hB.cell 1
  have f1 : w.frozen? ⟨b, 1, none⟩ = false := hB.frozen 1
  obtain ⟨W1, hW1⟩ : ∃ W1, W1 = (w.setCell ⟨b, 1, none⟩ (.int .i64 (time + 1))).alloc (.cells #[.string ⟨#[]⟩, .int .i64 0] 70) := ⟨_, rfl⟩
  have HT1 : Hid (Turn (fun k => k = b) w W1) := by rw [hW1]; exact ((Turn.refl (fun k => k = b) w).setCell (p := ⟨b, 1, none⟩) (.inr rfl) _).alloc _
  have HF : Hid (0 < l.length → ∀ g, a = some ⟨g, 0, none⟩ → ∀ j, W1.frozen? ⟨g, j, none⟩ = false) := fun h0 g hg j => by
    obtain ⟨g', cap, cur, e, ho, hh, -⟩ := Row.shape h h0
    injection e with e1
    rw [hg] at e1
    injection e1 with e1
    injection e1 with e1
    subst e1
    have hgb : g ≠ b := by rintro rfl; exact hb ho
    exact (HT1.out.frozen (p := ⟨g, j, none⟩) hh.lt hgb).trans (hh.frozen j)
  have HB1 : Hid (Has W1 b (.cells #[.slice a l.length c, .int .i64 (time + 1)] 68)) := by rw [hW1]; exact (hB.set_ 1 _).alloc _
  have HR1 : Hid (Has W1 w.heap.size (.cells #[.string ⟨#[]⟩, .int .i64 0] 70)) := by rw [hW1]; have := Has.new (w.setCell ⟨b, 1, none⟩ (.int .i64 (time + 1))) (.cells #[.string ⟨#[]⟩, .int .i64 0] 70); rwa [show (w.setCell ⟨b, 1, none⟩ (.int .i64 (time + 1))).heap.size = w.heap.size from by simp [World.setCell]] at this
  have HC : Hid (0 < l.length → ∃ g, a = some ⟨g, 0, none⟩ ∧ g < w.heap.size ∧ g ≠ b ∧ ∀ k x, l[k]? = some x → ∀ j, j < 5 → W1.cell? ⟨g, k * 5 + j, none⟩ = (ritc x)[j]?) := fun h0 => by
    obtain ⟨g, rfl, hg, ho, hc⟩ := hcell h0
    have hgb : g ≠ b := by rintro rfl; exact hb ho
    exact ⟨g, rfl, hg, hgb, fun k x hk j hj => (HT1.out.cell (p := ⟨g, k * 5 + j, none⟩) hg hgb).trans (hc k x hk j hj)⟩
  have HI := Lib.hid h
  have HOB := Lib.hid hb
  have hs1 : w.heap.size < W1.heap.size := HR1.out.lt
  have hwrap : IntKind.i64.wrap (time + 1) = time + 1 := by simp only [IntKind.wrap_i64]; omega
  have HW1 := Lib.hid hW1
  clear h hcell hB hb
  go_enter Tryd.func30, Tryd.ntmps30
  go_wp2
  rw [← hW1]
  clear k0 k1 f1 hW1 HW1
  go_loopw [7, 8, 21] (fun _ _ i wr => ∃ k : Nat, k ≤ l.length ∧ i = .int .i64 k ∧ (∀ y ∈ l.take k, y.obj ≠ o) ∧ Below W1.heap.size W1 wr) (fun _ _ i _ => l.length - (intOf i).toNat)
  case atStart => exact ⟨0, by omega, rfl, (fun y hy => by simp at hy), Below.refl _ _⟩
  case round =>
    obtain ⟨k, hk, rfl, hno, hbw⟩ := hrel
    have HNO := Lib.hid hno
    have HBW := Lib.hid hbw
    have hsw := hbw.size
    clear hno
    by_cases hlt' : k < l.length
    · obtain ⟨g, rfl, hg, hgb, hc⟩ := HC.out (by omega)
      obtain ⟨x, hkx⟩ : ∃ x, l[k]? = some x := ⟨_, List.getElem?_eq_getElem hlt'⟩
      have hcx := hc k _ hkx
      have hbc : ∀ j, wr.cell? ⟨g, k * 5 + j, none⟩ = W1.cell? ⟨g, k * 5 + j, none⟩ := fun j => hbw.cell (p := ⟨g, k * 5 + j, none⟩) (by show g < W1.heap.size; omega)
      have c0 : wr.cell? ⟨g, k * 5, none⟩ = some (.int .i64 x.obj) := (hbc 0).trans (hcx 0 (by omega))
      have c1 : wr.cell? ⟨g, k * 5 + 1, none⟩ = some (.string ⟨x.data.toArray⟩) := (hbc 1).trans (hcx 1 (by omega))
      have c2 : wr.cell? ⟨g, k * 5 + 2, none⟩ = some (.int .i64 x.ver) := (hbc 2).trans (hcx 2 (by omega))
      have c3 : wr.cell? ⟨g, k * 5 + 3, none⟩ = some (.int .i64 x.till) := (hbc 3).trans (hcx 3 (by omega))
      have c4 : wr.cell? ⟨g, k * 5 + 4, none⟩ = some (.int .i64 x.used) := (hbc 4).trans (hcx 4 (by omega))
      have HKX := Lib.hid hkx
      have fg : wr.frozen? ⟨g, k * 5 + 4, none⟩ = false := (hbw.frozen (p := ⟨g, k * 5 + 4, none⟩) (by show g < W1.heap.size; omega)).trans (HF.out (by omega) g rfl _)
      clear hbc hcx hc hkx hbw
      by_cases he : x.obj = o
      · have hn : (x.obj == o) = true := by simpa using he
        have hB3 := HB1.out.below HBW.out HB1.out.lt
        have hR3 := HR1.out.below HBW.out HR1.out.lt
        have d0 : wr.cell? ⟨b, 0, none⟩ = some (.slice (some ⟨g, 0, none⟩) l.length c) := hB3.cell 0
        have d1 : wr.cell? ⟨b, 1, none⟩ = some (.int .i64 (time + 1)) := hB3.cell 1
        have r0 : wr.cell? ⟨w.heap.size, 0, none⟩ = some (.string ⟨#[]⟩) := hR3.cell 0
        have r1 : wr.cell? ⟨w.heap.size, 1, none⟩ = some (.int .i64 0) := hR3.cell 1
        have HE := Lib.hid he
        clear he hB3 hR3
        have hgw : g < wr.heap.size := by omega
        have hbw2 : b < wr.heap.size := by omega
        have hww2 : w.heap.size < wr.heap.size := by omega
        go_upto_region 6 with fail
        go_region
        obtain ⟨W2, hW2⟩ : ∃ W2, W2 = wr.setCell ⟨g, k * 5 + 4, none⟩ (.int .i64 (time + 1)) := ⟨_, rfl⟩
        rw [← hW2]
        have hs2 : W2.heap.size = wr.heap.size := by rw [hW2]; simp [World.setCell]
        obtain ⟨W3, hW3⟩ : ∃ W3, W3 = (W2.alloc (.cells #[.int .i64 x.obj, .string ⟨x.data.toArray⟩, .int .i64 x.ver, .int .i64 x.till, .int .i64 x.used] 124)).drew := ⟨_, rfl⟩
        rw [← hW3]
        have hX3 : Has W3 wr.heap.size (.cells #[.int .i64 x.obj, .string ⟨x.data.toArray⟩, .int .i64 x.ver, .int .i64 x.till, .int .i64 x.used] 124) := by rw [hW3, ← hs2]; exact (Has.new W2 _).drew
        have hR3' : Has W3 w.heap.size (.cells #[.string ⟨#[]⟩, .int .i64 0] 70) := by
          rw [hW3, hW2]
          exact (((HR1.out.below HBW.out HR1.out.lt).far (p := ⟨g, k * 5 + 4, none⟩) (by show w.heap.size ≠ g; omega) _).alloc _).drew
        have n1 : W3.cell? ⟨wr.heap.size, 1, none⟩ = some (.string ⟨x.data.toArray⟩) := hX3.cell 1
        have n2 : W3.cell? ⟨wr.heap.size, 2, none⟩ = some (.int .i64 x.ver) := hX3.cell 2
        have n3 : W3.cell? ⟨wr.heap.size, 3, none⟩ = some (.int .i64 x.till) := hX3.cell 3
        have p0 : W3.cell? ⟨w.heap.size, 0, none⟩ = some (.string ⟨#[]⟩) := hR3'.cell 0
        have p1 : W3.cell? ⟨w.heap.size, 1, none⟩ = some (.int .i64 0) := hR3'.cell 1
        have q0 : W3.frozen? ⟨w.heap.size, 0, none⟩ = false := hR3'.frozen 0
        have q1 : W3.frozen? ⟨w.heap.size, 1, none⟩ = false := hR3'.frozen 1
        have hne1 : wr.heap.size ≠ w.heap.size := by omega
        have HW2 := Lib.hid hW2
        have HW3 := Lib.hid hW3
        have HR3 := Lib.hid hR3'
        clear hW2 hW3 hX3 hR3' d0 d1 r0 r1 c0 c1 c2 c3 c4 fg hs2
        go_upto_region 7 with fail
        go_region
        all_goals
          go_wp2_with fail
          have hW := (HR3.out.set_ 0 (.string ⟨x.data.toArray⟩)).set_ 1 (.int .i64 x.ver)
          obtain ⟨e1, e2⟩ := rget_hit (t := time + 1) HKX.out HE.out HNO.out
          refine bodyPost_ret (rget_results _ _ w.heap.size (.string ⟨x.data.toArray⟩) (.int .i64 x.ver) _ _ rfl rfl rfl hW) rfl ⟨by rw [e2]; rfl, ?_⟩
          rw [e1]
          obtain ⟨g', cap, cur, eg, ho, hh, hnc, hcm, hcs, hcx⟩ := Row.shape HI.out (by omega)
          injection eg with eg1 eg2 eg3
          injection eg1 with eg1
          injection eg1 with eg1
          subst eg1 eg3
          have t3 : Turn (fun k => k = b ∨ own k = T) w W3 := by
            rw [HW3.out, HW2.out]
            exact ((((HT1.out.mono (fun _ _ h => .inl h)).then_below HBW.out (Nat.le_refl _)).setCell (p := ⟨g, k * 5 + 4, none⟩) (.inr (.inr ho)) _).alloc _).drew
          refine ⟨own, .slice (some ⟨g, 0, none⟩) l.length c, Ext.refl _ _, ?_, ?_, ?_⟩
          · exact ((t3.drew).setCell (p := ⟨w.heap.size, 0, none⟩) (.inl (Nat.le_refl _)) _).setCell (p := ⟨w.heap.size, 1, none⟩) (.inl (Nat.le_refl _)) _
          · have h3 : Has W3 b (.cells #[.slice (some ⟨g, 0, none⟩) l.length c, .int .i64 (time + 1)] 68) := by
              rw [HW3.out, HW2.out]
              exact (((HB1.out.below HBW.out HB1.out.lt).far (p := ⟨g, k * 5 + 4, none⟩) (Ne.symm hgb) _).alloc _).drew
            exact ((h3.drew).far (p := ⟨w.heap.size, 0, none⟩) (by show b ≠ w.heap.size; omega) _).far (p := ⟨w.heap.size, 1, none⟩) (by show b ≠ w.heap.size; omega) _
          · have h3 : Has W3 g (.cells (cur.setIfInBounds (k * 5 + 4) (.int .i64 (time + 1))) 124) := by
              rw [HW3.out, HW2.out]
              exact (((((HT1.out.has hh hgb).below HBW.out (by omega)).set_ _ _).alloc _)).drew
            have h4 := ((h3.drew).far (p := ⟨w.heap.size, 0, none⟩) (by show g ≠ w.heap.size; omega) (.string ⟨x.data.toArray⟩)).far (p := ⟨w.heap.size, 1, none⟩) (by show g ≠ w.heap.size; omega) (.int .i64 x.ver)
            unfold RItems
            rw [List.length_set, ← rcells_set l k x (time + 1) HKX.out]
            exact Row.mk ho h4 hnc hcm (by simpa using hcs) (by rw [Array.toList_setIfInBounds, List.take_set, hcx])
      · have hn : (x.obj == o) = false := by simpa using he
        have HE := Lib.hid he
        clear he
        go_wp2_with fail
        go_roundw
        case rel =>
          refine ⟨k + 1, by omega, by go_num, fun y hy => ?_, HBW.out.alloc hsw _⟩
          rw [take_snoc HKX.out] at hy
          rcases List.mem_append.1 hy with hy | hy
          · exact HNO.out y hy
          · obtain rfl := List.mem_singleton.1 hy
            exact HE.out
        case measure => simp [intOf]; omega
    · obtain rfl : k = l.length := by omega
      have hR3 := HR1.out.below HBW.out HR1.out.lt
      have r0 : wr.cell? ⟨w.heap.size, 0, none⟩ = some (.string ⟨#[]⟩) := hR3.cell 0
      have r1 : wr.cell? ⟨w.heap.size, 1, none⟩ = some (.int .i64 0) := hR3.cell 1
      have q0 : wr.frozen? ⟨w.heap.size, 0, none⟩ = false := hR3.frozen 0
      have q1 : wr.frozen? ⟨w.heap.size, 1, none⟩ = false := hR3.frozen 1
      have HR3 := Lib.hid hR3
      clear hR3 hbw
      go_wp2_with fail
      rw [List.take_length] at HNO
      obtain ⟨e1, e2⟩ := rget_miss (t := time + 1) HNO.out
      have hW := (HR3.out.set_ 0 (.string ⟨#[]⟩)).set_ 1 (.int .i64 0)
      refine bodyPost_ret (rget_results _ _ w.heap.size (.string ⟨#[]⟩) (.int .i64 0) _ _ rfl rfl rfl hW) rfl ⟨by rw [e2]; rfl, ?_⟩
      rw [e1]
      have t2 : Turn (fun k => k = b) w ((wr.setCell ⟨w.heap.size, 0, none⟩ (.string ⟨#[]⟩)).setCell ⟨w.heap.size, 1, none⟩ (.int .i64 0)) := ((HT1.out.then_below HBW.out (Nat.le_refl _)).setCell (p := ⟨w.heap.size, 0, none⟩) (.inl (Nat.le_refl _)) _).setCell (p := ⟨w.heap.size, 1, none⟩) (.inl (Nat.le_refl _)) _
      refine ⟨own, .slice a l.length c, Ext.refl _ _, t2.mono (fun _ _ h => .inl h), ?_, ?_⟩
      · exact (((HB1.out.below HBW.out HB1.out.lt).far (p := ⟨w.heap.size, 0, none⟩) (by show b ≠ w.heap.size; omega) _).far (p := ⟨w.heap.size, 1, none⟩) (by show b ≠ w.heap.size; omega) _)
      · exact Row.keep HI.out t2 (Ext.refl _ _) (fun j _ e hS => HOB.out (by rw [← hS]; exact e))
end Go.Proofs.YthldfogmmjompaaDoor.cache
