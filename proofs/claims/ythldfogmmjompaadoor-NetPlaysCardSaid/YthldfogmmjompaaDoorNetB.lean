/-
  Contracts of the walks of package net, on.
-/
import Derived.Test.YthldfogmmjompaaDoorNet
import Derived.Laws.ResultCell
namespace Go.Proofs.YthldfogmmjompaaDoor.net
open Go.RowKit Go.Proofs.YthldfogmmjompaaDoor.heap Go.Proofs.YthldfogmmjompaaDoor.own Go.Proofs.YthldfogmmjompaaDoor.wire

theorem Many_any (b o : Nat) (a : Option Addr) (n c : Nat) (w : World) (h : w.cell? ⟨b, o, none⟩ = some (.slice a n c)) :
    Calls Tryd.prog 26 #[.pointer (some ⟨b, o, none⟩)] w fun e w' => e = .returned (.int .i64 n) ∧ w = w' := by
  go_enter Tryd.func26, Tryd.ntmps26
  go_wp2
  go_ret
  exact ⟨rfl, rfl⟩
theorem Lost_any (b o : Nat) (n : Int) (w : World) (h : w.cell? ⟨b, o + 1, none⟩ = some (.int .i64 n)) :
    Calls Tryd.prog 27 #[.pointer (some ⟨b, o, none⟩)] w fun e w' => e = .returned (.int .i64 n) ∧ w = w' := by
  go_enter Tryd.func27, Tryd.ntmps27
  go_wp2
  go_ret
  exact ⟨rfl, rfl⟩

theorem gcells_get (ps : List (Dg × Value)) (k : Nat) (p : Dg × Value) (h : ps[k]? = some p) : (gcells ps)[k * 2]? = some (.int .i64 p.1.1) ∧ (gcells ps)[k * 2 + 1]? = some p.2 := by
  induction ps generalizing k with
  | nil => simp at h
  | cons q ps ih =>
    cases k with
    | zero =>
      obtain rfl : q = p := by simpa using h
      simp [gcells]
    | succ k =>
      have := ih k (by simpa using h)
      simp only [gcells, List.flatMap_cons] at this ⊢
      rw [List.getElem?_append_right (by simp; omega), List.getElem?_append_right (by simp; omega)]
      simpa [Nat.succ_mul] using this

theorem Take_no (b o : Nat) (a : Option Addr) (n c : Nat) (k : Int) (w : World) (h : w.cell? ⟨b, o, none⟩ = some (.slice a n c)) (hk : ¬ (0 ≤ k ∧ k < n)) :
    Calls Tryd.prog 23 #[.pointer (some ⟨b, o, none⟩), .int .i64 k] w fun e w' => e = .returned (.tuple #[.agg #[.int .i64 0, .slice none 0 0], .iface 22 (.int .i64 2)]) ∧ Below w.heap.size w w' := by
  have hlt := cell_lt h
  by_cases h0 : k < 0
  · have d0 : decide (k < 0) = true := by simpa using h0
    go_enter Tryd.func23, Tryd.ntmps23
    go_wp2
    exact bodyPost_ret (v := .tuple #[.agg #[.int .i64 0, .slice none 0 0], .iface 22 (.int .i64 2)]) (by simp [results, Tryd.results23, go_sem]) rfl ⟨rfl, (Below.refl _ _).alloc (Nat.le_refl _) _⟩
  · have d0 : decide (k < 0) = false := by simpa using h0
    have d1 : (n : Int) ≤ k := by omega
    go_enter Tryd.func23, Tryd.ntmps23
    go_wp2
    exact bodyPost_ret (v := .tuple #[.agg #[.int .i64 0, .slice none 0 0], .iface 22 (.int .i64 2)]) (by simp [results, Tryd.results23, go_sem]) rfl ⟨rfl, (Below.refl _ _).alloc (Nat.le_refl _) _⟩

theorem take_results (tmps : Array Value) (W : World) (g : Nat) (to : Int) (u : Value) (h2 : tmps.getD 4 undef = .pointer (some ⟨g, 0, none⟩)) (h3 : tmps.getD 5 undef = .nilIface)
    (hg : Has W g (.cells #[.int .i64 to, u] 51)) : (results Tryd.f23 tmps).run Tryd.prog W = .ok (.tuple #[.agg #[.int .i64 to, u], .nilIface]) W := by
  rw [results_cell_tmp Tryd.results23, h2, h3]
  have hi : (Tryd.prog.info? 51).map (·.size) = some (#[Value.int .i64 to, u] : Array Value).size := by kernel_rfl
  have := run_loadVar_row (P := Tryd.prog) W g 51 51 _ (0, 0) _ hg Tryd.underlying51 rfl hi
  simp [asAddr, Result.andThen, this]

theorem nodup_erase {α β : Type} (f : α → Option β) (l : List α) (k : Nat) (h : (l.filterMap f).Nodup) : ((l.eraseIdx k).filterMap f).Nodup :=
  h.sublist ((List.eraseIdx_sublist l k).filterMap f)

theorem erase_map {α β : Type} (f : α → β) (l : List α) (k : Nat) : (l.eraseIdx k).map f = (l.map f).eraseIdx k := by
  rw [List.eraseIdx_eq_take_drop_succ, List.eraseIdx_eq_take_drop_succ, List.map_append, List.map_take, List.map_drop]

theorem take_done {own : Nat → Nat} {T b o k g cap : Nat} {cs : Array Value} {t : TypeId} {l : List Dg} {bs : List UInt8} {to : Int} {au : Option Addr} {nu cu : Nat} {ag : Option Addr} {ng cg : Nat} {w w2 : World} {x0 x1 x2 x3 : Value} {ps : List (Dg × Value)}
    (hb : own b ≠ T) (hb1 : own b ≠ T + 1) (hlt : b < w.heap.size) (hB : Has w b (.cells cs t)) (hps : ps.map (·.1) = l) (hrow : Row own T w 51 2 (.slice (some ⟨g, 0, none⟩) l.length cap) l.length (gcells ps))
    (hbytes : ∀ p ∈ ps, Row own (T + 1) w 5 1 p.2 p.1.2.length (p.1.2.map B)) (hnd : (ps.filterMap (·.2.ownBlock)).Nodup) (hp : ps[k]? = some ((to, bs), .slice au nu cu)) (hpr : Row own (T + 1) w 5 1 (.slice au nu cu) bs.length (bs.map B))
    (ht2 : Turn (fun g' => (Value.slice (some ⟨g, 0, none⟩) l.length cap).ownBlock = some g') ((w.alloc (.cells #[x0, x1] 51)).alloc (.cells #[x2, x3] 51)) w2)
    (hv : (Value.slice ag ng cg).ownBlock = (Value.slice (some ⟨g, 0, none⟩) l.length cap).ownBlock) (hr2 : Row own T w2 51 2 (.slice ag ng cg) (l.length - 1) (cut 2 k (gcells ps))) (hB2 : Has w2 b (.cells cs t)) {y0 y1 : Value} :
    Turn (fun k => k = b ∨ own k = T) w (((w2.setCell ⟨b, o, none⟩ (.slice ag ng cg)).setCell ⟨w.heap.size, 0, none⟩ y0).setCell ⟨w.heap.size, 1, none⟩ y1) ∧
      Has (((w2.setCell ⟨b, o, none⟩ (.slice ag ng cg)).setCell ⟨w.heap.size, 0, none⟩ y0).setCell ⟨w.heap.size, 1, none⟩ y1) b (.cells (cs.setIfInBounds o (.slice ag ng cg)) t) ∧
      Grams own T (((w2.setCell ⟨b, o, none⟩ (.slice ag ng cg)).setCell ⟨w.heap.size, 0, none⟩ y0).setCell ⟨w.heap.size, 1, none⟩ y1) (.slice ag ng cg) (l.eraseIdx k) ∧
      Row own (T + 1) (((w2.setCell ⟨b, o, none⟩ (.slice ag ng cg)).setCell ⟨w.heap.size, 0, none⟩ y0).setCell ⟨w.heap.size, 1, none⟩ y1) 5 1 (.slice au nu cu) bs.length (bs.map B) := by
  have hgT : own g = T := hrow.2 g rfl
  have hglt : g < w.heap.size := hrow.lt g rfl
  have hT : Turn (fun k => k = b ∨ own k = T) w (((w2.setCell ⟨b, o, none⟩ (.slice ag ng cg)).setCell ⟨w.heap.size, 0, none⟩ y0).setCell ⟨w.heap.size, 1, none⟩ y1) := by
    have h1 : Turn (fun k => k = b ∨ own k = T) w w2 := (((Turn.refl _ w).alloc _).alloc _).trans ht2 (fun k hk e => .inr (by
      have : g = k := by simpa [Value.ownBlock] using e
      rw [← this]; exact hgT))
    exact ((h1.setCell (p := ⟨b, o, none⟩) (.inr (.inl rfl)) _).setCell (p := ⟨w.heap.size, 0, none⟩) (.inl (Nat.le_refl _)) _).setCell (p := ⟨w.heap.size, 1, none⟩) (.inl (Nat.le_refl _)) _
  have hby : ∀ {v : Value} {n : Nat} {xs : List Value}, Row own (T + 1) w 5 1 v n xs → Row own (T + 1) (((w2.setCell ⟨b, o, none⟩ (.slice ag ng cg)).setCell ⟨w.heap.size, 0, none⟩ y0).setCell ⟨w.heap.size, 1, none⟩ y1) 5 1 v n xs := fun h =>
    h.keep hT (Ext.refl _ _) (fun k _ e h => by
      rcases h with rfl | h
      · exact hb1 e
      · omega)
  refine ⟨hT, ?_, ⟨ps.eraseIdx k, ?_, ?_, fun p hp => hby (hbytes p (List.mem_of_mem_eraseIdx hp)), nodup_erase _ _ _ hnd⟩, hby hpr⟩
  · exact ((hB2.set_ o _).far (p := ⟨w.heap.size, 0, none⟩) (by simp; omega) _).far (p := ⟨w.heap.size, 1, none⟩) (by simp; omega) _
  · rw [erase_map, hps]
  · have e1 : (l.eraseIdx k).length = l.length - 1 := List.length_eraseIdx_of_lt (by rw [← hps, List.length_map]; exact (List.getElem?_eq_some_iff.1 hp).1)
    have e2 : cut 2 k (gcells ps) = gcells (ps.eraseIdx k) := cut_flat 2 k _ (fun _ => rfl) ps
    rw [e1, ← e2]
    refine ⟨row_kept hr2.1 fun k' hk' => ?_, hr2.2⟩
    rw [hv] at hk'
    have : g = k' := by simpa [Value.ownBlock] using hk'
    subst this
    have hgb : g ≠ b := by rintro rfl; exact hb hgT
    rw [Below.heap_setCell _ _ _ _ (by simp; omega), Below.heap_setCell _ _ _ _ (by simp; omega), Below.heap_setCell _ _ _ _ hgb]

theorem Take_yes (own : Nat → Nat) (T b o : Nat) (cs : Array Value) (t : TypeId) (v : Value) (l : List Dg) (k : Nat) (w : World)
    (hB : Has w b (.cells cs t)) (c0 : cs[o]? = some v) (hb : own b ≠ T) (hb1 : own b ≠ T + 1) (hg : Grams own T w v l) (hk : k < l.length) :
    Calls Tryd.prog 23 #[.pointer (some ⟨b, o, none⟩), .int .i64 k] w fun e w' => ∃ (u : Value) (to : Int) (bs : List UInt8) (v' : Value), e = .returned (.tuple #[.agg #[.int .i64 to, u], .nilIface]) ∧ l[k]? = some (to, bs) ∧
      Turn (fun k => k = b ∨ own k = T) w w' ∧ Has w' b (.cells (cs.setIfInBounds o v') t) ∧ Grams own T w' v' (l.eraseIdx k) ∧ Row own (T + 1) w' 5 1 u bs.length (bs.map B) := by
  obtain ⟨ps, hps, hrow, hbytes, hnd⟩ := hg
  obtain ⟨g, cap, cur, rfl, ho, hh, hnc, hcm, hcs, hcx⟩ := hrow.shape (by omega)
  have k0 : w.cell? ⟨b, o, none⟩ = some _ := (hB.cell o).trans c0
  have hlt := hB.lt
  have hglt := hh.lt
  have hgb : g ≠ b := by rintro rfl; exact hb ho
  obtain ⟨p, hp⟩ : ∃ p, ps[k]? = some p := ⟨_, List.getElem?_eq_getElem (by rw [← hps] at hk; simpa using hk)⟩
  obtain ⟨q0, q1⟩ := gcells_get ps k p hp
  have r0 := (row_cell hh hcx (k * 2) (by omega)).1.trans q0
  have r1 := (row_cell hh hcx (k * 2 + 1) (by omega)).1.trans q1
  have hpr := hbytes p (List.mem_of_getElem? hp)
  obtain ⟨⟨to, bs⟩, u⟩ := p
  simp only at r0 r1 hpr
  obtain ⟨au, nu, cu, rfl⟩ := owns_any hpr.1
  have HLK : Hid (l[k]? = some (to, bs)) := by rw [Hid, ← hps, List.getElem?_map, hp]; rfl
  have HC0 := Lib.hid c0
  have HB := Lib.hid hB
  have HPS := Lib.hid hps
  have HROW := Lib.hid hrow
  have HBY := Lib.hid hbytes
  have HND := Lib.hid hnd
  have HP := Lib.hid hp
  have HPR := Lib.hid hpr
  have HO := Lib.hid ho
  have hl0 : (k : Int) < l.length := by omega
  unfold maxLen at hcm
  have hl9 : l.length ≤ 9223372036854775807 := by omega
  have HK := Lib.hid hk
  have HR0 : Hid (Row own T ((w.alloc (.cells #[.int .i64 0, .slice none 0 0] 51)).alloc (.cells #[.int .i64 to, .slice au nu cu] 51)) 51 2 (.slice (some ⟨g, 0, none⟩) l.length cap) l.length (gcells ps)) := hrow.below (((Below.refl _ _).alloc (Nat.le_refl _) _).alloc (by simp) _)
  clear c0 hB hps hrow hbytes hnd hp hpr ho hh hcs hcx q0 q1 hcm hnc
  go_enter Tryd.func23, Tryd.ntmps23
  go_wp2_with fail
  refine (DelGram_any own T _ l.length k (gcells ps) _ HR0.out HK.out (gcells_one HBY.out)).mono ?_
  rintro e w2 ⟨v', rfl, hv', hrow2, ht2⟩
  obtain ⟨ag, ng, cg, rfl⟩ := owns_any hrow2.1
  have hS : ∀ k, k ≠ g → ¬ ((Value.slice (some ⟨g, 0, none⟩) l.length cap).ownBlock = some k) := fun k hk e => hk (by simpa [Value.ownBlock] using e.symm)
  have hz : w.heap.size + 2 ≤ w2.heap.size := by have := ht2.size; simpa using this
  have hR2 : Has w2 w.heap.size (.cells #[.int .i64 0, .slice none 0 0] 51) := ht2.has ((Has.new w _).alloc _) (hS _ (by omega))
  have hX2 : Has w2 (w.heap.size + 1) (.cells #[.int .i64 to, .slice au nu cu] 51) := by
    refine ht2.has ?_ (hS _ (by omega))
    have := Has.new (w.alloc (.cells #[.int .i64 0, .slice none 0 0] 51)) (.cells #[.int .i64 to, .slice au nu cu] 51)
    rwa [World.size_alloc] at this
  have hB2 : Has w2 b (.cells cs t) := ht2.has ((HB.out.alloc _).alloc _) (hS _ (Ne.symm hgb))
  have d0 : w2.cell? ⟨w.heap.size, 0, none⟩ = some (.int .i64 0) := hR2.cell 0
  have d1 : w2.cell? ⟨w.heap.size, 1, none⟩ = some (.slice none 0 0) := hR2.cell 1
  have e0 : w2.frozen? ⟨w.heap.size, 0, none⟩ = false := hR2.frozen 0
  have e1 : w2.frozen? ⟨w.heap.size, 1, none⟩ = false := hR2.frozen 1
  have d2 : w2.cell? ⟨w.heap.size + 1, 0, none⟩ = some (.int .i64 to) := hX2.cell 0
  have d3 : w2.cell? ⟨w.heap.size + 1, 1, none⟩ = some (.slice au nu cu) := hX2.cell 1
  have d4 : w2.cell? ⟨b, o, none⟩ = some (.slice (some ⟨g, 0, none⟩) l.length cap) := (hB2.cell o).trans HC0.out
  have e4 : w2.frozen? ⟨b, o, none⟩ = false := hB2.frozen o
  have hbz : b ≠ w.heap.size := by omega
  have hbz1 : b ≠ w.heap.size + 1 := by omega
  have HV := Lib.hid hv'
  have HRes := Lib.hid hR2
  have HR2 := Lib.hid hrow2
  have HT2 := Lib.hid ht2
  have HB2 := Lib.hid hB2
  clear hv' hrow2 ht2 hB2 hR2 hX2 hS
  go_wp2
  have hW : Has (((w2.setCell ⟨b, o, none⟩ (.slice ag ng cg)).setCell ⟨w.heap.size, 0, none⟩ (.int .i64 to)).setCell ⟨w.heap.size, 1, none⟩ (.slice au nu cu)) w.heap.size (.cells #[.int .i64 to, .slice au nu cu] 51) :=
    ((HRes.out.far (p := ⟨b, o, none⟩) (Ne.symm hbz) _).set_ 0 _).set_ 1 _
  refine bodyPost_ret (take_results _ _ w.heap.size to (.slice au nu cu) rfl rfl hW) rfl ⟨.slice au nu cu, to, bs, .slice ag ng cg, rfl, HLK.out, ?_⟩
  exact take_done hb hb1 hlt HB.out HPS.out HROW.out HBY.out HND.out HP.out HPR.out HT2.out HV.out HR2.out HB2.out
end Go.Proofs.YthldfogmmjompaaDoor.net
