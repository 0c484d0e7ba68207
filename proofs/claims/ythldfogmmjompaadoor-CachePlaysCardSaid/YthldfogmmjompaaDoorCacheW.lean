/-
  The walk of the law CachePlays.
-/
import Derived.Test.YthldfogmmjompaaDoorCacheL
import Derived.Test.YthldfogmmjompaaDoorCacheArg
import Derived.Test.YthldfogmmjompaaDoorBare
import Derived.BigQuiet
import Derived.Deep.QuietTactic
import Derived.Deep.LoopGhost
import Derived.Deep.DeepCutAuto
import Derived.Deep.CutBlock
namespace Go.Proofs.YthldfogmmjompaaDoor.cache
open Go.RowKit Go.Proofs.YthldfogmmjompaaDoor.heap Go.Proofs.YthldfogmmjompaaDoor.own Go.Proofs.YthldfogmmjompaaDoor.errs

/-- What the law holds: the cache (block bn), the reference's (bn + 1), alike. -/
structure CAt (own : Nat → Nat) (bn : Nat) (w : World) (c : List It) (l s : List RIt) (time : Int) (v u : Value) : Prop where
  c_ : Has w bn (.cells #[v] 64)
  r_ : Has w (bn + 1) (.cells #[u, .int .i64 time] 68)
  gc : Items own 1 w v c
  gr : RItems own 3 w u l
  o0 : own bn = 0
  o1 : own (bn + 1) = 0
  al : Alike c l s time
  len : c.length ≤ 6
  t0 : 0 ≤ time

theorem CAt.step {own own' : Nat → Nat} {bn : Nat} {w w' : World} {c : List It} {l s : List RIt} {time : Int} {v u : Value} (h : CAt own bn w c l s time v u) (hb : Below w.heap.size w w') (he : Ext w own own') : CAt own' bn w' c l s time v u :=
  ⟨h.c_.below hb h.c_.lt, h.r_.below hb h.r_.lt, Row.keep (S := fun _ => False) h.gc (Turn.of_below hb (Nat.le_refl _)) he (fun _ _ _ h => h), Row.keep (S := fun _ => False) h.gr (Turn.of_below hb (Nat.le_refl _)) he (fun _ _ _ h => h), (he _ h.c_.lt).trans h.o0, (he _ h.r_.lt).trans h.o1, h.al, h.len, h.t0⟩

/-- What stands behind a round's switch. -/
def CDone (w : World) (k : Nat) (wc : World) : Prop :=
  ∃ (own : Nat → Nat) (c : List It) (l s : List RIt) (time : Int) (v u : Value), CAt own w.heap.size wc c l s time v u ∧ time ≤ k ∧ Below w.heap.size w wc ∧ (∀ j, j < w.heap.size → own j = 0)
def CRel (w : World) (n g : Nat) (i : Value) (wr : World) : Prop := ∃ k : Nat, k + g = n ∧ i = .int .i64 k ∧ CDone w k wr

theorem below_turn {w W1 W2 : World} {S : Nat → Prop} (hbw : Below w.heap.size w W1) (ht : Turn S W1 W2) (hs : ∀ k, k < w.heap.size → ¬ S k) : Below w.heap.size w W2 :=
  hbw.trans (ht.to_below hbw.size hs)

/-- The cache turns first, then the reference's. -/
theorem both {own own2 : Nat → Nat} {v2 : Value} {w W1 W2 W3 : World} {c c' : List It} {l l' s s' : List RIt} {time time' : Int} {v u : Value} {k : Nat} (h : CAt own w.heap.size W1 c l s time v u) (hbw : Below w.heap.size w W1) (ho : ∀ j, j < w.heap.size → own j = 0)
    (e2 : Ext W1 own own2) (t2 : Turn (fun k => k = w.heap.size ∨ own k = 1) W1 W2) (b2 : Has W2 w.heap.size (.cells #[v2] 64)) (i2 : Items own2 1 W2 v2 c') (h3 : RPost own2 3 (w.heap.size + 1) time' l' W2 W3)
    (ha : Alike c' l' s' time') (hl : c'.length ≤ 6) (h0 : 0 ≤ time') (hk : time' ≤ k) : CDone w k W3 := by
  have hs2 := t2.size
  have r2 := t2.has h.r_ (fun hS => by have := h.o1; rcases hS with hS | hS <;> omega)
  have o2 := e2 _ h.c_.lt
  rw [h.o0] at o2
  have o2' := e2 _ h.r_.lt
  rw [h.o1] at o2'
  obtain ⟨own3, u3, e3, t3, b3, i3⟩ := h3
  have ho2 : ∀ j, j < w.heap.size → own2 j = 0 := fun j hj => (e2 j (Nat.lt_of_lt_of_le hj hbw.size)).trans (ho j hj)
  have hb2 := below_turn hbw t2 (fun j hj hS => by have := ho j hj; rcases hS with hS | hS <;> omega)
  have o3 := e3 _ (Nat.lt_of_lt_of_le h.c_.lt hs2)
  have o3' := e3 _ r2.lt
  refine ⟨own3, c', l', s', time', v2, u3, ⟨t3.has b2 (fun hS => by rcases hS with hS | hS <;> omega), b3, ?_, i3, o3.trans o2, o3'.trans o2', ha, hl, h0⟩, hk, below_turn hb2 t3 (fun j hj hS => by have := ho2 j hj; rcases hS with hS | hS <;> omega), fun j hj => (e3 j (Nat.lt_of_lt_of_le hj hb2.size)).trans (ho2 j hj)⟩
  exact Row.keep i2 t3 e3 (fun j _ e hS => by rcases hS with rfl | hS <;> omega)

theorem CDone.below {w W W' : World} {k : Nat} (h : CDone w k W) (hb : Below W.heap.size W W') : CDone w k W' := by
  obtain ⟨own, c, l, s, time, v, u, h1, h2, h3, h4⟩ := h
  exact ⟨own, c, l, s, time, v, u, h1.step hb (Ext.refl _ _), h2, h3.trans (hb.mono h3.size), h4⟩

/-- The reference's turns alone. -/
theorem refOnly {own own2 : Nat → Nat} {w W1 W2 : World} {c : List It} {l l' s s' : List RIt} {time time' : Int} {v u u2 : Value} {k : Nat} (h : CAt own w.heap.size W1 c l s time v u) (hbw : Below w.heap.size w W1) (ho : ∀ j, j < w.heap.size → own j = 0)
    (e2 : Ext W1 own own2) (t2 : Turn (fun k => k = w.heap.size + 1 ∨ own k = 3) W1 W2) (b2 : Has W2 (w.heap.size + 1) (.cells #[u2, .int .i64 time'] 68)) (i2 : RItems own2 3 W2 u2 l')
    (ha : Alike c l' s' time') (h0 : 0 ≤ time') (hk : time' ≤ k) : CDone w k W2 :=
  ⟨own2, c, l', s', time', v, u2, ⟨t2.has h.c_ (fun hS => by have := h.o0; rcases hS with hS | hS <;> omega), b2, Row.keep h.gc t2 e2 (fun j _ e hS => by have := h.o1; rcases hS with rfl | hS <;> omega), i2, (e2 _ h.c_.lt).trans h.o0, (e2 _ h.r_.lt).trans h.o1, ha, h.len, h0⟩, hk,
   below_turn hbw t2 (fun j hj hS => by have := ho j hj; rcases hS with hS | hS <;> omega), fun j hj => (e2 j (Nat.lt_of_lt_of_le hj hbw.size)).trans (ho j hj)⟩

/-- The reference's turns first, then the cache. -/
theorem both_r {own own2 : Nat → Nat} {w W1 W2 W3 W4 : World} {c c' : List It} {l l' s s' : List RIt} {time time' : Int} {v u u2 : Value} {k : Nat} (h : CAt own w.heap.size W1 c l s time v u) (hbw : Below w.heap.size w W1) (ho : ∀ j, j < w.heap.size → own j = 0)
    (e2 : Ext W1 own own2) (t2 : Turn (fun k => k = w.heap.size + 1 ∨ own k = 3) W1 W2) (b2 : Has W2 (w.heap.size + 1) (.cells #[u2, .int .i64 time'] 68)) (i2 : RItems own2 3 W2 u2 l')
    (hb3 : Below W2.heap.size W2 W3) (h4 : CachePost (newOwn own2 W2 0) 1 w.heap.size 0 #[v] 64 c' W3 W4)
    (ha : Alike c' l' s' time') (hl : c'.length ≤ 6) (h0 : 0 ≤ time') (hk : time' ≤ k) : CDone w k W4 := by
  have hs2 := t2.size
  have hc := h.c_.lt
  have hr := h.r_.lt
  have o0 := (e2 _ hc).trans h.o0
  have o1 := (e2 _ hr).trans h.o1
  have n0 : newOwn own2 W2 0 w.heap.size = 0 := by rw [new_old (by omega)]; exact o0
  have n1 : newOwn own2 W2 0 (w.heap.size + 1) = 0 := by rw [new_old (by omega)]; exact o1
  have g3 : RItems (newOwn own2 W2 0) 3 W3 u2 l' := Row.keep (S := fun _ => False) i2 (Turn.of_below hb3 (Nat.le_refl _)) (Ext.new _ _ _) (fun _ _ _ h => h)
  have r3 := b2.below hb3 b2.lt
  obtain ⟨own4, v4, e4, t4, b4, i4⟩ := h4
  have hb2 : Below w.heap.size w W2 := below_turn hbw t2 (fun j hj hS => by have := ho j hj; rcases hS with hS | hS <;> omega)
  have hbw3 : Below w.heap.size w W3 := hb2.trans (hb3.mono hb2.size)
  have hz : ∀ j, j < w.heap.size → newOwn own2 W2 0 j = 0 := fun j hj => by
    rw [new_old (Nat.lt_of_lt_of_le hj hb2.size), e2 j (Nat.lt_of_lt_of_le hj hbw.size)]
    exact ho j hj
  have hs3 := hb3.size
  refine ⟨own4, c', l', s', time', v4, u2, ⟨b4, t4.has r3 (fun hS => by rcases hS with hS | hS <;> omega), i4, Row.keep g3 t4 e4 (fun j _ e hS => by rcases hS with rfl | hS <;> omega), (e4 _ (by omega)).trans n0, (e4 _ (by omega)).trans n1, ha, hl, h0⟩, hk, below_turn hbw3 t4 (fun j hj hS => by have := hz j hj; rcases hS with hS | hS <;> omega), fun j hj => (e4 j (Nat.lt_of_lt_of_le hj hbw3.size)).trans (hz j hj)⟩

theorem Alike.later {c : List It} {l s : List RIt} {time : Int} (h : Alike c l s time) : Alike c l s (time + 1) := ⟨h.perm, h.eq, h.sorted, h.low, fun x hx => by have := h.high x hx; omega, h.objs⟩

set_option maxHeartbeats 4000000 in
set_option maxRecDepth 100000 in
theorem walkC (a : Option Addr) (n cap : Nat) (us : List Us) (w : World) (hst : UsAt w a n us) (hn : n ≤ 9223372036854775807) (hg : Handle w) :
    Calls Tryd.prog 7 #[.slice a n cap] w fun e w' => e = .returned (.bool true) ∧ Below w.heap.size w w' := by
  by_cases h150 : 150 < n
  · go_enter Tryd.func7, Tryd.ntmps7
    go_wp2_with fail
    go_ret
    exact ⟨rfl, Below.refl _ _⟩
  · have HST := Lib.hid hst
    have HG := Lib.hid hg
    clear hst hg
    go_enter Tryd.func7, Tryd.ntmps7
    go_wp2_with fail
    go_loopg [5, 6, 7, 8, 9, 10, 11, 12] n (fun g i _ _ _ _ _ _ _ wr => CRel w n g i wr)
    case atStart =>
      refine ⟨0, by omega, rfl, fun _ => 0, [], [], [], 0, .slice none 0 0, .slice none 0 0, ⟨?_, ?_, Row.nil _ _ _ _ _, Row.nil _ _ _ _ _, rfl, rfl, Alike.empty 0, by simp, by omega⟩, by omega, ?_, fun _ _ => rfl⟩
      · exact (Has.new w _).alloc _
      · have h := Has.new (w.alloc (.cells #[.slice none 0 0] 64)) (.cells #[.slice none 0 0, .int .i64 0] 68)
        rwa [World.size_alloc] at h
      · exact ((Below.refl _ _).alloc (Nat.le_refl _) _).alloc (by simp) _
    case round =>
      obtain ⟨k, hkg, rfl, own, c, l, s, time, v, u, hL, htk, hbw, hown⟩ := hrel
      have HL := Lib.hid hL
      have HBW := Lib.hid hbw
      have HOWN := Lib.hid hown
      have hlt0 : w.heap.size < wr.heap.size := hL.c_.lt
      have hlt1 : w.heap.size + 1 < wr.heap.size := hL.r_.lt
      clear hL hbw hown
      by_cases hk : k < n
      · obtain ⟨x, hx⟩ : ∃ x, us[k]? = some x := ⟨_, List.getElem?_eq_getElem (by rw [HST.out.1]; exact hk)⟩
        obtain ⟨b, o, rfl, hbl, -⟩ := HST.out.2 (by omega)
        obtain ⟨q0, q1, q2, q3, q4⟩ := HST.out.below HBW.out b o k x (by omega) rfl hx
        obtain ⟨what, obj, till, data, ver⟩ := x
        simp only at q0 q1 q2 q3 q4
        have hbl2 : b < wr.heap.size := Nat.lt_of_lt_of_le hbl HBW.out.size
        clear hx
        go_upto_block 2 with fail
        obtain ⟨W1, hW1⟩ : ∃ W1, W1 = wr.alloc (.cells #[.int .i64 what, .int .i64 obj, .int .i64 till, .string ⟨data.toArray⟩, .int .i64 ver] 72) := ⟨_, rfl⟩
        rw [← hW1]
        have hbw1 : Below wr.heap.size wr W1 := by rw [hW1]; exact (Below.refl _ _).alloc (Nat.le_refl _) _
        have HL1 := Lib.hid (HL.out.step (own' := newOwn own wr 0) hbw1 (Ext.new _ _ _))
        have HX0 : Hid (∀ j, wr.heap.size ≤ j → newOwn own wr 0 j = 0) := fun j hj => new_new hj
        have HOWN1 : Hid (∀ j, j < w.heap.size → newOwn own wr 0 j = 0) := fun j hj => (new_old (Nat.lt_of_lt_of_le hj HBW.out.size)).trans (HOWN.out j hj)
        generalize newOwn own wr 0 = own1 at HL1 HX0 HOWN1
        have HX1 : Hid (Has W1 wr.heap.size (.cells #[.int .i64 what, .int .i64 obj, .int .i64 till, .string ⟨data.toArray⟩, .int .i64 ver] 72)) := by rw [hW1]; exact Has.new _ _
        have HBW1 := Lib.hid (HBW.out.trans (hbw1.mono HBW.out.size))
        have hs1 : W1.heap.size = wr.heap.size + 1 := by rw [hW1]; simp
        have x0 : W1.cell? ⟨wr.heap.size, 0, none⟩ = some (.int .i64 what) := HX1.out.cell 0
        have x1 : W1.cell? ⟨wr.heap.size, 1, none⟩ = some (.int .i64 obj) := HX1.out.cell 1
        have x2 : W1.cell? ⟨wr.heap.size, 2, none⟩ = some (.int .i64 till) := HX1.out.cell 2
        have x3 : W1.cell? ⟨wr.heap.size, 3, none⟩ = some (.string ⟨data.toArray⟩) := HX1.out.cell 3
        have x4 : W1.cell? ⟨wr.heap.size, 4, none⟩ = some (.int .i64 ver) := HX1.out.cell 4
        have HS1 := Lib.hid hs1
        clear hW1 hbw1 q0 q1 q2 q3 q4 hs1
        go_cut [6, 7, 8, 9, 10, 11, 12] (fun _ _ _ _ _ _ _ wx => CDone w (k + 1) wx)
        case first =>
          by_cases w0 : what = 0
          · subst w0
            go_wp2_with fail
            refine (Put_any own1 1 w.heap.size 0 #[v] _ v c ⟨obj, data, ver, till⟩ W1 HL1.out.c_ rfl (by rw [HL1.out.o0]; omega) HL1.out.gc HL1.out.len).mono ?_
            rintro e W2 ⟨rfl, own2, v2, e2, t2, b2, i2⟩
            have hX2 := t2.has HX1.out (fun h => by have := HX0.out _ (Nat.le_refl wr.heap.size); rcases h with h | h <;> omega)
            have y1 : W2.cell? ⟨wr.heap.size, 1, none⟩ = some (.int .i64 obj) := hX2.cell 1
            have y2 : W2.cell? ⟨wr.heap.size, 2, none⟩ = some (.int .i64 till) := hX2.cell 2
            have y3 : W2.cell? ⟨wr.heap.size, 3, none⟩ = some (.string ⟨data.toArray⟩) := hX2.cell 3
            have y4 : W2.cell? ⟨wr.heap.size, 4, none⟩ = some (.int .i64 ver) := hX2.cell 4
            have r2 := t2.has HL1.out.r_ (fun hS => by have := HL1.out.o1; rcases hS with hS | hS <;> omega)
            have o2' := e2 _ HL1.out.r_.lt
            rw [HL1.out.o1] at o2'
            have g2 : RItems own2 3 W2 u l := Row.keep HL1.out.gr t2 e2 (fun j _ e hS => by have := HL1.out.o0; rcases hS with rfl | hS <;> omega)
            have hll := HL1.out.al.len
            have hcl := HL1.out.len
            have R2 := Lib.hid r2
            have HE2 := Lib.hid e2
            have HT2 := Lib.hid t2
            have HB2 := Lib.hid b2
            have HI2 := Lib.hid i2
            have HO2 := Lib.hid o2'
            have HG2 := Lib.hid g2
            have hll9 : l.length ≤ 6 := by omega
            clear e2 t2 b2 i2 hX2 r2 o2' g2 hll hcl
            obtain ⟨s', ha, hl6⟩ := HL1.out.al.put ⟨obj, data, ver, till, time + 1⟩ rfl HL1.out.t0 (by omega) HL1.out.len
            have HA := Lib.hid (And.intro ha hl6)
            clear ha hl6
            go_wp2_with fail
            refine (RPut_any own2 3 (w.heap.size + 1) time u l ⟨obj, data, ver, till, time + 1⟩ W2 R2.out (by rw [HO2.out]; omega) HG2.out (by omega) HL1.out.t0 (by omega) rfl).mono ?_
            rintro e W3 ⟨rfl, h3⟩
            have H3 := Lib.hid h3
            clear h3
            go_wp2_with fail
            go_meet
            case rel => exact both HL1.out HBW1.out HOWN1.out HE2.out HT2.out HB2.out HI2.out H3.out HA.out.1 HA.out.2 (by have := HL1.out.t0; omega) (by omega)
          · have wb0 : (what == 0) = false := by simpa using w0
            by_cases w1 : what = 1
            · subst w1
              rcases find_cases c obj with hfind | hfind
              · obtain ⟨kk, y, hky, hyo, hfk, hkl, -, -⟩ := hfind
                obtain ⟨s', ha, hr⟩ := HL1.out.al.get hky hyo HL1.out.t0
                have hll := HL1.out.al.len
                have hcl := HL1.out.len
                have RG := RGet_any own1 3 (w.heap.size + 1) time u l obj W1 HL1.out.r_ (by rw [HL1.out.o1]; omega) HL1.out.gr (by omega) HL1.out.t0 (by omega)
                rw [hr] at RG
                have HKY := Lib.hid hky
                have HFK := Lib.hid hfk
                have HA := Lib.hid ha
                clear hr hky hyo hfk ha
                have RG' := Lib.hid RG
                clear RG hll hcl
                go_wp2_with fail
                refine RG'.out.mono ?_
                rintro e W2 ⟨rfl, own2, u2, e2, t2, b2, i2⟩
                have hX2 := t2.has HX1.out (fun h => by have := HX0.out _ (Nat.le_refl wr.heap.size); rcases h with h | h <;> omega)
                have hs2 : wr.heap.size < W2.heap.size := hX2.lt
                have y1 : W2.cell? ⟨wr.heap.size, 1, none⟩ = some (.int .i64 obj) := hX2.cell 1
                have y1a := alloc_cell y1
                have hc2 := t2.has HL1.out.c_ (fun hS => by have := HL1.out.o0; rcases hS with hS | hS <;> omega)
                have o2 := e2 _ HL1.out.c_.lt
                rw [HL1.out.o0] at o2
                have g2 : Items own2 1 W2 v c := Row.keep HL1.out.gc t2 e2 (fun j _ e hS => by have := HL1.out.o1; rcases hS with rfl | hS <;> omega)
                have HB2w := Lib.hid (below_turn HBW1.out t2 (fun j hj hS => by have := HOWN1.out j hj; rcases hS with hS | hS <;> omega))
                have C2 := Lib.hid hc2
                have HE2 := Lib.hid e2
                have HT2 := Lib.hid t2
                have HB2 := Lib.hid b2
                have HI2 := Lib.hid i2
                have G2 := Lib.hid g2
                have hl02 : w.heap.size < W2.heap.size := hc2.lt
                clear e2 t2 b2 i2 hX2 hc2 g2
                go_wp2_with fail
                obtain ⟨W3, hW3⟩ : ∃ W3, W3 = W2.alloc (.cells #[.string ⟨y.data.toArray⟩, .int .i64 y.ver] 70) := ⟨_, rfl⟩
                rw [← hW3]
                have hb3 : Below W2.heap.size W2 W3 := by rw [hW3]; exact (Below.refl _ _).alloc (Nat.le_refl _) _
                have hV3 : Has W3 W2.heap.size (.cells #[.string ⟨y.data.toArray⟩, .int .i64 y.ver] 70) := by rw [hW3]; exact Has.new _ _
                have n0 : newOwn own2 W2 0 w.heap.size = 0 := by rw [new_old hl02]; exact o2
                have nV : newOwn own2 W2 0 W2.heap.size = 0 := new_new (Nat.le_refl _)
                refine (Get_yes (newOwn own2 W2 0) 1 w.heap.size 0 #[v] _ v c obj kk y W3 (C2.out.below hb3 hl02) rfl (by rw [n0]; omega) (Row.keep (S := fun _ => False) G2.out (Turn.of_below hb3 (Nat.le_refl _)) (Ext.new _ _ _) (fun _ _ _ h => h)) HL1.out.len HKY.out HFK.out).mono ?_
                rintro e W4 ⟨rfl, h4⟩
                have H4 := Lib.hid h4
                obtain ⟨own4, v4, e4, t4, b4, i4⟩ := h4
                have hV4 := t4.has hV3 (fun hS => by rcases hS with hS | hS <;> omega)
                have d0 := alloc_cell (show W4.cell? ⟨W2.heap.size, 0, none⟩ = some (.string ⟨y.data.toArray⟩) from hV4.cell 0)
                have d1 := alloc_cell (show W4.cell? ⟨W2.heap.size, 1, none⟩ = some (.int .i64 y.ver) from hV4.cell 1)
                have HB3 := Lib.hid hb3
                have hne1 : (y.till != y.till) = false := by simp
                clear hW3 hb3 hV3 e4 t4 b4 i4 hV4
                go_wp2_with fail
                refine (bare_nil 0 _).mono ?_
                rintro e W5 ⟨rfl, rfl⟩
                have e00 : ((0 : Int) == 0) = true := rfl
                go_wp2_with fail
                go_meet
                case rel => exact (both_r HL1.out HBW1.out HOWN1.out HE2.out HT2.out HB2.out HI2.out HB3.out H4.out HA.out (by have := HL1.out.len; rw [List.length_append, List.length_eraseIdx_of_lt (by omega), List.length_singleton]; omega) (by have := HL1.out.t0; omega) (by omega)).below ((Below.refl _ _).alloc (Nat.le_refl _) _)
              · obtain ⟨hfk, -, hfn⟩ := hfind
                obtain ⟨hm1, hm2⟩ := HL1.out.al.miss (t := time + 1) hfn
                have hll := HL1.out.al.len
                have hcl := HL1.out.len
                have RG := RGet_any own1 3 (w.heap.size + 1) time u l obj W1 HL1.out.r_ (by rw [HL1.out.o1]; omega) HL1.out.gr (by omega) HL1.out.t0 (by omega)
                rw [hm1, hm2] at RG
                have HFK := Lib.hid hfk
                clear hm1 hm2 hfk hfn
                have RG' := Lib.hid RG
                clear RG hll hcl
                go_wp2_with fail
                refine RG'.out.mono ?_
                rintro e W2 ⟨rfl, own2, u2, e2, t2, b2, i2⟩
                have hX2 := t2.has HX1.out (fun h => by have := HX0.out _ (Nat.le_refl wr.heap.size); rcases h with h | h <;> omega)
                have hs2 : wr.heap.size < W2.heap.size := hX2.lt
                have y1 : W2.cell? ⟨wr.heap.size, 1, none⟩ = some (.int .i64 obj) := hX2.cell 1
                have y1a := alloc_cell y1
                have hc2 := t2.has HL1.out.c_ (fun hS => by have := HL1.out.o0; rcases hS with hS | hS <;> omega)
                have o2 := e2 _ HL1.out.c_.lt
                rw [HL1.out.o0] at o2
                have g2 : Items own2 1 W2 v c := Row.keep HL1.out.gc t2 e2 (fun j _ e hS => by have := HL1.out.o1; rcases hS with rfl | hS <;> omega)
                have HB2w := Lib.hid (below_turn HBW1.out t2 (fun j hj hS => by have := HOWN1.out j hj; rcases hS with hS | hS <;> omega))
                have C2 := Lib.hid hc2
                have HE2 := Lib.hid e2
                have HT2 := Lib.hid t2
                have HB2 := Lib.hid b2
                have HI2 := Lib.hid i2
                have G2 := Lib.hid g2
                have hl02 : w.heap.size < W2.heap.size := hc2.lt
                clear e2 t2 b2 i2 hX2 hc2 g2
                go_wp2_with fail
                obtain ⟨W3, hW3⟩ : ∃ W3, W3 = W2.alloc (.cells #[.string ⟨#[]⟩, .int .i64 0] 70) := ⟨_, rfl⟩
                rw [← hW3]
                have hb3 : Below W2.heap.size W2 W3 := by rw [hW3]; exact (Below.refl _ _).alloc (Nat.le_refl _) _
                have hV3 : Has W3 W2.heap.size (.cells #[.string ⟨#[]⟩, .int .i64 0] 70) := by rw [hW3]; exact Has.new _ _
                refine (Get_no own2 1 w.heap.size 0 v c obj W3 ((C2.out.below hb3 hl02).cell 0) (Row.below G2.out hb3) HFK.out).mono ?_
                rintro e W4 ⟨rfl, hb4⟩
                have hV4 := hV3.below hb4 hV3.lt
                have d0 := alloc_cell (show W4.cell? ⟨W2.heap.size, 0, none⟩ = some (.string ⟨#[]⟩) from hV4.cell 0)
                have d1 := alloc_cell (show W4.cell? ⟨W2.heap.size, 1, none⟩ = some (.int .i64 0) from hV4.cell 1)
                have HV4 := Lib.hid hV4
                have HB24 := Lib.hid (hb3.trans (hb4.mono hb3.size))
                clear hW3 hb3 hV3 hb4 hV4
                go_wp2_with fail
                have HB5a := Lib.hid (HB24.out.alloc HB24.out.size (.cells #[.string ByteArray.empty, .int .i64 0] 70))
                have HGT := Lib.hid (Has.new W4 (.cells #[.string ByteArray.empty, .int .i64 0] 70))
                refine (bare_errno 7 7 _ ((HG.out.below HB2w.out).below HB5a.out)).mono ?_
                rintro e W5 ⟨rfl, hb5⟩
                rw [World.size_alloc] at hb5
                have hV5 := (HV4.out.alloc (.cells #[.string ByteArray.empty, .int .i64 0] 70)).below hb5 (by have := HV4.out.lt; omega)
                have hG5 := HGT.out.below hb5 (by omega)
                have p0 : W5.cell? ⟨W2.heap.size, 0, none⟩ = some (.string ⟨#[]⟩) := hV5.cell 0
                have p1 : W5.cell? ⟨W2.heap.size, 1, none⟩ = some (.int .i64 0) := hV5.cell 1
                have p2 : W5.cell? ⟨W4.heap.size, 0, none⟩ = some (.string ⟨#[]⟩) := hG5.cell 0
                have p3 : W5.cell? ⟨W4.heap.size, 1, none⟩ = some (.int .i64 0) := hG5.cell 1
                have HB5 := Lib.hid (HB5a.out.trans (hb5.mono (by have := HB24.out.size; omega)))
                have e77 : ((7 : Int) == 7) = true := rfl
                clear hb5 hV5 hG5
                go_wp2_with fail
                go_meet
                case rel => exact (refOnly HL1.out HBW1.out HOWN1.out HE2.out HT2.out HB2.out HI2.out HL1.out.al.later (by have := HL1.out.t0; omega) (by omega)).below HB5.out
            · have wb1 : (what == 1) = false := by simpa using w1
              by_cases w2 : what = 2
              · subst w2
                go_wp2_with fail
                refine (Drop_any own1 1 w.heap.size 0 #[v] _ v c obj W1 HL1.out.c_ rfl (by rw [HL1.out.o0]; omega) HL1.out.gc).mono ?_
                rintro e W2 ⟨rfl, own2, v2, e2, t2, b2, i2⟩
                have hX2 := t2.has HX1.out (fun h => by have := HX0.out _ (Nat.le_refl wr.heap.size); rcases h with h | h <;> omega)
                have y1 : W2.cell? ⟨wr.heap.size, 1, none⟩ = some (.int .i64 obj) := hX2.cell 1
                have y2 : W2.cell? ⟨wr.heap.size, 2, none⟩ = some (.int .i64 till) := hX2.cell 2
                have y3 : W2.cell? ⟨wr.heap.size, 3, none⟩ = some (.string ⟨data.toArray⟩) := hX2.cell 3
                have y4 : W2.cell? ⟨wr.heap.size, 4, none⟩ = some (.int .i64 ver) := hX2.cell 4
                have r2 := t2.has HL1.out.r_ (fun hS => by have := HL1.out.o1; rcases hS with hS | hS <;> omega)
                have o2' := e2 _ HL1.out.r_.lt
                rw [HL1.out.o1] at o2'
                have g2 : RItems own2 3 W2 u l := Row.keep HL1.out.gr t2 e2 (fun j _ e hS => by have := HL1.out.o0; rcases hS with rfl | hS <;> omega)
                have hll := HL1.out.al.len
                have hcl := HL1.out.len
                have R2 := Lib.hid r2
                have HE2 := Lib.hid e2
                have HT2 := Lib.hid t2
                have HB2 := Lib.hid b2
                have HI2 := Lib.hid i2
                have HO2 := Lib.hid o2'
                have HG2 := Lib.hid g2
                have hll9 : l.length ≤ 6 := by omega
                clear e2 t2 b2 i2 hX2 r2 o2' g2 hll hcl
                go_wp2_with fail
                refine (RDrop_any own2 3 (w.heap.size + 1) time u l obj W2 R2.out HG2.out (by omega)).mono ?_
                rintro e W3 ⟨rfl, h3⟩
                have H3 := Lib.hid h3
                clear h3
                go_wp2_with fail
                go_meet
                case rel => exact both HL1.out HBW1.out HOWN1.out HE2.out HT2.out HB2.out HI2.out H3.out (HL1.out.al.drop obj) (Nat.le_trans List.length_eraseP_le HL1.out.len) HL1.out.t0 (by omega)
              · have wb2 : (what == 2) = false := by simpa using w2
                by_cases w3 : what = 3
                · subst w3
                  go_wp2_with fail
                  refine (Clear_any own1 1 w.heap.size 0 #[v] _ v W1 HL1.out.c_ rfl).mono ?_
                  rintro e W2 ⟨rfl, own2, v2, e2, t2, b2, i2⟩
                  have hX2 := t2.has HX1.out (fun h => by have := HX0.out _ (Nat.le_refl wr.heap.size); rcases h with h | h <;> omega)
                  have y1 : W2.cell? ⟨wr.heap.size, 1, none⟩ = some (.int .i64 obj) := hX2.cell 1
                  have y2 : W2.cell? ⟨wr.heap.size, 2, none⟩ = some (.int .i64 till) := hX2.cell 2
                  have y3 : W2.cell? ⟨wr.heap.size, 3, none⟩ = some (.string ⟨data.toArray⟩) := hX2.cell 3
                  have y4 : W2.cell? ⟨wr.heap.size, 4, none⟩ = some (.int .i64 ver) := hX2.cell 4
                  have r2 := t2.has HL1.out.r_ (fun hS => by have := HL1.out.o1; rcases hS with hS | hS <;> omega)
                  have o2' := e2 _ HL1.out.r_.lt
                  rw [HL1.out.o1] at o2'
                  have g2 : RItems own2 3 W2 u l := Row.keep HL1.out.gr t2 e2 (fun j _ e hS => by have := HL1.out.o0; rcases hS with rfl | hS <;> omega)
                  have hll := HL1.out.al.len
                  have hcl := HL1.out.len
                  have R2 := Lib.hid r2
                  have HE2 := Lib.hid e2
                  have HT2 := Lib.hid t2
                  have HB2 := Lib.hid b2
                  have HI2 := Lib.hid i2
                  have HO2 := Lib.hid o2'
                  have HG2 := Lib.hid g2
                  have hll9 : l.length ≤ 6 := by omega
                  clear e2 t2 b2 i2 hX2 r2 o2' g2 hll hcl
                  have z0 : W2.cell? ⟨w.heap.size + 1, 0, none⟩ = some u := R2.out.cell 0
                  have zf : W2.frozen? ⟨w.heap.size + 1, 0, none⟩ = false := R2.out.frozen 0
                  obtain ⟨ua, uc, rfl, -⟩ := HG2.out.shape
                  go_wp2_with fail
                  go_meet
                  case rel => exact both HL1.out HBW1.out HOWN1.out HE2.out HT2.out HB2.out HI2.out (time' := time) (l' := []) ⟨own2, .slice none 0 0, Ext.refl _ _, (Turn.refl _ W2).setCell (p := ⟨w.heap.size + 1, 0, none⟩) (.inr (.inl rfl)) _, R2.out.set_ 0 _, Row.nil _ _ _ _ _⟩ (Alike.empty time) (by simp) HL1.out.t0 (by omega)
                · have wb3 : (what == 3) = false := by simpa using w3
                  go_wp2_with fail
                  go_meet
                  case rel => exact ⟨own1, c, l, s, time, v, u, HL1.out, by omega, HBW1.out, HOWN1.out⟩
        case rest =>
          obtain ⟨own2, c2, l2, s2, time2, v2, u2', hL2, ht2, hbw2, hown2⟩ := hcut
          have HL2 := Lib.hid hL2
          have HBW2 := Lib.hid hbw2
          have HOWN2 := Lib.hid hown2
          have hll := hL2.al.len
          have hcl := hL2.len
          clear hL2 hbw2 hown2
          go_wp2_with fail
          refine (Objects_any own2 1 w.heap.size 0 v2 c2 wc (HL2.out.c_.cell 0) HL2.out.gc (by omega)).mono ?_
          rintro e W4 ⟨p4, rfl, hp4, hb4⟩
          have HP4 := Lib.hid hp4
          have HB4 := Lib.hid hb4
          clear hp4 hb4
          go_wp2_with fail
          refine (RObjects_any own2 3 (w.heap.size + 1) u2' l2 W4 ((HL2.out.r_.below HB4.out HL2.out.r_.lt).cell 0) (Row.below HL2.out.gr HB4.out) (by omega)).mono ?_
          rintro e W5 ⟨p5, rfl, hp5, hb5⟩
          have HP5 := Lib.hid hp5
          have HB5 := Lib.hid hb5
          clear hp5 hb5
          have hsame : decide (c2.map (·.obj) = robjs l2) = true := decide_eq_true (HL2.out.al.objects (by omega)).symm
          have HSAME := Lib.hid hsame
          clear hsame
          go_wp2_with fail
          refine (sameInts_any wc.heap.size W4.heap.size p4 p5 (c2.map (·.obj)) (robjs l2) W5 (HP4.out.below HB5.out (Nat.le_refl _)) HP5.out).mono ?_
          rintro e W6 ⟨rfl, hb6⟩
          rw [HSAME.out]
          have HB6 := Lib.hid hb6
          clear hb6
          go_wp2_with fail
          go_roundg (gk - 1)
          case measure => omega
          case rel =>
            have hbb : Below wc.heap.size wc W6 := (HB4.out.trans (HB5.out.mono HB4.out.size)).trans (HB6.out.mono (Nat.le_trans HB4.out.size HB5.out.size))
            exact ⟨k + 1, by omega, by go_num, own2, c2, l2, s2, time2, v2, u2', HL2.out.step hbb (Ext.refl _ _), ht2, HBW2.out.trans (hbb.mono HBW2.out.size), HOWN2.out⟩
      · go_wp2_with fail
        go_ret
        exact ⟨rfl, HBW.out⟩
end Go.Proofs.YthldfogmmjompaaDoor.cache
