/-
  The walk of the law NetPlays.
-/
import Derived.Test.YthldfogmmjompaaDoorNetLaw6
import Derived.Test.YthldfogmmjompaaDoorRegionLast
import Derived.Test.YthldfogmmjompaaDoorNetArg
import Derived.Test.YthldfogmmjompaaDoorBare
import Derived.BigQuiet
import Derived.Deep.QuietTactic
import Derived.Deep.LoopGhost
import Derived.Deep.DeepCutAuto
import Derived.Deep.CutBlock
namespace Go.Proofs.YthldfogmmjompaaDoor.net
open Go.RowKit Go.Proofs.YthldfogmmjompaaDoor.heap Go.Proofs.YthldfogmmjompaaDoor.own Go.Proofs.YthldfogmmjompaaDoor.wire Go.Proofs.YthldfogmmjompaaDoor.errs

theorem grams_len {own : Nat → Nat} {T : Nat} {w : World} {v : Value} {l : List Dg} (h : Grams own T w v l) : ∃ a c, v = .slice a l.length c := by
  obtain ⟨ps, -, hrow, -, -⟩ := h
  rcases hrow.1.2 with ⟨rfl, h0⟩ | ⟨g, cap, cur, rfl, _⟩
  · exact ⟨none, 0, by rw [← h0]⟩
  · exact ⟨_, _, rfl⟩

/-- The relation of the law's loop. -/
def Rel (w : World) (n g : Nat) (i : Value) (wr : World) : Prop :=
  ∃ (k : Nat) (own : Nat → Nat) (l : List Dg) (lost : Int) (v u : Value), k + g = n ∧ i = .int .i64 k ∧ LawAt own w.heap.size wr l lost v u ∧ l.length ≤ 200 ∧ (∀ g ∈ l, g.2.length ≤ 100) ∧ Below w.heap.size w wr ∧ (∀ j, j < w.heap.size → own j = 0)

set_option maxHeartbeats 40000000 in
set_option maxRecDepth 100000 in
theorem walkN (a : Option Addr) (n c : Nat) (l : List Stp) (w : World) (hst : StpsAt w a n l) (hn : n ≤ 9223372036854775807) (hg : Handle w) :
    Calls Tryd.prog 6 #[.slice a n c] w fun e w' => e = .returned (.bool true) ∧ Below w.heap.size w w' := by
  by_cases h300 : 300 < n
  · go_enter Tryd.func6, Tryd.ntmps6
    go_wp2_with fail
    go_ret
    exact ⟨rfl, Below.refl _ _⟩
  · have HST := Lib.hid hst
    have HG := Lib.hid hg
    clear hst hg
    go_enter Tryd.func6, Tryd.ntmps6
    go_wp2_with fail
    go_loopg [7, 8, 9, 10, 11, 12, 13, 14] n (fun g i _ _ _ _ _ _ _ wr => Rel w n g i wr)
    case atStart =>
      refine ⟨0, fun _ => 0, [], 0, .slice none 0 0, .slice none 0 0, by omega, rfl, ⟨?_, ?_, ?_, Grams.nil _ _ _, Grams.nil _ _ _, rfl, rfl, rfl⟩, by simp, (fun g h => by cases h), ?_, fun _ _ => rfl⟩
      · exact ((Has.new w _).alloc _).alloc _
      · have h := (Has.new (w.alloc (.cells #[.slice none 0 0, .int .i64 0] 49)) (.cells #[.slice none 0 0] 47)).alloc (.cells #[.int .i64 0] 3)
        rwa [World.size_alloc] at h
      · have h := Has.new ((w.alloc (.cells #[.slice none 0 0, .int .i64 0] 49)).alloc (.cells #[.slice none 0 0] 47)) (.cells #[.int .i64 0] 3)
        rwa [World.size_alloc, World.size_alloc] at h
      · exact (((Below.refl _ _).alloc (Nat.le_refl _) _).alloc (by simp) _).alloc (by simp; omega) _
    case round =>
      obtain ⟨k, own, sl, lost, v, u, hkg, rfl, hL, hlen, h100, hbw, hown⟩ := hrel
      obtain ⟨ua, uc, rfl⟩ := grams_len hL.gw
      have HL := Lib.hid hL
      have HLEN := Lib.hid hlen
      have H100 := Lib.hid h100
      have HBW := Lib.hid hbw
      have HOWN := Lib.hid hown
      clear hL hlen h100 hbw hown
      by_cases hk : k < n
      · obtain ⟨s, hs⟩ : ∃ s, l[k]? = some s := ⟨_, List.getElem?_eq_getElem (by rw [HST.out.1]; exact hk)⟩
        obtain ⟨b, o, rfl, hbl, -⟩ := HST.out.2 (by omega)
        obtain ⟨q0, q1, q2, q3, q4, hrd, hsn, hsc⟩ := HST.out.below HBW.out b o k s (by omega) rfl hs
        have HRD := Lib.hid hrd
        have HSC := Lib.hid hsc
        have HS := Lib.hid hs
        clear hrd hsc hs
        have hlt1 : w.heap.size + 1 < wr.heap.size := HL.out.w_.lt
        have hlt2 : w.heap.size + 2 < wr.heap.size := HL.out.l_.lt
        have hbl2 : b < wr.heap.size := Nat.lt_of_lt_of_le hbl HBW.out.size
        have k0 : wr.cell? ⟨w.heap.size + 1, 0, none⟩ = some (.slice ua sl.length uc) := HL.out.w_.cell 0
        by_cases hlong : 100 < s.n
        · go_wp2_with fail
          go_roundg (gk - 1)
          case measure => omega
          case rel => exact ⟨k + 1, own, sl, lost, _, _, by omega, by go_num, HL.out.step ((Below.refl _ _).alloc (Nat.le_refl _) _) (Ext.refl _ _), HLEN.out, H100.out, HBW.out.alloc HBW.out.size _, HOWN.out⟩
        · obtain ⟨what, sk, at_, tt, sa, sn, sc, sbs⟩ := s
          simp only at hlong q0 q1 q2 q3 q4
          have hn100 : sn ≤ 100 := by omega
          go_upto_region 13 with fail
          go_cut [43] (fun c wx => wx = wr.alloc (.cells #[.int .i64 what, .int .i64 sk, .int .i64 at_, .int .i64 tt, .slice sa sn sc] 54) ∧ c = .bool (decide (¬ (0 ≤ sk ∧ sk < sl.length))))
          case first =>
            by_cases hK : 0 ≤ sk ∧ sk < sl.length
            · obtain ⟨j, rfl⟩ : ∃ j : Nat, sk = j := ⟨sk.toNat, by omega⟩
              have hj : (j : Int) < sl.length := hK.2
              have d0 : decide ((j : Int) < 0) = false := by simp
              have d1 : decide ((sl.length : Int) ≤ j) = false := by simpa using hj
              have d2 : ¬ (sl.length : Int) ≤ j := by omega
              have HK := Lib.hid hK
              clear hK
              go_wp2_with fail
              go_meet
              case rel => exact ⟨rfl, by rw [decide_eq_false (Decidable.not_not.2 HK.out)]⟩
            · have HK := Lib.hid hK
              by_cases h0 : sk < 0
              · clear hK
                go_wp2_with fail
                go_meet
                case rel => exact ⟨rfl, by rw [decide_eq_true HK.out]⟩
              · have hj : (sl.length : Int) ≤ sk := by omega
                clear hK
                go_wp2_with fail
                go_meet
                case rel => exact ⟨rfl, by rw [decide_eq_true HK.out]⟩
          case rest =>
            obtain ⟨rfl, rfl⟩ := hcut
            have HL1 := Lib.hid (HL.out.step (own' := newOwn own wr 0) (((Below.refl wr.heap.size wr).alloc (Nat.le_refl _) (.cells #[.int .i64 what, .int .i64 sk, .int .i64 at_, .int .i64 tt, .slice sa sn sc] 54))) (Ext.new _ _ _))
            have HX0 : Hid (∀ j, wr.heap.size ≤ j → newOwn own wr 0 j = 0) := fun j hj => new_new hj
            have HX1 := Lib.hid (Has.new wr (.cells #[.int .i64 what, .int .i64 sk, .int .i64 at_, .int .i64 tt, .slice sa sn sc] 54))
            have HBW1 := Lib.hid (HBW.out.trans (((Below.refl wr.heap.size wr).alloc (Nat.le_refl _) (.cells #[.int .i64 what, .int .i64 sk, .int .i64 at_, .int .i64 tt, .slice sa sn sc] 54)).mono HBW.out.size))
            go_upto_if 43 with fail
            go_cut [9] (fun e wx => wx = wr.alloc (.cells #[.int .i64 what, .int .i64 sk, .int .i64 at_, .int .i64 tt, .slice sa sn sc] 54) ∧ e = .int .i64 (if 0 ≤ sk ∧ sk < sl.length then 0 else 2))
            case first =>
              by_cases hK : 0 ≤ sk ∧ sk < sl.length
              · rw [decide_eq_false (Decidable.not_not.2 hK)]
                go_wp2_with fail
                go_meet
                case rel => exact ⟨rfl, by rw [if_pos hK]⟩
              · rw [decide_eq_true hK]
                go_wp2_with fail
                go_meet
                case rel => exact ⟨rfl, by rw [if_neg hK]⟩
            case rest =>
              obtain ⟨rfl, rfl⟩ := hcut
              obtain ⟨e0, he0⟩ : ∃ e0 : Int, e0 = if 0 ≤ sk ∧ sk < sl.length then 0 else 2 := ⟨_, rfl⟩
              rw [← he0]
              have HE0 := Lib.hid he0
              clear he0
              go_upto_block 2 with fail
              obtain ⟨W1, hW1⟩ : ∃ W1, W1 = wr.alloc (.cells #[.int .i64 what, .int .i64 sk, .int .i64 at_, .int .i64 tt, .slice sa sn sc] 54) := ⟨_, rfl⟩
              rw [← hW1] at HL1 HX1 HBW1 ⊢
              have hsz1 : W1.heap.size = wr.heap.size + 1 := by rw [hW1]; simp
              have x0 : W1.cell? ⟨wr.heap.size, 0, none⟩ = some (.int .i64 what) := HX1.out.cell 0
              have x1 : W1.cell? ⟨wr.heap.size, 1, none⟩ = some (.int .i64 sk) := HX1.out.cell 1
              have x2 : W1.cell? ⟨wr.heap.size, 2, none⟩ = some (.int .i64 at_) := HX1.out.cell 2
              have x3 : W1.cell? ⟨wr.heap.size, 3, none⟩ = some (.int .i64 tt) := HX1.out.cell 3
              have x4 : W1.cell? ⟨wr.heap.size, 4, none⟩ = some (.slice sa sn sc) := HX1.out.cell 4
              have HOWN1 : Hid (∀ j, j < w.heap.size → newOwn own wr 0 j = 0) := fun j hj => (new_old (Nat.lt_of_lt_of_le hj HBW.out.size)).trans (HOWN.out j hj)
              generalize newOwn own wr 0 = own1 at HL1 HX0 HOWN1
              have HRDF : Hid (∀ W, Below w.heap.size w W → RD W W.heap.size sa sn sbs) := fun W hW => (HST.out.below hW b o k _ (by omega) rfl HS.out).2.2.2.2.2.1
              have k1 : W1.cell? ⟨w.heap.size + 1, 0, none⟩ = some (.slice ua sl.length uc) := HL1.out.w_.cell 0
              have hla0 : w.heap.size < wr.heap.size := by omega
              have hla : w.heap.size + 1 < W1.heap.size := by omega
              have hlb : wr.heap.size < W1.heap.size := by omega
              clear hW1 k0 q0 q1 q2 q3 q4
              go_cut [9, 10, 11, 12, 13, 14] (fun _ _ _ _ _ _ wx => Done w wx)
              case first =>
                by_cases w0 : what = 0
                · subst w0
                  as_aux_lemma =>
                    go_wp2_with fail
                    refine (Close_any own1 3 (w.heap.size + 1) (w.heap.size + 2) _ sl lost sa sn sc sbs tt W1 HL1.out.w_ HL1.out.l_ (by omega) (by rw [HL1.out.o1]; omega) (by rw [HL1.out.o1]; omega) (by rw [HL1.out.o2]; omega) (by rw [HL1.out.o2]; omega) HL1.out.gw (HRDF.out W1 HBW1.out) (by omega)).mono ?_
                    rintro e W2 ⟨rfl, hcp⟩
                    obtain ⟨own2, u2, hext, htn, hn2, hw2, hl2, hg1, hg3⟩ := HL1.out.close hcp
                    have hX2 : Has W2 wr.heap.size (.cells #[.int .i64 0, .int .i64 sk, .int .i64 at_, .int .i64 tt, .slice sa sn sc] 54) := htn.has HX1.out (fun h => by
                      have hq := HX0.out _ (Nat.le_refl wr.heap.size)
                      have p1 := HL.out.w_.lt
                      have p2 := HL.out.l_.lt
                      rcases h with h | h | h <;> omega)
                    have y3 : W2.cell? ⟨wr.heap.size, 3, none⟩ = some (.int .i64 tt) := hX2.cell 3
                    have y4 : W2.cell? ⟨wr.heap.size, 4, none⟩ = some (.slice sa sn sc) := hX2.cell 4
                    have HB2 := Lib.hid (below_turn HBW1.out htn (fun k hk hS => by
                      rcases hS with rfl | rfl | hS
                      · omega
                      · omega
                      · have := HOWN1.out k hk; omega))
                    have o0 := hext _ HL1.out.n.lt
                    rw [HL1.out.o0] at o0
                    have HEXT := Lib.hid hext
                    have HTN := Lib.hid htn
                    have HN2 := Lib.hid hn2
                    have HW2 := Lib.hid hw2
                    have HL2 := Lib.hid hl2
                    have HG1 := Lib.hid hg1
                    have HG3 := Lib.hid hg3
                    clear hcp hext htn hn2 hw2 hl2 hg1 hg3 hX2
                    go_wp2_with fail
                    refine (Send_any own2 1 w.heap.size 0 #[v, .int .i64 lost] _ v sl lost sa sn sc sbs tt W2 HN2.out rfl rfl (by omega) (by omega) HG1.out (HRDF.out W2 HB2.out) hsn (by omega)).mono ?_
                    rintro e W3 ⟨rfl, hsp⟩
                    have HSP := Lib.hid hsp
                    clear hsp
                    go_wp2_with fail
                    go_meet
                    case rel => exact done_sent HL1.out HLEN.out H100.out (by have := (HRDF.out W1 HBW1.out).1; simp only; omega) HBW1.out HOWN1.out HEXT.out HTN.out HW2.out HL2.out HG3.out HSP.out
                · have wb0 : (what == 0) = false := by simpa using w0
                  by_cases w1 : what = 1
                  · subst w1
                    by_cases hK : 0 ≤ sk ∧ sk < sl.length
                    · obtain ⟨j, rfl⟩ : ∃ j : Nat, sk = j := ⟨sk.toNat, by omega⟩
                      have he0 : e0 = 0 := by rw [HE0.out, if_pos hK]
                      subst he0
                      have hj : j < sl.length := by omega
                      clear hK
                      obtain ⟨⟨gt, gb⟩, hjg⟩ : ∃ p, sl[j]? = some p := ⟨_, List.getElem?_eq_getElem hj⟩
                      obtain ⟨g, cap, au, nu, cu, hsl, hl9, r0, r1, hpr⟩ := gram_at HL1.out.gw hjg
                      injection hsl with hsl1 hsl2 hsl3
                      subst hsl1 hsl3
                      have hglt : g < W1.heap.size := cell_lt r0
                      have HJG := Lib.hid hjg
                      have HPR := Lib.hid hpr
                      have hgb := H100.out _ (List.mem_of_getElem? hjg)
                      simp only at hgb
                      obtain ⟨hnu, hnc, hcm, hrdu⟩ := rd_of_owns hpr.1
                      have HRU := Lib.hid hrdu
                      have hj9 : (j : Int) < sl.length := by omega
                      subst hnu
                      clear hjg hpr hrdu hcm
                      have k1a := alloc_cell k1
                      have r0a := alloc_cell r0
                      have r1a := alloc_cell r1
                      have x1a := alloc_cell x1
                      obtain ⟨i0, hi0, hz0, hz1, hz2⟩ := info_parts infoGram
                      obtain ⟨ps, hps, hrow, hbytes, hnd⟩ := HL1.out.gw
                      obtain ⟨g', cap', cur, eg, ho, hh, hgc, hgm, hcs, hcx⟩ := hrow.shape (by omega)
                      injection eg with eg1 eg2 eg3
                      injection eg1 with eg1
                      injection eg1 with eg1
                      subst eg1 eg3
                      go_upto_region 23 with fail
                      obtain ⟨V0, hV0⟩ : ∃ V0, V0 = W1.alloc (.cells #[.int .i64 gt, .slice au gb.length cu] 51) := ⟨_, rfl⟩
                      rw [← hV0]
                      have HV : Hid (Below W1.heap.size W1 V0) := by rw [hV0]; exact (Below.refl _ _).alloc (Nat.le_refl _) _
                      have HGC : Hid (Has V0 (wr.heap.size + 1) (.cells #[.int .i64 gt, .slice au gb.length cu] 51)) := by rw [hV0, ← hsz1]; exact Has.new _ _
                      have hsv : V0.heap.size = wr.heap.size + 2 := by rw [hV0, World.size_alloc, hsz1]
                      have HSV := Lib.hid hsv
                      have hkv : V0.cell? ⟨w.heap.size + 1, 0, none⟩ = some (.slice (some ⟨g, 0, none⟩) sl.length uc) := by rw [hV0]; exact k1a _
                      have hxv : V0.cell? ⟨wr.heap.size, 1, none⟩ = some (.int .i64 j) := by rw [hV0]; exact x1a _
                      have HLV := Lib.hid (HL1.out.step HV.out (Ext.refl _ _))
                      have HHV := Lib.hid (hh.below HV.out hglt)
                      have hglv : g < V0.heap.size := by omega
                      have HX := Lib.hid (show (gcells ps).length = sl.length * 2 from hrow.1.1)
                      have HPS := Lib.hid hps
                      have HND := Lib.hid hnd
                      have HROW := Lib.hid (hrow.below HV.out)
                      have HBY := Lib.hid (fun p hp => (hbytes p hp).below HV.out)
                      have HCX := Lib.hid hcx
                      have HONE := Lib.hid (gcells_one hbytes)
                      have HGM := Lib.hid hgm
                      have hgc1 : j + 1 ≤ uc := by omega
                      have hgc0 : j ≤ uc := by omega
                      have gg1 : (0 : Int) ≤ (j : Int) + 1 := by omega
                      have gg2 : (j : Int) + 1 ≤ (sl.length : Int) := by omega
                      have gg3 : j + 1 ≤ sl.length := by omega
                      have kv := alloc_cell hkv
                      have xv := alloc_cell hxv
                      have HXY := Lib.hid (HX1.out.below HV.out hlb)
                      have HSRC : Hid (∀ W, Below V0.heap.size V0 W → ∀ i u, (gcells ps)[i]? = some u → W.cell? ⟨g, i, none⟩ = some u) := by
                        intro W hW i u hu
                        have hi := (List.getElem?_eq_some_iff.1 hu).1
                        rw [HX.out] at hi
                        exact ((row_cell (HHV.out.below hW hglv) HCX.out i hi).1).trans hu
                      have HZ : Hid (Below V0.heap.size V0 (V0.alloc (.cells #[] 51)).drew) := ((Below.refl _ _).alloc (Nat.le_refl _) _).drew
                      have HE0 : Hid ((V0.alloc (.cells #[] 51)).drew.ownsRow V0.heap.size 51 2 (.slice (some ⟨V0.heap.size, 0, none⟩) 0 0) 0 []) := owns_new (l := []) (Has.new V0 (.cells #[] 51)).drew (Nat.le_refl _) rfl (Nat.zero_le _)
                      have HL0 : Hid (((gcells ps).take (j * 2)).length = j * 2) := by rw [Hid, List.length_take, HX.out]; omega
                      have HN0 : Hid (∀ (t : Nat) (u : Value), ((gcells ps).take (j * 2))[t]? = some u → (V0.alloc (.cells #[] 51)).drew.cell? ((⟨g, 0, none⟩ : Addr).add t) = some u) := by
                        intro t u hu
                        rw [List.getElem?_take] at hu
                        split at hu
                        · rw [show (⟨g, 0, none⟩ : Addr).add t = ⟨g, t, none⟩ from by by_cases h0 : t = 0 <;> simp [Addr.add, h0]]
                          exact HSRC.out _ HZ.out t u hu
                        · cases hu
                      have HO1 : Hid (∀ u ∈ (gcells ps).take (j * 2), u.oneCell' = true) := fun u hu => HONE.out u (List.mem_of_mem_take hu)
                      have HL3 : Hid (((gcells ps).drop ((j + 1) * 2)).length = (sl.length - (j + 1)) * 2) := by rw [Hid, List.length_drop, HX.out]; omega
                      have HO3 : Hid (∀ u ∈ (gcells ps).drop ((j + 1) * 2), u.oneCell' = true) := fun u hu => HONE.out u (List.mem_of_mem_drop hu)
                      obtain ⟨A, hA, hsrc⟩ : ∃ A : Addr, (if uc = j + 1 then (some ⟨g, 0, none⟩ : Option Addr) else some ⟨g, (j + 1) * 2, none⟩) = some A ∧ Hid (∀ W, Below V0.heap.size V0 W → ∀ t u, ((gcells ps).drop ((j + 1) * 2))[t]? = some u → W.cell? (A.add t) = some u) := by
                        by_cases h : uc = j + 1
                        · refine ⟨⟨g, 0, none⟩, by simp [h], fun W hW t u hu => ?_⟩
                          have := (List.getElem?_eq_some_iff.1 hu).1
                          rw [HL3.out] at this
                          omega
                        · refine ⟨⟨g, (j + 1) * 2, none⟩, by simp [h], fun W hW t u hu => ?_⟩
                          rw [List.getElem?_drop] at hu
                          rw [show (⟨g, (j + 1) * 2, none⟩ : Addr).add t = ⟨g, (j + 1) * 2 + t, none⟩ from by by_cases h0 : t = 0 <;> simp [Addr.add, h0]]
                          exact HSRC.out W hW _ u hu
                      have hl200 : sl.length ≤ 200 := HLEN.out
                      have hwrap : IntKind.i64.wrap ((j : Int) + 1) = ((j + 1 : Nat) : Int) := by simp only [IntKind.wrap_i64]; omega
                      have hlw : w.heap.size + 1 < V0.heap.size := by omega
                      have hxlw : wr.heap.size < V0.heap.size := by omega
                      clear hsv hV0 k1a r0a r1a x1a hrow hbytes hnd hps ho hh hcs hcx hgm r0 r1 k1 x0 x1 x2 x3 x4
                      refine last.wp_region_last (S := fun W => W.cell? ⟨w.heap.size + 1, 0, none⟩ = some (.slice (some ⟨g, 0, none⟩) sl.length uc) ∧ W.cell? ⟨wr.heap.size, 1, none⟩ = some (.int .i64 j)) (L := 12) (by kernel_rfl) ?_
                      refine last.wpAnyL_take (i := 1) (v := .slice (some ⟨g, 0, none⟩) sl.length uc) rfl (by kernel_rfl) (by kernel_rfl) (by kernel_rfl) (by kernel_rfl) (fun _ _ _ h => h) ⟨hkv, hxv⟩ (by rfl) (fun W hW => by obtain ⟨hW1, hW2⟩ := hW; go_simp) ?_
                      dsimp only [Act.put]
                      refine last.wpAnyL_take (i := 2) (v := .pointer (some ⟨wr.heap.size, 1, none⟩)) rfl (by kernel_rfl) (by kernel_rfl) (by kernel_rfl) (by kernel_rfl) (fun _ _ _ h => h) ⟨hkv, hxv⟩ (by rfl) (fun W hW => by obtain ⟨hW1, hW2⟩ := hW; go_simp) ?_
                      dsimp only [Act.put]
                      refine last.wpAnyL_take (i := 3) (v := .int .i64 j) rfl (by kernel_rfl) (by kernel_rfl) (by kernel_rfl) (by kernel_rfl) (fun _ _ _ h => h) ⟨hkv, hxv⟩ (by rfl) (fun W hW => by obtain ⟨hW1, hW2⟩ := hW; go_simp) ?_
                      dsimp only [Act.put]
                      refine last.wpAnyL_take (i := 4) (v := .slice (some ⟨g, 0, none⟩) j uc) rfl (by kernel_rfl) (by kernel_rfl) (by kernel_rfl) (by kernel_rfl) (fun _ _ _ h => h) ⟨hkv, hxv⟩ (by rfl) (fun W hW => by obtain ⟨hW1, hW2⟩ := hW; go_simp) ?_
                      dsimp only [Act.put]
                      refine last.wpAnyL_take (i := 6) (v := .slice (some ⟨g, 0, none⟩) sl.length uc) rfl (by kernel_rfl) (by kernel_rfl) (by kernel_rfl) (by kernel_rfl) (fun _ _ _ h => h) ⟨hkv, hxv⟩ (by rfl) (fun W hW => by obtain ⟨hW1, hW2⟩ := hW; go_simp) ?_
                      dsimp only [Act.put]
                      refine last.wpAnyL_take (i := 7) (v := .pointer (some ⟨wr.heap.size, 1, none⟩)) rfl (by kernel_rfl) (by kernel_rfl) (by kernel_rfl) (by kernel_rfl) (fun _ _ _ h => h) ⟨hkv, hxv⟩ (by rfl) (fun W hW => by obtain ⟨hW1, hW2⟩ := hW; go_simp) ?_
                      dsimp only [Act.put]
                      refine last.wpAnyL_take (i := 8) (v := .int .i64 j) rfl (by kernel_rfl) (by kernel_rfl) (by kernel_rfl) (by kernel_rfl) (fun _ _ _ h => h) ⟨hkv, hxv⟩ (by rfl) (fun W hW => by obtain ⟨hW1, hW2⟩ := hW; go_simp) ?_
                      dsimp only [Act.put]
                      refine last.wpAnyL_take (i := 9) (v := .int .i64 ((j + 1 : Nat) : Int)) rfl (by kernel_rfl) (by kernel_rfl) (by kernel_rfl) (by kernel_rfl) (fun _ _ _ h => h) ⟨hkv, hxv⟩ (by rfl) (fun W hW => by obtain ⟨hW1, hW2⟩ := hW; go_simp) ?_
                      dsimp only [Act.put]
                      refine last.wpAnyL_take (i := 10) (v := .slice (some A) (sl.length - (j + 1)) (uc - (j + 1))) rfl (by kernel_rfl) (by kernel_rfl) (by kernel_rfl) (by kernel_rfl) (fun _ _ _ h => h) ⟨hkv, hxv⟩ (by rfl) (fun W hW => by obtain ⟨hW1, hW2⟩ := hW; go_simp) ?_
                      dsimp only [Act.put]
                      refine last.wpAnyL_one (i := 0) (by kernel_rfl) rfl fun K hK => ?_
                      go_simp
                      refine hK.out _ _ (fun _ => ⟨kv _, xv _⟩) ?_
                      clear hK
                      refine last.wpAnyL_one (i := 5) (by kernel_rfl) rfl fun K hK => ?_
                      refine refw.step_own (by rfl) (.tmp 64) (.tmp 68) 47 (by rfl) V0.heap.size 51 i0 _ 2 32 Tryd.underlying47 hi0 hz0 hz1 hz2 (by rfl) (by decide) (.slice (some ⟨V0.heap.size, 0, none⟩) 0 0) 0 [] (by rfl) HE0.out ⟨g, 0, none⟩ j uc ((gcells ps).take (j * 2)) (by rfl) HL0.out HN0.out HO1.out (by unfold maxLen; omega) (by omega) HZ.out.size ?_
                      intro v1 w2 hown2 hg2
                      rw [Nat.zero_add, List.nil_append] at hown2
                      obtain ⟨a1, m1, c1, rfl⟩ := owns_any hown2
                      have hb2 := HZ.out.grown hg2 HZ.out.size (fun k hk => by cases hk; exact Nat.le_refl _)
                      have HO2 := Lib.hid hown2
                      have HB2 := Lib.hid hb2
                      refine hK.out _ _ (fun _ => ⟨(hb2.cell (p := ⟨w.heap.size + 1, 0, none⟩) hlw).trans hkv, (hb2.cell (p := ⟨wr.heap.size, 1, none⟩) hxlw).trans hxv⟩) ?_
                      have hs2 := hb2.size
                      clear hK hown2 hg2 hb2
                      dsimp only [Act.put]
                      refine last.wpAnyL_one (i := 11) (by kernel_rfl) rfl fun K hK => ?_
                      refine refw.step_own (by rfl) (.tmp 69) (.tmp 74) 47 (by rfl) V0.heap.size 51 i0 _ 2 32 Tryd.underlying47 hi0 hz0 hz1 hz2 (by rfl) (by decide) (.slice a1 m1 c1) j _ (by rfl) HO2.out A (sl.length - (j + 1)) (uc - (j + 1)) ((gcells ps).drop ((j + 1) * 2)) (by rfl) HL3.out (hsrc.out _ HB2.out) HO3.out (by unfold maxLen; omega) (by omega) hs2 ?_
                      intro v3 w3 hown3 hg3
                      obtain ⟨a3, m3, c3, rfl⟩ := owns_any hown3
                      have hb3 := HB2.out.grown hg3 hs2 (fun k hk => owns_ge HO2.out k hk)
                      have HO4 := Lib.hid hown3
                      have HB3 := Lib.hid hb3
                      have kv3 := (hb3.cell (p := ⟨w.heap.size + 1, 0, none⟩) hlw).trans hkv
                      have fv3 : w3.frozen? ⟨w.heap.size + 1, 0, none⟩ = false := (HLV.out.w_.below hb3 hlw).frozen 0
                      refine hK.out _ _ (fun _ => ⟨kv3, (hb3.cell (p := ⟨wr.heap.size, 1, none⟩) hxlw).trans hxv⟩) ?_
                      clear hK hown3 hg3 hb3
                      dsimp only [Act.put]
                      refine last.wpAnyL_one (i := 12) (by kernel_rfl) rfl fun K hK => ?_
                      go_simp
                      refine hK.out _ _ (fun h => absurd rfl h) ?_
                      clear hK
                      refine last.wpAnyL_done (by kernel_rfl) ?_ _
                      obtain ⟨own2, W3, hW3, hext, htn, hn3, hw3, hl3, hg1, hg3⟩ := law_cut HLV.out HPS.out HBY.out HND.out hj HB3.out HO4.out
                      rw [← hW3]
                      have hs3 := htn.size
                      have hsv := HSV.out
                      have hX3 : Has W3 wr.heap.size _ := htn.has HXY.out (by omega)
                      have hG3 := Lib.hid (htn.has HGC.out (by omega))
                      have y1 : W3.cell? ⟨wr.heap.size, 1, none⟩ = some (.int .i64 j) := hX3.cell 1
                      have o0 := hext _ HLV.out.n.lt
                      rw [HLV.out.o0] at o0
                      have HB4 := Lib.hid (below_turn (HBW1.out.trans (HV.out.mono HBW1.out.size)) htn (fun k hk hS => by subst hS; omega))
                      have HP3 := Lib.hid ((HPR.out.below HV.out).keep htn hext (fun k hk e hS => by have := HLV.out.o1; subst hS; omega))
                      have HEXT := Lib.hid hext
                      have HN3 := Lib.hid hn3
                      have HW3 := Lib.hid hw3
                      have HL3' := Lib.hid hl3
                      have HG1 := Lib.hid hg1
                      have HG3 := Lib.hid hg3
                      have o1 := hext _ HLV.out.w_.lt
                      rw [HLV.out.o1] at o1
                      have o2 := hext _ HLV.out.l_.lt
                      rw [HLV.out.o2] at o2
                      have og := hext (wr.heap.size + 1) (by omega)
                      clear hW3 hext htn hn3 hw3 hl3 hg1 hg3 hX3 hsv
                      go_wp2_with fail
                      refine (Take_yes own2 1 w.heap.size 0 #[v, .int .i64 lost] _ v sl j W3 HN3.out rfl (by omega) (by omega) HG1.out hj).mono ?_
                      rintro e W4 ⟨u4, to4, bs4, v4, rfl, hlk, ht4, hn4, hg4, hr4⟩
                      rw [HJG.out] at hlk
                      injection hlk with hlk
                      injection hlk with hlk1 hlk2
                      subst hlk1 hlk2
                      obtain ⟨a4, n4, c4, rfl⟩ := owns_any hr4.1
                      obtain ⟨e4, -, -, hrd4⟩ := rd_of_owns hr4.1
                      subst e4
                      have HT4 := Lib.hid ht4
                      have HN4 := Lib.hid hn4
                      have HG4 := Lib.hid hg4
                      have HRD4 := Lib.hid hrd4
                      clear ht4 hn4 hg4 hr4 hrd4
                      go_wp2_with fail
                      refine (bare_nil 0 _).mono ?_
                      rintro e W5 ⟨rfl, rfl⟩
                      have HG4' : Hid (Has W4 (wr.heap.size + 1) (.cells #[.int .i64 gt, .slice au gb.length cu] 51)) := HT4.out.has hG3.out (fun h => by have := HX0.out (wr.heap.size + 1) (by omega); rcases h with h | h <;> omega)
                      have n0 : ∀ ob, (W4.alloc ob).cell? ⟨wr.heap.size + 1, 0, none⟩ = some (.int .i64 gt) := alloc_cell (HG4'.out.cell 0)
                      have n1 : ∀ ob, (W4.alloc ob).cell? ⟨wr.heap.size + 1, 1, none⟩ = some (.slice au gb.length cu) := alloc_cell (HG4'.out.cell 1)
                      have HBA : Hid (∀ ob, Below W4.heap.size W4 (W4.alloc ob)) := fun ob => (Below.refl _ _).alloc (Nat.le_refl _) ob
                      have cv1 : ∀ ob, (convert 33 9 (.slice a4 gb.length c4)).run Tryd.prog (W4.alloc ob) = .ok (.string ⟨gb.toArray⟩) (W4.alloc ob) := fun ob => convert_RD (HRD4.out.below (HBA.out ob) (Nat.le_refl _))
                      have HP4 := Lib.hid (HP3.out.keep HT4.out (Ext.refl _ _) (fun k hk e hS => by rcases hS with rfl | hS <;> omega))
                      have cv2 : ∀ ob, (convert 33 9 (.slice au gb.length cu)).run Tryd.prog (W4.alloc ob) = .ok (.string ⟨gb.toArray⟩) (W4.alloc ob) := fun ob => convert_RD ((rd_of_owns HP4.out.1).2.2.2.below (HBA.out ob) (Nat.le_refl _))
                      have e00 : ((0 : Int) == 0) = true := rfl
                      have egt : (gt != gt) = false := by simp
                      go_wp2_with fail
                      go_meet
                      case rel =>
                        refine ⟨own2, sl.eraseIdx j, lost, v4, .slice a3 m3 c3, LawAt.step (w := W4) ⟨HN4.out, HT4.out.has HW3.out (fun h => by rcases h with h | h <;> omega), HT4.out.has HL3'.out (fun h => by rcases h with h | h <;> omega), HG4.out, HG3.out.keep HT4.out (Ext.refl _ _) (fun k hk e hS => by rcases hS with rfl | hS <;> omega), o0, o1, o2⟩ (HBA.out _) (Ext.refl _ _), ?_, fun x hx => H100.out x (List.mem_of_mem_eraseIdx hx), ?_, fun k hk => ?_⟩
                        · rw [List.length_eraseIdx_of_lt hj]; omega
                        · refine (below_turn HB4.out HT4.out (fun k hk hS => ?_)).alloc (by have := HT4.out.size; omega) _
                          have e1 := HEXT.out k (by omega)
                          rw [HOWN1.out k hk] at e1
                          rcases hS with rfl | hS <;> omega
                        · rw [HEXT.out k (by omega)]; exact HOWN1.out k hk
                    · have he0 : e0 = 2 := by rw [HE0.out, if_neg hK]
                      subst he0
                      obtain ⟨va1, vc1, rfl⟩ := grams_len HL1.out.gn
                      as_aux_lemma =>
                        have T := Lib.hid (fun W (hW : Has W w.heap.size (.cells #[.slice va1 sl.length vc1, .int .i64 lost] 49)) => Take_no w.heap.size 0 va1 sl.length vc1 sk W (hW.cell 0) hK)
                        clear hK
                        go_wp2_with fail
                        refine (T.out _ (HL1.out.n.alloc _)).mono ?_
                        rintro e W2 ⟨rfl, hbx⟩
                        rw [World.size_alloc] at hbx
                        have hG1 := Has.new W1 (.cells #[.int .i64 0, .slice none 0 0] 51)
                        rw [hsz1] at hG1
                        have hs2 : wr.heap.size + 2 ≤ W2.heap.size := by have := hbx.size; rw [World.size_alloc] at this; omega
                        have HG2 := Lib.hid (hG1.below hbx (by omega))
                        have HB2 := Lib.hid ((Below.refl W1.heap.size W1).alloc (Nat.le_refl _) (.cells #[.int .i64 0, .slice none 0 0] 51) |>.trans (hbx.mono (by omega)))
                        clear hbx hG1
                        have HB3 := Lib.hid (HB2.out.alloc (by omega) (.cells #[.int .i64 0, .slice none 0 0] 51))
                        have R := Lib.hid (bare_errno 2 2 (W2.alloc (.cells #[.int .i64 0, .slice none 0 0] 51)) ((HG.out.below HBW1.out).below HB3.out))
                        have HN := Lib.hid (Has.new W2 (.cells #[.int .i64 0, .slice none 0 0] 51))
                        have e22 : ((2 : Int) == 2) = true := rfl
                        have cv : ∀ W, (convert 33 9 (.slice none 0 0)).run Tryd.prog W = .ok (.string ⟨#[]⟩) W := fun W => convert_RD (bound := 0) (l := []) ⟨rfl, fun h => by omega⟩
                        go_wp2_with fail
                        refine R.out.mono ?_
                        rintro e W3 ⟨rfl, hby⟩
                        rw [World.size_alloc] at hby
                        have g0 : W3.cell? ⟨wr.heap.size + 1, 0, none⟩ = some (.int .i64 0) := ((HG2.out.alloc _).below hby (by omega)).cell 0
                        have g1 : W3.cell? ⟨wr.heap.size + 1, 1, none⟩ = some (.slice none 0 0) := ((HG2.out.alloc _).below hby (by omega)).cell 1
                        have m0 : W3.cell? ⟨W2.heap.size, 0, none⟩ = some (.int .i64 0) := (HN.out.below hby (by omega)).cell 0
                        have m1 : W3.cell? ⟨W2.heap.size, 1, none⟩ = some (.slice none 0 0) := (HN.out.below hby (by omega)).cell 1
                        have HB4 := Lib.hid (HB3.out.trans (hby.mono (by omega)))
                        clear hby
                        go_wp2_with fail

                        go_meet
                        case rel => exact ⟨own1, sl, lost, _, _, HL1.out.step HB4.out (Ext.refl _ _), HLEN.out, H100.out, HBW1.out.trans (HB4.out.mono HBW1.out.size), HOWN1.out⟩
                  · have wb1 : (what == 1) = false := by simpa using w1
                    by_cases w2 : what = 2
                    · subst w2
                      by_cases hK : 0 ≤ sk ∧ sk < sl.length
                      · obtain ⟨j, rfl⟩ : ∃ j : Nat, sk = j := ⟨sk.toNat, by omega⟩
                        have he0 : e0 = 0 := by rw [HE0.out, if_pos hK]
                        subst he0
                        have hj : j < sl.length := by omega
                        clear hK
                        obtain ⟨⟨gt, gb⟩, hjg⟩ : ∃ p, sl[j]? = some p := ⟨_, List.getElem?_eq_getElem hj⟩
                        obtain ⟨g, cap, au, nu, cu, hsl, hl9, r0, r1, hpr⟩ := gram_at HL1.out.gw hjg
                        injection hsl with hsl1 hsl2 hsl3
                        subst hsl1 hsl3
                        have hglt : g < W1.heap.size := cell_lt r0
                        have HJG := Lib.hid hjg
                        have HPR := Lib.hid hpr
                        have hgb := H100.out _ (List.mem_of_getElem? hjg)
                        simp only at hgb
                        obtain ⟨hnu, hnc, hcm, hrdu⟩ := rd_of_owns hpr.1
                        have HRU := Lib.hid hrdu
                        have hj9 : (j : Int) < sl.length := by omega
                        subst hnu
                        clear hjg hpr hrdu hcm
                        as_aux_lemma =>
                          go_wp2_with fail
                          refine (Close_any own1 3 (w.heap.size + 1) (w.heap.size + 2) _ sl lost au gb.length cu gb gt W1 HL1.out.w_ HL1.out.l_ (by omega) (by rw [HL1.out.o1]; omega) (by rw [HL1.out.o1]; omega) (by rw [HL1.out.o2]; omega) (by rw [HL1.out.o2]; omega) HL1.out.gw HRU.out (by omega)).mono ?_
                          rintro e W2 ⟨rfl, hcp⟩
                          obtain ⟨own2, u2, hext, htn, hn2, hw2, hl2, hg1, hg3⟩ := HL1.out.close hcp
                          have hX2 : Has W2 wr.heap.size (.cells #[.int .i64 2, .int .i64 j, .int .i64 at_, .int .i64 tt, .slice sa sn sc] 54) := htn.has HX1.out (fun h => by
                            have hq := HX0.out _ (Nat.le_refl wr.heap.size)
                            have p1 := HL.out.w_.lt
                            have p2 := HL.out.l_.lt
                            rcases h with h | h | h <;> omega)
                          have y3 : W2.cell? ⟨wr.heap.size, 1, none⟩ = some (.int .i64 j) := hX2.cell 1
                          have HB2 := Lib.hid (below_turn HBW1.out htn (fun k hk hS => by
                            rcases hS with rfl | rfl | hS
                            · omega
                            · omega
                            · have := HOWN1.out k hk; omega))
                          have o0 := hext _ HL1.out.n.lt
                          rw [HL1.out.o0] at o0
                          have HEXT := Lib.hid hext
                          have HTN := Lib.hid htn
                          have HN2 := Lib.hid hn2
                          have HW2 := Lib.hid hw2
                          have HL2 := Lib.hid hl2
                          have HG1 := Lib.hid hg1
                          have HG3 := Lib.hid hg3
                          clear hcp hext htn hn2 hw2 hl2 hg1 hg3 hX2
                          go_wp2_with fail
                          refine (Twice_yes own2 1 w.heap.size 0 #[v, .int .i64 lost] _ v sl lost j gt gb W2 HN2.out rfl rfl (by omega) (by omega) HG1.out HJG.out (by omega)).mono ?_
                          rintro e W3 ⟨rfl, hsp⟩
                          have HSP := Lib.hid hsp
                          clear hsp
                          go_wp2_with fail
                          refine (bare_nil 0 W3).mono ?_
                          rintro e wx ⟨rfl, rfl⟩
                          go_wp2_with fail
                          go_meet
                          case rel => exact done_sent HL1.out HLEN.out H100.out hgb HBW1.out HOWN1.out HEXT.out HTN.out HW2.out HL2.out HG3.out HSP.out
                      · have he0 : e0 = 2 := by rw [HE0.out, if_neg hK]
                        subst he0
                        obtain ⟨va1, vc1, rfl⟩ := grams_len HL1.out.gn
                        as_aux_lemma =>
                          have T := Lib.hid (Twice_no w.heap.size 0 va1 sl.length vc1 sk W1 (HL1.out.n.cell 0) hK)
                          have R := Lib.hid (bare_errno 2 2 W1 (HG.out.below HBW1.out))
                          have e22 : ((2 : Int) == 2) = true := rfl
                          clear hK
                          go_wp2_with fail
                          refine T.out.mono ?_
                          rintro e wx ⟨rfl, rfl⟩
                          go_wp2_with fail
                          refine R.out.mono ?_
                          rintro e wx ⟨rfl, hbx⟩
                          have HBX := Lib.hid hbx
                          clear hbx
                          go_wp2_with fail
                          go_meet
                          case rel => exact ⟨own1, sl, lost, _, _, HL1.out.step HBX.out (Ext.refl _ _), HLEN.out, H100.out, HBW1.out.trans (HBX.out.mono HBW1.out.size), HOWN1.out⟩
                    · have wb2 : (what == 2) = false := by simpa using w2
                      by_cases w3 : what = 3
                      · subst w3
                        by_cases hK : 0 ≤ sk ∧ sk < sl.length
                        · obtain ⟨j, rfl⟩ : ∃ j : Nat, sk = j := ⟨sk.toNat, by omega⟩
                          have he0 : e0 = 0 := by rw [HE0.out, if_pos hK]
                          subst he0
                          have hj : j < sl.length := by omega
                          clear hK
                          obtain ⟨⟨gt, gb⟩, hjg⟩ : ∃ p, sl[j]? = some p := ⟨_, List.getElem?_eq_getElem hj⟩
                          obtain ⟨g, cap, au, nu, cu, hsl, hl9, r0, r1, hpr⟩ := gram_at HL1.out.gw hjg
                          injection hsl with hsl1 hsl2 hsl3
                          subst hsl1 hsl3
                          have hglt : g < W1.heap.size := cell_lt r0
                          have HJG := Lib.hid hjg
                          have HPR := Lib.hid hpr
                          have hgb := H100.out _ (List.mem_of_getElem? hjg)
                          simp only at hgb
                          obtain ⟨hnu, hnc, hcm, hrdu⟩ := rd_of_owns hpr.1
                          have HRU := Lib.hid hrdu
                          have hj9 : (j : Int) < sl.length := by omega
                          subst hnu
                          clear hjg hpr hrdu hcm
                          as_aux_lemma =>
                            have k1a := alloc_cell k1
                            have x1a := alloc_cell x1
                            have e00 : ((0 : Int) == 0) = true := rfl
                            have e20 : ((2 : Int) == 0) = false := rfl
                            have e22 : ((2 : Int) == 2) = true := rfl
                            by_cases ha0 : at_ < 0
                            · have d0 : decide (at_ < 0) = true := by simpa using ha0
                              have T := Lib.hid (fun y : Int => Spoil_far own1 1 w.heap.size 0 v sl j gt gb at_ y W1.drew (HL1.out.n.cell 0) (HL1.out.step (Below.refl _ _).drew (Ext.refl _ _)).gn HJG.out (by omega))
                              have R := Lib.hid (bare_errno 2 2 W1.drew (HG.out.below HBW1.out.drew))
                              go_upto_region 33 with fail
                              go_region
                              go_wp2_with fail
                              refine (T.out _).mono ?_
                              rintro e wx ⟨rfl, rfl⟩
                              go_wp2_with fail
                              refine R.out.mono ?_
                              rintro e wx ⟨rfl, hbx⟩
                              have HBX := Lib.hid hbx
                              clear hbx
                              go_wp2_with fail
                              go_meet
                              case rel => exact ⟨own1, sl, lost, _, _, (HL1.out.step (Below.refl _ _).drew (Ext.refl _ _)).step HBX.out (Ext.refl _ _), HLEN.out, H100.out, HBW1.out.drew.trans (HBX.out.mono HBW1.out.size), HOWN1.out⟩
                            · have d0 : decide (at_ < 0) = false := by simpa using ha0
                              by_cases hae : at_ < gb.length
                              · obtain ⟨q, rfl⟩ : ∃ q : Nat, at_ = q := ⟨at_.toNat, by omega⟩
                                have hq : q < gb.length := by omega
                                have d1 : decide ((gb.length : Int) ≤ (q : Int)) = false := by simpa using hq
                                have d2 : ¬ (gb.length : Int) ≤ (q : Int) := by omega
                                clear ha0
                                go_upto_region 33 with fail
                                go_region
                                go_upto_region 37 with fail
                                obtain ⟨y, hy⟩ : ∃ y : UInt8, tt % 256 = (y.toNat : Int) := ⟨UInt8.ofNat (tt % 256).toNat, by rw [UInt8.toNat_ofNat']; omega⟩
                                rw [hy]
                                obtain ⟨x, hx⟩ : ∃ x, gb[q]? = some x := ⟨_, List.getElem?_eq_getElem hq⟩
                                obtain ⟨i0, hi0, hz0, hz1, hz2⟩ := info_parts info5
                                obtain ⟨ps, hps, hrow, hbytes, hnd⟩ := HL1.out.gw
                                obtain ⟨g', cap', cur, eg, ho, hh, hgc, hgm, hcs, hcx⟩ := hrow.shape (by omega)
                                injection eg with eg1 eg2 eg3
                                injection eg1 with eg1
                                injection eg1 with eg1
                                subst eg1 eg3
                                obtain ⟨ba, boff, ea, hba, hcell⟩ := HRU.out.2 (by omega)
                                subst ea
                                obtain ⟨V, hV⟩ : ∃ V, V = W1.drew := ⟨_, rfl⟩
                                rw [← hV]
                                have HVB : Hid (Below W1.heap.size W1 V) := by rw [hV]; exact (Below.refl _ _).drew
                                have HLV := Lib.hid (HL1.out.step HVB.out (Ext.refl _ _))
                                have hVs : V.heap.size = W1.heap.size := by rw [hV]; rfl
                                have HXV := Lib.hid (HX1.out.below HVB.out hlb)
                                have HHV := Lib.hid (hh.below HVB.out hglt)
                                have k2 : V.cell? ⟨w.heap.size + 1, 0, none⟩ = some (.slice (some ⟨g, 0, none⟩) sl.length uc) := HLV.out.w_.cell 0
                                have x12 : V.cell? ⟨wr.heap.size, 1, none⟩ = some (.int .i64 j) := HXV.out.cell 1
                                have r02 : V.cell? ⟨g, j * 2, none⟩ = some (.int .i64 gt) := by rw [hV]; exact r0
                                have r12 : V.cell? ⟨g, j * 2 + 1, none⟩ = some (.slice (some ⟨ba, boff, none⟩) gb.length cu) := by rw [hV]; exact r1
                                have k2a := alloc_cell k2
                                have x12a := alloc_cell x12
                                have r02a := alloc_cell r02
                                have r12a := alloc_cell r12
                                have HPS := Lib.hid hps
                                have HO := Lib.hid ho
                                have HGC := Lib.hid hgc
                                have HGM := Lib.hid hgm
                                have HCS := Lib.hid hcs
                                have HCX := Lib.hid hcx
                                have HBY := Lib.hid (fun p hp => (hbytes p hp).below HVB.out)
                                have HND := Lib.hid hnd
                                have HE0 : Hid ((V.alloc (.cells #[] 5)).ownsRow V.heap.size 5 1 (.slice (some ⟨V.heap.size, 0, none⟩) 0 0) 0 []) := owns_new (l := []) (Has.new V (.cells #[] 5)) (Nat.le_refl _) rfl (Nat.zero_le _)
                                have HN0 : Hid (∀ (t : Nat) (u : Value), (gb.map B)[t]? = some u → (V.alloc (.cells #[] 5)).cell? ((⟨ba, boff, none⟩ : Addr).add t) = some u) := by
                                  intro t u hu
                                  rw [List.getElem?_map] at hu
                                  cases hb0 : gb[t]? with
                                  | none => rw [hb0] at hu; cases hu
                                  | some ch =>
                                    rw [hb0] at hu
                                    obtain rfl := Option.some.inj hu
                                    rw [show (⟨ba, boff, none⟩ : Addr).add t = ⟨ba, boff + t, none⟩ from by by_cases h0 : t = 0 <;> simp [Addr.add, h0]]
                                    refine alloc_cell ?_ _
                                    exact (HVB.out.cell (p := ⟨ba, boff + t, none⟩) hba).trans (hcell t ch hb0)
                                have HXQ := Lib.hid hx
                                have HY := Lib.hid hy
                                have hlV1 : w.heap.size + 1 < V.heap.size := by omega
                                have hlV2 : wr.heap.size < V.heap.size := by omega
                                have hlV3 : g < V.heap.size := by omega
                                have HVS := Lib.hid hVs
                                clear hV hVs hps hrow hbytes hnd ho hh hgc hgm hcs hcx hcell hx hy r0 r1 k1 x0 x1 x2 x3 x4 k1a x1a
                                go_wp2_with (at_builtin; refine wpList_append_own _ rfl (.tmp 146) (.tmp 152) 33 rfl V.heap.size 5 i0 (.int .u8 0) 1 1 Tryd.underlying33 hi0 hz0 hz1 hz2 rfl (by decide) _ _ _ rfl HE0.out ⟨ba, boff, none⟩ gb.length cu (gb.map B) rfl ?c0 HN0.out (B_one _) ?c3 ?c4 ?c5 ?_)
                                case c3 => unfold maxLen; omega
                                case c4 => omega
                                intro vb w2 hown hg hnn
                                have hb2 : Below V.heap.size V w2 := ((Below.refl _ _).alloc (Nat.le_refl _) _).grown hg (by simp) (fun k hk => by cases hk; exact Nat.le_refl _)
                                obtain ⟨gB, capB, curB, rfl, hbase, hhB, hnB, hmB, hsB, hxB⟩ : ∃ gB capB curB, vb = .slice (some ⟨gB, 0, none⟩) gb.length capB ∧ V.heap.size ≤ gB ∧ Has w2 gB (.cells curB 5) ∧ gb.length ≤ capB ∧ capB ≤ maxLen ∧ curB.size = capB * 1 ∧ curB.toList.take (gb.length * 1) = gb.map B := by
                                  rcases hown.2 with ⟨_, h0⟩ | ⟨gB, capB, curB, h1, h2, h3, h4, h5, h6, h7⟩
                                  · omega
                                  · exact ⟨gB, capB, curB, h1, h2, h3, h4, h5, h6, h7⟩
                                have y0 : w2.cell? ⟨w.heap.size + 1, 0, none⟩ = some (.slice (some ⟨g, 0, none⟩) sl.length uc) := (hb2.cell (p := ⟨w.heap.size + 1, 0, none⟩) hlV1).trans k2
                                have HX2 := Lib.hid (HXV.out.below hb2 hlV2)
                                have y1 : w2.cell? ⟨wr.heap.size, 1, none⟩ = some (.int .i64 j) := HX2.out.cell 1
                                have y2 : w2.cell? ⟨wr.heap.size, 2, none⟩ = some (.int .i64 q) := HX2.out.cell 2
                                have c0 : w2.cell? ⟨gB, q, none⟩ = some (.int .u8 x.toNat) := by
                                  rw [(row_cell hhB hxB q (by omega)).1, List.getElem?_map, HXQ.out]; rfl
                                have f0 : w2.frozen? ⟨gB, q, none⟩ = false := hhB.frozen q
                                have X := Lib.hid (xor_byte x y)
                                have hx9 := x.toNat_lt
                                have hy9 := y.toNat_lt
                                have HB2 := Lib.hid hb2
                                have HHB := Lib.hid hhB
                                have HSB := Lib.hid hsB
                                have HXB := Lib.hid hxB
                                have HMB := Lib.hid hmB
                                have hq9 : (q : Int) < gb.length := by omega
                                have n1 : gB ≠ w.heap.size + 1 := by omega
                                have n2 : gB ≠ wr.heap.size := by omega
                                have n3 : gB ≠ g := by omega
                                clear hown hg hnn hb2 hhB hsB hxB hmB
                                go_upto_region 39 with fail
                                rw [X.out]
                                obtain ⟨W3, hW3⟩ : ∃ W3, W3 = w2.setCell ⟨gB, q, none⟩ (.int .u8 ((x ^^^ y).toNat : Int)) := ⟨_, rfl⟩
                                rw [← hW3]
                                have hw3 := (HLV.out.w_.below HB2.out hlV1).far (p := ⟨gB, q, none⟩) (Ne.symm n1) (.int .u8 ((x ^^^ y).toNat : Int))
                                have hx3 := HX2.out.far (p := ⟨gB, q, none⟩) (Ne.symm n2) (.int .u8 ((x ^^^ y).toNat : Int))
                                have hg3 := (HHV.out.below HB2.out hlV3).far (p := ⟨gB, q, none⟩) (Ne.symm n3) (.int .u8 ((x ^^^ y).toNat : Int))
                                rw [← hW3] at hw3 hx3 hg3
                                have z0 : W3.cell? ⟨w.heap.size + 1, 0, none⟩ = some (.slice (some ⟨g, 0, none⟩) sl.length uc) := hw3.cell 0
                                have z1 : W3.cell? ⟨wr.heap.size, 1, none⟩ = some (.int .i64 j) := hx3.cell 1
                                have z2 : W3.cell? ⟨g, j * 2 + 1, none⟩ = some (.slice (some ⟨ba, boff, none⟩) gb.length cu) := (hg3.cell _).trans ((HHV.out.cell _).symm.trans r12)
                                have z3 : W3.frozen? ⟨g, j * 2 + 1, none⟩ = false := hg3.frozen _
                                have HW3 := Lib.hid hW3
                                clear hW3 hw3 hx3 hg3
                                go_upto_region 40 with fail
                                obtain ⟨own2, W4, hW4, hext, htn, hn4, hw4, hl4, hg1, hg3⟩ := law_spoil (q := q) (z := x ^^^ y) HLV.out HPS.out HO.out HHV.out HGC.out HGM.out HCS.out HCX.out HBY.out HND.out HJG.out HB2.out hbase HHB.out hnB HMB.out HSB.out HXB.out
                                have hW4' : W3.setCell ⟨g, j * 2 + 1, none⟩ (.slice (some ⟨gB, 0, none⟩) gb.length capB) = W4 := by rw [hW4, HW3.out]; rfl
                                rw [hW4']
                                have hs4 := htn.size
                                have hX4 : Has W4 wr.heap.size _ := htn.has HXV.out (fun h => by have := HX0.out _ (Nat.le_refl wr.heap.size); rw [h, HO.out] at this; omega)
                                have a1 : W4.cell? ⟨wr.heap.size, 1, none⟩ = some (.int .i64 j) := hX4.cell 1
                                have a2 : W4.cell? ⟨wr.heap.size, 2, none⟩ = some (.int .i64 q) := hX4.cell 2
                                have o0 := hext _ HLV.out.n.lt
                                rw [HLV.out.o0] at o0
                                have o1 := hext _ HLV.out.w_.lt
                                rw [HLV.out.o1] at o1
                                have o2 := hext _ HLV.out.l_.lt
                                rw [HLV.out.o2] at o2
                                have HB4 := Lib.hid (below_turn (HBW1.out.trans (HVB.out.mono HBW1.out.size)) htn (fun k hk hS => by have := HOWN1.out k hk; rw [hS, HO.out] at this; omega))
                                have HEXT := Lib.hid hext
                                have HN4 := Lib.hid hn4
                                have HW4 := Lib.hid hw4
                                have HL4 := Lib.hid hl4
                                have HG1 := Lib.hid hg1
                                have HG3 := Lib.hid hg3
                                clear hW4 hW4' hext htn hn4 hw4 hl4 hg1 hg3 hX4
                                go_wp2_with fail
                                refine (Spoil_yes own2 1 w.heap.size 0 v sl j gt gb q x y W4 (HN4.out.cell 0) HG1.out HJG.out HXQ.out).mono ?_
                                rintro e W5 ⟨rfl, ht5, hg5⟩
                                have HT5 := Lib.hid ht5
                                have HG5 := Lib.hid hg5
                                clear ht5 hg5
                                go_wp2_with fail
                                refine (bare_nil 0 W5).mono ?_
                                rintro e wx ⟨rfl, rfl⟩
                                go_wp2_with fail
                                go_meet
                                case rel =>
                                  refine ⟨own2, sl.set j (gt, gb.set q (x ^^^ y)), lost, v, _, ⟨HT5.out.has HN4.out (by omega), HT5.out.has HW4.out (by omega), HT5.out.has HL4.out (by omega), HG5.out, ?_, o0, o1, o2⟩, ?_, fun p hp => ?_, ?_, fun k hk => ?_⟩
                                  rotate_left
                                  · rw [List.length_set]; exact HLEN.out
                                  · rcases List.mem_or_eq_of_mem_set hp with hp | rfl
                                    · exact H100.out p hp
                                    · simp only [List.length_set]; exact hgb
                                  · refine below_turn HB4.out HT5.out (fun k hk hS => ?_)
                                    have e1 := HEXT.out k (by omega)
                                    rw [HOWN1.out k hk] at e1
                                    omega
                                  · rw [HEXT.out k (by omega)]; exact HOWN1.out k hk
                                  · exact HG3.out.keep HT5.out (Ext.refl _ _) (fun k hk e hS => by omega)
                              · have hae' : (gb.length : Int) ≤ at_ := by omega
                                have d1 : decide ((gb.length : Int) ≤ at_) = true := by simpa using hae'
                                have T := Lib.hid (fun y : Int => Spoil_far own1 1 w.heap.size 0 v sl j gt gb at_ y W1.drew (HL1.out.n.cell 0) (HL1.out.step (Below.refl _ _).drew (Ext.refl _ _)).gn HJG.out (by omega))
                                have R := Lib.hid (bare_errno 2 2 W1.drew (HG.out.below HBW1.out.drew))
                                clear ha0 hae
                                go_upto_region 33 with fail
                                go_region
                                go_wp2_with fail
                                refine (T.out _).mono ?_
                                rintro e wx ⟨rfl, rfl⟩
                                go_wp2_with fail
                                refine R.out.mono ?_
                                rintro e wx ⟨rfl, hbx⟩
                                have HBX := Lib.hid hbx
                                clear hbx
                                go_wp2_with fail
                                go_meet
                                case rel => exact ⟨own1, sl, lost, _, _, (HL1.out.step (Below.refl _ _).drew (Ext.refl _ _)).step HBX.out (Ext.refl _ _), HLEN.out, H100.out, HBW1.out.drew.trans (HBX.out.mono HBW1.out.size), HOWN1.out⟩
                        · have he0 : e0 = 2 := by rw [HE0.out, if_neg hK]
                          subst he0
                          obtain ⟨va1, vc1, rfl⟩ := grams_len HL1.out.gn
                          as_aux_lemma =>
                            have T := Lib.hid (fun y : Int => Spoil_no w.heap.size 0 va1 sl.length vc1 sk at_ y W1.drew (HL1.out.n.cell 0) hK)
                            have R := Lib.hid (bare_errno 2 2 W1.drew (HG.out.below HBW1.out.drew))
                            have e22 : ((2 : Int) == 2) = true := rfl
                            have e20 : ((2 : Int) == 0) = false := rfl
                            clear hK
                            go_upto_region 33 with fail
                            go_region
                            go_wp2_with fail
                            refine (T.out _).mono ?_
                            rintro e wx ⟨rfl, rfl⟩
                            go_wp2_with fail
                            refine R.out.mono ?_
                            rintro e wx ⟨rfl, hbx⟩
                            have HBX := Lib.hid hbx
                            clear hbx
                            go_wp2_with fail
                            go_meet
                            case rel => exact ⟨own1, sl, lost, _, _, (HL1.out.step (Below.refl _ _).drew (Ext.refl _ _)).step HBX.out (Ext.refl _ _), HLEN.out, H100.out, HBW1.out.drew.trans (HBX.out.mono HBW1.out.size), HOWN1.out⟩
                      · have wb3 : (what == 3) = false := by simpa using w3
                        as_aux_lemma =>
                          go_wp2_with fail
                          go_meet
                          case rel => exact ⟨own1, sl, lost, v, _, HL1.out, HLEN.out, H100.out, HBW1.out, HOWN1.out⟩
              case rest =>
                as_aux_lemma =>
                  obtain ⟨own2, l2, lost2, v2, v3, hL2, hlen2, h1002, hbw2, hown2⟩ := hcut
                  obtain ⟨ua2, uc2, rfl⟩ := grams_len hL2.gw
                  obtain ⟨va2, vc2, rfl⟩ := grams_len hL2.gn
                  have M := Lib.hid (Many_any w.heap.size 0 va2 l2.length vc2 wc.drew (hL2.n.cell 0))
                  have L := Lib.hid (Lost_any w.heap.size 0 lost2 wc.drew (hL2.n.cell 1))
                  have z1 : wc.cell? ⟨w.heap.size + 1, 0, none⟩ = some (.slice ua2 l2.length uc2) := hL2.w_.cell 0
                  have z2 : wc.cell? ⟨w.heap.size + 2, 0, none⟩ = some (.int .i64 lost2) := hL2.l_.cell 0
                  have HLL2 := Lib.hid hL2
                  have HBW2 := Lib.hid hbw2
                  have HOWN2 := Lib.hid hown2
                  have H1002 := Lib.hid h1002
                  have n1 : ((l2.length : Int) != (l2.length : Int)) = false := by simp
                  have n2 : (lost2 != lost2) = false := by simp
                  have hz1 := hL2.w_.lt
                  have hz2 := hL2.l_.lt
                  clear hL2 hbw2 hown2 h1002
                  go_upto_region 42 with fail
                  go_cut [185] (fun c wx => c = .bool false ∧ wx = wc.drew)
                  case first =>
                    go_region_with (first
                      | (refine M.out.mono ?_; rintro e wx ⟨rfl, rfl⟩)
                      | (refine L.out.mono ?_; rintro e wx ⟨rfl, rfl⟩))
                    all_goals
                      go_wp2_with fail
                      go_meet
                      exact ⟨rfl, rfl⟩
                  case rest =>
                    obtain ⟨rfl, rfl⟩ := hcut
                    go_wp2_with fail
                    go_roundg (gk - 1)
                    case measure => omega
                    case rel => exact ⟨k + 1, own2, l2, lost2, .slice va2 l2.length vc2, .slice ua2 l2.length uc2, by omega, by go_num, HLL2.out.step (Below.refl _ _).drew (Ext.refl _ _), hlen2, H1002.out, HBW2.out.drew, HOWN2.out⟩
      · go_wp2_with fail
        go_ret
        exact ⟨rfl, HBW.out⟩
end Go.Proofs.YthldfogmmjompaaDoor.net
