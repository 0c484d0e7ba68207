/-
  The contract of the walk of the reference's Decode.
-/
import Derived.Test.YthldfogmmjompaaDoorRefWire
import Derived.Test.YthldfogmmjompaaDoorRefDecP
import Derived.Deep.RegionHeld3
namespace Go.Proofs.YthldfogmmjompaaDoor.refw
open Go.RowKit Go.Proofs.YthldfogmmjompaaDoor.heap Go.Proofs.YthldfogmmjompaaDoor.wire

def arr7 (l : List Int) : Array Value := ints7 (l.getD 0 0) (l.getD 1 0) (l.getD 2 0) (l.getD 3 0) (l.getD 4 0) (l.getD 5 0) (l.getD 6 0)
theorem arr7_set (l : List Int) (k : Nat) (x y : Int) (hk : k < 7) (hl : l.length = k) : (arr7 (l ++ [y])).setIfInBounds k (.int .i64 x) = arr7 (l ++ [x]) := by
  match k, hk with
  | 0, _ => obtain rfl := List.eq_nil_of_length_eq_zero hl; rfl
  | 1, _ => match l, hl with | [a], _ => rfl
  | 2, _ => match l, hl with | [a, b], _ => rfl
  | 3, _ => match l, hl with | [a, b, c], _ => rfl
  | 4, _ => match l, hl with | [a, b, c, d], _ => rfl
  | 5, _ => match l, hl with | [a, b, c, d, e], _ => rfl
  | 6, _ => match l, hl with | [a, b, c, d, e, f], _ => rfl
theorem arr7_zero (l : List Int) (k : Nat) (hk : k < 7) (hl : l.length = k) : arr7 l = arr7 (l ++ [(0 : Int)]) := by
  match k, hk with
  | 0, _ => obtain rfl := List.eq_nil_of_length_eq_zero hl; rfl
  | 1, _ => match l, hl with | [a], _ => rfl
  | 2, _ => match l, hl with | [a, b], _ => rfl
  | 3, _ => match l, hl with | [a, b, c], _ => rfl
  | 4, _ => match l, hl with | [a, b, c, d], _ => rfl
  | 5, _ => match l, hl with | [a, b, c, d, e], _ => rfl
  | 6, _ => match l, hl with | [a, b, c, d, e, f], _ => rfl
theorem arr7_cell {w : World} {g : Nat} {l : List Int} {y : Int} {t : TypeId} {k : Nat} (h : Has w g (.cells (arr7 (l ++ [y])) t)) (hk : k < 7) (hl : l.length = k) :
    w.cell? ⟨g, k, none⟩ = some (.int .i64 y) := by
  rw [h.cell]
  match k, hk with
  | 0, _ => obtain rfl := List.eq_nil_of_length_eq_zero hl; rfl
  | 1, _ => match l, hl with | [a], _ => rfl
  | 2, _ => match l, hl with | [a, b], _ => rfl
  | 3, _ => match l, hl with | [a, b, c], _ => rfl
  | 4, _ => match l, hl with | [a, b, c, d], _ => rfl
  | 5, _ => match l, hl with | [a, b, c, d, e], _ => rfl
  | 6, _ => match l, hl with | [a, b, c, d, e, f], _ => rfl

/-- What the reference's Decode gives. -/
def rdecV (bs : List UInt8) : Value := match decB bs with
  | some m => .tuple #[m.val, .int .i64 0]
  | none => .tuple #[.agg (nCells []), .int .i64 3]
theorem rdecV_none {bs : List UInt8} (h : decB bs = none) : rdecV bs = .tuple #[.agg (nCells []), .int .i64 3] := by simp [rdecV, h]
theorem rdecV_some {bs : List UInt8} {m : Msg} (h : decB bs = some m) : rdecV bs = .tuple #[m.val, .int .i64 0] := by simp [rdecV, h]
theorem rdec_results (tmps : Array Value) (W : World) (g : Nat) (cs : Array Value) (e : Value) (h2 : tmps.getD 2 undef = .pointer (some ⟨g, 0, none⟩)) (h3 : tmps.getD 3 undef = e)
    (hg : Has W g (.cells cs 36)) (hs : cs.size = 9) : (results Tryd.f19 tmps).run Tryd.prog W = .ok (.tuple #[.agg cs, e]) W := by
  rw [results_cell_tmp Tryd.results19, h2, h3]
  have hi : (Tryd.prog.info? 36).map (·.size) = some cs.size := by rw [hs]; kernel_rfl
  have := run_loadVar_row (P := Tryd.prog) W g 36 36 cs (0, 0) _ hg Tryd.underlying36 rfl hi
  simp [asAddr, Result.andThen, this]
theorem rfail_end (R : Ending → World → Prop) (tmps : Array Value) (wr : World) (S : Nat) (old : Array Value) (h2 : tmps.getD 2 undef = .pointer (some ⟨S, 0, none⟩)) (h3 : tmps.getD 3 undef = .int .i64 3)
    (hg : Has wr S (.cells old 36)) (hR : R (.returned (.tuple #[.agg (nCells []), .int .i64 3])) (wr.setRow S (nCells []))) :
    bodyPost Tryd.prog Tryd.f19 R .ret { tmps := tmps, defers := [] } (wr.setRow S (nCells [])) :=
  bodyPost_ret (rdec_results _ _ S _ _ h2 h3 (hg.setRow _) rfl) rfl hR
theorem pow_succ_le (j : Nat) (h : j ≤ 6) : 128 ^ j ≤ 4398046511104 := by
  have : 128 ^ j ≤ 128 ^ 6 := Nat.pow_le_pow_right (by omega) h
  have e : (128 ^ 6 : Nat) = 4398046511104 := by decide
  omega

theorem pow_int (j : Nat) : (128 : Int) ^ j = ((128 ^ j : Nat) : Int) := by simp
theorem val_step (acc j : Nat) (c : UInt8) (hj : j ≤ 6) (ha : acc < 4398046511104) :
    wrap64 ((acc : Int) + wrap64 ((c.toNat : Int) % 128 * 128 ^ j)) = ((acc + 128 ^ j * (c.toNat % 128) : Nat) : Int) := by
  have h2 := pow_succ_le j hj
  rw [pow_int]
  have e : (c.toNat : Int) % 128 = ((c.toNat % 128 : Nat) : Int) := by omega
  rw [e]
  have hx : c.toNat % 128 < 128 := Nat.mod_lt _ (by omega)
  generalize c.toNat % 128 = x at *
  generalize 128 ^ j = p at *
  have h3 : x * p ≤ 127 * 4398046511104 := Nat.mul_le_mul (by omega) h2
  rw [← Int.natCast_mul, wire.wrap_small (x * p) (by omega), ← Int.natCast_add, wire.wrap_small _ (by omega), Nat.mul_comm p]
theorem pow_step (j : Nat) (hj : j < 6) : wrap64 ((128 : Int) ^ j * 128) = ((128 ^ (j + 1) : Nat) : Int) := by
  have h2 := pow_succ_le (j + 1) (by omega)
  have e : (128 : Int) ^ j * 128 = ((128 ^ (j + 1) : Nat) : Int) := by rw [pow_int, Nat.pow_succ]; simp
  rw [e]
  exact wire.wrap_small _ (by omega)

set_option maxHeartbeats 2000000 in
set_option maxRecDepth 100000 in
theorem rDecode_any (A : Option Addr) (n cap : Nat) (bs : List UInt8) (w : World) (hrd : RD w w.heap.size A n bs) (hcap : n ≤ cap) (hn : n ≤ 9223372036854775807) :
    Calls Tryd.prog 19 #[.slice A n cap] w fun e w' => e = .returned (rdecV bs) ∧ Below w.heap.size w w' := by
  have H1 := Lib.hid ((Has.new w (.cells (nCells []) 36)).alloc (.cells (arr7 []) 115))
  have H2 := Lib.hid (Has.new (w.alloc (.cells (nCells []) 36)) (.cells (arr7 []) 115))
  have HB := Lib.hid (((Below.refl w.heap.size w).alloc (Nat.le_refl _) (.cells (nCells []) 36)).alloc (by simp) (.cells (arr7 []) 115))
  have HS : Hid (((w.alloc (.cells (nCells []) 36)).alloc (.cells (arr7 []) 115)).heap.size = w.heap.size + 2) := by show _ = _; simp
  rw [World.size_alloc] at H2
  have HRD := Lib.hid hrd
  have HRD0 := Lib.hid hrd
  clear hrd
  go_enter Tryd.func19, Tryd.ntmps19
  go_wp2_with fail
  obtain ⟨w2, hw2⟩ : ∃ w2, w2 = (w.alloc (.cells (nCells []) 36)).alloc (.cells (arr7 []) 115) := ⟨_, rfl⟩
  have hw3 : (w.alloc (.cells #[.int .i64 0, .int .i64 0, .int .i64 0, .int .i64 0, .int .i64 0, .int .i64 0, .int .i64 0, .bool false, .string ⟨#[]⟩] 36)).alloc (.cells #[.int .i64 0, .int .i64 0, .int .i64 0, .int .i64 0, .int .i64 0, .int .i64 0, .int .i64 0] 115) = w2 := hw2.symm
  rw [hw3]
  rw [← hw2] at H1 H2 HB HS
  clear hw2 hw3
  have R2 := Lib.hid (HRD.out.below HB.out (Nat.le_refl _))
  go_loopw [5, 6, 7, 8, 9, 14] (fun v _ _ _ _ i wr => ∃ (k : Nat) (A' : Option Addr) (n' cap' : Nat) (bs' : List UInt8) (l : List Int), k ≤ 7 ∧ i = .int .i64 k ∧ v = .slice A' n' cap' ∧ n' ≤ n ∧ n' ≤ cap' ∧ RD wr w.heap.size A' n' bs' ∧ l.length = k ∧ GTo bs l k bs' ∧ Below (w.heap.size + 1) w2 wr ∧ Has wr (w.heap.size + 1) (.cells (arr7 l) 115)) (fun _ _ _ _ _ i _ => 7 - (intOf i).toNat)
  case atStart => exact ⟨0, A, n, cap, bs, [], by omega, rfl, rfl, Nat.le_refl _, hcap, R2.out, rfl, GTo.zero bs, Below.refl _ _, H2.out⟩
  case round =>
    obtain ⟨k, A', n', cap', bs', l, hk, rfl, rfl, hnn, hcc, hrd, hl, hre, hbel, hm⟩ := hrel
    have HL := Lib.hid hl
    have HRE := Lib.hid hre
    have HM := Lib.hid hm
    have HR := Lib.hid hrd
    clear hl hre hm hrd
    by_cases hlt : k < 7
    · have hd : decide ((k : Int) < 7) = true := by simp; omega
      have HM0 := Lib.hid ((arr7_zero l k hlt HL.out) ▸ HM.out)
      obtain ⟨wo, rfl⟩ : ∃ wo : World, wo = wr := ⟨_, rfl⟩
      go_wp2_with fail
      go_loopw [5, 7, 8, 9] (fun v t i _ wq => ∃ (j acc : Nat) (A2 : Option Addr) (n2 cap2 : Nat) (bs2 : List UInt8), j ≤ 6 ∧ acc < 128 ^ j ∧ v = .slice A2 n2 cap2 ∧ n2 ≤ n ∧ n2 ≤ cap2 ∧ t = .int .i64 ((128 ^ j : Nat) : Int) ∧ i = .int .i64 j ∧ RD wq w.heap.size A2 n2 bs2 ∧ PartG bs' j acc bs2 ∧ Below (w.heap.size + 1) w2 wq ∧ Has wq (w.heap.size + 1) (.cells (arr7 (l ++ [(acc : Int)])) 115)) (fun _ _ i _ _ => 8 - (intOf i).toNat)
      case atStart => exact ⟨0, 0, A', n', cap', bs', by omega, by simp, rfl, hnn, hcc, rfl, rfl, HR.out, PartG.zero bs', hbel, HM0.out⟩
      case round =>
        obtain ⟨j, acc, A2, n2, cap2, bs2, hj, hacc, rfl, hn2, hc2, rfl, rfl, hr2, hpart, hbel2, hm2⟩ := hrel
        have HPA := Lib.hid hpart
        have HAC := Lib.hid hacc
        have HR2 := Lib.hid hr2
        have HM2 := Lib.hid hm2
        clear hpart hacc hr2 hm2
        have HR1 : Hid (Has wr w.heap.size (.cells (nCells []) 36)) := H1.out.below hbel2 (by omega)
        have HBW : Hid (Below w.heap.size w wr) := HB.out.trans (hbel2.mono (by omega))
        by_cases hj6 : j < 6
        · by_cases h0 : n2 = 0
          · have HSH := Lib.hid (HRE.out.none_ hlt (HPA.out.short (.inr (List.eq_nil_of_length_eq_zero (by rw [HR2.out.1, h0])))))
            subst h0
            have hj5 : decide ((5 : Int) < j) = false := by simp; omega
            go_wp2_with (refine wpList_store_row rfl 36 (.tmp 2) (.tmp 26) rfl w.heap.size _ rfl rfl 36 _ HR1.out (by kernel_rfl) (by kernel_rfl) (by kernel_rfl) ?_)
            exact rfail_end _ _ wr w.heap.size _ rfl rfl HR1.out ⟨by rw [rdecV_none HSH.out], below_setRow HBW.out (Nat.le_refl _) _⟩
          · obtain ⟨b, off, rfl, hb, hcell⟩ := HR2.out.at_ (by omega)
            have hlen := HR2.out.1
            obtain ⟨c, r, rfl⟩ : ∃ c r, bs2 = c :: r := by
              cases bs2 with
              | nil => simp at hlen; omega
              | cons c r => exact ⟨c, r, rfl⟩
            have cj : wr.cell? ⟨b, off, none⟩ = some (.int .u8 c.toNat) := hcell 0 c rfl
            clear hcell
            have HLEN := Lib.hid hlen
            clear hlen
            have hc256 := c.toNat_lt
            have hj5 : decide ((5 : Int) < j) = false := by simp; omega
            have hn0 : ((n2 : Int) == 0) = false := by simp; omega
            have ca := arr7_cell HM2.out hlt HL.out
            have fa : wr.frozen? ⟨w.heap.size + 1, k, none⟩ = false := HM2.out.frozen k
            have hp := pow_succ_le j hj
            have hp1 : 0 < 128 ^ j := Nat.pow_pos (by omega)
            have hmul : c.toNat % 128 * 128 ^ j ≤ 127 * 4398046511104 := Nat.mul_le_mul (by omega) hp
            have hac2 : acc < 4398046511104 := Nat.lt_of_lt_of_le HAC.out hp
            have e2 : (Option.map (fun x : Addr => x.add 1) (some ⟨b, off, none⟩)) = some ⟨b, off + 1, none⟩ := by simp [Addr.add]
            have hRD := HR2.out.drop (k := 1) (by omega) hc2
            rw [e2] at hRD
            have HRD2 := Lib.hid hRD
            clear hRD e2
            have hM2 := HM2.out.set_ k (.int .i64 ((acc + 128 ^ j * (c.toNat % 128) : Nat) : Int))
            rw [arr7_set l k _ _ hlt HL.out] at hM2
            have HM3 := Lib.hid hM2
            clear hM2
            have HVAL := Lib.hid (val_step acc j c hj hac2)
            have HPW := Lib.hid (pow_step j hj6)
            by_cases hc : c.toNat < 128
            · have HDN := Lib.hid (HRE.out.step hlt (HPA.out.done hj6 hc))
              go_wp2
              go_roundw
              case rel => exact ⟨k + 1, _, _, _, r, l ++ [((acc + 128 ^ j * (c.toNat % 128) : Nat) : Int)], by omega, by go_num, rfl, by omega, by omega, HRD2.out.setCell (by simp) _, by simp [HL.out], HDN.out, hbel2.setCell (by simp) _, by rw [HVAL.out]; exact HM3.out⟩
              case measure => simp [intOf]; omega
            · have HMO := Lib.hid (HPA.out.more hj6 hc)
              have HLT := Lib.hid (acc_lt acc j c HAC.out)
              go_wp2
              go_roundw
              case rel => exact ⟨j + 1, acc + 128 ^ j * (c.toNat % 128), _, _, _, r, by omega, HLT.out, rfl, by omega, by omega, by rw [HPW.out], by go_num, HRD2.out.setCell (by simp) _, HMO.out, hbel2.setCell (by simp) _, by rw [HVAL.out]; exact HM3.out⟩
              case measure => simp [intOf]; omega
        · have HSH := Lib.hid (HRE.out.none_ hlt (HPA.out.short (.inl (by omega))))
          have hj5 : decide ((5 : Int) < j) = true := by simp; omega
          go_wp2_with (refine wpList_store_row rfl 36 (.tmp 2) (.tmp 26) rfl w.heap.size _ rfl rfl 36 _ HR1.out (by kernel_rfl) (by kernel_rfl) (by kernel_rfl) ?_)
          all_goals
            exact rfail_end _ _ wr w.heap.size _ rfl rfl HR1.out ⟨by rw [rdecV_none HSH.out], below_setRow HBW.out (Nat.le_refl _) _⟩
    · obtain rfl : k = 7 := by omega
      have HR1 : Hid (Has wr w.heap.size (.cells (nCells []) 36)) := H1.out.below hbel (by omega)
      have HBW : Hid (Below w.heap.size w wr) := HB.out.trans (hbel.mono (by omega))
      have hsr : w.heap.size + 2 ≤ wr.heap.size := by have := hbel.size; have := HS.out; omega
      by_cases h2 : n' < 2
      · have HT := Lib.hid (HRE.out.end_short (by have := HR.out.1; omega))
        go_wp2_with (refine wpList_store_row rfl 36 (.tmp 2) (.tmp 50) rfl w.heap.size _ rfl rfl 36 _ HR1.out (by kernel_rfl) (by kernel_rfl) (by kernel_rfl) ?_)
        exact rfail_end _ _ wr w.heap.size _ rfl rfl HR1.out ⟨by rw [rdecV_none HT.out], below_setRow HBW.out (Nat.le_refl _) _⟩
      · obtain ⟨a1, a2, a3, a4, a5, a6, a7, rfl⟩ : ∃ a1 a2 a3 a4 a5 a6 a7, l = [a1, a2, a3, a4, a5, a6, a7] := by
          match l, HL.out with
          | [a1, a2, a3, a4, a5, a6, a7], _ => exact ⟨a1, a2, a3, a4, a5, a6, a7, rfl⟩
        obtain ⟨b, off, rfl, hb, hcell⟩ := HR.out.at_ (by omega)
        have hlen := HR.out.1
        obtain ⟨x, y, r, rfl⟩ : ∃ x y r, bs' = x :: y :: r := by
          match bs', hlen with
          | [], hlen => simp at hlen; omega
          | [_], hlen => simp at hlen; omega
          | x :: y :: r, _ => exact ⟨x, y, r, rfl⟩
        have HE := Lib.hid HRE.out.end_
        have c0 : wr.cell? ⟨b, off, none⟩ = some (.int .u8 x.toNat) := hcell 0 x rfl
        clear hcell
        have HLEN := Lib.hid hlen
        clear hlen
        have hn0 : 0 < n' := by omega
        have hbl : b < wr.heap.size := by omega
        have hsl : w.heap.size + 1 < wr.heap.size := by omega
        have m0 : wr.cell? ⟨w.heap.size + 1, 0, none⟩ = some (.int .i64 a1) := HM.out.cell 0
        have m1 : wr.cell? ⟨w.heap.size + 1, 1, none⟩ = some (.int .i64 a2) := HM.out.cell 1
        have m2 : wr.cell? ⟨w.heap.size + 1, 2, none⟩ = some (.int .i64 a3) := HM.out.cell 2
        have m3 : wr.cell? ⟨w.heap.size + 1, 3, none⟩ = some (.int .i64 a4) := HM.out.cell 3
        have m4 : wr.cell? ⟨w.heap.size + 1, 4, none⟩ = some (.int .i64 a5) := HM.out.cell 4
        have m5 : wr.cell? ⟨w.heap.size + 1, 5, none⟩ = some (.int .i64 a6) := HM.out.cell 5
        have m6 : wr.cell? ⟨w.heap.size + 1, 6, none⟩ = some (.int .i64 a7) := HM.out.cell 6
        have HRD := Lib.hid (HR.out.drop (k := 2) (by omega) hcc)
        have e2 : (Option.map (fun x : Addr => x.add 2) (some ⟨b, off, none⟩)) = some ⟨b, off + 2, none⟩ := by simp [Addr.add]
        have cv0 : (convert 33 9 (.slice (if cap' = 2 then some ⟨b, off, none⟩ else some ⟨b, off + 2, none⟩) (n' - 2) (cap' - 2))).run Tryd.prog wr = .ok (.string ⟨r.toArray⟩) wr := by
          rw [← e2]; exact convert_RD HRD.out
        have cvd : (convert 33 9 (.slice (if cap' = 2 then some ⟨b, off, none⟩ else some ⟨b, off + 2, none⟩) (n' - 2) (cap' - 2))).run Tryd.prog wr.drew = .ok (.string ⟨r.toArray⟩) wr.drew := by
          rw [← e2]; exact convert_RD (w := wr.drew) HRD.out
        have cvAd : ∀ o : Obj, (convert 33 9 (.slice (if cap' = 2 then some ⟨b, off, none⟩ else some ⟨b, off + 2, none⟩) (n' - 2) (cap' - 2))).run Tryd.prog (wr.alloc o).drew = .ok (.string ⟨r.toArray⟩) (wr.alloc o).drew := by
          intro o
          rw [← e2]; exact convert_RD (w := (wr.alloc o).drew) (HRD.out.below ((Below.refl _ _).alloc (Nat.le_refl _) _).drew (by omega))
        have cvA : ∀ o : Obj, (convert 33 9 (.slice (if cap' = 2 then some ⟨b, off, none⟩ else some ⟨b, off + 2, none⟩) (n' - 2) (cap' - 2))).run Tryd.prog (wr.alloc o) = .ok (.string ⟨r.toArray⟩) (wr.alloc o) := by
          intro o
          rw [← e2]; exact convert_RD (w := wr.alloc o) (HRD.out.below ((Below.refl _ _).alloc (Nat.le_refl _) _) (by omega))
        clear e2
        obtain ⟨lb, hlb, hle⟩ : ∃ lb : Bool, decide (x.toNat = 1) = lb ∧ ((x.toNat : Int) == 1) = lb := ⟨_, rfl, by
          by_cases h1 : x.toNat = 1
          · simp [h1]
          · simp [h1]; omega⟩
        have HLB := Lib.hid hlb
        clear hlb
        go_wp2_with fail
        go_region_held3 (fun W => W.cell? ⟨w.heap.size + 1, 0, none⟩ = some (.int .i64 a1) ∧ W.cell? ⟨w.heap.size + 1, 1, none⟩ = some (.int .i64 a2) ∧ W.cell? ⟨w.heap.size + 1, 2, none⟩ = some (.int .i64 a3) ∧ W.cell? ⟨w.heap.size + 1, 3, none⟩ = some (.int .i64 a4) ∧ W.cell? ⟨w.heap.size + 1, 4, none⟩ = some (.int .i64 a5) ∧ W.cell? ⟨w.heap.size + 1, 5, none⟩ = some (.int .i64 a6) ∧ W.cell? ⟨w.heap.size + 1, 6, none⟩ = some (.int .i64 a7) ∧ W.cell? ⟨b, off, none⟩ = some (.int .u8 x.toNat) ∧ (convert 33 9 (.slice (if cap' = 2 then some ⟨b, off, none⟩ else some ⟨b, off + 2, none⟩) (n' - 2) (cap' - 2))).run Tryd.prog W = .ok (.string ⟨r.toArray⟩) W) (first | exact ⟨m0, m1, m2, m3, m4, m5, m6, c0, cv0⟩ | exact ⟨m0, m1, m2, m3, m4, m5, m6, c0, cvd⟩ | (refine ⟨?_, ?_, ?_, ?_, ?_, ?_, ?_, ?_, ?_⟩ <;> first | exact cvA _ | exact cvAd _ | go_simp)) (fail)
        have HX : Hid (Has (wr.alloc (.cells (msgCells a1 a2 a3 a4 a5 a6 a7 lb ⟨r.toArray⟩) 36)).drew wr.heap.size (.cells (msgCells a1 a2 a3 a4 a5 a6 a7 lb ⟨r.toArray⟩) 36)) := (Has.new wr _).drew
        have HX2 : Hid (Below wr.heap.size wr (wr.alloc (.cells (msgCells a1 a2 a3 a4 a5 a6 a7 lb ⟨r.toArray⟩) 36)).drew) := ((Below.refl _ _).alloc (Nat.le_refl _) _).drew
        have HX3 : Hid ((wr.alloc (.cells (msgCells a1 a2 a3 a4 a5 a6 a7 lb ⟨r.toArray⟩) 36)).drew.heap.size = wr.heap.size + 1) := World.size_alloc _ _
        generalize (wr.alloc (.cells #[.int .i64 a1, .int .i64 a2, .int .i64 a3, .int .i64 a4, .int .i64 a5, .int .i64 a6, .int .i64 a7, .bool lb, .string ⟨r.toArray⟩] 36)).drew = W at HX HX2 HX3 ⊢
        clear cv0 cvd cvA cvAd m0 m1 m2 m3 m4 m5 m6 c0
        have hrl : r.length ≤ 9223372036854775807 := by have := HLEN.out; simp only [List.length_cons] at this; omega
        have C := Lib.hid (rEncode_any { kind := a1, client := a2, number := a3, epoch := a4, session := a5, object := a6, version := a7, lease := lb, data := r } W hrl)
        have HE2 : Hid (decB bs = if Msg.right { kind := a1, client := a2, number := a3, epoch := a4, session := a5, object := a6, version := a7, lease := lb, data := r } = true ∧ encB { kind := a1, client := a2, number := a3, epoch := a4, session := a5, object := a6, version := a7, lease := lb, data := r } = bs then some { kind := a1, client := a2, number := a3, epoch := a4, session := a5, object := a6, version := a7, lease := lb, data := r } else none) := by
          have := HE.out
          unfold mk9 at this
          rw [HLB.out] at this
          exact this
        have hWs : wr.heap.size + 1 ≤ W.heap.size := by have := HX3.out; omega
        go_wp2_with (refine wpList_load_row rfl 36 (.tmp 10) rfl wr.heap.size rfl 36 (msgCells a1 a2 a3 a4 a5 a6 a7 lb ⟨r.toArray⟩) (0, 0) _ HX.out Tryd.underlying36 rfl (by kernel_rfl) ?_)
        all_goals
          refine C.out.mono ?_
          rintro e w4 ⟨hy4, hn4, hb4⟩
          have hs4 := hb4.size
          have H4 := Lib.hid (HX.out.below hb4 HX.out.lt)
          have H4r : Hid (Has w4 w.heap.size (.cells (nCells []) 36)) := (HR1.out.below HX2.out (by omega)).below hb4 (by omega)
          have HB4 : Hid (Below w.heap.size w w4) := (HBW.out.trans (HX2.out.mono (by omega))).trans (hb4.mono (by omega))
          have HRB := Lib.hid (((HRD0.out.below HBW.out (Nat.le_refl _)).below HX2.out (by omega)).below hb4 (by omega))
          cases hrt : Msg.right { kind := a1, client := a2, number := a3, epoch := a4, session := a5, object := a6, version := a7, lease := lb, data := r }
          · have HT : Hid (decB bs = none) := by rw [Hid, HE2.out, hrt]; simp
            obtain rfl := hn4 hrt
            clear hrt hy4 hn4 hb4 C HE HE2
            go_wp2_with (refine wpList_store_row rfl 36 (.tmp 2) (.tmp 87) rfl w.heap.size _ rfl rfl 36 _ H4r.out (by kernel_rfl) (by kernel_rfl) (by kernel_rfl) ?_)
            exact rfail_end _ _ w4 w.heap.size _ rfl rfl H4r.out ⟨by rw [rdecV_none HT.out], below_setRow HB4.out (Nat.le_refl _) _⟩
          · obtain ⟨g4, cap4, rfl, hrd4, hcap4⟩ := hy4 hrt
            have HRT := Lib.hid hrt
            clear hrt hy4 hn4 hb4 C HE
            generalize hm : ({ kind := a1, client := a2, number := a3, epoch := a4, session := a5, object := a6, version := a7, lease := lb, data := r } : Msg) = m at *
            have cvx := convert_RD (cap := cap4) hrd4
            have cvb := convert_RD (cap := cap) HRB.out
            by_cases heq : encB m = bs
            · have HT : Hid (decB bs = some m) := by rw [Hid, HE2.out, if_pos ⟨HRT.out, heq⟩]
              have hbb : (ByteArray.mk (encB m).toArray) = ⟨bs.toArray⟩ := by rw [heq]
              clear heq HE2 HRT
              go_wp2_with (first | refine wpList_load_row rfl 36 (.tmp 10) rfl wr.heap.size rfl 36 (msgCells a1 a2 a3 a4 a5 a6 a7 lb ⟨r.toArray⟩) (0, 0) _ H4.out Tryd.underlying36 rfl (by kernel_rfl) ?_ | refine wpList_store_row rfl 36 (.tmp 2) (.tmp 88) rfl w.heap.size (msgCells a1 a2 a3 a4 a5 a6 a7 lb ⟨r.toArray⟩) rfl rfl 36 _ H4r.out (by kernel_rfl) rfl (msgCells_one _ _ _ _ _ _ _ _ _) ?_)
              all_goals
                exact bodyPost_ret (rdec_results _ _ w.heap.size _ _ rfl rfl (H4r.out.setRow _) rfl) rfl ⟨by rw [rdecV_some HT.out, ← hm]; rfl, below_setRow HB4.out (Nat.le_refl _) _⟩
            · have HT : Hid (decB bs = none) := by rw [Hid, HE2.out, if_neg (fun h => heq h.2)]
              have hbq : (encB m == bs) = false := beq_eq_false_iff_ne.2 heq
              clear heq HE2 HRT
              go_wp2_with (refine wpList_store_row rfl 36 (.tmp 2) (.tmp 87) rfl w.heap.size _ rfl rfl 36 _ H4r.out (by kernel_rfl) (by kernel_rfl) (by kernel_rfl) ?_)
              all_goals
                exact rfail_end _ _ w4 w.heap.size _ rfl rfl H4r.out ⟨by rw [rdecV_none HT.out], below_setRow HB4.out (Nat.le_refl _) _⟩
end Go.Proofs.YthldfogmmjompaaDoor.refw
