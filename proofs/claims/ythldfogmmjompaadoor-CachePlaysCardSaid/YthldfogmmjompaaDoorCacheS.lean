/-
  Contracts of the walks of the reference's cache: Objects.
-/
import Derived.Test.YthldfogmmjompaaDoorCacheR
namespace Go.Proofs.YthldfogmmjompaaDoor.cache
open Go.RowKit Go.Proofs.YthldfogmmjompaaDoor.heap Go.Proofs.YthldfogmmjompaaDoor.own

def noR : RIt := ⟨0, [], 0, 0, 4611686018427387904⟩
def better (last : Int) (best x : RIt) : RIt := if last < x.used ∧ x.used < best.used then x else best
def sel (last : Int) (l : List RIt) : RIt := l.foldl (better last) noR
def rstate (l : List RIt) : Nat → List Int × Int
  | 0 => ([], 0)
  | k + 1 => ((rstate l k).1 ++ [(sel (rstate l k).2 l).obj], (sel (rstate l k).2 l).used)
def robjs (l : List RIt) : List Int := (rstate l l.length).1
theorem rstate_len (l : List RIt) (k : Nat) : (rstate l k).1.length = k := by
  induction k with
  | zero => rfl
  | succ k ih => simp [rstate, ih]
theorem fold_snoc {l : List RIt} {k : Nat} {x : RIt} {last : Int} (h : l[k]? = some x) : (l.take (k + 1)).foldl (better last) noR = better last ((l.take k).foldl (better last) noR) x := by
  rw [take_snoc h, List.foldl_append]; rfl
def rarr (x : RIt) : Array Value := #[.int .i64 x.obj, .string ⟨x.data.toArray⟩, .int .i64 x.ver, .int .i64 x.till, .int .i64 x.used]

set_option maxHeartbeats 2000000 in
set_option maxRecDepth 100000 in
theorem RObjects_any (own : Nat → Nat) (T b : Nat) (v : Value) (l : List RIt) (w : World) (k0 : w.cell? ⟨b, 0, none⟩ = some v) (h : RItems own T w v l) (hl : l.length ≤ 1000) :
    Calls Tryd.prog 37 #[.pointer (some ⟨b, 0, none⟩)] w fun e w' => ∃ u, e = .returned u ∧ Ints w.heap.size w' u (robjs l) ∧ Below w.heap.size w w' := by
  obtain ⟨i0, hi0, hz0, hz1, hz2⟩ := info_parts infoInt
  obtain ⟨a, c, rfl, hcell⟩ := h.shape
  have hblt : b < w.heap.size := by
    rcases Nat.lt_or_ge b w.heap.size with h' | h'
    · exact h'
    · simp [World.cell?, Array.getElem?_eq_none h'] at k0
  have HC := Lib.hid hcell
  clear h hcell
  go_enter Tryd.func37, Tryd.ntmps37
  go_wp2
  go_loopw [3, 4, 5, 7, 13, 21] (fun u last _ _ i _ wr => ∃ k : Nat, k ≤ l.length ∧ i = .int .i64 k ∧ last = .int .i64 (rstate l k).2 ∧ Ints w.heap.size wr u (rstate l k).1 ∧ Below w.heap.size w wr) (fun _ _ _ _ i _ _ => l.length - (intOf i).toNat)
  case atStart => exact ⟨0, by omega, rfl, rfl, ⟨rfl, .inl ⟨rfl, rfl⟩⟩, Below.refl _ _⟩
  case round =>
    obtain ⟨k, hk, rfl, rfl, hin, hb'⟩ := hrel
    obtain ⟨ua, uc, rfl⟩ := hin.slice
    rw [rstate_len] at *
    have HIN := Lib.hid hin
    have HBW := Lib.hid hb'
    have hsw := hb'.size
    obtain ⟨last, hlast⟩ : ∃ last, last = (rstate l k).2 := ⟨_, rfl⟩
    have HLAST := Lib.hid hlast
    rw [← hlast]
    clear hin hlast
    by_cases hlt' : k < l.length
    · have k1 : wr.cell? ⟨b, 0, none⟩ = some (.slice a l.length c) := (hb'.cell (p := ⟨b, 0, none⟩) hblt).trans k0
      have hbz : b < wr.heap.size := by omega
      clear hb'
      obtain ⟨wo, rfl⟩ : ∃ wo : World, wo = wr := ⟨_, rfl⟩
      go_wp2_with fail
      have hW0 : Has (wo.alloc (.cells (rarr noR) 124)) wo.heap.size (.cells (rarr noR) 124) := Has.new wo _
      go_loopw [7, 21] (fun _ i wr => ∃ j : Nat, j ≤ l.length ∧ i = .int .i64 j ∧ Has wr wo.heap.size (.cells (rarr ((l.take j).foldl (better last) noR)) 124) ∧ Below wo.heap.size wo wr) (fun _ i _ => l.length - (intOf i).toNat)
      case atStart => exact ⟨0, by omega, rfl, hW0, (Below.refl _ _).alloc (Nat.le_refl _) _⟩
      case round =>
        obtain ⟨j, hj, rfl, hbest, hbq⟩ := hrel
        generalize hy : (l.take j).foldl (better last) noR = y at hbest
        have HY := Lib.hid hy
        have HBEST := Lib.hid hbest
        have HBQ := Lib.hid hbq
        have hsq := hbest.lt
        clear hy
        by_cases hlt2 : j < l.length
        · obtain ⟨g, rfl, hg, -, hc⟩ := HC.out (by omega)
          obtain ⟨x, hkx⟩ : ∃ x, l[j]? = some x := ⟨_, List.getElem?_eq_getElem hlt2⟩
          have hcx := hc j _ hkx
          have hbc : ∀ t, wr.cell? ⟨g, j * 5 + t, none⟩ = w.cell? ⟨g, j * 5 + t, none⟩ := fun t => (hbq.cell (p := ⟨g, j * 5 + t, none⟩) (by show g < wo.heap.size; omega)).trans (HBW.out.cell (p := ⟨g, j * 5 + t, none⟩) hg)
          have c0 : wr.cell? ⟨g, j * 5, none⟩ = some (.int .i64 x.obj) := (hbc 0).trans (hcx 0 (by omega))
          have c1 : wr.cell? ⟨g, j * 5 + 1, none⟩ = some (.string ⟨x.data.toArray⟩) := (hbc 1).trans (hcx 1 (by omega))
          have c2 : wr.cell? ⟨g, j * 5 + 2, none⟩ = some (.int .i64 x.ver) := (hbc 2).trans (hcx 2 (by omega))
          have c3 : wr.cell? ⟨g, j * 5 + 3, none⟩ = some (.int .i64 x.till) := (hbc 3).trans (hcx 3 (by omega))
          have c4 : wr.cell? ⟨g, j * 5 + 4, none⟩ = some (.int .i64 x.used) := (hbc 4).trans (hcx 4 (by omega))
          have b0 : wr.cell? ⟨wo.heap.size, 0, none⟩ = some (.int .i64 y.obj) := hbest.cell 0
          have b1 : wr.cell? ⟨wo.heap.size, 1, none⟩ = some (.string ⟨y.data.toArray⟩) := hbest.cell 1
          have b2 : wr.cell? ⟨wo.heap.size, 2, none⟩ = some (.int .i64 y.ver) := hbest.cell 2
          have b3 : wr.cell? ⟨wo.heap.size, 3, none⟩ = some (.int .i64 y.till) := hbest.cell 3
          have b4 : wr.cell? ⟨wo.heap.size, 4, none⟩ = some (.int .i64 y.used) := hbest.cell 4
          have f0 := hbest.frozen 0
          have f1 := hbest.frozen 1
          have f2 := hbest.frozen 2
          have f3 := hbest.frozen 3
          have f4 := hbest.frozen 4
          have HKX := Lib.hid hkx
          have hne : wr.heap.size ≠ wo.heap.size := by omega
          clear hbc hcx hc hkx hbest hbq
          by_cases h1 : last < x.used
          · have d1 : decide (last < x.used) = true := decide_eq_true h1
            by_cases h2 : x.used < y.used
            · have d2 : decide (x.used < y.used) = true := decide_eq_true h2
              go_wp2_with fail
              go_roundw
              case rel =>
                refine ⟨j + 1, by omega, by go_num, ?_, ?_⟩
                · rw [fold_snoc HKX.out, HY.out]
                  unfold better
                  rw [if_pos ⟨h1, h2⟩]
                  exact (((((HBEST.out.set_ 0 (.int .i64 x.obj)).set_ 1 (.string ⟨x.data.toArray⟩)).set_ 2 (.int .i64 x.ver)).set_ 3 (.int .i64 x.till)).set_ 4 (.int .i64 x.used)).alloc _
                · exact (((((HBQ.out.setCell (p := ⟨wo.heap.size, 0, none⟩) (Nat.le_refl _) _).setCell (p := ⟨wo.heap.size, 1, none⟩) (Nat.le_refl _) _).setCell (p := ⟨wo.heap.size, 2, none⟩) (Nat.le_refl _) _).setCell (p := ⟨wo.heap.size, 3, none⟩) (Nat.le_refl _) _).setCell (p := ⟨wo.heap.size, 4, none⟩) (Nat.le_refl _) _).alloc (by simp only [World.setCell]; simp; omega) _
              case measure => simp [intOf]; omega
            · have d2 : decide (x.used < y.used) = false := decide_eq_false h2
              go_wp2_with fail
              go_roundw
              case rel =>
                refine ⟨j + 1, by omega, by go_num, ?_, HBQ.out.alloc (Nat.le_of_lt hsq) _⟩
                rw [fold_snoc HKX.out, HY.out]
                unfold better
                rw [if_neg (fun h => h2 h.2)]
                exact HBEST.out.alloc _
              case measure => simp [intOf]; omega
          · have d1 : decide (last < x.used) = false := decide_eq_false h1
            go_wp2_with fail
            go_roundw
            case rel =>
              refine ⟨j + 1, by omega, by go_num, ?_, HBQ.out.alloc (Nat.le_of_lt hsq) _⟩
              rw [fold_snoc HKX.out, HY.out]
              unfold better
              rw [if_neg (fun h => h1 h.1)]
              exact HBEST.out.alloc _
            case measure => simp [intOf]; omega
        · obtain rfl : j = l.length := by omega
          have b0 : wr.cell? ⟨wo.heap.size, 0, none⟩ = some (.int .i64 y.obj) := hbest.cell 0
          have b4 : wr.cell? ⟨wo.heap.size, 4, none⟩ = some (.int .i64 y.used) := hbest.cell 4
          have HOW : Hid ((wr.alloc (.cells #[.int .i64 y.obj] 3)).ownsRow w.heap.size 3 1 (.slice ua k uc) k (nums (rstate l k).1)) := by
            have h1 := HIN.out
            unfold Ints at h1
            rw [rstate_len] at h1
            exact (owns_below h1 hbq).alloc _
          have hyy : y = sel last l := by have := HY.out; rw [List.take_length] at this; exact this.symm
          have HYY := Lib.hid hyy
          clear hyy hbest hbq
          go_wp2_with (at_builtin; refine wpList_append_own _ rfl (.tmp 40) (.tmp 43) 80 rfl w.heap.size 3 i0 (.int .i64 0) 1 8 Tryd.underlying80 hi0 hz0 hz1 hz2 rfl (by decide) _ _ _ rfl HOW.out ⟨wr.heap.size, 0, none⟩ 1 1 [.int .i64 y.obj] rfl rfl ?c1 (by simp [Value.oneCell']) ?c3 ?c4 ?c5 ?_)
          case c1 =>
            intro t u hu
            match t, hu with
            | 0, hu =>
              obtain rfl : Value.int .i64 y.obj = u := by simpa using hu
              exact (Has.new wr (.cells #[.int .i64 y.obj] 3)).cell 0
          case c3 => unfold maxLen; omega
          case c4 => omega
          case c5 => simp; omega
          intro u2 w2 hown2 hg2 _
          go_wp2_with fail
          go_roundw
          case rel =>
            have e1 : rstate l (k + 1) = ((rstate l k).1 ++ [y.obj], y.used) := by rw [HYY.out, HLAST.out]; rfl
            refine ⟨k + 1, by omega, by go_num, by rw [e1], ?_, ?_⟩
            · rw [e1]
              exact Ints.snoc (rstate_len l k) hown2
            · exact ((HBW.out.trans (HBQ.out.mono hsw)).alloc (by omega) _).grown hg2 (by simp; omega) (fun j hj => owns_ge HOW.out j hj)
          case measure => simp [intOf]; omega
    · obtain rfl : k = l.length := by omega
      go_wp2_with fail
      go_ret
      exact ⟨_, rfl, HIN.out, HBW.out⟩
end Go.Proofs.YthldfogmmjompaaDoor.cache
