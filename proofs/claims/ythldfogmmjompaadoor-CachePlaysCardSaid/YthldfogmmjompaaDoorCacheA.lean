/-
  Contracts of the walks of package cache: find, slices.Delete of an item, Drop, Clear.
-/
import Derived.Test.YthldfogmmjompaaDoorRows
import Derived.Test.YthldfogmmjompaaDoorRow
import Derived.Test.YthldfogmmjompaaDoorErrs
import Derived.Deep.RegionLaw
import Derived.Deep.AppendLies
import Derived.Deep.DrawnRows
namespace Go.Proofs.YthldfogmmjompaaDoor.cache
open Go.RowKit Go.Proofs.YthldfogmmjompaaDoor.heap Go.Proofs.YthldfogmmjompaaDoor.own

/-- An item of a cache. -/
structure It where
  obj : Int
  data : List UInt8
  ver : Int
  till : Int
def itc (x : It) : List Value := [.int .i64 x.obj, .string ⟨x.data.toArray⟩, .int .i64 x.ver, .int .i64 x.till]
def It.val (x : It) : Value := .agg #[.int .i64 x.obj, .string ⟨x.data.toArray⟩, .int .i64 x.ver, .int .i64 x.till]
def icells (l : List It) : List Value := l.flatMap itc
/-- A slice of items, its row T's. -/
def Items (own : Nat → Nat) (T : Nat) (w : World) (v : Value) (l : List It) : Prop := Row own T w 122 4 v l.length (icells l)

theorem icells_one (l : List It) : ∀ u ∈ icells l, u.oneCell' = true := by
  intro u hu
  obtain ⟨x, -, hu⟩ := List.mem_flatMap.1 hu
  simp only [itc, List.mem_cons, List.not_mem_nil, or_false] at hu
  rcases hu with rfl | rfl | rfl | rfl <;> rfl
theorem icells_get (l : List It) (k : Nat) (x : It) (h : l[k]? = some x) (j : Nat) (hj : j < 4) : (icells l)[k * 4 + j]? = (itc x)[j]? := by
  induction l generalizing k with
  | nil => simp at h
  | cons q l ih =>
    cases k with
    | zero =>
      obtain rfl : q = x := by simpa using h
      simp only [icells, List.flatMap_cons, Nat.zero_mul, Nat.zero_add]
      rw [List.getElem?_append_left (by simpa [itc] using hj)]
    | succ k =>
      have := ih k (by simpa using h)
      simp only [icells, List.flatMap_cons] at this ⊢
      rw [List.getElem?_append_right (by simp [itc]; omega)]
      rw [show (k + 1) * 4 + j - (itc q).length = k * 4 + j from by simp [itc]; omega]
      exact this

/-- Where the object's item is; -1: nowhere. -/
def findAt (l : List It) (o : Int) : Int := match l.findIdx? (fun x => decide (x.obj = o)) with | some k => k | none => -1

theorem find_fn (x : It) (o : Int) (p : Nat) (w : World) (hp : w.cell? ⟨p, 0, none⟩ = some (.int .i64 o)) :
    Calls Tryd.prog 68 #[x.val, .pointer (some ⟨p, 0, none⟩)] w fun e w' => e = .returned (.bool (x.obj == o)) ∧ Below w.heap.size w w' := by
  have hlt : p < w.heap.size := by
    rcases Nat.lt_or_ge p w.heap.size with h' | h'
    · exact h'
    · simp [World.cell?, Array.getElem?_eq_none h'] at hp
  unfold It.val
  go_enter Tryd.func68, Tryd.ntmps68
  go_wp2
  go_ret
  exact ⟨rfl, (Below.refl _ _).alloc (Nat.le_refl _) _⟩

theorem find_hit (l : List It) (o : Int) (k : Nat) (x : It) (h : l[k]? = some x) (hx : x.obj = o) (hn : ∀ y ∈ l.take k, y.obj ≠ o) : findAt l o = k := by
  unfold findAt
  have : l.findIdx? (fun x => decide (x.obj = o)) = some k := by
    rw [List.findIdx?_eq_some_iff_getElem]
    obtain ⟨hk, rfl⟩ := List.getElem?_eq_some_iff.1 h
    refine ⟨hk, by simpa using hx, fun j hj => ?_⟩
    have := hn l[j] (by
      rw [List.mem_take_iff_getElem]
      exact ⟨j, by omega, rfl⟩)
    simpa using this
  rw [this]
theorem find_miss (l : List It) (o : Int) (hn : ∀ y ∈ l, y.obj ≠ o) : findAt l o = -1 := by
  unfold findAt
  have : l.findIdx? (fun x => decide (x.obj = o)) = none := by
    rw [List.findIdx?_eq_none_iff]
    intro x hx
    simpa using hn x hx
  rw [this]

set_option maxHeartbeats 1000000 in
set_option maxRecDepth 100000 in
theorem index_any (own : Nat → Nat) (T : Nat) (v : Value) (l : List It) (o : Int) (p : Nat) (w : World) (h : Items own T w v l) (hp : w.cell? ⟨p, 0, none⟩ = some (.int .i64 o)) :
    Calls Tryd.prog 67 #[v, .func (.func 68) #[] #[.pointer (some ⟨p, 0, none⟩)]] w fun e w' => e = .returned (.int .i64 (findAt l o)) ∧ Below w.heap.size w w' := by
  have hsh : ∃ a c, v = .slice a l.length c ∧ l.length ≤ 9223372036854775807 ∧ (0 < l.length → ∃ g, a = some ⟨g, 0, none⟩ ∧ g < w.heap.size ∧ ∀ k x, l[k]? = some x → ∀ j, j < 4 → w.cell? ⟨g, k * 4 + j, none⟩ = (itc x)[j]?) := by
    rcases Nat.eq_zero_or_pos l.length with h0 | h0
    · rcases h.1.2 with ⟨rfl, e⟩ | ⟨g, cap, cur, rfl, _⟩
      · exact ⟨none, 0, by rw [← h0], by omega, fun h => by omega⟩
      · exact ⟨_, _, rfl, by omega, fun h => by omega⟩
    · obtain ⟨g, cap, cur, rfl, ho, hh, hnc, hcm, hcs, hcx⟩ := h.shape h0
      refine ⟨_, _, rfl, by unfold maxLen at hcm; omega, fun _ => ⟨g, rfl, hh.lt, fun k x hk j hj => ?_⟩⟩
      have hkl := (List.getElem?_eq_some_iff.1 hk).1
      rw [(row_cell hh hcx (k * 4 + j) (by omega)).1, icells_get l k x hk j hj]
  obtain ⟨a, c, rfl, hl9, hcell⟩ := hsh
  have hplt : p < w.heap.size := by
    rcases Nat.lt_or_ge p w.heap.size with h' | h'
    · exact h'
    · simp [World.cell?, Array.getElem?_eq_none h'] at hp
  have HC := Lib.hid hcell
  have HP := Lib.hid hp
  clear h hcell hp
  go_enter Tryd.func67, Tryd.ntmps67
  go_wp2
  go_loopw [8, 5] (fun i _ wr => ∃ k : Nat, k ≤ l.length ∧ i = .int .i64 k ∧ (∀ y ∈ l.take k, y.obj ≠ o) ∧ Below w.heap.size w wr) (fun i _ _ => l.length - (intOf i).toNat)
  case atStart => exact ⟨0, by omega, rfl, (fun y hy => by simp at hy), Below.refl _ _⟩
  case round =>
    obtain ⟨k, hk, rfl, hno, hb⟩ := hrel
    have HNO := Lib.hid hno
    clear hno
    by_cases hlt : k < l.length
    · obtain ⟨g, rfl, hg, hc⟩ := HC.out (by omega)
      have hkx : l[k]? = some l[k] := List.getElem?_eq_getElem hlt
      have hcx := hc k _ hkx
      have hbc : ∀ j, wr.cell? ⟨g, k * 4 + j, none⟩ = w.cell? ⟨g, k * 4 + j, none⟩ := fun j => hb.cell (p := ⟨g, k * 4 + j, none⟩) hg
      generalize hx : l[k] = x at hkx hcx
      have c0 : wr.cell? ⟨g, k * 4, none⟩ = some (.int .i64 x.obj) := (hbc 0).trans (hcx 0 (by omega))
      have c1 : wr.cell? ⟨g, k * 4 + 1, none⟩ = some (.string ⟨x.data.toArray⟩) := (hbc 1).trans (hcx 1 (by omega))
      have c2 : wr.cell? ⟨g, k * 4 + 2, none⟩ = some (.int .i64 x.ver) := (hbc 2).trans (hcx 2 (by omega))
      have c3 : wr.cell? ⟨g, k * 4 + 3, none⟩ = some (.int .i64 x.till) := (hbc 3).trans (hcx 3 (by omega))
      have F := Lib.hid (find_fn x o p wr ((hb.cell (p := ⟨p, 0, none⟩) hplt).trans HP.out))
      have HKX := Lib.hid hkx
      have HX := Lib.hid hx
      unfold It.val at F
      clear hbc hcx hc hkx hx
      by_cases he : x.obj = o
      · have heq : (x.obj == o) = true := beq_iff_eq.2 he
        have HE := Lib.hid he
        have HEQ := Lib.hid heq
        clear he heq
        go_wp2_with fail
        refine F.out.mono ?_
        rintro e w2 ⟨rfl, hb2⟩
        rw [HEQ.out]
        go_wp2_with fail
        go_ret
        exact ⟨by rw [find_hit l o k x HKX.out HE.out HNO.out]; rfl, hb.trans (hb2.mono hb.size)⟩
      · have heq : (x.obj == o) = false := beq_eq_false_iff_ne.2 he
        have HE := Lib.hid he
        have HEQ := Lib.hid heq
        clear he heq
        go_wp2_with fail
        refine F.out.mono ?_
        rintro e w2 ⟨rfl, hb2⟩
        rw [HEQ.out]
        go_wp2_with fail
        go_roundw
        case rel =>
          refine ⟨k + 1, by omega, by go_num, fun y hy => ?_, hb.trans (hb2.mono hb.size)⟩
          rw [List.take_add_one, HKX.out] at hy
          rcases List.mem_append.1 hy with hy | hy
          · exact HNO.out y hy
          · obtain rfl : y = x := by simpa using hy
            exact HE.out
        case measure => simp [intOf]; omega
    · obtain rfl : k = l.length := by omega
      go_wp2_with fail
      go_ret
      exact ⟨by rw [find_miss l o (fun y hy => HNO.out y (by rw [List.take_length]; exact hy))]; rfl, hb⟩

theorem find_any (own : Nat → Nat) (T b q : Nat) (v : Value) (l : List It) (o : Int) (w : World) (k0 : w.cell? ⟨b, q, none⟩ = some v) (h : Items own T w v l) :
    Calls Tryd.prog 61 #[.pointer (some ⟨b, q, none⟩), .int .i64 o] w fun e w' => e = .returned (.int .i64 (findAt l o)) ∧ Below w.heap.size w w' := by
  obtain ⟨a, m, c, rfl⟩ : ∃ a m c, v = .slice a m c := by
    rcases h.1.2 with ⟨rfl, _⟩ | ⟨g, cap, cur, rfl, _⟩ <;> exact ⟨_, _, _, rfl⟩
  have hlt : b < w.heap.size := by
    rcases Nat.lt_or_ge b w.heap.size with h' | h'
    · exact h'
    · simp [World.cell?, Array.getElem?_eq_none h'] at k0
  have C := Lib.hid (index_any own T (.slice a m c) l o w.heap.size (w.alloc (.cells #[.int .i64 o] 3)) (h.below ((Below.refl _ _).alloc (Nat.le_refl _) _)) ((Has.new w (.cells #[.int .i64 o] 3)).cell 0))
  clear h
  go_enter Tryd.func61, Tryd.ntmps61
  go_wp2_with fail
  refine C.out.mono ?_
  rintro e w2 ⟨rfl, hb2⟩
  go_wp2_with fail
  go_ret
  exact ⟨rfl, ((Below.refl _ _).alloc (Nat.le_refl _) _).trans (hb2.mono (by simp))⟩
end Go.Proofs.YthldfogmmjompaaDoor.cache
