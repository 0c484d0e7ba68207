/-
  Contracts of the walks of the reference's cache: Drop.
-/
import Derived.Test.YthldfogmmjompaaDoorCacheE
namespace Go.Proofs.YthldfogmmjompaaDoor.cache
open Go.RowKit Go.Proofs.YthldfogmmjompaaDoor.heap Go.Proofs.YthldfogmmjompaaDoor.own

/-- An item of the reference. -/
structure RIt where
  obj : Int
  data : List UInt8
  ver : Int
  till : Int
  used : Int
def ritc (x : RIt) : List Value := [.int .i64 x.obj, .string ⟨x.data.toArray⟩, .int .i64 x.ver, .int .i64 x.till, .int .i64 x.used]
def rcells (l : List RIt) : List Value := l.flatMap ritc
def RItems (own : Nat → Nat) (T : Nat) (w : World) (v : Value) (l : List RIt) : Prop := Row own T w 124 5 v l.length (rcells l)
theorem ritc_one (x : RIt) : ∀ u ∈ ritc x, u.oneCell' = true := by
  intro u hu
  simp only [ritc, List.mem_cons, List.not_mem_nil, or_false] at hu
  rcases hu with rfl | rfl | rfl | rfl | rfl <;> rfl
theorem rcells_one (l : List RIt) : ∀ u ∈ rcells l, u.oneCell' = true := by
  intro u hu
  obtain ⟨x, -, hu⟩ := List.mem_flatMap.1 hu
  exact ritc_one x u hu
theorem rcells_get (l : List RIt) (k : Nat) (x : RIt) (h : l[k]? = some x) (j : Nat) (hj : j < 5) : (rcells l)[k * 5 + j]? = (ritc x)[j]? := by
  induction l generalizing k with
  | nil => simp at h
  | cons q l ih =>
    cases k with
    | zero =>
      obtain rfl : q = x := by simpa using h
      simp only [rcells, List.flatMap_cons, Nat.zero_mul, Nat.zero_add]
      rw [List.getElem?_append_left (by simpa [ritc] using hj)]
    | succ k =>
      have := ih k (by simpa using h)
      simp only [rcells, List.flatMap_cons] at this ⊢
      rw [List.getElem?_append_right (by simp [ritc]; omega)]
      rw [show (k + 1) * 5 + j - (ritc q).length = k * 5 + j from by simp [ritc]; omega]
      exact this
theorem infoRItem : (Tryd.prog.info? 124).map (fun i => (i.zero, i.size, i.bytes)) = some (some (.agg #[.int .i64 0, .string ByteArray.empty, .int .i64 0, .int .i64 0, .int .i64 0]), 5, 48) := by kernel_rfl
theorem RItems.shape {own : Nat → Nat} {T : Nat} {w : World} {v : Value} {l : List RIt} (h : RItems own T w v l) : ∃ a c, v = .slice a l.length c ∧ (0 < l.length → ∃ g, a = some ⟨g, 0, none⟩ ∧ g < w.heap.size ∧ own g = T ∧ ∀ k x, l[k]? = some x → ∀ j, j < 5 → w.cell? ⟨g, k * 5 + j, none⟩ = (ritc x)[j]?) := by
  rcases Nat.eq_zero_or_pos l.length with h0 | h0
  · rcases h.1.2 with ⟨rfl, e⟩ | ⟨g, cap, cur, rfl, _⟩
    · exact ⟨none, 0, by rw [← h0], fun h => by omega⟩
    · exact ⟨_, _, rfl, fun h => by omega⟩
  · obtain ⟨g, cap, cur, rfl, ho, hh, hnc, hcm, hcs, hcx⟩ := Row.shape h h0
    refine ⟨_, _, rfl, fun _ => ⟨g, rfl, hh.lt, ho, fun k x hk j hj => ?_⟩⟩
    have hkl := (List.getElem?_eq_some_iff.1 hk).1
    rw [(row_cell hh hcx (k * 5 + j) (by omega)).1, rcells_get l k x hk j hj]
theorem RItems.len {own : Nat → Nat} {T : Nat} {w : World} {v : Value} {l : List RIt} (h : RItems own T w v l) : l.length ≤ maxLen := by
  rcases h.1.2 with ⟨rfl, e⟩ | ⟨g, cap, cur, rfl, _, _, h1, h2, _⟩
  · omega
  · omega

/-- What becomes of the reference's cache in block b. -/
def RPost (own : Nat → Nat) (T b : Nat) (time : Int) (l : List RIt) (w w' : World) : Prop :=
  ∃ own' v', Ext w own own' ∧ Turn (fun k => k = b ∨ own k = T) w w' ∧ Has w' b (.cells #[v', .int .i64 time] 68) ∧ RItems own' T w' v' l

theorem owns_any {base n size : Nat} {w : World} {e : TypeId} {v : Value} {xs : List Value} (h : w.ownsRow base e size v n xs) : ∃ a m c, v = .slice a m c := by
  rcases h.2 with ⟨rfl, _⟩ | ⟨g, cap, cur, rfl, _⟩ <;> exact ⟨_, _, _, rfl⟩

def rdrop (l : List RIt) (o : Int) : List RIt := l.filter fun x => x.obj != o
theorem rcells_snoc (l : List RIt) (x : RIt) : rcells (l ++ [x]) = rcells l ++ ritc x := by simp [rcells]
theorem rdrop_snoc {l : List RIt} {k : Nat} {x : RIt} {o : Int} (h : l[k]? = some x) : rdrop (l.take (k + 1)) o = rdrop (l.take k) o ++ (if x.obj != o then [x] else []) := by
  rw [take_snoc h]
  unfold rdrop
  rw [List.filter_append, List.filter_cons, List.filter_nil]

set_option maxHeartbeats 1000000 in
set_option maxRecDepth 100000 in
theorem RDrop_any (own : Nat → Nat) (T b : Nat) (time : Int) (v : Value) (l : List RIt) (o : Int) (w : World) (hB : Has w b (.cells #[v, .int .i64 time] 68)) (h : RItems own T w v l) (hl : l.length ≤ 1000) :
    Calls Tryd.prog 33 #[.pointer (some ⟨b, 0, none⟩), .int .i64 o] w fun e w' => e = .returned (.tuple #[]) ∧ RPost own T b time (rdrop l o) w w' := by
  obtain ⟨i0, hi0, hz0, hz1, hz2⟩ := info_parts infoRItem
  obtain ⟨a, c, rfl, hcell⟩ := h.shape
  have hlt := hB.lt
  have k0 : w.cell? ⟨b, 0, none⟩ = some (.slice a l.length c) := hB.cell 0
  have HB := Lib.hid hB
  have HC := Lib.hid hcell
  clear h hcell hB
  go_enter Tryd.func33, Tryd.ntmps33
  go_wp2
  go_loopw [4, 6, 12] (fun u _ i wr => ∃ k : Nat, k ≤ l.length ∧ i = .int .i64 k ∧ wr.ownsRow w.heap.size 124 5 u (rdrop (l.take k) o).length (rcells (rdrop (l.take k) o)) ∧ Below w.heap.size w wr) (fun _ _ i _ => l.length - (intOf i).toNat)
  case atStart => exact ⟨0, by omega, rfl, ⟨rfl, .inl ⟨rfl, rfl⟩⟩, Below.refl _ _⟩
  case round =>
    obtain ⟨k, hk, rfl, hown, hb'⟩ := hrel
    obtain ⟨ua, un, uc, rfl⟩ := owns_any hown
    have HOW := Lib.hid hown
    have HBW := Lib.hid hb'
    have hsw := hb'.size
    by_cases hlt' : k < l.length
    · obtain ⟨g, rfl, hg, -, hc⟩ := HC.out (by omega)
      obtain ⟨x, hkx⟩ : ∃ x, l[k]? = some x := ⟨_, List.getElem?_eq_getElem hlt'⟩
      have hcx := hc k _ hkx
      have hbc : ∀ j, wr.cell? ⟨g, k * 5 + j, none⟩ = w.cell? ⟨g, k * 5 + j, none⟩ := fun j => hb'.cell (p := ⟨g, k * 5 + j, none⟩) hg
      have c0 : wr.cell? ⟨g, k * 5, none⟩ = some (.int .i64 x.obj) := (hbc 0).trans (hcx 0 (by omega))
      have c1 : wr.cell? ⟨g, k * 5 + 1, none⟩ = some (.string ⟨x.data.toArray⟩) := (hbc 1).trans (hcx 1 (by omega))
      have c2 : wr.cell? ⟨g, k * 5 + 2, none⟩ = some (.int .i64 x.ver) := (hbc 2).trans (hcx 2 (by omega))
      have c3 : wr.cell? ⟨g, k * 5 + 3, none⟩ = some (.int .i64 x.till) := (hbc 3).trans (hcx 3 (by omega))
      have c4 : wr.cell? ⟨g, k * 5 + 4, none⟩ = some (.int .i64 x.used) := (hbc 4).trans (hcx 4 (by omega))
      have HKX := Lib.hid hkx
      have hfl : (rdrop (l.take k) o).length ≤ k := by
        refine Nat.le_trans (List.length_filter_le _ _) ?_
        simp; omega
      clear hbc hcx hc hkx hown hb'
      by_cases he : x.obj = o
      · have hn : (x.obj != o) = false := by simpa using he
        have HN := Lib.hid hn
        have HE := Lib.hid he
        clear he
        go_wp2_with fail
        go_roundw
        case rel =>
          refine ⟨k + 1, by omega, by go_num, ?_, HBW.out.alloc hsw _⟩
          have e1 : rdrop (l.take (k + 1)) o = rdrop (l.take k) o := by rw [rdrop_snoc HKX.out, HN.out]; simp
          rw [e1]
          exact owns_below HOW.out ((Below.refl _ _).alloc (Nat.le_refl _) _)
        case measure => simp [intOf]; omega
      · have hn : (x.obj != o) = true := by simpa using he
        have HN := Lib.hid hn
        clear he
        have HO2 : Hid (((wr.alloc (.cells #[.int .i64 x.obj, .string ⟨x.data.toArray⟩, .int .i64 x.ver, .int .i64 x.till, .int .i64 x.used] 124)).alloc (.cells #[.int .i64 x.obj, .string ⟨x.data.toArray⟩, .int .i64 x.ver, .int .i64 x.till, .int .i64 x.used] 124)).ownsRow w.heap.size 124 5 (.slice ua un uc) (rdrop (l.take k) o).length (rcells (rdrop (l.take k) o))) := (owns_below HOW.out ((Below.refl wr.heap.size wr).alloc (Nat.le_refl _) _)).alloc _
        go_wp2_with (at_builtin; refine wpList_append_own _ rfl (.tmp 20) (.tmp 22) 66 rfl w.heap.size 124 i0 _ 5 48 Tryd.underlying66 hi0 hz0 hz1 hz2 rfl (by decide) _ _ _ rfl HO2.out ⟨wr.heap.size + 1, 0, none⟩ 1 1 (ritc x) rfl rfl ?c1 (ritc_one x) ?c3 ?c4 ?c5 ?_)
        case c1 =>
          intro j u hj
          have hnn := Has.new (wr.alloc (.cells #[.int .i64 x.obj, .string ⟨x.data.toArray⟩, .int .i64 x.ver, .int .i64 x.till, .int .i64 x.used] 124)) (.cells #[.int .i64 x.obj, .string ⟨x.data.toArray⟩, .int .i64 x.ver, .int .i64 x.till, .int .i64 x.used] 124)
          rw [World.size_alloc] at hnn
          have e0 : (⟨wr.heap.size + 1, 0, none⟩ : Addr).add j = ⟨wr.heap.size + 1, j, none⟩ := by by_cases h0 : j = 0 <;> simp [Addr.add, h0]
          rw [e0]
          refine (hnn.cell j).trans ?_
          rw [← hj]
          simp [ritc]
        case c3 => unfold maxLen; omega
        case c4 => omega
        case c5 => simp; omega
        intro u2 w2 hown2 hg2 _
        go_wp2_with fail
        go_roundw
        case rel =>
          refine ⟨k + 1, by omega, by go_num, ?_, ((HBW.out.alloc hsw _).alloc (by simp; omega) _).grown hg2 (by simp; omega) (fun j hj => owns_ge HOW.out j hj)⟩
          have e1 : rdrop (l.take (k + 1)) o = rdrop (l.take k) o ++ [x] := by rw [rdrop_snoc HKX.out, HN.out]; simp
          rw [e1, rcells_snoc, List.length_append, List.length_singleton]
          exact hown2
        case measure => simp [intOf]; omega
    · obtain rfl : k = l.length := by omega
      have k1 : wr.cell? ⟨b, 0, none⟩ = some (.slice a l.length c) := (HBW.out.cell (p := ⟨b, 0, none⟩) hlt).trans k0
      have f1 : wr.frozen? ⟨b, 0, none⟩ = false := (HB.out.below HBW.out hlt).frozen 0
      go_wp2_with fail
      go_end0
      rw [List.take_length] at hown
      refine ⟨rfl, newOwn own w T, .slice ua un uc, Ext.new _ _ _, ((Turn.refl _ w).then_below HBW.out (Nat.le_refl _)).setCell (p := ⟨b, 0, none⟩) (.inr (.inl rfl)) _, (HB.out.below HBW.out hlt).set_ 0 _, ?_⟩
      refine ⟨row_kept (owns_base hown (Nat.zero_le _)) fun g hg => Below.heap_setCell _ _ _ _ ?_, fun g hg => new_new (owns_ge hown g hg)⟩
      have := owns_ge hown g hg
      show g ≠ b
      omega
end Go.Proofs.YthldfogmmjompaaDoor.cache
