/-
  The law NetPlays: what a Spoil does to the law's own list.
-/
import Derived.Test.YthldfogmmjompaaDoorNetLaw5
namespace Go.Proofs.YthldfogmmjompaaDoor.net
open Go.RowKit Go.Proofs.YthldfogmmjompaaDoor.heap Go.Proofs.YthldfogmmjompaaDoor.own Go.Proofs.YthldfogmmjompaaDoor.wire

theorem gcells_set (ps : List (Dg × Value)) (j : Nat) (p : Dg × Value) (bs : List UInt8) (u : Value) (h : ps[j]? = some p) : (gcells ps).set (j * 2 + 1) u = gcells (ps.set j ((p.1.1, bs), u)) := by
  induction ps generalizing j with
  | nil => cases h
  | cons q ps ih =>
    cases j with
    | zero =>
      obtain rfl : q = p := by simpa using h
      rfl
    | succ j =>
      have := ih j (by simpa using h)
      simp only [gcells, List.flatMap_cons, List.set_cons_succ] at this ⊢
      rw [← this, List.set_append_right _ _ (by simp; omega)]
      congr 2
      simp only [List.length_cons, List.length_nil]
      omega
theorem nodup_put {α β : Type} {f : α → Option β} {x : α} {y : β} (hx : f x = some y) : ∀ (l : List α) (j : Nat), (l.filterMap f).Nodup → y ∉ l.filterMap f → ((l.set j x).filterMap f).Nodup
  | [], _, h, _ => h
  | q :: l, 0, h, hn => by
    simp only [List.set_cons_zero, List.filterMap_cons, hx]
    rw [List.nodup_cons]
    cases hq : f q with
    | none =>
      rw [List.filterMap_cons, hq] at h hn
      exact ⟨hn, h⟩
    | some z =>
      rw [List.filterMap_cons, hq] at h hn
      exact ⟨fun hm => hn (List.mem_cons_of_mem _ hm), (List.nodup_cons.1 h).2⟩
  | q :: l, j + 1, h, hn => by
    simp only [List.set_cons_succ, List.filterMap_cons]
    cases hq : f q with
    | none =>
      rw [List.filterMap_cons, hq] at h hn
      exact nodup_put hx l j h hn
    | some z =>
      rw [List.filterMap_cons, hq] at h hn
      have h' := List.nodup_cons.1 h
      refine List.nodup_cons.2 ⟨fun hm => ?_, nodup_put hx l j h'.2 (fun hm => hn (List.mem_cons_of_mem _ hm))⟩
      obtain ⟨a, ha, hfa⟩ := List.mem_filterMap.1 hm
      rcases List.mem_or_eq_of_mem_set ha with ha | rfl
      · exact h'.1 (List.mem_filterMap.2 ⟨a, ha, hfa⟩)
      · rw [hx] at hfa
        obtain rfl := Option.some.inj hfa
        exact hn (List.mem_cons_self ..)

/-- The law's list, the k-th one's bytes turned: in a row that is new. -/
theorem law_spoil {own : Nat → Nat} {bn : Nat} {V w2 : World} {l : List Dg} {lost : Int} {v : Value} {k q g cap gB capB : Nat} {cur curB : Array Value} {to : Int} {bs : List UInt8} {z : UInt8} {ps : List (Dg × Value)}
    (h : LawAt own bn V l lost v (.slice (some ⟨g, 0, none⟩) l.length cap)) (hps : ps.map (·.1) = l) (ho : own g = 3) (hh : Has V g (.cells cur 51)) (hgc : l.length ≤ cap) (hgm : cap ≤ maxLen) (hcs : cur.size = cap * 2) (hcx : cur.toList.take (l.length * 2) = gcells ps)
    (hbytes : ∀ p ∈ ps, Row own 4 V 5 1 p.2 p.1.2.length (p.1.2.map B)) (hnd : (ps.filterMap (·.2.ownBlock)).Nodup) (hk : l[k]? = some (to, bs)) (hb : Below V.heap.size V w2)
    (hB : V.heap.size ≤ gB) (hhB : Has w2 gB (.cells curB 5)) (hn : bs.length ≤ capB) (hm : capB ≤ maxLen) (hs : curB.size = capB * 1) (hx : curB.toList.take (bs.length * 1) = bs.map B) :
    ∃ own' w4, w4 = (w2.setCell ⟨gB, q, none⟩ (B z)).setCell ⟨g, k * 2 + 1, none⟩ (.slice (some ⟨gB, 0, none⟩) bs.length capB) ∧ Ext V own own' ∧ Turn (fun j => j = g) V w4 ∧ Has w4 bn (.cells #[v, .int .i64 lost] 49) ∧
      Has w4 (bn + 1) (.cells #[.slice (some ⟨g, 0, none⟩) l.length cap] 47) ∧ Has w4 (bn + 2) (.cells #[.int .i64 lost] 3) ∧
      Grams own' 1 w4 v l ∧ Grams own' 3 w4 (.slice (some ⟨g, 0, none⟩) l.length cap) (l.set k (to, bs.set q z)) := by
  have hg := hh.lt
  have o0 := h.o0
  have o1 := h.o1
  have o2 := h.o2
  have hne : ∀ j, own j ≠ 3 → j ≠ g := fun j hj e => hj (by rw [e]; exact ho)
  have hT : Turn (fun j => j = g) V ((w2.setCell ⟨gB, q, none⟩ (B z)).setCell ⟨g, k * 2 + 1, none⟩ (.slice (some ⟨gB, 0, none⟩) bs.length capB)) :=
    (((Turn.refl (fun j => j = g) V).then_below hb (Nat.le_refl _)).setCell (p := ⟨gB, q, none⟩) (.inl hB) _).setCell (p := ⟨g, k * 2 + 1, none⟩) (.inr rfl) _
  have hE : Ext V own (newOwn own V 4) := Ext.new _ _ _
  have hkl := (List.getElem?_eq_some_iff.1 hk).1
  refine ⟨newOwn own V 4, _, rfl, hE, hT, hT.has h.n (hne _ (by omega)), hT.has h.w_ (hne _ (by omega)), hT.has h.l_ (hne _ (by omega)), h.gn.keep hT hE (fun j hj e hS => hne j (by omega) hS), ?_⟩
  obtain ⟨p, hp⟩ : ∃ p, ps[k]? = some p := ⟨_, List.getElem?_eq_getElem (by rw [← hps] at hkl; simpa using hkl)⟩
  have hpe : p.1 = (to, bs) := by
    rw [← hps, List.getElem?_map, hp] at hk
    simpa using hk
  have hp1 : p.1.1 = to := by rw [hpe]
  refine ⟨ps.set k ((to, bs.set q z), .slice (some ⟨gB, 0, none⟩) bs.length capB), ?_, ?_, fun x hx' => ?_, ?_⟩
  · rw [List.map_set, hps]
  · rw [List.length_set, ← hp1, ← gcells_set ps k p _ _ hp]
    refine Row.mk (cur := cur.setIfInBounds (k * 2 + 1) (.slice (some ⟨gB, 0, none⟩) bs.length capB)) ?_ ?_ hgc hgm (by simpa using hcs) ?_
    · rw [new_old hg]; exact ho
    · exact ((hh.below hb hg).far (p := ⟨gB, q, none⟩) (by show g ≠ gB; omega) _).set_ _ _
    · rw [Array.toList_setIfInBounds, ← hcx, List.take_set]
  · rcases List.mem_or_eq_of_mem_set hx' with hx' | rfl
    · exact (hbytes x hx').keep hT hE (fun j hj e hS => hne j (by omega) hS)
    · simp only [List.length_set, List.map_set]
      refine Row.mk (cur := curB.setIfInBounds q (B z)) ?_ ?_ hn hm (by simpa using hs) ?_
      · exact new_new hB
      · exact (hhB.set_ q _).far (p := ⟨g, k * 2 + 1, none⟩) (by show gB ≠ g; omega) _
      · rw [Array.toList_setIfInBounds, List.take_set, hx]
  · refine nodup_put (f := fun p : Dg × Value => p.2.ownBlock) (x := ((to, bs.set q z), Value.slice (some ⟨gB, 0, none⟩) bs.length capB)) (y := gB) rfl ps k hnd (fun hm' => ?_)
    obtain ⟨x, hx', he⟩ := List.mem_filterMap.1 hm'
    have := (hbytes x hx').lt _ he
    omega
end Go.Proofs.YthldfogmmjompaaDoor.net
