/-
  Contracts of the walks of package net: Twice, Spoil.
-/
import Derived.Test.YthldfogmmjompaaDoorNetB
namespace Go.Proofs.YthldfogmmjompaaDoor.net
open Go.RowKit Go.Proofs.YthldfogmmjompaaDoor.heap Go.Proofs.YthldfogmmjompaaDoor.own Go.Proofs.YthldfogmmjompaaDoor.wire

theorem rd_of_owns {base n m c : Nat} {a : Option Addr} {w : World} {bs : List UInt8} (h : w.ownsRow base 5 1 (.slice a m c) n (bs.map B)) : m = n ∧ m ≤ c ∧ c ≤ maxLen ∧ RD w w.heap.size a m bs := by
  have hl := h.1
  rw [List.length_map, Nat.mul_one] at hl
  rcases h.2 with ⟨e, rfl⟩ | ⟨g, cap, cur, e, _, hh, hn, hc, hs, hx⟩
  · injection e with e1 e2 e3
    subst e1 e2 e3
    exact ⟨rfl, Nat.le_refl _, by simp [maxLen], hl, fun h => absurd h (Nat.lt_irrefl 0)⟩
  · injection e with e1 e2 e3
    subst e1 e2 e3
    refine ⟨rfl, hn, hc, hl, fun h0 => ⟨g, 0, rfl, Has.lt (w := w) hh, fun j x hj => ?_⟩⟩
    rw [Nat.zero_add]
    have hj' := (List.getElem?_eq_some_iff.1 hj).1
    rw [(row_cell (size := 1) (n := m) (xs := bs.map B) (w := w) hh hx j (by omega)).1, List.getElem?_map, hj]
    rfl

theorem Twice_no (b o : Nat) (a : Option Addr) (n c : Nat) (k : Int) (w : World) (h : w.cell? ⟨b, o, none⟩ = some (.slice a n c)) (hk : ¬ (0 ≤ k ∧ k < n)) :
    Calls Tryd.prog 24 #[.pointer (some ⟨b, o, none⟩), .int .i64 k] w fun e w' => e = .returned (.iface 22 (.int .i64 2)) ∧ w = w' := by
  by_cases h0 : k < 0
  · have d0 : decide (k < 0) = true := by simpa using h0
    go_enter Tryd.func24, Tryd.ntmps24
    go_wp2
    go_ret
    exact ⟨rfl, rfl⟩
  · have d0 : decide (k < 0) = false := by simpa using h0
    have d1 : (n : Int) ≤ k := by omega
    go_enter Tryd.func24, Tryd.ntmps24
    go_wp2
    go_ret
    exact ⟨rfl, rfl⟩

theorem sent_full {l : List Dg} {lost : Int} {g : Dg} (h : 200 ≤ l.length) : sent l lost g = (l, wrap64 (lost + 1)) := by simp [sent, h]
theorem sent_room {l : List Dg} {lost : Int} {g : Dg} (h : l.length < 200) : sent l lost g = (l ++ [g], lost) := by simp [sent]; omega
theorem set_same {cs : Array Value} {o : Nat} {v : Value} (h : cs[o]? = some v) : cs.setIfInBounds o v = cs := by
  apply Array.ext_getElem?
  intro i
  rw [Array.getElem?_setIfInBounds]
  split
  · rename_i e; subst e
    rw [if_pos (Array.getElem?_eq_some_iff.1 h).1, h]
  · rfl
theorem set_other {cs : Array Value} {o p : Nat} {v : Value} (h : o ≠ p) : (cs.setIfInBounds o v)[p]? = cs[p]? := by
  rw [Array.getElem?_setIfInBounds, if_neg h]

/-- Send, both ways: what becomes of the net's two cells. -/
def SendPost (own : Nat → Nat) (T b o : Nat) (cs : Array Value) (t : TypeId) (l : List Dg) (lost : Int) (g : Dg) (w w' : World) : Prop :=
  ∃ own' v', Ext w own own' ∧ Turn (fun k => k = b ∨ own k = T) w w' ∧ Has w' b (.cells ((cs.setIfInBounds o v').setIfInBounds (o + 1) (.int .i64 (sent l lost g).2)) t) ∧ Grams own' T w' v' (sent l lost g).1

theorem Send_any (own : Nat → Nat) (T b o : Nat) (cs : Array Value) (t : TypeId) (v : Value) (l : List Dg) (lost : Int) (a : Option Addr) (n c : Nat) (bs : List UInt8) (to : Int) (w : World)
    (hB : Has w b (.cells cs t)) (c0 : cs[o]? = some v) (c1 : cs[o + 1]? = some (.int .i64 lost)) (hb : own b ≠ T) (hb1 : own b ≠ T + 1) (hg : Grams own T w v l) (hrd : RD w w.heap.size a n bs) (hc : n ≤ c) (hn : n ≤ 140737488355328) :
    Calls Tryd.prog 22 #[.pointer (some ⟨b, o, none⟩), .agg #[.int .i64 to, .slice a n c]] w fun e w' => e = .returned (.tuple #[]) ∧ SendPost own T b o cs t l lost (to, bs) w w' := by
  by_cases hl : l.length < 200
  · refine (Send_room own T b o cs t v l a n c bs to w hB c0 hb hb1 hg hl hrd hc hn).mono fun e w' ⟨he, own', v', h1, h2, h3, h4⟩ => ⟨he, own', v', h1, h2, ?_, ?_⟩
    · rw [sent_room hl, set_same (by rw [set_other (by omega)]; exact c1)]
      exact h3
    · rw [sent_room hl]; exact h4
  · have hl' : 200 ≤ l.length := by omega
    have hg' := hg
    obtain ⟨ps, hps, hrow, hbytes, hnd⟩ := hg
    obtain ⟨A, m, cap, rfl, hm⟩ : ∃ A m cap, v = .slice A m cap ∧ m = l.length := by
      rcases hrow.1.2 with ⟨rfl, h0⟩ | ⟨g, cap, cur, rfl, _⟩
      · exact ⟨_, _, _, rfl, h0.symm⟩
      · exact ⟨_, _, _, rfl, rfl⟩
    refine (Send_full b o cs t m cap A lost (.slice a n c) to w hB c0 c1 (by omega)).mono fun e w' ⟨he, hw⟩ => ⟨he, own, .slice A m cap, Ext.refl _ _, ?_, ?_, ?_⟩
    · rw [hw]; exact ((Turn.refl _ w).setCell (p := ⟨b, o + 1, none⟩) (.inr (.inl rfl)) _).alloc _
    · rw [sent_full hl', set_same c0, hw]; exact (hB.set_ (o + 1) _).alloc _
    · rw [sent_full hl', hw]
      refine hg'.keep (S := fun k => k = b) (((Turn.refl (fun k => k = b) w).setCell (p := ⟨b, o + 1, none⟩) (.inr rfl) _).alloc _) (Ext.refl _ _) (fun k _ e h => ?_)
      subst h
      rcases e with e | e
      · exact hb e
      · exact hb1 e

theorem Twice_yes (own : Nat → Nat) (T b o : Nat) (cs : Array Value) (t : TypeId) (v : Value) (l : List Dg) (lost : Int) (k : Nat) (to : Int) (bs : List UInt8) (w : World)
    (hB : Has w b (.cells cs t)) (c0 : cs[o]? = some v) (c1 : cs[o + 1]? = some (.int .i64 lost)) (hb : own b ≠ T) (hb1 : own b ≠ T + 1) (hg : Grams own T w v l) (hk : l[k]? = some (to, bs)) (hn : bs.length ≤ 140737488355328) :
    Calls Tryd.prog 24 #[.pointer (some ⟨b, o, none⟩), .int .i64 k] w fun e w' => e = .returned .nilIface ∧ SendPost own T b o cs t l lost (to, bs) w w' := by
  have hg' := hg
  have hkl := (List.getElem?_eq_some_iff.1 hk).1
  obtain ⟨ps, hps, hrow, hbytes, hnd⟩ := hg
  obtain ⟨g, cap, cur, rfl, ho, hh, hnc, hcm, hcs, hcx⟩ := hrow.shape (by omega)
  have k0 : w.cell? ⟨b, o, none⟩ = some _ := (hB.cell o).trans c0
  obtain ⟨p, hp⟩ : ∃ p, ps[k]? = some p := ⟨_, List.getElem?_eq_getElem (by rw [← hps] at hkl; simpa using hkl)⟩
  have hpe : p.1 = (to, bs) := by
    rw [← hps, List.getElem?_map, hp] at hk
    exact Option.some.inj hk
  obtain ⟨q0, q1⟩ := gcells_get ps k p hp
  have r0 := (row_cell hh hcx (k * 2) (by omega)).1.trans q0
  have r1 := (row_cell hh hcx (k * 2 + 1) (by omega)).1.trans q1
  have hpr := hbytes p (List.mem_of_getElem? hp)
  rw [hpe] at r0 hpr
  obtain ⟨_, u⟩ := p
  simp only at r0 r1 hpr
  obtain ⟨au, nu, cu, rfl⟩ := owns_any hpr.1
  obtain ⟨e1, e2, e3, e4⟩ := rd_of_owns hpr.1
  have C := Lib.hid (Send_any own T b o cs t (.slice (some ⟨g, 0, none⟩) l.length cap) l lost au nu cu bs to w hB c0 c1 hb hb1 hg' e4 e2 (by omega))
  have hl0 : (k : Int) < l.length := by omega
  unfold maxLen at hcm
  have hl9 : l.length ≤ 9223372036854775807 := by omega
  clear c0 c1 hB hps hrow hbytes hnd hp hpr ho hh hcs hcx q0 q1 hcm hnc hpe e1 e2 e3 e4 hg' hk
  go_enter Tryd.func24, Tryd.ntmps24
  go_wp2_with fail
  refine C.out.mono ?_
  rintro e w2 ⟨rfl, hp⟩
  have HP := Lib.hid hp
  clear hp
  go_wp2_with fail
  go_ret
  exact ⟨rfl, HP.out⟩

theorem Spoil_no (b o : Nat) (a : Option Addr) (n c : Nat) (k at_ what : Int) (w : World) (h : w.cell? ⟨b, o, none⟩ = some (.slice a n c)) (hk : ¬ (0 ≤ k ∧ k < n)) :
    Calls Tryd.prog 25 #[.pointer (some ⟨b, o, none⟩), .int .i64 k, .int .i64 at_, .int .u8 what] w fun e w' => e = .returned (.iface 22 (.int .i64 2)) ∧ w = w' := by
  by_cases h0 : k < 0
  · have d0 : decide (k < 0) = true := by simpa using h0
    go_enter Tryd.func25, Tryd.ntmps25
    go_wp2
    go_ret
    exact ⟨rfl, rfl⟩
  · have d0 : decide (k < 0) = false := by simpa using h0
    have d1 : (n : Int) ≤ k := by omega
    go_enter Tryd.func25, Tryd.ntmps25
    go_wp2
    go_ret
    exact ⟨rfl, rfl⟩

theorem xor_byte (x y : UInt8) : bits BinOp.xor IntKind.u8 (x.toNat : Int) (y.toNat : Int) = ((x ^^^ y).toNat : Int) := by
  have hx := x.toNat_lt
  have hy := y.toNat_lt
  have h1 : (BitVec.ofInt 8 (x.toNat : Int)).toNat = x.toNat := by
    rw [BitVec.ofInt_natCast, BitVec.toNat_ofNat]; exact Nat.mod_eq_of_lt hx
  have h2 : (BitVec.ofInt 8 (y.toNat : Int)).toNat = y.toNat := by
    rw [BitVec.ofInt_natCast, BitVec.toNat_ofNat]; exact Nat.mod_eq_of_lt hy
  have h3 : x.toNat ^^^ y.toNat < 256 := Nat.xor_lt_two_pow (n := 8) hx hy
  show IntKind.u8.wrap ((BitVec.ofInt 8 (x.toNat : Int) ^^^ BitVec.ofInt 8 (y.toNat : Int)).toNat : Int) = _
  rw [BitVec.toNat_xor, h1, h2, UInt8.toNat_xor, IntKind.wrap_u8]
  omega

/-- A net's k-th datagram in memory. -/
theorem gram_at {own : Nat → Nat} {T : Nat} {w : World} {v : Value} {l : List Dg} {k : Nat} {to : Int} {bs : List UInt8} (hg : Grams own T w v l) (hk : l[k]? = some (to, bs)) :
    ∃ g cap au nu cu, v = .slice (some ⟨g, 0, none⟩) l.length cap ∧ l.length ≤ 9223372036854775807 ∧ w.cell? ⟨g, k * 2, none⟩ = some (.int .i64 to) ∧ w.cell? ⟨g, k * 2 + 1, none⟩ = some (.slice au nu cu) ∧ Row own (T + 1) w 5 1 (.slice au nu cu) bs.length (bs.map B) := by
  have hkl := (List.getElem?_eq_some_iff.1 hk).1
  obtain ⟨ps, hps, hrow, hbytes, hnd⟩ := hg
  obtain ⟨g, cap, cur, rfl, ho, hh, hnc, hcm, hcs, hcx⟩ := hrow.shape (by omega)
  obtain ⟨p, hp⟩ : ∃ p, ps[k]? = some p := ⟨_, List.getElem?_eq_getElem (by rw [← hps] at hkl; simpa using hkl)⟩
  have hpe : p.1 = (to, bs) := by
    rw [← hps, List.getElem?_map, hp] at hk
    exact Option.some.inj hk
  obtain ⟨q0, q1⟩ := gcells_get ps k p hp
  have r0 := (row_cell hh hcx (k * 2) (by omega)).1.trans q0
  have r1 := (row_cell hh hcx (k * 2 + 1) (by omega)).1.trans q1
  have hpr := hbytes p (List.mem_of_getElem? hp)
  rw [hpe] at r0 hpr
  obtain ⟨_, u⟩ := p
  simp only at r0 r1 hpr
  obtain ⟨au, nu, cu, rfl⟩ := owns_any hpr.1
  exact ⟨g, cap, au, nu, cu, rfl, by unfold maxLen at hcm; omega, r0, r1, hpr⟩

theorem Spoil_far (own : Nat → Nat) (T b o : Nat) (v : Value) (l : List Dg) (k : Nat) (to : Int) (bs : List UInt8) (at_ what : Int) (w : World)
    (k0 : w.cell? ⟨b, o, none⟩ = some v) (hg : Grams own T w v l) (hk : l[k]? = some (to, bs)) (hat : ¬ (0 ≤ at_ ∧ at_ < bs.length)) :
    Calls Tryd.prog 25 #[.pointer (some ⟨b, o, none⟩), .int .i64 k, .int .i64 at_, .int .u8 what] w fun e w' => e = .returned (.iface 22 (.int .i64 2)) ∧ w = w' := by
  obtain ⟨g, cap, au, nu, cu, rfl, hl9, r0, r1, hpr⟩ := gram_at hg hk
  have hkl := (List.getElem?_eq_some_iff.1 hk).1
  obtain ⟨e1, -, -, -⟩ := rd_of_owns hpr.1
  have hl0 : (k : Int) < l.length := by omega
  have hl2 : ¬ (l.length : Int) ≤ k := by omega
  have d2 : decide ((l.length : Int) ≤ k) = false := by simpa using hl2
  have d3 : decide (l.length ≤ k) = false := by simp; omega
  have dk : decide ((k : Int) < 0) = false := by simp
  clear hg hpr hk
  by_cases h0 : at_ < 0
  · have d0 : decide (at_ < 0) = true := by simpa using h0
    clear e1
    go_enter Tryd.func25, Tryd.ntmps25
    go_wp2
    go_ret
    exact ⟨rfl, rfl⟩
  · have d0 : decide (at_ < 0) = false := by simpa using h0
    have d1 : (nu : Int) ≤ at_ := by omega
    clear e1
    go_enter Tryd.func25, Tryd.ntmps25
    go_wp2
    go_ret
    exact ⟨rfl, rfl⟩

theorem nodup_index {α β : Type} {f : α → Option β} : ∀ {l : List α} (_ : (l.filterMap f).Nodup) {i j : Nat} {x : α} {y : β} (_ : l[i]? = some x) (_ : l[j]? = some x) (_ : f x = some y), i = j
  | [], _, i, j, x, y, h, _, _ => by simp at h
  | a :: l, hn, i, j, x, y, hi, hj, hf => by
    have hnot : ∀ {k : Nat}, l[k]? = some x → f a = some y → False := fun {k} hk ha => by
      rw [List.filterMap_cons, ha] at hn
      exact (List.nodup_cons.1 hn).1 (List.mem_filterMap.2 ⟨x, List.mem_of_getElem? hk, hf⟩)
    have htl : (l.filterMap f).Nodup := by
      rw [List.filterMap_cons] at hn
      split at hn
      · exact hn
      · exact (List.nodup_cons.1 hn).2
    cases i with
    | zero =>
      obtain rfl : a = x := by simpa using hi
      cases j with
      | zero => rfl
      | succ j => exact (hnot (by simpa using hj) hf).elim
    | succ i =>
      cases j with
      | zero =>
        obtain rfl : a = x := by simpa using hj
        exact (hnot (by simpa using hi) hf).elim
      | succ j =>
        have := nodup_index (i := i) (j := j) (x := x) (y := y) htl (by simpa using hi) (by simpa using hj) hf
        omega
theorem nodup_own {α β : Type} {f : α → Option β} : ∀ {l : List α} (_ : (l.filterMap f).Nodup) {p q : α} {y : β} (_ : p ∈ l) (_ : q ∈ l) (_ : f p = some y) (_ : f q = some y), p = q
  | [], _, p, q, y, h, _, _, _ => by cases h
  | a :: l, hn, p, q, y, hp, hq, h1, h2 => by
    rw [List.filterMap_cons] at hn
    have htl : (l.filterMap f).Nodup := by
      split at hn
      · exact hn
      · exact (List.nodup_cons.1 hn).2
    have hnot : ∀ {z : α}, z ∈ l → f z = some y → f a = some y → False := fun {z} hz e1 e2 => by
      rw [e2] at hn
      exact (List.nodup_cons.1 hn).1 (List.mem_filterMap.2 ⟨z, hz, e1⟩)
    rcases List.mem_cons.1 hp with e1 | hp' <;> rcases List.mem_cons.1 hq with e2 | hq'
    · rw [e1, e2]
    · exact (hnot hq' h2 (e1 ▸ h1)).elim
    · exact (hnot hp' h1 (e2 ▸ h2)).elim
    · exact nodup_own htl hp' hq' h1 h2

theorem spoil_done {own : Nat → Nat} {T : Nat} {w : World} {v : Value} {l : List Dg} {k j gb : Nat} {to : Int} {bs : List UInt8} {x : UInt8} {nu cu : Nat} (hg : Grams own T w v l) (hk : l[k]? = some (to, bs))
    (hgc : ∃ g, (∃ cap n, v = .slice (some ⟨g, 0, none⟩) n cap) ∧ w.cell? ⟨g, k * 2 + 1, none⟩ = some (.slice (some ⟨gb, 0, none⟩) nu cu)) :
    Turn (fun k => own k = T + 1) w (w.setCell ⟨gb, j, none⟩ (B x)) ∧ Grams own T (w.setCell ⟨gb, j, none⟩ (B x)) v (l.set k (to, bs.set j x)) := by
  obtain ⟨ps, hps, hrow, hbytes, hnd⟩ := hg
  have hkl := (List.getElem?_eq_some_iff.1 hk).1
  have hkp : k < ps.length := by rw [← hps] at hkl; simpa using hkl
  obtain ⟨g', cap', cur, hv, ho, hh, hnc, hcm, hcs, hcx⟩ := hrow.shape (by omega)
  obtain ⟨g, ⟨cap, n, e⟩, hc⟩ := hgc
  rw [hv] at e
  injection e with e1 e2 e3
  injection e1 with e1
  injection e1 with e1
  subst e1
  obtain ⟨p, hp⟩ : ∃ p, ps[k]? = some p := ⟨_, List.getElem?_eq_getElem hkp⟩
  have hpe : p.1 = (to, bs) := by
    rw [← hps, List.getElem?_map, hp] at hk
    exact Option.some.inj hk
  obtain ⟨q0, q1⟩ := gcells_get ps k p hp
  have r1 := (row_cell hh hcx (k * 2 + 1) (by omega)).1.trans q1
  have hpu : p.2 = .slice (some ⟨gb, 0, none⟩) nu cu := Option.some.inj (r1.symm.trans hc)
  have hpr := hbytes p (List.mem_of_getElem? hp)
  have hgo : p.2.ownBlock = some gb := by rw [hpu]; rfl
  have hgT : own gb = T + 1 := hpr.2 gb hgo
  have hT : Turn (fun k => own k = T + 1) w (w.setCell ⟨gb, j, none⟩ (B x)) := (Turn.refl _ w).setCell (p := ⟨gb, j, none⟩) (.inr hgT) _
  refine ⟨hT, ps.set k ((to, bs.set j x), p.2), ?_, ?_, ?_, ?_⟩
  · rw [List.map_set, hps]
  · have e1 : gcells (ps.set k ((to, bs.set j x), p.2)) = gcells ps := by
      have hsp : ps = ps.take k ++ p :: ps.drop (k + 1) := by
        have := List.getElem?_eq_some_iff.1 hp
        obtain ⟨h1, h2⟩ := this
        rw [← h2, ← List.drop_eq_getElem_cons h1, List.take_append_drop]
      have hset : ps.set k ((to, bs.set j x), p.2) = ps.take k ++ ((to, bs.set j x), p.2) :: ps.drop (k + 1) := by
        rw [List.set_eq_take_append_cons_drop, if_pos hkp]
      rw [hset]
      conv => rhs; rw [hsp]
      simp [gcells, hpe]
    rw [e1, List.length_set]
    exact hrow.keep hT (Ext.refl _ _) (fun _ _ h1 h2 => by omega)
  · have hother : ∀ q ∈ ps, q ≠ p → Row own (T + 1) (w.setCell ⟨gb, j, none⟩ (B x)) 5 1 q.2 q.1.2.length (q.1.2.map B) := fun q hq hne =>
      (hbytes q hq).keep_ (S := fun k => k = gb) ((Turn.refl (fun k => k = gb) w).setCell (p := ⟨gb, j, none⟩) (.inr rfl) _) (Ext.refl _ _) (fun k' hk' h => by
        subst h
        exact hne (nodup_own hnd hq (List.mem_of_getElem? hp) hk' hgo))
    intro q hq
    obtain ⟨i, hi⟩ := List.getElem?_of_mem hq
    by_cases e : k = i
    · subst e
      rw [List.getElem?_set_self hkp] at hi
      obtain rfl := Option.some.inj hi
      simp only [List.length_set]
      rw [hpe] at hpr
      simp only at hpr
      rw [hpu] at hpr ⊢
      refine ⟨?_, fun k' hk' => hpr.2 k' hk'⟩
      rcases hpr.1.2 with ⟨e, _⟩ | ⟨g2, c2, cur2, e, _, h1, h2, h3, h4, h5⟩
      · cases e
      · injection e with e1 e2 e3
        injection e1 with e1
        injection e1 with e1
        subst e1
        refine ⟨by simp, .inr ⟨gb, c2, cur2.setIfInBounds j (B x), ?_, Nat.zero_le _, Has.set_ (w := w) (g := gb) h1 j (B x), h2, h3, by simpa using h4, ?_⟩⟩
        · rw [e2, e3]
        · rw [Array.toList_setIfInBounds, List.take_set, h5, List.map_set]
    · rw [List.getElem?_set_ne e] at hi
      refine hother q (List.mem_of_getElem? hi) ?_
      rintro rfl
      exact e (nodup_index hnd hp hi hgo)
  · have e1 : (ps.set k ((to, bs.set j x), p.2)).filterMap (·.2.ownBlock) = ps.filterMap (·.2.ownBlock) := by
      have hsp : ps = ps.take k ++ p :: ps.drop (k + 1) := by
        obtain ⟨h1, h2⟩ := List.getElem?_eq_some_iff.1 hp
        rw [← h2, ← List.drop_eq_getElem_cons h1, List.take_append_drop]
      have hset : ps.set k ((to, bs.set j x), p.2) = ps.take k ++ ((to, bs.set j x), p.2) :: ps.drop (k + 1) := by
        rw [List.set_eq_take_append_cons_drop, if_pos hkp]
      rw [hset]
      conv => rhs; rw [hsp]
      simp [List.filterMap_append, List.filterMap_cons]
    rw [e1]
    exact hnd

theorem Spoil_yes (own : Nat → Nat) (T b o : Nat) (v : Value) (l : List Dg) (k : Nat) (to : Int) (bs : List UInt8) (j : Nat) (x y : UInt8) (w : World)
    (k0 : w.cell? ⟨b, o, none⟩ = some v) (hg : Grams own T w v l) (hk : l[k]? = some (to, bs)) (hj : bs[j]? = some x) :
    Calls Tryd.prog 25 #[.pointer (some ⟨b, o, none⟩), .int .i64 k, .int .i64 j, .int .u8 y.toNat] w fun e w' => e = .returned .nilIface ∧ Turn (fun k => own k = T + 1) w w' ∧ Grams own T w' v (l.set k (to, bs.set j (x ^^^ y))) := by
  have hjl := (List.getElem?_eq_some_iff.1 hj).1
  obtain ⟨g, cap, au, nu, cu, rfl, hl9, r0, r1, hpr⟩ := gram_at hg hk
  have hkl := (List.getElem?_eq_some_iff.1 hk).1
  obtain ⟨e1, e2, e3, -⟩ := rd_of_owns hpr.1
  obtain ⟨gb, cb, cur, e, ho, hh, -, -, hcs, hcx⟩ := hpr.shape (by omega)
  injection e with e4 e5 e6
  subst e4
  have c0 : w.cell? ⟨gb, j, none⟩ = some (.int .u8 x.toNat) := by
    rw [(row_cell hh hcx j (by omega)).1, List.getElem?_map, hj]; rfl
  have f0 : w.frozen? ⟨gb, j, none⟩ = false := hh.frozen j
  have D := Lib.hid (spoil_done (x := x ^^^ y) (j := j) hg hk ⟨g, ⟨cap, _, rfl⟩, r1⟩)
  have X := Lib.hid (xor_byte x y)
  have hl0 : (k : Int) < l.length := by omega
  have hl2 : ¬ (l.length : Int) ≤ k := by omega
  have d2 : decide ((l.length : Int) ≤ k) = false := by simpa using hl2
  have d3 : decide (l.length ≤ k) = false := by simp; omega
  have dk : decide ((k : Int) < 0) = false := by simp
  have hj0 : (j : Int) < nu := by omega
  have d4 : decide ((nu : Int) ≤ j) = false := by simp; omega
  have d5 : decide (nu ≤ j) = false := by simp; omega
  have dj : decide ((j : Int) < 0) = false := by simp
  have hx := x.toNat_lt
  have hy := y.toNat_lt
  clear hg hpr hk hh hcs hcx e1 e2 e3 e5 e6 hj ho
  go_enter Tryd.func25, Tryd.ntmps25
  go_wp2
  go_ret
  have D' := D.out
  unfold B at D'
  rw [← X.out] at D'
  exact ⟨rfl, D'⟩
end Go.Proofs.YthldfogmmjompaaDoor.net
