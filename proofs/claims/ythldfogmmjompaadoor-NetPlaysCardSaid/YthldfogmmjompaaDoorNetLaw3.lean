/-
  The law NetPlays: its closure, whole; what the law holds.
-/
import Derived.Test.YthldfogmmjompaaDoorNetLaw2
namespace Go.Proofs.YthldfogmmjompaaDoor.net
open Go.RowKit Go.Proofs.YthldfogmmjompaaDoor.heap Go.Proofs.YthldfogmmjompaaDoor.own Go.Proofs.YthldfogmmjompaaDoor.wire

theorem Close_any (own : Nat → Nat) (T bw bl : Nat) (u : Value) (l : List Dg) (lost : Int) (a : Option Addr) (n c : Nat) (bs : List UInt8) (to : Int) (w : World)
    (hw : Has w bw (.cells #[u] 47)) (hl : Has w bl (.cells #[.int .i64 lost] 3)) (hne : bl ≠ bw) (h1 : own bw ≠ T) (h2 : own bw ≠ T + 1) (h3 : own bl ≠ T) (h4 : own bl ≠ T + 1) (hg : Grams own T w u l) (hrd : RD w w.heap.size a n bs) (hn : n ≤ 140737488355328) :
    Calls Tryd.prog 21 #[.agg #[.int .i64 to, .slice a n c], .pointer (some ⟨bw, 0, none⟩), .pointer (some ⟨bl, 0, none⟩)] w fun e w' => e = .returned (.tuple #[]) ∧ ClosePost own T bw bl l lost (to, bs) w w' := by
  by_cases hr : l.length < 200
  · have fin : ∀ {w' : World}, (∃ own' v', Ext w own own' ∧ Turn (fun k => k = bw ∨ own k = T) w w' ∧ Has w' bw (.cells ((#[u] : Array Value).setIfInBounds 0 v') 47) ∧ Grams own' T w' v' (l ++ [(to, bs)])) → ClosePost own T bw bl l lost (to, bs) w w' := by
      rintro w' ⟨own', v', e1, e2, e3, e4⟩
      refine ⟨own', v', e1, e2.mono fun k _ h => ?_, e3, ?_, ?_⟩
      · rcases h with h | h
        · exact .inl h
        · exact .inr (.inr h)
      · rw [sent_room hr]
        exact e2.has hl (fun h => by rcases h with h | h; exact hne h; exact h3 h)
      · rw [sent_room hr]; exact e4
    rcases Nat.eq_zero_or_pos n with h0 | h0
    · subst h0
      obtain rfl : bs = [] := List.eq_nil_of_length_eq_zero hrd.1
      exact (Close_room0 own T bw _ u l a c to w hw h1 h2 hg hr).mono fun e w' ⟨he, hp⟩ => ⟨he, fin hp⟩
    · obtain ⟨b, off, rfl, _⟩ := hrd.2 h0
      exact (Close_room1 own T bw _ u l ⟨b, off, none⟩ n c bs to w hw h1 h2 hg hr hrd h0 hn).mono fun e w' ⟨he, hp⟩ => ⟨he, fin hp⟩
  · have hr' : 200 ≤ l.length := by omega
    have hg' := hg
    obtain ⟨ps, hps, hrow, hbytes, hnd⟩ := hg
    obtain ⟨A, m, cap, rfl, hm⟩ : ∃ A m cap, u = .slice A m cap ∧ m = l.length := by
      rcases hrow.1.2 with ⟨rfl, h0⟩ | ⟨g, cap, cur, rfl, _⟩
      · exact ⟨_, _, _, rfl, h0.symm⟩
      · exact ⟨_, _, _, rfl, rfl⟩
    refine (Close_full bw bl m cap A lost (.slice a n c) to w hw hl (by omega)).mono fun e w' ⟨he, hw'⟩ => ⟨he, own, .slice A m cap, Ext.refl _ _, ?_, ?_, ?_, ?_⟩
    · rw [hw']; exact ((Turn.refl _ w).setCell (p := ⟨bl, 0, none⟩) (.inr (.inr (.inl rfl))) _).alloc _
    · rw [hw']; exact (hw.far (p := ⟨bl, 0, none⟩) (Ne.symm hne) _).alloc _
    · rw [hw', sent_full hr']; exact (hl.set_ 0 _).alloc _
    · rw [sent_full hr', hw']
      refine hg'.keep (S := fun k => k = bl) (((Turn.refl (fun k => k = bl) w).setCell (p := ⟨bl, 0, none⟩) (.inr rfl) _).alloc _) (Ext.refl _ _) (fun k _ e h => ?_)
      subst h
      rcases e with e | e
      · exact h3 e
      · exact h4 e

/-- What stands when a round begins: the net (block bn), the law's own list (bw) and count (bl), alike. -/
structure LawAt (own : Nat → Nat) (bn : Nat) (w : World) (l : List Dg) (lost : Int) (v u : Value) : Prop where
  n : Has w bn (.cells #[v, .int .i64 lost] 49)
  w_ : Has w (bn + 1) (.cells #[u] 47)
  l_ : Has w (bn + 2) (.cells #[.int .i64 lost] 3)
  gn : Grams own 1 w v l
  gw : Grams own 3 w u l
  o0 : own bn = 0
  o1 : own (bn + 1) = 0
  o2 : own (bn + 2) = 0

theorem LawAt.below {own : Nat → Nat} {bn : Nat} {w w' : World} {l : List Dg} {lost : Int} {v u : Value} (h : LawAt own bn w l lost v u) (hb : Below w.heap.size w w') : LawAt own bn w' l lost v u :=
  ⟨h.n.below hb h.n.lt, h.w_.below hb h.w_.lt, h.l_.below hb h.l_.lt, h.gn.keep (S := fun _ => False) (Turn.of_below hb (Nat.le_refl _)) (Ext.refl _ _) (fun _ _ _ h => h), h.gw.keep (S := fun _ => False) (Turn.of_below hb (Nat.le_refl _)) (Ext.refl _ _) (fun _ _ _ h => h), h.o0, h.o1, h.o2⟩

/-- Behind the law's own send. -/
theorem LawAt.close {own : Nat → Nat} {bn : Nat} {w w' : World} {l : List Dg} {lost : Int} {v u : Value} {g : Dg} (h : LawAt own bn w l lost v u) (hc : ClosePost own 3 (bn + 1) (bn + 2) l lost g w w') :
    ∃ own' u', Ext w own own' ∧ Turn (fun k => k = bn + 1 ∨ k = bn + 2 ∨ own k = 3) w w' ∧ Has w' bn (.cells #[v, .int .i64 lost] 49) ∧ Has w' (bn + 1) (.cells #[u'] 47) ∧ Has w' (bn + 2) (.cells #[.int .i64 (sent l lost g).2] 3) ∧ Grams own' 1 w' v l ∧ Grams own' 3 w' u' (sent l lost g).1 := by
  obtain ⟨own', u', e1, e2, e3, e4, e5⟩ := hc
  refine ⟨own', u', e1, e2, e2.has h.n (fun k => ?_), e3, e4, h.gn.keep e2 e1 (fun k _ e hk => ?_), e5⟩
  · have := h.o0
    omega
  · have h1 := h.o1
    have h2 := h.o2
    rcases hk with rfl | rfl | hk <;> omega

/-- .. and the net's. -/
theorem LawAt.sent {own : Nat → Nat} {bn : Nat} {w w1 w2 : World} {l : List Dg} {lost : Int} {v u u' : Value} {g : Dg} {own' : Nat → Nat} (h : LawAt own bn w l lost v u) (e1 : Ext w own own')
    (hw : Has w1 (bn + 1) (.cells #[u'] 47)) (hl : Has w1 (bn + 2) (.cells #[.int .i64 (sent l lost g).2] 3)) (hg : Grams own' 3 w1 u' (net.sent l lost g).1)
    (hs : SendPost own' 1 bn 0 #[v, .int .i64 lost] 49 l lost g w1 w2) :
    ∃ own2 v2, Ext w1 own' own2 ∧ Turn (fun k => k = bn ∨ own' k = 1) w1 w2 ∧ LawAt own2 bn w2 (net.sent l lost g).1 (net.sent l lost g).2 v2 u' := by
  obtain ⟨own2, v2, f1, f2, f3, f4⟩ := hs
  have o0 := e1 bn h.n.lt
  have o1 := e1 (bn + 1) h.w_.lt
  have o2 := e1 (bn + 2) h.l_.lt
  have p0 := f1 bn (by have := hw.lt; omega)
  have p1 := f1 (bn + 1) hw.lt
  have p2 := f1 (bn + 2) hl.lt
  have q0 := h.o0
  have q1 := h.o1
  have q2 := h.o2
  refine ⟨own2, v2, f1, f2, f3, f2.has hw (fun k => by omega), f2.has hl (fun k => by omega), f4, hg.keep f2 f1 (fun k _ e hk => ?_), by omega, by omega, by omega⟩
  rcases hk with rfl | hk <;> omega
end Go.Proofs.YthldfogmmjompaaDoor.net
