/-
  The law NetPlays: small facts for its rounds.
-/
import Derived.Test.YthldfogmmjompaaDoorNetLaw3
import Derived.Test.YthldfogmmjompaaDoorNetArg
namespace Go.Proofs.YthldfogmmjompaaDoor.net
open Go.RowKit Go.Proofs.YthldfogmmjompaaDoor.heap Go.Proofs.YthldfogmmjompaaDoor.own Go.Proofs.YthldfogmmjompaaDoor.wire

theorem LawAt.step {own own' : Nat → Nat} {bn : Nat} {w w' : World} {l : List Dg} {lost : Int} {v u : Value} (h : LawAt own bn w l lost v u) (hb : Below w.heap.size w w') (he : Ext w own own') : LawAt own' bn w' l lost v u :=
  ⟨h.n.below hb h.n.lt, h.w_.below hb h.w_.lt, h.l_.below hb h.l_.lt, h.gn.keep (S := fun _ => False) (Turn.of_below hb (Nat.le_refl _)) he (fun _ _ _ h => h), h.gw.keep (S := fun _ => False) (Turn.of_below hb (Nat.le_refl _)) he (fun _ _ _ h => h), (he _ h.n.lt).trans h.o0, (he _ h.w_.lt).trans h.o1, (he _ h.l_.lt).trans h.o2⟩

theorem sent_len {l : List Dg} {lost : Int} {g : Dg} (h : l.length ≤ 200) : (sent l lost g).1.length ≤ 200 := by
  unfold sent
  split
  · exact h
  · simp; omega
theorem sent_all {l : List Dg} {lost : Int} {g : Dg} (h : ∀ g ∈ l, g.2.length ≤ 100) (hg : g.2.length ≤ 100) : ∀ x ∈ (sent l lost g).1, x.2.length ≤ 100 := by
  unfold sent
  split
  · exact h
  · intro x hx
    rcases List.mem_append.1 hx with hx | hx
    · exact h x hx
    · obtain rfl := List.mem_singleton.1 hx
      exact hg

theorem below_turn {w W1 W2 : World} {S : Nat → Prop} (hbw : Below w.heap.size w W1) (ht : Turn S W1 W2) (hs : ∀ k, k < w.heap.size → ¬ S k) : Below w.heap.size w W2 :=
  hbw.trans (ht.to_below hbw.size hs)

/-- What stands behind a round's switch. -/
def Done (w : World) (wc : World) : Prop :=
  ∃ (own : Nat → Nat) (l : List Dg) (lost : Int) (v u : Value), LawAt own w.heap.size wc l lost v u ∧ l.length ≤ 200 ∧ (∀ g ∈ l, g.2.length ≤ 100) ∧ Below w.heap.size w wc ∧ (∀ j, j < w.heap.size → own j = 0)

/-- Both sent. -/
theorem done_sent {own own2 : Nat → Nat} {w W1 W2 W3 : World} {l : List Dg} {lost : Int} {v u u2 : Value} {g : Dg} (h : LawAt own w.heap.size W1 l lost v u) (hlen : l.length ≤ 200) (hall : ∀ g ∈ l, g.2.length ≤ 100) (hg : g.2.length ≤ 100)
    (hbw : Below w.heap.size w W1) (ho : ∀ j, j < w.heap.size → own j = 0) (e1 : Ext W1 own own2) (t1 : Turn (fun k => k = w.heap.size + 1 ∨ k = w.heap.size + 2 ∨ own k = 3) W1 W2)
    (hw : Has W2 (w.heap.size + 1) (.cells #[u2] 47)) (hl : Has W2 (w.heap.size + 2) (.cells #[.int .i64 (sent l lost g).2] 3)) (hg2 : Grams own2 3 W2 u2 (net.sent l lost g).1)
    (hs : SendPost own2 1 w.heap.size 0 #[v, .int .i64 lost] 49 l lost g W2 W3) : Done w W3 := by
  obtain ⟨own3, v3, f1, f2, f3⟩ := h.sent e1 hw hl hg2 hs
  have ho2 : ∀ j, j < w.heap.size → own2 j = 0 := fun j hj => (e1 j (Nat.lt_of_lt_of_le hj hbw.size)).trans (ho j hj)
  have hb2 : Below w.heap.size w W2 := below_turn hbw t1 (fun k hk hS => by
    rcases hS with rfl | rfl | hS
    · omega
    · omega
    · have := ho k hk; omega)
  refine ⟨own3, _, _, v3, u2, f3, sent_len hlen, sent_all hall hg, below_turn hb2 f2 (fun k hk hS => ?_), fun j hj => ?_⟩
  · rcases hS with rfl | hS
    · omega
    · have := ho2 k hk; omega
  · exact (f1 j (Nat.lt_of_lt_of_le hj hb2.size)).trans (ho2 j hj)
end Go.Proofs.YthldfogmmjompaaDoor.net
