/-
  Whose a block is: a ghost function 'own' gives each block a number (its owner); 0: nobody's (read alone, or a local). What a call may write is told by a set of blocks.
-/
import Derived.Test.YtadjbloccjbegaaGreatDoorHeap
import Derived.Below
import Derived.Laws.OwnMore
import Derived.Laws.Rows
namespace Go.Proofs.YtadjbloccjbegaaGreatDoor.own
open Go.RowKit Go.Proofs.YtadjbloccjbegaaGreatDoor.heap

/-- Blocks that were there keep their owners. -/
def Ext (w : World) (own own' : Nat → Nat) : Prop := ∀ k, k < w.heap.size → own' k = own k
/-- New blocks are T's. -/
def newOwn (own : Nat → Nat) (w : World) (T : Nat) : Nat → Nat := fun k => if k < w.heap.size then own k else T

theorem Ext.refl (w : World) (own : Nat → Nat) : Ext w own own := fun _ _ => rfl
theorem Ext.new (w : World) (own : Nat → Nat) (T : Nat) : Ext w own (newOwn own w T) := fun k hk => by simp [newOwn, hk]
theorem Ext.trans {w w1 : World} {o o1 o2 : Nat → Nat} (h : Ext w o o1) (h1 : Ext w1 o1 o2) (hs : w.heap.size ≤ w1.heap.size) : Ext w o o2 :=
  fun k hk => (h1 k (by omega)).trans (h k hk)
theorem new_old {w : World} {own : Nat → Nat} {T k : Nat} (h : k < w.heap.size) : newOwn own w T k = own k := by simp [newOwn, h]
theorem new_new {w : World} {own : Nat → Nat} {T k : Nat} (h : w.heap.size ≤ k) : newOwn own w T k = T := by simp [newOwn]; omega

/-- From w to w' no block has turned that was there, but those in S. -/
structure Turn (S : Nat → Prop) (w w' : World) : Prop where
  os : w'.os = w.os
  tape : w'.tape = w.tape
  output : w'.output = w.output
  size : w.heap.size ≤ w'.heap.size
  block : ∀ k, k < w.heap.size → ¬ S k → w'.heap[k]? = w.heap[k]?

section
variable {S S' : Nat → Prop} {w w1 w2 : World}
theorem Turn.refl (S : Nat → Prop) (w : World) : Turn S w w := ⟨rfl, rfl, rfl, Nat.le_refl _, fun _ _ _ => rfl⟩
theorem Turn.trans (h : Turn S w w1) (h1 : Turn S' w1 w2) (hs : ∀ k, k < w.heap.size → S' k → S k) : Turn S w w2 :=
  ⟨h1.os.trans h.os, h1.tape.trans h.tape, h1.output.trans h.output, Nat.le_trans h.size h1.size,
   fun k hk hn => (h1.block k (Nat.lt_of_lt_of_le hk h.size) fun h => hn (hs k hk h)).trans (h.block k hk hn)⟩
theorem Turn.mono (h : Turn S w w1) (hs : ∀ k, k < w.heap.size → S k → S' k) : Turn S' w w1 :=
  ⟨h.os, h.tape, h.output, h.size, fun k hk hn => h.block k hk fun h => hn (hs k hk h)⟩
theorem Turn.drew (h : Turn S w w1) : Turn S w w1.drew := ⟨h.os, h.tape, h.output, h.size, h.block⟩
theorem Turn.drewN (h : Turn S w w1) (n : Nat) : Turn S w (w1.drewN n) := ⟨h.os, h.tape, h.output, h.size, h.block⟩
theorem Turn.alloc (h : Turn S w w1) (o : Obj) : Turn S w (w1.alloc o) :=
  h.trans (S' := S) ⟨rfl, rfl, rfl, by simp, fun k hk _ => Below.heap_alloc _ _ _ hk⟩ (fun _ _ h => h)
theorem Turn.setCell (h : Turn S w w1) {p : Addr} (hp : w.heap.size ≤ p.block ∨ S p.block) (u : Value) : Turn S w (w1.setCell p u) :=
  ⟨h.os, h.tape, h.output, by have := h.size; simpa [World.setCell] using this, fun k hk hn => (Below.heap_setCell _ _ _ _ (by rintro rfl; rcases hp with hp | hp; omega; exact hn hp)).trans (h.block k hk hn)⟩
theorem Turn.setRow (h : Turn S w w1) {g : Nat} (hp : w.heap.size ≤ g ∨ S g) (cs : Array Value) : Turn S w (w1.setRow g cs) :=
  ⟨h.os, h.tape, h.output, by have := h.size; simpa [World.setRow] using this, fun k hk hn => (setRow_other _ _ _ _ (by rintro rfl; rcases hp with hp | hp; omega; exact hn hp)).trans (h.block k hk hn)⟩
theorem Turn.grown (h : Turn S w w1) {row : Option Nat} (hg : w1.grownBy w2 row) (hr : ∀ k, row = some k → w.heap.size ≤ k ∨ S k) : Turn S w w2 :=
  ⟨hg.os.trans h.os, hg.tape.trans h.tape, hg.output.trans h.output, Nat.le_trans h.size hg.size,
   fun k hk hn => (hg.block k (Nat.lt_of_lt_of_le hk h.size) (by rintro rfl; rcases hr k rfl with h | h; omega; exact hn h)).trans (h.block k hk hn)⟩
theorem Turn.below (h : Turn S w w1) {B : Nat} (hb : Below B w1 w2) (hB : ∀ k, k < w.heap.size → ¬ S k → k < B) : Turn S w w2 :=
  ⟨hb.os.trans h.os, hb.tape.trans h.tape, hb.output.trans h.output, Nat.le_trans h.size hb.size, fun k hk hn => (hb.block k (hB k hk hn)).trans (h.block k hk hn)⟩
theorem Turn.of_below {B : Nat} (hb : Below B w w1) (hB : w.heap.size ≤ B) : Turn S w w1 :=
  (Turn.refl _ _).below hb (fun _ hk _ => Nat.lt_of_lt_of_le hk hB)
theorem Turn.then_below (h : Turn S w w1) {B : Nat} (hb : Below B w1 w2) (hB : w1.heap.size ≤ B) : Turn S w w2 :=
  h.below hb (fun _ hk _ => Nat.lt_of_lt_of_le (Nat.lt_of_lt_of_le hk h.size) hB)
/-- Where nothing that was there below B is in S. -/
theorem Turn.to_below (h : Turn S w w1) {B : Nat} (hB : B ≤ w.heap.size) (hn : ∀ k, k < B → ¬ S k) : Below B w w1 :=
  ⟨h.os, h.tape, h.output, h.size, fun k hk => h.block k (by omega) (hn k hk)⟩
/-- Behind what left old memory below B alone: old blocks that were kept, from B on, are told apart. -/
theorem Turn.has (h : Turn S w w1) {g : Nat} {o : Obj} (hh : Has w g o) (hn : ¬ S g) : Has w1 g o := (h.block g hh.lt hn).trans hh
theorem Turn.cell (h : Turn S w w1) {p : Addr} (hp : p.block < w.heap.size) (hn : ¬ S p.block) : w1.cell? p = w.cell? p := World.cell?_of_block (h.block _ hp hn)
theorem Turn.frozen (h : Turn S w w1) {p : Addr} (hp : p.block < w.heap.size) (hn : ¬ S p.block) : w1.frozen? p = w.frozen? p := World.frozen?_of_block (h.block _ hp hn)
end

/-- A slice of the call's own whose row is T's. -/
def Row (own : Nat → Nat) (T : Nat) (w : World) (e : TypeId) (size : Nat) (v : Value) (n : Nat) (xs : List Value) : Prop :=
  w.ownsRow 0 e size v n xs ∧ ∀ g, v.ownBlock = some g → own g = T

section
variable {own own1 : Nat → Nat} {S : Nat → Prop} {w w1 w2 : World} {T : Nat} {e : TypeId} {size n : Nat} {v : Value} {xs : List Value}
theorem Row.lt (h : Row own T w e size v n xs) : ∀ g, v.ownBlock = some g → g < w.heap.size := by
  intro g hg
  rcases h.1.2 with ⟨rfl, _⟩ | ⟨g', cap, cur, rfl, _, h2, _⟩
  · cases hg
  · have : g' = g := by simpa [Value.ownBlock] using hg
    subst this
    exact Has.lt (w := w) h2
theorem row_kept (h : w.ownsRow 0 e size v n xs) (hb : ∀ g, v.ownBlock = some g → w1.heap[g]? = w.heap[g]?) : w1.ownsRow 0 e size v n xs := by
  refine ⟨h.1, ?_⟩
  rcases h.2 with h2 | ⟨g, cap, cur, h1, h2, h3, h4⟩
  · exact .inl h2
  · exact .inr ⟨g, cap, cur, h1, h2, (hb g (by rw [h1]; rfl)).trans h3, h4⟩
/-- What T owns stands where nothing of T's has turned. -/
theorem Row.keep (h : Row own T w e size v n xs) (ht : Turn S w w1) (he : Ext w own own1) (hn : ∀ k, k < w.heap.size → own k = T → ¬ S k) : Row own1 T w1 e size v n xs :=
  ⟨row_kept h.1 fun g hg => ht.block g (h.lt g hg) (hn g (h.lt g hg) (h.2 g hg)), fun g hg => by rw [he g (h.lt g hg)]; exact h.2 g hg⟩
/-- The same, by the row's own block. -/
theorem Row.keep_ (h : Row own T w e size v n xs) (ht : Turn S w w1) (he : Ext w own own1) (hn : ∀ k, v.ownBlock = some k → ¬ S k) : Row own1 T w1 e size v n xs :=
  ⟨row_kept h.1 fun g hg => ht.block g (h.lt g hg) (hn g hg), fun g hg => by rw [he g (h.lt g hg)]; exact h.2 g hg⟩
theorem Row.nil (own : Nat → Nat) (T : Nat) (w : World) (e : TypeId) (size : Nat) : Row own T w e size (.slice none 0 0) 0 [] :=
  ⟨⟨by simp, .inl ⟨rfl, rfl⟩⟩, fun g hg => by cases hg⟩
end
end Go.Proofs.YtadjbloccjbegaaGreatDoor.own
