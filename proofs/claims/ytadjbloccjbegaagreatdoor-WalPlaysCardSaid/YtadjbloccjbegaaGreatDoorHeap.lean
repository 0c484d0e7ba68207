/-
  Small facts on memory: a block that is known whole.
-/
import Derived.Below
import Derived.Laws.OwnMore
import Derived.Laws.CopyOwn
import Derived.Laws.Rows
import Derived.Deep.Draws
import Derived.Lib.Hide
namespace Go.Proofs.YtadjbloccjbegaaGreatDoor.heap
open Go.RowKit

/-- Block g is just o. -/
def Has (w : World) (g : Nat) (o : Obj) : Prop := w.heap[g]? = some o

section
variable {w w' : World} {g : Nat} {o : Obj} {t : TypeId} {cs : Array Value}
theorem Has.lt (h : Has w g o) : g < w.heap.size := by
  rcases Nat.lt_or_ge g w.heap.size with hlt | hge
  · exact hlt
  · unfold Has at h; rw [Array.getElem?_eq_none hge] at h; cases h
theorem Has.cell (h : Has w g (.cells cs t)) (i : Nat) : w.cell? ⟨g, i, none⟩ = cs[i]? := cell_of_row w g i cs t (0, 0) h
theorem Has.frozen (h : Has w g (.cells cs t)) (i : Nat) : w.frozen? ⟨g, i, none⟩ = false := by
  unfold Has at h
  simp [World.frozen?, h]
theorem Has.new (w : World) (o : Obj) : Has (w.alloc o) w.heap.size o := heap_alloc_new w o
theorem Has.drew (h : Has w g o) : Has w.drew g o := h
theorem Has.drewN (h : Has w g o) (n : Nat) : Has (w.drewN n) g o := h
theorem Has.alloc (h : Has w g o) (o' : Obj) : Has (w.alloc o') g o := (Below.heap_alloc w o' g h.lt).trans h
theorem Has.set_ (h : Has w g (.cells cs t)) (i : Nat) (u : Value) : Has (w.setCell ⟨g, i, none⟩ u) g (.cells (cs.setIfInBounds i u) t) := by
  unfold Has at h ⊢
  simp [World.setCell, Array.getElem?_modify, h]
theorem Has.far (h : Has w g o) {p : Addr} (hp : g ≠ p.block) (u : Value) : Has (w.setCell p u) g o := (Below.heap_setCell w p u g hp).trans h
theorem Has.below {B : Nat} (h : Has w g o) (hb : Below B w w') (hg : g < B) : Has w' g o := (hb.block g hg).trans h
theorem Has.grown {row : Option Nat} (h : Has w g o) (hb : w.grownBy w' row) (hg : some g ≠ row) : Has w' g o := (hb.block g h.lt hg).trans h
theorem Has.setRow {old : Array Value} (h : Has w g (.cells old t)) (cs : Array Value) : Has (w.setRow g cs) g (.cells cs t) := setRow_heap w g old cs t (0, 0) h
theorem Has.setRow_far {g' : Nat} (h : Has w g o) (hne : g ≠ g') (cs : Array Value) : Has (w.setRow g' cs) g o := (setRow_other w g' g cs hne).trans h
theorem Has.same {o' : Obj} (h : Has w g o) (h' : Has w g o') : o = o' := Option.some.inj (h.symm.trans h')
end

theorem below_drewN {B : Nat} {a w : World} (h : Below B a w) (n : Nat) : Below B a (w.drewN n) := ⟨h.os, h.tape, h.output, h.size, h.block⟩
end Go.Proofs.YtadjbloccjbegaaGreatDoor.heap
