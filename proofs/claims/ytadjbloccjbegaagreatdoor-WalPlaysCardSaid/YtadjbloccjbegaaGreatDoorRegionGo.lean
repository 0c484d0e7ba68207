/-
  Steps of a region that draws its order (RegionLast), the frame written out behind each.
-/
import Derived.Test.YtadjbloccjbegaaGreatDoorRegionLast
namespace Go.Proofs.YtadjbloccjbegaaGreatDoor.last
open Go

section
variable {P : Program} {ops : Array Oper} {Q : Exit → Act → World → Prop} {md : Region.Mode} {S : World → Prop} {L : Nat}

/-- A load, a move ..: slot d is v. -/
theorem wpAnyL_go (i d : Nat) (v : Value) {oi : Oper} {fuel : Nat} {listed : Array Bool} {ts : Array Value} {ds : List Deferred} {w : World} (hi : ops[i]? = some oi) (hd : oi.dst = some d)
    (hs : Region.noSelect ops = true) (hf : Region.free md ops listed i = true) (hr : (Region.ready md ops listed).contains i = true) (hl : waits md ops L i = true)
    (hQ : ∀ c a w, Q (.panic c) (a.put (some d) v) w → Q (.panic c) a w) (hS : S w) (hw : Region.wanted oi (yielded ops ts) = true) (hy : ∀ w, S w → (execOp (Act.eval ⟨ts, ds⟩) oi).run P w = .ok (.value v) w)
    (h : wpAnyL P md ops Q S L fuel (listed.setIfInBounds i true) ⟨ts.setIfInBounds d v, ds⟩ w) : wpAnyL P md ops Q S L (fuel + 1) listed ⟨ts, ds⟩ w :=
  wpAnyL_take hi hs hf hr hl (by rw [hd]; exact hQ) hS hw hy (by rw [hd]; exact h)
/-! The same over lists written out: what stands behind a step is told by 'dsimp only [List.set_cons_succ, List.set_cons_zero]' alone. -/
theorem set_toArray {α : Type} (l : List α) (i : Nat) (v : α) : l.toArray.setIfInBounds i v = (l.set i v).toArray := by simp
theorem wpAnyL_goL (i d : Nat) (v : Value) {oi : Oper} {fuel : Nat} {lb : List Bool} {ts : List Value} {ds : List Deferred} {w : World} (hi : ops[i]? = some oi) (hd : oi.dst = some d)
    (hs : Region.noSelect ops = true) (hf : Region.free md ops lb.toArray i = true) (hr : (Region.ready md ops lb.toArray).contains i = true) (hl : waits md ops L i = true)
    (hQ : ∀ c a w, Q (.panic c) (a.put (some d) v) w → Q (.panic c) a w) (hS : S w) (hw : Region.wanted oi (yielded ops ts.toArray) = true) (hy : ∀ w, S w → (execOp (Act.eval ⟨ts.toArray, ds⟩) oi).run P w = .ok (.value v) w)
    (h : wpAnyL P md ops Q S L fuel (lb.set i true).toArray ⟨(ts.set d v).toArray, ds⟩ w) : wpAnyL P md ops Q S L (fuel + 1) lb.toArray ⟨ts.toArray, ds⟩ w := by
  refine wpAnyL_go i d v hi hd hs hf hr hl hQ hS hw hy ?_
  rw [set_toArray, set_toArray]
  exact h
theorem wpAnyL_oneL {i : Nat} {o : Oper} {fuel : Nat} {lb : List Bool} {a : Act} {w : World} (hr : Region.ready md ops lb.toArray = [i]) (ho : ops[i]? = some o)
    (h : ∀ K' : Act → World → Prop, Shut (∀ a w, (i ≠ L → S w) → wpAnyL P md ops Q S L fuel (lb.set i true).toArray a w → K' a w) → if Region.wanted o (yielded ops a.tmps) = true then Oper.wp P o a w K' Q else K' (a.put o.dst undef) w) :
    wpAnyL P md ops Q S L (fuel + 1) lb.toArray a w := by
  refine wpAnyL_one hr ho fun K' hK => h K' ?_
  rw [← set_toArray]
  exact hK
theorem wp_region_lastL {id : Nat} {a : Act} {w : World} {n : Nat} {lb : List Bool} (hn : ops.size = n) (hlb : List.replicate n false = lb) (hm : P.follows .mixedOrders = true)
    (h : wpAnyL P .any ops Q S L n lb.toArray a w.drew) : (Code.region id ops true).wp P Q a w := by
  refine wp_region_last (S := S) (L := L) hm ?_
  have e : Array.replicate ops.size false = lb.toArray := by rw [hn, ← hlb]; simp
  rw [e, hn]
  exact h
end
end Go.Proofs.YtadjbloccjbegaaGreatDoor.last
