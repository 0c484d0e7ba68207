/-
  A part of the proof of the law WorldLasts: SortRow.
-/
import Derived.Test.YtefkmcjhgoagcaaGreatDoorShelf
import Derived.Test.YtefkmcjhgoagcaaGreatDoorP05
namespace Go.Proofs.YtefkmcjhgoagcaaGreatDoor
namespace sortrow
open Go.RowKit heap own Go.Sort
abbrev sorted (xs : List Int) : List Int:=xs.mergeSort fun x y => decide (x ≤ y)
theorem sorted_len (xs : List Int) : (sorted xs).length = xs.length:=(List.mergeSort_perm _ _).length_eq
theorem put_take (d : List Int) (c : Array Value) (h : d.length ≤ c.size) : (putCells (Value.int .i64) 0 d.toArray c).toList.take d.length = d.map (Value.int .i64):=by
 apply List.ext_getElem?;intro k;rw [List.getElem?_take];by_cases hk : k < d.length
 ·rw [if_pos hk,Array.getElem?_toList];unfold putCells;rw [Array.getElem?_mapIdx,List.getElem?_map,List.getElem?_eq_getElem hk,Array.getElem?_eq_getElem (by omega)];simp [hk]
 ·rw [if_neg hk,List.getElem?_eq_none (by simp;omega)]
theorem sorts (base : Nat) (v : Value) (xs : List Int) (w : World) (h : w.ownsRow base 3 1 v xs.length (xs.map (Value.int .i64))) (hn : xs.length < 4611686018427387904) :
 Calls Tryz.prog 125 #[v] w fun e w' => e = .returned (.tuple #[]) ∧ w'.ownsRow base 3 1 v xs.length ((sorted xs).map (Value.int .i64)) ∧ w.grownBy w' v.ownBlock:=by
 rcases h.2 with ⟨rfl,h0⟩ | ⟨g,cap,cur,rfl,hb,hg,h1,h2,h3,h4⟩
 ·refine (Tryz.slices_Sort_int_none none 0 w).mono ?_;rintro e w' ⟨he,rfl⟩;have hx : xs = []:=List.eq_nil_of_length_eq_zero h0;subst hx;exact ⟨he,⟨by simp,.inl ⟨rfl,rfl⟩⟩,⟨rfl,rfl,rfl,Nat.le_refl _,fun _ _ _ => rfl⟩⟩
 ·have hH : Holds (Value.int .i64) w g 0 xs.toArray:=by
   intro j hj;(have hj' : j < xs.length:=by simpa using hj);have:=row_cell (w:=w) (n:=xs.length) (size:=1) hg h4 j (by omega);refine ⟨?_,by simpa using this.2⟩;rw [Nat.zero_add,this.1,List.getElem?_map,List.getElem?_eq_getElem hj',getElem!_pos _ j hj];rfl
  have hlt : g < w.heap.size:=Has.lt (w:=w) hg;refine (Tryz.slices_Sort_int g 0 cap xs w hH hlt hn).mono ?_;rintro e w' ⟨he,n,os,rfl⟩
  have hnew : (grow (putRow (Value.int .i64) (Sort.ahead w n) g 0 (sorted xs).toArray) os).heap[g]? = some (.cells (putCells (Value.int .i64) 0 (sorted xs).toArray cur) 3):=by
   unfold grow putRow mapBlock Sort.ahead;simp only;rw [Array.getElem?_append_left (by simpa using hlt),Array.getElem?_modify,if_pos rfl,hg];rfl
  have hold : ∀ k,k < w.heap.size → k ≠ g → (grow (putRow (Value.int .i64) (Sort.ahead w n) g 0 (sorted xs).toArray) os).heap[k]? = w.heap[k]?:=by
   intro k hk hne;unfold grow putRow mapBlock Sort.ahead;simp only;rw [Array.getElem?_append_left (by simpa using hk),Array.getElem?_modify,if_neg (Ne.symm hne)]
  refine ⟨he,⟨by simp,.inr ⟨g,cap,_,rfl,hb,hnew,h1,h2,by simp [putCells,h3],?_⟩⟩,⟨rfl,rfl,rfl,?_,fun k hk hne => hold k hk (fun e => hne (by rw [e];rfl))⟩⟩
  ·have:=put_take (sorted xs) cur (by rw [sorted_len,h3];omega);rw [sorted_len] at this;rw [Nat.mul_one];exact this
  ·unfold grow putRow mapBlock Sort.ahead;simp
end sortrow
end Go.Proofs.YtefkmcjhgoagcaaGreatDoor
