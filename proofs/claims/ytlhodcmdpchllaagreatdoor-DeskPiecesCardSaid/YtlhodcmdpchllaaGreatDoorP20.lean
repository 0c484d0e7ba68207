/-
  A part of the proof of the law DeskPieces: SortRow.
-/
import Derived.Test.YtlhodcmdpchllaaGreatDoorShelf
import Derived.Test.YtlhodcmdpchllaaGreatDoorHd
import Derived.Test.YtlhodcmdpchllaaGreatDoorP07
set_option maxHeartbeats 16000000
set_option maxRecDepth 1000000
namespace Go.Proofs.YtlhodcmdpchllaaGreatDoor
namespace vC
open Go.RowKit heap own Go.Sort
abbrev sorted (xs:List Int):List Int:=xs.mergeSort fun x y=>decide (x<=y)
theorem sE (xs:List Int):(sorted xs).length=xs.length:=(List.mergeSort_perm _ _).length_eq
theorem B9 (d:List Int) (c:Array Value) (h:d.length<=c.size):(putCells (Value.int .i64) 0 d.toArray c).toList.take d.length=d.map (Value.int .i64):=by
 apply List.ext_getElem?;intro k;rw[cW];by_cases hk:k<d.length
 ·rw[if_pos hk,cC];unfold putCells;rw[Array.getElem?_mapIdx,aY,ax hk,cx (by omega)];simp[hk]
 rw[if_neg hk,bm (by simp;omega)]
theorem Ca (base:Nat) (v:Value) (xs:List Int) (w:World) (h:w.ownsRow base 3 1 v xs.length (xs.map (Value.int .i64))) (hn:xs.length<4611686018427387904) :
 Calls Tryz.prog 216 #[v] w fun e w'=>e=.returned (.tuple #[])/\w'.ownsRow base 3 1 v xs.length ((sorted xs).map (Value.int .i64))/\w.grownBy w' v.ownBlock:=by
 rcases h.2 with⟨rfl,h0⟩|⟨g,cap,cur,rfl,hb,hg,h1,h2,h3,h4⟩
 ·refine (Tryz.slices_Sort_int_none none 0 w).mono ?_;rintro e w' ⟨he,rfl⟩;have hx:xs=[]:=aP h0;subst hx;exact⟨he,⟨by simp,.inl ⟨rfl,rfl⟩⟩,⟨rfl,rfl,rfl,aq _,fun _ _ _=>rfl⟩⟩
 have hH:Holds (Value.int .i64) w g 0 xs.toArray:=by
  intro j hj;(have OU:j<xs.length:=by simpa using hj);have:=ij (w:=w) (n:=xs.length) (size:=1) hg h4 j (by omega);refine⟨?_,by simpa using this.2⟩;rw[bW,this.1,aY,ax OU,getElem!_pos _ j hj];rfl
 have Kg:g<w.heap.size:=Has.lt (w:=w) hg;refine (Tryz.slices_Sort_int g 0 cap xs w hH Kg hn).mono ?_;rintro e w' ⟨he,n,os,rfl⟩
 have OV:(grow (putRow (Value.int .i64) (Sort.ahead w n) g 0 (sorted xs).toArray) os).heap[g]?=some (.cells (putCells (Value.int .i64) 0 (sorted xs).toArray cur) 3):=by
  unfold grow putRow mapBlock Sort.ahead;simp only;rw[Array.getElem?_append_left (by simpa using Kg),Array.getElem?_modify,if_pos rfl,hg];rfl
 have hold:∀k,k<w.heap.size->k≠g->(grow (putRow (Value.int .i64) (Sort.ahead w n) g 0 (sorted xs).toArray) os).heap[k]?=w.heap[k]?:=by
  intro k hk Km;unfold grow putRow mapBlock Sort.ahead;simp only;rw[Array.getElem?_append_left (by simpa using hk),Array.getElem?_modify,if_neg (Ne.symm Km)]
 refine⟨he,⟨by simp,.inr ⟨g,cap,_,rfl,hb,OV,h1,h2,by simp[putCells,h3],?_⟩⟩,⟨rfl,rfl,rfl,?_,fun k hk Km=>hold k hk (fun e=>Km (by rw[e];rfl))⟩⟩
 ·have:=B9 (sorted xs) cur (by rw[sE,h3];omega);rw[sE]at this;rw[Nat.mul_one];exact this
 unfold grow putRow mapBlock Sort.ahead;simp
end vC
end Go.Proofs.YtlhodcmdpchllaaGreatDoor
