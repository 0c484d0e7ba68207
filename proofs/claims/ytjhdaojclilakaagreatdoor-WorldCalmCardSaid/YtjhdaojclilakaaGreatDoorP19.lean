/-
  A part of the proof of the law WorldCalm: SortRow.
-/
import Derived.Test.YtjhdaojclilakaaGreatDoorShelf
import Derived.Test.YtjhdaojclilakaaGreatDoorHd
import Derived.Test.YtjhdaojclilakaaGreatDoorP06
set_option maxHeartbeats 16000000
set_option maxRecDepth 1000000
namespace Go.Proofs.YtjhdaojclilakaaGreatDoor
namespace zO
open Go.RowKit heap own Go.Sort
abbrev sorted (xs:List Int):List Int:=xs.mergeSort fun x y=>decide (x<=y)
theorem wO (xs:List Int):(sorted xs).length=xs.length:=(List.mergeSort_perm _ _).length_eq
theorem GX (d:List Int) (c:Array Value) (h:d.length<=c.size):(putCells (Value.int .i64) 0 d.toArray c).toList.take d.length=d.map (Value.int .i64):=by
 apply List.ext_getElem?;intro k;rw[dI];by_cases a:k<d.length
 ·rw[if_pos a,du];unfold putCells;rw[Array.getElem?_mapIdx,br,ay a,dw ab];simp[a]
 rw[if_neg a,bw ah]
theorem GY (base:Nat) (v:Value) (xs:List Int) (w:World) (h:w.ownsRow base 3 1 v xs.length (xs.map (Value.int .i64))) (l:xs.length<4611686018427387904) :
 Calls Tryz.prog 123 #[v] w fun e w'=>e=.returned (.tuple #[])/\w'.ownsRow base 3 1 v xs.length ((sorted xs).map (Value.int .i64))/\w.grownBy w' v.ownBlock:=by
 rcases h.2 with⟨rfl,m⟩|⟨g,cap,cur,rfl,hb,a,o,p,d,q⟩
 ·refine (Tryz.slices_Sort_int_none none 0 w).mono ?_;rintro e w' ⟨he,rfl⟩;have r:xs=[]:=bc m;subst r;exact⟨he,⟨ae,.inl ⟨rfl,rfl⟩⟩,⟨rfl,rfl,rfl,ax _,fun _ _ _=>rfl⟩⟩
 have s:Holds (Value.int .i64) w g 0 xs.toArray:=by
  intro j f;(have t:j<xs.length:=by simpa using f);have:=kj (w:=w) (n:=xs.length) (size:=1) a q j ab;refine⟨?_,by simpa using this.2⟩;rw[cN,this.1,br,ay t,getElem!_pos _ j f];rfl
 have i:g<w.heap.size:=Has.lt (w:=w) a;refine (Tryz.slices_Sort_int g 0 cap xs w s i l).mono ?_;rintro e w' ⟨he,n,os,rfl⟩
 have u:(grow (putRow (Value.int .i64) (Sort.ahead w n) g 0 (sorted xs).toArray) os).heap[g]?=some (.cells (putCells (Value.int .i64) 0 (sorted xs).toArray cur) 3):=by
  unfold grow putRow mapBlock Sort.ahead;simp only;rw[Array.getElem?_append_left (by simpa using i),Array.getElem?_modify,if_pos rfl,a];rfl
 have hold:∀k,k<w.heap.size->k≠g->(grow (putRow (Value.int .i64) (Sort.ahead w n) g 0 (sorted xs).toArray) os).heap[k]?=w.heap[k]?:=by
  intro k b c;unfold grow putRow mapBlock Sort.ahead;simp only;rw[Array.getElem?_append_left (by simpa using b),Array.getElem?_modify,if_neg (Ne.symm c)]
 refine⟨he,⟨ae,.inr ⟨g,cap,_,rfl,hb,u,o,p,by simp[putCells,d],?_⟩⟩,⟨rfl,rfl,rfl,?_,fun k b c=>hold k b (fun e=>c (by rw[e];rfl))⟩⟩
 ·have:=GX (sorted xs) cur (by rw[wO,d];omega);rw[wO]at this;rw[Nat.mul_one];exact this
 unfold grow putRow mapBlock Sort.ahead;simp
end zO
end Go.Proofs.YtjhdaojclilakaaGreatDoor
