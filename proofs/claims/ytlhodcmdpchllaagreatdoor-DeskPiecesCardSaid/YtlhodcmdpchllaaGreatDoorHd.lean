/-
  Short names: of a fact laid behind Hid, of a cell, of theorems of the library.
-/
import Derived.RowKit
import Derived.Lib.Hide
import Derived.Below
namespace Go.Proofs.YtlhodcmdpchllaaGreatDoor
def Hy (p : Prop) : Prop:=p
theorem Hy.o {p : Prop} (h : Hy p) : p:=h
theorem Hy.out {p : Prop} (h : Hy p) : p:=h
theorem Hd {p : Prop} (h : p) : Hy p:=h
theorem nm {α : Sort _} (a : α) : ∃ x,x = a:=⟨a,rfl⟩
theorem Lt {w : World} {a : Addr} {v : Value} (h : w.cell? a = some v) : a.block < w.heap.size:=by
 rcases Nat.lt_or_ge a.block w.heap.size with k | k
 ·exact k
 ·simp [World.cell?,Array.getElem?_eq_none k] at h
abbrev BB (w w' : World) : Prop:=RowKit.Below w.heap.size w w'
@[simp] abbrev CC (w : World) (b o : Nat) (v : Value) : Prop:=w.cell? ⟨b,o,none⟩ = some v
@[simp] abbrev CI (w : World) (b o : Nat) (v : Int) : Prop:=w.cell? ⟨b,o,none⟩ = some (.int .i64 v)
@[simp] abbrev CP (w : World) (b o c p : Nat) : Prop:=w.cell? ⟨b,o,none⟩ = some (.pointer (some ⟨c,p,none⟩))
@[simp] abbrev CS (w : World) (b o g n c : Nat) : Prop:=w.cell? ⟨b,o,none⟩ = some (.slice (some ⟨g,0,none⟩) n c)
abbrev VI (v : Int) : Value:=.int .i64 v
abbrev VP (b o : Nat) : Value:=.pointer (some ⟨b,o,none⟩)
abbrev aq:=@Nat.le_refl
abbrev ar:=@List.getElem?_eq_some_iff
abbrev aw:=@Option.some.inj
abbrev ax:=@List.getElem?_eq_getElem
abbrev ay:=@Nat.lt_of_lt_of_le
abbrev az:=@Nat.le_trans
abbrev aA:=@List.length_append
abbrev aB:=@List.getD_eq_getElem?_getD
abbrev aC:=@List.getElem?_toArray
abbrev aD:=@List.getElem?_cons_succ
abbrev aE:=@List.getElem?_cons_zero
abbrev aF:=@List.setIfInBounds_toArray
abbrev aG:=@List.set_cons_succ
abbrev aH:=@List.mem_singleton
abbrev aI:=@List.set_cons_zero
abbrev aJ:=@List.length_cons
abbrev aK:=@Bool.and_eq_true
abbrev aL:=@List.getElem?_append_right
abbrev aM:=@List.mem_cons
abbrev aN:=@List.length_set
abbrev aO:=@List.mem_append
abbrev aP:=@List.eq_nil_of_length_eq_zero
abbrev aQ:=@List.length_singleton
abbrev aR:=@List.mem_of_getElem?
abbrev aS:=@List.length_map
abbrev aT:=@List.getElem?_set_self
abbrev aU:=@List.flatMap_cons
abbrev aV:=@List.getElem?_append_left
abbrev aW:=@Nat.lt_or_ge
abbrev aX:=@List.getElem?_set_ne
abbrev aY:=@List.getElem?_map
abbrev aZ:=@List.length_nil
abbrev a8:=@Bool.not_eq_true'
abbrev ba:=@List.take_of_length_le
abbrev bc:=@List.not_mem_nil
abbrev bf:=@List.map_cons
abbrev bh:=@List.mem_cons_of_mem
abbrev bk:=@List.set_append_right
abbrev bm:=@List.getElem?_eq_none
abbrev bn:=@List.cons_append
abbrev bo:=@List.take_add_one
abbrev bp:=@List.take_length
abbrev bq:=@Option.some.injEq
abbrev br:=@Bool.and_eq_false_iff
abbrev bt:=@List.mem_cons_self
abbrev bu:=@Nat.mul_le_mul_right
abbrev bw:=@List.append_assoc
abbrev bx:=@Nat.eq_zero_or_pos
abbrev bz:=@Array.getElem?_eq_some_iff
abbrev bA:=@List.mem_map
abbrev bB:=@List.getElem?_replicate
abbrev bC:=@List.take_succ_eq_append_getElem
abbrev bD:=@List.mem_of_mem_eraseIdx
abbrev bE:=@Bool.eq_iff_iff
abbrev bF:=@Bool.or_eq_true
abbrev bG:=@List.length_take
abbrev bH:=@Int.toNat_natCast
abbrev bI:=@List.drop_of_length_le
abbrev bJ:=@List.map_nil
abbrev bK:=@Bool.false_eq_true
abbrev bL:=@List.nil_append
abbrev bN:=@List.map_append
abbrev bO:=@List.length_drop
abbrev bP:=@Nat.zero_le
abbrev bQ:=@Array.length_toList
abbrev bR:=@List.length_replicate
abbrev bS:=@Bool.not_eq_false
abbrev bT:=@Nat.add_sub_cancel
abbrev bU:=@List.length_eraseIdx_of_lt
abbrev bV:=@Array.getElem?_eq_none
abbrev bW:=@Nat.zero_add
abbrev bX:=@List.drop_eq_getElem_cons
abbrev bY:=@List.flatMap_append
abbrev bZ:=@List.take_append_of_le_length
abbrev cd:=@List.size_toArray
abbrev cf:=@Nat.pow_succ
abbrev cr:=@List.mem_filter
abbrev ct:=@Array.getElem?_setIfInBounds_self
abbrev cw:=@List.append_nil
abbrev cx:=@Array.getElem?_eq_getElem
abbrev cy:=@Nat.add_sub_cancel_left
abbrev cz:=@List.take_append
abbrev cA:=@List.getElem_mem
abbrev cB:=@List.any_eq_true
abbrev cC:=@Array.getElem?_toList
abbrev cD:=@List.take_append_drop
abbrev cE:=@List.mem_append_right
abbrev cF:=@List.mem_or_eq_of_mem_set
abbrev cG:=@UInt8.toNat_inj
abbrev cH:=@List.set_append_left
abbrev cI:=@Nat.add_mul
abbrev cK:=@Bool.or_eq_false_iff
abbrev cL:=@Array.setIfInBounds_comm
abbrev cM:=@Prod.mk.injEq
abbrev cN:=@List.eraseIdx_eq_take_drop_succ
abbrev cO:=@List.filter_cons_of_neg
abbrev cP:=@List.filter_cons_of_pos
abbrev cR:=@List.isEmpty_iff
abbrev cS:=@List.drop_append_of_le_length
abbrev cT:=@Nat.add_comm
abbrev cU:=@Nat.le_of_eq
abbrev cW:=@List.getElem?_take
abbrev cX:=@Nat.sub_self
abbrev cY:=@List.nodup_cons
abbrev cZ:=@Array.getElem?_setIfInBounds
abbrev df:=@Int.ofNat_inj
abbrev dh:=@Bool.not_true
abbrev di:=@List.length_filter_le
abbrev dj:=@Nat.div_lt_of_lt_mul
abbrev dp:=@Array.toList_setIfInBounds
abbrev dr:=@List.mem_append_left
abbrev dt:=@List.mem_flatMap
abbrev du:=@List.filter_sublist
abbrev dv:=@Nat.min_eq_left
abbrev dw:=@List.any_append
abbrev dx:=@List.getElem?_drop
abbrev dy:=@List.mem_filterMap
abbrev dz:=@Nat.one_mul
abbrev dA:=@Bool.false_and
end Go.Proofs.YtlhodcmdpchllaaGreatDoor
