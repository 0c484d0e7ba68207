/-
  Short names: of a fact laid behind Hid, of a cell, of theorems of the library.
-/
import Derived.RowKit
import Derived.Lib.Hide
import Derived.Below
namespace Go.Proofs.YtjhdaojclilakaaGreatDoor
def Hy (p : Prop) : Prop:=p
theorem Hy.o {p : Prop} (h : Hy p) : p:=h
theorem Hy.out {p : Prop} (h : Hy p) : p:=h
theorem Hd {p : Prop} (h : p) : Hy p:=h
theorem nm {α : Sort _} (a : α) : ∃ x,x = a:=⟨a,rfl⟩
theorem Lt {w : World} {a : Addr} {v : Value} (h : w.cell? a = some v) : a.block < w.heap.size:=by
 rcases Nat.lt_or_ge a.block w.heap.size with k | k
 ·exact k
 ·simp [World.cell?,Array.getElem?_eq_none k] at h
abbrev BB (w w' : World) : Prop:=RowKit.Below w.heap.size w w'
@[simp] abbrev CC (w : World) (b o : Nat) (v : Value) : Prop:=w.cell? ⟨b,o,none⟩ = some v
@[simp] abbrev CI (w : World) (b o : Nat) (v : Int) : Prop:=w.cell? ⟨b,o,none⟩ = some (.int .i64 v)
@[simp] abbrev CP (w : World) (b o c p : Nat) : Prop:=w.cell? ⟨b,o,none⟩ = some (.pointer (some ⟨c,p,none⟩))
@[simp] abbrev CS (w : World) (b o g n c : Nat) : Prop:=w.cell? ⟨b,o,none⟩ = some (.slice (some ⟨g,0,none⟩) n c)
abbrev VI (v : Int) : Value:=.int .i64 v
abbrev VP (b o : Nat) : Value:=.pointer (some ⟨b,o,none⟩)
abbrev ax:=@Nat.le_refl
abbrev ay:=@List.getElem?_eq_getElem
abbrev az:=@List.getElem?_eq_some_iff
abbrev aA:=@Option.some.inj
abbrev aB:=@Nat.le_trans
abbrev aC:=@List.getD_eq_getElem?_getD
abbrev aD:=@List.mem_singleton
abbrev aE:=@List.length_append
abbrev aF:=@Bool.and_eq_true
abbrev aG:=@Nat.lt_of_lt_of_le
abbrev aH:=@List.mem_cons
abbrev aI:=@List.mem_cons_of_mem
abbrev aJ:=@List.getElem?_toArray
abbrev aK:=@List.mem_cons_self
abbrev aL:=@List.length_cons
abbrev aM:=@List.getElem?_cons_zero
abbrev aN:=@List.mem_append
abbrev aO:=@List.getElem?_cons_succ
abbrev aP:=@List.setIfInBounds_toArray
abbrev aQ:=@List.length_singleton
abbrev aR:=@List.getElem?_append_right
abbrev aS:=@List.getElem?_set_self
abbrev aT:=@List.mem_of_getElem?
abbrev aU:=@List.length_set
abbrev aV:=@Bool.not_eq_true'
abbrev aW:=@List.mem_map
abbrev aX:=@List.length_map
abbrev aY:=@List.map_cons
abbrev aZ:=@Int.le_refl
abbrev a8:=@List.getElem?_set_ne
abbrev ba:=@List.getElem?_append_left
abbrev bc:=@List.eq_nil_of_length_eq_zero
abbrev bf:=@List.set_cons_succ
abbrev bh:=@Bool.false_eq_true
abbrev bk:=@Nat.lt_or_ge
abbrev bm:=@List.flatMap_cons
abbrev bn:=@List.set_cons_zero
abbrev bo:=@Int.toNat_natCast
abbrev bp:=@List.mem_append_left
abbrev bq:=@List.not_mem_nil
abbrev br:=@List.getElem?_map
abbrev bt:=@List.getElem?_set
abbrev bu:=@Bool.not_eq_false
abbrev bw:=@List.getElem?_eq_none
abbrev bx:=@List.append_assoc
abbrev bz:=@Bool.or_eq_true
abbrev bA:=@List.mem_append_right
abbrev bB:=@List.take_of_length_le
abbrev bC:=@List.getElem?_replicate
abbrev bD:=@List.map_nil
abbrev bE:=@List.set_append_right
abbrev bF:=@List.mem_of_mem_eraseIdx
abbrev bG:=@List.append_nil
abbrev bH:=@List.take_add_one
abbrev bI:=@Option.some.injEq
abbrev bJ:=@List.length_nil
abbrev bK:=@List.take_length
abbrev bL:=@List.mem_filter
abbrev bM:=@Nat.mul_le_mul_right
abbrev bN:=@List.sum_cons
abbrev bO:=@List.getElem_mem
abbrev bP:=@List.mem_range
abbrev bQ:=@Nat.eq_zero_or_pos
abbrev bR:=@Nat.zero_le
abbrev bS:=@Option.map_eq_some_iff
abbrev bT:=@List.eq_of_mem_replicate
abbrev bU:=@Bool.and_eq_false_iff
abbrev bV:=@List.length_take
abbrev bW:=@List.any_eq_true
abbrev bX:=@List.size_toArray
abbrev bY:=@Bool.or_eq_false_iff
abbrev bZ:=@Array.getElem?_eq_none
abbrev cd:=@List.drop_of_length_le
abbrev cf:=@List.nil_append
abbrev cr:=@Bool.eq_iff_iff
abbrev ct:=@List.cons_append
abbrev cx:=@List.length_drop
abbrev cy:=@Array.length_toList
abbrev cz:=@List.length_replicate
abbrev cA:=@Array.all_eq_true_iff_forall_mem
abbrev cB:=@List.filter_cons_of_neg
abbrev cC:=@List.filter_cons_of_pos
abbrev cD:=@List.length_eraseIdx_of_lt
abbrev cE:=@List.nodup_cons
abbrev cF:=@List.map_append
abbrev cG:=@List.drop_eq_getElem_cons
abbrev cH:=@List.flatMap_append
abbrev cI:=@List.take_append_of_le_length
abbrev cK:=@Nat.add_sub_cancel
abbrev cL:=@Array.getElem?_setIfInBounds_self
abbrev cM:=@Array.getElem?_eq_some_iff
abbrev cN:=@Nat.zero_add
abbrev cO:=@List.eraseIdx_eq_take_drop_succ
abbrev cP:=@List.getElem?_eq_none_iff
abbrev cR:=@List.length_filter_le
abbrev cS:=@List.take_append_drop
abbrev cT:=@Bool.not_true
abbrev cU:=@Int.le_trans
abbrev cW:=@Nat.add_sub_cancel_left
abbrev cX:=@List.getElem_of_mem
abbrev cY:=@Nat.pow_succ
abbrev cZ:=@Nat.le_of_eq
abbrev df:=@List.filter_eq_nil_iff
abbrev dh:=@List.take_append
abbrev di:=@List.mem_flatMap
abbrev dj:=@Bool.not_eq_true
abbrev dp:=@Option.getD_some
abbrev dt:=@Nat.le_add_right
abbrev du:=@Array.getElem?_toList
abbrev dv:=@List.set_eq_take_append_cons_drop
abbrev dw:=@Array.getElem?_eq_getElem
abbrev dx:=@UInt8.toNat_inj
abbrev dy:=@List.set_append_left
abbrev dA:=@Nat.sub_self
abbrev dB:=@List.take_succ_eq_append_getElem
abbrev dC:=@Array.setIfInBounds_comm
abbrev dD:=@Prod.mk.injEq
abbrev dE:=@List.filter_sublist
abbrev dF:=@Int.mul_nonneg
abbrev dG:=@List.isEmpty_iff
abbrev dH:=@List.drop_append_of_le_length
abbrev dI:=@List.getElem?_take
abbrev dJ:=@List.mem_filterMap
abbrev dK:=@Int.le_of_eq
abbrev dL:=@Array.getElem?_setIfInBounds
abbrev dM:=@Int.ofNat_inj
abbrev dN:=@Nat.div_lt_of_lt_mul
abbrev dP:=@Array.toList_setIfInBounds
abbrev dQ:=@Nat.add_mul
abbrev dR:=@List.nodup_nil
abbrev dT:=@Nat.add_comm
abbrev dU:=@Nat.add_zero
abbrev dW:=@List.mem_or_eq_of_mem_set
abbrev dX:=@List.take_succ_cons
abbrev dY:=@List.replicate_succ
abbrev dZ:=@List.filterMap_cons
abbrev ef:=@Nat.min_eq_left
abbrev eh:=@List.any_append
abbrev eo:=@List.getElem?_drop
abbrev eu:=@Nat.one_mul
abbrev ey:=@Bool.false_and
abbrev ez:=@List.sum_nil
theorem ab {p : Prop} (h : p:=by omega) : p:=h
theorem ae {p : Prop} (h : p:=by simp) : p:=h
theorem af {p : Prop} (h : p:=by kernel_rfl) : p:=h
theorem ah {p : Prop} (h : p:=by simp;omega) : p:=h
theorem ai {p : Prop} (h : p:=by rfl) : p:=h
theorem aj {p : Prop} (h : p:=by decide) : p:=h
theorem ak {p : Prop} (h : p:=by unfold maxLen;omega) : p:=h
theorem ao {p : Prop} (h : p:=by simp [Value.oneCell']) : p:=h
end Go.Proofs.YtjhdaojclilakaaGreatDoor
