/-
  The law NetPlays: what a Take does to the law's own list.
-/
import Derived.Test.YthldfogmmjompaaDoorNetLaw4
import Derived.Test.YthldfogmmjompaaDoorRefWire
namespace Go.Proofs.YthldfogmmjompaaDoor.net
open Go.RowKit Go.Proofs.YthldfogmmjompaaDoor.heap Go.Proofs.YthldfogmmjompaaDoor.own Go.Proofs.YthldfogmmjompaaDoor.wire

theorem take_drop_cut (ps : List (Dg × Value)) (k : Nat) : (gcells ps).take (k * 2) ++ (gcells ps).drop ((k + 1) * 2) = gcells (ps.eraseIdx k) := by
  have := cut_flat 2 k (fun p : Dg × Value => [.int .i64 p.1.1, p.2]) (fun _ => rfl) ps
  exact this

/-- The law's list without its k-th one, in a row that is new. -/
theorem law_cut {own : Nat → Nat} {bn : Nat} {V w2 : World} {l : List Dg} {lost : Int} {v u v2 : Value} {k : Nat} {ps : List (Dg × Value)} (h : LawAt own bn V l lost v u) (hps : ps.map (·.1) = l)
    (hbytes : ∀ p ∈ ps, Row own 4 V 5 1 p.2 p.1.2.length (p.1.2.map B)) (hnd : (ps.filterMap (·.2.ownBlock)).Nodup)
    (hk : k < l.length) (hb : Below V.heap.size V w2) (ho : w2.ownsRow V.heap.size 51 2 v2 (k + (l.length - (k + 1))) ((gcells ps).take (k * 2) ++ (gcells ps).drop ((k + 1) * 2))) :
    ∃ own' w3, w3 = w2.setCell ⟨bn + 1, 0, none⟩ v2 ∧ Ext V own own' ∧ Turn (fun j => j = bn + 1) V w3 ∧ Has w3 bn (.cells #[v, .int .i64 lost] 49) ∧ Has w3 (bn + 1) (.cells #[v2] 47) ∧ Has w3 (bn + 2) (.cells #[.int .i64 lost] 3) ∧
      Grams own' 1 w3 v l ∧ Grams own' 3 w3 v2 (l.eraseIdx k) := by
  have hw := h.w_.lt
  have hT : Turn (fun j => j = bn + 1) V (w2.setCell ⟨bn + 1, 0, none⟩ v2) := ((Turn.refl (fun j => j = bn + 1) V).then_below hb (Nat.le_refl _)).setCell (p := ⟨bn + 1, 0, none⟩) (.inr rfl) _
  have hE : Ext V own (newOwn own V 3) := Ext.new _ _ _
  have o1 := h.o1
  refine ⟨newOwn own V 3, _, rfl, hE, hT, hT.has h.n (by omega), (h.w_.below hb hw).set_ 0 v2, hT.has h.l_ (by omega), h.gn.keep hT hE (fun j hj e hS => by subst hS; omega), ?_⟩
  refine ⟨ps.eraseIdx k, by rw [erase_map, hps], ?_, fun p hp => (hbytes p (List.mem_of_mem_eraseIdx hp)).keep hT hE (fun j hj e hS => by subst hS; omega), nodup_erase _ _ _ hnd⟩
  have e1 : k + (l.length - (k + 1)) = (l.eraseIdx k).length := by rw [List.length_eraseIdx_of_lt hk]; omega
  rw [take_drop_cut ps k, e1] at ho
  refine ⟨row_kept (owns_base ho (Nat.zero_le _)) fun g hg => Below.heap_setCell _ _ _ _ ?_, fun g hg => new_new (owns_ge ho g hg)⟩
  have := owns_ge ho g hg
  show g ≠ bn + 1
  omega
end Go.Proofs.YthldfogmmjompaaDoor.net
