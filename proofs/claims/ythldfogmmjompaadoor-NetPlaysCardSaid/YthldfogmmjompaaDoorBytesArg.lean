/-
  A slice of bytes that comes in (by itself, or in a field).
-/
import Derived.Test.YthldfogmmjompaaDoorLaw
import Derived.Test.YthldfogmmjompaaDoorWireRead
import Derived.ChangeSlices
namespace Go.Proofs.YthldfogmmjompaaDoor.law
open Go.ChangeShapes Go.WideShapes Go.RowKit Go.Deep Go.Proofs.YthldfogmmjompaaDoor.wire

theorem bytes_cells : Tryd.prog.cellsOf 5 = 1 := by kernel_rfl

theorem open_bytes {H : Type} {enc : TypeId × Value → H} {w : World} {base : Nat} {spare : Nat → Bool} {held : Bool} {fuel : Nat} {cs : List Value} {x : DataW H × List MemPlace}
    (h : DataW.trod enc Tryd.prog w base spare held fuel 33 cs = some x) :
    ∃ (A : Option Addr) (n cap : Nat) (bs : List UInt8), cs = [.slice A n cap] ∧ RD w w.heap.size A n bs ∧ n ≤ cap ∧ cap ≤ maxLen := by
  rcases open_ints Tryd.underlying33 Tryd.underlying5 bytes_cells h with ⟨rfl, -⟩ | ⟨a, len, cap, zs, rfl, hb, hl, hm, hz, -, hc, hw⟩
  · exact ⟨none, 0, 0, [], rfl, ⟨rfl, fun h => absurd h (Nat.lt_irrefl 0)⟩, Nat.le_refl _, by simp [maxLen]⟩
  · have hzl : len ≤ zs.length := by rw [hz]; split <;> omega
    refine ⟨some a, len, cap, (zs.take len).map fun z => UInt8.ofNat z.toNat, rfl, ⟨by simp; omega, fun hpos => ?_⟩, hl, hm⟩
    obtain ⟨b, off, rfl, hcell⟩ := ints_at hc (by omega)
    refine ⟨b, off, rfl, ?_, fun j c hj => ?_⟩
    · have h0 := hcell 0 (by omega)
      rcases Nat.lt_or_ge b w.heap.size with hlt | hge
      · exact hlt
      · simp [World.cell?, Array.getElem?_eq_none hge] at h0
    · have hjl : j < len := by
        have := (List.getElem?_eq_some_iff.1 hj).1
        simp at this
        omega
      have e := hcell j (by omega)
      rw [e]
      rw [List.getElem?_map, List.getElem?_take_of_lt hjl, List.getElem?_eq_getElem (by omega)] at hj
      obtain rfl := Option.some.inj hj
      have hwf := hw zs[j] (List.getElem_mem _)
      have hb : 0 ≤ zs[j] ∧ zs[j] ≤ 255 := bounds_u8 hwf
      simp only [B, List.getD_eq_getElem?_getD, List.getElem?_eq_getElem (show j < zs.length by omega), Option.getD_some]
      congr 2
      simp
      omega
end Go.Proofs.YthldfogmmjompaaDoor.law
