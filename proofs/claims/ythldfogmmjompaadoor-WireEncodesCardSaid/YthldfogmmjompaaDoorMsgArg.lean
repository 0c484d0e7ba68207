/-
  A message that comes in as an argument.
-/
import Derived.Test.YthldfogmmjompaaDoorLaw
import Derived.Test.YthldfogmmjompaaDoorWire3
namespace Go.Proofs.YthldfogmmjompaaDoor.law
open Go.ChangeShapes Go.WideShapes Go.RowKit Go.Deep Go.Proofs.YthldfogmmjompaaDoor.wire

theorem msg_fields : oneCellFields Tryd.prog (Tryd.prog.fieldsOf 32) = true ∧ Tryd.prog.cellsOf 32 = 9 := ⟨by kernel_rfl, by kernel_rfl⟩

set_option maxRecDepth 100000 in
theorem open_msg {H : Type} {enc : TypeId × Value → H} {w : World} {base : Nat} {spare : Nat → Bool} {held : Bool} {r : Reach} {b0 : Nat} {v : Value} {d : DataW H} {p : List MemPlace}
    (hv : Value.okWide Tryd.prog w r b0 32 v) (h : DataW.Trod enc Tryd.prog w base spare held 32 v d p) :
    ∃ m : Msg, v = m.val ∧ m.data.length ≤ 9223372036854775807 := by
  obtain ⟨cs, n, rfl, hl, hf⟩ := open_agg_any Tryd.underlying32 (by kernel_rfl) (by kernel_rfl) hv h
  match cs, hl with
  | [c0, c1, c2, c3, c4, c5, c6, c7, c8], _ =>
    obtain ⟨_, y0, e0, t0⟩ := hf 0 _ rfl
    obtain ⟨_, y1, e1, t1⟩ := hf 1 _ rfl
    obtain ⟨_, y2, e2, t2⟩ := hf 2 _ rfl
    obtain ⟨_, y3, e3, t3⟩ := hf 3 _ rfl
    obtain ⟨_, y4, e4, t4⟩ := hf 4 _ rfl
    obtain ⟨_, y5, e5, t5⟩ := hf 5 _ rfl
    obtain ⟨_, y6, e6, t6⟩ := hf 6 _ rfl
    obtain ⟨_, y7, e7, t7⟩ := hf 7 _ rfl
    obtain ⟨_, y8, e8, t8⟩ := hf 8 _ rfl
    obtain rfl := Option.some.inj e0
    obtain rfl := Option.some.inj e1
    obtain rfl := Option.some.inj e2
    obtain rfl := Option.some.inj e3
    obtain rfl := Option.some.inj e4
    obtain rfl := Option.some.inj e5
    obtain rfl := Option.some.inj e6
    obtain rfl := Option.some.inj e7
    obtain rfl := Option.some.inj e8
    obtain ⟨a0, f0, -, -⟩ := DataW.trod_int Tryd.underlying3 t0
    obtain ⟨a1, f1, -, -⟩ := DataW.trod_int Tryd.underlying3 t1
    obtain ⟨a2, f2, -, -⟩ := DataW.trod_int Tryd.underlying3 t2
    obtain ⟨a3, f3, -, -⟩ := DataW.trod_int Tryd.underlying3 t3
    obtain ⟨a4, f4, -, -⟩ := DataW.trod_int Tryd.underlying3 t4
    obtain ⟨a5, f5, -, -⟩ := DataW.trod_int Tryd.underlying3 t5
    obtain ⟨a6, f6, -, -⟩ := DataW.trod_int Tryd.underlying3 t6
    obtain ⟨a7, f7, -⟩ := DataW.trod_bool Tryd.underlying4 t7
    obtain ⟨s, f8, -, hs⟩ := DataW.trod_string Tryd.underlying9 t8
    simp only [List.cons.injEq, and_true] at f0 f1 f2 f3 f4 f5 f6 f7 f8
    subst f0 f1 f2 f3 f4 f5 f6 f7 f8
    refine ⟨{ kind := a0, client := a1, number := a2, epoch := a3, session := a4, object := a5, version := a6, lease := a7, data := s.data.toList }, ?_, ?_⟩
    · simp [Msg.val, msgCells]
    · have e : s.size = s.data.toList.length := by rw [Array.length_toList]; rfl
      unfold maxLen at hs
      simp only
      omega
end Go.Proofs.YthldfogmmjompaaDoor.law
