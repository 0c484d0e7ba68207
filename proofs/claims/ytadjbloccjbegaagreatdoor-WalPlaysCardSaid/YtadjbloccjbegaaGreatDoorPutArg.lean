/-
  The argument of the law WalPlays.
-/
import Derived.Test.YtadjbloccjbegaaGreatDoorListArg
import Derived.Test.YtadjbloccjbegaaGreatDoorWalR
import Derived.Test.YtadjbloccjbegaaGreatDoorWalI
namespace Go.Proofs.YtadjbloccjbegaaGreatDoor.wal
open Go.ChangeShapes Go.WideShapes Go.RowKit Go.Deep Go.Proofs.YtadjbloccjbegaaGreatDoor.heap Go.Proofs.YtadjbloccjbegaaGreatDoor.own Go.Proofs.YtadjbloccjbegaaGreatDoor.law Go.Proofs.YtadjbloccjbegaaGreatDoor.recs Go.Proofs.YtadjbloccjbegaaGreatDoor.errs
open Go.Proofs.YtadjbloccjbegaaGreatDoor.model (Rec)

/-- One step: what, n, torn, a record. -/
structure Pu where
  what : Int
  n : Int
  torn : Int
  r : Rec
def Pu.cells (x : Pu) : List Value := [.int .i64 x.what, .int .i64 x.n, .int .i64 x.torn] ++ recRow x.r
def IsPu (cs : List Value) : Prop := ∃ x : Pu, cs = x.cells ∧ x.r.data.length ≤ maxLen

set_option maxRecDepth 100000 in
theorem open_put {H : Type} {enc : TypeId × Value → H} {w : World} {base : Nat} {spare : Nat → Bool} {held : Bool} {fuel : Nat} {cs : List Value} {x : DataW H × List MemPlace}
    (hl9 : cs.length = 9) (h : DataW.trod enc Tryz.prog w base spare held fuel 41 cs = some x) : IsPu cs := by
  obtain ⟨xs, n, -, -, hl, hlen, hg⟩ := DataW.trod_struct Tryz.underlying41 h
  match cs, hl9 with
  | [c0, c1, c2, c3, c4, c5, c6, c7, c8], _ =>
    have hx : xs.length = 4 := hlen
    match xs, hx with
    | [x0, x1, x2, x3], _ =>
      have e1 : Tryz.prog.cellsOf 3 = 1 := by kernel_rfl
      have es : Tryz.prog.cellsOf 9 = 1 := by kernel_rfl
      have e6 : Tryz.prog.cellsOf 38 = 6 := by kernel_rfl
      have g0 : DataW.trod enc Tryz.prog w base spare held n 3 (([c0, c1, c2, c3, c4, c5, c6, c7, c8].drop 0).take (Tryz.prog.cellsOf 3)) = some x0 := hg 0 _ rfl
      have g1 : DataW.trod enc Tryz.prog w base spare held n 3 (([c0, c1, c2, c3, c4, c5, c6, c7, c8].drop 1).take (Tryz.prog.cellsOf 3)) = some x1 := hg 1 _ rfl
      have g2 : DataW.trod enc Tryz.prog w base spare held n 3 (([c0, c1, c2, c3, c4, c5, c6, c7, c8].drop 2).take (Tryz.prog.cellsOf 3)) = some x2 := hg 2 _ rfl
      have g3 : DataW.trod enc Tryz.prog w base spare held n 38 (([c0, c1, c2, c3, c4, c5, c6, c7, c8].drop 3).take (Tryz.prog.cellsOf 38)) = some x3 := hg 3 _ rfl
      rw [e1] at g0 g1 g2
      rw [e6] at g3
      obtain ⟨a0, f0, -, -⟩ := DataW.trod_int Tryz.underlying3 g0
      obtain ⟨a1, f1, -, -⟩ := DataW.trod_int Tryz.underlying3 g1
      obtain ⟨a2, f2, -, -⟩ := DataW.trod_int Tryz.underlying3 g2
      obtain ⟨ys, m, -, -, hl2, hlen2, hg2⟩ := DataW.trod_struct Tryz.underlying38 g3
      have hy : ys.length = 6 := hlen2
      match ys, hy with
      | [y0, y1, y2, y3, y4, y5], _ =>
        have k0 : DataW.trod enc Tryz.prog w base spare held m 3 (((([c0, c1, c2, c3, c4, c5, c6, c7, c8].drop 3).take 6).drop 0).take (Tryz.prog.cellsOf 3)) = some y0 := hg2 0 _ rfl
        have k1 : DataW.trod enc Tryz.prog w base spare held m 3 (((([c0, c1, c2, c3, c4, c5, c6, c7, c8].drop 3).take 6).drop 1).take (Tryz.prog.cellsOf 3)) = some y1 := hg2 1 _ rfl
        have k2 : DataW.trod enc Tryz.prog w base spare held m 3 (((([c0, c1, c2, c3, c4, c5, c6, c7, c8].drop 3).take 6).drop 2).take (Tryz.prog.cellsOf 3)) = some y2 := hg2 2 _ rfl
        have k3 : DataW.trod enc Tryz.prog w base spare held m 3 (((([c0, c1, c2, c3, c4, c5, c6, c7, c8].drop 3).take 6).drop 3).take (Tryz.prog.cellsOf 3)) = some y3 := hg2 3 _ rfl
        have k4 : DataW.trod enc Tryz.prog w base spare held m 9 (((([c0, c1, c2, c3, c4, c5, c6, c7, c8].drop 3).take 6).drop 4).take (Tryz.prog.cellsOf 9)) = some y4 := hg2 4 _ rfl
        have k5 : DataW.trod enc Tryz.prog w base spare held m 3 (((([c0, c1, c2, c3, c4, c5, c6, c7, c8].drop 3).take 6).drop 5).take (Tryz.prog.cellsOf 3)) = some y5 := hg2 5 _ rfl
        rw [e1] at k0 k1 k2 k3 k5
        rw [es] at k4
        obtain ⟨b0, q0, -, -⟩ := DataW.trod_int Tryz.underlying3 k0
        obtain ⟨b1, q1, -, -⟩ := DataW.trod_int Tryz.underlying3 k1
        obtain ⟨b2, q2, -, -⟩ := DataW.trod_int Tryz.underlying3 k2
        obtain ⟨b3, q3, -, -⟩ := DataW.trod_int Tryz.underlying3 k3
        obtain ⟨s, q4, -, hsz⟩ := DataW.trod_string Tryz.underlying9 k4
        obtain ⟨b5, q5, -, -⟩ := DataW.trod_int Tryz.underlying3 k5
        simp only [List.drop_zero, List.drop_succ_cons, List.take_succ_cons, List.take_zero, List.cons.injEq, and_true] at f0 f1 f2 q0 q1 q2 q3 q4 q5
        subst f0 f1 f2 q0 q1 q2 q3 q4 q5
        exact ⟨⟨a0, a1, a2, ⟨b0, b1, b2, b3, s.data.toList, b5⟩⟩, rfl, hsz⟩
end Go.Proofs.YtadjbloccjbegaaGreatDoor.wal
