/-
  The argument of the law LeasePlays.
-/
import Derived.Test.YthldfogmmjompaaDoorLaw
import Derived.Test.YthldfogmmjompaaDoorMapOf
import Derived.ChangeSlices
namespace Go.Proofs.YthldfogmmjompaaDoor.lease
open Go.ChangeShapes Go.WideShapes Go.RowKit Go.Deep Go.Proofs.YthldfogmmjompaaDoor.heap Go.Proofs.YthldfogmmjompaaDoor.own Go.Proofs.YthldfogmmjompaaDoor.law Go.Proofs.YthldfogmmjompaaDoor.mapof

/-- One step: what, whose, of which object, until when, the time now. -/
structure Ho where
  what : Int
  cl : Int
  obj : Int
  till : Int
  now : Int
def Ho.At (w : World) (b o : Nat) (s : Ho) : Prop :=
  w.cell? ⟨b, o, none⟩ = some (.int .i64 s.what) ∧ w.cell? ⟨b, o + 1, none⟩ = some (.int .i64 s.cl) ∧ w.cell? ⟨b, o + 2, none⟩ = some (.int .i64 s.obj) ∧
  w.cell? ⟨b, o + 3, none⟩ = some (.int .i64 s.till) ∧ w.cell? ⟨b, o + 4, none⟩ = some (.int .i64 s.now) ∧ i64ok s.cl ∧ i64ok s.obj

set_option maxRecDepth 100000 in
theorem open_hold {H : Type} {enc : TypeId × Value → H} {w : World} {base : Nat} {spare : Nat → Bool} {held : Bool} {fuel : Nat} {cs : List Value} {x : DataW H × List MemPlace} {a : Addr}
    (hc : w.cells? base a 5 = some cs) (h : DataW.trod enc Tryd.prog w base spare held fuel 89 cs = some x) : ∃ (s : Ho) (b o : Nat), a = ⟨b, o, none⟩ ∧ s.At w b o := by
  obtain ⟨xs, n, -, -, hl, hlen, hg⟩ := DataW.trod_struct Tryd.underlying89 h
  obtain ⟨-, hcl, hcell⟩ := World.cells?_some hc
  match cs, hcl with
  | [c0, c1, c2, c3, c4], _ =>
    have hx : xs.length = 5 := hlen
    match xs, hx with
    | [x0, x1, x2, x3, x4], _ =>
      have e1 : Tryd.prog.cellsOf 3 = 1 := by kernel_rfl
      have g0 : DataW.trod enc Tryd.prog w base spare held n 3 (([c0, c1, c2, c3, c4].drop 0).take (Tryd.prog.cellsOf 3)) = some x0 := hg 0 _ rfl
      have g1 : DataW.trod enc Tryd.prog w base spare held n 3 (([c0, c1, c2, c3, c4].drop 1).take (Tryd.prog.cellsOf 3)) = some x1 := hg 1 _ rfl
      have g2 : DataW.trod enc Tryd.prog w base spare held n 3 (([c0, c1, c2, c3, c4].drop 2).take (Tryd.prog.cellsOf 3)) = some x2 := hg 2 _ rfl
      have g3 : DataW.trod enc Tryd.prog w base spare held n 3 (([c0, c1, c2, c3, c4].drop 3).take (Tryd.prog.cellsOf 3)) = some x3 := hg 3 _ rfl
      have g4 : DataW.trod enc Tryd.prog w base spare held n 3 (([c0, c1, c2, c3, c4].drop 4).take (Tryd.prog.cellsOf 3)) = some x4 := hg 4 _ rfl
      rw [e1] at g0 g1 g2 g3 g4
      obtain ⟨a0, f0, -, -⟩ := DataW.trod_int Tryd.underlying3 g0
      obtain ⟨a1, f1, -, k1⟩ := DataW.trod_int Tryd.underlying3 g1
      obtain ⟨a2, f2, -, k2⟩ := DataW.trod_int Tryd.underlying3 g2
      obtain ⟨a3, f3, -, -⟩ := DataW.trod_int Tryd.underlying3 g3
      obtain ⟨a4, f4, -, -⟩ := DataW.trod_int Tryd.underlying3 g4
      simp only [List.drop_zero, List.drop_succ_cons, List.take_succ_cons, List.take_zero, List.cons.injEq, and_true] at f0 f1 f2 f3 f4
      subst f0 f1 f2 f3 f4
      have d0 := hcell 0 (by omega)
      obtain ⟨b, o, spot⟩ := a
      have hspot : spot = none := by
        have : w.cell? ((⟨b, o, spot⟩ : Addr).add 0) = some (.int .i64 a0) := d0
        simpa [Addr.add] using World.cell?_spot this
      subst hspot
      have hadd : ∀ i, (⟨b, o, none⟩ : Addr).add i = ⟨b, o + i, none⟩ := fun i => by by_cases h0 : i = 0 <;> simp [Addr.add, h0]
      refine ⟨⟨a0, a1, a2, a3, a4⟩, b, o, rfl, ?_, ?_, ?_, ?_, ?_, k1, k2⟩
      · have := hcell 0 (by omega); rwa [hadd] at this
      · have := hcell 1 (by omega); rwa [hadd] at this
      · have := hcell 2 (by omega); rwa [hadd] at this
      · have := hcell 3 (by omega); rwa [hadd] at this
      · have := hcell 4 (by omega); rwa [hadd] at this

/-- The steps that a slice holds. -/
def HosAt (w : World) (a : Option Addr) (n : Nat) (l : List Ho) : Prop :=
  l.length = n ∧ (0 < n → ∃ b o, a = some ⟨b, o, none⟩ ∧ b < w.heap.size ∧ ∀ (i : Nat) (s : Ho), l[i]? = some s → s.At w b (o + i * 5))

theorem open_holds {H : Type} {enc : TypeId × Value → H} {w : World} {base : Nat} {spare : Nat → Bool} {held : Bool} {fuel : Nat} {cs : List Value} {x : DataW H × List MemPlace}
    (h : DataW.trod enc Tryd.prog w base spare held fuel 83 cs = some x) : ∃ (a : Option Addr) (n c : Nat) (l : List Ho), cs = [.slice a n c] ∧ HosAt w a n l ∧ n ≤ c ∧ c ≤ maxLen := by
  have e5 : Tryd.prog.cellsOf 89 = 5 := by kernel_rfl
  rcases open_slice Tryd.underlying83 h with ⟨rfl, -⟩ | ⟨a, len, cap, m, n', D, Pl, rfl, -, hlc, hcm, hm, -, hel⟩
  · exact ⟨none, 0, 0, [], rfl, ⟨rfl, fun h => absurd h (Nat.lt_irrefl 0)⟩, Nat.le_refl _, by simp [maxLen]⟩
  · rw [e5] at hel
    have hml : len ≤ m := by rw [hm]; split <;> omega
    have each : ∀ i, i < len → ∃ (s : Ho) (b o : Nat), a.add (i * 5) = ⟨b, o, none⟩ ∧ s.At w b o := fun i hi => by
      obtain ⟨cs', hc, ht⟩ := hel i (by omega)
      exact open_hold hc ht
    rcases Nat.eq_zero_or_pos len with h0 | h0
    · exact ⟨some a, len, cap, [], rfl, ⟨by rw [h0]; rfl, fun h => by omega⟩, hlc, hcm⟩
    · obtain ⟨s0, b0, o0, ea, hs0⟩ := each 0 h0
      rw [Nat.zero_mul] at ea
      have ha : a = ⟨b0, o0, none⟩ := by simpa [Addr.add] using ea
      subst ha
      have hadd : ∀ i, (⟨b0, o0, none⟩ : Addr).add i = ⟨b0, o0 + i, none⟩ := fun i => by by_cases h0 : i = 0 <;> simp [Addr.add, h0]
      have each' : ∀ i, i < len → ∃ s : Ho, s.At w b0 (o0 + i * 5) := fun i hi => by
        obtain ⟨s, b, o, e, hs⟩ := each i hi
        rw [hadd] at e
        injection e with e1 e2
        subst e1 e2
        exact ⟨s, hs⟩
      have hex : ∀ k, k ≤ len → ∃ l : List Ho, l.length = k ∧ ∀ (i : Nat) (s : Ho), l[i]? = some s → s.At w b0 (o0 + i * 5) := by
        intro k
        induction k with
        | zero => intro _; exact ⟨[], rfl, fun i s h => by simp at h⟩
        | succ k ih =>
          intro hk
          obtain ⟨l, h1, h2⟩ := ih (by omega)
          obtain ⟨s, hs⟩ := each' k (by omega)
          refine ⟨l ++ [s], by simp [h1], fun i s' hi => ?_⟩
          by_cases hik : i < l.length
          · rw [List.getElem?_append_left hik] at hi
            exact h2 i s' hi
          · rw [List.getElem?_append_right (by omega)] at hi
            have : i = k := by
              have := (List.getElem?_eq_some_iff.1 hi).1
              simp at this; omega
            subst this
            rw [h1, Nat.sub_self] at hi
            obtain rfl : s = s' := by simpa using hi
            exact hs
      obtain ⟨l, h1, h2⟩ := hex len (Nat.le_refl _)
      exact ⟨some ⟨b0, o0, none⟩, len, cap, l, rfl, ⟨h1, fun _ => ⟨b0, o0, rfl, (by
        rcases Nat.lt_or_ge b0 w.heap.size with h' | h'
        · exact h'
        · have := hs0.1; simp [World.cell?, Array.getElem?_eq_none h'] at this), h2⟩⟩, hlc, hcm⟩

theorem HosAt.below {w w' : World} {a : Option Addr} {n : Nat} {l : List Ho} (h : HosAt w a n l) (hb : Below w.heap.size w w') : ∀ (b o i : Nat) (s : Ho), 0 < n → a = some ⟨b, o, none⟩ → l[i]? = some s → s.At w' b (o + i * 5) := by
  intro b o i s hn ha hi
  obtain ⟨b', o', e, hlt, hs⟩ := h.2 hn
  rw [ha] at e
  injection e with e
  injection e with e1 e2
  subst e1 e2
  obtain ⟨c0, c1, c2, c3, c4, k1, k2⟩ := hs i s hi
  have hc : ∀ j, w'.cell? ⟨b, j, none⟩ = w.cell? ⟨b, j, none⟩ := fun j => hb.cell (p := ⟨b, j, none⟩) hlt
  exact ⟨(hc _).trans c0, (hc _).trans c1, (hc _).trans c2, (hc _).trans c3, (hc _).trans c4, k1, k2⟩
end Go.Proofs.YthldfogmmjompaaDoor.lease
