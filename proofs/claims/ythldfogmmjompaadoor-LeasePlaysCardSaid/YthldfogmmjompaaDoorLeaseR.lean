/-
  lease.New; the reference's tables: their maps, NewTable, in.
-/
import Derived.Test.YthldfogmmjompaaDoorLeaseF
namespace Go.Proofs.YthldfogmmjompaaDoor.lease
open Go.RowKit Go.WideMaps Go.Proofs.YthldfogmmjompaaDoor.heap Go.Proofs.YthldfogmmjompaaDoor.own Go.Proofs.YthldfogmmjompaaDoor.model Go.Proofs.YthldfogmmjompaaDoor.mapof

theorem New_any (w : World) : Calls Tryd.prog 38 #[] w fun e w' => e = .returned (.pointer (some ⟨w.heap.size + 1, 0, none⟩)) ∧ TabAt w' (w.heap.size + 1) w.heap.size [] [0, 0, 0, 0] [0, 0, 0, 0] ∧ Below w.heap.size w w' ∧ w'.heap.size = w.heap.size + 2 := by
  have hmm := @run_makeMap Tryd.prog
  go_enter Tryd.func38, Tryd.ntmps38
  go_wp2
  go_ret
  have hb : Below w.heap.size w (w.alloc (.map #[] 0)) := (Below.refl _ _).alloc (Nat.le_refl _) _
  refine ⟨rfl, ⟨?_, (At.new keyS w).alloc _, by omega, rfl, rfl⟩, hb.alloc (by simp) _, by simp⟩
  have := Has.new (w.alloc (.map #[] 0)) (.cells (tcells (.map (some w.heap.size)) [0, 0, 0, 0] [0, 0, 0, 0]).toArray 129)
  rw [World.size_alloc] at this
  exact this

theorem in_any (n lo hi : Int) (w : World) : Calls Tryd.prog 52 #[.int .i64 n, .int .i64 lo, .int .i64 hi] w fun e w' => e = .returned (.bool (inR n lo hi)) ∧ w = w' := by
  unfold inR
  by_cases h1 : lo ≤ n
  · by_cases h2 : n ≤ hi
    · have d1 := decide_eq_true h1
      have d2 := decide_eq_true h2
      rw [d1, d2]
      go_enter Tryd.func52, Tryd.ntmps52
      go_wp2
      go_ret
      exact ⟨rfl, rfl⟩
    · have d1 := decide_eq_true h1
      have d2 := decide_eq_false h2
      rw [d1, d2]
      go_enter Tryd.func52, Tryd.ntmps52
      go_wp2
      go_ret
      exact ⟨rfl, rfl⟩
  · have d1 := decide_eq_false h1
    rw [d1]
    go_enter Tryd.func52, Tryd.ntmps52
    go_wp2
    go_ret
    exact ⟨rfl, rfl⟩

/-! The maps. -/
theorem wideR : (match Tryd.prog.underlying 99 with | some (.array _ _) | some (.struct _) => true | _ => false) = true := by rw [Tryd.underlying99]
theorem rowR : (99 : TypeId) < Tryd.prog.types.size := of_decide_eq_true (by kernel_rfl)
theorem keyAtR : Tryd.prog.keyTypeAt 2 99 = true := by kernel_rfl
set_option maxRecDepth 100000 in
theorem refLaw : KeyLaw Tryd.prog 99 := deep_law_laid laidOut (m := 2) (by omega) rowR keyAtR wideR
theorem refKeyed : Maps.Keyed Tryd.prog 99 := Maps.Keyed.of_law refLaw
theorem refArr : ArrKey Tryd.prog 99 3 2 := ⟨Tryd.underlying99, by kernel_rfl, by kernel_rfl, by kernel_rfl⟩
theorem ref_key {c o : Int} (hc : i64ok c) (ho : i64ok o) : keyOf Tryd.prog 99 (.agg #[.int .i64 c, .int .i64 o]) = some (pairL (c, o)) :=
  keyOf_pair refArr Tryd.underlying3 sizeIs hc ho
theorem formed_array {P : Program} {K e : TypeId} {n : Nat} (hu : P.underlying K = some (.array n e)) {v : Value} (h : v.formed P K = true) : ∃ cs, v = .agg cs ∧ cs.size = P.cellsOf K := by
  cases v <;> simp [Value.formed, hu] at h
  exact ⟨_, rfl, h⟩
theorem ref_inv (v : Value) (l : Lit) (h : keyOf Tryd.prog 99 v = some l) : ∃ k, v = pairV k ∧ l = pairL k ∧ pairOk k := by
  have hkt : Tryd.prog.keyType 99 = true := by kernel_rfl
  have hcl : Tryd.prog.cellsOf 99 = 2 := by kernel_rfl
  have hci : Tryd.prog.cellsOf 3 = 1 := by kernel_rfl
  obtain ⟨m, hm⟩ := sizeIs
  unfold keyOf at h
  simp only [Tryd.underlying99] at h
  split at h
  · rename_i hf
    obtain ⟨cs, rfl, hs⟩ := formed_array Tryd.underlying99 ((Bool.and_eq_true _ _).mp hf).2
    rw [hcl] at hs
    obtain ⟨ls⟩ := cs
    have h2 : ls.length = 2 := by simpa using hs
    clear hs hf
    have e2 : ∃ a b, ls = [a, b] := by
      clear h
      match ls, h2 with
      | [a, b], _ => exact ⟨a, b, rfl⟩
    obtain ⟨a, b, rfl⟩ := e2
    rw [hm] at h
    unfold Program.keyLits at h
    simp only [Tryd.underlying99, Value.cells] at h
    rw [if_pos (by rw [hcl]; rfl), show List.range 2 = [0, 1] from rfl, List.mapM_cons, List.mapM_cons, List.mapM_nil] at h
    simp [hci] at h
    cases hA : Tryd.prog.keyLits (m + 1) 3 [a] with
    | none => rw [hA] at h; cases h
    | some la =>
      cases hB : Tryd.prog.keyLits (m + 1) 3 [b] with
      | none => rw [hA, hB] at h; cases h
      | some lb =>
        obtain ⟨c, rfl, hc, rfl⟩ := lit_inv hA
        obtain ⟨o, rfl, ho, rfl⟩ := lit_inv hB
        rw [hA, hB] at h
        exact ⟨(c, o), rfl, (Option.some.inj h).symm, hc, ho⟩
  · cases h
noncomputable def refS : MapSpec Tryd.prog (Int × Int) Int :=
  intSpec 99 3 95 Tryd.underlying3 zeroInt Tryd.underlying95 refKeyed pairV pairL pairOk (fun _ h => ref_key h.1 h.2) ref_inv pairV_inj
noncomputable def numS : MapSpec Tryd.prog Int Int :=
  intSpec 3 3 96 Tryd.underlying3 zeroInt Tryd.underlying96 (Maps.int_keyed Tryd.underlying3) (Value.int .i64) (Lit.int .i64) i64ok (fun _ h => Maps.keyOf_int_mk Tryd.underlying3 h)
    (fun _ _ h => Maps.keyOf_int_inv Tryd.underlying3 h) (fun _ _ h => by simpa using h)

/-- A table of the reference's: its block b, its maps' blocks. -/
structure RefAt (w : World) (b m1 m2 m3 : Nat) (l : Pairs) (vl sl : List (Int × Int)) : Prop where
  t_ : Has w b (.cells #[.map (some m1), .map (some m2), .map (some m3)] 98)
  a : At refS w m1 l
  v : At numS w m2 vl
  s : At numS w m3 sl
  n1 : m1 ≠ b
  n2 : m2 ≠ b
  n3 : m3 ≠ b
  n12 : m1 ≠ m2
  n13 : m1 ≠ m3
  n23 : m2 ≠ m3
theorem NewTable_any (w : World) : Calls Tryd.prog 39 #[] w fun e w' => e = .returned (.pointer (some ⟨w.heap.size + 3, 0, none⟩)) ∧ RefAt w' (w.heap.size + 3) w.heap.size (w.heap.size + 1) (w.heap.size + 2) [] [] [] ∧ Below w.heap.size w w' := by
  have hmm := @run_makeMap Tryd.prog
  go_enter Tryd.func39, Tryd.ntmps39
  go_wp2
  go_ret
  have hb : Below w.heap.size w (w.alloc (.map #[] 0)) := (Below.refl _ _).alloc (Nat.le_refl _) _
  have hb2 := hb.alloc (by simp) (.map #[] 0)
  have hb3 := hb2.alloc (by simp; omega) (.map #[] 0)
  refine ⟨rfl, ⟨?_, (((At.new refS w).alloc _).alloc _).alloc _, ?_, ?_, by omega, by omega, by omega, by omega, by omega, by omega⟩, hb3.alloc (by simp; omega) _⟩
  · have := Has.new (((w.alloc (.map #[] 0)).alloc (.map #[] 0)).alloc (.map #[] 0)) (.cells #[.map (some w.heap.size), .map (some (w.heap.size + 1)), .map (some (w.heap.size + 1 + 1))] 98)
    simp only [World.size_alloc] at this
    exact this
  · have := At.new numS (w.alloc (.map #[] 0))
    rw [World.size_alloc] at this
    exact (this.alloc _).alloc _
  · have := At.new numS ((w.alloc (.map #[] 0)).alloc (.map #[] 0))
    simp only [World.size_alloc] at this
    exact this.alloc _
end Go.Proofs.YthldfogmmjompaaDoor.lease
