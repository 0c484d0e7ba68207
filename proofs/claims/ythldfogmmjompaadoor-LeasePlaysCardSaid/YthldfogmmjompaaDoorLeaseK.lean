/-
  The tables' maps: by lease.key, by the reference's [2]int, by int.
-/
import Derived.Test.YthldfogmmjompaaDoorLeaseB
import Derived.Test.YthldfogmmjompaaDoorMapOf
import Derived.WideKeyPair
import Derived.DeepKeys4
namespace Go.Proofs.YthldfogmmjompaaDoor.lease
open Go.RowKit Go.WideMaps Go.Proofs.YthldfogmmjompaaDoor.mapof

theorem laidOut : laidOutB Tryd.prog = true := by kernel_rfl
theorem wideK : (match Tryd.prog.underlying 131 with | some (.array _ _) | some (.struct _) => true | _ => false) = true := by rw [Tryd.underlying131]
theorem rowK : (131 : TypeId) < Tryd.prog.types.size := of_decide_eq_true (by kernel_rfl)
theorem keyAtK : Tryd.prog.keyTypeAt 2 131 = true := by kernel_rfl
set_option maxRecDepth 100000 in
theorem keyLaw : KeyLaw Tryd.prog 131 := deep_law_laid laidOut (m := 2) (by omega) rowK keyAtK wideK
theorem keyKeyed : Maps.Keyed Tryd.prog 131 := Maps.Keyed.of_law keyLaw

theorem sizeIs : ∃ m, Tryd.prog.types.size = m + 1 := ⟨223 - 1, by kernel_rfl⟩
theorem zeroInt (w : World) : (zeroValue 3).run Tryd.prog w = .ok (.int .i64 0) w := by kernel_rfl

theorem key_key {c o : Int} (hc : i64ok c) (ho : i64ok o) : keyOf Tryd.prog 131 (.agg #[.int .i64 c, .int .i64 o]) = some (pairL (c, o)) := by
  have hkt : Tryd.prog.keyType 131 = true := by kernel_rfl
  have hcl : Tryd.prog.cellsOf 131 = 2 := by kernel_rfl
  have hci : Tryd.prog.cellsOf 3 = 1 := by kernel_rfl
  unfold i64ok at hc ho
  obtain ⟨m, hm⟩ := sizeIs
  unfold keyOf
  simp only [Tryd.underlying131]
  rw [if_pos (by simp [hkt, Value.formed, Tryd.underlying131, hcl]), hm]
  unfold Program.keyLits
  simp only [Tryd.underlying131, Value.cells]
  rw [if_pos (by rw [hcl]; exact ⟨rfl, by simp⟩)]
  simp [hci, Program.keyLits, Tryd.underlying3, hc, ho, pairL]
/-- One cell of a key. -/
theorem lit_inv {m : Nat} {x : Value} {ls : List Lit} (h : Tryd.prog.keyLits (m + 1) 3 [x] = some ls) : ∃ c, x = .int .i64 c ∧ i64ok c ∧ ls = [.int .i64 c] := by
  unfold Program.keyLits at h
  simp only [Tryd.underlying3] at h
  cases x <;> simp at h
  obtain ⟨⟨rfl, hw⟩, rfl⟩ := h
  exact ⟨_, rfl, hw, rfl⟩
theorem formed_struct {P : Program} {K : TypeId} {fs : Array Field} (hu : P.underlying K = some (.struct fs)) {v : Value} (h : v.formed P K = true) : ∃ cs, v = .agg cs ∧ cs.size = P.cellsOf K := by
  cases v <;> simp [Value.formed, hu] at h
  exact ⟨_, rfl, h⟩
theorem key_inv (v : Value) (l : Lit) (h : keyOf Tryd.prog 131 v = some l) : ∃ k, v = pairV k ∧ l = pairL k ∧ pairOk k := by
  have hkt : Tryd.prog.keyType 131 = true := by kernel_rfl
  have hcl : Tryd.prog.cellsOf 131 = 2 := by kernel_rfl
  have hci : Tryd.prog.cellsOf 3 = 1 := by kernel_rfl
  obtain ⟨m, hm⟩ := sizeIs
  unfold keyOf at h
  simp only [Tryd.underlying131] at h
  split at h
  · rename_i hf
    obtain ⟨cs, rfl, hs⟩ := formed_struct Tryd.underlying131 ((Bool.and_eq_true _ _).mp hf).2
    rw [hcl] at hs
    obtain ⟨ls⟩ := cs
    have h2 : ls.length = 2 := by simpa using hs
    clear hs hf
    have e2 : ∃ a b, ls = [a, b] := by
      clear h
      match ls, h2 with
      | [a, b], _ => exact ⟨a, b, rfl⟩
    obtain ⟨a, b, rfl⟩ := e2
    rw [hm] at h
    unfold Program.keyLits at h
    simp only [Tryd.underlying131, Value.cells] at h
    rw [if_pos (by rw [hcl]; exact ⟨rfl, by simp⟩)] at h
    simp [hci] at h
    cases hA : Tryd.prog.keyLits (m + 1) 3 [a] with
    | none => rw [hA] at h; cases h
    | some la =>
      cases hB : Tryd.prog.keyLits (m + 1) 3 [b] with
      | none => rw [hA, hB] at h; cases h
      | some lb =>
        obtain ⟨c, rfl, hc, rfl⟩ := lit_inv hA
        obtain ⟨o, rfl, ho, rfl⟩ := lit_inv hB
        rw [hA, hB] at h
        exact ⟨(c, o), rfl, (Option.some.inj h).symm, hc, ho⟩
  · cases h

noncomputable def keyS : MapSpec Tryd.prog (Int × Int) Int :=
  intSpec 131 3 126 Tryd.underlying3 zeroInt Tryd.underlying126 keyKeyed pairV pairL pairOk (fun _ h => key_key h.1 h.2) key_inv pairV_inj
end Go.Proofs.YthldfogmmjompaaDoor.lease
