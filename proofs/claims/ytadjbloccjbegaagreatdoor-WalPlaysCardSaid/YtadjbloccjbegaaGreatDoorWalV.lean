/-
  What stands in the walk of WalPlays: the wal, the disk, the reference's records.
-/
import Derived.Test.YtadjbloccjbegaaGreatDoorPutArg
namespace Go.Proofs.YtadjbloccjbegaaGreatDoor.wal
open Go.RowKit Go.Proofs.YtadjbloccjbegaaGreatDoor.heap Go.Proofs.YtadjbloccjbegaaGreatDoor.own Go.Proofs.YtadjbloccjbegaaGreatDoor.recs Go.Proofs.YtadjbloccjbegaaGreatDoor.errs Go.Proofs.YtadjbloccjbegaaGreatDoor.law
open Go.Proofs.YtadjbloccjbegaaGreatDoor.model (Rec Disk)

theorem infoRR : (Tryz.prog.info? 39).map (fun i => (i.zero, i.size, i.bytes)) = some (some (.agg #[.int .i64 0, .int .i64 0, .int .i64 0, .int .i64 0, .string ByteArray.empty, .int .i64 0]), 6, 56) := by kernel_rfl

/-- The wal, the disk: w0 is the world at the law's start. -/
structure WC (P : Lib.PrintTabs) (own : Nat → Nat) (w0 w : World) (wb db : Nat) (v : Value) (ps : List ByteArray) (d : Disk) (down : Bool) : Prop where
  kit0 : Kit P w0
  hdl : Handle w
  wal : WalAt own 2 w0.heap.size w wb db v down d.recs
  dsk : DiskAt w db ps d.cut d.left
  pls : Places P ps d.recs
  odb : own db = 1
  ldb : w0.heap.size ≤ db
  bel : Below w0.heap.size w0 w
/-- The reference's records. -/
structure AllAt (own : Nat → Nat) (B : Nat) (w : World) (va : Value) (l : List Rec) : Prop where
  row : Row own 9 w 39 6 va l.length (recCs l)
  low : ∀ g, own g = 9 → B ≤ g

section
variable {P : Lib.PrintTabs} {own own1 : Nat → Nat} {w0 w w' : World} {wb db : Nat} {v va : Value} {ps : List ByteArray} {d : Disk} {down : Bool} {S : Nat → Prop} {l : List Rec}
theorem WC.kit (h : WC P own w0 w wb db v ps d down) : KitB P w0.heap.size w := ⟨w0, rfl, h.kit0, h.bel⟩
theorem WC.le (h : WC P own w0 w wb db v ps d down) : w0.heap.size ≤ w.heap.size := h.bel.size
theorem WC.ne (h : WC P own w0 w wb db v ps d down) : wb ≠ db := fun e => by have h1 := h.wal.ow; rw [e, h.odb] at h1; cases h1
theorem WC.below (h : WC P own w0 w wb db v ps d down) (hb : Below w.heap.size w w') : WC P own w0 w' wb db v ps d down :=
  ⟨h.kit0, h.hdl.below hb, h.wal.below hb (Nat.le_refl _), h.dsk.below hb h.dsk.lt, h.pls, h.odb, h.ldb, h.bel.trans (hb.mono h.le)⟩
theorem AllAt.below (h : AllAt own w0.heap.size w va l) (hb : Below w.heap.size w w') : AllAt own w0.heap.size w' va l := ⟨h.row.below hb, h.low⟩
theorem WC.handle_turn (h0 : Handle w0) (hb : Below w0.heap.size w0 w) (ht : Turn S w w') (hs : ∀ g, S g → w0.heap.size ≤ g) : Handle w' :=
  h0.below (hb.trans (ht.to_below hb.size fun k hk hS => by have := hs k hS; omega))
/-- Where other blocks have turned. -/
theorem WC.turn (h0 : Handle w0) (h : WC P own w0 w wb db v ps d down) (ht : Turn S w w') (he : Ext w own own1) (hs : ∀ g, g < w.heap.size → S g → own g = 9 ∧ w0.heap.size ≤ g) : WC P own1 w0 w' wb db v ps d down := by
  have hwl := h.wal.w_.lt
  have hdl := h.dsk.lt
  have ht2 : Turn (fun g => g < w.heap.size ∧ S g) w w' := ht.mono fun k hk hS => ⟨hk, hS⟩
  have n1 : ¬ S wb := fun e => by have h1 := (hs _ hwl e).1; rw [h.wal.ow] at h1; cases h1
  have n2 : ¬ S db := fun e => by have h1 := (hs _ hdl e).1; rw [h.odb] at h1; cases h1
  refine ⟨h.kit0, WC.handle_turn h0 h.bel ht2 fun g hg => (hs g hg.1 hg.2).2, ⟨ht.has h.wal.w_ n1, h.wal.row.keep ht he (fun k hk ho hS => (by rw [(hs k hk hS).1] at ho; cases ho)), by rw [he _ hwl]; exact h.wal.ow, fun g hg => ?_, h.wal.lw⟩, ⟨ht.has h.dsk.d_ n2, h.dsk.hp⟩, h.pls, by rw [he _ hdl]; exact h.odb, h.ldb, h.bel.trans (ht2.to_below h.le fun k hk hS => by have := (hs k hS.1 hS.2).2; omega)⟩
  rcases Nat.lt_or_ge g w.heap.size with hg' | hg'
  · rw [he g hg'] at hg; exact h.wal.low g hg
  · exact Nat.le_trans h.le hg'
theorem AllAt.turn (h : AllAt own w0.heap.size w va l) (hle : w0.heap.size ≤ w.heap.size) (ht : Turn S w w') (he : Ext w own own1) (hs : ∀ g, g < w.heap.size → S g → own g ≠ 9) : AllAt own1 w0.heap.size w' va l := by
  refine ⟨h.row.keep ht he fun k hk ho hS => hs k hk hS ho, fun g hg => ?_⟩
  rcases Nat.lt_or_ge g w.heap.size with hg' | hg'
  · rw [he g hg'] at hg; exact h.low g hg
  · exact Nat.le_trans hle hg'
theorem WC.add {x : Int × Disk × Bool} {e : Ending} (h0 : Handle w0) (h : WC P own w0 w wb db v ps d down) (ha : AllAt own w0.heap.size w va l) (hp : AddPost P own 2 w0.heap.size w wb db x e w') :
    e = .returned (errV x.1) ∧ ∃ own1 v1 ps1, WC P own1 w0 w' wb db v1 ps1 x.2.1 x.2.2 ∧ AllAt own1 w0.heap.size w' va l := by
  obtain ⟨he, own1, v1, ps1, hext, ht, hw, hd, hpl⟩ := hp
  have hdl := h.dsk.lt
  have hs : ∀ g, (g = wb ∨ g = db ∨ own g = 2) → w0.heap.size ≤ g := fun g hg => by
    rcases hg with rfl | rfl | hg
    · exact h.wal.lw
    · exact h.ldb
    · exact h.wal.low g hg
  refine ⟨he, own1, v1, ps1, ⟨h.kit0, WC.handle_turn h0 h.bel ht hs, hw, hd, hpl, by rw [hext _ hdl]; exact h.odb, h.ldb, h.bel.trans (ht.to_below h.le fun k hk hS => by have := hs k hS; omega)⟩, ha.turn h.le ht hext fun g _ hg => ?_⟩
  rcases hg with rfl | rfl | hg
  · rw [h.wal.ow]; decide
  · rw [h.odb]; decide
  · rw [hg]; decide
theorem WC.opened {e : Ending} (h0 : Handle w0) (h : WC P own w0 w wb db v ps d down) (ha : AllAt own w0.heap.size w va l) (hp : OpenPost own 2 w0.heap.size w db d.recs e w') :
    ∃ own1 wb1 v1, e = .returned (.tuple #[.pointer (some ⟨wb1, 0, none⟩), .nilIface]) ∧ WC P own1 w0 w' wb1 db v1 ps d false ∧ AllAt own1 w0.heap.size w' va l := by
  obtain ⟨own1, wb1, v1, he, hext, ht, hw, -⟩ := hp
  have hdl := h.dsk.lt
  have n2 : ¬ own db = 2 := by rw [h.odb]; decide
  refine ⟨own1, wb1, v1, he, ⟨h.kit0, WC.handle_turn h0 h.bel ht h.wal.low, hw, h.dsk.turn ht n2, h.pls, by rw [hext _ hdl]; exact h.odb, h.ldb, h.bel.trans (ht.to_below h.le fun k hk hS => by have := h.wal.low k hS; omega)⟩, ha.turn h.le ht hext fun g _ hg => ?_⟩
  rw [hg]; decide
theorem WC.cut {n : Int} (h0 : Handle w0) (h : WC P own w0 w wb db v ps d down) (ha : AllAt own w0.heap.size w va l) (hd : DiskAt w' db ps (decide (0 ≤ n)) (max n 0)) (ht : Turn (· = db) w w') :
    WC P own w0 w' wb db v ps (d.cutAt n) down ∧ AllAt own w0.heap.size w' va l := by
  have hdl := h.dsk.lt
  have hs : ∀ g, g = db → w0.heap.size ≤ g := fun g hg => by rw [hg]; exact h.ldb
  refine ⟨⟨h.kit0, WC.handle_turn h0 h.bel ht hs, h.wal.turn ht h.ne fun k hk e => ?_, hd, h.pls, h.odb, h.ldb, h.bel.trans (ht.to_below h.le fun k hk hS => by have := hs k hS; omega)⟩, ha.turn h.le ht (Ext.refl _ _) fun g _ hg => by rw [hg, h.odb]; decide⟩
  rw [e, h.odb] at hk; cases hk
/-- Behind an append to the reference's records (wA: with the one new record's block). -/
theorem WC.appended {r : Rec} {o : Obj} {v' : Value} (h0 : Handle w0) (h : WC P own w0 w wb db v ps d down) (ha : AllAt own w0.heap.size w va l) (hrow : w'.ownsRow 0 39 6 v' (l.length + 1) (recCs l ++ recRow r))
    (hg : (w.alloc o).grownBy w' va.ownBlock) (hv : ∀ g, v'.ownBlock = some g → va.ownBlock = some g ∨ w.heap.size ≤ g) : ∃ own1, WC P own1 w0 w' wb db v ps d down ∧ AllAt own1 w0.heap.size w' v' (l ++ [r]) := by
  have ht : Turn (fun g => own g = 9) w w' := ((Turn.refl _ w).alloc o).grown hg fun k hk => .inr (ha.row.2 k hk)
  refine ⟨newOwn own w 9, h.turn h0 ht (Ext.new _ _ _) fun g _ hg => ⟨hg, ha.low g hg⟩, ⟨⟨by rw [List.length_append, List.length_singleton, recCs_snoc]; exact hrow, fun g hg => ?_⟩, fun g hg => ?_⟩⟩
  · rcases hv g hg with h' | h'
    · have h1 := ha.row.2 g h'
      have h2 := ha.row.lt g h'
      rw [new_old h2]; exact h1
    · exact new_new h'
  · rcases Nat.lt_or_ge g w.heap.size with hg' | hg'
    · rw [new_old hg'] at hg; exact ha.low g hg
    · exact Nat.le_trans h.le hg'
end
end Go.Proofs.YtadjbloccjbegaaGreatDoor.wal
