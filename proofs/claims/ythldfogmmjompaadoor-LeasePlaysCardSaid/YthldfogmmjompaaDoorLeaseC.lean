/-
  Contracts of the walks of package lease: Drop, Many.
-/
import Derived.Test.YthldfogmmjompaaDoorLeaseK
namespace Go.Proofs.YthldfogmmjompaaDoor.lease
open Go.RowKit Go.WideMaps Go.Proofs.YthldfogmmjompaaDoor.heap Go.Proofs.YthldfogmmjompaaDoor.own Go.Proofs.YthldfogmmjompaaDoor.model Go.Proofs.YthldfogmmjompaaDoor.mapof

abbrev Pairs := List ((Int × Int) × Int)

/-- A table: its block b, its map's block m. -/
structure TabAt (w : World) (b m : Nat) (l : Pairs) (vs ss : List Int) : Prop where
  t_ : Has w b (.cells (tcells (.map (some m)) vs ss).toArray 129)
  m_ : At keyS w m l
  ne : m ≠ b
  hv : vs.length = 4
  hs : ss.length = 4
theorem TabAt.cell0 {w : World} {b m : Nat} {l : Pairs} {vs ss : List Int} (h : TabAt w b m l vs ss) : w.cell? ⟨b, 0, none⟩ = some (.map (some m)) := by
  rw [h.t_.cell]; simp [tcells]
theorem TabAt.grown {w w' : World} {b m : Nat} {l l' : Pairs} {vs ss : List Int} (h : TabAt w b m l vs ss) (hg : w.grownBy w' (some m)) (hm : At keyS w' m l') : TabAt w' b m l' vs ss :=
  ⟨h.t_.grown hg (fun e => h.ne (Option.some.inj e).symm), hm, h.ne, h.hv, h.hs⟩

theorem TDrop_any (b m : Nat) (l : Pairs) (vs ss : List Int) (c o : Int) (w : World) (h : TabAt w b m l vs ss) (hc : i64ok c) (ho : i64ok o) :
    Calls Tryd.prog 44 #[.pointer (some ⟨b, 0, none⟩), .int .i64 c, .int .i64 o] w fun e w' => e = .returned (.tuple #[]) ∧ TabAt w' b m (del (c, o) l) vs ss ∧ w.grownBy w' (some m) := by
  have k0 := h.cell0
  have H := Lib.hid h
  clear h
  go_enter Tryd.func44, Tryd.ntmps44
  go_wp2_with (at_delete; refine wpList_mdrop keyS rfl (.tmp 9) (.tmp 12) rfl rfl H.out.m_ (k := (c, o)) ⟨hc, ho⟩ rfl ?_; intro w1 hm1 hg1)
  go_end0
  exact ⟨rfl, H.out.grown hg1 hm1, hg1⟩

theorem Many_any (b m : Nat) (l : Pairs) (vs ss : List Int) (w : World) (h : TabAt w b m l vs ss) :
    Calls Tryd.prog 51 #[.pointer (some ⟨b, 0, none⟩)] w fun e w' => e = .returned (.int .i64 l.length) ∧ w = w' := by
  have k0 := h.cell0
  have L := fun ty => h.m_.len ty
  change ∀ ty, (Builtin.len_ #[126] ty #[.map (some m)]).run Tryd.prog w = .ok (.int .i64 l.length) w at L
  clear h
  go_enter Tryd.func51, Tryd.ntmps51
  go_wp2
  go_ret
  exact ⟨rfl, rfl⟩
end Go.Proofs.YthldfogmmjompaaDoor.lease
