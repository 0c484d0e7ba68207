/-
  A fact laid behind Hid, by a short name.
-/
import Derived.Lib.Hide
namespace Go.Proofs.YtefkmcjhgoagcaaGreatDoor
theorem Hd {p : Prop} (h : p) : Go.RowKit.Hid p := h
end Go.Proofs.YtefkmcjhgoagcaaGreatDoor
