/-
  What the law LeasePlays holds: a table, the reference's, alike; each step keeps it.
-/
import Derived.Test.YthldfogmmjompaaDoorLeaseT
import Derived.Test.YthldfogmmjompaaDoorInts
import Derived.Test.YthldfogmmjompaaDoorHoldArg
import Derived.Test.YthldfogmmjompaaDoorBare
namespace Go.Proofs.YthldfogmmjompaaDoor.lease
open Go.RowKit Go.Proofs.YthldfogmmjompaaDoor.heap Go.Proofs.YthldfogmmjompaaDoor.own Go.Proofs.YthldfogmmjompaaDoor.model Go.Proofs.YthldfogmmjompaaDoor.mapof Go.Proofs.YthldfogmmjompaaDoor.ints Go.Proofs.YthldfogmmjompaaDoor.errs

/-- A table of numbers by client, and a map that reads as it. -/
structure NumLike (xs : List Int) (m : List (Int × Int)) : Prop where
  len : xs.length = 4
  same : ∀ c : Nat, c < 4 → (seek (c : Int) m).getD 0 = xs.getD c 0
  keys : ∀ c : Int, (seek c m).isSome = true → 0 ≤ c ∧ c < 4
theorem NumLike.start : NumLike [0, 0, 0, 0] [] := ⟨rfl, fun c hc => by
  match c, hc with
  | 0, _ => rfl
  | 1, _ => rfl
  | 2, _ => rfl
  | 3, _ => rfl, fun c h => by simp [seek] at h⟩
theorem NumLike.put {xs : List Int} {m : List (Int × Int)} (h : NumLike xs m) {c : Nat} (hc : c < 4) (y : Int) : NumLike (xs.set c y) (put (c : Int) y m) := by
  refine ⟨by simp [h.len], fun d hd => ?_, fun d hd => ?_⟩
  · by_cases e : d = c
    · subst e
      rw [seek_put_same, List.getD_eq_getElem?_getD, List.getElem?_set_self (by rw [h.len]; exact hc)]
    · rw [seek_put_other (by omega), List.getD_eq_getElem?_getD, List.getElem?_set_ne (Ne.symm e), ← List.getD_eq_getElem?_getD]
      exact h.same d hd
  · by_cases e : d = (c : Int)
    · omega
    · rw [seek_put_other e] at hd
      exact h.keys d hd
theorem NumLike.del {xs : List Int} {m : List (Int × Int)} (h : NumLike xs m) {c : Nat} (hc : c < 4) : NumLike (xs.set c 0) (del (c : Int) m) := by
  refine ⟨by simp [h.len], fun d hd => ?_, fun d hd => ?_⟩
  · by_cases e : d = c
    · subst e
      rw [seek_del_same, List.getD_eq_getElem?_getD, List.getElem?_set_self (by rw [h.len]; exact hc)]
      rfl
    · rw [seek_del_other (by omega), List.getD_eq_getElem?_getD, List.getElem?_set_ne (Ne.symm e), ← List.getD_eq_getElem?_getD]
      exact h.same d hd
  · by_cases e : d = (c : Int)
    · omega
    · rw [seek_del_other e] at hd
      exact h.keys d hd

theorem put_len {κ ε : Type} [DecidableEq κ] (k : κ) (v : ε) (l : List (κ × ε)) : (put k v l).length ≤ l.length + 1 := by
  have := (del_sublist k l).length_le
  simp only [put, List.length_cons]
  omega

/-- The pure side of what the law holds. -/
structure Good (l : Pairs) (vs ss : List Int) (vl sl : List (Int × Int)) (i : Nat) : Prop where
  cl : ∀ p ∈ l, 0 ≤ p.1.1 ∧ p.1.1 < 4
  ob : ∀ p ∈ l, 0 ≤ p.1.2 ∧ p.1.2 < 8
  v : NumLike vs vl
  s : NumLike ss sl
  ln : l.length ≤ i
  lv : vl.length ≤ i
  ls : sl.length ≤ i
theorem Good.start : Good [] [0, 0, 0, 0] [0, 0, 0, 0] [] [] 0 := ⟨(fun _ h => by cases h), (fun _ h => by cases h), NumLike.start, NumLike.start, Nat.le_refl _, Nat.le_refl _, Nat.le_refl _⟩
theorem Good.later {l : Pairs} {vs ss : List Int} {vl sl : List (Int × Int)} {i : Nat} (h : Good l vs ss vl sl i) : Good l vs ss vl sl (i + 1) :=
  ⟨h.cl, h.ob, h.v, h.s, by have := h.ln; omega, by have := h.lv; omega, by have := h.ls; omega⟩
theorem Good.del {l : Pairs} {vs ss : List Int} {vl sl : List (Int × Int)} {i : Nat} (h : Good l vs ss vl sl i) (k : Int × Int) : Good (del k l) vs ss vl sl (i + 1) :=
  ⟨fun p hp => h.cl p ((del_sublist k l).subset hp), fun p hp => h.ob p ((del_sublist k l).subset hp), h.v, h.s, by have := h.ln; have := (del_sublist k l).length_le; omega, by have := h.lv; omega, by have := h.ls; omega⟩
theorem Good.put {l : Pairs} {vs ss : List Int} {vl sl : List (Int × Int)} {i : Nat} (h : Good l vs ss vl sl i) {k : Int × Int} (u : Int) (h1 : 0 ≤ k.1 ∧ k.1 < 4) (h2 : 0 ≤ k.2 ∧ k.2 < 8) : Good (put k u l) vs ss vl sl (i + 1) := by
  refine ⟨fun p hp => ?_, fun p hp => ?_, h.v, h.s, by have := h.ln; have := put_len k u l; omega, by have := h.lv; omega, by have := h.ls; omega⟩
  · rcases List.mem_cons.1 hp with rfl | hp
    · exact h1
    · exact h.cl p ((del_sublist k l).subset hp)
  · rcases List.mem_cons.1 hp with rfl | hp
    · exact h2
    · exact h.ob p ((del_sublist k l).subset hp)
theorem Good.volume {l : Pairs} {vs ss : List Int} {vl sl : List (Int × Int)} {i : Nat} (h : Good l vs ss vl sl i) {c : Nat} (hc : c < 4) (y : Int) : Good l (vs.set c y) ss (model.put (c : Int) y vl) sl (i + 1) :=
  ⟨h.cl, h.ob, h.v.put hc y, h.s, by have := h.ln; omega, by have := h.lv; have := put_len (c : Int) y vl; omega, by have := h.ls; omega⟩
theorem Good.flush {l : Pairs} {vs ss : List Int} {vl sl : List (Int × Int)} {i : Nat} (h : Good l vs ss vl sl i) {c : Nat} (hc : c < 4) (y : Int) :
    Good (l.filter fun e => !decide (e.1.1 = (c : Int))) (vs.set c 0) (ss.set c y) (model.del (c : Int) vl) (model.put (c : Int) y sl) (i + 1) :=
  ⟨fun p hp => h.cl p (List.mem_filter.1 hp).1, fun p hp => h.ob p (List.mem_filter.1 hp).1, h.v.del hc, h.s.put hc y, by have := h.ln; have := List.length_filter_le (fun e : (Int × Int) × Int => !decide (e.1.1 = (c : Int))) l; omega,
    by have := h.lv; have := (del_sublist (c : Int) vl).length_le; omega, by have := h.ls; have := put_len (c : Int) y sl; omega⟩

theorem alike_robject {w : World} {m : Nat} {l : Pairs} {k : Int × Int} {u : Int} (hu : 0 ≤ u) (h : At refS w m (robject l k u)) (hn : (l.map (·.1)).Nodup) (hk : refS.okK k) :
    At refS w m (put k (max ((seek k l).getD 0) u) l) := by
  unfold robject at h
  cases hs : seek k l with
  | none =>
    rw [hs] at h
    simp only [Option.isSome_none, Bool.false_eq_true, false_and, if_false] at h
    have : max ((none : Option Int).getD 0) u = u := by simp; omega
    rw [this]
    exact h
  | some x =>
    rw [hs] at h
    simp only [Option.isSome_some, true_and, Option.getD_some] at h ⊢
    by_cases hx : x < u
    · rw [if_neg (by omega)] at h
      have : max x u = u := by omega
      rw [this]
      exact h
    · rw [if_pos (by omega)] at h
      have : max x u = x := by omega
      rw [this]
      refine h.alike ?_ ?_ ?_
      · rw [put, List.map_cons, List.nodup_cons]
        refine ⟨seek_none (seek_del_same l), hn.sublist ((del_sublist k l).map _)⟩
      · have := del_length k l hn
        rw [hs] at this
        simp only [Option.isSome_some, if_true] at this
        simp only [put, List.length_cons]
        omega
      · intro k'
        by_cases e : k' = k
        · subst e; rw [seek_put_same, hs]
        · exact seek_put_other e

/-- What the law holds: its table, the reference's. -/
structure LAt (bn : Nat) (w : World) (l : Pairs) (vs ss : List Int) (vl sl : List (Int × Int)) (i : Nat) : Prop where
  t : TabAt w (bn + 1) bn l vs ss
  r : RefAt w (bn + 5) (bn + 2) (bn + 3) (bn + 4) l vl sl
  g : Good l vs ss vl sl i
theorem TabAt.below {w w' : World} {b m : Nat} {l : Pairs} {vs ss : List Int} (h : TabAt w b m l vs ss) (hb : Below w.heap.size w w') : TabAt w' b m l vs ss :=
  ⟨h.t_.below hb h.t_.lt, h.m_.below hb, h.ne, h.hv, h.hs⟩
theorem LAt.below {bn : Nat} {w w' : World} {l : Pairs} {vs ss : List Int} {vl sl : List (Int × Int)} {i : Nat} (h : LAt bn w l vs ss vl sl i) (hb : Below w.heap.size w w') : LAt bn w' l vs ss vl sl i :=
  ⟨h.t.below hb, h.r.below hb, h.g⟩
theorem TabAt.turn {w w' : World} {S : Nat → Prop} {b m : Nat} {l : Pairs} {vs ss : List Int} (h : TabAt w b m l vs ss) (ht : Turn S w w') (hb : ¬ S b) (hm : ¬ S m) : TabAt w' b m l vs ss :=
  ⟨ht.has h.t_ hb, h.m_.turn ht hm, h.ne, h.hv, h.hs⟩
theorem RefAt.turn {w w' : World} {S : Nat → Prop} {b m1 m2 m3 : Nat} {l : Pairs} {vl sl : List (Int × Int)} (h : RefAt w b m1 m2 m3 l vl sl) (ht : Turn S w w') (hb : ¬ S b) (h1 : ¬ S m1) (h2 : ¬ S m2) (h3 : ¬ S m3) : RefAt w' b m1 m2 m3 l vl sl :=
  ⟨ht.has h.t_ hb, h.a.turn ht h1, h.v.turn ht h2, h.s.turn ht h3, h.n1, h.n2, h.n3, h.n12, h.n13, h.n23⟩
end Go.Proofs.YthldfogmmjompaaDoor.lease
