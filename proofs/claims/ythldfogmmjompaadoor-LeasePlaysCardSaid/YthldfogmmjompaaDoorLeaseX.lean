/-
  The steps of LeasePlays, refused or not, in one contract each.
-/
import Derived.Test.YthldfogmmjompaaDoorLeaseV
namespace Go.Proofs.YthldfogmmjompaaDoor.lease
open Go.RowKit Go.Proofs.YthldfogmmjompaaDoor.heap Go.Proofs.YthldfogmmjompaaDoor.own Go.Proofs.YthldfogmmjompaaDoor.model Go.Proofs.YthldfogmmjompaaDoor.mapof Go.Proofs.YthldfogmmjompaaDoor.ints Go.Proofs.YthldfogmmjompaaDoor.errs

def code (b : Bool) : Int := if b = true then 0 else 2
abbrev okO (c o u : Int) : Bool := inR c 0 3 && inR o 0 7 && inR u 0 1099511627776
abbrev okV (c u : Int) : Bool := inR c 0 3 && inR u 0 1099511627776
theorem inR_iff {n a b : Int} : inR n a b = true ↔ a ≤ n ∧ n ≤ b := by simp [inR]
theorem client_iff {c : Int} : lease.isClient c = inR c 0 3 := by
  rw [Bool.eq_iff_iff, inR_iff]; simp [lease.isClient]; omega
theorem object_iff {c : Int} : lease.isObject c = inR c 0 7 := by
  rw [Bool.eq_iff_iff, inR_iff]; simp [lease.isObject]; omega
theorem ok_max {x u : Int} (h : i64ok x) (h0 : 0 ≤ u) (h1 : u ≤ 1099511627776) : i64ok (max x u) := by
  by_cases hx : x ≤ u
  · rw [Int.max_eq_right hx]; exact WalkArith.wf_i64 (by omega)
  · rw [Int.max_eq_left (by omega)]; exact h
def lput (ok : Bool) (l : Pairs) (k : Int × Int) (u : Int) : Pairs := if ok = true then put k (max ((seek k l).getD 0) u) l else l

theorem Object_both (b m : Nat) (l : Pairs) (vs ss : List Int) (c o u : Int) (w : World) (h : TabAt w b m l vs ss) (hl : l.length < 1000) (hc : i64ok c) (ho : i64ok o) :
    Calls Tryd.prog 40 #[.pointer (some ⟨b, 0, none⟩), .int .i64 c, .int .i64 o, .int .i64 u] w fun e w' => e = .returned (errV (code (okO c o u))) ∧ TabAt w' b m (lput (okO c o u) l (c, o) u) vs ss ∧ w.grownBy w' (some m) := by
  cases hk : okO c o u with
  | true =>
    have hk2 := hk
    simp only [okO, Bool.and_eq_true, inR_iff] at hk2
    obtain ⟨⟨h1, h2⟩, h3⟩ := hk2
    exact Object_yes b m l vs ss c o u w h hl (by rw [client_iff, object_iff, Bool.and_eq_true, inR_iff, inR_iff]; exact ⟨h1, h2⟩) h3.1 h3.2 hc ho (ok_max (h.m_.okE (c, o)) h3.1 h3.2)
  | false =>
    refine (Object_no _ c o u w ?_).mono ?_
    · rw [client_iff, object_iff]
      intro hh
      have : okO c o u = true := by
        simp only [okO, Bool.and_eq_true, inR_iff]
        have h1 := hh.1
        rw [Bool.and_eq_true, inR_iff, inR_iff] at h1
        exact ⟨h1, hh.2⟩
      rw [hk] at this
      cases this
    · rintro e w' ⟨rfl, rfl⟩
      exact ⟨rfl, h, ⟨rfl, rfl, rfl, Nat.le_refl _, fun _ _ _ => rfl⟩⟩

theorem RObject_both (b m1 m2 m3 : Nat) (l : Pairs) (vl sl : List (Int × Int)) (c o u : Int) (w : World) (H : RefAt w b m1 m2 m3 l vl sl) (hl : l.length < 1000) (hc : i64ok c) (ho : i64ok o) :
    Calls Tryd.prog 41 #[.pointer (some ⟨b, 0, none⟩), .int .i64 c, .int .i64 o, .int .i64 u] w fun e w' => e = .returned (.int .i64 (code (okO c o u))) ∧ RefAt w' b m1 m2 m3 (lput (okO c o u) l (c, o) u) vl sl ∧ w.grownBy w' (some m1) := by
  cases hk : okO c o u with
  | true =>
    have hk2 := hk
    simp only [okO, Bool.and_eq_true] at hk2
    obtain ⟨⟨h1, h2⟩, h3⟩ := hk2
    have h4 := inR_iff.1 h3
    refine (RObject_yes b m1 m2 m3 l vl sl c o u w H hl h1 h2 h3 hc ho (WalkArith.wf_i64 (by omega))).mono ?_
    rintro e w' ⟨rfl, h5, h6⟩
    exact ⟨rfl, ⟨h5.t_, alike_robject h4.1 h5.a H.a.nodup ⟨hc, ho⟩, h5.v, h5.s, h5.n1, h5.n2, h5.n3, h5.n12, h5.n13, h5.n23⟩, h6⟩
  | false =>
    refine (RObject_no _ c o u w hk).mono ?_
    rintro e w' ⟨rfl, rfl⟩
    exact ⟨rfl, H, ⟨rfl, rfl, rfl, Nat.le_refl _, fun _ _ _ => rfl⟩⟩

def vput (ok : Bool) (vs : List Int) (c u : Int) : List Int := if ok = true then vs.set c.toNat (max (vs.getD c.toNat 0) u) else vs
def vlput (ok : Bool) (vl : List (Int × Int)) (c u : Int) : List (Int × Int) := if ok = true then put c (max ((seek c vl).getD 0) u) vl else vl

theorem Volume_both (b m : Nat) (l : Pairs) (vs ss : List Int) (c u : Int) (w : World) (h : TabAt w b m l vs ss) :
    Calls Tryd.prog 42 #[.pointer (some ⟨b, 0, none⟩), .int .i64 c, .int .i64 u] w fun e w' => e = .returned (errV (code (okV c u))) ∧ TabAt w' b m l (vput (okV c u) vs c u) ss ∧ Turn (fun k => k = b) w w' := by
  cases hk : okV c u with
  | true =>
    have hk2 := hk
    simp only [okV, Bool.and_eq_true, inR_iff] at hk2
    obtain ⟨h1, h3⟩ := hk2
    obtain ⟨n, rfl⟩ : ∃ n : Nat, c = n := ⟨c.toNat, by omega⟩
    refine (Volume_yes b _ vs ss n u w h.t_ h.hv (by omega) h3.1 h3.2).mono ?_
    rintro e w' ⟨rfl, h5, h6⟩
    exact ⟨rfl, ⟨h6, h.m_.turn h5 h.ne, h.ne, by simp [vput, h.hv], h.hs⟩, h5⟩
  | false =>
    refine (Volume_no _ c u w ?_).mono ?_
    · rw [client_iff]
      intro hh
      have : okV c u = true := by
        simp only [okV, Bool.and_eq_true, inR_iff]
        exact ⟨inR_iff.1 hh.1, hh.2⟩
      rw [hk] at this
      cases this
    · rintro e w' ⟨rfl, rfl⟩
      exact ⟨rfl, h, Turn.refl _ _⟩
theorem RVolume_both (b m1 m2 m3 : Nat) (l : Pairs) (vl sl : List (Int × Int)) (c u : Int) (w : World) (H : RefAt w b m1 m2 m3 l vl sl) (hl : vl.length < 1000) (hc : i64ok c) :
    Calls Tryd.prog 43 #[.pointer (some ⟨b, 0, none⟩), .int .i64 c, .int .i64 u] w fun e w' => e = .returned (.int .i64 (code (okV c u))) ∧ RefAt w' b m1 m2 m3 l (vlput (okV c u) vl c u) sl ∧ w.grownBy w' (some m2) := by
  cases hk : okV c u with
  | true =>
    have hk2 := hk
    simp only [okV, Bool.and_eq_true] at hk2
    obtain ⟨h1, h3⟩ := hk2
    have h4 := inR_iff.1 h3
    exact RVolume_yes_ b m1 m2 m3 l vl sl c u _ _ w (Lib.hid (by split <;> omega)) (Lib.hid rfl) H hl h1 h3 hc (ok_max (H.v.okE c) h4.1 h4.2)
  | false =>
    refine (RVolume_no _ c u w hk).mono ?_
    rintro e w' ⟨rfl, rfl⟩
    exact ⟨rfl, H, ⟨rfl, rfl, rfl, Nat.le_refl _, fun _ _ _ => rfl⟩⟩

def lflush (ok : Bool) (l : Pairs) (c : Int) : Pairs := if ok = true then l.filter fun e => !decide (e.1.1 = c) else l
theorem Flush_both (b m : Nat) (l : Pairs) (vs ss : List Int) (c : Int) (w : World) (h : TabAt w b m l vs ss) :
    Calls Tryd.prog 45 #[.pointer (some ⟨b, 0, none⟩), .int .i64 c] w fun e w' => e = .returned (errV (code (inR c 0 3))) ∧ TabAt w' b m (lflush (inR c 0 3) l c) (if inR c 0 3 = true then vs.set c.toNat 0 else vs) (if inR c 0 3 = true then ss.set c.toNat (wrap64 (ss.getD c.toNat 0 + 1)) else ss) ∧ Turn (fun k => k = b ∨ k = m) w w' := by
  cases hk : inR c 0 3 with
  | true =>
    have h1 := inR_iff.1 hk
    obtain ⟨n, rfl⟩ : ∃ n : Nat, c = n := ⟨c.toNat, by omega⟩
    exact Flush_yes b m l vs ss n w h (by omega)
  | false =>
    refine (Flush_no _ c w (by rw [client_iff]; exact hk)).mono ?_
    rintro e w' ⟨rfl, rfl⟩
    exact ⟨rfl, h, Turn.refl _ _⟩
theorem RFlush_both (b m1 m2 m3 : Nat) (l : Pairs) (vl sl : List (Int × Int)) (c : Int) (w : World) (H : RefAt w b m1 m2 m3 l vl sl) (hc : i64ok c) (hv : ∀ p ∈ l, 0 ≤ p.1.2 ∧ p.1.2 < 8) (hsl : sl.length < 1000) :
    Calls Tryd.prog 46 #[.pointer (some ⟨b, 0, none⟩), .int .i64 c] w fun e w' => e = .returned (.int .i64 (code (inR c 0 3))) ∧ RefAt w' b m1 m2 m3 (lflush (inR c 0 3) l c) (if inR c 0 3 = true then del c vl else vl) (if inR c 0 3 = true then put c (wrap64 ((seek c sl).getD 0 + 1)) sl else sl) ∧ Turn (fun k => k = m1 ∨ k = m2 ∨ k = m3) w w' := by
  cases hk : inR c 0 3 with
  | true => exact RFlush_yes b m1 m2 m3 l vl sl c w H hc hk hv hsl
  | false =>
    refine (RFlush_no _ c w hk).mono ?_
    rintro e w' ⟨rfl, rfl⟩
    exact ⟨rfl, H, Turn.refl _ _⟩

theorem Good.lput {l : Pairs} {vs ss : List Int} {vl sl : List (Int × Int)} {i : Nat} (h : Good l vs ss vl sl i) (c o u : Int) : Good (lput (okO c o u) l (c, o) u) vs ss vl sl (i + 1) := by
  unfold lease.lput
  split
  · rename_i hk
    simp only [okO, Bool.and_eq_true, inR_iff] at hk
    exact h.put _ ⟨hk.1.1.1, by omega⟩ ⟨hk.1.2.1, by omega⟩
  · exact h.later
theorem Good.vput {l : Pairs} {vs ss : List Int} {vl sl : List (Int × Int)} {i : Nat} (h : Good l vs ss vl sl i) (c u : Int) : Good l (vput (okV c u) vs c u) ss (vlput (okV c u) vl c u) sl (i + 1) := by
  unfold lease.vput vlput
  split
  · rename_i hk
    simp only [okV, Bool.and_eq_true, inR_iff] at hk
    obtain ⟨n, rfl⟩ : ∃ n : Nat, c = n := ⟨c.toNat, by omega⟩
    rw [h.v.same n (by omega)]
    exact h.volume (by omega) _
  · exact h.later
theorem Good.lflush {l : Pairs} {vs ss : List Int} {vl sl : List (Int × Int)} {i : Nat} (h : Good l vs ss vl sl i) (c : Int) :
    Good (lflush (inR c 0 3) l c) (if inR c 0 3 = true then vs.set c.toNat 0 else vs) (if inR c 0 3 = true then ss.set c.toNat (wrap64 (ss.getD c.toNat 0 + 1)) else ss) (if inR c 0 3 = true then model.del c vl else vl) (if inR c 0 3 = true then model.put c (wrap64 ((seek c sl).getD 0 + 1)) sl else sl) (i + 1) := by
  unfold lease.lflush
  split
  · rename_i hk
    rw [inR_iff] at hk
    obtain ⟨n, rfl⟩ : ∃ n : Nat, c = n := ⟨c.toNat, by omega⟩
    rw [h.s.same n (by omega)]
    exact h.flush (by omega) _
  · exact h.later

/-- What the law holds in the midst of a round. -/
structure Ws (w W : World) (xb : Nat) (X : Obj) (l : Pairs) (vs ss : List Int) (rl : Pairs) (vl sl : List (Int × Int)) : Prop where
  t : TabAt W (w.heap.size + 1) w.heap.size l vs ss
  r : RefAt W (w.heap.size + 5) (w.heap.size + 2) (w.heap.size + 3) (w.heap.size + 4) rl vl sl
  x : Has W xb X
  b : Below w.heap.size w W
  lt : w.heap.size + 5 < xb
section
variable {w W W' : World} {xb : Nat} {X : Obj} {l l' : Pairs} {vs vs' ss ss' : List Int} {rl rl' : Pairs} {vl vl' sl sl' : List (Int × Int)}
theorem Ws.two (h : Ws w W xb X l vs ss rl vl sl) : Has W xb X ∧ Has W (w.heap.size + 5) (.cells #[.map (some (w.heap.size + 2)), .map (some (w.heap.size + 3)), .map (some (w.heap.size + 4))] 98) := ⟨h.x, h.r.t_⟩
theorem Ws.turn {S : Nat → Prop} (h : Ws w W xb X l vs ss rl vl sl) (ht : Turn S W W') (hs : ∀ k, S k → w.heap.size ≤ k ∧ k ≤ w.heap.size + 1) (hT : TabAt W' (w.heap.size + 1) w.heap.size l' vs' ss') : Ws w W' xb X l' vs' ss' rl vl sl :=
  ⟨hT, h.r.turn ht (fun e => by have := hs _ e; omega) (fun e => by have := hs _ e; omega) (fun e => by have := hs _ e; omega) (fun e => by have := hs _ e; omega), ht.has h.x (fun e => by have := hs _ e; have := h.lt; omega),
   h.b.trans (ht.to_below h.b.size (fun k hk e => by have := hs _ e; omega)), h.lt⟩
theorem Ws.tableG (h : Ws w W xb X l vs ss rl vl sl) (hg : W.grownBy W' (some w.heap.size)) (hT : TabAt W' (w.heap.size + 1) w.heap.size l' vs' ss') : Ws w W' xb X l' vs' ss' rl vl sl :=
  h.turn (S := fun k => k = w.heap.size) ((Turn.refl _ _).grown hg (fun k hk => by cases hk; exact .inr rfl)) (fun k hk => by omega) hT
theorem Ws.tableT (h : Ws w W xb X l vs ss rl vl sl) (hg : Turn (fun k => k = w.heap.size + 1) W W') (hT : TabAt W' (w.heap.size + 1) w.heap.size l' vs' ss') : Ws w W' xb X l' vs' ss' rl vl sl :=
  h.turn hg (fun k hk => by omega) hT
theorem Ws.tableF (h : Ws w W xb X l vs ss rl vl sl) (hg : Turn (fun k => k = w.heap.size + 1 ∨ k = w.heap.size) W W') (hT : TabAt W' (w.heap.size + 1) w.heap.size l' vs' ss') : Ws w W' xb X l' vs' ss' rl vl sl :=
  h.turn hg (fun k hk => by omega) hT
theorem Ws.rturn {S : Nat → Prop} (h : Ws w W xb X l vs ss rl vl sl) (ht : Turn S W W') (hs : ∀ k, S k → w.heap.size + 2 ≤ k ∧ k ≤ w.heap.size + 4) (hR : RefAt W' (w.heap.size + 5) (w.heap.size + 2) (w.heap.size + 3) (w.heap.size + 4) rl' vl' sl') : Ws w W' xb X l vs ss rl' vl' sl' :=
  ⟨h.t.turn ht (fun e => by have := hs _ e; omega) (fun e => by have := hs _ e; omega), hR, ht.has h.x (fun e => by have := hs _ e; have := h.lt; omega),
   h.b.trans (ht.to_below h.b.size (fun k hk e => by have := hs _ e; omega)), h.lt⟩
theorem Ws.refG1 (h : Ws w W xb X l vs ss rl vl sl) (hg : W.grownBy W' (some (w.heap.size + 2))) (hR : RefAt W' (w.heap.size + 5) (w.heap.size + 2) (w.heap.size + 3) (w.heap.size + 4) rl' vl' sl') : Ws w W' xb X l vs ss rl' vl' sl' :=
  h.rturn (S := fun k => k = w.heap.size + 2) ((Turn.refl _ _).grown hg (fun k hk => by cases hk; exact .inr rfl)) (fun k hk => by omega) hR
theorem Ws.refG2 (h : Ws w W xb X l vs ss rl vl sl) (hg : W.grownBy W' (some (w.heap.size + 3))) (hR : RefAt W' (w.heap.size + 5) (w.heap.size + 2) (w.heap.size + 3) (w.heap.size + 4) rl' vl' sl') : Ws w W' xb X l vs ss rl' vl' sl' :=
  h.rturn (S := fun k => k = w.heap.size + 3) ((Turn.refl _ _).grown hg (fun k hk => by cases hk; exact .inr rfl)) (fun k hk => by omega) hR
theorem Ws.refT (h : Ws w W xb X l vs ss rl vl sl) (hg : Turn (fun k => k = w.heap.size + 2 ∨ k = w.heap.size + 3 ∨ k = w.heap.size + 4) W W') (hR : RefAt W' (w.heap.size + 5) (w.heap.size + 2) (w.heap.size + 3) (w.heap.size + 4) rl' vl' sl') : Ws w W' xb X l vs ss rl' vl' sl' :=
  h.rturn hg (fun k hk => by omega) hR
theorem Ws.below (h : Ws w W xb X l vs ss rl vl sl) (hb : Below W.heap.size W W') : Ws w W' xb X l vs ss rl vl sl :=
  ⟨h.t.below hb, h.r.below hb, h.x.below hb h.x.lt, h.b.trans (hb.mono h.b.size), h.lt⟩
theorem Ws.drew (h : Ws w W xb X l vs ss rl vl sl) : Ws w W.drew xb X l vs ss rl vl sl := h.below (Below.refl _ _).drew
theorem handle_below (hg : Handle w) (hb : Below w.heap.size w W) : Handle W := hg.below hb
end

/-- Does it lean, as the law reckons it. -/
def LV (y d1 q0 d0 : Bool) : Bool := (y && d1) || (q0 && (!y && d0))
theorem leans_eq {vs : List Int} {vl : List (Int × Int)} (h : NumLike vs vl) (c now : Int) :
    (inR c 0 3 && decide (now < vs.getD c.toNat 0)) = LV (seek c vl).isSome (decide (now < (seek c vl).getD 0)) (code (inR c 0 3) == 0) (decide (now < 0)) := by
  cases hk : inR c 0 3 with
  | true =>
    have h1 := inR_iff.1 hk
    obtain ⟨n, rfl⟩ : ∃ n : Nat, c = n := ⟨c.toNat, by omega⟩
    have e := h.same n (by omega)
    rw [Int.toNat_natCast, ← e]
    cases hs : seek (n : Int) vl with
    | none => simp [LV, code]
    | some x => simp [LV, code]
  | false =>
    cases hs : seek c vl with
    | none => simp [LV, code]
    | some x =>
      have := h.keys c (by rw [hs]; rfl)
      have h2 : inR c 0 3 = true := inR_iff.2 (by omega)
      rw [hk] at h2
      cases h2
theorem num_eq {ss : List Int} {sl : List (Int × Int)} (h : NumLike ss sl) {c : Int} (hk : inR c 0 3 = false) : (seek c sl).getD 0 = 0 := by
  cases hs : seek c sl with
  | none => rfl
  | some x =>
    have := h.keys c (by rw [hs]; rfl)
    have h2 : inR c 0 3 = true := inR_iff.2 (by omega)
    rw [hk] at h2
    cases h2
theorem Leans_both (b m : Nat) (l : Pairs) (vs ss : List Int) (vl : List (Int × Int)) (c now : Int) (w : World) (h : TabAt w b m l vs ss) (hv : NumLike vs vl) :
    Calls Tryd.prog 48 #[.pointer (some ⟨b, 0, none⟩), .int .i64 c, .int .i64 now] w fun e w' => e = .returned (.bool (LV (seek c vl).isSome (decide (now < (seek c vl).getD 0)) (code (inR c 0 3) == 0) (decide (now < 0)))) ∧ w = w' := by
  rw [← leans_eq hv c now]
  cases hk : inR c 0 3 with
  | true =>
    have h1 := inR_iff.1 hk
    obtain ⟨n, rfl⟩ : ∃ n : Nat, c = n := ⟨c.toNat, by omega⟩
    exact Leans_yes b _ vs ss n now w h.t_ h.hv (by omega)
  | false => exact Leans_no _ c now w (by rw [client_iff]; exact hk)
theorem Session_both (b m : Nat) (l : Pairs) (vs ss : List Int) (sl : List (Int × Int)) (c : Int) (w : World) (h : TabAt w b m l vs ss) (hs : NumLike ss sl) :
    Calls Tryd.prog 47 #[.pointer (some ⟨b, 0, none⟩), .int .i64 c] w fun e w' => e = .returned (.tuple #[.int .i64 ((seek c sl).getD 0), errV (code (inR c 0 3))]) ∧ w = w' := by
  cases hk : inR c 0 3 with
  | true =>
    have h1 := inR_iff.1 hk
    obtain ⟨n, rfl⟩ : ∃ n : Nat, c = n := ⟨c.toNat, by omega⟩
    rw [hs.same n (by omega)]
    exact Session_yes b _ vs ss n w h.t_ h.hv h.hs (by omega)
  | false =>
    rw [num_eq hs hk]
    exact Session_no _ c w (by rw [client_iff]; exact hk)
end Go.Proofs.YthldfogmmjompaaDoor.lease
