/-
  The reference's table: Holders, Flush.
-/
import Derived.Test.YthldfogmmjompaaDoorLeaseS
namespace Go.Proofs.YthldfogmmjompaaDoor.lease
open Go.RowKit Go.Proofs.YthldfogmmjompaaDoor.heap Go.Proofs.YthldfogmmjompaaDoor.own Go.Proofs.YthldfogmmjompaaDoor.model Go.Proofs.YthldfogmmjompaaDoor.mapof

def holdsC (l : Pairs) (o now : Int) (c : Int) : Bool := match seek (c, o) l with | some u => decide (now < u) | none => false
def rto (l : Pairs) (o now : Int) (k : Nat) : List Int := (([0, 1, 2, 3] : List Int).take k).filter (holdsC l o now)
theorem rto_end (l : Pairs) (o now : Int) : rto l o now 4 = holders l o now := rfl
theorem rto_succ {l : Pairs} {o now : Int} {k : Nat} (hk : k < 4) : rto l o now (k + 1) = rto l o now k ++ (if holdsC l o now (k : Int) = true then [(k : Int)] else []) := by
  unfold rto
  have : ([0, 1, 2, 3] : List Int).take (k + 1) = ([0, 1, 2, 3] : List Int).take k ++ [(k : Int)] := by
    match k, hk with
    | 0, _ => rfl
    | 1, _ => rfl
    | 2, _ => rfl
    | 3, _ => rfl
  rw [this, List.filter_append, List.filter_cons, List.filter_nil]
theorem rto_len (l : Pairs) (o now : Int) (k : Nat) : (rto l o now k).length ≤ 4 := by
  unfold rto
  refine Nat.le_trans (List.length_filter_le _ _) ?_
  simp
  omega

set_option maxHeartbeats 1000000 in
set_option maxRecDepth 100000 in
theorem RHolders_any (b m1 m2 m3 : Nat) (l : Pairs) (vl sl : List (Int × Int)) (o now : Int) (w : World) (H : RefAt w b m1 m2 m3 l vl sl) (ho : i64ok o) :
    Calls Tryd.prog 50 #[.pointer (some ⟨b, 0, none⟩), .int .i64 o, .int .i64 now] w fun e w' => ∃ v, e = .returned v ∧ w'.ownsRow w.heap.size 3 1 v (holders l o now).length ((holders l o now).map (Value.int .i64)) ∧ Below w.heap.size w w' := by
  obtain ⟨i0, hi0, iz0, iz1, iz2⟩ := info_parts int_info
  have hbl := H.t_.lt
  have hml := H.a.lt
  have k0 : w.cell? ⟨b, 0, none⟩ = some (.map (some m1)) := H.t_.cell 0
  have HH := Lib.hid H
  clear H
  go_enter Tryd.func50, Tryd.ntmps50
  go_wp2
  go_loopw [7, 8, 9, 10, 11] (fun u _ _ _ i wr => ∃ k : Nat, k ≤ 4 ∧ i = .int .i64 k ∧ wr.ownsRow w.heap.size 3 1 u (rto l o now k).length ((rto l o now k).map (Value.int .i64)) ∧ Below w.heap.size w wr) (fun _ _ _ _ i _ => 4 - (intOf i).toNat)
  case atStart => exact ⟨0, by omega, rfl, ⟨rfl, .inl ⟨rfl, rfl⟩⟩, Below.refl _ _⟩
  case round =>
    obtain ⟨k, hk, rfl, hown, hb⟩ := hrel
    have hsz := hb.size
    have k1 : wr.cell? ⟨b, 0, none⟩ = some (.map (some m1)) := (hb.cell (p := ⟨b, 0, none⟩) hbl).trans k0
    have HA : Hid (At refS wr m1 l) := Lib.hid (HH.out.a.below hb)
    have HOW := Lib.hid hown
    have HB := Lib.hid hb
    have hrl := rto_len l o now k
    clear hown hb k0
    by_cases hk4 : k < 4
    · have hkk : i64ok (k : Int) := by
        unfold i64ok
        go_wf2
      have hk4' : (k : Int) < 4 := by omega
      cases hs : seek ((k : Int), o) l with
      | none =>
        have HXY : Hid (Value.tuple #[refS.ev ((seek ((k : Int), o) l).getD refS.z), .bool (seek ((k : Int), o) l).isSome] = .tuple #[.int .i64 0, .bool false]) := Lib.hid (by rw [hs]; rfl)
        have HR : Hid (rto l o now (k + 1) = rto l o now k) := Lib.hid (by rw [rto_succ hk4]; simp [holdsC, hs])
        clear hs
        go_wp2_with (at_lookup; refine wpList_mlook_ok refS rfl (.tmp 18) (.tmp 21) rfl rfl HA.out (k := ((k : Int), o)) ⟨hkk, ho⟩ rfl ?_; rw [HXY.out])
        go_roundw
        case rel => exact ⟨k + 1, by omega, by go_num, by rw [HR.out]; exact HOW.out, HB.out⟩
        case measure => simp [intOf]; omega
      | some u =>
        have HXY : Hid (Value.tuple #[refS.ev ((seek ((k : Int), o) l).getD refS.z), .bool (seek ((k : Int), o) l).isSome] = .tuple #[.int .i64 u, .bool true]) := Lib.hid (by rw [hs]; rfl)
        by_cases hu : now < u
        · have hd : decide (now < u) = true := decide_eq_true hu
          have HR : Hid (rto l o now (k + 1) = rto l o now k ++ [(k : Int)]) := Lib.hid (by rw [rto_succ hk4]; simp [holdsC, hs, hu])
          have HOW2 := Lib.hid (HOW.out.alloc (.cells #[.int .i64 k] 3))
          clear hs hu
          go_wp2_with (first
            | (at_lookup; refine wpList_mlook_ok refS rfl (.tmp 18) (.tmp 21) rfl rfl HA.out (k := ((k : Int), o)) ⟨hkk, ho⟩ rfl ?_; rw [HXY.out])
            | (at_builtin; refine wpList_append_own _ rfl (.tmp 31) (.tmp 33) 80 rfl w.heap.size 3 i0 (.int .i64 0) 1 8 Tryd.underlying80 hi0 iz0 iz1 iz2 rfl (by decide) _ _ _ rfl HOW2.out ⟨wr.heap.size, 0, none⟩ 1 1 [.int .i64 k] rfl rfl ?c1 (by simp [Value.oneCell']) ?c3 ?c4 ?c5 ?_))
          case c1 =>
            intro j u hj
            have hn := Has.new wr (.cells #[.int .i64 k] 3)
            match j, hj with
            | 0, hj =>
              obtain rfl : Value.int .i64 k = u := by simpa using hj
              exact hn.cell 0
          case c3 => unfold maxLen; omega
          case c4 => omega
          case c5 => simp; omega
          intro u2 w2 hown2 hg2 _
          go_wp2_with fail
          go_roundw
          case rel =>
            refine ⟨k + 1, by omega, by go_num, ?_, (HB.out.alloc (by omega) _).grown hg2 (by simp; omega) (fun j hj => by have := owns_ge HOW.out j hj; omega)⟩
            rw [HR.out, List.length_append, List.length_singleton, List.map_append]
            exact hown2
          case measure => simp [intOf]; omega
        · have hd : decide (now < u) = false := decide_eq_false hu
          have HR : Hid (rto l o now (k + 1) = rto l o now k) := Lib.hid (by rw [rto_succ hk4]; simp [holdsC, hs, hu])
          clear hs hu
          go_wp2_with (at_lookup; refine wpList_mlook_ok refS rfl (.tmp 18) (.tmp 21) rfl rfl HA.out (k := ((k : Int), o)) ⟨hkk, ho⟩ rfl ?_; rw [HXY.out])
          go_roundw
          case rel => exact ⟨k + 1, by omega, by go_num, by rw [HR.out]; exact HOW.out, HB.out⟩
          case measure => simp [intOf]; omega
    · have hk4' : ¬ (k : Int) < 4 := by omega
      obtain rfl : k = 4 := by omega
      go_wp2
      go_ret
      exact ⟨_, rfl, HOW.out, HB.out⟩

/-- The leases behind so many deletions. -/
def rflush (l : Pairs) (c : Int) (k : Nat) : Pairs := l.filter fun e => !(decide (e.1.1 = c) && decide (0 ≤ e.1.2) && decide (e.1.2 < k))
theorem rflush_zero (l : Pairs) (c : Int) : rflush l c 0 = l := by
  unfold rflush
  refine List.filter_eq_self.2 fun p _ => ?_
  by_cases h0 : (0 : Int) ≤ p.1.2
  · simp
    omega
  · simp [h0]
theorem rflush_succ (l : Pairs) (c : Int) (k : Nat) : del (c, (k : Int)) (rflush l c k) = rflush l c (k + 1) := by
  unfold rflush
  rw [del_filter, List.filter_filter]
  refine List.filter_congr fun p _ => ?_
  obtain ⟨⟨a, o⟩, u⟩ := p
  by_cases h : a = c
  · subst h
    simp only [decide_true, Bool.true_and, Prod.mk.injEq, true_and, ne_eq]
    by_cases h1 : o = (k : Int)
    · subst h1
      simp
      omega
    · by_cases h2 : o < (k : Int)
      · simp [h1, h2]
        omega
      · simp [h1, h2]
        omega
  · simp [h]
theorem rflush_end {l : Pairs} (c : Int) (hv : ∀ p ∈ l, 0 ≤ p.1.2 ∧ p.1.2 < 8) : rflush l c 8 = l.filter fun e => !decide (e.1.1 = c) := by
  unfold rflush
  refine List.filter_congr fun p hp => ?_
  have h1 := hv p hp
  have h2 : p.1.2 < ((8 : Nat) : Int) := h1.2
  rw [decide_eq_true h1.1, decide_eq_true h2, Bool.and_true, Bool.and_true]

theorem RFlush_no (p : Value) (c : Int) (w : World) (h : inR c 0 3 = false) :
    Calls Tryd.prog 46 #[p, .int .i64 c] w fun e w' => e = .returned (.int .i64 2) ∧ w = w' := by
  have I1 := in_any c 0 3 w
  rw [h] at I1
  clear h
  go_enter Tryd.func46, Tryd.ntmps46
  go_wp2_with (go_at_call 52; refine I1.mono ?_; rintro e w' ⟨rfl, rfl⟩)
  go_ret
  exact ⟨rfl, rfl⟩

set_option maxHeartbeats 1000000 in
set_option maxRecDepth 100000 in
theorem RFlush_yes (b m1 m2 m3 : Nat) (l : Pairs) (vl sl : List (Int × Int)) (c : Int) (w : World) (H : RefAt w b m1 m2 m3 l vl sl) (hc : i64ok c) (h1 : inR c 0 3 = true) (hv : ∀ p ∈ l, 0 ≤ p.1.2 ∧ p.1.2 < 8) (hsl : sl.length < 1000) :
    Calls Tryd.prog 46 #[.pointer (some ⟨b, 0, none⟩), .int .i64 c] w fun e w' => e = .returned (.int .i64 0) ∧ RefAt w' b m1 m2 m3 (l.filter fun e => !decide (e.1.1 = c)) (del c vl) (put c (wrap64 ((seek c sl).getD 0 + 1)) sl) ∧ Turn (fun k => k = m1 ∨ k = m2 ∨ k = m3) w w' := by
  have I1 := in_any c 0 3 w
  rw [h1] at I1
  clear h1
  have HV := Lib.hid hv
  have HH := Lib.hid H
  clear H hv
  go_enter Tryd.func46, Tryd.ntmps46
  go_wp2_with (go_at_call 52; refine I1.mono ?_; rintro e w' ⟨rfl, rfl⟩)
  go_loopw [5, 9] (fun _ i wr => ∃ k : Nat, k ≤ 8 ∧ i = .int .i64 k ∧ RefAt wr b m1 m2 m3 (rflush l c k) vl sl ∧ Turn (fun k => k = m1 ∨ k = m2 ∨ k = m3) w wr) (fun _ i _ => 8 - (intOf i).toNat)
  case atStart => exact ⟨0, by omega, rfl, by rw [rflush_zero]; exact HH.out, Turn.refl _ _⟩
  case round =>
    obtain ⟨k, hk, rfl, hR, ht⟩ := hrel
    have k0 : wr.cell? ⟨b, 0, none⟩ = some (.map (some m1)) := hR.t_.cell 0
    have HA := Lib.hid hR
    have HT := Lib.hid ht
    clear hR ht
    by_cases hk4 : k < 8
    · have hkk : i64ok (k : Int) := by
        unfold i64ok
        go_wf2
      have hk4' : (k : Int) < 8 := by omega
      go_wp2_with (at_delete; refine wpList_mdrop refS rfl (.tmp 15) (.tmp 18) rfl rfl HA.out.a (k := (c, (k : Int))) ⟨hc, hkk⟩ rfl ?_; intro w1 hm1 hg1)
      rw [rflush_succ] at hm1
      have HA1 := Lib.hid (HA.out.grown1 hg1 hm1)
      have HT1 := Lib.hid (HT.out.grown hg1 (fun k hk => by cases hk; exact .inr (.inl rfl)))
      clear hm1 hg1
      go_wp2_with fail
      go_roundw
      case rel => exact ⟨k + 1, by omega, by go_num, HA1.out, HT1.out⟩
      case measure => simp [intOf]; omega
    · have hk4' : ¬ (k : Int) < 8 := by omega
      obtain rfl : k = 8 := by omega
      have k1 : wr.cell? ⟨b, 1, none⟩ = some (.map (some m2)) := HA.out.t_.cell 1
      obtain ⟨x, hx⟩ : ∃ x, x = (seek c sl).getD 0 := ⟨_, rfl⟩
      have HX := Lib.hid hx
      clear hx
      have HXY : Hid (numS.ev ((seek c sl).getD numS.z) = .int .i64 x) := Lib.hid (by rw [HX.out]; rfl)
      have hw : i64ok (wrap64 (x + 1)) := RowKit.wrap64_wf _
      go_wp2_with (first
        | (at_delete; refine wpList_mdrop numS rfl (.tmp 23) (.tmp 24) rfl rfl HA.out.v (k := c) hc rfl ?_; intro w1 hm1 hg1; have HA1 := Lib.hid (HA.out.grown2 hg1 hm1); have HT1 := Lib.hid (HT.out.grown hg1 (fun k hk => by cases hk; exact .inr (.inr (.inl rfl)))); have k2 : w1.cell? ⟨b, 2, none⟩ = some (.map (some m3)) := HA1.out.t_.cell 2; clear hm1 hg1 k0 k1)
        | (at_lookup; refine wpList_mlook numS rfl (.tmp 28) (.tmp 29) rfl rfl HA1.out.s (k := c) hc rfl ?_; rw [HXY.out])
        | (at_mapUpdate; refine wpList_mstore numS rfl (.tmp 28) (.tmp 29) (.tmp 31) rfl rfl HA1.out.s (by unfold maxLen; omega) (k := c) hc hw rfl rfl ?_; intro w2 hm2 hg2))
      go_ret
      refine ⟨rfl, ?_, HT1.out.grown hg2 (fun k hk => by cases hk; exact .inr (.inr (.inr rfl)))⟩
      rw [← rflush_end c HV.out, ← HX.out]
      exact HA1.out.grown3 hg2 hm2
end Go.Proofs.YthldfogmmjompaaDoor.lease
