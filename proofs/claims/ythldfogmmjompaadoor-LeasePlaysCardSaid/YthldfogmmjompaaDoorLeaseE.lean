/-
  Contracts of the walks of package lease: Flush.
-/
import Derived.Test.YthldfogmmjompaaDoorLeaseD2
import Derived.Deep.LoopGhost
namespace Go.Proofs.YthldfogmmjompaaDoor.lease
open Go.RowKit Go.Proofs.YthldfogmmjompaaDoor.heap Go.Proofs.YthldfogmmjompaaDoor.own Go.Proofs.YthldfogmmjompaaDoor.model Go.Proofs.YthldfogmmjompaaDoor.mapof

theorem Flush_no (p : Value) (c : Int) (w : World) (h : lease.isClient c = false) :
    Calls Tryd.prog 45 #[p, .int .i64 c] w fun e w' => e = .returned (.iface 22 (.int .i64 2)) ∧ w = w' := by
  have R := right_any c 0 w
  rw [h, Bool.false_and] at R
  go_enter Tryd.func45, Tryd.ntmps45
  go_wp2_with (go_at_call 62; refine R.mono ?_; rintro e w' ⟨rfl, rfl⟩)
  go_ret
  exact ⟨rfl, rfl⟩

/-- What a loop over the leases has left of them. -/
noncomputable def flushed (c : Nat) (left : Lit → Bool) (l : Pairs) : Pairs := l.filter fun e => !decide (e.1.1 = (c : Int)) || left (keyS.kl e.1)
theorem flushed_start {c : Nat} {left : Lit → Bool} {l : Pairs} (h : ∀ p ∈ l, left (keyS.kl p.1) = true) : flushed c left l = l :=
  List.filter_eq_self.2 fun p hp => by simp [h p hp]
theorem flushed_end {c : Nat} {left : Lit → Bool} {l : Pairs} (h : ∀ kl, left kl = false) : flushed c left l = l.filter (fun e => !decide (e.1.1 = (c : Int))) := by
  unfold flushed
  congr 1
  funext e
  simp [h]
theorem flushed_stays {c : Nat} {left : Lit → Bool} {l : Pairs} {k : Int × Int} (hok : ∀ p ∈ l, keyS.okK p.1) (hk : keyS.okK k) (hc : k.1 ≠ (c : Int)) : flushed c (fun z => left z && !z.sameKey (keyS.kl k)) l = flushed c left l := by
  unfold flushed
  refine List.filter_congr fun p hp => ?_
  by_cases hpc : p.1.1 = (c : Int)
  · have : p.1 ≠ k := fun e => hc (e ▸ hpc)
    have hs : (keyS.kl p.1).sameKey (keyS.kl k) = false := Maps.sameKey_ne fun e => this (keyS.kl_inj (hok p hp) hk e)
    simp [hpc, hs]
  · simp [hpc]
theorem flushed_struck {c : Nat} {left : Lit → Bool} {l : Pairs} {k : Int × Int} (hok : ∀ p ∈ l, keyS.okK p.1) (hk : keyS.okK k) (hc : k.1 = (c : Int)) : flushed c (fun z => left z && !z.sameKey (keyS.kl k)) l = del k (flushed c left l) := by
  unfold flushed
  rw [del_filter, List.filter_filter]
  refine List.filter_congr fun p hp => ?_
  by_cases hpk : p.1 = k
  · have hs : (keyS.kl p.1).sameKey (keyS.kl k) = true := by rw [hpk]; exact WideAt.sameKey_self (keyS.isKey hk)
    rw [hpk] at hs ⊢
    simp [hc, hs]
  · have hs : (keyS.kl p.1).sameKey (keyS.kl k) = false := Maps.sameKey_ne fun e => hpk (keyS.kl_inj (hok p hp) hk e)
    simp [hpk, hs]

theorem tcells_setses {m : Value} {vs ss : List Int} {c : Nat} (x : Int) (hv : vs.length = 4) : (tcells m vs ss).toArray.setIfInBounds (5 + c) (.int .i64 x) = (tcells m vs (ss.set c x)).toArray := by
  rw [show 5 + c = (4 + c) + 1 from by omega]
  simp only [tcells, List.setIfInBounds_toArray, List.set_cons_succ]
  rw [List.set_append_right _ _ (by simp; omega), List.length_map, hv, Nat.add_sub_cancel_left, List.map_set]

set_option maxHeartbeats 2000000 in
set_option maxRecDepth 100000 in
theorem Flush_yes (b m : Nat) (l : Pairs) (vs ss : List Int) (c : Nat) (w : World) (h : TabAt w b m l vs ss) (hc : c < 4) :
    Calls Tryd.prog 45 #[.pointer (some ⟨b, 0, none⟩), .int .i64 c] w fun e w' => e = .returned .nilIface ∧
      TabAt w' b m (l.filter (fun e => !decide (e.1.1 = (c : Int)))) (vs.set c 0) (ss.set c (wrap64 (ss.getD c 0 + 1))) ∧ Turn (fun k => k = b ∨ k = m) w w' := by
  have R := right_any c 0 w
  have e0 : (isClient c && isObject 0) = true := by simp [isClient, isObject]; omega
  rw [e0] at R
  have k0 := h.cell0
  have hok : ∀ p ∈ l, keyS.okK p.1 := fun p hp => (h.m_.ok p hp).1
  have HOK := Lib.hid hok
  have hbl := h.t_.lt
  have hml := h.m_.lt
  have HN := Lib.hid h.ne
  have HV := Lib.hid h.hv
  have HSS := Lib.hid h.hs
  have H := Lib.hid h
  clear h hok
  go_enter Tryd.func45, Tryd.ntmps45
  go_wp2_with (first
    | (go_at_call 62; refine R.mono ?_; rintro e w' ⟨rfl, rfl⟩)
    | (at_range; refine wpList_mrange keyS rfl (.tmp 13) rfl rfl H.out.m_ ?_; intro w0 left0 hov0 hl0 hg0 hs0))
  go_frame
  go_loopw [5] (fun _ wr => ∃ (left : Lit → Bool) (cnt : Nat), Over keyS wr m w.heap.size l.length (flushed c left l) left cnt ∧ Has wr b (.cells (tcells (.map (some m)) vs ss).toArray 129) ∧ Turn (fun k => k = b ∨ k = m) w wr ∧ w.heap.size < wr.heap.size)
    (fun _ wr => wr.rangeLeft m w.heap.size)
  case atStart => exact ⟨left0, _, by rw [flushed_start hl0]; exact hov0, H.out.t_.grown hg0 (by simp), (Turn.refl _ _).grown hg0 (by simp), by omega⟩
  case round =>
    clear hov0 hl0 hg0 hs0 k0
    obtain ⟨left, cnt, hov, hB, ht, hz⟩ := hrel
    have HB := Lib.hid hB
    have HOV0 := Lib.hid hov
    clear hB
    go_wp2_with (at_next; refine wpList_mnext keyS rfl (.tmp 14) rfl rfl hov ?_ ?_)
    · intro _ hl1
      have k1 : wr.cell? ⟨b, 1 + c, none⟩ = some (.int .i64 (vs.getD c 0)) := by rw [HB.out.cell, ← tcells_vol (m := .map (some m)) (ss := ss) (c := c) (by rw [HV.out]; omega)]; simp
      have f1 : wr.frozen? ⟨b, 1 + c, none⟩ = false := HB.out.frozen _
      have k2 : wr.cell? ⟨b, 5 + c, none⟩ = some (.int .i64 (ss.getD c 0)) := by rw [HB.out.cell, ← tcells_ses (m := .map (some m)) (vs := vs) (c := c) HV.out (by rw [HSS.out]; omega)]; simp
      have f2 : wr.frozen? ⟨b, 5 + c, none⟩ = false := HB.out.frozen _
      have hc4 : (c : Int) < 4 := by omega
      obtain ⟨y, hy⟩ : ∃ y, y = ss.getD c 0 := ⟨_, rfl⟩
      rw [← hy] at k2
      have HY := Lib.hid hy
      have HL := Lib.hid hl1
      clear hy hl1
      go_wp2
      go_region
      all_goals
        go_wp2
        go_ret
        refine ⟨rfl, ⟨?_, ?_, HN.out, by simp [HV.out], by simp [HSS.out]⟩, ?_⟩
        · rw [← tcells_setses _ (by simp [HV.out]), ← tcells_setvol _ (by rw [HV.out]; omega), ← HY.out]
          exact ((HB.out.set_ (1 + c) _).set_ (5 + c) _).drew
        · rw [← flushed_end HL.out]
          exact (((hov.at_).far (p := ⟨b, 1 + c, none⟩) HN.out _).far (p := ⟨b, 5 + c, none⟩) HN.out _).drew
        · exact ((ht.setCell (p := ⟨b, 1 + c, none⟩) (.inr (.inl rfl)) _).setCell (p := ⟨b, 5 + c, none⟩) (.inr (.inl rfl)) _).drew
    · intro c' o' u w1 cnt1 hk hu hsk hlk hov1 hlt hg1 hs1 hen
      have e1 : keyS.kv (c', o') = .agg #[.int .i64 c', .int .i64 o'] := rfl
      have e2 : keyS.ev u = .int .i64 u := rfl
      rw [e1, e2] at hen ⊢
      clear e1 e2
      have HE := Lib.hid hsk
      have HLK := Lib.hid hlk
      have HLT := Lib.hid hlt
      have HOV := Lib.hid hov1
      have hB1 := HB.out.grown hg1 (by simp; omega)
      have k1 : w1.cell? ⟨b, 0, none⟩ = some (.map (some m)) := by rw [hB1.cell]; simp [tcells]
      have HB1 := Lib.hid hB1
      have HT1 := Lib.hid (ht.grown hg1 (fun k hk => by cases hk; exact .inl (Nat.le_refl _)))
      have hz1 : w.heap.size < w1.heap.size := by omega
      have HS1 := Lib.hid hs1
      have hbl1 : b < w1.heap.size := by omega
      clear hsk hlk hlt hov1 hB1 hg1 hs1 hov ht
      by_cases hcc : c' = (c : Int)
      · have hd : ((c' : Int) == (c : Int)) = true := by simpa using hcc
        have HC := Lib.hid hcc
        clear hcc
        go_wp2
        have HS : Hid ((w1.alloc (.cells #[.int .i64 c', .int .i64 o'] 131)).drew.cell? ⟨b, 0, none⟩ = some (.map (some m)) ∧ (w1.alloc (.cells #[.int .i64 c', .int .i64 o'] 131)).drew.cell? ⟨w1.heap.size, 0, none⟩ = some (.int .i64 c') ∧ (w1.alloc (.cells #[.int .i64 c', .int .i64 o'] 131)).drew.cell? ⟨w1.heap.size, 1, none⟩ = some (.int .i64 o')) :=
          ⟨(World.cell?_alloc_lt _ _ _ hbl1).trans k1, (Has.new w1 _).cell 0, (Has.new w1 _).cell 1⟩
        refine last.wp_region_last (S := fun W => W.cell? ⟨b, 0, none⟩ = some (.map (some m)) ∧ W.cell? ⟨w1.heap.size, 0, none⟩ = some (.int .i64 c') ∧ W.cell? ⟨w1.heap.size, 1, none⟩ = some (.int .i64 o')) (L := 6) (by kernel_rfl) ?_
        refine last.wpAnyL_go 0 23 (.pointer (some ⟨b, 0, none⟩)) rfl rfl (by kernel_rfl) (by kernel_rfl) (by kernel_rfl) (by kernel_rfl) (fun _ _ _ h => h) HS.out (by rfl) (fun W hW => by obtain ⟨hW1, hW2, hW3⟩ := hW; go_simp) ?_
        simp only [List.setIfInBounds_toArray, List.set_cons_succ, List.set_cons_zero]
        refine last.wpAnyL_go 1 24 (.pointer (some ⟨b, 0, none⟩)) rfl rfl (by kernel_rfl) (by kernel_rfl) (by kernel_rfl) (by kernel_rfl) (fun _ _ _ h => h) HS.out (by rfl) (fun W hW => by obtain ⟨hW1, hW2, hW3⟩ := hW; go_simp) ?_
        simp only [List.setIfInBounds_toArray, List.set_cons_succ, List.set_cons_zero]
        refine last.wpAnyL_go 2 25 (.pointer (some ⟨b, 0, none⟩)) rfl rfl (by kernel_rfl) (by kernel_rfl) (by kernel_rfl) (by kernel_rfl) (fun _ _ _ h => h) HS.out (by rfl) (fun W hW => by obtain ⟨hW1, hW2, hW3⟩ := hW; go_simp) ?_
        simp only [List.setIfInBounds_toArray, List.set_cons_succ, List.set_cons_zero]
        refine last.wpAnyL_go 3 26 (.map (some m)) rfl rfl (by kernel_rfl) (by kernel_rfl) (by kernel_rfl) (by kernel_rfl) (fun _ _ _ h => h) HS.out (by rfl) (fun W hW => by obtain ⟨hW1, hW2, hW3⟩ := hW; go_simp) ?_
        simp only [List.setIfInBounds_toArray, List.set_cons_succ, List.set_cons_zero]
        refine last.wpAnyL_go 4 27 (.agg #[.int .i64 c', .int .i64 o']) rfl rfl (by kernel_rfl) (by kernel_rfl) (by kernel_rfl) (by kernel_rfl) (fun _ _ _ h => h) HS.out (by rfl) (fun W hW => by obtain ⟨hW1, hW2, hW3⟩ := hW; go_simp) ?_
        simp only [List.setIfInBounds_toArray, List.set_cons_succ, List.set_cons_zero]
        refine last.wpAnyL_one (i := 5) (by kernel_rfl) (by simp only [List.getElem?_toArray, List.getElem?_cons_succ, List.getElem?_cons_zero]; exact rfl) fun K hK => ?_
        refine (if_pos (by rfl)).mpr ?_
        refine wp_mdrop_over keyS (.tmp 26) (.tmp 27) rfl rfl (HOV.out.alloc _).drew (k := (c', o')) hk rfl ?_
        intro w2 cnt2 hov2 hle2 hg2 hs2
        simp only [Act.put]
        have HC3 : w2.cell? ⟨b, 0, none⟩ = some (.map (some m)) ∧ w2.cell? ⟨w1.heap.size, 0, none⟩ = some (.int .i64 c') ∧ w2.cell? ⟨w1.heap.size, 1, none⟩ = some (.int .i64 o') :=
          ⟨(World.cell?_of_block (hg2.block b (by simp; omega) (fun e => HN.out (Option.some.inj e).symm))).trans HS.out.1, (World.cell?_of_block (hg2.block w1.heap.size (by simp) (fun e => by have := Option.some.inj e; omega))).trans HS.out.2.1, (World.cell?_of_block (hg2.block w1.heap.size (by simp) (fun e => by have := Option.some.inj e; omega))).trans HS.out.2.2⟩
        refine hK.out _ _ (fun _ => HC3) ?_
        clear HC3
        refine last.wpAnyL_done (by kernel_rfl) ?_ _
        have HT2 := (((HT1.out.alloc (.cells #[.int .i64 c', .int .i64 o'] 131)).drew).grown hg2 (fun k hk => by cases hk; exact .inr (.inr rfl)))
        have HB2 := ((HB1.out.alloc (.cells #[.int .i64 c', .int .i64 o'] 131)).drew).grown hg2 (fun e => HN.out (Option.some.inj e).symm)
        have hz2 : w.heap.size < w2.heap.size := by rw [hs2]; simp; omega
        have hov3 : Over keyS w2 m w.heap.size l.length (flushed c (fun z => left z && !z.sameKey (keyS.kl (c', o'))) l) (fun z => left z && !z.sameKey (keyS.kl (c', o'))) cnt2 := by
          rw [flushed_struck HOK.out hk HC.out]
          rw [Maps.strike_twice] at hov2
          exact hov2
        have HOV3 := Lib.hid hov3
        have HTB := Lib.hid (And.intro HT2 HB2)
        have HLE := Lib.hid hle2
        clear hov2 hov3 HT2 HB2 hg2 hle2 hs2
        go_wp2
        go_roundw
        case rel => exact ⟨_, _, HOV3.out, HTB.out.2, HTB.out.1, hz2⟩
        case measure => rw [HOV3.out.left_eq, HOV0.out.left_eq]; exact Nat.lt_of_le_of_lt HLE.out HLT.out
      · have hd : ((c' : Int) == (c : Int)) = false := by simpa using hcc
        have HC := Lib.hid hcc
        clear hcc
        go_wp2
        go_roundw
        case rel => exact ⟨_, cnt1, by rw [flushed_stays HOK.out hk HC.out]; exact HOV.out.alloc _, HB1.out.alloc _, HT1.out.alloc _, by simp; omega⟩
        case measure => rw [(HOV.out.alloc _).left_eq, HOV0.out.left_eq]; exact HLT.out
end Go.Proofs.YthldfogmmjompaaDoor.lease
