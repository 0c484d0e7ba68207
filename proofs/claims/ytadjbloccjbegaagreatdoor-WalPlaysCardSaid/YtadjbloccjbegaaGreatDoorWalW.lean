/-
  The walk of the law WalPlays.
-/
import Derived.Test.YtadjbloccjbegaaGreatDoorWalV
import Derived.Test.YtadjbloccjbegaaGreatDoorFlat
import Derived.Test.YtadjbloccjbegaaGreatDoorRegionGo
import Derived.BigQuiet
import Derived.Deep.QuietTactic
import Derived.Deep.DeepCutAuto
import Derived.Deep.CutBlock
namespace Go.Proofs.YtadjbloccjbegaaGreatDoor.wal
open Go.RowKit Go.Proofs.YtadjbloccjbegaaGreatDoor.heap Go.Proofs.YtadjbloccjbegaaGreatDoor.own Go.Proofs.YtadjbloccjbegaaGreatDoor.recs Go.Proofs.YtadjbloccjbegaaGreatDoor.errs Go.Proofs.YtadjbloccjbegaaGreatDoor.law
open Go.Proofs.YtadjbloccjbegaaGreatDoor.model (Rec Disk)

/-- What stands at the head of a round of the law's loops. -/
def WDone (P : Lib.PrintTabs) (w0 wr : World) (wb db : Nat) (va : Value) (d : Disk) (down : Bool) : Prop :=
  ∃ own v ps, WC P own w0 wr wb db v ps d down ∧ AllAt own w0.heap.size wr va d.recs

def fillRec (k : Nat) : Rec := ⟨0, k, (k : Int) % 8, 0, [120], 0⟩
theorem fill_right (k : Nat) (h : k ≤ 200) : (fillRec k).right = true := by
  have h1 : (fillRec k).object = (k : Int) % 8 := rfl
  unfold Rec.right
  rw [h1, if_neg (by omega)]
  simp [fillRec, wire.okN, model.inR]
  omega

theorem fill_cells (k : Nat) {W : World} : ∀ (j : Nat) (x : Value), (recRow (fillRec k))[j]? = some x → (W.alloc (.cells #[.int .i64 0, .int .i64 k, .int .i64 ((k : Int) % 8), .int .i64 0, .string ⟨#[120]⟩, .int .i64 0] 39)).cell? ((⟨W.heap.size, 0, none⟩ : Addr).add j) = some x := by
  intro j x hj
  have h := (Has.new W (.cells #[.int .i64 0, .int .i64 k, .int .i64 ((k : Int) % 8), .int .i64 0, .string ⟨#[120]⟩, .int .i64 0] 39)).cell j
  have e : (⟨W.heap.size, 0, none⟩ : Addr).add j = ⟨W.heap.size, j, none⟩ := by by_cases h0 : j = 0 <;> simp [Addr.add, h0]
  rw [e]
  refine h.trans ?_
  rw [← hj]
  simp [recRow, fillRec]

theorem rr_cells (r : Rec) {W : World} : ∀ (j : Nat) (x : Value), (recRow r)[j]? = some x → (W.alloc (.cells #[.int .i64 r.client, .int .i64 r.number, .int .i64 r.object, .int .i64 r.version, .string ⟨r.data.toArray⟩, .int .i64 r.epoch] 39)).cell? ((⟨W.heap.size, 0, none⟩ : Addr).add j) = some x := by
  intro j x hj
  have h := (Has.new W (.cells #[.int .i64 r.client, .int .i64 r.number, .int .i64 r.object, .int .i64 r.version, .string ⟨r.data.toArray⟩, .int .i64 r.epoch] 39)).cell j
  have e : (⟨W.heap.size, 0, none⟩ : Addr).add j = ⟨W.heap.size, j, none⟩ := by by_cases h0 : j = 0 <;> simp [Addr.add, h0]
  rw [e]
  refine h.trans ?_
  rw [← hj]
  simp [recRow]
theorem slice_of {w : World} {base : Nat} {e : TypeId} {size : Nat} {v : Value} {n : Nat} {xs : List Value} (h : w.ownsRow base e size v n xs) : ∃ a c, v = .slice a n c := by
  rcases h.2 with ⟨rfl, rfl⟩ | ⟨g, cap, cur, rfl, -⟩
  · exact ⟨none, 0, rfl⟩
  · exact ⟨_, cap, rfl⟩

/-- What the comparison of a record with the reference's reads. -/
structure ES (g5 g6 j : Nat) (x : Rec) (W : World) : Prop where
  b5 : g5 < W.heap.size
  b6 : g6 < W.heap.size
  a : ∀ (i : Nat) u, (recRow x)[i]? = some u → W.cell? ⟨g5, j * 6 + i, none⟩ = some u
  b : ∀ (i : Nat) u, (recRow x)[i]? = some u → W.cell? ⟨g6, j * 6 + i, none⟩ = some u
theorem ES.below {g5 g6 j : Nat} {x : Rec} {W W' : World} (h : ES g5 g6 j x W) (hb : Below W.heap.size W W') : ES g5 g6 j x W' :=
  ⟨Nat.lt_of_lt_of_le h.b5 hb.size, Nat.lt_of_lt_of_le h.b6 hb.size, fun i u hi => (hb.cell (p := ⟨g5, j * 6 + i, none⟩) h.b5).trans (h.a i u hi), fun i u hi => (hb.cell (p := ⟨g6, j * 6 + i, none⟩) h.b6).trans (h.b i u hi)⟩
theorem ES.drew {g5 g6 j : Nat} {x : Rec} {W : World} (h : ES g5 g6 j x W) : ES g5 g6 j x W.drew := ⟨h.b5, h.b6, h.a, h.b⟩
theorem owns_elem {w : World} {base c : Nat} {e : TypeId} {a : Option Addr} {l : List Rec} {k : Nat} {x : Rec} (h : w.ownsRow base e 6 (.slice a l.length c) l.length (recCs l)) (hk : l[k]? = some x) :
    ∃ g, a = some ⟨g, 0, none⟩ ∧ g < w.heap.size ∧ ∀ (i : Nat) u, (recRow x)[i]? = some u → w.cell? ⟨g, k * 6 + i, none⟩ = some u := by
  have hr : Row (fun _ => 0) 0 w e 6 (.slice a l.length c) l.length (l.flatMap recRow) := ⟨owns_base h (Nat.zero_le _), fun _ _ => rfl⟩
  obtain ⟨g, cap, he, -, hg, -, -, hc⟩ := Row.elem (f := recRow) (size := 6) (fun _ => rfl) hr hk
  injection he with e1
  exact ⟨g, e1, hg, fun i u hi => (hc i u hi).1⟩

set_option maxHeartbeats 8000000 in
set_option maxRecDepth 100000 in
theorem walkW (P : Lib.PrintTabs) (a : Option Addr) (n cap : Nat) (fill : Int) (us : List (List Value)) (w : World) (hst : ListAt IsPu w 9 a n us) (hn : n ≤ 9223372036854775807) (hg : Handle w) (hK : Kit P w) :
    Calls Tryz.prog 3 #[.slice a n cap, .int .i64 fill] w fun e w' => e = .returned (.bool true) ∧ Below w.heap.size w w' := by
  by_cases h100 : 100 < n
  · go_enter Tryz.func3, Tryz.ntmps3
    go_wp2_with fail
    go_ret
    exact ⟨rfl, Below.refl _ _⟩
  · obtain ⟨i0, hi0, hz0, hz1, hz2⟩ := info_parts infoRR
    have HI := Lib.hid (And.intro hi0 (And.intro hz0 (And.intro hz1 hz2)))
    have HST := Lib.hid hst
    have HG := Lib.hid hg
    have HK := Lib.hid hK
    clear hst hg hK hi0 hz0 hz1 hz2
    go_enter Tryz.func3, Tryz.ntmps3
    go_wp2_with fail
    obtain ⟨own, hown⟩ : ∃ own : Nat → Nat, own = fun k => if k = w.heap.size then 1 else 0 := ⟨_, rfl⟩
    have hod : own w.heap.size = 1 := by rw [hown]; simp
    have hol : ∀ k, own k ≠ 2 := fun k => by rw [hown]; dsimp only; split <;> decide
    have hol9 : ∀ k, own k ≠ 9 := fun k => by rw [hown]; dsimp only; split <;> decide
    obtain ⟨W0, hW0⟩ : ∃ W0, W0 = w.alloc (.cells Tryz.zeroCells26 26) := ⟨_, rfl⟩
    rw [← hW0]
    have hs0 : W0.heap.size = w.heap.size + 1 := by rw [hW0]; simp
    have hb0 : Below w.heap.size w W0 := by rw [hW0]; exact (Below.refl _ _).alloc (Nat.le_refl _) _
    have hd0 : DiskAt W0 w.heap.size (List.replicate 200 ⟨#[]⟩) false 0 := ⟨by rw [hW0]; exact Has.new w _, by simp⟩
    refine (Open_any P own 2 w.heap.size W0 w.heap.size _ false 0 [] ⟨w, rfl, HK.out, hb0⟩ hd0 (Places.new P) (by rw [hod]; decide) (fun g hg => absurd hg (hol g))).mono ?_
    rintro e W1 ⟨own1, wb, v, rfl, hext, ht, hw, -⟩
    have HC1 : Hid (WC P own1 w W1 wb w.heap.size v (List.replicate 200 ⟨#[]⟩) ⟨[], false, 0⟩ false) := Lib.hid (by
      have hb1 : Below w.heap.size w W1 := hb0.trans (ht.to_below (by omega) fun k hk hS => absurd hS (hol k))
      exact ⟨HK.out, HG.out.below hb1, hw, hd0.turn ht (hol _), Places.new P, by rw [hext _ (by omega)]; exact hod, Nat.le_refl _, hb1⟩)
    have HA1 : Hid (AllAt own1 w.heap.size W1 (.slice none 0 0) []) := Lib.hid ⟨Row.nil _ _ _ _ _, fun g hg => by
      rcases Nat.lt_or_ge g W0.heap.size with hg' | hg'
      · rw [hext g hg'] at hg; exact absurd hg (hol9 g)
      · omega⟩
    have HD0 : Hid (WDone P w W1 wb w.heap.size (.slice none 0 0) ⟨[], false, 0⟩ false) := Lib.hid ⟨own1, v, _, HC1.out, HA1.out⟩
    have HG1 := Lib.hid HC1.out.hdl
    clear hext ht hw hd0 hb0 hol hol9 hod hown HC1 HA1
    go_wp2_with fail
    refine (Open_none W1).mono ?_
    rintro e W1' ⟨rfl, rfl⟩
    go_wp2_with (go_at_call 5; refine (bare_any 7 7 _ HG1.out).mono ?_; rintro e W2 ⟨he, hb2⟩; rw [beq_self_eq_true] at he; subst he)
    have HD1 : Hid (WDone P w W2 wb w.heap.size (.slice none 0 0) ⟨[], false, 0⟩ false) := Lib.hid (by
      obtain ⟨o, v, ps, h1, h2⟩ := HD0.out
      exact ⟨o, v, ps, h1.below hb2, h2.below hb2⟩)
    obtain ⟨M, hM, hM2⟩ : ∃ M : Nat, IntKind.i64.wrap ((IntKind.u64.wrap fill).tmod 201) = M ∧ M ≤ 200 := by
      have h1 : IntKind.u64.wrap fill = fill % 18446744073709551616 := rfl
      have h2 := Int.emod_nonneg fill (b := 18446744073709551616) (by decide)
      rw [h1]
      have h3 : (fill % 18446744073709551616).tmod 201 = fill % 18446744073709551616 % 201 := Int.tmod_eq_emod_of_nonneg h2
      rw [h3]
      have h4 := Int.emod_nonneg (fill % 18446744073709551616) (b := 201) (by decide)
      have h5 := Int.emod_lt_of_pos (fill % 18446744073709551616) (b := 201) (by decide)
      refine ⟨(fill % 18446744073709551616 % 201).toNat, ?_, by omega⟩
      have h6 : IntKind.i64.wrap (fill % 18446744073709551616 % 201) = fill % 18446744073709551616 % 201 := IntWalk.i64_in _ (by omega)
      rw [h6]; omega
    clear HD0 HG1 hb2
    go_loopw [14, 10] (fun q14 q10 wr => ∃ (k : Nat) (left : Int), k ≤ M ∧ q14 = .int .i64 k ∧ WDone P w wr wb w.heap.size q10 ⟨(List.range k).map fillRec, false, left⟩ false) (fun q14 _ _ => M - (intOf q14).toNat)
    case atStart => exact ⟨0, 0, by omega, rfl, HD1.out⟩
    case round =>
      obtain ⟨k, left, hk, rfl, hd⟩ := hrel
      have HD := Lib.hid hd
      clear hd
      by_cases hkM : k < M
      · have d0 : decide ((k : Int) < (M : Int)) = true := decide_eq_true (by omega)
        go_wp2_with fail
        obtain ⟨own, v, ps, hc, ha⟩ := HD.out
        have hr := fill_right k (by omega)
        have hl : (List.range k).length < 200 := by rw [List.length_range]; omega
        refine (Add_up P own 2 w.heap.size wr wb w.heap.size v ps ⟨(List.range k).map fillRec, false, left⟩ (fillRec k) (by simp [fillRec]) (-1) hc.kit hc.wal hc.dsk hc.pls (by rw [hc.odb]; decide) hc.ne).mono ?_
        rw [add_ok hr (by rw [List.length_map]; exact hl) (by simp)]
        intro e W3 hp
        obtain ⟨he, own1, v1, ps1, hc1, ha1⟩ := hc.add HG.out ha hp
        have he' : e = .returned .nilIface := he
        subst he'
        have HC1 := Lib.hid hc1
        have HA1 := Lib.hid ha1
        clear hc ha hp hc1 ha1 hr HD he
        have HRW : Hid ((W3.alloc (.cells #[.int .i64 0, .int .i64 k, .int .i64 ((k : Int) % 8), .int .i64 0, .string ⟨#[120]⟩, .int .i64 0] 39)).ownsRow 0 39 6 u10 ((List.range k).map fillRec).length (recCs ((List.range k).map fillRec))) := Lib.hid (HA1.out.row.1.alloc _)
        go_wp2_with (at_builtin; refine wpList_append_lies _ rfl (.tmp 65) (.tmp 70) 34 rfl 0 39 i0 _ 6 56 Tryz.underlying34 HI.out.1 HI.out.2.1 HI.out.2.2.1 HI.out.2.2.2 rfl (by decide) u10 ((List.range k).map fillRec).length (recCs ((List.range k).map fillRec)) rfl HRW.out ⟨W3.heap.size, 0, none⟩ 1 1 (recRow (fillRec k)) rfl rfl ?c1 (recRow_one _) (by decide) ?c3 ?c4 (Nat.zero_le _) (W3.heap.size + 1) (World.size_alloc _ _) ?_)
        case c1 => exact fill_cells k
        case c3 => rw [List.length_map]; unfold maxLen; omega
        case c4 => rw [List.length_map]; omega
        intro g cap' w4 hrow hgr hgl hglt
        have hlk : ((List.range k).map fillRec).length = k := by rw [List.length_map, List.length_range]
        obtain ⟨own2, hc2, ha2⟩ := HC1.out.appended HG.out HA1.out (r := fillRec k) (v' := .slice (some ⟨g, 0, none⟩) (k + 1) cap') (by rw [hlk]; exact hrow) hgr (fun g' hg' => by
          obtain rfl : g = g' := by simpa [Value.ownBlock] using hg'
          exact hgl.imp (fun h => h) (fun h => by omega))
        have HD2 : Hid (WDone P w w4 wb w.heap.size (.slice (some ⟨g, 0, none⟩) (k + 1) cap') ⟨(List.range (k + 1)).map fillRec, false, wrap64 (left - 1)⟩ false) := Lib.hid ⟨own2, v1, ps1, by
          rw [List.range_succ, List.map_append]
          exact ⟨hc2, ha2⟩⟩
        clear hc2 ha2 hrow hgr hgl hglt HRW HC1 HA1 hlk
        go_wp2_with fail
        go_roundw
        case rel => exact ⟨k + 1, wrap64 (left - 1), by omega, by go_num, HD2.out⟩
        case measure => simp [intOf]; omega
      · have d0 : decide ((k : Int) < (M : Int)) = false := decide_eq_false (by omega)
        obtain ⟨D, hD⟩ : ∃ D : Disk, D = ⟨(List.range k).map fillRec, false, left⟩ := ⟨_, rfl⟩
        have HDD : Hid (WDone P w wr wb w.heap.size u10 D false) := Lib.hid (by rw [hD]; exact HD.out)
        have hcut : D.cut = false := by rw [hD]
        have hcut' := Lib.hid hcut
        clear hD HD hcut
        go_wp2_with fail
        clear hkM hk d0
        go_loopg [15, 6, 7, 10, 11, 12, 13, 16, 17, 18, 19, 20] n (fun g q15 q6 _ q10 q11 q12 q13 _ _ _ _ _ wr => ∃ (k : Nat) (wb1 : Nat) (d1 : Disk) (down : Bool) (left : Int), k + g = n ∧ q15 = .int .i64 k ∧ q6 = .pointer (some ⟨wb1, 0, none⟩) ∧ q11 = .bool d1.cut ∧ q12 = .int .i64 left ∧ q13 = .bool down ∧ (d1.cut = true → left = d1.left) ∧ WDone P w wr wb1 w.heap.size q10 d1 down)
        case atStart => exact ⟨0, wb, D, false, 0, by omega, rfl, rfl, by rw [hcut'.out], rfl, rfl, (fun h => by rw [hcut'.out] at h; cases h), HDD.out⟩
        case round =>
          obtain ⟨k, wb1, d1, down, lf, hkg, rfl, rfl, rfl, rfl, rfl, hleft, hD⟩ := hrel
          have HD := Lib.hid hD
          have HLF := Lib.hid hleft
          clear hD hleft
          by_cases hk : k < n
          · obtain ⟨x, hx⟩ : ∃ x, us[k]? = some x := ⟨_, List.getElem?_eq_getElem (by rw [HST.out.len]; exact hk)⟩
            obtain ⟨b, o, rfl, hbl, hcell⟩ := HST.out.cells (by omega)
            obtain ⟨⟨⟨what, N, torn, r⟩, rfl, hsz⟩, -⟩ := HST.out.each x (List.mem_of_getElem? hx)
            have hbw : Below w.heap.size w wr := by
              obtain ⟨_, _, _, h, _⟩ := HD.out
              exact h.bel
            have q : ∀ j u, (Pu.cells ⟨what, N, torn, r⟩)[j]? = some u → wr.cell? ⟨b, o + k * 9 + j, none⟩ = some u := fun j u hj => (hbw.cell (p := ⟨b, o + k * 9 + j, none⟩) hbl).trans (hcell k _ hx j u hj)
            have q0 : wr.cell? ⟨b, o + k * 9, none⟩ = some (.int .i64 what) := q 0 _ rfl
            have q1 : wr.cell? ⟨b, o + k * 9 + 1, none⟩ = some (.int .i64 N) := q 1 _ rfl
            have q2 : wr.cell? ⟨b, o + k * 9 + 2, none⟩ = some (.int .i64 torn) := q 2 _ rfl
            have q3 : wr.cell? ⟨b, o + k * 9 + 3, none⟩ = some (.int .i64 r.client) := q 3 _ rfl
            have q4 : wr.cell? ⟨b, o + k * 9 + 4, none⟩ = some (.int .i64 r.number) := q 4 _ rfl
            have q5 : wr.cell? ⟨b, o + k * 9 + 5, none⟩ = some (.int .i64 r.object) := q 5 _ rfl
            have q6 : wr.cell? ⟨b, o + k * 9 + 6, none⟩ = some (.int .i64 r.version) := q 6 _ rfl
            have q7 : wr.cell? ⟨b, o + k * 9 + 7, none⟩ = some (.string ⟨r.data.toArray⟩) := q 7 _ rfl
            have q8 : wr.cell? ⟨b, o + k * 9 + 8, none⟩ = some (.int .i64 r.epoch) := q 8 _ rfl
            have hbl2 : b < wr.heap.size := Nat.lt_of_lt_of_le hbl hbw.size
            clear hx hcell q hbw
            by_cases hlong : 100 < r.data.length
            · have d0 : decide ((100 : Int) < (r.data.length : Int)) = true := decide_eq_true (by omega)
              have HS : Hid (r.data.toArray.size = r.data.length) := Lib.hid (by simp)
              go_wp2_with fail
              go_roundg (gk - 1)
              case measure => omega
              case rel =>
                obtain ⟨own, v, ps, hc, ha⟩ := HD.out
                have hbx : Below wr.heap.size wr (wr.alloc (.cells #[.int .i64 what, .int .i64 N, .int .i64 torn, .int .i64 r.client, .int .i64 r.number, .int .i64 r.object, .int .i64 r.version, .string ⟨r.data.toArray⟩, .int .i64 r.epoch] 41)) := (Below.refl _ _).alloc (Nat.le_refl _) _
                exact ⟨k + 1, wb1, d1, down, lf, by omega, by go_num, rfl, rfl, rfl, rfl, HLF.out, own, v, ps, hc.below hbx, ha.below hbx⟩
            · have d0 : decide ((100 : Int) < (r.data.length : Int)) = false := decide_eq_false (by omega)
              go_upto_block 4 with fail
              obtain ⟨W1, hW1⟩ : ∃ W1, W1 = wr.alloc (.cells #[.int .i64 what, .int .i64 N, .int .i64 torn, .int .i64 r.client, .int .i64 r.number, .int .i64 r.object, .int .i64 r.version, .string ⟨r.data.toArray⟩, .int .i64 r.epoch] 41) := ⟨_, rfl⟩
              rw [← hW1]
              have hbw1 : Below wr.heap.size wr W1 := by rw [hW1]; exact (Below.refl _ _).alloc (Nat.le_refl _) _
              have HX1 : Hid (Has W1 wr.heap.size (.cells #[.int .i64 what, .int .i64 N, .int .i64 torn, .int .i64 r.client, .int .i64 r.number, .int .i64 r.object, .int .i64 r.version, .string ⟨r.data.toArray⟩, .int .i64 r.epoch] 41)) := Lib.hid (by rw [hW1]; exact Has.new _ _)
              have HD1 : Hid (WDone P w W1 wb1 w.heap.size u10 d1 down) := Lib.hid (by
                obtain ⟨own, v, ps, hc, ha⟩ := HD.out
                exact ⟨own, v, ps, hc.below hbw1, ha.below hbw1⟩)
              have x0 : W1.cell? ⟨wr.heap.size, 0, none⟩ = some (.int .i64 what) := HX1.out.cell 0
              have x1 : W1.cell? ⟨wr.heap.size, 1, none⟩ = some (.int .i64 N) := HX1.out.cell 1
              have x2 : W1.cell? ⟨wr.heap.size, 2, none⟩ = some (.int .i64 torn) := HX1.out.cell 2
              have x3 : W1.cell? ⟨wr.heap.size, 3, none⟩ = some (.int .i64 r.client) := HX1.out.cell 3
              have x4 : W1.cell? ⟨wr.heap.size, 4, none⟩ = some (.int .i64 r.number) := HX1.out.cell 4
              have x5 : W1.cell? ⟨wr.heap.size, 5, none⟩ = some (.int .i64 r.object) := HX1.out.cell 5
              have x6 : W1.cell? ⟨wr.heap.size, 6, none⟩ = some (.int .i64 r.version) := HX1.out.cell 6
              have x7 : W1.cell? ⟨wr.heap.size, 7, none⟩ = some (.string ⟨r.data.toArray⟩) := HX1.out.cell 7
              have x8 : W1.cell? ⟨wr.heap.size, 8, none⟩ = some (.int .i64 r.epoch) := HX1.out.cell 8
              have hlw : w.heap.size < wr.heap.size := by
                obtain ⟨own, v, ps, hc, ha⟩ := HD.out
                exact hc.dsk.lt
              have hsz2 : r.data.length < 4611686018427387904 := by unfold maxLen at hsz; omega
              have HUB : Hid (∀ g, u10.ownBlock = some g → g < wr.heap.size) := Lib.hid (by
                obtain ⟨own, v, ps, hc, ha⟩ := HD.out
                exact ha.row.lt)
              clear hW1 hbw1 q0 q1 q2 q3 q4 q5 q6 q7 q8 HD d0
              go_cut [6, 10, 11, 12, 13] (fun p6 p10 p11 p12 p13 wx => ∃ (wb2 : Nat) (d2 : Disk) (down2 : Bool) (left2 : Int), p6 = .pointer (some ⟨wb2, 0, none⟩) ∧ p11 = .bool d2.cut ∧ p12 = .int .i64 left2 ∧ p13 = .bool down2 ∧ (d2.cut = true → left2 = d2.left) ∧ WDone P w wx wb2 w.heap.size p10 d2 down2)
              case first =>
                by_cases w0 : what = 0
                · have wb0 : (what == 0) = true := by simpa using w0
                  clear w0
                  cases down with
                  | true =>
                    as_aux_lemma =>
                      obtain ⟨own, v, ps, hc, ha⟩ := HD1.out
                      go_wp2_with fail
                      refine (Add_down P own 2 w.heap.size W1 wb1 w.heap.size v ps d1 r torn hc.wal hc.dsk hc.pls).mono ?_
                      rw [show d1.add true r = (6, d1, true) from rfl]
                      intro e W6 hp
                      obtain ⟨he, own6, v6, ps6, hc6, ha6⟩ := hc.add HG.out ha hp
                      have he' : e = .returned (errV 6) := he
                      subst he'
                      have HC6 := Lib.hid hc6
                      have HA6 := Lib.hid ha6
                      have HH6 := Lib.hid hc6.hdl
                      clear hc6 ha6 hp he
                      go_wp2_with (go_at_call 5; refine (bare_any 6 6 _ HH6.out).mono ?_; rintro e W7 ⟨he, hb7⟩; rw [beq_self_eq_true] at he; subst he)
                      go_meet
                      case rel => exact ⟨wb1, d1, true, _, rfl, rfl, rfl, rfl, HLF.out, own6, v6, ps6, HC6.out.below hb7, HA6.out.below hb7⟩
                  | false =>
                    cases hright : r.right with
                    | false =>
                      as_aux_lemma =>
                        obtain ⟨own, v, ps, hc, ha⟩ := HD1.out
                        go_wp2_with (first | (go_at_call 8; refine (recorded_any r _).mono ?_; rintro e W2 ⟨rfl, hb2⟩) | (go_at_call 7; refine (May_any r hsz2 _).mono ?_; rw [hright]; rintro e W3 ⟨rfl, hb3⟩; have hbb := hb2.trans (hb3.mono hb2.size); have HX3 := HX1.out.below hbb HX1.out.lt; have hc3 := hc.below hbb; have ha3 := ha.below hbb; have z0 : W3.cell? ⟨wr.heap.size, 0, none⟩ = some (.int .i64 what) := HX3.cell 0; have z1 : W3.cell? ⟨wr.heap.size, 1, none⟩ = some (.int .i64 N) := HX3.cell 1; have z2 : W3.cell? ⟨wr.heap.size, 2, none⟩ = some (.int .i64 torn) := HX3.cell 2; have z3 : W3.cell? ⟨wr.heap.size, 3, none⟩ = some (.int .i64 r.client) := HX3.cell 3; have z4 : W3.cell? ⟨wr.heap.size, 4, none⟩ = some (.int .i64 r.number) := HX3.cell 4; have z5 : W3.cell? ⟨wr.heap.size, 5, none⟩ = some (.int .i64 r.object) := HX3.cell 5; have z6 : W3.cell? ⟨wr.heap.size, 6, none⟩ = some (.int .i64 r.version) := HX3.cell 6; have z7 : W3.cell? ⟨wr.heap.size, 7, none⟩ = some (.string ⟨r.data.toArray⟩) := HX3.cell 7; have z8 : W3.cell? ⟨wr.heap.size, 8, none⟩ = some (.int .i64 r.epoch) := HX3.cell 8))
                        refine (Add_up P own 2 w.heap.size W3 wb1 w.heap.size v ps d1 r (by omega) torn hc3.kit hc3.wal hc3.dsk hc3.pls (by rw [hc3.odb]; decide) hc3.ne).mono ?_
                        rw [add_bad hright]
                        intro e W6 hp
                        obtain ⟨he, own6, v6, ps6, hc6, ha6⟩ := hc3.add HG.out ha3 hp
                        have he' : e = .returned (errV 1) := he
                        subst he'
                        have HC6 := Lib.hid hc6
                        have HA6 := Lib.hid ha6
                        have HH6 := Lib.hid hc6.hdl
                        clear hc6 ha6 hp he
                        go_wp2_with (go_at_call 5; refine (bare_any 1 1 _ HH6.out).mono ?_; rintro e W7 ⟨he, hb7⟩; rw [beq_self_eq_true] at he; subst he)
                        go_meet
                        case rel => exact ⟨wb1, d1, false, _, rfl, rfl, rfl, rfl, HLF.out, own6, v6, ps6, HC6.out.below hb7, HA6.out.below hb7⟩
                    | true =>
                      obtain ⟨own, v, ps, hc, ha⟩ := HD1.out
                      obtain ⟨aa, cc, rfl⟩ := slice_of ha.row.1
                      obtain ⟨recs, cut, left⟩ := d1
                      dsimp only at hc ha HLF HUB ⊢
                      by_cases hfull : 200 ≤ recs.length
                      · have dF : decide ((200 : Int) ≤ (recs.length : Int)) = true := decide_eq_true (by omega)
                        as_aux_lemma =>
                          go_wp2_with (first | (go_at_call 8; refine (recorded_any r _).mono ?_; rintro e W2 ⟨rfl, hb2⟩) | (go_at_call 7; refine (May_any r hsz2 _).mono ?_; rw [hright]; rintro e W3 ⟨rfl, hb3⟩; have hbb := hb2.trans (hb3.mono hb2.size); have HX3 := HX1.out.below hbb HX1.out.lt; have hc3 := hc.below hbb; have ha3 := ha.below hbb; have z0 : W3.cell? ⟨wr.heap.size, 0, none⟩ = some (.int .i64 what) := HX3.cell 0; have z1 : W3.cell? ⟨wr.heap.size, 1, none⟩ = some (.int .i64 N) := HX3.cell 1; have z2 : W3.cell? ⟨wr.heap.size, 2, none⟩ = some (.int .i64 torn) := HX3.cell 2; have z3 : W3.cell? ⟨wr.heap.size, 3, none⟩ = some (.int .i64 r.client) := HX3.cell 3; have z4 : W3.cell? ⟨wr.heap.size, 4, none⟩ = some (.int .i64 r.number) := HX3.cell 4; have z5 : W3.cell? ⟨wr.heap.size, 5, none⟩ = some (.int .i64 r.object) := HX3.cell 5; have z6 : W3.cell? ⟨wr.heap.size, 6, none⟩ = some (.int .i64 r.version) := HX3.cell 6; have z7 : W3.cell? ⟨wr.heap.size, 7, none⟩ = some (.string ⟨r.data.toArray⟩) := HX3.cell 7; have z8 : W3.cell? ⟨wr.heap.size, 8, none⟩ = some (.int .i64 r.epoch) := HX3.cell 8))
                          refine (Add_up P own 2 w.heap.size W3 wb1 w.heap.size v ps ⟨recs, cut, left⟩ r (by omega) torn hc3.kit hc3.wal hc3.dsk hc3.pls (by rw [hc3.odb]; decide) hc3.ne).mono ?_
                          rw [add_full hright hfull]
                          intro e W6 hp
                          obtain ⟨he, own6, v6, ps6, hc6, ha6⟩ := hc3.add HG.out ha3 hp
                          have he' : e = .returned (errV 12) := he
                          subst he'
                          have HC6 := Lib.hid hc6
                          have HA6 := Lib.hid ha6
                          have HH6 := Lib.hid hc6.hdl
                          clear hc6 ha6 hp he
                          go_wp2_with (go_at_call 5; refine (bare_any 12 12 _ HH6.out).mono ?_; rintro e W7 ⟨he, hb7⟩; rw [beq_self_eq_true] at he; subst he)
                          go_meet
                          case rel => exact ⟨wb1, ⟨recs, cut, left⟩, false, _, rfl, rfl, rfl, rfl, HLF.out, own6, v6, ps6, HC6.out.below hb7, HA6.out.below hb7⟩
                      · have dF : decide ((200 : Int) ≤ (recs.length : Int)) = false := decide_eq_false (by omega)
                        cases cut with
                        | true =>
                          obtain rfl : lf = left := HLF.out rfl
                          by_cases hz : lf = 0
                          · subst hz
                            as_aux_lemma =>
                              go_wp2_with (first | (go_at_call 8; refine (recorded_any r _).mono ?_; rintro e W2 ⟨rfl, hb2⟩) | (go_at_call 7; refine (May_any r hsz2 _).mono ?_; rw [hright]; rintro e W3 ⟨rfl, hb3⟩; have hbb := hb2.trans (hb3.mono hb2.size); have HX3 := HX1.out.below hbb HX1.out.lt; have hc3 := hc.below hbb; have ha3 := ha.below hbb; have z0 : W3.cell? ⟨wr.heap.size, 0, none⟩ = some (.int .i64 what) := HX3.cell 0; have z1 : W3.cell? ⟨wr.heap.size, 1, none⟩ = some (.int .i64 N) := HX3.cell 1; have z2 : W3.cell? ⟨wr.heap.size, 2, none⟩ = some (.int .i64 torn) := HX3.cell 2; have z3 : W3.cell? ⟨wr.heap.size, 3, none⟩ = some (.int .i64 r.client) := HX3.cell 3; have z4 : W3.cell? ⟨wr.heap.size, 4, none⟩ = some (.int .i64 r.number) := HX3.cell 4; have z5 : W3.cell? ⟨wr.heap.size, 5, none⟩ = some (.int .i64 r.object) := HX3.cell 5; have z6 : W3.cell? ⟨wr.heap.size, 6, none⟩ = some (.int .i64 r.version) := HX3.cell 6; have z7 : W3.cell? ⟨wr.heap.size, 7, none⟩ = some (.string ⟨r.data.toArray⟩) := HX3.cell 7; have z8 : W3.cell? ⟨wr.heap.size, 8, none⟩ = some (.int .i64 r.epoch) := HX3.cell 8))
                              refine (Add_up P own 2 w.heap.size W3 wb1 w.heap.size v ps ⟨recs, true, 0⟩ r (by omega) torn hc3.kit hc3.wal hc3.dsk hc3.pls (by rw [hc3.odb]; decide) hc3.ne).mono ?_
                              rw [add_dev hright (by dsimp only; omega) ⟨rfl, rfl⟩]
                              intro e W6 hp
                              obtain ⟨he, own6, v6, ps6, hc6, ha6⟩ := hc3.add HG.out ha3 hp
                              have he' : e = .returned (errV 14) := he
                              subst he'
                              have HC6 := Lib.hid hc6
                              have HA6 := Lib.hid ha6
                              have HH6 := Lib.hid hc6.hdl
                              clear hc6 ha6 hp he
                              go_wp2_with (go_at_call 5; refine (bare_any 14 14 _ HH6.out).mono ?_; rintro e W7 ⟨he, hb7⟩; rw [beq_self_eq_true] at he; subst he)
                              go_meet
                              case rel => exact ⟨wb1, ⟨recs, true, 0⟩, true, _, rfl, rfl, rfl, rfl, fun _ => rfl, own6, v6, ps6, HC6.out.below hb7, HA6.out.below hb7⟩
                          · have dz : (lf == 0) = false := by simpa using hz
                            as_aux_lemma =>
                              go_upto_region 28 with (first | (go_at_call 8; refine (recorded_any r _).mono ?_; rintro e W2 ⟨rfl, hb2⟩) | (go_at_call 7; refine (May_any r hsz2 _).mono ?_; rw [hright]; rintro e W3 ⟨rfl, hb3⟩; have hbb := hb2.trans (hb3.mono hb2.size); have HX3 := HX1.out.below hbb HX1.out.lt; have hc3 := hc.below hbb; have ha3 := ha.below hbb; have z0 : W3.cell? ⟨wr.heap.size, 0, none⟩ = some (.int .i64 what) := HX3.cell 0; have z1 : W3.cell? ⟨wr.heap.size, 1, none⟩ = some (.int .i64 N) := HX3.cell 1; have z2 : W3.cell? ⟨wr.heap.size, 2, none⟩ = some (.int .i64 torn) := HX3.cell 2; have z3 : W3.cell? ⟨wr.heap.size, 3, none⟩ = some (.int .i64 r.client) := HX3.cell 3; have z4 : W3.cell? ⟨wr.heap.size, 4, none⟩ = some (.int .i64 r.number) := HX3.cell 4; have z5 : W3.cell? ⟨wr.heap.size, 5, none⟩ = some (.int .i64 r.object) := HX3.cell 5; have z6 : W3.cell? ⟨wr.heap.size, 6, none⟩ = some (.int .i64 r.version) := HX3.cell 6; have z7 : W3.cell? ⟨wr.heap.size, 7, none⟩ = some (.string ⟨r.data.toArray⟩) := HX3.cell 7; have z8 : W3.cell? ⟨wr.heap.size, 8, none⟩ = some (.int .i64 r.epoch) := HX3.cell 8))
                              obtain ⟨uu, huu⟩ : ∃ uu, uu = Value.slice aa recs.length cc := ⟨_, rfl⟩
                              rw [← huu] at ha3 HUB ⊢
                              clear huu ha
                              clear x0 x1 x2 x3 x4 x5 x6 x7 x8 hb2 hb3 hbb
                              go_wp2_with fail
                              refine (recorded_any r _).mono ?_
                              rintro e W4 ⟨rfl, hb4⟩
                              clear z0 z1 z2 z3 z4 z5 z6 z7 z8
                              have HC4 := Lib.hid (hc3.below hb4)
                              have HA4 := Lib.hid (ha3.below hb4)
                              have HX4 := Lib.hid (HX3.below hb4 HX3.lt)
                              have HRI := Lib.hid hright
                              have HFU := Lib.hid hfull
                              clear hb4 hc3 ha3 HX3 hright hfull dF wb0 hM hM2
                              unfold recV recCells
                              obtain ⟨av, hav⟩ : ∃ av : Array Value, av = #[.int .i64 r.client, .int .i64 r.number, .int .i64 r.object, .int .i64 r.version, .string ⟨r.data.toArray⟩, .int .i64 r.epoch] := ⟨_, rfl⟩
                              rw [← hav]
                              have HAV := Lib.hid hav
                              have hs6 : av.size = 6 := by rw [hav]; rfl
                              have hfold : Array.foldl (fun (cs : Array Value) (x : Value × Nat) => cs.setIfInBounds x.snd x.fst) #[.int .i64 0, .int .i64 0, .int .i64 0, .int .i64 0, .string ⟨#[]⟩, .int .i64 0] av.zipIdx 0 6 = av := by rw [hav]; rfl
                              clear hav
                              have HRW := Lib.hid (HA4.out.row.1.alloc (.cells av 39))
                              go_wp2_with (at_builtin; refine wpList_append_lies _ rfl (.tmp 98) (.tmp 102) 34 rfl 0 39 i0 _ 6 56 Tryz.underlying34 HI.out.1 HI.out.2.1 HI.out.2.2.1 HI.out.2.2.2 rfl (by decide) uu recs.length (recCs recs) rfl HRW.out ⟨W4.heap.size, 0, none⟩ 1 1 (recRow r) rfl rfl (fun j u hj => (by rw [HAV.out]; exact rr_cells r j u hj)) (recRow_one _) (by decide) (by have := HFU.out; unfold maxLen; omega) (by have := HFU.out; omega) (Nat.zero_le _) (W4.heap.size + 1) (World.size_alloc _ _) ?_)
                              intro g cap' w5 hrow hgr hgl hglt
                              obtain ⟨own5, hc5, ha5⟩ := HC4.out.appended HG.out HA4.out (r := r) (v' := .slice (some ⟨g, 0, none⟩) (recs.length + 1) cap') hrow hgr (fun g' hg' => by
                                obtain rfl : g = g' := by simpa [Value.ownBlock] using hg'
                                exact hgl.imp (fun h => h) (fun h => by omega))
                              have HX5 := (HX4.out.alloc _).grown hgr (fun e => absurd (HUB.out _ e.symm) (Nat.lt_irrefl _))
                              have z0 : w5.cell? ⟨wr.heap.size, 0, none⟩ = some (.int .i64 what) := HX5.cell 0; have z1 : w5.cell? ⟨wr.heap.size, 1, none⟩ = some (.int .i64 N) := HX5.cell 1; have z2 : w5.cell? ⟨wr.heap.size, 2, none⟩ = some (.int .i64 torn) := HX5.cell 2; have z3 : w5.cell? ⟨wr.heap.size, 3, none⟩ = some (.int .i64 r.client) := HX5.cell 3; have z4 : w5.cell? ⟨wr.heap.size, 4, none⟩ = some (.int .i64 r.number) := HX5.cell 4; have z5 : w5.cell? ⟨wr.heap.size, 5, none⟩ = some (.int .i64 r.object) := HX5.cell 5; have z6 : w5.cell? ⟨wr.heap.size, 6, none⟩ = some (.int .i64 r.version) := HX5.cell 6; have z7 : w5.cell? ⟨wr.heap.size, 7, none⟩ = some (.string ⟨r.data.toArray⟩) := HX5.cell 7; have z8 : w5.cell? ⟨wr.heap.size, 8, none⟩ = some (.int .i64 r.epoch) := HX5.cell 8
                              clear hrow hgr hgl hglt HC4 HA4 HX4 HRW HAV hs6 hfold
                              go_wp2_with fail
                              refine (Add_up P own5 2 w.heap.size w5 wb1 w.heap.size v ps ⟨recs, true, lf⟩ r (by omega) torn hc5.kit hc5.wal hc5.dsk hc5.pls (by rw [hc5.odb]; decide) hc5.ne).mono ?_
                              rw [add_ok HRI.out (by have := HFU.out; dsimp only; omega) (fun h => hz h.2)]
                              intro e W6 hp
                              obtain ⟨he, own6, v6, ps6, hc6, ha6⟩ := hc5.add HG.out ha5 hp
                              have he' : e = .returned (errV 0) := he
                              subst he'
                              have HC6 := Lib.hid hc6
                              have HA6 := Lib.hid ha6
                              have HH6 := Lib.hid hc6.hdl
                              clear hc6 ha6 hp he
                              go_wp2_with (go_at_call 5; refine (bare_any 0 0 _ HH6.out).mono ?_; rintro e W7 ⟨he, hb7⟩; rw [beq_self_eq_true] at he; subst he)
                              go_meet
                              case rel => exact ⟨wb1, ⟨recs ++ [r], true, wrap64 (lf - 1)⟩, false, _, rfl, rfl, rfl, rfl, fun _ => rfl, own6, v6, ps6, HC6.out.below hb7, HA6.out.below hb7⟩
                        | false =>
                          as_aux_lemma =>
                            go_upto_region 28 with (first | (go_at_call 8; refine (recorded_any r _).mono ?_; rintro e W2 ⟨rfl, hb2⟩) | (go_at_call 7; refine (May_any r hsz2 _).mono ?_; rw [hright]; rintro e W3 ⟨rfl, hb3⟩; have hbb := hb2.trans (hb3.mono hb2.size); have HX3 := HX1.out.below hbb HX1.out.lt; have hc3 := hc.below hbb; have ha3 := ha.below hbb; have z0 : W3.cell? ⟨wr.heap.size, 0, none⟩ = some (.int .i64 what) := HX3.cell 0; have z1 : W3.cell? ⟨wr.heap.size, 1, none⟩ = some (.int .i64 N) := HX3.cell 1; have z2 : W3.cell? ⟨wr.heap.size, 2, none⟩ = some (.int .i64 torn) := HX3.cell 2; have z3 : W3.cell? ⟨wr.heap.size, 3, none⟩ = some (.int .i64 r.client) := HX3.cell 3; have z4 : W3.cell? ⟨wr.heap.size, 4, none⟩ = some (.int .i64 r.number) := HX3.cell 4; have z5 : W3.cell? ⟨wr.heap.size, 5, none⟩ = some (.int .i64 r.object) := HX3.cell 5; have z6 : W3.cell? ⟨wr.heap.size, 6, none⟩ = some (.int .i64 r.version) := HX3.cell 6; have z7 : W3.cell? ⟨wr.heap.size, 7, none⟩ = some (.string ⟨r.data.toArray⟩) := HX3.cell 7; have z8 : W3.cell? ⟨wr.heap.size, 8, none⟩ = some (.int .i64 r.epoch) := HX3.cell 8))
                            obtain ⟨uu, huu⟩ : ∃ uu, uu = Value.slice aa recs.length cc := ⟨_, rfl⟩
                            rw [← huu] at ha3 HUB ⊢
                            clear huu ha
                            clear x0 x1 x2 x3 x4 x5 x6 x7 x8 hb2 hb3 hbb
                            go_wp2_with fail
                            refine (recorded_any r _).mono ?_
                            rintro e W4 ⟨rfl, hb4⟩
                            clear z0 z1 z2 z3 z4 z5 z6 z7 z8
                            have HC4 := Lib.hid (hc3.below hb4)
                            have HA4 := Lib.hid (ha3.below hb4)
                            have HX4 := Lib.hid (HX3.below hb4 HX3.lt)
                            have HRI := Lib.hid hright
                            have HFU := Lib.hid hfull
                            clear hb4 hc3 ha3 HX3 hright hfull dF wb0 hM hM2
                            unfold recV recCells
                            obtain ⟨av, hav⟩ : ∃ av : Array Value, av = #[.int .i64 r.client, .int .i64 r.number, .int .i64 r.object, .int .i64 r.version, .string ⟨r.data.toArray⟩, .int .i64 r.epoch] := ⟨_, rfl⟩
                            rw [← hav]
                            have HAV := Lib.hid hav
                            have hs6 : av.size = 6 := by rw [hav]; rfl
                            have hfold : Array.foldl (fun (cs : Array Value) (x : Value × Nat) => cs.setIfInBounds x.snd x.fst) #[.int .i64 0, .int .i64 0, .int .i64 0, .int .i64 0, .string ⟨#[]⟩, .int .i64 0] av.zipIdx 0 6 = av := by rw [hav]; rfl
                            clear hav
                            have HRW := Lib.hid (HA4.out.row.1.alloc (.cells av 39))
                            go_wp2_with (at_builtin; refine wpList_append_lies _ rfl (.tmp 98) (.tmp 102) 34 rfl 0 39 i0 _ 6 56 Tryz.underlying34 HI.out.1 HI.out.2.1 HI.out.2.2.1 HI.out.2.2.2 rfl (by decide) uu recs.length (recCs recs) rfl HRW.out ⟨W4.heap.size, 0, none⟩ 1 1 (recRow r) rfl rfl (fun j u hj => (by rw [HAV.out]; exact rr_cells r j u hj)) (recRow_one _) (by decide) (by have := HFU.out; unfold maxLen; omega) (by have := HFU.out; omega) (Nat.zero_le _) (W4.heap.size + 1) (World.size_alloc _ _) ?_)
                            intro g cap' w5 hrow hgr hgl hglt
                            obtain ⟨own5, hc5, ha5⟩ := HC4.out.appended HG.out HA4.out (r := r) (v' := .slice (some ⟨g, 0, none⟩) (recs.length + 1) cap') hrow hgr (fun g' hg' => by
                              obtain rfl : g = g' := by simpa [Value.ownBlock] using hg'
                              exact hgl.imp (fun h => h) (fun h => by omega))
                            have HX5 := (HX4.out.alloc _).grown hgr (fun e => absurd (HUB.out _ e.symm) (Nat.lt_irrefl _))
                            have z0 : w5.cell? ⟨wr.heap.size, 0, none⟩ = some (.int .i64 what) := HX5.cell 0; have z1 : w5.cell? ⟨wr.heap.size, 1, none⟩ = some (.int .i64 N) := HX5.cell 1; have z2 : w5.cell? ⟨wr.heap.size, 2, none⟩ = some (.int .i64 torn) := HX5.cell 2; have z3 : w5.cell? ⟨wr.heap.size, 3, none⟩ = some (.int .i64 r.client) := HX5.cell 3; have z4 : w5.cell? ⟨wr.heap.size, 4, none⟩ = some (.int .i64 r.number) := HX5.cell 4; have z5 : w5.cell? ⟨wr.heap.size, 5, none⟩ = some (.int .i64 r.object) := HX5.cell 5; have z6 : w5.cell? ⟨wr.heap.size, 6, none⟩ = some (.int .i64 r.version) := HX5.cell 6; have z7 : w5.cell? ⟨wr.heap.size, 7, none⟩ = some (.string ⟨r.data.toArray⟩) := HX5.cell 7; have z8 : w5.cell? ⟨wr.heap.size, 8, none⟩ = some (.int .i64 r.epoch) := HX5.cell 8
                            clear hrow hgr hgl hglt HC4 HA4 HX4 HRW HAV hs6 hfold
                            go_wp2_with fail
                            refine (Add_up P own5 2 w.heap.size w5 wb1 w.heap.size v ps ⟨recs, false, left⟩ r (by omega) torn hc5.kit hc5.wal hc5.dsk hc5.pls (by rw [hc5.odb]; decide) hc5.ne).mono ?_
                            rw [add_ok HRI.out (by have := HFU.out; dsimp only; omega) (fun h => by cases h.1)]
                            intro e W6 hp
                            obtain ⟨he, own6, v6, ps6, hc6, ha6⟩ := hc5.add HG.out ha5 hp
                            have he' : e = .returned (errV 0) := he
                            subst he'
                            have HC6 := Lib.hid hc6
                            have HA6 := Lib.hid ha6
                            have HH6 := Lib.hid hc6.hdl
                            clear hc6 ha6 hp he
                            go_wp2_with (go_at_call 5; refine (bare_any 0 0 _ HH6.out).mono ?_; rintro e W7 ⟨he, hb7⟩; rw [beq_self_eq_true] at he; subst he)
                            go_meet
                            case rel => exact ⟨wb1, ⟨recs ++ [r], false, wrap64 (left - 1)⟩, false, _, rfl, rfl, rfl, rfl, (fun h => by cases h), own6, v6, ps6, HC6.out.below hb7, HA6.out.below hb7⟩
                · have wb0 : (what == 0) = false := by simpa using w0
                  by_cases w1 : what = 1
                  · have wb1' : (what == 1) = true := by simpa using w1
                    have wb3 : (what == 3) = false := by rw [w1]; rfl
                    clear w0 w1
                    as_aux_lemma =>
                      obtain ⟨own, v, ps, hc, ha⟩ := HD1.out
                      go_wp2_with fail
                      refine (Cut_any w.heap.size ps d1.cut d1.left N W1 hc.dsk).mono ?_
                      rintro e W2 ⟨rfl, hd2, ht2⟩
                      obtain ⟨hc2, ha2⟩ := hc.cut HG.out ha hd2 ht2
                      have z0 : W2.cell? ⟨wr.heap.size, 0, none⟩ = some (.int .i64 what) := (ht2.has HX1.out (by omega)).cell 0
                      have HC2 := Lib.hid hc2
                      have HA2 := Lib.hid ha2
                      clear hc2 ha2 hd2 ht2 hc ha x0 x1 x2 x3 x4 x5 x6 x7 x8
                      go_wp2_with fail
                      go_meet
                      case rel => exact ⟨wb1, d1.cutAt N, down, N, rfl, rfl, rfl, rfl, (fun h => by have h2 : (0 : Int) ≤ N := of_decide_eq_true h; show N = max N 0; omega), own, v, ps, HC2.out, HA2.out⟩
                  · have wb1' : (what == 1) = false := by simpa using w1
                    by_cases w3 : what = 3
                    · have wb3 : (what == 3) = true := by simpa using w3
                      have wb2 : (what == 2) = false := by rw [w3]; rfl
                      clear w0 w1 w3
                      as_aux_lemma =>
                        obtain ⟨own, v, ps, hc, ha⟩ := HD1.out
                        go_wp2_with fail
                        refine (Cut_any w.heap.size ps d1.cut d1.left (-1) W1 hc.dsk).mono ?_
                        rintro e W2 ⟨rfl, hd2, ht2⟩
                        obtain ⟨hc2, ha2⟩ := hc.cut HG.out ha hd2 ht2
                        have z0 : W2.cell? ⟨wr.heap.size, 0, none⟩ = some (.int .i64 what) := (ht2.has HX1.out (by omega)).cell 0
                        have HC2 := Lib.hid hc2
                        have HA2 := Lib.hid ha2
                        clear hc2 ha2 hd2 ht2 hc ha x0 x1 x2 x3 x4 x5 x6 x7 x8
                        go_wp2_with fail
                        refine (Open_any P own 2 w.heap.size W2 w.heap.size ps false 0 d1.recs HC2.out.kit HC2.out.dsk HC2.out.pls (by rw [HC2.out.odb]; decide) HC2.out.wal.low).mono ?_
                        intro e W3 hp
                        obtain ⟨own3, wb3', v3, rfl, hc3, ha3⟩ := HC2.out.opened HG.out HA2.out hp
                        have HC3 := Lib.hid hc3
                        have HA3 := Lib.hid ha3
                        clear hc3 ha3 hp
                        go_wp2_with fail
                        go_meet
                        case rel => exact ⟨wb3', d1.cutAt (-1), false, -1, rfl, rfl, rfl, rfl, (fun h => by cases h), own3, v3, ps, HC3.out, HA3.out⟩
                    · have wb3 : (what == 3) = false := by simpa using w3
                      by_cases w2 : what = 2
                      · have wb2 : (what == 2) = true := by simpa using w2
                        clear w0 w1 w2 w3
                        as_aux_lemma =>
                          obtain ⟨own, v, ps, hc, ha⟩ := HD1.out
                          have HC2 := Lib.hid hc
                          have HA2 := Lib.hid ha
                          clear hc ha
                          go_wp2_with fail
                          refine (Open_any P own 2 w.heap.size W1 w.heap.size ps d1.cut d1.left d1.recs HC2.out.kit HC2.out.dsk HC2.out.pls (by rw [HC2.out.odb]; decide) HC2.out.wal.low).mono ?_
                          intro e W3 hp
                          obtain ⟨own3, wb3', v3, rfl, hc3, ha3⟩ := HC2.out.opened HG.out HA2.out hp
                          have HC3 := Lib.hid hc3
                          have HA3 := Lib.hid ha3
                          clear hc3 ha3 hp
                          go_wp2_with fail
                          go_meet
                          case rel => exact ⟨wb3', d1, false, lf, rfl, rfl, rfl, rfl, HLF.out, own3, v3, ps, HC3.out, HA3.out⟩
                      · have wb2 : (what == 2) = false := by simpa using w2
                        clear w0 w1 w2 w3
                        go_wp2_with fail
                        go_meet
                        case rel => exact ⟨wb1, d1, down, lf, rfl, rfl, rfl, rfl, HLF.out, HD1.out⟩
              case rest =>
                obtain ⟨wb2, d2, down2, left2, rfl, rfl, rfl, rfl, hl2, own2, v2, ps2, hc2, ha2⟩ := hcut
                have HL2 := Lib.hid hl2
                have HC2 := Lib.hid hc2
                have HA2 := Lib.hid ha2
                clear hl2 hc2 ha2 x0 x1 x2 x3 x4 x5 x6 x7 x8 HD1 HLF HX1
                go_wp2_with fail
                refine (Records_any wc HC2.out.wal (by have := HC2.out.pls.len; omega)).mono ?_
                rintro e W5 ⟨v5, rfl, hgot, hb5⟩
                obtain ⟨a5, c5, rfl⟩ := slice_of hgot
                obtain ⟨a6, c6, rfl⟩ := slice_of HA2.out.row.1
                have HC5 := Lib.hid (HC2.out.below hb5)
                have HA5 := Lib.hid (HA2.out.below hb5)
                have HGOT := Lib.hid hgot
                have hl200 : d2.recs.length ≤ 200 := HC2.out.pls.len
                have hnn : ((d2.recs.length : Int) != (d2.recs.length : Int)) = false := by simp
                have hdd : (down2 != down2) = false := by simp
                clear hgot hb5 HC2 HA2
                as_aux_lemma =>
                  go_wp2_with (go_at_call 11; refine (Down_any W5 HC5.out.wal).mono ?_; rintro e W5' ⟨rfl, rfl⟩)
                  go_loopw [20] (fun q20 wr3 => ∃ j : Nat, j ≤ d2.recs.length ∧ q20 = .int .i64 j ∧ Below W5.heap.size W5 wr3) (fun q20 _ => d2.recs.length - (intOf q20).toNat)
                  case atStart => exact ⟨0, Nat.zero_le _, rfl, Below.refl _ _⟩
                  case round =>
                    obtain ⟨j, hj, rfl, hb⟩ := hrel
                    have HB := Lib.hid hb
                    clear hb
                    by_cases hjl : j < d2.recs.length
                    · as_aux_lemma =>
                        obtain ⟨x, hx⟩ : ∃ x, d2.recs[j]? = some x := ⟨_, List.getElem?_eq_getElem hjl⟩
                        obtain ⟨g5, rfl, hg5, hc5⟩ := owns_elem HGOT.out hx
                        obtain ⟨g6, rfl, hg6, hc6⟩ := owns_elem HA5.out.row.1 hx
                        have hE5 : ES g5 g6 j x W5 := ⟨hg5, hg6, hc5, hc6⟩
                        have HE := Lib.hid (hE5.below HB.out)
                        have hjn : (j : Int) < (d2.recs.length : Int) := by omega
                        clear hE5 hc5 hc6 hx hg5 hg6
                        go_upto_region 56 with fail
                        have HS := Lib.hid HE.out.drew
                        refine last.wp_region_lastL (S := ES g5 g6 j x) (L := 1000) (n := 10) (lb := [false, false, false, false, false, false, false, false, false, false]) rfl rfl (by kernel_rfl) ?_
                        refine last.wpAnyL_goL 0 175 (.slice (some ⟨g5, 0, none⟩) d2.recs.length c5) rfl rfl (by kernel_rfl) (by kernel_rfl) (by kernel_rfl) (by kernel_rfl) (fun _ _ _ h => h) HS.out (by rfl) (fun W' hW' => by go_simp) ?_
                        dsimp only [List.set_cons_succ, List.set_cons_zero]
                        refine last.wpAnyL_goL 1 176 (.int .i64 j) rfl rfl (by kernel_rfl) (by kernel_rfl) (by kernel_rfl) (by kernel_rfl) (fun _ _ _ h => h) HS.out (by rfl) (fun W' hW' => by go_simp) ?_
                        dsimp only [List.set_cons_succ, List.set_cons_zero]
                        refine last.wpAnyL_goL 2 177 (.pointer (some ⟨g5, j * 6, none⟩)) rfl rfl (by kernel_rfl) (by kernel_rfl) (by kernel_rfl) (by kernel_rfl) (fun _ _ _ h => h) HS.out (by rfl) (fun W' hW' => by go_simp) ?_
                        dsimp only [List.set_cons_succ, List.set_cons_zero]
                        refine last.wpAnyL_goL 3 178 (.agg #[.int .i64 x.client, .int .i64 x.number, .int .i64 x.object, .int .i64 x.version, .string ⟨x.data.toArray⟩, .int .i64 x.epoch]) rfl rfl (by kernel_rfl) (by kernel_rfl) (by kernel_rfl) (by kernel_rfl) (fun _ _ _ h => h) HS.out (by rfl) (fun W' hW' => by have e0 : W'.cell? ⟨g5, j * 6, none⟩ = some (.int .i64 x.client) := hW'.a 0 _ rfl; have e1 : W'.cell? ⟨g5, j * 6 + 1, none⟩ = some (.int .i64 x.number) := hW'.a 1 _ rfl; have e2 : W'.cell? ⟨g5, j * 6 + 2, none⟩ = some (.int .i64 x.object) := hW'.a 2 _ rfl; have e3 : W'.cell? ⟨g5, j * 6 + 3, none⟩ = some (.int .i64 x.version) := hW'.a 3 _ rfl; have e4 : W'.cell? ⟨g5, j * 6 + 4, none⟩ = some (.string ⟨x.data.toArray⟩) := hW'.a 4 _ rfl; have e5 : W'.cell? ⟨g5, j * 6 + 5, none⟩ = some (.int .i64 x.epoch) := hW'.a 5 _ rfl; go_simp) ?_
                        dsimp only [List.set_cons_succ, List.set_cons_zero]
                        refine last.wpAnyL_goL 5 180 (.slice (some ⟨g6, 0, none⟩) d2.recs.length c6) rfl rfl (by kernel_rfl) (by kernel_rfl) (by kernel_rfl) (by kernel_rfl) (fun _ _ _ h => h) HS.out (by rfl) (fun W' hW' => by go_simp) ?_
                        dsimp only [List.set_cons_succ, List.set_cons_zero]
                        refine last.wpAnyL_goL 6 181 (.int .i64 j) rfl rfl (by kernel_rfl) (by kernel_rfl) (by kernel_rfl) (by kernel_rfl) (fun _ _ _ h => h) HS.out (by rfl) (fun W' hW' => by go_simp) ?_
                        dsimp only [List.set_cons_succ, List.set_cons_zero]
                        refine last.wpAnyL_goL 7 182 (.pointer (some ⟨g6, j * 6, none⟩)) rfl rfl (by kernel_rfl) (by kernel_rfl) (by kernel_rfl) (by kernel_rfl) (fun _ _ _ h => h) HS.out (by rfl) (fun W' hW' => by go_simp) ?_
                        dsimp only [List.set_cons_succ, List.set_cons_zero]
                        refine last.wpAnyL_goL 8 183 (.agg #[.int .i64 x.client, .int .i64 x.number, .int .i64 x.object, .int .i64 x.version, .string ⟨x.data.toArray⟩, .int .i64 x.epoch]) rfl rfl (by kernel_rfl) (by kernel_rfl) (by kernel_rfl) (by kernel_rfl) (fun _ _ _ h => h) HS.out (by rfl) (fun W' hW' => by have e0 : W'.cell? ⟨g6, j * 6, none⟩ = some (.int .i64 x.client) := hW'.b 0 _ rfl; have e1 : W'.cell? ⟨g6, j * 6 + 1, none⟩ = some (.int .i64 x.number) := hW'.b 1 _ rfl; have e2 : W'.cell? ⟨g6, j * 6 + 2, none⟩ = some (.int .i64 x.object) := hW'.b 2 _ rfl; have e3 : W'.cell? ⟨g6, j * 6 + 3, none⟩ = some (.int .i64 x.version) := hW'.b 3 _ rfl; have e4 : W'.cell? ⟨g6, j * 6 + 4, none⟩ = some (.string ⟨x.data.toArray⟩) := hW'.b 4 _ rfl; have e5 : W'.cell? ⟨g6, j * 6 + 5, none⟩ = some (.int .i64 x.epoch) := hW'.b 5 _ rfl; go_simp) ?_
                        dsimp only [List.set_cons_succ, List.set_cons_zero]
                        refine last.wpAnyL_oneL (i := 4) (by kernel_rfl) (by simp only [List.getElem?_toArray, List.getElem?_cons_succ, List.getElem?_cons_zero]; exact rfl) fun K hK => ?_
                        refine (if_pos (by rfl)).mpr ?_
                        go_simp
                        refine (recorded_any x _).mono ?_
                        rintro e W6 ⟨rfl, hb6⟩
                        have HS6 : Hid (ES g5 g6 j x W6) := Lib.hid (HS.out.below hb6)
                        have HB6 : Hid (Below W5.heap.size W5 W6) := Lib.hid ((HB.out.drew).trans (hb6.mono HB.out.size))
                        clear hb6
                        refine hK.out _ _ (fun _ => HS6.out) ?_
                        clear hK K HS
                        have HS := HS6
                        clear HS6
                        refine last.wpAnyL_goL 9 184 (.bool false) rfl rfl (by kernel_rfl) (by kernel_rfl) (by kernel_rfl) (by kernel_rfl) (fun _ _ _ h => h) HS.out (by rfl) (fun W' hW' => by unfold recV recCells; go_simp) ?_
                        dsimp only [List.set_cons_succ, List.set_cons_zero]
                        refine last.wpAnyL_done (by kernel_rfl) ?_ _
                        go_wp2_with fail
                        go_roundw
                        case rel => exact ⟨j + 1, by omega, by go_num, HB6.out⟩
                        case measure => simp [intOf]; omega
                    · have d0 : decide ((j : Int) < (d2.recs.length : Int)) = false := decide_eq_false (by omega)
                      go_wp2_with fail
                      go_roundg (gk - 1)
                      case measure => omega
                      case rel => exact ⟨k + 1, wb2, d2, down2, left2, by omega, by go_num, rfl, rfl, rfl, rfl, HL2.out, own2, v2, ps2, HC5.out.below HB.out, HA5.out.below HB.out⟩
          · have d0 : decide ((k : Int) < (n : Int)) = false := decide_eq_false (by omega)
            have HB : Hid (Below w.heap.size w wr) := Lib.hid (by
              obtain ⟨_, _, _, h, _⟩ := HD.out
              exact h.bel)
            clear HD HLF
            go_wp2_with fail
            go_ret
            exact ⟨rfl, HB.out⟩
end Go.Proofs.YtadjbloccjbegaaGreatDoor.wal
