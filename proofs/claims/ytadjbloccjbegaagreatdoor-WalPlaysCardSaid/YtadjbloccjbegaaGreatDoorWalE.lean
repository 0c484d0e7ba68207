/-
  wal.parse at every beginning of a record's text.
-/
import Derived.Test.YtadjbloccjbegaaGreatDoorWalD
import Derived.Test.YtadjbloccjbegaaGreatDoorWalB
import Derived.Test.YtadjbloccjbegaaGreatDoorUnqF
import Derived.Test.YtadjbloccjbegaaGreatDoorRegionGo
import Derived.Laws.ResultCell
import Derived.Lib.AtoiErrMem
namespace Go.Proofs.YtadjbloccjbegaaGreatDoor.wal
open Go.RowKit Go.Proofs.YtadjbloccjbegaaGreatDoor.heap Go.Proofs.YtadjbloccjbegaaGreatDoor.own Go.Proofs.YtadjbloccjbegaaGreatDoor.recs
open Go.Proofs.YtadjbloccjbegaaGreatDoor.model (Rec)

def zeroRec : Rec := ⟨0, 0, 0, 0, [], 0⟩
def zeroCells : Array Value := recCells 0 0 0 0 ⟨#[]⟩ 0
def sp : ByteArray := ⟨#[32]⟩

/-- What parse hands back. -/
def Parsed (T : Lib.PrintTabs) (k : Nat) (r : Rec) (s : ByteArray) (w : World) (e : Ending) (w' : World) : Prop :=
  ∃ (r' : Rec) (ok : Bool), e = .returned (.tuple #[recV r', .bool ok]) ∧ Below w.heap.size w w' ∧ ok = decide (s.data.toList = text T k r) ∧ (ok = true → r' = r)

theorem splitN_any (s : ByteArray) (hs : s.size < 4294967281) (w : World) (m : Int) (hm : w.cell? ⟨1, 0, none⟩ = some (.int .i64 m)) :
    Calls Tryz.prog 18 #[.string s, .string ⟨#[32]⟩, .int .i64 7] w fun e w' =>
      e = .returned (.slice (some ⟨w.heap.size, 0, none⟩) (pieces s).length (min 7 (s.size + 1) : Nat)) ∧ w' = w.alloc (.cells (Lib.cellsOf (pieces s) (min 7 (s.size + 1))) 9) :=
  Tryz.strings_SplitN s ⟨#[32]⟩ 7 m w hs hm (by decide) (by decide) (by decide)
theorem lastIndex_any (s : ByteArray) (hs : s.size < 4611686018427387904) (w : World) :
    Calls Tryz.prog 20 #[.string s, .int .u8 32] w fun e w' => e = .returned (.int .i64 (Lib.lastIndexByte s 32)) ∧ w' = w := Tryz.strings_LastIndexByte s 32 hs w
theorem atoi_any (x : Int) (h0 : -1 ≤ x) (h1 : x ≤ 1099511627776) (s : ByteArray) (hs : s.data.toList = Lib.itoa x) (w : World) :
    Calls Tryz.prog 19 #[.string s] w fun e w' => e = .returned (.tuple #[.int .i64 x, .nilIface]) ∧ Below w.heap.size w w' :=
  (Tryz.strconv_Atoi s x (by show s.data.size ≤ 18; rw [← Array.length_toList, hs]; have := itoa_short x h0 (by omega); omega) (by rw [hs]; exact atoi_itoa x) w).mono fun _ _ ⟨he, t, hw⟩ => ⟨he, by rw [hw]; exact Lib.bytesWorld_below w _ t⟩

theorem parse_results (tmps : Array Value) (W : World) (g : Nat) (r : Rec) (ok : Bool) (h2 : tmps.getD 4 undef = .pointer (some ⟨g, 0, none⟩)) (h3 : tmps.getD 5 undef = .bool ok)
    (hg : Has W g (.cells (recCells r.client r.number r.object r.version ⟨r.data.toArray⟩ r.epoch) 38)) : (results Tryz.f12 tmps).run Tryz.prog W = .ok (.tuple #[recV r, .bool ok]) W := by
  rw [results_cell_tmp Tryz.results12, h2, h3]
  have hi : (Tryz.prog.info? 38).map (·.size) = some (recCells r.client r.number r.object r.version ⟨r.data.toArray⟩ r.epoch).size := by
    show _ = some 6
    kernel_rfl
  have := run_loadVar_row (P := Tryz.prog) W g 38 38 _ (0, 0) _ hg Tryz.underlying38 rfl hi
  simp [asAddr, Result.andThen, this, recV]
theorem parse_ret {T : Lib.PrintTabs} {k : Nat} {r r' : Rec} {s : ByteArray} {w W : World} {a : Act} {g : Nat} {ok : Bool} (hd : a.defers = []) (h2 : a.tmps.getD 4 undef = .pointer (some ⟨g, 0, none⟩)) (h3 : a.tmps.getD 5 undef = .bool ok)
    (hg : Has W g (.cells (recCells r'.client r'.number r'.object r'.version ⟨r'.data.toArray⟩ r'.epoch) 38)) (hb : Below w.heap.size w W) (hok : ok = decide (s.data.toList = text T k r)) (hr : ok = true → r' = r) :
    bodyPost Tryz.prog Tryz.f12 (Parsed T k r s w) Exit.ret a W :=
  bodyPost_ret (parse_results a.tmps W g r' ok h2 h3 hg) hd ⟨r', ok, rfl, hb, hok, hr⟩
set_option maxHeartbeats 4000000 in
set_option maxRecDepth 100000 in
theorem parse_few (T : Lib.PrintTabs) (k : Nat) (r : Rec) (s : ByteArray) (hs : s.size ≤ 1000) (hne : s.data.toList ≠ text T k r) (w : World) (hK : Kit T w) (h : (pieces s).length ≤ 6) :
    Calls Tryz.prog 12 #[.int .i64 k, .string s] w (Parsed T k r s w) := by
  obtain ⟨m, hm⟩ := hK.mx
  have hl := cell_lt hm
  have SN := splitN_any s (by omega) (w.alloc (.cells zeroCells 38)) m (by rw [World.cell?_alloc_old _ _ _ (Nat.ne_of_lt hl)]; exact hm)
  obtain ⟨n, hn⟩ : ∃ n, n = (pieces s).length := ⟨_, rfl⟩
  rw [← hn] at SN h
  have b7 : ((n : Int) != 7) = true := bne_iff_ne.mpr (by omega)
  have HNE := Lib.hid hne
  clear hn hne hK
  unfold zeroCells recCells at SN
  go_enter Tryz.func12, Tryz.ntmps12
  go_wp2_with (go_at_call 18; refine SN.mono ?_; rintro e w1 ⟨rfl, rfl⟩; clear SN)
  refine parse_ret (g := w.heap.size) (r' := zeroRec) (ok := false) rfl rfl rfl ((Has.new w _).alloc _) (((Below.refl _ _).alloc (Nat.le_refl _) _).alloc (by simp) _) ?_ (fun h => by cases h)
  exact (decide_eq_false HNE.out).symm

theorem six_eq (zc : Array Value) (h : zc.size = 6) (a b c d e f : Value) : (((((zc.setIfInBounds 0 a).setIfInBounds 1 b).setIfInBounds 2 c).setIfInBounds 3 d).setIfInBounds 4 e).setIfInBounds 5 f = #[a, b, c, d, e, f] := by
  obtain ⟨l⟩ := zc
  match l, h with
  | [_, _, _, _, _, _], _ => rfl
theorem six_set {W : World} {g : Nat} {zc : Array Value} {t : TypeId} (h : Has W g (.cells zc t)) (hz : zc.size = 6) (a b c d e f : Value) :
    Has ((((((W.setCell ⟨g, 0, none⟩ a).setCell ⟨g, 1, none⟩ b).setCell ⟨g, 2, none⟩ c).setCell ⟨g, 3, none⟩ d).setCell ⟨g, 4, none⟩ e).setCell ⟨g, 5, none⟩ f) g (.cells #[a, b, c, d, e, f] t) := by
  have h6 := (((((h.set_ 0 a).set_ 1 b).set_ 2 c).set_ 3 d).set_ 4 e).set_ 5 f
  rw [six_eq zc hz] at h6
  exact h6
theorem six_below {w W : World} {B g : Nat} (h : Below B w W) (hg : B ≤ g) (a b c d e f : Value) :
    Below B w ((((((W.setCell ⟨g, 0, none⟩ a).setCell ⟨g, 1, none⟩ b).setCell ⟨g, 2, none⟩ c).setCell ⟨g, 3, none⟩ d).setCell ⟨g, 4, none⟩ e).setCell ⟨g, 5, none⟩ f) := by
  have st : ∀ {W' : World} (_ : Below B w W') (i : Nat) (v : Value), Below B w (W'.setCell ⟨g, i, none⟩ v) := fun h i v => h.setCell (p := ⟨g, i, none⟩) hg v
  exact st (st (st (st (st (st h 0 a) 1 b) 2 c) 3 d) 4 e) 5 f
theorem has_drew {W : World} {g : Nat} {o : Obj} (h : Has W g o) : Has W.drew g o := h

/-- What stands all through parse's last statement. -/
def PS (T : Lib.PrintTabs) (w : World) (D : Nat) (r : Rec) (W : World) : Prop :=
  Has W D (.cells #[.int .i64 r.client, .int .i64 r.number, .int .i64 r.object, .int .i64 r.version, .string ⟨r.data.toArray⟩, .int .i64 r.epoch] 38) ∧ Kit T W ∧ (∃ zc : Array Value, zc.size = 6 ∧ Has W w.heap.size (.cells zc 38)) ∧ Below w.heap.size w W
theorem PS.below {T : Lib.PrintTabs} {w : World} {D : Nat} {r : Rec} {W W' : World} (h : PS T w D r W) (hb : Below W.heap.size W W') : PS T w D r W' := by
  obtain ⟨h1, h2, ⟨zc, h3, h4⟩, h5⟩ := h
  exact ⟨h1.below hb h1.lt, h2.below hb, ⟨zc, h3, h4.below hb h4.lt⟩, h5.trans (hb.mono h5.size)⟩

def numCells (ns : List Int) (j : Nat) : Array Value := ((ns.take j).map (Value.int .i64) ++ List.replicate (6 - j) (Value.int .i64 0)).toArray
theorem numCells_set {ns : List Int} {j : Nat} {x : Int} (hn : ns.length = 6) (hx : ns[j]? = some x) : (numCells ns j).setIfInBounds j (.int .i64 x) = numCells ns (j + 1) := by
  have hj : j < 6 := by rcases Nat.lt_or_ge j 6 with h | h; exact h; rw [List.getElem?_eq_none (by omega)] at hx; cases hx
  have hl : ((ns.take j).map (Value.int .i64)).length = j := by simp; omega
  have e : 6 - j = 6 - (j + 1) + 1 := by omega
  unfold numCells
  rw [List.setIfInBounds_toArray, List.set_append_right _ _ (by omega), hl, Nat.sub_self, e, List.replicate_succ, List.set_cons_zero, List.take_add_one, hx]
  simp
theorem numCells_get {ns : List Int} {j : Nat} (hn : ns.length = 6) (hj : j < 6) : (numCells ns j)[j]? = some (.int .i64 0) := by
  have hl : ((ns.take j).map (Value.int .i64)).length = j := by simp; omega
  have e : 6 - j = 6 - (j + 1) + 1 := by omega
  unfold numCells
  rw [List.getElem?_toArray, List.getElem?_append_right (by omega), hl, Nat.sub_self, e, List.replicate_succ]
  rfl
theorem numCells_full {ns : List Int} (hn : ns.length = 6) : numCells ns 6 = (ns.map (Value.int .i64)).toArray := by
  unfold numCells
  rw [List.take_of_length_le (by omega)]
  simp

set_option maxHeartbeats 4000000 in
set_option maxRecDepth 100000 in
theorem parse_seven (T : Lib.PrintTabs) (k : Nat) (r : Rec) (hr : r.right = true) (s : ByteArray) (hs : s.size ≤ 1000) (w : World) (hK : Kit T w) (hk : k < 1000) (rest : ByteArray)
    (hp : (pieces s).map (·.data.toList) = nums k r ++ [rest.data.toList]) (h7 : (pieces s).length = 7) (h7' : min 7 (s.size + 1) = 7) (hrs : rest.size ≤ 1000)
    (hC : (s.data.toList ≠ text T k r ∧ Lib.lastIndexByte rest 32 = -1) ∨
      (s.data.toList ≠ text T k r ∧ ∃ (q : Nat) (ts : List toks.Tok), Lib.lastIndexByte rest 32 = q ∧ q ≤ rest.size ∧ unq.InStr (rest.extract 0 q) ts []) ∨
      (∃ (q : Nat) (ts : List toks.Tok), Lib.lastIndexByte rest 32 = q ∧ q ≤ rest.size ∧ unq.InStr (rest.extract 0 q) ts [34] ∧ ts.flatMap toks.Tok.val = r.data)) :
    Calls Tryz.prog 12 #[.int .i64 k, .string s] w (Parsed T k r s w) := by
  obtain ⟨m, hm⟩ := hK.mx
  have hl := cell_lt hm
  have SN := splitN_any s (by omega) (w.alloc (.cells zeroCells 38)) m (by rw [World.cell?_alloc_old _ _ _ (Nat.ne_of_lt hl)]; exact hm)
  obtain ⟨xs, hxs⟩ : ∃ xs, xs = pieces s := ⟨_, rfl⟩
  rw [h7, h7', ← hxs] at SN
  rw [← hxs] at hp h7
  have hcs : Lib.cellsOf xs 7 = (xs.map Value.string).toArray := by have := Lib.cellsOf_full xs; rw [h7] at this; exact this
  rw [hcs] at SN
  obtain ⟨xc, hxc⟩ : ∃ xc, xc = (xs.map Value.string).toArray := ⟨_, rfl⟩
  rw [← hxc] at SN
  obtain ⟨ns, hns⟩ : ∃ ns : List Int, ns = [(k : Int), r.client, r.number, r.object, r.version, r.epoch] := ⟨_, rfl⟩
  have hnl6 : ns.length = 6 := by rw [hns]; rfl
  have hrange : ∀ x ∈ ns, -1 ≤ x ∧ x ≤ 1099511627776 := by
    have hr := right_small hr
    have := hr.c0; have := hr.c1; have := hr.n0; have := hr.n1; have := hr.o0; have := hr.o1; have := hr.v0; have := hr.v1; have := hr.e0; have := hr.e1
    intro x hx
    rw [hns] at hx
    simp only [List.mem_cons, List.not_mem_nil, or_false] at hx
    rcases hx with rfl | rfl | rfl | rfl | rfl | rfl <;> omega
  have hxj : ∀ (j : Nat) x, ns[j]? = some x → ∃ z : ByteArray, xc[j]? = some (.string z) ∧ z.data.toList = Lib.itoa x := by
    intro j x hx
    have hj : j < 6 := by rcases Nat.lt_or_ge j 6 with h | h; exact h; rw [List.getElem?_eq_none (by omega)] at hx; cases hx
    have e : nums k r = ns.map Lib.itoa := by rw [hns]; rfl
    have hq : (xs.map (·.data.toList))[j]? = some (Lib.itoa x) := by
      rw [hp, e, List.getElem?_append_left (by simp; omega), List.getElem?_map, hx]; rfl
    rw [List.getElem?_map] at hq
    cases hz : xs[j]? with
    | none => rw [hz] at hq; cases hq
    | some z =>
      rw [hz] at hq
      exact ⟨z, by rw [hxc]; simp [hz], by simpa using hq⟩
  have hx6 : xc[6]? = some (.string rest) := by
    have hq : (xs.map (·.data.toList))[6]? = some rest.data.toList := by rw [hp]; rfl
    rw [List.getElem?_map] at hq
    cases hz : xs[6]? with
    | none => rw [hz] at hq; cases hq
    | some z =>
      rw [hz] at hq
      have : z = rest := bytes_ext (by simpa using hq)
      rw [hxc]; simp [hz, this]
  have HR := Lib.hid hr
  have HK := Lib.hid hK
  have HNS := Lib.hid hns
  have HRG := Lib.hid hrange
  have HXJ := Lib.hid hxj
  have HX6 := Lib.hid hx6
  have HC := Lib.hid hC
  clear hr hK hns hrange hxj hx6 hC hp h7 h7' hxs hcs hxc
  unfold zeroCells recCells at SN
  go_enter Tryz.func12, Tryz.ntmps12
  go_wp2_with (go_at_call 18; refine SN.mono ?_; rintro e w1 ⟨rfl, rfl⟩; clear SN)
  obtain ⟨zc, hzc⟩ : ∃ zc : Array Value, zc = #[.int .i64 0, .int .i64 0, .int .i64 0, .int .i64 0, .string ⟨#[]⟩, .int .i64 0] := ⟨_, rfl⟩
  rw [← hzc]
  have HZC := Lib.hid hzc
  clear hzc
  go_loopw [19] (fun q19 wr => ∃ (j : Nat), j ≤ 6 ∧ q19 = .int .i64 j ∧ Has wr w.heap.size (.cells zc 38) ∧ Has wr (w.heap.size + 1) (.cells xc 9) ∧ Has wr (w.heap.size + 1 + 1) (.cells (numCells ns j) 62) ∧ Below w.heap.size w wr) (fun q19 _ => 6 - (intOf q19).toNat)
  case atStart =>
    have h1 := Has.new w (.cells zc 38)
    have h2 := Has.new (w.alloc (.cells zc 38)) (.cells xc 9)
    have h3 := Has.new ((w.alloc (.cells zc 38)).alloc (.cells xc 9)) (.cells #[.int .i64 0, .int .i64 0, .int .i64 0, .int .i64 0, .int .i64 0, .int .i64 0] 62)
    rw [World.size_alloc] at h2
    rw [World.size_alloc, World.size_alloc] at h3
    exact ⟨0, by omega, rfl, (h1.alloc _).alloc _, h2.alloc _, h3, (((Below.refl _ _).alloc (Nat.le_refl _) _).alloc (by simp) _).alloc (by simp; omega) _⟩
  case round =>
    obtain ⟨j, hj, rfl, hh1, hh2, hh3, hb⟩ := hrel
    by_cases hlt : j < 6
    · obtain ⟨x, hx⟩ : ∃ x, ns[j]? = some x := ⟨_, List.getElem?_eq_getElem (by omega)⟩
      obtain ⟨z, hz1, hz2⟩ := HXJ.out j x hx
      have hc : wr.cell? ⟨w.heap.size + 1, j, none⟩ = some (.string z) := by rw [hh2.cell]; exact hz1
      have hxr := HRG.out x (List.mem_of_getElem? hx)
      have hji : (j : Int) < 6 := by omega
      have AT := atoi_any x hxr.1 hxr.2 z hz2 wr
      have HR1 := Lib.hid hh1
      have HR2 := Lib.hid hh2
      have HR3 := Lib.hid hh3
      have HB := Lib.hid hb
      have HX := Lib.hid hx
      clear hx hz1 hz2 hh1 hh2 hh3 hb hxr
      go_wp2_with (go_at_call 19; refine AT.mono ?_; rintro e w1 ⟨rfl, hb1⟩; clear AT; have hC1 : w1.cell? ⟨w.heap.size + 1 + 1, j, none⟩ = some (.int .i64 0) := (by rw [(HR3.out.below hb1 HR3.out.lt).cell]; exact numCells_get hnl6 hlt); have hF1 := (HR3.out.below hb1 HR3.out.lt).frozen j)
      go_roundw
      case rel =>
        refine ⟨j + 1, by omega, by go_num, (HR1.out.below hb1 HR1.out.lt).far (by show w.heap.size ≠ w.heap.size + 1 + 1; omega) _, (HR2.out.below hb1 HR2.out.lt).far (by show w.heap.size + 1 ≠ w.heap.size + 1 + 1; omega) _, ?_, (HB.out.trans (hb1.mono HB.out.size)).setCell (by show w.heap.size ≤ w.heap.size + 1 + 1; omega) _⟩
        rw [← numCells_set hnl6 HX.out]
        exact (HR3.out.below hb1 HR3.out.lt).set_ j _
      case measure => simp [intOf]; omega
    · obtain rfl : j = 6 := by omega
      rw [numCells_full hnl6] at hh3
      have hx6 : wr.cell? ⟨w.heap.size + 1, 6, none⟩ = some (.string rest) := by rw [hh2.cell]; exact HX6.out
      have LI := lastIndex_any rest (by omega) wr
      have hK1 : Kit T wr := HK.out.below hb
      obtain ⟨ty, ev, hE⟩ := hK1.err
      have hU := hK1.utf
      have HR1 := Lib.hid hh1
      have HR3 := Lib.hid hh3
      have HB := Lib.hid hb
      have HK1 := Lib.hid hK1
      rcases HC.out with ⟨hne, hq⟩ | ⟨hne, q, ts, hq, hql, hI⟩ | ⟨q, ts, hq, hql, hI, hv⟩
      · rw [hq] at LI
        have HNE := Lib.hid hne
        clear hne hq hh1 hh2 hh3 hb hK1 hE hU
        have hz6 : zc.size = 6 := by rw [HZC.out]; rfl
        have c0 : ∀ i, i < 6 → ∃ v, wr.cell? ⟨w.heap.size, i, none⟩ = some v := fun i hi => by rw [HR1.out.cell]; exact ⟨_, Array.getElem?_eq_getElem (by omega)⟩
        obtain ⟨v0, z0⟩ := c0 0 (by omega)
        obtain ⟨v1, z1⟩ := c0 1 (by omega)
        obtain ⟨v2, z2⟩ := c0 2 (by omega)
        obtain ⟨v3, z3⟩ := c0 3 (by omega)
        obtain ⟨v4, z4⟩ := c0 4 (by omega)
        obtain ⟨v5, z5⟩ := c0 5 (by omega)
        have f0 := HR1.out.frozen 0
        have f1 := HR1.out.frozen 1
        have f2 := HR1.out.frozen 2
        have f3 := HR1.out.frozen 3
        have f4 := HR1.out.frozen 4
        have f5 := HR1.out.frozen 5
        clear c0
        go_wp2_with (first
          | (go_at_call 20; refine LI.mono ?_; rintro e w1 ⟨rfl, rfl⟩; clear LI))
        exact parse_ret (g := w.heap.size) (r' := zeroRec) (ok := false) rfl rfl rfl (six_set HR1.out hz6 _ _ _ _ _ _) (six_below HB.out (Nat.le_refl _) _ _ _ _ _ _) (decide_eq_false HNE.out).symm (fun h => by cases h)
      · rw [hq] at LI
        have HNE := Lib.hid hne
        have UQ := unq.Unquote_torn _ ts hI _ wr hU hE
        have d0 : decide ((q : Int) < 0) = false := decide_eq_false (by omega)
        have hqI : (q : Int) ≤ rest.size := by omega
        clear hne hq hh1 hh2 hh3 hb hK1 hE hU hI
        go_wp2_with (first
          | (go_at_call 20; refine LI.mono ?_; rintro e w1 ⟨rfl, rfl⟩; clear LI)
          | (go_at_call 21; refine UQ.mono ?_; rintro e w1 ⟨rfl, hb1⟩; clear UQ
             have H3 := HR3.out.below hb1 HR3.out.lt
             have k1 : w1.cell? ⟨w.heap.size + 1 + 1, 1, none⟩ = some (.int .i64 r.client) := by rw [H3.cell, HNS.out]; rfl
             have k2 : w1.cell? ⟨w.heap.size + 1 + 1, 2, none⟩ = some (.int .i64 r.number) := by rw [H3.cell, HNS.out]; rfl
             have k3 : w1.cell? ⟨w.heap.size + 1 + 1, 3, none⟩ = some (.int .i64 r.object) := by rw [H3.cell, HNS.out]; rfl
             have k4 : w1.cell? ⟨w.heap.size + 1 + 1, 4, none⟩ = some (.int .i64 r.version) := by rw [H3.cell, HNS.out]; rfl
             have k5 : w1.cell? ⟨w.heap.size + 1 + 1, 5, none⟩ = some (.int .i64 r.epoch) := by rw [H3.cell, HNS.out]; rfl
             have H1 := Lib.hid (HR1.out.below hb1 HR1.out.lt)
             clear H3))
        have hz6 : zc.size = 6 := by rw [HZC.out]; rfl
        obtain ⟨W, hW⟩ : ∃ W, W = w1.alloc (.cells #[.int .i64 r.client, .int .i64 r.number, .int .i64 r.object, .int .i64 r.version, .string ⟨#[]⟩, .int .i64 r.epoch] 38) := ⟨_, rfl⟩
        have hD : Has W w1.heap.size (.cells #[.int .i64 r.client, .int .i64 r.number, .int .i64 r.object, .int .i64 r.version, .string ⟨#[]⟩, .int .i64 r.epoch] 38) := by rw [hW]; exact Has.new _ _
        have hA : Has W w.heap.size (.cells zc 38) := by rw [hW]; exact H1.out.alloc _
        have hbW : Below w.heap.size w W := by rw [hW]; exact (HB.out.trans (hb1.mono HB.out.size)).alloc (Nat.le_trans HB.out.size hb1.size) _
        rw [← hW]
        clear hW
        have c0 : ∀ i, i < 6 → ∃ v, W.cell? ⟨w.heap.size, i, none⟩ = some v := fun i hi => by rw [hA.cell]; exact ⟨_, Array.getElem?_eq_getElem (by omega)⟩
        obtain ⟨v0, z0⟩ := c0 0 (by omega)
        obtain ⟨v1, z1⟩ := c0 1 (by omega)
        obtain ⟨v2, z2⟩ := c0 2 (by omega)
        obtain ⟨v3, z3⟩ := c0 3 (by omega)
        obtain ⟨v4, z4⟩ := c0 4 (by omega)
        obtain ⟨v5, z5⟩ := c0 5 (by omega)
        have f0 := hA.frozen 0
        have f1 := hA.frozen 1
        have f2 := hA.frozen 2
        have f3 := hA.frozen 3
        have f4 := hA.frozen 4
        have f5 := hA.frozen 5
        have d0' := hD.cell 0
        have d1' := hD.cell 1
        have d2' := hD.cell 2
        have d3' := hD.cell 3
        have d4' := hD.cell 4
        have d5' := hD.cell 5
        simp only [List.getElem?_toArray, List.getElem?_cons_zero, List.getElem?_cons_succ] at d0' d1' d2' d3' d4' d5'
        have HA := Lib.hid hA
        have HBW := Lib.hid hbW
        clear hA hbW hD c0
        go_region
        go_wp2
        refine parse_ret (g := w.heap.size) (r' := ⟨r.client, r.number, r.object, r.version, [], r.epoch⟩) (ok := false) rfl rfl rfl ?_ ?_ (decide_eq_false HNE.out).symm (fun h => by cases h)
        · exact has_drew (six_set HA.out hz6 _ _ _ _ _ _)
        · exact (six_below HBW.out (Nat.le_refl _) _ _ _ _ _ _).drew
      · -- WHOLE
        rw [hq] at LI
        have UQ := unq.Unquote_whole _ ts hI _ wr hU hE
        rw [hv] at UQ
        have d0 : decide ((q : Int) < 0) = false := decide_eq_false (by omega)
        have hqI : (q : Int) ≤ rest.size := by omega
        clear hq hh1 hh2 hh3 hb hK1 hE hU hI hv
        go_wp2_with (first
          | (go_at_call 20; refine LI.mono ?_; rintro e w1 ⟨rfl, rfl⟩; clear LI)
          | (go_at_call 21; refine UQ.mono ?_; rintro e w1 ⟨rfl, hb1⟩; clear UQ
             have H3 := HR3.out.below hb1 HR3.out.lt
             have k1 : w1.cell? ⟨w.heap.size + 1 + 1, 1, none⟩ = some (.int .i64 r.client) := by rw [H3.cell, HNS.out]; rfl
             have k2 : w1.cell? ⟨w.heap.size + 1 + 1, 2, none⟩ = some (.int .i64 r.number) := by rw [H3.cell, HNS.out]; rfl
             have k3 : w1.cell? ⟨w.heap.size + 1 + 1, 3, none⟩ = some (.int .i64 r.object) := by rw [H3.cell, HNS.out]; rfl
             have k4 : w1.cell? ⟨w.heap.size + 1 + 1, 4, none⟩ = some (.int .i64 r.version) := by rw [H3.cell, HNS.out]; rfl
             have k5 : w1.cell? ⟨w.heap.size + 1 + 1, 5, none⟩ = some (.int .i64 r.epoch) := by rw [H3.cell, HNS.out]; rfl
             have H1 := Lib.hid (HR1.out.below hb1 HR1.out.lt)
             clear H3))
        have hz6 : zc.size = 6 := by rw [HZC.out]; rfl
        obtain ⟨W, hW⟩ : ∃ W, W = w1.alloc (.cells #[.int .i64 r.client, .int .i64 r.number, .int .i64 r.object, .int .i64 r.version, .string ⟨r.data.toArray⟩, .int .i64 r.epoch] 38) := ⟨_, rfl⟩
        have hD : Has W w1.heap.size (.cells #[.int .i64 r.client, .int .i64 r.number, .int .i64 r.object, .int .i64 r.version, .string ⟨r.data.toArray⟩, .int .i64 r.epoch] 38) := by rw [hW]; exact Has.new _ _
        have hA : Has W w.heap.size (.cells zc 38) := by rw [hW]; exact H1.out.alloc _
        have hbW : Below w.heap.size w W := by rw [hW]; exact (HB.out.trans (hb1.mono HB.out.size)).alloc (Nat.le_trans HB.out.size hb1.size) _
        rw [← hW]
        clear hW
        have hKW : Kit T W := HK.out.below hbW
        have HS : Hid (PS T w w1.heap.size r W.drew) := Lib.hid ⟨has_drew hD, hKW.below (Below.refl _ _).drew, ⟨zc, hz6, has_drew hA⟩, hbW.drew⟩
        have RA := right_any r (by have := (right_small HR.out).d1; omega) W.drew
        rw [HR.out] at RA
        clear hD hKW hA hbW H1 k1 k2 k3 k4 k5
        refine last.wp_region_lastL (S := PS T w w1.heap.size r) (L := 15) (n := 16) (lb := [false, false, false, false, false, false, false, false, false, false, false, false, false, false, false, false]) rfl rfl (by kernel_rfl) ?_
        refine last.wpAnyL_goL 0 61 (.agg #[.int .i64 r.client, .int .i64 r.number, .int .i64 r.object, .int .i64 r.version, .string ⟨r.data.toArray⟩, .int .i64 r.epoch]) rfl rfl (by kernel_rfl) (by kernel_rfl) (by kernel_rfl) (by kernel_rfl) (fun _ _ _ h => h) HS.out (by rfl) (fun W' hW' => by have e0 := hW'.1.cell 0; have e1 := hW'.1.cell 1; have e2 := hW'.1.cell 2; have e3 := hW'.1.cell 3; have e4 := hW'.1.cell 4; have e5 := hW'.1.cell 5; simp only [List.getElem?_toArray, List.getElem?_cons_zero, List.getElem?_cons_succ] at e0 e1 e2 e3 e4 e5; go_simp) ?_
        dsimp only [List.set_cons_succ, List.set_cons_zero]
        refine last.wpAnyL_goL 1 62 (.nilIface) rfl rfl (by kernel_rfl) (by kernel_rfl) (by kernel_rfl) (by kernel_rfl) (fun _ _ _ h => h) HS.out (by rfl) (fun W' hW' => by go_simp) ?_
        dsimp only [List.set_cons_succ, List.set_cons_zero]
        refine last.wpAnyL_goL 2 63 (.bool true) rfl rfl (by kernel_rfl) (by kernel_rfl) (by kernel_rfl) (by kernel_rfl) (fun _ _ _ h => h) HS.out (by rfl) (fun W' hW' => by go_simp) ?_
        dsimp only [List.set_cons_succ, List.set_cons_zero]
        refine last.wpAnyL_goL 3 64 (.bool true) rfl rfl (by kernel_rfl) (by kernel_rfl) (by kernel_rfl) (by kernel_rfl) (fun _ _ _ h => h) HS.out (by rfl) (fun W' hW' => by go_simp) ?_
        dsimp only [List.set_cons_succ, List.set_cons_zero]
        refine last.wpAnyL_goL 4 65 (.agg #[.int .i64 r.client, .int .i64 r.number, .int .i64 r.object, .int .i64 r.version, .string ⟨r.data.toArray⟩, .int .i64 r.epoch]) rfl rfl (by kernel_rfl) (by kernel_rfl) (by kernel_rfl) (by kernel_rfl) (fun _ _ _ h => h) HS.out (by rfl) (fun W' hW' => by have e0 := hW'.1.cell 0; have e1 := hW'.1.cell 1; have e2 := hW'.1.cell 2; have e3 := hW'.1.cell 3; have e4 := hW'.1.cell 4; have e5 := hW'.1.cell 5; simp only [List.getElem?_toArray, List.getElem?_cons_zero, List.getElem?_cons_succ] at e0 e1 e2 e3 e4 e5; go_simp) ?_
        dsimp only [List.set_cons_succ, List.set_cons_zero]
        refine last.wpAnyL_oneL (i := 5) (by kernel_rfl) (by simp only [List.getElem?_toArray, List.getElem?_cons_succ, List.getElem?_cons_zero]; exact rfl) fun K hK => ?_
        refine (if_pos (by rfl)).mpr ?_
        go_simp
        refine RA.mono ?_
        rintro e W2 ⟨rfl, hb2⟩
        have HS2 := Lib.hid (HS.out.below hb2)
        refine hK.out _ _ (fun _ => HS2.out) ?_
        clear hK K RA
        refine last.wpAnyL_goL 6 67 (.bool true) rfl rfl (by kernel_rfl) (by kernel_rfl) (by kernel_rfl) (by kernel_rfl) (fun _ _ _ h => h) HS2.out (by rfl) (fun W' hW' => by go_simp) ?_
        dsimp only [List.set_cons_succ, List.set_cons_zero]
        refine last.wpAnyL_goL 7 68 (.bool true) rfl rfl (by kernel_rfl) (by kernel_rfl) (by kernel_rfl) (by kernel_rfl) (fun _ _ _ h => h) HS2.out (by rfl) (fun W' hW' => by go_simp) ?_
        dsimp only [List.set_cons_succ, List.set_cons_zero]
        refine last.wpAnyL_goL 8 69 (.int .i64 k) rfl rfl (by kernel_rfl) (by kernel_rfl) (by kernel_rfl) (by kernel_rfl) (fun _ _ _ h => h) HS2.out (by rfl) (fun W' hW' => by go_simp) ?_
        dsimp only [List.set_cons_succ, List.set_cons_zero]
        refine last.wpAnyL_goL 9 70 (.agg #[.int .i64 r.client, .int .i64 r.number, .int .i64 r.object, .int .i64 r.version, .string ⟨r.data.toArray⟩, .int .i64 r.epoch]) rfl rfl (by kernel_rfl) (by kernel_rfl) (by kernel_rfl) (by kernel_rfl) (fun _ _ _ h => h) HS2.out (by rfl) (fun W' hW' => by have e0 := hW'.1.cell 0; have e1 := hW'.1.cell 1; have e2 := hW'.1.cell 2; have e3 := hW'.1.cell 3; have e4 := hW'.1.cell 4; have e5 := hW'.1.cell 5; simp only [List.getElem?_toArray, List.getElem?_cons_zero, List.getElem?_cons_succ] at e0 e1 e2 e3 e4 e5; go_simp) ?_
        dsimp only [List.set_cons_succ, List.set_cons_zero]
        refine last.wpAnyL_goL 11 72 (.string s) rfl rfl (by kernel_rfl) (by kernel_rfl) (by kernel_rfl) (by kernel_rfl) (fun _ _ _ h => h) HS2.out (by rfl) (fun W' hW' => by go_simp) ?_
        dsimp only [List.set_cons_succ, List.set_cons_zero]
        have TA := text_any T k hk r (right_small HR.out) W2 HS2.out.2.1
        obtain ⟨tx, htx⟩ : ∃ tx : ByteArray, tx = ⟨(text T k r).toArray⟩ := ⟨_, rfl⟩
        rw [← htx] at TA
        have HTX := Lib.hid htx
        clear htx
        refine last.wpAnyL_oneL (i := 10) (by kernel_rfl) (by simp only [List.getElem?_toArray, List.getElem?_cons_succ, List.getElem?_cons_zero]; exact rfl) fun K hK => ?_
        refine (if_pos (by rfl)).mpr ?_
        go_simp
        refine TA.mono ?_
        rintro e W3 ⟨rfl, hb3⟩
        have HS3 := Lib.hid (HS2.out.below hb3)
        refine hK.out _ _ (fun _ => HS3.out) ?_
        clear hK K TA
        refine last.wpAnyL_goL 12 73 (.bool (tx.toList == s.toList)) rfl rfl (by kernel_rfl) (by kernel_rfl) (by kernel_rfl) (by kernel_rfl) (fun _ _ _ h => h) HS3.out (by rfl) (fun W' hW' => by go_simp) ?_
        dsimp only [List.set_cons_succ, List.set_cons_zero]
        refine last.wpAnyL_goL 13 74 (.bool (tx.toList == s.toList)) rfl rfl (by kernel_rfl) (by kernel_rfl) (by kernel_rfl) (by kernel_rfl) (fun _ _ _ h => h) HS3.out (by rfl) (fun W' hW' => by go_simp) ?_
        dsimp only [List.set_cons_succ, List.set_cons_zero]
        obtain ⟨zc', hz', hA'⟩ := HS3.out.2.2.1
        refine last.wpAnyL_oneL (i := 14) (by kernel_rfl) (by simp only [List.getElem?_toArray, List.getElem?_cons_succ, List.getElem?_cons_zero]; exact rfl) fun K hK => ?_
        refine (if_pos (by rfl)).mpr ?_
        refine wp_store_row 38 (.tmp 4) (.tmp 61) rfl w.heap.size #[.int .i64 r.client, .int .i64 r.number, .int .i64 r.object, .int .i64 r.version, .string ⟨r.data.toArray⟩, .int .i64 r.epoch] rfl rfl 38 zc' hA' (by kernel_rfl) hz' (by kernel_rfl) ?_
        have hb4 : Below w.heap.size w (W3.setRow w.heap.size #[.int .i64 r.client, .int .i64 r.number, .int .i64 r.object, .int .i64 r.version, .string ⟨r.data.toArray⟩, .int .i64 r.epoch]) := below_setRow HS3.out.2.2.2 (Nat.le_refl _) _
        have hA4 := hA'.setRow #[.int .i64 r.client, .int .i64 r.number, .int .i64 r.object, .int .i64 r.version, .string ⟨r.data.toArray⟩, .int .i64 r.epoch]
        refine hK.out _ _ (fun _ => ⟨HS3.out.1.setRow_far (by have := HB.out.size; have := hb1.size; have := HR1.out.lt; omega) _, HK.out.below hb4, ⟨_, rfl, hA4⟩, hb4⟩) ?_
        clear hK K
        refine last.wpAnyL_oneL (i := 15) (by kernel_rfl) (by simp only [List.getElem?_toArray, List.getElem?_cons_succ, List.getElem?_cons_zero]; exact rfl) fun K hK => ?_
        refine (if_pos (by rfl)).mpr ?_
        go_simp
        refine hK.out _ _ (fun h => absurd rfl h) ?_
        refine last.wpAnyL_done (by kernel_rfl) ?_ _
        go_wp2
        refine parse_ret (g := w.heap.size) (r' := r) (ok := tx.toList == s.toList) rfl rfl rfl hA4 hb4 ?_ (fun _ => rfl)
        have e1 : tx.toList = text T k r := by rw [Lib.toList_data, HTX.out]
        have e2 : s.toList = s.data.toList := Lib.toList_data s
        rw [e1, e2]
        by_cases he : s.data.toList = text T k r
        · rw [he]; simp
        · rw [decide_eq_false he]; exact beq_eq_false_iff_ne.2 (fun e => he e.symm)
end Go.Proofs.YtadjbloccjbegaaGreatDoor.wal
