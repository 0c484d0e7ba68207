/-
  What wal needs of Go's library's variables; a record's text.
-/
import Derived.Test.YtadjbloccjbegaaGreatDoorWalA
import Derived.Test.YtadjbloccjbegaaGreatDoorUnqB
import Derived.Test.YtadjbloccjbegaaGreatDoorRow
import Derived.Lib.QuietBelow
import Derived.Shelf.Strconv.Quoted
namespace Go.Proofs.YtadjbloccjbegaaGreatDoor.wal
open Go.RowKit Go.Proofs.YtadjbloccjbegaaGreatDoor.heap Go.Proofs.YtadjbloccjbegaaGreatDoor.own Go.Proofs.YtadjbloccjbegaaGreatDoor.recs
open Go.Proofs.YtadjbloccjbegaaGreatDoor.model (Rec)

theorem tabIs_below {n : String} {g : Nat} {k : IntKind} {zs : List Int} {w w' : World} (hg : Tryz.prog.globalNamed n = some g) (h : Lib.TabIs Tryz.prog w n k zs) (hb : Below w.heap.size w w') : Lib.TabIs Tryz.prog w' n k zs := by
  unfold Lib.TabIs World.var? at h ⊢
  rw [hg] at h ⊢
  simp only [Option.bind_some] at h ⊢
  have hlt : g < w.heap.size := by
    rcases Nat.lt_or_ge g w.heap.size with h' | h'
    · exact h'
    · rw [Array.getElem?_eq_none h'] at h; cases h
  rw [hb.block g hlt]
  exact h
theorem cell_lt {w : World} {g o : Nat} {v : Value} (h : w.cell? ⟨g, o, none⟩ = some v) : g < w.heap.size := by
  rcases Nat.lt_or_ge g w.heap.size with h' | h'
  · exact h'
  · simp [World.cell?, Array.getElem?_eq_none h'] at h
/-- The library's variables that wal's walks read. -/
structure Kit (T : Lib.PrintTabs) (w : World) : Prop where
  tab : Lib.TabIs Tryz.prog w "internal/strconv.uint64pow10" .u64 Lib.pow10Tab
  prt : Lib.PrintTabsAt 7 8 9 10 T w
  utf : unq.U8 w
  err : ∃ ty v, w.cell? ⟨0, 0, none⟩ = some (.iface ty v)
  mx : ∃ m, w.cell? ⟨1, 0, none⟩ = some (.int .i64 m)
theorem Kit.below {T : Lib.PrintTabs} {w w' : World} (h : Kit T w) (hb : Below w.heap.size w w') : Kit T w' := by
  obtain ⟨h1, h2, h3, ⟨ty, v, h4⟩, ⟨m, h5⟩⟩ := h
  exact ⟨tabIs_below (g := 6) (by kernel_rfl) h1 hb, printTabs_below h2 hb, Utf8Tabs_below h3 hb,
    ⟨ty, v, (hb.cell (p := ⟨0, 0, none⟩) (cell_lt h4)).trans h4⟩, ⟨m, (hb.cell (p := ⟨1, 0, none⟩) (cell_lt h5)).trans h5⟩⟩

theorem itoa_any (n : Int) (h0 : -9223372036854775808 ≤ n) (h1 : n ≤ 9223372036854775807) (w : World) (htab : Lib.TabIs Tryz.prog w "internal/strconv.uint64pow10" .u64 Lib.pow10Tab) :
    Calls Tryz.prog 24 #[.int .i64 n] w fun e w' => e = .returned (.string ⟨(Lib.itoa n).toArray⟩) ∧ Below w.heap.size w w' :=
  (Tryz.strconv_Itoa n h0 h1 w htab).mono fun _ _ ⟨he, k, os, hw⟩ => ⟨he, by
    rw [hw]
    exact ⟨rfl, rfl, rfl, by simp [Go.Sort.grow, World.drewN], fun g hg => by simp [Go.Sort.grow, World.drewN, Array.getElem?_append, hg]⟩⟩
theorem bytes_ext {a b : ByteArray} (h : a.data.toList = b.data.toList) : a = b := by
  obtain ⟨⟨a⟩⟩ := a
  obtain ⟨⟨b⟩⟩ := b
  exact congrArg (fun l => ByteArray.mk ⟨l⟩) h
theorem string_info : (Tryz.prog.info? 9).map (fun i => (i.zero, i.size, i.bytes)) = some (some (.string ⟨#[]⟩), 1, 16) := by kernel_rfl
def strs (l : List (List UInt8)) : List Value := l.map fun b => .string ⟨b.toArray⟩

set_option maxHeartbeats 4000000 in
set_option maxRecDepth 100000 in
theorem text_any (T : Lib.PrintTabs) (k : Nat) (hk : k < 1000) (r : Rec) (hr : Small r) (w : World) (hK : Kit T w) :
    Calls Tryz.prog 16 #[.int .i64 k, recV r] w fun e w' => e = .returned (.string ⟨(text T k r).toArray⟩) ∧ Below w.heap.size w w' := by
  obtain ⟨i0, hi0, iz0, iz1, iz2⟩ := info_parts string_info
  unfold recV
  obtain ⟨s, hs⟩ : ∃ s : ByteArray, s = ⟨r.data.toArray⟩ := ⟨_, rfl⟩
  rw [← hs]
  have HS := Lib.hid hs
  clear hs
  have HR := Lib.hid hr
  obtain ⟨ns, hns⟩ : ∃ ns : List Int, ns = [(k : Int), r.client, r.number, r.object, r.version, r.epoch] := ⟨_, rfl⟩
  have HNS := Lib.hid hns
  have hnl : nums k r = ns.map Lib.itoa := by rw [hns]; rfl
  have hrange : ∀ x ∈ ns, -1 ≤ x ∧ x ≤ 1099511627776 := by
    have := hr.c0; have := hr.c1; have := hr.n0; have := hr.n1; have := hr.o0; have := hr.o1; have := hr.v0; have := hr.v1; have := hr.e0; have := hr.e1
    intro x hx
    rw [hns] at hx
    simp only [List.mem_cons, List.not_mem_nil, or_false] at hx
    rcases hx with rfl | rfl | rfl | rfl | rfl | rfl <;> omega
  have HRG := Lib.hid hrange
  have HNL := Lib.hid hnl
  have HK := Lib.hid hK
  clear hr hns hnl hrange hK
  go_enter Tryz.func16, Tryz.ntmps16
  go_wp2
  obtain ⟨rb, hrb⟩ : ∃ rb, rb = recCells r.client r.number r.object r.version s r.epoch := ⟨_, rfl⟩
  rw [← hrb]
  have hlist : #[.int .i64 (k : Int), .int .i64 r.client, .int .i64 r.number, .int .i64 r.object, .int .i64 r.version, .int .i64 r.epoch] = (ns.map (Value.int .i64)).toArray := by rw [HNS.out]; rfl
  rw [hlist]
  have HRB := Lib.hid hrb
  clear hlist hrb
  have hnl6 : ns.length = 6 := by rw [HNS.out]; rfl
  have hnums : (nums k r).length = 6 := rfl
  go_loopw [22, 5] (fun q22 q5 wr => ∃ (j : Nat), j ≤ 6 ∧ q22 = .int .i64 j ∧ wr.ownsRow (w.heap.size + 2) 9 1 q5 j (strs ((nums k r).take j)) ∧ Has wr w.heap.size (.cells rb 38) ∧ Has wr (w.heap.size + 1) (.cells (ns.map (Value.int .i64)).toArray 3) ∧ Below w.heap.size w wr ∧ w.heap.size + 2 ≤ wr.heap.size) (fun q22 _ _ => 6 - (intOf q22).toNat)
  case atStart =>
    have h1 := Has.new w (.cells rb 38)
    have h2 := Has.new (w.alloc (.cells rb 38)) (.cells (ns.map (Value.int .i64)).toArray 3)
    rw [World.size_alloc] at h2
    exact ⟨0, by omega, rfl, ⟨rfl, .inl ⟨rfl, rfl⟩⟩, h1.alloc _, h2, ((Below.refl _ _).alloc (Nat.le_refl _) _).alloc (by simp) _, by simp⟩
  case round =>
    obtain ⟨j, hj, rfl, hrow, hh1, hh2, hb, hsz⟩ := hrel
    by_cases hlt : j < 6
    · obtain ⟨x, hx⟩ : ∃ x, ns[j]? = some x := ⟨_, List.getElem?_eq_getElem (by omega)⟩
      have hc : wr.cell? ⟨w.heap.size + 1, j, none⟩ = some (.int .i64 x) := by rw [hh2.cell]; simp [hx]
      have hxr := HRG.out x (List.mem_of_getElem? hx)
      have hji : (j : Int) < 6 := by omega
      obtain ⟨z, hz⟩ : ∃ z : ByteArray, z = ⟨(Lib.itoa x).toArray⟩ := ⟨_, rfl⟩
      have IT := itoa_any x (by omega) (by omega) wr (HK.out.below hb).tab
      rw [← hz] at IT
      have HNX : Hid ((nums k r).take (j + 1) = (nums k r).take j ++ [Lib.itoa x]) := Lib.hid (by
        rw [List.take_add_one, HNL.out, List.getElem?_map, hx]; rfl)
      have HZ := Lib.hid hz
      have HR1 := Lib.hid hh1
      have HR2 := Lib.hid hh2
      have HB := Lib.hid hb
      have HROW := Lib.hid hrow
      obtain ⟨L, hL⟩ : ∃ L, L = strs ((nums k r).take j) := ⟨_, rfl⟩
      have HL := Lib.hid hL
      rw [← hL] at hrow
      have HRL := Lib.hid hrow
      clear hx hz hh1 hh2 hb hrow hL
      go_wp2_with (first
        | (go_at_call 24; refine IT.mono ?_; rintro e w1 ⟨rfl, hb1⟩; clear IT; have hw1 := hb1.size; have HRL2 := Lib.hid ((owns_below HRL.out hb1).alloc (.cells #[.string z] 9)))
        | (at_builtin; refine wpList_append_own _ rfl (.tmp 26) (.tmp 29) 60 rfl (w.heap.size + 2) 9 i0 (.string ⟨#[]⟩) 1 16 Tryz.underlying60 hi0 iz0 iz1 iz2 rfl (by decide) _ _ _ rfl HRL2.out ⟨w1.heap.size, 0, none⟩ 1 1 [.string z] rfl rfl ?c1 (by simp [Value.oneCell']) ?c3 ?c4 ?c5 ?_))
      case c1 =>
        intro i v hi
        have hn := Has.new w1 (.cells #[.string z] 9)
        match i, hi with
        | 0, hi =>
          obtain rfl : Value.string z = v := by simpa using hi
          exact hn.cell 0
      case c3 => unfold maxLen; omega
      case c4 => omega
      case c5 => simp; omega
      intro v2 w2 hown2 hg2 _
      go_wp2_with fail
      go_roundw
      case rel =>
        have hge : ∀ g, Value.ownBlock _ = some g → w.heap.size + 2 ≤ g := fun g hg => owns_ge HROW.out g hg
        refine ⟨j + 1, by omega, by go_num, ?_, ((HR1.out.below hb1 HR1.out.lt).alloc _).grown hg2 (fun e => by have := hge _ e.symm; omega), ((HR2.out.below hb1 HR2.out.lt).alloc _).grown hg2 (fun e => by have := hge _ e.symm; omega), ((HB.out.trans (hb1.mono HB.out.size)).alloc (by have := HB.out.size; omega) _).grown hg2 (by have := HB.out.size; simp; omega) (fun i hi => by have := hge _ hi; omega), by have := hg2.size; rw [World.size_alloc] at this; omega⟩
        have e : strs ((nums k r).take (j + 1)) = L ++ [.string z] := by rw [HNX.out, HL.out, HZ.out]; simp [strs]
        rw [e]
        exact hown2
      case measure => simp [intOf]; omega
    · obtain rfl : j = 6 := by omega
      rcases hrow.2 with ⟨-, h0⟩ | ⟨g, cap, cur, rfl, hg0, hg, hc1, hc2, hc3, hc4⟩
      · omega
      obtain ⟨xs, hxs⟩ : ∃ xs : List ByteArray, xs = (nums k r).map fun b => ⟨b.toArray⟩ := ⟨_, rfl⟩
      have hxl : xs.length = 6 := by rw [hxs]; rfl
      have hxm : xs.map (·.data.toList) = nums k r := by rw [hxs, List.map_map]; exact List.map_id _
      have hcell : ∀ (i : Nat) x, xs[i]? = some x → wr.cell? ⟨g, 0 + i, none⟩ = some (.string x) := by
        intro i x hx
        have hi : i < 6 := by rcases Nat.lt_or_ge i 6 with h | h; exact h; rw [List.getElem?_eq_none (by omega)] at hx; cases hx
        rw [Nat.zero_add, (row_cell (w := wr) (n := 6) (size := 1) hg hc4 i (by omega)).1]
        rw [hxs] at hx
        rw [List.getElem?_map] at hx
        rw [strs, List.getElem?_map, List.take_of_length_le (by rw [hnums]; exact Nat.le_refl _)]
        cases hq : (nums k r)[i]? with
        | none => rw [hq] at hx; cases hx
        | some b => rw [hq] at hx; simp at hx; simp [hx]
      obtain ⟨jn, hjn⟩ : ∃ jn : ByteArray, jn = ⟨(Lib.join (nums k r) [32]).toArray⟩ := ⟨_, rfl⟩
      have hbl := body_len T k r (by omega) (by omega) HR.out
      rw [text_join] at hbl
      simp only [List.length_append, List.length_cons, List.length_nil] at hbl
      have hjs : jn.size ≤ 400 := by rw [hjn]; show (Lib.join (nums k r) [32]).toArray.size ≤ 400; rw [List.size_toArray]; omega
      have JO : ∀ W, Below wr.heap.size wr W → Calls Tryz.prog 25 #[.slice (some ⟨g, 0, none⟩) 6 cap, .string ⟨#[32]⟩] W fun e w' => e = .returned (.string jn) ∧ Below W.heap.size W w' := by
        intro W hW
        have h := Tryz.strings_Join g 0 cap xs ⟨#[32]⟩ W (fun i x hx => (hW.cell (p := ⟨g, 0 + i, none⟩) (Has.lt (w := wr) hg)).trans (hcell i x hx)) (Nat.lt_of_lt_of_le (Has.lt (w := wr) hg) hW.size) (by omega) (by omega) (by rw [hxm]; show (Lib.join (nums k r) [32]).length ≤ _; omega)
        rw [hxl, hxm] at h
        rw [hjn]
        exact h
      obtain ⟨qs, hqs⟩ : ∃ qs : ByteArray, qs = strOfNums (Lib.quoteZ T s) := ⟨_, rfl⟩
      have hqq : qs.data.toList = recs.quoted T r.data := by rw [hqs, HS.out]; rfl
      have hqz : qs.size ≤ 400 := by show qs.data.size ≤ 400; rw [← Array.length_toList, hqq]; omega
      have hsz20 : s.size ≤ 20 := by rw [HS.out]; show r.data.toArray.size ≤ 20; rw [List.size_toArray]; exact HR.out.d1
      have QU : ∀ W, Below wr.heap.size wr W → Calls Tryz.prog 26 #[.string s] W fun e w' => e = .returned (.string qs) ∧ Below W.heap.size W w' := by
        intro W hW
        have hKW := (HK.out.below hb).below hW
        rw [hqs]
        exact Tryz.strconv_Quote T s W (by omega) hKW.prt hKW.utf
      have cJ : ∀ d os, Calls Tryz.prog 25 #[.slice (some ⟨g, 0, none⟩) 6 cap, .string ⟨#[32]⟩] (Go.Sort.grow (redrawn wr d) os) fun e w'' => e = .returned (.string jn) ∧ ∃ p : Regrown, w'' = Go.Sort.grow (redrawn wr p.d) p.os := fun d os => Calls.regrown_of (JO _ (below_regrown wr d os))
      have cQ : ∀ d os, Calls Tryz.prog 26 #[.string s] (Go.Sort.grow (redrawn wr d) os) fun e w'' => e = .returned (.string qs) ∧ ∃ p : Regrown, w'' = Go.Sort.grow (redrawn wr p.d) p.os := fun d os => Calls.regrown_of (QU _ (below_regrown wr d os))
      have hd4 : wr.cell? ⟨w.heap.size, 4, none⟩ = some (.string s) := by rw [hh1.cell, HRB.out]; rfl
      have k4 := cell_regrown hd4
      have n1 : ¬ 9223372036854775807 < jn.size + 1 := by omega
      have n2 : ¬ 9223372036854775807 < jn.size + 1 + qs.size := by omega
      have HQQ := Lib.hid hqq
      have HJN := Lib.hid hjn
      have HB := Lib.hid hb
      clear hrow hg hc1 hc2 hc3 hc4 hxs hxl hxm hcell hbl JO QU hqs hqq hjn hh1 hh2 hb hd4
      go_wp2_with fail
      refine wp_region_quiet_below (by kernel_rfl) (by kernel_rfl) ?_
      repeat (quiet_step (first | exact cJ _ _ | exact cQ _ _))
      refine wpQuiet_nil ?_
      intro _ hw'
      obtain ⟨⟨dq, osq⟩, hw''⟩ := hw'
      subst hw''
      obtain ⟨W, hW⟩ : ∃ W, W = Go.Sort.grow (redrawn wr dq) osq := ⟨_, rfl⟩
      have hbW : Below wr.heap.size wr W := by rw [hW]; exact below_regrown wr dq osq
      dsimp only
      rw [← hW]
      obtain ⟨bd, hbd⟩ : ∃ bd, bd = jn ++ ⟨#[32]⟩ ++ qs := ⟨_, rfl⟩
      rw [← hbd]
      have hbdl : bd.data.toList = body T k r := by rw [hbd, text_join]; simp [HQQ.out, HJN.out]
      have e32 : (⟨#[32]⟩ : ByteArray).size = 1 := rfl
      have hbdz : bd.size ≤ 900 := by rw [hbd, ByteArray.size_append, ByteArray.size_append, e32]; omega
      have SU := sum_any bd (by omega) W
      have hsr := sum_range bd.data.toList
      obtain ⟨sm, hsm⟩ : ∃ sm, sm = sumN bd.data.toList := ⟨_, rfl⟩
      rw [← hsm] at SU hsr
      obtain ⟨z, hz⟩ : ∃ z : ByteArray, z = ⟨(Lib.itoa sm).toArray⟩ := ⟨_, rfl⟩
      have IT := itoa_any sm (by omega) (by omega) W ((HK.out.below HB.out).below hbW).tab
      rw [← hz] at IT
      have hzl : z.size ≤ 20 := by rw [hz]; show (Lib.itoa sm).toArray.size ≤ 20; rw [List.size_toArray]; exact itoa_len sm (by omega) (by omega)
      have n3 : ¬ 9223372036854775807 < bd.size + 1 := by omega
      have n4 : ¬ 9223372036854775807 < bd.size + 1 + z.size := by omega
      have HFIN : Hid (bd ++ ⟨#[32]⟩ ++ z = ⟨(text T k r).toArray⟩) := Lib.hid (bytes_ext (by rw [text, ← hbdl, ← hsm, hz]; simp))
      have HBW := Lib.hid hbW
      clear hW hbd hbdl hsm hz hbW cJ cQ k4
      go_wp2_with (first
        | (go_at_call 27; refine SU.mono ?_; rintro e w1 ⟨rfl, rfl⟩)
        | (go_at_call 24; refine IT.mono ?_; rintro e w1 ⟨rfl, hb1⟩))
      go_ret
      refine ⟨?_, (HB.out.trans (HBW.out.mono HB.out.size)).trans (hb1.mono (Nat.le_trans HB.out.size HBW.out.size))⟩
      rw [← HFIN.out]; rfl
end Go.Proofs.YtadjbloccjbegaaGreatDoor.wal
