/-
  Contracts of the walks of the reference's Encode.
-/
import Derived.Test.YthldfogmmjompaaDoorWire3
import Derived.Test.YthldfogmmjompaaDoorTerms
import Derived.Deep.RegionLaw
namespace Go.Proofs.YthldfogmmjompaaDoor.refw
open Go.RowKit Go.Proofs.YthldfogmmjompaaDoor.heap Go.Proofs.YthldfogmmjompaaDoor.wire Go.Proofs.YthldfogmmjompaaDoor.clockTerms

theorem own_of_has {w : World} {g : Nat} {t : TypeId} {l : List Value} {base : Nat} (h : Has w g (.cells l.toArray t)) (hb : base ≤ g) (hl : l.length ≤ maxLen) :
    w.ownsRow base t 1 (.slice (some ⟨g, 0, none⟩) l.length l.length) l.length l :=
  ⟨by simp, .inr ⟨g, l.length, l.toArray, rfl, hb, h, Nat.le_refl _, hl, by simp, by simp⟩⟩
theorem own_below {w w' : World} {base : Nat} {e : TypeId} {size n : Nat} {v : Value} {xs : List Value} (h : w.ownsRow base e size v n xs) (hb : Below w.heap.size w w') : w'.ownsRow base e size v n xs := by
  refine ⟨h.1, ?_⟩
  rcases h.2 with h2 | ⟨g, cap, cur, h1, h2, h3, h4⟩
  · exact .inl h2
  · exact .inr ⟨g, cap, cur, h1, h2, (hb.block g (Has.lt (w := w) (g := g) h3)).trans h3, h4⟩
theorem len_byte (n : Nat) (h : n < 128) : Value.int .u8 (IntKind.u8.wrap (n : Int)) = B (loB n) := by
  have e : IntKind.u8.wrap (n : Int) = (n : Int) := by simp [IntKind.wrap_u8]; omega
  rw [e, B, ← lo_byte n h]
theorem rem_byte (q : Nat) (_h : 128 ≤ q) : ((q : Int) % 128) + 128 = ((hiB q).toNat : Int) := by
  simp [hiB]
  omega

set_option maxHeartbeats 1000000 in
set_option maxRecDepth 100000 in
theorem number_any (f : Nat) : ∀ (n : Nat) (w : World), f ≤ 6 → n ≤ 1099511627776 → n < 128 ^ (f + 1) →
    Calls Tryd.prog 55 #[.int .i64 n] w fun e w' => ∃ v k, e = .returned v ∧ w'.ownsRow w.heap.size 5 1 v k ((numF f n).map B) ∧ Below w.heap.size w w' := by
  obtain ⟨i0, hi0, hz0, hz1, hz2⟩ := info_parts info5
  have base (f n : Nat) (w : World) (h' : n < 128) : Calls Tryd.prog 55 #[.int .i64 n] w fun e w' => ∃ v k, e = .returned v ∧ w'.ownsRow w.heap.size 5 1 v k ((numF f n).map B) ∧ Below w.heap.size w w' := by
    have e : numF f n = [loB n] := by cases f <;> simp [numF, h', loB]
    have H : Hid (Has (w.alloc (.cells #[.int .u8 n] 5)) w.heap.size (.cells ([B (loB n)].toArray) 5)) := by
      show Has _ _ _
      rw [show B (loB n) = .int .u8 n from by rw [B, ← lo_byte n h']]
      exact Has.new w _
    rw [e]
    clear e
    go_enter Tryd.func55, Tryd.ntmps55
    go_wp2_with fail
    go_ret
    exact ⟨_, 1, rfl, own_of_has (l := [B (loB n)]) H.out (Nat.le_refl _) (by simp [maxLen]), (Below.refl _ _).alloc (Nat.le_refl _) _⟩
  induction f with
  | zero =>
    intro n w _ hn h
    exact base 0 n w (by simpa using h)
  | succ f ih =>
    intro n w hf hn h
    by_cases hlt : n < 128
    · exact base (f + 1) n w hlt
    · have hd : n / 128 < 128 ^ (f + 1) := by
        have e : 128 ^ (f + 1 + 1) = 128 ^ (f + 1) * 128 := Nat.pow_succ ..
        rw [e] at h
        exact Nat.div_lt_of_lt_mul (by omega)
      have C := Lib.hid (ih (n / 128) (w.alloc (.cells #[.int .u8 ((n : Int) % 128 + 128)] 5)) (by omega) (by omega) hd)
      have e : numF (f + 1) n = hiB n :: numF f (n / 128) := by simp [numF, hlt, hiB]
      have H : Hid (Has (w.alloc (.cells #[.int .u8 ((n : Int) % 128 + 128)] 5)) w.heap.size (.cells ([B (hiB n)].toArray) 5)) := by
        show Has _ _ _
        rw [show B (hiB n) = .int .u8 ((n : Int) % 128 + 128) from by rw [B, ← rem_byte n (by omega)]]
        exact Has.new w _
      have HL := Lib.hid (numF_len f (n / 128))
      have HNE := Lib.hid (numF_ne f (n / 128))
      rw [e]
      clear e ih h hd base
      go_enter Tryd.func55, Tryd.ntmps55
      go_wp2_with fail
      rw [show ((n : Int) / 128) = ((n / 128 : Nat) : Int) from by omega]
      refine C.out.mono ?_
      rintro e w2 ⟨v, k, rfl, hown, hb⟩
      rw [World.size_alloc] at hown hb
      have HOWN := Lib.hid hown
      obtain ⟨g, cap, rfl, hg, hglt, hk, hkc, hcm, hcell⟩ := own_shape hown (by simpa using HNE.out)
      rw [List.length_map] at hk
      have hs2 := hb.size
      rw [World.size_alloc] at hs2
      have hk7 : k ≤ 7 := by have := HL.out; omega
      have HD := Lib.hid (own_of_has (l := [B (hiB n)]) (base := w.heap.size) (H.out.below hb (by simp)) (Nat.le_refl _) (by simp [maxLen]))
      have HCE := Lib.hid hcell
      have HK := Lib.hid hk
      clear hown hcell hk
      go_wp2_with (at_builtin; refine wpList_append_own _ rfl (.tmp 12) (.tmp 15) 33 rfl w.heap.size 5 i0 (.int .u8 0) 1 1 Tryd.underlying33 hi0 hz0 hz1 hz2 rfl (by decide) _ 1 _ rfl HD.out ⟨g, 0, none⟩ k cap ((numF f (n / 128)).map B) rfl ?c0 ?c1 ?c2 ?c3 ?c4 ?c5 ?_)
      case c0 => rw [List.length_map, HK.out, Nat.mul_one]
      case c1 =>
        intro j u hj
        rw [show (⟨g, 0, none⟩ : Addr).add j = ⟨g, j, none⟩ from by by_cases h0 : j = 0 <;> simp [Addr.add, h0]]
        exact HCE.out j u hj
      case c2 => exact B_one _
      case c3 => unfold maxLen; omega
      case c4 => omega
      case c5 => omega
      intro v3 w3 hown3 hg3 _
      have HO3 := Lib.hid hown3
      have hb3 : Below w.heap.size w w3 := (((Below.refl _ _).alloc (Nat.le_refl _) _).trans (hb.mono (by omega))).grown hg3 (by omega) (own_block_ge HD.out)
      clear hown3 hg3
      go_wp2
      go_ret
      exact ⟨_, _, rfl, HO3.out, hb3⟩

/-- append onto an owned row, as one step of a region that draws its order. -/
theorem step_own {ops : Array Oper} {o : Oper} {a : Act} {w : World} {K : Act → World → Prop} {Q : Exit → Act → World → Prop} {E : Prop} (hgd : o.guard = none) (s x : Operand) (t : TypeId)
    (ho : o.op = .call { callee := .builtin .append, args := #[s, x], argTypes := #[t, t] })
    (base : Nat) (e : TypeId) (i : TypeInfo) (z : Value) (size bytes : Nat) (ht : Tryd.prog.underlying t = some (.slice e)) (hi : Tryd.prog.info? e = some i) (hz : i.zero = some z)
    (hsize : i.size = size) (hby : i.bytes = bytes) (hzs : z.cells.size = size) (hsz : 0 < size)
    (v : Value) (n : Nat) (xs : List Value) (hs : a.eval s = v) (hown : w.ownsRow base e size v n xs)
    (ad : Addr) (m c : Nat) (news : List Value) (hx : a.eval x = .slice (some ad) m c) (hl : news.length = m * size) (hnews : ∀ j u, news[j]? = some u → w.cell? (ad.add j) = some u) (h1 : ∀ u ∈ news, u.oneCell' = true)
    (h63 : n + m ≤ maxLen) (hbytes : (n + m) * bytes ≤ 140737488355328) (hbase : base ≤ w.heap.size)
    (h : ∀ v' w', w'.ownsRow base e size v' (n + m) (xs ++ news) → w.grownBy w' v.ownBlock → K (a.put o.dst v') w') :
    if Region.wanted o (yielded ops a.tmps) = true then Oper.wp Tryd.prog o a w K Q else E := by
  rw [if_pos (by simp [Region.wanted, hgd])]
  exact wp_append_own w s x t ho base e i z size bytes ht hi hz hsize hby hzs hsz v n xs hs hown ad m c news hx hl hnews h1 h63 hbytes hbase fun v' w' h2 h3 _ => h v' w' h2 h3
theorem step_own_str {ops : Array Oper} {o : Oper} {a : Act} {w : World} {K : Act → World → Prop} {Q : Exit → Act → World → Prop} {E : Prop} (hgd : o.guard = none) (sl x : Operand) (t u : TypeId)
    (ho : o.op = .call { callee := .builtin .append, args := #[sl, x], argTypes := #[t, u] })
    (base : Nat) (e : TypeId) (i : TypeInfo) (ht : Tryd.prog.underlying t = some (.slice e)) (hu : Tryd.prog.underlying u = some .string) (hi : Tryd.prog.info? e = some i) (hz : i.zero = some (.int .u8 0))
    (hsize : i.size = 1) (hby : i.bytes = 1)
    (v : Value) (n : Nat) (xs : List Value) (hs : a.eval sl = v) (hown : w.ownsRow base e 1 v n xs) (s : ByteArray) (hx : a.eval x = .string s)
    (h63 : n + s.size ≤ maxLen) (hbytes : n + s.size ≤ 140737488355328) (hbase : base ≤ w.heap.size)
    (h : ∀ v' w', w'.ownsRow base e 1 v' (n + s.size) (xs ++ Lib.strCells s) → w.grownBy w' v.ownBlock → K (a.put o.dst v') w') :
    if Region.wanted o (yielded ops a.tmps) = true then Oper.wp Tryd.prog o a w K Q else E := by
  rw [if_pos (by simp [Region.wanted, hgd])]
  obtain ⟨v', w', hr, h2, h3, _⟩ := Lib.run_append_own_string (P := Tryd.prog) w base t u o.type e i ht hu hi hz hsize hby v n xs hown s h63 hbytes hbase
  unfold Oper.wp execOp
  simp only [ho, resolve, invoke, builtin, Sem.run_bind, Sem.run_pure, Result.andThen_ok, List.map_toArray, List.map_cons, List.map_nil, hs, hx, hr]
  exact h v' w' h2 h3

def ints7 (a1 a2 a3 a4 a5 a6 a7 : Int) : Array Value := #[.int .i64 a1, .int .i64 a2, .int .i64 a3, .int .i64 a4, .int .i64 a5, .int .i64 a6, .int .i64 a7]
set_option maxHeartbeats 1000000 in
set_option maxRecDepth 100000 in
theorem list_any (a1 a2 a3 a4 a5 a6 a7 : Int) (l : Bool) (s : ByteArray) (w : World) :
    Calls Tryd.prog 54 #[.agg (msgCells a1 a2 a3 a4 a5 a6 a7 l s)] w fun e w' => e = .returned (.slice (some ⟨w.heap.size + 1, 0, none⟩) 7 7) ∧ w' = (w.alloc (.cells (msgCells a1 a2 a3 a4 a5 a6 a7 l s) 36)).alloc (.cells (ints7 a1 a2 a3 a4 a5 a6 a7) 3) := by
  go_enter Tryd.func54, Tryd.ntmps54
  go_wp2
  go_ret
  exact ⟨rfl, rfl⟩
theorem ints_cell {w : World} {g : Nat} {a1 a2 a3 a4 a5 a6 a7 : Int} (h : Has w g (.cells (ints7 a1 a2 a3 a4 a5 a6 a7) 3)) (k : Nat) (hk : k < 7) :
    w.cell? ⟨g, k, none⟩ = some (.int .i64 ([a1, a2, a3, a4, a5, a6, a7].getD k 0)) := by
  rw [h.cell]
  match k, hk with
  | 0, _ | 1, _ | 2, _ | 3, _ | 4, _ | 5, _ | 6, _ => rfl

theorem RD_of_own {w : World} {base : Nat} {v : Value} {n : Nat} {l : List UInt8} (h : w.ownsRow base 5 1 v n (l.map B)) (hne : l ≠ []) :
    ∃ g cap, v = .slice (some ⟨g, 0, none⟩) l.length cap ∧ RD w w.heap.size (some ⟨g, 0, none⟩) l.length l ∧ l.length ≤ cap := by
  obtain ⟨g, cap, rfl, hg, hlt, hn, hc, _, hcell⟩ := own_shape h (by simpa using hne)
  rw [List.length_map] at hn
  subst hn
  refine ⟨g, cap, rfl, ⟨rfl, fun _ => ⟨g, 0, rfl, hlt, fun j c hj => ?_⟩⟩, hc⟩
  rw [Nat.zero_add]
  exact hcell j _ (by rw [List.getElem?_map, hj]; rfl)

/-- What the reference's Encode leaves. -/
def EncPost (m : Msg) (w : World) (e : Ending) (w' : World) : Prop :=
  (m.right = true → ∃ g cap, e = .returned (.tuple #[.slice (some ⟨g, 0, none⟩) (encB m).length cap, .int .i64 0]) ∧ RD w' w'.heap.size (some ⟨g, 0, none⟩) (encB m).length (encB m) ∧ (encB m).length ≤ cap) ∧
  (m.right = false → e = .returned (.tuple #[.slice none 0 0, .int .i64 1])) ∧ Below w.heap.size w w'
theorem EncPost.yes {m : Msg} {w w' : World} {e : Ending} {v : Value} {n base : Nat} (hr : m.right = true) (he : e = .returned (.tuple #[v, .int .i64 0])) (ho : w'.ownsRow base 5 1 v n ((encB m).map B)) (hb : Below w.heap.size w w') : EncPost m w e w' := by
  obtain ⟨g, cap, rfl, h1, h2⟩ := RD_of_own ho (enc_ne m)
  exact ⟨fun _ => ⟨g, cap, he, h1, h2⟩, (fun h => by rw [hr] at h; cases h), hb⟩
theorem EncPost.no {m : Msg} {w w' : World} {e : Ending} (hr : m.right = false) (he : e = .returned (.tuple #[.slice none 0 0, .int .i64 1])) (hb : Below w.heap.size w w') : EncPost m w e w' :=
  ⟨(fun h => by rw [hr] at h; cases h), fun _ => he, hb⟩

set_option maxHeartbeats 2000000 in
set_option maxRecDepth 100000 in
theorem rEncode_any (m : Msg) (w : World) (hs : m.data.length ≤ 9223372036854775807) :
    Calls Tryd.prog 16 #[m.val] w (EncPost m w) := by
  obtain ⟨i0, hi0, hz0, hz1, hz2⟩ := info_parts info5
  obtain ⟨a1, a2, a3, a4, a5, a6, a7, l, s⟩ := m
  simp only at hs
  unfold Msg.val
  by_cases c1 : 1 ≤ a1 ∧ a1 ≤ 9
  · obtain ⟨c1, c2⟩ := c1
    by_cases c3 : s.length ≤ 20
    · have e : Msg.right { kind := a1, client := a2, number := a3, epoch := a4, session := a5, object := a6, version := a7, lease := l, data := s } = [a1, a2, a3, a4, a5, a6, a7].all okN := by
        simp [Msg.right, c1, c2, c3, Msg.nums]
      have HE := Lib.hid e
      clear e
      go_enter Tryd.func16, Tryd.ntmps16
      go_wp2_with fail
      refine (in_yes _ _ _ _ c1 c2).mono ?_
      rintro e w' ⟨rfl, rfl⟩
      go_wp2_with fail
      refine (list_any _ _ _ _ _ _ _ _ _ _).mono ?_
      rintro e w2 ⟨rfl, hw2⟩
      have HM : Hid (Has w2 w.heap.size (.cells (msgCells a1 a2 a3 a4 a5 a6 a7 l ⟨s.toArray⟩) 36)) := by
        show Has _ _ _
        rw [hw2]; exact ((Has.new w _).alloc _).alloc _
      have HI : Hid (Has w2 (w.heap.size + 2) (.cells (ints7 a1 a2 a3 a4 a5 a6 a7) 3)) := by
        show Has _ _ _
        have := Has.new ((w.alloc (.cells (msgCells a1 a2 a3 a4 a5 a6 a7 l ⟨s.toArray⟩) 36)).alloc (.cells (msgCells a1 a2 a3 a4 a5 a6 a7 l ⟨s.toArray⟩) 36)) (.cells (ints7 a1 a2 a3 a4 a5 a6 a7) 3)
        rw [World.size_alloc, World.size_alloc] at this
        rw [hw2]; exact this
      have hs2 : w2.heap.size = w.heap.size + 3 := by rw [hw2]; simp
      have hb2 : Below w.heap.size w w2 := by rw [hw2]; exact (((Below.refl _ _).alloc (Nat.le_refl _) _).alloc (by simp) _).alloc (by simp; omega) _
      have HS2 := Lib.hid hs2
      clear hw2 hs2
      go_wp2_with fail
      go_loopw [4, 6, 20] (fun v _ i wr => ∃ k n : Nat, k ≤ 7 ∧ i = .int .i64 k ∧ n ≤ 7 * k ∧ ([a1, a2, a3, a4, a5, a6, a7].take k).all okN = true ∧ wr.ownsRow (w.heap.size + 3) 5 1 v n ((numsB ([a1, a2, a3, a4, a5, a6, a7].take k)).map B) ∧ Below (w.heap.size + 3) w2 wr) (fun _ _ i _ => 7 - (intOf i).toNat)
      case atStart => exact ⟨0, 0, by omega, rfl, by omega, rfl, ⟨rfl, .inl ⟨rfl, rfl⟩⟩, Below.refl _ _⟩
      case round =>
        obtain ⟨k, n, hk, rfl, hn, hall, hown, hbel⟩ := hrel
        have HALL := Lib.hid hall
        have HO := Lib.hid hown
        clear hall hown
        have hsr : w.heap.size + 3 ≤ wr.heap.size := by have := hbel.size; have := HS2.out; omega
        have HBW : Hid (Below w.heap.size w wr) := hb2.trans (hbel.mono (by omega))
        by_cases hlt : k < 7
        · have c1 := (hbel.cell (p := ⟨w.heap.size + 2, k, none⟩) (by simp)).trans (ints_cell HI.out k hlt)
          have hd : decide ((k : Int) < 7) = true := by simp; omega
          generalize hxe : [a1, a2, a3, a4, a5, a6, a7].getD k 0 = x at c1
          have HX := Lib.hid hxe
          clear hxe
          by_cases hok : 0 ≤ x ∧ x ≤ 1099511627776
          · obtain ⟨x0, xM⟩ := hok
            obtain ⟨x, rfl⟩ := Int.eq_ofNat_of_zero_le x0
            have hnum : x < 128 ^ (6 + 1) := by
              have : (128 ^ (6 + 1) : Nat) = 562949953421312 := by decide
              omega
            have C := Lib.hid (number_any 6 x wr (by omega) (by omega) hnum)
            clear hnum
            go_wp2_with fail
            refine (in_yes _ _ _ _ (by omega) (by omega)).mono ?_
            rintro e w' ⟨rfl, rfl⟩
            go_wp2_with fail
            refine C.out.mono ?_
            rintro e w4 ⟨u, j, rfl, hown4, hb4⟩
            obtain ⟨g, cap, rfl, hg, hglt, hj, hjc, hcm, hcell⟩ := own_shape hown4 (by have := numF_ne 6 x; simpa using this)
            rw [List.length_map] at hj
            have hj7 : j ≤ 7 := by have := numF_len 6 x; omega
            have hs4 := hb4.size
            have HD := Lib.hid (own_below HO.out hb4)
            have HCE := Lib.hid hcell
            have HJ := Lib.hid hj
            clear hown4 hcell hj
            go_wp2_with (at_builtin; refine wpList_append_own _ rfl (.tmp 27) (.tmp 29) 33 rfl (w.heap.size + 3) 5 i0 (.int .u8 0) 1 1 Tryd.underlying33 hi0 hz0 hz1 hz2 rfl (by decide) _ _ _ rfl HD.out ⟨g, 0, none⟩ j cap ((numF 6 x).map B) rfl ?d0 ?d1 ?d2 ?d3 ?d4 ?d5 ?_)
            case d0 => rw [List.length_map, HJ.out, Nat.mul_one]
            case d1 =>
              intro i u hi
              rw [show (⟨g, 0, none⟩ : Addr).add i = ⟨g, i, none⟩ from by by_cases h0 : i = 0 <;> simp [Addr.add, h0]]
              exact HCE.out i u hi
            case d2 => exact B_one _
            case d3 => unfold maxLen; omega
            case d4 => omega
            case d5 => omega
            intro v5 w5 hown5 hg5 _
            have hb5 : Below (w.heap.size + 3) w2 w5 := (hbel.trans (hb4.mono (by omega))).grown hg5 (by omega) (own_block_ge HD.out)
            have hk5 : (numsB ([a1, a2, a3, a4, a5, a6, a7].take (k + 1))).map B = (numsB ([a1, a2, a3, a4, a5, a6, a7].take k)).map B ++ (numF 6 x).map B := by
              have e0 : [a1, a2, a3, a4, a5, a6, a7].take (k + 1) = [a1, a2, a3, a4, a5, a6, a7].take k ++ [(x : Int)] := by
                rw [List.take_succ_eq_append_getElem (by simpa using hlt), ← HX.out]
                simp [List.getD, hlt]
              rw [e0]
              simp [numsB, numB]
            have hall5 : ([a1, a2, a3, a4, a5, a6, a7].take (k + 1)).all okN = true := all_take_succ _ k HALL.out (by rw [HX.out]; simp [okN]; omega) (by simpa using hlt)
            have HO5 := Lib.hid hown5
            have HK5 := Lib.hid hk5
            have HA5 := Lib.hid hall5
            clear hown5 hg5 hk5 hall5
            go_wp2
            go_roundw
            case rel => exact ⟨k + 1, n + j, by omega, by go_num, by omega, HA5.out, by rw [HK5.out]; exact HO5.out, hb5⟩
            case measure => simp [intOf]; omega
          · have hno : x < 0 ∨ 1099511627776 < x := by omega
            go_wp2_with fail
            refine (in_no _ _ _ _ hno).mono ?_
            rintro e w' ⟨rfl, rfl⟩
            go_wp2_with fail
            go_ret2
            exact EncPost.no (by rw [HE.out]; exact all_no _ k (by rw [HX.out]; simp [okN]; omega) (by simpa using hlt)) rfl HBW.out
        · obtain rfl : k = 7 := by omega
          have c7 : wr.cell? ⟨w.heap.size, 7, none⟩ = some (.bool l) := (hbel.cell (p := ⟨w.heap.size, 7, none⟩) (by simp)).trans (HM.out.cell 7)
          have c8 : wr.cell? ⟨w.heap.size, 8, none⟩ = some (.string ⟨s.toArray⟩) := (hbel.cell (p := ⟨w.heap.size, 8, none⟩) (by simp)).trans (HM.out.cell 8)
          cases l
          · go_wp2_with (at_builtin; refine wpList_append_own _ rfl (.tmp 37) (.tmp 38) 33 rfl (w.heap.size + 3) 5 i0 (.int .u8 0) 1 1 Tryd.underlying33 hi0 hz0 hz1 hz2 rfl (by decide) _ _ _ rfl (HO.out.alloc _) ⟨wr.heap.size, 0, none⟩ 1 1 [B (leaseB false)] rfl rfl ?c1 ?c2 ?c3 ?c4 ?c5 ?_)
            case c1 => exact one_cell rfl
            case c2 => exact B_one [_]
            case c3 => unfold maxLen; omega
            case c4 => omega
            case c5 => simp; omega
            intro v2 w3 hown3 hg3 _
            have hb3 : Below (w.heap.size + 3) w2 w3 := (hbel.alloc hsr _).grown hg3 (by simp; omega) (own_block_ge HO.out)
            have hs3 : w.heap.size + 3 ≤ w3.heap.size := by have := hb3.size; have := HS2.out; omega
            have hl3 : w.heap.size < w3.heap.size := by omega
            have d8 : w3.cell? ⟨w.heap.size, 8, none⟩ = some (.string ⟨s.toArray⟩) := (hb3.cell (p := ⟨w.heap.size, 8, none⟩) (by simp)).trans (HM.out.cell 8)
            have HO3 := Lib.hid hown3
            have hsz : (ByteArray.mk s.toArray).size = s.length := rfl
            clear hown3 c7 c8 hg3
            go_wp2
            go_region_law (first
              | (refine step_own rfl (.tmp 40) (.tmp 45) 33 rfl (w.heap.size + 3) 5 i0 (.int .u8 0) 1 1 Tryd.underlying33 hi0 hz0 hz1 hz2 rfl (by decide) v2 _ _ rfl (HO3.out.alloc _) ⟨w3.heap.size, 0, none⟩ 1 1 [B (loB s.length)] rfl rfl (one_cell (len_byte s.length (by omega))) (B_one [_]) (by unfold maxLen; omega) (by omega) (by simp; omega) ?_
                 intro v4 w4 hown4 hg4
                 have hb4 : Below (w.heap.size + 3) w2 w4 := by first | exact (hb3.alloc hs3 _).grown hg4 (by simp; omega) (own_block_ge HO3.out) | exact (hb3.alloc hs3 _).drew.grown hg4 (by simp; omega) (own_block_ge HO3.out)
                 have hs4 : w.heap.size + 3 ≤ w4.heap.size := by have := hb4.size; have := HS2.out; omega
                 have e8 : w4.cell? ⟨w.heap.size, 8, none⟩ = some (.string ⟨s.toArray⟩) := (hb4.cell (p := ⟨w.heap.size, 8, none⟩) (by simp)).trans (HM.out.cell 8)
                 have HO4 := Lib.hid hown4
                 clear hown4 hg4)
              | (refine step_own_str rfl (.tmp 46) (.tmp 48) 33 9 rfl (w.heap.size + 3) 5 i0 Tryd.underlying33 Tryd.underlying9 hi0 hz0 hz1 hz2 v4 _ _ rfl HO4.out ⟨s.toArray⟩ rfl (by unfold maxLen; omega) (by omega) (by omega) ?_
                 intro v5 w5 hown5 hg5
                 have hb5 : Below (w.heap.size + 3) w2 w5 := by first | exact hb4.grown hg5 (by omega) (own_block_ge HO4.out) | exact hb4.drew.grown hg5 (by simp; omega) (own_block_ge HO4.out)
                 have HO5 := Lib.hid hown5
                 clear hown5 hg5))
            all_goals
              have hfin : w5.ownsRow (w.heap.size + 3) 5 1 v5 (n + 1 + 1 + s.length) ((encB { kind := a1, client := a2, number := a3, epoch := a4, session := a5, object := a6, version := a7, lease := false, data := s }).map B) := by
                refine cast (congrArg (fun xs => w5.ownsRow (w.heap.size + 3) 5 1 v5 (n + 1 + 1 + s.length) xs) ?_) HO5.out
                simp [encB, strCells_B, Msg.nums, loB]
              have HF := Lib.hid hfin
              clear hfin
              go_wp2
              go_ret2
              exact EncPost.yes (by rw [HE.out]; exact HALL.out) rfl HF.out (hb2.trans (hb5.mono (by omega)))
          · go_wp2_with (at_builtin; refine wpList_append_own _ rfl (.tmp 34) (.tmp 35) 33 rfl (w.heap.size + 3) 5 i0 (.int .u8 0) 1 1 Tryd.underlying33 hi0 hz0 hz1 hz2 rfl (by decide) _ _ _ rfl (HO.out.alloc _) ⟨wr.heap.size, 0, none⟩ 1 1 [B (leaseB true)] rfl rfl ?c1 ?c2 ?c3 ?c4 ?c5 ?_)
            case c1 => exact one_cell rfl
            case c2 => exact B_one [_]
            case c3 => unfold maxLen; omega
            case c4 => omega
            case c5 => simp; omega
            intro v2 w3 hown3 hg3 _
            have hb3 : Below (w.heap.size + 3) w2 w3 := (hbel.alloc hsr _).grown hg3 (by simp; omega) (own_block_ge HO.out)
            have hs3 : w.heap.size + 3 ≤ w3.heap.size := by have := hb3.size; have := HS2.out; omega
            have hl3 : w.heap.size < w3.heap.size := by omega
            have d8 : w3.cell? ⟨w.heap.size, 8, none⟩ = some (.string ⟨s.toArray⟩) := (hb3.cell (p := ⟨w.heap.size, 8, none⟩) (by simp)).trans (HM.out.cell 8)
            have HO3 := Lib.hid hown3
            have hsz : (ByteArray.mk s.toArray).size = s.length := rfl
            clear hown3 c7 c8 hg3
            go_wp2
            go_region_law (first
              | (refine step_own rfl (.tmp 40) (.tmp 45) 33 rfl (w.heap.size + 3) 5 i0 (.int .u8 0) 1 1 Tryd.underlying33 hi0 hz0 hz1 hz2 rfl (by decide) v2 _ _ rfl (HO3.out.alloc _) ⟨w3.heap.size, 0, none⟩ 1 1 [B (loB s.length)] rfl rfl (one_cell (len_byte s.length (by omega))) (B_one [_]) (by unfold maxLen; omega) (by omega) (by simp; omega) ?_
                 intro v4 w4 hown4 hg4
                 have hb4 : Below (w.heap.size + 3) w2 w4 := by first | exact (hb3.alloc hs3 _).grown hg4 (by simp; omega) (own_block_ge HO3.out) | exact (hb3.alloc hs3 _).drew.grown hg4 (by simp; omega) (own_block_ge HO3.out)
                 have hs4 : w.heap.size + 3 ≤ w4.heap.size := by have := hb4.size; have := HS2.out; omega
                 have e8 : w4.cell? ⟨w.heap.size, 8, none⟩ = some (.string ⟨s.toArray⟩) := (hb4.cell (p := ⟨w.heap.size, 8, none⟩) (by simp)).trans (HM.out.cell 8)
                 have HO4 := Lib.hid hown4
                 clear hown4 hg4)
              | (refine step_own_str rfl (.tmp 46) (.tmp 48) 33 9 rfl (w.heap.size + 3) 5 i0 Tryd.underlying33 Tryd.underlying9 hi0 hz0 hz1 hz2 v4 _ _ rfl HO4.out ⟨s.toArray⟩ rfl (by unfold maxLen; omega) (by omega) (by omega) ?_
                 intro v5 w5 hown5 hg5
                 have hb5 : Below (w.heap.size + 3) w2 w5 := by first | exact hb4.grown hg5 (by omega) (own_block_ge HO4.out) | exact hb4.drew.grown hg5 (by simp; omega) (own_block_ge HO4.out)
                 have HO5 := Lib.hid hown5
                 clear hown5 hg5))
            all_goals
              have hfin : w5.ownsRow (w.heap.size + 3) 5 1 v5 (n + 1 + 1 + s.length) ((encB { kind := a1, client := a2, number := a3, epoch := a4, session := a5, object := a6, version := a7, lease := true, data := s }).map B) := by
                refine cast (congrArg (fun xs => w5.ownsRow (w.heap.size + 3) 5 1 v5 (n + 1 + 1 + s.length) xs) ?_) HO5.out
                simp [encB, strCells_B, Msg.nums, loB]
              have HF := Lib.hid hfin
              clear hfin
              go_wp2
              go_ret2
              exact EncPost.yes (by rw [HE.out]; exact HALL.out) rfl HF.out (hb2.trans (hb5.mono (by omega)))
    · have e : Msg.right { kind := a1, client := a2, number := a3, epoch := a4, session := a5, object := a6, version := a7, lease := l, data := s } = false := by
        simp [Msg.right, c3]
      have HE := Lib.hid e
      clear e
      have c4 : (20 : Int) < s.length := by omega
      go_enter Tryd.func16, Tryd.ntmps16
      go_wp2_with fail
      refine (in_yes _ _ _ _ c1 c2).mono ?_
      rintro e w' ⟨rfl, rfl⟩
      go_wp2_with fail
      go_ret2
      exact EncPost.no HE.out rfl ((Below.refl _ _).alloc (Nat.le_refl _) _)
  · have e : Msg.right { kind := a1, client := a2, number := a3, epoch := a4, session := a5, object := a6, version := a7, lease := l, data := s } = false := by
      simp only [Msg.right, Bool.and_eq_false_iff, decide_eq_false_iff_not]
      omega
    have HE := Lib.hid e
    have c4 : a1 < 1 ∨ 9 < a1 := by omega
    clear e c1
    go_enter Tryd.func16, Tryd.ntmps16
    go_wp2_with fail
    refine (in_no _ _ _ _ c4).mono ?_
    rintro e w' ⟨rfl, rfl⟩
    go_wp2_with fail
    go_ret2
    exact EncPost.no HE.out rfl ((Below.refl _ _).alloc (Nat.le_refl _) _)
end Go.Proofs.YthldfogmmjompaaDoor.refw
