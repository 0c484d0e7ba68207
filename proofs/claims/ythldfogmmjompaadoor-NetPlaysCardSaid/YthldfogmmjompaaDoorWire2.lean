/-
  Contracts of the walks of wire.Encode.
-/
import Derived.Test.YthldfogmmjompaaDoorWire1
import Derived.OwnWalk
import Derived.Lib.AppendStr
namespace Go.Proofs.YthldfogmmjompaaDoor.wire
open Go.RowKit Go.Proofs.YthldfogmmjompaaDoor.heap

def B (c : UInt8) : Value := .int .u8 c.toNat
theorem info5 : (Tryd.prog.info? 5).map (fun i => (i.zero, i.size, i.bytes)) = some (some (.int .u8 0), 1, 1) := by kernel_rfl

theorem numsB_len (l : List Int) (h : ∀ y ∈ l, 0 ≤ y ∧ y.toNat < 128 ^ 6) : (numsB l).length ≤ 6 * l.length := by
  induction l with
  | nil => simp [numsB]
  | cons y l ih =>
    have e1 := numB_len y.toNat (h y (by simp)).2
    have e2 := ih fun z hz => h z (by simp [hz])
    have e3 : numsB (y :: l) = numB y.toNat ++ numsB l := by simp [numsB]
    rw [e3, List.length_append, List.length_cons]
    omega
theorem numB_two (q : Nat) (h : 128 ≤ q) : 2 ≤ (numB q).length := by
  have e : numB q = UInt8.ofNat (q % 128 + 128) :: numF 5 (q / 128) := by
    simp only [numB, numF]; rw [if_neg (by omega)]
  rw [e]
  have := numF_ne 5 (q / 128)
  cases h2 : numF 5 (q / 128)
  · exact absurd h2 this
  · simp
theorem or_all : ∀ n : Fin 256, bits BinOp.or IntKind.u8 (n.val : Int) 128 = ((n.val % 128 + 128 : Nat) : Int) := by decide +kernel
def hiB (q : Nat) : UInt8 := UInt8.ofNat (q % 128 + 128)
def loB (q : Nat) : UInt8 := UInt8.ofNat q
theorem or_byte (q : Nat) : bits BinOp.or IntKind.u8 ((q : Int) % 256) 128 = ((hiB q).toNat : Int) := by
  have h := or_all ⟨q % 256, Nat.mod_lt _ (by omega)⟩
  have e : ((q : Int) % 256) = ((q % 256 : Nat) : Int) := by omega
  rw [e, h]
  simp [hiB]
  omega
theorem lo_byte (q : Nat) (h : q < 128) : (q : Int) = ((loB q).toNat : Int) := by
  simp [loB]
  omega
theorem one_cell {w : World} {v : Value} {t : TypeId} {u : Value} (hv : v = u) : ∀ (j : Nat) (x : Value), [u][j]? = some x → (w.alloc (.cells #[v] t)).cell? ((⟨w.heap.size, 0, none⟩ : Addr).add j) = some x := by
  subst hv
  intro j x hj
  match j, hj with
  | 0, hj => simp at hj; subst hj; simp [Addr.add]
theorem B_one (l : List UInt8) : ∀ u ∈ l.map B, u.oneCell' = true := by
  intro u hu
  obtain ⟨c, _, rfl⟩ := List.mem_map.1 hu
  rfl

theorem two_cells {w : World} {v v' : Value} {t : TypeId} {u u' : Value} (hv : v = u) (hv' : v' = u') : ∀ (j : Nat) (x : Value), [u, u'][j]? = some x → (w.alloc (.cells #[v, v'] t)).cell? ((⟨w.heap.size, 0, none⟩ : Addr).add j) = some x := by
  subst hv; subst hv'
  intro j x hj
  match j, hj with
  | 0, hj => simp at hj; subst hj; simp [Addr.add]
  | 1, hj => simp at hj; subst hj; simp [Addr.add]
theorem own_block_ge {w : World} {base : Nat} {e : TypeId} {size n : Nat} {v : Value} {xs : List Value} (h : w.ownsRow base e size v n xs) : ∀ g, v.ownBlock = some g → base ≤ g := by
  intro g hg
  rcases h.2 with ⟨rfl, _⟩ | ⟨g', _, _, rfl, h, _⟩
  · cases hg
  · have : g' = g := by simpa [Value.ownBlock] using hg
    omega
theorem own_base {w : World} {base base' : Nat} {e : TypeId} {size n : Nat} {v : Value} {xs : List Value} (h : w.ownsRow base e size v n xs) (hb : base' ≤ base) : w.ownsRow base' e size v n xs := by
  refine ⟨h.1, ?_⟩
  rcases h.2 with h2 | ⟨g', cap, cur, h1, h2, h3⟩
  · exact .inl h2
  · exact .inr ⟨g', cap, cur, h1, by omega, h3⟩
theorem strCells_B (s : List UInt8) : Lib.strCells ⟨s.toArray⟩ = s.map B := by simp [Lib.strCells, B]

set_option maxHeartbeats 1000000 in
set_option maxRecDepth 100000 in
theorem Encode_yes (m : Msg) (w : World) (hr : m.right = true) :
    Calls Tryd.prog 18 #[m.val] w fun e w' => ∃ v n, e = .returned (.tuple #[v, .nilIface]) ∧ w'.ownsRow w.heap.size 5 1 v n ((encB m).map B) ∧ Below w.heap.size w w' := by
  obtain ⟨i0, hi0, hz0, hz1, hz2⟩ := info_parts info5
  have hdl := right_data hr
  have HR := Lib.hid hr
  clear hr
  have R := Lib.hid (right_any m)
  obtain ⟨a1, a2, a3, a4, a5, a6, a7, l, s⟩ := m
  simp only [Msg.val] at R hdl
  unfold Msg.val
  go_enter Tryd.func18, Tryd.ntmps18
  go_wp2_with fail
  refine (R.out _ (by omega)).mono ?_
  rintro e w1 ⟨rfl, hb1⟩
  rw [HR.out]
  have h1 := (Has.new w (.cells (msgCells a1 a2 a3 a4 a5 a6 a7 l ⟨s.toArray⟩) 32)).below hb1 (by simp)
  have hs1 := hb1.size
  rw [World.size_alloc] at hs1
  go_wp2_with fail
  refine (numbers_any _ _).mono ?_
  rintro e w' ⟨rfl, hw2⟩
  have h2 : Has w' w.heap.size _ := hw2 ▸ (h1.alloc (.cells (ptrs w.heap.size) 113)).drew
  have h3 : Has w' w1.heap.size (.cells (ptrs w.heap.size) 113) := hw2 ▸ (Has.new w1 (.cells (ptrs w.heap.size) 113)).drew
  have hb2 : Below w.heap.size w w' := ((Below.refl _ _).alloc (Nat.le_refl _) _).trans ((hb1.mono (by simp)).trans (hw2 ▸ ((Below.refl _ w1).alloc (by omega) _).drew))
  have hs2 : w'.heap.size = w1.heap.size + 1 := by rw [hw2]; simp
  have HS2 := Lib.hid hs2
  clear hs2 hw2 hb1 h1
  have H2 := Lib.hid h2
  have H3 := Lib.hid h3
  clear h2 h3
  go_wp2_with fail
  have ok : ∀ k, k < 7 → 0 ≤ [a1, a2, a3, a4, a5, a6, a7].getD k 0 ∧ [a1, a2, a3, a4, a5, a6, a7].getD k 0 ≤ 1099511627776 := by
    intro k hk
    apply right_nums HR.out
    simp [List.getD, Msg.nums, hk]
  have OK := Lib.hid ok
  clear ok
  go_loopw [4, 6, 7, 15] (fun v _ _ i wr => ∃ k n : Nat, k ≤ 7 ∧ i = .int .i64 k ∧ n ≤ 6 * k ∧ wr.ownsRow (w1.heap.size + 1) 5 1 v n ((numsB ([a1, a2, a3, a4, a5, a6, a7].take k)).map B) ∧ Below (w1.heap.size + 1) w' wr) (fun _ _ _ i _ => 7 - (intOf i).toNat)
  case atStart => exact ⟨0, 0, by omega, rfl, by omega, ⟨rfl, .inl ⟨rfl, rfl⟩⟩, Below.refl _ _⟩
  case round =>
    obtain ⟨k, n, hk, rfl, hn, hown, hbel⟩ := hrel
    by_cases hlt : k < 7
    · have c1 := (hbel.cell (p := ⟨w1.heap.size, k, none⟩) (by simp)).trans (ptrs_cell _ _ _ _ H3.out hlt)
      have c2 := (hbel.cell (p := ⟨w.heap.size, k, none⟩) (by simp; omega)).trans (msg_cell H2.out k hlt)
      have hx := OK.out k hlt
      generalize hxe : [a1, a2, a3, a4, a5, a6, a7].getD k 0 = x at c2 hx
      have HX := Lib.hid hxe
      clear hxe
      obtain ⟨x0, xM⟩ := hx
      obtain ⟨x, rfl⟩ := Int.eq_ofNat_of_zero_le x0
      have HO := Lib.hid hown
      clear hown
      have hL : (numsB ([a1, a2, a3, a4, a5, a6, a7].take k)).length + (numB x).length ≤ 6 * k + 6 := by
        have h6 : (128 ^ 6 : Nat) = 4398046511104 := by decide
        have e1 := numsB_len ([a1, a2, a3, a4, a5, a6, a7].take k) (fun y hy => by
          have := right_nums HR.out y (List.take_subset _ _ hy)
          refine ⟨this.1, ?_⟩
          rw [h6]
          omega)
        have e2 := numB_len x (by omega)
        have e3 : ([a1, a2, a3, a4, a5, a6, a7].take k).length ≤ k := List.length_take_le _ _
        omega
      have HL := Lib.hid hL
      clear hL
      have hd : decide ((k : Int) < 7) = true := by simp; omega
      obtain ⟨wo, rfl⟩ : ∃ wo : World, wo = wr := ⟨_, rfl⟩
      go_wp2_with fail
      go_loopw [4, 7] (fun v y wq => ∃ (q j : Nat) (pre : List UInt8), q + 1 ≤ 1099511627777 ∧ y = .int .i64 q ∧ j ≤ 6 * k + 6 ∧ pre ++ numB q = numsB ([a1, a2, a3, a4, a5, a6, a7].take k) ++ numB x ∧ wq.ownsRow (w1.heap.size + 1) 5 1 v j (pre.map B) ∧ Below (w1.heap.size + 1) w' wq) (fun _ y _ => (intOf y).toNat)
      case atStart => exact ⟨x, n, _, by omega, rfl, by omega, rfl, HO.out, hbel⟩
      case round =>
        obtain ⟨q, j, pre, hq, rfl, hj, hpre, hown, hbel2⟩ := hrel
        have HPRE := Lib.hid hpre
        have HOW := Lib.hid hown
        clear hpre hown
        by_cases hlt2 : 128 ≤ q
        · go_wp2_with (at_builtin; refine wpList_append_own _ rfl _ _ 33 rfl (w1.heap.size + 1) 5 i0 (.int .u8 0) 1 1 Tryd.underlying33 hi0 hz0 hz1 hz2 rfl (by decide) _ _ _ rfl (HOW.out.alloc _) ⟨wr.heap.size, 0, none⟩ 1 1 [B (hiB q)] rfl rfl ?c1 ?c2 ?c3 ?c4 ?c5 ?_)
          case c1 => exact one_cell (by rw [or_byte]; rfl)
          case c2 => exact B_one [_]
          case c3 => unfold maxLen; omega
          case c4 => omega
          case c5 => simp; have := hbel2.size; have := HS2.out; omega
          intro v2 w2 hown2 hg2 _
          have hown3 : w2.ownsRow (w1.heap.size + 1) 5 1 v2 (j + 1) ((pre ++ [hiB q]).map B) := by rw [List.map_append]; exact hown2
          have hb3 : Below (w1.heap.size + 1) w' w2 := (hbel2.alloc (by have := hbel2.size; have := HS2.out; omega) _).grown hg2 (by simp; have := hbel2.size; have := HS2.out; omega) (fun g hg => by
            rcases HOW.out.2 with ⟨rfl, _⟩ | ⟨g', _, _, rfl, h, _⟩
            · cases hg
            · have : g' = g := by simpa [Value.ownBlock] using hg
              omega)
          have HO3 := Lib.hid hown3
          clear hown2 hown3 hg2
          have hm : j + 1 ≤ 6 * k + 6 := by
            have e1 := congrArg List.length HPRE.out
            have e2 := HOW.out.1
            have e3 := HL.out
            have e4 : 2 ≤ (numB q).length := numB_two q hlt2
            simp only [List.length_append, List.length_map] at e1 e2
            omega
          have hpre3 : (pre ++ [hiB q]) ++ numB (q / 128) = numsB ([a1, a2, a3, a4, a5, a6, a7].take k) ++ numB x := by
            rw [← HPRE.out, numB_step q hlt2 (by have : (128 ^ 6 : Nat) = 4398046511104 := by decide
                                                 omega)]
            simp [hiB]
          have HP3 := Lib.hid hpre3
          clear hpre3
          go_wp2
          go_roundw
          case rel => exact ⟨q / 128, j + 1, pre ++ [hiB q], by omega, by go_num, hm, HP3.out, HO3.out, hb3⟩
          case measure => simp [intOf]; omega
        · go_wp2_with (at_builtin; refine wpList_append_own _ rfl _ _ 33 rfl (w1.heap.size + 1) 5 i0 (.int .u8 0) 1 1 Tryd.underlying33 hi0 hz0 hz1 hz2 rfl (by decide) _ _ _ rfl (HOW.out.alloc _) ⟨wr.heap.size, 0, none⟩ 1 1 [B (loB q)] rfl rfl ?c1 ?c2 ?c3 ?c4 ?c5 ?_)
          case c1 => exact one_cell (by rw [lo_byte q (by omega)]; rfl)
          case c2 => exact B_one [_]
          case c3 => unfold maxLen; omega
          case c4 => omega
          case c5 => simp; have := hbel2.size; have := HS2.out; omega
          intro v2 w2 hown2 hg2 _
          have hown3 : w2.ownsRow (w1.heap.size + 1) 5 1 v2 (j + 1) ((pre ++ [loB q]).map B) := by rw [List.map_append]; exact hown2
          have hb3 : Below (w1.heap.size + 1) w' w2 := (hbel2.alloc (by have := hbel2.size; have := HS2.out; omega) _).grown hg2 (by simp; have := hbel2.size; have := HS2.out; omega) (fun g hg => by
            rcases HOW.out.2 with ⟨rfl, _⟩ | ⟨g', _, _, rfl, h, _⟩
            · cases hg
            · have : g' = g := by simpa [Value.ownBlock] using hg
              omega)
          have HO3 := Lib.hid hown3
          clear hown2 hown3 hg2
          have hk3 : numsB ([a1, a2, a3, a4, a5, a6, a7].take (k + 1)) = pre ++ [loB q] := by
            have e0 : [a1, a2, a3, a4, a5, a6, a7].take (k + 1) = [a1, a2, a3, a4, a5, a6, a7].take k ++ [(x : Int)] := by
              rw [List.take_succ_eq_append_getElem (by simpa using hlt), ← HX.out]
              simp [List.getD, hlt]
            rw [e0]
            have e1 := HPRE.out
            rw [numB_small q (by omega)] at e1
            rw [show [loB q] = [UInt8.ofNat q] from rfl, e1]
            simp [numsB]
          have hm : j + 1 ≤ 6 * (k + 1) := by
            have e1 := congrArg List.length HPRE.out
            have e2 := HOW.out.1
            have e3 := HL.out
            have e4 : (numB q).length = 1 := by rw [numB_small q (by omega)]; rfl
            simp only [List.length_append, List.length_map] at e1 e2
            omega
          have HK3 := Lib.hid hk3
          clear hk3
          go_wp2
          go_roundw
          case rel => exact ⟨k + 1, j + 1, by omega, by go_num, hm, by rw [HK3.out]; exact HO3.out, hb3⟩
          case measure => simp [intOf]; omega
    · obtain rfl : k = 7 := by omega
      have c7 : wr.cell? ⟨w.heap.size, 7, none⟩ = some (.bool l) := (hbel.cell (p := ⟨w.heap.size, 7, none⟩) (by simp; omega)).trans (H2.out.cell 7)
      have c8 : wr.cell? ⟨w.heap.size, 8, none⟩ = some (.string ⟨s.toArray⟩) := (hbel.cell (p := ⟨w.heap.size, 8, none⟩) (by simp; omega)).trans (H2.out.cell 8)
      have HO := Lib.hid hown
      clear hown
      have hsz : (ByteArray.mk s.toArray).size = s.length := rfl
      have hbs : w1.heap.size + 1 ≤ wr.heap.size := by have := hbel.size; have := HS2.out; omega
      cases l
      · go_wp2_with (at_builtin; refine wpList_append_own _ rfl (.tmp 40) (.tmp 46) 33 rfl (w1.heap.size + 1) 5 i0 (.int .u8 0) 1 1 Tryd.underlying33 hi0 hz0 hz1 hz2 rfl (by decide) _ _ _ rfl (HO.out.alloc _) ⟨wr.heap.size, 0, none⟩ 2 2 [B (leaseB false), B (loB s.length)] rfl rfl ?c1 ?c2 ?c3 ?c4 ?c5 ?_)
        case c1 => exact two_cells rfl (by rw [lo_byte s.length (by omega)]; rfl)
        case c2 => exact B_one [_, _]
        case c3 => unfold maxLen; omega
        case c4 => omega
        case c5 => simp; omega
        intro v2 w2 hown2 hg2 _
        have hb3 : Below (w1.heap.size + 1) w' w2 := (hbel.alloc hbs _).grown hg2 (by simp; omega) (own_block_ge HO.out)
        have hs3 : w1.heap.size + 1 ≤ w2.heap.size := by have := hb3.size; have := HS2.out; omega
        have d8 : w2.cell? ⟨w.heap.size, 8, none⟩ = some (.string ⟨s.toArray⟩) := (hb3.cell (p := ⟨w.heap.size, 8, none⟩) (by simp; omega)).trans (H2.out.cell 8)
        have HO2 := Lib.hid hown2
        clear hown2 c7 c8 hg2
        go_wp2_with (at_builtin; refine Lib.wpList_append_own_string _ rfl (.tmp 48) (.tmp 50) 33 9 rfl (w1.heap.size + 1) 5 i0 Tryd.underlying33 Tryd.underlying9 hi0 hz0 hz1 hz2 _ _ _ rfl HO2.out ⟨s.toArray⟩ rfl ?c6 ?c7 ?c8 ?_)
        case c6 => unfold maxLen; omega
        case c7 => omega
        case c8 => exact hs3
        intro v3 w3 hown3 hg3 _
        have hb4 := hb3.grown hg3 hs3 (own_block_ge HO2.out)
        have hown4 : w3.ownsRow (w1.heap.size + 1) 5 1 v3 (n + 2 + s.length) ((encB { kind := a1, client := a2, number := a3, epoch := a4, session := a5, object := a6, version := a7, lease := false, data := s }).map B) := by
          refine cast (congrArg (fun xs => w3.ownsRow (w1.heap.size + 1) 5 1 v3 (n + 2 + s.length) xs) ?_) hown3
          simp [encB, strCells_B, Msg.nums, loB]
        have HO3 := Lib.hid hown4
        clear hown3 hown4
        go_wp2
        go_ret2
        exact ⟨v3, _, rfl, own_base HO3.out (by omega), hb2.trans (hb4.mono (by omega))⟩
      · go_wp2_with (at_builtin; refine wpList_append_own _ rfl (.tmp 40) (.tmp 46) 33 rfl (w1.heap.size + 1) 5 i0 (.int .u8 0) 1 1 Tryd.underlying33 hi0 hz0 hz1 hz2 rfl (by decide) _ _ _ rfl (HO.out.alloc _) ⟨wr.heap.size, 0, none⟩ 2 2 [B (leaseB true), B (loB s.length)] rfl rfl ?c1 ?c2 ?c3 ?c4 ?c5 ?_)
        case c1 => exact two_cells rfl (by rw [lo_byte s.length (by omega)]; rfl)
        case c2 => exact B_one [_, _]
        case c3 => unfold maxLen; omega
        case c4 => omega
        case c5 => simp; omega
        intro v2 w2 hown2 hg2 _
        have hb3 : Below (w1.heap.size + 1) w' w2 := (hbel.alloc hbs _).grown hg2 (by simp; omega) (own_block_ge HO.out)
        have hs3 : w1.heap.size + 1 ≤ w2.heap.size := by have := hb3.size; have := HS2.out; omega
        have d8 : w2.cell? ⟨w.heap.size, 8, none⟩ = some (.string ⟨s.toArray⟩) := (hb3.cell (p := ⟨w.heap.size, 8, none⟩) (by simp; omega)).trans (H2.out.cell 8)
        have HO2 := Lib.hid hown2
        clear hown2 c7 c8 hg2
        go_wp2_with (at_builtin; refine Lib.wpList_append_own_string _ rfl (.tmp 48) (.tmp 50) 33 9 rfl (w1.heap.size + 1) 5 i0 Tryd.underlying33 Tryd.underlying9 hi0 hz0 hz1 hz2 _ _ _ rfl HO2.out ⟨s.toArray⟩ rfl ?c6 ?c7 ?c8 ?_)
        case c6 => unfold maxLen; omega
        case c7 => omega
        case c8 => exact hs3
        intro v3 w3 hown3 hg3 _
        have hb4 := hb3.grown hg3 hs3 (own_block_ge HO2.out)
        have hown4 : w3.ownsRow (w1.heap.size + 1) 5 1 v3 (n + 2 + s.length) ((encB { kind := a1, client := a2, number := a3, epoch := a4, session := a5, object := a6, version := a7, lease := true, data := s }).map B) := by
          refine cast (congrArg (fun xs => w3.ownsRow (w1.heap.size + 1) 5 1 v3 (n + 2 + s.length) xs) ?_) hown3
          simp [encB, strCells_B, Msg.nums, loB]
        have HO3 := Lib.hid hown4
        clear hown3 hown4
        go_wp2
        go_ret2
        exact ⟨v3, _, rfl, own_base HO3.out (by omega), hb2.trans (hb4.mono (by omega))⟩

theorem Encode_no (m : Msg) (w : World) (hr : m.right = false) (hs : m.data.length ≤ 9223372036854775807) :
    Calls Tryd.prog 18 #[m.val] w fun e w' => e = .returned (.tuple #[.slice none 0 0, .iface 22 (.int .i64 1)]) ∧ Below w.heap.size w w' := by
  have HR := Lib.hid hr
  clear hr
  have R := Lib.hid (right_any m)
  obtain ⟨a1, a2, a3, a4, a5, a6, a7, l, s⟩ := m
  simp only [Msg.val] at R hs
  unfold Msg.val
  go_enter Tryd.func18, Tryd.ntmps18
  go_wp2_with fail
  refine (R.out _ hs).mono ?_
  rintro e w1 ⟨rfl, hb1⟩
  rw [HR.out]
  go_wp2_with fail
  go_ret2
  exact ⟨rfl, ((Below.refl _ _).alloc (Nat.le_refl _) _).trans (hb1.mono (by simp))⟩

/-- A row that is not empty lies at the head of a block of its own. -/
theorem own_shape {w : World} {base : Nat} {e : TypeId} {n : Nat} {v : Value} {xs : List Value} (h : w.ownsRow base e 1 v n xs) (hne : xs ≠ []) :
    ∃ g cap, v = .slice (some ⟨g, 0, none⟩) n cap ∧ base ≤ g ∧ g < w.heap.size ∧ n = xs.length ∧ n ≤ cap ∧ cap ≤ maxLen ∧ ∀ j x, xs[j]? = some x → w.cell? ⟨g, j, none⟩ = some x := by
  have hl := h.1
  rcases h.2 with ⟨_, h0⟩ | ⟨g, cap, cur, rfl, hg, hh, hn, hc, hsz, hx⟩
  · exact absurd (List.eq_nil_of_length_eq_zero (by omega)) hne
  · refine ⟨g, cap, rfl, hg, ?_, by omega, hn, hc, fun j x hj => ?_⟩
    · exact (Has.lt (w := w) (g := g) hh)
    · rw [cell_of_row w g j cur e (0, 0) hh, ← Array.getElem?_toList]
      subst hx
      have hj' := (List.getElem?_eq_some_iff.1 hj).1
      simp only [List.length_take] at hj'
      rw [List.getElem?_take_of_lt (by omega)] at hj
      exact hj
end Go.Proofs.YthldfogmmjompaaDoor.wire
