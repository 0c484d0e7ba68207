/-
  A part of the proof of the law WorldLasts: WalA, WalB, WalC.
-/
import Derived.Test.YtefkmcjhgoagcaaGreatDoorRows
import Derived.WalkKit
import Derived.ProofKit
import Derived.OpenShut
import Derived.RegionTactic
import Derived.ChangeAlike
import Derived.StillTailTactics
import Derived.Deep.LoopGhost
import Derived.Deep.QuietTactic
import Derived.Test.YtefkmcjhgoagcaaGreatDoorHd
import Derived.Test.YtefkmcjhgoagcaaGreatDoorP05
import Derived.Test.YtefkmcjhgoagcaaGreatDoorP08
import Derived.Test.YtefkmcjhgoagcaaGreatDoorP11
namespace Go.Proofs.YtefkmcjhgoagcaaGreatDoor
namespace wal
open Go.RowKit heap own recs
open model (Rec)
open wire (okN)
abbrev recCells (a b c d : Int) (s : ByteArray) (e : Int) : Array Value:=#[.int .i64 a,.int .i64 b,.int .i64 c,.int .i64 d,.string s,.int .i64 e]
def recV (r : Rec) : Value:=.agg (recCells r.client r.number r.object r.version ⟨r.data.toArray⟩ r.epoch)
theorem ok_one (n : Int) (w : World) :
 Calls Tryz.prog 108 #[.int .i64 n] w fun e w' => e = .returned (.bool (okN n)) ∧ w = w':=by
 by_cases h1 : n < 0
 ·have d1 : decide (0 ≤ n) = false:=decide_eq_false (by omega);have h0 : okN n = false:=decide_eq_false (by omega);rw [h0];clear h0;(go_enter Tryz.func108,Tryz.ntmps108);go_wp2;go_ret;exact ⟨rfl,rfl⟩
 ·(have h2 : okN n = decide (n ≤ 1099511627776):=by unfold okN;simp only [decide_eq_decide];omega);rw [h2];(have h3 : 0 ≤ n:=by omega);have d1 : decide (0 ≤ n) = true:=decide_eq_true h3;clear h1 h2 h3;(go_enter Tryz.func108,Tryz.ntmps108);go_wp2;go_ret;exact ⟨rfl,rfl⟩
theorem fold_take (s : ByteArray) (k : Nat) (h : k < s.size) (a : Int) : (s.data.toList.take (k + 1)).foldl sumStep a = sumStep ((s.data.toList.take k).foldl sumStep a) (s[k]'h):=by
 have h' : k < s.data.toList.length:=h;rw [List.take_succ_eq_append_getElem h',List.foldl_append];rfl
theorem wrap_byte (c : UInt8) : IntKind.u64.wrap (c.toNat : Int) = c.toNat:=by
 have h : IntKind.u64.wrap (c.toNat : Int) = (c.toNat : Int) % 18446744073709551616:=rfl;have:=c.toNat_lt;rw [h];omega
set_option maxHeartbeats 1000000 in
set_option maxRecDepth 100000 in
theorem sum_any (s : ByteArray) (hs : s.size < 4611686018427387904) (w : World) :
 Calls Tryz.prog 112 #[.string s] w fun e w' => e = .returned (.int .i64 (sumN s.data.toList)) ∧ w = w':=by
 go_enter Tryz.func112,Tryz.ntmps112
 go_wp2
 go_loop [7,3] (fun q7 q3 => ∃ (k : Nat),k ≤ s.size ∧ q7 = .int .i64 k ∧ q3 = .int .u64 ((s.data.toList.take k).foldl sumStep 14695981039346656037)) (fun q7 _ => s.size - (intOf q7).toNat)
 case atStart => exact ⟨0,by omega,rfl,rfl⟩
 case round =>
  obtain ⟨k,hk,rfl,rfl⟩:=hrel;obtain ⟨x,hx⟩ : ∃ x,x = (s.data.toList.take k).foldl sumStep 14695981039346656037:=⟨_,rfl⟩;have hx0:=fold_range (s.data.toList.take k) 14695981039346656037 (by decide) (by decide);rw [← hx] at hx0 ⊢;have HX:=Hd hx;clear hx;have hl : s.data.toList.length = s.size:=rfl;by_cases hlt : k < s.size
  ·have d0 : decide ((k : Int) < s.size) = true:=decide_eq_true (by omega)
   have hki : (k : Int) < s.size:=by omega
   have hstep : Hid ((s.data.toList.take (k + 1)).foldl sumStep 14695981039346656037 = sumStep x (s[k]'hlt)):=Hd (by rw [fold_take s k hlt,HX.out])
   clear hk
   go_wp2
   go_round
   (case rel => exact ⟨k + 1,by omega,rfl,by rw [hstep.out,wrap_byte];rfl⟩);case measure => show s.size - ((k : Int) + 1).toNat < s.size - (k : Int).toNat;omega
  ·have d0 : decide ((k : Int) < s.size) = false:=decide_eq_false (by omega);(have hkk : k = s.size:=by omega);go_wp2;go_ret;refine ⟨?_,rfl⟩;(have e : sumN s.data.toList = x / 8:=by rw [sumN,HX.out,List.take_of_length_le (by omega)]);rw [e];rfl
set_option maxHeartbeats 1000000 in
set_option maxRecDepth 100000 in
theorem right_any (r : Rec) (hs : r.data.length < 4611686018427387904) (w : World) :
 Calls Tryz.prog 80 #[recV r] w fun e w' => e = .returned (.bool r.right) ∧ Below w.heap.size w w':=by
 unfold recV;obtain ⟨c,n,o,v,d,ep⟩:=r;dsimp only;dsimp only at hs;obtain ⟨s,hs'⟩ : ∃ s : ByteArray,s = ⟨d.toArray⟩:=⟨_,rfl⟩;rw [← hs'];(have hz : s.size = d.length:=by rw [hs'];rfl);(go_enter Tryz.func80,Tryz.ntmps80);go_wp2_with (go_at_call 108;refine (ok_one _ _).mono ?_;rintro e w1 ⟨rfl,rfl⟩)
 all_goals
  go_ret
  refine ⟨?_,Below.alloc (Below.refl _ _) (Nat.le_refl _) _⟩
  show Ending.returned (Value.bool _) = Ending.returned (Value.bool _)
  congr 2
  clear hs' hs
  unfold Rec.right model.inR
  simp_all
 all_goals first
  | (intros;omega)
  | (have a : o ≤ 7:=by omega
     have b : List.length d ≤ 20:=by omega
     simp [a,b];done)
  | (have a : o ≤ 7:=by omega
     have b : List.length d ≤ 20:=by omega
     by_cases e0 : ep = 0 <;> simp [a,b,e0])
end wal
namespace wal
open Go.RowKit heap own recs errs
open model (Rec)
open wire (okN)
def dcells (ps : List ByteArray) (cut : Bool) (left : Int) : List Value:=ps.map Value.string ++ [.bool cut,.int .i64 left]
structure DiskAt (w : World) (b : Nat) (ps : List ByteArray) (cut : Bool) (left : Int) : Prop where
 d_ : Has w b (.cells (dcells ps cut left).toArray 72)
 hp : ps.length = 200
section
variable {w w' : World} {b : Nat} {ps : List ByteArray} {cut : Bool} {left : Int}
theorem DiskAt.lt (h : DiskAt w b ps cut left) : b < w.heap.size:=h.d_.lt
theorem DiskAt.place (h : DiskAt w b ps cut left) (k : Nat) (hk : k < 200) (s : ByteArray) (hs : ps[k]? = some s) : w.cell? ⟨b,k,none⟩ = some (.string s):=by
 rw [h.d_.cell];(have hk' : k < (ps.map Value.string).length:=by rw [List.length_map,h.hp];exact hk);simp only [dcells,List.getElem?_toArray];rw [List.getElem?_append_left hk',List.getElem?_map,hs];rfl
theorem DiskAt.cutc (h : DiskAt w b ps cut left) : w.cell? ⟨b,200,none⟩ = some (.bool cut):=by
 rw [h.d_.cell];(have e : (ps.map Value.string).length = 200:=by rw [List.length_map,h.hp]);simp only [dcells,List.getElem?_toArray];rw [List.getElem?_append_right (by omega),e];rfl
theorem DiskAt.leftc (h : DiskAt w b ps cut left) : w.cell? ⟨b,201,none⟩ = some (.int .i64 left):=by
 rw [h.d_.cell];(have e : (ps.map Value.string).length = 200:=by rw [List.length_map,h.hp]);simp only [dcells,List.getElem?_toArray];rw [List.getElem?_append_right (by omega),e];rfl
theorem DiskAt.below {B : Nat} (h : DiskAt w b ps cut left) (hb : Below B w w') (hB : b < B) : DiskAt w' b ps cut left:=⟨h.d_.below hb hB,h.hp⟩
theorem DiskAt.setPlace (h : DiskAt w b ps cut left) (k : Nat) (hk : k < 200) (s : ByteArray) : DiskAt (w.setCell ⟨b,k,none⟩ (.string s)) b (ps.set k s) cut left:=by
 refine ⟨?_,by rw [List.length_set];exact h.hp⟩;have:=h.d_.set_ k (.string s);(have hk' : k < (ps.map Value.string).length:=by rw [List.length_map,h.hp];exact hk);simpa only [dcells,List.setIfInBounds_toArray,List.set_append_left _ _ hk',List.map_set] using this
theorem DiskAt.setCut (h : DiskAt w b ps cut left) (c : Bool) : DiskAt (w.setCell ⟨b,200,none⟩ (.bool c)) b ps c left:=by
 refine ⟨?_,h.hp⟩;have:=h.d_.set_ 200 (.bool c);(have e : (ps.map Value.string).length = 200:=by rw [List.length_map,h.hp]);simpa only [dcells,List.setIfInBounds_toArray,List.set_append_right 200 _ (Nat.le_of_eq e),e,Nat.sub_self,List.set_cons_zero] using this
theorem DiskAt.setLeft (h : DiskAt w b ps cut left) (n : Int) : DiskAt (w.setCell ⟨b,201,none⟩ (.int .i64 n)) b ps cut n:=by
 refine ⟨?_,h.hp⟩;have:=h.d_.set_ 201 (.int .i64 n);(have e : (ps.map Value.string).length = 200:=by rw [List.length_map,h.hp]);simpa only [dcells,List.setIfInBounds_toArray,List.set_append_right 201 _ (by omega : (ps.map Value.string).length ≤ 201),e,show 201 - 200 = 1 from rfl,List.set_cons_succ,List.set_cons_zero] using this
end
theorem turn_set {b : Nat} {w w' : World} (h : Turn (fun x => x = b) w w') (o : Nat) (v : Value) : Turn (fun x => x = b) w (w'.setCell ⟨b,o,none⟩ v):=
 Turn.setCell (S:=fun x => x = b) (p:=⟨b,o,none⟩) h (.inr rfl) v
set_option maxHeartbeats 1000000 in
set_option maxRecDepth 100000 in
theorem Cut_any (b : Nat) (ps : List ByteArray) (cut : Bool) (left n : Int) (w : World) (h : DiskAt w b ps cut left) :
 Calls Tryz.prog 48 #[.pointer (some ⟨b,0,none⟩),.int .i64 n] w fun e w' =>
  e = .returned (.tuple #[]) ∧ DiskAt w' b ps (decide (0 ≤ n)) (max n 0) ∧ Turn (· = b) w w':=by
 have c1:=h.cutc;have c2:=h.leftc;have f1:=h.d_.frozen 200;have f2:=h.d_.frozen 201;have H:=Hd h;have hlt:=h.lt;clear h;(go_enter Tryz.func48,Tryz.ntmps48);go_wp2
 all_goals
  go_end0
  have T2 : ∀ (u v : Value),Turn (· = b) w ((w.setCell ⟨b,200,none⟩ u).setCell ⟨b,201,none⟩ v):=fun u v => turn_set (turn_set (Turn.refl _ _) 200 u) 201 v
  first
   | (rw [Int.max_eq_right (by omega)];exact ⟨rfl,(H.out.setCut _).setLeft _,T2 _ _⟩)
   | (rw [Int.max_eq_left (by omega)];exact ⟨rfl,(H.out.setCut _).setLeft _,T2 _ _⟩)
def tornAt (n : Nat) (torn : Int) : Nat:=(if (if 1 < (n : Int) then (n : Int) - 1 else 0) < torn then if 1 < (n : Int) then (n : Int) - 1 else 0 else torn).toNat
theorem tornAt_eq (n : Nat) (torn : Int) : tornAt n torn = if 1 < n then (if (n : Int) - 1 < torn then n - 1 else torn.toNat) else if 0 < torn then 0 else torn.toNat:=by
 unfold tornAt;by_cases h : 1 < n
 ·rw [if_pos (by omega : 1 < (n : Int)),if_pos h];split <;> omega
 ·rw [if_neg (by omega : ¬ 1 < (n : Int)),if_neg h];split <;> omega
theorem tornAt_lt {n : Nat} {torn : Int} (h : 0 < n) (ht : 0 ≤ torn) : tornAt n torn < n:=by
 unfold tornAt;split <;> split at * <;> omega
set_option maxHeartbeats 1000000 in
set_option maxRecDepth 100000 in
theorem write_any (b : Nat) (ps : List ByteArray) (cut : Bool) (left : Int) (k : Nat) (hk : k < 200) (s : ByteArray) (hs : s.size < 4611686018427387904) (torn : Int) (w : World) (h : DiskAt w b ps cut left) :
 Calls Tryz.prog 81 #[.pointer (some ⟨b,0,none⟩),.int .i64 k,.string s,.int .i64 torn] w fun e w' =>
  e = .returned (errV (if cut = true ∧ left = 0 then 14 else 0)) ∧
  (if cut = true ∧ left = 0 then DiskAt w' b (if 0 ≤ torn then ps.set k (s.extract 0 (tornAt s.size torn)) else ps) cut left else DiskAt w' b (ps.set k s) cut (wrap64 (left - 1))) ∧ Turn (· = b) w w':=by
 have c1:=h.cutc;have c2:=h.leftc;have f1:=h.d_.frozen 200;have fk:=h.d_.frozen k;obtain ⟨x,hx⟩ : ∃ x,ps[k]? = some x:=⟨_,List.getElem?_eq_getElem (by rw [h.hp];exact hk)⟩;have ck:=h.place k hk x hx;have f2:=h.d_.frozen 201;have H:=Hd h;have hlt:=h.lt;clear h;by_cases hc : cut = true ∧ left = 0
 ·rw [if_pos hc];simp only [if_pos hc];obtain ⟨rfl,rfl⟩:=hc;by_cases ht : 0 ≤ torn
  ·have d0 : decide (0 ≤ torn) = true:=decide_eq_true ht;rw [if_pos ht];(go_enter Tryz.func81,Tryz.ntmps81);go_wp2
   have key : ∀ N,N = tornAt s.size torn → DiskAt (w.setCell ⟨b,k,none⟩ (.string (s.extract 0 N))).drew b (ps.set k (s.extract 0 (tornAt s.size torn))) true 0:=by
    rintro _ rfl;have h1:=H.out.setPlace k hk (s.extract 0 (tornAt s.size torn));exact ⟨h1.d_,h1.hp⟩
   go_region
   go_wp2
   all_goals
    go_ret;have hN:=tornAt_eq s.size torn
    have h0 : ¬ (1 < (s.size : Int)) → 0 < torn → s.extract 0 (tornAt s.size torn) = ByteArray.empty:=fun h1 h2 => by
     rw [hN,if_neg (by omega),if_pos h2];apply ByteArray.ext;simp
    first
     | (have e:=h0 (by omega) (by omega)
        have h1:=H.out.setPlace k hk (s.extract 0 (tornAt s.size torn));rw [e] at h1 ⊢
        exact ⟨rfl,⟨h1.d_,h1.hp⟩,(turn_set (Turn.refl _ _) k _).drew⟩)
     | (refine ⟨rfl,key _ ?_,(turn_set (Turn.refl _ _) k _).drew⟩
        rw [hN]
        clear hN key
        repeat' split
        all_goals omega)
  ·have d0 : decide (0 ≤ torn) = false:=decide_eq_false ht;rw [if_neg ht];(go_enter Tryz.func81,Tryz.ntmps81);go_wp2;go_ret;exact ⟨rfl,H.out,Turn.refl _ _⟩
 ·rw [if_neg hc];simp only [if_neg hc]
  cases hcut : cut with
  | false =>
   subst hcut;(go_enter Tryz.func81,Tryz.ntmps81);go_wp2;go_ret;exact ⟨rfl,(H.out.setLeft _).setPlace k hk _,turn_set (turn_set (Turn.refl _ _) 201 _) k _⟩
  | true =>
   subst hcut;have hl : left ≠ 0:=fun e => hc ⟨rfl,e⟩;have bl : (left == 0) = false:=beq_eq_false_iff_ne.2 hl;clear hc;(go_enter Tryz.func81,Tryz.ntmps81);go_wp2;go_ret;exact ⟨rfl,(H.out.setLeft _).setPlace k hk _,turn_set (turn_set (Turn.refl _ _) 201 _) k _⟩
end wal
end Go.Proofs.YtefkmcjhgoagcaaGreatDoor
