/-
  A part of the proof of the law WorldLasts: LeaseA, LeaseB, LeaseK, LeaseC, LeaseD, LeaseD2, LeaseE.
-/
import Derived.Deep.RegionLaw
import Derived.WalkSpells
import Derived.WideKeyPair
import Derived.DeepKeys4
import Derived.Deep.LoopGhost
import Derived.Test.YtefkmcjhgoagcaaGreatDoorHd
import Derived.Test.YtefkmcjhgoagcaaGreatDoorP06
import Derived.Test.YtefkmcjhgoagcaaGreatDoorP09
import Derived.Test.YtefkmcjhgoagcaaGreatDoorP11
namespace Go.Proofs.YtefkmcjhgoagcaaGreatDoor
namespace lease
open Go.RowKit heap own
def isClient (c : Int) : Bool:=decide (0 ≤ c) && decide (c < 4)
def isObject (o : Int) : Bool:=decide (0 ≤ o) && decide (o < 8)
theorem right_any (c o : Int) (w : World) :
 Calls Tryz.prog 122 #[.int .i64 c,.int .i64 o] w fun e w' => e = .returned (.bool (isClient c && isObject o)) ∧ w = w':=by
 by_cases h1 : 0 ≤ c
 ·by_cases h2 : c < 4
  ·by_cases h3 : 0 ≤ o
   ·by_cases h4 : o < 8
    ·have d1:=decide_eq_true h1;have d2:=decide_eq_true h2;have d3:=decide_eq_true h3;have d4:=decide_eq_true h4;(have e : (isClient c && isObject o) = true:=by simp [isClient,isObject,h1,h2,h3,h4]);rw [e];(go_enter Tryz.func122,Tryz.ntmps122);go_wp2;go_ret;exact ⟨rfl,rfl⟩
    ·have d1:=decide_eq_true h1;have d2:=decide_eq_true h2;have d3:=decide_eq_true h3;have d4:=decide_eq_false h4;(have e : (isClient c && isObject o) = false:=by simp [isClient,isObject,h1,h2,h3,h4]);rw [e];(go_enter Tryz.func122,Tryz.ntmps122);go_wp2;go_ret;exact ⟨rfl,rfl⟩
   ·have d1:=decide_eq_true h1;have d2:=decide_eq_true h2;have d3:=decide_eq_false h3;(have e : (isClient c && isObject o) = false:=by simp [isClient,isObject,h1,h2,h3]);rw [e];(go_enter Tryz.func122,Tryz.ntmps122);go_wp2;go_ret;exact ⟨rfl,rfl⟩
  ·have d1:=decide_eq_true h1;have d2:=decide_eq_false h2;(have e : (isClient c && isObject o) = false:=by simp [isClient,isObject,h1,h2]);rw [e];(go_enter Tryz.func122,Tryz.ntmps122);go_wp2;go_ret;exact ⟨rfl,rfl⟩
 ·have d1:=decide_eq_false h1;(have e : (isClient c && isObject o) = false:=by simp [isClient,isObject,h1]);rw [e];(go_enter Tryz.func122,Tryz.ntmps122);go_wp2;go_ret;exact ⟨rfl,rfl⟩
def tcells (m : Value) (vs ss : List Int) : List Value:=m :: (vs.map (Value.int .i64) ++ ss.map (Value.int .i64))
theorem tcells_vol {m : Value} {vs ss : List Int} {c : Nat} (hc : c < vs.length) : (tcells m vs ss)[1 + c]? = some (.int .i64 (vs.getD c 0)):=by
 rw [Nat.add_comm];simp only [tcells,List.getElem?_cons_succ];rw [List.getElem?_append_left (by simpa using hc),List.getElem?_map,List.getElem?_eq_getElem hc];simp [List.getD,hc]
theorem tcells_ses {m : Value} {vs ss : List Int} {c : Nat} (hv : vs.length = 4) (hc : c < ss.length) : (tcells m vs ss)[5 + c]? = some (.int .i64 (ss.getD c 0)):=by
 rw [show 5 + c = (4 + c) + 1 from by omega];simp only [tcells,List.getElem?_cons_succ];rw [List.getElem?_append_right (by simp;omega),List.length_map,hv,Nat.add_sub_cancel_left,List.getElem?_map,List.getElem?_eq_getElem hc];simp [List.getD,hc]
theorem Leans_no (p : Value) (c now : Int) (w : World) (h : isClient c = false) :
 Calls Tryz.prog 114 #[p,.int .i64 c,.int .i64 now] w fun e w' => e = .returned (.bool false) ∧ w = w':=by
 have R:=right_any c 0 w;rw [h,Bool.false_and] at R;(go_enter Tryz.func114,Tryz.ntmps114);(go_wp2_with (go_at_call 122;refine R.mono ?_;rintro e w' ⟨rfl,rfl⟩));go_ret;exact ⟨rfl,rfl⟩
theorem Leans_yes (b : Nat) (m : Value) (vs ss : List Int) (c : Nat) (now : Int) (w : World) (hB : Has w b (.cells (tcells m vs ss).toArray 145)) (hv : vs.length = 4) (hc : c < 4) :
 Calls Tryz.prog 114 #[.pointer (some ⟨b,0,none⟩),.int .i64 c,.int .i64 now] w fun e w' => e = .returned (.bool (decide (now < vs.getD c 0))) ∧ w = w':=by
 have R:=right_any c 0 w;(have e0 : (isClient c && isObject 0) = true:=by simp [isClient,isObject];omega);rw [e0] at R;(have k0 : w.cell? ⟨b,1 + c,none⟩ = some (.int .i64 (vs.getD c 0)):=by rw [hB.cell,← tcells_vol (m:=m) (ss:=ss) (c:=c) (by omega)];simp);(have k1 : w.cell? ⟨b,c + 1,none⟩ = some (.int .i64 (vs.getD c 0)):=by rw [Nat.add_comm];exact k0);(have hc4 : (c : Int) < 4:=by omega);generalize vs.getD c 0 = x at k0 k1;clear hB;(go_enter Tryz.func114,Tryz.ntmps114);(go_wp2_with (go_at_call 122;refine R.mono ?_;rintro e w' ⟨rfl,rfl⟩));go_ret;exact ⟨rfl,rfl⟩
theorem Session_no (p : Value) (c : Int) (w : World) (h : isClient c = false) :
 Calls Tryz.prog 121 #[p,.int .i64 c] w fun e w' => e = .returned (.tuple #[.int .i64 0,.iface 69 (.int .i64 2)]) ∧ w = w':=by
 have R:=right_any c 0 w;rw [h,Bool.false_and] at R;(go_enter Tryz.func121,Tryz.ntmps121);(go_wp2_with (go_at_call 122;refine R.mono ?_;rintro e w' ⟨rfl,rfl⟩));exact bodyPost_ret (v:=.tuple #[.int .i64 0,.iface 69 (.int .i64 2)]) (by simp [results,Tryz.results121,go_sem]) rfl ⟨rfl,rfl⟩
theorem Session_yes (b : Nat) (m : Value) (vs ss : List Int) (c : Nat) (w : World) (hB : Has w b (.cells (tcells m vs ss).toArray 145)) (hv : vs.length = 4) (hs : ss.length = 4) (hc : c < 4) :
 Calls Tryz.prog 121 #[.pointer (some ⟨b,0,none⟩),.int .i64 c] w fun e w' => e = .returned (.tuple #[.int .i64 (ss.getD c 0),.nilIface]) ∧ w = w':=by
 have R:=right_any c 0 w;(have e0 : (isClient c && isObject 0) = true:=by simp [isClient,isObject];omega);rw [e0] at R;(have k0 : w.cell? ⟨b,5 + c,none⟩ = some (.int .i64 (ss.getD c 0)):=by rw [hB.cell,← tcells_ses (m:=m) (vs:=vs) (c:=c) hv (by omega)];simp);(have k1 : w.cell? ⟨b,c + 5,none⟩ = some (.int .i64 (ss.getD c 0)):=by rw [Nat.add_comm];exact k0);(have hc4 : (c : Int) < 4:=by omega);generalize ss.getD c 0 = x at k0 k1;clear hB;(go_enter Tryz.func121,Tryz.ntmps121);(go_wp2_with (go_at_call 122;refine R.mono ?_;rintro e w' ⟨rfl,rfl⟩));exact bodyPost_ret (v:=.tuple #[.int .i64 x,.nilIface]) (by simp [results,Tryz.results121,go_sem]) rfl ⟨rfl,rfl⟩
theorem Volume_no (p : Value) (c u : Int) (w : World) (h : ¬ (isClient c = true ∧ 0 ≤ u ∧ u ≤ 1099511627776)) :
 Calls Tryz.prog 100 #[p,.int .i64 c,.int .i64 u] w fun e w' => e = .returned (.iface 69 (.int .i64 2)) ∧ w = w':=by
 have R:=right_any c 0 w;have e1 : isObject 0 = true:=rfl;rw [e1,Bool.and_true] at R
 cases hc : isClient c with
 | false =>
  rw [hc] at R;(go_enter Tryz.func100,Tryz.ntmps100);(go_wp2_with (go_at_call 122;refine R.mono ?_;rintro e w' ⟨rfl,rfl⟩));go_ret;exact ⟨rfl,rfl⟩
 | true =>
  rw [hc] at R h;by_cases h0 : u < 0
  ·have d0:=decide_eq_true h0;(go_enter Tryz.func100,Tryz.ntmps100);(go_wp2_with (go_at_call 122;refine R.mono ?_;rintro e w' ⟨rfl,rfl⟩));go_ret;exact ⟨rfl,rfl⟩
  ·have d0:=decide_eq_false h0
   have h1 : (1099511627776 : Int) < u:=by
    have : ¬ (0 ≤ u ∧ u ≤ 1099511627776):=fun hh => h ⟨rfl,hh⟩;omega
   have d1:=decide_eq_true h1;(go_enter Tryz.func100,Tryz.ntmps100);(go_wp2_with (go_at_call 122;refine R.mono ?_;rintro e w' ⟨rfl,rfl⟩));go_ret;exact ⟨rfl,rfl⟩
theorem tcells_setvol {m : Value} {vs ss : List Int} {c : Nat} (x : Int) (hc : c < vs.length) : (tcells m vs ss).toArray.setIfInBounds (1 + c) (.int .i64 x) = (tcells m (vs.set c x) ss).toArray:=by
 rw [Nat.add_comm];simp only [tcells,List.setIfInBounds_toArray,List.set_cons_succ];rw [List.set_append_left _ _ (by simpa using hc),List.map_set]
theorem Volume_yes (b : Nat) (m : Value) (vs ss : List Int) (c : Nat) (u : Int) (w : World) (hB : Has w b (.cells (tcells m vs ss).toArray 145)) (hv : vs.length = 4) (hc : c < 4) (h0 : 0 ≤ u) (h1 : u ≤ 1099511627776) :
 Calls Tryz.prog 100 #[.pointer (some ⟨b,0,none⟩),.int .i64 c,.int .i64 u] w fun e w' => e = .returned .nilIface ∧ Turn (fun k => k = b) w w' ∧ Has w' b (.cells (tcells m (vs.set c (max (vs.getD c 0) u)) ss).toArray 145):=by
 have R:=right_any c 0 w
 have e0 : (isClient c && isObject 0) = true:=by simp [isClient,isObject];omega
 rw [e0] at R
 have k0 : w.cell? ⟨b,1 + c,none⟩ = some (.int .i64 (vs.getD c 0)):=by rw [hB.cell,← tcells_vol (m:=m) (ss:=ss) (c:=c) (by omega)];simp
 have f0 : w.frozen? ⟨b,1 + c,none⟩ = false:=hB.frozen _
 have hc4 : (c : Int) < 4:=by omega
 have d0 : decide (u < 0) = false:=by simpa using h0
 have d1 : decide ((1099511627776 : Int) < u) = false:=by simpa using h1
 have HB:=Hd hB
 generalize hx : vs.getD c 0 = x at k0
 clear hB
 go_enter Tryz.func100,Tryz.ntmps100
 go_wp2_with (go_at_call 122;refine R.mono ?_;rintro e w' ⟨rfl,rfl⟩)
 go_region
 all_goals go_wp2
 all_goals go_ret
 all_goals
  refine ⟨rfl,((Turn.refl (fun k => k = b) w).drew).setCell (p:=⟨b,1 + c,none⟩) (.inr rfl) _,?_⟩;rw [← tcells_setvol _ (by omega)]
  first
   | (rw [show max x u = x from by omega];exact HB.out.drew.set_ (1 + c) (.int .i64 x))
   | (rw [show max x u = u from by omega];exact HB.out.drew.set_ (1 + c) (.int .i64 u))
end lease
namespace lease
open Go.RowKit Go.WideMaps mapof
theorem laidOut : laidOutB Tryz.prog = true:=by kernel_rfl
theorem wideK : (match Tryz.prog.underlying 191 with | some (.array _ _) | some (.struct _) => true | _ => false) = true:=by rw [Tryz.underlying191]
theorem rowK : (191 : TypeId) < Tryz.prog.types.size:=of_decide_eq_true (by kernel_rfl)
theorem keyAtK : Tryz.prog.keyTypeAt 2 191 = true:=by kernel_rfl
set_option maxRecDepth 100000 in
theorem keyLaw : KeyLaw Tryz.prog 191:=deep_law_laid laidOut (m:=2) (by omega) rowK keyAtK wideK
theorem keyKeyed : Maps.Keyed Tryz.prog 191:=Maps.Keyed.of_law keyLaw
theorem sizeIs : ∃ m,Tryz.prog.types.size = m + 1:=⟨333 - 1,by kernel_rfl⟩
theorem zeroInt (w : World) : (zeroValue 3).run Tryz.prog w = .ok (.int .i64 0) w:=by kernel_rfl
theorem key_key {c o : Int} (hc : i64ok c) (ho : i64ok o) : keyOf Tryz.prog 191 (.agg #[.int .i64 c,.int .i64 o]) = some (pairL (c,o)):=by
 (have hkt : Tryz.prog.keyType 191 = true:=by kernel_rfl);(have hcl : Tryz.prog.cellsOf 191 = 2:=by kernel_rfl);(have hci : Tryz.prog.cellsOf 3 = 1:=by kernel_rfl);unfold i64ok at hc ho;obtain ⟨m,hm⟩:=sizeIs;unfold keyOf;simp only [Tryz.underlying191];rw [if_pos (by simp [hkt,Value.formed,Tryz.underlying191,hcl]),hm];unfold Program.keyLits;simp only [Tryz.underlying191,Value.cells];rw [if_pos (by rw [hcl];exact ⟨rfl,by simp⟩)];simp [hci,Program.keyLits,Tryz.underlying3,hc,ho,pairL]
theorem lit_inv {m : Nat} {x : Value} {ls : List Lit} (h : Tryz.prog.keyLits (m + 1) 3 [x] = some ls) : ∃ c,x = .int .i64 c ∧ i64ok c ∧ ls = [.int .i64 c]:=by
 unfold Program.keyLits at h;simp only [Tryz.underlying3] at h;cases x <;> simp at h;obtain ⟨⟨rfl,hw⟩,rfl⟩:=h;exact ⟨_,rfl,hw,rfl⟩
theorem formed_struct {P : Program} {K : TypeId} {fs : Array Field} (hu : P.underlying K = some (.struct fs)) {v : Value} (h : v.formed P K = true) : ∃ cs,v = .agg cs ∧ cs.size = P.cellsOf K:=by
 cases v <;> simp [Value.formed,hu] at h;exact ⟨_,rfl,h⟩
theorem key_inv (v : Value) (l : Lit) (h : keyOf Tryz.prog 191 v = some l) : ∃ k,v = pairV k ∧ l = pairL k ∧ pairOk k:=by
 (have hkt : Tryz.prog.keyType 191 = true:=by kernel_rfl);(have hcl : Tryz.prog.cellsOf 191 = 2:=by kernel_rfl);(have hci : Tryz.prog.cellsOf 3 = 1:=by kernel_rfl);obtain ⟨m,hm⟩:=sizeIs;unfold keyOf at h;simp only [Tryz.underlying191] at h;split at h
 ·rename_i hf;obtain ⟨cs,rfl,hs⟩:=formed_struct Tryz.underlying191 ((Bool.and_eq_true _ _).mp hf).2;rw [hcl] at hs;obtain ⟨ls⟩:=cs;(have h2 : ls.length = 2:=by simpa using hs);clear hs hf
  have e2 : ∃ a b,ls = [a,b]:=by
   clear h
   match ls,h2 with
   | [a,b],_ => exact ⟨a,b,rfl⟩
  obtain ⟨a,b,rfl⟩:=e2;rw [hm] at h;unfold Program.keyLits at h;simp only [Tryz.underlying191,Value.cells] at h;rw [if_pos (by rw [hcl];exact ⟨rfl,by simp⟩)] at h;simp [hci] at h
  cases hA : Tryz.prog.keyLits (m + 1) 3 [a] with
  | none => rw [hA] at h;cases h
  | some la =>
   cases hB : Tryz.prog.keyLits (m + 1) 3 [b] with
   | none => rw [hA,hB] at h;cases h
   | some lb =>
    obtain ⟨c,rfl,hc,rfl⟩:=lit_inv hA;obtain ⟨o,rfl,ho,rfl⟩:=lit_inv hB;rw [hA,hB] at h;exact ⟨(c,o),rfl,(Option.some.inj h).symm,hc,ho⟩
 ·cases h
noncomputable def keyS : MapSpec Tryz.prog (Int × Int) Int:=
 intSpec 191 3 142 Tryz.underlying3 zeroInt Tryz.underlying142 keyKeyed pairV pairL pairOk (fun _ h => key_key h.1 h.2) key_inv pairV_inj
end lease
namespace lease
open Go.RowKit Go.WideMaps heap own model mapof
abbrev Pairs:=List ((Int × Int) × Int)
structure TabAt (w : World) (b m : Nat) (l : Pairs) (vs ss : List Int) : Prop where
 t_ : Has w b (.cells (tcells (.map (some m)) vs ss).toArray 145)
 m_ : At keyS w m l
 ne : m ≠ b
 hv : vs.length = 4
 hs : ss.length = 4
theorem TabAt.cell0 {w : World} {b m : Nat} {l : Pairs} {vs ss : List Int} (h : TabAt w b m l vs ss) : w.cell? ⟨b,0,none⟩ = some (.map (some m)):=by
 rw [h.t_.cell];simp [tcells]
theorem TabAt.grown {w w' : World} {b m : Nat} {l l' : Pairs} {vs ss : List Int} (h : TabAt w b m l vs ss) (hg : w.grownBy w' (some m)) (hm : At keyS w' m l') : TabAt w' b m l' vs ss:=
 ⟨h.t_.grown hg (fun e => h.ne (Option.some.inj e).symm),hm,h.ne,h.hv,h.hs⟩
theorem TDrop_any (b m : Nat) (l : Pairs) (vs ss : List Int) (c o : Int) (w : World) (h : TabAt w b m l vs ss) (hc : i64ok c) (ho : i64ok o) :
 Calls Tryz.prog 101 #[.pointer (some ⟨b,0,none⟩),.int .i64 c,.int .i64 o] w fun e w' => e = .returned (.tuple #[]) ∧ TabAt w' b m (del (c,o) l) vs ss ∧ w.grownBy w' (some m):=by
 have k0:=h.cell0
 have H:=Hd h
 clear h
 go_enter Tryz.func101,Tryz.ntmps101
 go_wp2_with (at_delete;refine wpList_mdrop keyS rfl (.tmp 9) (.tmp 12) rfl rfl H.out.m_ (k:=(c,o)) ⟨hc,ho⟩ rfl ?_;intro w1 hm1 hg1)
 go_end0
 exact ⟨rfl,H.out.grown hg1 hm1,hg1⟩
end lease
namespace lease
open Go.RowKit heap own model mapof
theorem Object_no (p : Value) (c o u : Int) (w : World) (h : ¬ ((lease.isClient c && lease.isObject o) = true ∧ 0 ≤ u ∧ u ≤ 1099511627776)) :
 Calls Tryz.prog 94 #[p,.int .i64 c,.int .i64 o,.int .i64 u] w fun e w' => e = .returned (.iface 69 (.int .i64 2)) ∧ w = w':=by
 have R:=right_any c o w
 cases hc : (lease.isClient c && lease.isObject o) with
 | false =>
  rw [hc] at R;(go_enter Tryz.func94,Tryz.ntmps94);(go_wp2_with (go_at_call 122;refine R.mono ?_;rintro e w' ⟨rfl,rfl⟩));go_ret;exact ⟨rfl,rfl⟩
 | true =>
  rw [hc] at R h;by_cases h0 : u < 0
  ·have d0:=decide_eq_true h0;(go_enter Tryz.func94,Tryz.ntmps94);(go_wp2_with (go_at_call 122;refine R.mono ?_;rintro e w' ⟨rfl,rfl⟩));go_ret;exact ⟨rfl,rfl⟩
  ·have d0:=decide_eq_false h0
   have h1 : (1099511627776 : Int) < u:=by
    have : ¬ (0 ≤ u ∧ u ≤ 1099511627776):=fun hh => h ⟨rfl,hh⟩;omega
   have d1:=decide_eq_true h1;(go_enter Tryz.func94,Tryz.ntmps94);(go_wp2_with (go_at_call 122;refine R.mono ?_;rintro e w' ⟨rfl,rfl⟩));go_ret;exact ⟨rfl,rfl⟩
theorem grown_alloc {w w1 : World} {o : Obj} {row : Option Nat} (h : (w.alloc o).drew.grownBy w1 row) : w.grownBy w1 row:=
 ⟨h.os,h.tape,h.output,Nat.le_trans (by simp) h.size,fun k hk hr => (h.block k (by simp;omega) hr).trans (Below.heap_alloc _ _ _ hk)⟩
set_option maxHeartbeats 1000000 in
set_option maxRecDepth 100000 in
theorem Object_yes_ (b m : Nat) (l : Pairs) (vs ss : List Int) (c o u x y : Int) (w : World) (HY : Hid ((if u > x then u else x) = y)) (HX : Hid ((seek (c,o) l).getD 0 = x)) (h : TabAt w b m l vs ss) (hl : l.length < 1000) (hr : (lease.isClient c && lease.isObject o) = true) (h0 : 0 ≤ u) (h1 : u ≤ 1099511627776) (hc : i64ok c) (ho : i64ok o) (hu : i64ok y) :
 Calls Tryz.prog 94 #[.pointer (some ⟨b,0,none⟩),.int .i64 c,.int .i64 o,.int .i64 u] w fun e w' => e = .returned .nilIface ∧ TabAt w' b m (put (c,o) y l) vs ss ∧ w.grownBy w' (some m):=by
 have R:=right_any c o w;rw [hr] at R;(have d0 : decide (u < 0) = false:=by simpa using h0);(have d1 : decide ((1099511627776 : Int) < u) = false:=by simpa using h1);have H:=Hd h;have hlt:=h.t_.lt;obtain ⟨V,hV⟩ : ∃ V,V = w.alloc (.cells #[.int .i64 c,.int .i64 o] 191):=⟨_,rfl⟩
 have HS : Hid (V.cell? ⟨b,0,none⟩ = some (.map (some m)) ∧ V.cell? ⟨w.heap.size,0,none⟩ = some (.int .i64 c) ∧ V.cell? ⟨w.heap.size,1,none⟩ = some (.int .i64 o) ∧ At keyS V m l):=by
  rw [hV];exact ⟨(World.cell?_alloc_lt _ _ _ hlt).trans h.cell0,(Has.new w _).cell 0,(Has.new w _).cell 1,h.m_.below ((Below.refl _ _).alloc (Nat.le_refl _) _)⟩
 have HV:=Hd hV;clear h;(go_enter Tryz.func94,Tryz.ntmps94);(go_wp2_with (go_at_call 122;refine R.mono ?_;rintro e w' ⟨rfl,rfl⟩));rw [← hV];refine last.wp_region_last (S:=fun W => W.cell? ⟨b,0,none⟩ = some (.map (some m)) ∧ W.cell? ⟨w.heap.size,0,none⟩ = some (.int .i64 c) ∧ W.cell? ⟨w.heap.size,1,none⟩ = some (.int .i64 o) ∧ At keyS W m l) (L:=13) (by kernel_rfl) ?_;refine last.wpAnyL_go 0 26 (.pointer (some ⟨b,0,none⟩)) rfl rfl (by kernel_rfl) (by kernel_rfl) (by kernel_rfl) (by kernel_rfl) (fun _ _ _ h => h) HS.out (by rfl) (fun W hW => by obtain ⟨hW1,hW2,hW3,-⟩:=hW;go_simp) ?_;simp only [List.setIfInBounds_toArray,List.set_cons_succ,List.set_cons_zero];refine last.wpAnyL_go 1 27 (.pointer (some ⟨b,0,none⟩)) rfl rfl (by kernel_rfl) (by kernel_rfl) (by kernel_rfl) (by kernel_rfl) (fun _ _ _ h => h) HS.out (by rfl) (fun W hW => by obtain ⟨hW1,hW2,hW3,-⟩:=hW;go_simp) ?_;simp only [List.setIfInBounds_toArray,List.set_cons_succ,List.set_cons_zero];refine last.wpAnyL_go 2 28 (.pointer (some ⟨b,0,none⟩)) rfl rfl (by kernel_rfl) (by kernel_rfl) (by kernel_rfl) (by kernel_rfl) (fun _ _ _ h => h) HS.out (by rfl) (fun W hW => by obtain ⟨hW1,hW2,hW3,-⟩:=hW;go_simp) ?_;simp only [List.setIfInBounds_toArray,List.set_cons_succ,List.set_cons_zero];refine last.wpAnyL_go 3 29 (.map (some m)) rfl rfl (by kernel_rfl) (by kernel_rfl) (by kernel_rfl) (by kernel_rfl) (fun _ _ _ h => h) HS.out (by rfl) (fun W hW => by obtain ⟨hW1,hW2,hW3,-⟩:=hW;go_simp) ?_;simp only [List.setIfInBounds_toArray,List.set_cons_succ,List.set_cons_zero];refine last.wpAnyL_go 4 30 (.agg #[.int .i64 c,.int .i64 o]) rfl rfl (by kernel_rfl) (by kernel_rfl) (by kernel_rfl) (by kernel_rfl) (fun _ _ _ h => h) HS.out (by rfl) (fun W hW => by obtain ⟨hW1,hW2,hW3,-⟩:=hW;go_simp) ?_;simp only [List.setIfInBounds_toArray,List.set_cons_succ,List.set_cons_zero];refine last.wpAnyL_go 5 31 (.pointer (some ⟨b,0,none⟩)) rfl rfl (by kernel_rfl) (by kernel_rfl) (by kernel_rfl) (by kernel_rfl) (fun _ _ _ h => h) HS.out (by rfl) (fun W hW => by obtain ⟨hW1,hW2,hW3,-⟩:=hW;go_simp) ?_;simp only [List.setIfInBounds_toArray,List.set_cons_succ,List.set_cons_zero];refine last.wpAnyL_go 6 32 (.pointer (some ⟨b,0,none⟩)) rfl rfl (by kernel_rfl) (by kernel_rfl) (by kernel_rfl) (by kernel_rfl) (fun _ _ _ h => h) HS.out (by rfl) (fun W hW => by obtain ⟨hW1,hW2,hW3,-⟩:=hW;go_simp) ?_;simp only [List.setIfInBounds_toArray,List.set_cons_succ,List.set_cons_zero];refine last.wpAnyL_go 7 33 (.pointer (some ⟨b,0,none⟩)) rfl rfl (by kernel_rfl) (by kernel_rfl) (by kernel_rfl) (by kernel_rfl) (fun _ _ _ h => h) HS.out (by rfl) (fun W hW => by obtain ⟨hW1,hW2,hW3,-⟩:=hW;go_simp) ?_;simp only [List.setIfInBounds_toArray,List.set_cons_succ,List.set_cons_zero];refine last.wpAnyL_go 8 34 (.map (some m)) rfl rfl (by kernel_rfl) (by kernel_rfl) (by kernel_rfl) (by kernel_rfl) (fun _ _ _ h => h) HS.out (by rfl) (fun W hW => by obtain ⟨hW1,hW2,hW3,-⟩:=hW;go_simp) ?_;simp only [List.setIfInBounds_toArray,List.set_cons_succ,List.set_cons_zero];refine last.wpAnyL_go 9 35 (.agg #[.int .i64 c,.int .i64 o]) rfl rfl (by kernel_rfl) (by kernel_rfl) (by kernel_rfl) (by kernel_rfl) (fun _ _ _ h => h) HS.out (by rfl) (fun W hW => by obtain ⟨hW1,hW2,hW3,-⟩:=hW;go_simp) ?_;simp only [List.setIfInBounds_toArray,List.set_cons_succ,List.set_cons_zero];refine last.wpAnyL_go 10 36 (.int .i64 x) rfl rfl (by kernel_rfl) (by kernel_rfl) (by kernel_rfl) (by kernel_rfl) (fun _ _ _ h => h) HS.out (by rfl) (fun W hW => by obtain ⟨hW1,hW2,hW3,hW4⟩:=hW;rw [← HX.out];exact exec_mlook keyS (.tmp 34) (.tmp 35) rfl (by go_simp) hW4 (k:=(c,o)) ⟨hc,ho⟩ (by go_simp;rfl)) ?_;simp only [List.setIfInBounds_toArray,List.set_cons_succ,List.set_cons_zero];refine last.wpAnyL_go 11 37 (.int .i64 u) rfl rfl (by kernel_rfl) (by kernel_rfl) (by kernel_rfl) (by kernel_rfl) (fun _ _ _ h => h) HS.out (by rfl) (fun W hW => by obtain ⟨hW1,hW2,hW3,-⟩:=hW;go_simp) ?_;simp only [List.setIfInBounds_toArray,List.set_cons_succ,List.set_cons_zero];refine last.wpAnyL_go 12 38 (.int .i64 y) rfl rfl (by kernel_rfl) (by kernel_rfl) (by kernel_rfl) (by kernel_rfl) (fun _ _ _ h => h) HS.out (by rfl) (fun W hW => by obtain ⟨hW1,hW2,hW3,-⟩:=hW;go_simp;exact HY.out) ?_;simp only [List.setIfInBounds_toArray,List.set_cons_succ,List.set_cons_zero];refine last.wpAnyL_one (i:=13) (by kernel_rfl) rfl fun K hK => ?_;refine (if_pos (by rfl)).mpr ?_;refine wp_mstore keyS (.tmp 29) (.tmp 30) (.tmp 38) rfl rfl HS.out.2.2.2 (by unfold maxLen;omega) (k:=(c,o)) ⟨hc,ho⟩ hu rfl rfl ?_;intro w1 hm1 hg1;refine hK.out _ _ (fun h => absurd rfl h) ?_;refine last.done ?_;go_wp2;go_ret;obtain rfl:=HV.out;have hb : TabAt (w.alloc (.cells #[.int .i64 c,.int .i64 o] 191)).drew b m l vs ss:=⟨(H.out.t_.alloc _).drew,H.out.m_.below (((Below.refl _ _).alloc (Nat.le_refl _) _).drew),H.out.ne,H.out.hv,H.out.hs⟩;exact ⟨rfl,hb.grown hg1 hm1,grown_alloc hg1⟩
theorem Object_yes (b m : Nat) (l : Pairs) (vs ss : List Int) (c o u : Int) (w : World) (h : TabAt w b m l vs ss) (hl : l.length < 1000) (hr : (lease.isClient c && lease.isObject o) = true) (h0 : 0 ≤ u) (h1 : u ≤ 1099511627776) (hc : i64ok c) (ho : i64ok o) (hu : i64ok (max ((seek (c,o) l).getD 0) u)) :
 Calls Tryz.prog 94 #[.pointer (some ⟨b,0,none⟩),.int .i64 c,.int .i64 o,.int .i64 u] w fun e w' => e = .returned .nilIface ∧ TabAt w' b m (put (c,o) (max ((seek (c,o) l).getD 0) u) l) vs ss ∧ w.grownBy w' (some m):=
 Object_yes_ b m l vs ss c o u _ _ w (Hd (by split <;> omega)) (Hd rfl) h hl hr h0 h1 hc ho hu
theorem Flush_no (p : Value) (c : Int) (w : World) (h : lease.isClient c = false) :
 Calls Tryz.prog 116 #[p,.int .i64 c] w fun e w' => e = .returned (.iface 69 (.int .i64 2)) ∧ w = w':=by
 have R:=right_any c 0 w;rw [h,Bool.false_and] at R;(go_enter Tryz.func116,Tryz.ntmps116);(go_wp2_with (go_at_call 122;refine R.mono ?_;rintro e w' ⟨rfl,rfl⟩));go_ret;exact ⟨rfl,rfl⟩
noncomputable def flushed (c : Nat) (left : Lit → Bool) (l : Pairs) : Pairs:=l.filter fun e => !decide (e.1.1 = (c : Int)) || left (keyS.kl e.1)
theorem flushed_start {c : Nat} {left : Lit → Bool} {l : Pairs} (h : ∀ p ∈ l,left (keyS.kl p.1) = true) : flushed c left l = l:=
 List.filter_eq_self.2 fun p hp => by simp [h p hp]
theorem flushed_end {c : Nat} {left : Lit → Bool} {l : Pairs} (h : ∀ kl,left kl = false) : flushed c left l = l.filter (fun e => !decide (e.1.1 = (c : Int))):=by
 unfold flushed;congr 1;funext e;simp [h]
theorem flushed_stays {c : Nat} {left : Lit → Bool} {l : Pairs} {k : Int × Int} (hok : ∀ p ∈ l,keyS.okK p.1) (hk : keyS.okK k) (hc : k.1 ≠ (c : Int)) : flushed c (fun z => left z && !z.sameKey (keyS.kl k)) l = flushed c left l:=by
 unfold flushed;refine List.filter_congr fun p hp => ?_;by_cases hpc : p.1.1 = (c : Int)
 ·have : p.1 ≠ k:=fun e => hc (e ▸ hpc);have hs : (keyS.kl p.1).sameKey (keyS.kl k) = false:=Maps.sameKey_ne fun e => this (keyS.kl_inj (hok p hp) hk e);simp [hpc,hs]
 ·simp [hpc]
theorem flushed_struck {c : Nat} {left : Lit → Bool} {l : Pairs} {k : Int × Int} (hok : ∀ p ∈ l,keyS.okK p.1) (hk : keyS.okK k) (hc : k.1 = (c : Int)) : flushed c (fun z => left z && !z.sameKey (keyS.kl k)) l = del k (flushed c left l):=by
 unfold flushed;rw [del_filter,List.filter_filter];refine List.filter_congr fun p hp => ?_;by_cases hpk : p.1 = k
 ·(have hs : (keyS.kl p.1).sameKey (keyS.kl k) = true:=by rw [hpk];exact WideAt.sameKey_self (keyS.isKey hk));rw [hpk] at hs ⊢;simp [hc,hs]
 ·have hs : (keyS.kl p.1).sameKey (keyS.kl k) = false:=Maps.sameKey_ne fun e => hpk (keyS.kl_inj (hok p hp) hk e);simp [hpk,hs]
theorem tcells_setses {m : Value} {vs ss : List Int} {c : Nat} (x : Int) (hv : vs.length = 4) : (tcells m vs ss).toArray.setIfInBounds (5 + c) (.int .i64 x) = (tcells m vs (ss.set c x)).toArray:=by
 rw [show 5 + c = (4 + c) + 1 from by omega];simp only [tcells,List.setIfInBounds_toArray,List.set_cons_succ];rw [List.set_append_right _ _ (by simp;omega),List.length_map,hv,Nat.add_sub_cancel_left,List.map_set]
set_option maxHeartbeats 2000000 in
set_option maxRecDepth 100000 in
theorem Flush_yes (b m : Nat) (l : Pairs) (vs ss : List Int) (c : Nat) (w : World) (h : TabAt w b m l vs ss) (hc : c < 4) :
 Calls Tryz.prog 116 #[.pointer (some ⟨b,0,none⟩),.int .i64 c] w fun e w' => e = .returned .nilIface ∧
  TabAt w' b m (l.filter (fun e => !decide (e.1.1 = (c : Int)))) (vs.set c 0) (ss.set c (wrap64 (ss.getD c 0 + 1))) ∧ Turn (fun k => k = b ∨ k = m) w w':=by
 have R:=right_any c 0 w;(have e0 : (isClient c && isObject 0) = true:=by simp [isClient,isObject];omega);rw [e0] at R;have k0:=h.cell0;have hok : ∀ p ∈ l,keyS.okK p.1:=fun p hp => (h.m_.ok p hp).1;have HOK:=Hd hok;have hbl:=h.t_.lt;have hml:=h.m_.lt;have HN:=Hd h.ne;have HV:=Hd h.hv;have HSS:=Hd h.hs;have H:=Hd h;clear h hok;go_enter Tryz.func116,Tryz.ntmps116
 go_wp2_with (first
  | (go_at_call 122;refine R.mono ?_;rintro e w' ⟨rfl,rfl⟩)
  | (at_range;refine wpList_mrange keyS rfl (.tmp 13) rfl rfl H.out.m_ ?_;intro w0 left0 hov0 hl0 hg0 hs0))
 go_frame
 go_loopw [5] (fun _ wr => ∃ (left : Lit → Bool) (cnt : Nat),Over keyS wr m w.heap.size l.length (flushed c left l) left cnt ∧ Has wr b (.cells (tcells (.map (some m)) vs ss).toArray 145) ∧ Turn (fun k => k = b ∨ k = m) w wr ∧ w.heap.size < wr.heap.size)
  (fun _ wr => wr.rangeLeft m w.heap.size)
 case atStart => exact ⟨left0,_,by rw [flushed_start hl0];exact hov0,H.out.t_.grown hg0 (by simp),(Turn.refl _ _).grown hg0 (by simp),by omega⟩
 case round =>
  clear hov0 hl0 hg0 hs0 k0;obtain ⟨left,cnt,hov,hB,ht,hz⟩:=hrel;have HB:=Hd hB;have HOV0:=Hd hov;clear hB;go_wp2_with (at_next;refine wpList_mnext keyS rfl (.tmp 14) rfl rfl hov ?_ ?_)
  ·intro _ hl1
   have k1 : wr.cell? ⟨b,1 + c,none⟩ = some (.int .i64 (vs.getD c 0)):=by rw [HB.out.cell,← tcells_vol (m:=.map (some m)) (ss:=ss) (c:=c) (by rw [HV.out];omega)];simp
   have f1 : wr.frozen? ⟨b,1 + c,none⟩ = false:=HB.out.frozen _
   have k2 : wr.cell? ⟨b,5 + c,none⟩ = some (.int .i64 (ss.getD c 0)):=by rw [HB.out.cell,← tcells_ses (m:=.map (some m)) (vs:=vs) (c:=c) HV.out (by rw [HSS.out];omega)];simp
   have f2 : wr.frozen? ⟨b,5 + c,none⟩ = false:=HB.out.frozen _
   have hc4 : (c : Int) < 4:=by omega
   obtain ⟨y,hy⟩ : ∃ y,y = ss.getD c 0:=⟨_,rfl⟩
   rw [← hy] at k2
   have HY:=Hd hy
   have HL:=Hd hl1
   clear hy hl1
   go_wp2
   go_region
   all_goals
    go_wp2;go_ret;refine ⟨rfl,⟨?_,?_,HN.out,by simp [HV.out],by simp [HSS.out]⟩,?_⟩
    ·rw [← tcells_setses _ (by simp [HV.out]),← tcells_setvol _ (by rw [HV.out];omega),← HY.out];exact ((HB.out.set_ (1 + c) _).set_ (5 + c) _).drew
    ·rw [← flushed_end HL.out];exact (((hov.at_).far (p:=⟨b,1 + c,none⟩) HN.out _).far (p:=⟨b,5 + c,none⟩) HN.out _).drew
    ·exact ((ht.setCell (p:=⟨b,1 + c,none⟩) (.inr (.inl rfl)) _).setCell (p:=⟨b,5 + c,none⟩) (.inr (.inl rfl)) _).drew
  ·intro c' o' u w1 cnt1 hk hu hsk hlk hov1 hlt hg1 hs1 hen;have e1 : keyS.kv (c',o') = .agg #[.int .i64 c',.int .i64 o']:=rfl;have e2 : keyS.ev u = .int .i64 u:=rfl;rw [e1,e2] at hen ⊢;clear e1 e2;have HE:=Hd hsk;have HLK:=Hd hlk;have HLT:=Hd hlt;have HOV:=Hd hov1;have hB1:=HB.out.grown hg1 (by simp;omega);(have k1 : w1.cell? ⟨b,0,none⟩ = some (.map (some m)):=by rw [hB1.cell];simp [tcells]);have HB1:=Hd hB1;have HT1:=Hd (ht.grown hg1 (fun k hk => by cases hk;exact .inl (Nat.le_refl _)));(have hz1 : w.heap.size < w1.heap.size:=by omega);have HS1:=Hd hs1;(have hbl1 : b < w1.heap.size:=by omega);clear hsk hlk hlt hov1 hB1 hg1 hs1 hov ht;by_cases hcc : c' = (c : Int)
   ·(have hd : ((c' : Int) == (c : Int)) = true:=by simpa using hcc);have HC:=Hd hcc;clear hcc;go_wp2
    have HS : Hid ((w1.alloc (.cells #[.int .i64 c',.int .i64 o'] 191)).drew.cell? ⟨b,0,none⟩ = some (.map (some m)) ∧ (w1.alloc (.cells #[.int .i64 c',.int .i64 o'] 191)).drew.cell? ⟨w1.heap.size,0,none⟩ = some (.int .i64 c') ∧ (w1.alloc (.cells #[.int .i64 c',.int .i64 o'] 191)).drew.cell? ⟨w1.heap.size,1,none⟩ = some (.int .i64 o')):=
     ⟨(World.cell?_alloc_lt _ _ _ hbl1).trans k1,(Has.new w1 _).cell 0,(Has.new w1 _).cell 1⟩
    refine last.wp_region_last (S:=fun W => W.cell? ⟨b,0,none⟩ = some (.map (some m)) ∧ W.cell? ⟨w1.heap.size,0,none⟩ = some (.int .i64 c') ∧ W.cell? ⟨w1.heap.size,1,none⟩ = some (.int .i64 o')) (L:=6) (by kernel_rfl) ?_;refine last.wpAnyL_go 0 23 (.pointer (some ⟨b,0,none⟩)) rfl rfl (by kernel_rfl) (by kernel_rfl) (by kernel_rfl) (by kernel_rfl) (fun _ _ _ h => h) HS.out (by rfl) (fun W hW => by obtain ⟨hW1,hW2,hW3⟩:=hW;go_simp) ?_;simp only [List.setIfInBounds_toArray,List.set_cons_succ,List.set_cons_zero];refine last.wpAnyL_go 1 24 (.pointer (some ⟨b,0,none⟩)) rfl rfl (by kernel_rfl) (by kernel_rfl) (by kernel_rfl) (by kernel_rfl) (fun _ _ _ h => h) HS.out (by rfl) (fun W hW => by obtain ⟨hW1,hW2,hW3⟩:=hW;go_simp) ?_;simp only [List.setIfInBounds_toArray,List.set_cons_succ,List.set_cons_zero];refine last.wpAnyL_go 2 25 (.pointer (some ⟨b,0,none⟩)) rfl rfl (by kernel_rfl) (by kernel_rfl) (by kernel_rfl) (by kernel_rfl) (fun _ _ _ h => h) HS.out (by rfl) (fun W hW => by obtain ⟨hW1,hW2,hW3⟩:=hW;go_simp) ?_;simp only [List.setIfInBounds_toArray,List.set_cons_succ,List.set_cons_zero];refine last.wpAnyL_go 3 26 (.map (some m)) rfl rfl (by kernel_rfl) (by kernel_rfl) (by kernel_rfl) (by kernel_rfl) (fun _ _ _ h => h) HS.out (by rfl) (fun W hW => by obtain ⟨hW1,hW2,hW3⟩:=hW;go_simp) ?_;simp only [List.setIfInBounds_toArray,List.set_cons_succ,List.set_cons_zero];refine last.wpAnyL_go 4 27 (.agg #[.int .i64 c',.int .i64 o']) rfl rfl (by kernel_rfl) (by kernel_rfl) (by kernel_rfl) (by kernel_rfl) (fun _ _ _ h => h) HS.out (by rfl) (fun W hW => by obtain ⟨hW1,hW2,hW3⟩:=hW;go_simp) ?_;simp only [List.setIfInBounds_toArray,List.set_cons_succ,List.set_cons_zero];refine last.wpAnyL_one (i:=5) (by kernel_rfl) (by simp only [List.getElem?_toArray,List.getElem?_cons_succ,List.getElem?_cons_zero];exact rfl) fun K hK => ?_;refine (if_pos (by rfl)).mpr ?_;refine wp_mdrop_over keyS (.tmp 26) (.tmp 27) rfl rfl (HOV.out.alloc _).drew (k:=(c',o')) hk rfl ?_;intro w2 cnt2 hov2 hle2 hg2 hs2;simp only [Act.put]
    have HC3 : w2.cell? ⟨b,0,none⟩ = some (.map (some m)) ∧ w2.cell? ⟨w1.heap.size,0,none⟩ = some (.int .i64 c') ∧ w2.cell? ⟨w1.heap.size,1,none⟩ = some (.int .i64 o'):=
     ⟨(World.cell?_of_block (hg2.block b (by simp;omega) (fun e => HN.out (Option.some.inj e).symm))).trans HS.out.1,(World.cell?_of_block (hg2.block w1.heap.size (by simp) (fun e => by have:=Option.some.inj e;omega))).trans HS.out.2.1,(World.cell?_of_block (hg2.block w1.heap.size (by simp) (fun e => by have:=Option.some.inj e;omega))).trans HS.out.2.2⟩
    refine hK.out _ _ (fun _ => HC3) ?_;clear HC3;refine last.done ?_;have HT2:=(((HT1.out.alloc (.cells #[.int .i64 c',.int .i64 o'] 191)).drew).grown hg2 (fun k hk => by cases hk;exact .inr (.inr rfl)));have HB2:=((HB1.out.alloc (.cells #[.int .i64 c',.int .i64 o'] 191)).drew).grown hg2 (fun e => HN.out (Option.some.inj e).symm);have hz2 : w.heap.size < w2.heap.size:=by rw [hs2];simp;omega
    have hov3 : Over keyS w2 m w.heap.size l.length (flushed c (fun z => left z && !z.sameKey (keyS.kl (c',o'))) l) (fun z => left z && !z.sameKey (keyS.kl (c',o'))) cnt2:=by
     rw [flushed_struck HOK.out hk HC.out];rw [Maps.strike_twice] at hov2;exact hov2
    have HOV3:=Hd hov3;have HTB:=Hd (And.intro HT2 HB2);have HLE:=Hd hle2;clear hov2 hov3 HT2 HB2 hg2 hle2 hs2;go_wp2;go_roundw;(case rel => exact ⟨_,_,HOV3.out,HTB.out.2,HTB.out.1,hz2⟩);case measure => rw [HOV3.out.left_eq,HOV0.out.left_eq];exact Nat.lt_of_le_of_lt HLE.out HLT.out
   ·(have hd : ((c' : Int) == (c : Int)) = false:=by simpa using hcc);have HC:=Hd hcc;clear hcc;go_wp2;go_roundw;(case rel => exact ⟨_,cnt1,by rw [flushed_stays HOK.out hk HC.out];exact HOV.out.alloc _,HB1.out.alloc _,HT1.out.alloc _,by simp;omega⟩);case measure => rw [(HOV.out.alloc _).left_eq,HOV0.out.left_eq];exact HLT.out
end lease
end Go.Proofs.YtefkmcjhgoagcaaGreatDoor
