/-
  A part of the proof of the law WorldLasts: Clock, CacheA, CacheB.
-/
import Derived.Test.YtefkmcjhgoagcaaGreatDoorRows
import Derived.Deep.RegionLaw
import Derived.Deep.AppendLies
import Derived.Deep.DrawnRows
import Derived.Test.YtefkmcjhgoagcaaGreatDoorHd
import Derived.Test.YtefkmcjhgoagcaaGreatDoorP05
import Derived.Test.YtefkmcjhgoagcaaGreatDoorP11
namespace Go.Proofs.YtefkmcjhgoagcaaGreatDoor
namespace clock
open Go.RowKit errs
theorem mul_hi (a b A B : Int) (h0 : 0 ≤ a) (h1 : a ≤ A) (h2 : 0 ≤ b) (h3 : b ≤ B) : 0 ≤ a * b ∧ a * b ≤ A * B:=
 ⟨Int.mul_nonneg h0 h2,Int.mul_le_mul h1 h3 h2 (by omega)⟩
theorem ret_two {x y : Int} {v : Value} (h : x = y) : Ending.returned (.tuple #[.int .i64 x,v]) = Ending.returned (.tuple #[.int .i64 y,v]):=by rw [h]
theorem Short_yes (d t : Int) (w : World) (h1 : 0 ≤ d) (h2 : d ≤ 500) (h3 : 0 ≤ t) (h4 : t ≤ 1099511627776) :
 Calls Tryz.prog 103 #[.int .i64 d,.int .i64 t] w fun e w' => e = .returned (.tuple #[.int .i64 (t * (1000 - d) / (1000 + d)),.nilIface]) ∧ w = w':=by
 obtain ⟨m0,m1⟩:=mul_hi t (1000 - d) 1099511627776 1000 h3 h4 (by omega) (by omega);(go_enter Tryz.func103,Tryz.ntmps103);go_wp2;go_ret2;exact ⟨rfl,rfl⟩
theorem Short_no (d t : Int) (w : World) (h : ¬ (0 ≤ d ∧ d ≤ 500 ∧ 0 ≤ t ∧ t ≤ 1099511627776)) :
 Calls Tryz.prog 103 #[.int .i64 d,.int .i64 t] w fun e w' => e = .returned (.tuple #[.int .i64 0,.iface 69 (.int .i64 2)]) ∧ w = w':=by
 (have h' : d < 0 ∨ 500 < d ∨ t < 0 ∨ 1099511627776 < t:=by omega);clear h;(go_enter Tryz.func103,Tryz.ntmps103);go_wp2
 all_goals
  go_ret2;exact ⟨rfl,rfl⟩
theorem Add_yes (a b : Int) (w : World) (h1 : 0 ≤ a) (h2 : a ≤ 1099511627776) (h3 : 0 ≤ b) (h4 : b ≤ 1099511627776) :
 Calls Tryz.prog 93 #[.int .i64 a,.int .i64 b] w fun e w' => e = .returned (.tuple #[.int .i64 (min (a + b) 1099511627776),.nilIface]) ∧ w = w':=by
 (have i0 : ∀ w,(Instr.index 189 (.agg #[.int .i64 a,.int .i64 b]) (.int .i64 0)).run Tryz.prog w = .ok (.int .i64 a) w:=fun _ => by kernel_rfl);(have i1 : ∀ w,(Instr.index 189 (.agg #[.int .i64 a,.int .i64 b]) (.int .i64 1)).run Tryz.prog w = .ok (.int .i64 b) w:=fun _ => by kernel_rfl);(go_enter Tryz.func93,Tryz.ntmps93);go_wp2;refine wp_loop_rounds 3 ?_;rw [rounds_succ];go_wp2;rw [rounds_succ];go_wp2;rw [rounds_succ];go_wp2
 all_goals
  go_ret2;exact ⟨ret_two (by omega),rfl⟩
theorem Add_no (a b : Int) (w : World) (h : ¬ (0 ≤ a ∧ a ≤ 1099511627776 ∧ 0 ≤ b ∧ b ≤ 1099511627776)) :
 Calls Tryz.prog 93 #[.int .i64 a,.int .i64 b] w fun e w' => e = .returned (.tuple #[.int .i64 0,.iface 69 (.int .i64 2)]) ∧ w = w':=by
 (have i0 : ∀ w,(Instr.index 189 (.agg #[.int .i64 a,.int .i64 b]) (.int .i64 0)).run Tryz.prog w = .ok (.int .i64 a) w:=fun _ => by kernel_rfl);(have i1 : ∀ w,(Instr.index 189 (.agg #[.int .i64 a,.int .i64 b]) (.int .i64 1)).run Tryz.prog w = .ok (.int .i64 b) w:=fun _ => by kernel_rfl);by_cases ha : a < 0 ∨ 1099511627776 < a
 ·clear h;(go_enter Tryz.func93,Tryz.ntmps93);go_wp2;refine wp_loop_rounds 1 ?_;rw [rounds_succ];go_wp2
  all_goals
   go_ret2;exact ⟨rfl,rfl⟩
 ·(have h0 : 0 ≤ a:=by omega);(have h1 : a ≤ 1099511627776:=by omega);(have h2 : b < 0 ∨ 1099511627776 < b:=by omega);clear h ha;(go_enter Tryz.func93,Tryz.ntmps93);go_wp2;refine wp_loop_rounds 2 ?_;rw [rounds_succ];go_wp2;rw [rounds_succ];go_wp2
  all_goals
   go_ret2;exact ⟨rfl,rfl⟩
end clock
namespace cache
open Go.RowKit heap own
structure It where
 obj : Int
 data : List UInt8
 ver : Int
 till : Int
def itc (x : It) : List Value:=[.int .i64 x.obj,.string ⟨x.data.toArray⟩,.int .i64 x.ver,.int .i64 x.till]
def It.val (x : It) : Value:=.agg #[.int .i64 x.obj,.string ⟨x.data.toArray⟩,.int .i64 x.ver,.int .i64 x.till]
def icells (l : List It) : List Value:=l.flatMap itc
def Items (own : Nat → Nat) (T : Nat) (w : World) (v : Value) (l : List It) : Prop:=Row own T w 152 4 v l.length (icells l)
theorem icells_one (l : List It) : ∀ u ∈ icells l,u.oneCell' = true:=by
 intro u hu;obtain ⟨x,-,hu⟩:=List.mem_flatMap.1 hu;simp only [itc,List.mem_cons,List.not_mem_nil,or_false] at hu;rcases hu with rfl | rfl | rfl | rfl <;> rfl
theorem icells_get (l : List It) (k : Nat) (x : It) (h : l[k]? = some x) (j : Nat) (hj : j < 4) : (icells l)[k * 4 + j]? = (itc x)[j]?:=by
 induction l generalizing k with
 | nil => simp at h
 | cons q l ih =>
  cases k with
  | zero =>
   (obtain rfl : q = x:=by simpa using h);simp only [icells,List.flatMap_cons,Nat.zero_mul,Nat.zero_add];rw [List.getElem?_append_left (by simpa [itc] using hj)]
  | succ k =>
   have:=ih k (by simpa using h);simp only [icells,List.flatMap_cons] at this ⊢;rw [List.getElem?_append_right (by simp [itc];omega)];rw [show (k + 1) * 4 + j - (itc q).length = k * 4 + j from by simp [itc];omega];exact this
def findAt (l : List It) (o : Int) : Int:=match l.findIdx? (fun x => decide (x.obj = o)) with | some k => k | none => -1
theorem find_fn (x : It) (o : Int) (p : Nat) (w : World) (hp : w.cell? ⟨p,0,none⟩ = some (.int .i64 o)) :
 Calls Tryz.prog 119 #[x.val,.pointer (some ⟨p,0,none⟩)] w fun e w' => e = .returned (.bool (x.obj == o)) ∧ Below w.heap.size w w':=by
 have hlt : p < w.heap.size:=by
  rcases Nat.lt_or_ge p w.heap.size with h' | h'
  ·exact h'
  ·simp [World.cell?,Array.getElem?_eq_none h'] at hp
 unfold It.val;(go_enter Tryz.func119,Tryz.ntmps119);go_wp2;go_ret;exact ⟨rfl,(Below.refl _ _).alloc (Nat.le_refl _) _⟩
theorem find_hit (l : List It) (o : Int) (k : Nat) (x : It) (h : l[k]? = some x) (hx : x.obj = o) (hn : ∀ y ∈ l.take k,y.obj ≠ o) : findAt l o = k:=by
 unfold findAt
 have : l.findIdx? (fun x => decide (x.obj = o)) = some k:=by
  rw [List.findIdx?_eq_some_iff_getElem];obtain ⟨hk,rfl⟩:=List.getElem?_eq_some_iff.1 h;refine ⟨hk,by simpa using hx,fun j hj => ?_⟩
  have:=hn l[j] (by
   rw [List.mem_take_iff_getElem]
   exact ⟨j,by omega,rfl⟩)
  simpa using this
 rw [this]
theorem find_miss (l : List It) (o : Int) (hn : ∀ y ∈ l,y.obj ≠ o) : findAt l o = -1:=by
 unfold findAt
 have : l.findIdx? (fun x => decide (x.obj = o)) = none:=by
  rw [List.findIdx?_eq_none_iff];intro x hx;simpa using hn x hx
 rw [this]
set_option maxHeartbeats 1000000 in
set_option maxRecDepth 100000 in
theorem index_any (own : Nat → Nat) (T : Nat) (v : Value) (l : List It) (o : Int) (p : Nat) (w : World) (h : Items own T w v l) (hp : w.cell? ⟨p,0,none⟩ = some (.int .i64 o)) :
 Calls Tryz.prog 118 #[v,.func (.func 119) #[] #[.pointer (some ⟨p,0,none⟩)]] w fun e w' => e = .returned (.int .i64 (findAt l o)) ∧ Below w.heap.size w w':=by
 have hsh : ∃ a c,v = .slice a l.length c ∧ l.length ≤ 9223372036854775807 ∧ (0 < l.length → ∃ g,a = some ⟨g,0,none⟩ ∧ g < w.heap.size ∧ ∀ k x,l[k]? = some x → ∀ j,j < 4 → w.cell? ⟨g,k * 4 + j,none⟩ = (itc x)[j]?):=by
  rcases Nat.eq_zero_or_pos l.length with h0 | h0
  ·rcases h.1.2 with ⟨rfl,e⟩ | ⟨g,cap,cur,rfl,_⟩
   ·exact ⟨none,0,by rw [← h0],by omega,fun h => by omega⟩
   ·exact ⟨_,_,rfl,by omega,fun h => by omega⟩
  ·obtain ⟨g,cap,cur,rfl,ho,hh,hnc,hcm,hcs,hcx⟩:=h.shape h0;refine ⟨_,_,rfl,by unfold maxLen at hcm;omega,fun _ => ⟨g,rfl,hh.lt,fun k x hk j hj => ?_⟩⟩;have hkl:=(List.getElem?_eq_some_iff.1 hk).1;rw [(row_cell hh hcx (k * 4 + j) (by omega)).1,icells_get l k x hk j hj]
 obtain ⟨a,c,rfl,hl9,hcell⟩:=hsh
 have hplt : p < w.heap.size:=by
  rcases Nat.lt_or_ge p w.heap.size with h' | h'
  ·exact h'
  ·simp [World.cell?,Array.getElem?_eq_none h'] at hp
 have HC:=Hd hcell;have HP:=Hd hp;clear h hcell hp;(go_enter Tryz.func118,Tryz.ntmps118);go_wp2;(go_loopw [8,5] (fun i _ wr => ∃ k : Nat,k ≤ l.length ∧ i = .int .i64 k ∧ (∀ y ∈ l.take k,y.obj ≠ o) ∧ Below w.heap.size w wr) (fun i _ _ => l.length - (intOf i).toNat));case atStart => exact ⟨0,by omega,rfl,(fun y hy => by simp at hy),Below.refl _ _⟩
 case round =>
  obtain ⟨k,hk,rfl,hno,hb⟩:=hrel;have HNO:=Hd hno;clear hno;by_cases hlt : k < l.length
  ·obtain ⟨g,rfl,hg,hc⟩:=HC.out (by omega);have hkx : l[k]? = some l[k]:=List.getElem?_eq_getElem hlt;have hcx:=hc k _ hkx;have hbc : ∀ j,wr.cell? ⟨g,k * 4 + j,none⟩ = w.cell? ⟨g,k * 4 + j,none⟩:=fun j => hb.cell (p:=⟨g,k * 4 + j,none⟩) hg;generalize hx : l[k] = x at hkx hcx;have c0 : wr.cell? ⟨g,k * 4,none⟩ = some (.int .i64 x.obj):=(hbc 0).trans (hcx 0 (by omega));have c1 : wr.cell? ⟨g,k * 4 + 1,none⟩ = some (.string ⟨x.data.toArray⟩):=(hbc 1).trans (hcx 1 (by omega));have c2 : wr.cell? ⟨g,k * 4 + 2,none⟩ = some (.int .i64 x.ver):=(hbc 2).trans (hcx 2 (by omega));have c3 : wr.cell? ⟨g,k * 4 + 3,none⟩ = some (.int .i64 x.till):=(hbc 3).trans (hcx 3 (by omega));have F:=Hd (find_fn x o p wr ((hb.cell (p:=⟨p,0,none⟩) hplt).trans HP.out));have HKX:=Hd hkx;have HX:=Hd hx;unfold It.val at F;clear hbc hcx hc hkx hx;by_cases he : x.obj = o
   ·have heq : (x.obj == o) = true:=beq_iff_eq.2 he;have HE:=Hd he;have HEQ:=Hd heq;clear he heq;(go_wp2_with fail);refine F.out.mono ?_;rintro e w2 ⟨rfl,hb2⟩;rw [HEQ.out];(go_wp2_with fail);go_ret;exact ⟨by rw [find_hit l o k x HKX.out HE.out HNO.out];rfl,hb.trans (hb2.mono hb.size)⟩
   ·have heq : (x.obj == o) = false:=beq_eq_false_iff_ne.2 he;have HE:=Hd he;have HEQ:=Hd heq;clear he heq;(go_wp2_with fail);refine F.out.mono ?_;rintro e w2 ⟨rfl,hb2⟩;rw [HEQ.out];(go_wp2_with fail);go_roundw
    case rel =>
     refine ⟨k + 1,by omega,by go_num,fun y hy => ?_,hb.trans (hb2.mono hb.size)⟩;rw [List.take_add_one,HKX.out] at hy;rcases List.mem_append.1 hy with hy | hy
     ·exact HNO.out y hy
     ·(obtain rfl : y = x:=by simpa using hy);exact HE.out
    case measure => simp [intOf];omega
  ·(obtain rfl : k = l.length:=by omega);(go_wp2_with fail);go_ret;exact ⟨by rw [find_miss l o (fun y hy => HNO.out y (by rw [List.take_length];exact hy))];rfl,hb⟩
theorem find_any (own : Nat → Nat) (T b q : Nat) (v : Value) (l : List It) (o : Int) (w : World) (k0 : w.cell? ⟨b,q,none⟩ = some v) (h : Items own T w v l) :
 Calls Tryz.prog 84 #[.pointer (some ⟨b,q,none⟩),.int .i64 o] w fun e w' => e = .returned (.int .i64 (findAt l o)) ∧ Below w.heap.size w w':=by
 obtain ⟨a,m,c,rfl⟩ : ∃ a m c,v = .slice a m c:=by
  rcases h.1.2 with ⟨rfl,_⟩ | ⟨g,cap,cur,rfl,_⟩ <;> exact ⟨_,_,_,rfl⟩
 have hlt : b < w.heap.size:=by
  rcases Nat.lt_or_ge b w.heap.size with h' | h'
  ·exact h'
  ·simp [World.cell?,Array.getElem?_eq_none h'] at k0
 have C:=Hd (index_any own T (.slice a m c) l o w.heap.size (w.alloc (.cells #[.int .i64 o] 3)) (h.below ((Below.refl _ _).alloc (Nat.le_refl _) _)) ((Has.new w (.cells #[.int .i64 o] 3)).cell 0));clear h;(go_enter Tryz.func84,Tryz.ntmps84);(go_wp2_with fail);refine C.out.mono ?_;rintro e w2 ⟨rfl,hb2⟩;(go_wp2_with fail);go_ret;exact ⟨rfl,((Below.refl _ _).alloc (Nat.le_refl _) _).trans (hb2.mono (by simp))⟩
def itemZero : List Value:=[.int .i64 0,.string ByteArray.empty,.int .i64 0,.int .i64 0]
theorem itemZero_cells : (Builtin.zeroCells (Value.agg #[.int .i64 0,.string ByteArray.empty,.int .i64 0,.int .i64 0]).cells 1).toList = itemZero:=by kernel_rfl
theorem itemZero_one : ∀ v ∈ itemZero,v.oneCell' = true:=by simp [itemZero,Value.oneCell']
theorem infoItem : (Tryz.prog.info? 152).map (fun i => (i.zero,i.size,i.bytes)) = some (some (.agg #[.int .i64 0,.string ByteArray.empty,.int .i64 0,.int .i64 0]),4,40):=by kernel_rfl
theorem zeroItem (w : World) : (zeroValue 152).run Tryz.prog w = .ok (.agg #[.int .i64 0,.string ByteArray.empty,.int .i64 0,.int .i64 0]) w:=by kernel_rfl
set_option maxHeartbeats 1000000 in
set_option maxRecDepth 100000 in
theorem DelItem_any (own : Nat → Nat) (T : Nat) (v : Value) (n k : Nat) (xs : List Value) (w : World) (h : Row own T w 152 4 v n xs) (hk : k < n) (hone : ∀ u ∈ xs,u.oneCell' = true) :
 Calls Tryz.prog 85 #[v,.int .i64 k,.int .i64 ((k : Int) + 1)] w fun e w' => ∃ v',e = .returned v' ∧ v'.ownBlock = v.ownBlock ∧ Row own T w' 152 4 v' (n - 1) (cut 4 k xs) ∧ Turn (fun g => v.ownBlock = some g) w w':=by
 obtain ⟨i0,hi0,hz0,hz1,hz2⟩:=info_parts infoItem;obtain ⟨g,cap,cur,rfl,ho,hh,hnc,hcm,hcs,hcx⟩:=h.shape (by omega);have hxl : xs.length = n * 4:=h.1.1;have HX:=Hd hxl;have HC:=Hd (row_cut (k:=k) (zs:=itemZero) ho hh.drew hnc hcm hcs hcx hk rfl)
 have HT : Hid (Turn (fun b => (Value.slice (some ⟨g,0,none⟩) n cap).ownBlock = some b) w ((w.drew.setCells g (k * 4) (xs.drop ((k + 1) * 4))).setCells g ((n - 1) * 4) itemZero)):=
  turn_two (S:=fun b => (Value.slice (some ⟨g,0,none⟩) n cap).ownBlock = some b) rfl w _ _ _ _
 obtain ⟨A,hA,hsrc⟩ : ∃ A : Addr,(if cap = k + 1 then (some ⟨g,0,none⟩ : Option Addr) else some ⟨g,(k + 1) * 4,none⟩) = some A ∧ Hid (∀ t u,(xs.drop ((k + 1) * 4))[t]? = some u → w.drew.cell? (A.add t) = some u):=by
  by_cases h : cap = k + 1
  ·refine ⟨⟨g,0,none⟩,by simp [h],fun t u hu => ?_⟩;have:=(List.getElem?_eq_some_iff.1 hu).1;simp at this;omega
  ·refine ⟨⟨g,(k + 1) * 4,none⟩,by simp [h],fun t u hu => ?_⟩;rw [List.getElem?_drop] at hu;have hlt:=(List.getElem?_eq_some_iff.1 hu).1;have:=(row_cell hh hcx ((k + 1) * 4 + t) (by omega)).1;rw [show (⟨g,(k + 1) * 4,none⟩ : Addr).add t = ⟨g,(k + 1) * 4 + t,none⟩ from by by_cases h0 : t = 0 <;> simp [Addr.add,h0]];exact this.trans hu
 (have s1 : Hid ((xs.drop ((k + 1) * 4)).length = (n - (k + 1)) * 4):=by rw [Hid,List.length_drop,hxl];omega);have s2 : Hid (∀ u ∈ xs.drop ((k + 1) * 4),u.oneCell' = true):=fun u hu => hone u (List.mem_of_mem_drop hu)
 have s3 : Hid (∀ t,t < (xs.drop ((k + 1) * 4)).length → (w.drew.cell? ⟨g,0 + k * 4 + t,none⟩).isSome = true ∧ w.drew.frozen? ⟨g,0 + k * 4 + t,none⟩ = false):=by
  intro t ht;rw [List.length_drop,hxl] at ht;rw [Nat.zero_add];exact row_there hh.drew hcs _ (by omega)
 obtain ⟨W1,hW1⟩ : ∃ W1,W1 = w.drew.setCells g (0 + k * 4) (xs.drop ((k + 1) * 4)):=⟨_,rfl⟩;have hW1' : Hid (W1 = w.drew.setCells g (k * 4) (xs.drop ((k + 1) * 4))):=by rw [hW1,Nat.zero_add];rfl
 have hcl : ∀ ty,(Builtin.clear_ #[117] ty #[.slice (some ⟨g,(k + (n - (k + 1))) * 4,none⟩) (n - (k + (n - (k + 1)))) (cap - (k + (n - (k + 1))))]).run Tryz.prog W1 = .ok (.tuple #[]) (W1.setCells g ((n - 1) * 4) itemZero):=fun ty => by
  rw [show k + (n - (k + 1)) = n - 1 from by omega,show n - (n - 1) = 1 from by omega];(have hh1 : Has W1 g (.cells (lay cur (k * 4) (xs.drop ((k + 1) * 4))) 152):=by rw [hW1'.out];exact Has.setCells _ hh.drew _);exact run_clear_one W1 _ _ ty _ itemZero Tryz.underlying117 (zeroItem _) itemZero_cells itemZero_one g _ _ (fun j hj => (row_there hh1 (by rw [lay_size,hcs]) _ (by have e : itemZero.length = 4:=rfl;rw [e] at hj;omega)).1) (fun j hj => hh1.frozen _)
 have HW:=Hd hW1
 have hkc : k + 1 ≤ cap:=by omega
 have hkc0 : k ≤ cap:=by omega
 have g1 : (0 : Int) ≤ (k : Int) + 1:=by omega
 have g2 : (k : Int) + 1 ≤ (n : Int):=by omega
 unfold maxLen at hcm
 clear hW1 h hh hcs hcx hxl hone ho
 go_enter Tryz.func85,Tryz.ntmps85
 go_wp2_with fail
 go_region_law (refine step_append_room rfl (.tmp 22) (.tmp 25) 117 rfl 152 i0 4 Tryz.underlying117 hi0 hz1 g 0 k cap (by simp [Act.eval,Act.put]) A (n - (k + 1)) (cap - (k + 1)) (xs.drop ((k + 1) * 4)) (by simp [Act.eval,Act.put]) s1.out hsrc.out s2.out (by omega) s3.out ?_;rw [← HW.out])
 go_wp2;go_ret;refine ⟨_,rfl,rfl,?_,?_⟩
 ·show Row own T (W1.setCells g ((n - 1) * 4) itemZero) _ 4 (.slice (some ⟨g,0,none⟩) (k + (n - (k + 1))) cap) _ _;rw [show k + (n - (k + 1)) = n - 1 from by omega,hW1'.out];exact HC.out
 ·rw [hW1'.out];exact HT.out
def dropI (l : List It) (o : Int) : List It:=l.eraseP (fun x => decide (x.obj = o))
theorem find_cases (l : List It) (o : Int) : (∃ (k : Nat) (x : It),l[k]? = some x ∧ x.obj = o ∧ findAt l o = k ∧ k < l.length ∧ dropI l o = l.eraseIdx k ∧ l.find? (fun x => decide (x.obj = o)) = some x) ∨ (findAt l o = -1 ∧ dropI l o = l ∧ l.find? (fun x => decide (x.obj = o)) = none):=by
 unfold findAt dropI;rw [List.eraseP_eq_eraseIdx]
 cases h : l.findIdx? (fun x => decide (x.obj = o)) with
 | none =>
  right;refine ⟨rfl,rfl,?_⟩;rw [List.find?_eq_none];rw [List.findIdx?_eq_none_iff] at h;intro x hx;simpa using h x hx
 | some k =>
  left;obtain ⟨hk,h1,h2⟩:=List.findIdx?_eq_some_iff_getElem.1 h;refine ⟨k,l[k],List.getElem?_eq_getElem hk,by simpa using h1,rfl,hk,rfl,?_⟩;rw [List.find?_eq_some_iff_getElem];exact ⟨h1,k,hk,rfl,fun j hj => by simpa using h2 j hj⟩
theorem Items.below {own : Nat → Nat} {T : Nat} {w w' : World} {v : Value} {l : List It} (h : Items own T w v l) (hb : Below w.heap.size w w') : Items own T w' v l:=Row.below h hb
def CachePost (own : Nat → Nat) (T b q : Nat) (cs : Array Value) (t : TypeId) (l : List It) (w w' : World) : Prop:=
 ∃ own' v',Ext w own own' ∧ Turn (fun k => k = b ∨ own k = T) w w' ∧ Has w' b (.cells (cs.setIfInBounds q v') t) ∧ Items own' T w' v' l
theorem set_same {cs : Array Value} {o : Nat} {v : Value} (h : cs[o]? = some v) : cs.setIfInBounds o v = cs:=by
 apply Array.ext_getElem?;intro i;rw [Array.getElem?_setIfInBounds];split
 ·rename_i e;subst e;rw [if_pos (Array.getElem?_eq_some_iff.1 h).1,h]
 ·rfl
set_option maxHeartbeats 1000000 in
set_option maxRecDepth 100000 in
theorem Drop_any (own : Nat → Nat) (T b q : Nat) (cs : Array Value) (t : TypeId) (v : Value) (l : List It) (o : Int) (w : World) (hB : Has w b (.cells cs t)) (c0 : cs[q]? = some v) (hb : own b ≠ T) (h : Items own T w v l) :
 Calls Tryz.prog 78 #[.pointer (some ⟨b,q,none⟩),.int .i64 o] w fun e w' => e = .returned (.tuple #[]) ∧ CachePost own T b q cs t (dropI l o) w w':=by
 have k0 : w.cell? ⟨b,q,none⟩ = some v:=(hB.cell q).trans c0;have F:=Hd (find_any own T b q v l o w k0 h);have hlt:=hB.lt;rcases find_cases l o with ⟨k,x,hk,hx,hf,hkl,hd,-⟩ | ⟨hf,hd,-⟩
 ·obtain ⟨g,cap,cur,rfl,ho,hh,hnc,hcm,hcs,hcx⟩:=h.shape (by omega);(have hgb : g ≠ b:=by rintro rfl;exact hb ho);have HB:=Hd hB;have HC0:=Hd c0;have HH:=Hd h;have HD:=Hd hd;have HF:=Hd hf;unfold maxLen at hcm;(have hl9 : l.length ≤ 9223372036854775807:=by omega);(have hkz : (k : Int) + 1 ≤ l.length:=by omega);(have hk9 : ¬ ((k : Int) < 0):=by omega);clear hB c0 h hd hf hk hx ho hh hcs hcx;(go_enter Tryz.func78,Tryz.ntmps78);(go_wp2_with fail);refine F.out.mono ?_;rintro e w1 ⟨rfl,hb1⟩;rw [HF.out];have k1 : w1.cell? ⟨b,q,none⟩ = some (.slice (some ⟨g,0,none⟩) l.length cap):=(hb1.cell (p:=⟨b,q,none⟩) hlt).trans k0;have HB1:=Hd hb1;clear hb1;(go_wp2_with fail);refine (DelItem_any own T _ l.length k (icells l) _ (HH.out.below HB1.out) hkl (icells_one l)).mono ?_;rintro e w2 ⟨v',rfl,hv',hrow2,ht2⟩
  obtain ⟨ag,ng,cg,rfl⟩ : ∃ a m c,v' = .slice a m c:=by
   rcases hrow2.1.2 with ⟨rfl,_⟩ | ⟨g,cap,cur,rfl,_⟩ <;> exact ⟨_,_,_,rfl⟩
  have hS : ∀ k,k ≠ g → ¬ ((Value.slice (some ⟨g,0,none⟩) l.length cap).ownBlock = some k):=fun k hk e => hk (by simpa [Value.ownBlock] using e.symm)
  have hB2 : Has w2 b (.cells cs t):=ht2.has (HB.out.below HB1.out hlt) (hS _ (Ne.symm hgb))
  have k2 : w2.cell? ⟨b,q,none⟩ = some (.slice (some ⟨g,0,none⟩) l.length cap):=(hB2.cell q).trans HC0.out
  have f2 : w2.frozen? ⟨b,q,none⟩ = false:=hB2.frozen q
  have HV:=Hd hv'
  have HR2:=Hd hrow2
  have HT2:=Hd ht2
  have HB2:=Hd hB2
  clear hv' hrow2 ht2 hB2 hS k1
  go_wp2_with fail
  go_end0
  refine ⟨rfl,own,.slice ag ng cg,Ext.refl _ _,?_,HB2.out.set_ q _,?_⟩
  ·refine ((((Turn.refl _ w).then_below HB1.out (Nat.le_refl _)).trans HT2.out (fun k' _ e => .inr ?_)).setCell (p:=⟨b,q,none⟩) (.inr (.inl rfl)) _);exact HH.out.2 k' e
  ·rw [HD.out];have e1 : (l.eraseIdx k).length = l.length - 1:=List.length_eraseIdx_of_lt hkl;have e2 : cut 4 k (icells l) = icells (l.eraseIdx k):=cut_flat 4 k _ (fun _ => rfl) l;unfold Items;rw [e1,← e2];refine ⟨row_kept HR2.out.1 fun k' hk' => ?_,HR2.out.2⟩;rw [HV.out] at hk';(have : g = k':=by simpa [Value.ownBlock] using hk');subst this;exact Below.heap_setCell _ _ _ _ hgb
 ·have HF:=Hd hf
  have HB:=Hd hB
  have HC0:=Hd c0
  have HH:=Hd h
  have HD:=Hd hd
  clear hB c0 h hd hf
  go_enter Tryz.func78,Tryz.ntmps78
  go_wp2_with fail
  refine F.out.mono ?_
  rintro e w1 ⟨rfl,hb1⟩
  rw [HF.out]
  have HB1:=Hd hb1
  clear hb1
  go_wp2_with fail
  go_end0
  refine ⟨rfl,own,v,Ext.refl _ _,(Turn.refl _ w).then_below HB1.out (Nat.le_refl _),?_,?_⟩
  ·rw [set_same HC0.out];exact HB.out.below HB1.out hlt
  ·rw [HD.out];exact HH.out.below HB1.out
theorem Clear_any (own : Nat → Nat) (T b q : Nat) (cs : Array Value) (t : TypeId) (v : Value) (w : World) (hB : Has w b (.cells cs t)) (c0 : cs[q]? = some v) :
 Calls Tryz.prog 77 #[.pointer (some ⟨b,q,none⟩)] w fun e w' => e = .returned (.tuple #[]) ∧ CachePost own T b q cs t [] w w':=by
 have k0 : w.cell? ⟨b,q,none⟩ = some v:=(hB.cell q).trans c0
 have f0 : w.frozen? ⟨b,q,none⟩ = false:=hB.frozen q
 have HB:=Hd hB
 clear hB c0
 go_enter Tryz.func77,Tryz.ntmps77
 go_wp2_with fail
 go_end0
 exact ⟨rfl,own,.slice none 0 0,Ext.refl _ _,(Turn.refl _ w).setCell (p:=⟨b,q,none⟩) (.inr (.inl rfl)) _,HB.out.set_ q _,Row.nil _ _ _ _ _⟩
end cache
end Go.Proofs.YtefkmcjhgoagcaaGreatDoor
