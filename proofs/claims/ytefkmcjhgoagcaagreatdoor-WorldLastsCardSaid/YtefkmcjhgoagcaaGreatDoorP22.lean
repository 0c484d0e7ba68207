/-
  A part of the proof of the law WorldLasts: LeaseF, Tab.
-/
import Derived.Test.YtefkmcjhgoagcaaGreatDoorHd
import Derived.Test.YtefkmcjhgoagcaaGreatDoorP14
import Derived.Test.YtefkmcjhgoagcaaGreatDoorP18
namespace Go.Proofs.YtefkmcjhgoagcaaGreatDoor
namespace lease
open Go.RowKit heap own model mapof sortrow
def holdsB (o now : Int) (e : (Int × Int) × Int) : Bool:=decide (e.1.2 = o) && decide (now < e.2)
noncomputable def met (o now : Int) (left : Lit → Bool) (l : Pairs) : List Int:=(l.filter fun e => holdsB o now e && !left (keyS.kl e.1)).map (·.1.1)
theorem met_start {o now : Int} {left : Lit → Bool} {l : Pairs} (h : ∀ p ∈ l,left (keyS.kl p.1) = true) : met o now left l = []:=by
 unfold met;rw [List.filter_eq_nil_iff.2 (fun p hp => by simp [h p hp])];rfl
theorem met_end {o now : Int} {left : Lit → Bool} {l : Pairs} (h : ∀ kl,left kl = false) : met o now left l = (l.filter (holdsB o now)).map (·.1.1):=by
 unfold met;congr 2;funext e;simp [h]
theorem met_stays {o now : Int} {left : Lit → Bool} {l : Pairs} {k : Int × Int} {u : Int} (hn : (l.map (·.1)).Nodup) (hok : ∀ p ∈ l,keyS.okK p.1) (hk : keyS.okK k) (hs : seek k l = some u) (hc : holdsB o now (k,u) = false) : met o now (fun z => left z && !z.sameKey (keyS.kl k)) l = met o now left l:=by
 unfold met;congr 1;refine List.filter_congr fun p hp => ?_;by_cases hpk : p.1 = k
 ·have : p = (k,u):=by
   have h1 : seek k l = some p.2:=seek_of_mem _ hn (by rw [← hpk];exact hp);rw [hs] at h1;rw [← hpk,Option.some.inj h1]
  rw [this,hc];rfl
 ·have hs : (keyS.kl p.1).sameKey (keyS.kl k) = false:=Maps.sameKey_ne fun e => hpk (keyS.kl_inj (hok p hp) hk e);simp [hs]
theorem filter_more {α κ : Type} [DecidableEq κ] (key : α → κ) (f f' : α → Bool) (x : α) (hf : f x = false) (hf' : f' x = true) : ∀ l : List α,(l.map key).Nodup → x ∈ l → (∀ y ∈ l,key y ≠ key x → f' y = f y) → (l.filter f').Perm (l.filter f ++ [x])
 | [],_,h,_ => by cases h
 | y :: l,hn,h,hy => by
  rw [List.map_cons,List.nodup_cons] at hn;by_cases hk : key y = key x
  ·have hyx : y = x:=by
    rcases List.mem_cons.1 h with e | e
    ·exact e.symm
    ·exact absurd (hk ▸ List.mem_map.2 ⟨x,e,rfl⟩) hn.1
   subst hyx;rw [List.filter_cons_of_pos hf',List.filter_cons_of_neg (by simp [hf])];have e1 : l.filter f' = l.filter f:=List.filter_congr fun z hz => hy z (List.mem_cons_of_mem _ hz) (fun e => hn.1 (e ▸ List.mem_map.2 ⟨z,hz,rfl⟩));rw [e1];exact (List.perm_append_singleton y _).symm
  ·have hxl : x ∈ l:=by
    rcases List.mem_cons.1 h with e | e
    ·exact absurd (by rw [e]) hk
    ·exact e
   have ih:=filter_more key f f' x hf hf' l hn.2 hxl (fun z hz => hy z (List.mem_cons_of_mem _ hz));have h1:=hy y (List.mem_cons_self ..) hk
   cases hfy : f y with
   | false => rw [List.filter_cons_of_neg (by simp [h1,hfy]),List.filter_cons_of_neg (by simp [hfy])];exact ih
   | true => rw [List.filter_cons_of_pos (by simp [h1,hfy]),List.filter_cons_of_pos (by simp [hfy])];exact ih.cons y
theorem met_more {o now : Int} {left : Lit → Bool} {l : Pairs} {k : Int × Int} {u : Int} (hn : (l.map (·.1)).Nodup) (hok : ∀ p ∈ l,keyS.okK p.1) (hk : keyS.okK k) (hs : seek k l = some u) (hl : left (keyS.kl k) = true) (hc : holdsB o now (k,u) = true) : (met o now (fun z => left z && !z.sameKey (keyS.kl k)) l).Perm (met o now left l ++ [k.1]):=by
 unfold met
 have h:=filter_more (fun e : (Int × Int) × Int => e.1) (fun e => holdsB o now e && !left (keyS.kl e.1)) (fun e => holdsB o now e && !(left (keyS.kl e.1) && !(keyS.kl e.1).sameKey (keyS.kl k))) (k,u) (by simp [hl]) (by simp [hc,WideAt.sameKey_self (keyS.isKey hk)]) l hn (seek_some _ hs) (fun p hp hne => by
  have hs : (keyS.kl p.1).sameKey (keyS.kl k) = false:=Maps.sameKey_ne fun e => hne (keyS.kl_inj (hok p hp) hk e)
  simp [hs])
 have h2:=h.map (fun e : (Int × Int) × Int => e.1.1);rw [List.map_append] at h2;exact h2
def holders (l : Pairs) (o now : Int) : List Int:=([0,1,2,3] : List Int).filter fun c => match seek (c,o) l with | some u => decide (now < u) | none => false
theorem sorted_met {o now : Int} {l : Pairs} {xs : List Int} (hn : (l.map (·.1)).Nodup) (hv : ∀ p ∈ l,0 ≤ p.1.1 ∧ p.1.1 < 4) (hp : xs.Perm ((l.filter (holdsB o now)).map (·.1.1))) : sorted xs = holders l o now:=by
 have hnd : ((l.filter (holdsB o now)).map (·.1.1)).Nodup:=by
  refine (List.pairwise_map.2 ?_);have h1 : (l.filter (holdsB o now)).Pairwise (fun a b => a.1 ≠ b.1):=(List.pairwise_map.1 hn).sublist List.filter_sublist;refine h1.imp_of_mem fun {a b} ha hb hne he => hne ?_;have h2:=(List.mem_filter.1 ha).2;have h3:=(List.mem_filter.1 hb).2;simp only [holdsB,Bool.and_eq_true,decide_eq_true_eq] at h2 h3;exact Prod.ext he (by rw [h2.1,h3.1])
 have hperm : (sorted xs).Perm (holders l o now):=by
  refine ((List.mergeSort_perm xs _).trans hp).trans ?_;refine (List.perm_ext_iff_of_nodup hnd ?_).2 fun c => ?_
  ·exact (show List.Nodup [(0 : Int),1,2,3] from by decide).sublist List.filter_sublist
  ·constructor
   ·intro h;obtain ⟨e,he,rfl⟩:=List.mem_map.1 h;obtain ⟨h1,h2⟩:=List.mem_filter.1 he;simp only [holdsB,Bool.and_eq_true,decide_eq_true_eq] at h2;have hs : seek (e.1.1,o) l = some e.2:=seek_of_mem _ hn (by rw [← h2.1];exact h1);have hb:=hv e h1;refine List.mem_filter.2 ⟨?_,by rw [hs];simpa using h2.2⟩;(have : e.1.1 = 0 ∨ e.1.1 = 1 ∨ e.1.1 = 2 ∨ e.1.1 = 3:=by omega);simpa using this
   ·intro h;obtain ⟨h1,h2⟩:=List.mem_filter.1 h
    cases hs : seek (c,o) l with
    | none => rw [hs] at h2;cases h2
    | some u =>
     rw [hs] at h2;exact List.mem_map.2 ⟨((c,o),u),List.mem_filter.2 ⟨seek_some _ hs,by simpa [holdsB] using h2⟩,rfl⟩
 refine List.Perm.eq_of_pairwise (le:=fun a b => decide (a ≤ b) = true) (fun a b _ _ h1 h2 => by simp at h1 h2;omega) ?_ ?_ hperm
 ·exact List.pairwise_mergeSort (fun a b c h1 h2 => by simp at h1 h2 ⊢;omega) (fun a b => by simp;omega) xs
 ·exact (show List.Pairwise (fun a b => decide (a ≤ b) = true) [(0 : Int),1,2,3] from by decide).sublist List.filter_sublist
theorem met_length (o now : Int) (left : Lit → Bool) (l : Pairs) : (met o now left l).length ≤ l.length:=by
 unfold met;rw [List.length_map];exact List.length_filter_le _ _
theorem owns_kept {w w1 : World} {base r : Nat} {e : TypeId} {size n : Nat} {v : Value} {xs : List Value} (h : w.ownsRow base e size v n xs) (hg : w.grownBy w1 (some r)) (hr : r < base) : w1.ownsRow base e size v n xs:=by
 refine ⟨h.1,?_⟩;rcases h.2 with h2 | ⟨g,cap,cur,h1,h2,h3,h4⟩
 ·exact .inl h2
 ·exact .inr ⟨g,cap,cur,h1,h2,(hg.block g (Has.lt (w:=w) (g:=g) h3) (fun e => by have:=Option.some.inj e;omega)).trans h3,h4⟩
theorem int_info : (Tryz.prog.info? 3).map (fun i => (i.zero,i.size,i.bytes)) = some (some (.int .i64 0),1,8):=by kernel_rfl
set_option maxHeartbeats 2000000 in
set_option maxRecDepth 100000 in
theorem Holders_any (b m : Nat) (l : Pairs) (vs ss : List Int) (o now : Int) (w : World) (h : TabAt w b m l vs ss) (hl : l.length < 1000) (hv : ∀ p ∈ l,0 ≤ p.1.1 ∧ p.1.1 < 4) :
 Calls Tryz.prog 98 #[.pointer (some ⟨b,0,none⟩),.int .i64 o,.int .i64 now] w fun e w' => ∃ v,e = .returned v ∧ w'.ownsRow w.heap.size 3 1 v (holders l o now).length ((holders l o now).map (Value.int .i64)) ∧ Below w.heap.size w w':=by
 have k0:=h.cell0
 have HOK:=Hd (show ∀ p ∈ l,keyS.okK p.1 from fun p hp => (h.m_.ok p hp).1)
 have HND:=Hd h.m_.nodup
 have hml:=h.m_.lt
 have H:=Hd h
 have HV:=Hd hv
 obtain ⟨i0,hi0,iz0,iz1,iz2⟩:=info_parts int_info
 clear h hv
 go_enter Tryz.func98,Tryz.ntmps98
 go_wp2_with (at_range;refine wpList_mrange keyS rfl (.tmp 13) rfl rfl H.out.m_ ?_;intro w0 left0 hov0 hl0 hg0 hs0)
 go_frame
 go_loopw [7] (fun v wr => ∃ (left : Lit → Bool) (cnt : Nat) (xs : List Int),wr.ownsRow (w.heap.size + 1) 3 1 v xs.length (xs.map (Value.int .i64)) ∧ xs.Perm (met o now left l) ∧ Over keyS wr m w.heap.size l.length l left cnt ∧ Below w.heap.size w wr ∧ w.heap.size < wr.heap.size)
  (fun _ wr => wr.rangeLeft m w.heap.size)
 case atStart => exact ⟨left0,_,[],⟨rfl,.inl ⟨rfl,rfl⟩⟩,by rw [met_start hl0],hov0,⟨hg0.os,hg0.tape,hg0.output,hg0.size,fun i hi => hg0.block i hi (by simp)⟩,by omega⟩
 case round =>
  clear hov0 hl0 hg0 hs0 k0;obtain ⟨left,cnt,xs,hown,hperm,hov,hb,hz⟩:=hrel;(have hxl : xs.length < 1000:=by have:=met_length o now left l;rw [← hperm.length_eq] at this;omega);have HP:=Hd hperm;have HOW:=Hd hown;have HOV0:=Hd hov;have HB:=Hd hb;clear hperm hown hb;go_wp2_with (at_next;refine wpList_mnext keyS rfl (.tmp 14) rfl rfl hov ?_ ?_)
  ·intro _ hl1;have HL:=Hd hl1;clear hl1 hov;(go_wp2_with (go_at_call 125;refine (sorts _ _ _ _ HOW.out (by omega)).mono ?_;rintro e w2 ⟨rfl,hown2,hg2⟩));go_ret;have hx : sorted xs = holders l o now:=sorted_met HND.out HV.out (by rw [← met_end HL.out];exact HP.out);rw [hx] at hown2;(have hxn : xs.length = (holders l o now).length:=by rw [← hx];exact (sorted_len xs).symm);refine ⟨_,rfl,?_,?_⟩
   ·rw [← hxn];exact owns_base hown2 (by omega)
   ·exact HB.out.grown hg2 (by omega) (fun j hj => by have:=owns_ge HOW.out j hj;omega)
  ·intro c' o' u w1 cnt1 hk hu hsk hlk hov1 hlt hg1 hs1 hen;have e1 : keyS.kv (c',o') = .agg #[.int .i64 c',.int .i64 o']:=rfl;have e2 : keyS.ev u = .int .i64 u:=rfl;rw [e1,e2] at hen ⊢;clear e1 e2;have HLT:=Hd hlt;have HOV:=Hd hov1;have HSK:=Hd hsk;have HLK:=Hd hlk;have hb1 : Below w.heap.size w w1:=HB.out.grown hg1 (by omega) (fun j hj => by cases hj;exact Nat.le_refl _);have HB1:=Hd hb1;have HOW1:=Hd (owns_kept HOW.out hg1 (Nat.lt_succ_self _));(have hz1 : w.heap.size < w1.heap.size:=by omega);clear hsk hlk hlt hov1 hb1 hg1 hs1 hov
   cases hcc : holdsB o now ((c',o'),u) with
   | false =>
    have HR : Hid ((met o now (fun z => left z && !z.sameKey (keyS.kl (c',o'))) l) = met o now left l):=met_stays HND.out HOK.out hk HSK.out hcc;by_cases hoo : o' = o
    ·have hd : ((o' : Int) == o) = true:=by simpa using hoo
     have hn : decide (now < u) = false:=by
      simp only [holdsB,hoo,decide_true,Bool.true_and] at hcc;exact hcc
     clear hcc hoo;go_wp2;go_roundw;(case rel => exact ⟨_,cnt1,xs,HOW1.out.alloc _,by rw [HR.out];exact HP.out,HOV.out.alloc _,HB1.out.alloc (by omega) _,by simp;omega⟩);case measure => rw [(HOV.out.alloc _).left_eq,HOV0.out.left_eq];exact HLT.out
    ·(have hd : ((o' : Int) == o) = false:=by simpa using hoo);clear hcc hoo;go_wp2;go_roundw;(case rel => exact ⟨_,cnt1,xs,HOW1.out.alloc _,by rw [HR.out];exact HP.out,HOV.out.alloc _,HB1.out.alloc (by omega) _,by simp;omega⟩);case measure => rw [(HOV.out.alloc _).left_eq,HOV0.out.left_eq];exact HLT.out
   | true =>
    have HR : Hid ((met o now (fun z => left z && !z.sameKey (keyS.kl (c',o'))) l).Perm (xs ++ [c'])):=(met_more HND.out HOK.out hk HSK.out HLK.out hcc).trans (HP.out.symm.append_right _);(have hoo : o' = o ∧ now < u:=by simpa [holdsB] using hcc);(have hd : ((o' : Int) == o) = true:=by simpa using hoo.1);(have hn : decide (now < u) = true:=by simpa using hoo.2);clear hcc hoo;have HOW2:=Hd ((HOW1.out.alloc (.cells #[.int .i64 c',.int .i64 o'] 191)).alloc (.cells #[.int .i64 c'] 3));go_wp2_with (at_builtin;refine wpList_append_own _ rfl (.tmp 29) (.tmp 32) 63 rfl (w.heap.size + 1) 3 i0 (.int .i64 0) 1 8 Tryz.underlying63 hi0 iz0 iz1 iz2 rfl (by decide) _ _ _ rfl HOW2.out ⟨w1.heap.size + 1,0,none⟩ 1 1 [.int .i64 c'] rfl rfl ?c1 (by simp [Value.oneCell']) ?c3 ?c4 ?c5 ?_)
    case c1 =>
     intro j u hj;have hn:=Has.new (w1.alloc (.cells #[.int .i64 c',.int .i64 o'] 191)) (.cells #[.int .i64 c'] 3);rw [World.size_alloc] at hn
     match j,hj with
     | 0,hj =>
      (obtain rfl : Value.int .i64 c' = u:=by simpa using hj);exact hn.cell 0
    (case c3 => unfold maxLen;omega);(case c4 => omega);(case c5 => simp;omega);intro u2 w2 hown2 hg2 _;(go_wp2_with fail);go_roundw
    case rel =>
     have hov2:=((HOV.out.alloc (.cells #[.int .i64 c',.int .i64 o'] 191)).alloc (.cells #[.int .i64 c'] 3)).kept hg2 (fun e => by have:=owns_ge HOW1.out m e.symm;omega) (fun e => by have:=owns_ge HOW1.out _ e.symm;omega);refine ⟨_,cnt1,xs ++ [c'],?_,HR.out.symm,hov2,((HB1.out.alloc (by omega) _).alloc (by simp;omega) _).grown hg2 (by simp;omega) (fun j hj => by have:=owns_ge HOW1.out j hj;omega),?_⟩
     ·rw [List.length_append,List.length_singleton,List.map_append];exact hown2
     ·have:=hg2.size;simp at this;omega
    case measure =>
     have hov2:=((HOV.out.alloc (.cells #[.int .i64 c',.int .i64 o'] 191)).alloc (.cells #[.int .i64 c'] 3)).kept hg2 (fun e => by have:=owns_ge HOW1.out m e.symm;omega) (fun e => by have:=owns_ge HOW1.out _ e.symm;omega);rw [hov2.left_eq,HOV0.out.left_eq];exact HLT.out
end lease
namespace tab
open Go.RowKit heap own errs mapof lease
open model (Table inR seek put del)
theorem inR_iff {n a b : Int} : inR n a b = true ↔ a ≤ n ∧ n ≤ b:=by simp [inR]
theorem client_iff {c : Int} : lease.isClient c = inR c 0 3:=by
 rw [Bool.eq_iff_iff,inR_iff];simp [lease.isClient];omega
theorem object_iff {c : Int} : lease.isObject c = inR c 0 7:=by
 rw [Bool.eq_iff_iff,inR_iff];simp [lease.isObject];omega
theorem ok_max {x u : Int} (h : i64ok x) (h0 : 0 ≤ u) (h1 : u ≤ 1099511627776) : i64ok (max x u):=by
 by_cases hx : x ≤ u
 ·rw [Int.max_eq_right hx];exact WalkArith.wf_i64 (by omega)
 ·rw [Int.max_eq_left (by omega)];exact h
def KeysOK (l : List ((Int × Int) × Int)) : Prop:=∀ p ∈ l,0 ≤ p.1.1 ∧ p.1.1 < 4 ∧ 0 ≤ p.1.2 ∧ p.1.2 < 8
theorem nodup_le {α : Type} [DecidableEq α] : ∀ (l L : List α),l.Nodup → (∀ x ∈ l,x ∈ L) → l.length ≤ L.length
 | [],_,_,_ => Nat.zero_le _
 | x :: l,L,hn,hs => by
  obtain ⟨h1,h2⟩:=List.nodup_cons.1 hn;have hx:=hs x (by simp);have:=nodup_le l (L.erase x) h2 (fun y hy => (List.mem_erase_of_ne (fun e => h1 (by rw [← e];exact hy))).2 (hs y (by simp [hy])));rw [List.length_erase_of_mem hx] at this;have hp:=List.length_pos_of_mem hx;rw [List.length_cons];omega
def allKeys : List (Int × Int):=([0,1,2,3] : List Int).flatMap fun c => ([0,1,2,3,4,5,6,7] : List Int).map fun o => (c,o)
theorem mem_allKeys {c o : Int} (h : 0 ≤ c ∧ c < 4 ∧ 0 ≤ o ∧ o < 8) : (c,o) ∈ allKeys:=by
 refine List.mem_flatMap.2 ⟨c,?_,List.mem_map.2 ⟨o,?_,rfl⟩⟩
 ·obtain rfl | rfl | rfl | rfl : c = 0 ∨ c = 1 ∨ c = 2 ∨ c = 3:=by omega
  all_goals simp
 ·obtain rfl | rfl | rfl | rfl | rfl | rfl | rfl | rfl : o = 0 ∨ o = 1 ∨ o = 2 ∨ o = 3 ∨ o = 4 ∨ o = 5 ∨ o = 6 ∨ o = 7:=by omega
  all_goals simp
theorem keys_few {l : List ((Int × Int) × Int)} (hk : KeysOK l) (hn : (l.map (·.1)).Nodup) : l.length ≤ 32:=by
 have:=nodup_le (l.map (·.1)) allKeys hn (fun x hx => by
  obtain ⟨p,hp,rfl⟩:=List.mem_map.1 hx
  exact mem_allKeys (hk p hp))
 rw [List.length_map] at this;exact this
structure TabM (w : World) (tb tm : Nat) (t : Table) : Prop where
 at_ : TabAt w tb tm t.objs t.vols t.sess
 ok : KeysOK t.objs
section
variable {w w' : World} {tb tm : Nat} {t : Table} {S : Nat → Prop}
theorem TabM.few (h : TabM w tb tm t) : t.objs.length ≤ 32:=keys_few h.ok h.at_.m_.nodup
theorem TabM.turn (h : TabM w tb tm t) (ht : Turn S w w') (h1 : ¬ S tb) (h2 : ¬ S tm) : TabM w' tb tm t:=⟨⟨ht.has h.at_.t_ h1,h.at_.m_.turn ht h2,h.at_.ne,h.at_.hv,h.at_.hs⟩,h.ok⟩
theorem TabM.below (h : TabM w tb tm t) (hb : Below w.heap.size w w') : TabM w' tb tm t:=h.turn (S:=fun _ => False) (Turn.of_below hb (Nat.le_refl _)) (fun h => h) (fun h => h)
theorem TabM.drew (h : TabM w tb tm t) : TabM w.drew tb tm t:=h.turn (S:=fun _ => False) (Turn.refl _ _).drew (fun h => h) (fun h => h)
theorem TabM.lt (h : TabM w tb tm t) : tb < w.heap.size ∧ tm < w.heap.size:=⟨h.at_.t_.lt,h.at_.m_.lt⟩
theorem TabM.new (w : World) : Calls Tryz.prog 52 #[] w fun e w' => e = .returned (.pointer (some ⟨w.heap.size + 1,0,none⟩)) ∧ TabM w' (w.heap.size + 1) w.heap.size Table.new ∧ Below w.heap.size w w' ∧ w'.heap.size = w.heap.size + 2:=by
 have hmm:=@run_makeMap Tryz.prog;(go_enter Tryz.func52,Tryz.ntmps52);go_wp2;go_ret;have hb : Below w.heap.size w (w.alloc (.map #[] 0)):=(Below.refl _ _).alloc (Nat.le_refl _) _;refine ⟨rfl,⟨⟨?_,(At.new keyS w).alloc _,by omega,rfl,rfl⟩,fun p hp => by cases hp⟩,hb.alloc (by simp) _,by simp⟩;have:=Has.new (w.alloc (.map #[] 0)) (.cells #[.map (some w.heap.size),.int .i64 0,.int .i64 0,.int .i64 0,.int .i64 0,.int .i64 0,.int .i64 0,.int .i64 0,.int .i64 0] 145);rw [World.size_alloc] at this;exact this
theorem Object_m (c o u : Int) (h : TabM w tb tm t) (hc : i64ok c) (ho : i64ok o) :
 Calls Tryz.prog 94 #[.pointer (some ⟨tb,0,none⟩),.int .i64 c,.int .i64 o,.int .i64 u] w fun e w' => e = .returned (errV (t.object c o u).1) ∧ TabM w' tb tm (t.object c o u).2 ∧ Turn (fun k => k = tb ∨ k = tm) w w':=by
 by_cases hk : (model.isClient c && model.isObject o && inR u 0 wire.maxTime) = true
 ·have hk2:=hk;simp only [Bool.and_eq_true,model.isClient,model.isObject,inR_iff,wire.maxTime_eq] at hk2;obtain ⟨⟨h1,h2⟩,h3⟩:=hk2;(have e : t.object c o u = (0,{ t with objs:=put (c,o) (max ((seek (c,o) t.objs).getD 0) u) t.objs }):=by unfold Table.object;rw [if_pos hk]);rw [e];have hf:=h.few;refine (Object_yes tb tm t.objs t.vols t.sess c o u w h.at_ (by omega) (by rw [client_iff,object_iff,Bool.and_eq_true,inR_iff,inR_iff];exact ⟨h1,h2⟩) h3.1 h3.2 hc ho (ok_max (h.at_.m_.okE (c,o)) h3.1 h3.2)).mono ?_;rintro e w' ⟨rfl,hT,hg⟩;refine ⟨rfl,⟨hT,fun p hp => ?_⟩,⟨hg.os,hg.tape,hg.output,hg.size,fun k hk hn => hg.block k hk (fun e => hn (.inr (by simpa using e)))⟩⟩;rcases List.mem_cons.1 hp with rfl | hp
  ·exact ⟨h1.1,Int.lt_of_le_of_lt h1.2 (by decide),h2.1,Int.lt_of_le_of_lt h2.2 (by decide)⟩
  ·exact h.ok p ((del_sublist _ _).mem hp)
 ·(have e : t.object c o u = (2,t):=by unfold Table.object;rw [if_neg hk]);rw [e];refine (Object_no _ c o u w ?_).mono ?_
  ·rw [client_iff,object_iff];intro hh;apply hk;have h1:=hh.1;rw [Bool.and_eq_true] at h1;simp only [Bool.and_eq_true,model.isClient,model.isObject];exact ⟨h1,inR_iff.2 (by rw [wire.maxTime_eq];exact hh.2)⟩
  ·rintro e w' ⟨rfl,rfl⟩;exact ⟨rfl,h,Turn.refl _ _⟩
theorem Volume_m (c u : Int) (h : TabM w tb tm t) :
 Calls Tryz.prog 100 #[.pointer (some ⟨tb,0,none⟩),.int .i64 c,.int .i64 u] w fun e w' => e = .returned (errV (t.volume c u).1) ∧ TabM w' tb tm (t.volume c u).2 ∧ Turn (fun k => k = tb ∨ k = tm) w w':=by
 by_cases hk : (model.isClient c && inR u 0 wire.maxTime) = true
 ·have hk2:=hk;simp only [Bool.and_eq_true,model.isClient,inR_iff,wire.maxTime_eq] at hk2;obtain ⟨h1,h3⟩:=hk2;(have e : t.volume c u = (0,{ t with vols:=t.vols.set c.toNat (max (t.vols.getD c.toNat 0) u) }):=by unfold Table.volume;rw [if_pos hk]);rw [e];obtain ⟨n,rfl⟩ : ∃ n : Nat,c = n:=⟨c.toNat,by omega⟩;refine (Volume_yes tb _ t.vols t.sess n u w h.at_.t_ h.at_.hv (by omega) h3.1 h3.2).mono ?_;rintro e w' ⟨rfl,h5,h6⟩;exact ⟨rfl,⟨⟨h6,h.at_.m_.turn h5 h.at_.ne,h.at_.ne,by simp [h.at_.hv],h.at_.hs⟩,h.ok⟩,h5.mono fun k _ hk => .inl hk⟩
 ·(have e : t.volume c u = (2,t):=by unfold Table.volume;rw [if_neg hk]);rw [e];refine (Volume_no _ c u w ?_).mono ?_
  ·rw [client_iff];intro hh;apply hk;simp only [Bool.and_eq_true,model.isClient];exact ⟨hh.1,inR_iff.2 (by rw [wire.maxTime_eq];exact hh.2)⟩
  ·rintro e w' ⟨rfl,rfl⟩;exact ⟨rfl,h,Turn.refl _ _⟩
theorem Flush_m (c : Int) (h : TabM w tb tm t) :
 Calls Tryz.prog 116 #[.pointer (some ⟨tb,0,none⟩),.int .i64 c] w fun e w' => e = .returned (errV (t.flush c).1) ∧ TabM w' tb tm (t.flush c).2 ∧ Turn (fun k => k = tb ∨ k = tm) w w':=by
 by_cases hk : model.isClient c = true
 ·have h1:=inR_iff.1 hk;obtain ⟨n,rfl⟩ : ∃ n : Nat,c = n:=⟨c.toNat,by omega⟩;(have e : t.flush n = (0,{ objs:=t.objs.filter (fun e => !decide (e.1.1 = (n : Int))),vols:=t.vols.set n 0,sess:=t.sess.set n (wrap64 (t.sess.getD n 0 + 1)) }):=by unfold Table.flush;rw [if_pos hk];rfl);rw [e];refine (Flush_yes tb tm t.objs t.vols t.sess n w h.at_ (by omega)).mono ?_;rintro e w' ⟨rfl,hT,ht⟩;exact ⟨rfl,⟨hT,fun p hp => h.ok p (List.mem_filter.1 hp).1⟩,ht⟩
 ·(have e : t.flush c = (2,t):=by unfold Table.flush;rw [if_neg hk]);rw [e];refine (Flush_no _ c w (by rw [client_iff];simpa [model.isClient] using hk)).mono ?_;rintro e w' ⟨rfl,rfl⟩;exact ⟨rfl,h,Turn.refl _ _⟩
theorem Leans_m (c now : Int) (h : TabM w tb tm t) :
 Calls Tryz.prog 114 #[.pointer (some ⟨tb,0,none⟩),.int .i64 c,.int .i64 now] w fun e w' => e = .returned (.bool (t.leans c now)) ∧ w = w':=by
 unfold Table.leans;by_cases hk : model.isClient c = true
 ·have h1:=inR_iff.1 hk;obtain ⟨n,rfl⟩ : ∃ n : Nat,c = n:=⟨c.toNat,by omega⟩;rw [hk,Bool.true_and];exact Leans_yes tb _ t.vols t.sess n now w h.at_.t_ h.at_.hv (by omega)
 ·rw [Bool.not_eq_true] at hk;rw [hk,Bool.false_and];exact Leans_no _ c now w (by rw [client_iff];exact hk)
theorem Session_m (c : Int) (h : TabM w tb tm t) :
 Calls Tryz.prog 121 #[.pointer (some ⟨tb,0,none⟩),.int .i64 c] w fun e w' => e = .returned (.tuple #[.int .i64 (t.session c),errV (if model.isClient c then 0 else 2)]) ∧ w = w':=by
 unfold Table.session;by_cases hk : model.isClient c = true
 ·have h1:=inR_iff.1 hk;obtain ⟨n,rfl⟩ : ∃ n : Nat,c = n:=⟨c.toNat,by omega⟩;rw [if_pos hk,if_pos hk];exact Session_yes tb _ t.vols t.sess n w h.at_.t_ h.at_.hv h.at_.hs (by omega)
 ·rw [if_neg hk,if_neg hk];rw [Bool.not_eq_true] at hk;exact Session_no _ c w (by rw [client_iff];exact hk)
theorem Session_e (c : Int) (h : TabM w tb tm t) :
 Calls Tryz.prog 121 #[.pointer (some ⟨tb,0,none⟩),.int .i64 c] w fun e w' => ∃ ev,e = .returned (.tuple #[.int .i64 (t.session c),ev]) ∧ ev = errV (if model.isClient c then 0 else 2) ∧ w = w':=
 (Session_m c h).mono fun _ _ ⟨h1,h2⟩ => ⟨_,h1,rfl,h2⟩
theorem Drop_m (c o : Int) (h : TabM w tb tm t) (hc : i64ok c) (ho : i64ok o) :
 Calls Tryz.prog 101 #[.pointer (some ⟨tb,0,none⟩),.int .i64 c,.int .i64 o] w fun e w' => e = .returned (.tuple #[]) ∧ TabM w' tb tm (t.drop c o) ∧ Turn (fun k => k = tb ∨ k = tm) w w':=by
 refine (TDrop_any tb tm t.objs t.vols t.sess c o w h.at_ hc ho).mono ?_;rintro e w' ⟨rfl,hT,hg⟩;exact ⟨rfl,⟨hT,fun p hp => h.ok p ((del_sublist _ _).mem hp)⟩,⟨hg.os,hg.tape,hg.output,hg.size,fun k hk hn => hg.block k hk (fun e => hn (.inr (by simpa using e)))⟩⟩
theorem Holders_m (o now : Int) (h : TabM w tb tm t) :
 Calls Tryz.prog 98 #[.pointer (some ⟨tb,0,none⟩),.int .i64 o,.int .i64 now] w fun e w' => ∃ v,e = .returned v ∧ w'.ownsRow w.heap.size 3 1 v (t.holders o now).length ((t.holders o now).map (Value.int .i64)) ∧ Below w.heap.size w w':=by
 have hf:=h.few;exact Holders_any tb tm t.objs t.vols t.sess o now w h.at_ (by omega) (fun p hp => ⟨(h.ok p hp).1,(h.ok p hp).2.1⟩)
end
end tab
end Go.Proofs.YtefkmcjhgoagcaaGreatDoor
