/-
  A part of the proof of the law WorldLasts: WoQ, WoR, KpA, WoS, WoT, KpB, KpC.
-/
import Derived.OwnWalk
import Derived.Deep.DeepCutAuto
import Derived.Deep.CutBlock
import Derived.Test.YtefkmcjhgoagcaaGreatDoorHd
import Derived.Test.YtefkmcjhgoagcaaGreatDoorP35
namespace Go.Proofs.YtefkmcjhgoagcaaGreatDoor
namespace wor
open Go.RowKit heap own errs mapof wire srv cli
open model (Disk Server Client MCall MEvent Terms Gram Net Realm)
open lasts (Idx Inv Tos Clk)
section
variable {P : Lib.PrintTabs} {own own1 : Nat → Nat} {w0 w w' : World} {ob db : Nat} {v v' : WV} {r r' : Realm}
structure Fit (b : Int) (G : lasts.Asked) (r : Realm) : Prop where
 inv : Inv b G r
 idx : Idx r
 tos : Tos r
 clk : Clk r
theorem Fit.restart_ {b : Int} {G : lasts.Asked} (h : Fit b G r) : Fit b G r.restart.2:=⟨lasts.restart_inv h.inv,h.idx.restart_,h.tos.restart_,h.clk.same (lasts.restart_clocks r)⟩
theorem Fit.again_ {b : Int} {G : lasts.Asked} (h : Fit b G r) (hb : b < 1000000) (k : Int) : Fit (b + 1) G (r.again k).2:=⟨lasts.again_inv h.inv hb k,h.idx.again_ k,h.tos.again_ k,h.clk.same (lasts.again_clocks r k)⟩
theorem Fit.flows_ {b : Int} {G : lasts.Asked} (h : Fit b G r) : Fit b G r.flows:=⟨lasts.flowsF_inv _ h.inv,lasts.Idx.flowsF_ _ h.idx,lasts.Tos.flowsF_ _ h.tos,h.clk.same (lasts.flowsF_clocks _ r)⟩
theorem Fit.goes_ {b : Int} {G : lasts.Asked} (h : Fit b G r) (l : List Int) : Fit b G (r.goes l).2:=⟨lasts.goes_inv h.inv l,h.idx.goes_ l,h.tos.goes_ l,h.clk.goes_ l⟩
theorem Fit.up_ {b b' : Int} {G : lasts.Asked} (h : Fit b G r) (hb : b ≤ b') : Fit b' G r:=⟨h.inv.up_ hb,h.idx,h.tos,h.clk⟩
theorem infoInt : (Tryz.prog.info? 3).map (fun i => (i.zero,i.size,i.bytes)) = some (some (.int .i64 0),1,8):=by kernel_rfl
def ones (n i : Nat) : List Int:=List.replicate i 1 ++ List.replicate (n - i) 0
theorem ones_len {n i : Nat} (h : i ≤ n) : (ones n i).length = n:=by simp [ones];omega
theorem ones_get {n i : Nat} (h : i < n) : (ones n i)[i]? = some 0:=by
 unfold ones;rw [List.getElem?_append_right (by simp),List.length_replicate,Nat.sub_self,List.getElem?_replicate,if_pos (by omega)]
theorem ones_set {n i : Nat} (h : i < n) : (ones n i).set i 1 = ones n (i + 1):=by
 unfold ones;obtain ⟨m,hm⟩ : ∃ m,n - i = m + 1:=⟨n - i - 1,by omega⟩;rw [hm,show n - (i + 1) = m by omega,List.replicate_succ (n:=m),List.set_append_right _ _ (by simp),List.length_replicate,Nat.sub_self,List.set_cons_zero,List.replicate_succ' (n:=i)];simp
theorem ones_all (n : Nat) : ones n n = List.replicate n 1:=by simp [ones]
theorem made_zero (n : Nat) : (madeCells (Value.int .i64 0).cells (n * 1)).toList = ints (ones n 0):=by
 apply List.ext_getElem?;intro j;by_cases hj : j < n
 ·simp [madeCells,ones,ints,hj,Nat.mod_one,Value.cells]
 ·simp [madeCells,ones,ints,hj]
set_option maxHeartbeats 4000000 in
set_option maxRecDepth 1000000 in
theorem Calm_w (w : World) (m : Nat) (hm : m ≤ 1000) {b : Int} {G : lasts.Asked} (hf : Fit b G r) (hb : b + 4 * m ≤ 900000) (h : WorW P own w0 w ob db v r) :
 Calls Tryz.prog 12 #[.pointer (some ⟨ob,0,none⟩),.int .i64 m] w fun e w' => e = .returned (.tuple #[]) ∧ Stepped P own w0 ob db w (Realm.calmN m r) w':=by
 have H0 : Hid (Fit b G r ∧ b + 4 * m ≤ 900000 ∧ Stepped P own w0 ob db w r w):=Hd ⟨hf,hb,Stepped.here h⟩;clear hf hb h;(go_enter Tryz.func12,Tryz.ntmps12);(go_wp2_with fail);(go_loopw [1] (fun q1 wx => ∃ (f : Nat) (rj : Realm) (bj : Int),f ≤ m ∧ q1 = .int .i64 f ∧ Fit bj G rj ∧ bj + 4 * f ≤ 900000 ∧ Stepped P own w0 ob db w rj wx ∧ Realm.calmN m r = Realm.calmN f rj) (fun q1 _ => (intOf q1).toNat));case atStart => exact ⟨m,r,b,Nat.le_refl _,rfl,H0.out.1,H0.out.2.1,H0.out.2.2,rfl⟩
 case round =>
  clear H0;obtain ⟨f,rj,bj,hfm,rfl,hfit,hbj,⟨own1,v1,h1,hx1,ht1⟩,he⟩:=hrel;have HE:=Hd he;have HX1:=Hd hx1;have HT1:=Hd ht1;have H1:=Hd h1;have HF1:=Hd hfit;have HBJ:=Hd hbj;have HRS:=Hd (Restart_w wr h1);clear he hx1 ht1 h1 hfit hbj;obtain ⟨wa,hwa⟩ : ∃ x,x = wr:=⟨_,rfl⟩;subst hwa
  cases f with
  | zero =>
   have HF : Hid (Realm.calmN m r = rj):=Hd HE.out
   go_wp2_with fail
   go_end0
   rw [HF.out];exact ⟨rfl,own1,v1,H1.out,HX1.out,HT1.out⟩
  | succ f =>
   have hf0 : 0 < f + 1:=Nat.succ_pos _;obtain ⟨r1,hr1⟩ : ∃ r1,r1 = rj.restart.2:=⟨_,rfl⟩;have HR1:=Hd hr1;rw [← hr1] at HRS;obtain ⟨ev1,hev1⟩ : ∃ x,x = errV rj.restart.1:=⟨_,rfl⟩;rw [← hev1] at HRS;clear hr1 hev1;(go_upto_region 3 with (go_at_call 24;refine HRS.out.mono ?_;rintro e w2 ⟨rfl,own2,v2,h2,hx2,ht2⟩;have H2:=Hd h2;have HX2:=Hd (show Ext wa own1 own2 from hx2);have HT2:=Hd ht2;clear h2 hx2 ht2));have HF2 : Hid (Fit bj G r1):=Hd (by rw [HR1.out];exact HF1.out.restart_);obtain ⟨pa,pc,hvp⟩:=row_sl H2.out.cl (by decide);obtain ⟨K,hK⟩ : ∃ K,K = r1.clients.length:=⟨_,rfl⟩;(have c5 : w2.cell? ⟨ob,5,none⟩ = some (.slice pa K pc):=by rw [hK,← hvp];exact H2.out.o_.cell 5);(have hK4 : K ≤ 4:=by rw [hK];exact H2.out.few);have HK:=Hd hK;clear hvp hK;(go_wp2_with fail);(go_loopw [18] (fun q18 wx => ∃ (i : Nat) (ri : Realm),i ≤ K ∧ q18 = .int .i64 i ∧ Fit (bj + i) G ri ∧ Stepped P own2 w0 ob db w2 ri wx ∧ Realm.eachAgain (List.range K) r1 = Realm.eachAgain ((List.range K).drop i) ri ∧ ri.clocks = r1.clocks) (fun q18 _ => K - (intOf q18).toNat));case atStart => exact ⟨0,r1,by omega,rfl,by simpa using HF2.out,Stepped.here H2.out,rfl,rfl⟩
   case round =>
    obtain ⟨i,ri,hi,rfl,hfi,⟨own3,v3,h3,hx3,ht3⟩,hei,hci⟩:=hrel;have HEI:=Hd hei;have HCI:=Hd hci;have HFI:=Hd hfi;have H3:=Hd h3;have HX3:=Hd hx3;have HT3:=Hd ht3;clear hei hci hfi h3 hx3 ht3 c5;obtain ⟨wb,hwb⟩ : ∃ x,x = wr:=⟨_,rfl⟩;subst hwb;by_cases hil : i < K
    ·(have hbi : bj + i < 1000000:=by have:=HBJ.out;omega);have HAG:=Hd (Again_w wb i HFI.out.inv (by omega) H3.out);have HF4:=Hd (HFI.out.again_ hbi i)
     have HF5 : Hid (Fit (bj + ((i + 1 : Nat) : Int)) G (ri.again i).2.flows):=Hd (by
      have h5:=HF4.out.flows_;have e : bj + ((i + 1 : Nat) : Int) = bj + i + 1:=by omega
      rw [e];exact h5)
     have HE5 : Hid (Realm.eachAgain (List.range K) r1 = Realm.eachAgain ((List.range K).drop (i + 1)) (ri.again i).2.flows):=Hd (by
      rw [HEI.out,List.drop_eq_getElem_cons (by rw [List.length_range];exact hil),List.getElem_range]
      rfl)
     have HC5 : Hid ((ri.again i).2.flows.clocks = r1.clocks):=Hd (by
      show (Realm.flowsF 1000 (ri.again i).2).clocks = _
      rw [lasts.flowsF_clocks,lasts.again_clocks,HCI.out])
     obtain ⟨ev2,hev2⟩ : ∃ x,x = errV (ri.again i).1:=⟨_,rfl⟩;rw [← hev2] at HAG;clear hbi hev2
     go_wp2_with first
      | (go_at_call 17;refine HAG.out.mono ?_;rintro e w4 ⟨rfl,own4,v4,h4,hx4,ht4⟩;have H4:=Hd h4;have HX4:=Hd (show Ext wb own3 own4 from hx4);have HT4:=Hd ht4;clear h4 hx4 ht4)
      | (go_at_call 32;refine (flows_w _ HF4.out.inv HF4.out.idx HF4.out.tos H4.out).mono ?_;rintro e w5 ⟨rfl,hs5⟩;have HS5:=Hd hs5;clear hs5)
     go_roundw;(case rel => exact ⟨i + 1,(ri.again i).2.flows,by omega,by go_num,HF5.out,Stepped.ahead HX3.out HT3.out (Stepped.ahead HX4.out HT4.out HS5.out),HE5.out,HC5.out⟩);case measure => simp [intOf];omega
    ·(obtain rfl : i = K:=by omega);have HRI : Hid (Realm.eachAgain (List.range i) r1 = ri):=Hd (by rw [HEI.out,List.drop_of_length_le (by simp)];rfl);obtain ⟨ka,kc,hvk⟩:=row_sl H3.out.ck (by decide);obtain ⟨n7,hn7⟩ : ∃ n7,n7 = ri.clocks.length:=⟨_,rfl⟩;(have c7 : wb.cell? ⟨ob,7,none⟩ = some (.slice ka n7 kc):=by rw [hn7,← hvk];exact H3.out.o_.cell 7);(have hn5 : n7 ≤ 5:=by have:=H3.out.nc.2;omega);have HN7:=Hd hn7;clear hvk hn7 hil;obtain ⟨i0,hi0,hz0,hz1,hz2⟩:=info_parts infoInt;(have hb2 : i0.bytes * n7 ≤ 281474976710656:=by rw [hz2];omega);have HI0:=Hd (And.intro hi0 (And.intro hz0 (And.intro hz1 hb2)));clear hi0 hz0 hz1 hz2 hb2;(go_upto_region 10 with (refine wpList_make_full wb rfl (.tmp 31) (.tmp 31) 63 rfl wb.heap.size 3 i0 (.int .i64 0) 1 Tryz.underlying63 HI0.out.1 HI0.out.2.1 HI0.out.2.2.1 .i64 .i64 n7 n7 n7 rfl rfl rfl rfl HI0.out.2.2.2 (by unfold maxLen;omega) (Nat.le_refl _) ?_;rintro w6 hrow hgr));rw [made_zero] at hrow;have hb6 : Below wb.heap.size wb w6:=⟨hgr.os,hgr.tape,hgr.output,hgr.size,fun k hk => hgr.block k hk (by simp)⟩;obtain ⟨B,hB⟩ : ∃ B,B = wb.heap.size:=⟨_,rfl⟩;have hoB : own3 B = 0:=by rw [hB];exact H3.out.fr _ (Nat.le_refl _)
     have hro : Row own3 0 w6 3 1 (.slice (some ⟨B,0,none⟩) n7 n7) n7 (ints (ones n7 0)):=by
      rw [hB];refine ⟨owns_base hrow (Nat.zero_le _),fun g hg => ?_⟩;(have e : wb.heap.size = g:=by simpa [Value.ownBlock] using hg);rw [← e,← hB];exact hoB
     have HRO:=Hd hro;have HB6:=Hd hb6;have HOB:=Hd hoB;have HBE:=Hd hB;rw [← hB];clear hrow hgr hb6 hoB hro hB HI0 c7;(go_wp2_with fail);(go_loopw [35] (fun q35 wx => ∃ j : Nat,j ≤ n7 ∧ q35 = .int .i64 j ∧ Row own3 0 wx 3 1 (.slice (some ⟨B,0,none⟩) n7 n7) n7 (ints (ones n7 j)) ∧ Below wb.heap.size wb wx) (fun q35 _ => n7 - (intOf q35).toNat));case atStart => exact ⟨0,by omega,rfl,HRO.out,HB6.out⟩
     case round =>
      clear HRO HB6;obtain ⟨j,hj,rfl,hro,hb7⟩:=hrel;obtain ⟨wd,hwd⟩ : ∃ x,x = wr:=⟨_,rfl⟩;subst hwd;by_cases hjl : j < n7
      ·(have hro2 : Row own3 0 wd 3 1 (.slice (some ⟨B,0,none⟩) n7 n7) (ones n7 j).length (ints (ones n7 j)):=by rw [ones_len hj];exact hro);obtain ⟨g,cap,e1,-,hgl,z0,f0⟩:=int_row hro2 (ones_get hjl);simp only [Value.slice.injEq,Option.some.injEq,Addr.mk.injEq,and_true] at e1;obtain ⟨rfl,-,-⟩:=e1
       have HS7 : Hid (Row own3 0 (wd.setCell ⟨B,j,none⟩ (.int .i64 1)) 3 1 (.slice (some ⟨B,0,none⟩) n7 n7) n7 (ints (ones n7 (j + 1)))):=Hd (by
        have h1:=row_set hro j (by omega) (.int .i64 1);rw [ints_set,ones_set hjl] at h1
        exact h1)
       have HB7 : Hid (Below wb.heap.size wb (wd.setCell ⟨B,j,none⟩ (.int .i64 1))):=Hd (hb7.setCell (by show wb.heap.size ≤ B;rw [HBE.out];exact Nat.le_refl _) _);clear hro hro2 hb7;(go_wp2_with fail);go_roundw;(case rel => exact ⟨j + 1,by omega,by go_num,HS7.out,HB7.out⟩);case measure => simp [intOf];omega
      ·(obtain rfl : j = n7:=by omega);rw [ones_all] at hro;(have hby : wd.ownsRow 0 3 1 (.slice (some ⟨B,0,none⟩) j j) (List.replicate j (1 : Int)).length (ints (List.replicate j 1)):=by rw [List.length_replicate];exact hro.1);have H7:=Hd (H3.out.below hb7 fun g hg => H3.out.fr g (Nat.le_trans hb7.size hg));have HFI2 : Hid (Fit (bj + i) G ri):=HFI;have HGO:=Hd (Goes_w wd _ (List.replicate j 1) hby hro.2 HFI.out.inv HFI.out.clk H7.out);have HF8:=Hd (HFI.out.goes_ (List.replicate j 1));have HB7:=Hd hb7
       have HRD : Hid (Realm.calmN m r = Realm.calmN f (ri.goes (List.replicate j 1)).2.flows):=Hd (by
        rw [HE.out];show Realm.calmN f rj.round = _;unfold Realm.round;rw [← HR1.out];dsimp only
        rw [← HK.out,HRI.out,← HN7.out])
       have HF9 : Hid (Fit (bj + 4) G (ri.goes (List.replicate j 1)).2.flows):=Hd (HF8.out.flows_.up_ (by omega));have HBK : Hid (bj + 4 + 4 * (f : Int) ≤ 900000):=Hd (by have:=HBJ.out;omega);obtain ⟨ev3,hev3⟩ : ∃ x,x = errV (ri.goes (List.replicate j 1)).1:=⟨_,rfl⟩;rw [← hev3] at HGO;clear hro hby hb7 hev3 hjl
       go_wp2_with first
        | (go_at_call 33;refine HGO.out.mono ?_;rintro e w8 ⟨rfl,own8,v8,h8,hx8,ht8⟩;have H8:=Hd h8;have HX8:=Hd (show Ext wd own3 own8 from hx8);have HT8:=Hd ht8;clear h8 hx8 ht8)
        | (go_at_call 32;refine (flows_w _ HF8.out.inv HF8.out.idx HF8.out.tos H8.out).mono ?_;rintro e w9 ⟨rfl,hs9⟩;have HS9:=Hd hs9;clear hs9)
       go_roundw
       case rel =>
        have s3:=Stepped.ahead (P:=P) (w0:=w0) (ob:=ob) (db:=db) (Ext.refl wb own3) (Turn.of_below (S:=fun g => own3 g ≠ 0) HB7.out (Nat.le_refl _)) (Stepped.ahead HX8.out HT8.out HS9.out);exact ⟨f,_,bj + 4,by omega,by go_num,HF9.out,HBK.out,Stepped.ahead HX1.out HT1.out (Stepped.ahead HX2.out HT2.out (Stepped.ahead HX3.out HT3.out s3)),HRD.out⟩
       case measure => simp [intOf]
end
end wor
namespace wor
open Go.RowKit heap own errs mapof wire srv cli
open model (Disk Server Client MCall MEvent Terms Gram Net Realm)
section
variable {P : Lib.PrintTabs} {own own1 : Nat → Nat} {w0 w w' : World} {ob db : Nat} {v v' : WV} {r r' : Realm}
theorem infoEvent : (Tryz.prog.info? 45).map (fun i => (i.zero,i.size,i.bytes)) = some (some (.agg #[.int .i64 0,.int .i64 0,.int .i64 0,.string ByteArray.empty,.int .i64 0,.bool false,.bool false,.int .i64 0,.int .i64 0,.int .i64 0]),10,80):=by kernel_rfl
theorem empty_events (w : World) : (w.alloc (.cells #[] 45)).ownsRow w.heap.size 45 10 (.slice (some ⟨w.heap.size,0,none⟩) 0 0) 0 []:=
 owns_new (l:=[]) (Has.new w _) (Nat.le_refl _) rfl (Nat.zero_le _)
set_option maxHeartbeats 1000000 in
set_option maxRecDepth 100000 in
theorem Events_w (w : World) (h : WorW P own w0 w ob db v r) (hl : r.events.length ≤ 100000) :
 Calls Tryz.prog 8 #[.pointer (some ⟨ob,0,none⟩)] w fun e w' => ∃ u,e = .returned u ∧ w'.ownsRow w.heap.size 45 10 u r.events.length (r.events.flatMap evRow) ∧ Below w.heap.size w w':=by
 obtain ⟨i0,hi0,hz0,hz1,hz2⟩:=info_parts infoEvent;have HI:=Hd (And.intro hi0 (And.intro hz0 (And.intro hz1 hz2)));have c10 : w.cell? ⟨ob,10,none⟩ = some v.ev:=h.o_.cell 10;have hlt:=h.o_.lt;obtain ⟨l,hle⟩ : ∃ l,l = r.events:=⟨_,rfl⟩;have hev:=h.ev;rw [← hle] at hev hl ⊢;clear hle h;rcases Nat.eq_zero_or_pos l.length with h0 | h0
 ·have hv : v.ev = .slice none 0 0 ∨ ∃ g cap,v.ev = .slice (some ⟨g,0,none⟩) 0 cap:=by
   rcases hev.1.2 with ⟨e,-⟩ | ⟨g,cap,cur,e,-⟩
   ·exact .inl e
   ·exact .inr ⟨g,cap,by rw [e,h0]⟩
  have hl0 : l = []:=List.eq_nil_of_length_eq_zero h0;clear hev;subst hl0;rcases hv with hv | ⟨g,cap,hv⟩
  all_goals
   rw [hv] at c10;clear hv;(go_enter Tryz.func8,Tryz.ntmps8);go_wp2;go_ret;exact ⟨_,rfl,empty_events w,(Below.refl _ _).alloc (Nat.le_refl _) _⟩
 ·obtain ⟨g,cap,cur,hv,-,hg,hc1,hc2,hc3,hc4⟩:=hev.shape h0;rw [hv] at c10;have HE:=Hd (empty_events w);have HG:=Hd hg;have H4:=Hd hc4;have hgl:=Has.lt (w:=w) hg;clear hg hc4 hz0 hz1 hz2 hi0 hev hv;(go_enter Tryz.func8,Tryz.ntmps8);go_wp2_with (at_builtin;refine wpList_append_own _ rfl (.tmp 3) (.tmp 7) 34 rfl w.heap.size 45 i0 _ 10 80 Tryz.underlying34 HI.out.1 HI.out.2.1 HI.out.2.2.1 HI.out.2.2.2 rfl (by decide) _ _ _ rfl HE.out ⟨g,0,none⟩ l.length cap (l.flatMap evRow) rfl (flat_len evRow_len l) ?c1 ?c2 ?c3 ?c4 ?c5 ?_)
  case c1 =>
   intro j u hj;(have hjl : j < l.length * 10:=by rw [← flat_len evRow_len l];exact (List.getElem?_eq_some_iff.1 hj).1);(have e : (⟨g,0,none⟩ : Addr).add j = ⟨g,j,none⟩:=by by_cases h0 : j = 0 <;> simp [Addr.add,h0]);rw [e,(Has.alloc (w:=w) HG.out _).cell,← hj,← H4.out,List.getElem?_take,if_pos hjl,Array.getElem?_toList]
  (case c2 => exact flat_one evRow_one l);(case c3 => unfold maxLen;omega);(case c4 => omega);(case c5 => simp);intro v2 w2 hown hg2 _;go_wp2;go_ret
  exact ⟨v2,rfl,hown,((Below.refl _ _).alloc (Nat.le_refl _) _).grown hg2 (by simp) (fun k hk => by
   have : w.heap.size = k:=by simpa [Value.ownBlock] using hk
   omega)⟩
theorem wvalue_results (tmps : Array Value) (W : World) (g : Nat) (cs : Array Value) (e : Value) (h2 : tmps.getD 4 undef = .pointer (some ⟨g,0,none⟩)) (h3 : tmps.getD 5 undef = e)
 (hg : Has W g (.cells cs 37)) (hs : cs.size = 2) : (results Tryz.f9 tmps).run Tryz.prog W = .ok (.tuple #[.agg cs,e]) W:=by
 rw [results_cell_tmp Tryz.results9,h2,h3];(have hi : (Tryz.prog.info? 37).map (·.size) = some cs.size:=by rw [hs];kernel_rfl);have:=run_loadVar_row (P:=Tryz.prog) W g 37 37 cs (0,0) _ hg Tryz.underlying37 rfl hi;simp [asAddr,Result.andThen,this]
theorem SValue_a (w : World) (o : Nat) (ho : o < 8) (h : WorW P own w0 w ob db v r) {s : Server} {sb : Nat} (hs : r.server = some s) (hp : v.sp = .pointer (some ⟨sb,0,none⟩)) :
 Calls Tryz.prog 26 #[.pointer (some ⟨sb,0,none⟩),.int .i64 o] w fun e w' => e = .returned (.tuple #[.agg #[.string ⟨(s.value o).data.toArray⟩,.int .i64 (s.value o).ver],.nilIface]) ∧ Below w.heap.size w w':=by
 have hq:=h.srv;unfold SrvPart at hq;rw [hs] at hq;obtain ⟨sb2,wb,dm,tb,tm,v1,ps,qs,h1,h2⟩:=hq;have e:=hp.symm.trans h1;simp only [Value.pointer.injEq,Option.some.injEq,Addr.mk.injEq,and_true] at e;subst e;exact Value_yes w o ho h2
set_option maxHeartbeats 1000000 in
set_option maxRecDepth 100000 in
theorem Value_w (w : World) (o : Nat) (ho : o < 8) (h : WorW P own w0 w ob db v r) {s : Server} (hs : r.server = some s) :
 Calls Tryz.prog 9 #[.pointer (some ⟨ob,0,none⟩),.int .i64 o] w fun e w' => e = .returned (.tuple #[.agg #[.string ⟨(s.value o).data.toArray⟩,.int .i64 (s.value o).ver],.nilIface]) ∧ Below w.heap.size w w':=by
 rcases h.sp_ with ⟨hsv,-⟩ | ⟨s2,sb,hsv,hsp⟩
 ·rw [hs] at hsv;cases hsv
 ·(have c4 : w.cell? ⟨ob,4,none⟩ = some (.pointer (some ⟨sb,0,none⟩)):=by rw [← hsp];exact h.o_.cell 4);have hobl:=h.o_.lt;have hb1 : Below w.heap.size w (w.alloc (.cells #[.string ByteArray.empty,.int .i64 0] 37)):=(Below.refl _ _).alloc (Nat.le_refl _) _;have HV:=Hd (SValue_a (w.alloc (.cells #[.string ByteArray.empty,.int .i64 0] 37)) o ho (h.below hb1 fun g hg => h.fr g (Nat.le_trans hb1.size hg)) hs hsp);have HB1:=Hd hb1;obtain ⟨sd,hsd⟩ : ∃ sd,sd = (s.value o).data:=⟨_,rfl⟩;obtain ⟨sv,hsv2⟩ : ∃ sv,sv = (s.value o).ver:=⟨_,rfl⟩;rw [← hsd,← hsv2] at HV ⊢;clear h hs hsv hsp hb1 hsd hsv2;go_enter Tryz.func9,Tryz.ntmps9
  go_wp2_with first
   | (go_at_call 26;refine HV.out.mono ?_;rintro e w2 ⟨rfl,hb2⟩;have HG:=Hd ((Has.new w (.cells #[.string ByteArray.empty,.int .i64 0] 37)).below hb2 (by simp));have HB2:=Hd (HB1.out.trans (hb2.mono HB1.out.size));clear hb2)
   | (refine wpList_store_row rfl 37 (.tmp 4) (.tmp 19) rfl w.heap.size #[.string ⟨sd.toArray⟩,.int .i64 sv] rfl rfl 37 _ HG.out (by kernel_rfl) rfl (by simp [Value.oneCell']) ?_)
  exact bodyPost_ret (wvalue_results _ _ w.heap.size _ _ rfl rfl (HG.out.setRow _) rfl) rfl ⟨rfl,below_setRow HB2.out (Nat.le_refl _) _⟩
end
end wor
namespace kp
open Go.RowKit heap own errs mapof wire srv cli wor keep
open model (Disk Server Client MCall MEvent Terms Gram Net Realm)
theorem pick_w (a n : Int) (w : World) (h1 : 1 ≤ n) (h2 : n ≤ 9223372036854775807) :
 Calls Tryz.prog 16 #[.int .i64 a,.int .i64 n] w fun e w' => e = .returned (.int .i64 (keep.pick a n)) ∧ w = w':=by
 obtain ⟨x,hx⟩ : ∃ x,x = keep.pick a n:=⟨_,rfl⟩;have HX:=Hd hx;rw [← hx];clear hx;(go_enter Tryz.func16,Tryz.ntmps16);go_wp2;go_ret;rw [HX.out];exact ⟨rfl,rfl⟩
set_option maxRecDepth 100000 in
theorem terms_w (o v d : Int) (w : World) :
 Calls Tryz.prog 15 #[.int .i64 o,.int .i64 v,.int .i64 d] w fun e w' => e = .returned (termsV (mkTerms o v d)) ∧ Below w.heap.size w w':=by
 obtain ⟨pv,hpv⟩ : ∃ x,x = keep.pick v 15:=⟨_,rfl⟩;obtain ⟨po,hpo⟩ : ∃ x,x = keep.pick o 25:=⟨_,rfl⟩;obtain ⟨pd,hpd⟩ : ∃ x,x = keep.pick d 501:=⟨_,rfl⟩;have b1:=pick_in v 15 (by omega) (by omega);have b2:=pick_in o 25 (by omega) (by omega);rw [← hpv] at b1;rw [← hpo] at b2;have HT : Hid (mkTerms o v d = ⟨1 + pv + po,1 + pv,pd⟩):=Hd (by unfold mkTerms;rw [hpv,hpo,hpd]);have HV:=Hd fun w => pick_w v 15 w (by omega) (by omega);have HO:=Hd fun w => pick_w o 25 w (by omega) (by omega);have HD:=Hd fun w => pick_w d 501 w (by omega) (by omega);rw [← hpv] at HV;rw [← hpo] at HO;rw [← hpd] at HD;clear hpv hpo hpd;(go_enter Tryz.func15,Tryz.ntmps15);(go_wp2_with (go_at_call 16;(first | with_reducible refine (HV.out _).mono ?_ | with_reducible refine (HO.out _).mono ?_ | with_reducible refine (HD.out _).mono ?_);rintro e w' ⟨rfl,rfl⟩));rw [HT.out];exact bodyPost_ret (results_cell_row Tryz.results15 _ _ w.heap.size 31 _ (0,0) _ rfl (Has.new w _) Tryz.underlying31 rfl (by kernel_rfl)) rfl ⟨rfl,(Below.refl _ _).alloc (Nat.le_refl _) _⟩
end kp
namespace wor
open Go.RowKit heap own errs mapof wire wal srv cli
open model (Disk Server Client MCall MEvent Terms Gram Net Realm)
section
variable {P : Lib.PrintTabs} {own own1 own2 : Nat → Nat} {w0 w w1 w2 w' : World} {ob db : Nat} {v v' : WV} {r r' : Realm}
theorem wp_make_full {P : Program} (w : World) {o : Oper} {a : Act} {K : Act → World → Prop} {Q : Exit → Act → World → Prop} (l c : Operand) (t : TypeId) (hop : o.op = Op.makeSlice t l c)
 (base : Nat) (e : TypeId) (i : TypeInfo) (z : Value) (size : Nat) (h1 : P.underlying t = some (.slice e)) (h2 : P.info? e = some i) (h3 : i.zero = some z) (h4 : i.size = size)
 (kl kc : IntKind) (n : Nat) (hl : a.eval l = .int kl n) (hc : a.eval c = .int kc n) (b2 : i.bytes * n ≤ 281474976710656) (b3 : n ≤ maxLen) (b4 : base ≤ w.heap.size)
 (hK : ∀ w',w'.ownsRow base e size (.slice (some ⟨w.heap.size,0,none⟩) n n) n (madeCells z.cells (n * size)).toList → w.grownBy w' none → K (a.put o.dst (.slice (some ⟨w.heap.size,0,none⟩) n n)) w') : o.wp P a w K Q:=by
 obtain ⟨w',hrun,r1,r2⟩:=run_make_full (P:=P) w base t e i z size h1 h2 h3 h4 kl kc n b2 b3 b4;unfold Oper.wp;simp [execOp,hop,hl,hc,hrun,Result.andThen];exact hK w' r1 r2
structure Grow (own : Nat → Nat) (w : World) (own1 : Nat → Nat) (w1 : World) (c l o : Value) (kc kl ko : Nat) (xc xl xo : List Value) : Prop where
 turn : Turn (fun g => own g = 61 ∨ own g = 62 ∨ own g = 65) w w1
 ext : Ext w own own1
 fr : ∀ g,w1.heap.size ≤ g → own1 g = 0
 rc : Row own1 61 w1 75 1 c kc xc
 rl : Row own1 62 w1 3 1 l kl xl
 ro : Row own1 65 w1 3 1 o ko xo
section
variable {c l o c' : Value} {kc kl ko k' g' : Nat} {xc xl xo x' : List Value}
theorem Grow.below (h : Grow own w own1 w1 c l o kc kl ko xc xl xo) (hb : Below w1.heap.size w1 w2) : Grow own w own1 w2 c l o kc kl ko xc xl xo:=
 ⟨h.turn.then_below hb (Nat.le_refl _),h.ext,fun g hg => h.fr g (Nat.le_trans hb.size hg),h.rc.below hb,h.rl.below hb,h.ro.below hb⟩
theorem Grow.ext_app (h : Grow own w own1 w1 c l o kc kl ko xc xl xo) {T : Nat} {u : Value} (hu : ∀ k,u.ownBlock = some k → own1 k = T) (h3 : u.ownBlock = some g' ∨ g' = w1.heap.size) : Ext w own (ownAt own1 g' T):=fun g hg =>
 (app_ext (w:=w1) hu h3 g (Nat.lt_of_lt_of_le hg h.turn.size)).trans (h.ext g hg)
theorem Grow.turn_app (h : Grow own w own1 w1 c l o kc kl ko xc xl xo) {T : Nat} (hT : T = 61 ∨ T = 62 ∨ T = 65) (ht : Turn (fun k => own1 k = T) w1 w2) : Turn (fun g => own g = 61 ∨ own g = 62 ∨ own g = 65) w w2:=
 h.turn.trans ht fun g hg e => by
  have e : own1 g = T:=e;rw [h.ext g hg] at e;rw [e];exact hT
theorem Grow.appC (h : Grow own w own1 w1 c l o kc kl ko xc xl xo) (hr : Row (ownAt own1 g' 61) 61 w2 75 1 c' k' x') (hg : w1.grownBy w2 c.ownBlock) (h3 : c.ownBlock = some g' ∨ g' = w1.heap.size) (h4 : g' < w2.heap.size) : Grow own w (ownAt own1 g' 61) w2 c' l o k' kl ko x' xl xo:=by
 have ht:=app_turn hg h.rc.2;have he:=app_ext (w:=w1) h.rc.2 h3;exact ⟨h.turn_app (.inl rfl) ht,h.ext_app h.rc.2 h3,app_fr h.fr ht.size h4,hr,h.rl.keep ht he fun k _ e e2 => by have e2 : own1 k = 61:=e2;omega,h.ro.keep ht he fun k _ e e2 => by have e2 : own1 k = 61:=e2;omega⟩
theorem Grow.appL (h : Grow own w own1 w1 c l o kc kl ko xc xl xo) (hr : Row (ownAt own1 g' 62) 62 w2 3 1 c' k' x') (hg : w1.grownBy w2 l.ownBlock) (h3 : l.ownBlock = some g' ∨ g' = w1.heap.size) (h4 : g' < w2.heap.size) : Grow own w (ownAt own1 g' 62) w2 c c' o kc k' ko xc x' xo:=by
 have ht:=app_turn hg h.rl.2;have he:=app_ext (w:=w1) h.rl.2 h3;exact ⟨h.turn_app (.inr (.inl rfl)) ht,h.ext_app h.rl.2 h3,app_fr h.fr ht.size h4,h.rc.keep ht he fun k _ e e2 => by have e2 : own1 k = 62:=e2;omega,hr,h.ro.keep ht he fun k _ e e2 => by have e2 : own1 k = 62:=e2;omega⟩
theorem Grow.appO (h : Grow own w own1 w1 c l o kc kl ko xc xl xo) (hr : Row (ownAt own1 g' 65) 65 w2 3 1 c' k' x') (hg : w1.grownBy w2 o.ownBlock) (h3 : o.ownBlock = some g' ∨ g' = w1.heap.size) (h4 : g' < w2.heap.size) : Grow own w (ownAt own1 g' 65) w2 c l c' kc kl k' xc xl x':=by
 have ht:=app_turn hg h.ro.2;have he:=app_ext (w:=w1) h.ro.2 h3;exact ⟨h.turn_app (.inr (.inr rfl)) ht,h.ext_app h.ro.2 h3,app_fr h.fr ht.size h4,h.rc.keep ht he fun k _ e e2 => by have e2 : own1 k = 65:=e2;omega,h.rl.keep ht he fun k _ e e2 => by have e2 : own1 k = 65:=e2;omega,hr⟩
end
structure Piece (own1 : Nat → Nat) (w1 : World) (G : Nat) (cs : Array Value) (t : TypeId) : Prop where
 has : Has w1 G (.cells cs t)
 own : own1 G = 0
section
variable {G g' T : Nat} {cs : Array Value} {t : TypeId} {u : Value}
theorem Piece.below (h : Piece own1 w1 G cs t) (hb : Below w1.heap.size w1 w2) : Piece own1 w2 G cs t:=⟨h.has.below hb h.has.lt,h.own⟩
theorem Piece.app (h : Piece own1 w1 G cs t) (hT : T ≠ 0) (hu : ∀ k,u.ownBlock = some k → own1 k = T) (hg : w1.grownBy w2 u.ownBlock) (h3 : u.ownBlock = some g' ∨ g' = w1.heap.size) : Piece (ownAt own1 g' T) w2 G cs t:=by
 refine ⟨(app_turn hg hu).has h.has (fun e => hT (e.symm.trans h.own)),?_⟩;rw [app_ext (w:=w1) hu h3 G h.has.lt];exact h.own
theorem Piece.new (w1 : World) (hf : ∀ g,w1.heap.size ≤ g → own1 g = 0) (cs : Array Value) (t : TypeId) : Piece own1 (w1.alloc (.cells cs t)) w1.heap.size cs t:=⟨Has.new w1 _,hf _ (Nat.le_refl _)⟩
end
theorem WorW.appThree (h : WorW P own w0 w ob db v r) {c l o : Value} {cb fm sm : Nat} {cv : Value} {cl : Client} (hg : Grow own w own1 w1 c l o (r.clients.length + 1) (r.lives.length + 1) (r.opens.length + 1) ((v.pts ++ [cb]).map fun b => Value.pointer (some ⟨b,0,none⟩)) (ints (r.lives ++ [0])) (ints (r.opens ++ [-1])))
 (hc : CliW own (20 + 4 * r.clients.length) w cb fm sm cv cl) (h3 : r.clients.length + 1 ≤ 4) (h4 : r.clients.length + 2 ≤ r.clocks.length) :
 WorW P own1 w0 (((w1.setCell ⟨ob,5,none⟩ c).setCell ⟨ob,6,none⟩ l).setCell ⟨ob,11,none⟩ o) ob db { v with cl:=c,li:=l,op:=o,pts:=v.pts ++ [cb] } { r with clients:=r.clients ++ [cl],lives:=r.lives ++ [0],opens:=r.opens ++ [-1] }:=by
 have ht2 : Turn (fun g => g = ob) w1 (((w1.setCell ⟨ob,5,none⟩ c).setCell ⟨ob,6,none⟩ l).setCell ⟨ob,11,none⟩ o):=(((Turn.refl (fun g => g = ob) w1).setCell (p:=⟨ob,5,none⟩) (.inr rfl) _).setCell (p:=⟨ob,6,none⟩) (.inr rfl) _).setCell (p:=⟨ob,11,none⟩) (.inr rfl) _;obtain ⟨W,hW⟩ : ∃ W,W = ((w1.setCell ⟨ob,5,none⟩ c).setCell ⟨ob,6,none⟩ l).setCell ⟨ob,11,none⟩ o:=⟨_,rfl⟩;have hob1 : own1 ob = 60:=(hg.ext ob h.o_.lt).trans h.oob
 have ht : Turn (fun g => g = ob ∨ own g = 61 ∨ own g = 62 ∨ own g = 65) w W:=by
  rw [hW];exact (hg.turn.mono fun g _ e => .inr e).trans ht2 fun g _ e => .inl e
 have hfr : ∀ g,W.heap.size ≤ g → own1 g = 0:=fun g hge => hg.fr g (Nat.le_trans (by rw [hW];exact ht2.size) hge);have he:=hg.ext
 have no : ∀ g i,own g = i → i ≠ 60 → i ≠ 61 → i ≠ 62 → i ≠ 65 → ¬ (g = ob ∨ own g = 61 ∨ own g = 62 ∨ own g = 65):=fun g i hi h1 h2 h3 h5 e => by
  rcases e with e | e | e | e
  ·rw [e,h.oob] at hi;exact h1 hi.symm
  ·omega
  ·omega
  ·omega
 have n1 : ∀ k,own1 k = 61 ∨ own1 k = 62 ∨ own1 k = 65 → ¬ k = ob:=fun k h1 e => by rw [e,hob1] at h1;omega
 have r1 : ∀ {T e n u xs},(T = 61 ∨ T = 62 ∨ T = 65) → Row own1 T w1 e 1 u n xs → Row own1 T W e 1 u n xs:=fun {T e n u xs} hT hr => by
  rw [hW];exact hr.keep ht2 (Ext.refl _ _) fun k _ hk => n1 k (by omega)
 rw [← hW];refine ⟨hfr,fun g hg0 => ?_,?_,hob1,h.srv.keep ht he hfr fun g _ e => ?_,?_,?_,fun j x hj => ?_,?_,?_,h.ck.keep ht he fun i _ hi => no i 63 hi (by decide) (by decide) (by decide) (by decide),h.ev.keep ht he fun i _ hi => no i 64 hi (by decide) (by decide) (by decide) (by decide),?_,?_,h.right,?_,?_,?_⟩
 ·rcases Nat.lt_or_ge g w.heap.size with h1 | h1
  ·rw [he g h1] at hg0;exact h.low g hg0
  ·exact Nat.le_trans h.bel.size h1
 ·have h7 : Has w1 ob (.cells (wcells db v r) 68):=hg.turn.has h.o_ (by rw [h.oob];decide);rw [hW];exact ((h7.set_ 5 c).set_ 6 l).set_ 11 o
 ·rcases e with e | e
  ·exact ⟨fun e2 => by unfold SrvSet at e2;rw [e,h.oob] at e2;omega,by rw [e];exact h.low ob (by rw [h.oob];decide)⟩
  ·exact ⟨fun e2 => by unfold SrvSet at e2;omega,h.low g (by omega)⟩
 ·simp only [List.length_append,List.length_singleton];exact r1 (.inl rfl) hg.rc
 ·simp only [List.length_append,List.length_singleton,h.pl]
 ·have hk4 : ∀ i,i < 4 → ∀ g,g < w.heap.size → (g = ob ∨ own g = 61 ∨ own g = 62 ∨ own g = 65) → ¬ CliSet own (20 + 4 * i) g:=fun i hi g _ e hc => by
   unfold CliSet at hc;rcases e with e | e
   ·rw [e,h.oob] at hc;omega
   ·omega
  have hj : (r.clients ++ [cl])[j]? = some x:=hj;rw [List.getElem?_append] at hj;split at hj
  ·rename_i hjl;obtain ⟨cb2,fm2,sm2,cv2,h1,h2⟩:=h.cls j x hj;refine ⟨cb2,fm2,sm2,cv2,?_,h2.turn ht he fun g hgl e => hk4 j (by omega) g hgl e⟩;show (v.pts ++ [cb])[j]? = some cb2;rw [List.getElem?_append_left (by rw [h.pl];exact hjl)];exact h1
  ·rename_i hjl
   obtain ⟨e0,e1⟩ : j = r.clients.length ∧ cl = x:=by
    have h0 : j - r.clients.length = 0:=by
     have:=(List.getElem?_eq_some_iff.mp hj).1;simp at this;omega
    rw [h0] at hj;exact ⟨by omega,by simpa using hj⟩
   subst e0 e1;refine ⟨cb,fm,sm,cv,?_,hc.turn ht he fun g hgl e => hk4 _ (by omega) g hgl e⟩;show (v.pts ++ [cb])[r.clients.length]? = some cb;rw [List.getElem?_append_right (by rw [h.pl];exact Nat.le_refl _),h.pl,Nat.sub_self];rfl
 ·simp only [List.length_append,List.length_singleton];exact h3
 ·simp only [List.length_append,List.length_singleton];exact r1 (.inr (.inl rfl)) hg.rl
 ·simp only [List.length_append,List.length_singleton];exact r1 (.inr (.inr rfl)) hg.ro
 ·obtain ⟨ps,h1,h2,h5,h6⟩:=h.net;exact ⟨ps,h1,h2.keep ht he fun i _ hi => no i 66 hi (by decide) (by decide) (by decide) (by decide),fun p hp => (h5 p hp).keep ht he fun i _ hi => no i 67 hi (by decide) (by decide) (by decide) (by decide),h6⟩
 ·simp only [List.length_append,List.length_singleton,h.nl]
 ·simp only [List.length_append,List.length_singleton];exact ⟨by omega,h.nc.2⟩
 ·simp only [List.length_append,List.length_singleton,h.no]
end
end wor
namespace wor
open Go.RowKit heap own errs mapof wire wal srv cli
open model (Disk Server Client MCall MEvent Terms Gram Net Realm newClients inR)
section
variable {P : Lib.PrintTabs} {own own1 own2 : Nat → Nat} {w0 w w1 w2 w' : World} {ob db : Nat} {v v' : WV} {r r' : Realm}
def bare0 (t : Terms) (n1 : Nat) (d : Disk) (s : Option Server) : Realm:=⟨t,d,s,[],[],List.replicate n1 0,⟨[],0⟩,[],[],0⟩
theorem new_start {kb n1 : Nat} (t : Terms) (hk : Kit P w) (hh : Handle w) (hb : Below w.heap.size w w') (h1 : 1 ≤ n1) (h5 : n1 ≤ 5) (hd : Has w' db (.cells Tryz.zeroCells72 72)) (hck : w'.ownsRow 0 3 1 (.slice (some ⟨kb,0,none⟩) n1 n1) n1 (ints (List.replicate n1 0)))
 (ho : Has w' ob (.cells #[.int .i64 t.object,.int .i64 t.volume,.int .i64 t.drift,.pointer (some ⟨db,0,none⟩),.pointer none,.slice none 0 0,.slice none 0 0,.slice (some ⟨kb,0,none⟩) n1 n1,.slice none 0 0,.int .i64 0,.slice none 0 0,.slice none 0 0,.int .i64 0] 68))
 (hkb : kb < w'.heap.size) (e1 : ob ≠ db) (e2 : ob ≠ kb) (e3 : db ≠ kb) (l1 : w.heap.size ≤ ob) (l2 : w.heap.size ≤ db) (l3 : w.heap.size ≤ kb) :
 ∃ own1 v,WorW P own1 w w' ob db v (bare0 t n1 ⟨[],false,0⟩ none) ∧ ∀ g,g ≠ ob → g ≠ db → g ≠ kb → own1 g = 0:=by
 obtain ⟨own1,hown⟩ : ∃ own1 : Nat → Nat,own1 = fun g => if g = ob then 60 else if g = db then 1 else if g = kb then 63 else 0:=⟨_,rfl⟩
 (have o1 : own1 ob = 60:=by rw [hown];simp);(have o2 : own1 db = 1:=by rw [hown];simp [Ne.symm e1]);(have o3 : own1 kb = 63:=by rw [hown];simp [Ne.symm e2,Ne.symm e3]);(have oz : ∀ g,g ≠ ob → g ≠ db → g ≠ kb → own1 g = 0:=fun g h1 h2 h3 => by rw [hown];simp [h1,h2,h3]);have fr : ∀ g,w'.heap.size ≤ g → own1 g = 0:=fun g hg => oz g (by have:=ho.lt;omega) (by have:=hd.lt;omega) (by omega)
 have low : ∀ g,own1 g ≠ 0 → w.heap.size ≤ g:=fun g hg => by
  rcases Nat.lt_or_ge g w.heap.size with h | h
  ·exact absurd (oz g (by omega) (by omega) (by omega)) hg
  ·exact h
 have hp : SrvPart P own1 w w' db (.pointer none) ⟨[],false,0⟩ none:=⟨rfl,List.replicate 200 ⟨#[]⟩,hk,hh,hb,(fun g hg => low g (by unfold SrvSet at hg;omega)),fr,⟨hd,List.length_replicate⟩,Places.new P,o2,fun r hr => by cases hr⟩;refine ⟨own1,⟨.pointer none,.slice none 0 0,.slice none 0 0,.slice (some ⟨kb,0,none⟩) n1 n1,.slice none 0 0,.slice none 0 0,.slice none 0 0,[]⟩,⟨fr,low,ho,o1,hp,Row.nil _ _ _ _ _,rfl,(fun k c hc => by simp [bare0] at hc),Nat.zero_le _,Row.nil _ _ _ _ _,?_,Row.nil _ _ _ _ _,Row.nil _ _ _ _ _,⟨[],rfl,Row.nil _ _ _ _ _,(fun p hp => by cases hp),by simp⟩,(fun g hg => by cases hg),rfl,⟨?_,?_⟩,rfl⟩,oz⟩
 ·show Row own1 63 w' _ 1 _ (List.replicate n1 (0 : Int)).length _;rw [List.length_replicate];refine ⟨hck,fun g hg => ?_⟩;(have e : kb = g:=by simpa [Value.ownBlock] using hg);rw [← e];exact o3
 ·show 0 + 1 ≤ (List.replicate n1 (0 : Int)).length;rw [List.length_replicate];omega
 ·show (List.replicate n1 (0 : Int)).length ≤ 5;rw [List.length_replicate];exact h5
theorem Grow.build {c l o : Value} {kc kl ko : Nat} {xc xl xo : List Value} (h : Grow own w own1 w1 c l o kc kl ko xc xl xo) (cs : Array Value) (t : TypeId) : ∃ (y : World) (G : Nat),w1.alloc (.cells cs t) = y ∧ w1.heap.size = G ∧ Grow own w own1 y c l o kc kl ko xc xl xo ∧ Piece own1 y G cs t ∧ ∀ (G' : Nat) (cs' : Array Value) (t' : TypeId),Piece own1 w1 G' cs' t' → Piece own1 y G' cs' t':=by
 have hb : Below w1.heap.size w1 (w1.alloc (.cells cs t)):=(Below.refl _ _).alloc (Nat.le_refl _) _;exact ⟨_,_,rfl,rfl,h.below hb,Piece.new w1 h.fr cs t,fun _ _ _ hp => hp.below hb⟩
theorem client_some {t : Terms} (ht : model.rightTerms t = true) {k : Nat} (hk : k < 4) : ∃ c,Client.new k t 0 0 = some c:=by
 unfold model.rightTerms at ht;simp only [Bool.and_eq_true,decide_eq_true_eq,inR] at ht;unfold Client.new;rw [if_pos]
 ·exact ⟨_,rfl⟩
 ·simp only [Bool.and_eq_true,decide_eq_true_eq,inR,model.isClient,model.half];refine ⟨⟨⟨⟨⟨⟨by omega,by omega⟩,⟨by omega,by omega⟩⟩,⟨by omega,by decide⟩⟩,⟨by omega,by omega⟩⟩,⟨by omega,by omega⟩⟩,⟨by omega,by omega⟩⟩
theorem newClients_some {t : Terms} (ht : model.rightTerms t = true) : ∀ (n j : Nat),j + n ≤ 4 → ∃ l,newClients t j n = some l
 | 0,_,_ => ⟨[],rfl⟩
 | n + 1,j,h => by
  obtain ⟨c,hc⟩:=client_some ht (k:=j) (by omega);obtain ⟨l,hl⟩:=newClients_some ht n (j + 1) (by omega);exact ⟨c :: l,by unfold newClients;rw [hc,hl]⟩
theorem new_right {t : Terms} {d : Disk} {now : Int} {s : Server} (h : (Server.new t d now).2.2 = some s) : model.rightTerms t = true:=by
 unfold Server.new at h;split at h
 ·cases h
 ·rename_i h0;simp only [Bool.or_eq_true,Bool.not_eq_true',not_or,Bool.not_eq_false] at h0;exact h0.1
def NewW (P : Lib.PrintTabs) (w : World) (x : Int × Option Realm) (e : Ending) (w' : World) : Prop:=
 match x with
 | (_,some r) => ∃ own1 ob db v,e = .returned (.tuple #[.pointer (some ⟨ob,0,none⟩),.nilIface]) ∧ WorW P own1 w w' ob db v r
 | (c,none) => e = .returned (.tuple #[.pointer none,errV c]) ∧ Below w.heap.size w w'
set_option maxHeartbeats 8000000 in
set_option maxRecDepth 1000000 in
theorem New_w (w : World) (t : Terms) (n : Int) (hk : Kit P w) (hh : Handle w) :
 Calls Tryz.prog 10 #[termsV t,.int .i64 n] w (NewW P w (Realm.new t n)):=by
 obtain ⟨x,hx⟩ : ∃ x,x = Realm.new t n:=⟨_,rfl⟩;rw [← hx];obtain ⟨b2,hb2⟩ : ∃ b2,b2 = w.heap.size:=⟨_,rfl⟩;obtain ⟨W1,hW1⟩ : ∃ W1,W1 = w.alloc (.cells #[.int .i64 t.object,.int .i64 t.volume,.int .i64 t.drift] 31):=⟨_,rfl⟩;have HB1 : Hid (Below w.heap.size w W1):=Hd (by rw [hW1];exact (Below.refl _ _).alloc (Nat.le_refl _) _);have HT1 : Hid (Has W1 b2 (.cells #[.int .i64 t.object,.int .i64 t.volume,.int .i64 t.drift] 31)):=Hd (by rw [hW1,hb2];exact Has.new w _);have HX:=Hd hx;have HB2:=Hd hb2;have HK:=Hd hk;have HH:=Hd hh;unfold termsV;by_cases hr : 1 ≤ n ∧ n ≤ 4
 ·obtain ⟨m,rfl⟩ : ∃ m : Nat,n = m:=⟨n.toNat,by omega⟩;have d1 : decide ((m : Int) < 1) = false:=decide_eq_false (by omega);have d2 : decide ((4 : Int) < (m : Int)) = false:=decide_eq_false (by omega);obtain ⟨n1,hn1⟩ : ∃ n1,n1 = m + 1:=⟨_,rfl⟩;(have ewn : IntKind.i64.wrap ((m : Int) + 1) = (n1 : Int):=by simp only [IntKind.wrap_i64];omega);have HM : Hid (1 ≤ m ∧ m ≤ 4 ∧ n1 = m + 1):=Hd ⟨by omega,by omega,hn1⟩;(have hm5 : n1 ≤ 5:=by omega);clear hk hh hx hr hn1;(go_enter Tryz.func10,Tryz.ntmps10);(go_upto_region 3 with fail);rw [← hW1,← hb2];clear hW1 hb2;go_cut [6] (fun q6 wx => ∃ own1 obx dbx vx,q6 = .pointer (some ⟨obx,0,none⟩) ∧ WorW P own1 w wx obx dbx vx (bare0 t n1 ⟨[],false,0⟩ none) ∧ Has wx b2 (.cells #[.int .i64 t.object,.int .i64 t.volume,.int .i64 t.drift] 31) ∧ own1 b2 = 0)
  case first =>
   obtain ⟨i0,hi0,hz0,hz1,hz2⟩:=info_parts infoInt;(have hbb : i0.bytes * n1 ≤ 281474976710656:=by rw [hz2];omega);have HI0:=Hd (And.intro hi0 (And.intro hz0 (And.intro hz1 hbb)));clear hi0 hz0 hz1 hz2 hbb;have y0 : W1.cell? ⟨b2,0,none⟩ = some (.int .i64 t.object):=HT1.out.cell 0;have y1 : W1.cell? ⟨b2,1,none⟩ = some (.int .i64 t.volume):=HT1.out.cell 1;have y2 : W1.cell? ⟨b2,2,none⟩ = some (.int .i64 t.drift):=HT1.out.cell 2;have hl2 : b2 < W1.heap.size:=HT1.out.lt;refine phase.gHH (fun W => W.cell? ⟨b2,0,none⟩ = some (.int .i64 t.object) ∧ W.cell? ⟨b2,1,none⟩ = some (.int .i64 t.volume) ∧ W.cell? ⟨b2,2,none⟩ = some (.int .i64 t.drift)) (fun i => decide (0 ≤ i) && decide (i < 9)) 9 ⟨y0,y1,y2⟩ fun HS => ?_;obtain ⟨wd0,hwd0⟩ : ∃ W,W = W1.drew:=⟨_,rfl⟩;rw [← hwd0] at HS ⊢;have HB0 : Hid (Below W1.heap.size W1 wd0):=Hd (by rw [hwd0];exact (Below.refl _ _).drew);clear hwd0;refine phase.gN 0 19 (.agg #[.int .i64 t.object,.int .i64 t.volume,.int .i64 t.drift]) [] HS.out ?_ (hy:=(fun W' hW' => by have e0:=hW'.1;have e1:=hW'.2.1;have e2:=hW'.2.2;go_simp));dsimp only [List.set];refine phase.gN 1 20 (.agg Tryz.zeroCells72) [] HS.out ?_;dsimp only [List.set];refine phase.gN 3 22 (.int .i64 m) [] HS.out ?_;dsimp only [List.set];refine phase.gN 4 23 (.int .i64 n1) [] HS.out ?_;dsimp only [List.set];refine phase.eachN (l:=[2,5]) (by kernel_rfl) (by decide) fun i hi => ?_;simp only [List.mem_cons,List.not_mem_nil,or_false] at hi;rcases hi with rfl | rfl
   ·refine ⟨_,by simp only [List.getElem?_toArray,List.getElem?_cons_succ,List.getElem?_cons_zero];exact rfl,fun K hK => ?_⟩;refine (if_pos (by rfl)).mpr ?_;go_simp;obtain ⟨db,hdb⟩ : ∃ db,db = wd0.heap.size:=⟨_,rfl⟩;obtain ⟨wd1,hwd1⟩ : ∃ W,W = wd0.alloc (.cells Tryz.zeroCells72 72):=⟨_,rfl⟩;rw [← hwd1,← hdb];(have hbb : Below W1.heap.size W1 wd1:=by rw [hwd1];exact (HB0.out).alloc HB0.out.size _);have HDB : Hid (Has wd1 db (.cells Tryz.zeroCells72 72)):=Hd (by rw [hwd1,hdb];exact Has.new wd0 _);have HDL : Hid (W1.heap.size ≤ db):=Hd (by rw [hdb];exact HB0.out.size);have HBd:=Hd hbb;have HS' : Hid ((fun W => W.cell? ⟨b2,0,none⟩ = some (.int .i64 t.object) ∧ W.cell? ⟨b2,1,none⟩ = some (.int .i64 t.volume) ∧ W.cell? ⟨b2,2,none⟩ = some (.int .i64 t.drift)) wd1):=Hd ⟨(hbb.cell (p:=⟨b2,0,none⟩) hl2).trans y0,(hbb.cell (p:=⟨b2,1,none⟩) hl2).trans y1,(hbb.cell (p:=⟨b2,2,none⟩) hl2).trans y2⟩;clear hwd1 hdb hbb;refine hK.out _ _ (fun _ => HS'.out) ?_;clear hK K HS;have HS:=HS';clear HS';dsimp only [List.set];refine phase.g1 5 fun K hK => ?_;refine wp_make_full wd1 (.tmp 23) (.tmp 23) 63 rfl wd1.heap.size 3 i0 (.int .i64 0) 1 Tryz.underlying63 HI0.out.1 HI0.out.2.1 HI0.out.2.2.1 .i64 .i64 n1 rfl rfl HI0.out.2.2.2 (by unfold maxLen;omega) (Nat.le_refl _) fun wf hrow hgr => ?_;rw [made_zero] at hrow;have hbm : Below wd1.heap.size wd1 wf:=⟨hgr.os,hgr.tape,hgr.output,hgr.size,fun k hk => hgr.block k hk (by simp)⟩;have hbb : Below W1.heap.size W1 wf:=(HBd.out).trans (hbm.mono HBd.out.size);obtain ⟨kb,hkb⟩ : ∃ kb,kb = wd1.heap.size:=⟨_,rfl⟩
    have hkl : kb < wf.heap.size:=by
     rcases hrow.2 with ⟨e,-⟩ | ⟨g,c9,cur9,e,-,hx9,-⟩
     ·cases e
     ·simp only [Value.slice.injEq,Option.some.injEq,Addr.mk.injEq,and_true] at e;rw [hkb,e.1];exact Has.lt (w:=wf) hx9
    rw [← hkb] at hrow ⊢;have HKL : Hid (W1.heap.size ≤ kb):=Hd (by rw [hkb];exact HBd.out.size);have HRK : Hid (wf.ownsRow W1.heap.size 3 1 (.slice (some ⟨kb,0,none⟩) n1 n1) n1 (ints (ones n1 0)) ∧ kb < wf.heap.size ∧ kb ≠ db):=Hd ⟨owns_base hrow HKL.out,hkl,fun e => by have:=HDB.out.lt;rw [← e,hkb] at this;omega⟩;have HDB2 : Hid (Has wf db (.cells Tryz.zeroCells72 72)):=Hd (HDB.out.below hbm HDB.out.lt);clear HDB;have HDB:=HDB2;clear HDB2;have HBf:=Hd hbb;have HS' : Hid ((fun W => W.cell? ⟨b2,0,none⟩ = some (.int .i64 t.object) ∧ W.cell? ⟨b2,1,none⟩ = some (.int .i64 t.volume) ∧ W.cell? ⟨b2,2,none⟩ = some (.int .i64 t.drift)) wf):=Hd ⟨(hbb.cell (p:=⟨b2,0,none⟩) hl2).trans y0,(hbb.cell (p:=⟨b2,1,none⟩) hl2).trans y1,(hbb.cell (p:=⟨b2,2,none⟩) hl2).trans y2⟩;clear hrow hgr hkb hkl hbb hbm;refine hK.out _ _ (fun _ => HS'.out) ?_;clear hK K HS;have HS:=HS';clear HS';dsimp only [List.set];refine phase.gN 6 25 (.agg #[.int .i64 t.object,.int .i64 t.volume,.int .i64 t.drift,.pointer (some ⟨db,0,none⟩),.pointer none,.slice none 0 0,.slice none 0 0,.slice (some ⟨kb,0,none⟩) n1 n1,.slice none 0 0,.int .i64 0,.slice none 0 0,.slice none 0 0,.int .i64 0]) [] HS.out ?_;dsimp only [List.set];refine phase.g1 7 fun K hK => ?_;go_simp;obtain ⟨obx,hobx⟩ : ∃ obx,obx = wf.heap.size:=⟨_,rfl⟩;obtain ⟨wo,hwo⟩ : ∃ wo,wo = wf.alloc (.cells #[.int .i64 t.object,.int .i64 t.volume,.int .i64 t.drift,.pointer (some ⟨db,0,none⟩),.pointer none,.slice none 0 0,.slice none 0 0,.slice (some ⟨kb,0,none⟩) n1 n1,.slice none 0 0,.int .i64 0,.slice none 0 0,.slice none 0 0,.int .i64 0] 68):=⟨_,rfl⟩;rw [← hwo,← hobx];(have hbo : Below wf.heap.size wf wo:=by rw [hwo];exact (Below.refl _ _).alloc (Nat.le_refl _) _);have hbb:=HBf.out.trans (hbo.mono HBf.out.size);have HS' : Hid ((fun W => W.cell? ⟨b2,0,none⟩ = some (.int .i64 t.object) ∧ W.cell? ⟨b2,1,none⟩ = some (.int .i64 t.volume) ∧ W.cell? ⟨b2,2,none⟩ = some (.int .i64 t.drift)) wo):=Hd ⟨(hbb.cell (p:=⟨b2,0,none⟩) hl2).trans y0,(hbb.cell (p:=⟨b2,1,none⟩) hl2).trans y1,(hbb.cell (p:=⟨b2,2,none⟩) hl2).trans y2⟩;(have hob : Has wo obx (.cells #[.int .i64 t.object,.int .i64 t.volume,.int .i64 t.drift,.pointer (some ⟨db,0,none⟩),.pointer none,.slice none 0 0,.slice none 0 0,.slice (some ⟨kb,0,none⟩) n1 n1,.slice none 0 0,.int .i64 0,.slice none 0 0,.slice none 0 0,.int .i64 0] 68):=by rw [hwo,hobx];exact Has.new wf _);have hw1 : w.heap.size ≤ W1.heap.size:=HB1.out.size;have hstart:=new_start (P:=P) (n1:=n1) t HK.out HH.out (HB1.out.trans (hbb.mono hw1)) (by have:=HM.out;omega) hm5 (HDB.out.below hbo HDB.out.lt) (by have:=owns_base (owns_below HRK.out.1 hbo) (Nat.zero_le _);have e : ones n1 0 = List.replicate n1 0:=(by simp [ones]);rw [e] at this;exact this) hob (Nat.lt_of_lt_of_le HRK.out.2.1 hbo.size) (by have:=HDB.out.lt;omega) (by have:=HRK.out.2.1;omega) (Ne.symm HRK.out.2.2) (by have:=HBf.out.size;omega) (Nat.le_trans hw1 HDL.out) (Nat.le_trans hw1 HKL.out);have HST:=Hd hstart;have HTB : Hid (Has wo b2 (.cells #[.int .i64 t.object,.int .i64 t.volume,.int .i64 t.drift] 31) ∧ b2 ≠ obx ∧ b2 ≠ db ∧ b2 ≠ kb):=Hd ⟨HT1.out.below hbb hl2,by have:=HBf.out.size;omega,by have:=HDL.out;omega,by have:=HKL.out;omega⟩;clear hwo hobx hbo hbb hob hw1 hstart;refine hK.out _ _ (fun _ => HS'.out) ?_;clear hK K HS;have HS:=HS';clear HS';dsimp only [List.set];refine phase.gN 8 6 (.pointer (some ⟨obx,0,none⟩)) [] HS.out ?_;dsimp only [List.set];refine phase.gD ?_;(go_wp2_with fail);go_meet
    case rel =>
     obtain ⟨own1,vx,h1,h2⟩:=HST.out;exact ⟨own1,obx,db,vx,rfl,h1,HTB.out.1,h2 b2 HTB.out.2.1 HTB.out.2.2.1 HTB.out.2.2.2⟩
   ·refine ⟨_,by simp only [List.getElem?_toArray,List.getElem?_cons_succ,List.getElem?_cons_zero];exact rfl,fun K hK => ?_⟩;refine (if_pos (by rfl)).mpr ?_;refine wp_make_full wd0 (.tmp 23) (.tmp 23) 63 rfl wd0.heap.size 3 i0 (.int .i64 0) 1 Tryz.underlying63 HI0.out.1 HI0.out.2.1 HI0.out.2.2.1 .i64 .i64 n1 rfl rfl HI0.out.2.2.2 (by unfold maxLen;omega) (Nat.le_refl _) fun wk1 hrow hgr => ?_;rw [made_zero] at hrow;have hbm : Below wd0.heap.size wd0 wk1:=⟨hgr.os,hgr.tape,hgr.output,hgr.size,fun k hk => hgr.block k hk (by simp)⟩;have hbb : Below W1.heap.size W1 wk1:=(HB0.out).trans (hbm.mono HB0.out.size);obtain ⟨kb,hkb⟩ : ∃ kb,kb = wd0.heap.size:=⟨_,rfl⟩
    have hkl : kb < wk1.heap.size:=by
     rcases hrow.2 with ⟨e,-⟩ | ⟨g,c9,cur9,e,-,hx9,-⟩
     ·cases e
     ·simp only [Value.slice.injEq,Option.some.injEq,Addr.mk.injEq,and_true] at e;rw [hkb,e.1];exact Has.lt (w:=wk1) hx9
    rw [← hkb] at hrow ⊢;have HKL : Hid (W1.heap.size ≤ kb):=Hd (by rw [hkb];exact HB0.out.size);have HRK : Hid (wk1.ownsRow W1.heap.size 3 1 (.slice (some ⟨kb,0,none⟩) n1 n1) n1 (ints (ones n1 0)) ∧ kb < wk1.heap.size):=Hd ⟨owns_base hrow HKL.out,hkl⟩;have HBk:=Hd hbb;have HS' : Hid ((fun W => W.cell? ⟨b2,0,none⟩ = some (.int .i64 t.object) ∧ W.cell? ⟨b2,1,none⟩ = some (.int .i64 t.volume) ∧ W.cell? ⟨b2,2,none⟩ = some (.int .i64 t.drift)) wk1):=Hd ⟨(hbb.cell (p:=⟨b2,0,none⟩) hl2).trans y0,(hbb.cell (p:=⟨b2,1,none⟩) hl2).trans y1,(hbb.cell (p:=⟨b2,2,none⟩) hl2).trans y2⟩;clear hrow hgr hkb hkl hbb hbm;refine hK.out _ _ (fun _ => HS'.out) ?_;clear hK K HS;have HS:=HS';clear HS';dsimp only [List.set];refine phase.g1 2 fun K hK => ?_;go_simp;obtain ⟨db,hdb⟩ : ∃ db,db = wk1.heap.size:=⟨_,rfl⟩;obtain ⟨wf,hwf⟩ : ∃ W,W = wk1.alloc (.cells Tryz.zeroCells72 72):=⟨_,rfl⟩;rw [← hwf,← hdb];(have hbb : Below W1.heap.size W1 wf:=by rw [hwf];exact (HBk.out).alloc HBk.out.size _);have HDB : Hid (Has wf db (.cells Tryz.zeroCells72 72)):=Hd (by rw [hwf,hdb];exact Has.new wk1 _);have HDL : Hid (W1.heap.size ≤ db):=Hd (by rw [hdb];exact HBk.out.size)
    have HRK2 : Hid (wf.ownsRow W1.heap.size 3 1 (.slice (some ⟨kb,0,none⟩) n1 n1) n1 (ints (ones n1 0)) ∧ kb < wf.heap.size ∧ kb ≠ db):=Hd (by
     have hz : Below wk1.heap.size wk1 wf:=by rw [hwf];exact (Below.refl _ _).alloc (Nat.le_refl _) _
     exact ⟨owns_below HRK.out.1 hz,Nat.lt_of_lt_of_le HRK.out.2 hz.size,fun e => by have:=HRK.out.2;rw [hdb] at e;omega⟩)
    clear HRK;have HRK:=HRK2;clear HRK2;have HBf:=Hd hbb;have HS' : Hid ((fun W => W.cell? ⟨b2,0,none⟩ = some (.int .i64 t.object) ∧ W.cell? ⟨b2,1,none⟩ = some (.int .i64 t.volume) ∧ W.cell? ⟨b2,2,none⟩ = some (.int .i64 t.drift)) wf):=Hd ⟨(hbb.cell (p:=⟨b2,0,none⟩) hl2).trans y0,(hbb.cell (p:=⟨b2,1,none⟩) hl2).trans y1,(hbb.cell (p:=⟨b2,2,none⟩) hl2).trans y2⟩;clear hwf hdb hbb;refine hK.out _ _ (fun _ => HS'.out) ?_;clear hK K HS;have HS:=HS';clear HS';dsimp only [List.set];refine phase.gN 6 25 (.agg #[.int .i64 t.object,.int .i64 t.volume,.int .i64 t.drift,.pointer (some ⟨db,0,none⟩),.pointer none,.slice none 0 0,.slice none 0 0,.slice (some ⟨kb,0,none⟩) n1 n1,.slice none 0 0,.int .i64 0,.slice none 0 0,.slice none 0 0,.int .i64 0]) [] HS.out ?_;dsimp only [List.set];refine phase.g1 7 fun K hK => ?_;go_simp;obtain ⟨obx,hobx⟩ : ∃ obx,obx = wf.heap.size:=⟨_,rfl⟩;obtain ⟨wo,hwo⟩ : ∃ wo,wo = wf.alloc (.cells #[.int .i64 t.object,.int .i64 t.volume,.int .i64 t.drift,.pointer (some ⟨db,0,none⟩),.pointer none,.slice none 0 0,.slice none 0 0,.slice (some ⟨kb,0,none⟩) n1 n1,.slice none 0 0,.int .i64 0,.slice none 0 0,.slice none 0 0,.int .i64 0] 68):=⟨_,rfl⟩;rw [← hwo,← hobx];(have hbo : Below wf.heap.size wf wo:=by rw [hwo];exact (Below.refl _ _).alloc (Nat.le_refl _) _);have hbb:=HBf.out.trans (hbo.mono HBf.out.size);have HS' : Hid ((fun W => W.cell? ⟨b2,0,none⟩ = some (.int .i64 t.object) ∧ W.cell? ⟨b2,1,none⟩ = some (.int .i64 t.volume) ∧ W.cell? ⟨b2,2,none⟩ = some (.int .i64 t.drift)) wo):=Hd ⟨(hbb.cell (p:=⟨b2,0,none⟩) hl2).trans y0,(hbb.cell (p:=⟨b2,1,none⟩) hl2).trans y1,(hbb.cell (p:=⟨b2,2,none⟩) hl2).trans y2⟩;(have hob : Has wo obx (.cells #[.int .i64 t.object,.int .i64 t.volume,.int .i64 t.drift,.pointer (some ⟨db,0,none⟩),.pointer none,.slice none 0 0,.slice none 0 0,.slice (some ⟨kb,0,none⟩) n1 n1,.slice none 0 0,.int .i64 0,.slice none 0 0,.slice none 0 0,.int .i64 0] 68):=by rw [hwo,hobx];exact Has.new wf _);have hw1 : w.heap.size ≤ W1.heap.size:=HB1.out.size;have hstart:=new_start (P:=P) (n1:=n1) t HK.out HH.out (HB1.out.trans (hbb.mono hw1)) (by have:=HM.out;omega) hm5 (HDB.out.below hbo HDB.out.lt) (by have:=owns_base (owns_below HRK.out.1 hbo) (Nat.zero_le _);have e : ones n1 0 = List.replicate n1 0:=(by simp [ones]);rw [e] at this;exact this) hob (Nat.lt_of_lt_of_le HRK.out.2.1 hbo.size) (by have:=HDB.out.lt;omega) (by have:=HRK.out.2.1;omega) (Ne.symm HRK.out.2.2) (by have:=HBf.out.size;omega) (Nat.le_trans hw1 HDL.out) (Nat.le_trans hw1 HKL.out);have HST:=Hd hstart;have HTB : Hid (Has wo b2 (.cells #[.int .i64 t.object,.int .i64 t.volume,.int .i64 t.drift] 31) ∧ b2 ≠ obx ∧ b2 ≠ db ∧ b2 ≠ kb):=Hd ⟨HT1.out.below hbb hl2,by have:=HBf.out.size;omega,by have:=HDL.out;omega,by have:=HKL.out;omega⟩;clear hwo hobx hbo hbb hob hw1 hstart;refine hK.out _ _ (fun _ => HS'.out) ?_;clear hK K HS;have HS:=HS';clear HS';dsimp only [List.set];refine phase.gN 8 6 (.pointer (some ⟨obx,0,none⟩)) [] HS.out ?_;dsimp only [List.set];refine phase.gD ?_;(go_wp2_with fail);go_meet
    case rel =>
     obtain ⟨own1,vx,h1,h2⟩:=HST.out;exact ⟨own1,obx,db,vx,rfl,h1,HTB.out.1,h2 b2 HTB.out.2.1 HTB.out.2.2.1 HTB.out.2.2.2⟩
  case rest =>
   obtain ⟨own1,ob,db,v,rfl,h4,hb2,hob2⟩:=hcut;have HW4:=Hd h4;have HTB:=Hd hb2;have HOB:=Hd hob2;have d0 : wc.cell? ⟨b2,0,none⟩ = some (.int .i64 t.object):=hb2.cell 0;have d1 : wc.cell? ⟨b2,1,none⟩ = some (.int .i64 t.volume):=hb2.cell 1;have d2 : wc.cell? ⟨b2,2,none⟩ = some (.int .i64 t.drift):=hb2.cell 2;have d3 : wc.cell? ⟨ob,3,none⟩ = some (.pointer (some ⟨db,0,none⟩)):=h4.o_.cell 3;have hsv : (bare0 t n1 ⟨[],false,0⟩ none).server = none:=rfl
   have hsp : v.sp = .pointer none:=by
    rcases h4.sp_ with ⟨-,e⟩ | ⟨s,sb,e,-⟩
    ·exact e
    ·cases e
   have hdk:=h4.srv;rw [hsv] at hdk;obtain ⟨-,ps,hdk⟩:=hdk;have hobl : ob < wc.heap.size:=h4.o_.lt;have hbl : b2 < wc.heap.size:=hb2.lt
   have HNO : Hid (¬ SrvSet own1 ob ∧ ¬ SrvSet own1 b2):=Hd (by
    have h1:=h4.oob;unfold SrvSet
    omega)
   have HNW:=Hd (New_s wc.drew t 0 (hdk.below (Below.refl _ _).drew))
   have HXR : Hid (x = match Server.new t ⟨[],false,0⟩ 0 with
    | (_,d,some s) => match newClients t 0 m with
     | some cs => (0,some { bare0 t n1 d (some s) with clients:=cs,lives:=List.replicate m 0,opens:=List.replicate m (-1) })
     | none => (2,none)
    | (e,_,none) => (e,none)):=Hd (by
    rw [HX.out];unfold Realm.new;rw [if_neg (by have:=HM.out;simp [inR];omega)];have e : (m : Int).toNat = m:=Int.toNat_natCast m;rw [e,HM.out.2.2]
    rfl)
   obtain ⟨y,hy⟩ : ∃ y,y = Server.new t ⟨[],false,0⟩ 0:=⟨_,rfl⟩;rw [← hy] at HXR;have hy' : Server.new t (bare0 t n1 ⟨[],false,0⟩ none).disk 0 = y:=hy.symm;rw [hy'] at HNW;have HY:=Hd hy;have HSP:=Hd hsp;have HCD:=Hd (new_code t ⟨[],false,0⟩ 0);rw [← hy] at HCD;clear h4 hb2 hob2 hsv hsp hdk hy hy' HX;obtain ⟨c0,d,o⟩:=y
   cases o with
   | none =>
    have hn0 : c0 ≠ 0:=HCD.out.1 rfl;have HEN:=Hd (errV_of hn0);have HXE : Hid (x = (c0,none)):=Hd HXR.out;clear hn0 HXR;(go_upto_region 4 with fail);refine last.headH (fun W => W.cell? ⟨b2,0,none⟩ = some (.int .i64 t.object) ∧ W.cell? ⟨b2,1,none⟩ = some (.int .i64 t.volume) ∧ W.cell? ⟨b2,2,none⟩ = some (.int .i64 t.drift) ∧ W.cell? ⟨ob,3,none⟩ = some (.pointer (some ⟨db,0,none⟩))) 1000 11 ⟨d0,d1,d2,d3⟩ fun HS => ?_;refine last.many [(0,28,_),(1,29,_),(2,30,_),(3,31,_),(4,32,_)] HS.out ?_ (hy:=fun W' hW' => by have e0:=hW'.1;have e1:=hW'.2.1;have e2:=hW'.2.2.1;have f0:=hW'.2.2.2;repeat (first | exact .z | refine .s ?_ | refine .k ?_));refine last.one 5 fun K hK => ?_;go_simp;refine HNW.out.mono ?_;rintro e w5 ⟨ownN,hxN,htN,psN,rfl,hdN⟩;have HXT:=Hd hxN;have HTN:=Hd htN;rw [HEN.out];have HDW:=Hd hdN;clear hdN;have ht3 : Turn (SrvSet own1) wc w5:=(Turn.refl _ wc).drew.trans htN fun _ _ e => e;have HS5 : Hid ((fun W => W.cell? ⟨b2,0,none⟩ = some (.int .i64 t.object) ∧ W.cell? ⟨b2,1,none⟩ = some (.int .i64 t.volume) ∧ W.cell? ⟨b2,2,none⟩ = some (.int .i64 t.drift) ∧ W.cell? ⟨ob,3,none⟩ = some (.pointer (some ⟨db,0,none⟩))) w5):=Hd ⟨(ht3.cell (p:=⟨b2,0,none⟩) hbl HNO.out.2).trans d0,(ht3.cell (p:=⟨b2,1,none⟩) hbl HNO.out.2).trans d1,(ht3.cell (p:=⟨b2,2,none⟩) hbl HNO.out.2).trans d2,(ht3.cell (p:=⟨ob,3,none⟩) hobl HNO.out.1).trans d3⟩;clear hxN htN ht3;refine hK.out _ _ (fun _ => HS5.out) ?_;clear hK K HS;have HS:=HS5;refine last.many [(6,27,_),(7,34,_),(8,35,_),(9,7,_),(10,8,_)] HS.out ?_;refine last.done ?_;clear d0 d1 d2 d3 HS;(go_wp2_with fail);go_ret2;rw [HXE.out];exact ⟨by rw [HEN.out];rfl,HDW.out.bel⟩
   | some s =>
    have hrt : model.rightTerms t = true:=new_right (d:=⟨[],false,0⟩) (now:=0) (s:=s) (by rw [← HY.out]);obtain ⟨cs,hcs⟩:=newClients_some hrt m 0 (by have:=HM.out;omega);obtain ⟨hcl,hcg⟩:=lasts.newClients_get m hcs
    have HXE : Hid (x = (0,some { bare0 t n1 d (some s) with clients:=cs,lives:=List.replicate m 0,opens:=List.replicate m (-1) })):=Hd (by
     have h1:=HXR.out;dsimp only at h1;rw [hcs] at h1
     exact h1)
    have HCL:=Hd hcl;have HCG:=Hd hcg;clear hrt hcs hcl hcg HXR HCD HY;(go_upto_region 4 with fail);refine last.headH (fun W => W.cell? ⟨b2,0,none⟩ = some (.int .i64 t.object) ∧ W.cell? ⟨b2,1,none⟩ = some (.int .i64 t.volume) ∧ W.cell? ⟨b2,2,none⟩ = some (.int .i64 t.drift) ∧ W.cell? ⟨ob,3,none⟩ = some (.pointer (some ⟨db,0,none⟩))) 1000 11 ⟨d0,d1,d2,d3⟩ fun HS => ?_;refine last.many [(0,28,_),(1,29,_),(2,30,_),(3,31,_),(4,32,_)] HS.out ?_ (hy:=fun W' hW' => by have e0:=hW'.1;have e1:=hW'.2.1;have e2:=hW'.2.2.1;have f0:=hW'.2.2.2;repeat (first | exact .z | refine .s ?_ | refine .k ?_));refine last.one 5 fun K hK => ?_;go_simp;refine HNW.out.mono ?_;rintro e w5 ⟨ownN,hxN,htN,sbN,wbN,dmN,tbN,tmN,vN,psN,qsN,rfl,hsN⟩;have HXT:=Hd hxN;have HTN:=Hd htN;have HSW:=Hd hsN;clear hsN;have ht3 : Turn (SrvSet own1) wc w5:=(Turn.refl _ wc).drew.trans htN fun _ _ e => e;have HS5 : Hid ((fun W => W.cell? ⟨b2,0,none⟩ = some (.int .i64 t.object) ∧ W.cell? ⟨b2,1,none⟩ = some (.int .i64 t.volume) ∧ W.cell? ⟨b2,2,none⟩ = some (.int .i64 t.drift) ∧ W.cell? ⟨ob,3,none⟩ = some (.pointer (some ⟨db,0,none⟩))) w5):=Hd ⟨(ht3.cell (p:=⟨b2,0,none⟩) hbl HNO.out.2).trans d0,(ht3.cell (p:=⟨b2,1,none⟩) hbl HNO.out.2).trans d1,(ht3.cell (p:=⟨b2,2,none⟩) hbl HNO.out.2).trans d2,(ht3.cell (p:=⟨ob,3,none⟩) hobl HNO.out.1).trans d3⟩;clear hxN htN ht3;refine hK.out _ _ (fun _ => HS5.out) ?_;clear hK K HS;have HS:=HS5;refine last.many [(6,27,_),(7,34,_),(8,35,_),(9,7,_),(10,8,_)] HS.out ?_;refine last.done ?_;clear d0 d1 d2 d3 HS;obtain ⟨own2,k1,k2,k3,k4⟩:=new_some (HW4.out.below (Below.refl _ _).drew HW4.out.fr) HSP.out HXT.out HTN.out HSW.out;(have q4 : w5.cell? ⟨ob,4,none⟩ = some (.pointer none):=by rw [← HSP.out];exact k1.o_.cell 4);have f4:=k1.o_.frozen 4;have h6:=k1.setUp k4;obtain ⟨v6,hv6⟩ : ∃ v6,v6 = ({ v with sp:=.pointer (some ⟨sbN,0,none⟩) } : WV):=⟨_,rfl⟩;obtain ⟨w6,hw6⟩ : ∃ w6,w6 = w5.setCell ⟨ob,4,none⟩ (.pointer (some ⟨sbN,0,none⟩)):=⟨_,rfl⟩;rw [← hv6,← hw6] at h6;(have hnb : b2 ≠ ob:=fun e => by have:=HW4.out.oob;rw [← e,HOB.out] at this;cases this);have HB6 : Hid (Has w6 b2 (.cells #[.int .i64 t.object,.int .i64 t.volume,.int .i64 t.drift] 31) ∧ own2 b2 = 0):=Hd ⟨by rw [hw6];exact (k3.has HTB.out (fun e => e HOB.out)).far hnb _,(k2 b2 hbl).trans HOB.out⟩;obtain ⟨r0,hr0⟩ : ∃ r0 : Realm,r0 = bare0 t n1 d (some s):=⟨_,rfl⟩;have H6 : Hid (WorW P own2 w w6 ob db v6 { r0 with clients:=cs.take 0,lives:=List.replicate 0 0,opens:=List.replicate 0 (-1) }):=Hd (by rw [hr0];exact h6);have HR0:=Hd hr0;have HW6:=Hd hw6;rw [← hr0] at HXE;clear k1 k2 k3 k4 h6 hv6 hw6 hr0 hobl hbl;(go_wp2_with fail);rw [← HW6.out];clear HW6;(go_loopw [44] (fun q44 wx => ∃ (k : Nat) (ownk : Nat → Nat) (vk : WV),k ≤ m ∧ q44 = .int .i64 k ∧ WorW P ownk w wx ob db vk { r0 with clients:=cs.take k,lives:=List.replicate k 0,opens:=List.replicate k (-1) } ∧ Has wx b2 (.cells #[.int .i64 t.object,.int .i64 t.volume,.int .i64 t.drift] 31) ∧ ownk b2 = 0) (fun q44 _ => m - (intOf q44).toNat));case atStart => exact ⟨0,own2,v6,by omega,rfl,H6.out,HB6.out.1,HB6.out.2⟩
    case round =>
     clear H6 HB6;obtain ⟨k,ownk,vk,hk,rfl,h7,hb7,ho7⟩:=hrel;have H7:=Hd h7;have HB7:=Hd hb7;have HO7:=Hd ho7;obtain ⟨wb,hwb⟩ : ∃ x,x = wr:=⟨_,rfl⟩;subst hwb;clear h7 ho7;by_cases hkm : k < m
     ·have hkc : cs[k]? = some (cs[k]'(by rw [HCL.out];exact hkm)):=List.getElem?_eq_getElem _;generalize cs[k]'(by rw [HCL.out];exact hkm) = c at hkc;have hcn:=HCG.out k c hkc;rw [Nat.zero_add] at hcn;obtain ⟨rk,hrk⟩ : ∃ rk : Realm,rk = { r0 with clients:=cs.take k,lives:=List.replicate k 0,opens:=List.replicate k (-1) }:=⟨_,rfl⟩;rw [← hrk] at H7;(have hkl : rk.clients.length = k:=by rw [hrk];show (cs.take k).length = k;rw [List.length_take,HCL.out];omega);have HNC:=Hd (New_c (own:=ownk) (T:=20 + 4 * k) (k : Int) 0 0 t wb fun g hg => H7.out.fr g hg);rw [hcn] at HNC;have d0 : wb.cell? ⟨b2,0,none⟩ = some (.int .i64 t.object):=hb7.cell 0;have d1 : wb.cell? ⟨b2,1,none⟩ = some (.int .i64 t.volume):=hb7.cell 1;have d2 : wb.cell? ⟨b2,2,none⟩ = some (.int .i64 t.drift):=hb7.cell 2;have HRK:=Hd hrk;have HKL:=Hd hkl;have HKC:=Hd hkc;clear hkc hcn hrk hkl hb7;(go_upto_region 14 with (go_at_call 28;refine HNC.out.mono ?_;rintro e w8 ⟨ownN,cbN,fmN,smN,rfl,hxN,hfN,hcN,hbN,-⟩;have HXN:=Hd hxN;have HFN:=Hd hfN;have HCN:=Hd hcN;have HBN:=Hd hbN;clear hxN hfN hcN hbN));obtain ⟨own3,j1,j2,j3⟩:=cli_new H7.out HXN.out HFN.out HCN.out HBN.out;obtain ⟨wA,hwA⟩ : ∃ W,W = w8.drew:=⟨_,rfl⟩;have HA : Hid (WorW P own3 w wA ob db vk rk):=Hd (by rw [hwA];exact j1.below (Below.refl _ _).drew j1.fr);have HCA : Hid (CliW own3 (20 + 4 * rk.clients.length) wA cbN fmN smN (.slice none 0 0) c):=Hd (by rw [hwA,HKL.out];exact j3.drew);have HBA : Hid (Has wA b2 (.cells #[.int .i64 t.object,.int .i64 t.volume,.int .i64 t.drift] 31) ∧ own3 b2 = 0):=Hd ⟨by rw [hwA];exact (HB7.out.below HBN.out HB7.out.lt).drew,(j2 b2 HB7.out.lt).trans HO7.out⟩
      have HNX : Hid (({ rk with clients:=rk.clients ++ [c],lives:=rk.lives ++ [0],opens:=rk.opens ++ [-1] } : Realm) = { r0 with clients:=cs.take (k + 1),lives:=List.replicate (k + 1) 0,opens:=List.replicate (k + 1) (-1) }):=Hd (by
       have e1 : cs.take (k + 1) = cs.take k ++ [c]:=by rw [List.take_add_one,HKC.out];rfl
       rw [HRK.out,e1,List.replicate_succ',List.replicate_succ'])
      have hr4 : rk.clients.length + 1 ≤ 4:=by rw [HKL.out];have:=HM.out;omega
      have hr5 : rk.clients.length + 2 ≤ rk.clocks.length:=by
       rw [HKL.out,HRK.out,HR0.out];show k + 2 ≤ (List.replicate n1 (0 : Int)).length;rw [List.length_replicate];have:=HM.out;omega
      have HFIN : Hid (∀ (f : Nat → Nat) (y : World) (c5 l5 o5 : Value),Grow own3 wA f y c5 l5 o5 (rk.clients.length + 1) (rk.lives.length + 1) (rk.opens.length + 1) ((vk.pts.map fun b => Value.pointer (some ⟨b,0,none⟩)) ++ [.pointer (some ⟨cbN,0,none⟩)]) (ints rk.lives ++ [.int .i64 0]) (ints rk.opens ++ [.int .i64 (-1)]) →
       WorW P f w (((y.setCell ⟨ob,5,none⟩ c5).setCell ⟨ob,6,none⟩ l5).setCell ⟨ob,11,none⟩ o5) ob db { vk with cl:=c5,li:=l5,op:=o5,pts:=vk.pts ++ [cbN] } { r0 with clients:=cs.take (k + 1),lives:=List.replicate (k + 1) 0,opens:=List.replicate (k + 1) (-1) } ∧ Has (((y.setCell ⟨ob,5,none⟩ c5).setCell ⟨ob,6,none⟩ l5).setCell ⟨ob,11,none⟩ o5) b2 (.cells #[.int .i64 t.object,.int .i64 t.volume,.int .i64 t.drift] 31) ∧ f b2 = 0):=Hd fun f y c5 l5 o5 hg => by
       (have hne : b2 ≠ ob:=fun e => by have:=HA.out.oob;rw [← e,HBA.out.2] at this;cases this);refine ⟨?_,(((hg.turn.has HBA.out.1 (by rw [HBA.out.2];decide)).far hne _).far hne _).far hne _,(hg.ext b2 HBA.out.1.lt).trans HBA.out.2⟩;rw [← HNX.out];refine HA.out.appThree ?_ HCA.out hr4 hr5;(have e1 : (vk.pts ++ [cbN]).map (fun b => Value.pointer (some ⟨b,0,none⟩)) = (vk.pts.map fun b => Value.pointer (some ⟨b,0,none⟩)) ++ [.pointer (some ⟨cbN,0,none⟩)]:=by simp);(have e2 : ints (rk.lives ++ [0]) = ints rk.lives ++ [.int .i64 0]:=by simp [ints]);(have e3 : ints (rk.opens ++ [-1]) = ints rk.opens ++ [.int .i64 (-1)]:=by simp [ints]);rw [e1,e2,e3];exact hg
      have HGR : Hid (Grow own3 wA own3 wA vk.cl vk.li vk.op rk.clients.length rk.lives.length rk.opens.length (vk.pts.map fun b => Value.pointer (some ⟨b,0,none⟩)) (ints rk.lives) (ints rk.opens)):=Hd ⟨Turn.refl _ _,Ext.refl _ _,HA.out.fr,HA.out.cl,HA.out.li,HA.out.op⟩
      have a5 : wA.cell? ⟨ob,5,none⟩ = some vk.cl:=HA.out.o_.cell 5
      have a6 : wA.cell? ⟨ob,6,none⟩ = some vk.li:=HA.out.o_.cell 6
      have a11 : wA.cell? ⟨ob,11,none⟩ = some vk.op:=HA.out.o_.cell 11
      have hobA : ob < wA.heap.size:=HA.out.o_.lt
      have hnob : ¬ (own3 ob = 61 ∨ own3 ob = 62 ∨ own3 ob = 65):=by rw [HA.out.oob];decide
      have HLN : Hid (rk.clients.length ≤ 1000000 ∧ rk.lives.length ≤ 1000000 ∧ rk.opens.length ≤ 1000000):=Hd ⟨by omega,by rw [HA.out.nl];omega,by rw [HA.out.no];omega⟩
      clear j1 j2 j3 hr4 hr5 d0 d1 d2
      refine phase.gH (fun W => W.cell? ⟨ob,5,none⟩ = some vk.cl ∧ W.cell? ⟨ob,6,none⟩ = some vk.li ∧ W.cell? ⟨ob,11,none⟩ = some vk.op) (fun i => decide (3 ≤ i) && decide (i < 22)) 31 ?_
      have HS : Hid ((fun W => W.cell? ⟨ob,5,none⟩ = some vk.cl ∧ W.cell? ⟨ob,6,none⟩ = some vk.li ∧ W.cell? ⟨ob,11,none⟩ = some vk.op) wA):=Hd ⟨a5,a6,a11⟩
      rw [← hwA]
      clear hwA
      refine phase.gM 0 56 (.pointer (some ⟨ob,0,none⟩)) ?_
      refine phase.gM 1 57 (.pointer (some ⟨ob,0,none⟩)) ?_
      refine phase.gM 2 58 (.pointer (some ⟨ob,0,none⟩)) ?_
      refine phase.gN 3 59 (.pointer (some ⟨ob,0,none⟩)) [] HS.out ?_
      dsimp only [List.set]
      refine phase.gN 4 60 (.pointer (some ⟨ob,0,none⟩)) [] HS.out ?_
      dsimp only [List.set]
      refine phase.gN 5 61 (.pointer (some ⟨ob,5,none⟩)) [] HS.out ?_
      dsimp only [List.set]
      refine phase.gN 6 62 (vk.cl) [] HS.out ?_ (hy:=(fun W' hW' => by have e1:=hW'.1;go_simp))
      dsimp only [List.set]
      refine phase.gN 7 63 (.pointer (some ⟨cbN,0,none⟩)) [] HS.out ?_
      dsimp only [List.set]
      refine phase.gN 10 66 (.pointer (some ⟨ob,0,none⟩)) [11,12,13] HS.out ?_
      dsimp only [List.set]
      refine phase.gN 11 67 (.pointer (some ⟨ob,0,none⟩)) [12,13] HS.out ?_
      dsimp only [List.set]
      refine phase.gN 12 68 (.pointer (some ⟨ob,6,none⟩)) [13] HS.out ?_
      dsimp only [List.set]
      refine phase.gN 13 69 (vk.li) [] HS.out ?_ (hy:=(fun W' hW' => by have e1:=hW'.2.1;go_simp))
      dsimp only [List.set]
      refine phase.gN 16 72 (.pointer (some ⟨ob,0,none⟩)) [17,18,19] HS.out ?_
      dsimp only [List.set]
      refine phase.gN 17 73 (.pointer (some ⟨ob,0,none⟩)) [18,19] HS.out ?_
      dsimp only [List.set]
      refine phase.gN 18 74 (.pointer (some ⟨ob,11,none⟩)) [19] HS.out ?_
      dsimp only [List.set]
      refine phase.gN 19 75 (vk.op) [] HS.out ?_ (hy:=(fun W' hW' => by have e1:=hW'.2.2;go_simp))
      dsimp only [List.set]
      have HSL : Hid (∀ {f : Nat → Nat} {W : World} {c l o : Value} {kc kl ko : Nat} {xc xl xo : List Value},Grow own3 wA f W c l o kc kl ko xc xl xo → (fun W => W.cell? ⟨ob,5,none⟩ = some vk.cl ∧ W.cell? ⟨ob,6,none⟩ = some vk.li ∧ W.cell? ⟨ob,11,none⟩ = some vk.op) W):=Hd fun h => ⟨(h.turn.cell (p:=⟨ob,5,none⟩) hobA hnob).trans a5,(h.turn.cell (p:=⟨ob,6,none⟩) hobA hnob).trans a6,(h.turn.cell (p:=⟨ob,11,none⟩) hobA hnob).trans a11⟩
      obtain ⟨ow,y,hy,HGR,HS⟩ : ∃ f W,W = wA ∧ Hid (Grow own3 wA f W vk.cl vk.li vk.op rk.clients.length rk.lives.length rk.opens.length (vk.pts.map fun b => Value.pointer (some ⟨b,0,none⟩)) (ints rk.lives) (ints rk.opens)) ∧ Hid ((fun W => W.cell? ⟨ob,5,none⟩ = some vk.cl ∧ W.cell? ⟨ob,6,none⟩ = some vk.li ∧ W.cell? ⟨ob,11,none⟩ = some vk.op) W):=⟨own3,wA,rfl,HGR,HS⟩
      rw [← hy]
      clear hy a5 a6 a11
      repeat' (first | (refine phase.eachA [8,9,14,15,20,21] (.cons ?_ (.cons ?_ (.cons ?_ (.cons ?_ (.cons ?_ (.cons ?_ .nil)))))) <;> first
       | exact .inl (by decide +kernel)
       | (refine .inr (?_ : phase.Comes1 _ _ _ _ _ _ _ _ _ _ 8)
          refine ⟨_,by simp only [List.getElem?_toArray,List.getElem?_cons_succ,List.getElem?_cons_zero];exact rfl,fun K hK => ?_⟩;refine (if_pos (by rfl)).mpr ?_;go_simp;obtain ⟨y,G8,hz,hG,hgr,hp,hkeep⟩:=HGR.out.build #[.pointer (some ⟨cbN,0,none⟩)] 75;rw [hz,hG];have HGR:=Hd hgr
          try have HP14:=Hd (hkeep _ _ _ HP14.out)
          try have HP20:=Hd (hkeep _ _ _ HP20.out)
          have HP8:=Hd hp;have HS:=Hd (HSL.out HGR.out);clear hz hG hgr hp hkeep;refine hK.out _ _ (fun _ => HS.out) ?_;clear hK K
          dsimp only [List.set])
       | (refine .inr (?_ : phase.Comes1 _ _ _ _ _ _ _ _ _ _ 14)
          refine ⟨_,by simp only [List.getElem?_toArray,List.getElem?_cons_succ,List.getElem?_cons_zero];exact rfl,fun K hK => ?_⟩;refine (if_pos (by rfl)).mpr ?_;go_simp;obtain ⟨y,G14,hz,hG,hgr,hp,hkeep⟩:=HGR.out.build #[.int .i64 0] 3;rw [hz,hG];have HGR:=Hd hgr
          try have HP8:=Hd (hkeep _ _ _ HP8.out)
          try have HP20:=Hd (hkeep _ _ _ HP20.out)
          have HP14:=Hd hp;have HS:=Hd (HSL.out HGR.out);clear hz hG hgr hp hkeep;refine hK.out _ _ (fun _ => HS.out) ?_;clear hK K
          dsimp only [List.set])
       | (refine .inr (?_ : phase.Comes1 _ _ _ _ _ _ _ _ _ _ 20)
          refine ⟨_,by simp only [List.getElem?_toArray,List.getElem?_cons_succ,List.getElem?_cons_zero];exact rfl,fun K hK => ?_⟩;refine (if_pos (by rfl)).mpr ?_;go_simp;obtain ⟨y,G20,hz,hG,hgr,hp,hkeep⟩:=HGR.out.build #[.int .i64 (-1)] 3;rw [hz,hG];have HGR:=Hd hgr
          try have HP8:=Hd (hkeep _ _ _ HP8.out)
          try have HP14:=Hd (hkeep _ _ _ HP14.out)
          have HP20:=Hd hp;have HS:=Hd (HSL.out HGR.out);clear hz hG hgr hp hkeep;refine hK.out _ _ (fun _ => HS.out) ?_;clear hK K
          dsimp only [List.set])
       | (refine .inr (?_ : phase.Comes1 _ _ _ _ _ _ _ _ _ _ 9)
          refine ⟨_,by simp only [List.getElem?_toArray,List.getElem?_cons_succ,List.getElem?_cons_zero];exact rfl,fun K hK => ?_⟩;refine (if_pos (by rfl)).mpr ?_;refine wp_appRow (own:=ow) (.tmp 62) (.tmp 64) 62 75 61 1 8 (.pointer none) rfl Tryz.underlying62 (by kernel_rfl) rfl (by decide) vk.cl rk.clients.length G8 (vk.pts.map fun b => Value.pointer (some ⟨b,0,none⟩)) [.pointer (some ⟨cbN,0,none⟩)] rfl HGR.out.rc rfl HP8.out.has rfl (by simp [Value.oneCell']) HLN.out.1 (by decide) y.heap.size rfl fun g9 cap9 y hr hg h3 h4 => ?_
          try have HP14:=Hd (HP14.out.app (by decide) HGR.out.rc.2 hg h3)
          try have HP20:=Hd (HP20.out.app (by decide) HGR.out.rc.2 hg h3)
          have HGR:=Hd (HGR.out.appC hr hg h3 h4);obtain ⟨ow,ho⟩ : ∃ f,f = ownAt ow g9 61:=⟨_,rfl⟩;rw [← ho] at HGR
          try rw [← ho] at HP14
          try rw [← ho] at HP20
          have HS:=Hd (HSL.out HGR.out);clear ho hr hg h3 h4 HP8;refine hK.out _ _ (fun _ => HS.out) ?_;clear hK K
          dsimp only [List.set])
       | (refine .inr (?_ : phase.Comes1 _ _ _ _ _ _ _ _ _ _ 15)
          refine ⟨_,by simp only [List.getElem?_toArray,List.getElem?_cons_succ,List.getElem?_cons_zero];exact rfl,fun K hK => ?_⟩;refine (if_pos (by rfl)).mpr ?_;refine wp_appRow (own:=ow) (.tmp 69) (.tmp 70) 63 3 62 1 8 (.int .i64 0) rfl Tryz.underlying63 (by kernel_rfl) rfl (by decide) vk.li rk.lives.length G14 (ints rk.lives) [.int .i64 0] rfl HGR.out.rl rfl HP14.out.has rfl (by simp [Value.oneCell']) HLN.out.2.1 (by decide) y.heap.size rfl fun g15 cap15 y hr hg h3 h4 => ?_
          try have HP8:=Hd (HP8.out.app (by decide) HGR.out.rl.2 hg h3)
          try have HP20:=Hd (HP20.out.app (by decide) HGR.out.rl.2 hg h3)
          have HGR:=Hd (HGR.out.appL hr hg h3 h4);obtain ⟨ow,ho⟩ : ∃ f,f = ownAt ow g15 62:=⟨_,rfl⟩;rw [← ho] at HGR
          try rw [← ho] at HP8
          try rw [← ho] at HP20
          have HS:=Hd (HSL.out HGR.out);clear ho hr hg h3 h4 HP14;refine hK.out _ _ (fun _ => HS.out) ?_;clear hK K
          dsimp only [List.set])
       | (refine .inr (?_ : phase.Comes1 _ _ _ _ _ _ _ _ _ _ 21)
          refine ⟨_,by simp only [List.getElem?_toArray,List.getElem?_cons_succ,List.getElem?_cons_zero];exact rfl,fun K hK => ?_⟩;refine (if_pos (by rfl)).mpr ?_;refine wp_appRow (own:=ow) (.tmp 75) (.tmp 76) 63 3 65 1 8 (.int .i64 0) rfl Tryz.underlying63 (by kernel_rfl) rfl (by decide) vk.op rk.opens.length G20 (ints rk.opens) [.int .i64 (-1)] rfl HGR.out.ro rfl HP20.out.has rfl (by simp [Value.oneCell']) HLN.out.2.2 (by decide) y.heap.size rfl fun g21 cap21 y hr hg h3 h4 => ?_
          try have HP8:=Hd (HP8.out.app (by decide) HGR.out.ro.2 hg h3)
          try have HP14:=Hd (HP14.out.app (by decide) HGR.out.ro.2 hg h3)
          have HGR:=Hd (HGR.out.appO hr hg h3 h4);obtain ⟨ow,ho⟩ : ∃ f,f = ownAt ow g21 65:=⟨_,rfl⟩;rw [← ho] at HGR
          try rw [← ho] at HP8
          try rw [← ho] at HP14
          have HS:=Hd (HSL.out HGR.out);clear ho hr hg h3 h4 HP20;have f5:=(HGR.out.turn.frozen (p:=⟨ob,5,none⟩) hobA hnob).trans (HA.out.o_.frozen 5);have f6:=(HGR.out.turn.frozen (p:=⟨ob,6,none⟩) hobA hnob).trans (HA.out.o_.frozen 6);have f11:=(HGR.out.turn.frozen (p:=⟨ob,11,none⟩) hobA hnob).trans (HA.out.o_.frozen 11);have s5:=HS.out.1;have s6:=HS.out.2.1;have s11:=HS.out.2.2;refine hK.out _ _ (fun _ => HS.out) ?_;clear hK K
          dsimp only [List.set])) | fail)
      all_goals
       clear HS HSL
       repeat' (first | (refine phase.eachA [22,23,24,25,26,27,28,29,30] (.cons ?_ (.cons ?_ (.cons ?_ (.cons ?_ (.cons ?_ (.cons ?_ (.cons ?_ (.cons ?_ (.cons ?_ .nil))))))))) <;> first
        | exact .inl (by decide +kernel)
        | (refine .inr ⟨_,by simp only [List.getElem?_toArray,List.getElem?_cons_succ,List.getElem?_cons_zero];exact rfl,fun K hK => ?_⟩
           refine (if_pos (by rfl)).mpr ?_;go_simp;refine hK.out _ _ (fun h => absurd h (by decide)) ?_;clear hK K
           dsimp only [List.set])) | fail)
       refine phase.gD ?_;have hfin:=HFIN.out _ _ _ _ _ HGR.out;have hm4:=HM.out;(go_wp2_with fail);go_roundw;(case rel => exact ⟨k + 1,_,_,by omega,by go_num,hfin.1,hfin.2.1,hfin.2.2⟩);case measure => simp [intOf];omega
     ·(obtain rfl : k = m:=by omega);have hte : cs.take k = cs:=List.take_of_length_le (by rw [HCL.out];exact Nat.le_refl _);(go_wp2_with fail);go_ret2;rw [HXE.out];refine ⟨ownk,ob,db,vk,rfl,?_⟩;have h9:=H7.out;rw [hte] at h9;exact h9
 ·have HR : Hid (x = (2,none)):=Hd (by
   rw [HX.out];unfold Realm.new;rw [if_pos]
   simp [inR];omega)
  clear hk hh hx;(go_enter Tryz.func10,Tryz.ntmps10);by_cases h1 : n < 1
  ·have d1 : decide (n < 1) = true:=decide_eq_true h1;(go_wp2_with fail);go_ret2;rw [HR.out];exact ⟨rfl,(Below.refl _ _).alloc (Nat.le_refl _) _⟩
  ·have d1 : decide (n < 1) = false:=decide_eq_false h1;have d2 : decide ((4 : Int) < n) = true:=decide_eq_true (by omega);(go_wp2_with fail);go_ret2;rw [HR.out];exact ⟨rfl,(Below.refl _ _).alloc (Nat.le_refl _) _⟩
end
end wor
namespace kp
open Go.RowKit heap own errs mapof wire srv cli wor keep wal
open model (Disk Server Client MCall MEvent Terms Gram Net Realm)
theorem new_here (t : Terms) (m : Nat) (hr : model.rightTerms t = true) (h1 : 1 ≤ m) (h2 : m ≤ 4) : ∃ r,Realm.new t m = (0,some r) ∧ r.clients.length = m:=by
 have hs : ∃ d s,Server.new t ⟨[],false,0⟩ 0 = (0,d,some s):=by
  unfold Server.new;(have h0 : model.inR 0 0 model.half = true:=by decide);rw [if_neg (by rw [hr,h0];decide)];dsimp only;split
  ·rename_i h;exact absurd h (by show ¬ (1 : Int) < wrap64 (0 + 1);decide +kernel)
  ·split
   ·exact ⟨_,_,rfl⟩
   ·rename_i h;(have e : wrap64 (((Server.blank t 0).replay []).epoch + 1) = 1:=by show wrap64 (0 + 1) = 1;decide +kernel);dsimp only at h;rw [e] at h;exact absurd (by decide +kernel) h
 obtain ⟨d,s,hs⟩:=hs;obtain ⟨cs,hcs⟩:=newClients_some hr m 0 (by omega);obtain ⟨hl,-⟩:=lasts.newClients_get m hcs;unfold Realm.new;rw [if_neg (by simp [model.inR];omega),hs];dsimp only;rw [Int.toNat_natCast,hcs];exact ⟨_,rfl,hl⟩
section
variable {P : Lib.PrintTabs} {own own1 : Nat → Nat} {w00 w0 w w' : World} {tb ob db : Nat} {v v' : WV} {r r' : Realm} {y : Tale}
theorem rebase (h : WorW P own w0 w ob db v r) (hk : Kit P w00) (hh : Handle w00) (hb : Below w00.heap.size w00 w0) : WorW P own w00 w ob db v r:=by
 have hz:=hb.size;refine ⟨h.fr,fun g hg => Nat.le_trans hz (h.low g hg),h.o_,h.oob,?_,h.cl,h.pl,h.cls,h.few,h.li,h.ck,h.ev,h.op,h.net,h.right,h.nl,h.nc,h.no⟩;have h1:=h.srv;unfold SrvPart at h1 ⊢;split at h1
 ·obtain ⟨sb,wb,dm,tb,tm,v,ps,qs,e,h2⟩:=h1;exact ⟨sb,wb,dm,tb,tm,v,ps,qs,e,hk,hh,hb.trans (h2.bel.mono hz),fun g hg => Nat.le_trans hz (h2.low g hg),h2.fr,⟨h2.wal.w_,h2.wal.row,h2.wal.ow,fun g hg => Nat.le_trans hz (h2.wal.low g hg),Nat.le_trans hz h2.wal.lw⟩,h2.dsk,h2.pls,h2.odb,h2.s_,h2.osb,h2.ok,h2.lq,h2.queue,h2.done,h2.odm,h2.table,h2.otb,h2.otm⟩
 ·obtain ⟨e,ps,h2⟩:=h1;exact ⟨e,ps,hk,hh,hb.trans (h2.bel.mono hz),fun g hg => Nat.le_trans hz (h2.low g hg),h2.fr,h2.dsk,h2.pls,h2.odb,h2.rc⟩
def tcells (ob : Nat) (y : Tale) : Array Value:=#[.pointer (some ⟨ob,0,none⟩),.int .i64 y.t.object,.int .i64 y.t.volume,.int .i64 y.t.drift,.int .i64 y.n,.int .i64 y.writes,.bool false]
structure TaleW (P : Lib.PrintTabs) (own : Nat → Nat) (w0 w : World) (tb ob db : Nat) (v : WV) (y : Tale) : Prop where
 t_ : Has w tb (.cells (tcells ob y) 33)
 free : own tb = 0
 low : w0.heap.size ≤ tb
 world : WorW P own w0 w ob db v y.r
def Told (P : Lib.PrintTabs) (own : Nat → Nat) (w0 : World) (tb ob db : Nat) (w : World) (y : Tale) (w' : World) : Prop:=
 ∃ own1 v1,TaleW P own1 w0 w' tb ob db v1 y ∧ Ext w own own1 ∧ Turn (fun g => own g ≠ 0 ∨ g = tb) w w'
theorem TaleW.step (h : TaleW P own w0 w tb ob db v y) (hs : wor.Stepped P own w0 ob db w r' w') : ∃ own1 v1,TaleW P own1 w0 w' tb ob db v1 { y with r:=r' } ∧ Ext w own own1 ∧ Turn (fun g => own g ≠ 0) w w':=by
 obtain ⟨own1,v1,h1,h2,h3⟩:=hs;exact ⟨own1,v1,⟨h3.has h.t_ (fun e => e h.free),(h2 tb h.t_.lt).trans h.free,h.low,h1⟩,h2,h3⟩
theorem TaleW.told (h : TaleW P own w0 w tb ob db v y) (hs : wor.Stepped P own w0 ob db w r' w') : Told P own w0 tb ob db w { y with r:=r' } w':=by
 obtain ⟨own1,v1,h1,h2,h3⟩:=h.step hs;exact ⟨own1,v1,h1,h2,h3.mono fun _ _ e => .inl e⟩
theorem Turn.setOne (w : World) {S : Nat → Prop} (g i : Nat) (u : Value) (hg : S g) : Turn S w (w.setCell ⟨g,i,none⟩ u):=(Turn.refl S w).setCell (.inr hg) u
theorem TaleW.set (h : TaleW P own w0 w tb ob db v y) (i : Nat) (u : Value) (y' : Tale) (hr : y'.r = y.r) (hc : (tcells ob y).setIfInBounds i u = tcells ob y') : TaleW P own w0 (w.setCell ⟨tb,i,none⟩ u) tb ob db v y':=by
 refine ⟨?_,h.free,h.low,?_⟩
 ·rw [← hc];exact h.t_.set_ i u
 ·rw [hr];exact h.world.keep (S:=fun g => g = tb) (Turn.setOne w tb i u rfl) (Ext.refl _ _) (fun g hg => h.world.fr g (by simpa using hg)) h.world.low fun g _ e => by subst e;exact ⟨h.free,h.low⟩
set_option maxHeartbeats 2000000 in
set_option maxRecDepth 1000000 in
theorem tells_w (w : World) (o v d c : Int) (hk : Kit P w) (hh : Handle w) :
 Calls Tryz.prog 5 #[.int .i64 o,.int .i64 v,.int .i64 d,.int .i64 c,.bool false] w fun e w' => ∃ own tb ob db vv r,e = .returned (.pointer (some ⟨tb,0,none⟩)) ∧ (Realm.new (mkTerms o v d) (1 + keep.pick c 4)).2 = some r ∧ r.clients.length = (1 + keep.pick c 4).toNat ∧ TaleW P own w w' tb ob db vv ⟨r,mkTerms o v d,1 + keep.pick c 4,0⟩:=by
 have hp:=pick_in c 4 (by omega) (by omega);obtain ⟨m,hm⟩ : ∃ m : Nat,1 + keep.pick c 4 = m:=⟨(1 + keep.pick c 4).toNat,by omega⟩;obtain ⟨t,ht⟩ : ∃ t,t = mkTerms o v d:=⟨_,rfl⟩;have hr:=mk_right o v d;rw [← ht] at hr;obtain ⟨r,hn,hl⟩:=new_here t m hr (by omega) (by omega);have HN:=Hd hn;have HL:=Hd hl;have HM:=Hd hm;have HMM : Hid (m ≤ 4):=Hd (by omega);have HT:=Hd fun w => terms_w o v d w;have HP:=Hd fun w => pick_w c 4 w (by omega) (by omega);rw [← ht] at HT ⊢;unfold termsV at HT;obtain ⟨pc,hpc⟩ : ∃ pc,pc = keep.pick c 4:=⟨_,rfl⟩;rw [← hpc] at HP HM hm ⊢;have ewm : 1 + pc = (m : Int):=hm;(have ewp : IntKind.i64.wrap (1 + pc) = (m : Int):=by simp only [IntKind.wrap_i64];omega);have HK:=Hd hk;have HH:=Hd hh;clear hp ht hr hn hl hpc hm hk hh ewm;(go_enter Tryz.func5,Tryz.ntmps5);(go_upto_region 2 with (first | (go_at_call 15;refine (HT.out _).mono ?_;rintro e w1 ⟨rfl,hb1⟩) | (go_at_call 16;refine (HP.out _).mono ?_;rintro e w1 ⟨rfl,rfl⟩)));obtain ⟨tb,htb⟩ : ∃ tb,tb = w1.heap.size:=⟨_,rfl⟩;obtain ⟨w2,hw2⟩ : ∃ W,W = w1.alloc (.cells #[.pointer none,.int .i64 t.object,.int .i64 t.volume,.int .i64 t.drift,.int .i64 m,.int .i64 0,.bool false] 33):=⟨_,rfl⟩;rw [← hw2,← htb];(have ht2 : Has w2 tb (.cells #[.pointer none,.int .i64 t.object,.int .i64 t.volume,.int .i64 t.drift,.int .i64 m,.int .i64 0,.bool false] 33):=by rw [hw2,htb];exact Has.new w1 _);have HTB : Hid (w.heap.size ≤ tb):=Hd (by rw [htb];exact hb1.size);have HB2 : Hid (Below w.heap.size w w2):=Hd (by rw [hw2];exact hb1.alloc hb1.size _);clear hw2 htb hb1;have d1 : w2.cell? ⟨tb,1,none⟩ = some (.int .i64 t.object):=ht2.cell 1;have d2 : w2.cell? ⟨tb,2,none⟩ = some (.int .i64 t.volume):=ht2.cell 2;have d3 : w2.cell? ⟨tb,3,none⟩ = some (.int .i64 t.drift):=ht2.cell 3;have d4 : w2.cell? ⟨tb,4,none⟩ = some (.int .i64 m):=ht2.cell 4;have htl : tb < w2.heap.size:=ht2.lt;have HNW:=Hd (New_w w2.drew t m ((HK.out.below HB2.out).below (Below.refl _ _).drew) ((HH.out.below HB2.out).below (Below.refl _ _).drew));unfold termsV at HNW;rw [HN.out] at HNW;have HT2:=Hd ht2;clear ht2;refine last.headH (fun W => W.cell? ⟨tb,1,none⟩ = some (.int .i64 t.object) ∧ W.cell? ⟨tb,2,none⟩ = some (.int .i64 t.volume) ∧ W.cell? ⟨tb,3,none⟩ = some (.int .i64 t.drift) ∧ W.cell? ⟨tb,4,none⟩ = some (.int .i64 m)) 1000 14 ⟨d1,d2,d3,d4⟩ fun HS => ?_;refine last.many [(0,25,_),(1,26,_),(2,27,_),(3,28,_),(4,29,_),(5,30,_),(6,31,_),(7,32,_)] HS.out ?_ (hy:=fun W' hW' => by have e0:=hW'.1;have e1:=hW'.2.1;have e2:=hW'.2.2.1;have f0:=hW'.2.2.2;repeat (first | exact .z | refine .s ?_ | refine .k ?_));refine last.one 8 fun K hK => ?_;go_simp;refine HNW.out.mono ?_;rintro e w3 ⟨own,ob,db,vv,rfl,h3⟩;have HS' : Hid ((fun W => W.cell? ⟨tb,1,none⟩ = some (.int .i64 t.object) ∧ W.cell? ⟨tb,2,none⟩ = some (.int .i64 t.volume) ∧ W.cell? ⟨tb,3,none⟩ = some (.int .i64 t.drift) ∧ W.cell? ⟨tb,4,none⟩ = some (.int .i64 m)) w3):=Hd ⟨(h3.bel.cell (p:=⟨tb,1,none⟩) htl).trans d1,(h3.bel.cell (p:=⟨tb,2,none⟩) htl).trans d2,(h3.bel.cell (p:=⟨tb,3,none⟩) htl).trans d3,(h3.bel.cell (p:=⟨tb,4,none⟩) htl).trans d4⟩;have H3:=Hd h3;clear h3;refine hK.out _ _ (fun _ => HS'.out) ?_;clear hK K HS;have HS:=HS';clear HS';refine last.many [(9,24,_),(10,34,_),(11,35,_),(12,12,_),(13,13,_)] HS.out ?_;refine last.done ?_;clear HS d1 d2 d3 d4;have t3:=HT2.out.drew.below H3.out.bel htl;have f0:=t3.frozen 0;have c0:=t3.cell 0;have HT3:=Hd t3;clear t3;(go_wp2_with fail);go_ret
 have hf : own tb = 0:=by
  rcases Nat.eq_zero_or_pos (own tb) with h | h
  ·exact h
  ·exact absurd (H3.out.low tb (by omega)) (by simp;omega)
 rw [HM.out];refine ⟨own,tb,ob,db,vv,r,rfl,by rw [HN.out],by rw [HL.out];rfl,HT3.out.set_ 0 _,hf,HTB.out,?_⟩;exact (rebase H3.out HK.out HH.out HB2.out.drew).keep (S:=fun g => g = tb) (Turn.setOne _ tb 0 _ rfl) (Ext.refl _ _) (fun g hg => H3.out.fr g (by simpa using hg)) (rebase H3.out HK.out HH.out HB2.out.drew).low fun g _ e => by subst e;exact ⟨hf,HTB.out⟩
end
end kp
namespace kp
open Go.RowKit heap own errs mapof wire srv cli wor keep
open model (Disk Server Client MCall MEvent Terms Gram Net Realm)
section
variable {P : Lib.PrintTabs} {own own1 : Nat → Nat} {w0 w w' : World} {tb ob db : Nat} {v v' : WV} {r r' : Realm} {y : Tale}
set_option maxHeartbeats 4000000 in
set_option maxRecDepth 1000000 in
theorem goes_t (w : World) (a b0 : Int) (h : TaleW P own w0 w tb ob db v y) (hd : 0 ≤ y.t.drift ∧ y.t.drift ≤ 500) (hn : 1 ≤ y.n ∧ y.n ≤ 4) {b : Int} {G : lasts.Asked} (hf : Fits b G y.r) :
 Calls Tryz.prog 21 #[.pointer (some ⟨tb,0,none⟩),.int .i64 a,.int .i64 b0] w fun e w' => e = .returned (.tuple #[]) ∧ wor.Stepped P own w0 ob db w (y.r.goes (times (keep.pick a 12) y.t.drift (y.n.toNat + 1) b0)).2 w':=by
 obtain ⟨i0,hi0,hz0,hz1,hz2⟩:=info_parts infoInt;have hp:=pick_in a 12 (by omega) (by omega);have HPG:=Hd fun w => pick_w a 12 w (by omega) (by omega);have HPB:=Hd fun x w => pick_w x 1073741824 w (by omega) (by omega);have HPN:=Hd pick_w;have HIN:=Hd pick_in;obtain ⟨g,hg⟩ : ∃ g,g = keep.pick a 12:=⟨_,rfl⟩;rw [← hg] at hp HPG ⊢;obtain ⟨d,hdd⟩ : ∃ d,d = y.t.drift:=⟨_,rfl⟩;obtain ⟨n,hnn⟩ : ∃ n : Nat,(n : Int) = y.n:=⟨y.n.toNat,by omega⟩;(have hnt : y.n.toNat = n:=by omega);have q1 : 0 ≤ g * (1000 - d) ∧ g * (1000 - d) ≤ 11000:=⟨Int.mul_nonneg (by omega) (by omega),Int.le_trans (Int.mul_le_mul (show g ≤ 11 by omega) (show 1000 - d ≤ 1000 by omega) (by omega) (by omega)) (by omega)⟩;have q2 : 0 ≤ g * (1000 + d) ∧ g * (1000 + d) ≤ 16500:=⟨Int.mul_nonneg (by omega) (by omega),Int.le_trans (Int.mul_le_mul (show g ≤ 11 by omega) (show 1000 + d ≤ 1500 by omega) (by omega) (by omega)) (by omega)⟩;have c0 : w.cell? ⟨tb,0,none⟩ = some (.pointer (some ⟨ob,0,none⟩)):=h.t_.cell 0;(have c3 : w.cell? ⟨tb,3,none⟩ = some (.int .i64 d):=by rw [hdd];exact h.t_.cell 3);(have c4 : w.cell? ⟨tb,4,none⟩ = some (.int .i64 n):=by rw [hnn];exact h.t_.cell 4);have c6 : w.cell? ⟨tb,6,none⟩ = some (.bool false):=h.t_.cell 6;have htl:=h.t_.lt;(have hn1 : n ≤ 4:=by omega);(have hd2 : 0 ≤ d ∧ d ≤ 500:=by rw [hdd];exact hd);rw [hnt,← hdd];have H:=Hd h;have HF:=Hd hf;clear hg h hf hd hn hnn hnt hdd;(go_enter Tryz.func21,Tryz.ntmps21);(go_wp2_with (go_at_call 16;refine (HPG.out _).mono ?_;rintro e w1 ⟨rfl,rfl⟩));(go_loopw [2,7,8,9,10,11] (fun q2 q7 q8 _ _ _ wx => ∃ k : Nat,k ≤ n + 1 ∧ q2 = .int .i64 (itB k b0) ∧ q8 = .int .i64 k ∧ wx.ownsRow w.heap.size 3 1 q7 k (ints (times g d k b0)) ∧ Below w.heap.size w wx) (fun _ _ q8 _ _ _ _ => n + 1 - (intOf q8).toNat));case atStart => exact ⟨0,by omega,rfl,rfl,World.ownsRow_nil w _ 3 1,Below.refl _ _⟩
 case round =>
  obtain ⟨k,hk,rfl,rfl,hro,hb⟩:=hrel;have HRO:=Hd hro;have HB:=Hd hb;have e0 : wr.cell? ⟨tb,0,none⟩ = some (.pointer (some ⟨ob,0,none⟩)):=(hb.cell (p:=⟨tb,0,none⟩) htl).trans c0;have e3 : wr.cell? ⟨tb,3,none⟩ = some (.int .i64 d):=(hb.cell (p:=⟨tb,3,none⟩) htl).trans c3;have e4 : wr.cell? ⟨tb,4,none⟩ = some (.int .i64 n):=(hb.cell (p:=⟨tb,4,none⟩) htl).trans c4;have e6 : wr.cell? ⟨tb,6,none⟩ = some (.bool false):=(hb.cell (p:=⟨tb,6,none⟩) htl).trans c6;clear hro hb c0 c3 c4 c6;by_cases hkn : k ≤ n
  ·have d1 : decide ((k : Int) ≤ (n : Int)) = true:=decide_eq_true (by omega);have d1' : decide (k ≤ n) = true:=decide_eq_true hkn;(go_upto_region 5 with fail);(go_quiet (fail));obtain ⟨lo,hlo⟩ : ∃ lo,lo = (g * (1000 - d) + 999) / 1000:=⟨_,rfl⟩;obtain ⟨hi,hhi⟩ : ∃ hi,hi = g * (1000 + d) / 1000:=⟨_,rfl⟩;rw [← hlo,← hhi];obtain ⟨W5,hW5⟩ : ∃ W,W = wr.drewN nq:=⟨_,rfl⟩;rw [← hW5];(have hb5 : Below wr.heap.size wr W5:=by rw [hW5];exact below_drewN (Below.refl _ _) nq);have g6 : W5.cell? ⟨tb,6,none⟩ = some (.bool false):=(hb5.cell (p:=⟨tb,6,none⟩) (Nat.lt_of_lt_of_le htl HB.out.size)).trans e6;(have l1 : 0 ≤ lo ∧ lo ≤ 12:=by omega);(have l2 : 0 ≤ hi ∧ hi ≤ 17:=by omega);have HLO : Hid (keep.low g d = lo):=Hd hlo.symm;have HHI : Hid (keep.high g d = hi):=Hd hhi.symm;have HB5:=Hd hb5;have xb:=pick_in (itB k b0) 1073741824 (by omega) (by omega);have HPX:=Hd fun w => HPB.out (itB k b0) w;obtain ⟨x,hx⟩ : ∃ x,x = keep.pick (itB k b0) 1073741824:=⟨_,rfl⟩;rw [← hx] at xb HPX;have HBK : Hid (itB (k + 1) b0 = x * 31 + 7):=Hd (by rw [hx];rfl);clear hlo hhi hW5 hb5 hx e0 e3 e4 e6;by_cases hlh : lo ≤ hi
   ·have d2 : decide (lo ≤ hi) = true:=decide_eq_true hlh;(go_upto_region 11 with (go_at_call 16;refine (HPX.out _).mono ?_;rintro e w1 ⟨rfl,rfl⟩));have hpn:=pick_in ((x * 31 + 7) / 8) (hi - lo + 1) (by omega) (by omega);have HPM:=Hd fun w => pick_w ((x * 31 + 7) / 8) (hi - lo + 1) w (by omega) (by omega);obtain ⟨z,hz⟩ : ∃ z,z = keep.pick ((x * 31 + 7) / 8) (hi - lo + 1):=⟨_,rfl⟩;rw [← hz] at hpn HPM;have HTV : Hid (timeOf g d (itB (k + 1) b0) = lo + z):=Hd (by unfold timeOf;rw [HLO.out,HHI.out,HBK.out,if_pos hlh,hz]);clear hz;(go_upto_region 12 with (go_at_call 16;refine (HPM.out _).mono ?_;rintro e w1 ⟨rfl,rfl⟩));clear HPM HPX HPG HPB HPN HIN g6;have HOW : Hid ((W5.alloc (.cells #[.int .i64 (lo + z)] 3)).ownsRow w.heap.size 3 1 u7 k (ints (times g d k b0))):=Hd ((owns_below HRO.out HB5.out).alloc _);have hsz5 : w.heap.size ≤ W5.heap.size:=Nat.le_trans HB.out.size HB5.out.size;(have hk6 : k ≤ 5:=by omega);go_wp2_with (at_builtin;refine wpList_append_own _ rfl (.tmp 62) (.tmp 64) 63 rfl w.heap.size 3 i0 (.int .i64 0) 1 8 Tryz.underlying63 hi0 hz0 hz1 hz2 rfl (by decide) _ _ _ rfl HOW.out ⟨W5.heap.size,0,none⟩ 1 1 [.int .i64 (lo + z)] rfl rfl ?c1 (by simp [Value.oneCell']) ?c3 ?c4 ?c5 ?_)
    case c1 =>
     intro j u hj;have hn:=Has.new W5 (.cells #[.int .i64 (lo + z)] 3)
     match j,hj with
     | 0,hj =>
      (obtain rfl : Value.int .i64 (lo + z) = u:=by simpa using hj);exact hn.cell 0
    (case c3 => unfold maxLen;omega);(case c4 => omega);(case c5 => simp;omega);intro u2 w2 hown hg2 _;(go_wp2_with fail);go_roundw
    case rel =>
     refine ⟨k + 1,by omega,by rw [HBK.out],by go_num,?_,?_⟩
     ·rw [times_succ,HTV.out];(have e1 : ints (times g d k b0 ++ [lo + z]) = ints (times g d k b0) ++ [.int .i64 (lo + z)]:=by simp [ints]);rw [e1];exact hown
     ·exact ((HB.out.trans (HB5.out.mono HB.out.size)).alloc hsz5 _).grown hg2 (by simp;omega) (fun j hj => owns_ge HRO.out j hj)
    case measure => simp [intOf];omega
   ·have d2 : decide (lo ≤ hi) = false:=decide_eq_false hlh;have HTV : Hid (timeOf g d (itB (k + 1) b0) = g):=Hd (by unfold timeOf;rw [HLO.out,HHI.out,if_neg hlh]);(go_upto_region 12 with (go_at_call 16;refine (HPX.out _).mono ?_;rintro e w1 ⟨rfl,rfl⟩));clear HPX HPG HPB HPN HIN g6;have HOW : Hid ((W5.alloc (.cells #[.int .i64 (g)] 3)).ownsRow w.heap.size 3 1 u7 k (ints (times g d k b0))):=Hd ((owns_below HRO.out HB5.out).alloc _);have hsz5 : w.heap.size ≤ W5.heap.size:=Nat.le_trans HB.out.size HB5.out.size;(have hk6 : k ≤ 5:=by omega);go_wp2_with (at_builtin;refine wpList_append_own _ rfl (.tmp 62) (.tmp 64) 63 rfl w.heap.size 3 i0 (.int .i64 0) 1 8 Tryz.underlying63 hi0 hz0 hz1 hz2 rfl (by decide) _ _ _ rfl HOW.out ⟨W5.heap.size,0,none⟩ 1 1 [.int .i64 (g)] rfl rfl ?c1 (by simp [Value.oneCell']) ?c3 ?c4 ?c5 ?_)
    case c1 =>
     intro j u hj;have hn:=Has.new W5 (.cells #[.int .i64 (g)] 3)
     match j,hj with
     | 0,hj =>
      (obtain rfl : Value.int .i64 (g) = u:=by simpa using hj);exact hn.cell 0
    (case c3 => unfold maxLen;omega);(case c4 => omega);(case c5 => simp;omega);intro u2 w2 hown hg2 _;(go_wp2_with fail);go_roundw
    case rel =>
     refine ⟨k + 1,by omega,by rw [HBK.out],by go_num,?_,?_⟩
     ·rw [times_succ,HTV.out];(have e1 : ints (times g d k b0 ++ [g]) = ints (times g d k b0) ++ [.int .i64 (g)]:=by simp [ints]);rw [e1];exact hown
     ·exact ((HB.out.trans (HB5.out.mono HB.out.size)).alloc hsz5 _).grown hg2 (by simp;omega) (fun j hj => owns_ge HRO.out j hj)
    case measure => simp [intOf];omega
  ·have d1 : decide ((k : Int) ≤ (n : Int)) = false:=decide_eq_false (by omega)
   have d1' : decide (k ≤ n) = false:=decide_eq_false hkn
   have HKE : Hid (k = n + 1):=Hd (by omega)
   have HGO:=Hd (Goes_w wr u7 (times g d k b0) (by rw [times_len];exact HRO.out) (fun i hi => H.out.world.fr i (owns_ge HRO.out i hi)) HF.out.inv HF.out.clk (H.out.world.below HB.out fun i hi => H.out.world.fr i (Nat.le_trans HB.out.size hi)))
   clear hkn hk HPG HPB HPN HIN
   go_wp2_with (go_at_call 33;refine HGO.out.mono ?_;rintro e w2 ⟨rfl,hs⟩)
   go_end0
   rw [← HKE.out];exact ⟨rfl,Stepped.ahead (Ext.refl _ _) (Turn.of_below HB.out (Nat.le_refl _)) hs⟩
end
end kp
end Go.Proofs.YtefkmcjhgoagcaaGreatDoor
