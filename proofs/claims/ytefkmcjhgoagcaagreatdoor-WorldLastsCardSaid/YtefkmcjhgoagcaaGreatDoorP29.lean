/-
  A part of the proof of the law WorldLasts: ClC, ClD.
-/
import Derived.Deep.DeepCutAuto
import Derived.Test.YtefkmcjhgoagcaaGreatDoorHd
import Derived.Test.YtefkmcjhgoagcaaGreatDoorP25
namespace Go.Proofs.YtefkmcjhgoagcaaGreatDoor
namespace cli
open Go.RowKit heap own errs mapof wire srv cache
open model (Client MItem Val Terms MCall seek put del)
section
variable {own : Nat → Nat} {T : Nat} {w wr w' : World} {cb fm sm : Nat} {cv : Value} {c c' : Client} {q q' : Value} {out : List Msg}
structure CM (own : Nat → Nat) (T : Nat) (w wr : World) (cb fm sm : Nat) (cv : Value) (c : Client) (q : Value) (out : List Msg) : Prop where
 cli : CliW own T wr cb fm sm cv c
 msgs : MsgsAt w.heap.size wr q out
 fr : ∀ g,w.heap.size ≤ g → own g = 0
 hT : 0 < T
 turn : Turn (fun g => g = cb) w wr
theorem CM.start (h : CliW own T w cb fm sm cv c) (hf : ∀ g,w.heap.size ≤ g → own g = 0) (hT : 0 < T) : CM own T w w cb fm sm cv c (.slice none 0 0) []:=⟨h,MsgsAt.nil _ _,hf,hT,Turn.refl _ _⟩
theorem CM.below (h : CM own T w wr cb fm sm cv c q out) (hb : Below wr.heap.size wr w') : CM own T w w' cb fm sm cv c q out:=
 ⟨h.cli.below hb,h.msgs.below hb,h.fr,h.hT,h.turn.then_below hb (Nat.le_refl _)⟩
theorem CM.old (h : CM own T w wr cb fm sm cv c q out) : cb < w.heap.size:=by
 rcases Nat.lt_or_ge cb w.heap.size with h1 | h1
 ·exact h1
 ·have h2:=h.fr cb h1;have h3:=h.cli.ocb;have h4:=h.hT;omega
theorem CM.step (h : CM own T w wr cb fm sm cv c q out) (ht : Turn (fun g => g = cb) wr w') (hc : CliW own T w' cb fm sm cv c') : CM own T w w' cb fm sm cv c' q out:=
 ⟨hc,h.msgs.keep ht fun g hg e => by have:=h.msgs.block g hg;have:=h.old;omega,h.fr,h.hT,h.turn.trans ht fun _ _ e => e⟩
theorem CM.append {n : List Msg} (h : CM own T w wr cb fm sm cv c q out) (hm : MsgsAt w.heap.size w' q' (out ++ n)) (hg : wr.grownBy w' q.ownBlock) : CM own T w w' cb fm sm cv c q' (out ++ n):=by
 have ht : Turn (fun g => q.ownBlock = some g) wr w':=⟨hg.os,hg.tape,hg.output,hg.size,fun k hk hn => hg.block k hk (fun e => hn e.symm)⟩;refine ⟨h.cli.turn ht (Ext.refl _ _) fun g _ hg hs => ?_,hm,h.fr,h.hT,h.turn.trans ht fun k hk e => ?_⟩
 ·have h1:=h.fr g (h.msgs.block g hg);have h2:=h.hT;unfold CliSet at hs;omega
 ·have:=h.msgs.block k e;omega
theorem CM.mine {H : Nat} (h : CM own T w wr cb fm sm cv c q out) (ht : Turn (fun g => g = H) wr w') (hH : w.heap.size ≤ H) (hc : H ≠ cb) (hq : q.ownBlock ≠ some H) : CM own T w w' cb fm sm cv c q out:=by
 refine ⟨h.cli.turn ht (Ext.refl _ _) fun g _ e hs => ?_,h.msgs.keep ht fun g hg e => hq (by rw [hg,e]),h.fr,h.hT,h.turn.trans ht fun k hk e => by omega⟩;have h1:=h.fr H hH;have h2:=h.hT;subst e;unfold CliSet at hs;omega
def renews (c : Client) : Client:={ c with number:=wrap64 (c.number + 1),renewal:=wrap64 (c.number + 1),renewed:=c.now }
theorem again_yes (h : wrap64 (c.volume - 2) ≤ c.now) : c.again = ([(renews c).stamp { model.noMsg with kind:=3,number:=wrap64 (c.number + 1) }] ++ (renews c).asks,renews c):=by
 unfold Client.again;rw [if_pos h];rfl
theorem again_no (h : ¬ wrap64 (c.volume - 2) ≤ c.now) : c.again = ([] ++ c.asks,c):=by
 unfold Client.again;rw [if_neg h];rfl
set_option maxHeartbeats 2000000 in
set_option maxRecDepth 1000000 in
theorem Again_c (h : CliW own T w cb fm sm cv c) (hf : ∀ g,w.heap.size ≤ g → own g = 0) (hT : 0 < T) :
 Calls Tryz.prog 40 #[.pointer (some ⟨cb,0,none⟩)] w fun e w' => ∃ u,e = .returned u ∧ CM own T w w' cb fm sm cv c.again.2 u c.again.1:=by
 obtain ⟨r,hr⟩ : ∃ r,r = c.again:=⟨_,rfl⟩;rw [← hr];have HCM:=Hd (CM.start h hf hT);have c7 : w.cell? ⟨cb,7,none⟩ = some (.int .i64 c.now):=h.c_.cell 7;have c8 : w.cell? ⟨cb,8,none⟩ = some (.int .i64 c.volume):=h.c_.cell 8;obtain ⟨vz,hvz⟩ : ∃ vz,vz = wrap64 (c.volume - 2):=⟨_,rfl⟩;obtain ⟨b,hb⟩ : ∃ b,b = decide (vz ≤ c.now):=⟨_,rfl⟩
 have HR : Hid (∃ c1 out1,r = (out1 ++ c1.asks,c1) ∧ c1 = (if b then renews c else c) ∧ out1 = (if b then [(renews c).stamp { model.noMsg with kind:=3,number:=wrap64 (c.number + 1) }] else [])):=Hd (by
  rw [hr,hb];by_cases hd : vz ≤ c.now
  ·rw [decide_eq_true hd];exact ⟨_,_,again_yes (by rw [← hvz];exact hd),rfl,rfl⟩
  ·rw [decide_eq_false hd]
   exact ⟨_,_,again_no (by rw [← hvz];exact hd),rfl,rfl⟩)
 (have ew : IntKind.i64.wrap (c.volume - 2) = vz:=by rw [IntWalk.i64_left,hvz]);have eb : decide (vz ≤ c.now) = b:=hb.symm;obtain ⟨c1,out1,hr1,hc1,ho1⟩:=HR.out;have HR1:=Hd hr1;have HC1:=Hd hc1;have HO1:=Hd ho1;clear hr hvz hb h HR hr1 hc1 ho1;(go_enter Tryz.func40,Tryz.ntmps40);(go_upto_region 2 with fail);(go_quiet (fail));have HCM1:=Hd (HCM.out.below (below_drewN (Below.refl _ w) nq));clear HCM c7 c8;(go_upto_if 14 with fail);obtain ⟨W1,hW1⟩ : ∃ W1,W1 = w.drewN nq:=⟨_,rfl⟩;rw [← hW1] at HCM1 ⊢;clear hW1;go_cut [3] (fun q wx => CM own T w wx cb fm sm cv c1 q out1)
 case first =>
  cases b with
  | false =>
   have HC2 : Hid (c1 = c ∧ out1 = []):=Hd ⟨HC1.out,HO1.out⟩;(go_wp2_with fail);go_meet;case rel => rw [HC2.out.1,HC2.out.2];exact HCM1.out
  | true =>
   have HC2 : Hid (c1 = renews c ∧ out1 = [(renews c).stamp { model.noMsg with kind:=3,number:=wrap64 (c.number + 1) }]):=Hd ⟨HC1.out,HO1.out⟩;obtain ⟨n,hn⟩ : ∃ n,n = wrap64 (c.number + 1):=⟨_,rfl⟩;have HNX:=Hd (next_c W1.drew HCM1.out.cli.drew);rw [← hn] at HNX HC2;have HRN : Hid (renews c = { c with number:=n,renewal:=n,renewed:=c.now }):=Hd (by unfold renews;rw [← hn]);have c7 : W1.cell? ⟨cb,7,none⟩ = some (.int .i64 c.now):=HCM1.out.cli.c_.cell 7;clear hn ew eb;(go_upto_region 3 with fail);(go_region_held3 (fun W => W.cell? ⟨cb,7,none⟩ = some (.int .i64 c.now)) (first | go_keep | exact hc2.c_.cell 7 | exact (hc2.c_.set_ 20 _).cell 7 | exact ((hc2.c_.set_ 20 _).set_ 21 _).cell 7) ((go_at_call 58;refine HNX.out.mono ?_;rintro e W2 ⟨rfl,hc2,ht2,hs2⟩;have c20 : W2.cell? ⟨cb,20,none⟩ = some (.int .i64 c.renewal):=hc2.c_.cell 20;have c21 : W2.cell? ⟨cb,21,none⟩ = some (.int .i64 c.renewed):=hc2.c_.cell 21;have f20:=hc2.c_.frozen 20;have f21:=hc2.c_.frozen 21)));obtain ⟨W3,hW3⟩ : ∃ W3,W3 = ((W2.setCell ⟨cb,20,none⟩ (.int .i64 n)).setCell ⟨cb,21,none⟩ (.int .i64 c.now)):=⟨_,rfl⟩
   have hc3 : CliW own T W3 cb fm sm cv { c with number:=n,renewal:=n,renewed:=c.now }:=by
    rw [hW3];exact ((hc2.set1 { c with number:=n,renewal:=n } 20 (.int .i64 n) rfl rfl rfl rfl).set1 { c with number:=n,renewal:=n,renewed:=c.now } 21 (.int .i64 c.now) rfl rfl rfl rfl)
   (have ht3 : Turn (fun g => g = cb) W2 W3:=by rw [hW3];exact ((turn_cb 20 _).trans (turn_cb 21 _) fun _ _ e => e));rw [← hW3];have HCM3:=Hd ((HCM1.out.below (Below.refl _ _).drew).step (ht2.trans ht3 fun _ _ e => e) hc3);rw [HRN.out] at HC2;obtain ⟨c2,hc2'⟩ : ∃ c2 : Client,c2 = { c with number:=n,renewal:=n,renewed:=c.now }:=⟨_,rfl⟩;(have hrn : c2.renewal = n:=by rw [hc2']);rw [← hc2'] at HC2 HCM3;have HRNW:=Hd hrn;(have c20 : W3.cell? ⟨cb,20,none⟩ = some (.int .i64 n):=by rw [← hrn];exact HCM3.out.cli.c_.cell 20);clear hW3 hc3 ht3 hc2 ht2 hs2 hc2' hrn HCM1 HNX c7 HRN
   go_wp2_with (first
    | (go_at_call 65;refine (stamp_c _ { model.noMsg with kind:=3,number:=n } HCM3.out.cli).mono ?_;rintro e w4 ⟨rfl,hb4⟩;have HCM4:=Hd (HCM3.out.below hb4))
    | (refine wpList_build1 rfl (.tmp 34) (c2.stamp { model.noMsg with kind:=3,number:=n }) rfl rfl ?_;have HCM5:=Hd (HCM4.out.below ((Below.refl w4.heap.size w4).alloc (Nat.le_refl _) (.cells (([c2.stamp { model.noMsg with kind:=3,number:=n }] : List Msg).flatMap msgRow).toArray 93)));have HN5:=Hd (MsgsAt.new (w:=w4) (l:=[c2.stamp { model.noMsg with kind:=3,number:=n }]) (by simp));obtain ⟨w5,hw5⟩ : ∃ w5,w5 = w4.alloc (.cells (([c2.stamp { model.noMsg with kind:=3,number:=n }] : List Msg).flatMap msgRow).toArray 93):=⟨_,rfl⟩;rw [← hw5] at HCM5 HN5 ⊢;clear hw5 HCM4)
    | (refine wpList_appendMsgs rfl (.tmp 27) (.tmp 35) HCM5.out.turn.size (.slice none 0 0) (.slice (some ⟨w4.heap.size,0,none⟩) 1 1) [] [c2.stamp { model.noMsg with kind:=3,number:=n }] rfl rfl rfl HCM5.out.msgs HN5.out (by simp) (by simp) fun v' w6 hm6 hg6 hq6 => ?_;have HCM6:=Hd (HCM5.out.append hm6 hg6);clear hm6 hg6 hq6))
   go_meet
   case rel =>
    rw [HC2.out.1,HC2.out.2];exact HCM6.out
 case rest =>
  have HCM1:=Hd hcut;clear hcut ew eb HC1;have HBU:=Hd (Busy_c wc HCM1.out.cli);have HO2 : Hid (out1.length ≤ 1):=Hd (by rw [HO1.out];split <;> simp)
  cases hbu : c1.busy with
  | false =>
   rw [hbu] at HBU
   have HRE : Hid (r = (out1,c1)):=Hd (by
    rw [HR1.out];unfold Client.asks
    rw [if_neg (by rw [hbu];decide),List.append_nil])
   clear hbu;(go_wp2_with (go_at_call 57;refine HBU.out.mono ?_;rintro e w' ⟨rfl,rfl⟩));go_ret;rw [HRE.out];exact ⟨_,rfl,HCM1.out⟩
  | true =>
   rw [hbu] at HBU
   have HRE : Hid (r = (out1 ++ [c1.stamp { model.noMsg with kind:=c1.call.kind,number:=c1.asked,object:=c1.call.object,data:=if c1.call.kind = 2 then c1.call.value.data else [] }],c1)):=Hd (by
    rw [HR1.out];unfold Client.asks
    rw [if_pos hbu])
   clear hbu;have c12 : wc.cell? ⟨cb,12,none⟩ = some (.int .i64 c1.call.kind):=HCM1.out.cli.c_.cell 12;have c13 : wc.cell? ⟨cb,13,none⟩ = some (.int .i64 c1.call.object):=HCM1.out.cli.c_.cell 13;have c18 : wc.cell? ⟨cb,18,none⟩ = some (.int .i64 c1.asked):=HCM1.out.cli.c_.cell 18;(go_upto_region 6 with (go_at_call 57;refine HBU.out.mono ?_;rintro e w' ⟨rfl,rfl⟩));(go_region_held3 (fun W => W.cell? ⟨cb,12,none⟩ = some (.int .i64 c1.call.kind) ∧ W.cell? ⟨cb,13,none⟩ = some (.int .i64 c1.call.object) ∧ W.cell? ⟨cb,18,none⟩ = some (.int .i64 c1.asked)) (go_keep) (fail));obtain ⟨ck,hck⟩ : ∃ ck,ck = c1.call.kind:=⟨_,rfl⟩;obtain ⟨ca,hca⟩ : ∃ ca,ca = c1.asked:=⟨_,rfl⟩;obtain ⟨co,hco⟩ : ∃ co,co = c1.call.object:=⟨_,rfl⟩;rw [← hck,← hca,← hco] at HRE ⊢;obtain ⟨H,hH⟩ : ∃ H,H = wc.heap.size:=⟨_,rfl⟩;obtain ⟨W5,hW5⟩ : ∃ W5,W5 = (wc.alloc (.cells #[.int .i64 ck,.int .i64 0,.int .i64 ca,.int .i64 0,.int .i64 0,.int .i64 co,.int .i64 0,.bool false,.string ⟨#[]⟩] 93)).drew:=⟨_,rfl⟩;rw [← hW5,← hH];(have hx5 : Has W5 H (.cells #[.int .i64 ck,.int .i64 0,.int .i64 ca,.int .i64 0,.int .i64 0,.int .i64 co,.int .i64 0,.bool false,.string ⟨#[]⟩] 93):=by rw [hW5,hH];exact (Has.new wc _).drew);(have hb5 : Below wc.heap.size wc W5:=by rw [hW5];exact ((Below.refl _ _).alloc (Nat.le_refl _) _).drew);have HCM5:=Hd (HCM1.out.below hb5)
   have HHB : Hid (w.heap.size ≤ H ∧ H ≠ cb):=Hd (by
    have:=HCM1.out.turn.size;have:=HCM1.out.old
    omega)
   (have HQX : Hid (u3.ownBlock ≠ some H):=Hd fun e => by have:=(HCM1.out.msgs.lt H e).2;omega);have HX5:=Hd hx5;have x0 : W5.cell? ⟨H,0,none⟩ = some (.int .i64 ck):=hx5.cell 0;have x8 : W5.cell? ⟨H,8,none⟩ = some (.string ⟨#[]⟩):=hx5.cell 8;have f8:=hx5.frozen 8;have c14 : W5.cell? ⟨cb,14,none⟩ = some (.string ⟨c1.call.value.data.toArray⟩):=HCM5.out.cli.c_.cell 14;obtain ⟨kb,hkb⟩ : ∃ kb,kb = (ck == 2):=⟨_,rfl⟩;have ekb : (ck == 2) = kb:=hkb.symm;have HKB:=Hd hkb;clear hW5 hH hb5 hx5 hck hca hco hkb HCM1 HBU c12 c13 c18
   cases kb with
   | false =>
    have HR2 : Hid (r = (out1 ++ [c1.stamp ⟨ck,0,ca,0,0,co,0,false,[]⟩],c1)):=Hd (by
     (have h2 : ck ≠ 2:=by simpa using HKB.out.symm);rw [HRE.out,if_neg h2]
     rfl)
    clear f8 x8
    go_wp2_with (first
     | (refine wpList_load_row rfl 93 (.tmp 4) rfl H rfl 93 _ (0,0) _ HX5.out Tryz.underlying93 rfl (by kernel_rfl) ?_)
     | (go_at_call 65;refine (stamp_c _ ⟨ck,0,ca,0,0,co,0,false,[]⟩ HCM5.out.cli).mono ?_;rintro e w6 ⟨rfl,hb6⟩;have HCM6:=Hd (HCM5.out.below hb6))
     | (refine wpList_build1 rfl (.tmp 67) (c1.stamp ⟨ck,0,ca,0,0,co,0,false,[]⟩) rfl rfl ?_;have HCM7:=Hd (HCM6.out.below ((Below.refl w6.heap.size w6).alloc (Nat.le_refl _) (.cells (([c1.stamp ⟨ck,0,ca,0,0,co,0,false,[]⟩] : List Msg).flatMap msgRow).toArray 93)));have HN7:=Hd (MsgsAt.new (w:=w6) (l:=[c1.stamp ⟨ck,0,ca,0,0,co,0,false,[]⟩]) (by simp));obtain ⟨w7,hw7⟩ : ∃ w7,w7 = w6.alloc (.cells (([c1.stamp ⟨ck,0,ca,0,0,co,0,false,[]⟩] : List Msg).flatMap msgRow).toArray 93):=⟨_,rfl⟩;rw [← hw7] at HCM7 HN7 ⊢;clear hw7 HCM6)
     | (refine wpList_appendMsgs rfl (.tmp 64) (.tmp 68) HCM7.out.turn.size u3 (.slice (some ⟨w6.heap.size,0,none⟩) 1 1) out1 [c1.stamp ⟨ck,0,ca,0,0,co,0,false,[]⟩] rfl rfl rfl HCM7.out.msgs HN7.out (by simp) (by have:=HO2.out;simp;omega) fun v' w8 hm8 hg8 hq8 => ?_;have HCM8:=Hd (HCM7.out.append hm8 hg8);clear hm8 hg8 hq8))
    go_ret;rw [HR2.out];exact ⟨_,rfl,HCM8.out⟩
   | true =>
    obtain ⟨da,hda⟩ : ∃ da,da = c1.call.value.data:=⟨_,rfl⟩;rw [← hda] at c14
    have HR2 : Hid (r = (out1 ++ [c1.stamp ⟨ck,0,ca,0,0,co,0,false,da⟩],c1)):=Hd (by
     (have h2 : ck = 2:=by simpa using HKB.out.symm);rw [HRE.out,if_pos h2,← hda]
     rfl)
    clear hda;(go_upto_region 9 with fail);obtain ⟨W6,hW6⟩ : ∃ W6,W6 = W5.setCell ⟨H,8,none⟩ (.string ⟨da.toArray⟩):=⟨_,rfl⟩;(have ht6 : Turn (fun g => g = H) W5 W6:=by rw [hW6];exact wal.turn_set (Turn.refl _ _) 8 _);have HX6 : Hid (Has W6 H (.cells (msgCells ck 0 ca 0 0 co 0 false ⟨da.toArray⟩) 93)):=Hd (by rw [hW6];exact HX5.out.set_ 8 _);have HCM6 : Hid (CM own T w W6 cb fm sm cv c1 u3 out1):=Hd (HCM5.out.mine ht6 HHB.out.1 HHB.out.2 HQX.out);rw [← hW6];clear hW6 ht6 HX5 HCM5 x0 x8 f8 c14
    go_wp2_with (first
     | (refine wpList_load_row rfl 93 (.tmp 4) rfl H rfl 93 _ (0,0) _ HX6.out Tryz.underlying93 rfl (by kernel_rfl) ?_)
     | (go_at_call 65;refine (stamp_c _ ⟨ck,0,ca,0,0,co,0,false,da⟩ HCM6.out.cli).mono ?_;rintro e w7 ⟨rfl,hb7⟩;have HCM7:=Hd (HCM6.out.below hb7))
     | (refine wpList_build1 rfl (.tmp 67) (c1.stamp ⟨ck,0,ca,0,0,co,0,false,da⟩) rfl rfl ?_;have HCM8:=Hd (HCM7.out.below ((Below.refl w7.heap.size w7).alloc (Nat.le_refl _) (.cells (([c1.stamp ⟨ck,0,ca,0,0,co,0,false,da⟩] : List Msg).flatMap msgRow).toArray 93)));have HN8:=Hd (MsgsAt.new (w:=w7) (l:=[c1.stamp ⟨ck,0,ca,0,0,co,0,false,da⟩]) (by simp));obtain ⟨w8,hw8⟩ : ∃ w8,w8 = w7.alloc (.cells (([c1.stamp ⟨ck,0,ca,0,0,co,0,false,da⟩] : List Msg).flatMap msgRow).toArray 93):=⟨_,rfl⟩;rw [← hw8] at HCM8 HN8 ⊢;clear hw8 HCM7)
     | (refine wpList_appendMsgs rfl (.tmp 64) (.tmp 68) HCM8.out.turn.size u3 (.slice (some ⟨w7.heap.size,0,none⟩) 1 1) out1 [c1.stamp ⟨ck,0,ca,0,0,co,0,false,da⟩] rfl rfl rfl HCM8.out.msgs HN8.out (by simp) (by have:=HO2.out;simp;omega) fun v' w9 hm9 hg9 hq9 => ?_;have HCM9:=Hd (HCM8.out.append hm9 hg9);clear hm9 hg9 hq9))
    go_ret;rw [HR2.out];exact ⟨_,rfl,HCM9.out⟩
end
section
variable {own : Nat → Nat} {T : Nat} {w wr w' : World} {cb fm sm : Nat} {cv : Value} {c c' : Client} {q q' : Value} {out : List Msg}
theorem CM.from (h : CM own T w wr cb fm sm cv c q out) {u : Value} {l : List Msg} (h2 : CM own T wr w' cb fm sm cv c' u l) : CM own T w w' cb fm sm cv c' u l:=
 ⟨h2.cli,h2.msgs.base h.turn.size,h.fr,h.hT,h.turn.trans h2.turn fun _ _ e => e⟩
theorem CM.again (h : CM own T w wr cb fm sm cv c q out) : Calls Tryz.prog 40 #[.pointer (some ⟨cb,0,none⟩)] wr fun e w' => ∃ u,e = .returned u ∧ CM own T w w' cb fm sm cv c.again.2 u c.again.1:=by
 refine (Again_c h.cli (fun g hg => h.fr g (Nat.le_trans h.turn.size hg)) h.hT).mono ?_;rintro e w' ⟨u,rfl,h2⟩;exact ⟨u,rfl,h.from h2⟩
def setCall (c : Client) (k o : Int) (data : List UInt8) : Client:={ c with call:=⟨k,o,⟨data,0⟩,false,false⟩ }
theorem CliW.setCall (h : CliW own T w cb fm sm cv c) (k o : Int) (data : List UInt8) : CliW own T ((((((w.setCell ⟨cb,12,none⟩ (.int .i64 k)).setCell ⟨cb,13,none⟩ (.int .i64 o)).setCell ⟨cb,14,none⟩ (.string ⟨data.toArray⟩)).setCell ⟨cb,15,none⟩ (.int .i64 0)).setCell ⟨cb,16,none⟩ (.bool false)).setCell ⟨cb,17,none⟩ (.bool false)) cb fm sm cv (cli.setCall c k o data) ∧ Turn (fun g => g = cb) w ((((((w.setCell ⟨cb,12,none⟩ (.int .i64 k)).setCell ⟨cb,13,none⟩ (.int .i64 o)).setCell ⟨cb,14,none⟩ (.string ⟨data.toArray⟩)).setCell ⟨cb,15,none⟩ (.int .i64 0)).setCell ⟨cb,16,none⟩ (.bool false)).setCell ⟨cb,17,none⟩ (.bool false)):=by
 have ht : Turn (fun g => g = cb) w ((((((w.setCell ⟨cb,12,none⟩ (.int .i64 k)).setCell ⟨cb,13,none⟩ (.int .i64 o)).setCell ⟨cb,14,none⟩ (.string ⟨data.toArray⟩)).setCell ⟨cb,15,none⟩ (.int .i64 0)).setCell ⟨cb,16,none⟩ (.bool false)).setCell ⟨cb,17,none⟩ (.bool false)):=
  wal.turn_set (wal.turn_set (wal.turn_set (wal.turn_set (wal.turn_set (wal.turn_set (Turn.refl _ _) _ _) _ _) _ _) _ _) _ _) _ _
 refine ⟨h.upd ht ?_ rfl rfl rfl,ht⟩;exact (((((h.c_.set_ 12 (.int .i64 k)).set_ 13 (.int .i64 o)).set_ 14 (.string ⟨data.toArray⟩)).set_ 15 (.int .i64 0)).set_ 16 (.bool false)).set_ 17 (.bool false)
set_option maxHeartbeats 2000000 in
set_option maxRecDepth 1000000 in
theorem Write_c (o : Int) (data : List UInt8) (h : CliW own T w cb fm sm cv c) (hf : ∀ g,w.heap.size ≤ g → own g = 0) (hT : 0 < T) :
 Calls Tryz.prog 31 #[.pointer (some ⟨cb,0,none⟩),.int .i64 o,.string ⟨data.toArray⟩] w fun e w' => ∃ u,e = .returned (.tuple #[u,errV (c.write o data).1]) ∧ CM own T w w' cb fm sm cv (c.write o data).2.2 u (c.write o data).2.1:=by
 obtain ⟨r,hr⟩ : ∃ r,r = c.write o data:=⟨_,rfl⟩;rw [← hr];have HCM:=Hd (CM.start h hf hT);have HBU:=Hd (Busy_c w h);obtain ⟨b0,hb0⟩ : ∃ b0,b0 = c.busy:=⟨_,rfl⟩;obtain ⟨b1,hb1⟩ : ∃ b1,b1 = decide (o < 0):=⟨_,rfl⟩;obtain ⟨b2,hb2⟩ : ∃ b2,b2 = decide (8 ≤ o):=⟨_,rfl⟩;obtain ⟨b3,hb3⟩ : ∃ b3,b3 = decide ((20 : Int) < (data.length : Int)):=⟨_,rfl⟩;rw [← hb0] at HBU
 have HR : Hid (r = if b0 then (6,[],c) else if b1 || b2 then (2,[],c) else if b3 then (4,[],c) else (0,(setCall c 2 o data).ask)):=Hd (by
  have e1 : (!model.isObject o) = (b1 || b2):=by
   rw [hb1,hb2];unfold model.isObject model.inR;rw [Bool.eq_iff_iff];simp only [Bool.not_eq_true',Bool.and_eq_false_iff,decide_eq_false_iff_not,Bool.or_eq_true,decide_eq_true_eq];omega
  rw [hr,hb0,hb3];unfold Client.write;rw [e1];split
  ·rfl
  ·split
   ·rfl
   ·by_cases h20 : 20 < data.length
    ·rw [if_pos h20,if_pos (decide_eq_true (by omega))]
    ·rw [if_neg h20,if_neg (by simp only [decide_eq_true_eq];omega)]
     rfl)
 have e1 : decide (o < 0) = b1:=hb1.symm;have e2 : decide (8 ≤ o) = b2:=hb2.symm;have e3 : decide ((20 : Int) < (data.length : Int)) = b3:=hb3.symm;clear hr hb0 hb1 hb2 hb3
 cases b0 with
 | true =>
  have HE : Hid (r = (6,[],c)):=Hd HR.out;clear h;(go_enter Tryz.func31,Tryz.ntmps31);(go_wp2_with (go_at_call 57;refine HBU.out.mono ?_;rintro e w' ⟨rfl,rfl⟩));go_ret2;rw [HE.out];exact ⟨_,rfl,HCM.out⟩
 | false =>
  cases b1 with
  | true =>
   have HE : Hid (r = (2,[],c)):=Hd HR.out;clear h;(go_enter Tryz.func31,Tryz.ntmps31);(go_wp2_with (go_at_call 57;refine HBU.out.mono ?_;rintro e w' ⟨rfl,rfl⟩));go_ret2;rw [HE.out];exact ⟨_,rfl,HCM.out⟩
  | false =>
   cases b2 with
   | true =>
    have HE : Hid (r = (2,[],c)):=Hd HR.out;clear h;(go_enter Tryz.func31,Tryz.ntmps31);(go_wp2_with (go_at_call 57;refine HBU.out.mono ?_;rintro e w' ⟨rfl,rfl⟩));go_ret2;rw [HE.out];exact ⟨_,rfl,HCM.out⟩
   | false =>
    cases b3 with
    | true =>
     have HE : Hid (r = (4,[],c)):=Hd HR.out;clear h;(go_enter Tryz.func31,Tryz.ntmps31);(go_wp2_with (go_at_call 57;refine HBU.out.mono ?_;rintro e w' ⟨rfl,rfl⟩));go_ret2;rw [HE.out];exact ⟨_,rfl,HCM.out⟩
    | false =>
     have HE : Hid (r = (0,(setCall c 2 o data).ask)):=Hd HR.out;have c12 : w.cell? ⟨cb,12,none⟩ = some (.int .i64 c.call.kind):=h.c_.cell 12;have c13 : w.cell? ⟨cb,13,none⟩ = some (.int .i64 c.call.object):=h.c_.cell 13;have c14 : w.cell? ⟨cb,14,none⟩ = some (.string ⟨c.call.value.data.toArray⟩):=h.c_.cell 14;have c15 : w.cell? ⟨cb,15,none⟩ = some (.int .i64 c.call.value.ver):=h.c_.cell 15;have c16 : w.cell? ⟨cb,16,none⟩ = some (.bool c.call.over):=h.c_.cell 16;have c17 : w.cell? ⟨cb,17,none⟩ = some (.bool c.call.hit):=h.c_.cell 17;have f12:=h.c_.frozen 12;have f13:=h.c_.frozen 13;have f14:=h.c_.frozen 14;have f15:=h.c_.frozen 15;have f16:=h.c_.frozen 16;have f17:=h.c_.frozen 17;have HSC:=Hd (h.setCall 2 o data);clear h HR;(go_enter Tryz.func31,Tryz.ntmps31);(go_upto_region 8 with (go_at_call 57;refine HBU.out.mono ?_;rintro e w' ⟨rfl,rfl⟩));obtain ⟨W1,hW1⟩ : ∃ W1,W1 = ((((((w.setCell ⟨cb,12,none⟩ (.int .i64 2)).setCell ⟨cb,13,none⟩ (.int .i64 o)).setCell ⟨cb,14,none⟩ (.string ⟨data.toArray⟩)).setCell ⟨cb,15,none⟩ (.int .i64 0)).setCell ⟨cb,16,none⟩ (.bool false)).setCell ⟨cb,17,none⟩ (.bool false)):=⟨_,rfl⟩;rw [← hW1] at HSC ⊢;have HCM1:=Hd (HCM.out.step HSC.out.2 HSC.out.1);clear hW1 HSC c12 c13 c14 c15 c16 c17 f12 f13 f14 f15 f16 f17 HCM HBU e1 e2 e3;obtain ⟨c1,hc1⟩ : ∃ c1,c1 = setCall c 2 o data:=⟨_,rfl⟩;rw [← hc1] at HCM1 HE;obtain ⟨n,hn⟩ : ∃ n,n = wrap64 (c1.number + 1):=⟨_,rfl⟩;have HNX:=Hd (next_c W1.drew HCM1.out.cli.drew);rw [← hn] at HNX;have HASK : Hid (c1.ask = Client.again { c1 with number:=n,asked:=n,sent:=c1.now }):=Hd (by unfold Client.ask;rw [← hn]);have c7 : W1.cell? ⟨cb,7,none⟩ = some (.int .i64 c1.now):=HCM1.out.cli.c_.cell 7;clear hn hc1;(go_region_held3 (fun W => W.cell? ⟨cb,7,none⟩ = some (.int .i64 c1.now)) (first | go_keep | exact hc2.c_.cell 7 | exact (hc2.c_.set_ 18 _).cell 7 | exact ((hc2.c_.set_ 18 _).set_ 19 _).cell 7) ((go_at_call 58;refine HNX.out.mono ?_;rintro e W2 ⟨rfl,hc2,ht2,hs2⟩;have c20 : W2.cell? ⟨cb,18,none⟩ = some (.int .i64 c1.asked):=hc2.c_.cell 18;have c21 : W2.cell? ⟨cb,19,none⟩ = some (.int .i64 c1.sent):=hc2.c_.cell 19;have f20:=hc2.c_.frozen 18;have f21:=hc2.c_.frozen 19)));obtain ⟨W3,hW3⟩ : ∃ W3,W3 = ((W2.setCell ⟨cb,18,none⟩ (.int .i64 n)).setCell ⟨cb,19,none⟩ (.int .i64 c1.now)):=⟨_,rfl⟩
     have hc3 : CliW own T W3 cb fm sm cv { c1 with number:=n,asked:=n,sent:=c1.now }:=by
      rw [hW3];exact ((hc2.set1 { c1 with number:=n,asked:=n } 18 (.int .i64 n) rfl rfl rfl rfl).set1 { c1 with number:=n,asked:=n,sent:=c1.now } 19 (.int .i64 c1.now) rfl rfl rfl rfl)
     (have ht3 : Turn (fun g => g = cb) W2 W3:=by rw [hW3];exact ((turn_cb 18 _).trans (turn_cb 19 _) fun _ _ e => e));rw [← hW3];have HCM3:=Hd ((HCM1.out.below (Below.refl _ _).drew).step (ht2.trans ht3 fun _ _ e => e) hc3);have HAG:=Hd HCM3.out.again;rw [← HASK.out] at HAG;have HRE : Hid (r = (0,c1.ask)):=Hd HE.out;clear hW3 hc3 ht3 hc2 ht2 hs2 HCM1 HNX c7 HASK HE;(go_wp2_with (go_at_call 40;refine HAG.out.mono ?_;rintro e w4 ⟨u4,rfl,hcm4⟩));go_ret2;rw [HRE.out];exact ⟨_,rfl,hcm4⟩
end
end cli
end Go.Proofs.YtefkmcjhgoagcaaGreatDoor
