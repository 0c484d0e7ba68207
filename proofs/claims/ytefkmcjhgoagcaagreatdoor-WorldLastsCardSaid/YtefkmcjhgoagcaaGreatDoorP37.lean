/-
  A part of the proof of the law WorldLasts: KpD.
-/
import Derived.Test.YtefkmcjhgoagcaaGreatDoorHd
import Derived.Test.YtefkmcjhgoagcaaGreatDoorP36
namespace Go.Proofs.YtefkmcjhgoagcaaGreatDoor
namespace kp
open Go.RowKit heap own errs mapof wire srv cli wor keep
open model (Disk Server Client MCall MEvent Terms Gram Net Realm)
section
variable {P : Lib.PrintTabs} {own own1 : Nat → Nat} {w0 w wa w' : World} {tb ob db : Nat} {v v' : WV} {r r' : Realm} {y y' : Tale}
theorem Told.ahead (hb : Below w.heap.size w wa) (h : Told P own w0 tb ob db wa y w') : Told P own w0 tb ob db w y w':=by
 obtain ⟨own1,v1,h1,h2,h3⟩:=h;exact ⟨own1,v1,h1,fun k hk => h2 k (Nat.lt_of_lt_of_le hk hb.size),(Turn.of_below (S:=fun g => own g ≠ 0 ∨ g = tb) hb (Nat.le_refl _)).trans h3 fun _ _ e => e⟩
theorem TaleW.below (h : TaleW P own w0 w tb ob db v y) (hb : Below w.heap.size w w') : TaleW P own w0 w' tb ob db v y:=
 ⟨h.t_.below hb h.t_.lt,h.free,h.low,h.world.below hb fun g hg => h.world.fr g (Nat.le_trans hb.size hg)⟩
theorem TaleW.here (h : TaleW P own w0 w tb ob db v y) : Told P own w0 tb ob db w y w:=⟨own,v,h,Ext.refl _ _,Turn.refl _ _⟩
theorem text_cells (n : Int) : Lib.byteCells (text n) = [.int .u8 119,.int .u8 (n % 256),.int .u8 (n / 256 % 256)]:=by
 (have e1 : (((n % 256).toNat % 256 : Nat) : Int) = n % 256:=by omega);(have e2 : (((n / 256 % 256).toNat % 256 : Nat) : Int) = n / 256 % 256:=by omega);simp only [Lib.byteCells,text,List.map_cons,List.map_nil,UInt8.toNat_ofNat',Nat.reducePow,e1,e2];rfl
def stepV (x : Step) : Value:=.agg #[.int .i64 x.what,.int .i64 x.k,.int .i64 x.a,.int .i64 x.b]
set_option maxHeartbeats 8000000 in
set_option maxRecDepth 1000000 in
theorem does_t (w : World) (x : Step) (h : TaleW P own w0 w tb ob db v y) (hd : 0 ≤ y.t.drift ∧ y.t.drift ≤ 500) (hn : 1 ≤ y.n ∧ y.n ≤ 4) (hw : 0 ≤ y.writes ∧ y.writes ≤ 1000) {b : Int} {G : lasts.Asked} (hf : Fits b G y.r) (hb : b ≤ 90000) :
 Calls Tryz.prog 6 #[.pointer (some ⟨tb,0,none⟩),stepV x] w fun e w' => e = .returned (.tuple #[]) ∧ Told P own w0 tb ob db w (keep.does x y) w':=by
 unfold stepV;obtain ⟨w1,hw1⟩ : ∃ W,W = w.alloc (.cells #[.int .i64 x.what,.int .i64 x.k,.int .i64 x.a,.int .i64 x.b] 28):=⟨_,rfl⟩;obtain ⟨xb,hxb⟩ : ∃ xb,xb = w.heap.size:=⟨_,rfl⟩;(have hx1 : Has w1 xb (.cells #[.int .i64 x.what,.int .i64 x.k,.int .i64 x.a,.int .i64 x.b] 28):=by rw [hw1,hxb];exact Has.new w _);(have hb1 : Below w.heap.size w w1.drew:=by rw [hw1];exact ((Below.refl _ _).alloc (Nat.le_refl _) _).drew);obtain ⟨wa,hwa⟩ : ∃ W,W = w1.drew:=⟨_,rfl⟩;(have hxa : Has wa xb (.cells #[.int .i64 x.what,.int .i64 x.k,.int .i64 x.a,.int .i64 x.b] 28):=by rw [hwa];exact hx1.drew);rw [← hwa] at hb1;have ha:=h.below hb1;(have hoxb : xb ≠ tb:=fun e => by have:=h.t_.lt;omega);have kp:=fun n (h1 : 1 ≤ n) (h2 : n ≤ 1000) => pick_in x.k n h1 (by omega);obtain ⟨k,hk⟩ : ∃ k,k = keep.pick x.k y.n:=⟨_,rfl⟩;have HPK:=Hd fun w => pick_w x.k y.n w (by omega) (by omega);have HP3:=Hd fun a w => pick_w a 3 w (by omega) (by omega);have HP4:=Hd fun a w => pick_w a 4 w (by omega) (by omega);have HP60:=Hd fun a w => pick_w a 60 w (by omega) (by omega);have p4:=pick_in x.a 4 (by omega) (by omega);have p60:=pick_in x.b 60 (by omega) (by omega);have q0 : wa.cell? ⟨tb,0,none⟩ = some (.pointer (some ⟨ob,0,none⟩)):=ha.t_.cell 0;have q4 : wa.cell? ⟨tb,4,none⟩ = some (.int .i64 y.n):=ha.t_.cell 4;have q5 : wa.cell? ⟨tb,5,none⟩ = some (.int .i64 y.writes):=ha.t_.cell 5;have q6 : wa.cell? ⟨tb,6,none⟩ = some (.bool false):=ha.t_.cell 6;have s0 : wa.cell? ⟨xb,0,none⟩ = some (.int .i64 x.what):=hxa.cell 0;have s1 : wa.cell? ⟨xb,1,none⟩ = some (.int .i64 x.k):=hxa.cell 1;have s2 : wa.cell? ⟨xb,2,none⟩ = some (.int .i64 x.a):=hxa.cell 2;have s3 : wa.cell? ⟨xb,3,none⟩ = some (.int .i64 x.b):=hxa.cell 3;have f5:=ha.t_.frozen 5;have hal:=ha.t_.lt;have hxl:=hxa.lt;have HMY:=Hd (Many_w wa ha.world);have HA:=Hd ha;have HX:=Hd hxa;have HB1:=Hd hb1;have HF:=Hd hf;have HKK:=Hd hk;have HDN:=Hd (And.intro hd hn);have HWR:=Hd hw;have hbb : Hid (b ≤ 90000):=Hd hb;rw [← hk] at HPK;have HS : Hid ((fun W => W.cell? ⟨tb,0,none⟩ = some (.pointer (some ⟨ob,0,none⟩)) ∧ W.cell? ⟨tb,4,none⟩ = some (.int .i64 y.n) ∧ W.cell? ⟨xb,1,none⟩ = some (.int .i64 x.k)) w1.drew):=Hd (by rw [← hwa];exact ⟨q0,q4,s1⟩);have HWA:=Hd hwa
 have HLT : Hid ((y.r.net.l.length : Int) ≤ 9223372036854775807):=Hd (by
  obtain ⟨ps,-,hro,-⟩:=ha.world.net;rw [List.length_map] at hro;rcases hro.1.2 with ⟨-,h2⟩ | ⟨g,cap,cur,-,-,-,h2,h3,-⟩
  ·rw [h2];decide
  ·unfold maxLen at h3;omega)
 clear hx1 hb1 ha hxa h hd hn hf hk kp hb hwa
 go_enter Tryz.func6,Tryz.ntmps6
 go_upto_region 1 with fail
 rw [← hw1,← hxb]
 clear hw1 hxb
 refine last.head (fun W => W.cell? ⟨tb,0,none⟩ = some (.pointer (some ⟨ob,0,none⟩)) ∧ W.cell? ⟨tb,4,none⟩ = some (.int .i64 y.n) ∧ W.cell? ⟨xb,1,none⟩ = some (.int .i64 x.k)) 1000 13 ?_
 refine last.many [(0,8,_),(1,9,_),(2,10,_),(3,11,_),(4,12,_),(5,13,_),(6,14,_),(7,15,_),(8,16,_),(9,17,_)] HS.out ?_ (hy:=fun W' hW' => by have e1:=hW'.1;have f0:=hW'.2.2;have f1:=hW'.2.1;repeat (first | exact .z | refine .s ?_ | refine .k ?_))
 refine last.one 10 fun K hK => ?_
 go_simp
 refine (HPK.out _).mono ?_
 rintro e w3 ⟨rfl,rfl⟩
 refine hK.out _ _ (fun _ => HS.out) ?_
 clear hK K
 refine last.many [(11,4,_),(12,5,_)] HS.out ?_
 refine last.done ?_
 clear HS HPK
 rw [← HWA.out]
 clear HWA
 obtain ⟨ix,hix⟩ : ∃ ix,ix = index x y.r:=⟨_,rfl⟩
 have HIX:=Hd hix
 clear hix
 rcases Nat.lt_or_ge 0 y.r.net.l.length with hl | hl
 case' inl =>
  have dl : decide ((0 : Int) < (y.r.net.l.length : Int)) = true:=decide_eq_true (by omega);have dl' : decide (0 < y.r.net.l.length) = true:=decide_eq_true hl;have HPI:=Hd fun w => pick_w x.a y.r.net.l.length w (by omega) HLT.out;have HIX2 : Hid (ix = keep.pick x.a y.r.net.l.length):=Hd (by rw [HIX.out];unfold index;rw [if_pos hl]);rw [← HIX2.out] at HPI;(go_upto_region 6 with (first | (go_at_call 14;refine HMY.out.mono ?_;rintro e w3 ⟨rfl,rfl⟩) | (go_at_call 16;refine (HPI.out _).mono ?_;rintro e w3 ⟨rfl,rfl⟩)));clear HPI
 case' inr =>
  have dl : decide ((0 : Int) < (y.r.net.l.length : Int)) = false:=decide_eq_false (by omega);have dl' : decide (0 < y.r.net.l.length) = false:=decide_eq_false (by omega);have HIX2 : Hid (ix = 0):=Hd (by rw [HIX.out];unfold index;rw [if_neg (by omega)]);(go_upto_region 6 with (go_at_call 14;refine HMY.out.mono ?_;rintro e w3 ⟨rfl,rfl⟩));rw [← HIX2.out]
 all_goals
  clear HMY HIX2 dl dl' hl HLT;by_cases hj : x.what = 0
  ·have d0 : decide (x.what = 0) = true:=decide_eq_true hj
   have HDO : Hid (keep.does x y = { y with r:=(y.r.read (keep.pick x.k y.n) (keep.pick x.a 3)).2 }):=Hd (by unfold keep.does;rw [if_pos hj])
   rw [← HKK.out] at HDO
   have HC:=Hd (Read_w wa k (keep.pick x.a 3) HF.out.inv (by have:=hbb.out;omega) HF.out.idx (by have:=HF.out.evs;have:=hbb.out;omega) HA.out.world)
   obtain ⟨p3,hp3⟩ : ∃ z,z = keep.pick x.a 3:=⟨_,rfl⟩
   have HPA:=Hd (HP3.out x.a)
   rw [← hp3] at HC HPA HDO
   clear HP3 hp3
   go_wp2_with (first | (go_at_call 16;refine (HPA.out _).mono ?_;rintro e w3 ⟨rfl,rfl⟩) | (go_at_call 13;refine HC.out.mono ?_;rintro e w4 ⟨rfl,hs⟩))
   go_end0
   rw [HDO.out];exact ⟨rfl,Told.ahead HB1.out (HA.out.told hs)⟩
  have d0 : decide (x.what = 0) = false:=decide_eq_false hj;have N0:=Hd hj;clear hj;by_cases hj : x.what = 1
  ·have d1 : decide (x.what = 1) = true:=decide_eq_true hj;have HDO : Hid (keep.does x y = { y with r:=(y.r.write (keep.pick x.k y.n) (keep.pick x.a 3) (text (y.writes + 1))).2,writes:=y.writes + 1 }):=Hd (by unfold keep.does;rw [if_neg N0.out,if_pos hj]);rw [← HKK.out] at HDO;obtain ⟨p3,hp3⟩ : ∃ z,z = keep.pick x.a 3:=⟨_,rfl⟩;have HPA:=Hd (HP3.out x.a);rw [← hp3] at HPA HDO;clear HP3 hp3;have hwr:=HWR.out;(have ew8 : IntKind.u8.wrap (y.writes + 1) = (y.writes + 1) % 256:=by simp [IntKind.wrap,IntKind.bits,IntKind.signed]);(have ew9 : IntKind.u8.wrap ((y.writes + 1) / 256) = (y.writes + 1) / 256 % 256:=by simp [IntKind.wrap,IntKind.bits,IntKind.signed]);(go_upto_region 11 with fail);obtain ⟨wb,hwb⟩ : ∃ W,W = wa.setCell ⟨tb,5,none⟩ (.int .i64 (y.writes + 1)):=⟨_,rfl⟩;rw [← hwb];have HA2 : Hid (TaleW P own w0 wb tb ob db v { y with writes:=y.writes + 1 }):=Hd (by rw [hwb];exact HA.out.set 5 _ _ rfl rfl);have HTW : Hid (Turn (fun g => own g ≠ 0 ∨ g = tb) wa wb):=Hd (by rw [hwb];exact Turn.setOne wa tb 5 _ (.inr rfl));(have g2 : wb.cell? ⟨xb,2,none⟩ = some (.int .i64 x.a):=by rw [hwb];exact (HX.out.far (p:=⟨tb,5,none⟩) hoxb _).cell 2);have g5 : wb.cell? ⟨tb,5,none⟩ = some (.int .i64 (y.writes + 1)):=HA2.out.t_.cell 5;(have hxb5 : xb < wb.heap.size:=by rw [hwb];simpa using hxl);(have htb5 : tb < wb.heap.size:=by rw [hwb];simpa using hal);clear hwb q0 q4 q5 q6 s0 s1 s2 s3 f5;refine phase.gH (fun W => W.cell? ⟨xb,2,none⟩ = some (.int .i64 x.a) ∧ W.cell? ⟨tb,5,none⟩ = some (.int .i64 (y.writes + 1))) (fun i => decide (0 ≤ i) && decide (i < 18)) 19 ?_;obtain ⟨wd,hwd⟩ : ∃ W,W = wb.drew:=⟨_,rfl⟩;have HS : Hid ((fun W => W.cell? ⟨xb,2,none⟩ = some (.int .i64 x.a) ∧ W.cell? ⟨tb,5,none⟩ = some (.int .i64 (y.writes + 1))) wd):=Hd (by rw [hwd];exact ⟨g2,g5⟩);have HAD : Hid (TaleW P own w0 wd tb ob db v { y with writes:=y.writes + 1 }):=Hd (by rw [hwd];exact HA2.out.below (Below.refl _ _).drew);have HTD : Hid (Turn (fun g => own g ≠ 0 ∨ g = tb) wa wd):=Hd (by rw [hwd];exact HTW.out.drew);(have hxd : xb < wd.heap.size:=by rw [hwd];exact hxb5);(have htd : tb < wd.heap.size:=by rw [hwd];exact htb5);rw [← hwd];clear hwd g2 g5 HA2 HTW;refine phase.gN 0 46 (.pointer (some ⟨ob,0,none⟩)) [] HS.out ?_;dsimp only [List.set];refine phase.gN 1 47 (.int .i64 k) [] HS.out ?_;dsimp only [List.set];refine phase.gN 2 48 (.pointer (some ⟨xb,2,none⟩)) [3,4] HS.out ?_;dsimp only [List.set];refine phase.gN 3 49 (.int .i64 x.a) [4] HS.out ?_ (hy:=(fun W' hW' => by have e1:=hW'.1;go_simp));dsimp only [List.set];refine phase.gN 5 51 (.pointer (some ⟨tb,0,none⟩)) [6,7,8,9,16,17] HS.out ?_;dsimp only [List.set];refine phase.gN 6 52 (.pointer (some ⟨tb,0,none⟩)) [7,8,9,16,17] HS.out ?_;dsimp only [List.set];refine phase.gN 7 53 (.pointer (some ⟨tb,5,none⟩)) [8,9,16,17] HS.out ?_;dsimp only [List.set];refine phase.gN 8 54 (.int .i64 (y.writes + 1)) [9,16,17] HS.out ?_ (hy:=(fun W' hW' => by have e1:=hW'.2;go_simp));dsimp only [List.set];refine phase.gN 9 55 (.int .u8 ((y.writes + 1) % 256)) [16,17] HS.out ?_;dsimp only [List.set];refine phase.gN 10 56 (.pointer (some ⟨tb,0,none⟩)) [11,12,13,14,15,16,17] HS.out ?_;dsimp only [List.set];refine phase.gN 11 57 (.pointer (some ⟨tb,0,none⟩)) [12,13,14,15,16,17] HS.out ?_;dsimp only [List.set];refine phase.gN 12 58 (.pointer (some ⟨tb,5,none⟩)) [13,14,15,16,17] HS.out ?_;dsimp only [List.set];refine phase.gN 13 59 (.int .i64 (y.writes + 1)) [14,15,16,17] HS.out ?_ (hy:=(fun W' hW' => by have e1:=hW'.2;go_simp));dsimp only [List.set];refine phase.gN 14 60 (.int .i64 ((y.writes + 1) / 256)) [15,16,17] HS.out ?_;dsimp only [List.set];refine phase.gN 15 61 (.int .u8 ((y.writes + 1) / 256 % 256)) [16,17] HS.out ?_;dsimp only [List.set];refine phase.eachN (l:=[4,16]) (by kernel_rfl) (by decide) fun i hi => ?_;simp only [List.mem_cons,List.not_mem_nil,or_false] at hi;rcases hi with rfl | rfl
   ·refine ⟨_,by simp only [List.getElem?_toArray,List.getElem?_cons_succ,List.getElem?_cons_zero];exact rfl,fun K hK => ?_⟩
    refine (if_pos (by rfl)).mpr ?_
    go_simp
    refine (HPA.out _).mono ?_
    rintro e w3 ⟨rfl,rfl⟩
    refine hK.out _ _ (fun _ => HS.out) ?_
    clear hK K
    dsimp only [List.set]
    refine phase.g1 16 fun K hK => ?_
    go_simp
    obtain ⟨gb,hgb⟩ : ∃ gb,gb = wd.heap.size:=⟨_,rfl⟩
    obtain ⟨wc,hwc⟩ : ∃ W,W = wd.alloc (.cells #[.int .u8 119,.int .u8 ((y.writes + 1) % 256),.int .u8 ((y.writes + 1) / 256 % 256)] 5):=⟨_,rfl⟩
    rw [← hwc,← hgb]
    have HRB : Hid (wc.ownsRow 0 5 1 (.slice (some ⟨gb,0,none⟩) 3 3) 3 (Lib.byteCells (text (y.writes + 1)))):=Hd (by rw [text_cells,hwc,hgb];exact owns_new (l:=[.int .u8 119,.int .u8 ((y.writes + 1) % 256),.int .u8 ((y.writes + 1) / 256 % 256)]) (Has.new wd _) (Nat.zero_le _) rfl (by unfold maxLen;omega))
    have hbc : Below wd.heap.size wd wc:=by rw [hwc];exact (Below.refl _ _).alloc (Nat.le_refl _) _
    have HBC:=Hd hbc
    have HS' : Hid ((fun W => W.cell? ⟨xb,2,none⟩ = some (.int .i64 x.a) ∧ W.cell? ⟨tb,5,none⟩ = some (.int .i64 (y.writes + 1))) wc):=Hd ⟨(hbc.cell (p:=⟨xb,2,none⟩) hxd).trans HS.out.1,(hbc.cell (p:=⟨tb,5,none⟩) htd).trans HS.out.2⟩
    clear hwc hgb hbc HS
    have HS:=HS'
    clear HS'
    refine hK.out _ _ (fun _ => HS.out) ?_
    clear hK K
    dsimp only [List.set]
    refine phase.g1 17 fun K hK => ?_
    have hcv:=unq.convert_own HRB.out rfl
    go_simp
    clear hcv
    refine hK.out _ _ (fun _ => HS.out) ?_
    clear hK K
    dsimp only [List.set]
    refine phase.g1 18 fun K hK => ?_
    have HWC:=Hd (Write_w wc k p3 (text (y.writes + 1)) HF.out.inv (by have:=hbb.out;omega) HF.out.idx (by have:=HF.out.evs;have:=hbb.out;omega) ((HAD.out.below HBC.out).world))
    go_simp
    refine HWC.out.mono ?_
    rintro e w4 ⟨rfl,hs⟩
    have HSW:=Hd hs
    clear hs
    refine hK.out _ _ (fun h => absurd h (by decide)) ?_
    clear hK K
    dsimp only [List.set]
    refine phase.gD ?_
    go_wp2_with fail
    go_end0
    rw [HDO.out];obtain ⟨own5,v5,z1,z2,z3⟩:=Told.ahead HBC.out ((HAD.out.below HBC.out).told HSW.out);exact ⟨rfl,Told.ahead HB1.out ⟨own5,v5,z1,fun g hg => z2 g (Nat.lt_of_lt_of_le hg HTD.out.size),HTD.out.trans z3 fun _ _ e => e⟩⟩
   ·refine ⟨_,by simp only [List.getElem?_toArray,List.getElem?_cons_succ,List.getElem?_cons_zero];exact rfl,fun K hK => ?_⟩;refine (if_pos (by rfl)).mpr ?_;go_simp;obtain ⟨gb,hgb⟩ : ∃ gb,gb = wd.heap.size:=⟨_,rfl⟩;obtain ⟨wc,hwc⟩ : ∃ W,W = wd.alloc (.cells #[.int .u8 119,.int .u8 ((y.writes + 1) % 256),.int .u8 ((y.writes + 1) / 256 % 256)] 5):=⟨_,rfl⟩;rw [← hwc,← hgb];have HRB : Hid (wc.ownsRow 0 5 1 (.slice (some ⟨gb,0,none⟩) 3 3) 3 (Lib.byteCells (text (y.writes + 1)))):=Hd (by rw [text_cells,hwc,hgb];exact owns_new (l:=[.int .u8 119,.int .u8 ((y.writes + 1) % 256),.int .u8 ((y.writes + 1) / 256 % 256)]) (Has.new wd _) (Nat.zero_le _) rfl (by unfold maxLen;omega));(have hbc : Below wd.heap.size wd wc:=by rw [hwc];exact (Below.refl _ _).alloc (Nat.le_refl _) _);have HBC:=Hd hbc;have HS' : Hid ((fun W => W.cell? ⟨xb,2,none⟩ = some (.int .i64 x.a) ∧ W.cell? ⟨tb,5,none⟩ = some (.int .i64 (y.writes + 1))) wc):=Hd ⟨(hbc.cell (p:=⟨xb,2,none⟩) hxd).trans HS.out.1,(hbc.cell (p:=⟨tb,5,none⟩) htd).trans HS.out.2⟩;clear hwc hgb hbc HS;have HS:=HS';clear HS';refine hK.out _ _ (fun _ => HS.out) ?_;clear hK K;dsimp only [List.set];refine phase.eachN (l:=[4,17]) (by kernel_rfl) (by decide) fun i hi => ?_;simp only [List.mem_cons,List.not_mem_nil,or_false] at hi;rcases hi with rfl | rfl
    ·refine ⟨_,by simp only [List.getElem?_toArray,List.getElem?_cons_succ,List.getElem?_cons_zero];exact rfl,fun K hK => ?_⟩
     refine (if_pos (by rfl)).mpr ?_
     go_simp
     refine (HPA.out _).mono ?_
     rintro e w3 ⟨rfl,rfl⟩
     refine hK.out _ _ (fun _ => HS.out) ?_
     clear hK K
     dsimp only [List.set]
     refine phase.g1 17 fun K hK => ?_
     have hcv:=unq.convert_own HRB.out rfl
     go_simp
     clear hcv
     refine hK.out _ _ (fun _ => HS.out) ?_
     clear hK K
     dsimp only [List.set]
     refine phase.g1 18 fun K hK => ?_
     have HWC:=Hd (Write_w wc k p3 (text (y.writes + 1)) HF.out.inv (by have:=hbb.out;omega) HF.out.idx (by have:=HF.out.evs;have:=hbb.out;omega) ((HAD.out.below HBC.out).world))
     go_simp
     refine HWC.out.mono ?_
     rintro e w4 ⟨rfl,hs⟩
     have HSW:=Hd hs
     clear hs
     refine hK.out _ _ (fun h => absurd h (by decide)) ?_
     clear hK K
     dsimp only [List.set]
     refine phase.gD ?_
     go_wp2_with fail
     go_end0
     rw [HDO.out];obtain ⟨own5,v5,z1,z2,z3⟩:=Told.ahead HBC.out ((HAD.out.below HBC.out).told HSW.out);exact ⟨rfl,Told.ahead HB1.out ⟨own5,v5,z1,fun g hg => z2 g (Nat.lt_of_lt_of_le hg HTD.out.size),HTD.out.trans z3 fun _ _ e => e⟩⟩
    ·refine ⟨_,by simp only [List.getElem?_toArray,List.getElem?_cons_succ,List.getElem?_cons_zero];exact rfl,fun K hK => ?_⟩
     refine (if_pos (by rfl)).mpr ?_
     have hcv:=unq.convert_own HRB.out rfl
     go_simp
     clear hcv
     refine hK.out _ _ (fun _ => HS.out) ?_
     clear hK K
     dsimp only [List.set]
     refine phase.g1 4 fun K hK => ?_
     go_simp
     refine (HPA.out _).mono ?_
     rintro e w3 ⟨rfl,rfl⟩
     refine hK.out _ _ (fun _ => HS.out) ?_
     clear hK K
     dsimp only [List.set]
     refine phase.g1 18 fun K hK => ?_
     have HWC:=Hd (Write_w wc k p3 (text (y.writes + 1)) HF.out.inv (by have:=hbb.out;omega) HF.out.idx (by have:=HF.out.evs;have:=hbb.out;omega) ((HAD.out.below HBC.out).world))
     go_simp
     refine HWC.out.mono ?_
     rintro e w4 ⟨rfl,hs⟩
     have HSW:=Hd hs
     clear hs
     refine hK.out _ _ (fun h => absurd h (by decide)) ?_
     clear hK K
     dsimp only [List.set]
     refine phase.gD ?_
     go_wp2_with fail
     go_end0
     rw [HDO.out];obtain ⟨own5,v5,z1,z2,z3⟩:=Told.ahead HBC.out ((HAD.out.below HBC.out).told HSW.out);exact ⟨rfl,Told.ahead HB1.out ⟨own5,v5,z1,fun g hg => z2 g (Nat.lt_of_lt_of_le hg HTD.out.size),HTD.out.trans z3 fun _ _ e => e⟩⟩
  have d1 : decide (x.what = 1) = false:=decide_eq_false hj;have N1:=Hd hj;clear hj;by_cases hj : x.what = 2
  ·have d2 : decide (x.what = 2) = true:=decide_eq_true hj
   have HDO : Hid (keep.does x y = { y with r:=(y.r.again (keep.pick x.k y.n)).2 }):=Hd (by unfold keep.does;rw [if_neg N0.out,if_neg N1.out,if_pos hj])
   rw [← HKK.out] at HDO
   have HC:=Hd (Again_w wa k HF.out.inv (by have:=hbb.out;omega) HA.out.world)
   go_wp2_with ((go_at_call 17;refine HC.out.mono ?_;rintro e w4 ⟨rfl,hs⟩))
   go_end0
   rw [HDO.out];exact ⟨rfl,Told.ahead HB1.out (HA.out.told hs)⟩
  have d2 : decide (x.what = 2) = false:=decide_eq_false hj;have N2:=Hd hj;clear hj;by_cases hj : x.what = 3
  ·have d3 : decide (x.what = 3) = true:=decide_eq_true hj
   have HDO : Hid (keep.does x y = { y with r:=(y.r.deliver (index x y.r)).2 }):=Hd (by unfold keep.does;rw [if_neg N0.out,if_neg N1.out,if_neg N2.out,if_pos hj])
   rw [← HIX.out] at HDO
   have HC:=Hd (Deliver_w wa ix HF.out.inv HF.out.idx HF.out.tos HA.out.world)
   go_wp2_with ((go_at_call 18;refine HC.out.mono ?_;rintro e w4 ⟨rfl,hs⟩))
   go_end0
   rw [HDO.out];exact ⟨rfl,Told.ahead HB1.out (HA.out.told hs)⟩
  have d3 : decide (x.what = 3) = false:=decide_eq_false hj;have N3:=Hd hj;clear hj;by_cases hj : x.what = 4
  ·have d4 : decide (x.what = 4) = true:=decide_eq_true hj
   have HDO : Hid (keep.does x y = { y with r:=(y.r.lose (index x y.r)).2 }):=Hd (by unfold keep.does;rw [if_neg N0.out,if_neg N1.out,if_neg N2.out,if_neg N3.out,if_pos hj])
   rw [← HIX.out] at HDO
   have HC:=Hd (Lose_w wa ix HA.out.world)
   go_wp2_with ((go_at_call 19;refine HC.out.mono ?_;rintro e w4 ⟨rfl,hs⟩))
   go_end0
   rw [HDO.out];exact ⟨rfl,Told.ahead HB1.out (HA.out.told hs)⟩
  have d4 : decide (x.what = 4) = false:=decide_eq_false hj;have N4:=Hd hj;clear hj;by_cases hj : x.what = 5
  ·have d5 : decide (x.what = 5) = true:=decide_eq_true hj
   have HDO : Hid (keep.does x y = { y with r:=(y.r.twice (index x y.r)).2 }):=Hd (by unfold keep.does;rw [if_neg N0.out,if_neg N1.out,if_neg N2.out,if_neg N3.out,if_neg N4.out,if_pos hj])
   rw [← HIX.out] at HDO
   have HC:=Hd (Twice_w wa ix HA.out.world)
   go_wp2_with ((go_at_call 20;refine HC.out.mono ?_;rintro e w4 ⟨rfl,hs⟩))
   go_end0
   rw [HDO.out];exact ⟨rfl,Told.ahead HB1.out (HA.out.told hs)⟩
  have d5 : decide (x.what = 5) = false:=decide_eq_false hj;have N5:=Hd hj;clear hj;by_cases hj : x.what = 6
  ·have d6 : decide (x.what = 6) = true:=decide_eq_true hj
   have HDO : Hid (keep.does x y = { y with r:=(y.r.goes (times (keep.pick x.a 12) y.t.drift (y.n.toNat + 1) x.b)).2 }):=Hd (by unfold keep.does;rw [if_neg N0.out,if_neg N1.out,if_neg N2.out,if_neg N3.out,if_neg N4.out,if_neg N5.out,if_pos hj])
   have HC:=Hd (goes_t wa x.a x.b HA.out HDN.out.1 HDN.out.2 HF.out)
   go_wp2_with ((go_at_call 21;refine HC.out.mono ?_;rintro e w4 ⟨rfl,hs⟩))
   go_end0
   rw [HDO.out];exact ⟨rfl,Told.ahead HB1.out (HA.out.told hs)⟩
  have d6 : decide (x.what = 6) = false:=decide_eq_false hj;have N6:=Hd hj;clear hj;by_cases hj : x.what = 7
  ·have d7 : decide (x.what = 7) = true:=decide_eq_true hj;have HDO : Hid (keep.does x y = { y with r:=y.r.fails (keep.pick x.a 3) (keep.pick x.b 60 - 1) }):=Hd (by unfold keep.does;rw [if_neg N0.out,if_neg N1.out,if_neg N2.out,if_neg N3.out,if_neg N4.out,if_neg N5.out,if_neg N6.out,if_pos hj]);have HC:=Hd (Fails_w wa (keep.pick x.a 3) (keep.pick x.b 60 - 1) HA.out.world);obtain ⟨p3,hp3⟩ : ∃ z,z = keep.pick x.a 3:=⟨_,rfl⟩;obtain ⟨z60,hz60⟩ : ∃ z,z = keep.pick x.b 60:=⟨_,rfl⟩;have HPA:=Hd (HP3.out x.a);have HPB:=Hd (HP60.out x.b);rw [← hp3] at HC HPA HDO;rw [← hz60] at HC HPB HDO p60;clear HP3 HP60 hp3 hz60;(have ewz : IntKind.i64.wrap (z60 - 1) = z60 - 1:=by simp only [IntKind.wrap_i64];omega);(go_upto_region 23 with fail);refine last.headH (fun W => W.cell? ⟨xb,2,none⟩ = some (.int .i64 x.a) ∧ W.cell? ⟨xb,3,none⟩ = some (.int .i64 x.b)) 8 9 ⟨s2,s3⟩ fun HS => ?_;refine last.many [(0,95,_)] HS.out ?_;refine last.goT [3,2,1] 1 96 (.pointer (some ⟨xb,2,none⟩)) HS.out ?_;dsimp only [List.set];refine last.goT [3,2] 2 97 (.int .i64 x.a) HS.out ?_ (hy:=(fun W' hW' => by have e1:=hW'.1;go_simp));dsimp only [List.set];refine last.goT [6,5,4] 4 99 (.pointer (some ⟨xb,3,none⟩)) HS.out ?_;dsimp only [List.set];refine last.goT [6,5] 5 100 (.int .i64 x.b) HS.out ?_ (hy:=(fun W' hW' => by have e1:=hW'.2;go_simp));dsimp only [List.set];refine last.one 3 fun K hK => ?_;go_simp;refine (HPA.out _).mono ?_;rintro e w3 ⟨rfl,rfl⟩;refine hK.out _ _ (fun _ => HS.out) ?_;clear hK K;refine last.one 6 fun K hK => ?_;go_simp;refine (HPB.out _).mono ?_;rintro e w3 ⟨rfl,rfl⟩;refine hK.out _ _ (fun _ => HS.out) ?_;clear hK K;refine last.one 7 fun K hK => ?_;go_simp
   try rw [ewz]
   refine hK.out _ _ (fun _ => HS.out) ?_
   clear hK K
   refine last.one 8 fun K hK => ?_
   go_simp
   refine (Fails_w wa.drew p3 (z60 - 1) (HA.out.below (Below.refl _ _).drew).world).mono ?_
   rintro e w4 ⟨rfl,h4,ht4⟩
   refine hK.out _ _ (fun h => absurd rfl h) ?_
   clear hK K
   refine last.done ?_
   go_wp2_with fail
   go_end0
   rw [HDO.out];(have ht5:=ht4.mono (S':=fun g => own g ≠ 0) fun g _ e => by unfold SrvSet at e;omega);have hs : wor.Stepped P own w0 ob db wa (y.r.fails p3 (z60 - 1)) w4:=⟨own,v,h4,Ext.refl _ _,(Turn.refl _ wa).drew.trans ht5 fun _ _ e => e⟩;exact ⟨rfl,Told.ahead HB1.out (HA.out.told hs)⟩
  have d7 : decide (x.what = 7) = false:=decide_eq_false hj;have N7:=Hd hj;clear hj;by_cases hj : x.what = 8
  ·have d8 : decide (x.what = 8) = true:=decide_eq_true hj
   have HDO : Hid (keep.does x y = { y with r:=y.r.crash }):=Hd (by unfold keep.does;rw [if_neg N0.out,if_neg N1.out,if_neg N2.out,if_neg N3.out,if_neg N4.out,if_neg N5.out,if_neg N6.out,if_neg N7.out,if_pos hj])
   have HC:=Hd (Crash_w wa HA.out.world)
   go_wp2_with ((go_at_call 23;refine HC.out.mono ?_;rintro e w4 ⟨rfl,⟨v4,h4⟩,ht4⟩))
   go_end0
   rw [HDO.out];have hs : wor.Stepped P own w0 ob db wa y.r.crash w4:=⟨own,v4,h4,Ext.refl _ _,HA.out.world.obT ht4⟩;exact ⟨rfl,Told.ahead HB1.out (HA.out.told hs)⟩
  have d8 : decide (x.what = 8) = false:=decide_eq_false hj;have N8:=Hd hj;clear hj;by_cases hj : x.what = 9
  ·have d9 : decide (x.what = 9) = true:=decide_eq_true hj
   have HDO : Hid (keep.does x y = { y with r:=y.r.restart.2 }):=Hd (by unfold keep.does;rw [if_neg N0.out,if_neg N1.out,if_neg N2.out,if_neg N3.out,if_neg N4.out,if_neg N5.out,if_neg N6.out,if_neg N7.out,if_neg N8.out,if_pos hj])
   have HC:=Hd (Restart_w wa HA.out.world)
   go_wp2_with ((go_at_call 24;refine HC.out.mono ?_;rintro e w4 ⟨rfl,hs⟩))
   go_end0
   rw [HDO.out];exact ⟨rfl,Told.ahead HB1.out (HA.out.told hs)⟩
  have d9 : decide (x.what = 9) = false:=decide_eq_false hj;have N9:=Hd hj;clear hj;by_cases hj : x.what = 10
  ·have d10 : decide (x.what = 10) = true:=decide_eq_true hj
   have HDO : Hid (keep.does x y = { y with r:=(y.r.reborn (keep.pick x.k y.n)).2 }):=Hd (by unfold keep.does;rw [if_neg N0.out,if_neg N1.out,if_neg N2.out,if_neg N3.out,if_neg N4.out,if_neg N5.out,if_neg N6.out,if_neg N7.out,if_neg N8.out,if_neg N9.out,if_pos hj])
   rw [← HKK.out] at HDO
   have HC:=Hd (Reborn_w wa k HA.out.world)
   go_wp2_with ((go_at_call 25;refine HC.out.mono ?_;rintro e w4 ⟨rfl,hs⟩))
   go_end0
   rw [HDO.out];exact ⟨rfl,Told.ahead HB1.out (HA.out.told hs)⟩
  have d10 : decide (x.what = 10) = false:=decide_eq_false hj;have N10:=Hd hj;clear hj;by_cases hj : x.what = 11
  ·have d11 : decide (x.what = 11) = true:=decide_eq_true hj
   have HDO : Hid (keep.does x y = { y with r:=Realm.calmN (keep.pick x.a 4).toNat y.r }):=Hd (by unfold keep.does;rw [if_neg N0.out,if_neg N1.out,if_neg N2.out,if_neg N3.out,if_neg N4.out,if_neg N5.out,if_neg N6.out,if_neg N7.out,if_neg N8.out,if_neg N9.out,if_neg N10.out,if_pos hj])
   obtain ⟨m,hm⟩ : ∃ m : Nat,keep.pick x.a 4 = m:=⟨(keep.pick x.a 4).toNat,by omega⟩
   have HPA:=Hd (HP4.out x.a)
   rw [hm] at HPA HDO p4
   rw [Int.toNat_natCast] at HDO
   have HC:=Hd (Calm_w wa m (by omega) (b:=b) (G:=G) ⟨HF.out.inv,HF.out.idx,HF.out.tos,HF.out.clk⟩ (by have:=hbb.out;omega) HA.out.world)
   clear HP4 hm
   go_wp2_with (first | (go_at_call 16;refine (HPA.out _).mono ?_;rintro e w3 ⟨rfl,rfl⟩) | (go_at_call 12;refine HC.out.mono ?_;rintro e w4 ⟨rfl,hs⟩))
   go_end0
   rw [HDO.out];exact ⟨rfl,Told.ahead HB1.out (HA.out.told hs)⟩
  have d11 : decide (x.what = 11) = false:=decide_eq_false hj
  have N11:=Hd hj
  clear hj
  have m0:=N0.out
  have m1:=N1.out
  have m2:=N2.out
  have m3:=N3.out
  have m4:=N4.out
  have m5:=N5.out
  have m6:=N6.out
  have m7:=N7.out
  have m8:=N8.out
  have m9:=N9.out
  have m10:=N10.out
  have m11:=N11.out
  have HDO : Hid (keep.does x y = y):=Hd (by unfold keep.does;rw [if_neg N0.out,if_neg N1.out,if_neg N2.out,if_neg N3.out,if_neg N4.out,if_neg N5.out,if_neg N6.out,if_neg N7.out,if_neg N8.out,if_neg N9.out,if_neg N10.out,if_neg N11.out])
  go_wp2_with fail
  go_end0
  rw [HDO.out];exact ⟨rfl,Told.ahead HB1.out HA.out.here⟩
end
end kp
end Go.Proofs.YtefkmcjhgoagcaaGreatDoor
