/-
  A part of the proof of the law WorldLasts: SrvE, SrvF, SrvG, SrvH, SrvI, ClA.
-/
import Derived.Deep.LoopGhost
import Derived.Test.YtefkmcjhgoagcaaGreatDoorHd
import Derived.Test.YtefkmcjhgoagcaaGreatDoorP13
import Derived.Test.YtefkmcjhgoagcaaGreatDoorP23
namespace Go.Proofs.YtefkmcjhgoagcaaGreatDoor
namespace srv
open Go.RowKit heap own recs errs mapof wal tab wire
open model (Rec Disk Val Wr Server Table Terms inR seek put del)
theorem Add_t (x y : Int) (w : World) : Calls Tryz.prog 93 #[.int .i64 x,.int .i64 y] w fun e w' => ∃ ev,e = .returned (.tuple #[.int .i64 (model.addT x y),ev]) ∧ w = w':=by
 by_cases h : 0 ≤ x ∧ x ≤ 1099511627776 ∧ 0 ≤ y ∧ y ≤ 1099511627776
 ·have e : model.addT x y = min (x + y) 1099511627776:=by
   unfold model.addT;rw [if_pos (by rw [Bool.and_eq_true,tab.inR_iff,tab.inR_iff,wire.maxTime_eq];omega)];rfl
  rw [e];exact (clock.Add_yes x y w h.1 h.2.1 h.2.2.1 h.2.2.2).mono fun _ _ ⟨h1,h2⟩ => ⟨_,h1,h2⟩
 ·have e : model.addT x y = 0:=by
   unfold model.addT;rw [if_neg (by rw [Bool.and_eq_true,tab.inR_iff,tab.inR_iff,wire.maxTime_eq];omega)]
  rw [e];exact (clock.Add_no x y w h).mono fun _ _ ⟨h1,h2⟩ => ⟨_,h1,h2⟩
section
variable {P : Lib.PrintTabs} {own : Nat → Nat} {w0 : World} {sb db wb dm tb tm : Nat} {v : Value} {ps : List ByteArray} {qs : List Value} {d : Disk} {s : Server}
theorem SrvW.setTable {w w' : World} (h : SrvW P own w0 w sb db wb dm tb tm v ps qs d s) (ht : Turn (fun g => g = tb ∨ g = tm) w w') (t : Table) (hT : TabM w' tb tm t) : SrvW P own w0 w' sb db wb dm tb tm v ps qs d { s with table:=t }:=by
 have ne : ∀ g k,own g = k → k ≠ 6 → k ≠ 7 → ¬ (g = tb ∨ g = tm):=fun g k hk h4 h5 e => by
  rcases e with e | e
  ·rw [e,h.otb] at hk;exact h4 hk.symm
  ·rw [e,h.otm] at hk;exact h5 hk.symm
 refine ⟨h.kit0,h.hdl0,h.bel.trans (ht.to_below h.le fun k hk e => ?_),h.low,fun g hg => h.fr g (Nat.le_trans ht.size hg),h.wal.turn ht (ne _ 3 h.wal.ow (by decide) (by decide)) fun k hk => ne k 2 hk (by decide) (by decide),h.dsk.turn ht (ne _ 1 h.odb (by decide) (by decide)),h.pls,h.odb,ht.has h.s_ (ne _ 4 h.osb (by decide) (by decide)),h.osb,⟨h.nv,h.nq,h.ok.qc,h.ok.dk,h.ok.rc,h.ok.ql⟩,h.lq,fun o ho => (h.queue o ho).keep ht (Ext.refl _ _) fun k _ hk => ne k _ hk (by omega) (by omega),h.done.turn ht (ne _ 5 h.odm (by decide) (by decide)),h.odm,hT,h.otb,h.otm⟩;have h1:=h.low tb ⟨by rw [h.otb];decide,by rw [h.otb];decide⟩;have h2:=h.low tm ⟨by rw [h.otm];decide,by rw [h.otm];decide⟩;omega
set_option maxHeartbeats 2000000 in
set_option maxRecDepth 100000 in
theorem reads_s (w : World) (m : Msg) (o : Nat) (ho : o < 8) (hmo : m.object = o) (hmc : 0 ≤ m.client ∧ m.client < 4) (h : SrvW P own w0 w sb db wb dm tb tm v ps qs d s) :
 Calls Tryz.prog 71 #[.pointer (some ⟨sb,0,none⟩),m.val] w fun e w' => ∃ u,e = .returned u ∧ MsgsAt w.heap.size w' u (s.reads m).1 ∧ SrvW P own w0 w' sb db wb dm tb tm v ps qs d (s.reads m).2 ∧ Turn (fun g => g = tb ∨ g = tm) w w':=by
 obtain ⟨mk,mc,mn,me,ms,mo,mv,ml,md⟩:=m;dsimp only at hmo hmc;subst hmo;obtain ⟨W1,hW1⟩ : ∃ W1,W1 = w.alloc (.cells (msgCells mk mc mn me ms o mv ml ⟨md.toArray⟩) 93):=⟨_,rfl⟩;(have hb1 : Below w.heap.size w W1:=by rw [hW1];exact (Below.refl _ _).alloc (Nat.le_refl _) _);(have hs1 : W1.heap.size = w.heap.size + 1:=by rw [hW1];simp);(have hx1 : Has W1 w.heap.size (.cells (msgCells mk mc mn me ms o mv ml ⟨md.toArray⟩) 93):=by rw [hW1];exact Has.new w _);have h1:=h.below hb1;have hlt:=h.s_.lt;have x5 : W1.cell? ⟨w.heap.size,5,none⟩ = some (.int .i64 o):=hx1.cell 5;have c0:=(h1.cellV o ho).1;have c1:=(h1.cellV o ho).2;(have ho8 : (o : Int) < 8:=by omega);have hne : w.heap.size ≠ sb:=Nat.ne_of_gt hlt;have H:=Hd h;have H1:=Hd h1;have HX:=Hd hx1;have HB:=Hd hb1;unfold Msg.val;dsimp only;clear h h1 hx1 hb1;(go_enter Tryz.func71,Tryz.ntmps71);go_wp2;rw [← hW1];clear hW1;(go_region_held3 (fun W => W.cell? ⟨w.heap.size,5,none⟩ = some (.int .i64 o) ∧ W.cell? ⟨sb,4 + o * 2,none⟩ = some (.string ⟨(s.value o).data.toArray⟩) ∧ W.cell? ⟨sb,4 + o * 2 + 1,none⟩ = some (.int .i64 (s.value o).ver)) (go_keep) (fail));obtain ⟨W2,hW2⟩ : ∃ W2,W2 = (W1.alloc (.cells #[.string ⟨(s.value o).data.toArray⟩,.int .i64 (s.value o).ver] 37)).drew:=⟨_,rfl⟩;(have hb2 : Below w.heap.size w W2:=by rw [hW2];exact (HB.out.alloc HB.out.size _).drew);(have hs2 : W2.heap.size = w.heap.size + 2:=by rw [hW2];show (W1.alloc _).heap.size = _;rw [World.size_alloc,hs1]);(have hx2 : Has W2 w.heap.size (.cells (msgCells mk mc mn me ms o mv ml ⟨md.toArray⟩) 93):=by rw [hW2];exact (HX.out.alloc _).drew);(have hv2 : Has W2 (w.heap.size + 1) (.cells #[.string ⟨(s.value o).data.toArray⟩,.int .i64 (s.value o).ver] 37):=by rw [hW2,← hs1];exact (Has.new W1 _).drew);have h2:=H.out.below hb2;have y1 : W2.cell? ⟨w.heap.size,1,none⟩ = some (.int .i64 mc):=hx2.cell 1;have y2 : W2.cell? ⟨w.heap.size,2,none⟩ = some (.int .i64 mn):=hx2.cell 2;have y5 : W2.cell? ⟨w.heap.size,5,none⟩ = some (.int .i64 o):=hx2.cell 5;have v0 : W2.cell? ⟨w.heap.size + 1,0,none⟩ = some (.string ⟨(s.value o).data.toArray⟩):=hv2.cell 0;have v1 : W2.cell? ⟨w.heap.size + 1,1,none⟩ = some (.int .i64 (s.value o).ver):=hv2.cell 1;have H2:=Hd h2;have HX2:=Hd hx2;have HB2:=Hd hb2;rw [← hW2];clear hW2 h2 hx2 hv2 hb2 x5 c0 c1 H1 HX HB;(go_wp2_with fail);refine (stamp_s _ { model.noMsg with kind:=5,client:=mc,number:=mn,object:=o,version:=(s.value o).ver,data:=(s.value o).data } H2.out).mono ?_;rintro e W3 ⟨rfl,hb3⟩;have hs23:=hb3.size;obtain ⟨r,hr⟩ : ∃ r,r = s.stamp { model.noMsg with kind:=5,client:=mc,number:=mn,object:=o,version:=(s.value o).ver,data:=(s.value o).data }:=⟨_,rfl⟩;rw [← hr];obtain ⟨rk,rc,rn,re,rs,ro,rv,rl,rd⟩:=r;have HRR:=Hd hr;unfold Msg.val;dsimp only;have HY3:=Hd (HX2.out.below hb3 HX2.out.lt);have H3:=Hd (H2.out.below hb3);have HB3:=Hd (HB2.out.trans (hb3.mono HB2.out.size));clear hr hb3 y1 y2 y5 v0 v1 H2 HX2 HB2;obtain ⟨W4,hW4⟩ : ∃ W4,W4 = W3.alloc (.cells (msgCells rk rc rn re rs ro rv rl ⟨rd.toArray⟩) 93):=⟨_,rfl⟩;(have hb4 : Below W3.heap.size W3 W4:=by rw [hW4];exact (Below.refl _ _).alloc (Nat.le_refl _) _);have HR4 : Hid (Has W4 W3.heap.size (.cells (msgCells rk rc rn re rs ro rv rl ⟨rd.toArray⟩) 93)):=Hd (by rw [hW4];exact Has.new _ _);have HX4:=Hd (HY3.out.below hb4 HY3.out.lt);have H4:=Hd (H3.out.below hb4);have HB4:=Hd (HB3.out.trans (hb4.mono HB3.out.size));(have hs34 : w.heap.size + 2 ≤ W3.heap.size:=by have:=HY3.out.lt;have:=HB3.out.size;omega);(go_upto_region 3 with fail);rw [← hW4];clear hW4 hb4 HY3 H3;have HKN : Hid (Calls Tryz.prog 91 #[.pointer (some ⟨sb,0,none⟩),.agg (msgCells mk mc mn me ms o mv ml ⟨md.toArray⟩)] W4 fun e w' => e = .returned (.bool (s.knows ⟨mk,mc,mn,me,ms,o,mv,ml,md⟩)) ∧ Below W4.heap.size W4 w'):=Hd (knows_s W4 ⟨mk,mc,mn,me,ms,o,mv,ml,md⟩ H4.out)
 have HRE : Hid ((s.reads ⟨mk,mc,mn,me,ms,o,mv,ml,md⟩) = if !s.knows ⟨mk,mc,mn,me,ms,o,mv,ml,md⟩ then ([⟨rk,rc,rn,re,rs,ro,rv,rl,rd⟩,s.flushMsg mc],s) else if (s.queue o).isEmpty then ([{ (⟨rk,rc,rn,re,rs,ro,rv,rl,rd⟩ : Msg) with lease:=decide ((s.table.object mc o (model.addT s.now s.terms.object)).1 = 0) }],{ s with table:=(s.table.object mc o (model.addT s.now s.terms.object)).2 }) else ([⟨rk,rc,rn,re,rs,ro,rv,rl,rd⟩],s)):=Hd (by
  rw [HRR.out]
  rfl)
 obtain ⟨R,hR⟩ : ∃ R,R = s.reads ⟨mk,mc,mn,me,ms,o,mv,ml,md⟩:=⟨_,rfl⟩
 cases hkn : s.knows ⟨mk,mc,mn,me,ms,o,mv,ml,md⟩ with
 | false =>
  as_aux_lemma =>
   rw [hkn] at HRE HKN
   go_wp2_with (first
    | (refine wpList_load_row rfl 93 (.tmp 3) rfl w.heap.size rfl 93 _ (0,0) _ HX4.out Tryz.underlying93 rfl (by kernel_rfl) ?_)
    | (go_at_call 91;refine HKN.out.mono ?_;rintro e W5 ⟨rfl,hb5⟩))
   have HR5:=Hd (HR4.out.below hb5 HR4.out.lt);have HX5:=Hd (HX4.out.below hb5 HX4.out.lt);have H5:=Hd (H4.out.below hb5);have HB5:=Hd (HB4.out.trans (hb5.mono HB4.out.size));clear hb5 HR4 HX4 H4 HB4;have HS:=Hd (And.intro HR5.out.drew HX5.out.drew);refine last.head (fun W => Has W W3.heap.size (.cells (msgCells rk rc rn re rs ro rv rl ⟨rd.toArray⟩) 93) ∧ Has W w.heap.size (.cells (msgCells mk mc mn me ms o mv ml ⟨md.toArray⟩) 93)) 1000 7 ?_;refine last.many [(0,33,_),(1,34,_),(2,35,_),(3,36,_)] HS.out ?_ (hy:=fun W' hW' => by have e0 : W'.cell? ⟨W3.heap.size,0,none⟩ = some (.int .i64 rk):=hW'.1.cell 0;have e1 : W'.cell? ⟨W3.heap.size,1,none⟩ = some (.int .i64 rc):=hW'.1.cell 1;have e2 : W'.cell? ⟨W3.heap.size,2,none⟩ = some (.int .i64 rn):=hW'.1.cell 2;have e3 : W'.cell? ⟨W3.heap.size,3,none⟩ = some (.int .i64 re):=hW'.1.cell 3;have e4 : W'.cell? ⟨W3.heap.size,4,none⟩ = some (.int .i64 rs):=hW'.1.cell 4;have e5 : W'.cell? ⟨W3.heap.size,5,none⟩ = some (.int .i64 ro):=hW'.1.cell 5;have e6 : W'.cell? ⟨W3.heap.size,6,none⟩ = some (.int .i64 rv):=hW'.1.cell 6;have e7 : W'.cell? ⟨W3.heap.size,7,none⟩ = some (.bool rl):=hW'.1.cell 7;have e8 : W'.cell? ⟨W3.heap.size,8,none⟩ = some (.string ⟨rd.toArray⟩):=hW'.1.cell 8;have f0 : W'.cell? ⟨w.heap.size,1,none⟩ = some (.int .i64 mc):=hW'.2.cell 1;repeat (first | exact .z | refine .s ?_ | refine .k ?_));refine last.one 4 fun K hK => ?_;go_simp;refine (flush_s _ mc (H5.out.below (Below.refl _ _).drew)).mono ?_;rintro e W6 ⟨rfl,hb6⟩;have HS6:=Hd (And.intro (HR5.out.drew.below hb6 HR5.out.drew.lt) (HX5.out.drew.below hb6 HX5.out.drew.lt));have H6:=Hd ((H5.out.below (Below.refl _ _).drew).below hb6);have HB6:=Hd (HB5.out.drew.trans (hb6.mono HB5.out.size));clear hb6;refine hK.out _ _ (fun _ => HS6.out) ?_;clear hK K HS;have HS:=HS6;clear HS6;refine last.one 5 fun K hK => ?_;refine wp_build2 (.tmp 33) (.tmp 37) ⟨rk,rc,rn,re,rs,ro,rv,rl,rd⟩ (s.flushMsg mc) rfl rfl rfl ?_;refine hK.out _ _ (fun _ => ⟨HS.out.1.alloc _,HS.out.2.alloc _⟩) ?_;clear hK K;have HM7:=Hd (MsgsAt.new (w:=W6) (l:=[⟨rk,rc,rn,re,rs,ro,rv,rl,rd⟩,s.flushMsg mc]) (by simp));obtain ⟨W7,hW7⟩ : ∃ W7,W7 = W6.alloc (.cells (([⟨rk,rc,rn,re,rs,ro,rv,rl,rd⟩,s.flushMsg mc] : List Msg).flatMap msgRow).toArray 93):=⟨_,rfl⟩;(have hb7 : Below W6.heap.size W6 W7:=by rw [hW7];exact (Below.refl _ _).alloc (Nat.le_refl _) _);have HS7 : Hid ((fun W => Has W W3.heap.size (.cells (msgCells rk rc rn re rs ro rv rl ⟨rd.toArray⟩) 93) ∧ Has W w.heap.size (.cells (msgCells mk mc mn me ms o mv ml ⟨md.toArray⟩) 93)) W7):=Hd ⟨HS.out.1.below hb7 HS.out.1.lt,HS.out.2.below hb7 HS.out.2.lt⟩;rw [← hW7] at HM7 ⊢;have H7:=Hd (H6.out.below hb7);have HB7:=Hd (HB6.out.trans (hb7.mono HB6.out.size));clear hW7 hb7 HS;have HS:=HS7;refine last.many [(6,4,_)] HS.out ?_;refine last.done ?_;(go_wp2_with fail);go_ret;(have e : s.reads ⟨mk,mc,mn,me,ms,o,mv,ml,md⟩ = ([⟨rk,rc,rn,re,rs,ro,rv,rl,rd⟩,s.flushMsg mc],s):=by rw [HRE.out];rfl);rw [e];exact ⟨_,rfl,HM7.out.base (by have:=HB6.out.size;omega),H7.out,Turn.of_below HB7.out (Nat.le_refl _)⟩
 | true =>
  rw [hkn] at HRE HKN;obtain ⟨qa,qc,hq,-,-⟩:=(H4.out.queue o ho).slice
  cases hqe : (s.queue o).isEmpty with
  | false =>
   as_aux_lemma =>
    rw [hqe] at HRE;have hql : ((s.queue o).length == 0) = false:=by cases hs : s.queue o with | nil => rw [hs] at hqe;cases hqe | cons a b => rfl
    have hqi : (((s.queue o).length : Int) == 0) = false:=by
     (have : (s.queue o).length ≠ 0:=by simpa using hql);exact beq_eq_false_iff_ne.2 (by omega)
    go_wp2_with (first
     | (refine wpList_load_row rfl 93 (.tmp 3) rfl w.heap.size rfl 93 _ (0,0) _ HX4.out Tryz.underlying93 rfl (by kernel_rfl) ?_)
     | (go_at_call 91;refine HKN.out.mono ?_;rintro e W5 ⟨rfl,hb5⟩))
    have HR5:=Hd (HR4.out.below hb5 HR4.out.lt);have HX5:=Hd (HX4.out.below hb5 HX4.out.lt);have H5:=Hd (H4.out.below hb5);have HB5:=Hd (HB4.out.trans (hb5.mono HB4.out.size));(have q5 : W5.cell? ⟨sb,20 + o,none⟩ = some (.slice qa (s.queue o).length qc):=by rw [← hq];exact H5.out.cellQ o ho);have y5 : W5.cell? ⟨w.heap.size,5,none⟩ = some (.int .i64 o):=HX5.out.cell 5;clear hb5 HR4 HX4 H4 HB4 hql hq;(go_quiet (fail));have HR6:=Hd (HR5.out.drewN nq);have H6:=Hd (H5.out.below (below_drewN (Below.refl _ W5) nq));have HB6:=Hd (below_drewN HB5.out nq);clear HR5 HX5 H5 HB5 q5 y5
    go_wp2_with (first
     | (refine wpList_load_row rfl 93 (.tmp 6) rfl W3.heap.size rfl 93 _ (0,0) _ HR6.out Tryz.underlying93 rfl (by kernel_rfl) ?_)
     | (refine wpList_build1 rfl (.tmp 73) ⟨rk,rc,rn,re,rs,ro,rv,rl,rd⟩ rfl rfl ?_))
    go_ret;(have e : s.reads ⟨mk,mc,mn,me,ms,o,mv,ml,md⟩ = ([⟨rk,rc,rn,re,rs,ro,rv,rl,rd⟩],s):=by rw [HRE.out];rfl);rw [e];have hbz:=(Below.refl (W5.drewN nq).heap.size (W5.drewN nq)).alloc (Nat.le_refl _) (.cells (([⟨rk,rc,rn,re,rs,ro,rv,rl,rd⟩] : List Msg).flatMap msgRow).toArray 93);exact ⟨_,rfl,(MsgsAt.new (w:=W5.drewN nq) (l:=[⟨rk,rc,rn,re,rs,ro,rv,rl,rd⟩]) (by simp)).base HB6.out.size,H6.out.below hbz,Turn.of_below (HB6.out.trans (hbz.mono HB6.out.size)) (Nat.le_refl _)⟩
  | true =>
   as_aux_lemma =>
    rw [hqe] at HRE;(have hqi : (((s.queue o).length : Int) == 0) = true:=by rw [List.isEmpty_iff.1 hqe];rfl);obtain ⟨tu,htu⟩ : ∃ tu,tu = model.addT s.now s.terms.object:=⟨_,rfl⟩;(have HADD : Hid (∀ W,Calls Tryz.prog 93 #[.int .i64 s.now,.int .i64 s.terms.object] W fun e w' => ∃ ev,e = .returned (.tuple #[.int .i64 tu,ev]) ∧ W = w'):=Hd fun W => by rw [htu];exact Add_t _ _ W);rw [← htu] at HRE
    go_wp2_with (first
     | (refine wpList_load_row rfl 93 (.tmp 3) rfl w.heap.size rfl 93 _ (0,0) _ HX4.out Tryz.underlying93 rfl (by kernel_rfl) ?_)
     | (go_at_call 91;refine HKN.out.mono ?_;rintro e W5 ⟨rfl,hb5⟩))
    have HR5:=Hd (HR4.out.below hb5 HR4.out.lt);have HX5:=Hd (HX4.out.below hb5 HX4.out.lt);have H5:=Hd (H4.out.below hb5);have HB5:=Hd (HB4.out.trans (hb5.mono HB4.out.size));(have q5 : W5.cell? ⟨sb,20 + o,none⟩ = some (.slice qa (s.queue o).length qc):=by rw [← hq];exact H5.out.cellQ o ho);have y5 : W5.cell? ⟨w.heap.size,5,none⟩ = some (.int .i64 o):=HX5.out.cell 5;clear hb5 HR4 HX4 H4 HB4 hq htu;(go_quiet (fail));obtain ⟨W6,hW6⟩ : ∃ W6,W6 = W5.drewN nq:=⟨_,rfl⟩;have HR6 : Hid (Has W6 W3.heap.size (.cells (msgCells rk rc rn re rs ro rv rl ⟨rd.toArray⟩) 93)):=Hd (by rw [hW6];exact HR5.out.drewN nq);have HX6 : Hid (Has W6 w.heap.size (.cells (msgCells mk mc mn me ms o mv ml ⟨md.toArray⟩) 93)):=Hd (by rw [hW6];exact HX5.out.drewN nq);have H6 : Hid (SrvW P own w0 W6 sb db wb dm tb tm v ps qs d s):=Hd (by rw [hW6];exact H5.out.below (below_drewN (Below.refl _ W5) nq));have HB6 : Hid (Below w.heap.size w W6):=Hd (by rw [hW6];exact below_drewN HB5.out nq);rw [← hW6];clear hW6 HR5 HX5 H5 HB5 q5 y5;have c32 : W6.cell? ⟨sb,32,none⟩ = some (.int .i64 s.now):=H6.out.cellT 4 _ rfl;have c0 : W6.cell? ⟨sb,0,none⟩ = some (.int .i64 s.terms.object):=H6.out.cell0 0 _ rfl;(go_wp2_with fail);(go_region_held3 (fun W => W.cell? ⟨sb,32,none⟩ = some (.int .i64 s.now) ∧ W.cell? ⟨sb,0,none⟩ = some (.int .i64 s.terms.object)) (go_keep) ((go_at_call 93;refine (HADD.out _).mono ?_;rintro e w' ⟨ev,rfl,rfl⟩)));(go_wp2_with fail);obtain ⟨W7,hW7⟩ : ∃ W7,W7 = W6.drew:=⟨_,rfl⟩;have HR7 : Hid (Has W7 W3.heap.size (.cells (msgCells rk rc rn re rs ro rv rl ⟨rd.toArray⟩) 93)):=Hd (by rw [hW7];exact HR6.out.drew);have HX7 : Hid (Has W7 w.heap.size (.cells (msgCells mk mc mn me ms o mv ml ⟨md.toArray⟩) 93)):=Hd (by rw [hW7];exact HX6.out.drew);have H7 : Hid (SrvW P own w0 W7 sb db wb dm tb tm v ps qs d s):=Hd (by rw [hW7];exact H6.out.below (Below.refl _ _).drew);have HB7 : Hid (Below w.heap.size w W7):=Hd (by rw [hW7];exact HB6.out.drew);rw [← hW7];clear hW7 HR6 HX6 H6 HB6 c32 c0;have c29 : W7.cell? ⟨sb,29,none⟩ = some (.pointer (some ⟨tb,0,none⟩)):=H7.out.cellT 1 _ rfl;have z1 : W7.cell? ⟨w.heap.size,1,none⟩ = some (.int .i64 mc):=HX7.out.cell 1;have z5 : W7.cell? ⟨w.heap.size,5,none⟩ = some (.int .i64 o):=HX7.out.cell 5;have hlt7 : sb < W7.heap.size:=H7.out.s_.lt;have hnt : sb ≠ tb ∧ sb ≠ tm:=⟨fun e => (by have h1:=H7.out.osb;rw [e,H7.out.otb] at h1;cases h1),fun e => (by have h1:=H7.out.osb;rw [e,H7.out.otm] at h1;cases h1)⟩;have n1 : ¬ (sb = tb ∨ sb = tm):=fun e => e.elim hnt.1 hnt.2;have hwt : tb < w.heap.size ∧ tm < w.heap.size:=H.out.table.lt;(have n2 : ¬ (w.heap.size = tb ∨ w.heap.size = tm):=by omega);(have n3 : ¬ (W3.heap.size = tb ∨ W3.heap.size = tm):=by omega);have hw7 : w.heap.size < W7.heap.size:=HX7.out.lt;have hw3 : W3.heap.size < W7.heap.size:=HR7.out.lt;obtain ⟨T',hT'⟩ : ∃ T' : Int × Table,T' = s.table.object mc o tu:=⟨_,rfl⟩;have HOB:=Hd (Object_m mc o tu H7.out.table.drew (WalkArith.wf_i64 (by omega)) (WalkArith.wf_i64 (by omega)));rw [← hT'] at HRE HOB;obtain ⟨ev,hev⟩ : ∃ ev,ev = errV T'.1:=⟨_,rfl⟩;rw [← hev] at HOB;obtain ⟨bb,hbb⟩ : ∃ bb,bb = decide (T'.1 = 0):=⟨_,rfl⟩;rw [← hbb] at HRE
    have hev2 : ev = if bb then .nilIface else .iface 69 (.int .i64 T'.1):=by
     rw [hev,hbb];unfold errV;by_cases h0 : T'.1 = 0 <;> simp [h0]
    have HS3 : ∀ (W : World) (u : Value),(W.cell? ⟨sb,29,none⟩ = some (.pointer (some ⟨tb,0,none⟩)) ∧ W.cell? ⟨w.heap.size,1,none⟩ = some (.int .i64 mc) ∧ W.cell? ⟨w.heap.size,5,none⟩ = some (.int .i64 o)) → ((W.setCell ⟨W3.heap.size,7,none⟩ u).cell? ⟨sb,29,none⟩ = some (.pointer (some ⟨tb,0,none⟩)) ∧ (W.setCell ⟨W3.heap.size,7,none⟩ u).cell? ⟨w.heap.size,1,none⟩ = some (.int .i64 mc) ∧ (W.setCell ⟨W3.heap.size,7,none⟩ u).cell? ⟨w.heap.size,5,none⟩ = some (.int .i64 o)):=fun W u h => ⟨(World.cell?_setCell_far _ _ _ _ (by show W3.heap.size ≠ sb;omega)).trans h.1,(World.cell?_setCell_far _ _ _ _ (by show W3.heap.size ≠ w.heap.size;omega)).trans h.2.1,(World.cell?_setCell_far _ _ _ _ (by show W3.heap.size ≠ w.heap.size;omega)).trans h.2.2⟩;clear hT' hev hbb
    cases bb with
    | false =>
     rw [if_neg (by decide)] at hev2;subst hev2;(go_region_held3 (fun W => W.cell? ⟨sb,29,none⟩ = some (.pointer (some ⟨tb,0,none⟩)) ∧ W.cell? ⟨w.heap.size,1,none⟩ = some (.int .i64 mc) ∧ W.cell? ⟨w.heap.size,5,none⟩ = some (.int .i64 o)) (first | go_keep | exact ⟨(ht.cell (p:=⟨sb,29,none⟩) hlt7 n1).trans c29,(ht.cell (p:=⟨w.heap.size,1,none⟩) hw7 n2).trans z1,(ht.cell (p:=⟨w.heap.size,5,none⟩) hw7 n2).trans z5⟩ | exact HS3 _ _ (by assumption)) ((go_at_call 94;refine HOB.out.mono ?_;rintro e W8 ⟨rfl,hT8,ht⟩;have hr8:=ht.has HR7.out.drew n3;have k7 : W8.cell? ⟨W3.heap.size,7,none⟩ = some (.bool rl):=hr8.cell 7;have f7:=hr8.frozen 7)));have h8:=(H7.out.below (Below.refl _ _).drew).setTable ht T'.2 hT8;have ht8 : Turn (fun g => g = tb ∨ g = tm) w W8:=(Turn.of_below HB7.out (Nat.le_refl _)).drew.trans ht (fun _ _ h => h);have hr9:=hr8.set_ 7 (.bool false);have h9:=h8.own0 (S:=fun g => g = W3.heap.size) (w':=W8.setCell ⟨W3.heap.size,7,none⟩ (.bool false)) (Turn.setCell (S:=fun g => g = W3.heap.size) (p:=⟨W3.heap.size,7,none⟩) (Turn.refl _ _) (.inr rfl) _) fun g _ hg => ⟨H.out.fr g (by omega),by have:=H.out.le;omega⟩;have ht9 : Turn (fun g => g = tb ∨ g = tm) w (W8.setCell ⟨W3.heap.size,7,none⟩ (.bool false)):=ht8.setCell (p:=⟨W3.heap.size,7,none⟩) (.inl (by show w.heap.size ≤ W3.heap.size;omega)) _;have HR9:=Hd hr9;have H9:=Hd h9;have HT9:=Hd ht9;clear h8 ht8 hr9 h9 ht9 hr8 k7 f7 hT8 ht HOB;obtain ⟨W9,hW9⟩ : ∃ W9,W9 = W8.setCell ⟨W3.heap.size,7,none⟩ (.bool false):=⟨_,rfl⟩;rw [← hW9] at HR9 H9 HT9 ⊢;clear hW9 HS3
     go_wp2_with (first
      | (refine wpList_load_row rfl 93 (.tmp 6) rfl W3.heap.size rfl 93 _ (0,0) _ HR9.out Tryz.underlying93 rfl (by kernel_rfl) ?_)
      | (refine wpList_build1 rfl (.tmp 73) ⟨rk,rc,rn,re,rs,ro,rv,false,rd⟩ rfl rfl ?_))
     go_ret;(have e : s.reads ⟨mk,mc,mn,me,ms,o,mv,ml,md⟩ = ([⟨rk,rc,rn,re,rs,ro,rv,false,rd⟩],{ s with table:=T'.2 }):=by rw [HRE.out];rfl);rw [e];have hbz:=(Below.refl W9.heap.size W9).alloc (Nat.le_refl _) (.cells (([⟨rk,rc,rn,re,rs,ro,rv,false,rd⟩] : List Msg).flatMap msgRow).toArray 93);exact ⟨_,rfl,(MsgsAt.new (w:=W9) (l:=[⟨rk,rc,rn,re,rs,ro,rv,false,rd⟩]) (by simp)).base HT9.out.size,H9.out.below hbz,HT9.out.then_below hbz (Nat.le_refl _)⟩
    | true =>
     rw [if_pos rfl] at hev2;subst hev2;(go_region_held3 (fun W => W.cell? ⟨sb,29,none⟩ = some (.pointer (some ⟨tb,0,none⟩)) ∧ W.cell? ⟨w.heap.size,1,none⟩ = some (.int .i64 mc) ∧ W.cell? ⟨w.heap.size,5,none⟩ = some (.int .i64 o)) (first | go_keep | exact ⟨(ht.cell (p:=⟨sb,29,none⟩) hlt7 n1).trans c29,(ht.cell (p:=⟨w.heap.size,1,none⟩) hw7 n2).trans z1,(ht.cell (p:=⟨w.heap.size,5,none⟩) hw7 n2).trans z5⟩ | exact HS3 _ _ (by assumption)) ((go_at_call 94;refine HOB.out.mono ?_;rintro e W8 ⟨rfl,hT8,ht⟩;have hr8:=ht.has HR7.out.drew n3;have k7 : W8.cell? ⟨W3.heap.size,7,none⟩ = some (.bool rl):=hr8.cell 7;have f7:=hr8.frozen 7)));have h8:=(H7.out.below (Below.refl _ _).drew).setTable ht T'.2 hT8;have ht8 : Turn (fun g => g = tb ∨ g = tm) w W8:=(Turn.of_below HB7.out (Nat.le_refl _)).drew.trans ht (fun _ _ h => h);have hr9:=hr8.set_ 7 (.bool true);have h9:=h8.own0 (S:=fun g => g = W3.heap.size) (w':=W8.setCell ⟨W3.heap.size,7,none⟩ (.bool true)) (Turn.setCell (S:=fun g => g = W3.heap.size) (p:=⟨W3.heap.size,7,none⟩) (Turn.refl _ _) (.inr rfl) _) fun g _ hg => ⟨H.out.fr g (by omega),by have:=H.out.le;omega⟩;have ht9 : Turn (fun g => g = tb ∨ g = tm) w (W8.setCell ⟨W3.heap.size,7,none⟩ (.bool true)):=ht8.setCell (p:=⟨W3.heap.size,7,none⟩) (.inl (by show w.heap.size ≤ W3.heap.size;omega)) _;have HR9:=Hd hr9;have H9:=Hd h9;have HT9:=Hd ht9;clear h8 ht8 hr9 h9 ht9 hr8 k7 f7 hT8 ht HOB;obtain ⟨W9,hW9⟩ : ∃ W9,W9 = W8.setCell ⟨W3.heap.size,7,none⟩ (.bool true):=⟨_,rfl⟩;rw [← hW9] at HR9 H9 HT9 ⊢;clear hW9 HS3
     go_wp2_with (first
      | (refine wpList_load_row rfl 93 (.tmp 6) rfl W3.heap.size rfl 93 _ (0,0) _ HR9.out Tryz.underlying93 rfl (by kernel_rfl) ?_)
      | (refine wpList_build1 rfl (.tmp 73) ⟨rk,rc,rn,re,rs,ro,rv,true,rd⟩ rfl rfl ?_))
     go_ret;(have e : s.reads ⟨mk,mc,mn,me,ms,o,mv,ml,md⟩ = ([⟨rk,rc,rn,re,rs,ro,rv,true,rd⟩],{ s with table:=T'.2 }):=by rw [HRE.out];rfl);rw [e];have hbz:=(Below.refl W9.heap.size W9).alloc (Nat.le_refl _) (.cells (([⟨rk,rc,rn,re,rs,ro,rv,true,rd⟩] : List Msg).flatMap msgRow).toArray 93);exact ⟨_,rfl,(MsgsAt.new (w:=W9) (l:=[⟨rk,rc,rn,re,rs,ro,rv,true,rd⟩]) (by simp)).base HT9.out.size,H9.out.below hbz,HT9.out.then_below hbz (Nat.le_refl _)⟩
end
def wrV (x : Wr) : Value:=.agg #[.int .i64 x.client,.int .i64 x.number,.string ⟨x.data.toArray⟩,.bool x.begun]
def waitsB (c n : Int) (x : Wr) : Bool:=decide (x.client = c) && decide (n ≤ x.number)
theorem writes1_s (x : Wr) (mk mc mn me ms mo mv : Int) (ml : Bool) (md : ByteArray) (p : Nat) (w : World) (hp : Has w p (.cells (msgCells mk mc mn me ms mo mv ml md) 93)) :
 Calls Tryz.prog 96 #[wrV x,.pointer (some ⟨p,0,none⟩)] w fun e w' => e = .returned (.bool (waitsB mc mn x)) ∧ Below w.heap.size w w':=by
 have hlt:=hp.lt;have p1 : w.cell? ⟨p,1,none⟩ = some (.int .i64 mc):=hp.cell 1;have p2 : w.cell? ⟨p,2,none⟩ = some (.int .i64 mn):=hp.cell 2;unfold wrV waitsB;obtain ⟨b1,hb1⟩ : ∃ b1,b1 = decide (x.client = mc):=⟨_,rfl⟩;obtain ⟨b2,hb2⟩ : ∃ b2,b2 = decide (mn ≤ x.number):=⟨_,rfl⟩;have e1 : (x.client == mc) = b1:=hb1.symm;have e2 : decide (mn ≤ x.number) = b2:=hb2.symm;rw [← hb1,← hb2];clear hb1 hb2 hp
 cases b1 with
 | false =>
  (go_enter Tryz.func96,Tryz.ntmps96);go_wp2;go_ret;exact ⟨rfl,(Below.refl _ _).alloc (Nat.le_refl _) _⟩
 | true =>
  cases b2
  all_goals
   (go_enter Tryz.func96,Tryz.ntmps96);go_wp2;go_ret;exact ⟨rfl,(Below.refl _ _).alloc (Nat.le_refl _) _⟩
set_option maxHeartbeats 1000000 in
set_option maxRecDepth 100000 in
theorem index_w (own : Nat → Nat) (T : Nat) (v : Value) (l : List Wr) (mk mc mn me ms mo mv : Int) (ml : Bool) (md : ByteArray) (p : Nat) (w : World) (h : QRow own T w 164 4 v l.length (l.flatMap wrRow)) (hp : Has w p (.cells (msgCells mk mc mn me ms mo mv ml md) 93)) :
 Calls Tryz.prog 123 #[v,.func (.func 96) #[] #[.pointer (some ⟨p,0,none⟩)]] w fun e w' => ∃ r : Int,e = .returned (.int .i64 r) ∧ decide (0 ≤ r) = l.any (waitsB mc mn) ∧ Below w.heap.size w w':=by
 obtain ⟨a,c,rfl,hlc,hcm⟩:=h.slice;(have hl9 : l.length ≤ 9223372036854775807:=by unfold maxLen at hcm;omega);have hplt:=hp.lt;have H:=Hd h;have HP:=Hd hp;clear h hp;(go_enter Tryz.func123,Tryz.ntmps123);go_wp2;(go_loopw [8,5] (fun i _ wr => ∃ k : Nat,k ≤ l.length ∧ i = .int .i64 k ∧ (l.take k).any (waitsB mc mn) = false ∧ Below w.heap.size w wr) (fun i _ _ => l.length - (intOf i).toNat));case atStart => exact ⟨0,by omega,rfl,rfl,Below.refl _ _⟩
 case round =>
  obtain ⟨k,hk,rfl,hno,hb⟩:=hrel;have HNO:=Hd hno;clear hno;by_cases hlt : k < l.length
  ·have hkx : l[k]? = some l[k]:=List.getElem?_eq_getElem hlt;generalize hx : l[k] = x at hkx;obtain ⟨g,off,cap,he,-,hg,-,-,hc⟩:=QRow.elem (f:=wrRow) (size:=4) wrRow_len H.out hkx;injection he with he1 he2 he3;subst he1
   have hbc : ∀ j u,(wrRow x)[j]? = some u → wr.cell? ⟨g,off + k * 4 + j,none⟩ = some u:=fun j u hu => by
    rw [Nat.add_assoc];exact (hb.cell (p:=⟨g,off + (k * 4 + j),none⟩) hg).trans (hc j u hu).1
   have c0 : wr.cell? ⟨g,off + k * 4,none⟩ = some (.int .i64 x.client):=hbc 0 _ rfl;have c1 : wr.cell? ⟨g,off + k * 4 + 1,none⟩ = some (.int .i64 x.number):=hbc 1 _ rfl;have c2 : wr.cell? ⟨g,off + k * 4 + 2,none⟩ = some (.string ⟨x.data.toArray⟩):=hbc 2 _ rfl;have c3 : wr.cell? ⟨g,off + k * 4 + 3,none⟩ = some (.bool x.begun):=hbc 3 _ rfl;have F:=Hd (writes1_s x mk mc mn me ms mo mv ml md p wr (HP.out.below hb hplt));have HKX:=Hd hkx
   have HT : Hid ((l.take (k + 1)).any (waitsB mc mn) = waitsB mc mn x):=Hd (by
    rw [List.take_add_one,hkx,List.any_append,HNO.out]
    simp)
   have HA : Hid (waitsB mc mn x = true → l.any (waitsB mc mn) = true):=Hd fun hw => List.any_eq_true.2 ⟨x,List.mem_of_getElem? hkx,hw⟩;unfold wrV at F;clear hbc hc hkx hx he2 he3
   cases hw : waitsB mc mn x with
   | true =>
    rw [hw] at F HA;clear hw;(go_wp2_with fail);refine F.out.mono ?_;rintro e w2 ⟨rfl,hb2⟩;(go_wp2_with fail);go_ret;exact ⟨_,rfl,by rw [HA.out trivial];simp,hb.trans (hb2.mono hb.size)⟩
   | false =>
    rw [hw] at F HT;clear hw HA;(go_wp2_with fail);refine F.out.mono ?_;rintro e w2 ⟨rfl,hb2⟩;(go_wp2_with fail);go_roundw;(case rel => exact ⟨k + 1,by omega,by go_num,HT.out,hb.trans (hb2.mono hb.size)⟩);case measure => simp [intOf];omega
  ·(obtain rfl : k = l.length:=by omega);(go_wp2_with fail);go_ret;exact ⟨_,rfl,by have:=HNO.out;rw [List.take_length] at this;rw [this];rfl,hb⟩
theorem contains_w (own : Nat → Nat) (T : Nat) (v : Value) (l : List Wr) (mk mc mn me ms mo mv : Int) (ml : Bool) (md : ByteArray) (p : Nat) (w : World) (h : QRow own T w 164 4 v l.length (l.flatMap wrRow)) (hp : Has w p (.cells (msgCells mk mc mn me ms mo mv ml md) 93)) :
 Calls Tryz.prog 95 #[v,.func (.func 96) #[] #[.pointer (some ⟨p,0,none⟩)]] w fun e w' => e = .returned (.bool (l.any (waitsB mc mn))) ∧ Below w.heap.size w w':=by
 have I:=Hd (index_w own T v l mk mc mn me ms mo mv ml md p w h hp);clear h hp;(go_enter Tryz.func95,Tryz.ntmps95);(go_wp2_with fail);refine I.out.mono ?_;rintro e w1 ⟨r,rfl,hr,hb⟩;have HR:=Hd hr;clear hr;(go_wp2_with fail);go_ret;exact ⟨by rw [← HR.out];rfl,hb⟩
section
variable {P : Lib.PrintTabs} {own : Nat → Nat} {w0 : World} {sb db wb dm tb tm : Nat} {v : Value} {ps : List ByteArray} {qs : List Value} {d : Disk} {s : Server}
set_option maxRecDepth 100000 in
theorem goes1_s (w : World) (c : Int) (p : Nat) (hp : Has w p (.cells #[.pointer (some ⟨sb,0,none⟩)] 61)) (h : SrvW P own w0 w sb db wb dm tb tm v ps qs d s) :
 Calls Tryz.prog 113 #[.int .i64 c,.pointer (some ⟨p,0,none⟩)] w fun e w' => e = .returned (.bool (s.table.leans c s.now)) ∧ Below w.heap.size w w':=by
 have p0 : w.cell? ⟨p,0,none⟩ = some (.pointer (some ⟨sb,0,none⟩)):=hp.cell 0;have c29:=h.cellT 1 _ rfl;have c32:=h.cellT 4 _ rfl;have HL:=Hd (Leans_m c s.now h.table.drew);have HB:=Hd (Below.refl w.heap.size w).drew;clear h hp;(go_enter Tryz.func113,Tryz.ntmps113);go_wp2;(go_region_held3 (fun W => W.cell? ⟨p,0,none⟩ = some (.pointer (some ⟨sb,0,none⟩)) ∧ W.cell? ⟨sb,29,none⟩ = some (.pointer (some ⟨tb,0,none⟩)) ∧ W.cell? ⟨sb,32,none⟩ = some (.int .i64 s.now)) (go_keep) ((go_at_call 114;refine HL.out.mono ?_;rintro e w' ⟨rfl,rfl⟩)));(go_wp2_with fail);go_ret;exact ⟨rfl,HB.out⟩
theorem ints_cell {w : World} {B : Nat} {v : Value} {l : List Int} (h : w.ownsRow B 3 1 v l.length (l.map (Value.int .i64))) {k : Nat} {x : Int} (hk : l[k]? = some x) :
 ∃ g cap,v = .slice (some ⟨g,0,none⟩) l.length cap ∧ g < w.heap.size ∧ w.cell? ⟨g,k,none⟩ = some (.int .i64 x):=by
 have hkl : k < l.length:=(List.getElem?_eq_some_iff.1 hk).1;rcases h.2 with ⟨-,h0⟩ | ⟨g,cap,cur,rfl,-,h2,-,-,-,h4⟩
 ·omega
 ·refine ⟨g,cap,rfl,Has.lt (w:=w) h2,?_⟩;have h3 : Has w g (.cells cur 3):=h2;rw [(row_cell h3 h4 k (by omega)).1,List.getElem?_map,hk];rfl
set_option maxHeartbeats 1000000 in
set_option maxRecDepth 100000 in
theorem index_i (w : World) (B : Nat) (u : Value) (l : List Int) (hl : l.length ≤ 1000) (p : Nat) (hu : w.ownsRow B 3 1 u l.length (l.map (Value.int .i64))) (hp : Has w p (.cells #[.pointer (some ⟨sb,0,none⟩)] 61)) (h : SrvW P own w0 w sb db wb dm tb tm v ps qs d s) :
 Calls Tryz.prog 136 #[u,.func (.func 113) #[] #[.pointer (some ⟨p,0,none⟩)]] w fun e w' => ∃ r : Int,e = .returned (.int .i64 r) ∧ decide (0 ≤ r) = l.any (fun c => s.table.leans c s.now) ∧ Below w.heap.size w w':=by
 have hsl : ∃ a c,u = .slice a l.length c:=by
  rcases hu.2 with ⟨rfl,h0⟩ | ⟨g,cap,cur,rfl,-⟩
  ·exact ⟨none,0,by rw [h0]⟩
  ·exact ⟨_,cap,rfl⟩
 obtain ⟨a,c,rfl⟩:=hsl;have hplt:=hp.lt;have H:=Hd h;have HP:=Hd hp;have HU:=Hd hu;clear h hp hu;(go_enter Tryz.func136,Tryz.ntmps136);go_wp2;(go_loopw [8,5] (fun i _ wr => ∃ k : Nat,k ≤ l.length ∧ i = .int .i64 k ∧ (l.take k).any (fun c => s.table.leans c s.now) = false ∧ Below w.heap.size w wr) (fun i _ _ => l.length - (intOf i).toNat));case atStart => exact ⟨0,by omega,rfl,rfl,Below.refl _ _⟩
 case round =>
  obtain ⟨k,hk,rfl,hno,hb⟩:=hrel;have HNO:=Hd hno;clear hno;by_cases hlt : k < l.length
  ·have hkx : l[k]? = some l[k]:=List.getElem?_eq_getElem hlt;generalize hx : l[k] = x at hkx;obtain ⟨g,cap,he,hg,hc⟩:=ints_cell HU.out hkx;injection he with he1 he2 he3;subst he1;have c0 : wr.cell? ⟨g,k,none⟩ = some (.int .i64 x):=(hb.cell (p:=⟨g,k,none⟩) hg).trans hc;have F:=Hd (goes1_s wr x p (HP.out.below hb hplt) (H.out.below hb))
   have HT : Hid ((l.take (k + 1)).any (fun c => s.table.leans c s.now) = s.table.leans x s.now):=Hd (by
    rw [List.take_add_one,hkx,List.any_append,HNO.out]
    simp)
   have HA : Hid (s.table.leans x s.now = true → l.any (fun c => s.table.leans c s.now) = true):=Hd fun hw => List.any_eq_true.2 ⟨x,List.mem_of_getElem? hkx,hw⟩;clear hc hkx hx he2 he3
   cases hw : s.table.leans x s.now with
   | true =>
    rw [hw] at F HA;clear hw;(go_wp2_with fail);refine F.out.mono ?_;rintro e w2 ⟨rfl,hb2⟩;(go_wp2_with fail);go_ret;exact ⟨_,rfl,by rw [HA.out trivial];simp,hb.trans (hb2.mono hb.size)⟩
   | false =>
    rw [hw] at F HT;clear hw HA;(go_wp2_with fail);refine F.out.mono ?_;rintro e w2 ⟨rfl,hb2⟩;(go_wp2_with fail);go_roundw;(case rel => exact ⟨k + 1,by omega,by go_num,HT.out,hb.trans (hb2.mono hb.size)⟩);case measure => simp [intOf];omega
  ·(obtain rfl : k = l.length:=by omega);(go_wp2_with fail);go_ret;exact ⟨_,rfl,by have:=HNO.out;rw [List.take_length] at this;rw [this];rfl,hb⟩
theorem contains_i (w : World) (B : Nat) (u : Value) (l : List Int) (hl : l.length ≤ 1000) (p : Nat) (hu : w.ownsRow B 3 1 u l.length (l.map (Value.int .i64))) (hp : Has w p (.cells #[.pointer (some ⟨sb,0,none⟩)] 61)) (h : SrvW P own w0 w sb db wb dm tb tm v ps qs d s) :
 Calls Tryz.prog 115 #[u,.func (.func 113) #[] #[.pointer (some ⟨p,0,none⟩)]] w fun e w' => e = .returned (.bool (l.any (fun c => s.table.leans c s.now))) ∧ Below w.heap.size w w':=by
 have I:=Hd (index_i w B u l hl p hu hp h);clear h hp hu;(go_enter Tryz.func115,Tryz.ntmps115);(go_wp2_with fail);refine I.out.mono ?_;rintro e w1 ⟨r,rfl,hr,hb⟩;have HR:=Hd hr;clear hr;(go_wp2_with fail);go_ret;exact ⟨by rw [← HR.out];rfl,hb⟩
end
set_option maxHeartbeats 1000000 in
set_option maxRecDepth 100000 in
theorem index_n (w : World) (B : Nat) (u : Value) (l : List Int) (hl : l.length ≤ 1000) (y : Int) (hu : w.ownsRow B 3 1 u l.length (l.map (Value.int .i64))) :
 Calls Tryz.prog 124 #[u,.int .i64 y] w fun e w' => ∃ r : Int,e = .returned (.int .i64 r) ∧ decide (0 ≤ r) = l.any (fun x => y == x) ∧ w = w':=by
 have hsl : ∃ a c,u = .slice a l.length c:=by
  rcases hu.2 with ⟨rfl,h0⟩ | ⟨g,cap,cur,rfl,-⟩
  ·exact ⟨none,0,by rw [h0]⟩
  ·exact ⟨_,cap,rfl⟩
 obtain ⟨a,c,rfl⟩:=hsl;have HU:=Hd hu;clear hu;(go_enter Tryz.func124,Tryz.ntmps124);go_wp2;(go_loopw [8,5] (fun i _ wr => ∃ k : Nat,k ≤ l.length ∧ i = .int .i64 k ∧ (l.take k).any (fun x => y == x) = false ∧ wr = w) (fun i _ _ => l.length - (intOf i).toNat));case atStart => exact ⟨0,by omega,rfl,rfl,rfl⟩
 case round =>
  obtain ⟨k,hk,rfl,hno,rfl⟩:=hrel;have HNO:=Hd hno;clear hno;by_cases hlt : k < l.length
  ·have hkx : l[k]? = some l[k]:=List.getElem?_eq_getElem hlt;generalize hx : l[k] = x at hkx;obtain ⟨g,cap,he,hg,hc⟩:=ints_cell HU.out hkx;injection he with he1 he2 he3;subst he1
   have HT : Hid ((l.take (k + 1)).any (fun x => y == x) = (y == x)):=Hd (by
    rw [List.take_add_one,hkx,List.any_append,HNO.out];show (false || ((y == x) || false)) = (y == x)
    rw [Bool.or_false,Bool.false_or])
   have HA : Hid ((y == x) = true → l.any (fun x => y == x) = true):=Hd fun hw => List.any_eq_true.2 ⟨x,List.mem_of_getElem? hkx,hw⟩;clear hkx hx he2 he3
   cases hw : (y == x) with
   | true =>
    rw [hw] at HA;(go_wp2_with fail);go_ret;exact ⟨_,rfl,by rw [HA.out trivial];exact decide_eq_true (by omega),rfl⟩
   | false =>
    rw [hw] at HT;clear HA;(go_wp2_with fail);go_roundw;(case rel => exact ⟨k + 1,by omega,by go_num,HT.out,trivial⟩);case measure => simp [intOf];omega
  ·(obtain rfl : k = l.length:=by omega);(go_wp2_with fail);go_ret;exact ⟨_,rfl,by have:=HNO.out;rw [List.take_length] at this;rw [this];rfl,rfl⟩
theorem contains_n (w : World) (B : Nat) (u : Value) (l : List Int) (hl : l.length ≤ 1000) (y : Int) (hu : w.ownsRow B 3 1 u l.length (l.map (Value.int .i64))) :
 Calls Tryz.prog 97 #[u,.int .i64 y] w fun e w' => e = .returned (.bool (l.contains y)) ∧ w = w':=by
 have I:=Hd (index_n w B u l hl y hu);clear hu;(go_enter Tryz.func97,Tryz.ntmps97);(go_wp2_with fail);refine I.out.mono ?_;rintro e w1 ⟨r,rfl,hr,rfl⟩;have HR:=Hd hr;clear hr;(go_wp2_with fail);go_ret;exact ⟨by rw [List.contains_eq_any_beq,← HR.out];rfl,rfl⟩
theorem scells_queue {t : Terms} {wb dm tb : Nat} {vals : List Val} {qs : List Value} {e q n o : Int} (hv : vals.length = 8) (hl : qs.length = 8) (k : Nat) (hk : k < 8) (u : Value) :
 (scells t wb vals qs dm tb e q n o).set (20 + k) u = scells t wb vals (qs.set k u) dm tb e q n o:=by
 (have hvl : (vals.flatMap valRow).length = 16:=by rw [flat_len valRow_len,hv]);unfold scells;rw [List.set_append_right _ _ (by simp;omega),show 20 + k - ([.int .i64 t.object,.int .i64 t.volume,.int .i64 t.drift,.pointer (some ⟨wb,0,none⟩)] : List Value).length = 16 + k by simp;omega];rw [List.set_append_right _ _ (by rw [hvl];omega),hvl,Nat.add_sub_cancel_left,List.set_append_left _ _ (by omega)]
def cutOwn (own : Nat → Nat) (w : World) : Nat → Nat:=fun k => if k < w.heap.size then own k else 0
theorem cut_fresh (own : Nat → Nat) (w : World) : ∀ g,w.heap.size ≤ g → cutOwn own w g = 0:=fun g hg => by unfold cutOwn;rw [if_neg (by omega)]
theorem cut_old {own : Nat → Nat} {w : World} {k : Nat} (h : k < w.heap.size) : cutOwn own w k = own k:=by unfold cutOwn;rw [if_pos h]
theorem cut_ext {own own1 : Nat → Nat} {w w' : World} (h : Ext w own own1) (hs : w.heap.size ≤ w'.heap.size) : Ext w own (cutOwn own1 w'):=fun k hk => by rw [cut_old (by omega)];exact h k hk
section
variable {P : Lib.PrintTabs} {own own1 : Nat → Nat} {w0 w w' : World} {sb db wb dm tb tm : Nat} {v : Value} {ps : List ByteArray} {qs : List Value} {d : Disk} {s : Server}
theorem queue_set (s : Server) (o k : Nat) (l : List Wr) (ho : o < s.queues.length) : ({ s with queues:=s.queues.set o l } : Server).queue k = if k = o then l else s.queue k:=by
 unfold Server.queue;rw [List.getD_eq_getElem?_getD,List.getD_eq_getElem?_getD];by_cases h : k = o
 ·subst h;rw [if_pos rfl,List.getElem?_set_self ho];rfl
 ·rw [if_neg h,List.getElem?_set_ne (fun e => h e.symm)]
theorem qs_set (qs : List Value) (o k : Nat) (u : Value) (ho : o < qs.length) : (qs.set o u).getD k undef = if k = o then u else qs.getD k undef:=by
 rw [List.getD_eq_getElem?_getD,List.getD_eq_getElem?_getD];by_cases h : k = o
 ·subst h;rw [if_pos rfl,List.getElem?_set_self ho];rfl
 ·rw [if_neg h,List.getElem?_set_ne (fun e => h e.symm)]
theorem SrvW.setQueue (h : SrvW P own w0 w sb db wb dm tb tm v ps qs d s) (o : Nat) (ho : o < 8) (u : Value) (l : List Wr) (ht : Turn (fun g => g = sb ∨ own g = 10 + o) w w') (he : Ext w own own1) (hf : ∀ g,w'.heap.size ≤ g → own1 g = 0)
 (hs : Has w' sb (.cells (scells s.terms wb s.values (qs.set o u) dm tb s.epoch s.quiet s.now s.torn).toArray 105)) (hq : QRow own1 (10 + o) w' 164 4 u l.length (l.flatMap wrRow))
 (hc : ∀ x ∈ l,(0 ≤ x.client ∧ x.client < 4) ∧ x.data.length ≤ 20) (hl10 : l.length ≤ 10) : SrvW P own1 w0 w' sb db wb dm tb tm v ps (qs.set o u) d { s with queues:=s.queues.set o l }:=by
 have ne : ∀ g k,own g = k → k ≠ 4 → k ≠ 10 + o → ¬ (g = sb ∨ own g = 10 + o):=fun g k hk h4 h5 e => by
  rcases e with e | e
  ·rw [e,h.osb] at hk;exact h4 hk.symm
  ·rw [e] at hk;exact h5 hk.symm
 have low1 : ∀ g,SrvSet own1 g → w0.heap.size ≤ g:=fun g hg => by
  rcases Nat.lt_or_ge g w.heap.size with hg' | hg'
  ·unfold SrvSet at hg;rw [he g hg'] at hg;exact h.low g hg
  ·exact Nat.le_trans h.le hg'
 (have hoq : o < s.queues.length:=by rw [h.nq];exact ho);have hlt:=h.s_.lt
 refine ⟨h.kit0,h.hdl0,h.bel.trans (ht.to_below h.le fun k hk e => ?_),low1,hf,⟨ht.has h.wal.w_ (ne _ 3 h.wal.ow (by decide) (by omega)),h.wal.row.keep ht he fun k _ hk => ne k 2 hk (by decide) (by omega),by rw [he _ h.wal.w_.lt];exact h.wal.ow,fun g hg => low1 g ⟨by omega,by omega⟩,h.wal.lw⟩,
  ⟨ht.has h.dsk.d_ (ne _ 1 h.odb (by decide) (by omega)),h.dsk.hp⟩,h.pls,by rw [he _ h.dsk.lt];exact h.odb,hs,by rw [he _ hlt];exact h.osb,⟨h.nv,by show (s.queues.set o l).length = 8;rw [List.length_set];exact h.nq,fun k x hx => ?_,h.ok.dk,h.ok.rc,fun k => ?_⟩,by rw [List.length_set];exact h.lq,fun k hk => ?_,
  h.done.turn ht (ne _ 5 h.odm (by decide) (by omega)),by rw [he _ h.done.lt];exact h.odm,h.table.turn ht (ne _ 6 h.otb (by decide) (by omega)) (ne _ 7 h.otm (by decide) (by omega)),by rw [he _ h.table.lt.1];exact h.otb,by rw [he _ h.table.lt.2];exact h.otm⟩
 ·rcases e with e | e
  ·have:=h.low sb ⟨by rw [h.osb];decide,by rw [h.osb];decide⟩;omega
  ·have:=h.low k ⟨by omega,by omega⟩;omega
 ·rw [queue_set s o k l hoq] at hx;by_cases hko : k = o
  ·rw [if_pos hko] at hx;exact hc x hx
  ·rw [if_neg hko] at hx;exact h.ok.qc k x hx
 ·rw [queue_set s o k l hoq];split
  ·exact hl10
  ·exact h.ok.ql k
 ·rw [queue_set s o k l hoq,qs_set qs o k u (by rw [h.lq];exact ho)];by_cases hko : k = o
  ·subst hko;rw [if_pos rfl,if_pos rfl];exact hq
  ·rw [if_neg hko,if_neg hko];exact (h.queue k hk).keep ht he fun g _ hg => ne g _ hg (by omega) (by omega)
end
end srv
namespace cli
open Go.RowKit heap own errs mapof wire srv cache
open model (Client MItem Val Terms MCall seek put del)
noncomputable def numS : MapSpec Tryz.prog Int Int:=
 intSpec 3 3 116 Tryz.underlying3 (fun _ => by kernel_rfl) Tryz.underlying116 (Maps.int_keyed Tryz.underlying3) (Value.int .i64) (Lit.int .i64) i64ok (fun _ h => Maps.keyOf_int_mk Tryz.underlying3 h)
  (fun _ _ h => Maps.keyOf_int_inv Tryz.underlying3 h) (fun _ _ h => by simpa using h)
def itOf (x : MItem) : It:=⟨x.object,x.value.data,x.value.ver,x.till⟩
def ccells (c : Client) (cv : Value) (fm sm : Nat) : Array Value:=#[.int .i64 c.id,.int .i64 c.terms.object,.int .i64 c.terms.volume,.int .i64 c.terms.drift,.int .i64 c.number,.int .i64 c.epoch,.int .i64 c.session,.int .i64 c.now,.int .i64 c.volume,cv,.map (some fm),.map (some sm),.int .i64 c.call.kind,.int .i64 c.call.object,.string ⟨c.call.value.data.toArray⟩,.int .i64 c.call.value.ver,.bool c.call.over,.bool c.call.hit,.int .i64 c.asked,.int .i64 c.sent,.int .i64 c.renewal,.int .i64 c.renewed]
structure CliW (own : Nat → Nat) (T : Nat) (w : World) (cb fm sm : Nat) (cv : Value) (c : Client) : Prop where
 c_ : Has w cb (.cells (ccells c cv fm sm) 121)
 ocb : own cb = T
 items : Items own (T + 1) w cv (c.cache.map itOf)
 few : c.cache.length ≤ 6
 floors : At numS w fm c.floors
 ofm : own fm = T + 2
 seen : At numS w sm c.seen
 osm : own sm = T + 3
 fk : ∀ p ∈ c.floors,0 ≤ p.1 ∧ p.1 < 8
 sk : ∀ p ∈ c.seen,0 ≤ p.1 ∧ p.1 < 8
def CliSet (own : Nat → Nat) (T : Nat) (g : Nat) : Prop:=T ≤ own g ∧ own g < T + 4
section
variable {own own1 : Nat → Nat} {T : Nat} {w w' : World} {cb fm sm : Nat} {cv : Value} {c c' : Client} {S : Nat → Prop}
theorem CliW.turn (h : CliW own T w cb fm sm cv c) (ht : Turn S w w') (he : Ext w own own1) (hs : ∀ g,g < w.heap.size → S g → ¬ CliSet own T g) : CliW own1 T w' cb fm sm cv c:=by
 have nS : ∀ g k,g < w.heap.size → own g = T + k → k < 4 → ¬ S g:=fun g k hg hk h4 hS => hs g hg hS ⟨by omega,by omega⟩;have h1:=h.c_.lt;have h2:=h.floors.lt;have h3:=h.seen.lt;exact ⟨ht.has h.c_ (nS _ 0 h1 h.ocb (by decide)),(he _ h1).trans h.ocb,h.items.keep ht he fun k hk ho => nS k 1 hk ho (by decide),h.few,h.floors.turn ht (nS _ 2 h2 h.ofm (by decide)),(he _ h2).trans h.ofm,h.seen.turn ht (nS _ 3 h3 h.osm (by decide)),(he _ h3).trans h.osm,h.fk,h.sk⟩
theorem CliW.below (h : CliW own T w cb fm sm cv c) (hb : Below w.heap.size w w') : CliW own T w' cb fm sm cv c:=
 h.turn (S:=fun _ => False) (Turn.of_below hb (Nat.le_refl _)) (Ext.refl _ _) (fun _ _ h => h.elim)
theorem CliW.drew (h : CliW own T w cb fm sm cv c) : CliW own T w.drew cb fm sm cv c:=h.below (Below.refl _ _).drew
theorem CliW.drewN (h : CliW own T w cb fm sm cv c) (n : Nat) : CliW own T (w.drewN n) cb fm sm cv c:=h.below (below_drewN (Below.refl _ _) n)
theorem CliW.upd (h : CliW own T w cb fm sm cv c) (ht : Turn (fun g => g = cb) w w') (hs : Has w' cb (.cells (ccells c' cv fm sm) 121)) (e1 : c'.cache = c.cache) (e2 : c'.floors = c.floors) (e3 : c'.seen = c.seen) : CliW own T w' cb fm sm cv c':=by
 (have ne : ∀ g k,own g = T + k → 0 < k → g ≠ cb:=fun g k hk h4 e => by rw [e,h.ocb] at hk;omega);refine ⟨hs,h.ocb,?_,by rw [e1];exact h.few,by rw [e2];exact h.floors.turn ht (ne _ 2 h.ofm (by decide)),h.ofm,by rw [e3];exact h.seen.turn ht (ne _ 3 h.osm (by decide)),h.osm,by rw [e2];exact h.fk,by rw [e3];exact h.sk⟩;rw [e1];exact h.items.keep ht (Ext.refl _ _) fun k _ ho => ne k 1 ho (by decide)
theorem CliW.set1 (h : CliW own T w cb fm sm cv c) (c' : Client) (i : Nat) (u : Value) (hc : (ccells c cv fm sm).setIfInBounds i u = ccells c' cv fm sm) (e1 : c'.cache = c.cache) (e2 : c'.floors = c.floors) (e3 : c'.seen = c.seen) : CliW own T (w.setCell ⟨cb,i,none⟩ u) cb fm sm cv c':=
 h.upd (wal.turn_set (Turn.refl _ _) i u) (by rw [← hc];exact h.c_.set_ i u) e1 e2 e3
theorem CliW.lt (h : CliW own T w cb fm sm cv c) : cb < w.heap.size:=h.c_.lt
theorem turn_cb (i : Nat) (u : Value) : Turn (fun g => g = cb) w (w.setCell ⟨cb,i,none⟩ u):=wal.turn_set (Turn.refl _ _) i u
end
section
variable {own : Nat → Nat} {T : Nat} {cb fm sm : Nat} {cv : Value} {c : Client}
theorem Busy_c (w : World) (h : CliW own T w cb fm sm cv c) : Calls Tryz.prog 57 #[.pointer (some ⟨cb,0,none⟩)] w fun e w' => e = .returned (.bool c.busy) ∧ w = w':=by
 have c18 : w.cell? ⟨cb,18,none⟩ = some (.int .i64 c.asked):=h.c_.cell 18;obtain ⟨b,hb⟩ : ∃ b,b = c.busy:=⟨_,rfl⟩;(have hb' : (c.asked != 0) = b:=by rw [hb];unfold Client.busy;rw [Bool.eq_iff_iff];simp);rw [← hb];clear hb h;(go_enter Tryz.func57,Tryz.ntmps57);go_wp2
 all_goals
  go_ret;exact ⟨rfl,rfl⟩
theorem Leans_c (w : World) (h : CliW own T w cb fm sm cv c) : Calls Tryz.prog 62 #[.pointer (some ⟨cb,0,none⟩)] w fun e w' => e = .returned (.bool c.leans) ∧ ∃ n,w' = w.drewN n:=by
 have c7 : w.cell? ⟨cb,7,none⟩ = some (.int .i64 c.now):=h.c_.cell 7;have c8 : w.cell? ⟨cb,8,none⟩ = some (.int .i64 c.volume):=h.c_.cell 8;clear h;unfold Client.leans;(go_enter Tryz.func62,Tryz.ntmps62);go_wp2;(go_quiet (fail));(go_wp2_with fail);go_ret;exact ⟨rfl,nq,rfl⟩
theorem next_c (w : World) (h : CliW own T w cb fm sm cv c) : Calls Tryz.prog 58 #[.pointer (some ⟨cb,0,none⟩)] w fun e w' => e = .returned (.int .i64 (wrap64 (c.number + 1))) ∧ CliW own T w' cb fm sm cv { c with number:=wrap64 (c.number + 1) } ∧ Turn (fun g => g = cb) w w' ∧ w'.heap.size = w.heap.size:=by
 have c4 : w.cell? ⟨cb,4,none⟩ = some (.int .i64 c.number):=h.c_.cell 4;have f4:=h.c_.frozen 4;obtain ⟨n,hn⟩ : ∃ n,n = wrap64 (c.number + 1):=⟨_,rfl⟩;have H:=Hd (h.set1 { c with number:=n } 4 (.int .i64 n) rfl rfl rfl rfl);have HT : Hid (Turn (fun g => g = cb) w (w.setCell ⟨cb,4,none⟩ (.int .i64 n))):=Hd (turn_cb 4 _);have HE:=Hd hn;rw [← hn];clear h hn;(go_enter Tryz.func58,Tryz.ntmps58);go_wp2;rw [← HE.out];go_ret;exact ⟨rfl,H.out,HT.out,by simp [World.setCell]⟩
theorem At_c (w : World) (n : Int) (h : CliW own T w cb fm sm cv c) : Calls Tryz.prog 59 #[.pointer (some ⟨cb,0,none⟩),.int .i64 n] w fun e w' => e = .returned (.tuple #[]) ∧ CliW own T w' cb fm sm cv (c.at_ n) ∧ Turn (fun g => g = cb) w w':=by
 have c7 : w.cell? ⟨cb,7,none⟩ = some (.int .i64 c.now):=h.c_.cell 7
 have f7:=h.c_.frozen 7
 have H:=Hd h
 clear h
 go_enter Tryz.func59,Tryz.ntmps59
 go_wp2
 go_end0
 exact ⟨rfl,H.out.set1 (c.at_ n) 7 _ rfl rfl rfl rfl,turn_cb 7 _⟩
theorem Short_t (x y : Int) (w : World) : Calls Tryz.prog 103 #[.int .i64 x,.int .i64 y] w fun e w' => ∃ ev,e = .returned (.tuple #[.int .i64 (model.short x y),ev]) ∧ w = w':=by
 by_cases h : 0 ≤ x ∧ x ≤ 500 ∧ 0 ≤ y ∧ y ≤ 1099511627776
 ·have e : model.short x y = y * (1000 - x) / (1000 + x):=by
   unfold model.short;rw [if_pos (by rw [Bool.and_eq_true,tab.inR_iff,tab.inR_iff,wire.maxTime_eq];omega)]
  rw [e];refine (clock.Short_yes x y w h.1 h.2.1 h.2.2.1 h.2.2.2).mono ?_;rintro e w' ⟨rfl,rfl⟩;exact ⟨_,rfl,rfl⟩
 ·have e : model.short x y = 0:=by
   unfold model.short;rw [if_neg (by rw [Bool.and_eq_true,tab.inR_iff,tab.inR_iff,wire.maxTime_eq];omega)]
  rw [e];refine (clock.Short_no x y w h).mono ?_;rintro e w' ⟨rfl,rfl⟩;exact ⟨_,rfl,rfl⟩
theorem ends_c (w : World) (sent term : Int) (h : CliW own T w cb fm sm cv c) : Calls Tryz.prog 76 #[.pointer (some ⟨cb,0,none⟩),.int .i64 sent,.int .i64 term] w fun e w' => e = .returned (.int .i64 (c.ends sent term)) ∧ w = w':=by
 have c3 : w.cell? ⟨cb,3,none⟩ = some (.int .i64 c.terms.drift):=h.c_.cell 3;unfold Client.ends;obtain ⟨n,hn⟩ : ∃ n,n = model.short c.terms.drift term:=⟨_,rfl⟩;have HS : Hid (Calls Tryz.prog 103 #[.int .i64 c.terms.drift,.int .i64 term] w fun e w' => ∃ ev,e = .returned (.tuple #[.int .i64 n,ev]) ∧ w = w'):=Hd (by rw [hn];exact Short_t _ _ w);obtain ⟨z,hz⟩ : ∃ z,z = wrap64 (sent + n):=⟨_,rfl⟩;have HZ:=Hd hz;rw [← hn,← hz];clear hn h hz;(go_enter Tryz.func76,Tryz.ntmps76);(go_wp2_with (go_at_call 103;refine HS.out.mono ?_;rintro e w' ⟨ev,rfl,rfl⟩));rw [← HZ.out];go_ret;exact ⟨rfl,rfl⟩
end
end cli
end Go.Proofs.YtefkmcjhgoagcaaGreatDoor
