/-
  A part of the proof of the law WorldLasts: SrvO, SrvP, SrvQ.
-/
import Derived.Maps.AppendAt
import Derived.Test.YtefkmcjhgoagcaaGreatDoorHd
import Derived.Test.YtefkmcjhgoagcaaGreatDoorP26
namespace Go.Proofs.YtefkmcjhgoagcaaGreatDoor
section
namespace last
open Go
section
variable {P : Program} {ops : Array Oper} {Q : Exit → Act → World → Prop} {md : Region.Mode} {S : World → Prop} {L : Nat}
theorem goL (i d : Nat) (v : Value) {oi : Oper} {fuel : Nat} {lb : List Bool} {ts : List Value} {ds : List Deferred} {w : World} (hS : S w) (h : wpAnyL P md ops Q S L fuel (lb.set i true).toArray ⟨(ts.set d v).toArray,ds⟩ w)
 (hi : ops[i]? = some oi:=by rfl) (hd : oi.dst = some d:=by rfl) (hs : Region.noSelect ops = true:=by kernel_rfl) (hf : Region.free md ops lb.toArray i = true:=by kernel_rfl) (hr : (Region.ready md ops lb.toArray).contains i = true:=by kernel_rfl) (hl : waits md ops L i = true:=by kernel_rfl)
 (hQ : ∀ c a w,Q (.panic c) (a.put (some d) v) w → Q (.panic c) a w:=by exact fun _ _ _ h => h) (hw : Region.wanted oi (yielded ops ts.toArray) = true:=by rfl) (hy : ∀ w,S w → (execOp (Act.eval ⟨ts.toArray,ds⟩) oi).run P w = .ok (.value v) w:=by intro _ _;go_simp) : wpAnyL P md ops Q S L (fuel + 1) lb.toArray ⟨ts.toArray,ds⟩ w:=
 wpAnyL_goL i d v hi hd hs hf hr hl hQ hS hw hy h
end
end last
namespace srv
open Go.RowKit heap own recs errs mapof wal tab wire
open model (Rec Disk Val Wr Server Table Terms inR seek put del)
section
variable {P : Lib.PrintTabs} {own : Nat → Nat} {w0 : World} {sb db wb dm tb tm : Nat} {v : Value} {ps : List ByteArray} {qs : List Value} {d : Disk} {s : Server}
theorem GoesPost.ahead {w w1 w' : World} {r : List Msg × Disk × Server} {e : Ending} (ht : Turn (SrvSet own) w w1) (h : GoesPost P own w0 w1 sb db wb dm tb tm r e w') : GoesPost P own w0 w sb db wb dm tb tm r e w':=by
 obtain ⟨u,own1,v1,ps1,qs1,h1,h2,h3,h4,h5⟩:=h;exact ⟨u,own1,v1,ps1,qs1,h1,fun k hk => h2 k (Nat.lt_of_lt_of_le hk ht.size),h3.base ht.size,h4,ht.trans h5 fun _ _ e => e⟩
theorem GoesPost.here {w w1 : World} (h : SrvW P own w0 w1 sb db wb dm tb tm v ps qs d s) (ht : Turn (SrvSet own) w w1) {u : Value} {l : List Msg} (hm : MsgsAt w.heap.size w1 u l) : GoesPost P own w0 w sb db wb dm tb tm (l,d,s) (.returned u) w1:=
 ⟨u,own,v,ps,qs,rfl,Ext.refl _ _,hm,h,ht⟩
set_option maxHeartbeats 2000000 in
set_option maxRecDepth 1000000 in
theorem acked_s (w : World) (m : Msg) (o : Nat) (ho : o < 8) (hmo : m.object = o) (hmc : 0 ≤ m.client ∧ m.client < 4) (h : SrvW P own w0 w sb db wb dm tb tm v ps qs d s) :
 Calls Tryz.prog 74 #[.pointer (some ⟨sb,0,none⟩),m.val] w (GoesPost P own w0 w sb db wb dm tb tm (Server.acked d s m)):=by
 obtain ⟨mk,mc,mn,me,ms,mo,mv,ml,md⟩:=m;dsimp only at hmo hmc;subst hmo;(have ho8 : (o : Int) < 8:=by omega);obtain ⟨H,hH⟩ : ∃ H,H = w.heap.size:=⟨_,rfl⟩;obtain ⟨W1,hW1⟩ : ∃ W1,W1 = w.alloc (.cells #[.int .i64 mk,.int .i64 mc,.int .i64 mn,.int .i64 me,.int .i64 ms,.int .i64 (o : Int),.int .i64 mv,.bool ml,.string ⟨md.toArray⟩] 93):=⟨_,rfl⟩;(have hb1 : Below w.heap.size w W1:=by rw [hW1];exact (Below.refl _ _).alloc (Nat.le_refl _) _);(have hx1 : Has W1 H (.cells #[.int .i64 mk,.int .i64 mc,.int .i64 mn,.int .i64 me,.int .i64 ms,.int .i64 (o : Int),.int .i64 mv,.bool ml,.string ⟨md.toArray⟩] 93):=by rw [hW1,hH];exact Has.new w _);have h1:=h.below hb1;obtain ⟨qa,qc,hq,-,-⟩:=(h1.queue o ho).slice;(have c20 : W1.cell? ⟨sb,20 + o,none⟩ = some (.slice qa (s.queue o).length qc):=by rw [h1.cellQ o ho,hq]);have x5 : W1.cell? ⟨H,5,none⟩ = some (.int .i64 o):=hx1.cell 5;obtain ⟨n,hn⟩ : ∃ n,n = (s.queue o).length:=⟨_,rfl⟩;rw [← hn] at c20;have HN:=Hd hn;obtain ⟨r,hr⟩ : ∃ r,r = Server.acked d s ⟨mk,mc,mn,me,ms,o,mv,ml,md⟩:=⟨_,rfl⟩;obtain ⟨vr,hvr⟩ : ∃ vr,vr = (s.value o).ver:=⟨_,rfl⟩;obtain ⟨vv,hvv⟩ : ∃ vv,vv = wrap64 (vr + 1):=⟨_,rfl⟩;obtain ⟨kn,hkn⟩ : ∃ kn,kn = s.knows ⟨mk,mc,mn,me,ms,o,mv,ml,md⟩:=⟨_,rfl⟩;obtain ⟨qe,hqe⟩ : ∃ qe,qe = ((n : Int) == 0):=⟨_,rfl⟩;obtain ⟨vn,hvn⟩ : ∃ vn,vn = (mv != vv):=⟨_,rfl⟩
 have HR : Hid (r = if (!kn || qe || vn) then ([],d,s) else Server.goes d { s with table:=s.table.drop mc o } o):=Hd (by
  rw [hr];unfold Server.acked;dsimp only
  have e1 : (s.queue (Int.toNat o)).isEmpty = qe:=by
   rw [hqe,hn];show (s.queue o).isEmpty = _
   cases s.queue o with
   | nil => rfl
   | cons a l => exact (beq_eq_false_iff_ne.2 (by simp only [List.length_cons];omega)).symm
  have e2 : (!decide (mv = wrap64 ((s.value (Int.toNat o)).ver + 1))) = vn:=by
   rw [hvn,hvv,hvr];show (!decide (mv = wrap64 ((s.value o).ver + 1))) = _;rw [Bool.eq_iff_iff];simp
  rw [e1,e2,← hkn]
  rfl)
 have HTL:=Hd h.table.lt;have H1:=Hd h1;have HX1:=Hd hx1;have HT1 : Hid (Turn (SrvSet own) w W1):=Hd (Turn.of_below hb1 (Nat.le_refl _));have HKK:=Hd hkn;have HVR:=Hd hvr;have eqe : ((n : Int) == 0) = qe:=hqe.symm;have evn : (mv != vv) = vn:=hvn.symm;(have ewv : IntKind.i64.wrap (vr + 1) = vv:=by rw [IntWalk.i64_left,hvv]);rw [← hr];unfold Msg.val;dsimp only;clear hr hvr hvv hkn hqe hvn h h1 hx1 hn hq hb1;(go_enter Tryz.func74,Tryz.ntmps74);(go_upto_region 1 with fail);rw [← hW1,← hH];have HNT : Hid (¬ (H = tb ∨ H = tm)):=Hd (by have:=HTL.out;omega);clear hW1 hH;(go_quiet (fail));obtain ⟨W2,hW2⟩ : ∃ W2,W2 = W1.drewN nq:=⟨_,rfl⟩;have H2 : Hid (SrvW P own w0 W2 sb db wb dm tb tm v ps qs d s):=Hd (by rw [hW2];exact H1.out.below (below_drewN (Below.refl _ _) nq));have HX2 : Hid (Has W2 H (.cells #[.int .i64 mk,.int .i64 mc,.int .i64 mn,.int .i64 me,.int .i64 ms,.int .i64 (o : Int),.int .i64 mv,.bool ml,.string ⟨md.toArray⟩] 93)):=Hd (by rw [hW2];exact HX1.out.drewN nq);have HT2 : Hid (Turn (SrvSet own) w W2):=Hd (by rw [hW2];exact HT1.out.drewN nq);rw [← hW2];clear hW2 H1 HX1 HT1 c20 x5;(have cV : W2.cell? ⟨sb,4 + o * 2 + 1,none⟩ = some (.int .i64 vr):=by rw [HVR.out];exact (H2.out.cellV o ho).2);have hHl : H < W2.heap.size:=HX2.out.lt;have hsl : sb < W2.heap.size:=H2.out.s_.lt
 have HKN : Hid (Calls Tryz.prog 91 #[.pointer (some ⟨sb,0,none⟩),.agg #[.int .i64 mk,.int .i64 mc,.int .i64 mn,.int .i64 me,.int .i64 ms,.int .i64 (o : Int),.int .i64 mv,.bool ml,.string ⟨md.toArray⟩]] W2.drew fun e w' => e = .returned (.bool kn) ∧ Below W2.drew.heap.size W2.drew w'):=Hd (by
  rw [HKK.out]
  exact knows_s W2.drew ⟨mk,mc,mn,me,ms,o,mv,ml,md⟩ (H2.out.below (Below.refl _ _).drew))
 go_upto_region 2 with fail
 cases kn with
 | false =>
  as_aux_lemma =>
   refine last.headH (fun W => Has W H (.cells #[.int .i64 mk,.int .i64 mc,.int .i64 mn,.int .i64 me,.int .i64 ms,.int .i64 (o : Int),.int .i64 mv,.bool ml,.string ⟨md.toArray⟩] 93) ∧ W.cell? ⟨sb,4 + o * 2 + 1,none⟩ = some (.int .i64 vr)) 1000 23 ⟨HX2.out.drew,cV⟩ fun HS => ?_;refine last.goL 0 13 (.pointer (some ⟨sb,0,none⟩)) HS.out ?_;dsimp only [List.set];refine last.goL 1 14 (.agg #[.int .i64 mk,.int .i64 mc,.int .i64 mn,.int .i64 me,.int .i64 ms,.int .i64 (o : Int),.int .i64 mv,.bool ml,.string ⟨md.toArray⟩]) HS.out ?_ (hy:=(fun W' hW' => by have e0 : W'.cell? ⟨H,0,none⟩ = some (.int .i64 mk):=hW'.1.cell 0;have e1 : W'.cell? ⟨H,1,none⟩ = some (.int .i64 mc):=hW'.1.cell 1;have e2 : W'.cell? ⟨H,2,none⟩ = some (.int .i64 mn):=hW'.1.cell 2;have e3 : W'.cell? ⟨H,3,none⟩ = some (.int .i64 me):=hW'.1.cell 3;have e4 : W'.cell? ⟨H,4,none⟩ = some (.int .i64 ms):=hW'.1.cell 4;have e5 : W'.cell? ⟨H,5,none⟩ = some (.int .i64 (o : Int)):=hW'.1.cell 5;have e6 : W'.cell? ⟨H,6,none⟩ = some (.int .i64 mv):=hW'.1.cell 6;have e7 : W'.cell? ⟨H,7,none⟩ = some (.bool ml):=hW'.1.cell 7;have e8 : W'.cell? ⟨H,8,none⟩ = some (.string ⟨md.toArray⟩):=hW'.1.cell 8;go_simp));dsimp only [List.set];refine last.one 2 fun K hK => ?_;go_simp;refine HKN.out.mono ?_;rintro e W5 ⟨rfl,hb5⟩;have H5:=Hd (H2.out.below ((Below.refl _ W2).drew.trans hb5));have HT5:=Hd (HT2.out.drew.then_below hb5 (Nat.le_refl _));have HS5 : Hid ((fun W => Has W H (.cells #[.int .i64 mk,.int .i64 mc,.int .i64 mn,.int .i64 me,.int .i64 ms,.int .i64 (o : Int),.int .i64 mv,.bool ml,.string ⟨md.toArray⟩] 93) ∧ W.cell? ⟨sb,4 + o * 2 + 1,none⟩ = some (.int .i64 vr)) W5):=Hd ⟨HS.out.1.below hb5 HS.out.1.lt,(hb5.cell (p:=⟨sb,4 + o * 2 + 1,none⟩) hsl).trans cV⟩;refine hK.out _ _ (fun _ => HS5.out) ?_;clear hK K HS hb5 HKN H2 HT2 HX2 cV hsl;refine last.goL 3 16 (.bool true) HS5.out ?_;dsimp only [List.set];refine last.goL 4 17 (.bool true) HS5.out ?_;dsimp only [List.set];refine last.wpAnyL_skipL 5 18 rfl rfl (by kernel_rfl) (by kernel_rfl) (by kernel_rfl) (by kernel_rfl) (fun _ _ _ h => h) HS5.out (by rfl) ?_;dsimp only [List.set];refine last.wpAnyL_skipL 6 19 rfl rfl (by kernel_rfl) (by kernel_rfl) (by kernel_rfl) (by kernel_rfl) (fun _ _ _ h => h) HS5.out (by rfl) ?_;dsimp only [List.set];refine last.wpAnyL_skipL 7 20 rfl rfl (by kernel_rfl) (by kernel_rfl) (by kernel_rfl) (by kernel_rfl) (fun _ _ _ h => h) HS5.out (by rfl) ?_;dsimp only [List.set];refine last.goL 8 21 (.bool true) HS5.out ?_;dsimp only [List.set];refine last.goL 9 22 (.bool true) HS5.out ?_;dsimp only [List.set];refine last.wpAnyL_skipL 10 23 rfl rfl (by kernel_rfl) (by kernel_rfl) (by kernel_rfl) (by kernel_rfl) (fun _ _ _ h => h) HS5.out (by rfl) ?_;dsimp only [List.set];refine last.wpAnyL_skipL 11 24 rfl rfl (by kernel_rfl) (by kernel_rfl) (by kernel_rfl) (by kernel_rfl) (fun _ _ _ h => h) HS5.out (by rfl) ?_;dsimp only [List.set];refine last.wpAnyL_skipL 12 25 rfl rfl (by kernel_rfl) (by kernel_rfl) (by kernel_rfl) (by kernel_rfl) (fun _ _ _ h => h) HS5.out (by rfl) ?_;dsimp only [List.set];refine last.wpAnyL_skipL 13 26 rfl rfl (by kernel_rfl) (by kernel_rfl) (by kernel_rfl) (by kernel_rfl) (fun _ _ _ h => h) HS5.out (by rfl) ?_;dsimp only [List.set];refine last.wpAnyL_skipL 14 27 rfl rfl (by kernel_rfl) (by kernel_rfl) (by kernel_rfl) (by kernel_rfl) (fun _ _ _ h => h) HS5.out (by rfl) ?_;dsimp only [List.set];refine last.wpAnyL_skipL 15 28 rfl rfl (by kernel_rfl) (by kernel_rfl) (by kernel_rfl) (by kernel_rfl) (fun _ _ _ h => h) HS5.out (by rfl) ?_;dsimp only [List.set];refine last.wpAnyL_skipL 16 29 rfl rfl (by kernel_rfl) (by kernel_rfl) (by kernel_rfl) (by kernel_rfl) (fun _ _ _ h => h) HS5.out (by rfl) ?_;dsimp only [List.set];refine last.wpAnyL_skipL 17 30 rfl rfl (by kernel_rfl) (by kernel_rfl) (by kernel_rfl) (by kernel_rfl) (fun _ _ _ h => h) HS5.out (by rfl) ?_;dsimp only [List.set];refine last.wpAnyL_skipL 18 31 rfl rfl (by kernel_rfl) (by kernel_rfl) (by kernel_rfl) (by kernel_rfl) (fun _ _ _ h => h) HS5.out (by rfl) ?_;dsimp only [List.set];refine last.wpAnyL_skipL 19 32 rfl rfl (by kernel_rfl) (by kernel_rfl) (by kernel_rfl) (by kernel_rfl) (fun _ _ _ h => h) HS5.out (by rfl) ?_;dsimp only [List.set];refine last.wpAnyL_skipL 20 33 rfl rfl (by kernel_rfl) (by kernel_rfl) (by kernel_rfl) (by kernel_rfl) (fun _ _ _ h => h) HS5.out (by rfl) ?_;dsimp only [List.set];refine last.wpAnyL_skipL 21 34 rfl rfl (by kernel_rfl) (by kernel_rfl) (by kernel_rfl) (by kernel_rfl) (fun _ _ _ h => h) HS5.out (by rfl) ?_;dsimp only [List.set];refine last.goL 22 35 (.bool true) HS5.out ?_;dsimp only [List.set];refine last.done ?_;(go_wp2_with fail);go_ret;rw [HR.out];exact GoesPost.here H5.out HT5.out (MsgsAt.nil _ _)
 | true =>
  cases qe with
  | true =>
   as_aux_lemma =>
    refine last.headH (fun W => Has W H (.cells #[.int .i64 mk,.int .i64 mc,.int .i64 mn,.int .i64 me,.int .i64 ms,.int .i64 (o : Int),.int .i64 mv,.bool ml,.string ⟨md.toArray⟩] 93) ∧ W.cell? ⟨sb,4 + o * 2 + 1,none⟩ = some (.int .i64 vr)) 1000 23 ⟨HX2.out.drew,cV⟩ fun HS => ?_;refine last.goL 0 13 (.pointer (some ⟨sb,0,none⟩)) HS.out ?_;dsimp only [List.set];refine last.goL 1 14 (.agg #[.int .i64 mk,.int .i64 mc,.int .i64 mn,.int .i64 me,.int .i64 ms,.int .i64 (o : Int),.int .i64 mv,.bool ml,.string ⟨md.toArray⟩]) HS.out ?_ (hy:=(fun W' hW' => by have e0 : W'.cell? ⟨H,0,none⟩ = some (.int .i64 mk):=hW'.1.cell 0;have e1 : W'.cell? ⟨H,1,none⟩ = some (.int .i64 mc):=hW'.1.cell 1;have e2 : W'.cell? ⟨H,2,none⟩ = some (.int .i64 mn):=hW'.1.cell 2;have e3 : W'.cell? ⟨H,3,none⟩ = some (.int .i64 me):=hW'.1.cell 3;have e4 : W'.cell? ⟨H,4,none⟩ = some (.int .i64 ms):=hW'.1.cell 4;have e5 : W'.cell? ⟨H,5,none⟩ = some (.int .i64 (o : Int)):=hW'.1.cell 5;have e6 : W'.cell? ⟨H,6,none⟩ = some (.int .i64 mv):=hW'.1.cell 6;have e7 : W'.cell? ⟨H,7,none⟩ = some (.bool ml):=hW'.1.cell 7;have e8 : W'.cell? ⟨H,8,none⟩ = some (.string ⟨md.toArray⟩):=hW'.1.cell 8;go_simp));dsimp only [List.set];refine last.one 2 fun K hK => ?_;go_simp;refine HKN.out.mono ?_;rintro e W5 ⟨rfl,hb5⟩;have H5:=Hd (H2.out.below ((Below.refl _ W2).drew.trans hb5));have HT5:=Hd (HT2.out.drew.then_below hb5 (Nat.le_refl _));have HS5 : Hid ((fun W => Has W H (.cells #[.int .i64 mk,.int .i64 mc,.int .i64 mn,.int .i64 me,.int .i64 ms,.int .i64 (o : Int),.int .i64 mv,.bool ml,.string ⟨md.toArray⟩] 93) ∧ W.cell? ⟨sb,4 + o * 2 + 1,none⟩ = some (.int .i64 vr)) W5):=Hd ⟨HS.out.1.below hb5 HS.out.1.lt,(hb5.cell (p:=⟨sb,4 + o * 2 + 1,none⟩) hsl).trans cV⟩;refine hK.out _ _ (fun _ => HS5.out) ?_;clear hK K HS hb5 HKN H2 HT2 HX2 cV hsl;refine last.goL 3 16 (.bool false) HS5.out ?_;dsimp only [List.set];refine last.goL 4 17 (.bool false) HS5.out ?_;dsimp only [List.set];refine last.goL 5 18 (.slice qa n qc) HS5.out ?_;dsimp only [List.set];refine last.goL 6 19 (.int .i64 n) HS5.out ?_;dsimp only [List.set];refine last.goL 7 20 (.bool true) HS5.out ?_ (hy:=(fun W' hW' => by have e9:=eqe;go_simp));dsimp only [List.set];refine last.goL 8 21 (.bool true) HS5.out ?_;dsimp only [List.set];refine last.goL 9 22 (.bool true) HS5.out ?_;dsimp only [List.set];refine last.wpAnyL_skipL 10 23 rfl rfl (by kernel_rfl) (by kernel_rfl) (by kernel_rfl) (by kernel_rfl) (fun _ _ _ h => h) HS5.out (by rfl) ?_;dsimp only [List.set];refine last.wpAnyL_skipL 11 24 rfl rfl (by kernel_rfl) (by kernel_rfl) (by kernel_rfl) (by kernel_rfl) (fun _ _ _ h => h) HS5.out (by rfl) ?_;dsimp only [List.set];refine last.wpAnyL_skipL 12 25 rfl rfl (by kernel_rfl) (by kernel_rfl) (by kernel_rfl) (by kernel_rfl) (fun _ _ _ h => h) HS5.out (by rfl) ?_;dsimp only [List.set];refine last.wpAnyL_skipL 13 26 rfl rfl (by kernel_rfl) (by kernel_rfl) (by kernel_rfl) (by kernel_rfl) (fun _ _ _ h => h) HS5.out (by rfl) ?_;dsimp only [List.set];refine last.wpAnyL_skipL 14 27 rfl rfl (by kernel_rfl) (by kernel_rfl) (by kernel_rfl) (by kernel_rfl) (fun _ _ _ h => h) HS5.out (by rfl) ?_;dsimp only [List.set];refine last.wpAnyL_skipL 15 28 rfl rfl (by kernel_rfl) (by kernel_rfl) (by kernel_rfl) (by kernel_rfl) (fun _ _ _ h => h) HS5.out (by rfl) ?_;dsimp only [List.set];refine last.wpAnyL_skipL 16 29 rfl rfl (by kernel_rfl) (by kernel_rfl) (by kernel_rfl) (by kernel_rfl) (fun _ _ _ h => h) HS5.out (by rfl) ?_;dsimp only [List.set];refine last.wpAnyL_skipL 17 30 rfl rfl (by kernel_rfl) (by kernel_rfl) (by kernel_rfl) (by kernel_rfl) (fun _ _ _ h => h) HS5.out (by rfl) ?_;dsimp only [List.set];refine last.wpAnyL_skipL 18 31 rfl rfl (by kernel_rfl) (by kernel_rfl) (by kernel_rfl) (by kernel_rfl) (fun _ _ _ h => h) HS5.out (by rfl) ?_;dsimp only [List.set];refine last.wpAnyL_skipL 19 32 rfl rfl (by kernel_rfl) (by kernel_rfl) (by kernel_rfl) (by kernel_rfl) (fun _ _ _ h => h) HS5.out (by rfl) ?_;dsimp only [List.set];refine last.wpAnyL_skipL 20 33 rfl rfl (by kernel_rfl) (by kernel_rfl) (by kernel_rfl) (by kernel_rfl) (fun _ _ _ h => h) HS5.out (by rfl) ?_;dsimp only [List.set];refine last.wpAnyL_skipL 21 34 rfl rfl (by kernel_rfl) (by kernel_rfl) (by kernel_rfl) (by kernel_rfl) (fun _ _ _ h => h) HS5.out (by rfl) ?_;dsimp only [List.set];refine last.goL 22 35 (.bool true) HS5.out ?_;dsimp only [List.set];refine last.done ?_;(go_wp2_with fail);go_ret;rw [HR.out];exact GoesPost.here H5.out HT5.out (MsgsAt.nil _ _)
  | false =>
   refine last.headH (fun W => Has W H (.cells #[.int .i64 mk,.int .i64 mc,.int .i64 mn,.int .i64 me,.int .i64 ms,.int .i64 (o : Int),.int .i64 mv,.bool ml,.string ⟨md.toArray⟩] 93) ∧ W.cell? ⟨sb,4 + o * 2 + 1,none⟩ = some (.int .i64 vr)) 1000 23 ⟨HX2.out.drew,cV⟩ fun HS => ?_;refine last.goL 0 13 (.pointer (some ⟨sb,0,none⟩)) HS.out ?_;dsimp only [List.set];refine last.goL 1 14 (.agg #[.int .i64 mk,.int .i64 mc,.int .i64 mn,.int .i64 me,.int .i64 ms,.int .i64 (o : Int),.int .i64 mv,.bool ml,.string ⟨md.toArray⟩]) HS.out ?_ (hy:=(fun W' hW' => by have e0 : W'.cell? ⟨H,0,none⟩ = some (.int .i64 mk):=hW'.1.cell 0;have e1 : W'.cell? ⟨H,1,none⟩ = some (.int .i64 mc):=hW'.1.cell 1;have e2 : W'.cell? ⟨H,2,none⟩ = some (.int .i64 mn):=hW'.1.cell 2;have e3 : W'.cell? ⟨H,3,none⟩ = some (.int .i64 me):=hW'.1.cell 3;have e4 : W'.cell? ⟨H,4,none⟩ = some (.int .i64 ms):=hW'.1.cell 4;have e5 : W'.cell? ⟨H,5,none⟩ = some (.int .i64 (o : Int)):=hW'.1.cell 5;have e6 : W'.cell? ⟨H,6,none⟩ = some (.int .i64 mv):=hW'.1.cell 6;have e7 : W'.cell? ⟨H,7,none⟩ = some (.bool ml):=hW'.1.cell 7;have e8 : W'.cell? ⟨H,8,none⟩ = some (.string ⟨md.toArray⟩):=hW'.1.cell 8;go_simp));dsimp only [List.set];refine last.one 2 fun K hK => ?_;go_simp;refine HKN.out.mono ?_;rintro e W5 ⟨rfl,hb5⟩;have H5:=Hd (H2.out.below ((Below.refl _ W2).drew.trans hb5));have HT5:=Hd (HT2.out.drew.then_below hb5 (Nat.le_refl _));have HS5 : Hid ((fun W => Has W H (.cells #[.int .i64 mk,.int .i64 mc,.int .i64 mn,.int .i64 me,.int .i64 ms,.int .i64 (o : Int),.int .i64 mv,.bool ml,.string ⟨md.toArray⟩] 93) ∧ W.cell? ⟨sb,4 + o * 2 + 1,none⟩ = some (.int .i64 vr)) W5):=Hd ⟨HS.out.1.below hb5 HS.out.1.lt,(hb5.cell (p:=⟨sb,4 + o * 2 + 1,none⟩) hsl).trans cV⟩;refine hK.out _ _ (fun _ => HS5.out) ?_;clear hK K HS hb5 HKN H2 HT2 HX2 cV hsl;refine last.goL 3 16 (.bool false) HS5.out ?_;dsimp only [List.set];refine last.goL 4 17 (.bool false) HS5.out ?_;dsimp only [List.set];refine last.goL 5 18 (.slice qa n qc) HS5.out ?_;dsimp only [List.set];refine last.goL 6 19 (.int .i64 n) HS5.out ?_;dsimp only [List.set];refine last.goL 7 20 (.bool false) HS5.out ?_ (hy:=(fun W' hW' => by have e9:=eqe;go_simp));dsimp only [List.set];refine last.goL 8 21 (.bool false) HS5.out ?_;dsimp only [List.set];refine last.goL 9 22 (.bool false) HS5.out ?_;dsimp only [List.set];refine last.goL 10 23 (.pointer (some ⟨H,6,none⟩)) HS5.out ?_;dsimp only [List.set];refine last.goL 11 24 (.int .i64 mv) HS5.out ?_ (hy:=(fun W' hW' => by have e1 : W'.cell? ⟨H,6,none⟩ = some (.int .i64 mv):=hW'.1.cell 6;go_simp));dsimp only [List.set];refine last.goL 12 25 (.pointer (some ⟨sb,0,none⟩)) HS5.out ?_;dsimp only [List.set];refine last.goL 13 26 (.pointer (some ⟨H,5,none⟩)) HS5.out ?_;dsimp only [List.set];refine last.goL 14 27 (.int .i64 o) HS5.out ?_ (hy:=(fun W' hW' => by have e1 : W'.cell? ⟨H,5,none⟩ = some (.int .i64 o):=hW'.1.cell 5;go_simp));dsimp only [List.set];refine last.goL 15 28 (.pointer (some ⟨sb,0,none⟩)) HS5.out ?_;dsimp only [List.set];refine last.goL 16 29 (.pointer (some ⟨sb,4,none⟩)) HS5.out ?_;dsimp only [List.set];refine last.goL 17 30 (.pointer (some ⟨sb,4 + o * 2,none⟩)) HS5.out ?_;dsimp only [List.set];refine last.goL 18 31 (.pointer (some ⟨sb,4 + o * 2 + 1,none⟩)) HS5.out ?_;dsimp only [List.set];refine last.goL 19 32 (.int .i64 vr) HS5.out ?_ (hy:=(fun W' hW' => by have e1:=hW'.2;go_simp));dsimp only [List.set];refine last.goL 20 33 (.int .i64 vv) HS5.out ?_ (hy:=(fun W' hW' => by have e9:=ewv;go_simp));dsimp only [List.set];refine last.goL 21 34 (.bool vn) HS5.out ?_ (hy:=(fun W' hW' => by have e9:=evn;go_simp));dsimp only [List.set];refine last.goL 22 35 (.bool vn) HS5.out ?_;dsimp only [List.set];refine last.done ?_;have HX5:=Hd HS5.out.1;clear HS5
   cases vn with
   | true =>
    as_aux_lemma =>
     (go_wp2_with fail);go_ret;rw [HR.out];exact GoesPost.here H5.out HT5.out (MsgsAt.nil _ _)
   | false =>
    have HRE : Hid (r = Server.goes d { s with table:=s.table.drop mc o } o):=Hd HR.out;have c29 : W5.cell? ⟨sb,29,none⟩ = some (.pointer (some ⟨tb,0,none⟩)):=H5.out.cellT 1 _ rfl;have z1 : W5.cell? ⟨H,1,none⟩ = some (.int .i64 mc):=HX5.out.cell 1;have z5 : W5.cell? ⟨H,5,none⟩ = some (.int .i64 o):=HX5.out.cell 5;have hlt5 : sb < W5.heap.size:=H5.out.s_.lt;have hHl5 : H < W5.heap.size:=HX5.out.lt;have hnt : sb ≠ tb ∧ sb ≠ tm:=⟨fun e => (by have h1:=H5.out.osb;rw [e,H5.out.otb] at h1;cases h1),fun e => (by have h1:=H5.out.osb;rw [e,H5.out.otm] at h1;cases h1)⟩;have n1 : ¬ (sb = tb ∨ sb = tm):=fun e => e.elim hnt.1 hnt.2;have n2 : ¬ (H = tb ∨ H = tm):=HNT.out;have HDR:=Hd (Drop_m mc o H5.out.table.drew (WalkArith.wf_i64 (by omega)) (WalkArith.wf_i64 (by omega)));clear evn eqe ewv;(go_upto_region 4 with fail);(go_region_held3 (fun W => W.cell? ⟨sb,29,none⟩ = some (.pointer (some ⟨tb,0,none⟩)) ∧ W.cell? ⟨H,1,none⟩ = some (.int .i64 mc) ∧ W.cell? ⟨H,5,none⟩ = some (.int .i64 o)) (first | go_keep | exact ⟨(ht.cell (p:=⟨sb,29,none⟩) hlt5 n1).trans c29,(ht.cell (p:=⟨H,1,none⟩) hHl5 n2).trans z1,(ht.cell (p:=⟨H,5,none⟩) hHl5 n2).trans z5⟩) ((go_at_call 101;refine HDR.out.mono ?_;rintro e W8 ⟨rfl,hT8,ht⟩)));have H8:=Hd ((H5.out.below (Below.refl _ _).drew).setTable ht _ hT8);have HT8:=Hd (HT5.out.drew.trans ht fun k _ e => H5.out.setT k (by rcases e with e | e;rw [e];exact H5.out.table.lt.1;rw [e];exact H5.out.table.lt.2) e);have z5' : W8.cell? ⟨H,5,none⟩ = some (.int .i64 o):=(ht.cell (p:=⟨H,5,none⟩) hHl5 n2).trans z5;have HGS:=Hd (goes_s W8 o ho H8.out);clear hT8 ht H5 HT5 HX5 HDR c29 z1 z5;(go_wp2_with (go_at_call 83;refine HGS.out.mono ?_;rintro e W9 ⟨u9,own9,v9,ps9,qs9,rfl,hp9⟩));go_ret;rw [HRE.out];exact GoesPost.ahead HT8.out ⟨u9,own9,v9,ps9,qs9,rfl,hp9⟩
end
end srv
end
namespace srv
open Go.RowKit heap own recs errs mapof wal tab wire
open model (Rec Disk Val Wr Server Table Terms inR seek put del)
theorem any_queues (s : Server) (f : List Wr → Bool) (h : s.queues.length = 8) : s.queues.any f = (List.range 8).any fun j => f (s.queue j):=by
 have e : s.queues = (List.range 8).map fun j => s.queue j:=by
  apply List.ext_getElem?;intro i;rw [List.getElem?_map];unfold Server.queue;rcases Nat.lt_or_ge i 8 with hi | hi
  ·rw [List.getElem?_range hi,List.getElem?_eq_getElem (by omega)];simp only [Option.map_some,List.getD_eq_getElem?_getD];rw [List.getElem?_eq_getElem (by omega)];rfl
  ·rw [List.getElem?_eq_none (by omega),List.getElem?_eq_none (by simp;omega)];rfl
 rw [e,List.any_map];(have e2 : ∀ j,j < 8 → Server.queue { s with queues:=(List.range 8).map fun j => s.queue j } j = s.queue j:=fun j _ => by rw [← e]);rfl
theorem wp_appendWr {o : Oper} {a : Act} {w : World} {K : Act → World → Prop} {Q : Exit → Act → World → Prop} {own : Nat → Nat} (x y : Operand) (T g : Nat) (v : Value) (l : List Wr) (e : Wr) (ho : o.op = .call { callee:=.builtin .append,args:=#[x,y],argTypes:=#[100,100] })
 (hx : a.eval x = v) (hy : a.eval y = .slice (some ⟨g,0,none⟩) 1 1) (hq : QRow own T w 164 4 v l.length (l.flatMap wrRow)) (hg : Has w g (.cells (wrRow e).toArray 164)) (hl : l.length ≤ 1000)
 (h : ∀ g' off cap w',QRow (newOwn own w T) T w' 164 4 (.slice (some ⟨g',off,none⟩) (l.length + 1) cap) (l.length + 1) ((l ++ [e]).flatMap wrRow) → w.grownBy w' v.ownBlock → (v.ownBlock = some g' ∨ w.heap.size ≤ g') → K (a.put o.dst (.slice (some ⟨g',off,none⟩) (l.length + 1) cap)) w') : o.wp Tryz.prog a w K Q:=by
 obtain ⟨i0,hi0,hz0,hz1,hz2⟩:=info_parts infoWr
 obtain ⟨g',off,cap,w',hrun,h2,h3,h4⟩:=run_append_q (P:=Tryz.prog) 100 o.type i0 _ 40 Tryz.underlying100 hi0 hz0 hz1 hz2 rfl (by decide) hq ⟨g,0,none⟩ 1 1 (wrRow e) rfl (fun j u hj => by
  have e1 : (⟨g,0,none⟩ : Addr).add j = ⟨g,j,none⟩:=by by_cases h0 : j = 0 <;> simp [Addr.add,h0]
  rw [e1,hg.cell,List.getElem?_toArray,hj]) (wrRow_one e) (by decide) (by unfold maxLen;omega) (by omega)
 unfold Oper.wp execOp;simp only [ho,resolve,invoke,builtin,Sem.run_bind,Sem.run_pure,Result.andThen_ok,List.map_toArray,List.map_cons,List.map_nil,hx,hy,hrun];refine h g' off cap w' ?_ h3 h4;rw [List.flatMap_append,List.flatMap_singleton];exact h2
theorem GoesPost.ahead2 {P : Lib.PrintTabs} {own own1 : Nat → Nat} {w0 w w1 w' : World} {sb db wb dm tb tm : Nat} {r : List Msg × Disk × Server} {e : Ending} (he : Ext w own own1) (ht : Turn (SrvSet own) w w1) (h : GoesPost P own1 w0 w1 sb db wb dm tb tm r e w') : GoesPost P own w0 w sb db wb dm tb tm r e w':=by
 obtain ⟨u,own2,v1,ps1,qs1,h1,h2,h3,h4,h5⟩:=h;exact ⟨u,own2,v1,ps1,qs1,h1,fun k hk => (h2 k (Nat.lt_of_lt_of_le hk ht.size)).trans (he k hk),h3.base ht.size,h4,ht.trans h5 fun k hk e => by unfold SrvSet at e ⊢;rwa [he k hk] at e⟩
section
variable {P : Lib.PrintTabs} {own : Nat → Nat} {w0 : World} {sb db wb dm tb tm : Nat} {v : Value} {ps : List ByteArray} {qs : List Value} {d : Disk} {s : Server}
set_option maxHeartbeats 4000000 in
set_option maxRecDepth 1000000 in
theorem writes_s (w : World) (m : Msg) (o : Nat) (ho : o < 8) (hmo : m.object = o) (hmc : 0 ≤ m.client ∧ m.client < 4) (h : SrvW P own w0 w sb db wb dm tb tm v ps qs d s) :
 Calls Tryz.prog 72 #[.pointer (some ⟨sb,0,none⟩),m.val] w (GoesPost P own w0 w sb db wb dm tb tm (Server.writes d s m)):=by
 obtain ⟨mk,mc,mn,me,ms,mo,mv,ml,md⟩:=m;dsimp only at hmo hmc;subst hmo;(have ho8 : (o : Int) < 8:=by omega);obtain ⟨H,hH⟩ : ∃ H,H = w.heap.size:=⟨_,rfl⟩;obtain ⟨W1,hW1⟩ : ∃ W1,W1 = w.alloc (.cells #[.int .i64 mk,.int .i64 mc,.int .i64 mn,.int .i64 me,.int .i64 ms,.int .i64 (o : Int),.int .i64 mv,.bool ml,.string ⟨md.toArray⟩] 93):=⟨_,rfl⟩;(have hb1 : Below w.heap.size w W1:=by rw [hW1];exact (Below.refl _ _).alloc (Nat.le_refl _) _);(have hx1 : Has W1 H (.cells #[.int .i64 mk,.int .i64 mc,.int .i64 mn,.int .i64 me,.int .i64 ms,.int .i64 (o : Int),.int .i64 mv,.bool ml,.string ⟨md.toArray⟩] 93):=by rw [hW1,hH];exact Has.new w _);have h1:=h.below hb1;have HOH : Hid (own H = 0):=Hd (h.fr H (by omega));obtain ⟨r,hr⟩ : ∃ r,r = Server.writes d s ⟨mk,mc,mn,me,ms,o,mv,ml,md⟩:=⟨_,rfl⟩;obtain ⟨r2,hr2⟩ : ∃ r2,r2 = Server.enqueue d s ⟨mk,mc,mn,me,ms,o,mv,ml,md⟩:=⟨_,rfl⟩;obtain ⟨x,hx⟩ : ∃ x,x = (seek mc s.done).getD zeroMsg:=⟨_,rfl⟩;obtain ⟨okb,hok⟩ : ∃ okb,okb = (seek mc s.done).isSome:=⟨_,rfl⟩;have HXY : Hid (Value.tuple #[doneS.ev ((seek mc s.done).getD doneS.z),.bool (seek mc s.done).isSome] = .tuple #[x.val,.bool okb]):=Hd (by rw [hx,hok];rfl)
 have HR : Hid (r = if okb && decide (mn ≤ x.number) then (if mn < x.number then ([],d,s) else ([s.stamp x],d,s)) else r2):=Hd (by
  rw [hr,hr2,hx,hok];unfold Server.writes
  cases hs : seek mc s.done with
  | none => rfl
  | some y =>
   show (if mn ≤ y.number then (if mn < y.number then ([],d,s) else ([s.stamp y],d,s)) else Server.enqueue d s _) = _
   simp only [Option.isSome_some,Bool.true_and,decide_eq_true_eq,Option.getD_some])
 obtain ⟨dk,dc,dn,de,dS,dO,dV,dl,dd⟩:=x;unfold Msg.val at HXY;dsimp only at HXY HR;have HOK : Hid (i64ok mc):=Hd (WalkArith.wf_i64 (by omega));have H1:=Hd h1;have HX1:=Hd hx1;have HT1 : Hid (Turn (SrvSet own) w W1):=Hd (Turn.of_below hb1 (Nat.le_refl _));have HR2:=Hd hr2;have c28 : W1.cell? ⟨sb,28,none⟩ = some (.map (some dm)):=h1.cellT 0 _ rfl;have x1 : W1.cell? ⟨H,1,none⟩ = some (.int .i64 mc):=hx1.cell 1;have hsl : sb < W1.heap.size:=h1.s_.lt;have hHl : H < W1.heap.size:=hx1.lt;rw [← hr];unfold Msg.val;dsimp only;clear hr hr2 hx hok h h1 hx1 hb1;(go_enter Tryz.func72,Tryz.ntmps72);(go_upto_region 1 with fail);rw [← hW1,← hH];have HSZ : Hid (w.heap.size ≤ H):=Hd (Nat.le_of_eq hH.symm);clear hW1 hH;refine last.headH (fun W => W.cell? ⟨sb,28,none⟩ = some (.map (some dm)) ∧ W.cell? ⟨H,1,none⟩ = some (.int .i64 mc) ∧ At doneS W dm s.done) 1000 13 ⟨c28,x1,H1.out.done⟩ fun HS => ?_;refine last.many [(0,10,_),(1,11,_),(2,12,_),(3,13,_),(4,14,_),(5,15,_)] HS.out ?_ (hy:=fun W' hW' => by have e1:=hW'.1;have f0:=hW'.2.1;repeat (first | exact .z | refine .s ?_ | refine .k ?_));refine last.wpAnyL_goL 6 16 (.tuple #[.agg #[.int .i64 dk,.int .i64 dc,.int .i64 dn,.int .i64 de,.int .i64 dS,.int .i64 dO,.int .i64 dV,.bool dl,.string ⟨dd.toArray⟩],.bool okb]) rfl rfl (by kernel_rfl) (by kernel_rfl) (by kernel_rfl) (by kernel_rfl) (fun _ _ _ h => h) HS.out (by rfl) (fun W' hW' => by (rw [← HXY.out];exact exec_mlook_ok doneS (.tmp 13) (.tmp 15) rfl rfl hW'.2.2 HOK.out rfl)) ?_;dsimp only [List.set];refine last.many [(7,9,_),(8,17,_),(9,18,_)] HS.out ?_;refine last.one 10 fun K hK => ?_;go_simp;have hz : Below W1.heap.size W1 (W1.drew.alloc (.cells #[.int .i64 0,.int .i64 0,.int .i64 0,.int .i64 0,.int .i64 0,.int .i64 0,.int .i64 0,.bool false,.string ⟨#[]⟩] 93)):=((Below.refl _ W1).drew.alloc (Nat.le_refl _) _);have HS2 : Hid ((fun W => W.cell? ⟨sb,28,none⟩ = some (.map (some dm)) ∧ W.cell? ⟨H,1,none⟩ = some (.int .i64 mc) ∧ At doneS W dm s.done) (W1.drew.alloc (.cells #[.int .i64 0,.int .i64 0,.int .i64 0,.int .i64 0,.int .i64 0,.int .i64 0,.int .i64 0,.bool false,.string ⟨#[]⟩] 93))):=Hd ⟨(hz.cell (p:=⟨sb,28,none⟩) hsl).trans c28,(hz.cell (p:=⟨H,1,none⟩) hHl).trans x1,(H1.out.below hz).done⟩;refine hK.out _ _ (fun _ => HS2.out) ?_;clear hK K;refine last.one 11 fun K hK => ?_;go_simp;have hz2 : Below W1.heap.size W1 (W1.alloc (.cells #[.int .i64 dk,.int .i64 dc,.int .i64 dn,.int .i64 de,.int .i64 dS,.int .i64 dO,.int .i64 dV,.bool dl,.string ⟨dd.toArray⟩] 93)).drew:=((Below.refl _ W1).alloc (Nat.le_refl _) _).drew;have HS3 : Hid ((fun W => W.cell? ⟨sb,28,none⟩ = some (.map (some dm)) ∧ W.cell? ⟨H,1,none⟩ = some (.int .i64 mc) ∧ At doneS W dm s.done) (W1.alloc (.cells #[.int .i64 dk,.int .i64 dc,.int .i64 dn,.int .i64 de,.int .i64 dS,.int .i64 dO,.int .i64 dV,.bool dl,.string ⟨dd.toArray⟩] 93)).drew):=Hd ⟨(hz2.cell (p:=⟨sb,28,none⟩) hsl).trans c28,(hz2.cell (p:=⟨H,1,none⟩) hHl).trans x1,(H1.out.below hz2).done⟩;refine hK.out _ _ (fun _ => HS3.out) ?_;clear hK K;refine last.many [(12,6,_)] HS3.out ?_;refine last.done ?_;obtain ⟨D,hD⟩ : ∃ D,D = W1.heap.size:=⟨_,rfl⟩;obtain ⟨W2,hW2⟩ : ∃ W2,W2 = (W1.alloc (.cells #[.int .i64 dk,.int .i64 dc,.int .i64 dn,.int .i64 de,.int .i64 dS,.int .i64 dO,.int .i64 dV,.bool dl,.string ⟨dd.toArray⟩] 93)).drew:=⟨_,rfl⟩;rw [← hW2,← hD];have H2 : Hid (SrvW P own w0 W2 sb db wb dm tb tm v ps qs d s):=Hd (by rw [hW2];exact H1.out.below hz2);have HX2 : Hid (Has W2 H (.cells #[.int .i64 mk,.int .i64 mc,.int .i64 mn,.int .i64 me,.int .i64 ms,.int .i64 (o : Int),.int .i64 mv,.bool ml,.string ⟨md.toArray⟩] 93)):=Hd (by rw [hW2];exact HX1.out.below hz2 HX1.out.lt);have HD2 : Hid (Has W2 D (.cells #[.int .i64 dk,.int .i64 dc,.int .i64 dn,.int .i64 de,.int .i64 dS,.int .i64 dO,.int .i64 dV,.bool dl,.string ⟨dd.toArray⟩] 93)):=Hd (by rw [hW2,hD];exact (Has.new W1 _).drew);have HT2 : Hid (Turn (SrvSet own) w W2):=Hd (by rw [hW2];exact HT1.out.then_below hz2 (Nat.le_refl _));clear hW2 hD hz hz2 HS HS2 HS3 c28 x1 hsl hHl H1 HX1 HT1;obtain ⟨le,hle⟩ : ∃ le,le = decide (mn ≤ dn):=⟨_,rfl⟩;obtain ⟨lb,hlb⟩ : ∃ lb,lb = (okb && le):=⟨_,rfl⟩;have ele : decide (mn ≤ dn) = le:=hle.symm;rw [← hle,← hlb] at HR;have HLB:=Hd hlb;have x2 : W2.cell? ⟨H,2,none⟩ = some (.int .i64 mn):=HX2.out.cell 2;have d2 : W2.cell? ⟨D,2,none⟩ = some (.int .i64 dn):=HD2.out.cell 2;clear hle hlb;(go_upto_region 2 with fail);go_cut [26] (fun t wx => wx = W2 ∧ t = .bool lb)
 case first =>
  cases okb with
  | false =>
   have HL0 : Hid (lb = false):=Hd HLB.out;(go_wp2_with fail);go_meet;case rel => exact ⟨rfl,by rw [HL0.out]⟩
  | true =>
   have HL0 : Hid (lb = le):=Hd HLB.out;(go_wp2_with fail);go_meet;case rel => exact ⟨rfl,by rw [HL0.out]⟩
 case rest =>
  obtain ⟨hwx,rfl⟩:=hcut;subst hwx;clear HLB ele HXY
  cases lb with
  | true =>
   as_aux_lemma =>
    obtain ⟨lt,hlt⟩ : ∃ lt,lt = decide (mn < dn):=⟨_,rfl⟩;have elt : decide (mn < dn) = lt:=hlt.symm;have HLT:=Hd hlt;clear hlt
    cases lt with
    | true =>
     have HE : Hid (r = ([],d,s)):=Hd (by rw [HR.out,if_pos rfl,if_pos (of_decide_eq_true HLT.out.symm)]);(go_wp2_with fail);go_ret;rw [HE.out];exact GoesPost.here H2.out HT2.out (MsgsAt.nil _ _)
    | false =>
     have HE : Hid (r = ([s.stamp ⟨dk,dc,dn,de,dS,dO,dV,dl,dd⟩],d,s)):=Hd (by rw [HR.out,if_pos rfl,if_neg (of_decide_eq_false HLT.out.symm)])
     go_wp2_with (first
      | (refine wpList_load_row rfl 93 (.tmp 5) rfl D rfl 93 _ (0,0) _ HD2.out Tryz.underlying93 rfl (by kernel_rfl) ?_)
      | (go_at_call 90;refine (stamp_s _ ⟨dk,dc,dn,de,dS,dO,dV,dl,dd⟩ H2.out).mono ?_;rintro e w3 ⟨rfl,hb3⟩)
      | (refine wpList_build1 rfl (.tmp 34) (s.stamp ⟨dk,dc,dn,de,dS,dO,dV,dl,dd⟩) rfl rfl ?_))
     go_ret;rw [HE.out];have hbz:=hb3.alloc hb3.size (.cells (([s.stamp ⟨dk,dc,dn,de,dS,dO,dV,dl,dd⟩] : List Msg).flatMap msgRow).toArray 93);exact GoesPost.here (H2.out.below hbz) (HT2.out.then_below hbz (Nat.le_refl _)) ((MsgsAt.new (w:=w3) (l:=[s.stamp ⟨dk,dc,dn,de,dS,dO,dV,dl,dd⟩]) (by simp)).base (Nat.le_trans HT2.out.size hb3.size))
  | false =>
   have HE : Hid (r = Server.enqueue d s ⟨mk,mc,mn,me,ms,o,mv,ml,md⟩):=Hd (by rw [HR.out,← HR2.out];rfl);clear HR HR2 HD2 d2 x2;obtain ⟨an,han⟩ : ∃ an,an = (List.range 8).any fun j => (s.queue j).any (waitsB mc mn):=⟨_,rfl⟩;obtain ⟨c1,hc1⟩ : ∃ c1,c1 = decide (10 ≤ (s.queue o).length):=⟨_,rfl⟩;obtain ⟨c2,hc2⟩ : ∃ c2,c2 = decide (20 < md.length):=⟨_,rfl⟩
   have HEQ : Hid (r = if an then ([],d,s) else if (c1 || c2) then ([],d,s) else Server.goes d { s with queues:=s.queues.set o (s.queue o ++ [⟨mc,mn,md,false⟩]) } o):=Hd (by
    rw [HE.out];unfold Server.enqueue;dsimp only
    have e1 : (s.queues.any fun q => q.any fun w => decide (w.client = mc) && decide (mn ≤ w.number)) = an:=by
     rw [han];exact any_queues s (fun q => q.any (waitsB mc mn)) H2.out.nq
    rw [e1];have e2 : (Int.toNat (o : Int)) = o:=rfl;rw [e2];split
    ·rfl
    ·have e3 : (10 ≤ (s.queue o).length || decide (20 < md.length)) = (c1 || c2):=by rw [hc1,hc2]
     simp only [e3])
   have HAN:=Hd han;have HC1:=Hd hc1;have HC2:=Hd hc2;clear HE han hc1 hc2;obtain ⟨q0,q1,q2,q3,q4,q5,q6,q7,hqs⟩:=eight H2.out.lq;subst hqs;have a0 : wc.cell? ⟨sb,20,none⟩ = some q0:=H2.out.cellQ 0 (by decide);have a1 : wc.cell? ⟨sb,21,none⟩ = some q1:=H2.out.cellQ 1 (by decide);have a2 : wc.cell? ⟨sb,22,none⟩ = some q2:=H2.out.cellQ 2 (by decide);have a3 : wc.cell? ⟨sb,23,none⟩ = some q3:=H2.out.cellQ 3 (by decide);have a4 : wc.cell? ⟨sb,24,none⟩ = some q4:=H2.out.cellQ 4 (by decide);have a5 : wc.cell? ⟨sb,25,none⟩ = some q5:=H2.out.cellQ 5 (by decide);have a6 : wc.cell? ⟨sb,26,none⟩ = some q6:=H2.out.cellQ 6 (by decide);have a7 : wc.cell? ⟨sb,27,none⟩ = some q7:=H2.out.cellQ 7 (by decide);(go_upto_region 7 with fail);clear a0 a1 a2 a3 a4 a5 a6 a7;(go_loopw [40] (fun q40 wr => ∃ k : Nat,k ≤ 8 ∧ q40 = .int .i64 k ∧ ((List.range k).any fun j => (s.queue j).any (waitsB mc mn)) = false ∧ Below wc.heap.size wc wr) (fun q40 _ => 8 - (intOf q40).toNat));case atStart => exact ⟨0,by omega,rfl,rfl,Below.refl _ _⟩
   case round =>
    obtain ⟨k,hk,rfl,hno,hb⟩:=hrel;have HB:=Hd hb;have HNO:=Hd hno;clear hb hno;by_cases hk8 : k < 8
    ·as_aux_lemma =>
      (have hki : (k : Int) < 8:=by omega);have hix:=run_index8 q0 q1 q2 q3 q4 q5 q6 q7 wr k hk8;obtain ⟨qv,hqv⟩ : ∃ qv,qv = [q0,q1,q2,q3,q4,q5,q6,q7].getD k undef:=⟨_,rfl⟩;rw [← hqv] at hix;obtain ⟨wb1,hwb⟩ : ∃ wb1,wb1 = (s.queue k).any (waitsB mc mn):=⟨_,rfl⟩
      have HCW : Hid (Calls Tryz.prog 95 #[qv,.func (.func 96) #[] #[.pointer (some ⟨H,0,none⟩)]] wr fun e w' => e = .returned (.bool wb1) ∧ Below wr.heap.size wr w'):=Hd (by
       rw [hwb];have hq:=(H2.out.below HB.out).queue k hk8;rw [← hqv] at hq
       exact contains_w own (10 + k) qv (s.queue k) mk mc mn me ms o mv ml ⟨md.toArray⟩ H wr hq (HX2.out.below HB.out HX2.out.lt))
      have HWB:=Hd hwb;clear hqv hwb
      cases wb1 with
      | true =>
       have HE : Hid (r = ([],d,s)):=Hd (by
        have : an = true:=by
         rw [HAN.out];exact List.any_eq_true.2 ⟨k,List.mem_range.2 hk8,HWB.out.symm⟩
        rw [HEQ.out,if_pos this])
       (go_wp2_with (go_at_call 95;refine HCW.out.mono ?_;rintro e w3 ⟨rfl,hb3⟩));go_ret;rw [HE.out];exact GoesPost.here (H2.out.below (HB.out.trans (hb3.mono HB.out.size))) (HT2.out.then_below (HB.out.trans (hb3.mono HB.out.size)) (Nat.le_refl _)) (MsgsAt.nil _ _)
      | false =>
       (go_wp2_with (go_at_call 95;refine HCW.out.mono ?_;rintro e w3 ⟨rfl,hb3⟩));go_roundw
       case rel =>
        refine ⟨k + 1,by omega,by go_num,?_,HB.out.trans (hb3.mono HB.out.size)⟩;rw [List.range_succ,List.any_append,HNO.out];simp [← HWB.out]
       case measure => simp [intOf];omega
    ·(obtain rfl : k = 8:=by omega);have HAF : Hid (an = false):=Hd (by rw [HAN.out];exact HNO.out);have H3:=Hd (H2.out.below HB.out);have HX3:=Hd (HX2.out.below HB.out HX2.out.lt);have HT3:=Hd (HT2.out.then_below HB.out (Nat.le_refl _));have HEQ2 : Hid (r = if (c1 || c2) then ([],d,s) else Server.goes d { s with queues:=s.queues.set o (s.queue o ++ [⟨mc,mn,md,false⟩]) } o):=Hd (by rw [HEQ.out,if_neg (by rw [HAF.out];decide)]);clear HEQ HAF HAN HNO HB H2 HX2 HT2;obtain ⟨qa,qc,hq,-,-⟩:=(H3.out.queue o ho).slice;obtain ⟨qs,hqs⟩ : ∃ qs,qs = [q0,q1,q2,q3,q4,q5,q6,q7]:=⟨_,rfl⟩;rw [← hqs] at H3 hq;obtain ⟨n,hn⟩ : ∃ n,n = (s.queue o).length:=⟨_,rfl⟩;(have c20 : wr.cell? ⟨sb,20 + o,none⟩ = some (.slice qa n qc):=by rw [H3.out.cellQ o ho,hq,hn]);have x5 : wr.cell? ⟨H,5,none⟩ = some (.int .i64 o):=HX3.out.cell 5;have x8 : wr.cell? ⟨H,8,none⟩ = some (.string ⟨md.toArray⟩):=HX3.out.cell 8;(have ec1 : decide ((10 : Int) ≤ (n : Int)) = c1:=by rw [HC1.out,hn];rw [Bool.eq_iff_iff];simp;omega);(have ec2 : decide ((20 : Int) < (md.length : Int)) = c2:=by rw [HC2.out];rw [Bool.eq_iff_iff];simp;omega);have HN:=Hd hn;have HQ:=Hd hq;clear hn hq hqs;go_upto_region 12 with fail
     cases c1 with
     | true =>
      as_aux_lemma =>
       (go_quiet (fail));(go_wp2_with fail);go_ret;rw [HEQ2.out];exact GoesPost.here (H3.out.below (below_drewN (Below.refl _ _) nq)) (HT3.out.drewN nq) (MsgsAt.nil _ _)
     | false =>
      cases c2 with
      | true =>
       as_aux_lemma =>
        (go_quiet (fail));(go_wp2_with fail);go_ret;rw [HEQ2.out];exact GoesPost.here (H3.out.below (below_drewN (Below.refl _ _) nq)) (HT3.out.drewN nq) (MsgsAt.nil _ _)
      | false =>
       have HRE : Hid (r = Server.goes d { s with queues:=s.queues.set o (s.queue o ++ [⟨mc,mn,md,false⟩]) } o):=Hd HEQ2.out;(have h10 : (s.queue o).length < 10:=by have:=of_decide_eq_false HC1.out.symm;omega);(have h20 : md.length ≤ 20:=by have:=of_decide_eq_false HC2.out.symm;omega);have H10:=Hd h10;have H20:=Hd h20;(go_quiet (fail));obtain ⟨W4,hW4⟩ : ∃ W4,W4 = wr.drewN nq:=⟨_,rfl⟩;have H4 : Hid (SrvW P own w0 W4 sb db wb dm tb tm v ps qs d s):=Hd (by rw [hW4];exact H3.out.below (below_drewN (Below.refl _ _) nq));have HX4 : Hid (Has W4 H (.cells #[.int .i64 mk,.int .i64 mc,.int .i64 mn,.int .i64 me,.int .i64 ms,.int .i64 (o : Int),.int .i64 mv,.bool ml,.string ⟨md.toArray⟩] 93)):=Hd (by rw [hW4];exact HX3.out.drewN nq);have HT4 : Hid (Turn (SrvSet own) w W4):=Hd (by rw [hW4];exact HT3.out.drewN nq);rw [← hW4];clear hW4 H3 HX3 HT3 HEQ2 c20 x5 x8 ec1 ec2 h10 h20 hk hk8 HC1 HC2;(have c20 : W4.cell? ⟨sb,20 + o,none⟩ = some (.slice qa n qc):=by rw [H4.out.cellQ o ho,HQ.out,HN.out]);have hHl : H < W4.heap.size:=HX4.out.lt;have hsl : sb < W4.heap.size:=H4.out.s_.lt;have f20:=H4.out.s_.frozen (20 + o);(go_upto_region 14 with fail);refine last.headH (fun W => W.cell? ⟨sb,20 + o,none⟩ = some (.slice qa n qc) ∧ W.frozen? ⟨sb,20 + o,none⟩ = false ∧ Has W H (.cells #[.int .i64 mk,.int .i64 mc,.int .i64 mn,.int .i64 me,.int .i64 ms,.int .i64 (o : Int),.int .i64 mv,.bool ml,.string ⟨md.toArray⟩] 93)) 22 23 ⟨c20,f20,HX4.out.drew⟩ fun HS => ?_;refine last.many [(0,62,_),(1,63,_),(2,64,_),(3,65,_),(4,66,_),(5,67,_),(6,68,_),(7,69,_),(8,70,_),(9,71,_),(10,72,_),(11,73,_),(12,74,_),(13,75,_),(14,76,_),(15,77,_),(16,78,_)] HS.out ?_ (hy:=fun W' hW' => by have e1 : W'.cell? ⟨H,5,none⟩ = some (.int .i64 o):=hW'.2.2.cell 5;have f0:=hW'.1;have f1 : W'.cell? ⟨H,1,none⟩ = some (.int .i64 mc):=hW'.2.2.cell 1;have f2 : W'.cell? ⟨H,2,none⟩ = some (.int .i64 mn):=hW'.2.2.cell 2;have f3 : W'.cell? ⟨H,8,none⟩ = some (.string ⟨md.toArray⟩):=hW'.2.2.cell 8;repeat (first | exact .z | refine .s ?_ | refine .k ?_));refine last.goT [21,20,19] 19 81 (.pointer (some ⟨sb,0,none⟩)) HS.out ?_;dsimp only [List.set];refine last.goT [21,20] 20 82 (.pointer (some ⟨sb,20,none⟩)) HS.out ?_;dsimp only [List.set];refine last.one 17 fun K hK => ?_;go_simp;have hb5 : Below W4.heap.size W4 (W4.alloc (.cells #[.int .i64 mc,.int .i64 mn,.string ⟨md.toArray⟩,.bool false] 164)).drew:=((Below.refl _ W4).alloc (Nat.le_refl _) _).drew;have HS5 : Hid ((fun W => W.cell? ⟨sb,20 + o,none⟩ = some (.slice qa n qc) ∧ W.frozen? ⟨sb,20 + o,none⟩ = false ∧ Has W H (.cells #[.int .i64 mk,.int .i64 mc,.int .i64 mn,.int .i64 me,.int .i64 ms,.int .i64 (o : Int),.int .i64 mv,.bool ml,.string ⟨md.toArray⟩] 93)) (W4.alloc (.cells #[.int .i64 mc,.int .i64 mn,.string ⟨md.toArray⟩,.bool false] 164)).drew):=Hd ⟨(hb5.cell (p:=⟨sb,20 + o,none⟩) hsl).trans c20,(hb5.frozen (p:=⟨sb,20 + o,none⟩) hsl).trans f20,HX4.out.below hb5 hHl⟩;refine hK.out _ _ (fun _ => HS5.out) ?_;clear hK K HS;obtain ⟨G,hG⟩ : ∃ G,G = W4.heap.size:=⟨_,rfl⟩;obtain ⟨W5,hW5⟩ : ∃ W5,W5 = (W4.alloc (.cells #[.int .i64 mc,.int .i64 mn,.string ⟨md.toArray⟩,.bool false] 164)).drew:=⟨_,rfl⟩;have HG5 : Hid (Has W5 G (.cells (wrRow ⟨mc,mn,md,false⟩).toArray 164)):=Hd (by rw [hW5,hG];exact (Has.new W4 _).drew);have H5 : Hid (SrvW P own w0 W5 sb db wb dm tb tm v ps qs d s):=Hd (by rw [hW5];exact H4.out.below hb5);have HT5 : Hid (Turn (SrvSet own) w W5):=Hd (by rw [hW5];exact HT4.out.then_below hb5 (Nat.le_refl _));rw [← hW5] at HS5 ⊢;rw [← hG];clear hW5 hG hb5;have HQ5 : Hid (QRow own (10 + o) W5 164 4 (.slice qa n qc) (s.queue o).length ((s.queue o).flatMap wrRow)):=Hd (by have:=H5.out.queue o ho;rw [HQ.out] at this;rw [HN.out];exact this);refine last.one 18 fun K hK => ?_;refine wp_appendWr (.tmp 71) (.tmp 79) (10 + o) G (.slice qa n qc) (s.queue o) ⟨mc,mn,md,false⟩ rfl rfl rfl HQ5.out HG5.out (by have:=H10.out;omega) fun g7 off7 cap7 w7 hq7 hg7 _ => ?_;(have HN7 : Hid (∀ b,(own b = 4 ∨ own b = 0) → b < W5.heap.size → (Value.slice qa n qc).ownBlock ≠ some b):=Hd fun b hb hbl e => by have h9:=(HQ5.out.lt b e).2;omega);have ht7 : Turn (fun b => (Value.slice qa n qc).ownBlock = some b) W5 w7:=⟨hg7.os,hg7.tape,hg7.output,hg7.size,fun k hk hn => hg7.block k hk (fun e => hn e.symm)⟩;have hsl5 : sb < W5.heap.size:=H5.out.s_.lt;have nsb7:=HN7.out sb (.inl H5.out.osb) hsl5;have nH7:=HN7.out H (.inr (HOH.out)) HS5.out.2.2.lt;have HS7 : Hid ((fun W => W.cell? ⟨sb,20 + o,none⟩ = some (.slice qa n qc) ∧ W.frozen? ⟨sb,20 + o,none⟩ = false ∧ Has W H (.cells #[.int .i64 mk,.int .i64 mc,.int .i64 mn,.int .i64 me,.int .i64 ms,.int .i64 (o : Int),.int .i64 mv,.bool ml,.string ⟨md.toArray⟩] 93)) w7):=Hd ⟨(ht7.cell (p:=⟨sb,20 + o,none⟩) hsl5 nsb7).trans HS5.out.1,(ht7.frozen (p:=⟨sb,20 + o,none⟩) hsl5 nsb7).trans HS5.out.2.1,ht7.has HS5.out.2.2 nH7⟩;refine hK.out _ _ (fun _ => HS7.out) ?_;clear hK K;refine last.many [(21,83,_)] HS7.out ?_;have e20:=HS7.out.1;have e21:=HS7.out.2.1;refine last.one 22 fun K hK => ?_;go_simp;refine hK.out _ _ (fun h => absurd rfl h) ?_;refine last.done ?_;obtain ⟨u8,hu8⟩ : ∃ u8 : Value,u8 = .slice (some ⟨g7,off7,none⟩) ((s.queue o).length + 1) cap7:=⟨_,rfl⟩;obtain ⟨W8,hW8⟩ : ∃ W8,W8 = w7.setCell ⟨sb,20 + o,none⟩ u8:=⟨_,rfl⟩;rw [← hu8,← hW8];(have ht8 : Turn (fun b => b = sb) w7 W8:=by rw [hW8];exact turn_set (Turn.refl _ _) _ _);have ht58 : Turn (fun b => b = sb ∨ own b = 10 + o) W5 W8:=(ht7.mono fun k _ hk => Or.inr (HQ5.out.lt k hk).2).trans ht8 fun k _ e => .inl e
       have hs8 : Has W8 sb (.cells (scells s.terms wb s.values (qs.set o u8) dm tb s.epoch s.quiet s.now s.torn).toArray 105):=by
        rw [hW8];have:=(ht7.has H5.out.s_ nsb7).set_ (20 + o) u8;rw [List.setIfInBounds_toArray,scells_queue H5.out.nv H5.out.lq o ho] at this;exact this
       have hsz : W5.heap.size ≤ w7.heap.size:=hg7.size;have hsz8 : w7.heap.size ≤ W8.heap.size:=ht8.size
       have hq8 : QRow (cutOwn (newOwn own W5 (10 + o)) W8) (10 + o) W8 164 4 u8 (s.queue o ++ [(⟨mc,mn,md,false⟩ : Wr)]).length ((s.queue o ++ [(⟨mc,mn,md,false⟩ : Wr)]).flatMap wrRow):=by
        rw [List.length_append,List.length_singleton];rw [← hu8] at hq7
        exact hq7.keep ht8 (fun k hk => cut_old (by omega)) fun k _ hk e => by
         rw [e,new_old hsl5,H5.out.osb] at hk;omega
       have H8:=Hd (H5.out.setQueue o ho u8 (s.queue o ++ [⟨mc,mn,md,false⟩]) (w':=W8) (own1:=cutOwn (newOwn own W5 (10 + o)) W8) ht58 (cut_ext (Ext.new _ _ _) (by omega)) (cut_fresh _ _) hs8 hq8 (fun y hy => by
        rcases List.mem_append.1 hy with h9 | h9
        ·exact H5.out.ok.qc o y h9
        ·rw [List.mem_singleton.1 h9]
         exact ⟨hmc,H20.out⟩) (by rw [List.length_append,List.length_singleton];have:=H10.out;omega))
       have HE8 : Hid (Ext w own (cutOwn (newOwn own W5 (10 + o)) W8)):=Hd fun k hk => by
        have h9:=HT5.out.size;rw [cut_old (by omega),new_old (by omega)]
       have HT8 : Hid (Turn (SrvSet own) w W8):=Hd (HT5.out.trans ht58 fun k _ e => by
        unfold SrvSet;rcases e with e | e
        ·rw [e,H5.out.osb];decide
        ·rw [e];omega)
       have x5 : W8.cell? ⟨H,5,none⟩ = some (.int .i64 o):=(ht58.has HS5.out.2.2 (fun e => by
        have h9:=HOH.out;rcases e with e | e
        ·rw [e,H5.out.osb] at h9;cases h9
        ·omega)).cell 5
       have HGS:=Hd (goes_s W8 o ho H8.out);clear hW8 hu8 ht8 ht58 hs8 hq8 hq7 ht7 hg7 hK K HS5 HS7 e20 e21 H5 HQ5 HG5 HN7 hsz hsz8 nsb7 nH7;(go_wp2_with (go_at_call 83;refine HGS.out.mono ?_;rintro e W9 ⟨u9,own9,v9,ps9,qs9,rfl,hp9⟩));go_ret;rw [HRE.out];exact GoesPost.ahead2 HE8.out HT8.out ⟨u9,own9,v9,ps9,qs9,rfl,hp9⟩
end
theorem run_msgs (w : World) {B B' : Nat} (hB : B ≤ w.heap.size) (ty : TypeId) (v u : Value) (l n : List Msg) (hl : MsgsAt B w v l) (hn : MsgsAt B' w u n) (hln : l.length + n.length ≤ 1000000) :
 ∃ v' w',(Builtin.append_ #[79,79] ty #[v,u]).run Tryz.prog w = .ok v' w' ∧ MsgsAt B w' v' (l ++ n) ∧ w.grownBy w' v.ownBlock ∧ (∀ g,v'.ownBlock = some g → v.ownBlock = some g ∨ g = w.heap.size):=by
 obtain ⟨i0,hi0,hz0,hz1,hz2⟩:=info_parts infoMsg;rcases hn.2 with ⟨rfl,h0⟩ | ⟨g,cap,cur,rfl,hb,hh,h1,h2,h3,h4⟩
 ·have hn0 : n = []:=List.eq_nil_of_length_eq_zero h0;refine ⟨v,w,?_,by rw [hn0,List.append_nil];exact hl,World.grownBy.refl w _,fun g hg => .inl hg⟩;rcases hl.2 with ⟨rfl,h5⟩ | ⟨g,cap,cur,rfl,-,-,hc,-⟩
  ·simp [Builtin.append_,run_underlying Tryz.underlying79,sizeOf,typeInfo,hi0,Builtin.lenOf,Builtin.firstCells]
  ·simp [Builtin.append_,run_underlying Tryz.underlying79,sizeOf,typeInfo,hi0,Builtin.lenOf,Builtin.firstCells,hc,storeCells]
 ·obtain ⟨v',w',hrun,r1,r2,-,r3⟩:=run_append_own_at (P:=Tryz.prog) w B 79 ty 93 i0 _ 9 80 Tryz.underlying79 hi0 hz0 hz1 hz2 rfl (by decide) v l.length (l.flatMap msgRow) hl ⟨g,0,none⟩ n.length cap (n.flatMap msgRow) (flat_len msgRow_len n) (fun j u hj => by
   (have hjl : j < n.length * 9:=by rw [← flat_len msgRow_len n];exact (List.getElem?_eq_some_iff.1 hj).1);have e1 : (⟨g,0,none⟩ : Addr).add j = ⟨g,j,none⟩:=by by_cases h0 : j = 0 <;> simp [Addr.add,h0]
   rw [e1,(row_cell hh h4 j hjl).1,hj]) (flat_one msgRow_one n) (by unfold maxLen;omega) (by omega) hB
  refine ⟨v',w',hrun,?_,r2,fun g' hg' => ?_⟩
  ·unfold MsgsAt;rw [List.length_append,List.flatMap_append];exact r1
  ·rcases r3 with h5 | h5
   ·exact .inl (by rw [← h5];exact hg')
   ·right;rw [h5] at hg';exact (Option.some.inj hg').symm
theorem wpList_msgs {o : Oper} {rest : List Oper} {ops : Array Oper} {a : Act} {w : World} {Q : Exit → Act → World → Prop} (hg : o.guard = none) (x y : Operand) {B B' : Nat} (hB : B ≤ w.heap.size) (v u : Value) (l n : List Msg) (ho : o.op = .call { callee:=.builtin .append,args:=#[x,y],argTypes:=#[79,79] }) (hx : a.eval x = v) (hy : a.eval y = u)
 (hl : MsgsAt B w v l) (hn : MsgsAt B' w u n) (hln : l.length + n.length ≤ 1000000)
 (h : ∀ v' w',MsgsAt B w' v' (l ++ n) → w.grownBy w' v.ownBlock → (∀ g,v'.ownBlock = some g → v.ownBlock = some g ∨ g = w.heap.size) → wpList Tryz.prog ops Q rest (a.put o.dst v') w') : wpList Tryz.prog ops Q (o :: rest) a w:=
 wpList_plain hg fun K hK => by
  obtain ⟨v',w',hrun,h2,h3,h4⟩:=run_msgs w hB o.type v u l n hl hn hln;unfold Oper.wp execOp;simp only [ho,resolve,invoke,builtin,Sem.run_bind,Sem.run_pure,Result.andThen_ok,List.map_toArray,List.map_cons,List.map_nil,hx,hy,hrun];exact hK _ _ (h v' w' h2 h3 h4)
theorem goesF_few (o : Nat) : ∀ (f : Nat) (d : Disk) (s : Server) (out : List Msg),o < s.queues.length → (Server.goesF f d s o out).1.length ≤ out.length + 5 * f ∧ (Server.goesF f d s o out).2.2.queues.length = s.queues.length
 | 0,d,s,out,_ => ⟨by simp [Server.goesF],rfl⟩
 | f + 1,d,s,out,ho => by
  cases hq : s.queue o with
  | nil => rw [goes_empty hq];exact ⟨by simp,rfl⟩
  | cons x rest =>
   cases hd : s.down with
   | true => rw [goes_down hd];exact ⟨by simp,rfl⟩
   | false =>
    rw [goes_round hq hd]
    have ht : (told s o x out).length ≤ out.length + 4:=by
     unfold told;split
     ·omega
     ·rw [List.length_append,List.length_map];have:=holders_few s.table o s.now;omega
    cases hb : (decide (s.now < s.quiet) || (s.table.holders o s.now).any fun c => s.table.leans c s.now) with
    | true =>
     rw [goOne_waits hb];refine ⟨?_,by show (begins s o x rest).queues.length = _;unfold begins;rw [List.length_set]⟩;show (told s o x out).length ≤ _;omega
    | false =>
     rw [goOne_goes hb];obtain ⟨s2,hs2⟩ : ∃ s2,s2 = { begins s o x rest with table:=model.flushAll s.table (s.table.holders o s.now) }:=⟨_,rfl⟩;(have hl2 : s2.queues.length = s.queues.length:=by rw [hs2];show (begins s o x rest).queues.length = _;unfold begins;rw [List.length_set]);rw [← hs2];by_cases h14 : (d.add s2.down (recOf s2 o x)).1 = 14
     ·rw [store_dev h14];exact ⟨by simp,hl2⟩
     ·rw [store_goes h14];dsimp only;rw [if_pos rfl]
      have hl3 : ((Server.answer { s2 with down:=(d.add s2.down (recOf s2 o x)).2.2 } (d.add s2.down (recOf s2 o x)).1 (recOf s2 o x)).1.queues.set o rest).length = s.queues.length:=by
       rw [List.length_set,answer_queues];exact hl2
      have ih:=goesF_few o f (d.add s2.down (recOf s2 o x)).2.1 { (Server.answer { s2 with down:=(d.add s2.down (recOf s2 o x)).2.2 } (d.add s2.down (recOf s2 o x)).1 (recOf s2 o x)).1 with queues:=(Server.answer { s2 with down:=(d.add s2.down (recOf s2 o x)).2.2 } (d.add s2.down (recOf s2 o x)).1 (recOf s2 o x)).1.queues.set o rest } (told s o x out ++ [(Server.answer { s2 with down:=(d.add s2.down (recOf s2 o x)).2.2 } (d.add s2.down (recOf s2 o x)).1 (recOf s2 o x)).1.stamp (Server.answer { s2 with down:=(d.add s2.down (recOf s2 o x)).2.2 } (d.add s2.down (recOf s2 o x)).1 (recOf s2 o x)).2]) (by rw [hl3];exact ho);refine ⟨Nat.le_trans ih.1 ?_,ih.2.trans hl3⟩;rw [List.length_append,List.length_singleton];omega
theorem goes_few {d : Disk} {s : Server} {o : Nat} (ho : o < s.queues.length) (hl : (s.queue o).length ≤ 10) : (Server.goes d s o).1.length ≤ 55:=by
 have:=(goesF_few o ((s.queue o).length + 1) d s [] ho).1;unfold Server.goes;simp only [List.length_nil] at this;omega
section
variable {P : Lib.PrintTabs} {own own1 own2 : Nat → Nat} {w0 w wr w' : World} {sb db wb dm tb tm : Nat} {v v1 : Value} {ps ps1 : List ByteArray} {qs qs1 : List Value} {d d1 : Disk} {s s1 : Server} {q q' : Value} {out : List Msg}
structure TM (P : Lib.PrintTabs) (own own1 : Nat → Nat) (w0 w wr : World) (sb db wb dm tb tm : Nat) (v : Value) (ps : List ByteArray) (qs : List Value) (d : Disk) (s : Server) (q : Value) (out : List Msg) : Prop where
 le0 : w0.heap.size ≤ w.heap.size
 ext : Ext w own own1
 srv : SrvW P own1 w0 wr sb db wb dm tb tm v ps qs d s
 msgs : MsgsAt w.heap.size wr q out
 om : ∀ g,q.ownBlock = some g → own1 g = 0
 turn : Turn (SrvSet own) w wr
theorem TM.goes (h : TM P own own1 w0 w wr sb db wb dm tb tm v ps qs d s q out) (he : Ext wr own1 own2) (hw : SrvW P own2 w0 w' sb db wb dm tb tm v1 ps1 qs1 d1 s1) (ht : Turn (SrvSet own1) wr w') : TM P own own2 w0 w w' sb db wb dm tb tm v1 ps1 qs1 d1 s1 q out:=by
 have hlm : ∀ g,q.ownBlock = some g → g < wr.heap.size:=fun g hg => (h.msgs.lt g hg).2;refine ⟨h.le0,fun k hk => (he k (Nat.lt_of_lt_of_le hk h.turn.size)).trans (h.ext k hk),hw,h.msgs.keep ht fun g hg hs => by have:=h.om g hg;unfold SrvSet at hs;omega,fun g hg => (he g (hlm g hg)).trans (h.om g hg),h.turn.trans ht fun k hk hs => ?_⟩;unfold SrvSet at hs ⊢;rwa [h.ext k hk] at hs
theorem TM.append {n : List Msg} (h : TM P own own1 w0 w wr sb db wb dm tb tm v ps qs d s q out) (hm : MsgsAt w.heap.size w' q' (out ++ n)) (hg : wr.grownBy w' q.ownBlock) (hq : ∀ g,q'.ownBlock = some g → q.ownBlock = some g ∨ g = wr.heap.size) : TM P own own1 w0 w w' sb db wb dm tb tm v ps qs d s q' (out ++ n):=by
 have ht : Turn (fun g => q.ownBlock = some g) wr w':=⟨hg.os,hg.tape,hg.output,hg.size,fun k hk hn => hg.block k hk (fun e => hn e.symm)⟩;refine ⟨h.le0,h.ext,h.srv.own0 ht fun g _ hg => ⟨h.om g hg,Nat.le_trans h.le0 (h.msgs.block g hg)⟩,hm,fun g hg => ?_,h.turn.trans ht fun k hk hk2 => ?_⟩
 ·rcases hq g hg with h1 | h1
  ·exact h.om g h1
  ·exact h.srv.fr g (by omega)
 ·have:=h.msgs.block k hk2;omega
set_option maxHeartbeats 1000000 in
set_option maxRecDepth 1000000 in
theorem Tick_s (w : World) (now : Int) (h : SrvW P own w0 w sb db wb dm tb tm v ps qs d s) :
 Calls Tryz.prog 60 #[.pointer (some ⟨sb,0,none⟩),.int .i64 now] w (GoesPost P own w0 w sb db wb dm tb tm (Server.tick d s now)):=by
 obtain ⟨r,hr⟩ : ∃ r,r = Server.tick d s now:=⟨_,rfl⟩;rw [← hr];have HD:=Hd (Down_s w h);have H:=Hd h
 cases hd : s.down with
 | true =>
  have HR : Hid (r = ([],d,s)):=Hd (by rw [hr];unfold Server.tick;rw [if_pos hd]);rw [hd] at HD;clear hr hd h;(go_enter Tryz.func60,Tryz.ntmps60);(go_wp2_with (go_at_call 69;refine HD.out.mono ?_;rintro e w' ⟨rfl,rfl⟩));go_ret;rw [HR.out];exact GoesPost.here H.out (Turn.refl _ _) (MsgsAt.nil _ _)
 | false =>
  have HR : Hid (r = Server.tickF (List.range 8) d (s.at_ now) []):=Hd (by rw [hr];unfold Server.tick;rw [if_neg (by rw [hd];decide)]);rw [hd] at HD;clear hr hd h;go_enter Tryz.func60,Tryz.ntmps60
  go_upto_region 6 with (first
   | (go_at_call 69;refine HD.out.mono ?_;rintro e w' ⟨rfl,rfl⟩)
   | (go_at_call 70;refine (at_s w now H.out).mono ?_;rintro e W1 ⟨rfl,h1,t1⟩))
  have HTM : Hid (TM P own own w0 w W1 sb db wb dm tb tm v ps qs d (s.at_ now) (.slice none 0 0) []):=Hd ⟨H.out.le,Ext.refl _ _,h1,MsgsAt.nil _ _,fun g hg => (by cases hg),t1.mono fun k _ e => by subst e;unfold SrvSet;rw [H.out.osb];decide⟩;clear h1 t1 HD;(go_loopw [12,5] (fun q12 q5 wr => ∃ (k : Nat) (own1 : Nat → Nat) (v1 : Value) (ps1 : List ByteArray) (qs1 : List Value) (d1 : Disk) (s1 : Server) (out : List Msg),k ≤ 8 ∧ q12 = .int .i64 k ∧ out.length ≤ 55 * k ∧ TM P own own1 w0 w wr sb db wb dm tb tm v1 ps1 qs1 d1 s1 q5 out ∧ r = Server.tickF (List.range' k (8 - k)) d1 s1 out) (fun q12 _ _ => 8 - (intOf q12).toNat));case atStart => exact ⟨0,_,_,_,_,_,_,_,by omega,rfl,by simp,HTM.out,HR.out⟩
  case round =>
   clear HTM HR;obtain ⟨k,own1,v1,ps1,qs1,d1,s1,out,hk,rfl,hlen,htm,hgo⟩:=hrel;have HTM:=Hd htm;have HGO:=Hd hgo;have HLE:=Hd hlen;clear htm hgo hlen;by_cases hk8 : k < 8
   ·(have hki : (k : Int) < 8:=by omega);have HGS:=Hd (goes_s wr k hk8 HTM.out.srv);have HFW:=Hd (goes_few (d:=d1) (o:=k) (by rw [HTM.out.srv.nq];exact hk8) (HTM.out.srv.ok.ql k))
    go_wp2_with (first
     | (go_at_call 83;refine HGS.out.mono ?_;rintro e W2 ⟨u2,own2,v2,ps2,qs2,rfl,he2,hm2,hs2,ht2⟩;have HTM2:=Hd (HTM.out.goes he2 hs2 ht2);have HM2:=Hd hm2;clear he2 hm2 hs2 ht2)
     | (refine wpList_msgs rfl (.tmp 15) (.tmp 18) HTM2.out.turn.size u5 u2 out _ rfl rfl rfl HTM2.out.msgs HM2.out (by have:=HFW.out;have:=HLE.out;omega) fun v' w3 hm3 hg3 hq3 => ?_;have HTM3:=Hd (HTM2.out.append hm3 hg3 hq3);clear hm3 hg3 hq3))
    go_roundw
    case rel =>
     refine ⟨k + 1,_,_,_,_,_,_,_,by omega,by go_num,?_,HTM3.out,?_⟩
     ·rw [List.length_append];have:=HFW.out;have:=HLE.out;omega
     ·rw [HGO.out,show 8 - k = (8 - (k + 1)) + 1 by omega,List.range'_succ];rfl
    case measure => simp [intOf];omega
   ·(obtain rfl : k = 8:=by omega);have HRE : Hid (r = (out,d1,s1)):=Hd HGO.out;(go_wp2_with fail);go_ret;rw [HRE.out];exact ⟨_,own1,v1,ps1,qs1,rfl,HTM.out.ext,HTM.out.msgs,HTM.out.srv,HTM.out.turn⟩
end
end srv
end Go.Proofs.YtefkmcjhgoagcaaGreatDoor
