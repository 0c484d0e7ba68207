/-
  A part of the proof of the law WorldLasts: ClG.
-/
import Derived.Test.YtefkmcjhgoagcaaGreatDoorHd
import Derived.Test.YtefkmcjhgoagcaaGreatDoorP27
import Derived.Test.YtefkmcjhgoagcaaGreatDoorP31
namespace Go.Proofs.YtefkmcjhgoagcaaGreatDoor
section
namespace last
open Go
section
variable {P : Program} {ops : Array Oper} {Q : Exit → Act → World → Prop} {md : Region.Mode} {S : World → Prop} {L : Nat}
theorem skL (i d : Nat) {oi : Oper} {fuel : Nat} {lb : List Bool} {ts : List Value} {ds : List Deferred} {w : World} (hS : S w) (h : wpAnyL P md ops Q S L fuel (lb.set i true).toArray ⟨(ts.set d undef).toArray,ds⟩ w)
 (hi : ops[i]? = some oi:=by rfl) (hd : oi.dst = some d:=by rfl) (hs : Region.noSelect ops = true:=by kernel_rfl) (hf : Region.free md ops lb.toArray i = true:=by kernel_rfl) (hr : (Region.ready md ops lb.toArray).contains i = true:=by kernel_rfl) (hl : waits md ops L i = true:=by kernel_rfl)
 (hQ : ∀ c a w,Q (.panic c) (a.put (some d) undef) w → Q (.panic c) a w:=by exact fun _ _ _ h => h) (hw : Region.wanted oi (yielded ops ts.toArray) = false:=by rfl) : wpAnyL P md ops Q S L (fuel + 1) lb.toArray ⟨ts.toArray,ds⟩ w:=
 wpAnyL_skipL i d hi hd hs hf hr hl hQ hS hw h
end
end last
namespace cli
open Go.RowKit heap own errs mapof wire srv cache
open model (Client MItem Val Terms MCall seek put del)
section
variable {own own1 : Nat → Nat} {T : Nat} {w wr w' w1 : World} {cb fm sm : Nat} {cv : Value} {c c' : Client} {q q' : Value} {out : List Msg}
theorem CPost.here (h : CliW own T w' cb fm sm cv c) (hf : ∀ g,w.heap.size ≤ g → own g = 0) (ht : Turn (CliSet own T) w w') {u : Value} {l : List Msg} (hm : MsgsAt w.heap.size w' u l) : CPost own T w cb c l (fun u => u) (.returned u) w':=
 ⟨own,cv,fm,sm,u,rfl,Ext.refl _ _,fun g hg => hf g (Nat.le_trans ht.size hg),h,hm,ht⟩
theorem CliW.sub (h : CliW own T w cb fm sm cv c) {w2 : World} (ht : Turn (fun g => g = cb) w w2) : Turn (CliSet own T) w w2:=ht.mono fun k _ e => by subst e;unfold CliSet;rw [h.ocb];omega
set_option maxHeartbeats 4000000 in
set_option maxRecDepth 1000000 in
theorem Take_c (m : Msg) (h : CliW own T w cb fm sm cv c) (hf : ∀ g,w.heap.size ≤ g → own g = 0) (hT : 0 < T) (hmv : i64ok m.version) :
 Calls Tryz.prog 45 #[.pointer (some ⟨cb,0,none⟩),m.val] w (CPost own T w cb (c.take m).2 (c.take m).1 fun u => u):=by
 obtain ⟨mk,mc,mn,me,ms,mo,mv,ml,md⟩:=m;dsimp only at hmv;obtain ⟨r,hr⟩ : ∃ r,r = c.take ⟨mk,mc,mn,me,ms,mo,mv,ml,md⟩:=⟨_,rfl⟩;obtain ⟨H,hH⟩ : ∃ H,H = w.heap.size:=⟨_,rfl⟩;obtain ⟨W1,hW1⟩ : ∃ W1,W1 = w.alloc (.cells #[.int .i64 mk,.int .i64 mc,.int .i64 mn,.int .i64 me,.int .i64 ms,.int .i64 mo,.int .i64 mv,.bool ml,.string ⟨md.toArray⟩] 93):=⟨_,rfl⟩;(have hb1 : Below w.heap.size w W1:=by rw [hW1];exact (Below.refl _ _).alloc (Nat.le_refl _) _);(have hx1 : Has W1 H (.cells #[.int .i64 mk,.int .i64 mc,.int .i64 mn,.int .i64 me,.int .i64 ms,.int .i64 mo,.int .i64 mv,.bool ml,.string ⟨md.toArray⟩] 93):=by rw [hW1,hH];exact Has.new w _);have hc1:=h.below hb1;have HOH : Hid (own H = 0):=Hd (hf H (by omega));obtain ⟨a1,ha1⟩ : ∃ a1,a1 = (mc != c.id):=⟨_,rfl⟩;obtain ⟨a2,ha2⟩ : ∃ a2,a2 = decide (mo < 0):=⟨_,rfl⟩;obtain ⟨a3,ha3⟩ : ∃ a3,a3 = decide (8 ≤ mo):=⟨_,rfl⟩;obtain ⟨q1,hq1⟩ : ∃ q1,q1 = (me == c.epoch):=⟨_,rfl⟩;obtain ⟨q2,hq2⟩ : ∃ q2,q2 = (ms == c.session):=⟨_,rfl⟩;obtain ⟨same,hsa⟩ : ∃ same,same = (q1 && q2):=⟨_,rfl⟩
 have HR : Hid (r = if (a1 || a2 || a3) then ([],c) else
  if mk = 5 then ([],c.takesValue ⟨mk,mc,mn,me,ms,mo,mv,ml,md⟩ same)
  else if mk = 6 then (if c.busy && decide (mn = c.asked) && decide (c.call.kind = 2) then ([],{ c with call:={ c.call with value:={ c.call.value with ver:=mv },over:=true },asked:=0 }) else ([],c))
  else if mk = 7 then (if same && decide (c.renewal ≠ 0) && decide (mn = c.renewal) then ([],{ c with volume:=c.ends c.renewed c.terms.volume,renewal:=0 }) else ([],c))
  else if mk = 8 then (if decide (c.epoch < me) || decide (me = c.epoch) && decide (c.session < ms) then ([],{ c with epoch:=me,session:=ms,volume:=0,renewal:=0,cache:=[],floors:=[] }) else ([],c))
  else if mk = 9 then (if same then ([Client.stamp { c with cache:=c.cache.drop mo,floors:=put mo (max (c.floorOf mo) mv) c.floors } { model.noMsg with kind:=4,object:=mo,version:=mv }],{ c with cache:=c.cache.drop mo,floors:=put mo (max (c.floorOf mo) mv) c.floors }) else ([],c))
  else ([],c)):=Hd (by
  rw [hr];unfold Client.take
  have e1 : (!decide (mc = c.id) || !model.isObject mo) = (a1 || a2 || a3):=by
   rw [ha1,ha2,ha3];unfold model.isObject model.inR;rw [Bool.eq_iff_iff];simp only [Bool.or_eq_true,Bool.not_eq_true',decide_eq_false_iff_not,Bool.and_eq_false_iff,bne_iff_ne,ne_eq,decide_eq_true_eq];omega
  have e2 : (decide (me = c.epoch) && decide (ms = c.session)) = same:=by
   rw [hsa,hq1,hq2];rfl
  dsimp only
  rw [e1,e2])
 have HGD : Hid ((a1 || a2 || a3) = false → 0 ≤ mo ∧ mo < 8):=Hd fun h9 => by
  rw [ha2,ha3] at h9;simp only [Bool.or_eq_false_iff,decide_eq_false_iff_not] at h9;omega
 have HB1:=Hd hb1;have HX1:=Hd hx1;have HC1:=Hd hc1;have HFF:=Hd hf;have HMV:=Hd hmv;have HSA:=Hd hsa;have ea1 : (mc != c.id) = a1:=ha1.symm;have ea2 : decide (mo < 0) = a2:=ha2.symm;have ea3 : decide (8 ≤ mo) = a3:=ha3.symm;have eq1 : (me == c.epoch) = q1:=hq1.symm;have eq2 : (ms == c.session) = q2:=hq2.symm;have x1 : W1.cell? ⟨H,1,none⟩ = some (.int .i64 mc):=hx1.cell 1;have x5 : W1.cell? ⟨H,5,none⟩ = some (.int .i64 mo):=hx1.cell 5;have c0 : W1.cell? ⟨cb,0,none⟩ = some (.int .i64 c.id):=hc1.c_.cell 0;rw [← hr];unfold Msg.val;dsimp only;clear hr ha1 ha2 ha3 hq1 hq2 hsa h hx1 hc1 hb1 hmv hf;(go_enter Tryz.func45,Tryz.ntmps45);(go_upto_region 1 with fail);rw [← hW1,← hH];have HSZ : Hid (w.heap.size ≤ H):=Hd (Nat.le_of_eq hH.symm);clear hW1 hH;go_cut [22] (fun t wx => t = .bool (a1 || a2 || a3) ∧ ∃ nl,wx = W1.drewN nl)
 case first =>
  cases a1 with
  | true =>
   (go_quiet (fail));(go_wp2_with fail);go_meet;case rel => exact ⟨rfl,nq,rfl⟩
  | false =>
   cases a2 with
   | true =>
    (go_quiet (fail));(go_wp2_with fail);go_meet;case rel => exact ⟨rfl,nq,rfl⟩
   | false =>
    cases a3
    all_goals
     (go_quiet (fail));(go_wp2_with fail);go_meet;case rel => exact ⟨rfl,nq,rfl⟩
 case rest =>
  obtain ⟨ht,nl,hwx⟩:=hcut;obtain ⟨bad,hbad⟩ : ∃ bad,bad = (a1 || a2 || a3):=⟨_,rfl⟩;rw [← hbad] at ht HR HGD;subst ht;have HC2 : Hid (CliW own T wc cb fm sm cv c):=Hd (by rw [hwx];exact HC1.out.drewN nl);have HX2 : Hid (Has wc H (.cells #[.int .i64 mk,.int .i64 mc,.int .i64 mn,.int .i64 me,.int .i64 ms,.int .i64 mo,.int .i64 mv,.bool ml,.string ⟨md.toArray⟩] 93)):=Hd (by rw [hwx];exact HX1.out.drewN nl);have HB2 : Hid (Below w.heap.size w wc):=Hd (by rw [hwx];exact below_drewN HB1.out nl);clear hwx hbad ea1 ea2 ea3 HC1 HX1 HB1 x1 x5 c0
  cases bad with
  | true =>
   as_aux_lemma =>
    have HE : Hid (r = ([],c)):=Hd HR.out;(go_wp2_with fail);go_ret;rw [HE.out];exact CPost.here HC2.out HFF.out (Turn.of_below HB2.out (Nat.le_refl _)) (MsgsAt.nil _ _)
  | false =>
   have hmo:=HGD.out rfl;have x3 : wc.cell? ⟨H,3,none⟩ = some (.int .i64 me):=HX2.out.cell 3;have x4 : wc.cell? ⟨H,4,none⟩ = some (.int .i64 ms):=HX2.out.cell 4;have c5 : wc.cell? ⟨cb,5,none⟩ = some (.int .i64 c.epoch):=HC2.out.c_.cell 5;have c6 : wc.cell? ⟨cb,6,none⟩ = some (.int .i64 c.session):=HC2.out.c_.cell 6;(go_upto_region 3 with fail);obtain ⟨W2,hW2⟩ : ∃ W2,W2 = wc:=⟨_,rfl⟩;rw [← hW2] at HC2 HX2 HB2 x3 x4 c5 c6 ⊢;clear hW2;go_cut [5] (fun t wx => t = .bool same ∧ ∃ nl,wx = W2.drewN nl)
   case first =>
    cases q1 with
    | false =>
     have HS2 : Hid (same = false):=Hd HSA.out;(go_quiet (fail));(go_wp2_with fail);go_meet;case rel => exact ⟨by rw [HS2.out],nq,rfl⟩
    | true =>
     have HS2 : Hid (same = q2):=Hd HSA.out;cases q2
     all_goals
      (go_quiet (fail));(go_wp2_with fail);go_meet;case rel => exact ⟨by rw [HS2.out],nq,rfl⟩
   case rest =>
    obtain ⟨ht,nl,hwx⟩:=hcut;subst ht;have HC3' : Hid (CliW own T wc cb fm sm cv c):=Hd (by rw [hwx];exact HC2.out.drewN nl);have HX3' : Hid (Has wc H (.cells #[.int .i64 mk,.int .i64 mc,.int .i64 mn,.int .i64 me,.int .i64 ms,.int .i64 mo,.int .i64 mv,.bool ml,.string ⟨md.toArray⟩] 93)):=Hd (by rw [hwx];exact HX2.out.drewN nl);have HB3' : Hid (Below w.heap.size w wc):=Hd (by rw [hwx];exact below_drewN HB2.out nl);obtain ⟨W3,hW3⟩ : ∃ W3,W3 = wc:=⟨_,rfl⟩;rw [← hW3] at HC3' HX3' HB3' ⊢;have HC3:=HC3';have HX3:=HX3';have HB3:=HB3';clear hwx hW3 HC2 HX2 HB2 x3 x4 c5 c6 eq1 eq2 HSA HC3' HX3' HB3' HGD
    have HR2 : Hid (r = if mk = 5 then ([],c.takesValue ⟨mk,mc,mn,me,ms,mo,mv,ml,md⟩ same)
     else if mk = 6 then (if c.busy && decide (mn = c.asked) && decide (c.call.kind = 2) then ([],{ c with call:={ c.call with value:={ c.call.value with ver:=mv },over:=true },asked:=0 }) else ([],c))
     else if mk = 7 then (if same && decide (c.renewal ≠ 0) && decide (mn = c.renewal) then ([],{ c with volume:=c.ends c.renewed c.terms.volume,renewal:=0 }) else ([],c))
     else if mk = 8 then (if decide (c.epoch < me) || decide (me = c.epoch) && decide (c.session < ms) then ([],{ c with epoch:=me,session:=ms,volume:=0,renewal:=0,cache:=[],floors:=[] }) else ([],c))
     else if mk = 9 then (if same then ([Client.stamp { c with cache:=c.cache.drop mo,floors:=put mo (max (c.floorOf mo) mv) c.floors } { model.noMsg with kind:=4,object:=mo,version:=mv }],{ c with cache:=c.cache.drop mo,floors:=put mo (max (c.floorOf mo) mv) c.floors }) else ([],c))
     else ([],c)):=Hd HR.out
    clear HR;have x0 : W3.cell? ⟨H,0,none⟩ = some (.int .i64 mk):=HX3.out.cell 0;by_cases k5 : mk = 5
    ·
     as_aux_lemma =>
      have HE : Hid (r = ([],c.takesValue ⟨mk,mc,mn,me,ms,mo,mv,ml,md⟩ same)):=Hd (by rw [HR2.out,if_pos k5]);have HVC:=Hd (value_c (w:=W3) ⟨mk,mc,mn,me,ms,mo,mv,ml,md⟩ same HC3.out (fun g hg => HFF.out g (Nat.le_trans HB3.out.size hg)) hT hmo HMV.out);(have f5 : (mk == 5) = true:=by simp [k5]);clear k5 HR2
      go_wp2_with (first
       | (refine wpList_load_row rfl 93 (.tmp 3) rfl H rfl 93 _ (0,0) _ HX3.out Tryz.underlying93 rfl (by kernel_rfl) ?_)
       | (go_at_call 75;refine HVC.out.mono ?_;rintro e W4 ⟨own4,cv4,fm4,sm4,u4,rfl,he4,hf4,hc4,-,ht4⟩))
      go_ret;rw [HE.out];exact ⟨own4,cv4,fm4,sm4,.slice none 0 0,rfl,fun g hg => he4 g (Nat.lt_of_lt_of_le hg HB3.out.size),hf4,hc4,MsgsAt.nil _ _,(Turn.of_below HB3.out (Nat.le_refl _)).trans ht4 fun _ _ e => e⟩
    ·(have f5 : (mk == 5) = false:=by simp [k5]);by_cases k6 : mk = 6
     ·
      as_aux_lemma =>
       obtain ⟨b0,hb0⟩ : ∃ b0,b0 = c.busy:=⟨_,rfl⟩;obtain ⟨n1,hn1⟩ : ∃ n1,n1 = (mn == c.asked):=⟨_,rfl⟩;obtain ⟨n2,hn2⟩ : ∃ n2,n2 = (c.call.kind == 2):=⟨_,rfl⟩;obtain ⟨gb,hgb⟩ : ∃ gb,gb = (b0 && n1 && n2):=⟨_,rfl⟩
       have HE : Hid (r = if gb then ([],{ c with call:={ c.call with value:={ c.call.value with ver:=mv },over:=true },asked:=0 }) else ([],c)):=Hd (by
        rw [HR2.out,if_neg k5,if_pos k6,hgb,hb0,hn1,hn2]
        rfl)
       (have HBU : Hid (∀ W,CliW own T W cb fm sm cv c → Calls Tryz.prog 57 #[.pointer (some ⟨cb,0,none⟩)] W fun e w' => e = .returned (.bool b0) ∧ W = w'):=Hd fun W hW => by rw [hb0];exact Busy_c W hW);have HGB:=Hd hgb;have en1 : (mn == c.asked) = n1:=hn1.symm;have en2 : (c.call.kind == 2) = n2:=hn2.symm;(have f6 : (mk == 6) = true:=by simp [k6]);clear k5 k6 HR2 hb0 hn1 hn2 hgb;(go_upto_region 8 with fail);go_cut [67] (fun t wx => t = .bool gb ∧ wx = W3.drew)
       case first =>
        cases b0 with
        | false =>
         have HG2 : Hid (gb = false):=Hd HGB.out;refine last.headH (fun W => CliW own T W cb fm sm cv c ∧ Has W H (.cells #[.int .i64 mk,.int .i64 mc,.int .i64 mn,.int .i64 me,.int .i64 ms,.int .i64 mo,.int .i64 mv,.bool ml,.string ⟨md.toArray⟩] 93)) 1000 19 ⟨HC3.out.drew,HX3.out.drew⟩ fun HS => ?_;refine last.goL 0 49 (.pointer (some ⟨cb,0,none⟩)) HS.out ?_;dsimp only [List.set];refine last.one 1 fun K hK => ?_;go_simp;refine (HBU.out _ HC3.out.drew).mono ?_;rintro e w9 ⟨rfl,rfl⟩;refine hK.out _ _ (fun _ => HS.out) ?_;clear hK K;refine last.goL 2 51 (.bool false) HS.out ?_;dsimp only [List.set];refine last.skL 3 52 HS.out ?_;dsimp only [List.set];refine last.skL 4 53 HS.out ?_;dsimp only [List.set];refine last.skL 5 54 HS.out ?_;dsimp only [List.set];refine last.skL 6 55 HS.out ?_;dsimp only [List.set];refine last.skL 7 56 HS.out ?_;dsimp only [List.set];refine last.skL 8 57 HS.out ?_;dsimp only [List.set];refine last.skL 9 58 HS.out ?_;dsimp only [List.set];refine last.goL 10 59 (.bool false) HS.out ?_;dsimp only [List.set];refine last.goL 11 60 (.bool false) HS.out ?_;dsimp only [List.set];refine last.skL 12 61 HS.out ?_;dsimp only [List.set];refine last.skL 13 62 HS.out ?_;dsimp only [List.set];refine last.skL 14 63 HS.out ?_;dsimp only [List.set];refine last.skL 15 64 HS.out ?_;dsimp only [List.set];refine last.skL 16 65 HS.out ?_;dsimp only [List.set];refine last.skL 17 66 HS.out ?_;dsimp only [List.set];refine last.goL 18 67 (.bool false) HS.out ?_;dsimp only [List.set];refine last.done ?_;(go_wp2_with fail);go_meet;case rel => exact ⟨by rw [HG2.out],rfl⟩
        | true =>
         cases n1 with
         | false =>
          have HG2 : Hid (gb = false):=Hd HGB.out;refine last.headH (fun W => CliW own T W cb fm sm cv c ∧ Has W H (.cells #[.int .i64 mk,.int .i64 mc,.int .i64 mn,.int .i64 me,.int .i64 ms,.int .i64 mo,.int .i64 mv,.bool ml,.string ⟨md.toArray⟩] 93)) 1000 19 ⟨HC3.out.drew,HX3.out.drew⟩ fun HS => ?_;refine last.goL 0 49 (.pointer (some ⟨cb,0,none⟩)) HS.out ?_;dsimp only [List.set];refine last.one 1 fun K hK => ?_;go_simp;refine (HBU.out _ HC3.out.drew).mono ?_;rintro e w9 ⟨rfl,rfl⟩;refine hK.out _ _ (fun _ => HS.out) ?_;clear hK K;refine last.goL 2 51 (.bool true) HS.out ?_;dsimp only [List.set];refine last.goL 3 52 (.pointer (some ⟨H,2,none⟩)) HS.out ?_;dsimp only [List.set];refine last.goL 4 53 (.int .i64 mn) HS.out ?_ (hy:=(fun W' hW' => by have e1 : W'.cell? ⟨H,2,none⟩ = some (.int .i64 mn):=hW'.2.cell 2;go_simp));dsimp only [List.set];refine last.goL 5 54 (.pointer (some ⟨cb,0,none⟩)) HS.out ?_;dsimp only [List.set];refine last.goL 6 55 (.pointer (some ⟨cb,0,none⟩)) HS.out ?_;dsimp only [List.set];refine last.goL 7 56 (.pointer (some ⟨cb,18,none⟩)) HS.out ?_;dsimp only [List.set];refine last.goL 8 57 (.int .i64 c.asked) HS.out ?_ (hy:=(fun W' hW' => by have e1 : W'.cell? ⟨cb,18,none⟩ = some (.int .i64 c.asked):=hW'.1.c_.cell 18;go_simp));dsimp only [List.set];refine last.goL 9 58 (.bool false) HS.out ?_ (hy:=(fun W' hW' => by have e9:=en1;go_simp));dsimp only [List.set];refine last.goL 10 59 (.bool false) HS.out ?_;dsimp only [List.set];refine last.goL 11 60 (.bool false) HS.out ?_;dsimp only [List.set];refine last.skL 12 61 HS.out ?_;dsimp only [List.set];refine last.skL 13 62 HS.out ?_;dsimp only [List.set];refine last.skL 14 63 HS.out ?_;dsimp only [List.set];refine last.skL 15 64 HS.out ?_;dsimp only [List.set];refine last.skL 16 65 HS.out ?_;dsimp only [List.set];refine last.skL 17 66 HS.out ?_;dsimp only [List.set];refine last.goL 18 67 (.bool false) HS.out ?_;dsimp only [List.set];refine last.done ?_;(go_wp2_with fail);go_meet;case rel => exact ⟨by rw [HG2.out],rfl⟩
         | true =>
          have HG2 : Hid (gb = n2):=Hd HGB.out;refine last.headH (fun W => CliW own T W cb fm sm cv c ∧ Has W H (.cells #[.int .i64 mk,.int .i64 mc,.int .i64 mn,.int .i64 me,.int .i64 ms,.int .i64 mo,.int .i64 mv,.bool ml,.string ⟨md.toArray⟩] 93)) 1000 19 ⟨HC3.out.drew,HX3.out.drew⟩ fun HS => ?_;refine last.goL 0 49 (.pointer (some ⟨cb,0,none⟩)) HS.out ?_;dsimp only [List.set];refine last.one 1 fun K hK => ?_;go_simp;refine (HBU.out _ HC3.out.drew).mono ?_;rintro e w9 ⟨rfl,rfl⟩;refine hK.out _ _ (fun _ => HS.out) ?_;clear hK K;refine last.goL 2 51 (.bool true) HS.out ?_;dsimp only [List.set];refine last.goL 3 52 (.pointer (some ⟨H,2,none⟩)) HS.out ?_;dsimp only [List.set];refine last.goL 4 53 (.int .i64 mn) HS.out ?_ (hy:=(fun W' hW' => by have e1 : W'.cell? ⟨H,2,none⟩ = some (.int .i64 mn):=hW'.2.cell 2;go_simp));dsimp only [List.set];refine last.goL 5 54 (.pointer (some ⟨cb,0,none⟩)) HS.out ?_;dsimp only [List.set];refine last.goL 6 55 (.pointer (some ⟨cb,0,none⟩)) HS.out ?_;dsimp only [List.set];refine last.goL 7 56 (.pointer (some ⟨cb,18,none⟩)) HS.out ?_;dsimp only [List.set];refine last.goL 8 57 (.int .i64 c.asked) HS.out ?_ (hy:=(fun W' hW' => by have e1 : W'.cell? ⟨cb,18,none⟩ = some (.int .i64 c.asked):=hW'.1.c_.cell 18;go_simp));dsimp only [List.set];refine last.goL 9 58 (.bool true) HS.out ?_ (hy:=(fun W' hW' => by have e9:=en1;go_simp));dsimp only [List.set];refine last.goL 10 59 (.bool true) HS.out ?_;dsimp only [List.set];refine last.goL 11 60 (.bool true) HS.out ?_;dsimp only [List.set];refine last.goL 12 61 (.pointer (some ⟨cb,0,none⟩)) HS.out ?_;dsimp only [List.set];refine last.goL 13 62 (.pointer (some ⟨cb,0,none⟩)) HS.out ?_;dsimp only [List.set];refine last.goL 14 63 (.pointer (some ⟨cb,12,none⟩)) HS.out ?_;dsimp only [List.set];refine last.goL 15 64 (.pointer (some ⟨cb,12,none⟩)) HS.out ?_;dsimp only [List.set];refine last.goL 16 65 (.int .i64 c.call.kind) HS.out ?_ (hy:=(fun W' hW' => by have e1 : W'.cell? ⟨cb,12,none⟩ = some (.int .i64 c.call.kind):=hW'.1.c_.cell 12;go_simp));dsimp only [List.set];refine last.goL 17 66 (.bool n2) HS.out ?_ (hy:=(fun W' hW' => by have e9:=en2;go_simp));dsimp only [List.set];refine last.goL 18 67 (.bool n2) HS.out ?_;dsimp only [List.set];refine last.done ?_;(go_wp2_with fail);go_meet;case rel => exact ⟨by rw [HG2.out],rfl⟩
       case rest =>
        obtain ⟨ht,hwx⟩:=hcut;subst ht;have HC4 : Hid (CliW own T wc cb fm sm cv c):=Hd (by rw [hwx];exact HC3.out.drew);have HX4 : Hid (Has wc H (.cells #[.int .i64 mk,.int .i64 mc,.int .i64 mn,.int .i64 me,.int .i64 ms,.int .i64 mo,.int .i64 mv,.bool ml,.string ⟨md.toArray⟩] 93)):=Hd (by rw [hwx];exact HX3.out.drew);have HB4 : Hid (Below w.heap.size w wc):=Hd (by rw [hwx];exact HB3.out.drew);clear hwx HC3 HX3 HB3 HGB en1 en2 HBU x0
        cases gb with
        | false =>
         have HE2 : Hid (r = ([],c)):=Hd HE.out;(go_wp2_with fail);go_ret;rw [HE2.out];exact CPost.here HC4.out HFF.out (Turn.of_below HB4.out (Nat.le_refl _)) (MsgsAt.nil _ _)
        | true =>
         have HE2 : Hid (r = ([],{ c with call:={ c.call with value:={ c.call.value with ver:=mv },over:=true },asked:=0 })):=Hd HE.out;have x6 : wc.cell? ⟨H,6,none⟩ = some (.int .i64 mv):=HX4.out.cell 6;have c15 : wc.cell? ⟨cb,15,none⟩ = some (.int .i64 c.call.value.ver):=HC4.out.c_.cell 15;have c16 : wc.cell? ⟨cb,16,none⟩ = some (.bool c.call.over):=HC4.out.c_.cell 16;have c18 : wc.cell? ⟨cb,18,none⟩ = some (.int .i64 c.asked):=HC4.out.c_.cell 18;have f15:=HC4.out.c_.frozen 15;have f16:=HC4.out.c_.frozen 16;have f18:=HC4.out.c_.frozen 18;obtain ⟨W8,hW8⟩ : ∃ W8,W8 = ((wc.setCell ⟨cb,15,none⟩ (.int .i64 mv)).setCell ⟨cb,16,none⟩ (.bool true)).setCell ⟨cb,18,none⟩ (.int .i64 0):=⟨_,rfl⟩;have ht8 : Turn (fun g => g = cb) wc W8:=by rw [hW8];exact wal.turn_set (wal.turn_set (wal.turn_set (Turn.refl _ _) _ _) _ _) _ _
         have HC8 : Hid (CliW own T W8 cb fm sm cv { c with call:={ c.call with value:={ c.call.value with ver:=mv },over:=true },asked:=0 }):=Hd (by
          refine HC4.out.upd ht8 ?_ rfl rfl rfl;rw [hW8]
          exact ((HC4.out.c_.set_ 15 (.int .i64 mv)).set_ 16 (.bool true)).set_ 18 (.int .i64 0))
         have HT8 : Hid (Turn (CliSet own T) w W8):=Hd ((Turn.of_below HB4.out (Nat.le_refl _)).trans (HC4.out.sub ht8) fun _ _ e => e);have HW8:=Hd hW8;clear hW8 ht8;(go_wp2_with fail);rw [← HW8.out];go_ret;rw [HE2.out];exact CPost.here HC8.out HFF.out HT8.out (MsgsAt.nil _ _)
     ·(have f6 : (mk == 6) = false:=by simp [k6]);by_cases k7 : mk = 7
      ·
       as_aux_lemma =>
        obtain ⟨p1,hp1⟩ : ∃ p1,p1 = (c.renewal != 0):=⟨_,rfl⟩;obtain ⟨p2,hp2⟩ : ∃ p2,p2 = (mn == c.renewal):=⟨_,rfl⟩;obtain ⟨gb,hgb⟩ : ∃ gb,gb = (same && p1 && p2):=⟨_,rfl⟩;obtain ⟨en,hen⟩ : ∃ en,en = c.ends c.renewed c.terms.volume:=⟨_,rfl⟩
        have HE : Hid (r = if gb then ([],{ c with volume:=en,renewal:=0 }) else ([],c)):=Hd (by
         rw [HR2.out,if_neg k5,if_neg k6,if_pos k7,hgb,hp1,hp2,hen];(have e9 : decide (c.renewal ≠ 0) = (c.renewal != 0):=by rw [Bool.eq_iff_iff];simp);rw [e9]
         rfl)
        (have HEN : Hid (∀ W,CliW own T W cb fm sm cv c → Calls Tryz.prog 76 #[.pointer (some ⟨cb,0,none⟩),.int .i64 c.renewed,.int .i64 c.terms.volume] W fun e w' => e = .returned (.int .i64 en) ∧ W = w'):=Hd fun W hW => by rw [hen];exact ends_c W _ _ hW);have HGB:=Hd hgb;have ep1 : (c.renewal != 0) = p1:=hp1.symm;have ep2 : (mn == c.renewal) = p2:=hp2.symm;(have f7 : (mk == 7) = true:=by simp [k7]);have c20 : W3.cell? ⟨cb,20,none⟩ = some (.int .i64 c.renewal):=HC3.out.c_.cell 20;have x2 : W3.cell? ⟨H,2,none⟩ = some (.int .i64 mn):=HX3.out.cell 2;clear k5 k6 k7 HR2 hp1 hp2 hgb hen;(go_upto_region 11 with fail);go_cut [100] (fun t wx => t = .bool gb ∧ ∃ nl,wx = W3.drewN nl)
        case first =>
         cases same with
         | false =>
          have HG2 : Hid (gb = false):=Hd HGB.out;(go_quiet (fail));(go_wp2_with fail);go_meet;case rel => exact ⟨by rw [HG2.out],nq,rfl⟩
         | true =>
          cases p1 with
          | false =>
           have HG2 : Hid (gb = false):=Hd HGB.out;(go_quiet (fail));(go_wp2_with fail);go_meet;case rel => exact ⟨by rw [HG2.out],nq,rfl⟩
          | true =>
           have HG2 : Hid (gb = p2):=Hd HGB.out;cases p2
           all_goals
            (go_quiet (fail));(go_wp2_with fail);go_meet;case rel => exact ⟨by rw [HG2.out],nq,rfl⟩
        case rest =>
         obtain ⟨ht,nl,hwx⟩:=hcut;subst ht;have HC4 : Hid (CliW own T wc cb fm sm cv c):=Hd (by rw [hwx];exact HC3.out.drewN nl);have HB4 : Hid (Below w.heap.size w wc):=Hd (by rw [hwx];exact below_drewN HB3.out nl);clear hwx HC3 HX3 HB3 HGB ep1 ep2 x0 c20 x2
         cases gb with
         | false =>
          have HE2 : Hid (r = ([],c)):=Hd HE.out;(go_wp2_with fail);go_ret;rw [HE2.out];exact CPost.here HC4.out HFF.out (Turn.of_below HB4.out (Nat.le_refl _)) (MsgsAt.nil _ _)
         | true =>
          have HE2 : Hid (r = ([],{ c with volume:=en,renewal:=0 })):=Hd HE.out;have c21 : wc.cell? ⟨cb,21,none⟩ = some (.int .i64 c.renewed):=HC4.out.c_.cell 21;have c2 : wc.cell? ⟨cb,2,none⟩ = some (.int .i64 c.terms.volume):=HC4.out.c_.cell 2;have c8 : wc.cell? ⟨cb,8,none⟩ = some (.int .i64 c.volume):=HC4.out.c_.cell 8;have c20 : wc.cell? ⟨cb,20,none⟩ = some (.int .i64 c.renewal):=HC4.out.c_.cell 20;have f8:=HC4.out.c_.frozen 8;have f20:=HC4.out.c_.frozen 20;have K8 : Hid (∀ u,((wc.setCell ⟨cb,8,none⟩ u).drew.cell? ⟨cb,21,none⟩ = some (.int .i64 c.renewed) ∧ (wc.setCell ⟨cb,8,none⟩ u).drew.cell? ⟨cb,2,none⟩ = some (.int .i64 c.terms.volume))):=Hd fun u => ⟨((HC4.out.c_.set_ 8 u).drew).cell 21,((HC4.out.c_.set_ 8 u).drew).cell 2⟩;have K820 : Hid (∀ u v,(((wc.setCell ⟨cb,8,none⟩ u).setCell ⟨cb,20,none⟩ v).drew.cell? ⟨cb,21,none⟩ = some (.int .i64 c.renewed) ∧ ((wc.setCell ⟨cb,8,none⟩ u).setCell ⟨cb,20,none⟩ v).drew.cell? ⟨cb,2,none⟩ = some (.int .i64 c.terms.volume))):=Hd fun u v => ⟨(((HC4.out.c_.set_ 8 u).set_ 20 v).drew).cell 21,(((HC4.out.c_.set_ 8 u).set_ 20 v).drew).cell 2⟩;(go_upto_region 12 with fail);(go_region_held3 (fun W => W.cell? ⟨cb,21,none⟩ = some (.int .i64 c.renewed) ∧ W.cell? ⟨cb,2,none⟩ = some (.int .i64 c.terms.volume)) (first | exact K8.out _ | exact K820.out _ _ | go_keep) ((go_at_call 76;refine (HEN.out _ HC4.out.drew).mono ?_;rintro e w9 ⟨rfl,rfl⟩)));obtain ⟨W8,hW8⟩ : ∃ W8,W8 = ((wc.setCell ⟨cb,8,none⟩ (.int .i64 en)).setCell ⟨cb,20,none⟩ (.int .i64 0)).drew:=⟨_,rfl⟩;have ht8 : Turn (fun g => g = cb) wc W8:=by rw [hW8];exact (wal.turn_set (wal.turn_set (Turn.refl _ _) _ _) _ _).drew
          have HC8 : Hid (CliW own T W8 cb fm sm cv { c with volume:=en,renewal:=0 }):=Hd (by
           refine HC4.out.upd ht8 ?_ rfl rfl rfl;rw [hW8]
           exact ((HC4.out.c_.set_ 8 (.int .i64 en)).set_ 20 (.int .i64 0)).drew)
          have HT8 : Hid (Turn (CliSet own T) w W8):=Hd ((Turn.of_below HB4.out (Nat.le_refl _)).trans (HC4.out.sub ht8) fun _ _ e => e);rw [← hW8];clear hW8 ht8 c21 c2 c8 c20 f8 f20 K8 K820;(go_wp2_with fail);go_ret;rw [HE2.out];exact CPost.here HC8.out HFF.out HT8.out (MsgsAt.nil _ _)
      ·(have f7 : (mk == 7) = false:=by simp [k7]);by_cases k8 : mk = 8
       ·
        as_aux_lemma =>
         obtain ⟨p1,hp1⟩ : ∃ p1,p1 = decide (c.epoch < me):=⟨_,rfl⟩;obtain ⟨p2,hp2⟩ : ∃ p2,p2 = (me == c.epoch):=⟨_,rfl⟩;obtain ⟨p3,hp3⟩ : ∃ p3,p3 = decide (c.session < ms):=⟨_,rfl⟩;obtain ⟨gb,hgb⟩ : ∃ gb,gb = (p1 || p2 && p3):=⟨_,rfl⟩
         have HE : Hid (r = if gb then ([],{ c with epoch:=me,session:=ms,volume:=0,renewal:=0,cache:=[],floors:=[] }) else ([],c)):=Hd (by
          rw [HR2.out,if_neg k5,if_neg k6,if_neg k7,if_pos k8,hgb,hp1,hp2,hp3]
          rfl)
         have HGB:=Hd hgb;have ep1 : decide (c.epoch < me) = p1:=hp1.symm;have ep2 : (me == c.epoch) = p2:=hp2.symm;have ep3 : decide (c.session < ms) = p3:=hp3.symm;(have f8 : (mk == 8) = true:=by simp [k8]);have c5 : W3.cell? ⟨cb,5,none⟩ = some (.int .i64 c.epoch):=HC3.out.c_.cell 5;have c6 : W3.cell? ⟨cb,6,none⟩ = some (.int .i64 c.session):=HC3.out.c_.cell 6;have x3 : W3.cell? ⟨H,3,none⟩ = some (.int .i64 me):=HX3.out.cell 3;have x4 : W3.cell? ⟨H,4,none⟩ = some (.int .i64 ms):=HX3.out.cell 4;clear k5 k6 k7 k8 HR2 hp1 hp2 hp3 hgb;(go_upto_region 14 with fail);go_cut [144] (fun t wx => t = .bool gb ∧ ∃ nl,wx = W3.drewN nl)
         case first =>
          cases p1 with
          | true =>
           have HG2 : Hid (gb = true):=Hd HGB.out;(go_quiet (fail));(go_wp2_with fail);go_meet;case rel => exact ⟨by rw [HG2.out],nq,rfl⟩
          | false =>
           cases p2 with
           | false =>
            have HG2 : Hid (gb = false):=Hd HGB.out;(go_quiet (fail));(go_wp2_with fail);go_meet;case rel => exact ⟨by rw [HG2.out],nq,rfl⟩
           | true =>
            have HG2 : Hid (gb = p3):=Hd HGB.out;cases p3
            all_goals
             (go_quiet (fail));(go_wp2_with fail);go_meet;case rel => exact ⟨by rw [HG2.out],nq,rfl⟩
         case rest =>
          obtain ⟨ht,nl,hwx⟩:=hcut;subst ht;have HC4 : Hid (CliW own T wc cb fm sm cv c):=Hd (by rw [hwx];exact HC3.out.drewN nl);have HX4 : Hid (Has wc H (.cells #[.int .i64 mk,.int .i64 mc,.int .i64 mn,.int .i64 me,.int .i64 ms,.int .i64 mo,.int .i64 mv,.bool ml,.string ⟨md.toArray⟩] 93)):=Hd (by rw [hwx];exact HX3.out.drewN nl);have HB4 : Hid (Below w.heap.size w wc):=Hd (by rw [hwx];exact below_drewN HB3.out nl);clear hwx HC3 HX3 HB3 HGB ep1 ep2 ep3 x0 c5 c6 x3 x4
          cases gb with
          | false =>
           have HE2 : Hid (r = ([],c)):=Hd HE.out;(go_wp2_with fail);go_ret;rw [HE2.out];exact CPost.here HC4.out HFF.out (Turn.of_below HB4.out (Nat.le_refl _)) (MsgsAt.nil _ _)
          | true =>
           have HE2 : Hid (r = ([],{ c with epoch:=me,session:=ms,volume:=0,renewal:=0,cache:=[],floors:=[] })):=Hd HE.out;have x3 : wc.cell? ⟨H,3,none⟩ = some (.int .i64 me):=HX4.out.cell 3;have x4 : wc.cell? ⟨H,4,none⟩ = some (.int .i64 ms):=HX4.out.cell 4;have c5 : wc.cell? ⟨cb,5,none⟩ = some (.int .i64 c.epoch):=HC4.out.c_.cell 5;have c6 : wc.cell? ⟨cb,6,none⟩ = some (.int .i64 c.session):=HC4.out.c_.cell 6;have c8 : wc.cell? ⟨cb,8,none⟩ = some (.int .i64 c.volume):=HC4.out.c_.cell 8;have c20 : wc.cell? ⟨cb,20,none⟩ = some (.int .i64 c.renewal):=HC4.out.c_.cell 20;have g5:=HC4.out.c_.frozen 5;have g6:=HC4.out.c_.frozen 6;have g8:=HC4.out.c_.frozen 8;have g20:=HC4.out.c_.frozen 20;have hne : cb ≠ H:=fun e => by have h9:=HOH.out;rw [← e,HC4.out.ocb] at h9;omega
           have fr : ∀ (W : World) (i : Nat) (u : Value),(W.cell? ⟨H,3,none⟩ = some (.int .i64 me) ∧ W.cell? ⟨H,4,none⟩ = some (.int .i64 ms)) → ((W.setCell ⟨cb,i,none⟩ u).cell? ⟨H,3,none⟩ = some (.int .i64 me) ∧ (W.setCell ⟨cb,i,none⟩ u).cell? ⟨H,4,none⟩ = some (.int .i64 ms)):=fun W i u hW =>
            ⟨(World.cell?_setCell_far _ _ _ _ hne).trans hW.1,(World.cell?_setCell_far _ _ _ _ hne).trans hW.2⟩
           have HFR:=Hd fr;clear fr;(go_upto_region 15 with fail);(go_region_held3 (fun W => W.cell? ⟨H,3,none⟩ = some (.int .i64 me) ∧ W.cell? ⟨H,4,none⟩ = some (.int .i64 ms)) (first | go_keep | exact HFR.out _ _ _ ⟨x3,x4⟩ | exact HFR.out _ _ _ (HFR.out _ _ _ ⟨x3,x4⟩) | exact HFR.out _ _ _ (HFR.out _ _ _ (HFR.out _ _ _ ⟨x3,x4⟩)) | exact HFR.out _ _ _ (HFR.out _ _ _ (HFR.out _ _ _ (HFR.out _ _ _ ⟨x3,x4⟩)))) (fail));obtain ⟨W5,hW5⟩ : ∃ W5,W5 = ((((wc.setCell ⟨cb,5,none⟩ (.int .i64 me)).setCell ⟨cb,6,none⟩ (.int .i64 ms)).setCell ⟨cb,8,none⟩ (.int .i64 0)).setCell ⟨cb,20,none⟩ (.int .i64 0)).drew:=⟨_,rfl⟩;(have ht5 : Turn (fun g => g = cb) wc W5:=by rw [hW5];exact (wal.turn_set (wal.turn_set (wal.turn_set (wal.turn_set (Turn.refl _ _) _ _) _ _) _ _) _ _).drew);obtain ⟨c2,hc2⟩ : ∃ c2 : Client,c2 = { c with epoch:=me,session:=ms,volume:=0,renewal:=0 }:=⟨_,rfl⟩
           have HC5 : Hid (CliW own T W5 cb fm sm cv c2):=Hd (by
            rw [hc2];refine HC4.out.upd ht5 ?_ rfl rfl rfl;rw [hW5]
            exact ((((HC4.out.c_.set_ 5 (.int .i64 me)).set_ 6 (.int .i64 ms)).set_ 8 (.int .i64 0)).set_ 20 (.int .i64 0)).drew)
           have HT5 : Hid (Turn (CliSet own T) w W5):=Hd ((Turn.of_below HB4.out (Nat.le_refl _)).trans (HC4.out.sub ht5) fun _ _ e => e);have HE3 : Hid (r = ([],{ c2 with cache:=[],floors:=[] })):=Hd (by rw [HE2.out,hc2]);rw [← hW5];clear hW5 ht5 x3 x4 c5 c6 c8 c20 g5 g6 g8 g20 HFR HC4 HX4 hc2 HE2;have HCL:=Hd (Clear_any own (T + 1) cb 9 (ccells c2 cv fm sm) 121 cv W5 HC5.out.c_ rfl);(go_upto_region 17 with (go_at_call 77;refine HCL.out.mono ?_;rintro e W6 ⟨rfl,hcp⟩));obtain ⟨own6,cv6,he6,hf6,hc6,ht6⟩:=HC5.out.cached (l:=[]) hcp (by simp);have HC6:=Hd hc6;have HE6 : Hid (Ext w own own6):=Hd fun g hg => he6 g (Nat.lt_of_lt_of_le hg HT5.out.size);have HF6:=Hd hf6;have HT6 : Hid (Turn (CliSet own T) w W6):=Hd (HT5.out.trans ht6 fun _ _ e => e);have c10 : W6.cell? ⟨cb,10,none⟩ = some (.map (some fm)):=hc6.c_.cell 10;have g10:=hc6.c_.frozen 10;have hmm:=@run_makeMap Tryz.prog;clear hcp he6 hf6 hc6 ht6 HC5 HT5 HCL;obtain ⟨FN,hFN⟩ : ∃ FN,FN = W6.heap.size:=⟨_,rfl⟩
           obtain ⟨own7,ho7⟩ : ∃ own7 : Nat → Nat,own7 = fun k => if k = FN then T + 2 else own6 k:=⟨_,rfl⟩
           (have ho7o : ∀ k,k < W6.heap.size → own7 k = own6 k:=fun k hk => by rw [ho7];exact if_neg (by omega));obtain ⟨W8,hW8⟩ : ∃ W8,W8 = (W6.alloc (.map #[] 0)).setCell ⟨cb,10,none⟩ (.map (some FN)):=⟨_,rfl⟩;have hba : Below W6.heap.size W6 (W6.alloc (.map #[] 0)):=(Below.refl _ _).alloc (Nat.le_refl _) _;have ht8 : Turn (fun g => g = cb) W6 W8:=by rw [hW8];exact wal.turn_set (Turn.of_below hba (Nat.le_refl _)) _ _
           have HC8 : Hid (CliW own7 T W8 cb FN sm cv6 { c2 with cache:=[],floors:=[] }):=Hd (by
            have hA:=HC6.out.below hba;have l1:=HC6.out.c_.lt;have l3:=HC6.out.seen.lt;(have n3 : sm ≠ cb:=fun e => by have h9:=HC6.out.osm;rw [e,HC6.out.ocb] at h9;omega);have hcb8:=hA.c_.set_ 10 (.map (some FN));rw [← hW8] at hcb8;have hnew:=At.new numS W6;rw [← hFN] at hnew;(have ht9 : Turn (fun g => g = cb) (W6.alloc (.map #[] 0)) W8:=by rw [hW8];exact wal.turn_set (Turn.refl _ _) _ _);refine ⟨hcb8,(ho7o cb l1).trans HC6.out.ocb,?_,by simp,hnew.turn ht9 (by omega),by rw [ho7];exact if_pos rfl,hA.seen.turn ht9 n3,(ho7o sm l3).trans HC6.out.osm,fun p hp => (by cases hp),HC6.out.sk⟩
            exact HC6.out.items.keep ht8 ho7o fun k _ ho e => by rw [e,HC6.out.ocb] at ho;omega)
           have HF8 : Hid (∀ g,W8.heap.size ≤ g → own7 g = 0):=Hd fun g hg => by
            (have h9 : W6.heap.size + 1 ≤ W8.heap.size:=by rw [hW8];simp [World.setCell]);rw [ho7]
            show (if g = FN then T + 2 else own6 g) = 0
            rw [if_neg (by omega)];exact HF6.out g (by omega)
           have HE8 : Hid (Ext w own own7):=Hd fun g hg => (ho7o g (Nat.lt_of_lt_of_le hg HT6.out.size)).trans (HE6.out g hg)
           have HT8 : Hid (Turn (CliSet own T) w W8):=Hd (HT6.out.trans ht8 fun k hk e => by
            have h9:=HE6.out k hk;unfold CliSet;rw [← h9,e,HC6.out.ocb]
            omega)
           have HW8:=Hd hW8;have HFN:=Hd hFN;have c10a : (W6.alloc (.map #[] 0)).cell? ⟨cb,10,none⟩ = some (.map (some fm)):=(HC6.out.below hba).c_.cell 10;have g10a : (W6.alloc (.map #[] 0)).frozen? ⟨cb,10,none⟩ = false:=(HC6.out.below hba).c_.frozen 10;clear hW8 ht8 ho7 ho7o hba hFN;(go_wp2_with fail);rw [← HFN.out,← HW8.out];go_ret;rw [HE3.out];exact ⟨own7,cv6,FN,sm,.slice none 0 0,rfl,HE8.out,HF8.out,HC8.out,MsgsAt.nil _ _,HT8.out⟩
       ·(have f8 : (mk == 8) = false:=by simp [k8]);by_cases k9 : mk = 9
        ·
         as_aux_lemma =>
          have f9 : (mk == 9) = true:=by simp [k9]
          cases same with
          | false =>
           have HE : Hid (r = ([],c)):=Hd (by rw [HR2.out,if_neg k5,if_neg k6,if_neg k7,if_neg k8,if_pos k9];rfl);clear k5 k6 k7 k8 k9 HR2;(go_wp2_with fail);go_ret;rw [HE.out];exact CPost.here HC3.out HFF.out (Turn.of_below HB3.out (Nat.le_refl _)) (MsgsAt.nil _ _)
          | true =>
           obtain ⟨sv,hsv⟩ : ∃ sv,sv = c.floorOf mo:=⟨_,rfl⟩;obtain ⟨c5,hc5⟩ : ∃ c5 : Client,c5 = { c with cache:=c.cache.drop mo }:=⟨_,rfl⟩
           have HE : Hid (r = ([Client.stamp { c5 with floors:=put mo (max sv mv) c5.floors } ⟨4,0,0,0,0,mo,mv,false,[]⟩],{ c5 with floors:=put mo (max sv mv) c5.floors })):=Hd (by
            rw [HR2.out,if_neg k5,if_neg k6,if_neg k7,if_neg k8,if_pos k9,hsv,hc5]
            rfl)
           have HSV : Hid (Value.int .i64 sv = numS.ev ((seek mo c5.floors).getD numS.z)):=Hd (by rw [hsv,hc5];rfl);(have hTb : own cb ≠ T + 1:=by rw [HC3.out.ocb];omega);have HDR:=Hd (Drop_any own (T + 1) cb 9 (ccells c cv fm sm) 121 cv (c.cache.map itOf) mo W3.drew HC3.out.drew.c_ rfl hTb HC3.out.drew.items);have x5 : W3.cell? ⟨H,5,none⟩ = some (.int .i64 mo):=HX3.out.cell 5;have hHl : H < W3.heap.size:=HX3.out.lt
           have nH : ¬ (H = cb ∨ own H = T + 1):=fun e => by
            have h0:=HOH.out;rcases e with e | e
            ·rw [e,HC3.out.ocb] at h0;omega
            ·omega
           have HC5D:=Hd hc5;clear k5 k6 k7 k8 k9 HR2 hsv hc5;(go_upto_region 20 with fail);go_region_held3 (fun W => W.cell? ⟨H,5,none⟩ = some (.int .i64 mo)) (first | go_keep | exact (htp.cell (p:=⟨H,5,none⟩) hHl nH).trans x5) ((go_at_call 78;refine HDR.out.mono ?_;rintro e W5 ⟨rfl,ownP,cvP,hep,htp,hbp,hip⟩))
           have hcp : CachePost own (T + 1) cb 9 (ccells c cv fm sm) 121 ((c.cache.drop mo).map itOf) W3.drew W5:=by
            rw [← drop_map];exact ⟨ownP,cvP,hep,htp,hbp,hip⟩
           obtain ⟨own5,cv5,he5,hf5,hc5,ht5⟩:=HC3.out.drew.cached hcp (Nat.le_trans (drop_len _ _) HC3.out.few);rw [← HC5D.out] at hc5;have HC5:=Hd hc5;have HX5:=Hd (htp.has HX3.out.drew nH);have HE5 : Hid (Ext w own own5):=Hd fun g hg => he5 g (Nat.lt_of_lt_of_le hg HB3.out.size);have HO5 : Hid (own5 H = 0):=Hd ((he5 H hHl).trans HOH.out);have HF5:=Hd hf5;have HT5 : Hid (Turn (CliSet own T) w W5):=Hd ((Turn.of_below HB3.out (Nat.le_refl _)).drew.trans ht5 fun _ _ e => e);have HSL:=Hd (keys8 hc5.floors.nodup hc5.fk);have HOK : Hid (i64ok mo):=Hd (WalkArith.wf_i64 (by omega))
           have HOM : Hid (i64ok (max sv mv)):=Hd (by
            have h9 : i64ok sv:=by
             have h8:=hc5.floors.okE mo;have h7:=HSV.out
             have h6 : sv = (seek mo c5.floors).getD 0:=by
              have : Value.int .i64 sv = Value.int .i64 ((seek mo c5.floors).getD 0):=h7;injection this
             rw [h6];exact h8
            by_cases hle : sv ≤ mv
            ·rw [Int.max_eq_right hle];exact HMV.out
            ·rw [Int.max_eq_left (by omega)];exact h9)
           clear hcp hep htp hbp hip he5 hf5 hc5 ht5 x5 hHl nH HDR HC3 HX3;(go_upto_region 21 with fail);refine last.headH (fun W => CliW own5 T W cb fm sm cv5 c5 ∧ Has W H (.cells #[.int .i64 mk,.int .i64 mc,.int .i64 mn,.int .i64 me,.int .i64 ms,.int .i64 mo,.int .i64 mv,.bool ml,.string ⟨md.toArray⟩] 93)) 16 17 ⟨HC5.out.drew,HX5.out.drew⟩ fun HS => ?_;refine last.goL 0 178 (.pointer (some ⟨cb,0,none⟩)) HS.out ?_;dsimp only [List.set];refine last.goL 1 179 (.pointer (some ⟨cb,0,none⟩)) HS.out ?_;dsimp only [List.set];refine last.goL 2 180 (.pointer (some ⟨cb,10,none⟩)) HS.out ?_;dsimp only [List.set];refine last.goL 3 181 (.map (some fm)) HS.out ?_ (hy:=(fun W' hW' => by have e1 : W'.cell? ⟨cb,10,none⟩ = some (.map (some fm)):=hW'.1.c_.cell 10;go_simp));dsimp only [List.set];refine last.goL 4 182 (.pointer (some ⟨H,5,none⟩)) HS.out ?_;dsimp only [List.set];refine last.goL 5 183 (.int .i64 mo) HS.out ?_ (hy:=(fun W' hW' => by have e1 : W'.cell? ⟨H,5,none⟩ = some (.int .i64 mo):=hW'.2.cell 5;go_simp));dsimp only [List.set];refine last.goL 6 184 (.pointer (some ⟨cb,0,none⟩)) HS.out ?_;dsimp only [List.set];refine last.goL 7 185 (.pointer (some ⟨cb,0,none⟩)) HS.out ?_;dsimp only [List.set];refine last.goL 8 186 (.pointer (some ⟨cb,10,none⟩)) HS.out ?_;dsimp only [List.set];refine last.goL 9 187 (.map (some fm)) HS.out ?_ (hy:=(fun W' hW' => by have e1 : W'.cell? ⟨cb,10,none⟩ = some (.map (some fm)):=hW'.1.c_.cell 10;go_simp));dsimp only [List.set];refine last.goL 10 188 (.pointer (some ⟨H,5,none⟩)) HS.out ?_;dsimp only [List.set];refine last.goL 11 189 (.int .i64 mo) HS.out ?_ (hy:=(fun W' hW' => by have e1 : W'.cell? ⟨H,5,none⟩ = some (.int .i64 mo):=hW'.2.cell 5;go_simp));dsimp only [List.set];refine last.goL 12 190 (.int .i64 sv) HS.out ?_ (hy:=(fun W' hW' => by (rw [HSV.out];exact exec_mlook numS (.tmp 187) (.tmp 189) rfl rfl hW'.1.floors HOK.out rfl)));dsimp only [List.set];refine last.goL 13 191 (.pointer (some ⟨H,6,none⟩)) HS.out ?_;dsimp only [List.set];refine last.goL 14 192 (.int .i64 mv) HS.out ?_ (hy:=(fun W' hW' => by have e1 : W'.cell? ⟨H,6,none⟩ = some (.int .i64 mv):=hW'.2.cell 6;go_simp));dsimp only [List.set];refine last.goL 15 193 (.int .i64 (max sv mv)) HS.out ?_;dsimp only [List.set];refine last.one 16 fun K hK => ?_;refine wp_mstore numS (.tmp 181) (.tmp 183) (.tmp 193) rfl rfl HS.out.1.floors (by have:=HSL.out;unfold maxLen;omega) (k:=mo) (u:=max sv mv) HOK.out HOM.out rfl rfl ?_;intro w6 hm6 hg6;refine hK.out _ _ (fun h => absurd rfl h) ?_;refine last.done ?_;obtain ⟨hc6,ht6⟩:=HC5.out.drew.putFloor mo (max sv mv) hmo hm6 hg6;have HC6:=Hd hc6;have HX6:=Hd (ht6.has HX5.out.drew (fun e => by have h9:=HO5.out;rw [e,HC5.out.ofm] at h9;omega))
           have HT6 : Hid (Turn (CliSet own T) w w6):=Hd (HT5.out.drew.trans ht6 fun k hk e => by
            have h9:=HE5.out k hk;unfold CliSet;rw [← h9,e,HC5.out.ofm]
            omega)
           have HF6 : Hid (∀ g,w6.heap.size ≤ g → own5 g = 0):=Hd fun g hg => HF5.out g (Nat.le_trans ht6.size hg);obtain ⟨c6,hc6e⟩ : ∃ c6 : Client,c6 = { c5 with floors:=put mo (max sv mv) c5.floors }:=⟨_,rfl⟩;rw [← hc6e] at HC6 HE;have x5 : w6.cell? ⟨H,5,none⟩ = some (.int .i64 mo):=HX6.out.cell 5;have x6 : w6.cell? ⟨H,6,none⟩ = some (.int .i64 mv):=HX6.out.cell 6;clear hc6 ht6 hm6 hg6 hK K HS HC5 HX5 HT5 HF5 hc6e HSV HSL HOM HC5D
           go_wp2_with (first
            | (go_at_call 65;refine (stamp_c _ ⟨4,0,0,0,0,mo,mv,false,[]⟩ HC6.out).mono ?_;rintro e w7 ⟨rfl,hb7⟩)
            | (refine wpList_build1 rfl (.tmp 200) (c6.stamp ⟨4,0,0,0,0,mo,mv,false,[]⟩) rfl rfl ?_))
           go_ret;rw [HE.out];have hbz:=hb7.alloc hb7.size (.cells (([c6.stamp ⟨4,0,0,0,0,mo,mv,false,[]⟩] : List Msg).flatMap msgRow).toArray 93);exact ⟨own5,cv5,fm,sm,_,rfl,HE5.out,fun g hg => HF6.out g (Nat.le_trans hbz.size hg),HC6.out.below hbz,(MsgsAt.new (w:=w7) (l:=[c6.stamp ⟨4,0,0,0,0,mo,mv,false,[]⟩]) (by simp)).base (Nat.le_trans HT6.out.size hb7.size),HT6.out.then_below hbz (Nat.le_refl _)⟩
        ·
         as_aux_lemma =>
          (have f9 : (mk == 9) = false:=by simp [k9]);have HE : Hid (r = ([],c)):=Hd (by rw [HR2.out,if_neg k5,if_neg k6,if_neg k7,if_neg k8,if_neg k9]);clear k5 k6 k7 k8 k9 HR2;(go_wp2_with fail);go_ret;rw [HE.out];exact CPost.here HC3.out HFF.out (Turn.of_below HB3.out (Nat.le_refl _)) (MsgsAt.nil _ _)
end
end cli
end
end Go.Proofs.YtefkmcjhgoagcaaGreatDoor
