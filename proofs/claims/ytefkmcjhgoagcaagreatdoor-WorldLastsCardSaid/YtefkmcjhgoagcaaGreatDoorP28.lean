/-
  A part of the proof of the law WorldLasts: SrvR, SrvS.
-/
import Derived.Test.YtefkmcjhgoagcaaGreatDoorHd
import Derived.Test.YtefkmcjhgoagcaaGreatDoorP27
namespace Go.Proofs.YtefkmcjhgoagcaaGreatDoor
namespace srv
open Go.RowKit heap own recs errs mapof wal tab wire
open model (Rec Disk Val Wr Server Table Terms inR seek put del)
section
variable {P : Lib.PrintTabs} {own : Nat → Nat} {w0 : World} {sb db wb dm tb tm : Nat} {v : Value} {ps : List ByteArray} {qs : List Value} {d : Disk} {s : Server}
theorem sub_tab {w w1 : World} (h : SrvW P own w0 w sb db wb dm tb tm v ps qs d s) (ht : Turn (fun g => g = tb ∨ g = tm) w w1) : Turn (SrvSet own) w w1:=ht.mono fun k hk e => h.setT k hk e
set_option maxHeartbeats 2000000 in
set_option maxRecDepth 1000000 in
theorem Take_s (w : World) (now : Int) (m : Msg) (h : SrvW P own w0 w sb db wb dm tb tm v ps qs d s) :
 Calls Tryz.prog 43 #[.pointer (some ⟨sb,0,none⟩),.int .i64 now,m.val] w (GoesPost P own w0 w sb db wb dm tb tm (Server.take d s now m)):=by
 obtain ⟨mk,mc,mn,me,ms,mo,mv,ml,md⟩:=m;obtain ⟨H,hH⟩ : ∃ H,H = w.heap.size:=⟨_,rfl⟩;obtain ⟨W1,hW1⟩ : ∃ W1,W1 = w.alloc (.cells #[.int .i64 mk,.int .i64 mc,.int .i64 mn,.int .i64 me,.int .i64 ms,.int .i64 mo,.int .i64 mv,.bool ml,.string ⟨md.toArray⟩] 93):=⟨_,rfl⟩;(have hb1 : Below w.heap.size w W1:=by rw [hW1];exact (Below.refl _ _).alloc (Nat.le_refl _) _);(have hx1 : Has W1 H (.cells #[.int .i64 mk,.int .i64 mc,.int .i64 mn,.int .i64 me,.int .i64 ms,.int .i64 mo,.int .i64 mv,.bool ml,.string ⟨md.toArray⟩] 93):=by rw [hW1,hH];exact Has.new w _);have h1:=h.below hb1;have HNE : Hid (H ≠ sb):=Hd (by have:=h.s_.lt;omega);obtain ⟨r,hr⟩ : ∃ r,r = Server.take d s now ⟨mk,mc,mn,me,ms,mo,mv,ml,md⟩:=⟨_,rfl⟩;obtain ⟨b0,hb0⟩ : ∃ b0,b0 = s.down:=⟨_,rfl⟩;obtain ⟨b1,hb1'⟩ : ∃ b1,b1 = decide (mc < 0):=⟨_,rfl⟩;obtain ⟨b2,hb2⟩ : ∃ b2,b2 = decide (4 ≤ mc):=⟨_,rfl⟩;obtain ⟨b3,hb3⟩ : ∃ b3,b3 = decide (mo < 0):=⟨_,rfl⟩;obtain ⟨b4,hb4⟩ : ∃ b4,b4 = decide (8 ≤ mo):=⟨_,rfl⟩
 have HBAD : Hid ((b0 || b1 || b2 || b3 || b4) = true → r = ([],d,s)):=Hd fun hx => by
  rw [hr];unfold Server.take
  have : (s.down || !model.isClient mc || !model.isObject mo) = true:=by
   rw [hb0,hb1',hb2,hb3,hb4] at hx;unfold model.isClient model.isObject inR
   cases hsd : s.down with
   | true => rfl
   | false =>
    rw [hsd] at hx;simp only [Bool.false_or,Bool.or_eq_true,decide_eq_true_eq,Bool.not_eq_true',Bool.and_eq_false_iff,decide_eq_false_iff_not] at hx ⊢;omega
  dsimp only;rw [if_pos this]
 have HGOOD : Hid ((b0 || b1 || b2 || b3 || b4) = false → (0 ≤ mc ∧ mc < 4) ∧ (0 ≤ mo ∧ mo < 8) ∧ r = (if mk = 1 then (((s.at_ now).reads ⟨mk,mc,mn,me,ms,mo,mv,ml,md⟩).1,d,((s.at_ now).reads ⟨mk,mc,mn,me,ms,mo,mv,ml,md⟩).2) else if mk = 2 then Server.writes d (s.at_ now) ⟨mk,mc,mn,me,ms,mo,mv,ml,md⟩ else if mk = 3 then (((s.at_ now).renews ⟨mk,mc,mn,me,ms,mo,mv,ml,md⟩).1,d,((s.at_ now).renews ⟨mk,mc,mn,me,ms,mo,mv,ml,md⟩).2) else if mk = 4 then Server.acked d (s.at_ now) ⟨mk,mc,mn,me,ms,mo,mv,ml,md⟩ else ([],d,s.at_ now))):=Hd fun hx => by
  rw [hb0,hb1',hb2,hb3,hb4] at hx;simp only [Bool.or_eq_false_iff,decide_eq_false_iff_not] at hx;obtain ⟨⟨⟨⟨x0,x1⟩,x2⟩,x3⟩,x4⟩:=hx;refine ⟨by omega,by omega,?_⟩;rw [hr];unfold Server.take
  have : ¬ (s.down || !model.isClient mc || !model.isObject mo) = true:=by
   unfold model.isClient model.isObject inR;simp only [Bool.or_eq_true,Bool.not_eq_true',Bool.and_eq_false_iff,decide_eq_false_iff_not];rw [x0];simp;omega
  dsimp only;rw [if_neg this]
 have HDN:=Hd (Down_s W1 h1);rw [← hb0] at HDN;have H1:=Hd h1;have HX1:=Hd hx1;have HT1 : Hid (Turn (SrvSet own) w W1):=Hd (Turn.of_below hb1 (Nat.le_refl _));have e1 : decide (mc < 0) = b1:=hb1'.symm;have e2 : decide (4 ≤ mc) = b2:=hb2.symm;have e3 : decide (mo < 0) = b3:=hb3.symm;have e4 : decide (8 ≤ mo) = b4:=hb4.symm;have x1 : W1.cell? ⟨H,1,none⟩ = some (.int .i64 mc):=hx1.cell 1;have x5 : W1.cell? ⟨H,5,none⟩ = some (.int .i64 mo):=hx1.cell 5;rw [← hr];unfold Msg.val;dsimp only;clear hr hb0 hb1' hb2 hb3 hb4 h h1 hx1 hb1;(go_enter Tryz.func43,Tryz.ntmps43);(go_upto_region 1 with fail);rw [← hW1,← hH];clear hW1 hH
 cases b0 with
 | true =>
  as_aux_lemma =>
   have HE : Hid (r = ([],d,s)):=Hd (HBAD.out (by simp));clear HGOOD HBAD;(go_wp2_with (go_at_call 69;refine HDN.out.mono ?_;rintro e w' ⟨rfl,rfl⟩));go_ret;rw [HE.out];exact GoesPost.here H1.out HT1.out (MsgsAt.nil _ _)
 | false =>
 cases b1 with
 | true =>
  as_aux_lemma =>
   have HE : Hid (r = ([],d,s)):=Hd (HBAD.out (by simp));clear HGOOD HBAD;(go_wp2_with (go_at_call 69;refine HDN.out.mono ?_;rintro e w' ⟨rfl,rfl⟩));go_ret;rw [HE.out];exact GoesPost.here H1.out HT1.out (MsgsAt.nil _ _)
 | false =>
 cases b2 with
 | true =>
  as_aux_lemma =>
   have HE : Hid (r = ([],d,s)):=Hd (HBAD.out (by simp));clear HGOOD HBAD;(go_wp2_with (go_at_call 69;refine HDN.out.mono ?_;rintro e w' ⟨rfl,rfl⟩));go_ret;rw [HE.out];exact GoesPost.here H1.out HT1.out (MsgsAt.nil _ _)
 | false =>
 cases b3 with
 | true =>
  as_aux_lemma =>
   have HE : Hid (r = ([],d,s)):=Hd (HBAD.out (by simp));clear HGOOD HBAD;(go_wp2_with (go_at_call 69;refine HDN.out.mono ?_;rintro e w' ⟨rfl,rfl⟩));go_ret;rw [HE.out];exact GoesPost.here H1.out HT1.out (MsgsAt.nil _ _)
 | false =>
 cases b4 with
 | true =>
  as_aux_lemma =>
   have HE : Hid (r = ([],d,s)):=Hd (HBAD.out (by simp));clear HGOOD HBAD;(go_wp2_with (go_at_call 69;refine HDN.out.mono ?_;rintro e w' ⟨rfl,rfl⟩));go_ret;rw [HE.out];exact GoesPost.here H1.out HT1.out (MsgsAt.nil _ _)
 | false =>
 obtain ⟨hc4,ho8',hre⟩:=HGOOD.out rfl;obtain ⟨o,rfl⟩ : ∃ o : Nat,mo = o:=⟨mo.toNat,by omega⟩;(have ho8 : o < 8:=by omega);have HRE:=Hd hre;clear HGOOD HBAD hre ho8'
 go_upto_region 4 with (first
  | (go_at_call 69;refine HDN.out.mono ?_;rintro e w' ⟨rfl,rfl⟩)
  | (go_at_call 70;refine (at_s W1 now H1.out).mono ?_;rintro e W2 ⟨rfl,h2,t2⟩))
 have H2:=Hd h2;have HX2:=Hd (t2.has HX1.out HNE.out);have HT2 : Hid (Turn (SrvSet own) w W2):=Hd (HT1.out.trans t2 fun k _ e => by unfold SrvSet;rw [e,H1.out.osb];decide);have x0 : W2.cell? ⟨H,0,none⟩ = some (.int .i64 mk):=HX2.out.cell 0;clear h2 t2 H1 HX1 HT1 HDN x1 x5 e1 e2 e3 e4;by_cases k1 : mk = 1
 ·as_aux_lemma =>
   have HE : Hid (r = (((s.at_ now).reads ⟨mk,mc,mn,me,ms,o,mv,ml,md⟩).1,d,((s.at_ now).reads ⟨mk,mc,mn,me,ms,o,mv,ml,md⟩).2)):=Hd (by rw [HRE.out,if_pos k1]);have HC:=Hd (reads_s W2 ⟨mk,mc,mn,me,ms,o,mv,ml,md⟩ o ho8 rfl hc4 H2.out);(have f1 : (mk == 1) = true:=by simp [k1]);have K1:=Hd k1;clear HRE k1
   go_wp2_with (first
    | (refine wpList_load_row rfl 93 (.tmp 5) rfl H rfl 93 _ (0,0) _ HX2.out Tryz.underlying93 rfl (by kernel_rfl) ?_)
    | (go_at_call 71;refine HC.out.mono ?_;rintro e W3 ⟨u3,rfl,hm3,hs3,ht3⟩))
   go_ret;rw [HE.out];exact GoesPost.here hs3 (HT2.out.trans (sub_tab H2.out ht3) fun _ _ e => e) (hm3.base HT2.out.size)
 ·(have f1 : (mk == 1) = false:=by simp [k1]);by_cases k2 : mk = 2
  ·as_aux_lemma =>
    have HE : Hid (r = Server.writes d (s.at_ now) ⟨mk,mc,mn,me,ms,o,mv,ml,md⟩):=Hd (by rw [HRE.out,if_neg k1,if_pos k2]);have HC:=Hd (writes_s W2 ⟨mk,mc,mn,me,ms,o,mv,ml,md⟩ o ho8 rfl hc4 H2.out);(have f2 : (mk == 2) = true:=by simp [k2]);clear HRE k1 k2
    go_wp2_with (first
     | (refine wpList_load_row rfl 93 (.tmp 5) rfl H rfl 93 _ (0,0) _ HX2.out Tryz.underlying93 rfl (by kernel_rfl) ?_)
     | (go_at_call 72;refine HC.out.mono ?_;rintro e W3 ⟨u3,own3,v3,ps3,qs3,rfl,hp3⟩))
    go_ret;rw [HE.out];exact GoesPost.ahead HT2.out ⟨u3,own3,v3,ps3,qs3,rfl,hp3⟩
  ·(have f2 : (mk == 2) = false:=by simp [k2]);by_cases k3 : mk = 3
   ·as_aux_lemma =>
     have HE : Hid (r = (((s.at_ now).renews ⟨mk,mc,mn,me,ms,o,mv,ml,md⟩).1,d,((s.at_ now).renews ⟨mk,mc,mn,me,ms,o,mv,ml,md⟩).2)):=Hd (by rw [HRE.out,if_neg k1,if_neg k2,if_pos k3]);have HC:=Hd (renews_s W2 ⟨mk,mc,mn,me,ms,o,mv,ml,md⟩ hc4 H2.out);(have f3 : (mk == 3) = true:=by simp [k3]);clear HRE k1 k2 k3
     go_wp2_with (first
      | (refine wpList_load_row rfl 93 (.tmp 5) rfl H rfl 93 _ (0,0) _ HX2.out Tryz.underlying93 rfl (by kernel_rfl) ?_)
      | (go_at_call 73;refine HC.out.mono ?_;rintro e W3 ⟨u3,rfl,hm3,hs3,ht3⟩))
     go_ret;rw [HE.out];exact GoesPost.here hs3 (HT2.out.trans (sub_tab H2.out ht3) fun _ _ e => e) (hm3.base HT2.out.size)
   ·(have f3 : (mk == 3) = false:=by simp [k3]);by_cases k4 : mk = 4
    ·as_aux_lemma =>
      have HE : Hid (r = Server.acked d (s.at_ now) ⟨mk,mc,mn,me,ms,o,mv,ml,md⟩):=Hd (by rw [HRE.out,if_neg k1,if_neg k2,if_neg k3,if_pos k4]);have HC:=Hd (acked_s W2 ⟨mk,mc,mn,me,ms,o,mv,ml,md⟩ o ho8 rfl hc4 H2.out);(have f4 : (mk == 4) = true:=by simp [k4]);clear HRE k1 k2 k3 k4
      go_wp2_with (first
       | (refine wpList_load_row rfl 93 (.tmp 5) rfl H rfl 93 _ (0,0) _ HX2.out Tryz.underlying93 rfl (by kernel_rfl) ?_)
       | (go_at_call 74;refine HC.out.mono ?_;rintro e W3 ⟨u3,own3,v3,ps3,qs3,rfl,hp3⟩))
      go_ret;rw [HE.out];exact GoesPost.ahead HT2.out ⟨u3,own3,v3,ps3,qs3,rfl,hp3⟩
    ·as_aux_lemma =>
      have HE : Hid (r = ([],d,s.at_ now)):=Hd (by rw [HRE.out,if_neg k1,if_neg k2,if_neg k3,if_neg k4]);(have f4 : (mk == 4) = false:=by simp [k4]);clear HRE k1 k2 k3 k4;(go_wp2_with fail);go_ret;rw [HE.out];exact GoesPost.here H2.out HT2.out (MsgsAt.nil _ _)
end
structure DskW (P : Lib.PrintTabs) (own : Nat → Nat) (w0 w : World) (db : Nat) (ps : List ByteArray) (d : Disk) : Prop where
 kit0 : Kit P w0
 hdl0 : Handle w0
 bel : Below w0.heap.size w0 w
 low : ∀ g,SrvSet own g → w0.heap.size ≤ g
 fr : ∀ g,w.heap.size ≤ g → own g = 0
 dsk : DiskAt w db ps d.cut d.left
 pls : Places P ps d.recs
 odb : own db = 1
 rc : ∀ r ∈ d.recs,0 ≤ r.client ∧ r.client < 4
section
variable {P : Lib.PrintTabs} {own own1 : Nat → Nat} {w0 w w' : World} {sb db wb dm tb tm : Nat} {v : Value} {ps : List ByteArray} {qs : List Value} {d : Disk} {s : Server} {S : Nat → Prop}
theorem SrvW.disk (h : SrvW P own w0 w sb db wb dm tb tm v ps qs d s) : DskW P own w0 w db ps d:=⟨h.kit0,h.hdl0,h.bel,h.low,h.fr,h.dsk,h.pls,h.odb,h.ok.rc⟩
theorem DskW.le (h : DskW P own w0 w db ps d) : w0.heap.size ≤ w.heap.size:=h.bel.size
theorem DskW.turn (h : DskW P own w0 w db ps d) (ht : Turn S w w') (he : Ext w own own1) (hf : ∀ g,w'.heap.size ≤ g → own1 g = 0) (hs : ∀ g,g < w.heap.size → S g → g ≠ db ∧ w0.heap.size ≤ g) : DskW P own1 w0 w' db ps d:=by
 have ht2 : Turn (fun g => g < w.heap.size ∧ S g) w w':=ht.mono fun k hk hS => ⟨hk,hS⟩;have hdl:=h.dsk.lt;refine ⟨h.kit0,h.hdl0,h.bel.trans (ht2.to_below h.le fun k hk hS => by have:=(hs k hS.1 hS.2).2;omega),fun g hg => ?_,hf,⟨ht.has h.dsk.d_ (fun hS => (hs db hdl hS).1 rfl),h.dsk.hp⟩,h.pls,by rw [he _ hdl];exact h.odb,h.rc⟩;rcases Nat.lt_or_ge g w.heap.size with hg' | hg'
 ·unfold SrvSet at hg;rw [he g hg'] at hg;exact h.low g hg
 ·exact Nat.le_trans h.le hg'
theorem DskW.below (h : DskW P own w0 w db ps d) (hb : Below w.heap.size w w') : DskW P own w0 w' db ps d:=
 h.turn (S:=fun _ => False) (Turn.of_below hb (Nat.le_refl _)) (Ext.refl _ _) (fun g hg => h.fr g (Nat.le_trans hb.size hg)) (fun _ _ h => h.elim)
theorem DskW.kit (h : DskW P own w0 w db ps d) : KitB P w0.heap.size w:=⟨w0,rfl,h.kit0,h.bel⟩
structure NewAt (W wx : World) (sb dm tb tm wb : Nat) (t : Terms) (now : Int) : Prop where
 bel : Below W.heap.size W wx
 s_ : Has wx sb (.cells (scells t wb (List.replicate 8 model.noVal) (List.replicate 8 (.slice none 0 0)) dm tb 0 0 now (-1)).toArray 105)
 done : At doneS wx dm []
 tab : TabM wx tb tm Table.new
 ge : W.heap.size ≤ sb ∧ W.heap.size ≤ dm ∧ W.heap.size ≤ tb ∧ W.heap.size ≤ tm
 ne : sb ≠ dm ∧ sb ≠ tb ∧ sb ≠ tm ∧ dm ≠ tb ∧ dm ≠ tm ∧ tb ≠ tm
def newOwner (own : Nat → Nat) (sb dm tb tm : Nat) : Nat → Nat:=fun k => if k = sb then 4 else if k = dm then 5 else if k = tb then 6 else if k = tm then 7 else own k
theorem newOwner_old {own : Nat → Nat} {sb dm tb tm k : Nat} (h1 : k ≠ sb) (h2 : k ≠ dm) (h3 : k ≠ tb) (h4 : k ≠ tm) : newOwner own sb dm tb tm k = own k:=by unfold newOwner;rw [if_neg h1,if_neg h2,if_neg h3,if_neg h4]
theorem blank_queue (t : Terms) (now : Int) (o : Nat) : (Server.blank t now).queue o = []:=by
 unfold Server.queue Server.blank;rw [List.getD_eq_getElem?_getD,List.getElem?_replicate];split <;> rfl
theorem NewAt.srv {W wx : World} {sb dm tb tm wb : Nat} {t : Terms} {now : Int} (hn : NewAt W wx sb dm tb tm wb t now) (hd : DskW P own w0 W db ps d) (hw : WalAt own 2 w0.heap.size W wb db v false d.recs) :
 SrvW P (newOwner own sb dm tb tm) w0 wx sb db wb dm tb tm v ps (List.replicate 8 (.slice none 0 0)) d (Server.blank t now):=by
 obtain ⟨g1,g2,g3,g4⟩:=hn.ge;obtain ⟨n1,n2,n3,n4,n5,n6⟩:=hn.ne;have old : ∀ k,k < W.heap.size → newOwner own sb dm tb tm k = own k:=fun k hk => newOwner_old (by omega) (by omega) (by omega) (by omega);have l1:=hn.s_.lt;have l2:=hn.done.lt;have l3:=hn.tab.lt;have lw:=hw.w_.lt;have ld:=hd.dsk.lt
 have hlow : ∀ g,SrvSet (newOwner own sb dm tb tm) g → w0.heap.size ≤ g:=fun g hg => by
  have:=hd.le;by_cases h1 : g = sb
  ·omega
  ·by_cases h2 : g = dm
   ·omega
   ·by_cases h3 : g = tb
    ·omega
    ·by_cases h4 : g = tm
     ·omega
     ·unfold SrvSet at hg;rw [newOwner_old h1 h2 h3 h4] at hg;exact hd.low g hg
 have hws:=hw.below hn.bel (Nat.le_refl _);refine ⟨hd.kit0,hd.hdl0,hd.bel.trans (hn.bel.mono hd.le),hlow,fun g hg => ?_,⟨hws.w_,⟨hws.row.1,fun g hg => ?_⟩,(old wb lw).trans hws.ow,fun g hg => hlow g ⟨by omega,by omega⟩,hws.lw⟩,⟨hd.dsk.d_.below hn.bel ld,hd.dsk.hp⟩,hd.pls,(old db ld).trans hd.odb,hn.s_,by unfold newOwner;rw [if_pos rfl],⟨by simp [Server.blank],by simp [Server.blank],fun o x hx => ?_,(fun p hp => by cases hp),hd.rc,fun o => by rw [blank_queue];simp⟩,by simp,fun o ho => ?_,hn.done,by unfold newOwner;rw [if_neg (by omega),if_pos rfl],hn.tab,by unfold newOwner;rw [if_neg (by omega),if_neg (by omega),if_pos rfl],by unfold newOwner;rw [if_neg (by omega),if_neg (by omega),if_neg (by omega),if_pos rfl]⟩
 ·rw [newOwner_old (by omega) (by omega) (by omega) (by omega)];exact hd.fr g (Nat.le_trans hn.bel.size hg)
 ·rw [old g (hw.row.lt g hg)];exact hw.row.2 g hg
 ·rw [blank_queue] at hx;cases hx
 ·rw [blank_queue,List.getD_eq_getElem?_getD,List.getElem?_replicate,if_pos ho];exact QRow.nil _ _ _ _ _
theorem row_slice {w : World} {B : Nat} {e : TypeId} {size n : Nat} {u : Value} {xs : List Value} (h : w.ownsRow B e size u n xs) : ∃ a c,u = .slice a n c:=by
 rcases h.2 with ⟨e,h0⟩ | ⟨g,cap,cur,e,-⟩
 ·exact ⟨none,0,by rw [e,h0]⟩
 ·exact ⟨_,_,e⟩
theorem rec_cell {w : World} {B : Nat} {u : Value} {l : List Rec} (h : w.ownsRow B 113 6 u l.length (recCs l)) {k : Nat} {x : Rec} (hk : l[k]? = some x) :
 ∃ g cap,u = .slice (some ⟨g,0,none⟩) l.length cap ∧ g < w.heap.size ∧ ∀ j y,(recRow x)[j]? = some y → w.cell? ⟨g,k * 6 + j,none⟩ = some y:=by
 have hkl : k < l.length:=(List.getElem?_eq_some_iff.1 hk).1;rcases h.2 with ⟨-,h0⟩ | ⟨g,cap,cur,rfl,-,h2,-,-,-,h4⟩
 ·omega
 ·have h3 : Has w g (.cells cur 113):=h2;refine ⟨g,cap,rfl,h3.lt,fun j y hj => ?_⟩;have hj6 : j < 6:=(List.getElem?_eq_some_iff.1 hj).1;rw [(row_cell h3 h4 (k * 6 + j) (by omega)).1];exact (flat_get (f:=recRow) (size:=6) (fun _ => rfl) l k x hk j hj6).trans hj
theorem SrvW.setEpoch {w : World} (h : SrvW P own w0 w sb db wb dm tb tm v ps qs d s) (n : Int) : SrvW P own w0 (w.setCell ⟨sb,30,none⟩ (.int .i64 n)) sb db wb dm tb tm v ps qs d { s with epoch:=n }:=by
 have ht : Turn (fun g => g = sb) w (w.setCell ⟨sb,30,none⟩ (.int .i64 n)):=turn_set (Turn.refl _ _) 30 _;refine h.upd ht ?_ ⟨h.ok.nv,h.ok.nq,h.ok.qc,h.ok.dk,h.ok.rc,h.ok.ql⟩ h.lq (h.queue_upd ht) rfl rfl rfl;have:=h.s_.set_ 30 (.int .i64 n);rw [List.setIfInBounds_toArray,scells_tail h.nv h.lq 2] at this;exact this
theorem SrvW.setQuiet {w : World} (h : SrvW P own w0 w sb db wb dm tb tm v ps qs d s) (n : Int) : SrvW P own w0 (w.setCell ⟨sb,31,none⟩ (.int .i64 n)) sb db wb dm tb tm v ps qs d { s with quiet:=n }:=by
 have ht : Turn (fun g => g = sb) w (w.setCell ⟨sb,31,none⟩ (.int .i64 n)):=turn_set (Turn.refl _ _) 31 _;refine h.upd ht ?_ ⟨h.ok.nv,h.ok.nq,h.ok.qc,h.ok.dk,h.ok.rc,h.ok.ql⟩ h.lq (h.queue_upd ht) rfl rfl rfl;have:=h.s_.set_ 31 (.int .i64 n);rw [List.setIfInBounds_toArray,scells_tail h.nv h.lq 3] at this;exact this
theorem add_up {d : Disk} {r : Rec} (h : (d.add false r).1 = 0) : (d.add false r).2.2 = false:=by
 unfold Disk.add at h ⊢;simp only [Bool.false_eq_true,if_false] at h ⊢;split at h
 ·cases h
 ·rename_i h1;rw [if_neg h1];split at h
  ·cases h
  ·rename_i h2;rw [if_neg h2];split at h
   ·cases h
   ·rename_i h3;rw [if_neg h3]
def NewPost (P : Lib.PrintTabs) (own : Nat → Nat) (w0 w : World) (db : Nat) (r : Int × Disk × Option Server) (e : Ending) (w' : World) : Prop:=
 ∃ own1,Ext w own own1 ∧ Turn (SrvSet own) w w' ∧
  match r with
  | (_,d,some s) => ∃ sb wb dm tb tm v ps qs,e = .returned (.tuple #[.pointer (some ⟨sb,0,none⟩),.nilIface]) ∧ SrvW P own1 w0 w' sb db wb dm tb tm v ps qs d s
  | (n,d,none) => ∃ ps,e = .returned (.tuple #[.pointer none,errV n]) ∧ DskW P own1 w0 w' db ps d
set_option maxHeartbeats 4000000 in
set_option maxRecDepth 1000000 in
theorem New_s (w : World) (t : Terms) (now : Int) (h : DskW P own w0 w db ps d) :
 Calls Tryz.prog 27 #[termsV t,.pointer (some ⟨db,0,none⟩),.int .i64 now] w (NewPost P own w0 w db (Server.new t d now)):=by
 obtain ⟨r,hr⟩ : ∃ r,r = Server.new t d now:=⟨_,rfl⟩;obtain ⟨W1,hW1⟩ : ∃ W1,W1 = w.alloc (.cells #[.int .i64 t.object,.int .i64 t.volume,.int .i64 t.drift] 31):=⟨_,rfl⟩;obtain ⟨H,hH⟩ : ∃ H,H = w.heap.size:=⟨_,rfl⟩;(have hb1 : Below w.heap.size w W1:=by rw [hW1];exact (Below.refl _ _).alloc (Nat.le_refl _) _);(have hx1 : Has W1 H (.cells #[.int .i64 t.object,.int .i64 t.volume,.int .i64 t.drift] 31):=by rw [hW1,hH];exact Has.new w _);have HD1:=Hd (h.below hb1);have HX1:=Hd hx1;have HT1 : Hid (Turn (SrvSet own) w W1):=Hd (Turn.of_below hb1 (Nat.le_refl _));have HOH : Hid (own H = 0):=Hd (h.fr H (by omega));have y0 : W1.cell? ⟨H,0,none⟩ = some (.int .i64 t.object):=hx1.cell 0;have y1 : W1.cell? ⟨H,1,none⟩ = some (.int .i64 t.volume):=hx1.cell 1;have y2 : W1.cell? ⟨H,2,none⟩ = some (.int .i64 t.drift):=hx1.cell 2;obtain ⟨rt,hrt⟩ : ∃ rt,rt = model.rightTerms t:=⟨_,rfl⟩;have HRT : Hid (Calls Tryz.prog 50 #[.agg #[.int .i64 t.object,.int .i64 t.volume,.int .i64 t.drift]] W1 fun e w' => e = .returned (.bool rt) ∧ Below W1.heap.size W1 w'):=Hd (by rw [hrt];exact Right_s t W1);obtain ⟨n1,hn1⟩ : ∃ n1,n1 = decide (now < 0):=⟨_,rfl⟩;obtain ⟨n2,hn2⟩ : ∃ n2,n2 = decide (549755813888 < now):=⟨_,rfl⟩;have e1 : decide (now < 0) = n1:=hn1.symm;have e2 : decide (549755813888 < now) = n2:=hn2.symm
 have HBAD : Hid ((!rt || n1 || n2) = true → r = (2,d,none)):=Hd fun hx => by
  rw [hr];unfold Server.new;rw [if_pos];rw [hrt,hn1,hn2] at hx
  cases h9 : model.rightTerms t with
  | false => rfl
  | true =>
   rw [h9] at hx;unfold inR model.half;simp only [Bool.not_true,Bool.false_or,Bool.or_eq_true,decide_eq_true_eq,Bool.not_eq_true',Bool.and_eq_false_iff,decide_eq_false_iff_not] at hx ⊢;omega
 have HGOOD : Hid ((!rt || n1 || n2) = false → (model.rightTerms t = true ∧ 0 ≤ now ∧ now ≤ 549755813888)):=Hd fun hx => by
  rw [hrt,hn1,hn2] at hx;simp only [Bool.or_eq_false_iff,Bool.not_eq_false',decide_eq_false_iff_not] at hx;exact ⟨hx.1.1,by omega,by omega⟩
 have HR:=Hd hr;rw [← hr];unfold termsV;clear hr hrt hn1 hn2 h hx1 hb1;(go_enter Tryz.func27,Tryz.ntmps27);(go_upto_region 1 with fail);rw [← hW1,← hH];clear hW1 hH
 cases rt with
 | false =>
  as_aux_lemma =>
   have HE : Hid (r = (2,d,none)):=Hd (HBAD.out (by simp));clear HBAD HGOOD;(go_wp2_with (go_at_call 50;refine HRT.out.mono ?_;rintro e W2 ⟨rfl,hb2⟩));go_ret2;rw [HE.out];exact ⟨own,Ext.refl _ _,HT1.out.then_below hb2 (Nat.le_refl _),_,rfl,HD1.out.below hb2⟩
 | true =>
  cases n1 with
  | true =>
   as_aux_lemma =>
    have HE : Hid (r = (2,d,none)):=Hd (HBAD.out (by simp));clear HBAD HGOOD;(go_wp2_with (go_at_call 50;refine HRT.out.mono ?_;rintro e W2 ⟨rfl,hb2⟩));go_ret2;rw [HE.out];exact ⟨own,Ext.refl _ _,HT1.out.then_below hb2 (Nat.le_refl _),_,rfl,HD1.out.below hb2⟩
  | false =>
   cases n2 with
   | true =>
    as_aux_lemma =>
     have HE : Hid (r = (2,d,none)):=Hd (HBAD.out (by simp));clear HBAD HGOOD;(go_wp2_with (go_at_call 50;refine HRT.out.mono ?_;rintro e W2 ⟨rfl,hb2⟩));go_ret2;rw [HE.out];exact ⟨own,Ext.refl _ _,HT1.out.then_below hb2 (Nat.le_refl _),_,rfl,HD1.out.below hb2⟩
   | false =>
    obtain ⟨hrt,hn0,hnh⟩:=HGOOD.out rfl;have HRT2:=Hd hrt;clear HBAD HGOOD hrt;(go_upto_region 3 with (go_at_call 50;refine HRT.out.mono ?_;rintro e W2 ⟨rfl,hb2⟩));have HD2:=Hd (HD1.out.below hb2);have HX2:=Hd (HX1.out.below hb2 HX1.out.lt);have HT2:=Hd (HT1.out.then_below hb2 (Nat.le_refl _));have HH2 : Hid (H < W2.heap.size):=Hd HX2.out.lt;have HOP:=Hd (Open_any P own 2 w0.heap.size W2 db ps d.cut d.left d.recs HD2.out.kit HD2.out.dsk HD2.out.pls (by rw [HD2.out.odb];decide) (fun g hg => HD2.out.low g ⟨by omega,by omega⟩));clear HD1 HX1 HT1 HRT hb2 y0 y1 y2 e1 e2;(go_upto_region 6 with (go_at_call 51;refine HOP.out.mono ?_;rintro e W3 ⟨ownB,wb,v,rfl,he3,ht3,hw3,hwb⟩));have hsz3:=ht3.size;have HDW : Hid (DskW P (cutOwn ownB W3) w0 W3 db ps d):=Hd (HD2.out.turn ht3 (cut_ext he3 hsz3) (cut_fresh _ _) (fun g _ hg => ⟨fun e => (by rw [e,HD2.out.odb] at hg;cases hg),HD2.out.low g ⟨by omega,by omega⟩⟩));have hx3 : Has W3 H (.cells #[.int .i64 t.object,.int .i64 t.volume,.int .i64 t.drift] 31):=ht3.has HX2.out (fun hg => by have:=HOH.out;omega);have HX3:=Hd hx3;have HT3 : Hid (Turn (SrvSet own) w W3):=Hd (HT2.out.trans ht3 fun k _ e => ⟨by omega,by omega⟩);have HE3 : Hid (Ext W2 own (cutOwn ownB W3)):=Hd (cut_ext he3 hsz3)
    have HW3 : Hid (WalAt (cutOwn ownB W3) 2 w0.heap.size W3 wb db v false d.recs):=Hd (by
     have hl:=hw3.w_.lt;refine ⟨hw3.w_,⟨hw3.row.1,fun g hg => by rw [cut_old (hw3.row.lt g hg)];exact hw3.row.2 g hg⟩,by rw [cut_old hl];exact hw3.ow,fun g hg => ?_,hw3.lw⟩
     exact HDW.out.low g ⟨by omega,by omega⟩)
    have y0 : W3.cell? ⟨H,0,none⟩ = some (.int .i64 t.object):=hx3.cell 0;have y1 : W3.cell? ⟨H,1,none⟩ = some (.int .i64 t.volume):=hx3.cell 1;have y2 : W3.cell? ⟨H,2,none⟩ = some (.int .i64 t.drift):=hx3.cell 2;have hHl : H < W3.heap.size:=hx3.lt;have hmm:=@run_makeMap Tryz.prog;have hba : Below W3.heap.size W3 (W3.alloc (.map #[] 0)).drew:=((Below.refl _ _).alloc (Nat.le_refl _) _).drew;have HBA:=Hd hba;clear hba;clear he3 ht3 hw3 hx3 HX2 HD2 HOP hsz3 hwb;go_cut [10] (fun q wx => ∃ sb dm tb tm,q = .pointer (some ⟨sb,0,none⟩) ∧ NewAt W3 wx sb dm tb tm wb t now)
    case first =>
     go_region_held3 (fun W => W.cell? ⟨H,0,none⟩ = some (.int .i64 t.object) ∧ W.cell? ⟨H,1,none⟩ = some (.int .i64 t.volume) ∧ W.cell? ⟨H,2,none⟩ = some (.int .i64 t.drift)) (first | go_keep | exact ⟨(hbn.cell (p:=⟨H,0,none⟩) (by simp;omega)).trans y0,(hbn.cell (p:=⟨H,1,none⟩) (by simp;omega)).trans y1,(hbn.cell (p:=⟨H,2,none⟩) (by simp;omega)).trans y2⟩ | exact ⟨(hbn.cell (p:=⟨H,0,none⟩) (by simp;omega)).trans ((HBA.out.cell (p:=⟨H,0,none⟩) hHl).trans y0),(hbn.cell (p:=⟨H,1,none⟩) (by simp;omega)).trans ((HBA.out.cell (p:=⟨H,1,none⟩) hHl).trans y1),(hbn.cell (p:=⟨H,2,none⟩) (by simp;omega)).trans ((HBA.out.cell (p:=⟨H,2,none⟩) hHl).trans y2)⟩) ((go_at_call 52;refine (TabM.new _).mono ?_;rintro e W4 ⟨rfl,htn,hbn,hsn⟩))
     rotate_left
     ·have hs4 : W4.heap.size = W3.heap.size + 2:=hsn;have hb4 : Below W3.heap.size W3 W4:=(Below.refl _ W3).drew.trans hbn;have hb5 : Below W4.heap.size W4 (W4.alloc (.map #[] 0)):=(Below.refl _ _).alloc (Nat.le_refl _) _;have hs5 : (W4.alloc (.map #[] 0)).heap.size = W3.heap.size + 2 + 1:=by simp [hs4]
      have HN : Hid (NewAt W3 ((W4.alloc (.map #[] 0)).alloc (.cells (scells t wb (List.replicate 8 model.noVal) (List.replicate 8 (.slice none 0 0)) (W3.heap.size + 2) (W3.heap.size + 1) 0 0 now (-1)).toArray 105)) (W3.heap.size + 2 + 1) (W3.heap.size + 2) (W3.heap.size + 1) W3.heap.size wb t now):=Hd (by
       have hd:=At.new doneS W4;rw [hs4] at hd;have hh:=Has.new (W4.alloc (.map #[] 0)) (.cells (scells t wb (List.replicate 8 model.noVal) (List.replicate 8 (.slice none 0 0)) (W3.heap.size + 2) (W3.heap.size + 1) 0 0 now (-1)).toArray 105);rw [hs5] at hh
       refine ⟨(hb4.alloc (by omega) _).alloc (by simp;omega) _,hh,hd.alloc _,(htn.below hb5).below ((Below.refl _ _).alloc (Nat.le_refl _) _),by omega,by omega⟩)
      clear hbn htn hsn hs4 hb4 hb5 hs5 hmm y0 y1 y2;(go_wp2_with fail);go_meet;case rel => exact ⟨_,_,_,_,rfl,HN.out⟩
     ·(have hs4 : W4.heap.size = W3.heap.size + 1 + 2:=by have:=hsn;simpa using this);have hb4 : Below (W3.alloc (.map #[] 0)).drew.heap.size (W3.alloc (.map #[] 0)).drew W4:=hbn;have hs5 : (W3.alloc (.map #[] 0)).drew.heap.size = W3.heap.size + 1:=by show (W3.alloc (.map #[] 0)).heap.size = _;simp
      have HN : Hid (NewAt W3 (W4.alloc (.cells (scells t wb (List.replicate 8 model.noVal) (List.replicate 8 (.slice none 0 0)) W3.heap.size (W3.heap.size + 1 + 1) 0 0 now (-1)).toArray 105)) (W3.heap.size + 1 + 2) W3.heap.size (W3.heap.size + 1 + 1) (W3.heap.size + 1) wb t now):=Hd (by
       have hd : At doneS (W3.alloc (.map #[] 0)).drew W3.heap.size []:=(At.new doneS W3).turn (Turn.refl (fun _ => False) _).drew (fun h => h);have hd4:=hd.turn (Turn.of_below (S:=fun _ => False) hb4 (Nat.le_refl _)) (fun h => h);have hh:=Has.new W4 (.cells (scells t wb (List.replicate 8 model.noVal) (List.replicate 8 (.slice none 0 0)) W3.heap.size (W3.heap.size + 1 + 1) 0 0 now (-1)).toArray 105);rw [hs4] at hh;rw [hs5] at htn
       refine ⟨(HBA.out.trans (hb4.mono (by rw [hs5];omega))).alloc (by omega) _,hh,hd4.alloc _,htn.below ((Below.refl _ _).alloc (Nat.le_refl _) _),by omega,by omega⟩)
      clear hbn htn hsn hs4 hb4 hs5 hmm y0 y1 y2;(go_wp2_with fail);go_meet;case rel => exact ⟨_,_,_,_,rfl,HN.out⟩
    case rest =>
     obtain ⟨sb,dm,tb,tm,rfl,hn⟩:=hcut;have HS0:=Hd (hn.srv HDW.out HW3.out);have HT4:=Hd (HT3.out.then_below hn.bel (Nat.le_refl _));have HX4:=Hd (HX3.out.below hn.bel hHl);obtain ⟨own4,how⟩ : ∃ own4,own4 = newOwner (cutOwn ownB W3) sb dm tb tm:=⟨_,rfl⟩;rw [← how] at HS0
     have HE4 : Hid (Ext w own own4):=Hd fun k hk => by
      obtain ⟨g1,g2,g3,g4⟩:=hn.ge;have h1:=HT3.out.size;rw [how,newOwner_old (by omega) (by omega) (by omega) (by omega)];have hk2 : k < W2.heap.size:=Nat.lt_of_lt_of_le hk HT2.out.size;exact HE3.out k hk2
     have HOH4 : Hid (own4 H = 0):=Hd (by
      obtain ⟨g1,g2,g3,g4⟩:=hn.ge;rw [how,newOwner_old (by omega) (by omega) (by omega) (by omega)]
      exact (HE3.out H HH2.out).trans HOH.out)
     have HRC:=Hd (Records_any wc HS0.out.wal HDW.out.pls.len);have HPR:=Hd HDW.out.pls.right;have HLN:=Hd HDW.out.pls.len;obtain ⟨qs0,hqs0⟩ : ∃ qs0 : List Value,qs0 = List.replicate 8 (.slice none 0 0):=⟨_,rfl⟩;rw [← hqs0] at HS0;obtain ⟨s0,hs0⟩ : ∃ s0,s0 = Server.blank t now:=⟨_,rfl⟩;rw [← hs0] at HS0;have HSB:=Hd hs0;clear hn how hqs0 hs0 HDW HW3 HT3 HX3 HE3 HBA hHl y0 y1 y2 hmm;(go_upto_region 8 with (go_at_call 53;refine HRC.out.mono ?_;rintro e W5 ⟨vr,rfl,hr5,hb5⟩;obtain ⟨ra,rcp,hvr⟩:=row_slice hr5;subst hvr));have HR5:=Hd hr5;have HS5:=Hd (HS0.out.below hb5);have HT5:=Hd (HT4.out.then_below hb5 (Nat.le_refl _));have HX5:=Hd (HX4.out.below hb5 HX4.out.lt);have HRO : Hid (∀ g,(Value.slice ra d.recs.length rcp).ownBlock = some g → own4 g = 0):=Hd fun g hg => HS0.out.fr g (owns_ge hr5 g hg);clear hr5 hb5 HS0 HT4 HX4 HRC;(go_loopw [44] (fun q44 wr => ∃ (k : Nat) (s1 : Server),k ≤ d.recs.length ∧ q44 = .int .i64 k ∧ SrvW P own4 w0 wr sb db wb dm tb tm v ps qs0 d s1 ∧ s0.replay d.recs = s1.replay (d.recs.drop k) ∧ Turn (fun g => g = sb ∨ g = dm) W5 wr ∧ s1.down = false) (fun q44 _ => d.recs.length - (intOf q44).toNat));case atStart => exact ⟨0,s0,by omega,rfl,HS5.out,by rw [List.drop_zero],Turn.refl _ _,by rw [HSB.out];rfl⟩
     case round =>
      obtain ⟨k,s1,hk,rfl,hs1,hrep,ht1,hdn⟩:=hrel;have HS1:=Hd hs1;have HRP:=Hd hrep;have HT1:=Hd ht1;have HDN:=Hd hdn
      have nX : ¬ (H = sb ∨ H = dm):=fun e => by
       have h0:=HOH4.out;rcases e with e | e
       ·rw [e,hs1.osb] at h0;cases h0
       ·rw [e,hs1.odm] at h0;cases h0
      have HXR:=Hd (ht1.has HX5.out nX)
      have HRR : Hid (wr.ownsRow wc.heap.size 113 6 (.slice ra d.recs.length rcp) d.recs.length (recCs d.recs)):=Hd (owns_kept HR5.out fun g hg => ht1.block g (by
       rcases HR5.out.2 with ⟨e,-⟩ | ⟨g',cap,cur,e,-,h2,-⟩
       ·rw [e] at hg;cases hg
       ·rw [e] at hg;cases hg;exact Has.lt (w:=W5) h2) (fun e => by
        have h0:=HRO.out g hg;rcases e with e | e
        ·rw [e,hs1.osb] at h0;cases h0
        ·rw [e,hs1.odm] at h0;cases h0))
      clear hs1 hrep ht1 hdn nX;by_cases hkl : k < d.recs.length
      ·have hln : d.recs.length ≤ 200:=HLN.out;have hkr : d.recs[k]? = some d.recs[k]:=List.getElem?_eq_getElem hkl;have hmem : d.recs[k] ∈ d.recs:=List.getElem_mem hkl;have hdrop : d.recs.drop k = d.recs[k] :: d.recs.drop (k + 1):=List.drop_eq_getElem_cons hkl;generalize hx : d.recs[k] = x at hkr hmem hdrop;have HX0:=Hd (HPR.out x hmem);have HXC:=Hd (HS1.out.ok.rc x hmem);have HRP2 : Hid (s0.replay d.recs = s1.replay (x :: d.recs.drop (k + 1))):=Hd (by rw [HRP.out,hdrop]);obtain ⟨g5,cap5,e5,g5l,hc5⟩:=rec_cell HRR.out hkr;simp only [Value.slice.injEq] at e5;obtain ⟨rfl,-,rfl⟩:=e5;obtain ⟨xc,xn,xo,xv,xd,xe⟩:=x;have z0 : wr.cell? ⟨g5,k * 6,none⟩ = some (.int .i64 xc):=hc5 0 _ rfl;have z1 : wr.cell? ⟨g5,k * 6 + 1,none⟩ = some (.int .i64 xn):=hc5 1 _ rfl;have z2 : wr.cell? ⟨g5,k * 6 + 2,none⟩ = some (.int .i64 xo):=hc5 2 _ rfl;have z3 : wr.cell? ⟨g5,k * 6 + 3,none⟩ = some (.int .i64 xv):=hc5 3 _ rfl;have z4 : wr.cell? ⟨g5,k * 6 + 4,none⟩ = some (.string ⟨xd.toArray⟩):=hc5 4 _ rfl;have z5 : wr.cell? ⟨g5,k * 6 + 5,none⟩ = some (.int .i64 xe):=hc5 5 _ rfl;clear hkr hmem hdrop hx hc5 HRP;(go_upto_region 10 with fail);obtain ⟨B,hB⟩ : ∃ B,B = wr.heap.size:=⟨_,rfl⟩;obtain ⟨W6,hW6⟩ : ∃ W6,W6 = wr.alloc (.cells #[.int .i64 xc,.int .i64 xn,.int .i64 xo,.int .i64 xv,.string ⟨xd.toArray⟩,.int .i64 xe] 113):=⟨_,rfl⟩;rw [← hW6,← hB];(have hb6 : Below wr.heap.size wr W6:=by rw [hW6];exact (Below.refl _ _).alloc (Nat.le_refl _) _);(have hx6 : Has W6 B (.cells #[.int .i64 xc,.int .i64 xn,.int .i64 xo,.int .i64 xv,.string ⟨xd.toArray⟩,.int .i64 xe] 113):=by rw [hW6,hB];exact Has.new wr _);have HX6:=Hd hx6;have HS6:=Hd (HS1.out.below hb6);have HT6 : Hid (Turn (fun g => g = sb ∨ g = dm) W5 W6):=Hd (HT1.out.then_below hb6 (Nat.le_refl _));have b2 : W6.cell? ⟨B,2,none⟩ = some (.int .i64 xo):=hx6.cell 2;have b5 : W6.cell? ⟨B,5,none⟩ = some (.int .i64 xe):=hx6.cell 5;clear hW6 hb6 hx6 hB z0 z1 z2 z3 z4 z5 HS1 HT1 HRR
       cases hxo : decide (xo < 0) with
       | true =>
        as_aux_lemma =>
         have HRP3 : Hid (s0.replay d.recs = ({ s1 with epoch:=max s1.epoch xe } : Server).replay (d.recs.drop (k + 1))):=Hd (by
          rw [HRP2.out,Server.replay,if_pos (of_decide_eq_true hxo)])
         have c30 : W6.cell? ⟨sb,30,none⟩ = some (.int .i64 s1.epoch):=HS6.out.cellT 2 _ rfl;have f30:=HS6.out.s_.frozen 30;(go_upto_region 11 with fail);refine last.headH (fun W => W.cell? ⟨sb,30,none⟩ = some (.int .i64 s1.epoch) ∧ W.frozen? ⟨sb,30,none⟩ = false ∧ W.cell? ⟨B,5,none⟩ = some (.int .i64 xe)) 10 11 ⟨c30,f30,b5⟩ fun HS => ?_;refine last.many [(0,51,_),(1,52,_),(2,53,_),(3,54,_),(4,55,_),(5,56,_),(6,57,_),(7,58,_)] HS.out ?_ (hy:=fun W' hW' => by have e1:=hW'.1;have f0:=hW'.2.2;repeat (first | exact .z | refine .s ?_ | refine .k ?_));refine last.goT [9,8] 8 59 (.pointer (some ⟨sb,0,none⟩)) HS.out ?_;dsimp only [List.set];refine last.many [(9,60,_)] HS.out ?_;have e30:=HS.out.1;have e31:=HS.out.2.1;refine last.one 10 fun K hK => ?_;go_simp;refine hK.out _ _ (fun h => absurd rfl h) ?_;refine last.done ?_;(go_wp2_with fail);have hs7:=(HS6.out.below (Below.refl _ _).drew).setEpoch (max s1.epoch xe);have ht7 : Turn (fun g => g = sb ∨ g = dm) W5 (W6.drew.setCell ⟨sb,30,none⟩ (.int .i64 (max s1.epoch xe))):=HT6.out.drew.setCell (p:=⟨sb,30,none⟩) (.inr (.inl rfl)) _;go_roundw
         case rel =>
          exact ⟨k + 1,_,by omega,by go_num,hs7,HRP3.out,ht7,HDN.out⟩
         case measure => simp [intOf];omega
       | false =>
        as_aux_lemma =>
         have hx0 : ¬ xo < 0:=of_decide_eq_false hxo;have hxr:=HX0.out;unfold Rec.right at hxr;dsimp only at hxr;rw [if_neg (by omega)] at hxr;simp only [Bool.and_eq_true] at hxr;have hx7:=inR_iff.1 hxr.1.1.1.2;obtain ⟨o,rfl⟩ : ∃ o : Nat,xo = o:=⟨xo.toNat,by omega⟩
         have HRP3 : Hid (s0.replay d.recs = (s1.applies ⟨xc,xn,o,xv,xd,xe⟩).1.replay (d.recs.drop (k + 1))):=Hd (by
          rw [HRP2.out,Server.replay,if_neg hx0])
         have HAP:=Hd (applies_s W6 ⟨xc,xn,o,xv,xd,xe⟩ o (by omega) rfl HXC.out HS6.out);have HDN2 : Hid ((s1.applies ⟨xc,xn,o,xv,xd,xe⟩).1.down = false):=Hd HDN.out;have HHB : Hid (Below W6.heap.size W6 W6):=Hd (Below.refl _ _);clear hxr hx7 HX0 HRP2 b5
         go_wp2_with (first
          | (refine wpList_load_row rfl 113 (.tmp 12) rfl B rfl 113 _ (0,0) _ HX6.out Tryz.underlying113 rfl (by kernel_rfl) ?_)
          | (go_at_call 54;refine HAP.out.mono ?_;rintro e W7 ⟨rfl,hs7,ht7⟩))
         have ht8 : Turn (fun g => g = sb ∨ g = dm) W5 W7:=HT6.out.trans ht7 fun _ _ e => e;go_roundw;(case rel => exact ⟨k + 1,_,by omega,by go_num,hs7,HRP3.out,ht8,HDN2.out⟩);case measure => simp [intOf];omega
      ·(obtain rfl : k = d.recs.length:=by omega);have HRE : Hid (s0.replay d.recs = s1):=Hd (by rw [HRP.out,List.drop_of_length_le (Nat.le_refl _)];rfl)
       have hvb : 0 ≤ t.volume ∧ t.volume ≤ 274877906944:=by
        have h9:=HRT2.out;unfold model.rightTerms at h9;simp only [Bool.and_eq_true,decide_eq_true_eq] at h9;omega
       have c30 : wr.cell? ⟨sb,30,none⟩ = some (.int .i64 s1.epoch):=HS1.out.cellT 2 _ rfl;have f30:=HS1.out.s_.frozen 30;obtain ⟨ep,hep⟩ : ∃ ep,ep = wrap64 (s1.epoch + 1):=⟨_,rfl⟩;have HEP:=Hd hep
       have HTT : Hid (Turn (SrvSet own) w wr):=Hd (HT5.out.trans HT1.out fun k hk e => by
        have h9:=HE4.out k hk;unfold SrvSet;rcases e with e | e
        ·rw [← h9,e,HS1.out.osb];decide
        ·rw [← h9,e,HS1.out.odm];decide)
       clear hep HRP HRR HR5 HS5 HT5 HX5;(go_upto_region 15 with fail);rw [← HEP.out];obtain ⟨W6,hW6⟩ : ∃ W6,W6 = wr.setCell ⟨sb,30,none⟩ (.int .i64 ep):=⟨_,rfl⟩;rw [← hW6];have HS6 : Hid (SrvW P own4 w0 W6 sb db wb dm tb tm v ps qs0 d { s1 with epoch:=ep }):=Hd (by rw [hW6];exact HS1.out.setEpoch ep)
       have HT6 : Hid (Turn (SrvSet own) w W6):=Hd (by
        rw [hW6];refine HTT.out.setCell (p:=⟨sb,30,none⟩) ?_ _;rcases Nat.lt_or_ge sb w.heap.size with h9 | h9
        ·right;have h8:=HE4.out sb h9;unfold SrvSet;rw [← h8,HS1.out.osb];decide
        ·exact .inl h9)
       have HXR6 : Hid (Has W6 H (.cells #[.int .i64 t.object,.int .i64 t.volume,.int .i64 t.drift] 31)):=Hd (by
        rw [hW6]
        exact HXR.out.far (p:=⟨sb,30,none⟩) (fun e => by have h9:=HOH4.out;rw [show H = sb from e,HS1.out.osb] at h9;cases h9) _)
       clear hW6 HS1 HTT HXR c30 f30 HT1;have c30 : W6.cell? ⟨sb,30,none⟩ = some (.int .i64 ep):=HS6.out.cellT 2 _ rfl;have c31 : W6.cell? ⟨sb,31,none⟩ = some (.int .i64 s1.quiet):=HS6.out.cellT 3 _ rfl;have f31:=HS6.out.s_.frozen 31;have y1 : W6.cell? ⟨H,1,none⟩ = some (.int .i64 t.volume):=HXR6.out.cell 1;obtain ⟨pb,hpb⟩ : ∃ pb,pb = decide (1 < ep):=⟨_,rfl⟩;have epb : decide (1 < ep) = pb:=hpb.symm
       obtain ⟨s3,hs3⟩ : ∃ s3 : Server,s3 = (if pb then { ({ s1 with epoch:=ep } : Server) with quiet:=now + t.volume } else { s1 with epoch:=ep }):=⟨_,rfl⟩
       have HS3:=Hd hs3;have HPB:=Hd hpb;clear hpb hs3;(go_upto_if 76 with fail);go_cut [77] (fun _ wx => SrvW P own4 w0 wx sb db wb dm tb tm v ps qs0 d s3 ∧ Turn (SrvSet own) w wx)
       case first =>
        cases pb with
        | false =>
         have HE : Hid (s3 = { s1 with epoch:=ep }):=Hd HS3.out;(go_wp2_with fail);go_meet;case rel => rw [HE.out];exact ⟨HS6.out,HT6.out⟩
        | true =>
         have HE : Hid (s3 = { ({ s1 with epoch:=ep } : Server) with quiet:=now + t.volume }):=Hd HS3.out;have HSQ:=Hd (HS6.out.setQuiet (now + t.volume))
         have HTQ : Hid (Turn (SrvSet own) w (W6.setCell ⟨sb,31,none⟩ (.int .i64 (now + t.volume)))):=Hd (by
          refine HT6.out.setCell (p:=⟨sb,31,none⟩) ?_ _;rcases Nat.lt_or_ge sb w.heap.size with h9 | h9
          ·right;have h8:=HE4.out sb h9;unfold SrvSet;rw [← h8,HS6.out.osb];decide
          ·exact .inl h9)
         (go_wp2_with fail);go_meet;case rel => rw [HE.out];exact ⟨HSQ.out,HTQ.out⟩
       case rest =>
        obtain ⟨hs7,ht7⟩:=hcut;(have h3e : s3.epoch = ep:=by rw [HS3.out];split <;> rfl);(have h3d : s3.down = false:=by rw [HS3.out];split <;> exact HDN.out);obtain ⟨p,hp⟩ : ∃ p,p = d.add false ⟨0,0,-1,0,[],ep⟩:=⟨_,rfl⟩;obtain ⟨pe,d2,dn⟩:=p;obtain ⟨ev,hev⟩ : ∃ ev,ev = errV pe:=⟨_,rfl⟩;have HS7:=Hd hs7;have HT7:=Hd ht7;have c30' : wc.cell? ⟨sb,30,none⟩ = some (.int .i64 ep):=by rw [← h3e];exact hs7.cellT 2 _ rfl
        have HADD : Hid (Calls Tryz.prog 55 #[.pointer (some ⟨wb,0,none⟩),.agg #[.int .i64 0,.int .i64 0,.int .i64 (-1),.int .i64 0,.string ⟨#[]⟩,.int .i64 ep],.int .i64 (-1)] wc fun e w' => e = .returned ev ∧ ∃ own2 v2 ps2,Ext wc own4 own2 ∧ Turn (fun g => g = wb ∨ g = db ∨ own4 g = 2) wc w' ∧ SrvW P own2 w0 w' sb db wb dm tb tm v2 ps2 qs0 d2 { s3 with down:=dn }):=Hd (by
         have key:=Add_s wc ⟨0,0,-1,0,[],ep⟩ (-1) (by show (0 : Nat) ≤ 20;decide) (by show (0 : Int) ≤ 0 ∧ (0 : Int) < 4;decide) hs7 h3d;unfold AddS at key;rw [h3d,← hp,← hev] at key
         exact key)
        have HR4 : Hid (r = if pe = 0 then (0,d2,some s3) else (pe,d2,none)):=Hd (by
         rw [HR.out];unfold Server.new
         have h9 : ¬ (!model.rightTerms t || !inR now 0 model.half) = true:=by
          rw [HRT2.out];have : inR now 0 model.half = true:=inR_iff.2 ⟨hn0,hnh⟩;rw [this];decide
         rw [if_neg h9];dsimp only;(have h10 : (Server.blank t now).replay d.recs = s1:=by rw [← HSB.out];exact HRE.out);rw [h10,← HEP.out]
         have h11 : (if 1 < ep then { ({ s1 with epoch:=ep } : Server) with quiet:=now + t.volume } else ({ s1 with epoch:=ep } : Server)) = s3:=by
          rw [HS3.out];by_cases h12 : 1 < ep
          ·(have : pb = true:=by rw [HPB.out];exact decide_eq_true h12);rw [if_pos h12,this];rfl
          ·(have : pb = false:=by rw [HPB.out];exact decide_eq_false h12);rw [if_neg h12,this];rfl
         have h13 : ({ s1 with epoch:=ep } : Server).epoch = ep:=rfl
         show (let s:=(if 1 < ep then { ({ s1 with epoch:=ep } : Server) with quiet:=now + t.volume } else ({ s1 with epoch:=ep } : Server));let p:=d.add false ⟨0,0,-1,0,[],s.epoch⟩;if p.1 = 0 then (0,p.2.1,some s) else (p.1,p.2.1,none)) = _
         rw [h11];dsimp only
         rw [h3e,← hp])
        have HDN2 : Hid (pe = 0 → { s3 with down:=dn } = s3):=Hd fun h => by
         have h14:=add_up (d:=d) (r:=⟨0,0,-1,0,[],ep⟩) (by rw [← hp];exact h);rw [← hp] at h14;dsimp only at h14;rw [h14,← h3d]
        have HEV:=Hd hev;clear hs7 ht7 h3e h3d hp hev HS6 HT6 HXR6 c30 c31 f31 y1 epb;(go_upto_region 18 with (go_at_call 55;refine HADD.out.mono ?_;rintro e W9 ⟨rfl,own9,v9,ps9,he9,ht9,hs9⟩));have HS9:=Hd hs9;have HE9 : Hid (Ext w own own9):=Hd fun k hk => (he9 k (Nat.lt_of_lt_of_le hk HT7.out.size)).trans (HE4.out k hk)
        have HT9 : Hid (Turn (SrvSet own) w W9):=Hd (HT7.out.trans ht9 fun k hk e => by
         have h8:=HS7.out.setA k (Nat.lt_of_lt_of_le hk HT7.out.size) e;unfold SrvSet at h8 ⊢
         rwa [HE4.out k hk] at h8)
        clear hs9 he9 ht9 HADD HS7;by_cases hp0 : pe = 0
        ·(have hv : ev = .nilIface:=by rw [HEV.out,hp0];rfl);subst hv;have HE : Hid (r = (0,d2,some s3)):=Hd (by rw [HR4.out,if_pos hp0]);have HS10 : Hid (SrvW P own9 w0 W9 sb db wb dm tb tm v9 ps9 qs0 d2 s3):=Hd (by rw [← HDN2.out hp0];exact HS9.out);clear hp0 HEV;(go_wp2_with fail);go_ret2;rw [HE.out];exact ⟨own9,HE9.out,HT9.out,sb,wb,dm,tb,tm,v9,ps9,qs0,rfl,HS10.out⟩
        ·(have hv : ev = .iface 69 (.int .i64 pe):=by rw [HEV.out,errV_of hp0]);subst hv;have HE : Hid (r = (pe,d2,none)):=Hd (by rw [HR4.out,if_neg hp0]);have HP0:=Hd hp0;clear hp0 HEV;(go_wp2_with fail);go_ret2;rw [HE.out];exact ⟨own9,HE9.out,HT9.out,ps9,by rw [errV_of HP0.out];rfl,HS9.out.disk⟩
end
end srv
end Go.Proofs.YtefkmcjhgoagcaaGreatDoor
