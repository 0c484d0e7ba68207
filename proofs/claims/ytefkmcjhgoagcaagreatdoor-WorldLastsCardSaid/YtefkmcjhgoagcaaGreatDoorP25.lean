/-
  A part of the proof of the law WorldLasts: SrvJ, SrvL, SrvK, SrvM, ClB.
-/
import Derived.Laws.ResultCell
import Derived.Test.YtefkmcjhgoagcaaGreatDoorHd
import Derived.Test.YtefkmcjhgoagcaaGreatDoorP24
namespace Go.Proofs.YtefkmcjhgoagcaaGreatDoor
namespace srv
open Go.RowKit heap own recs errs mapof wal tab wire
open model (Rec Disk Val Wr Server Table Terms inR seek put del)
def termsV (t : Terms) : Value:=.agg #[.int .i64 t.object,.int .i64 t.volume,.int .i64 t.drift]
theorem right_eq (t : Terms) : model.rightTerms t = (decide (1 ≤ t.volume) && decide (t.volume ≤ t.object) && decide (t.object ≤ 274877906944) && decide (0 ≤ t.drift) && decide (t.drift ≤ 500)):=by
 unfold model.rightTerms inR;simp only [Bool.and_assoc]
set_option maxRecDepth 100000 in
theorem Right_s (t : Terms) (w : World) : Calls Tryz.prog 50 #[termsV t] w fun e w' => e = .returned (.bool (model.rightTerms t)) ∧ Below w.heap.size w w':=by
 rw [right_eq];obtain ⟨tob,tv,td⟩:=t;unfold termsV;dsimp only;obtain ⟨b1,h1⟩ : ∃ b1,b1 = decide (1 ≤ tv):=⟨_,rfl⟩;obtain ⟨b2,h2⟩ : ∃ b2,b2 = decide (tv ≤ tob):=⟨_,rfl⟩;obtain ⟨b3,h3⟩ : ∃ b3,b3 = decide (tob ≤ 274877906944):=⟨_,rfl⟩;obtain ⟨b4,h4⟩ : ∃ b4,b4 = decide (0 ≤ td):=⟨_,rfl⟩;obtain ⟨b5,h5⟩ : ∃ b5,b5 = decide (td ≤ 500):=⟨_,rfl⟩;rw [← h1,← h2,← h3,← h4,← h5];have e1:=h1.symm;have e2:=h2.symm;have e3:=h3.symm;have e4:=h4.symm;have e5:=h5.symm;clear h1 h2 h3 h4 h5
 cases b1 with
 | false =>
  (go_enter Tryz.func50,Tryz.ntmps50);go_wp2;go_ret;exact ⟨rfl,(Below.refl _ _).alloc (Nat.le_refl _) _⟩
 | true =>
  cases b2 with
  | false =>
   (go_enter Tryz.func50,Tryz.ntmps50);go_wp2;go_ret;exact ⟨rfl,(Below.refl _ _).alloc (Nat.le_refl _) _⟩
  | true =>
   cases b3 with
   | false =>
    (go_enter Tryz.func50,Tryz.ntmps50);go_wp2;go_ret;exact ⟨rfl,(Below.refl _ _).alloc (Nat.le_refl _) _⟩
   | true =>
    cases b4 with
    | false =>
     (go_enter Tryz.func50,Tryz.ntmps50);go_wp2;go_ret;exact ⟨rfl,(Below.refl _ _).alloc (Nat.le_refl _) _⟩
    | true =>
     cases b5
     all_goals
      (go_enter Tryz.func50,Tryz.ntmps50);go_wp2;go_ret;exact ⟨rfl,(Below.refl _ _).alloc (Nat.le_refl _) _⟩
section
variable {P : Lib.PrintTabs} {own : Nat → Nat} {w0 : World} {sb db wb dm tb tm : Nat} {v : Value} {ps : List ByteArray} {qs : List Value} {d : Disk} {s : Server}
theorem Torn_s (w : World) (n : Int) (h : SrvW P own w0 w sb db wb dm tb tm v ps qs d s) :
 Calls Tryz.prog 49 #[.pointer (some ⟨sb,0,none⟩),.int .i64 n] w fun e w' => e = .returned (.tuple #[]) ∧ SrvW P own w0 w' sb db wb dm tb tm v ps qs d { s with torn:=n } ∧ Turn (fun g => g = sb) w w':=by
 have c5:=h.cellT 5 _ rfl
 have f5:=h.s_.frozen 33
 have H:=Hd h
 have HT : Hid (∀ x,Turn (fun g => g = sb) w (w.setCell ⟨sb,33,none⟩ x)):=Hd fun x => turn_set (Turn.refl _ _) 33 _
 clear h
 go_enter Tryz.func49,Tryz.ntmps49
 go_wp2
 go_end0
 exact ⟨rfl,H.out.setTorn _,HT.out _⟩
def valV (x : Val) : Value:=.agg #[.string ⟨x.data.toArray⟩,.int .i64 x.ver]
theorem value_results (tmps : Array Value) (W : World) (g : Nat) (cs : Array Value) (e : Value) (h2 : tmps.getD 4 undef = .pointer (some ⟨g,0,none⟩)) (h3 : tmps.getD 5 undef = e)
 (hg : Has W g (.cells cs 37)) (hs : cs.size = 2) : (results Tryz.f26 tmps).run Tryz.prog W = .ok (.tuple #[.agg cs,e]) W:=by
 rw [results_cell_tmp Tryz.results26,h2,h3];(have hi : (Tryz.prog.info? 37).map (·.size) = some cs.size:=by rw [hs];kernel_rfl);have:=run_loadVar_row (P:=Tryz.prog) W g 37 37 cs (0,0) _ hg Tryz.underlying37 rfl hi;simp [asAddr,Result.andThen,this]
theorem Value_yes (w : World) (o : Nat) (ho : o < 8) (h : SrvW P own w0 w sb db wb dm tb tm v ps qs d s) :
 Calls Tryz.prog 26 #[.pointer (some ⟨sb,0,none⟩),.int .i64 o] w fun e w' => e = .returned (.tuple #[valV (s.value o),.nilIface]) ∧ Below w.heap.size w w':=by
 have c0:=(h.cellV o ho).1;have c1:=(h.cellV o ho).2;have hlt:=h.s_.lt;(have ho8 : (o : Int) < 8:=by omega);have d8 : decide ((8 : Int) ≤ (o : Int)) = false:=decide_eq_false (by omega);clear h;unfold valV;(go_enter Tryz.func26,Tryz.ntmps26);go_wp2;have hg:=Has.new w (.cells #[.string ⟨(s.value o).data.toArray⟩,.int .i64 (s.value o).ver] 37);exact bodyPost_ret (value_results _ _ w.heap.size _ _ rfl rfl hg rfl) rfl ⟨rfl,(Below.refl _ _).alloc (Nat.le_refl _) _⟩
end
theorem MsgsAt.block {B : Nat} {w : World} {v : Value} {l : List Msg} (h : MsgsAt B w v l) : ∀ k,v.ownBlock = some k → B ≤ k:=by
 rcases h.2 with ⟨e,-⟩ | ⟨g,cap,cur,e,hb,-⟩
 ·intro k hk;rw [e] at hk;cases hk
 ·intro k hk;rw [e] at hk;cases hk;exact hb
theorem MsgsAt.keep {B : Nat} {w w' : World} {v : Value} {l : List Msg} {S : Nat → Prop} (h : MsgsAt B w v l) (ht : Turn S w w') (hs : ∀ g,v.ownBlock = some g → ¬ S g) : MsgsAt B w' v l:=
 owns_kept h fun g hg => ht.block g (h.lt g hg).2 (hs g hg)
theorem wpList_appendMsgs {o : Oper} {rest : List Oper} {ops : Array Oper} {a : Act} {w : World} {Q : Exit → Act → World → Prop} (hg : o.guard = none) (x y : Operand) {B B' : Nat} (hB : B ≤ w.heap.size) (v u : Value) (l n : List Msg) (ho : o.op = .call { callee:=.builtin .append,args:=#[x,y],argTypes:=#[79,79] }) (hx : a.eval x = v) (hy : a.eval y = u)
 (hl : MsgsAt B w v l) (hn : MsgsAt B' w u n) (hne : n ≠ []) (hln : l.length + n.length ≤ 1000000)
 (h : ∀ v' w',MsgsAt B w' v' (l ++ n) → w.grownBy w' v.ownBlock → (∀ g,v'.ownBlock = some g → v.ownBlock = some g ∨ g = w.heap.size) → wpList Tryz.prog ops Q rest (a.put o.dst v') w') : wpList Tryz.prog ops Q (o :: rest) a w:=
 wpList_plain hg fun _ hK => wp_appendMsgs x y hB v u l n ho hx hy hl hn hne hln _ rfl fun v' w' h1 h2 h3 => hK _ _ (h v' w' h1 h2 h3)
section
variable {P : Lib.PrintTabs} {own own1 own2 : Nat → Nat} {w0 w wr w' : World} {sb db wb dm tb tm : Nat} {v v2 : Value} {ps ps2 : List ByteArray} {qs qs2 : List Value} {d d2 : Disk} {s s2 : Server} {S : Nat → Prop}
structure GM (P : Lib.PrintTabs) (own own1 : Nat → Nat) (w0 w wr : World) (sb db wb dm tb tm : Nat) (v : Value) (ps : List ByteArray) (qs : List Value) (d : Disk) (s : Server) (q : Value) (out : List Msg) (uh : Value) (hs : List Int) : Prop where
 le0 : w0.heap.size ≤ w.heap.size
 ext : Ext w own own1
 srv : SrvW P own1 w0 wr sb db wb dm tb tm v ps qs d s
 msgs : MsgsAt w.heap.size wr q out
 om : ∀ g,q.ownBlock = some g → own1 g = 0
 box : Has wr w.heap.size (.cells #[.pointer (some ⟨sb,0,none⟩)] 61)
 ob : own1 w.heap.size = 0
 turn : Turn (SrvSet own) w wr
 row : wr.ownsRow w.heap.size 3 1 uh hs.length (hs.map (Value.int .i64))
 oh : ∀ g,uh.ownBlock = some g → own1 g = 0
 apart : ∀ g,q.ownBlock = some g → uh.ownBlock = some g → False
 qbox : q.ownBlock ≠ some w.heap.size
variable {q q' uh uh' : Value} {out : List Msg} {hs hs' : List Int}
theorem GM.bound (h : GM P own own1 w0 w wr sb db wb dm tb tm v ps qs d s q out uh hs) (hS : ∀ g,g < wr.heap.size → S g → SrvSet own1 g ∨ w.heap.size ≤ g) : ∀ k,k < w.heap.size → S k → SrvSet own k:=fun k hk hSk => by
 rcases hS k (Nat.lt_of_lt_of_le hk h.turn.size) hSk with h1 | h1
 ·unfold SrvSet at h1 ⊢;rwa [h.ext k hk] at h1
 ·omega
theorem GM.lth (h : GM P own own1 w0 w wr sb db wb dm tb tm v ps qs d s q out uh hs) : ∀ g,uh.ownBlock = some g → g < wr.heap.size:=fun g hg => by
 rcases h.row.2 with ⟨e,-⟩ | ⟨g',cap,cur,e,-,h2,-⟩
 ·rw [e] at hg;cases hg
 ·rw [e] at hg;cases hg;exact Has.lt (w:=wr) h2
theorem GM.step (h : GM P own own1 w0 w wr sb db wb dm tb tm v ps qs d s q out uh hs) (ht : Turn S wr w') (hS : ∀ g,g < wr.heap.size → S g → SrvSet own1 g) (he : Ext wr own1 own2) (hw : SrvW P own2 w0 w' sb db wb dm tb tm v2 ps2 qs2 d2 s2) : GM P own own2 w0 w w' sb db wb dm tb tm v2 ps2 qs2 d2 s2 q out uh hs:=by
 (have no : ∀ g,g < wr.heap.size → own1 g = 0 → ¬ S g:=fun g hg h0 hs => by have:=hS g hg hs;unfold SrvSet at this;omega);have hlm : ∀ g,q.ownBlock = some g → g < wr.heap.size:=fun g hg => (h.msgs.lt g hg).2;have hlh:=h.lth;exact ⟨h.le0,fun k hk => (he k (Nat.lt_of_lt_of_le hk h.turn.size)).trans (h.ext k hk),hw,h.msgs.keep ht fun g hg => no g (hlm g hg) (h.om g hg),fun g hg => (he g (hlm g hg)).trans (h.om g hg),ht.has h.box (no _ h.box.lt h.ob),(he _ h.box.lt).trans h.ob,h.turn.trans ht (h.bound fun g hg hs => .inl (hS g hg hs)),owns_kept h.row fun g hg => ht.block g (hlh g hg) (no g (hlh g hg) (h.oh g hg)),fun g hg => (he g (hlh g hg)).trans (h.oh g hg),h.apart,h.qbox⟩
theorem GM.below (h : GM P own own1 w0 w wr sb db wb dm tb tm v ps qs d s q out uh hs) (hb : Below wr.heap.size wr w') : GM P own own1 w0 w w' sb db wb dm tb tm v ps qs d s q out uh hs:=
 h.step (S:=fun _ => False) (Turn.of_below hb (Nat.le_refl _)) (fun _ _ h => h.elim) (Ext.refl _ _) (h.srv.below hb)
theorem GM.drew (h : GM P own own1 w0 w wr sb db wb dm tb tm v ps qs d s q out uh hs) : GM P own own1 w0 w wr.drew sb db wb dm tb tm v ps qs d s q out uh hs:=h.below (Below.refl _ _).drew
theorem GM.drewN (h : GM P own own1 w0 w wr sb db wb dm tb tm v ps qs d s q out uh hs) (n : Nat) : GM P own own1 w0 w (wr.drewN n) sb db wb dm tb tm v ps qs d s q out uh hs:=h.below (below_drewN (Below.refl _ _) n)
theorem GM.append {n : List Msg} (h : GM P own own1 w0 w wr sb db wb dm tb tm v ps qs d s q out uh hs) (hm : MsgsAt w.heap.size w' q' (out ++ n)) (hg : wr.grownBy w' q.ownBlock) (hq : ∀ g,q'.ownBlock = some g → q.ownBlock = some g ∨ g = wr.heap.size) : GM P own own1 w0 w w' sb db wb dm tb tm v ps qs d s q' (out ++ n) uh hs:=by
 have ht : Turn (fun g => q.ownBlock = some g) wr w':=⟨hg.os,hg.tape,hg.output,hg.size,fun k hk hn => hg.block k hk (fun e => hn e.symm)⟩;have hlh:=h.lth;have hbx:=h.box.lt;refine ⟨h.le0,h.ext,h.srv.own0 ht fun g _ hg => ⟨h.om g hg,Nat.le_trans h.le0 (h.msgs.block g hg)⟩,hm,fun g hg => ?_,ht.has h.box fun e => h.qbox e,h.ob,h.turn.trans ht fun k hk hk2 => ?_,owns_kept h.row fun g hg => ht.block g (hlh g hg) fun e => h.apart g e hg,h.oh,fun g h1 h2 => ?_,fun e => ?_⟩
 ·rcases hq g hg with h1 | h1
  ·exact h.om g h1
  ·exact h.srv.fr g (by omega)
 ·have:=h.msgs.block k hk2;omega
 ·have h3:=hlh g h2;rcases hq g h1 with h4 | h4
  ·exact h.apart g h4 h2
  ·omega
 ·rcases hq _ e with h4 | h4
  ·exact h.qbox h4
  ·omega
theorem GM.hold (h : GM P own own1 w0 w wr sb db wb dm tb tm v ps qs d s q out uh hs) (hb : Below wr.heap.size wr w') (hr : w'.ownsRow wr.heap.size 3 1 uh' hs'.length (hs'.map (Value.int .i64))) : GM P own own1 w0 w w' sb db wb dm tb tm v ps qs d s q out uh' hs':=by
 have h1:=h.below hb;have hge:=owns_ge hr
 exact ⟨h1.le0,h1.ext,h1.srv,h1.msgs,h1.om,h1.box,h1.ob,h1.turn,owns_base hr h.turn.size,fun g hg => h.srv.fr g (hge g hg),fun g h2 h3 => by
  have h4:=(h.msgs.lt g h2).2;have h5:=hge g h3
  omega,h1.qbox⟩
theorem GM.free (h : GM P own own1 w0 w wr sb db wb dm tb tm v ps qs d s q out uh hs) : GM P own own1 w0 w wr sb db wb dm tb tm v ps qs d s q out (.slice none 0 0) []:=
 ⟨h.le0,h.ext,h.srv,h.msgs,h.om,h.box,h.ob,h.turn,World.ownsRow_nil wr _ _ 1,fun g hg => (by cases hg),fun g _ hg => (by cases hg),h.qbox⟩
theorem GM.start (h : SrvW P own w0 w sb db wb dm tb tm v ps qs d s) : GM P own own w0 w (w.alloc (.cells #[.pointer (some ⟨sb,0,none⟩)] 61)) sb db wb dm tb tm v ps qs d s (.slice none 0 0) [] (.slice none 0 0) []:=by
 have hb:=(Below.refl w.heap.size w).alloc (Nat.le_refl _) (.cells #[.pointer (some ⟨sb,0,none⟩)] 61);exact ⟨h.le,Ext.refl _ _,h.below hb,MsgsAt.nil _ _,fun g hg => (by cases hg),Has.new w _,h.fr _ (Nat.le_refl _),Turn.of_below hb (Nat.le_refl _),World.ownsRow_nil _ _ _ 1,fun g hg => (by cases hg),fun g hg => (by cases hg),fun e => (by cases e)⟩
def AddS (P : Lib.PrintTabs) (own : Nat → Nat) (w0 w : World) (sb db wb dm tb tm : Nat) (qs : List Value) (d : Disk) (s : Server) (r : Rec) (w' : World) : Prop:=
 ∃ own2 v2 ps2,Ext w own own2 ∧ Turn (fun g => g = wb ∨ g = db ∨ own g = 2) w w' ∧ SrvW P own2 w0 w' sb db wb dm tb tm v2 ps2 qs (d.add s.down r).2.1 { s with down:=(d.add s.down r).2.2 }
theorem add_recs (d : Disk) (down : Bool) (r : Rec) : ∀ x ∈ (d.add down r).2.1.recs,x ∈ d.recs ∨ x = r:=by
 intro x hx;unfold Disk.add at hx;split at hx
 ·exact .inl hx
 ·split at hx
  ·exact .inl hx
  ·split at hx
   ·exact .inl hx
   ·split at hx
    ·exact .inl hx
    ·rcases List.mem_append.1 hx with h | h
     ·exact .inl h
     ·exact .inr (List.mem_singleton.1 h)
theorem Add_s (w : World) (r : Rec) (torn : Int) (hr : r.data.length ≤ 20) (hc : 0 ≤ r.client ∧ r.client < 4) (h : SrvW P own w0 w sb db wb dm tb tm v ps qs d s) (hd : s.down = false) :
 Calls Tryz.prog 55 #[.pointer (some ⟨wb,0,none⟩),recV r,.int .i64 torn] w fun e w' => e = .returned (errV (d.add s.down r).1) ∧ AddS P own w0 w sb db wb dm tb tm qs d s r w':=by
 have hw:=h.wal;rw [hd] at hw;(have hne : wb ≠ db:=fun e => by have h1:=h.wal.ow;rw [e,h.odb] at h1;cases h1);unfold AddS;rw [hd];refine (Add_up P own 2 w0.heap.size w wb db v ps d r (by omega) torn h.kit hw h.dsk h.pls (by rw [h.odb];decide) hne).mono ?_;rintro e w' ⟨rfl,own1,v2,ps2,he,ht,hw2,hd2,hp2⟩;refine ⟨rfl,cutOwn own1 w',v2,ps2,cut_ext he ht.size,ht,?_⟩;have hcx:=cut_ext he ht.size
 have ne : ∀ g k,own g = k → k ≠ 1 → k ≠ 2 → k ≠ 3 → ¬ (g = wb ∨ g = db ∨ own g = 2):=fun g k hk h1 h2 h3 e => by
  rcases e with e | e | e
  ·rw [e,h.wal.ow] at hk;exact h3 hk.symm
  ·rw [e,h.odb] at hk;exact h1 hk.symm
  ·rw [e] at hk;exact h2 hk.symm
 have hlow : ∀ g,SrvSet (cutOwn own1 w') g → w0.heap.size ≤ g:=fun g hg => by
  rcases Nat.lt_or_ge g w.heap.size with hg' | hg'
  ·unfold SrvSet at hg;rw [hcx g hg'] at hg;exact h.low g hg
  ·exact Nat.le_trans h.le hg'
 have hwl:=h.wal.w_.lt;refine ⟨h.kit0,h.hdl0,h.bel.trans (ht.to_below h.le fun k hk e => ?_),hlow,cut_fresh _ _,⟨hw2.w_,⟨hw2.row.1,fun g hg => ?_⟩,by rw [hcx _ hwl];exact h.wal.ow,fun g hg => hlow g ⟨by omega,by omega⟩,hw2.lw⟩,hd2,hp2,by rw [hcx _ h.dsk.lt];exact h.odb,ht.has h.s_ (ne _ 4 h.osb (by decide) (by decide) (by decide)),by rw [hcx _ h.s_.lt];exact h.osb,⟨h.nv,h.nq,h.ok.qc,h.ok.dk,fun x hx => ?_,h.ok.ql⟩,h.lq,fun o ho => (h.queue o ho).keep ht hcx fun k _ hk => ne k (10 + o) hk (by omega) (by omega) (by omega),h.done.turn ht (ne _ 5 h.odm (by decide) (by decide) (by decide)),by rw [hcx _ h.done.lt];exact h.odm,h.table.turn ht (ne _ 6 h.otb (by decide) (by decide) (by decide)) (ne _ 7 h.otm (by decide) (by decide) (by decide)),by rw [hcx _ h.table.lt.1];exact h.otb,by rw [hcx _ h.table.lt.2];exact h.otm⟩
 ·rcases e with e | e | e
  ·have:=h.low wb ⟨by rw [h.wal.ow];decide,by rw [h.wal.ow];decide⟩;omega
  ·have:=h.low db ⟨by rw [h.odb];decide,by rw [h.odb];decide⟩;omega
  ·have:=h.low k ⟨by omega,by omega⟩;omega
 ·rw [cut_old (hw2.row.lt g hg)];exact hw2.row.2 g hg
 ·rcases add_recs d false r x hx with h1 | rfl
  ·exact h.ok.rc x h1
  ·exact hc
theorem Tell_s (n : Int) (w : World) (hg : Handle w) : Calls Tryz.prog 117 #[errV n] w fun e w' => e = .returned (.int .i64 n) ∧ Below w.heap.size w w':=by
 by_cases h : n = 0
 ·rw [h,errV_zero];refine (tell_nil w).mono ?_;rintro e w' ⟨rfl,rfl⟩;exact ⟨rfl,Below.refl _ _⟩
 ·rw [errV_of h];exact tell_errno n w hg
theorem Flush_s (w : World) (c : Int) (h : SrvW P own w0 w sb db wb dm tb tm v ps qs d s) :
 Calls Tryz.prog 116 #[.pointer (some ⟨tb,0,none⟩),.int .i64 c] w fun e w' => ∃ u,e = .returned u ∧ SrvW P own w0 w' sb db wb dm tb tm v ps qs d { s with table:=(s.table.flush c).2 } ∧ Turn (fun g => g = tb ∨ g = tm) w w':=by
 refine (Flush_m c h.table).mono ?_;rintro e w' ⟨rfl,hT,ht⟩;exact ⟨_,rfl,h.setTable ht _ hT,ht⟩
theorem SrvW.setT (h : SrvW P own w0 w sb db wb dm tb tm v ps qs d s) : ∀ g,g < w.heap.size → (g = tb ∨ g = tm) → SrvSet own g:=fun g _ e => by
 unfold SrvSet;rcases e with rfl | rfl
 ·rw [h.otb];decide
 ·rw [h.otm];decide
theorem SrvW.setD (h : SrvW P own w0 w sb db wb dm tb tm v ps qs d s) : ∀ g,g < w.heap.size → (g = sb ∨ g = dm) → SrvSet own g:=fun g _ e => by
 unfold SrvSet;rcases e with rfl | rfl
 ·rw [h.osb];decide
 ·rw [h.odm];decide
theorem SrvW.setA (h : SrvW P own w0 w sb db wb dm tb tm v ps qs d s) : ∀ g,g < w.heap.size → (g = wb ∨ g = db ∨ own g = 2) → SrvSet own g:=fun g _ e => by
 unfold SrvSet;rcases e with rfl | rfl | e
 ·rw [h.wal.ow];decide
 ·rw [h.odb];decide
 ·rw [e];decide
theorem holders_few (t : Table) (o now : Int) : (t.holders o now).length ≤ 4:=by
 unfold Table.holders;exact Nat.le_trans (List.length_filter_le _ _) (by decide)
end
section
variable {P : Lib.PrintTabs} {own : Nat → Nat} {w0 : World} {sb db wb dm tb tm : Nat} {v : Value} {ps : List ByteArray} {qs : List Value} {d : Disk} {s : Server}
theorem eight {qs : List Value} (h : qs.length = 8) : ∃ a b c d e f g i,qs = [a,b,c,d,e,f,g,i]:=by
 match qs,h with
 | [a,b,c,d,e,f,g,i],_ => exact ⟨a,b,c,d,e,f,g,i,rfl⟩
theorem run_index8 (q0 q1 q2 q3 q4 q5 q6 q7 : Value) (w : World) : ∀ (k : Nat),k < 8 → (Instr.index 101 (.agg #[q0,q1,q2,q3,q4,q5,q6,q7]) (.int .i64 k)).run Tryz.prog w = .ok ([q0,q1,q2,q3,q4,q5,q6,q7].getD k undef) w
 | 0,_ => by kernel_rfl
 | 1,_ => by kernel_rfl
 | 2,_ => by kernel_rfl
 | 3,_ => by kernel_rfl
 | 4,_ => by kernel_rfl
 | 5,_ => by kernel_rfl
 | 6,_ => by kernel_rfl
 | 7,_ => by kernel_rfl
set_option maxHeartbeats 2000000 in
set_option maxRecDepth 100000 in
theorem renews_s (w : World) (m : Msg) (hmc : 0 ≤ m.client ∧ m.client < 4) (h : SrvW P own w0 w sb db wb dm tb tm v ps qs d s) :
 Calls Tryz.prog 73 #[.pointer (some ⟨sb,0,none⟩),m.val] w fun e w' => ∃ u,e = .returned u ∧ MsgsAt w.heap.size w' u (s.renews m).1 ∧ SrvW P own w0 w' sb db wb dm tb tm v ps qs d (s.renews m).2 ∧ Turn (fun g => g = tb ∨ g = tm) w w':=by
 obtain ⟨mk,mc,mn,me,ms,mo,mv,ml,md⟩:=m;dsimp only at hmc;obtain ⟨W1,hW1⟩ : ∃ W1,W1 = w.alloc (.cells (msgCells mk mc mn me ms mo mv ml ⟨md.toArray⟩) 93):=⟨_,rfl⟩;(have hb1 : Below w.heap.size w W1:=by rw [hW1];exact (Below.refl _ _).alloc (Nat.le_refl _) _);have HX1 : Hid (Has W1 w.heap.size (.cells (msgCells mk mc mn me ms mo mv ml ⟨md.toArray⟩) 93)):=Hd (by rw [hW1];exact Has.new w _);have H:=Hd h;have H1:=Hd (h.below hb1);have HB1:=Hd hb1;have HKN:=Hd (knows_s W1 ⟨mk,mc,mn,me,ms,mo,mv,ml,md⟩ H1.out);unfold Msg.val at HKN ⊢;dsimp only at HKN ⊢;clear h hb1
 cases hkn : s.knows ⟨mk,mc,mn,me,ms,mo,mv,ml,md⟩ with
 | false =>
  as_aux_lemma =>
   rw [hkn] at HKN;have HRE : Hid (s.renews ⟨mk,mc,mn,me,ms,mo,mv,ml,md⟩ = ([s.flushMsg mc],s)):=Hd (by unfold Server.renews;rw [hkn];rfl);(go_enter Tryz.func73,Tryz.ntmps73);(go_upto_region 1 with fail);rw [← hW1];clear hW1
   go_wp2_with (first
    | (refine wpList_load_row rfl 93 (.tmp 3) rfl w.heap.size rfl 93 _ (0,0) _ HX1.out Tryz.underlying93 rfl (by kernel_rfl) ?_)
    | (go_at_call 91;refine HKN.out.mono ?_;rintro e W2 ⟨rfl,hb2⟩;have H2:=Hd (H1.out.below hb2);have HB2:=Hd (HB1.out.trans (hb2.mono HB1.out.size));have z1 : W2.cell? ⟨w.heap.size,1,none⟩ = some (.int .i64 mc):=(HX1.out.below hb2 HX1.out.lt).cell 1)
    | (go_at_call 92;refine (flush_s _ mc H2.out).mono ?_;rintro e W3 ⟨rfl,hb3⟩)
    | (refine wpList_build1 rfl (.tmp 17) (s.flushMsg mc) rfl rfl ?_))
   go_ret;rw [HRE.out];have hbz:=hb3.alloc hb3.size (.cells (([s.flushMsg mc] : List Msg).flatMap msgRow).toArray 93);exact ⟨_,rfl,(MsgsAt.new (w:=W3) (l:=[s.flushMsg mc]) (by simp)).base (by have:=HB2.out.size;have:=hb3.size;omega),H2.out.below hbz,Turn.of_below (HB2.out.trans (hbz.mono HB2.out.size)) (Nat.le_refl _)⟩
 | true =>
  rw [hkn] at HKN;(go_enter Tryz.func73,Tryz.ntmps73);(go_upto_region 1 with fail);rw [← hW1];clear hW1;obtain ⟨q0,q1,q2,q3,q4,q5,q6,q7,hqs⟩:=eight H1.out.lq;subst hqs
  go_wp2_with (first
   | (refine wpList_load_row rfl 93 (.tmp 3) rfl w.heap.size rfl 93 _ (0,0) _ HX1.out Tryz.underlying93 rfl (by kernel_rfl) ?_)
   | (go_at_call 91;refine HKN.out.mono ?_;rintro e W2 ⟨rfl,hb2⟩;have H2:=Hd (H1.out.below hb2);have a0 : W2.cell? ⟨sb,20,none⟩ = some q0:=H2.out.cellQ 0 (by decide);have a1 : W2.cell? ⟨sb,21,none⟩ = some q1:=H2.out.cellQ 1 (by decide);have a2 : W2.cell? ⟨sb,22,none⟩ = some q2:=H2.out.cellQ 2 (by decide);have a3 : W2.cell? ⟨sb,23,none⟩ = some q3:=H2.out.cellQ 3 (by decide);have a4 : W2.cell? ⟨sb,24,none⟩ = some q4:=H2.out.cellQ 4 (by decide);have a5 : W2.cell? ⟨sb,25,none⟩ = some q5:=H2.out.cellQ 5 (by decide);have a6 : W2.cell? ⟨sb,26,none⟩ = some q6:=H2.out.cellQ 6 (by decide);have a7 : W2.cell? ⟨sb,27,none⟩ = some q7:=H2.out.cellQ 7 (by decide)))
  have HB2:=Hd (HB1.out.trans (hb2.mono HB1.out.size));have HX2:=Hd (HX1.out.below hb2 HX1.out.lt);clear a0 a1 a2 a3 a4 a5 a6 a7 hb2 HX1 H1 HB1 HKN;(go_loopw [23,5,6,7] (fun q23 q5 _ _ wr => ∃ k : Nat,k ≤ 8 ∧ q23 = .int .i64 k ∧ MsgsAt W2.heap.size wr q5 (((List.range k).filter fun j => !(s.queue j).isEmpty && (s.table.holders j s.now).contains mc).map fun j => s.inval mc j) ∧ Below W2.heap.size W2 wr) (fun q23 _ _ _ _ => 8 - (intOf q23).toNat));case atStart => exact ⟨0,by omega,rfl,MsgsAt.nil _ _,Below.refl _ _⟩
  case round =>
   obtain ⟨k,hk,rfl,hM,hb⟩:=hrel;have HM:=Hd hM;have HB:=Hd hb;clear hM hb;by_cases hk8 : k < 8
   ·(have hki : (k : Int) < 8:=by omega);have hix:=run_index8 q0 q1 q2 q3 q4 q5 q6 q7 wr k hk8;obtain ⟨qa,qc,hq,-,-⟩:=(H2.out.queue k hk8).slice;rw [hq] at hix
    have HF : Hid (((List.range (k + 1)).filter fun j => !(s.queue j).isEmpty && (s.table.holders j s.now).contains mc).map (fun j => s.inval mc j) = (((List.range k).filter fun j => !(s.queue j).isEmpty && (s.table.holders j s.now).contains mc).map fun j => s.inval mc j) ++ if !(s.queue k).isEmpty && (s.table.holders k s.now).contains mc then [s.inval mc k] else []):=Hd (by
     rw [List.range_succ,List.filter_append,List.map_append];congr 1;simp only [List.filter_cons,List.filter_nil]
     split <;> rfl)
    go_upto_region 7 with fail
    cases hqe : (s.queue k).isEmpty with
    | true =>
     (have e0 : decide ((0 : Int) < ((s.queue k).length : Int)) = false:=by rw [List.isEmpty_iff.1 hqe];rfl);rw [hqe] at HF
     as_aux_lemma =>
      (have e00 : ((s.queue k).length : Int) = 0:=by rw [List.isEmpty_iff.1 hqe];rfl);clear hix hq hqe;(go_quiet (fail));(go_wp2_with fail);go_roundw
      case rel =>
       refine ⟨k + 1,by omega,by go_num,?_,below_drewN HB.out nq⟩;rw [HF.out];simp only [Bool.not_true,Bool.false_and,Bool.false_eq_true,if_false,List.append_nil];exact HM.out.below (below_drewN (Below.refl _ _) nq)
      case measure => simp [intOf];omega
    | false =>
     have e0 : (0 : Int) < ((s.queue k).length : Int):=by
      (have : (s.queue k).length ≠ 0:=fun e => by rw [List.eq_nil_of_length_eq_zero e] at hqe;cases hqe);omega
     obtain ⟨n,hn⟩ : ∃ n,n = (s.queue k).length:=⟨_,rfl⟩;rw [← hn] at e0 ⊢;clear hn;have e0' : decide ((0 : Int) < (n : Int)) = true:=decide_eq_true e0;rw [hqe] at HF;have hr:=H2.out.below HB.out;have c29 : wr.cell? ⟨sb,29,none⟩ = some (.pointer (some ⟨tb,0,none⟩)):=hr.cellT 1 _ rfl;have c32 : wr.cell? ⟨sb,32,none⟩ = some (.int .i64 s.now):=hr.cellT 4 _ rfl;have hxr:=HX2.out.below HB.out HX2.out.lt;have z1 : wr.cell? ⟨w.heap.size,1,none⟩ = some (.int .i64 mc):=hxr.cell 1;have hlt : sb < wr.heap.size:=hr.s_.lt;have hxl : w.heap.size < wr.heap.size:=hxr.lt;have HH:=Hd (Holders_m k s.now hr.table.drew);have HR:=Hd hr;obtain ⟨hs,hhs⟩ : ∃ hs,hs = s.table.holders k s.now:=⟨_,rfl⟩;(have hhl : hs.length ≤ 1000:=by rw [hhs];exact Nat.le_trans (List.length_filter_le _ _) (by decide));rw [← hhs] at HH HF;obtain ⟨cc,hcc⟩ : ∃ cc,cc = hs.contains mc:=⟨_,rfl⟩;rw [← hcc] at HF;have HCC:=Hd hcc;clear hix hq hqe hr hxr hhs hcc;(have en : 0 < n:=by omega);refine last.headH (fun W => W.cell? ⟨sb,29,none⟩ = some (.pointer (some ⟨tb,0,none⟩)) ∧ W.cell? ⟨sb,32,none⟩ = some (.int .i64 s.now) ∧ W.cell? ⟨w.heap.size,1,none⟩ = some (.int .i64 mc)) 1000 18 ⟨c29,c32,z1⟩ fun HS => ?_;refine last.many [(0,27,_),(1,28,_),(2,29,_),(3,30,_),(4,31,_),(5,32,_),(6,33,_),(7,34,_),(8,35,_),(9,36,_),(10,37,_),(11,38,_),(12,39,_),(14,41,_),(15,42,_)] HS.out ?_ (hy:=fun W' hW' => by have e9:=en;have e1:=hW'.1;have f0:=hW'.2.1;have f1:=hW'.2.2;repeat (first | exact .z | refine .s ?_ | refine .k ?_));refine last.one 13 fun K hK => ?_;go_simp;refine HH.out.mono ?_;rintro e w5 ⟨uh,rfl,huh,hbh⟩;have HS5 : Hid ((fun W => W.cell? ⟨sb,29,none⟩ = some (.pointer (some ⟨tb,0,none⟩)) ∧ W.cell? ⟨sb,32,none⟩ = some (.int .i64 s.now) ∧ W.cell? ⟨w.heap.size,1,none⟩ = some (.int .i64 mc)) w5):=Hd ⟨(hbh.cell (p:=⟨sb,29,none⟩) hlt).trans HS.out.1,(hbh.cell (p:=⟨sb,32,none⟩) hlt).trans HS.out.2.1,(hbh.cell (p:=⟨w.heap.size,1,none⟩) hxl).trans HS.out.2.2⟩;refine hK.out _ _ (fun _ => HS5.out) ?_;clear hK K HS;refine last.one 16 fun K hK => ?_;go_simp;refine (contains_n _ _ _ hs hhl mc huh).mono ?_;rw [← HCC.out];rintro e w6 ⟨rfl,rfl⟩;refine hK.out _ _ (fun _ => HS5.out) ?_;clear hK K;refine last.many [(17,44,_)] HS5.out ?_;refine last.done ?_;have HR5:=Hd ((HR.out.below (Below.refl _ _).drew).below hbh);have HB5:=Hd (HB.out.drew.trans (hbh.mono HB.out.size));have HM5:=Hd ((HM.out.below (Below.refl _ wr).drew).below hbh);have z5 : w5.cell? ⟨w.heap.size,1,none⟩ = some (.int .i64 mc):=HS5.out.2.2;clear HR HB HM HH HCC hbh c29 c32 z1 HS5 huh hhl
     cases cc with
     | false =>
      as_aux_lemma =>
       (go_wp2_with fail);go_roundw
       case rel =>
        refine ⟨k + 1,by omega,by go_num,?_,HB5.out⟩;rw [HF.out];simp only [Bool.and_false,Bool.false_eq_true,if_false,List.append_nil];exact HM5.out
       case measure => simp [intOf];omega
     | true =>
      have hll : (((List.range k).filter fun j => !(s.queue j).isEmpty && (s.table.holders j s.now).contains mc).map fun j => s.inval mc j).length ≤ 8:=by
       rw [List.length_map];exact Nat.le_trans (List.length_filter_le _ _) (by rw [List.length_range];omega)
      have HLL:=Hd hll;clear hll
      go_wp2_with (first
       | (go_at_call 99;refine (inval_s _ mc k hk8 HR5.out).mono ?_;rintro e w6 ⟨rfl,hb6⟩)
       | (refine wpList_build1 rfl (.tmp 50) (s.inval mc k) rfl rfl ?_;have HB6:=Hd (HB5.out.trans (hb6.mono HB5.out.size));have HB7:=Hd (HB6.out.alloc HB6.out.size (.cells (([s.inval mc k] : List Msg).flatMap msgRow).toArray 93));have HM7:=Hd (HM5.out.below (hb6.alloc hb6.size (.cells (([s.inval mc k] : List Msg).flatMap msgRow).toArray 93)));have HN7:=Hd (MsgsAt.new (w:=w6) (l:=[s.inval mc k]) (by simp));obtain ⟨w7,hw7⟩ : ∃ w7,w7 = w6.alloc (.cells (([s.inval mc k] : List Msg).flatMap msgRow).toArray 93):=⟨_,rfl⟩;rw [← hw7] at HB7 HM7 HN7 ⊢;clear hw7)
       | (refine wpList_appendMsgs rfl (.tmp 45) (.tmp 51) HB7.out.size u5 (.slice (some ⟨w6.heap.size,0,none⟩) 1 1) _ [s.inval mc k] rfl rfl rfl HM7.out HN7.out (by simp) (Nat.le_trans (Nat.add_le_add HLL.out (Nat.le_refl 1)) (by decide)) fun v' w8 hm8 hg8 _ => ?_;have HM8:=Hd hm8;have HB8:=Hd (HB7.out.grown hg8 HB7.out.size (MsgsAt.block HM7.out));clear hm8 hg8))
      go_roundw
      case rel =>
       refine ⟨k + 1,by omega,by go_num,?_,HB8.out⟩;rw [HF.out];simp only [Bool.not_false,Bool.and_self,if_true];exact HM8.out
      case measure => simp [intOf];omega
   ·(obtain rfl : k = 8:=by omega);have HR:=Hd (H2.out.below HB.out);have HBw:=Hd (HB2.out.trans (HB.out.mono HB2.out.size));have HXr:=Hd (HX2.out.below HB.out HX2.out.lt);obtain ⟨L,hL⟩ : ∃ L,L = (((List.range 8).filter fun j => !(s.queue j).isEmpty && (s.table.holders j s.now).contains mc).map fun j => s.inval mc j):=⟨_,rfl⟩
    have HRE : Hid (s.renews ⟨mk,mc,mn,me,ms,mo,mv,ml,md⟩ = if !L.isEmpty then (L,s) else ([(({ s with table:=(s.table.volume mc (model.addT s.now s.terms.volume)).2 } : Server)).stamp { model.noMsg with kind:=7,client:=mc,number:=mn }],{ s with table:=(s.table.volume mc (model.addT s.now s.terms.volume)).2 })):=Hd (by
     unfold Server.renews;rw [hkn,hL]
     rfl)
    rw [← hL] at HM;clear hL
    obtain ⟨ua,uc,hu⟩ : ∃ a c,u5 = .slice a L.length c:=by
     rcases HM.out.2 with ⟨e,h0⟩ | ⟨g,cap,cur,e,-⟩
     ·exact ⟨none,0,by rw [e,h0]⟩
     ·exact ⟨_,_,e⟩
    cases hl : L.isEmpty with
    | false =>
     have e0 : 0 < L.length:=by
      (have : L.length ≠ 0:=fun e => by rw [List.eq_nil_of_length_eq_zero e] at hl;cases hl);omega
     have e1 : decide ((0 : Int) < (L.length : Int)) = true:=decide_eq_true (by omega);rw [hl] at HRE;subst hu
     as_aux_lemma =>
      (go_wp2_with fail);go_ret;rw [HRE.out];exact ⟨_,rfl,HM.out.base HB2.out.size,HR.out,Turn.of_below HBw.out (Nat.le_refl _)⟩
    | true =>
     (have e0 : L.length = 0:=by rw [List.isEmpty_iff.1 hl];rfl);rw [hl] at HRE;rw [e0] at hu;subst hu;clear HM hl e0;obtain ⟨tu,htu⟩ : ∃ tu,tu = model.addT s.now s.terms.volume:=⟨_,rfl⟩;(have HADD : Hid (∀ W,Calls Tryz.prog 93 #[.int .i64 s.now,.int .i64 s.terms.volume] W fun e w' => ∃ ev,e = .returned (.tuple #[.int .i64 tu,ev]) ∧ W = w'):=Hd fun W => by rw [htu];exact Add_t _ _ W);rw [← htu] at HRE;clear htu;have c32 : wr.cell? ⟨sb,32,none⟩ = some (.int .i64 s.now):=HR.out.cellT 4 _ rfl;have c1 : wr.cell? ⟨sb,1,none⟩ = some (.int .i64 s.terms.volume):=HR.out.cell0 1 _ rfl;(go_wp2_with fail);(go_region_held3 (fun W => W.cell? ⟨sb,32,none⟩ = some (.int .i64 s.now) ∧ W.cell? ⟨sb,1,none⟩ = some (.int .i64 s.terms.volume)) (go_keep) ((go_at_call 93;refine (HADD.out _).mono ?_;rintro e w' ⟨ev,rfl,rfl⟩)));(go_wp2_with fail);obtain ⟨W7,hW7⟩ : ∃ W7,W7 = wr.drew:=⟨_,rfl⟩;have HX7 : Hid (Has W7 w.heap.size (.cells (msgCells mk mc mn me ms mo mv ml ⟨md.toArray⟩) 93)):=Hd (by rw [hW7];exact HXr.out.drew);have H7 : Hid (SrvW P own w0 W7 sb db wb dm tb tm v ps [q0,q1,q2,q3,q4,q5,q6,q7] d s):=Hd (by rw [hW7];exact HR.out.below (Below.refl _ _).drew);have HB7 : Hid (Below w.heap.size w W7):=Hd (by rw [hW7];exact HBw.out.drew);rw [← hW7];clear hW7 HXr HR HBw HB HB2 HX2 H2 c32 c1 HADD;have c29 : W7.cell? ⟨sb,29,none⟩ = some (.pointer (some ⟨tb,0,none⟩)):=H7.out.cellT 1 _ rfl;have z1 : W7.cell? ⟨w.heap.size,1,none⟩ = some (.int .i64 mc):=HX7.out.cell 1;have hwt : tb < w.heap.size ∧ tm < w.heap.size:=H.out.table.lt;(have n2 : ¬ (w.heap.size = tb ∨ w.heap.size = tm):=by omega);obtain ⟨T',hT'⟩ : ∃ T' : Int × Table,T' = s.table.volume mc tu:=⟨_,rfl⟩;have HVO:=Hd (Volume_m mc tu H7.out.table.drew);rw [← hT'] at HRE HVO;obtain ⟨ev,hev⟩ : ∃ ev,ev = errV T'.1:=⟨_,rfl⟩;rw [← hev] at HVO;clear hT' hev;have hlt7 : sb < W7.heap.size:=H7.out.s_.lt;have hw7 : w.heap.size < W7.heap.size:=HX7.out.lt;have hnt : sb ≠ tb ∧ sb ≠ tm:=⟨fun e => (by have h1:=H7.out.osb;rw [e,H7.out.otb] at h1;cases h1),fun e => (by have h1:=H7.out.osb;rw [e,H7.out.otm] at h1;cases h1)⟩;have n1 : ¬ (sb = tb ∨ sb = tm):=fun e => e.elim hnt.1 hnt.2;(go_region_held3 (fun W => W.cell? ⟨sb,29,none⟩ = some (.pointer (some ⟨tb,0,none⟩)) ∧ W.cell? ⟨w.heap.size,1,none⟩ = some (.int .i64 mc)) (first | go_keep | exact ⟨(ht.cell (p:=⟨sb,29,none⟩) hlt7 n1).trans c29,(ht.cell (p:=⟨w.heap.size,1,none⟩) hw7 n2).trans z1⟩) ((go_at_call 100;refine HVO.out.mono ?_;rintro e W8 ⟨rfl,hT8,ht⟩)));have h8:=(H7.out.below (Below.refl _ _).drew).setTable ht T'.2 hT8;have ht8 : Turn (fun g => g = tb ∨ g = tm) w W8:=(Turn.of_below HB7.out (Nat.le_refl _)).drew.trans ht (fun _ _ h => h);have hx8:=ht.has HX7.out.drew n2;have H8:=Hd h8;have HT8:=Hd ht8;have z1' : W8.cell? ⟨w.heap.size,1,none⟩ = some (.int .i64 mc):=hx8.cell 1;have z2' : W8.cell? ⟨w.heap.size,2,none⟩ = some (.int .i64 mn):=hx8.cell 2;clear h8 ht8 hx8 hT8 ht HVO c29 z1;obtain ⟨sm,hsm⟩ : ∃ sm,sm = ({ s with table:=T'.2 } : Server).stamp { model.noMsg with kind:=7,client:=mc,number:=mn }:=⟨_,rfl⟩;have HST : Hid (Calls Tryz.prog 90 #[.pointer (some ⟨sb,0,none⟩),.agg #[.int .i64 7,.int .i64 mc,.int .i64 mn,.int .i64 0,.int .i64 0,.int .i64 0,.int .i64 0,.bool false,.string ⟨#[]⟩]] W8 fun e w' => e = .returned sm.val ∧ Below W8.heap.size W8 w'):=Hd (by rw [hsm];exact stamp_s W8 { model.noMsg with kind:=7,client:=mc,number:=mn } H8.out);have HRE2 : Hid (s.renews ⟨mk,mc,mn,me,ms,mo,mv,ml,md⟩ = ([sm],{ s with table:=T'.2 })):=Hd (by rw [HRE.out,hsm];rfl);clear hsm HRE
     go_wp2_with (first
      | (refine HST.out.mono ?_;rintro e w9 ⟨rfl,hb9⟩)
      | (refine wpList_build1 rfl (.tmp 85) sm rfl rfl ?_))
     go_ret;rw [HRE2.out];have hbz:=hb9.alloc hb9.size (.cells (([sm] : List Msg).flatMap msgRow).toArray 93);exact ⟨_,rfl,(MsgsAt.new (w:=w9) (l:=[sm]) (by simp)).base (by have:=HT8.out.size;have:=hb9.size;omega),H8.out.below hbz,HT8.out.then_below hbz (Nat.le_refl _)⟩
end
theorem goes_empty {n : Nat} {d : Disk} {s : Server} {o : Nat} {out : List Msg} (hq : s.queue o = []) : Server.goesF (n + 1) d s o out = (out,d,s):=by
 rw [Server.goesF,hq]
theorem goes_down {n : Nat} {d : Disk} {s : Server} {o : Nat} {out : List Msg} (hd : s.down = true) : Server.goesF (n + 1) d s o out = (out,d,s):=by
 rw [Server.goesF]
 cases s.queue o with
 | nil => rfl
 | cons x l => simp only [hd,if_true]
theorem goes_round {n : Nat} {d : Disk} {s : Server} {o : Nat} {out : List Msg} {x : Wr} {rest : List Wr} (hq : s.queue o = x :: rest) (hd : s.down = false) :
 Server.goesF (n + 1) d s o out = if (s.goOne d o x rest out).1 then Server.goesF n (s.goOne d o x rest out).2.2.1 (s.goOne d o x rest out).2.2.2 o (s.goOne d o x rest out).2.1 else (s.goOne d o x rest out).2:=by
 rw [Server.goesF,hq];simp only [hd,Bool.false_eq_true,if_false]
def begins (s : Server) (o : Nat) (x : Wr) (rest : List Wr) : Server:={ s with queues:=s.queues.set o ({ x with begun:=true } :: rest) }
def told (s : Server) (o : Nat) (x : Wr) (out : List Msg) : List Msg:=if x.begun then out else out ++ (s.table.holders o s.now).map fun c => s.inval c o
def recOf (s : Server) (o : Nat) (x : Wr) : Rec:=⟨x.client,x.number,o,wrap64 ((s.value o).ver + 1),x.data,0⟩
theorem goOne_waits {d : Disk} {s : Server} {o : Nat} {x : Wr} {rest : List Wr} {out : List Msg} (h : (decide (s.now < s.quiet) || (s.table.holders o s.now).any fun c => s.table.leans c s.now) = true) :
 s.goOne d o x rest out = (false,told s o x out,d,begins s o x rest):=by
 unfold Server.goOne;dsimp only;rw [if_pos h];rfl
theorem goOne_goes {d : Disk} {s : Server} {o : Nat} {x : Wr} {rest : List Wr} {out : List Msg} (h : (decide (s.now < s.quiet) || (s.table.holders o s.now).any fun c => s.table.leans c s.now) = false) :
 s.goOne d o x rest out = Server.store d { begins s o x rest with table:=model.flushAll s.table (s.table.holders o s.now) } o x rest (told s o x out):=by
 unfold Server.goOne;dsimp only;rw [if_neg (by rw [h];decide)];rfl
theorem store_dev {d : Disk} {s : Server} {o : Nat} {x : Wr} {rest : List Wr} {out : List Msg} (h : (d.add s.down (recOf s o x)).1 = 14) :
 Server.store d s o x rest out = (false,[],(d.add s.down (recOf s o x)).2.1,{ s with down:=(d.add s.down (recOf s o x)).2.2 }):=by
 unfold recOf at h ⊢;unfold Server.store;dsimp only at h ⊢;rw [if_pos h]
theorem store_goes {d : Disk} {s : Server} {o : Nat} {x : Wr} {rest : List Wr} {out : List Msg} (h : (d.add s.down (recOf s o x)).1 ≠ 14) :
 Server.store d s o x rest out = (true,out ++ [(Server.answer { s with down:=(d.add s.down (recOf s o x)).2.2 } (d.add s.down (recOf s o x)).1 (recOf s o x)).1.stamp (Server.answer { s with down:=(d.add s.down (recOf s o x)).2.2 } (d.add s.down (recOf s o x)).1 (recOf s o x)).2],(d.add s.down (recOf s o x)).2.1,
  { (Server.answer { s with down:=(d.add s.down (recOf s o x)).2.2 } (d.add s.down (recOf s o x)).1 (recOf s o x)).1 with queues:=(Server.answer { s with down:=(d.add s.down (recOf s o x)).2.2 } (d.add s.down (recOf s o x)).1 (recOf s o x)).1.queues.set o rest }):=by
 unfold recOf at h ⊢;unfold Server.store;dsimp only at h ⊢;rw [if_neg h]
theorem begins_same {s : Server} {o : Nat} {x : Wr} {rest : List Wr} (ho : o < s.queues.length) (hq : s.queue o = x :: rest) (hb : x.begun = true) : begins s o x rest = s:=by
 have e : s.queues.set o (x :: rest) = s.queues:=by
  rw [← hq];unfold Server.queue;rw [List.getD_eq_getElem?_getD,List.getElem?_eq_getElem ho];exact List.set_getElem_self ho
 obtain ⟨a,b,c,bg⟩:=x;dsimp only at hb;subst hb;unfold begins;dsimp only;rw [e]
theorem answer_queues (s : Server) (e : Int) (r : Rec) : (Server.answer s e r).1.queues = s.queues:=by
 unfold Server.answer;split <;> rfl
theorem qs_same (qs : List Value) (o : Nat) (h : o < qs.length) : qs.set o (qs.getD o undef) = qs:=by
 rw [List.getD_eq_getElem?_getD,List.getElem?_eq_getElem h];exact List.set_getElem_self h
section
variable {P : Lib.PrintTabs} {own : Nat → Nat} {w0 w : World} {sb db wb dm tb tm : Nat} {v : Value} {ps : List ByteArray} {qs : List Value} {d : Disk} {s : Server}
theorem SrvW.first (h : SrvW P own w0 w sb db wb dm tb tm v ps qs d s) {o : Nat} (ho : o < 8) {x : Wr} {rest : List Wr} (hq : s.queue o = x :: rest) :
 ∃ g off cap,qs.getD o undef = .slice (some ⟨g,off,none⟩) (rest.length + 1) cap ∧ own g = 10 + o ∧ g < w.heap.size ∧ 1 ≤ cap ∧ rest.length + 1 ≤ cap ∧ w.cell? ⟨g,off,none⟩ = some (.int .i64 x.client) ∧ w.cell? ⟨g,off + 1,none⟩ = some (.int .i64 x.number) ∧ w.cell? ⟨g,off + 2,none⟩ = some (.string ⟨x.data.toArray⟩) ∧ w.cell? ⟨g,off + 3,none⟩ = some (.bool x.begun) ∧ w.frozen? ⟨g,off + 3,none⟩ = false:=by
 have hr:=h.queue o ho;rw [hq] at hr;obtain ⟨g,off,cap,e,hg,hl,hc,-,hcell⟩:=QRow.elem (f:=wrRow) (size:=4) wrRow_len hr (k:=0) (x:=x) rfl;refine ⟨g,off,cap,e,hg,hl,by simp at hc;omega,by simpa using hc,?_⟩
 have hj : ∀ j u,(wrRow x)[j]? = some u → w.cell? ⟨g,off + j,none⟩ = some u ∧ w.frozen? ⟨g,off + j,none⟩ = false:=fun j u hu => by
  have:=hcell j u hu;simpa using this
 exact ⟨(hj 0 _ rfl).1,(hj 1 _ rfl).1,(hj 2 _ rfl).1,(hj 3 _ rfl).1,(hj 3 _ rfl).2⟩
theorem SrvW.firstAt (h : SrvW P own w0 w sb db wb dm tb tm v ps qs d s) {o : Nat} (ho : o < 8) {x : Wr} {rest : List Wr} (hq : s.queue o = x :: rest) {g off n cap : Nat} (he : qs.getD o undef = .slice (some ⟨g,off,none⟩) n cap) :
 own g = 10 + o ∧ g < w.heap.size ∧ w.cell? ⟨g,off,none⟩ = some (.int .i64 x.client) ∧ w.cell? ⟨g,off + 1,none⟩ = some (.int .i64 x.number) ∧ w.cell? ⟨g,off + 2,none⟩ = some (.string ⟨x.data.toArray⟩) ∧ w.cell? ⟨g,off + 3,none⟩ = some (.bool x.begun) ∧ w.frozen? ⟨g,off + 3,none⟩ = false:=by
 obtain ⟨g',off',cap',e,h1,h2,-,-,h3⟩:=h.first ho hq;rw [he] at e;simp only [Value.slice.injEq,Option.some.injEq,Addr.mk.injEq,and_true] at e;obtain ⟨⟨rfl,rfl⟩,-⟩:=e;exact ⟨h1,h2,h3⟩
theorem begins_queue {s : Server} {o : Nat} {x : Wr} {rest : List Wr} (ho : o < s.queues.length) : (begins s o x rest).queue o = { x with begun:=true } :: rest:=by
 unfold begins;rw [queue_set s o o _ ho,if_pos rfl]
theorem SrvW.begun (h : SrvW P own w0 w sb db wb dm tb tm v ps qs d s) {o : Nat} (ho : o < 8) {x : Wr} {rest : List Wr} (hq : s.queue o = x :: rest) {g off n cap : Nat} (he : qs.getD o undef = .slice (some ⟨g,off,none⟩) n cap) :
 SrvW P own w0 (w.setCell ⟨g,off + 3,none⟩ (.bool true)) sb db wb dm tb tm v ps qs d (begins s o x rest) ∧ Turn (fun k => own k = 10 + o) w (w.setCell ⟨g,off + 3,none⟩ (.bool true)):=by
 have hr:=h.queue o ho;rw [hq] at hr;obtain ⟨g',off',cap',cur,e1,hg,hh,h1,h2,h3,h4⟩:=hr.shape (by simp);rw [he] at e1;injection e1 with e1 e2 e3;injection e1 with e1;injection e1 with e1 e4;subst e1 e4 e2 e3;have ht : Turn (fun k => own k = 10 + o) w (w.setCell ⟨g,off + 3,none⟩ (.bool true)):=(Turn.refl _ _).setCell (p:=⟨g,off + 3,none⟩) (.inr hg) _;refine ⟨?_,ht⟩;have hx:=h.ok.qc o;rw [hq] at hx;have hne : sb ≠ g:=fun e => by have h5:=h.osb;rw [e,hg] at h5;omega
 have key:=h.setQueue o ho (qs.getD o undef) ({ x with begun:=true } :: rest) (w':=w.setCell ⟨g,off + 3,none⟩ (.bool true)) (own1:=own) (ht.mono fun _ _ h => .inr h) (Ext.refl _ _) (fun k hk => h.fr k (Nat.le_trans ht.size hk)) (by
  rw [qs_same qs o (by rw [h.lq];exact ho)]
  exact h.s_.far (p:=⟨g,off + 3,none⟩) hne _) (by
  rw [he];refine QRow.mk hg (hh.set_ (off + 3) _) h1 (by simpa using h2) h3 ?_;have hlen : (cur.toList.drop off).length = cur.toList.length - off:=List.length_drop;rw [Array.toList_setIfInBounds,List.drop_set,if_neg (by omega),show off + 3 - off = 3 by omega,List.take_set,h4]
  simp [wrRow]) (fun y hy => by
  rcases List.mem_cons.1 hy with rfl | hy
  ·exact hx x (by simp)
  ·exact hx y (by simp [hy])) (by have:=h.ok.ql o;rw [hq] at this;simpa using this)
 rw [qs_same qs o (by rw [h.lq];exact ho)] at key;exact key
def tailV (g off n cap : Nat) : Value:=.slice (if cap = 1 then some ⟨g,off,none⟩ else some ⟨g,off + 4,none⟩) (n - 1) (cap - 1)
theorem QRow.tailV {T : Nat} {e : TypeId} {xs : List Value} {g off n cap : Nat} (h : QRow own T w e 4 (.slice (some ⟨g,off,none⟩) n cap) n xs) (hn : 0 < n) : QRow own T w e 4 (srv.tailV g off n cap) (n - 1) (xs.drop 4):=by
 unfold srv.tailV;by_cases hc : cap = 1
 ·obtain ⟨g',off',cap',cur,e1,hg,hh,h1,h2,h3,h4⟩:=h.shape hn;injection e1 with e1 e2 e3;injection e1 with e1;injection e1 with e1 e4;subst e1 e4 e3;rw [if_pos hc];(obtain rfl : n = 1:=by omega);subst hc;have hl:=h.1;have e : xs.drop 4 = []:=List.drop_of_length_le (by omega);refine QRow.mk hg hh (by omega) (by omega) (by omega) ?_;rw [e];simp
 ·rw [if_neg hc];exact h.tail hn
theorem SrvW.pop (h : SrvW P own w0 w sb db wb dm tb tm v ps qs d s) {o : Nat} (ho : o < 8) {x : Wr} {rest : List Wr} (hq : s.queue o = x :: rest) {g off n cap : Nat} (he : qs.getD o undef = .slice (some ⟨g,off,none⟩) n cap) :
 SrvW P own w0 (w.setCell ⟨sb,20 + o,none⟩ (tailV g off n cap)) sb db wb dm tb tm v ps (qs.set o (tailV g off n cap)) d { s with queues:=s.queues.set o rest } ∧ Turn (fun k => k = sb) w (w.setCell ⟨sb,20 + o,none⟩ (tailV g off n cap)):=by
 have ht : Turn (fun k => k = sb) w (w.setCell ⟨sb,20 + o,none⟩ (tailV g off n cap)):=turn_set (Turn.refl _ _) _ _;refine ⟨?_,ht⟩;have hr:=h.queue o ho;rw [hq,he] at hr
 have hnl : n = rest.length + 1:=by
  rcases hr.2 with ⟨e,-⟩ | ⟨g',off',cap',cur,e,-⟩
  ·cases e
  ·simp only [Value.slice.injEq] at e;simpa using e.2.1
 subst hnl;have hx:=h.ok.qc o;rw [hq] at hx;have hl:=h.ok.ql o;rw [hq] at hl;refine h.setQueue o ho _ rest (ht.mono fun _ _ h => .inl h) (Ext.refl _ _) (fun k hk => h.fr k (Nat.le_trans ht.size hk)) ?_ ?_ (fun y hy => hx y (by simp [hy])) (by simp at hl;omega)
 ·have:=h.s_.set_ (20 + o) (tailV g off (rest.length + 1) cap);rw [List.setIfInBounds_toArray,scells_queue h.nv h.lq o ho] at this;exact this
 ·have h5:=(QRow.tailV (hr) (by simp)).keep (S:=fun k => k = sb) ht (Ext.refl _ _) (fun k _ hk e => by rw [e,h.osb] at hk;omega);rw [Nat.add_sub_cancel] at h5;have e4 : ((x :: rest).flatMap wrRow).drop 4 = rest.flatMap wrRow:=flat_drop wrRow_len x rest;rw [e4] at h5;exact h5
def lenOf (sb o : Nat) (W : World) : Nat:=match W.cell? ⟨sb,20 + o,none⟩ with | some (.slice _ n _) => n | _ => 0
theorem SrvW.lenOf (h : SrvW P own w0 w sb db wb dm tb tm v ps qs d s) {o : Nat} (ho : o < 8) : srv.lenOf sb o w = (s.queue o).length:=by
 obtain ⟨a,c,e,-⟩:=(h.queue o ho).slice;unfold srv.lenOf;rw [h.cellQ o ho,e]
end
end srv
namespace cli
open Go.RowKit heap own errs mapof wire srv cache
open model (Client MItem Val Terms MCall seek put del)
section
variable {own : Nat → Nat} {T : Nat} {cb fm sm : Nat} {cv : Value} {c : Client}
set_option maxRecDepth 100000 in
theorem stamp_c (w : World) (m : Msg) (h : CliW own T w cb fm sm cv c) :
 Calls Tryz.prog 65 #[.pointer (some ⟨cb,0,none⟩),m.val] w fun e w' => e = .returned (c.stamp m).val ∧ Below w.heap.size w w':=by
 obtain ⟨mk,mc,mn,me,ms,mo,mv,ml,md⟩:=m;unfold Msg.val;dsimp only;obtain ⟨W1,hW1⟩ : ∃ W1,W1 = (w.alloc (.cells #[.int .i64 mk,.int .i64 mc,.int .i64 mn,.int .i64 me,.int .i64 ms,.int .i64 mo,.int .i64 mv,.bool ml,.string ⟨md.toArray⟩] 93)).alloc (.cells #[.int .i64 0,.int .i64 0,.int .i64 0,.int .i64 0,.int .i64 0,.int .i64 0,.int .i64 0,.bool false,.string ⟨#[]⟩] 93):=⟨_,rfl⟩;(have hb1 : Below w.heap.size w W1:=by rw [hW1];exact ((Below.refl _ _).alloc (Nat.le_refl _) _).alloc (by simp) _);have hlt:=h.lt;have c0 : W1.cell? ⟨cb,0,none⟩ = some (.int .i64 c.id):=(h.below hb1).c_.cell 0;have c5 : W1.cell? ⟨cb,5,none⟩ = some (.int .i64 c.epoch):=(h.below hb1).c_.cell 5;have c6 : W1.cell? ⟨cb,6,none⟩ = some (.int .i64 c.session):=(h.below hb1).c_.cell 6;(have hx1 : Has W1 w.heap.size (.cells #[.int .i64 mk,.int .i64 mc,.int .i64 mn,.int .i64 me,.int .i64 ms,.int .i64 mo,.int .i64 mv,.bool ml,.string ⟨md.toArray⟩] 93):=by rw [hW1];exact (Has.new w _).alloc _);(have hr0 : Has W1 (w.heap.size + 1) (.cells #[.int .i64 0,.int .i64 0,.int .i64 0,.int .i64 0,.int .i64 0,.int .i64 0,.int .i64 0,.bool false,.string ⟨#[]⟩] 93):=by rw [hW1,← World.size_alloc w];exact Has.new _ _);have k1 : W1.cell? ⟨w.heap.size,1,none⟩ = some (.int .i64 mc):=hx1.cell 1;have k3 : W1.cell? ⟨w.heap.size,3,none⟩ = some (.int .i64 me):=hx1.cell 3;have k4 : W1.cell? ⟨w.heap.size,4,none⟩ = some (.int .i64 ms):=hx1.cell 4;have f1 : W1.frozen? ⟨w.heap.size,1,none⟩ = false:=hx1.frozen 1;have f3 : W1.frozen? ⟨w.heap.size,3,none⟩ = false:=hx1.frozen 3;have f4 : W1.frozen? ⟨w.heap.size,4,none⟩ = false:=hx1.frozen 4;have HX1:=Hd hx1;have HR0:=Hd hr0;have HB1:=Hd hb1;clear h hx1 hr0 hb1;(go_enter Tryz.func65,Tryz.ntmps65);go_wp2;rw [← hW1];clear hW1;have hne : w.heap.size ≠ cb:=Nat.ne_of_gt hlt
 have fr : ∀ (W : World) (i : Nat) (u : Value),(W.cell? ⟨cb,0,none⟩ = some (.int .i64 c.id) ∧ W.cell? ⟨cb,5,none⟩ = some (.int .i64 c.epoch) ∧ W.cell? ⟨cb,6,none⟩ = some (.int .i64 c.session)) → ((W.setCell ⟨w.heap.size,i,none⟩ u).cell? ⟨cb,0,none⟩ = some (.int .i64 c.id) ∧ (W.setCell ⟨w.heap.size,i,none⟩ u).cell? ⟨cb,5,none⟩ = some (.int .i64 c.epoch) ∧ (W.setCell ⟨w.heap.size,i,none⟩ u).cell? ⟨cb,6,none⟩ = some (.int .i64 c.session)):=fun W i u hW =>
  ⟨(World.cell?_setCell_far _ _ _ _ hne).trans hW.1,(World.cell?_setCell_far _ _ _ _ hne).trans hW.2.1,(World.cell?_setCell_far _ _ _ _ hne).trans hW.2.2⟩
 have HFR:=Hd fr;clear fr;(go_region_held3 (fun W => W.cell? ⟨cb,0,none⟩ = some (.int .i64 c.id) ∧ W.cell? ⟨cb,5,none⟩ = some (.int .i64 c.epoch) ∧ W.cell? ⟨cb,6,none⟩ = some (.int .i64 c.session)) (first | go_keep | exact HFR.out _ _ _ ⟨c0,c5,c6⟩ | exact HFR.out _ _ _ (HFR.out _ _ _ ⟨c0,c5,c6⟩) | exact HFR.out _ _ _ (HFR.out _ _ _ (HFR.out _ _ _ ⟨c0,c5,c6⟩))) (fail));obtain ⟨W2,hW2⟩ : ∃ W2,W2 = (((W1.setCell ⟨w.heap.size,1,none⟩ (.int .i64 c.id)).setCell ⟨w.heap.size,3,none⟩ (.int .i64 c.epoch)).setCell ⟨w.heap.size,4,none⟩ (.int .i64 c.session)).drew:=⟨_,rfl⟩;have HM : Hid (Has W2 w.heap.size (.cells #[.int .i64 mk,.int .i64 c.id,.int .i64 mn,.int .i64 c.epoch,.int .i64 c.session,.int .i64 mo,.int .i64 mv,.bool ml,.string ⟨md.toArray⟩] 93)):=Hd (by rw [hW2];exact (((HX1.out.set_ 1 _).set_ 3 _).set_ 4 _).drew)
 have HR : Hid (Has W2 (w.heap.size + 1) (.cells #[.int .i64 0,.int .i64 0,.int .i64 0,.int .i64 0,.int .i64 0,.int .i64 0,.int .i64 0,.bool false,.string ⟨#[]⟩] 93)):=Hd (by
  rw [hW2]
  exact (((HR0.out.far (p:=⟨w.heap.size,1,none⟩) (by simp) _).far (p:=⟨w.heap.size,3,none⟩) (by simp) _).far (p:=⟨w.heap.size,4,none⟩) (by simp) _).drew)
 have HB2 : Hid (Below w.heap.size w W2):=Hd (by rw [hW2];exact (((HB1.out.setCell (Nat.le_refl _) _).setCell (Nat.le_refl _) _).setCell (Nat.le_refl _) _).drew);rw [← hW2];clear hW2 HFR c0 c5 c6 k1 k3 k4 f1 f3 f4 HX1 HR0 HB1
 go_wp2_with (first
  | (refine wpList_load_row rfl 93 (.tmp 3) rfl w.heap.size rfl 93 _ (0,0) _ HM.out Tryz.underlying93 rfl (by kernel_rfl) ?_)
  | (refine wpList_store_row rfl 93 (.tmp 4) (.tmp 20) rfl (w.heap.size + 1) _ rfl rfl 93 _ HR.out (by kernel_rfl) (by kernel_rfl) (by kernel_rfl) ?_))
 exact bodyPost_ret (results_cell_row Tryz.results65 _ _ (w.heap.size + 1) 93 _ (0,0) _ rfl (HR.out.setRow _) Tryz.underlying93 rfl (by kernel_rfl)) rfl ⟨rfl,below_setRow HB2.out (by omega) _⟩
end
end cli
end Go.Proofs.YtefkmcjhgoagcaaGreatDoor
