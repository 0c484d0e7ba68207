/-
  A part of the proof of the law WorldLasts: SrvA, SrvB, SrvC, SrvD, Msgs.
-/
import Derived.Deep.RegionHeld3
import Derived.BigQuiet
import Derived.Deep.QuietTactic
import Derived.Laws.ResultCell
import Derived.Great.BuildSlice
import Derived.Deep.AppendLies
import Derived.Test.YtefkmcjhgoagcaaGreatDoorHd
import Derived.Test.YtefkmcjhgoagcaaGreatDoorP10
import Derived.Test.YtefkmcjhgoagcaaGreatDoorP21
import Derived.Test.YtefkmcjhgoagcaaGreatDoorP22
namespace Go.Proofs.YtefkmcjhgoagcaaGreatDoor
namespace srv
open Go.RowKit heap own recs errs mapof wal tab wire
open model (Rec Disk Val Wr Server Table Terms inR seek put del)
def msgRow (m : Msg) : List Value:=[.int .i64 m.kind,.int .i64 m.client,.int .i64 m.number,.int .i64 m.epoch,.int .i64 m.session,.int .i64 m.object,.int .i64 m.version,.bool m.lease,.string ⟨m.data.toArray⟩]
theorem msgRow_len (m : Msg) : (msgRow m).length = 9:=rfl
theorem msgRow_one (m : Msg) : ∀ u ∈ msgRow m,u.oneCell' = true:=by
 intro u hu;simp only [msgRow,List.mem_cons,List.not_mem_nil,or_false] at hu;rcases hu with rfl | rfl | rfl | rfl | rfl | rfl | rfl | rfl | rfl <;> rfl
def wrRow (x : Wr) : List Value:=[.int .i64 x.client,.int .i64 x.number,.string ⟨x.data.toArray⟩,.bool x.begun]
theorem wrRow_len (x : Wr) : (wrRow x).length = 4:=rfl
theorem wrRow_one (x : Wr) : ∀ u ∈ wrRow x,u.oneCell' = true:=by
 intro u hu;simp only [wrRow,List.mem_cons,List.not_mem_nil,or_false] at hu;rcases hu with rfl | rfl | rfl | rfl <;> rfl
def valRow (v : Val) : List Value:=[.string ⟨v.data.toArray⟩,.int .i64 v.ver]
theorem valRow_len (v : Val) : (valRow v).length = 2:=rfl
theorem infoMsg : (Tryz.prog.info? 93).map (fun i => (i.zero,i.size,i.bytes)) = some (some (.agg #[.int .i64 0,.int .i64 0,.int .i64 0,.int .i64 0,.int .i64 0,.int .i64 0,.int .i64 0,.bool false,.string ByteArray.empty]),9,80):=by kernel_rfl
theorem infoWr : (Tryz.prog.info? 164).map (fun i => (i.zero,i.size,i.bytes)) = some (some (.agg #[.int .i64 0,.int .i64 0,.string ByteArray.empty,.bool false]),4,40):=by kernel_rfl
theorem val_inj {m m' : Msg} (h : m.val = m'.val) : m = m':=by
 obtain ⟨a,b,c,d,e,f,g,l,s⟩:=m;obtain ⟨a',b',c',d',e',f',g',l',s'⟩:=m';simp only [Msg.val,Value.agg.injEq,Array.mk.injEq,List.cons.injEq,Value.int.injEq,true_and,Value.bool.injEq,Value.string.injEq,ByteArray.mk.injEq,and_true] at h;simp [h]
noncomputable def msgR (v : Value) : Option (DataW Unit × List MemPlace):=by
 classical exact if h : ∃ m : Msg,v = m.val then some (.agg [.lit (.int .i64 h.choose.kind),.lit (.int .i64 h.choose.client),.lit (.int .i64 h.choose.number),.lit (.int .i64 h.choose.epoch),.lit (.int .i64 h.choose.session),.lit (.int .i64 h.choose.object),.lit (.int .i64 h.choose.version),.lit (.bool h.choose.lease),.lit (.string h.choose.data)],[]) else none
def msgD (m : Msg) : DataW Unit:=.agg [.lit (.int .i64 m.kind),.lit (.int .i64 m.client),.lit (.int .i64 m.number),.lit (.int .i64 m.epoch),.lit (.int .i64 m.session),.lit (.int .i64 m.object),.lit (.int .i64 m.version),.lit (.bool m.lease),.lit (.string m.data)]
theorem msgR_val (m : Msg) : msgR m.val = some (msgD m,[]):=by
 unfold msgR;have h : ∃ m' : Msg,m.val = m'.val:=⟨m,rfl⟩;rw [dif_pos h,← val_inj h.choose_spec];rfl
theorem msgR_inv {v : Value} {y : DataW Unit × List MemPlace} (h : msgR v = some y) : ∃ m,v = Msg.val m ∧ y = (msgD m,[]):=by
 by_cases hm : ∃ m : Msg,v = m.val
 ·obtain ⟨m,rfl⟩:=hm;rw [msgR_val] at h;exact ⟨m,rfl,(Option.some.inj h).symm⟩
 ·unfold msgR at h;rw [dif_neg hm] at h;cases h
theorem msgD_inj (m m' : Msg) (h : msgD m = msgD m') : m = m':=by
 obtain ⟨a,b,c,d,e,f,g,l,s⟩:=m;obtain ⟨a',b',c',d',e',f',g',l',s'⟩:=m';simp only [msgD,DataW.agg.injEq,List.cons.injEq,DataW.lit.injEq,Lit.int.injEq,Lit.bool.injEq,Lit.string.injEq,true_and,and_true] at h;simp [h]
def zeroMsg : Msg:=⟨0,0,0,0,0,0,0,false,[]⟩
theorem zeroMsg_run : ∀ w,(zeroValue 93).run Tryz.prog w = .ok zeroMsg.val w:=fun w => by kernel_rfl
noncomputable def doneS : MapSpec Tryz.prog Int Msg where
 K:=3
 e:=93
 t:=102
 kv:=Value.int .i64
 kl:=Lit.int .i64
 okK:=i64ok
 ev:=Msg.val
 ed:=msgD
 okE:=fun _ => True
 z:=zeroMsg
 R:=msgR
 keyed:=Maps.int_keyed Tryz.underlying3
 ht:=Tryz.underlying102
 key:=fun _ h => Maps.keyOf_int_mk Tryz.underlying3 h
 key_inv:=fun _ _ h => Maps.keyOf_int_inv Tryz.underlying3 h
 elem:=fun m _ => msgR_val m
 elem_inv:=fun v y h => by
  obtain ⟨m,h1,h2⟩:=msgR_inv h;exact ⟨m,h1,h2,trivial⟩
 kv_inj:=fun _ _ h => by simpa using h
 ed_inj:=msgD_inj
 zero:=zeroMsg_run
 okZ:=trivial
def scells (t : Terms) (wb : Nat) (vals : List Val) (qs : List Value) (dm tb : Nat) (epoch quiet now torn : Int) : List Value:=
 [.int .i64 t.object,.int .i64 t.volume,.int .i64 t.drift,.pointer (some ⟨wb,0,none⟩)] ++ (vals.flatMap valRow ++ (qs ++ [.map (some dm),.pointer (some ⟨tb,0,none⟩),.int .i64 epoch,.int .i64 quiet,.int .i64 now,.int .i64 torn]))
def SrvSet (own : Nat → Nat) (g : Nat) : Prop:=1 ≤ own g ∧ own g < 20
structure Plain (d : Disk) (s : Server) : Prop where
 nv : s.values.length = 8
 nq : s.queues.length = 8
 qc : ∀ o,∀ x ∈ s.queue o,(0 ≤ x.client ∧ x.client < 4) ∧ x.data.length ≤ 20
 dk : ∀ p ∈ s.done,0 ≤ p.1 ∧ p.1 < 4
 rc : ∀ r ∈ d.recs,0 ≤ r.client ∧ r.client < 4
 ql : ∀ o,(s.queue o).length ≤ 10
structure SrvW (P : Lib.PrintTabs) (own : Nat → Nat) (w0 w : World) (sb db wb dm tb tm : Nat) (v : Value) (ps : List ByteArray) (qs : List Value) (d : Disk) (s : Server) : Prop where
 kit0 : Kit P w0
 hdl0 : Handle w0
 bel : Below w0.heap.size w0 w
 low : ∀ g,SrvSet own g → w0.heap.size ≤ g
 fr : ∀ g,w.heap.size ≤ g → own g = 0
 wal : WalAt own 2 w0.heap.size w wb db v s.down d.recs
 dsk : DiskAt w db ps d.cut d.left
 pls : Places P ps d.recs
 odb : own db = 1
 s_ : Has w sb (.cells (scells s.terms wb s.values qs dm tb s.epoch s.quiet s.now s.torn).toArray 105)
 osb : own sb = 4
 ok : Plain d s
 lq : qs.length = 8
 queue : ∀ o,o < 8 → QRow own (10 + o) w 164 4 (qs.getD o undef) (s.queue o).length ((s.queue o).flatMap wrRow)
 done : At doneS w dm s.done
 odm : own dm = 5
 table : TabM w tb tm s.table
 otb : own tb = 6
 otm : own tm = 7
def SrvAt (P : Lib.PrintTabs) (own : Nat → Nat) (w0 w : World) (sb db : Nat) (d : Disk) (s : Server) : Prop:=
 ∃ wb dm tb tm v ps qs,SrvW P own w0 w sb db wb dm tb tm v ps qs d s
section
variable {P : Lib.PrintTabs} {own own1 : Nat → Nat} {w0 w w' : World} {sb db wb dm tb tm : Nat} {v : Value} {ps : List ByteArray} {qs : List Value} {d : Disk} {s : Server} {S : Nat → Prop}
theorem SrvW.nv (h : SrvW P own w0 w sb db wb dm tb tm v ps qs d s) : s.values.length = 8:=h.ok.nv
theorem SrvW.nq (h : SrvW P own w0 w sb db wb dm tb tm v ps qs d s) : s.queues.length = 8:=h.ok.nq
theorem SrvW.le (h : SrvW P own w0 w sb db wb dm tb tm v ps qs d s) : w0.heap.size ≤ w.heap.size:=h.bel.size
theorem SrvW.kit (h : SrvW P own w0 w sb db wb dm tb tm v ps qs d s) : KitB P w0.heap.size w:=⟨w0,rfl,h.kit0,h.bel⟩
theorem SrvW.hdl (h : SrvW P own w0 w sb db wb dm tb tm v ps qs d s) : Handle w:=h.hdl0.below h.bel
theorem SrvW.handle (h : SrvW P own w0 w sb db wb dm tb tm v ps qs d s) (hb : Below w.heap.size w w') : Handle w':=h.hdl.below hb
theorem SrvW.turn (h : SrvW P own w0 w sb db wb dm tb tm v ps qs d s) (ht : Turn S w w') (he : Ext w own own1) (hf : ∀ g,w'.heap.size ≤ g → own1 g = 0) (hs : ∀ g,g < w.heap.size → S g → ¬ SrvSet own g ∧ w0.heap.size ≤ g) : SrvW P own1 w0 w' sb db wb dm tb tm v ps qs d s:=by
 have ht2 : Turn (fun g => g < w.heap.size ∧ S g) w w':=ht.mono fun k hk hS => ⟨hk,hS⟩
 have no : ∀ g k,own g = k → 1 ≤ k → k < 20 → ¬ S g ∨ w.heap.size ≤ g:=fun g k hk h1 h2 => by
  rcases Nat.lt_or_ge g w.heap.size with hg | hg
  ·exact .inl fun hS => (hs g hg hS).1 ⟨by omega,by omega⟩
  ·exact .inr hg
 have nS : ∀ g k,g < w.heap.size → own g = k → 1 ≤ k → k < 20 → ¬ S g:=fun g k hg hk h1 h2 => (no g k hk h1 h2).resolve_right (by omega);have hwl:=h.wal.w_.lt;have hdl:=h.dsk.lt;have hsl:=h.s_.lt;have hml:=h.done.lt;have htl:=h.table.lt
 refine ⟨h.kit0,h.hdl0,h.bel.trans (ht2.to_below h.le fun k hk hS => by have:=(hs k hS.1 hS.2).2;omega),fun g hg => ?_,hf,⟨ht.has h.wal.w_ (nS _ 3 hwl h.wal.ow (by decide) (by decide)),h.wal.row.keep ht he fun k hk ho => nS k 2 hk ho (by decide) (by decide),by rw [he _ hwl];exact h.wal.ow,fun g hg => ?_,h.wal.lw⟩,
  ⟨ht.has h.dsk.d_ (nS _ 1 hdl h.odb (by decide) (by decide)),h.dsk.hp⟩,h.pls,by rw [he _ hdl];exact h.odb,ht.has h.s_ (nS _ 4 hsl h.osb (by decide) (by decide)),by rw [he _ hsl];exact h.osb,h.ok,h.lq,fun o ho => (h.queue o ho).keep ht he fun k hk hko => nS k (10 + o) hk hko (by omega) (by omega),
  h.done.turn ht (nS _ 5 hml h.odm (by decide) (by decide)),by rw [he _ hml];exact h.odm,h.table.turn ht (nS _ 6 htl.1 h.otb (by decide) (by decide)) (nS _ 7 htl.2 h.otm (by decide) (by decide)),by rw [he _ htl.1];exact h.otb,by rw [he _ htl.2];exact h.otm⟩
 ·rcases Nat.lt_or_ge g w.heap.size with hg' | hg'
  ·unfold SrvSet at hg;rw [he g hg'] at hg;exact h.low g hg
  ·exact Nat.le_trans h.le hg'
 ·rcases Nat.lt_or_ge g w.heap.size with hg' | hg'
  ·rw [he g hg'] at hg;exact h.wal.low g hg
  ·exact Nat.le_trans h.le hg'
theorem SrvW.below (h : SrvW P own w0 w sb db wb dm tb tm v ps qs d s) (hb : Below w.heap.size w w') : SrvW P own w0 w' sb db wb dm tb tm v ps qs d s:=
 h.turn (S:=fun _ => False) (Turn.of_below hb (Nat.le_refl _)) (Ext.refl _ _) (fun g hg => h.fr g (Nat.le_trans hb.size hg)) (fun _ _ h => h.elim)
theorem SrvW.own0 (h : SrvW P own w0 w sb db wb dm tb tm v ps qs d s) (ht : Turn S w w') (hs : ∀ g,g < w.heap.size → S g → own g = 0 ∧ w0.heap.size ≤ g) : SrvW P own w0 w' sb db wb dm tb tm v ps qs d s:=
 h.turn ht (Ext.refl _ _) (fun g hg => h.fr g (Nat.le_trans ht.size hg)) fun g hg hS => ⟨fun hq => by have:=(hs g hg hS).1;unfold SrvSet at hq;omega,(hs g hg hS).2⟩
theorem SrvAt.below (h : SrvAt P own w0 w sb db d s) (hb : Below w.heap.size w w') : SrvAt P own w0 w' sb db d s:=by
 obtain ⟨wb,dm,tb,tm,v,ps,qs,h⟩:=h;exact ⟨wb,dm,tb,tm,v,ps,qs,h.below hb⟩
end
theorem below_setRow {B g : Nat} {w w' : World} (h : Below B w w') (hg : B ≤ g) (cs : Array Value) : Below B w (w'.setRow g cs):=
 ⟨h.os,h.tape,h.output,by simpa [World.setRow] using h.size,fun k hk => (setRow_other _ _ _ _ (by omega)).trans (h.block k hk)⟩
section
variable {P : Lib.PrintTabs} {own : Nat → Nat} {w0 w : World} {sb db wb dm tb tm : Nat} {v : Value} {ps : List ByteArray} {qs : List Value} {d : Disk} {s : Server}
theorem SrvW.vl (h : SrvW P own w0 w sb db wb dm tb tm v ps qs d s) : (s.values.flatMap valRow).length = 16:=by rw [flat_len valRow_len,h.nv]
theorem SrvW.cellT (h : SrvW P own w0 w sb db wb dm tb tm v ps qs d s) (j : Nat) (u : Value) (hj : ([.map (some dm),.pointer (some ⟨tb,0,none⟩),.int .i64 s.epoch,.int .i64 s.quiet,.int .i64 s.now,.int .i64 s.torn] : List Value)[j]? = some u) : w.cell? ⟨sb,28 + j,none⟩ = some u:=by
 rw [h.s_.cell,List.getElem?_toArray,scells];rw [List.getElem?_append_right (by simp;omega),List.getElem?_append_right (by rw [h.vl];simp;omega),List.getElem?_append_right (by rw [h.vl,h.lq];simp;omega),h.vl,h.lq];rw [← hj];congr 1;simp;omega
theorem SrvW.cell0 (h : SrvW P own w0 w sb db wb dm tb tm v ps qs d s) (j : Nat) (u : Value) (hj : ([.int .i64 s.terms.object,.int .i64 s.terms.volume,.int .i64 s.terms.drift,.pointer (some ⟨wb,0,none⟩)] : List Value)[j]? = some u) : w.cell? ⟨sb,j,none⟩ = some u:=by
 rw [h.s_.cell,List.getElem?_toArray,scells];rw [List.getElem?_append_left (List.getElem?_eq_some_iff.1 hj).1];exact hj
theorem SrvW.cellV (h : SrvW P own w0 w sb db wb dm tb tm v ps qs d s) (o : Nat) (ho : o < 8) : w.cell? ⟨sb,4 + o * 2,none⟩ = some (.string ⟨(s.value o).data.toArray⟩) ∧ w.cell? ⟨sb,4 + o * 2 + 1,none⟩ = some (.int .i64 (s.value o).ver):=by
 have hx : s.values[o]? = some (s.value o):=by
  (have hl : o < s.values.length:=by rw [h.nv];exact ho);rw [Server.value,List.getD_eq_getElem?_getD,List.getElem?_eq_getElem hl];rfl
 have g:=flat_get valRow_len s.values o _ hx
 have hc : ∀ j,j < 2 → w.cell? ⟨sb,4 + (o * 2 + j),none⟩ = (valRow (s.value o))[j]?:=fun j hj => by
  rw [h.s_.cell,List.getElem?_toArray,scells,List.getElem?_append_right (by simp),List.getElem?_append_left (by rw [h.vl];simp;omega),← g j hj];congr 1;simp
 exact ⟨hc 0 (by decide),by rw [Nat.add_assoc];exact hc 1 (by decide)⟩
theorem SrvW.cellQ (h : SrvW P own w0 w sb db wb dm tb tm v ps qs d s) (o : Nat) (ho : o < 8) : w.cell? ⟨sb,20 + o,none⟩ = some (qs.getD o undef):=by
 (have hl : o < qs.length:=by rw [h.lq];exact ho);rw [h.s_.cell,List.getElem?_toArray,scells,List.getElem?_append_right (by simp;omega),List.getElem?_append_right (by rw [h.vl];simp;omega),h.vl,List.length_cons,List.length_cons,List.length_cons,List.length_cons,List.length_nil,List.getElem?_append_left (by omega),List.getD_eq_getElem?_getD,show 20 + o - 4 - 16 = o by omega];rw [List.getElem?_eq_getElem hl];rfl
end
section
variable {P : Lib.PrintTabs} {own : Nat → Nat} {w0 : World} {sb db wb dm tb tm : Nat} {v : Value} {ps : List ByteArray} {qs : List Value} {d : Disk} {s : Server}
theorem Down_s (w : World) (h : SrvW P own w0 w sb db wb dm tb tm v ps qs d s) :
 Calls Tryz.prog 69 #[.pointer (some ⟨sb,0,none⟩)] w fun e w' => e = .returned (.bool s.down) ∧ w = w':=by
 have c3:=h.cell0 3 _ rfl;have D:=Down_any w h.wal;clear h;(go_enter Tryz.func69,Tryz.ntmps69);(go_wp2_with (go_at_call 89;refine D.mono ?_;rintro e w' ⟨rfl,rfl⟩));go_ret;exact ⟨rfl,rfl⟩
set_option maxRecDepth 100000 in
theorem stamp_s (w : World) (m : Msg) (h : SrvW P own w0 w sb db wb dm tb tm v ps qs d s) :
 Calls Tryz.prog 90 #[.pointer (some ⟨sb,0,none⟩),m.val] w fun e w' => e = .returned (s.stamp m).val ∧ Below w.heap.size w w':=by
 have c5:=h.cellT 1 _ rfl;have c6:=h.cellT 2 _ rfl;have hlt:=h.s_.lt;have HT : ∀ w',Below w.heap.size w w' → TabM w' tb tm s.table:=fun w' hb => h.table.below hb;obtain ⟨mk,mc,mn,me,ms,mo,mv,ml,md⟩:=m;unfold Msg.val;dsimp only;clear h;(go_enter Tryz.func90,Tryz.ntmps90);go_wp2;obtain ⟨W1,hW1⟩ : ∃ W1,W1 = (w.alloc (.cells #[.int .i64 mk,.int .i64 mc,.int .i64 mn,.int .i64 s.epoch,.int .i64 ms,.int .i64 mo,.int .i64 mv,.bool ml,.string ⟨md.toArray⟩] 93)).alloc (.cells #[.int .i64 0,.int .i64 0,.int .i64 0,.int .i64 0,.int .i64 0,.int .i64 0,.int .i64 0,.bool false,.string ⟨#[]⟩] 93):=⟨_,rfl⟩;(have hb1 : Below w.heap.size w W1:=by rw [hW1];exact ((Below.refl _ _).alloc (Nat.le_refl _) _).alloc (by simp) _);have k5 : W1.cell? ⟨sb,29,none⟩ = some (.pointer (some ⟨tb,0,none⟩)):=(hb1.cell (p:=⟨sb,29,none⟩) hlt).trans c5;(have hx1 : Has W1 w.heap.size (.cells #[.int .i64 mk,.int .i64 mc,.int .i64 mn,.int .i64 s.epoch,.int .i64 ms,.int .i64 mo,.int .i64 mv,.bool ml,.string ⟨md.toArray⟩] 93):=by rw [hW1];exact (Has.new w _).alloc _);(have hr0 : Has W1 (w.heap.size + 1) (.cells #[.int .i64 0,.int .i64 0,.int .i64 0,.int .i64 0,.int .i64 0,.int .i64 0,.int .i64 0,.bool false,.string ⟨#[]⟩] 93):=by rw [hW1,← World.size_alloc w];exact Has.new _ _);have k1 : W1.cell? ⟨w.heap.size,1,none⟩ = some (.int .i64 mc):=hx1.cell 1;have k4 : W1.cell? ⟨w.heap.size,4,none⟩ = some (.int .i64 ms):=hx1.cell 4;have f4 : W1.frozen? ⟨w.heap.size,4,none⟩ = false:=hx1.frozen 4;have ht1 : TabM W1 tb tm s.table:=HT _ hb1;rw [← hW1];clear hW1 HT c5 c6;have HS2 : ∀ u,((W1.setCell ⟨w.heap.size,4,none⟩ u).drew.cell? ⟨sb,29,none⟩ = some (.pointer (some ⟨tb,0,none⟩)) ∧ (W1.setCell ⟨w.heap.size,4,none⟩ u).drew.cell? ⟨w.heap.size,1,none⟩ = some (.int .i64 mc)):=fun u => ⟨(World.cell?_setCell_far _ _ _ _ (Nat.ne_of_gt hlt)).trans k5,(hx1.set_ 4 _).cell 1⟩;(go_region_held3 (fun W => W.cell? ⟨sb,29,none⟩ = some (.pointer (some ⟨tb,0,none⟩)) ∧ W.cell? ⟨w.heap.size,1,none⟩ = some (.int .i64 mc)) (first | go_keep | exact HS2 _) ((go_at_call 121;refine (Session_e mc (TabM.drew ht1)).mono ?_;rintro e w' ⟨ev,rfl,-,rfl⟩)));have hm2:=hx1.set_ 4 (.int .i64 (s.table.session mc));have hb2 : Below w.heap.size w (W1.setCell ⟨w.heap.size,4,none⟩ (.int .i64 (s.table.session mc))).drew:=(hb1.setCell (Nat.le_refl _) _).drew;obtain ⟨W2,hW2⟩ : ∃ W2,W2 = (W1.setCell ⟨w.heap.size,4,none⟩ (.int .i64 (s.table.session mc))).drew:=⟨_,rfl⟩;(have hm3 : Has W2 w.heap.size (.cells #[.int .i64 mk,.int .i64 mc,.int .i64 mn,.int .i64 s.epoch,.int .i64 (s.table.session mc),.int .i64 mo,.int .i64 mv,.bool ml,.string ⟨md.toArray⟩] 93):=by rw [hW2];exact hm2);rw [← hW2] at hb2 ⊢;(have hr1 : Has W2 (w.heap.size + 1) (.cells #[.int .i64 0,.int .i64 0,.int .i64 0,.int .i64 0,.int .i64 0,.int .i64 0,.int .i64 0,.bool false,.string ⟨#[]⟩] 93):=by rw [hW2];exact (hr0.far (p:=⟨w.heap.size,4,none⟩) (by simp) _).drew);clear hW2 hm2 HS2 k5 k1 k4 f4 hx1 hb1 ht1 hr0;have HM:=Hd hm3;have HR:=Hd hr1
 go_wp2_with (first
  | (refine wpList_load_row rfl 93 (.tmp 3) rfl w.heap.size rfl 93 _ (0,0) _ HM.out Tryz.underlying93 rfl (by kernel_rfl) ?_)
  | (refine wpList_store_row rfl 93 (.tmp 4) (.tmp 21) rfl (w.heap.size + 1) _ rfl rfl 93 _ HR.out (by kernel_rfl) (by kernel_rfl) (by kernel_rfl) ?_))
 exact bodyPost_ret (results_cell_row Tryz.results90 _ _ (w.heap.size + 1) 93 _ (0,0) _ rfl (HR.out.setRow _) Tryz.underlying93 rfl (by kernel_rfl)) rfl ⟨rfl,below_setRow hb2 (by omega) _⟩
theorem SrvW.upd {w w' : World} {s' : Server} {qs' : List Value} (h : SrvW P own w0 w sb db wb dm tb tm v ps qs d s) (ht : Turn (fun g => g = sb) w w')
 (hs : Has w' sb (.cells (scells s'.terms wb s'.values qs' dm tb s'.epoch s'.quiet s'.now s'.torn).toArray 105)) (hok : Plain d s') (hl : qs'.length = 8)
 (hqu : ∀ o,o < 8 → QRow own (10 + o) w' 164 4 (qs'.getD o undef) (s'.queue o).length ((s'.queue o).flatMap wrRow)) (hdn : s'.down = s.down) (hdo : s'.done = s.done) (hta : s'.table = s.table) : SrvW P own w0 w' sb db wb dm tb tm v ps qs' d s':=by
 (have ne : ∀ g k,own g = k → k ≠ 4 → g ≠ sb:=fun g k hk h4 e => by rw [e,h.osb] at hk;exact h4 hk.symm);have nw:=ne wb 3 h.wal.ow (by decide);refine ⟨h.kit0,h.hdl0,h.bel.trans (ht.to_below h.le fun k hk e => by have:=h.low sb ⟨by rw [h.osb];decide,by rw [h.osb];decide⟩;omega),h.low,fun g hg => h.fr g (Nat.le_trans ht.size hg),?_,h.dsk.turn ht (ne _ 1 h.odb (by decide)),h.pls,h.odb,hs,h.osb,hok,hl,hqu,?_,h.odm,?_,h.otb,h.otm⟩
 ·rw [hdn];exact h.wal.turn ht nw fun k hk => ne k 2 hk (by decide)
 ·rw [hdo];exact h.done.turn ht (ne _ 5 h.odm (by decide))
 ·rw [hta];exact h.table.turn ht (ne _ 6 h.otb (by decide)) (ne _ 7 h.otm (by decide))
theorem SrvW.queue_upd {w w' : World} (h : SrvW P own w0 w sb db wb dm tb tm v ps qs d s) (ht : Turn (fun g => g = sb) w w') : ∀ o,o < 8 → QRow own (10 + o) w' 164 4 (qs.getD o undef) (s.queue o).length ((s.queue o).flatMap wrRow):=
 fun o ho => (h.queue o ho).keep ht (Ext.refl _ _) fun k _ hk e => by rw [e,h.osb] at hk;omega
theorem scells_tail {t : Terms} {wb dm tb : Nat} {vals : List Val} {qs : List Value} {e q n o : Int} (hv : vals.length = 8) (hl : qs.length = 8) (j : Nat) (u : Value) :
 (scells t wb vals qs dm tb e q n o).set (28 + j) u = [.int .i64 t.object,.int .i64 t.volume,.int .i64 t.drift,.pointer (some ⟨wb,0,none⟩)] ++ (vals.flatMap valRow ++ (qs ++ ([.map (some dm),.pointer (some ⟨tb,0,none⟩),.int .i64 e,.int .i64 q,.int .i64 n,.int .i64 o] : List Value).set j u)):=by
 (have hvl : (vals.flatMap valRow).length = 16:=by rw [flat_len valRow_len,hv]);unfold scells;rw [List.set_append_right _ _ (by simp;omega),List.set_append_right _ _ (by rw [hvl];simp;omega),List.set_append_right _ _ (by rw [hvl,hl];simp;omega),hvl,hl];congr 3;congr 1;simp;omega
theorem SrvW.setNow {w : World} (h : SrvW P own w0 w sb db wb dm tb tm v ps qs d s) (n : Int) : SrvW P own w0 (w.setCell ⟨sb,32,none⟩ (.int .i64 n)) sb db wb dm tb tm v ps qs d { s with now:=n }:=by
 have ht : Turn (fun g => g = sb) w (w.setCell ⟨sb,32,none⟩ (.int .i64 n)):=turn_set (Turn.refl _ _) 32 _;refine h.upd ht ?_ ⟨h.ok.nv,h.ok.nq,h.ok.qc,h.ok.dk,h.ok.rc,h.ok.ql⟩ h.lq (h.queue_upd ht) rfl rfl rfl;have:=h.s_.set_ 32 (.int .i64 n);rw [List.setIfInBounds_toArray,scells_tail h.nv h.lq 4] at this;exact this
theorem SrvW.setTorn {w : World} (h : SrvW P own w0 w sb db wb dm tb tm v ps qs d s) (n : Int) : SrvW P own w0 (w.setCell ⟨sb,33,none⟩ (.int .i64 n)) sb db wb dm tb tm v ps qs d { s with torn:=n }:=by
 have ht : Turn (fun g => g = sb) w (w.setCell ⟨sb,33,none⟩ (.int .i64 n)):=turn_set (Turn.refl _ _) 33 _;refine h.upd ht ?_ ⟨h.ok.nv,h.ok.nq,h.ok.qc,h.ok.dk,h.ok.rc,h.ok.ql⟩ h.lq (h.queue_upd ht) rfl rfl rfl;have:=h.s_.set_ 33 (.int .i64 n);rw [List.setIfInBounds_toArray,scells_tail h.nv h.lq 5] at this;exact this
theorem at_s (w : World) (n : Int) (h : SrvW P own w0 w sb db wb dm tb tm v ps qs d s) :
 Calls Tryz.prog 70 #[.pointer (some ⟨sb,0,none⟩),.int .i64 n] w fun e w' => e = .returned (.tuple #[]) ∧ SrvW P own w0 w' sb db wb dm tb tm v ps qs d (s.at_ n) ∧ Turn (fun g => g = sb) w w':=by
 have c4:=h.cellT 4 _ rfl
 have f4:=h.s_.frozen 32
 have H:=Hd h
 have ht : ∀ x,Turn (fun g => g = sb) w (w.setCell ⟨sb,32,none⟩ x):=fun x => turn_set (Turn.refl _ _) 32 _
 have HT:=Hd ht
 unfold Server.at_
 clear h ht
 go_enter Tryz.func70,Tryz.ntmps70
 go_wp2
 go_end0
 exact ⟨rfl,H.out.setNow _,HT.out _⟩
theorem model_knows (m : Msg) : s.knows m = (model.isClient m.client && (m.epoch == s.epoch) && (m.session == s.table.session m.client)):=rfl
set_option maxHeartbeats 1000000 in
set_option maxRecDepth 100000 in
theorem knows_s (w : World) (m : Msg) (h : SrvW P own w0 w sb db wb dm tb tm v ps qs d s) :
 Calls Tryz.prog 91 #[.pointer (some ⟨sb,0,none⟩),m.val] w fun e w' => e = .returned (.bool (s.knows m)) ∧ Below w.heap.size w w':=by
 have c5:=h.cellT 1 _ rfl;have c6:=h.cellT 2 _ rfl;have hlt:=h.s_.lt;rw [model_knows];obtain ⟨mk,mc,mn,me,ms,mo,mv,ml,md⟩:=m;unfold Msg.val;dsimp only;obtain ⟨W1,hW1⟩ : ∃ W1,W1 = w.alloc (.cells #[.int .i64 mk,.int .i64 mc,.int .i64 mn,.int .i64 me,.int .i64 ms,.int .i64 mo,.int .i64 mv,.bool ml,.string ⟨md.toArray⟩] 93):=⟨_,rfl⟩;(have hb1 : Below w.heap.size w W1:=by rw [hW1];exact (Below.refl _ _).alloc (Nat.le_refl _) _);have k5 : W1.cell? ⟨sb,29,none⟩ = some (.pointer (some ⟨tb,0,none⟩)):=(hb1.cell (p:=⟨sb,29,none⟩) hlt).trans c5;have k6 : W1.cell? ⟨sb,30,none⟩ = some (.int .i64 s.epoch):=(hb1.cell (p:=⟨sb,30,none⟩) hlt).trans c6;(have hx1 : Has W1 w.heap.size (.cells #[.int .i64 mk,.int .i64 mc,.int .i64 mn,.int .i64 me,.int .i64 ms,.int .i64 mo,.int .i64 mv,.bool ml,.string ⟨md.toArray⟩] 93):=by rw [hW1];exact Has.new w _);have k1 : W1.cell? ⟨w.heap.size,1,none⟩ = some (.int .i64 mc):=hx1.cell 1;have k3 : W1.cell? ⟨w.heap.size,3,none⟩ = some (.int .i64 me):=hx1.cell 3;have k4 : W1.cell? ⟨w.heap.size,4,none⟩ = some (.int .i64 ms):=hx1.cell 4;have ht1 : TabM W1 tb tm s.table:=h.table.below hb1;have HB1:=Hd hb1;obtain ⟨sn,hsn⟩ : ∃ sn,sn = s.table.session mc:=⟨_,rfl⟩
 obtain ⟨ev,hev⟩ : ∃ ev,ev = errV (if model.isClient mc then 0 else 2):=⟨_,rfl⟩
 have HSE : Hid (Calls Tryz.prog 121 #[.pointer (some ⟨tb,0,none⟩),.int .i64 mc] W1.drew fun e w' => e = .returned (.tuple #[.int .i64 sn,ev]) ∧ W1.drew = w'):=Hd (by
  rw [hsn,hev]
  exact Session_m mc ht1.drew)
 rw [← hsn];obtain ⟨b1,hb1'⟩ : ∃ b1,b1 = (me == s.epoch):=⟨_,rfl⟩;obtain ⟨b2,hb2'⟩ : ∃ b2,b2 = (ms == sn):=⟨_,rfl⟩;have e1 : (me == s.epoch) = b1:=hb1'.symm;have e2 : (ms == sn) = b2:=hb2'.symm;rw [e1,e2];(have hev' : ev = if model.isClient mc then .nilIface else .iface 69 (.int .i64 2):=by rw [hev];split <;> rfl);clear hev hsn hb1' hb2' h c5 c6 ht1 hb1
 cases hcl : model.isClient mc with
 | false =>
  rw [hcl] at hev';obtain rfl : ev = .iface 69 (.int .i64 2):=hev';clear hcl;(go_enter Tryz.func91,Tryz.ntmps91);go_wp2;rw [← hW1];clear hW1;go_region_held3 (fun W => W.cell? ⟨sb,29,none⟩ = some (.pointer (some ⟨tb,0,none⟩)) ∧ W.cell? ⟨w.heap.size,1,none⟩ = some (.int .i64 mc)) (go_keep) ((go_at_call 121;refine HSE.out.mono ?_;rintro e w' ⟨rfl,rfl⟩))
  all_goals
   (go_wp2_with fail);(go_quiet (fail));(go_wp2_with fail);go_ret;exact ⟨rfl,below_drewN HB1.out.drew _⟩
 | true =>
  rw [hcl] at hev';obtain rfl : ev = .nilIface:=hev';clear hcl;cases b1 <;> cases b2
  all_goals
   (go_enter Tryz.func91,Tryz.ntmps91);go_wp2;rw [← hW1];clear hW1;go_region_held3 (fun W => W.cell? ⟨sb,29,none⟩ = some (.pointer (some ⟨tb,0,none⟩)) ∧ W.cell? ⟨w.heap.size,1,none⟩ = some (.int .i64 mc)) (go_keep) ((go_at_call 121;refine HSE.out.mono ?_;rintro e w' ⟨rfl,rfl⟩))
   all_goals
    (go_wp2_with fail);(go_quiet (fail));(go_wp2_with fail);go_ret;exact ⟨rfl,below_drewN HB1.out.drew _⟩
end
section
variable {P : Lib.PrintTabs} {own : Nat → Nat} {w0 : World} {sb db wb dm tb tm : Nat} {v : Value} {ps : List ByteArray} {qs : List Value} {d : Disk} {s : Server}
theorem zero_row (w : World) : Has (w.alloc (.cells #[.int .i64 0,.int .i64 0,.int .i64 0,.int .i64 0,.int .i64 0,.int .i64 0,.int .i64 0,.bool false,.string ⟨#[]⟩] 93)) w.heap.size (.cells #[.int .i64 0,.int .i64 0,.int .i64 0,.int .i64 0,.int .i64 0,.int .i64 0,.int .i64 0,.bool false,.string ⟨#[]⟩] 93):=Has.new _ _
theorem msg_cells (m : Msg) : ∃ cs : Array Value,m.val = .agg cs ∧ cs.size = 9 ∧ cs.all (·.oneCell') = true:=⟨(msgRow m).toArray,rfl,rfl,by simp [msgRow,Value.oneCell']⟩
theorem infoMsg9 {cs : Array Value} (h : cs.size = 9) : (Tryz.prog.info? 93).map (·.size) = some cs.size:=by rw [h];kernel_rfl
set_option maxRecDepth 100000 in
theorem flush_s (w : World) (c : Int) (h : SrvW P own w0 w sb db wb dm tb tm v ps qs d s) :
 Calls Tryz.prog 92 #[.pointer (some ⟨sb,0,none⟩),.int .i64 c] w fun e w' => e = .returned (s.flushMsg c).val ∧ Below w.heap.size w w':=by
 have H:=Hd h;clear h;(go_enter Tryz.func92,Tryz.ntmps92);(go_wp2_with fail);have hb1 : Below w.heap.size w (w.alloc (.cells #[.int .i64 0,.int .i64 0,.int .i64 0,.int .i64 0,.int .i64 0,.int .i64 0,.int .i64 0,.bool false,.string ⟨#[]⟩] 93)):=(Below.refl _ _).alloc (Nat.le_refl _) _;have HZ:=Hd (zero_row w);refine (stamp_s _ { model.noMsg with kind:=8,client:=c } (H.out.below hb1)).mono ?_;rintro e W2 ⟨rfl,hb2⟩;have HB2:=Hd (hb1.trans (hb2.mono hb1.size));have HR:=Hd (HZ.out.below hb2 HZ.out.lt);obtain ⟨cs,hcs,h9,h1⟩:=msg_cells (s.stamp { model.noMsg with kind:=8,client:=c });have HCS:=Hd hcs;rw [hcs];clear hcs hb1 hb2;(go_wp2_with (refine wpList_store_row rfl 93 (.tmp 4) (.tmp 8) rfl w.heap.size cs rfl rfl 93 _ HR.out (infoMsg9 h9) (by rw [h9];rfl) h1 ?_));refine bodyPost_ret (results_cell_row Tryz.results92 _ _ w.heap.size 93 _ (0,0) _ rfl (HR.out.setRow _) Tryz.underlying93 rfl (infoMsg9 h9)) rfl ⟨?_,below_setRow HB2.out (Nat.le_refl _) _⟩;rw [← HCS.out];rfl
set_option maxRecDepth 100000 in
theorem inval_s (w : World) (c : Int) (o : Nat) (ho : o < 8) (h : SrvW P own w0 w sb db wb dm tb tm v ps qs d s) :
 Calls Tryz.prog 99 #[.pointer (some ⟨sb,0,none⟩),.int .i64 c,.int .i64 o] w fun e w' => e = .returned (s.inval c o).val ∧ Below w.heap.size w w':=by
 have H:=Hd h;have hb1 : Below w.heap.size w (w.alloc (.cells #[.int .i64 0,.int .i64 0,.int .i64 0,.int .i64 0,.int .i64 0,.int .i64 0,.int .i64 0,.bool false,.string ⟨#[]⟩] 93)):=(Below.refl _ _).alloc (Nat.le_refl _) _;have HZ:=Hd (zero_row w);have cV:=(h.cellV o ho).2;have hlt:=h.s_.lt;(have ho8 : (o : Int) < 8:=by omega);have HB1:=Hd hb1;clear h hb1;(go_enter Tryz.func99,Tryz.ntmps99);(go_wp2_with fail);refine (stamp_s _ { model.noMsg with kind:=9,client:=c,object:=o,version:=wrap64 ((s.value o).ver + 1) } (H.out.below HB1.out)).mono ?_;rintro e W2 ⟨rfl,hb2⟩;have HB2:=Hd (HB1.out.trans (hb2.mono HB1.out.size));have HR:=Hd (HZ.out.below hb2 HZ.out.lt);obtain ⟨cs,hcs,h9,h1⟩:=msg_cells (s.stamp { model.noMsg with kind:=9,client:=c,object:=o,version:=wrap64 ((s.value o).ver + 1) });have HCS:=Hd hcs;rw [hcs];clear hcs hb2 cV;(go_wp2_with (refine wpList_store_row rfl 93 (.tmp 6) (.tmp 19) rfl w.heap.size cs rfl rfl 93 _ HR.out (infoMsg9 h9) (by rw [h9];rfl) h1 ?_));refine bodyPost_ret (results_cell_row Tryz.results99 _ _ w.heap.size 93 _ (0,0) _ rfl (HR.out.setRow _) Tryz.underlying93 rfl (infoMsg9 h9)) rfl ⟨?_,below_setRow HB2.out (Nat.le_refl _) _⟩;rw [← HCS.out];rfl
end
theorem vals_set (x : Val) : ∀ (vals : List Val) (o : Nat),o < vals.length → ((vals.flatMap valRow).set (o * 2) (.string ⟨x.data.toArray⟩)).set (o * 2 + 1) (.int .i64 x.ver) = (vals.set o x).flatMap valRow
 | [],_,h => by simp at h
 | y :: l,0,_ => by simp [valRow]
 | y :: l,o + 1,h => by
  simp only [List.length_cons] at h;have ih:=vals_set x l o (by omega);have e : (valRow y).length = 2:=rfl;rw [List.set_cons_succ,List.flatMap_cons,List.flatMap_cons,← ih,Nat.add_mul,Nat.one_mul,List.set_append_right _ _ (by rw [e];omega),List.set_append_right _ _ (by rw [e];omega),e,Nat.add_sub_cancel,show o * 2 + 2 + 1 - 2 = o * 2 + 1 by omega]
theorem scells_vals {t : Terms} {wb dm tb : Nat} {vals : List Val} {qs : List Value} {e q n o : Int} (hv : vals.length = 8) (k : Nat) (hk : k < 8) (x : Val) :
 ((scells t wb vals qs dm tb e q n o).set (4 + k * 2) (.string ⟨x.data.toArray⟩)).set (4 + k * 2 + 1) (.int .i64 x.ver) = scells t wb (vals.set k x) qs dm tb e q n o:=by
 (have hvl : (vals.flatMap valRow).length = 16:=by rw [flat_len valRow_len,hv]);unfold scells;rw [List.set_append_right _ _ (by simp),List.set_append_right _ _ (by simp;omega),show 4 + k * 2 - ([.int .i64 t.object,.int .i64 t.volume,.int .i64 t.drift,.pointer (some ⟨wb,0,none⟩)] : List Value).length = k * 2 by simp,show 4 + k * 2 + 1 - ([.int .i64 t.object,.int .i64 t.volume,.int .i64 t.drift,.pointer (some ⟨wb,0,none⟩)] : List Value).length = k * 2 + 1 by simp;omega];rw [List.set_append_left _ _ (by rw [hvl];omega),List.set_append_left _ _ (by rw [List.length_set,hvl];omega),vals_set x vals k (by omega)]
section
variable {P : Lib.PrintTabs} {own : Nat → Nat} {w0 : World} {sb db wb dm tb tm : Nat} {v : Value} {ps : List ByteArray} {qs : List Value} {d : Disk} {s : Server}
theorem done_few {w : World} (h : SrvW P own w0 w sb db wb dm tb tm v ps qs d s) : s.done.length ≤ 4:=by
 have:=nodup_le (s.done.map (·.1)) [0,1,2,3] h.done.nodup (fun x hx => by
  obtain ⟨p,hp,rfl⟩:=List.mem_map.1 hx;have:=h.ok.dk p hp;have h2 : p.1 = 0 ∨ p.1 = 1 ∨ p.1 = 2 ∨ p.1 = 3:=by omega
  rcases h2 with h2 | h2 | h2 | h2 <;> rw [h2] <;> simp)
 simpa using this
theorem SrvW.setVal {w w' : World} (h : SrvW P own w0 w sb db wb dm tb tm v ps qs d s) (k : Nat) (hk : k < 8) (x : Val) (ht : Turn (fun g => g = sb) w w')
 (hs : Has w' sb (.cells (((scells s.terms wb s.values qs dm tb s.epoch s.quiet s.now s.torn).toArray.setIfInBounds (4 + k * 2) (.string ⟨x.data.toArray⟩)).setIfInBounds (4 + k * 2 + 1) (.int .i64 x.ver)) 105)) : SrvW P own w0 w' sb db wb dm tb tm v ps qs d { s with values:=s.values.set k x }:=by
 refine h.upd ht ?_ ⟨by show (s.values.set k x).length = 8;rw [List.length_set];exact h.nv,h.nq,h.ok.qc,h.ok.dk,h.ok.rc,h.ok.ql⟩ h.lq (h.queue_upd ht) rfl rfl rfl;rw [List.setIfInBounds_toArray,List.setIfInBounds_toArray,scells_vals h.nv k hk] at hs;exact hs
theorem SrvW.putDone {w w' : World} (h : SrvW P own w0 w sb db wb dm tb tm v ps qs d s) (c : Int) (hc : 0 ≤ c ∧ c < 4) (m : Msg) (hm : At doneS w' dm (put c m s.done)) (hg : w.grownBy w' (some dm)) : SrvW P own w0 w' sb db wb dm tb tm v ps qs d { s with done:=put c m s.done }:=by
 have ht : Turn (fun g => g = dm) w w':=⟨hg.os,hg.tape,hg.output,hg.size,fun k hk hn => hg.block k hk (fun e => hn (by simpa using e))⟩;(have ne : ∀ g k,own g = k → k ≠ 5 → g ≠ dm:=fun g k hk h4 e => by rw [e,h.odm] at hk;exact h4 hk.symm);refine ⟨h.kit0,h.hdl0,h.bel.trans (ht.to_below h.le fun k hk e => by have:=h.low dm ⟨by rw [h.odm];decide,by rw [h.odm];decide⟩;omega),h.low,fun g hg => h.fr g (Nat.le_trans ht.size hg),h.wal.turn ht (ne _ 3 h.wal.ow (by decide)) fun k hk => ne k 2 hk (by decide),h.dsk.turn ht (ne _ 1 h.odb (by decide)),h.pls,h.odb,ht.has h.s_ (ne _ 4 h.osb (by decide)),h.osb,⟨h.nv,h.nq,h.ok.qc,fun p hp => ?_,h.ok.rc,h.ok.ql⟩,h.lq,fun o ho => (h.queue o ho).keep ht (Ext.refl _ _) fun k _ hk => ne k _ hk (by omega),hm,h.odm,h.table.turn ht (ne _ 6 h.otb (by decide)) (ne _ 7 h.otm (by decide)),h.otb,h.otm⟩;rcases List.mem_cons.1 hp with rfl | hp
 ·exact hc
 ·exact h.ok.dk p ((del_sublist _ _).mem hp)
set_option maxHeartbeats 2000000 in
set_option maxRecDepth 100000 in
theorem applies_s (w : World) (r : Rec) (o : Nat) (ho : o < 8) (hro : r.object = o) (hc : 0 ≤ r.client ∧ r.client < 4) (h : SrvW P own w0 w sb db wb dm tb tm v ps qs d s) :
 Calls Tryz.prog 54 #[.pointer (some ⟨sb,0,none⟩),recV r] w fun e w' => e = .returned (s.applies r).2.val ∧ SrvW P own w0 w' sb db wb dm tb tm v ps qs d (s.applies r).1 ∧ Turn (fun g => g = sb ∨ g = dm) w w':=by
 obtain ⟨rc,rn,ro,rv,rd,re⟩:=r;dsimp only at hro hc;subst hro;obtain ⟨W1,hW1⟩ : ∃ W1,W1 = (w.alloc (.cells (recCells rc rn (o : Int) rv ⟨rd.toArray⟩ re) 113)).alloc (.cells #[.int .i64 0,.int .i64 0,.int .i64 0,.int .i64 0,.int .i64 0,.int .i64 0,.int .i64 0,.bool false,.string ⟨#[]⟩] 93):=⟨_,rfl⟩;(have hb1 : Below w.heap.size w W1:=by rw [hW1];exact ((Below.refl _ _).alloc (Nat.le_refl _) _).alloc (by simp) _);(have hs1 : W1.heap.size = w.heap.size + 2:=by rw [hW1];simp);(have hx1 : Has W1 w.heap.size (.cells (recCells rc rn (o : Int) rv ⟨rd.toArray⟩ re) 113):=by rw [hW1];exact (Has.new w _).alloc _);(have hr1 : Has W1 (w.heap.size + 1) (.cells #[.int .i64 0,.int .i64 0,.int .i64 0,.int .i64 0,.int .i64 0,.int .i64 0,.int .i64 0,.bool false,.string ⟨#[]⟩] 93):=by rw [hW1,← World.size_alloc w];exact Has.new _ _);have h1:=h.below hb1;have hlt:=h.s_.lt;have HLD:=Hd (done_few h);have HD0:=Hd h.done.lt;have HFR:=Hd h.fr;have HLE:=Hd h.le;have HOK : Hid (i64ok rc):=Hd (WalkArith.wf_i64 (by omega));have x2 : W1.cell? ⟨w.heap.size,2,none⟩ = some (.int .i64 o):=hx1.cell 2;have x3 : W1.cell? ⟨w.heap.size,3,none⟩ = some (.int .i64 rv):=hx1.cell 3;have x4 : W1.cell? ⟨w.heap.size,4,none⟩ = some (.string ⟨rd.toArray⟩):=hx1.cell 4;have cv:=h1.cellV o ho;have c0:=cv.1;have c1:=cv.2;have f0:=h1.s_.frozen (4 + o * 2);have f1:=h1.s_.frozen (4 + o * 2 + 1);(have ho8 : (o : Int) < 8:=by omega);have hne : w.heap.size ≠ sb:=Nat.ne_of_gt hlt;have H1:=Hd h1;have HX:=Hd hx1;have HR:=Hd hr1;have HB:=Hd hb1;have HC:=Hd hc
 have HS2 : ∀ (u v : Value),(((W1.setCell ⟨sb,4 + o * 2,none⟩ u).setCell ⟨sb,4 + o * 2 + 1,none⟩ v).drew.cell? ⟨w.heap.size,2,none⟩ = some (.int .i64 o) ∧ ((W1.setCell ⟨sb,4 + o * 2,none⟩ u).setCell ⟨sb,4 + o * 2 + 1,none⟩ v).drew.cell? ⟨w.heap.size,3,none⟩ = some (.int .i64 rv) ∧ ((W1.setCell ⟨sb,4 + o * 2,none⟩ u).setCell ⟨sb,4 + o * 2 + 1,none⟩ v).drew.cell? ⟨w.heap.size,4,none⟩ = some (.string ⟨rd.toArray⟩)):=fun u v =>
  ⟨(World.cell?_setCell_far _ _ _ _ hne.symm).trans ((World.cell?_setCell_far _ _ _ _ hne.symm).trans x2),(World.cell?_setCell_far _ _ _ _ hne.symm).trans ((World.cell?_setCell_far _ _ _ _ hne.symm).trans x3),(World.cell?_setCell_far _ _ _ _ hne.symm).trans ((World.cell?_setCell_far _ _ _ _ hne.symm).trans x4)⟩
 unfold recV;clear h h1 hx1 hr1 hb1 cv hc;(go_enter Tryz.func54,Tryz.ntmps54);go_wp2;rw [← hW1];clear hW1;(go_region_held3 (fun W => W.cell? ⟨w.heap.size,2,none⟩ = some (.int .i64 o) ∧ W.cell? ⟨w.heap.size,3,none⟩ = some (.int .i64 rv) ∧ W.cell? ⟨w.heap.size,4,none⟩ = some (.string ⟨rd.toArray⟩)) (first | go_keep | exact HS2 _ _) (fail));obtain ⟨W2,hW2⟩ : ∃ W2,W2 = ((W1.setCell ⟨sb,4 + o * 2,none⟩ (.string ⟨rd.toArray⟩)).setCell ⟨sb,4 + o * 2 + 1,none⟩ (.int .i64 rv)).drew:=⟨_,rfl⟩;(have ht2 : Turn (fun g => g = sb) W1 W2:=by rw [hW2];exact (turn_set (turn_set (Turn.refl _ _) _ _) _ _).drew);have h2 : SrvW P own w0 W2 sb db wb dm tb tm v ps qs d { s with values:=s.values.set o ⟨rd,rv⟩ }:=H1.out.setVal o ho ⟨rd,rv⟩ ht2 (by rw [hW2];exact ((H1.out.s_.set_ _ _).set_ _ _).drew);have hx2 : Has W2 w.heap.size (.cells (recCells rc rn o rv ⟨rd.toArray⟩ re) 113):=ht2.has HX.out hne;(have hs2 : W2.heap.size = w.heap.size + 2:=by rw [hW2,← hs1];simp [World.setCell]);have HR2:=Hd (ht2.has HR.out (by omega));have HT2:=Hd ht2;have H2:=Hd h2;have HX2:=Hd hx2;have y0 : W2.cell? ⟨w.heap.size,0,none⟩ = some (.int .i64 rc):=hx2.cell 0;have y1 : W2.cell? ⟨w.heap.size,1,none⟩ = some (.int .i64 rn):=hx2.cell 1;have y2 : W2.cell? ⟨w.heap.size,2,none⟩ = some (.int .i64 o):=hx2.cell 2;have y3 : W2.cell? ⟨w.heap.size,3,none⟩ = some (.int .i64 rv):=hx2.cell 3;rw [← hW2];clear hW2 h2 hx2 ht2 x2 x3 x4 c0 c1 f0 f1 HS2;(go_wp2_with fail);obtain ⟨W3,hW3⟩ : ∃ W3,W3 = W2.alloc (.cells #[.int .i64 6,.int .i64 rc,.int .i64 rn,.int .i64 0,.int .i64 0,.int .i64 (o : Int),.int .i64 rv,.bool false,.string ⟨#[]⟩] 93):=⟨_,rfl⟩;(have hb3 : Below W2.heap.size W2 W3:=by rw [hW3];exact (Below.refl _ _).alloc (Nat.le_refl _) _);(have gm : Has W3 (w.heap.size + 2) (.cells #[.int .i64 6,.int .i64 rc,.int .i64 rn,.int .i64 0,.int .i64 0,.int .i64 (o : Int),.int .i64 rv,.bool false,.string ⟨#[]⟩] 93):=by rw [hW3,← hs2];exact Has.new _ _);have h3:=H2.out.below hb3;have g28 : W3.cell? ⟨sb,28,none⟩ = some (.map (some dm)):=h3.cellT 0 _ rfl;have gx0 : W3.cell? ⟨w.heap.size,0,none⟩ = some (.int .i64 rc):=(HX2.out.below hb3 (by omega)).cell 0;have HM3:=Hd h3.done;have H3:=Hd h3;have HR3:=Hd (HR2.out.below hb3 (by omega));have HT3:=Hd (HT2.out.then_below hb3 (Nat.le_refl _));(have hs3 : W3.heap.size = w.heap.size + 3:=by rw [hW3];simp;omega);rw [← hW3];clear hW3 hb3 h3 y0 y1 y2 y3;have HS : Hid (W3.drew.cell? ⟨sb,28,none⟩ = some (.map (some dm)) ∧ W3.drew.cell? ⟨w.heap.size,0,none⟩ = some (.int .i64 rc) ∧ Has W3.drew (w.heap.size + 2) (.cells #[.int .i64 6,.int .i64 rc,.int .i64 rn,.int .i64 0,.int .i64 0,.int .i64 (o : Int),.int .i64 rv,.bool false,.string ⟨#[]⟩] 93)):=Hd ⟨g28,gx0,gm⟩;refine last.head (fun W => W.cell? ⟨sb,28,none⟩ = some (.map (some dm)) ∧ W.cell? ⟨w.heap.size,0,none⟩ = some (.int .i64 rc) ∧ Has W (w.heap.size + 2) (.cells #[.int .i64 6,.int .i64 rc,.int .i64 rn,.int .i64 0,.int .i64 0,.int .i64 (o : Int),.int .i64 rv,.bool false,.string ⟨#[]⟩] 93)) 7 8 ?_;refine last.many [(0,26,_),(1,27,_),(2,28,_),(3,29,_),(4,30,_),(5,31,_),(6,32,_)] HS.out ?_ (hy:=fun W' hW' => by have h1:=hW'.1;have f0:=hW'.2.1;have e0 : W'.cell? ⟨w.heap.size + 2,0,none⟩ = some (.int .i64 6):=hW'.2.2.cell 0;have e1 : W'.cell? ⟨w.heap.size + 2,1,none⟩ = some (.int .i64 rc):=hW'.2.2.cell 1;have e2 : W'.cell? ⟨w.heap.size + 2,2,none⟩ = some (.int .i64 rn):=hW'.2.2.cell 2;have e3 : W'.cell? ⟨w.heap.size + 2,3,none⟩ = some (.int .i64 0):=hW'.2.2.cell 3;have e4 : W'.cell? ⟨w.heap.size + 2,4,none⟩ = some (.int .i64 0):=hW'.2.2.cell 4;have e5 : W'.cell? ⟨w.heap.size + 2,5,none⟩ = some (.int .i64 (o : Int)):=hW'.2.2.cell 5;have e6 : W'.cell? ⟨w.heap.size + 2,6,none⟩ = some (.int .i64 rv):=hW'.2.2.cell 6;have e7 : W'.cell? ⟨w.heap.size + 2,7,none⟩ = some (.bool false):=hW'.2.2.cell 7;have e8 : W'.cell? ⟨w.heap.size + 2,8,none⟩ = some (.string ⟨#[]⟩):=hW'.2.2.cell 8;repeat (first | exact .z | refine .s ?_ | refine .k ?_));refine last.one 7 fun K hK => ?_;refine wp_mstore doneS (.tmp 29) (.tmp 31) (.tmp 32) rfl rfl (HM3.out.drew) (by show s.done.length < maxLen;unfold maxLen;have:=HLD.out;omega) (k:=rc) (u:=(s.applies ⟨rc,rn,o,rv,rd,re⟩).2) HOK.out trivial rfl rfl ?_;intro w4 hm4 hg4;refine hK.out _ _ (fun h => absurd rfl h) ?_;refine last.done ?_;have h4:=(H3.out.below ((Below.refl _ _).drew)).putDone rc HC.out _ hm4 hg4;have hs4:=hg4.size;(have hs4' : w.heap.size + 3 ≤ w4.heap.size:=by rw [← hs3];exact hs4);have H4:=Hd h4
 have HDM : dm ≠ w.heap.size + 1 ∧ dm ≠ w.heap.size + 2:=by
  have:=HD0.out;omega
 have HM4 : Hid (Has w4 (w.heap.size + 2) (.cells #[.int .i64 6,.int .i64 rc,.int .i64 rn,.int .i64 0,.int .i64 0,.int .i64 (o : Int),.int .i64 rv,.bool false,.string ⟨#[]⟩] 93)):=Hd (gm.drew.grown hg4 (fun e => HDM.2 (by simpa using e.symm)));have HR4:=Hd (HR3.out.drew.grown hg4 (fun e => HDM.1 (by simpa using e.symm)));have HT4 : Hid (Turn (fun g => g = sb ∨ g = dm) W1 w4):=Hd ((HT3.out.mono fun _ _ h => .inl h).drew.grown hg4 (fun k hk => .inr (.inr (by simpa using hk.symm))));clear h4 hm4 hg4 hK K gm g28 gx0 HT3 HR3
 go_wp2_with (first
  | (refine wpList_load_row rfl 93 (.tmp 5) rfl (w.heap.size + 2) rfl 93 _ (0,0) _ HM4.out Tryz.underlying93 rfl (by kernel_rfl) ?_)
  | (refine wpList_store_row rfl 93 (.tmp 4) (.tmp 33) rfl (w.heap.size + 1) _ rfl rfl 93 _ HR4.out (by kernel_rfl) (by kernel_rfl) (by kernel_rfl) ?_))
 have h5:=H4.out.own0 (S:=fun g => g = w.heap.size + 1) (w':=w4.setRow (w.heap.size + 1) #[.int .i64 6,.int .i64 rc,.int .i64 rn,.int .i64 0,.int .i64 0,.int .i64 o,.int .i64 rv,.bool false,.string ⟨#[]⟩]) (Turn.setRow (S:=fun g => g = w.heap.size + 1) (Turn.refl _ _) (.inr rfl) _) fun g _ hg => ⟨HFR.out g (by omega),by have:=HLE.out;omega⟩;refine bodyPost_ret (results_cell_row Tryz.results54 _ _ (w.heap.size + 1) 93 _ (0,0) _ rfl (HR4.out.setRow _) Tryz.underlying93 rfl (by kernel_rfl)) rfl ⟨rfl,h5,?_⟩;exact ((Turn.of_below HB.out (Nat.le_refl _)).trans HT4.out (fun _ _ h => h)).setRow (.inl (by omega)) _
end
theorem owns_kept {B : Nat} {w w1 : World} {e : TypeId} {size n : Nat} {v : Value} {xs : List Value} (h : w.ownsRow B e size v n xs) (hb : ∀ g,v.ownBlock = some g → w1.heap[g]? = w.heap[g]?) : w1.ownsRow B e size v n xs:=by
 refine ⟨h.1,?_⟩;rcases h.2 with h2 | ⟨g,cap,cur,h1,h2,h3,h4⟩
 ·exact .inl h2
 ·exact .inr ⟨g,cap,cur,h1,h2,(hb g (by rw [h1];rfl)).trans h3,h4⟩
def MsgsAt (B : Nat) (w : World) (v : Value) (l : List Msg) : Prop:=w.ownsRow B 93 9 v l.length (l.flatMap msgRow)
theorem MsgsAt.nil (B : Nat) (w : World) : MsgsAt B w (.slice none 0 0) []:=World.ownsRow_nil w B _ 9
theorem MsgsAt.below {B : Nat} {w w' : World} {v : Value} {l : List Msg} (h : MsgsAt B w v l) (hb : Below w.heap.size w w') : MsgsAt B w' v l:=owns_below h hb
theorem MsgsAt.base {B B' : Nat} {w : World} {v : Value} {l : List Msg} (h : MsgsAt B w v l) (hb : B' ≤ B) : MsgsAt B' w v l:=owns_base h hb
theorem MsgsAt.turn {B : Nat} {w w' : World} {v : Value} {l : List Msg} {S : Nat → Prop} (h : MsgsAt B w v l) (ht : Turn S w w') (hs : ∀ g,B ≤ g → g < w.heap.size → ¬ S g) : MsgsAt B w' v l:=
 owns_kept h fun g hg => by
  have h1:=h.lt g hg;exact ht.block g h1.2 (hs g h1.1 h1.2)
theorem MsgsAt.new {w : World} {l : List Msg} (hl : l.length ≤ 1000) : MsgsAt w.heap.size (w.alloc (.cells (l.flatMap msgRow).toArray 93)) (.slice (some ⟨w.heap.size,0,none⟩) l.length l.length) l:=
 owns_new (Has.new w _) (Nat.le_refl _) (flat_len msgRow_len l) (by unfold maxLen;omega)
def zeroM : Value:=.agg #[.int .i64 0,.int .i64 0,.int .i64 0,.int .i64 0,.int .i64 0,.int .i64 0,.int .i64 0,.bool false,.string ByteArray.empty]
theorem fill_one (m : Msg) : Instr.fill (fun i => some (i * 9,9)) ((Array.range (1 * 9)).map (zeroM.cells[· % zeroM.cells.size]!)) [(0,m.val)] = some (([m] : List Msg).flatMap msgRow).toArray:=by
 obtain ⟨a,b,c,d,e,f,g,l,s⟩:=m
 kernel_rfl
theorem fill_two (m m' : Msg) : Instr.fill (fun i => some (i * 9,9)) ((Array.range (2 * 9)).map (zeroM.cells[· % zeroM.cells.size]!)) [(0,m.val),(1,m'.val)] = some (([m,m'] : List Msg).flatMap msgRow).toArray:=by
 obtain ⟨a,b,c,d,e,f,g,l,s⟩:=m
 obtain ⟨a',b',c',d',e',f',g',l',s'⟩:=m'
 kernel_rfl
section
variable {ops : Array Oper} {rest : List Oper} {o : Oper} {a : Act} {w : World} {K : Act → World → Prop} {Q : Exit → Act → World → Prop}
theorem wp_build1 (x : Operand) (m : Msg) (ho : o.op = .buildSlice 79 1 #[(0,x)]) (hx : a.eval x = m.val)
 (h : K (a.put o.dst (.slice (some ⟨w.heap.size,0,none⟩) 1 1)) (w.alloc (.cells (([m] : List Msg).flatMap msgRow).toArray 93))) : o.wp Tryz.prog a w K Q:=by
 obtain ⟨i0,hi0,hz0,hz1,hz2⟩:=info_parts infoMsg;refine wp_buildSlice 79 93 1 _ ho _ i0 _ Tryz.underlying79 hi0 hz0 (by rw [hz1];decide) (by rw [hz1];decide) ?_ h;rw [hz1];(have e : ((#[(0,x)] : Array (Nat × Operand)).map fun (i,x) => (i,a.eval x)).toList = [(0,m.val)]:=by simp [hx]);rw [e];exact fill_one m
theorem wpList_build1 (hg : o.guard = none) (x : Operand) (m : Msg) (ho : o.op = .buildSlice 79 1 #[(0,x)]) (hx : a.eval x = m.val)
 (h : wpList Tryz.prog ops Q rest (a.put o.dst (.slice (some ⟨w.heap.size,0,none⟩) 1 1)) (w.alloc (.cells (([m] : List Msg).flatMap msgRow).toArray 93))) : wpList Tryz.prog ops Q (o :: rest) a w:=
 wpList_plain hg fun _ hK => wp_build1 x m ho hx (hK _ _ h)
theorem wp_build2 (x x' : Operand) (m m' : Msg) (ho : o.op = .buildSlice 79 2 #[(0,x),(1,x')]) (hx : a.eval x = m.val) (hx' : a.eval x' = m'.val)
 (h : K (a.put o.dst (.slice (some ⟨w.heap.size,0,none⟩) 2 2)) (w.alloc (.cells (([m,m'] : List Msg).flatMap msgRow).toArray 93))) : o.wp Tryz.prog a w K Q:=by
 obtain ⟨i0,hi0,hz0,hz1,hz2⟩:=info_parts infoMsg;refine wp_buildSlice 79 93 2 _ ho _ i0 _ Tryz.underlying79 hi0 hz0 (by rw [hz1];decide) (by rw [hz1];decide) ?_ h;rw [hz1];(have e : ((#[(0,x),(1,x')] : Array (Nat × Operand)).map fun (i,x) => (i,a.eval x)).toList = [(0,m.val),(1,m'.val)]:=by simp [hx,hx']);rw [e];exact fill_two m m'
theorem wp_appendMsgs (x y : Operand) {B B' : Nat} (hB : B ≤ w.heap.size) (v u : Value) (l n : List Msg) (ho : o.op = .call { callee:=.builtin .append,args:=#[x,y],argTypes:=#[79,79] }) (hx : a.eval x = v) (hy : a.eval y = u)
 (hl : MsgsAt B w v l) (hn : MsgsAt B' w u n) (hne : n ≠ []) (hln : l.length + n.length ≤ 1000000) (H : Nat) (hH : w.heap.size = H)
 (h : ∀ v' w',MsgsAt B w' v' (l ++ n) → w.grownBy w' v.ownBlock → (∀ g,v'.ownBlock = some g → v.ownBlock = some g ∨ g = H) → K (a.put o.dst v') w') : o.wp Tryz.prog a w K Q:=by
 obtain ⟨i0,hi0,hz0,hz1,hz2⟩:=info_parts infoMsg;have hpos : 0 < n.length:=List.length_pos_iff.2 hne;rcases hn.2 with ⟨-,h0⟩ | ⟨g,cap,cur,rfl,hb,hh,h1,h2,h3,h4⟩
 ·omega
 ·refine wp_append_lies w x y 79 ho B 93 i0 _ 9 80 Tryz.underlying79 hi0 hz0 hz1 hz2 rfl (by decide) v l.length (l.flatMap msgRow) hx hl ⟨g,0,none⟩ n.length cap (n.flatMap msgRow) hy (flat_len msgRow_len n) (fun j u hj => ?_) (flat_one msgRow_one n) hpos (by unfold maxLen;omega) (by omega) hB H hH fun g' cap' w' r1 r2 r3 _ => h _ _ ?_ r2 ?_
  ·(have hjl : j < n.length * 9:=by rw [← flat_len msgRow_len n];exact (List.getElem?_eq_some_iff.1 hj).1);(have e1 : (⟨g,0,none⟩ : Addr).add j = ⟨g,j,none⟩:=by by_cases h0 : j = 0 <;> simp [Addr.add,h0]);rw [e1,(row_cell hh h4 j hjl).1,hj]
  ·unfold MsgsAt;rw [List.length_append,List.flatMap_append];exact r1
  ·intro g'' hg'';(obtain rfl : g' = g'':=by simpa [Value.ownBlock] using hg'');exact r3
end
end srv
end Go.Proofs.YtefkmcjhgoagcaaGreatDoor
