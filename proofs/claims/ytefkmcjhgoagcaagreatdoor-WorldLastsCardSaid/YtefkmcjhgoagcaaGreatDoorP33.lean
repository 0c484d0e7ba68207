/-
  A part of the proof of the law WorldLasts: WoA, WoB, WoC, WoG, WoH, WoI, WoD, WoE, WoF, WoJ.
-/
import Derived.Test.YtefkmcjhgoagcaaGreatDoorHd
import Derived.Test.YtefkmcjhgoagcaaGreatDoorP17
import Derived.Test.YtefkmcjhgoagcaaGreatDoorP28
import Derived.Test.YtefkmcjhgoagcaaGreatDoorP32
namespace Go.Proofs.YtefkmcjhgoagcaaGreatDoor
namespace wor
open Go.RowKit heap own errs mapof wire srv cli
open model (Disk Server Client MCall MEvent Terms Gram Net Realm)
def evRow (e : MEvent) : List Value:=[.int .i64 e.client,.int .i64 e.call.kind,.int .i64 e.call.object,.string ⟨e.call.value.data.toArray⟩,.int .i64 e.call.value.ver,.bool e.call.over,.bool e.call.hit,.int .i64 e.began,.int .i64 e.ended,.int .i64 e.life]
theorem evRow_len (e : MEvent) : (evRow e).length = 10:=rfl
def ints (l : List Int) : List Value:=l.map (Value.int .i64)
def dg (g : Gram) : Int × List UInt8:=(g.to,encB g.msg)
structure WV where
 sp : Value
 cl : Value
 li : Value
 ck : Value
 nl : Value
 ev : Value
 op : Value
 pts : List Nat
def wcells (db : Nat) (v : WV) (r : Realm) : Array Value:=#[.int .i64 r.terms.object,.int .i64 r.terms.volume,.int .i64 r.terms.drift,.pointer (some ⟨db,0,none⟩),v.sp,v.cl,v.li,v.ck,v.nl,.int .i64 r.net.lost,v.ev,v.op,.int .i64 r.step]
def SrvPart (P : Lib.PrintTabs) (own : Nat → Nat) (w0 w : World) (db : Nat) (sp : Value) (d : Disk) : Option Server → Prop
 | some s => ∃ sb wb dm tb tm v ps qs,sp = .pointer (some ⟨sb,0,none⟩) ∧ SrvW P own w0 w sb db wb dm tb tm v ps qs d s
 | none => sp = .pointer none ∧ ∃ ps,DskW P own w0 w db ps d
structure WorW (P : Lib.PrintTabs) (own : Nat → Nat) (w0 w : World) (ob db : Nat) (v : WV) (r : Realm) : Prop where
 fr : ∀ g,w.heap.size ≤ g → own g = 0
 low : ∀ g,own g ≠ 0 → w0.heap.size ≤ g
 o_ : Has w ob (.cells (wcells db v r) 68)
 oob : own ob = 60
 srv : SrvPart P own w0 w db v.sp r.disk r.server
 cl : Row own 61 w 75 1 v.cl r.clients.length (v.pts.map fun b => Value.pointer (some ⟨b,0,none⟩))
 pl : v.pts.length = r.clients.length
 cls : ∀ k c,r.clients[k]? = some c → ∃ cb fm sm cv,v.pts[k]? = some cb ∧ CliW own (20 + 4 * k) w cb fm sm cv c
 few : r.clients.length ≤ 4
 li : Row own 62 w 3 1 v.li r.lives.length (ints r.lives)
 ck : Row own 63 w 3 1 v.ck r.clocks.length (ints r.clocks)
 ev : Row own 64 w 45 10 v.ev r.events.length (r.events.flatMap evRow)
 op : Row own 65 w 3 1 v.op r.opens.length (ints r.opens)
 net : net.Grams own 66 w v.nl (r.net.l.map dg)
 right : ∀ g ∈ r.net.l,g.msg.right = true
 nl : r.lives.length = r.clients.length
 nc : r.clients.length + 1 ≤ r.clocks.length ∧ r.clocks.length ≤ 5
 no : r.opens.length = r.clients.length
section
variable {P : Lib.PrintTabs} {own own1 : Nat → Nat} {w0 w w' : World} {ob db : Nat} {v : WV} {r : Realm} {S : Nat → Prop}
theorem WorW.bel (h : WorW P own w0 w ob db v r) : Below w0.heap.size w0 w:=by
 have h1:=h.srv;unfold SrvPart at h1;split at h1
 ·obtain ⟨sb,wb,dm,tb,tm,v,ps,qs,-,h2⟩:=h1;exact h2.bel
 ·obtain ⟨-,ps,h2⟩:=h1;exact h2.bel
theorem SrvPart.keep {d : Disk} {sp : Value} {o : Option Server} (h : SrvPart P own w0 w db sp d o) (ht : Turn S w w') (he : Ext w own own1) (hf : ∀ g,w'.heap.size ≤ g → own1 g = 0) (hs : ∀ g,g < w.heap.size → S g → ¬ SrvSet own g ∧ w0.heap.size ≤ g) : SrvPart P own1 w0 w' db sp d o:=by
 unfold SrvPart at h ⊢;split at h
 ·obtain ⟨sb,wb,dm,tb,tm,v,ps,qs,h1,h2⟩:=h;exact ⟨sb,wb,dm,tb,tm,v,ps,qs,h1,h2.turn ht he hf hs⟩
 ·obtain ⟨h1,ps,h2⟩:=h;refine ⟨h1,ps,h2.turn ht he hf fun g hg hS => ⟨fun e => (hs g hg hS).1 ?_,(hs g hg hS).2⟩⟩;unfold SrvSet;rw [e,h2.odb];decide
theorem WorW.server (h : WorW P own w0 w ob db v r) (ht : Turn (SrvSet own) w w') (he : Ext w own own1) (hf : ∀ g,w'.heap.size ≤ g → own1 g = 0) (hlow : ∀ g,own1 g ≠ 0 → w0.heap.size ≤ g) (d : Disk) (s : Option Server) (hs : SrvPart P own1 w0 w' db v.sp d s) : WorW P own1 w0 w' ob db v { r with disk:=d,server:=s }:=by
 (have no : ∀ g k,own g = k → 20 ≤ k → ¬ SrvSet own g:=fun g k hk h1 e => by unfold SrvSet at e;omega);have lo:=h.o_.lt;refine ⟨hf,hlow,ht.has h.o_ (no _ 60 h.oob (by decide)),(he _ lo).trans h.oob,hs,h.cl.keep ht he fun k _ hk => no k 61 hk (by decide),h.pl,fun k c hc => ?_,h.few,h.li.keep ht he fun k _ hk => no k 62 hk (by decide),h.ck.keep ht he fun k _ hk => no k 63 hk (by decide),h.ev.keep ht he fun k _ hk => no k 64 hk (by decide),h.op.keep ht he fun k _ hk => no k 65 hk (by decide),?_,h.right,h.nl,h.nc,h.no⟩
 ·obtain ⟨cb,fm,sm,cv,h1,h2⟩:=h.cls k c hc;exact ⟨cb,fm,sm,cv,h1,h2.turn ht he fun g _ hS hc => by unfold SrvSet at hS;unfold CliSet at hc;omega⟩
 ·obtain ⟨ps,h1,h2,h3,h4⟩:=h.net;exact ⟨ps,h1,h2.keep ht he fun k _ hk => no k 66 hk (by decide),fun p hp => (h3 p hp).keep ht he fun k _ hk => no k 67 hk (by decide),h4⟩
theorem WorW.client (h : WorW P own w0 w ob db v r) (k : Nat) (hk : k < r.clients.length) (ht : Turn (CliSet own (20 + 4 * k)) w w') (he : Ext w own own1) (hf : ∀ g,w'.heap.size ≤ g → own1 g = 0) (hlow : ∀ g,own1 g ≠ 0 → w0.heap.size ≤ g) (c' : Client) (hc : ∃ cb fm sm cv,v.pts[k]? = some cb ∧ CliW own1 (20 + 4 * k) w' cb fm sm cv c') : WorW P own1 w0 w' ob db v { r with clients:=r.clients.set k c' }:=by
 have hk4 : k < 4:=Nat.lt_of_lt_of_le hk h.few;(have no : ∀ g i,own g = i → 60 ≤ i → ¬ CliSet own (20 + 4 * k) g:=fun g i hi h1 e => by unfold CliSet at e;omega);have lo:=h.o_.lt;refine ⟨hf,hlow,ht.has h.o_ (no _ 60 h.oob (by decide)),(he _ lo).trans h.oob,h.srv.keep ht he hf fun g _ hS => ?_,?_,?_,fun j c hj => ?_,?_,h.li.keep ht he fun i _ hi => no i 62 hi (by decide),h.ck.keep ht he fun i _ hi => no i 63 hi (by decide),h.ev.keep ht he fun i _ hi => no i 64 hi (by decide),h.op.keep ht he fun i _ hi => no i 65 hi (by decide),?_,h.right,?_,?_,?_⟩
 ·unfold CliSet at hS;exact ⟨fun e => by unfold SrvSet at e;omega,h.low g (by omega)⟩
 ·rw [List.length_set];exact h.cl.keep ht he fun i _ hi => no i 61 hi (by decide)
 ·rw [List.length_set];exact h.pl
 ·have hj' : (r.clients.set k c')[j]? = some c:=hj;rw [List.getElem?_set] at hj';split at hj'
  ·rename_i hkj;subst hkj;cases hj';exact hc
  ·rename_i hkj;obtain ⟨cb,fm,sm,cv,h1,h2⟩:=h.cls j c hj';exact ⟨cb,fm,sm,cv,h1,h2.turn ht he fun g _ hS hc => by unfold CliSet at hS hc;omega⟩
 ·rw [List.length_set];exact h.few
 ·obtain ⟨ps,h1,h2,h3,h4⟩:=h.net;exact ⟨ps,h1,h2.keep ht he fun i _ hi => no i 66 hi (by decide),fun p hp => (h3 p hp).keep ht he fun i _ hi => no i 67 hi (by decide),h4⟩
 ·rw [List.length_set];exact h.nl
 ·rw [List.length_set];exact h.nc
 ·rw [List.length_set];exact h.no
theorem WorW.keep (h : WorW P own w0 w ob db v r) (ht : Turn S w w') (he : Ext w own own1) (hf : ∀ g,w'.heap.size ≤ g → own1 g = 0) (hlow : ∀ g,own1 g ≠ 0 → w0.heap.size ≤ g) (hs : ∀ g,g < w.heap.size → S g → own g = 0 ∧ w0.heap.size ≤ g) : WorW P own1 w0 w' ob db v r:=by
 (have no : ∀ g i,g < w.heap.size → own g = i → 0 < i → ¬ S g:=fun g i hg hi h1 e => by have:=(hs g hg e).1;omega);have lo:=h.o_.lt;refine ⟨hf,hlow,ht.has h.o_ (no _ 60 lo h.oob (by decide)),(he _ lo).trans h.oob,h.srv.keep ht he hf fun g hg hS => ⟨fun e => by have:=(hs g hg hS).1;unfold SrvSet at e;omega,(hs g hg hS).2⟩,h.cl.keep ht he fun i hg hi => no i 61 hg hi (by decide),h.pl,fun k c hc => ?_,h.few,h.li.keep ht he fun i hg hi => no i 62 hg hi (by decide),h.ck.keep ht he fun i hg hi => no i 63 hg hi (by decide),h.ev.keep ht he fun i hg hi => no i 64 hg hi (by decide),h.op.keep ht he fun i hg hi => no i 65 hg hi (by decide),?_,h.right,h.nl,h.nc,h.no⟩
 ·obtain ⟨cb,fm,sm,cv,h1,h2⟩:=h.cls k c hc;exact ⟨cb,fm,sm,cv,h1,h2.turn ht he fun g hg hS hc => by have:=(hs g hg hS).1;unfold CliSet at hc;omega⟩
 ·obtain ⟨ps,h1,h2,h3,h4⟩:=h.net;exact ⟨ps,h1,h2.keep ht he fun i hg hi => no i 66 hg hi (by decide),fun p hp => (h3 p hp).keep ht he fun i hg hi => no i 67 hg hi (by decide),h4⟩
theorem WorW.below (h : WorW P own w0 w ob db v r) (hb : Below w.heap.size w w') (hf : ∀ g,w'.heap.size ≤ g → own g = 0) : WorW P own w0 w' ob db v r:=
 h.keep (S:=fun _ => False) (Turn.of_below hb (Nat.le_refl _)) (Ext.refl _ _) hf h.low fun _ _ h => h.elim
theorem WorW.drewN (h : WorW P own w0 w ob db v r) (n : Nat) : WorW P own w0 (w.drewN n) ob db v r:=h.below (below_drewN (Below.refl _ _) n) h.fr
theorem WorW.upd2 (h : WorW P own w0 w ob db v r) (n k : Int) (sp : Value) (o : Option Server) (ht : Turn (fun g => g = ob) w w') (hp : SrvPart P own w0 w' db sp r.disk o) (hs : Has w' ob (.cells (wcells db { v with sp:=sp } { r with server:=o,step:=n,net:={ r.net with lost:=k } }) 68)) : WorW P own w0 w' ob db { v with sp:=sp } { r with server:=o,step:=n,net:={ r.net with lost:=k } }:=by
 (have no : ∀ g i,own g = i → i ≠ 60 → ¬ g = ob:=fun g i hi h1 e => by rw [e,h.oob] at hi;exact h1 hi.symm);have fr : ∀ g,w'.heap.size ≤ g → own g = 0:=fun g hg => h.fr g (Nat.le_trans ht.size hg);have he:=Ext.refl w own;refine ⟨fr,h.low,hs,h.oob,hp,h.cl.keep ht he fun i _ hi => no i 61 hi (by decide),h.pl,fun k c hc => ?_,h.few,h.li.keep ht he fun i _ hi => no i 62 hi (by decide),h.ck.keep ht he fun i _ hi => no i 63 hi (by decide),h.ev.keep ht he fun i _ hi => no i 64 hi (by decide),h.op.keep ht he fun i _ hi => no i 65 hi (by decide),?_,h.right,h.nl,h.nc,h.no⟩
 ·obtain ⟨cb,fm,sm,cv,h1,h2⟩:=h.cls k c hc;have hk : k < 4:=Nat.lt_of_lt_of_le (List.getElem?_eq_some_iff.mp hc).1 h.few;exact ⟨cb,fm,sm,cv,h1,h2.turn ht he fun g _ hS hc => by unfold CliSet at hc;rw [hS,h.oob] at hc;omega⟩
 ·obtain ⟨ps,h1,h2,h3,h4⟩:=h.net;exact ⟨ps,h1,h2.keep ht he fun i _ hi => no i 66 hi (by decide),fun p hp => (h3 p hp).keep ht he fun i _ hi => no i 67 hi (by decide),h4⟩
theorem WorW.srvOb (h : WorW P own w0 w ob db v r) (ht : Turn (fun g => g = ob) w w') : SrvPart P own w0 w' db v.sp r.disk r.server:=
 h.srv.keep ht (Ext.refl w own) (fun g hg => h.fr g (Nat.le_trans ht.size hg)) fun g _ hS => ⟨fun e => by unfold SrvSet at e;rw [hS,h.oob] at e;omega,by rw [hS];exact h.low ob (by rw [h.oob];decide)⟩
theorem WorW.setStep (h : WorW P own w0 w ob db v r) (n : Int) : WorW P own w0 (w.setCell ⟨ob,12,none⟩ (.int .i64 n)) ob db v { r with step:=n }:=
 h.upd2 n r.net.lost v.sp r.server (wal.turn_set (Turn.refl _ _) _ _) (h.srvOb (wal.turn_set (Turn.refl _ _) _ _)) (h.o_.set_ 12 (.int .i64 n))
theorem SrvPart.none {d : Disk} {sp : Value} {o : Option Server} (h : SrvPart P own w0 w db sp d o) : SrvPart P own w0 w db (.pointer none) d none:=by
 unfold SrvPart at h;split at h
 ·obtain ⟨sb,wb,dm,tb,tm,v,ps,qs,-,h2⟩:=h;exact ⟨rfl,ps,h2.disk⟩
 ·obtain ⟨-,ps,h2⟩:=h;exact ⟨rfl,ps,h2⟩
theorem WorW.setDown (h : WorW P own w0 w ob db v r) : WorW P own w0 (w.setCell ⟨ob,4,none⟩ (.pointer none)) ob db { v with sp:=.pointer none } { r with server:=none }:=
 h.upd2 r.step r.net.lost (.pointer none) none (wal.turn_set (Turn.refl _ _) _ _) (h.srvOb (wal.turn_set (Turn.refl _ _) _ _)).none (h.o_.set_ 4 (.pointer none))
def trim (own : Nat → Nat) (w : World) : Nat → Nat:=fun g => if g < w.heap.size then own g else 0
theorem trim_ext (own : Nat → Nat) (w : World) : Ext w own (trim own w):=fun _ hk => if_pos hk
theorem trim_fr (own : Nat → Nat) (w : World) : ∀ g,w.heap.size ≤ g → trim own w g = 0:=fun _ hg => if_neg (Nat.not_lt.mpr hg)
theorem grams_trim {T : Nat} {u : Value} {l : List net.Dg} (h : net.Grams own T w u l) : net.Grams (trim own w) T w u l:=by
 obtain ⟨ps,h1,h2,h3,h4⟩:=h;have ht : Turn (fun _ => False) w w:=Turn.refl _ _;exact ⟨ps,h1,h2.keep ht (trim_ext own w) fun _ _ _ h => h,fun p hp => (h3 p hp).keep ht (trim_ext own w) fun _ _ _ h => h,h4⟩
theorem WorW.net_ (h : WorW P own w0 w ob db v r) (N : Net) (u : Value) (ht : Turn (fun g => g = ob ∨ own g = 66) w w') (he : Ext w own own1) (hs : Has w' ob (.cells (wcells db { v with nl:=u } { r with net:=N }) 68)) (hg : net.Grams own1 66 w' u (N.l.map dg)) (hr : ∀ g ∈ N.l,g.msg.right = true) : WorW P (trim own1 w') w0 w' ob db { v with nl:=u } { r with net:=N }:=by
 have no : ∀ g i,own g = i → i ≠ 60 → i ≠ 66 → ¬ (g = ob ∨ own g = 66):=fun g i hi h1 h2 e => by
  rcases e with e | e
  ·rw [e,h.oob] at hi;exact h1 hi.symm
  ·exact h2 (hi.symm.trans e)
 have fr:=trim_fr own1 w';have he : Ext w own (trim own1 w'):=fun k hk => (trim_ext own1 w' k (Nat.lt_of_lt_of_le hk ht.size)).trans (he k hk);have lo:=h.o_.lt;have hw : w0.heap.size ≤ w.heap.size:=h.bel.size;refine ⟨fr,fun g hg => ?_,hs,(he _ lo).trans h.oob,h.srv.keep ht he fr fun g _ hS => ?_,h.cl.keep ht he fun i _ hi => no i 61 hi (by decide) (by decide),h.pl,fun k c hc => ?_,h.few,h.li.keep ht he fun i _ hi => no i 62 hi (by decide) (by decide),h.ck.keep ht he fun i _ hi => no i 63 hi (by decide) (by decide),h.ev.keep ht he fun i _ hi => no i 64 hi (by decide) (by decide),h.op.keep ht he fun i _ hi => no i 65 hi (by decide) (by decide),grams_trim hg,hr,h.nl,h.nc,h.no⟩
 ·rcases Nat.lt_or_ge g w.heap.size with h1 | h1
  ·exact h.low g (by rw [← he g h1];exact hg)
  ·omega
 ·rcases hS with hS | hS
  ·exact ⟨fun e => by unfold SrvSet at e;rw [hS,h.oob] at e;omega,by rw [hS];exact h.low ob (by rw [h.oob];decide)⟩
  ·exact ⟨fun e => by unfold SrvSet at e;omega,h.low g (by omega)⟩
 ·obtain ⟨cb,fm,sm,cv,h1,h2⟩:=h.cls k c hc;have hk : k < 4:=Nat.lt_of_lt_of_le (List.getElem?_eq_some_iff.mp hc).1 h.few;refine ⟨cb,fm,sm,cv,h1,h2.turn ht he fun g _ hS hc => ?_⟩;unfold CliSet at hc;rcases hS with hS | hS
  ·rw [hS,h.oob] at hc;omega
  ·omega
theorem WorW.sent (h : WorW P own w0 w ob db v r) (g : Gram) (hgr : g.msg.right = true) (hp : net.SendPost own 66 ob 8 (wcells db v r) 68 (r.net.l.map dg) r.net.lost (dg g) w w') : ∃ own1 v1,WorW P own1 w0 w' ob db v1 { r with net:=r.net.send g } ∧ Ext w own own1 ∧ Turn (fun g => g = ob ∨ own g = 66) w w':=by
 obtain ⟨own2,u,he,ht,hs,hg⟩:=hp
 have e1 : (r.net.send g).l.map dg = (net.sent (r.net.l.map dg) r.net.lost (dg g)).1:=by
  unfold net.sent Net.send;by_cases h1 : 200 ≤ r.net.l.length
  ·simp [h1]
  ·simp [h1]
 have e2 : (r.net.send g).lost = (net.sent (r.net.l.map dg) r.net.lost (dg g)).2:=by
  unfold net.sent Net.send;by_cases h1 : 200 ≤ r.net.l.length
  ·simp [h1]
  ·simp [h1]
 refine ⟨_,_,h.net_ (r.net.send g) u ht he ?_ (by rw [e1];exact hg) fun x hx => ?_,fun k hk => (trim_ext own2 w' k (Nat.lt_of_lt_of_le hk ht.size)).trans (he k hk),ht⟩
 ·rw [← e2] at hs;exact hs
 ·unfold Net.send at hx;split at hx
  ·exact h.right x hx
  ·rcases List.mem_append.mp hx with h1 | h1
   ·exact h.right x h1
   ·rw [List.mem_singleton.mp h1];exact hgr
end
section
variable {P : Lib.PrintTabs} {own : Nat → Nat} {w0 : World} {ob db : Nat} {v : WV} {r : Realm}
theorem begin_w (w : World) (h : WorW P own w0 w ob db v r) : Calls Tryz.prog 38 #[.pointer (some ⟨ob,0,none⟩)] w fun e w' => e = .returned (.tuple #[]) ∧ WorW P own w0 w' ob db v r.begin ∧ Turn (fun g => g = ob) w w':=by
 have c12 : w.cell? ⟨ob,12,none⟩ = some (.int .i64 r.step):=h.o_.cell 12
 have f12:=h.o_.frozen 12
 have H:=Hd h
 clear h
 go_enter Tryz.func38,Tryz.ntmps38
 go_wp2
 go_end0
 exact ⟨rfl,H.out.setStep _,wal.turn_set (Turn.refl _ _) _ _⟩
theorem right_w (w : World) (k : Int) (h : WorW P own w0 w ob db v r) : Calls Tryz.prog 37 #[.pointer (some ⟨ob,0,none⟩),.int .i64 k] w fun e w' => e = .returned (.bool (r.right k)) ∧ w = w':=by
 obtain ⟨a,cp,hcl⟩ : ∃ a cp,v.cl = .slice a r.clients.length cp:=by
  rcases h.cl.1.2 with ⟨h1,h2⟩ | ⟨g,cap,cur,h1,-⟩
  ·have hn : r.clients.length = 0:=by
    have:=h.cl.1.1;simp [h2] at this;rw [← h.pl,this];rfl
   exact ⟨_,_,by rw [h1,hn]⟩
  ·exact ⟨_,_,h1⟩
 (have c5 : w.cell? ⟨ob,5,none⟩ = some (.slice a r.clients.length cp):=by rw [← hcl];exact h.o_.cell 5);have hlen : r.clients.length ≤ 4:=h.few;obtain ⟨b,hb⟩ : ∃ b,b = r.right k:=⟨_,rfl⟩;obtain ⟨n,hn⟩ : ∃ n,n = r.clients.length:=⟨_,rfl⟩;unfold Realm.right at hb;rw [← hn] at c5 hlen hb;rw [show r.right k = b from by rw [hb,hn];rfl];clear h hcl hn;subst hb;(go_enter Tryz.func37,Tryz.ntmps37);by_cases h1 : 0 ≤ k
 ·have e1 : decide (0 ≤ k) = true:=by simp [h1]
  go_wp2
  go_ret
  simp_all
 ·have e1 : decide (0 ≤ k) = false:=by simp [h1]
  go_wp2
  go_ret
  simp_all
theorem falls_w (w : World) (h : WorW P own w0 w ob db v r) : Calls Tryz.prog 44 #[.pointer (some ⟨ob,0,none⟩)] w fun e w' => e = .returned (.tuple #[]) ∧ (∃ v',WorW P own w0 w' ob db v' r.falls) ∧ Turn (fun g => g = ob) w w':=by
 have H:=Hd h;have f4:=h.o_.frozen 4;have c4 : w.cell? ⟨ob,4,none⟩ = some v.sp:=h.o_.cell 4;have hs:=h.srv;unfold SrvPart at hs
 cases hsv : r.server with
 | none =>
  rw [hsv] at hs
  obtain ⟨h1,-⟩:=hs
  rw [h1] at c4
  have HE : Hid (r.falls = r):=Hd (by unfold Realm.falls;rw [hsv])
  clear h hsv h1
  go_enter Tryz.func44,Tryz.ntmps44
  go_wp2_with fail
  go_end0
  exact ⟨rfl,⟨v,by rw [HE.out];exact H.out.below (Below.refl _ _) H.out.fr⟩,Turn.refl _ _⟩
 | some s =>
  rw [hsv] at hs;obtain ⟨sb,wb,dm,tb,tm,v1,ps,qs,h1,h2⟩:=hs;rw [h1] at c4;have HD:=Hd (Down_s w h2)
  cases hd : s.down with
  | false =>
   rw [hd] at HD
   have HE : Hid (r.falls = r):=Hd (by unfold Realm.falls;rw [hsv];simp only [];rw [hd];rfl)
   clear h hsv h1 h2 hd
   go_enter Tryz.func44,Tryz.ntmps44
   go_wp2_with (go_at_call 69;refine HD.out.mono ?_;rintro e w' ⟨rfl,rfl⟩)
   go_end0
   exact ⟨rfl,⟨v,by rw [HE.out];exact H.out⟩,Turn.refl _ _⟩
  | true =>
   rw [hd] at HD
   have HE : Hid (r.falls = { r with server:=none }):=Hd (by unfold Realm.falls;rw [hsv];simp only [];rw [hd];rfl)
   clear h hsv h1 h2 hd
   go_enter Tryz.func44,Tryz.ntmps44
   go_wp2_with (go_at_call 69;refine HD.out.mono ?_;rintro e w' ⟨rfl,rfl⟩)
   go_end0
   exact ⟨rfl,⟨_,by rw [HE.out];exact H.out.setDown⟩,wal.turn_set (Turn.refl _ _) _ _⟩
theorem row_sl {own : Nat → Nat} {T n size : Nat} {w : World} {e : TypeId} {v : Value} {xs : List Value} (h : Row own T w e size v n xs) (hs : 0 < size) : ∃ a c,v = .slice a n c:=by
 rcases h.1.2 with ⟨h1,h2⟩ | ⟨g,cap,cur,h1,-⟩
 ·have hn : n = 0:=by
   have h3:=h.1.1;rw [h2] at h3;rcases Nat.eq_zero_or_pos n with h4 | h4
   ·exact h4
   ·have:=Nat.mul_pos h4 hs;simp at h3;omega
  exact ⟨_,_,by rw [h1,hn]⟩
 ·exact ⟨_,_,h1⟩
theorem WorW.nl_ {w : World} (h : WorW P own w0 w ob db v r) : ∃ a c,v.nl = .slice a r.net.l.length c:=by
 obtain ⟨ps,-,h2,-⟩:=h.net;have h3:=row_sl h2 (by decide);rw [List.length_map] at h3;exact h3
theorem Up_w (w : World) (h : WorW P own w0 w ob db v r) : Calls Tryz.prog 7 #[.pointer (some ⟨ob,0,none⟩)] w fun e w' => e = .returned (.bool r.server.isSome) ∧ w = w':=by
 have c4 : w.cell? ⟨ob,4,none⟩ = some v.sp:=h.o_.cell 4;have hs:=h.srv;unfold SrvPart at hs
 cases hsv : r.server with
 | none =>
  rw [hsv] at hs;obtain ⟨h1,-⟩:=hs;rw [h1] at c4;clear h hsv h1;(go_enter Tryz.func7,Tryz.ntmps7);(go_wp2_with fail);go_ret;exact ⟨rfl,rfl⟩
 | some s =>
  rw [hsv] at hs;obtain ⟨sb,wb,dm,tb,tm,v1,ps,qs,h1,-⟩:=hs;rw [h1] at c4;clear h hsv h1;(go_enter Tryz.func7,Tryz.ntmps7);(go_wp2_with fail);go_ret;exact ⟨rfl,rfl⟩
theorem Many_w (w : World) (h : WorW P own w0 w ob db v r) : Calls Tryz.prog 14 #[.pointer (some ⟨ob,0,none⟩)] w fun e w' => e = .returned (.int .i64 r.net.l.length) ∧ w = w':=by
 obtain ⟨a,c,h1⟩:=h.nl_;(have c8 : w.cell? ⟨ob,8,none⟩ = some (.slice a r.net.l.length c):=by rw [← h1];exact h.o_.cell 8);have HM:=Hd (net.Many_any ob 8 a r.net.l.length c w c8);clear h h1 c8;(go_enter Tryz.func14,Tryz.ntmps14);(go_wp2_with (go_at_call 36;refine HM.out.mono ?_;rintro e w' ⟨rfl,rfl⟩));go_ret;exact ⟨rfl,rfl⟩
theorem Crash_w (w : World) (h : WorW P own w0 w ob db v r) : Calls Tryz.prog 23 #[.pointer (some ⟨ob,0,none⟩)] w fun e w' => e = .returned (.tuple #[]) ∧ (∃ v',WorW P own w0 w' ob db v' r.crash) ∧ Turn (fun g => g = ob) w w':=by
 have HB:=Hd (begin_w w h)
 clear h
 go_enter Tryz.func23,Tryz.ntmps23
 go_wp2_with (go_at_call 38;refine HB.out.mono ?_;rintro e w' ⟨rfl,h1,h2⟩;have c4:=h1.o_.cell 4;have f4:=h1.o_.frozen 4;have H:=Hd h1;have HT:=Hd h2;clear h1 h2)
 go_end0
 exact ⟨rfl,⟨_,H.out.setDown⟩,HT.out.trans (wal.turn_set (Turn.refl _ _) _ _) fun _ _ e => e⟩
end
def Stepped (P : Lib.PrintTabs) (own : Nat → Nat) (w0 : World) (ob db : Nat) (w : World) (r : Realm) (w' : World) : Prop:=
 ∃ own1 v1,WorW P own1 w0 w' ob db v1 r ∧ Ext w own own1 ∧ Turn (fun g => own g ≠ 0) w w'
section
variable {P : Lib.PrintTabs} {own own1 : Nat → Nat} {w0 w w1 w' : World} {ob db : Nat} {v v1 : WV} {r r' : Realm}
theorem Stepped.here (h : WorW P own w0 w ob db v r) : Stepped P own w0 ob db w r w:=⟨own,v,h,Ext.refl _ _,Turn.refl _ _⟩
theorem Stepped.ahead (he : Ext w own own1) (ht : Turn (fun g => own g ≠ 0) w w1) (h : Stepped P own1 w0 ob db w1 r' w') : Stepped P own w0 ob db w r' w':=by
 obtain ⟨own2,v2,h1,h2,h3⟩:=h;exact ⟨own2,v2,h1,fun k hk => (h2 k (Nat.lt_of_lt_of_le hk ht.size)).trans (he k hk),ht.trans h3 fun k hk hS => by rw [← he k hk];exact hS⟩
theorem WorW.obT (h : WorW P own w0 w ob db v r) (ht : Turn (fun g => g = ob) w w') : Turn (fun g => own g ≠ 0) w w':=ht.mono fun g _ e => by rw [e,h.oob];decide
theorem WorW.obT2 (h : WorW P own w0 w ob db v r) (ht : Turn (fun g => g = ob ∨ own g = 66) w w') : Turn (fun g => own g ≠ 0) w w':=ht.mono fun g _ e => by
 rcases e with e | e
 ·rw [e,h.oob];decide
 ·omega
theorem WorW.sent2 (h : WorW P own w0 w ob db v r) (g : Gram) (hgr : g.msg.right = true) (hp : net.SendPost own 66 ob 8 (wcells db v r) 68 (r.net.l.map dg) r.net.lost (dg g) w w') : Stepped P own w0 ob db w { r with net:=r.net.send g } w':=by
 obtain ⟨own1,v1,h1,h2,h3⟩:=h.sent g hgr hp;exact ⟨own1,v1,h1,h2,h.obT2 h3⟩
theorem Stepped.below (h : Stepped P own w0 ob db w r w1) (hb : Below w1.heap.size w1 w') : Stepped P own w0 ob db w r w':=by
 obtain ⟨own1,v1,h1,h2,h3⟩:=h;exact ⟨own1,v1,h1.below hb fun g hg => h1.fr g (Nat.le_trans hb.size hg),h2,h3.trans (Turn.of_below (S:=fun _ => False) hb (Nat.le_refl _)) fun _ _ e => e.elim⟩
theorem enc_few {m : Msg} (hr : m.right = true) : (encB m).length ≤ 1000:=by
 have h6 : (128 ^ 6 : Nat) = 4398046511104:=by decide
 have e1:=numsB_len m.nums (fun y hy => by
  have:=right_nums hr y hy;refine ⟨this.1,?_⟩;rw [h6]
  omega)
 have e2:=right_data hr;have e3 : m.nums.length = 7:=rfl;simp only [encB,List.length_append,List.length_cons,List.length_nil];omega
theorem erase_map {α β : Type} (f : α → β) : ∀ (l : List α) (k : Nat),(l.map f).eraseIdx k = (l.eraseIdx k).map f
 | [],_ => rfl
 | _ :: _,0 => rfl
 | _ :: l,k + 1 => congrArg (_ :: ·) (erase_map f l k)
theorem WorW.taken (h : WorW P own w0 w ob db v r) (k : Nat) (u : Value) (ht : Turn (fun g => g = ob ∨ own g = 66) w w') (hs : Has w' ob (.cells ((wcells db v r).setIfInBounds 8 u) 68)) (hg : net.Grams own 66 w' u ((r.net.l.map dg).eraseIdx k)) : Stepped P own w0 ob db w { r with net:={ r.net with l:=r.net.l.eraseIdx k } } w':=by
 have e : (r.net.l.map dg).eraseIdx k = (r.net.l.eraseIdx k).map dg:=erase_map _ _ _;rw [e] at hg;exact ⟨_,_,h.net_ { r.net with l:=r.net.l.eraseIdx k } u ht (Ext.refl _ _) hs hg fun g hg => h.right g (List.mem_of_mem_eraseIdx hg),fun g hg => trim_ext own w' g (Nat.lt_of_lt_of_le hg ht.size),h.obT2 ht⟩
theorem Twice_w (w : World) (k : Int) (h : WorW P own w0 w ob db v r) : Calls Tryz.prog 20 #[.pointer (some ⟨ob,0,none⟩),.int .i64 k] w fun e w' => e = .returned (errV (r.twice k).1) ∧ Stepped P own w0 ob db w (r.twice k).2 w':=by
 obtain ⟨a,c,hnl⟩:=h.nl_;(have c8 : w.cell? ⟨ob,8,none⟩ = some (.slice a r.net.l.length c):=by rw [← hnl];exact h.o_.cell 8);have H:=Hd h;by_cases hk : 0 ≤ k ∧ k < r.net.l.length
 ·obtain ⟨g,hg⟩ : ∃ g,r.net.l[k.toNat]? = some g:=⟨_,List.getElem?_eq_getElem (by omega)⟩;have hmem : g ∈ r.net.l:=List.mem_of_getElem? hg
  have HR : Hid (r.twice k = (0,{ r with net:=r.net.send g })):=Hd (by
   unfold Realm.twice;simp only [hg]
   rw [if_neg (by simp [hk.1,hk.2])])
  have HT:=Hd (net.Twice_yes own 66 ob 8 (wcells db v r) 68 v.nl (r.net.l.map dg) r.net.lost k.toNat g.to (encB g.msg) w h.o_ rfl rfl (by rw [h.oob];decide) (by rw [h.oob];decide) h.net (by rw [List.getElem?_map,hg];rfl) (Nat.le_trans (enc_few (h.right g hmem)) (by decide)));have hkk : ((k.toNat : Nat) : Int) = k:=Int.toNat_of_nonneg hk.1;rw [hkk] at HT;have HM:=Hd (h.right g hmem);clear h c8 hnl hk hg hmem hkk;(go_enter Tryz.func20,Tryz.ntmps20);(go_wp2_with (go_at_call 47;refine HT.out.mono ?_;rintro e w' ⟨rfl,h1⟩));go_ret;rw [HR.out];exact ⟨rfl,H.out.sent2 g HM.out h1⟩
 ·have HR : Hid (r.twice k = (2,r)):=Hd (by
   unfold Realm.twice
   rw [if_pos (by simp only [Bool.not_eq_true',Bool.and_eq_false_iff,decide_eq_false_iff_not];omega)])
  have HT:=Hd (net.Twice_no ob 8 a r.net.l.length c k w c8 hk);clear h c8 hnl hk;(go_enter Tryz.func20,Tryz.ntmps20);(go_wp2_with (go_at_call 47;refine HT.out.mono ?_;rintro e w' ⟨rfl,rfl⟩));go_ret;rw [HR.out];exact ⟨rfl,Stepped.here H.out⟩
theorem Lose_w (w : World) (k : Int) (h : WorW P own w0 w ob db v r) : Calls Tryz.prog 19 #[.pointer (some ⟨ob,0,none⟩),.int .i64 k] w fun e w' => e = .returned (errV (r.lose k).1) ∧ Stepped P own w0 ob db w (r.lose k).2 w':=by
 obtain ⟨a,c,hnl⟩:=h.nl_;(have c8 : w.cell? ⟨ob,8,none⟩ = some (.slice a r.net.l.length c):=by rw [← hnl];exact h.o_.cell 8);have H:=Hd h;by_cases hk : 0 ≤ k ∧ k < r.net.l.length
 ·have HR : Hid (r.lose k = (0,{ r with net:={ r.net with l:=r.net.l.eraseIdx k.toNat } })):=Hd (by
   unfold Realm.lose
   rw [if_neg (by simp [hk.1,hk.2])])
  have HT:=Hd (net.Take_yes own 66 ob 8 (wcells db v r) 68 v.nl (r.net.l.map dg) k.toNat w h.o_ rfl (by rw [h.oob];decide) (by rw [h.oob];decide) h.net (by rw [List.length_map];omega));have hkk : ((k.toNat : Nat) : Int) = k:=Int.toNat_of_nonneg hk.1;rw [hkk] at HT;clear h c8 hnl hk hkk;(go_enter Tryz.func19,Tryz.ntmps19);(go_wp2_with (go_at_call 41;refine HT.out.mono ?_;rintro e w' ⟨u,tt,bs,v',rfl,h1,h2,h3,h4,h5⟩;obtain ⟨au,cu,rfl⟩:=row_sl h5 (by decide)));go_ret;rw [HR.out];exact ⟨rfl,(H.out.taken k.toNat v' h2 h3 h4).below ((Below.refl _ _).alloc (Nat.le_refl _) _)⟩
 ·have HR : Hid (r.lose k = (2,r)):=Hd (by
   unfold Realm.lose
   rw [if_pos (by simp only [Bool.not_eq_true',Bool.and_eq_false_iff,decide_eq_false_iff_not];omega)])
  have HT:=Hd (net.Take_no ob 8 a r.net.l.length c k w c8 hk);clear h c8 hnl hk;(go_enter Tryz.func19,Tryz.ntmps19);(go_wp2_with (go_at_call 41;refine HT.out.mono ?_;rintro e w' ⟨rfl,h1⟩));go_ret;rw [HR.out];exact ⟨rfl,((Stepped.here H.out).below h1).below ((Below.refl _ _).alloc (Nat.le_refl _) _)⟩
end
end wor
namespace wor
open Go.RowKit heap own errs mapof wire srv cli
open model (Disk Server Client MCall MEvent Terms Gram Net Realm sendAll)
section
variable {P : Lib.PrintTabs} {own own1 : Nat → Nat} {w0 w w' w1 : World} {ob db B : Nat} {v : WV} {r r' : Realm}
def SentPost (P : Lib.PrintTabs) (own : Nat → Nat) (w0 w : World) (ob db : Nat) (r : Realm) (w' : World) : Prop:=
 ∃ own1 v1,WorW P own1 w0 w' ob db v1 r ∧ Ext w own own1 ∧ Turn (fun g => g = ob ∨ own g = 66) w w'
theorem sendAll_snoc (b : Bool) (m : Msg) : ∀ (l : List Msg) (n : Net),sendAll n b (l ++ [m]) = if m.right then (sendAll n b l).send ⟨if b then m.client else -1,m⟩ else sendAll n b l
 | [],n => by cases h : m.right <;> simp [sendAll,h]
 | x :: l,n => by
  rw [List.cons_append,sendAll,sendAll];split <;> exact sendAll_snoc b m l _
theorem SentPost.here (h : WorW P own w0 w ob db v r) : SentPost P own w0 w ob db r w:=⟨own,v,h,Ext.refl _ _,Turn.refl _ _⟩
theorem SentPost.stepped (h : WorW P own w0 w ob db v r) (hs : SentPost P own w0 w ob db r' w') : Stepped P own w0 ob db w r' w':=by
 obtain ⟨own1,v1,h1,h2,h3⟩:=hs;exact ⟨own1,v1,h1,h2,h.obT2 h3⟩
theorem SentPost.more (he : Ext w own own1) (ht : Turn (fun g => g = ob ∨ own g = 66) w w1) (hs : SentPost P own1 w0 w1 ob db r' w') : SentPost P own w0 w ob db r' w':=by
 obtain ⟨own2,v2,h1,h2,h3⟩:=hs;exact ⟨own2,v2,h1,fun k hk => (h2 k (Nat.lt_of_lt_of_le hk ht.size)).trans (he k hk),ht.trans h3 fun k hk hS => by rw [← he k hk];exact hS⟩
theorem msg_cell {u : Value} {l : List Msg} (h : MsgsAt B w u l) {k : Nat} {x : Msg} (hk : l[k]? = some x) :
 ∃ g cap,u = .slice (some ⟨g,0,none⟩) l.length cap ∧ g < w.heap.size ∧ ∀ j y,(msgRow x)[j]? = some y → w.cell? ⟨g,k * 9 + j,none⟩ = some y:=by
 have hkl : k < l.length:=(List.getElem?_eq_some_iff.1 hk).1;rcases h.2 with ⟨-,h0⟩ | ⟨g,cap,cur,rfl,-,h2,-,-,-,h4⟩
 ·omega
 ·have h3 : Has w g (.cells cur 93):=h2;refine ⟨g,cap,rfl,h3.lt,fun j y hj => ?_⟩;have hj9 : j < 9:=(List.getElem?_eq_some_iff.1 hj).1;rw [(row_cell h3 h4 (k * 9 + j) (by omega)).1];exact (flat_get (f:=msgRow) (size:=9) (fun _ => rfl) l k x hk j hj9).trans hj
theorem enc_yes (m : Msg) (w : World) (hr : m.right = true) : Calls Tryz.prog 63 #[m.val] w fun e w' => ∃ a n c,e = .returned (.tuple #[.slice a n c,.nilIface]) ∧ Below w.heap.size w w' ∧ n ≤ c ∧ n ≤ 140737488355328 ∧ RD w' w'.heap.size a n (encB m):=by
 refine (Encode_yes m w hr).mono ?_;rintro e w' ⟨v,n,rfl,ho,hb⟩;obtain ⟨a,c,rfl⟩:=row_slice ho;obtain ⟨h1,h2,h3,h4⟩:=net.rd_of_owns ho;exact ⟨a,n,c,rfl,hb,h2,by have:=h4.1;have:=enc_few hr;omega,h4⟩
theorem send_w (h : WorW P own w0 w ob db v r) (m : Msg) (b : Bool) (hr : m.right = true) {a : Option Addr} {n c : Nat} (hc : n ≤ c) (hn : n ≤ 140737488355328) (hrd : RD w w.heap.size a n (encB m)) (to_ : Int) (hto : to_ = if b then m.client else -1) :
 Calls Tryz.prog 64 #[.pointer (some ⟨ob,8,none⟩),.agg #[.int .i64 to_,.slice a n c]] w fun e w' => e = .returned (.tuple #[]) ∧ SentPost P own w0 w ob db { r with net:=r.net.send ⟨if b then m.client else -1,m⟩ } w':=by
 refine (net.Send_any own 66 ob 8 (wcells db v r) 68 v.nl (r.net.l.map dg) r.net.lost a n c (encB m) to_ w h.o_ rfl rfl (by rw [h.oob];decide) (by rw [h.oob];decide) h.net hrd hc hn).mono ?_;rintro e w' ⟨rfl,hp⟩;refine ⟨rfl,?_⟩;rw [hto] at hp
 exact h.sent ⟨if b then m.client else -1,m⟩ hr hp
theorem sends_w (w : World) (b : Bool) (u : Value) (l : List Msg) (h : WorW P own w0 w ob db v r) (hm : MsgsAt B w u l) (hB : ∀ g,B ≤ g → g < w.heap.size → g ≠ ob ∧ own g ≠ 66) (hd : ∀ m ∈ l,m.data.length ≤ 20) :
 Calls Tryz.prog 39 #[.pointer (some ⟨ob,0,none⟩),.int .i64 (if b then 0 else -1),u] w fun e w' => e = .returned (.tuple #[]) ∧ SentPost P own w0 w ob db (r.sends b l) w':=by
 have hll : l.length ≤ maxLen:=by
  rcases hm.2 with ⟨-,h0⟩ | ⟨g,cap,cur,-,-,-,h1,h2,-⟩
  ·rw [h0];exact Nat.zero_le _
  ·exact Nat.le_trans h1 h2
 unfold maxLen at hll;obtain ⟨ua,uc,hu⟩:=row_slice hm;subst hu;have HM:=Hd hm;have HB:=Hd hB;have HD:=Hd hd;have H0 : Hid (SentPost P own w0 w ob db (r.sends b (l.take 0)) w):=Hd (SentPost.here h)
 obtain ⟨tt,htt⟩ : ∃ tt : Int,tt = if b then 0 else -1:=⟨_,rfl⟩
 rw [← htt];(have htd : decide (0 ≤ tt) = b:=by rw [htt];cases b <;> rfl);(have HTT : Hid (b = false → tt = -1):=Hd fun e => by rw [htt,e];rfl);clear h hm hB hd htt;(go_enter Tryz.func39,Tryz.ntmps39);(go_wp2_with fail);(go_loopw [13] (fun q13 wx => ∃ k : Nat,k ≤ l.length ∧ q13 = .int .i64 k ∧ SentPost P own w0 w ob db (r.sends b (l.take k)) wx) (fun q13 _ => l.length - (intOf q13).toNat));case atStart => exact ⟨0,by omega,rfl,H0.out⟩
 case round =>
  clear H0;obtain ⟨k,hk,rfl,own1,v1,h1,h2,h3⟩:=hrel;have HW:=Hd h1;have HX:=Hd h2;have HT:=Hd h3;by_cases hkl : k < l.length
  ·have hkm : l[k]? = some l[k]:=List.getElem?_eq_getElem hkl;have hmem : l[k] ∈ l:=List.getElem_mem hkl;(have htake : l.take (k + 1) = l.take k ++ [l[k]]:=by rw [List.take_add_one,hkm];rfl);generalize l[k] = m at hkm hmem htake;have HDM:=Hd (HD.out m hmem)
   have hmx : MsgsAt B wr (.slice ua l.length uc) l:=HM.out.turn h3 fun g hg hl hS => by
    obtain ⟨e1,e2⟩:=HB.out g hg hl;rcases hS with hS | hS
    ·exact e1 hS
    ·exact e2 hS
   obtain ⟨g,cap,e1,hg,hc⟩:=msg_cell hmx hkm;simp only [Value.slice.injEq] at e1;obtain ⟨rfl,-,rfl⟩:=e1;obtain ⟨mk,mc,mn,me,ms,mo,mv,ml,md⟩:=m;have z0 : wr.cell? ⟨g,k * 9,none⟩ = some (.int .i64 mk):=hc 0 _ rfl;have z1 : wr.cell? ⟨g,k * 9 + 1,none⟩ = some (.int .i64 mc):=hc 1 _ rfl;have z2 : wr.cell? ⟨g,k * 9 + 2,none⟩ = some (.int .i64 mn):=hc 2 _ rfl;have z3 : wr.cell? ⟨g,k * 9 + 3,none⟩ = some (.int .i64 me):=hc 3 _ rfl;have z4 : wr.cell? ⟨g,k * 9 + 4,none⟩ = some (.int .i64 ms):=hc 4 _ rfl;have z5 : wr.cell? ⟨g,k * 9 + 5,none⟩ = some (.int .i64 mo):=hc 5 _ rfl;have z6 : wr.cell? ⟨g,k * 9 + 6,none⟩ = some (.int .i64 mv):=hc 6 _ rfl;have z7 : wr.cell? ⟨g,k * 9 + 7,none⟩ = some (.bool ml):=hc 7 _ rfl;have z8 : wr.cell? ⟨g,k * 9 + 8,none⟩ = some (.string ⟨md.toArray⟩):=hc 8 _ rfl;have HTK:=Hd htake;obtain ⟨yes,hyes⟩ : ∃ yes,yes = (⟨mk,mc,mn,me,ms,mo,mv,ml,md⟩ : Msg).right:=⟨_,rfl⟩;have HY:=Hd hyes;clear h1 h2 h3 hkm hmem htake hmx hc hg hyes
   cases yes with
   | false =>
    have HN : Hid (r.sends b (l.take (k + 1)) = r.sends b (l.take k)):=Hd (by
     rw [HTK.out];unfold Realm.sends
     rw [sendAll_snoc,if_neg (by rw [← HY.out];decide)])
    (go_wp2_with (go_at_call 63;refine (Encode_no ⟨mk,mc,mn,me,ms,mo,mv,ml,md⟩ _ HY.out.symm (Nat.le_trans HDM.out (by decide))).mono ?_;rintro e w2 ⟨rfl,hb⟩;have HB2:=Hd hb;clear hb));go_roundw
    case rel =>
     have hb:=((Below.refl wr.heap.size wr).alloc (Nat.le_refl _) _).trans (HB2.out.mono (by simp));exact ⟨k + 1,by omega,by go_num,by rw [HN.out];exact ⟨own1,v1,HW.out.below hb fun g hg => HW.out.fr g (Nat.le_trans hb.size hg),HX.out,HT.out.then_below hb (Nat.le_refl _)⟩⟩
    case measure => simp [intOf];omega
   | true =>
    have HN : Hid (r.sends b (l.take (k + 1)) = { r.sends b (l.take k) with net:=(r.sends b (l.take k)).net.send ⟨if b then mc else -1,⟨mk,mc,mn,me,ms,mo,mv,ml,md⟩⟩ }):=Hd (by
     rw [HTK.out];unfold Realm.sends
     rw [sendAll_snoc,if_pos HY.out.symm])
    cases b with
    | false =>
     have HT1 : Hid (tt = -1):=Hd (HTT.out rfl)
     go_wp2_with (first
      | (go_at_call 63;refine (enc_yes ⟨mk,mc,mn,me,ms,mo,mv,ml,md⟩ _ HY.out.symm).mono ?_;rintro e w2 ⟨a,n,c,rfl,hb,hn1,hn2,hrd⟩;have hb2:=((Below.refl wr.heap.size wr).alloc (Nat.le_refl _) _).trans (hb.mono (by simp));have HW2:=Hd (HW.out.below hb2 fun g hg => HW.out.fr g (Nat.le_trans hb2.size hg));have HT2:=Hd (HT.out.then_below hb2 (Nat.le_refl _));have HRD:=Hd hrd;have HN1:=Hd hn1;have HN2:=Hd hn2;clear hb hb2 hrd hn1 hn2)
      | (go_at_call 64;refine (send_w HW2.out ⟨mk,mc,mn,me,ms,mo,mv,ml,md⟩ false HY.out.symm HN1.out HN2.out HRD.out tt HT1.out).mono ?_;rintro e w3 ⟨rfl,hp⟩;have HP:=Hd (SentPost.more HX.out HT2.out hp);clear hp))
     go_roundw;(case rel => exact ⟨k + 1,by omega,by go_num,by rw [HN.out];exact HP.out⟩);case measure => simp [intOf];omega
    | true =>
     go_wp2_with (first
      | (go_at_call 63;refine (enc_yes ⟨mk,mc,mn,me,ms,mo,mv,ml,md⟩ _ HY.out.symm).mono ?_;rintro e w2 ⟨a,n,c,rfl,hb,hn1,hn2,hrd⟩;have cq : w2.cell? ⟨wr.heap.size,1,none⟩ = some (.int .i64 mc):=(hb.cell (p:=⟨wr.heap.size,1,none⟩) (by simp)).trans ((Has.new wr _).cell 1);have hb2:=((Below.refl wr.heap.size wr).alloc (Nat.le_refl _) _).trans (hb.mono (by simp));have HW2:=Hd (HW.out.below hb2 fun g hg => HW.out.fr g (Nat.le_trans hb2.size hg));have HT2:=Hd (HT.out.then_below hb2 (Nat.le_refl _));have HRD:=Hd hrd;have HN1:=Hd hn1;have HN2:=Hd hn2;clear hb hb2 hrd hn1 hn2)
      | (go_at_call 64;refine (send_w HW2.out ⟨mk,mc,mn,me,ms,mo,mv,ml,md⟩ true HY.out.symm HN1.out HN2.out HRD.out mc rfl).mono ?_;rintro e w3 ⟨rfl,hp⟩;have HP:=Hd (SentPost.more HX.out HT2.out hp);clear hp))
     go_roundw;(case rel => exact ⟨k + 1,by omega,by go_num,by rw [HN.out];exact HP.out⟩);case measure => simp [intOf];omega
  ·obtain rfl : k = l.length:=by omega
   have hte : l.take l.length = l:=List.take_length
   rw [hte] at HW
   have HF : Hid (SentPost P own w0 w ob db (r.sends b l) wr):=Hd ⟨own1,v1,HW.out,HX.out,HT.out⟩
   clear h1 h2 h3 hte HW HX HT
   go_wp2_with fail
   go_end0
   exact ⟨rfl,HF.out⟩
end
end wor
namespace wor
open Go.RowKit heap own errs mapof wire srv cli
open model (Disk Server Client MCall MEvent Terms Gram Net Realm)
section
variable {P : Lib.PrintTabs} {own own1 : Nat → Nat} {w0 w w' : World} {ob db : Nat} {v v' : WV} {r r' : Realm} {S : Nat → Prop}
theorem row_set {T n size g cap : Nat} {e : TypeId} {xs : List Value} (h : Row own T w e size (.slice (some ⟨g,0,none⟩) n cap) n xs) (j : Nat) (hj : j < n * size) (u : Value) : Row own T (w.setCell ⟨g,j,none⟩ u) e size (.slice (some ⟨g,0,none⟩) n cap) n (xs.set j u):=by
 have hn : 0 < n:=by
  rcases Nat.eq_zero_or_pos n with e | e
  ·rw [e,Nat.zero_mul] at hj;omega
  ·exact e
 obtain ⟨g',cap',cur,e1,ho,hh,h1,h2,h3,h4⟩:=h.shape hn;simp only [Value.slice.injEq] at e1;obtain ⟨e1,-,rfl⟩:=e1;(obtain rfl : g = g':=by simpa using e1);refine Row.mk ho (hh.set_ j u) h1 h2 (by simp [h3]) ?_;rw [Array.toList_setIfInBounds,List.take_set,h4]
theorem int_row {T : Nat} {t : TypeId} {u : Value} {l : List Int} (h : Row own T w t 1 u l.length (ints l)) {k : Nat} {x : Int} (hk : l[k]? = some x) :
 ∃ g cap,u = .slice (some ⟨g,0,none⟩) l.length cap ∧ own g = T ∧ g < w.heap.size ∧ w.cell? ⟨g,k,none⟩ = some (.int .i64 x) ∧ w.frozen? ⟨g,k,none⟩ = false:=by
 have hkl : k < l.length:=(List.getElem?_eq_some_iff.1 hk).1;obtain ⟨g,cap,cur,rfl,ho,hh,h1,h2,h3,h4⟩:=h.shape (by omega);have:=row_cell hh h4 k (by omega);refine ⟨g,cap,rfl,ho,hh.lt,?_,this.2⟩;rw [this.1];simp [ints,hk]
theorem ints_set (l : List Int) (k : Nat) (x : Int) : (ints l).set k (.int .i64 x) = ints (l.set k x):=by simp [ints,List.map_set]
theorem WorW.rows (h : WorW P own w0 w ob db v r) (ht : Turn S w w') (hS : ∀ g,g < w.heap.size → S g → g = ob ∨ (61 ≤ own g ∧ own g < 66)) (he : Ext w own own1) (hf : ∀ g,w'.heap.size ≤ g → own1 g = 0) (hlow : ∀ g,own1 g ≠ 0 → w0.heap.size ≤ g)
 (hs : Has w' ob (.cells (wcells db v' r') 68)) (e1 : v'.sp = v.sp) (e2 : v'.nl = v.nl) (e3 : v'.pts = v.pts) (ed : r'.disk = r.disk) (es : r'.server = r.server) (ec : r'.clients = r.clients) (en : r'.net.l = r.net.l)
 (cl : Row own1 61 w' 75 1 v'.cl r.clients.length (v.pts.map fun b => Value.pointer (some ⟨b,0,none⟩)))
 (li : Row own1 62 w' 3 1 v'.li r'.lives.length (ints r'.lives)) (ck : Row own1 63 w' 3 1 v'.ck r'.clocks.length (ints r'.clocks))
 (ev : Row own1 64 w' 45 10 v'.ev r'.events.length (r'.events.flatMap evRow)) (op : Row own1 65 w' 3 1 v'.op r'.opens.length (ints r'.opens))
 (nl : r'.lives.length = r.lives.length) (nc : r'.clocks.length = r.clocks.length) (no : r'.opens.length = r.opens.length) : WorW P own1 w0 w' ob db v' r':=by
 have lo:=h.o_.lt
 have nX : ∀ g i,g < w.heap.size → own g = i → i ≠ 60 → (i < 61 ∨ 66 ≤ i) → ¬ S g:=fun g i hg hi h1 h2 hSg => by
  rcases hS g hg hSg with e | e
  ·rw [e,h.oob] at hi;exact h1 hi.symm
  ·omega
 refine ⟨hf,hlow,hs,(he _ lo).trans h.oob,?_,?_,?_,fun k c hc => ?_,?_,li,ck,ev,op,?_,?_,?_,?_,?_⟩
 ·rw [e1,ed,es];refine h.srv.keep ht he hf fun g hg hSg => ?_;rcases hS g hg hSg with e | e
  ·exact ⟨fun e2 => by unfold SrvSet at e2;rw [e,h.oob] at e2;omega,by rw [e];exact h.low ob (by rw [h.oob];decide)⟩
  ·exact ⟨fun e2 => by unfold SrvSet at e2;omega,h.low g (by omega)⟩
 ·rw [ec,e3];exact cl
 ·rw [ec,e3];exact h.pl
 ·rw [ec] at hc;obtain ⟨cb,fm,sm,cv,h1,h2⟩:=h.cls k c hc;have hk4 : k < 4:=Nat.lt_of_lt_of_le (List.getElem?_eq_some_iff.mp hc).1 h.few;refine ⟨cb,fm,sm,cv,by rw [e3];exact h1,h2.turn ht he fun g hg hSg hc => ?_⟩;unfold CliSet at hc;rcases hS g hg hSg with e | e
  ·rw [e,h.oob] at hc;omega
  ·omega
 ·rw [ec];exact h.few
 ·rw [e2,en];obtain ⟨ps,h1,h2,h3,h4⟩:=h.net;exact ⟨ps,h1,h2.keep ht he fun i hg hi => nX i 66 hg hi (by decide) (by decide),fun p hp => (h3 p hp).keep ht he fun i hg hi => nX i 67 hg hi (by decide) (by decide),h4⟩
 ·rw [en];exact h.right
 ·rw [nl,ec];exact h.nl
 ·rw [nc,ec];exact h.nc
 ·rw [no,ec];exact h.no
theorem WorW.rowT (h : WorW P own w0 w ob db v r) (g T : Nat) (hg : own g = T) (h1 : 61 ≤ T) (h2 : T < 66) : (∀ k,k < w.heap.size → k = g → k = ob ∨ (61 ≤ own k ∧ own k < 66)) ∧ (∀ i j,i < w.heap.size → own i = j → j ≠ T → ¬ i = g) ∧ g ≠ ob ∧ (∀ k,(w'.heap.size ≤ k → w.heap.size ≤ w'.heap.size → own k = 0)):=
 ⟨fun k _ e => .inr (by rw [e,hg];exact ⟨h1,h2⟩),fun i j _ hi hj e => hj (by rw [← hi,e,hg]),fun e => by rw [e,h.oob] at hg;omega,fun k hk hs => h.fr k (Nat.le_trans hs hk)⟩
theorem WorW.setOpen (h : WorW P own w0 w ob db v r) (k : Nat) (x : Int) (hk : k < r.opens.length) {g cap : Nat} (hv : v.op = .slice (some ⟨g,0,none⟩) r.opens.length cap) (hg : own g = 65) : WorW P own w0 (w.setCell ⟨g,k,none⟩ (.int .i64 x)) ob db v { r with opens:=r.opens.set k x }:=by
 obtain ⟨a1,a2,a3,a4⟩:=h.rowT (w':=w.setCell ⟨g,k,none⟩ (.int .i64 x)) g 65 hg (by decide) (by decide);have ht : Turn (fun i => i = g) w (w.setCell ⟨g,k,none⟩ (.int .i64 x)):=wal.turn_set (Turn.refl _ _) _ _;have he:=Ext.refl w own;refine h.rows ht a1 he (fun i hi => a4 i hi ht.size) h.low (h.o_.far (Ne.symm a3) _) rfl rfl rfl rfl rfl rfl rfl (h.cl.keep ht he fun i hi ho => a2 i 61 hi ho (by decide)) (h.li.keep ht he fun i hi ho => a2 i 62 hi ho (by decide)) (h.ck.keep ht he fun i hi ho => a2 i 63 hi ho (by decide)) (h.ev.keep ht he fun i hi ho => a2 i 64 hi ho (by decide)) ?_ rfl rfl (by simp);have h1:=h.op;rw [hv] at h1;have h2:=row_set h1 k (by omega) (.int .i64 x);rw [ints_set] at h2;simp only [List.length_set];rw [hv];exact h2
theorem WorW.setLife (h : WorW P own w0 w ob db v r) (k : Nat) (x : Int) (hk : k < r.lives.length) {g cap : Nat} (hv : v.li = .slice (some ⟨g,0,none⟩) r.lives.length cap) (hg : own g = 62) : WorW P own w0 (w.setCell ⟨g,k,none⟩ (.int .i64 x)) ob db v { r with lives:=r.lives.set k x }:=by
 obtain ⟨a1,a2,a3,a4⟩:=h.rowT (w':=w.setCell ⟨g,k,none⟩ (.int .i64 x)) g 62 hg (by decide) (by decide);have ht : Turn (fun i => i = g) w (w.setCell ⟨g,k,none⟩ (.int .i64 x)):=wal.turn_set (Turn.refl _ _) _ _;have he:=Ext.refl w own;refine h.rows ht a1 he (fun i hi => a4 i hi ht.size) h.low (h.o_.far (Ne.symm a3) _) rfl rfl rfl rfl rfl rfl rfl (h.cl.keep ht he fun i hi ho => a2 i 61 hi ho (by decide)) ?_ (h.ck.keep ht he fun i hi ho => a2 i 63 hi ho (by decide)) (h.ev.keep ht he fun i hi ho => a2 i 64 hi ho (by decide)) (h.op.keep ht he fun i hi ho => a2 i 65 hi ho (by decide)) (by simp) rfl rfl;have h1:=h.li;rw [hv] at h1;have h2:=row_set h1 k (by omega) (.int .i64 x);rw [ints_set] at h2;simp only [List.length_set];rw [hv];exact h2
theorem WorW.setClock (h : WorW P own w0 w ob db v r) (k : Nat) (x : Int) (hk : k < r.clocks.length) {g cap : Nat} (hv : v.ck = .slice (some ⟨g,0,none⟩) r.clocks.length cap) (hg : own g = 63) : WorW P own w0 (w.setCell ⟨g,k,none⟩ (.int .i64 x)) ob db v { r with clocks:=r.clocks.set k x }:=by
 obtain ⟨a1,a2,a3,a4⟩:=h.rowT (w':=w.setCell ⟨g,k,none⟩ (.int .i64 x)) g 63 hg (by decide) (by decide);have ht : Turn (fun i => i = g) w (w.setCell ⟨g,k,none⟩ (.int .i64 x)):=wal.turn_set (Turn.refl _ _) _ _;have he:=Ext.refl w own;refine h.rows ht a1 he (fun i hi => a4 i hi ht.size) h.low (h.o_.far (Ne.symm a3) _) rfl rfl rfl rfl rfl rfl rfl (h.cl.keep ht he fun i hi ho => a2 i 61 hi ho (by decide)) (h.li.keep ht he fun i hi ho => a2 i 62 hi ho (by decide)) ?_ (h.ev.keep ht he fun i hi ho => a2 i 64 hi ho (by decide)) (h.op.keep ht he fun i hi ho => a2 i 65 hi ho (by decide)) rfl (by simp) rfl;have h1:=h.ck;rw [hv] at h1;have h2:=row_set h1 k (by omega) (.int .i64 x);rw [ints_set] at h2;simp only [List.length_set];rw [hv];exact h2
theorem WorW.setEvents (h : WorW P own w0 w ob db v r) (l : List MEvent) (ht : Turn (fun i => own i = 64) w w') (hr : Row own 64 w' 45 10 v.ev l.length (l.flatMap evRow)) : WorW P own w0 w' ob db v { r with events:=l }:=by
 have he:=Ext.refl w own;have a2 : ∀ i j,i < w.heap.size → own i = j → j ≠ 64 → ¬ own i = 64:=fun i j _ hi hj e => hj (by rw [← hi,e]);refine h.rows ht (fun g _ e => .inr (by omega)) he (fun i hi => h.fr i (Nat.le_trans ht.size hi)) h.low (ht.has h.o_ (by rw [h.oob];decide)) rfl rfl rfl rfl rfl rfl rfl (h.cl.keep ht he fun i hi ho => a2 i 61 hi ho (by decide)) (h.li.keep ht he fun i hi ho => a2 i 62 hi ho (by decide)) (h.ck.keep ht he fun i hi ho => a2 i 63 hi ho (by decide)) hr (h.op.keep ht he fun i hi ho => a2 i 65 hi ho (by decide)) rfl rfl rfl
theorem WorW.pt (h : WorW P own w0 w ob db v r) {k : Nat} {c : Client} (hk : r.clients[k]? = some c) :
 ∃ g cap cb fm sm cv,v.cl = .slice (some ⟨g,0,none⟩) r.clients.length cap ∧ own g = 61 ∧ g < w.heap.size ∧ v.pts[k]? = some cb ∧ w.cell? ⟨g,k,none⟩ = some (.pointer (some ⟨cb,0,none⟩)) ∧ w.frozen? ⟨g,k,none⟩ = false ∧ CliW own (20 + 4 * k) w cb fm sm cv c:=by
 have hkl : k < r.clients.length:=(List.getElem?_eq_some_iff.1 hk).1;obtain ⟨cb,fm,sm,cv,h1,h2⟩:=h.cls k c hk;obtain ⟨g,cap,cur,hv,ho,hh,h3,h4,h5,h6⟩:=h.cl.shape (by omega);have:=row_cell hh h6 k (by omega);refine ⟨g,cap,cb,fm,sm,cv,hv,ho,hh.lt,h1,?_,this.2,h2⟩;rw [this.1];simp [h1]
end
end wor
namespace wor
open Go.RowKit heap own errs mapof wire srv cli
open model (Disk Server Client MCall MEvent Terms Gram Net Realm)
open lasts (Idx)
section
variable {P : Lib.PrintTabs} {own own1 : Nat → Nat} {w0 w w' : World} {ob db : Nat} {v v' : WV} {r r' : Realm}
theorem event_put {T n en g cap : Nat} {l : List MEvent} {x : MEvent} (h : Row own T w 45 10 (.slice (some ⟨g,0,none⟩) n cap) l.length (l.flatMap evRow)) (hx : l[en]? = some x) (c : MCall) (s : Int) :
 Row own T ((w.setCells g (en * 10 + 1) (#[.int .i64 c.kind,.int .i64 c.object,.string ⟨c.value.data.toArray⟩,.int .i64 c.value.ver,.bool c.over,.bool c.hit] : Array Value).toList).setCell ⟨g,en * 10 + 8,none⟩ (.int .i64 s)) 45 10 (.slice (some ⟨g,0,none⟩) n cap) l.length ((l.set en { x with call:=c,ended:=s }).flatMap evRow):=by
 have hen : en < l.length:=(List.getElem?_eq_some_iff.1 hx).1;have hxe : l[en] = x:=(List.getElem?_eq_some_iff.1 hx).2
 obtain ⟨rfl,-⟩ : n = l.length ∧ True:=by
  obtain ⟨a,c2,e⟩:=row_sl h (by decide);simp only [Value.slice.injEq] at e;exact ⟨e.2.1,trivial⟩
 (have hl : l = l.take en ++ x :: l.drop (en + 1):=by rw [← hxe,List.getElem_cons_drop,List.take_append_drop]);(have hlen : ((l.take en).flatMap evRow).length = en * 10:=by rw [flat_len evRow_len,List.length_take,Nat.min_eq_left (Nat.le_of_lt hen)]);obtain ⟨A,hA⟩ : ∃ A,A = (l.take en).flatMap evRow:=⟨_,rfl⟩;obtain ⟨B,hB⟩ : ∃ B,B = (l.drop (en + 1)).flatMap evRow:=⟨_,rfl⟩
 have e1 : l.flatMap evRow = (A ++ [.int .i64 x.client]) ++ [.int .i64 x.call.kind,.int .i64 x.call.object,.string ⟨x.call.value.data.toArray⟩,.int .i64 x.call.value.ver,.bool x.call.over,.bool x.call.hit] ++ ([.int .i64 x.began,.int .i64 x.ended,.int .i64 x.life] ++ B):=by
  rw [hl,List.flatMap_append,List.flatMap_cons,hA,hB];simp [evRow]
 have e2 : (l.set en { x with call:=c,ended:=s }).flatMap evRow = (A ++ [.int .i64 x.client,.int .i64 c.kind,.int .i64 c.object,.string ⟨c.value.data.toArray⟩,.int .i64 c.value.ver,.bool c.over,.bool c.hit,.int .i64 x.began]) ++ [.int .i64 s] ++ ([.int .i64 x.life] ++ B):=by
  rw [List.set_eq_take_append_cons_drop,if_pos hen,List.flatMap_append,List.flatMap_cons,hA,hB];simp [evRow]
 rw [← hA] at hlen;rw [e1] at h;have h1:=row_part (vs:=[.int .i64 c.kind,.int .i64 c.object,.string ⟨c.value.data.toArray⟩,.int .i64 c.value.ver,.bool c.over,.bool c.hit]) h rfl (Nat.succ_pos _);rw [List.length_append,hlen,List.length_singleton] at h1;(have e3 : ∀ u : List Value,(A ++ [.int .i64 x.client]) ++ u ++ ([.int .i64 x.began,.int .i64 x.ended,.int .i64 x.life] ++ B) = (A ++ ([.int .i64 x.client] ++ u ++ [.int .i64 x.began])) ++ [.int .i64 x.ended] ++ ([.int .i64 x.life] ++ B):=fun u => by simp);rw [e3] at h1;have h2:=row_part (vs:=[.int .i64 s]) h1 rfl (Nat.succ_pos _);rw [List.length_append,hlen] at h2;rw [e2];exact h2
set_option maxHeartbeats 4000000 in
set_option maxRecDepth 1000000 in
theorem looks_w (w : World) (k : Nat) (h : WorW P own w0 w ob db v r) (hk : k < r.clients.length) (hi : Idx r) :
 Calls Tryz.prog 46 #[.pointer (some ⟨ob,0,none⟩),.int .i64 k] w fun e w' => e = .returned (.tuple #[]) ∧ Stepped P own w0 ob db w (r.looks k) w':=by
 (have hk8 : k < r.opens.length:=by rw [h.no];exact hk);have hkc : r.clients[k]? = some r.clients[k]:=List.getElem?_eq_getElem hk;have hko : r.opens[k]? = some r.opens[k]:=List.getElem?_eq_getElem hk8;have hie:=hi _ (List.getElem_mem hk8);generalize r.clients[k] = c at hkc;generalize r.opens[k] = e at hko hie;have HKC:=Hd hkc;have HKO:=Hd hko;have H:=Hd h;obtain ⟨g8,cap8,hv8,ho8,hl8,z8,f8⟩:=int_row h.op hko;obtain ⟨g5,cap5,cb,fm,sm,cv,hv5,ho5,hl5,hpt,z5,f5,hcw⟩:=h.pt hkc;(have c11 : w.cell? ⟨ob,11,none⟩ = some (.slice (some ⟨g8,0,none⟩) r.opens.length cap8):=by rw [← hv8];exact h.o_.cell 11);(have c5 : w.cell? ⟨ob,5,none⟩ = some (.slice (some ⟨g5,0,none⟩) r.clients.length cap5):=by rw [← hv5];exact h.o_.cell 5);have HCW:=Hd hcw;have HB:=Hd (Busy_c w hcw);have HV8:=Hd hv8;have HO8:=Hd ho8;have HIE:=Hd hie;have hno : Hid (r.opens.length = r.clients.length):=Hd h.no;obtain ⟨n8,hn8⟩ : ∃ n,n = r.opens.length:=⟨_,rfl⟩;obtain ⟨n5,hn5⟩ : ∃ n,n = r.clients.length:=⟨_,rfl⟩;rw [← hn8] at c11 hk8;rw [← hn5] at c5 hk;have HN8:=Hd hn8;have HN5:=Hd hn5;by_cases he0 : 0 ≤ e
 ·have e0 : decide (0 ≤ e) = true:=decide_eq_true he0
  cases hbz : c.busy with
  | true =>
   rw [hbz] at HB
   have HR : Hid (r.looks k = r):=Hd (by unfold Realm.looks;rw [hkc,hko];simp [hbz])
   clear h hkc hko hie hv8 hv5 ho8 ho5 hpt hcw hn8 hn5 hbz
   go_enter Tryz.func46,Tryz.ntmps46
   go_wp2_with (go_at_call 57;refine HB.out.mono ?_;rintro e w' ⟨rfl,rfl⟩)
   go_end0
   exact ⟨rfl,by rw [HR.out];exact Stepped.here H.out⟩
  | false =>
   rw [hbz] at HB;obtain ⟨en,rfl⟩ : ∃ en : Nat,e = en:=⟨e.toNat,by omega⟩;(have hel : en < r.events.length:=by omega);have hex : r.events[en]? = some r.events[en]:=List.getElem?_eq_getElem hel;generalize r.events[en] = x at hex;obtain ⟨g7,cap7,hv7,ho7,hl7,hc7,hm7,hz7⟩:=Row.elem (f:=evRow) evRow_len h.ev hex;(have c10 : w.cell? ⟨ob,10,none⟩ = some (.slice (some ⟨g7,0,none⟩) r.events.length cap7):=by rw [← hv7];exact h.o_.cell 10);have c12 : w.cell? ⟨ob,12,none⟩ = some (.int .i64 r.step):=h.o_.cell 12
   have HY : Hid (∀ j,j < 6 → (w.cell? ⟨g7,en * 10 + 1 + j,none⟩).isSome = true ∧ w.frozen? ⟨g7,en * 10 + 1 + j,none⟩ = false):=Hd fun j hj => by
    (have hj2 : 1 + j < (evRow x).length:=by rw [evRow_len];omega);have:=hz7 (1 + j) _ (List.getElem?_eq_getElem hj2);rw [← Nat.add_assoc] at this;rw [this.1];exact ⟨rfl,this.2⟩
   have y8:=hz7 8 _ rfl;have hcl:=Call_c w.drew hcw.drew;unfold callV at hcl;have HCL:=Hd hcl;clear hcl;have HBZ:=Hd hbz;have hobl : ob < w.heap.size:=h.o_.lt;(have hg57 : g5 ≠ g7:=fun e => by rw [e,ho7] at ho5;cases ho5);(have hgo7 : ob ≠ g7:=fun e => by have:=h.oob;rw [e,ho7] at this;cases this);have HEX:=Hd hex;have HV7:=Hd hv7;have HO7:=Hd ho7;obtain ⟨n7,hn7⟩ : ∃ n,n = r.events.length:=⟨_,rfl⟩;rw [← hn7] at c10 hel;have HN7:=Hd hn7;clear h hkc hko hie hv8 hv5 ho8 ho5 hpt hcw hn8 hn5 hbz hz7 hv7 ho7 hn7 hex;(go_enter Tryz.func46,Tryz.ntmps46);(go_upto_region 2 with (go_at_call 57;refine HB.out.mono ?_;rintro e w' ⟨rfl,rfl⟩));refine last.headH (fun W => W.cell? ⟨ob,5,none⟩ = some (.slice (some ⟨g5,0,none⟩) n5 cap5) ∧ W.cell? ⟨ob,10,none⟩ = some (.slice (some ⟨g7,0,none⟩) n7 cap7) ∧ W.cell? ⟨ob,12,none⟩ = some (.int .i64 r.step) ∧ W.cell? ⟨g5,k,none⟩ = some (.pointer (some ⟨cb,0,none⟩))) 27 28 ⟨c5,c10,c12,z5⟩ fun HS => ?_;refine last.many [(0,25,_),(1,26,_),(2,27,_),(3,28,_),(4,29,_),(5,30,_),(6,31,_),(7,32,_),(8,33,_),(9,34,_),(10,35,_),(11,36,_),(12,37,_),(13,38,_),(14,39,_),(15,40,_),(16,41,_),(18,43,_),(19,44,_),(20,45,_),(21,46,_)] HS.out ?_ (hy:=fun W' hW' => by have e1:=hW'.2.1;have f0:=hW'.1;have f1:=hW'.2.2.2;have f2:=hW'.2.2.1;repeat (first | exact .z | refine .s ?_ | refine .k ?_));refine last.one 17 fun K hK => ?_;go_simp;refine HCL.out.mono ?_;rintro e w2 ⟨rfl,hb2⟩;have HS2 : Hid ((fun W => W.cell? ⟨ob,5,none⟩ = some (.slice (some ⟨g5,0,none⟩) n5 cap5) ∧ W.cell? ⟨ob,10,none⟩ = some (.slice (some ⟨g7,0,none⟩) n7 cap7) ∧ W.cell? ⟨ob,12,none⟩ = some (.int .i64 r.step) ∧ W.cell? ⟨g5,k,none⟩ = some (.pointer (some ⟨cb,0,none⟩))) w2):=Hd ⟨(hb2.cell (p:=⟨ob,5,none⟩) hobl).trans c5,(hb2.cell (p:=⟨ob,10,none⟩) hobl).trans c10,(hb2.cell (p:=⟨ob,12,none⟩) hobl).trans c12,(hb2.cell (p:=⟨g5,k,none⟩) hl5).trans z5⟩;have HB2:=Hd (((Below.refl w.heap.size w).drew).trans hb2);clear hb2;refine hK.out _ _ (fun _ => HS2.out) ?_;clear hK K HS;have HS:=HS2;refine last.many [(22,47,_),(23,48,_)] HS.out ?_;refine last.one 24 fun K hK => ?_;refine wp_store_part 43 (.tmp 48) (.tmp 42) rfl g7 (en * 10 + 1) #[.int .i64 c.call.kind,.int .i64 c.call.object,.string ⟨c.call.value.data.toArray⟩,.int .i64 c.call.value.ver,.bool c.call.over,.bool c.call.hit] rfl rfl (by kernel_rfl) (fun j hj => by rw [(HB2.out.cell (p:=⟨g7,en * 10 + 1 + j,none⟩) hl7)];exact (HY.out j (by simp at hj;omega)).1) (fun j hj => by rw [(HB2.out.frozen (p:=⟨g7,en * 10 + 1 + j,none⟩) hl7)];exact (HY.out j (by simp at hj;omega)).2) (by simp [Value.oneCell']) ?_;obtain ⟨W3,hW3⟩ : ∃ W3,W3 = w2.setCells g7 (en * 10 + 1) #[.int .i64 c.call.kind,.int .i64 c.call.object,.string ⟨c.call.value.data.toArray⟩,.int .i64 c.call.value.ver,.bool c.call.over,.bool c.call.hit].toList:=⟨_,rfl⟩;rw [← hW3];have HT3 : Hid (Turn (fun i => i = g7) w2 W3):=Hd (by rw [hW3];exact Turn.setCells (S:=fun i => i = g7) _ (Turn.refl _ _) (.inr rfl) _);have HW3:=Hd hW3;have HS3 : Hid ((fun W => W.cell? ⟨ob,5,none⟩ = some (.slice (some ⟨g5,0,none⟩) n5 cap5) ∧ W.cell? ⟨ob,10,none⟩ = some (.slice (some ⟨g7,0,none⟩) n7 cap7) ∧ W.cell? ⟨ob,12,none⟩ = some (.int .i64 r.step) ∧ W.cell? ⟨g5,k,none⟩ = some (.pointer (some ⟨cb,0,none⟩))) W3):=Hd ⟨(HT3.out.cell (p:=⟨ob,5,none⟩) (Nat.lt_of_lt_of_le hobl HB2.out.size) hgo7).trans HS.out.1,(HT3.out.cell (p:=⟨ob,10,none⟩) (Nat.lt_of_lt_of_le hobl HB2.out.size) hgo7).trans HS.out.2.1,(HT3.out.cell (p:=⟨ob,12,none⟩) (Nat.lt_of_lt_of_le hobl HB2.out.size) hgo7).trans HS.out.2.2.1,(HT3.out.cell (p:=⟨g5,k,none⟩) (Nat.lt_of_lt_of_le hl5 HB2.out.size) hg57).trans HS.out.2.2.2⟩;(have u8 : (W3.cell? ⟨g7,en * 10 + 8,none⟩).isSome = true:=by rw [hW3,World.cell?_setCells_out _ _ _ _ _ (fun _ _ => .inr (by simp)),(HB2.out.cell (p:=⟨g7,en * 10 + 8,none⟩) hl7),y8.1];rfl);(have t8 : W3.frozen? ⟨g7,en * 10 + 8,none⟩ = false:=by rw [hW3,World.frozen?_setCells,(HB2.out.frozen (p:=⟨g7,en * 10 + 8,none⟩) hl7),y8.2]);obtain ⟨y8v,u8⟩:=Option.isSome_iff_exists.1 u8;clear hW3;refine hK.out _ _ (fun _ => HS3.out) ?_;clear hK K HS;have HS:=HS3;refine last.goT [26,25] 25 49 (.pointer (some ⟨g7,en * 10,none⟩)) HS.out ?_;dsimp only [List.set];refine last.many [(26,50,_)] HS.out ?_;refine last.one 27 fun K hK => ?_;go_simp;refine hK.out _ _ (fun h => absurd rfl h) ?_;clear hK K;refine last.done ?_;obtain ⟨W4,hW4⟩ : ∃ W4,W4 = W3.setCell ⟨g7,en * 10 + 8,none⟩ (.int .i64 r.step):=⟨_,rfl⟩;rw [← hW4];have h2:=H.out.below HB2.out fun g hg => H.out.fr g (Nat.le_trans HB2.out.size hg)
   have hT4 : Turn (fun i => own i = 64) w2 W4:=by
    rw [hW4];exact (HT3.out.mono fun g _ e => by have e : g = g7:=e;rw [e];exact HO7.out).setCell (p:=⟨g7,en * 10 + 8,none⟩) (.inr HO7.out) _
   have hev:=h2.ev
   rw [HV7.out] at hev
   have hrow:=event_put hev HEX.out c.call r.step
   rw [← HW3.out,← hW4] at hrow
   have h4 : WorW P own w0 W4 ob db v { r with events:=r.events.set en { x with call:=c.call,ended:=r.step } }:=h2.setEvents _ hT4 (by rw [HV7.out,List.length_set];exact hrow)
   have a11 : W4.cell? ⟨ob,11,none⟩ = some (.slice (some ⟨g8,0,none⟩) n8 cap8):=by rw [HN8.out,← HV8.out];exact h4.o_.cell 11
   have g8l2 : g8 < w2.heap.size:=Nat.lt_of_lt_of_le hl8 HB2.out.size
   have n8n : ¬ own g8 = 64:=by rw [HO8.out];decide
   have b8 : W4.cell? ⟨g8,k,none⟩ = some (.int .i64 (en : Int)):=(hT4.cell (p:=⟨g8,k,none⟩) g8l2 n8n).trans ((HB2.out.cell (p:=⟨g8,k,none⟩) hl8).trans z8)
   have t88 : W4.frozen? ⟨g8,k,none⟩ = false:=(hT4.frozen (p:=⟨g8,k,none⟩) g8l2 n8n).trans ((HB2.out.frozen (p:=⟨g8,k,none⟩) hl8).trans f8)
   have H5 : Hid (WorW P own w0 (W4.setCell ⟨g8,k,none⟩ (.int .i64 (-1))) ob db v { r with events:=r.events.set en { x with call:=c.call,ended:=r.step },opens:=r.opens.set k (-1) }):=Hd (h4.setOpen k (-1) (by rw [← HN8.out];exact hk8) HV8.out HO8.out)
   have HT5 : Hid (Turn (fun g => own g ≠ 0) w (W4.setCell ⟨g8,k,none⟩ (.int .i64 (-1)))):=Hd (((Turn.of_below HB2.out (Nat.le_refl _)).trans (hT4.mono fun g _ e => by have e : own g = 64:=e;show own g ≠ 0;omega) fun _ _ e => e).setCell (p:=⟨g8,k,none⟩) (.inr (by show own g8 ≠ 0;rw [HO8.out];decide)) _)
   clear h2 hev hrow h4 hT4 hW4 c11 c5 c10 c12 z5 z8 y8 u8 t8 f8 f5
   go_wp2_with fail
   go_end0
   have HR : r.looks k = { r with events:=r.events.set en { x with call:=c.call,ended:=r.step },opens:=r.opens.set k (-1) }:=by
    unfold Realm.looks;rw [HKC.out,HKO.out];simp only [e0,HBZ.out,Bool.not_false,Bool.and_true,if_true,Int.toNat_natCast,HEX.out]
   rw [HR];exact ⟨rfl,own,v,H5.out,Ext.refl _ _,HT5.out⟩
 ·have e0 : decide (0 ≤ e) = false:=decide_eq_false he0
  have HR : Hid (r.looks k = r):=Hd (by unfold Realm.looks;rw [hkc,hko];simp [he0])
  clear h hkc hko hie hv8 hv5 ho8 ho5 hpt hcw hn8 hn5
  go_enter Tryz.func46,Tryz.ntmps46
  go_wp2_with fail
  go_end0
  exact ⟨rfl,by rw [HR.out];exact Stepped.here H.out⟩
end
end wor
namespace wor
open Go.RowKit heap own errs mapof wire srv cli
open model (Disk Server Client MCall MEvent Terms Gram Net Realm)
section
variable {P : Lib.PrintTabs} {own own1 : Nat → Nat} {w0 w w1 w' : World} {ob db sb wb dm tb tm : Nat} {v v1 : WV} {r r' : Realm} {vv : Value} {ps : List ByteArray} {qs : List Value} {d : Disk} {s : Server}
theorem srv_cut (h : SrvW P own w0 w sb db wb dm tb tm vv ps qs d s) (n : Int) (ht : Turn (· = db) w w') (hd : wal.DiskAt w' db ps (decide (0 ≤ n)) (max n 0)) : SrvW P own w0 w' sb db wb dm tb tm vv ps qs (d.cutAt n) s:=by
 (have nS : ∀ g k,own g = k → k ≠ 1 → ¬ g = db:=fun g k hk h1 e => by rw [e,h.odb] at hk;exact h1 hk.symm);have he:=Ext.refl w own;have hw : w0.heap.size ≤ db:=h.low db (by unfold SrvSet;rw [h.odb];decide);exact ⟨h.kit0,h.hdl0,h.bel.trans (ht.to_below h.le fun k _ hS => by have : k = db:=hS;omega),h.low,fun g hg => h.fr g (Nat.le_trans ht.size hg),⟨ht.has h.wal.w_ (nS _ 3 h.wal.ow (by decide)),h.wal.row.keep ht he fun k _ ho => nS k 2 ho (by decide),h.wal.ow,h.wal.low,h.wal.lw⟩,hd,h.pls,h.odb,ht.has h.s_ (nS _ 4 h.osb (by decide)),h.osb,⟨h.ok.nv,h.ok.nq,h.ok.qc,h.ok.dk,h.ok.rc,h.ok.ql⟩,h.lq,fun o ho => (h.queue o ho).keep ht he fun k _ hko => nS k (10 + o) hko (by omega),h.done.turn ht (nS _ 5 h.odm (by decide)),h.odm,h.table.turn ht (nS _ 6 h.otb (by decide)) (nS _ 7 h.otm (by decide)),h.otb,h.otm⟩
theorem dsk_cut (h : DskW P own w0 w db ps d) (n : Int) (ht : Turn (· = db) w w') (hd : wal.DiskAt w' db ps (decide (0 ≤ n)) (max n 0)) : DskW P own w0 w' db ps (d.cutAt n):=by
 have hw : w0.heap.size ≤ db:=h.low db (by unfold SrvSet;rw [h.odb];decide);exact ⟨h.kit0,h.hdl0,h.bel.trans (ht.to_below h.le fun k _ hS => by have : k = db:=hS;omega),h.low,fun g hg => h.fr g (Nat.le_trans ht.size hg),hd,h.pls,h.odb,h.rc⟩
theorem Cut_w (w : World) (n : Int) (h : WorW P own w0 w ob db v r) : Calls Tryz.prog 48 #[.pointer (some ⟨db,0,none⟩),.int .i64 n] w fun e w' => e = .returned (.tuple #[]) ∧ WorW P own w0 w' ob db v { r with disk:=r.disk.cutAt n } ∧ Turn (SrvSet own) w w':=by
 have hs:=h.srv;unfold SrvPart at hs
 have fin : ∀ w',Turn (· = db) w w' → own db = 1 → SrvPart P own w0 w' db v.sp (r.disk.cutAt n) r.server → WorW P own w0 w' ob db v { r with disk:=r.disk.cutAt n } ∧ Turn (SrvSet own) w w':=fun w' ht ho hp => by
  (have ht2 : Turn (SrvSet own) w w':=ht.mono fun g _ e => by have e : g = db:=e;unfold SrvSet;rw [e,ho];decide);exact ⟨h.server ht2 (Ext.refl _ _) (fun g hg => h.fr g (Nat.le_trans ht.size hg)) h.low (r.disk.cutAt n) r.server hp,ht2⟩
 split at hs
 ·rename_i s hsv;obtain ⟨sb,wb,dm,tb,tm,v1,ps,qs,h1,h2⟩:=hs;refine (wal.Cut_any db ps _ _ n w h2.dsk).mono ?_;rintro e w' ⟨rfl,hd,ht⟩;refine ⟨rfl,fin w' ht h2.odb ?_⟩;rw [hsv];exact ⟨sb,wb,dm,tb,tm,v1,ps,qs,h1,srv_cut h2 n ht hd⟩
 ·rename_i hsv;obtain ⟨h1,ps,h2⟩:=hs;refine (wal.Cut_any db ps _ _ n w h2.dsk).mono ?_;rintro e w' ⟨rfl,hd,ht⟩;refine ⟨rfl,fin w' ht h2.odb ?_⟩;rw [hsv];exact ⟨h1,ps,dsk_cut h2 n ht hd⟩
theorem Torn_w (w : World) (n : Int) (s : Server) (sb : Nat) (h : WorW P own w0 w ob db v r) (hs : r.server = some s) (hp : v.sp = .pointer (some ⟨sb,0,none⟩)) : Calls Tryz.prog 49 #[.pointer (some ⟨sb,0,none⟩),.int .i64 n] w fun e w' => e = .returned (.tuple #[]) ∧ WorW P own w0 w' ob db v { r with server:=some { s with torn:=n } } ∧ Turn (SrvSet own) w w':=by
 have hq:=h.srv;unfold SrvPart at hq;rw [hs] at hq;obtain ⟨sb2,wb,dm,tb,tm,v1,ps,qs,h1,h2⟩:=hq;rw [hp] at h1;cases h1;refine (Torn_s w n h2).mono ?_;rintro e w' ⟨rfl,h3,ht⟩;(have ht2 : Turn (SrvSet own) w w':=ht.mono fun g _ e => by unfold SrvSet;rw [e,h2.osb];decide);exact ⟨rfl,h.server ht2 (Ext.refl _ _) (fun g hg => h.fr g (Nat.le_trans ht.size hg)) h.low r.disk (some { s with torn:=n }) ⟨sb,wb,dm,tb,tm,v1,ps,qs,hp,h3⟩,ht2⟩
theorem Fails_w (w : World) (writes torn : Int) (h : WorW P own w0 w ob db v r) : Calls Tryz.prog 22 #[.pointer (some ⟨ob,0,none⟩),.int .i64 writes,.int .i64 torn] w fun e w' => e = .returned (.tuple #[]) ∧ WorW P own w0 w' ob db v (r.fails writes torn) ∧ Turn (SrvSet own) w w':=by
 have c3 : w.cell? ⟨ob,3,none⟩ = some (.pointer (some ⟨db,0,none⟩)):=h.o_.cell 3;obtain ⟨n,hn⟩ : ∃ n,n = max writes 0:=⟨_,rfl⟩;have HC:=Hd (Cut_w w n h);have HN:=Hd hn
 cases hsv : r.server with
 | none =>
  have hs:=h.srv;unfold SrvPart at hs;rw [hsv] at hs;have HP:=Hd hs.1;have HR : Hid (r.fails writes torn = { r with disk:=r.disk.cutAt n }):=Hd (by unfold Realm.fails;rw [hsv,hn];cases r;simp_all);clear h hs hsv hn;(go_enter Tryz.func22,Tryz.ntmps22);go_wp2_with (go_at_call 48;rw [← HN.out];refine HC.out.mono ?_;rintro e w' ⟨rfl,h1,h2⟩;have c4 : w'.cell? ⟨ob,4,none⟩ = some (.pointer none):=(by rw [← HP.out];exact h1.o_.cell 4);have H:=Hd h1;have HT:=Hd h2;clear h1 h2)
  all_goals
   go_end0
   rw [HR.out];exact ⟨rfl,H.out,HT.out⟩
 | some s =>
  have hs:=h.srv;unfold SrvPart at hs;rw [hsv] at hs;obtain ⟨sb,wb,dm,tb,tm,v1,ps,qs,hp,-⟩:=hs;have HP:=Hd hp;have HS:=Hd hsv;have HR : Hid (r.fails writes torn = { r with disk:=r.disk.cutAt n,server:=some { s with torn:=torn } }):=Hd (by unfold Realm.fails;rw [hsv,hn];rfl);clear h hsv hn hp;go_enter Tryz.func22,Tryz.ntmps22
  go_wp2_with first
   | (go_at_call 48;rw [← HN.out];refine HC.out.mono ?_;rintro e w' ⟨rfl,h1,h2⟩;have c4 : w'.cell? ⟨ob,4,none⟩ = some (.pointer (some ⟨sb,0,none⟩)):=(by rw [← HP.out];exact h1.o_.cell 4);have H:=Hd h1;have HT:=Hd h2;clear h1 h2)
   | (go_at_call 49;refine (Torn_w _ torn s sb H.out HS.out HP.out).mono ?_;rintro e w2 ⟨rfl,h1,h2⟩;have H2:=Hd h1;have HT2:=Hd h2;clear h1 h2)
  all_goals
   go_end0
   rw [HR.out];exact ⟨rfl,H2.out,HT.out.trans HT2.out fun _ _ e => e⟩
end
section
variable {P : Lib.PrintTabs} {own own1 own2 : Nat → Nat} {T k n size : Nat} {w0 w w1 w' : World} {ob db sb wb dm tb tm cb fm sm : Nat} {v v1 : WV} {r r' : Realm} {vv : Value} {xs : List Value} {ty : TypeId} {ps : List ByteArray} {qs : List Value} {d : Disk} {s : Server} {c : Client}
theorem row_retag (h : Row own k w ty size vv n xs) (hk : ∀ g,own g = k → own1 g = k) : Row own1 k w ty size vv n xs:=⟨h.1,fun g hg => hk g (h.2 g hg)⟩
theorem qrow_retag (h : QRow own k w ty size vv n xs) (hk : ∀ g,own g = k → own1 g = k) : QRow own1 k w ty size vv n xs:=by
 refine ⟨h.1,h.2.imp id ?_⟩;rintro ⟨g,off,cap,cur,h1,h2,h3⟩;exact ⟨g,off,cap,cur,h1,hk g h2,h3⟩
theorem srv_retag (h : SrvW P own w0 w sb db wb dm tb tm vv ps qs d s) (hk : ∀ g k,1 ≤ k → k < 20 → own g = k → own1 g = k) (hs : ∀ g,SrvSet own1 g → SrvSet own g) (hf : ∀ g,w.heap.size ≤ g → own1 g = 0) : SrvW P own1 w0 w sb db wb dm tb tm vv ps qs d s:=
 ⟨h.kit0,h.hdl0,h.bel,fun g hg => h.low g (hs g hg),hf,⟨h.wal.w_,row_retag h.wal.row fun g => hk g 2 (by decide) (by decide),hk _ 3 (by decide) (by decide) h.wal.ow,fun g hg => h.low g (hs g (by unfold SrvSet;omega)),h.wal.lw⟩,h.dsk,h.pls,hk _ 1 (by decide) (by decide) h.odb,h.s_,hk _ 4 (by decide) (by decide) h.osb,h.ok,h.lq,fun o ho => qrow_retag (h.queue o ho) fun g => hk g (10 + o) (by omega) (by omega),h.done,hk _ 5 (by decide) (by decide) h.odm,h.table,hk _ 6 (by decide) (by decide) h.otb,hk _ 7 (by decide) (by decide) h.otm⟩
theorem dsk_retag (h : DskW P own w0 w db ps d) (hk : ∀ g k,1 ≤ k → k < 20 → own g = k → own1 g = k) (hs : ∀ g,SrvSet own1 g → SrvSet own g) (hf : ∀ g,w.heap.size ≤ g → own1 g = 0) : DskW P own1 w0 w db ps d:=
 ⟨h.kit0,h.hdl0,h.bel,fun g hg => h.low g (hs g hg),hf,h.dsk,h.pls,hk _ 1 (by decide) (by decide) h.odb,h.rc⟩
theorem cli_retag {cv : Value} (h : CliW own T w cb fm sm cv c) (hk : ∀ g k,T ≤ k → k < T + 4 → own g = k → own1 g = k) : CliW own1 T w cb fm sm cv c:=
 ⟨h.c_,hk _ T (by omega) (by omega) h.ocb,row_retag h.items fun g => hk g (T + 1) (by omega) (by omega),h.few,h.floors,hk _ (T + 2) (by omega) (by omega) h.ofm,h.seen,hk _ (T + 3) (by omega) (by omega) h.osm,h.fk,h.sk⟩
def only (own own1 : Nat → Nat) (w : World) (lo hi : Nat) : Nat → Nat:=fun g => if g < w.heap.size then own g else if lo ≤ own1 g ∧ own1 g < hi then own1 g else 0
theorem only_ext (own own1 : Nat → Nat) (w : World) (lo hi : Nat) : Ext w own (only own own1 w lo hi):=fun _ hk => if_pos hk
theorem only_keep {lo hi : Nat} (he : Ext w own own1) (g k : Nat) (h1 : lo ≤ k) (h2 : k < hi) (h : own1 g = k) : only own own1 w lo hi g = k:=by
 unfold only;split
 ·rename_i hg;rw [← he g hg];exact h
 ·rw [if_pos (by rw [h];exact ⟨h1,h2⟩)];exact h
theorem only_new {lo hi g : Nat} (hg : w.heap.size ≤ g) : only own own1 w lo hi g = 0 ∨ (lo ≤ only own own1 w lo hi g ∧ only own own1 w lo hi g < hi):=by
 unfold only;rw [if_neg (Nat.not_lt.mpr hg)];split
 ·rename_i h;exact .inr h
 ·exact .inl rfl
theorem only_fr {lo hi : Nat} (hw : w.heap.size ≤ w'.heap.size) (hf : ∀ g,w'.heap.size ≤ g → own1 g = 0) : ∀ g,w'.heap.size ≤ g → only own own1 w lo hi g = 0:=fun g hg => by
 unfold only;rw [if_neg (Nat.not_lt.mpr (Nat.le_trans hw hg)),hf g hg];split <;> rfl
end
section
variable {P : Lib.PrintTabs} {own own1 own2 : Nat → Nat} {w0 w w' : World} {ob db sb wb dm tb tm cb : Nat} {v : WV} {r : Realm} {d : Disk} {s : Server} {c : Client} {l : List Msg} {e : Ending}
theorem WorW.goes_ (h : WorW P own w0 w ob db v r) (hp : v.sp = .pointer (some ⟨sb,0,none⟩)) (hg : GoesPost P own w0 w sb db wb dm tb tm (l,d,s) e w') :
 ∃ u own2,e = .returned u ∧ MsgsAt w.heap.size w' u l ∧ WorW P own2 w0 w' ob db v { r with disk:=d,server:=some s } ∧ Ext w own own2 ∧ Turn (SrvSet own) w w' ∧ ∀ g,w.heap.size ≤ g → own2 g < 20:=by
 obtain ⟨u,own1,v1,ps1,qs1,he,hx,hm,hs,ht⟩:=hg;have hn:=fun g (hg : w.heap.size ≤ g) => only_new (own:=own) (own1:=own1) (lo:=1) (hi:=20) hg;have hf:=only_fr (own:=own) (own1:=own1) (lo:=1) (hi:=20) ht.size hs.fr
 have hset : ∀ g,SrvSet (only own own1 w 1 20) g → SrvSet own1 g:=fun g hg => by
  unfold SrvSet only at *;split at hg
  ·rename_i h1;rw [hx g h1];exact hg
  ·split at hg
   ·exact hg
   ·omega
 have hs2:=srv_retag (own1:=only own own1 w 1 20) hs (fun g k h1 h2 h3 => only_keep hx g k h1 h2 h3) hset hf;refine ⟨u,only own own1 w 1 20,he,hm,h.server ht (only_ext _ _ _ _ _) hf (fun g hg => ?_) d (some s) ⟨sb,wb,dm,tb,tm,v1,ps1,qs1,hp,hs2⟩,only_ext _ _ _ _ _,ht,fun g hg => ?_⟩
 ·rcases Nat.lt_or_ge g w.heap.size with h1 | h1
  ·rw [only_ext own own1 w 1 20 g h1] at hg;exact h.low g hg
  ·exact Nat.le_trans h.bel.size h1
 ·rcases hn g hg with h1 | h1 <;> omega
theorem WorW.cli_ (h : WorW P own w0 w ob db v r) (k : Nat) (hk : k < r.clients.length) (hp : v.pts[k]? = some cb) (mk : Value → Value) (hg : CPost own (20 + 4 * k) w cb c l mk e w') :
 ∃ u own2,e = .returned (mk u) ∧ MsgsAt w.heap.size w' u l ∧ WorW P own2 w0 w' ob db v { r with clients:=r.clients.set k c } ∧ Ext w own own2 ∧ Turn (CliSet own (20 + 4 * k)) w w' ∧ ∀ g,w.heap.size ≤ g → own2 g < 40:=by
 obtain ⟨own1,cv1,fm1,sm1,u,he,hx,hfr,hc,hm,ht⟩:=hg;have hk4 : k < 4:=Nat.lt_of_lt_of_le hk h.few;have hn:=fun g (hg : w.heap.size ≤ g) => only_new (own:=own) (own1:=own1) (lo:=20 + 4 * k) (hi:=20 + 4 * k + 4) hg;have hf:=only_fr (own:=own) (own1:=own1) (lo:=20 + 4 * k) (hi:=20 + 4 * k + 4) ht.size hfr;have hc2:=cli_retag (own1:=only own own1 w (20 + 4 * k) (20 + 4 * k + 4)) hc fun g i h1 h2 h3 => only_keep hx g i h1 h2 h3;refine ⟨u,only own own1 w (20 + 4 * k) (20 + 4 * k + 4),he,hm,h.client k hk ht (only_ext _ _ _ _ _) hf (fun g hg => ?_) c ⟨cb,fm1,sm1,cv1,hp,hc2⟩,only_ext _ _ _ _ _,ht,fun g hg => ?_⟩
 ·rcases Nat.lt_or_ge g w.heap.size with h1 | h1
  ·rw [only_ext own own1 w _ _ g h1] at hg;exact h.low g hg
  ·exact Nat.le_trans h.bel.size h1
 ·rcases hn g hg with h1 | h1 <;> omega
end
end wor
namespace wor
open Go.RowKit heap own errs mapof wire srv cli
open model (Disk Server Client MCall MEvent Terms Gram Net Realm)
open lasts (Idx Inv)
section
variable {P : Lib.PrintTabs} {own own1 : Nat → Nat} {w0 w w' : World} {ob db : Nat} {v v' : WV} {r r' : Realm}
def Acted (P : Lib.PrintTabs) (own : Nat → Nat) (w0 : World) (ob db : Nat) (v : WV) (w : World) (r' : Realm) (l : List Msg) (mk : Value → Value) (e : Ending) (w' : World) : Prop:=
 ∃ u own2,e = .returned (mk u) ∧ MsgsAt w.heap.size w' u l ∧ WorW P own2 w0 w' ob db v r' ∧ Ext w own own2 ∧ Turn (fun g => own g ≠ 0) w w' ∧ ∀ g,w.heap.size ≤ g → g < w'.heap.size → g ≠ ob ∧ own2 g < 60
theorem cli_acted (h : WorW P own w0 w ob db v r) {k cb : Nat} (hk : k < r.clients.length) (hp : v.pts[k]? = some cb) {mk : Value → Value} {c : Client} {l : List Msg} {e : Ending} (hg : CPost own (20 + 4 * k) w cb c l mk e w') : Acted P own w0 ob db v w { r with clients:=r.clients.set k c } l mk e w':=by
 obtain ⟨u,own2,h1,h2,h3,h4,h5,h6⟩:=h.cli_ k hk hp mk hg;refine ⟨u,own2,h1,h2,h3,h4,h5.mono fun g _ e => ?_,fun g hg _ => ⟨fun e => ?_,?_⟩⟩
 ·unfold CliSet at e;omega
 ·have:=h.o_.lt;omega
 ·have:=h6 g hg;omega
theorem Again_a (w : World) (h : WorW P own w0 w ob db v r) {k cb : Nat} {c : Client} (hk : r.clients[k]? = some c) (hp : v.pts[k]? = some cb) :
 Calls Tryz.prog 40 #[.pointer (some ⟨cb,0,none⟩)] w (Acted P own w0 ob db v w { r with clients:=r.clients.set k c.again.2 } c.again.1 fun u => u):=by
 obtain ⟨cb',fm,sm,cv,h1,h2⟩:=h.cls k c hk;obtain rfl : cb = cb':=Option.some.inj (hp.symm.trans h1);refine (Again_c h2 h.fr (by omega)).mono ?_;rintro e w' ⟨u,rfl,hm⟩;exact cli_acted h (List.getElem?_eq_some_iff.mp hk).1 hp (hm.post (mk:=fun u => u))
theorem Read_a (w : World) (o : Int) (h : WorW P own w0 w ob db v r) {k cb : Nat} {c : Client} (hk : r.clients[k]? = some c) (hp : v.pts[k]? = some cb) :
 Calls Tryz.prog 35 #[.pointer (some ⟨cb,0,none⟩),.int .i64 o] w (Acted P own w0 ob db v w { r with clients:=r.clients.set k (c.read o).2.2 } (c.read o).2.1 fun u => .tuple #[u,errV (c.read o).1]):=by
 obtain ⟨cb',fm,sm,cv,h1,h2⟩:=h.cls k c hk;obtain rfl : cb = cb':=Option.some.inj (hp.symm.trans h1);exact (Read_c o h2 h.fr (by omega)).mono fun e w' hm => cli_acted h (List.getElem?_eq_some_iff.mp hk).1 hp hm
theorem Write_a (w : World) (o : Int) (data : List UInt8) (h : WorW P own w0 w ob db v r) {k cb : Nat} {c : Client} (hk : r.clients[k]? = some c) (hp : v.pts[k]? = some cb) :
 Calls Tryz.prog 31 #[.pointer (some ⟨cb,0,none⟩),.int .i64 o,.string ⟨data.toArray⟩] w (Acted P own w0 ob db v w { r with clients:=r.clients.set k (c.write o data).2.2 } (c.write o data).2.1 fun u => .tuple #[u,errV (c.write o data).1]):=by
 obtain ⟨cb',fm,sm,cv,h1,h2⟩:=h.cls k c hk;obtain rfl : cb = cb':=Option.some.inj (hp.symm.trans h1);refine (Write_c o data h2 h.fr (by omega)).mono ?_;rintro e w' ⟨u,rfl,hm⟩;exact cli_acted h (List.getElem?_eq_some_iff.mp hk).1 hp (hm.post (mk:=fun u => .tuple #[u,errV (c.write o data).1]))
theorem Take_a (w : World) (m : Msg) (hv : i64ok m.version) (h : WorW P own w0 w ob db v r) {k cb : Nat} {c : Client} (hk : r.clients[k]? = some c) (hp : v.pts[k]? = some cb) :
 Calls Tryz.prog 45 #[.pointer (some ⟨cb,0,none⟩),m.val] w (Acted P own w0 ob db v w { r with clients:=r.clients.set k (c.take m).2 } (c.take m).1 fun u => u):=by
 obtain ⟨cb',fm,sm,cv,h1,h2⟩:=h.cls k c hk;obtain rfl : cb = cb':=Option.some.inj (hp.symm.trans h1);exact (Take_c m h2 h.fr (by omega) hv).mono fun e w' hm => cli_acted h (List.getElem?_eq_some_iff.mp hk).1 hp hm
theorem sends_a (b : Bool) (u : Value) (l : List Msg) {B : Nat} (h : WorW P own w0 w ob db v r) (hm : MsgsAt B w u l) (hB : ∀ g,B ≤ g → g < w.heap.size → g ≠ ob ∧ own g ≠ 66) (hd : ∀ m ∈ l,m.data.length ≤ 20) (to_ : Int) (hto : to_ = if b then 0 else -1) :
 Calls Tryz.prog 39 #[.pointer (some ⟨ob,0,none⟩),.int .i64 to_,u] w fun e w' => e = .returned (.tuple #[]) ∧ ∃ own2 v2,WorW P own2 w0 w' ob db v2 (r.sends b l) ∧ Ext w own own2 ∧ Turn (fun g => own g ≠ 0) w w':=by
 rw [hto];refine (sends_w w b u l h hm hB hd).mono ?_;rintro e w' ⟨rfl,hs⟩;exact ⟨rfl,hs.stepped h⟩
theorem begin_a (w : World) (h : WorW P own w0 w ob db v r) : Calls Tryz.prog 38 #[.pointer (some ⟨ob,0,none⟩)] w fun e w' => e = .returned (.tuple #[]) ∧ WorW P own w0 w' ob db v r.begin ∧ Turn (fun g => own g ≠ 0) w w':=by
 refine (begin_w w h).mono ?_;rintro e w' ⟨rfl,h1,h2⟩;exact ⟨rfl,h1,h.obT h2⟩
theorem right_iff {k : Int} (h : r.right k = true) : ∃ n : Nat,k = n ∧ n < r.clients.length:=by
 unfold Realm.right at h;simp only [Bool.and_eq_true,decide_eq_true_eq] at h;exact ⟨k.toNat,by omega,by omega⟩
theorem Again_w (w : World) (k : Int) {b : Int} {G : lasts.Asked} (hi : Inv b G r) (hb : b ≤ 1000000) (h : WorW P own w0 w ob db v r) :
 Calls Tryz.prog 17 #[.pointer (some ⟨ob,0,none⟩),.int .i64 k] w fun e w' => e = .returned (errV (r.again k).1) ∧ Stepped P own w0 ob db w (r.again k).2 w':=by
 have HRI:=Hd (right_w w k h)
 cases hr : r.right k with
 | false =>
  rw [hr] at HRI;have HR : Hid (r.again k = (2,r)):=Hd (by unfold Realm.again;rw [hr];rfl);have H:=Hd h;clear h hr;(go_enter Tryz.func17,Tryz.ntmps17);(go_wp2_with (go_at_call 37;refine HRI.out.mono ?_;rintro e w' ⟨rfl,rfl⟩));go_ret;rw [HR.out];exact ⟨rfl,Stepped.here H.out⟩
 | true =>
  rw [hr] at HRI;obtain ⟨n,rfl,hn⟩:=right_iff hr;have hkc : r.clients[n]? = some r.clients[n]:=List.getElem?_eq_getElem hn;generalize r.clients[n] = c at hkc
  have HR : Hid (r.again n = (0,{ r with clients:=r.clients.set n c.again.2 }.begin.sends false c.again.1)):=Hd (by
   unfold Realm.again;rw [hr]
   simp only [Bool.not_true,Bool.false_eq_true,if_false,Int.toNat_natCast,hkc])
  have HSH : Hid (∀ m ∈ c.again.1,m.data.length ≤ 20):=Hd fun m hm => by
   obtain ⟨l0,l1⟩:=lasts.life_ok hi hkc;exact ((lasts.again_ok (hi.clients n c hkc) hi.b0 hb l0 l1).1 m hm).short
  have HKC : Hid (r.begin.clients[n]? = some c):=Hd hkc;have H:=Hd h;obtain ⟨m,hm⟩ : ∃ m,m = r.clients.length:=⟨_,rfl⟩;rw [← hm] at hn;have HM:=Hd hm;clear h hr hkc hi hm;go_enter Tryz.func17,Tryz.ntmps17
  go_wp2_with first
   | (go_at_call 37;refine HRI.out.mono ?_;rintro e w' ⟨rfl,rfl⟩)
   | (go_at_call 38;refine (begin_a _ H.out).mono ?_;rintro e w1 ⟨rfl,h1,ht1⟩;obtain ⟨g5,cap5,cb,fm,sm,cv,hv5,ho5,hl5,hpt,z5,f5,hcw⟩:=h1.pt HKC.out;have c5 : w1.cell? ⟨ob,5,none⟩ = some (.slice (some ⟨g5,0,none⟩) m cap5):=(by rw [HM.out];exact (h1.o_.cell 5).trans (congrArg some hv5));have H1:=Hd h1;have HT1:=Hd ht1;have HPT:=Hd hpt;clear h1 ht1 hpt hv5 ho5 hcw f5)
   | (go_at_call 40;refine (Again_a _ H1.out HKC.out HPT.out).mono ?_;rintro e w2 ⟨u,own2,rfl,hm2,h2,hx2,ht2,hb2⟩;have HM2:=Hd hm2;have H2:=Hd h2;have HX2:=Hd hx2;have HT2:=Hd (HT1.out.trans ht2 fun _ _ e => e);have HB2:=Hd hb2;clear hm2 h2 hx2 ht2 hb2)
   | (go_at_call 39;refine (sends_a false u _ H2.out HM2.out (fun g h1 h2 => ⟨(HB2.out g h1 h2).1,by have:=(HB2.out g h1 h2).2;omega⟩) HSH.out (-1) rfl).mono ?_;rintro e w3 ⟨rfl,hs3⟩;have HS3:=Hd hs3;clear hs3)
  go_ret;rw [HR.out];refine ⟨rfl,Stepped.ahead (fun g hg => HX2.out g (Nat.lt_of_lt_of_le hg HT1.out.size)) HT2.out HS3.out⟩
end
end wor
end Go.Proofs.YtefkmcjhgoagcaaGreatDoor
