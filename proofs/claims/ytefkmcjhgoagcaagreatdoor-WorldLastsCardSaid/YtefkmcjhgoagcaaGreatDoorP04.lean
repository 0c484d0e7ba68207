/-
  A part of the proof of the law WorldLasts: Keep, KeepRead.
-/
import Derived.IntWalk
import Derived.Laws.Shifts
import Derived.Laws.Bits64
import Derived.Test.YtefkmcjhgoagcaaGreatDoorP02
namespace Go.Proofs.YtefkmcjhgoagcaaGreatDoor
namespace keep
open Go.RowKit wire model lasts
def pick (a n : Int) : Int:=wrap64 ((IntKind.u64.wrap a).tmod n)
theorem pick_in (a n : Int) (h1 : 1 ≤ n) (h2 : n ≤ 9223372036854775807) : 0 ≤ pick a n ∧ pick a n < n:=by
 unfold pick;(have e : IntKind.u64.wrap a = a % 18446744073709551616:=by simp [IntKind.wrap_u64]);rw [e,Int.tmod_eq_emod_of_nonneg (Int.emod_nonneg _ (by omega))];have lo:=Int.emod_nonneg (a % 18446744073709551616) (b:=n) (by omega);have hi:=Int.emod_lt_of_pos (a % 18446744073709551616) (b:=n) (by omega);rw [IntWalk.wrap64_in] <;> omega
def mkTerms (o v d : Int) : Terms:=⟨1 + pick v 15 + pick o 25,1 + pick v 15,pick d 501⟩
theorem mk_right (o v d : Int) : rightTerms (mkTerms o v d) = true:=by
 have h1:=pick_in v 15 (by omega) (by omega);have h2:=pick_in o 25 (by omega) (by omega);have h3:=pick_in d 501 (by omega) (by omega);unfold rightTerms mkTerms inR;simp only [Bool.and_eq_true];refine ⟨⟨⟨decide_eq_true ?_,decide_eq_true ?_⟩,decide_eq_true ?_⟩,decide_eq_true ?_,decide_eq_true ?_⟩ <;> omega
def low (gone d : Int) : Int:=(gone * (1000 - d) + 999) / 1000
def high (gone d : Int) : Int:=gone * (1000 + d) / 1000
def nextB (b : Int) : Int:=pick b 1073741824 * 31 + 7
def timeOf (gone d b : Int) : Int:=if low gone d ≤ high gone d then low gone d + pick (b / 8) (high gone d - low gone d + 1) else gone
def itB : Nat → Int → Int
 | 0,b => b
 | n + 1,b => nextB (itB n b)
def times (gone d : Int) (n : Nat) (b : Int) : List Int:=(List.range n).map fun i => timeOf gone d (itB (i + 1) b)
theorem times_succ (gone d : Int) (n : Nat) (b : Int) : times gone d (n + 1) b = times gone d n b ++ [timeOf gone d (itB (n + 1) b)]:=by
 simp [times,List.range_succ]
theorem times_len (gone d : Int) (n : Nat) (b : Int) : (times gone d n b).length = n:=by simp [times]
structure Step where
 what : Int
 k : Int
 a : Int
 b : Int
structure Tale where
 r : Realm
 t : Terms
 n : Int
 writes : Int
def text (n : Int) : Bytes:=[119,UInt8.ofNat (n % 256).toNat,UInt8.ofNat (n / 256 % 256).toNat]
def index (x : Step) (r : Realm) : Int:=if 0 < r.net.l.length then pick x.a r.net.l.length else 0
def does (x : Step) (y : Tale) : Tale:=
 if x.what = 0 then { y with r:=(y.r.read (pick x.k y.n) (pick x.a 3)).2 }
 else if x.what = 1 then { y with r:=(y.r.write (pick x.k y.n) (pick x.a 3) (text (y.writes + 1))).2,writes:=y.writes + 1 }
 else if x.what = 2 then { y with r:=(y.r.again (pick x.k y.n)).2 }
 else if x.what = 3 then { y with r:=(y.r.deliver (index x y.r)).2 }
 else if x.what = 4 then { y with r:=(y.r.lose (index x y.r)).2 }
 else if x.what = 5 then { y with r:=(y.r.twice (index x y.r)).2 }
 else if x.what = 6 then { y with r:=(y.r.goes (times (pick x.a 12) y.t.drift (y.n.toNat + 1) x.b)).2 }
 else if x.what = 7 then { y with r:=y.r.fails (pick x.a 3) (pick x.b 60 - 1) }
 else if x.what = 8 then { y with r:=y.r.crash }
 else if x.what = 9 then { y with r:=y.r.restart.2 }
 else if x.what = 10 then { y with r:=(y.r.reborn (pick x.k y.n)).2 }
 else if x.what = 11 then { y with r:=Realm.calmN (pick x.a 4).toNat y.r }
 else y
theorem looks_events (w : Realm) (k : Nat) : (w.looks k).events.length = w.events.length:=by
 unfold Realm.looks;split
 ·split
  ·split <;> simp
  ·rfl
 ·rfl
theorem begins_events (w : Realm) (k : Nat) (e : Int) (l : List Msg) (c : Client) : (w.begins k e l c).2.events.length ≤ w.events.length + 1:=by
 unfold Realm.begins;split
 ·simp
 ·exact Nat.le_trans (Nat.le_of_eq (looks_events _ _)) (by simp [Realm.sends,Realm.begin])
theorem read_events (w : Realm) (k o : Int) : (w.read k o).2.events.length ≤ w.events.length + 1:=by
 unfold Realm.read;split
 ·simp
 ·split
  ·exact begins_events _ _ _ _ _
  ·simp
theorem write_events (w : Realm) (k o : Int) (d : Bytes) : (w.write k o d).2.events.length ≤ w.events.length + 1:=by
 unfold Realm.write;split
 ·simp
 ·split
  ·exact begins_events _ _ _ _ _
  ·simp
theorem again_events (w : Realm) (k : Int) : (w.again k).2.events = w.events:=by
 unfold Realm.again;split
 ·rfl
 ·split <;> rfl
theorem falls_events (w : Realm) : w.falls.events = w.events:=by
 unfold Realm.falls;split
 ·split <;> rfl
 ·rfl
theorem deliver_events (w : Realm) (k : Int) : (w.deliver k).2.events.length = w.events.length:=by
 unfold Realm.deliver;split
 ·rfl
 ·split
  ·rfl
  ·dsimp only;split
   ·split
    ·rfl
    ·rw [falls_events];rfl
   ·split
    ·exact looks_events _ _
    ·rfl
theorem lose_events (w : Realm) (k : Int) : (w.lose k).2.events = w.events:=by
 unfold Realm.lose;split <;> rfl
theorem twice_events (w : Realm) (k : Int) : (w.twice k).2.events = w.events:=by
 unfold Realm.twice;split
 ·rfl
 ·split <;> rfl
theorem goes_events (w : Realm) (l : List Int) : (w.goes l).2.events = w.events:=by
 unfold Realm.goes;split
 ·rfl
 ·split
  ·rfl
  ·dsimp only;split
   ·rfl
   ·rw [falls_events];rfl
theorem restart_events (w : Realm) : w.restart.2.events = w.events:=by
 unfold Realm.restart;split <;> rfl
theorem reborn_events (w : Realm) (k : Int) : (w.reborn k).2.events = w.events:=by
 unfold Realm.reborn;split
 ·rfl
 ·split <;> rfl
theorem flowsF_events : ∀ (f : Nat) (w : Realm),(Realm.flowsF f w).events.length = w.events.length
 | 0,_ => rfl
 | f + 1,w => by
  unfold Realm.flowsF;split
  ·rfl
  ·rw [flowsF_events f,deliver_events]
theorem eachAgain_events : ∀ (ks : List Nat) (w : Realm),(Realm.eachAgain ks w).events.length = w.events.length
 | [],_ => rfl
 | k :: ks,w => by
  unfold Realm.eachAgain;rw [eachAgain_events ks,Realm.flows,flowsF_events,again_events]
theorem round_events (w : Realm) : w.round.events.length = w.events.length:=by
 unfold Realm.round;simp only [Realm.flows];rw [flowsF_events,goes_events,eachAgain_events,restart_events]
theorem calmN_events : ∀ (n : Nat) (w : Realm),(Realm.calmN n w).events.length = w.events.length
 | 0,_ => rfl
 | n + 1,w => by
  unfold Realm.calmN;rw [calmN_events n,round_events]
structure Fits (b : Int) (G : Asked) (r : Realm) : Prop where
 inv : Inv b G r
 idx : Idx r
 tos : Tos r
 clk : Clk r
 evs : (r.events.length : Int) ≤ b
theorem Fits.up_ {b b' : Int} {G : Asked} {r : Realm} (h : Fits b G r) (hb : b ≤ b') : Fits b' G r:=⟨h.inv.up_ hb,h.idx,h.tos,h.clk,Int.le_trans h.evs hb⟩
theorem Fits.read_ {b : Int} {G : Asked} {r : Realm} (h : Fits b G r) (hb : b < 1000000) (k o : Int) : ∃ G',Fits (b + 2) G' (r.read k o).2:=by
 obtain ⟨G',h1⟩:=read_inv h.inv hb k o;exact ⟨G',h1,h.idx.read_ k o,h.tos.read_ k o,h.clk.same (read_clocks r k o),by have:=read_events r k o;have:=h.evs;omega⟩
theorem Fits.write_ {b : Int} {G : Asked} {r : Realm} (h : Fits b G r) (hb : b < 1000000) (k o : Int) (d : Bytes) : ∃ G',Fits (b + 2) G' (r.write k o d).2:=by
 obtain ⟨G',h1⟩:=write_inv h.inv hb k o d;exact ⟨G',h1,h.idx.write_ k o d,h.tos.write_ k o d,h.clk.same (write_clocks r k o d),by have:=write_events r k o d;have:=h.evs;omega⟩
theorem Fits.again_ {b : Int} {G : Asked} {r : Realm} (h : Fits b G r) (hb : b < 1000000) (k : Int) : Fits (b + 1) G (r.again k).2:=
 ⟨again_inv h.inv hb k,h.idx.again_ k,h.tos.again_ k,h.clk.same (again_clocks r k),by rw [again_events];have:=h.evs;omega⟩
theorem Fits.deliver_ {b : Int} {G : Asked} {r : Realm} (h : Fits b G r) (k : Int) : Fits b G (r.deliver k).2:=
 ⟨deliver_inv h.inv k,h.idx.deliver_ k,h.tos.deliver_ k,h.clk.same (deliver_clocks r k),by rw [deliver_events];exact h.evs⟩
theorem Fits.lose_ {b : Int} {G : Asked} {r : Realm} (h : Fits b G r) (k : Int) : Fits b G (r.lose k).2:=
 ⟨lose_inv h.inv k,h.idx.lose_ k,h.tos.lose_ k,h.clk.same (lose_clocks r k),by rw [lose_events];exact h.evs⟩
theorem Fits.twice_ {b : Int} {G : Asked} {r : Realm} (h : Fits b G r) (k : Int) : Fits b G (r.twice k).2:=
 ⟨twice_inv h.inv k,h.idx.twice_ k,h.tos.twice_ k,h.clk.same (twice_clocks r k),by rw [twice_events];exact h.evs⟩
theorem Fits.goes_ {b : Int} {G : Asked} {r : Realm} (h : Fits b G r) (l : List Int) : Fits b G (r.goes l).2:=
 ⟨goes_inv h.inv l,h.idx.goes_ l,h.tos.goes_ l,h.clk.goes_ l,by rw [goes_events];exact h.evs⟩
theorem Fits.fails_ {b : Int} {G : Asked} {r : Realm} (h : Fits b G r) (a t : Int) : Fits b G (r.fails a t):=
 ⟨fails_inv h.inv a t,h.idx,h.tos.fails_ a t,h.clk,h.evs⟩
theorem Fits.crash_ {b : Int} {G : Asked} {r : Realm} (h : Fits b G r) : Fits b G r.crash:=
 ⟨crash_inv h.inv,h.idx,h.tos.crash_,h.clk,h.evs⟩
theorem Fits.restart_ {b : Int} {G : Asked} {r : Realm} (h : Fits b G r) : Fits b G r.restart.2:=
 ⟨restart_inv h.inv,h.idx.restart_,h.tos.restart_,h.clk.same (restart_clocks r),by rw [restart_events];exact h.evs⟩
theorem Fits.reborn_ {b : Int} {G : Asked} {r : Realm} (h : Fits b G r) (hb : b < 1000000) (k : Int) : Fits b G (r.reborn k).2:=
 ⟨reborn_inv h.inv hb k,h.idx.reborn_ k,h.tos.reborn_ k,h.clk.same (reborn_clocks r k),by rw [reborn_events];exact h.evs⟩
theorem Clk.calmN_ : ∀ (n : Nat) {w : Realm} (_ : Clk w),Clk (Realm.calmN n w)
 | 0,_,h => h
 | n + 1,_,h => Clk.calmN_ n (lasts.Clk.round_ h)
theorem Fits.calm_ {b : Int} {G : Asked} {r : Realm} (h : Fits b G r) (n : Nat) (hb : b + 4 * n ≤ 1000000) : Fits (b + 4 * n) G (Realm.calmN n r):=
 ⟨calmN_inv n h.inv hb,h.idx.calmN_ n,h.tos.calmN_ n,Clk.calmN_ n h.clk,by rw [calmN_events];have:=h.evs;omega⟩
theorem Fits.new_ {t : Terms} {n : Int} {r : Realm} (h : (Realm.new t n).2 = some r) : Fits 0 [] r:=by
 refine ⟨new_inv h,Idx.new_ h,Tos.new_ h,Clk.new_ h,?_⟩;unfold Realm.new at h;split at h
 ·cases h
 ·split at h
  ·split at h
   ·obtain rfl:=Option.some.inj h;exact Int.le_refl _
   ·cases h
  ·cases h
theorem does_fits {b : Int} {G : Asked} {y : Tale} (h : Fits b G y.r) (hb : b ≤ 900000) (x : Step) : ∃ G',Fits (b + 20) G' (does x y).r:=by
 have up : ∀ {b' : Int} {G' : Asked} {r : Realm},Fits b' G' r → b' ≤ b + 20 → ∃ G',Fits (b + 20) G' r:=fun hf hl => ⟨_,hf.up_ hl⟩;unfold does;by_cases h0 : x.what = 0
 ·obtain ⟨G',h1⟩:=h.read_ (by omega) (pick x.k y.n) (pick x.a 3);rw [if_pos h0];exact up h1 (by omega)
 rw [if_neg h0];by_cases h0 : x.what = 1
 ·obtain ⟨G',h1⟩:=h.write_ (by omega) (pick x.k y.n) (pick x.a 3) (text (y.writes + 1));rw [if_pos h0];exact up h1 (by omega)
 rw [if_neg h0];by_cases h0 : x.what = 2
 ·rw [if_pos h0];exact up (h.again_ (by omega) _) (by omega)
 rw [if_neg h0];by_cases h0 : x.what = 3
 ·rw [if_pos h0];exact up (h.deliver_ _) (by omega)
 rw [if_neg h0];by_cases h0 : x.what = 4
 ·rw [if_pos h0];exact up (h.lose_ _) (by omega)
 rw [if_neg h0];by_cases h0 : x.what = 5
 ·rw [if_pos h0];exact up (h.twice_ _) (by omega)
 rw [if_neg h0];by_cases h0 : x.what = 6
 ·rw [if_pos h0];exact up (h.goes_ _) (by omega)
 rw [if_neg h0];by_cases h0 : x.what = 7
 ·rw [if_pos h0];exact up (h.fails_ _ _) (by omega)
 rw [if_neg h0];by_cases h0 : x.what = 8
 ·rw [if_pos h0];exact up h.crash_ (by omega)
 rw [if_neg h0];by_cases h0 : x.what = 9
 ·rw [if_pos h0];exact up h.restart_ (by omega)
 rw [if_neg h0];by_cases h0 : x.what = 10
 ·rw [if_pos h0];exact up (h.reborn_ (by omega) _) (by omega)
 rw [if_neg h0];by_cases h0 : x.what = 11
 ·have hp:=pick_in x.a 4 (by omega) (by omega);rw [if_pos h0];exact up (h.calm_ (pick x.a 4).toNat (by omega)) (by omega)
 rw [if_neg h0];exact up h (by omega)
theorem does_same (x : Step) (y : Tale) : (does x y).t = y.t ∧ (does x y).n = y.n:=by
 unfold does;by_cases h0 : x.what = 0
 ·rw [if_pos h0];exact ⟨rfl,rfl⟩
 rw [if_neg h0];by_cases h0 : x.what = 1
 ·rw [if_pos h0];exact ⟨rfl,rfl⟩
 rw [if_neg h0];by_cases h0 : x.what = 2
 ·rw [if_pos h0];exact ⟨rfl,rfl⟩
 rw [if_neg h0];by_cases h0 : x.what = 3
 ·rw [if_pos h0];exact ⟨rfl,rfl⟩
 rw [if_neg h0];by_cases h0 : x.what = 4
 ·rw [if_pos h0];exact ⟨rfl,rfl⟩
 rw [if_neg h0];by_cases h0 : x.what = 5
 ·rw [if_pos h0];exact ⟨rfl,rfl⟩
 rw [if_neg h0];by_cases h0 : x.what = 6
 ·rw [if_pos h0];exact ⟨rfl,rfl⟩
 rw [if_neg h0];by_cases h0 : x.what = 7
 ·rw [if_pos h0];exact ⟨rfl,rfl⟩
 rw [if_neg h0];by_cases h0 : x.what = 8
 ·rw [if_pos h0];exact ⟨rfl,rfl⟩
 rw [if_neg h0];by_cases h0 : x.what = 9
 ·rw [if_pos h0];exact ⟨rfl,rfl⟩
 rw [if_neg h0];by_cases h0 : x.what = 10
 ·rw [if_pos h0];exact ⟨rfl,rfl⟩
 rw [if_neg h0];by_cases h0 : x.what = 11
 ·rw [if_pos h0];exact ⟨rfl,rfl⟩
 rw [if_neg h0];exact ⟨rfl,rfl⟩
theorem does_writes (x : Step) (y : Tale) : (does x y).writes = y.writes ∨ (does x y).writes = y.writes + 1:=by
 unfold does;by_cases h0 : x.what = 0
 ·rw [if_pos h0];exact .inl rfl
 rw [if_neg h0];by_cases h0 : x.what = 1
 ·rw [if_pos h0];exact .inr rfl
 rw [if_neg h0];by_cases h0 : x.what = 2
 ·rw [if_pos h0];exact .inl rfl
 rw [if_neg h0];by_cases h0 : x.what = 3
 ·rw [if_pos h0];exact .inl rfl
 rw [if_neg h0];by_cases h0 : x.what = 4
 ·rw [if_pos h0];exact .inl rfl
 rw [if_neg h0];by_cases h0 : x.what = 5
 ·rw [if_pos h0];exact .inl rfl
 rw [if_neg h0];by_cases h0 : x.what = 6
 ·rw [if_pos h0];exact .inl rfl
 rw [if_neg h0];by_cases h0 : x.what = 7
 ·rw [if_pos h0];exact .inl rfl
 rw [if_neg h0];by_cases h0 : x.what = 8
 ·rw [if_pos h0];exact .inl rfl
 rw [if_neg h0];by_cases h0 : x.what = 9
 ·rw [if_pos h0];exact .inl rfl
 rw [if_neg h0];by_cases h0 : x.what = 10
 ·rw [if_pos h0];exact .inl rfl
 rw [if_neg h0];by_cases h0 : x.what = 11
 ·rw [if_pos h0];exact .inl rfl
 rw [if_neg h0];exact .inl rfl
def readA : Int × Realm:=match (Realm.new ⟨30,10,0⟩ 2).2 with | some r => r.write 0 3 [97] | none => (1,⟨⟨0,0,0⟩,⟨[],false,0⟩,none,[],[],[],⟨[],0⟩,[],[],0⟩)
def readB : Realm:=Realm.calmN 30 readA.2
def readC : Int × Realm:=readB.read 1 3
def readD : Realm:=Realm.calmN 1 readC.2
def readE : Int × Realm:=readD.read 1 3
def sameV (a b : Val) : Bool:=decide (a.data = b.data) && decide (a.ver = b.ver)
def readOK : Bool:=
 (Realm.new ⟨30,10,0⟩ 2).2.isSome && decide (readA.1 = 0) && decide (readC.1 = 0) && decide (readE.1 = 0) && decide (readE.2.net.l.length = readD.net.l.length) &&
 (match readE.2.events with
 | [e0,e1,e2] => decide (e0.call.value.ver = 1) && sameV e1.call.value ⟨[97],1⟩ && e2.call.hit && sameV e2.call.value e1.call.value
 | _ => false)
theorem read_ok : readOK = true:=by decide +kernel
end keep
end Go.Proofs.YtefkmcjhgoagcaaGreatDoor
