/-
  A part of the proof of the law WorldLasts: Many, ManyN.
-/
import Derived.RowKit
import Derived.Lib.Hide
import Derived.Test.YtefkmcjhgoagcaaGreatDoorP03
namespace Go.Proofs.YtefkmcjhgoagcaaGreatDoor
namespace last
open Go
section
variable {P : Program} {ops : Array Oper} {Q : Exit → Act → World → Prop} {md : Region.Mode} {S : World → Prop} {L : Nat}
inductive Steps (P : Program) (ops : Array Oper) (ds : List Deferred) (W : World) : List Value → List (Nat × Nat × Value) → List Value → Prop
 | z {ts : List Value} : Steps P ops ds W ts [] ts
 | s {ts ts2 ts' : List Value} {i : Nat} {d : Nat} {v : Value} {l : List (Nat × Nat × Value)} {o : Oper} (h : Steps P ops ds W ts2 l ts') (h1 : ops[i]? = some o:=by rfl) (h2 : o.dst = some d:=by rfl) (h3 : Region.wanted o (yielded ops ts.toArray) = true:=by rfl) (h4 : (execOp (Act.eval ⟨ts.toArray,ds⟩) o).run P W = .ok (.value v) W:=by first | (go_simp;done) | (go_simp;rfl)) (h5 : ts.set d v = ts2:=by dsimp only [List.set_cons_succ,List.set_cons_zero]) : Steps P ops ds W ts ((i,d,v) :: l) ts'
 | k {ts ts2 ts' : List Value} {i : Nat} {d : Nat} {v : Value} {l : List (Nat × Nat × Value)} {o : Oper} (h : Steps P ops ds W ts2 l ts') (h1 : ops[i]? = some o:=by rfl) (h2 : o.dst = some d:=by rfl) (h3 : Region.wanted o (yielded ops ts.toArray) = false:=by rfl) (h4 : v = undef:=by rfl) (h5 : ts.set d v = ts2:=by dsimp only [List.set_cons_succ,List.set_cons_zero]) : Steps P ops ds W ts ((i,d,v) :: l) ts'
def chk (md : Region.Mode) (ops : Array Oper) (L : Nat) : List Bool → List (Nat × Nat × Value) → Bool
 | _,[] => true
 | lb,(i,_,_) :: l => Region.free md ops lb.toArray i && (Region.ready md ops lb.toArray).contains i && waits md ops L i && chk md ops L (lb.set i true) l
def setAll : List Bool → List (Nat × Nat × Value) → List Bool
 | lb,[] => lb
 | lb,(i,_,_) :: l => setAll (lb.set i true) l
def setVals : List Value → List (Nat × Nat × Value) → List Value
 | ts,[] => ts
 | ts,(_,d,v) :: l => setVals (ts.set d v) l
def more (f : Nat) : List (Nat × Nat × Value) → Nat
 | [] => f
 | _ :: l => more f l + 1
theorem many_ (hs : Region.noSelect ops = true) (hQ : ∀ c a w d v,Q (.panic c) (a.put (some d) v) w → Q (.panic c) a w) {fuel : Nat} {ds : List Deferred} {w : World} (hS : S w) :
 ∀ (l : List (Nat × Nat × Value)) (lb : List Bool) (ts ts' : List Value),chk md ops L lb l = true → (∀ W,S W → Steps P ops ds W ts l ts') → wpAnyL P md ops Q S L fuel (setAll lb l).toArray ⟨ts'.toArray,ds⟩ w → wpAnyL P md ops Q S L (more fuel l) lb.toArray ⟨ts.toArray,ds⟩ w
 | [],lb,ts,ts',_,hy,h => by
  cases hy w hS;exact h
 | (i,d,v) :: l,lb,ts,ts',hc,hy,h => by
  unfold chk at hc;simp only [Bool.and_eq_true] at hc;obtain ⟨⟨⟨h1,h2⟩,h3⟩,h4⟩:=hc;have hz:=hy w hS
  cases hz with
  | @s _ ts2 _ _ _ _ _ o g e1 e2 e3 e4 e5 =>
   refine wpAnyL_goL i d v e1 e2 hs h1 h2 h3 (fun c a w => hQ c a w _ _) hS e3 (fun W hW => ?_) ?_
   ·have:=hy W hW
    cases this with
    | s g' e1' e2' e3' e4' e5' => rw [e1] at e1';obtain rfl:=Option.some.inj e1';exact e4'
    | k g' e1' e2' e3' e4' e5' => rw [e1] at e1';obtain rfl:=Option.some.inj e1';rw [e3] at e3';cases e3'
   ·refine many_ hs hQ hS l _ _ ts' h4 (fun W hW => ?_) h;have:=hy W hW
    cases this with
    | s g' e1' e2' e3' e4' e5' => rw [e1] at e1';obtain rfl:=Option.some.inj e1';rw [e5'];exact g'
    | k g' e1' e2' e3' e4' e5' => rw [e1] at e1';obtain rfl:=Option.some.inj e1';rw [e3] at e3';cases e3'
  | @k _ ts2 _ _ _ _ _ o g e1 e2 e3 e4 e5 =>
   subst e4;refine wpAnyL_skipL i d e1 e2 hs h1 h2 h3 (fun c a w => hQ c a w _ _) hS e3 ?_;refine many_ hs hQ hS l _ _ ts' h4 (fun W hW => ?_) h;have:=hy W hW
   cases this with
   | s g' e1' e2' e3' e4' e5' => rw [e1] at e1';obtain rfl:=Option.some.inj e1';rw [e3] at e3';cases e3'
   | k g' e1' e2' e3' e4' e5' => rw [e1] at e1';obtain rfl:=Option.some.inj e1';rw [e5'];exact g'
theorem many (l : List (Nat × Nat × Value)) {fuel : Nat} {lb lb' : List Bool} {ts ts' : List Value} {ds : List Deferred} {w : World} (hS : S w) (h : wpAnyL P md ops Q S L fuel lb'.toArray ⟨ts'.toArray,ds⟩ w)
 (hs : Region.noSelect ops = true:=by kernel_rfl) (hc : chk md ops L lb l = true:=by kernel_rfl) (hQ : ∀ c a w d v,Q (.panic c) (a.put (some d) v) w → Q (.panic c) a w:=by exact fun _ _ _ _ _ h => h)
 (hv : setVals ts l = ts':=by dsimp only [last.setVals,List.set_cons_succ,List.set_cons_zero]) (hy : ∀ W,S W → Steps P ops ds W ts l ts':=by intro _ _;repeat (first | exact .z | refine .s ?_ | refine .k ?_)) (hb : setAll lb l = lb':=by dsimp only [last.setAll,List.set_cons_succ,List.set_cons_zero]) : wpAnyL P md ops Q S L (more fuel l) lb.toArray ⟨ts.toArray,ds⟩ w:=by
 subst hb hv;exact many_ hs hQ hS l lb ts _ hc hy h
theorem one (i : Nat) {o : Oper} {fuel : Nat} {lb : List Bool} {a : Act} {w : World}
 (h : ∀ K' : Act → World → Prop,Shut (∀ a w,(i ≠ L → S w) → wpAnyL P md ops Q S L fuel (lb.set i true).toArray a w → K' a w) → Oper.wp P o a w K' Q)
 (hr : Region.ready md ops lb.toArray = [i]:=by kernel_rfl) (ho : ops[i]? = some o:=by simp only [List.getElem?_toArray,List.getElem?_cons_succ,List.getElem?_cons_zero];exact rfl) (hw : Region.wanted o (yielded ops a.tmps) = true:=by rfl) : wpAnyL P md ops Q S L (fuel + 1) lb.toArray a w:=
 wpAnyL_oneL hr ho fun K' hK => (if_pos hw).mpr (h K' hK)
theorem done {lb : List Bool} {a : Act} {w : World} {fuel : Nat} (h : Q .normal a w) (hr : Region.ready md ops lb.toArray = []:=by kernel_rfl) : wpAnyL P md ops Q S L fuel lb.toArray a w:=wpAnyL_done hr h fuel
theorem head (S : World → Prop) (L n : Nat) {id : Nat} {a : Act} {w : World} {lb : List Bool} (h : wpAnyL P .any ops Q S L n lb.toArray a w.drew) (hn : ops.size = n:=by rfl) (hlb : List.replicate n false = lb:=by dsimp only [List.replicate]) (hm : P.follows .mixedOrders = true:=by kernel_rfl) : (Code.region id ops true).wp P Q a w:=
 wp_region_lastL hn hlb hm h
theorem headH (S : World → Prop) (L n : Nat) {id : Nat} {a : Act} {w : World} {lb : List Bool} (hS : S w.drew) (h : RowKit.Hid (S w.drew) → wpAnyL P .any ops Q S L n lb.toArray a w.drew) (hn : ops.size = n:=by rfl) (hlb : List.replicate n false = lb:=by dsimp only [List.replicate]) (hm : P.follows .mixedOrders = true:=by kernel_rfl) : (Code.region id ops true).wp P Q a w:=
 wp_region_lastL hn hlb hm (h hS)
theorem goT (ch : List Nat) (i d : Nat) (v : Value) {oi : Oper} {fuel : Nat} {lb : List Bool} {ts : List Value} {ds : List Deferred} {w : World} (hS : S w) (h : wpAnyL P md ops Q S L fuel (lb.set i true).toArray ⟨(ts.set d v).toArray,ds⟩ w)
 (hi : ops[i]? = some oi:=by rfl) (hd : oi.dst = some d:=by rfl) (hs : Region.noSelect ops = true:=by kernel_rfl) (hf : Region.free md ops lb.toArray i = true:=by kernel_rfl) (hr : (Region.ready md ops lb.toArray).contains i = true:=by kernel_rfl) (hl : (chain md ops L ch && ch.contains i && i != L && closedB md ops lb.toArray) = true:=by kernel_rfl)
 (hQ : ∀ c a w,Q (.panic c) (a.put (some d) v) w → Q (.panic c) a w:=by exact fun _ _ _ h => h) (hw : Region.wanted oi (yielded ops ts.toArray) = true:=by rfl) (hy : ∀ w,S w → (execOp (Act.eval ⟨ts.toArray,ds⟩) oi).run P w = .ok (.value v) w:=by intro _ _;go_simp) : wpAnyL P md ops Q S L (fuel + 1) lb.toArray ⟨ts.toArray,ds⟩ w:=
 wpAnyL_goT ch i d v hi hd hs hf hr hl hQ hS hw hy h
end
end last
namespace phase
open Go
open last (closedB)
section
variable {P : Program} {ops : Array Oper} {Q : Exit → Act → World → Prop} {md : Region.Mode} {S : World → Prop} {F : Nat → Bool}
theorem gN (i d : Nat) (v : Value) (B : List Nat) {oi : Oper} {fuel : Nat} {lb : List Bool} {ts : List Value} {ds : List Deferred} {w : World} (hS : S w) (h : wpAnyN P md ops Q S F fuel (lb.set i true).toArray ⟨(ts.set d v).toArray,ds⟩ w)
 (hi : ops[i]? = some oi:=by rfl) (hd : oi.dst = some d:=by rfl) (hs : Region.noSelect ops = true:=by kernel_rfl) (hf : Region.free md ops lb.toArray i = true:=by kernel_rfl) (hr : (Region.ready md ops lb.toArray).contains i = true:=by kernel_rfl) (hl : waits md ops F lb.toArray i B = true:=by kernel_rfl) (hc : closedB md ops lb.toArray = true:=by kernel_rfl)
 (hQ : ∀ c a w,Q (.panic c) (a.put (some d) v) w → Q (.panic c) a w:=by exact fun _ _ _ h => h) (hw : Region.wanted oi (yielded ops ts.toArray) = true:=by rfl) (hy : ∀ w,S w → (execOp (Act.eval ⟨ts.toArray,ds⟩) oi).run P w = .ok (.value v) w:=by intro _ _;go_simp) : wpAnyN P md ops Q S F (fuel + 1) lb.toArray ⟨ts.toArray,ds⟩ w:=
 goN i d v B hi hd hs hf hr hl hc hQ hS hw hy h
theorem gM (i d : Nat) (v : Value) {oi : Oper} {fuel : Nat} {lb : List Bool} {ts : List Value} {ds : List Deferred} {w : World} (h : wpAnyN P md ops Q S F fuel (lb.set i true).toArray ⟨(ts.set d v).toArray,ds⟩ w)
 (hi : ops[i]? = some oi:=by rfl) (hd : oi.dst = some d:=by rfl) (hs : Region.noSelect ops = true:=by kernel_rfl) (hf : Region.free md ops lb.toArray i = true:=by kernel_rfl) (hr : (Region.ready md ops lb.toArray).contains i = true:=by kernel_rfl) (hF : F i = false:=by kernel_rfl)
 (hQ : ∀ c a w,Q (.panic c) (a.put (some d) v) w → Q (.panic c) a w:=by exact fun _ _ _ h => h) (hw : Region.wanted oi (yielded ops ts.toArray) = true:=by rfl) (hy : ∀ w,(execOp (Act.eval ⟨ts.toArray,ds⟩) oi).run P w = .ok (.value v) w:=by intro _;go_simp) : wpAnyN P md ops Q S F (fuel + 1) lb.toArray ⟨ts.toArray,ds⟩ w:=
 goM i d v hi hd hs hf hr hF hQ hw hy h
theorem g1 (i : Nat) {o : Oper} {fuel : Nat} {lb : List Bool} {a : Act} {w : World} (h : ∀ K' : Act → World → Prop,Shut (∀ a w,(F i = true → S w) → wpAnyN P md ops Q S F fuel (lb.set i true).toArray a w → K' a w) → Oper.wp P o a w K' Q)
 (hr : Region.ready md ops lb.toArray = [i]:=by kernel_rfl) (ho : ops[i]? = some o:=by simp only [List.getElem?_toArray,List.getElem?_cons_succ,List.getElem?_cons_zero];exact rfl) (hw : Region.wanted o (yielded ops a.tmps) = true:=by rfl) : wpAnyN P md ops Q S F (fuel + 1) lb.toArray a w:=
 eachN (l:=[i]) hr (by simp) fun j hj => by
  obtain rfl:=List.mem_singleton.1 hj;exact ⟨o,ho,fun K' hK => (if_pos hw).mpr (h K' hK)⟩
theorem gD {lb : List Bool} {a : Act} {w : World} {fuel : Nat} (h : Q .normal a w) (hr : Region.ready md ops lb.toArray = []:=by kernel_rfl) : wpAnyN P md ops Q S F fuel lb.toArray a w:=doneN hr h fuel
theorem gH (S : World → Prop) (F : Nat → Bool) (n : Nat) {id : Nat} {a : Act} {w : World} {lb : List Bool} (h : wpAnyN P .any ops Q S F n lb.toArray a w.drew) (hn : ops.size = n:=by rfl) (hlb : List.replicate n false = lb:=by dsimp only [List.replicate]) (hm : P.follows .mixedOrders = true:=by kernel_rfl) : (Code.region id ops true).wp P Q a w:=
 headN hn hlb hm h
theorem gHH (S : World → Prop) (F : Nat → Bool) (n : Nat) {id : Nat} {a : Act} {w : World} {lb : List Bool} (hS : S w.drew) (h : RowKit.Hid (S w.drew) → wpAnyN P .any ops Q S F n lb.toArray a w.drew) (hn : ops.size = n:=by rfl) (hlb : List.replicate n false = lb:=by dsimp only [List.replicate]) (hm : P.follows .mixedOrders = true:=by kernel_rfl) : (Code.region id ops true).wp P Q a w:=
 headN hn hlb hm (h hS)
end
end phase
end Go.Proofs.YtefkmcjhgoagcaaGreatDoor
