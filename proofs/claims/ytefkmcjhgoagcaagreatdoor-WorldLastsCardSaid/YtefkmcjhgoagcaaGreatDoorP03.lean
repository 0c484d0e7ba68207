/-
  A part of the proof of the law WorldLasts: RegionLast, RegionGo, RegionSkip, RegionPhase, RegionEach.
-/
import Derived.OrdersHeld
import Derived.Deep.RegionHeld3
namespace Go.Proofs.YtefkmcjhgoagcaaGreatDoor
namespace last
open Go
section
variable {P : Program} {ops : Array Oper} {Q : Exit → Act → World → Prop} {md : Region.Mode} {S : World → Prop} {L : Nat}
def wpAnyL (P : Program) (md : Region.Mode) (ops : Array Oper) (Q : Exit → Act → World → Prop) (S : World → Prop) (L : Nat) : Nat → Array Bool → Act → World → Prop
 | 0,listed,a,w => Region.ready md ops listed = [] ∧ Q .normal a w
 | fuel + 1,listed,a,w =>
  (Region.ready md ops listed = [] → Q .normal a w) ∧
  ∀ i ∈ Region.ready md ops listed,wpOp P ops Q i (fun a' w' => (i ≠ L → S w') ∧ wpAnyL P md ops Q S L fuel (listed.setIfInBounds i true) a' w') a w
theorem wpAny_of_last : ∀ (fuel : Nat) (listed : Array Bool) (a : Act) (w : World),wpAnyL P md ops Q S L fuel listed a w → wpAny P md ops Q fuel listed a w
 | 0,_,_,_,h => h
 | fuel + 1,_,_,_,h => ⟨h.1,fun i hi => wpOp_mono (fun a' w' h' => wpAny_of_last fuel _ a' w' h'.2) (h.2 i hi)⟩
def waits (md : Region.Mode) (ops : Array Oper) (L i : Nat) : Bool:=i != L && (match ops[L]? with | some o => o.after.any (fun e => Region.binds md e && e.on == i) | none => true)
theorem waits_spec {i : Nat} (h : waits md ops L i = true) : i ≠ L ∧ ∀ o,ops[L]? = some o → ∃ e ∈ o.after,Region.binds md e = true ∧ e.on = i:=by
 unfold waits at h;rw [Bool.and_eq_true] at h;refine ⟨by simpa using h.1,fun o ho => ?_⟩;have h2:=h.2;rw [ho] at h2;obtain ⟨e,he,hb⟩:=Array.any_eq_true'.1 h2;rw [Bool.and_eq_true] at hb;exact ⟨e,he,hb.1,by simpa using hb.2⟩
theorem wpAnyL_first {i : Nat} {oi : Oper} {v : Value} (hi : ops[i]? = some oi) (hsel : ∀ (j : Nat) (o : Oper) cs b,ops[j]? = some o → o.op ≠ .select cs b)
 (hL : ∀ o,ops[L]? = some o → ∃ e ∈ o.after,Region.binds md e = true ∧ e.on = i)
 (hQ : ∀ c a w,Q (.panic c) (a.put oi.dst v) w → Q (.panic c) a w) :
 ∀ (fuel : Nat) (listed : Array Bool) (a : Act) (w : World),
  (∀ j oj,ops[j]? = some oj → j ≠ i → listed.getD j true = false → (∀ e ∈ oj.after,Region.binds md e = true → e.on ≠ i) → oi.apart ops oj = true) →
  i ∈ Region.ready md ops listed → YieldsIf P ops S oi v a → S w →
  wpAnyL P md ops Q S L fuel (listed.setIfInBounds i true) (a.put oi.dst v) w → wpAnyL P md ops Q S L (fuel + 1) listed a w:=by
 intro fuel
 induction fuel with
 | zero =>
  intro listed a w _ hr hy hS H;refine ⟨fun h => (by rw [h] at hr;cases hr),fun j hj => ?_⟩;by_cases hji : j = i
  ·subst hji;exact hy.wpOp hi hS ⟨fun _ => hS,H⟩
  ·have:=ready_mono hj hji;rw [H.1] at this;cases this
 | succ fuel ih =>
  intro listed a w hfree hr hy hS H;refine ⟨fun h => (by rw [h] at hr;cases hr),fun j hj => ?_⟩;by_cases hji : j = i
  ·subst hji;exact hy.wpOp hi hS ⟨fun _ => hS,H⟩
  ·have h1:=H.2 j (ready_mono hj hji);obtain ⟨hjun,oj,hoj,hall⟩:=mem_ready.1 hj
   have hnot : ∀ e ∈ oj.after,Region.binds md e = true → e.on ≠ i:=fun e he hb heq => by
    have h1:=hall e he hb;have h0:=(mem_ready.1 hr).1;rw [heq] at h1;rcases Nat.lt_or_ge i listed.size with h' | h'
    ·simp [h'] at h0 h1;rw [h0] at h1;cases h1
    ·simp [Array.getElem?_eq_none h'] at h1
   have hjL : j ≠ L:=by
    rintro rfl;obtain ⟨e,he,hb,heq⟩:=hL oj hoj;exact hnot e he hb heq
   have h2:=wpOp_putIf hoj (hfree j oj hoj hji hjun hnot) (fun cs b => hsel i oi cs b hi) (fun cs b => hsel j oj cs b hoj) hQ hy h1
   have hfree' : ∀ k ok,ops[k]? = some ok → k ≠ i → (listed.setIfInBounds j true).getD k true = false →
    (∀ e ∈ ok.after,Region.binds md e = true → e.on ≠ i) → oi.apart ops ok = true:=fun k ok hk hki hun hno => by
    refine hfree k ok hk hki ?_ hno;by_cases hjk : j = k
    ·subst hjk;exact hjun
    ·rw [getD_set_ne true hjk] at hun;exact hun
   refine wpOp_mono (fun a' w' h3 => ⟨h3.2.1,ih (listed.setIfInBounds j true) a' w' hfree' (ready_mono hr (Ne.symm hji)) h3.1 (h3.2.1 hjL) ?_⟩) h2;rw [Array.setIfInBounds_comm _ _ hji];exact h3.2.2
theorem wpAnyL_take {i : Nat} {oi : Oper} {v : Value} {fuel : Nat} {listed : Array Bool} {a : Act} {w : World} (hi : ops[i]? = some oi)
 (hs : Region.noSelect ops = true) (hf : Region.free md ops listed i = true) (hr : (Region.ready md ops listed).contains i = true) (hl : waits md ops L i = true)
 (hQ : ∀ c a w,Q (.panic c) (a.put oi.dst v) w → Q (.panic c) a w) (hS : S w) (hw : Region.wanted oi (yielded ops a.tmps) = true) (hy : ∀ w,S w → (execOp a.eval oi).run P w = .ok (.value v) w)
 (h : wpAnyL P md ops Q S L fuel (listed.setIfInBounds i true) (a.put oi.dst v) w) : wpAnyL P md ops Q S L (fuel + 1) listed a w:=
 wpAnyL_first hi (Region.noSelect_spec hs) (waits_spec hl).2 hQ fuel listed a w (Region.free_spec hi hf) (by simpa using hr) (.inl ⟨hw,hy⟩) hS h
theorem wpAnyL_one {i : Nat} {o : Oper} {fuel : Nat} {listed : Array Bool} {a : Act} {w : World} (hr : Region.ready md ops listed = [i]) (ho : ops[i]? = some o)
 (h : ∀ K' : Act → World → Prop,Shut (∀ a w,(i ≠ L → S w) → wpAnyL P md ops Q S L fuel (listed.setIfInBounds i true) a w → K' a w) → if Region.wanted o (yielded ops a.tmps) = true then Oper.wp P o a w K' Q else K' (a.put o.dst undef) w) :
 wpAnyL P md ops Q S L (fuel + 1) listed a w:=
 ⟨fun h0 => by (rw [hr] at h0;cases h0),fun j hj => by
  rw [hr] at hj;obtain rfl:=List.mem_singleton.1 hj
  exact wpOp_step ho (fun K' hK => h K' (fun a w hS hW => hK a w ⟨hS,hW⟩))⟩
theorem wpAnyL_two {i j : Nat} {o o' : Oper} {fuel : Nat} {listed : Array Bool} {a : Act} {w : World} (hr : Region.ready md ops listed = [i,j]) (ho : ops[i]? = some o) (ho' : ops[j]? = some o')
 (h : ∀ K' : Act → World → Prop,Shut (∀ a w,(i ≠ L → S w) → wpAnyL P md ops Q S L fuel (listed.setIfInBounds i true) a w → K' a w) → if Region.wanted o (yielded ops a.tmps) = true then Oper.wp P o a w K' Q else K' (a.put o.dst undef) w)
 (h' : ∀ K' : Act → World → Prop,Shut (∀ a w,(j ≠ L → S w) → wpAnyL P md ops Q S L fuel (listed.setIfInBounds j true) a w → K' a w) → if Region.wanted o' (yielded ops a.tmps) = true then Oper.wp P o' a w K' Q else K' (a.put o'.dst undef) w) :
 wpAnyL P md ops Q S L (fuel + 1) listed a w:=
 ⟨fun h0 => by (rw [hr] at h0;cases h0),fun k hk => by
  rw [hr] at hk;rcases List.mem_cons.1 hk with rfl | hk
  ·exact wpOp_step ho (fun K' hK => h K' (fun a w hS hW => hK a w ⟨hS,hW⟩))
  ·obtain rfl:=List.mem_singleton.1 hk
   exact wpOp_step ho' (fun K' hK => h' K' (fun a w hS hW => hK a w ⟨hS,hW⟩))⟩
theorem wpAnyL_done {listed : Array Bool} {a : Act} {w : World} (hr : Region.ready md ops listed = []) (h : Q .normal a w) : ∀ fuel,wpAnyL P md ops Q S L fuel listed a w
 | 0 => ⟨hr,h⟩
 | _ + 1 => ⟨fun _ => h,by rw [hr];simp⟩
theorem wp_region_last {id : Nat} {a : Act} {w : World} (hm : P.follows .mixedOrders = true)
 (h : wpAnyL P .any ops Q S L ops.size (Array.replicate ops.size false) a w.drew) : (Code.region id ops true).wp P Q a w:=
 wp_region_any hm (wpAny_of_last _ _ _ _ h)
end
section
variable {P : Program} {ops : Array Oper} {Q : Exit → Act → World → Prop} {md : Region.Mode} {S : World → Prop} {L : Nat}
theorem wpAnyL_go (i d : Nat) (v : Value) {oi : Oper} {fuel : Nat} {listed : Array Bool} {ts : Array Value} {ds : List Deferred} {w : World} (hi : ops[i]? = some oi) (hd : oi.dst = some d)
 (hs : Region.noSelect ops = true) (hf : Region.free md ops listed i = true) (hr : (Region.ready md ops listed).contains i = true) (hl : waits md ops L i = true)
 (hQ : ∀ c a w,Q (.panic c) (a.put (some d) v) w → Q (.panic c) a w) (hS : S w) (hw : Region.wanted oi (yielded ops ts) = true) (hy : ∀ w,S w → (execOp (Act.eval ⟨ts,ds⟩) oi).run P w = .ok (.value v) w)
 (h : wpAnyL P md ops Q S L fuel (listed.setIfInBounds i true) ⟨ts.setIfInBounds d v,ds⟩ w) : wpAnyL P md ops Q S L (fuel + 1) listed ⟨ts,ds⟩ w:=
 wpAnyL_take hi hs hf hr hl (by rw [hd];exact hQ) hS hw hy (by rw [hd];exact h)
theorem set_toArray {α : Type} (l : List α) (i : Nat) (v : α) : l.toArray.setIfInBounds i v = (l.set i v).toArray:=by simp
theorem wpAnyL_goL (i d : Nat) (v : Value) {oi : Oper} {fuel : Nat} {lb : List Bool} {ts : List Value} {ds : List Deferred} {w : World} (hi : ops[i]? = some oi) (hd : oi.dst = some d)
 (hs : Region.noSelect ops = true) (hf : Region.free md ops lb.toArray i = true) (hr : (Region.ready md ops lb.toArray).contains i = true) (hl : waits md ops L i = true)
 (hQ : ∀ c a w,Q (.panic c) (a.put (some d) v) w → Q (.panic c) a w) (hS : S w) (hw : Region.wanted oi (yielded ops ts.toArray) = true) (hy : ∀ w,S w → (execOp (Act.eval ⟨ts.toArray,ds⟩) oi).run P w = .ok (.value v) w)
 (h : wpAnyL P md ops Q S L fuel (lb.set i true).toArray ⟨(ts.set d v).toArray,ds⟩ w) : wpAnyL P md ops Q S L (fuel + 1) lb.toArray ⟨ts.toArray,ds⟩ w:=by
 refine wpAnyL_go i d v hi hd hs hf hr hl hQ hS hw hy ?_;rw [set_toArray,set_toArray];exact h
theorem wpAnyL_oneL {i : Nat} {o : Oper} {fuel : Nat} {lb : List Bool} {a : Act} {w : World} (hr : Region.ready md ops lb.toArray = [i]) (ho : ops[i]? = some o)
 (h : ∀ K' : Act → World → Prop,Shut (∀ a w,(i ≠ L → S w) → wpAnyL P md ops Q S L fuel (lb.set i true).toArray a w → K' a w) → if Region.wanted o (yielded ops a.tmps) = true then Oper.wp P o a w K' Q else K' (a.put o.dst undef) w) :
 wpAnyL P md ops Q S L (fuel + 1) lb.toArray a w:=by
 refine wpAnyL_one hr ho fun K' hK => h K' ?_;rw [← set_toArray];exact hK
theorem wp_region_lastL {id : Nat} {a : Act} {w : World} {n : Nat} {lb : List Bool} (hn : ops.size = n) (hlb : List.replicate n false = lb) (hm : P.follows .mixedOrders = true)
 (h : wpAnyL P .any ops Q S L n lb.toArray a w.drew) : (Code.region id ops true).wp P Q a w:=by
 refine wp_region_last (S:=S) (L:=L) hm ?_;(have e : Array.replicate ops.size false = lb.toArray:=by rw [hn,← hlb];simp);rw [e,hn];exact h
end
section
variable {P : Program} {ops : Array Oper} {Q : Exit → Act → World → Prop} {md : Region.Mode} {S : World → Prop} {L : Nat}
theorem wpAnyL_skipL (i d : Nat) {oi : Oper} {fuel : Nat} {lb : List Bool} {ts : List Value} {ds : List Deferred} {w : World} (hi : ops[i]? = some oi) (hd : oi.dst = some d)
 (hs : Region.noSelect ops = true) (hf : Region.free md ops lb.toArray i = true) (hr : (Region.ready md ops lb.toArray).contains i = true) (hl : waits md ops L i = true)
 (hQ : ∀ c a w,Q (.panic c) (a.put (some d) undef) w → Q (.panic c) a w) (hS : S w) (hw : Region.wanted oi (yielded ops ts.toArray) = false)
 (h : wpAnyL P md ops Q S L fuel (lb.set i true).toArray ⟨(ts.set d undef).toArray,ds⟩ w) : wpAnyL P md ops Q S L (fuel + 1) lb.toArray ⟨ts.toArray,ds⟩ w:=by
 refine wpAnyL_first hi (Region.noSelect_spec hs) (waits_spec hl).2 (by rw [hd];exact hQ) fuel lb.toArray ⟨ts.toArray,ds⟩ w (Region.free_spec hi hf) (by simpa using hr) (.inr ⟨hw,rfl⟩) hS ?_;rw [hd,set_toArray];show wpAnyL P md ops Q S L fuel _ ⟨ts.toArray.setIfInBounds d undef,ds⟩ w;rw [set_toArray];exact h
def Closed (md : Region.Mode) (ops : Array Oper) (listed : Array Bool) : Prop:=∀ j oj,ops[j]? = some oj → listed.getD j false = true → ∀ e ∈ oj.after,Region.binds md e = true → listed.getD e.on false = true
def closedB (md : Region.Mode) (ops : Array Oper) (listed : Array Bool) : Bool:=(List.range ops.size).all fun j => !(listed.getD j false) || (match ops[j]? with | some oj => oj.after.all fun e => !(Region.binds md e) || listed.getD e.on false | none => true)
theorem closed_of {listed : Array Bool} (h : closedB md ops listed = true) : Closed md ops listed:=by
 intro j oj hj hl e he hb;have hjs : j < ops.size:=(Array.getElem?_eq_some_iff.1 hj).1;have h1:=List.all_eq_true.1 h j (List.mem_range.2 hjs);rw [hl,hj] at h1;(have h2 : (oj.after.all fun e => !(Region.binds md e) || listed.getD e.on false) = true:=by simpa using h1);have h3:=Array.all_eq_true'.1 h2 e he;rw [hb] at h3;simpa using h3
theorem Closed.step {listed : Array Bool} {j : Nat} (h : Closed md ops listed) (hj : j ∈ Region.ready md ops listed) : Closed md ops (listed.setIfInBounds j true):=by
 intro k ok hk hl e he hb;obtain ⟨-,oj,hoj,hall⟩:=mem_ready.1 hj;refine getD_set_true ?_;by_cases hjk : j = k
 ·subst hjk;rw [hoj] at hk;obtain rfl:=Option.some.inj hk;exact hall e he hb
 ·exact h k ok hk (by rw [getD_set_ne false hjk] at hl;exact hl) e he hb
def chain (md : Region.Mode) (ops : Array Oper) : Nat → List Nat → Bool
 | _,[] => true
 | a,b :: l => (match ops[a]? with | some o => o.after.any fun e => Region.binds md e && e.on == b | none => false) && chain md ops b l
theorem chain_spec {listed : Array Bool} (hc : Closed md ops listed) : ∀ (l : List Nat) (a : Nat),chain md ops a l = true → (∀ o,ops[a]? = some o → ∀ e ∈ o.after,Region.binds md e = true → listed.getD e.on false = true) → ∀ x ∈ l,listed.getD x false = true
 | [],_,_,_,x,hx => by cases hx
 | b :: l,a,h,ha,x,hx => by
  unfold chain at h;rw [Bool.and_eq_true] at h
  have hb : listed.getD b false = true:=by
   cases ho : ops[a]? with
   | none => rw [ho] at h;simp at h
   | some o =>
    rw [ho] at h;obtain ⟨e,he,h1⟩:=Array.any_eq_true'.1 h.1;rw [Bool.and_eq_true] at h1;have:=ha o ho e he h1.1;rwa [show e.on = b by simpa using h1.2] at this
  rcases List.mem_cons.1 hx with rfl | hx
  ·exact hb
  ·exact chain_spec hc l b h.2 (fun o ho e he hbn => hc b o ho hb e he hbn) x hx
theorem wpAnyL_firstT {i : Nat} {oi : Oper} {v : Value} (ch : List Nat) (hch : chain md ops L ch = true) (hic : i ∈ ch) (hiL : i ≠ L) (hi : ops[i]? = some oi) (hsel : ∀ (j : Nat) (o : Oper) cs b,ops[j]? = some o → o.op ≠ .select cs b)
 (hQ : ∀ c a w,Q (.panic c) (a.put oi.dst v) w → Q (.panic c) a w) :
 ∀ (fuel : Nat) (listed : Array Bool) (a : Act) (w : World),Closed md ops listed →
  (∀ j oj,ops[j]? = some oj → j ≠ i → listed.getD j true = false → (∀ e ∈ oj.after,Region.binds md e = true → e.on ≠ i) → oi.apart ops oj = true) →
  i ∈ Region.ready md ops listed → YieldsIf P ops S oi v a → S w →
  wpAnyL P md ops Q S L fuel (listed.setIfInBounds i true) (a.put oi.dst v) w → wpAnyL P md ops Q S L (fuel + 1) listed a w:=by
 intro fuel
 induction fuel with
 | zero =>
  intro listed a w _ _ hr hy hS H;refine ⟨fun h => (by rw [h] at hr;cases hr),fun j hj => ?_⟩;by_cases hji : j = i
  ·subst hji;exact hy.wpOp hi hS ⟨fun _ => hS,H⟩
  ·have:=ready_mono hj hji;rw [H.1] at this;cases this
 | succ fuel ih =>
  intro listed a w hcl hfree hr hy hS H;refine ⟨fun h => (by rw [h] at hr;cases hr),fun j hj => ?_⟩;by_cases hji : j = i
  ·subst hji;exact hy.wpOp hi hS ⟨fun _ => hS,H⟩
  ·have h1:=H.2 j (ready_mono hj hji);obtain ⟨hjun,oj,hoj,hall⟩:=mem_ready.1 hj;have h0:=(mem_ready.1 hr).1
   have hun : listed.getD i false = false:=by
    rcases Nat.lt_or_ge i listed.size with h' | h'
    ·simp [h'] at h0 ⊢;exact h0
    ·simp [Array.getElem?_eq_none h'] at h0
   have hnot : ∀ e ∈ oj.after,Region.binds md e = true → e.on ≠ i:=fun e he hb heq => by
    have h1:=hall e he hb;rw [heq,hun] at h1;cases h1
   have hjL : j ≠ L:=by
    rintro rfl;have:=chain_spec hcl ch j hch (fun o ho e he hb => by rw [hoj] at ho;obtain rfl:=Option.some.inj ho;exact hall e he hb) i hic;rw [hun] at this;cases this
   have h2:=wpOp_putIf hoj (hfree j oj hoj hji hjun hnot) (fun cs b => hsel i oi cs b hi) (fun cs b => hsel j oj cs b hoj) hQ hy h1
   have hfree' : ∀ k ok,ops[k]? = some ok → k ≠ i → (listed.setIfInBounds j true).getD k true = false →
    (∀ e ∈ ok.after,Region.binds md e = true → e.on ≠ i) → oi.apart ops ok = true:=fun k ok hk hki hun hno => by
    refine hfree k ok hk hki ?_ hno;by_cases hjk : j = k
    ·subst hjk;exact hjun
    ·rw [getD_set_ne true hjk] at hun;exact hun
   refine wpOp_mono (fun a' w' h3 => ⟨h3.2.1,ih (listed.setIfInBounds j true) a' w' (hcl.step hj) hfree' (ready_mono hr (Ne.symm hji)) h3.1 (h3.2.1 hjL) ?_⟩) h2;rw [Array.setIfInBounds_comm _ _ hji];exact h3.2.2
theorem wpAnyL_goT (ch : List Nat) (i d : Nat) (v : Value) {oi : Oper} {fuel : Nat} {lb : List Bool} {ts : List Value} {ds : List Deferred} {w : World} (hi : ops[i]? = some oi) (hd : oi.dst = some d)
 (hs : Region.noSelect ops = true) (hf : Region.free md ops lb.toArray i = true) (hr : (Region.ready md ops lb.toArray).contains i = true) (hl : (chain md ops L ch && ch.contains i && i != L && closedB md ops lb.toArray) = true)
 (hQ : ∀ c a w,Q (.panic c) (a.put (some d) v) w → Q (.panic c) a w) (hS : S w) (hw : Region.wanted oi (yielded ops ts.toArray) = true) (hy : ∀ w,S w → (execOp (Act.eval ⟨ts.toArray,ds⟩) oi).run P w = .ok (.value v) w)
 (h : wpAnyL P md ops Q S L fuel (lb.set i true).toArray ⟨(ts.set d v).toArray,ds⟩ w) : wpAnyL P md ops Q S L (fuel + 1) lb.toArray ⟨ts.toArray,ds⟩ w:=by
 simp only [Bool.and_eq_true,bne_iff_ne,ne_eq,List.contains_iff_mem] at hl;obtain ⟨⟨⟨h1,h2⟩,h3⟩,h4⟩:=hl;refine wpAnyL_firstT ch h1 h2 h3 hi (Region.noSelect_spec hs) (by rw [hd];exact hQ) fuel lb.toArray ⟨ts.toArray,ds⟩ w (closed_of h4) (Region.free_spec hi hf) (by simpa using hr) (.inl ⟨hw,hy⟩) hS ?_;rw [hd,set_toArray];show wpAnyL P md ops Q S L fuel _ ⟨ts.toArray.setIfInBounds d v,ds⟩ w;rw [set_toArray];exact h
end
end last
namespace phase
open Go
open last (Closed closedB closed_of)
section
variable {P : Program} {ops : Array Oper} {Q : Exit → Act → World → Prop} {md : Region.Mode} {S : World → Prop} {F : Nat → Bool}
def wpAnyN (P : Program) (md : Region.Mode) (ops : Array Oper) (Q : Exit → Act → World → Prop) (S : World → Prop) (F : Nat → Bool) : Nat → Array Bool → Act → World → Prop
 | 0,listed,a,w => Region.ready md ops listed = [] ∧ Q .normal a w
 | fuel + 1,listed,a,w =>
  (Region.ready md ops listed = [] → Q .normal a w) ∧
  ∀ i ∈ Region.ready md ops listed,wpOp P ops Q i (fun a' w' => (F i = true → S w') ∧ wpAnyN P md ops Q S F fuel (listed.setIfInBounds i true) a' w') a w
theorem wpAny_of : ∀ (fuel : Nat) (listed : Array Bool) (a : Act) (w : World),wpAnyN P md ops Q S F fuel listed a w → wpAny P md ops Q fuel listed a w
 | 0,_,_,_,h => h
 | fuel + 1,_,_,_,h => ⟨h.1,fun i hi => wpOp_mono (fun a' w' h' => wpAny_of fuel _ a' w' h'.2) (h.2 i hi)⟩
def waitsOn (md : Region.Mode) (ops : Array Oper) (acc : List Nat) (j : Nat) : Bool:=match ops[j]? with | some o => o.after.any (fun e => Region.binds md e && acc.contains e.on) | none => false
def reach (md : Region.Mode) (ops : Array Oper) : List Nat → List Nat → Bool
 | _,[] => true
 | acc,b :: B => waitsOn md ops acc b && reach md ops (b :: acc) B
def waits (md : Region.Mode) (ops : Array Oper) (F : Nat → Bool) (listed : Array Bool) (i : Nat) (B : List Nat) : Bool:=
 reach md ops [i] B && (List.range ops.size).all fun j => F j || listed.getD j true || waitsOn md ops (i :: B) j
theorem waitsOn_spec {acc : List Nat} {j : Nat} (h : waitsOn md ops acc j = true) : ∃ o,ops[j]? = some o ∧ ∃ e ∈ o.after,Region.binds md e = true ∧ e.on ∈ acc:=by
 unfold waitsOn at h;split at h
 ·rename_i o ho;obtain ⟨e,he,hb⟩:=Array.any_eq_true'.1 h;rw [Bool.and_eq_true] at hb;exact ⟨o,ho,e,he,hb.1,by simpa using hb.2⟩
 ·cases h
theorem reach_spec {listed : Array Bool} (hc : Closed md ops listed) : ∀ (B acc : List Nat),reach md ops acc B = true → (∀ x ∈ acc,listed.getD x false = true → False) → ∀ x ∈ B,listed.getD x false = true → False
 | [],_,_,_,x,hx => by cases hx
 | b :: B,acc,h,ha,x,hx => by
  unfold reach at h;rw [Bool.and_eq_true] at h;obtain ⟨o,ho,e,he,hb,hm⟩:=waitsOn_spec h.1;have h1 : listed.getD b false = true → False:=fun hl => ha _ hm (hc b o ho hl e he hb);rcases List.mem_cons.1 hx with rfl | hx
  ·exact h1
  ·exact reach_spec hc B (b :: acc) h.2 (fun y hy => by
    rcases List.mem_cons.1 hy with rfl | hy
    ·exact h1
    ·exact ha y hy) x hx
theorem getD_not {l : Array Bool} {i : Nat} (h : l.getD i true = false) : l.getD i false = true → False:=by
 intro h1;rcases Nat.lt_or_ge i l.size with h' | h'
 ·simp [h'] at h h1;rw [h] at h1;cases h1
 ·simp [h'] at h
theorem waits_spec {listed : Array Bool} {i : Nat} {B : List Nat} (h : waits md ops F listed i B = true) : reach md ops [i] B = true ∧ ∀ (j : Nat),j < ops.size → F j = false → listed.getD j true = false → waitsOn md ops (i :: B) j = true:=by
 unfold waits at h;rw [Bool.and_eq_true] at h;refine ⟨h.1,fun j hjs hj hl => ?_⟩;have h1:=List.all_eq_true.1 h.2 j (List.mem_range.2 hjs);rwa [hj,hl,Bool.or_false,Bool.false_or] at h1
theorem wpAnyN_first {i : Nat} {B : List Nat} (hB : reach md ops [i] B = true) {oi : Oper} {v : Value} (hi : ops[i]? = some oi) (hsel : ∀ (j : Nat) (o : Oper) cs b,ops[j]? = some o → o.op ≠ .select cs b)
 (hQ : ∀ c a w,Q (.panic c) (a.put oi.dst v) w → Q (.panic c) a w) :
 ∀ (fuel : Nat) (listed : Array Bool) (a : Act) (w : World),Closed md ops listed →
  (∀ j oj,ops[j]? = some oj → j ≠ i → listed.getD j true = false → (∀ e ∈ oj.after,Region.binds md e = true → e.on ≠ i) → oi.apart ops oj = true) →
  (∀ (j : Nat),j < ops.size → F j = false → listed.getD j true = false → waitsOn md ops (i :: B) j = true) →
  i ∈ Region.ready md ops listed → YieldsIf P ops S oi v a → S w →
  wpAnyN P md ops Q S F fuel (listed.setIfInBounds i true) (a.put oi.dst v) w → wpAnyN P md ops Q S F (fuel + 1) listed a w:=by
 intro fuel
 induction fuel with
 | zero =>
  intro listed a w _ _ _ hr hy hS H;refine ⟨fun h => (by rw [h] at hr;cases hr),fun j hj => ?_⟩;by_cases hji : j = i
  ·subst hji;exact hy.wpOp hi hS ⟨fun _ => hS,H⟩
  ·have:=ready_mono hj hji;rw [H.1] at this;cases this
 | succ fuel ih =>
  intro listed a w hc hfree hL hr hy hS H;refine ⟨fun h => (by rw [h] at hr;cases hr),fun j hj => ?_⟩;by_cases hji : j = i
  ·subst hji;exact hy.wpOp hi hS ⟨fun _ => hS,H⟩
  ·have h1:=H.2 j (ready_mono hj hji);obtain ⟨hjun,oj,hoj,hall⟩:=mem_ready.1 hj
   have hnot : ∀ e ∈ oj.after,Region.binds md e = true → e.on ≠ i:=fun e he hb heq => by
    have h1:=hall e he hb;have h0:=(mem_ready.1 hr).1;rw [heq] at h1;rcases Nat.lt_or_ge i listed.size with h' | h'
    ·simp [h'] at h0 h1;rw [h0] at h1;cases h1
    ·simp [Array.getElem?_eq_none h'] at h1
   have hjL : F j = true:=by
    cases h : F j
    ·obtain ⟨o,ho,e,he,hb,hm⟩:=waitsOn_spec (hL j (Array.getElem?_eq_some_iff.1 hoj).1 h hjun);rw [hoj] at ho;obtain rfl:=Option.some.inj ho;have hun:=getD_not (mem_ready.1 hr).1;have hl:=hall e he hb;rcases List.mem_cons.1 hm with hm | hm
     ·rw [hm] at hl;exact (hun hl).elim
     ·exact (reach_spec hc B [i] hB (fun x hx => by rw [List.mem_singleton.1 hx];exact hun) _ hm hl).elim
    ·rfl
   have h2:=wpOp_putIf hoj (hfree j oj hoj hji hjun hnot) (fun cs b => hsel i oi cs b hi) (fun cs b => hsel j oj cs b hoj) hQ hy h1
   have hfree' : ∀ k ok,ops[k]? = some ok → k ≠ i → (listed.setIfInBounds j true).getD k true = false →
    (∀ e ∈ ok.after,Region.binds md e = true → e.on ≠ i) → oi.apart ops ok = true:=fun k ok hk hki hun hno => by
    refine hfree k ok hk hki ?_ hno;by_cases hjk : j = k
    ·subst hjk;exact hjun
    ·rw [getD_set_ne true hjk] at hun;exact hun
   have hL' : ∀ (k : Nat),k < ops.size → F k = false → (listed.setIfInBounds j true).getD k true = false → waitsOn md ops (i :: B) k = true:=fun k hk hF hun => by
    refine hL k hk hF ?_;by_cases hjk : j = k
    ·subst hjk;exact hjun
    ·rw [getD_set_ne true hjk] at hun;exact hun
   refine wpOp_mono (fun a' w' h3 => ⟨h3.2.1,ih (listed.setIfInBounds j true) a' w' (hc.step hj) hfree' hL' (ready_mono hr (Ne.symm hji)) h3.1 (h3.2.1 hjL) ?_⟩) h2;rw [Array.setIfInBounds_comm _ _ hji];exact h3.2.2
theorem wpAnyN_move {i : Nat} {oi : Oper} {v : Value} (hi : ops[i]? = some oi) (hsel : ∀ (j : Nat) (o : Oper) cs b,ops[j]? = some o → o.op ≠ .select cs b)
 (hF : F i = false) (hQ : ∀ c a w,Q (.panic c) (a.put oi.dst v) w → Q (.panic c) a w) :
 ∀ (fuel : Nat) (listed : Array Bool) (a : Act) (w : World),
  (∀ j oj,ops[j]? = some oj → j ≠ i → listed.getD j true = false → (∀ e ∈ oj.after,Region.binds md e = true → e.on ≠ i) → oi.apart ops oj = true) →
  i ∈ Region.ready md ops listed → YieldsIf P ops (fun _ => True) oi v a →
  wpAnyN P md ops Q S F fuel (listed.setIfInBounds i true) (a.put oi.dst v) w → wpAnyN P md ops Q S F (fuel + 1) listed a w:=by
 intro fuel
 induction fuel with
 | zero =>
  intro listed a w _ hr hy H;refine ⟨fun h => (by rw [h] at hr;cases hr),fun j hj => ?_⟩;by_cases hji : j = i
  ·subst hji;exact hy.wpOp hi trivial ⟨fun h => (by rw [hF] at h;cases h),H⟩
  ·have:=ready_mono hj hji;rw [H.1] at this;cases this
 | succ fuel ih =>
  intro listed a w hfree hr hy H;refine ⟨fun h => (by rw [h] at hr;cases hr),fun j hj => ?_⟩;by_cases hji : j = i
  ·subst hji;exact hy.wpOp hi trivial ⟨fun h => (by rw [hF] at h;cases h),H⟩
  ·have h1:=H.2 j (ready_mono hj hji);obtain ⟨hjun,oj,hoj,hall⟩:=mem_ready.1 hj
   have hnot : ∀ e ∈ oj.after,Region.binds md e = true → e.on ≠ i:=fun e he hb heq => by
    have h1:=hall e he hb;have h0:=(mem_ready.1 hr).1;rw [heq] at h1;rcases Nat.lt_or_ge i listed.size with h' | h'
    ·simp [h'] at h0 h1;rw [h0] at h1;cases h1
    ·simp [Array.getElem?_eq_none h'] at h1
   have h2:=wpOp_putIf hoj (hfree j oj hoj hji hjun hnot) (fun cs b => hsel i oi cs b hi) (fun cs b => hsel j oj cs b hoj) hQ hy h1
   have hfree' : ∀ k ok,ops[k]? = some ok → k ≠ i → (listed.setIfInBounds j true).getD k true = false →
    (∀ e ∈ ok.after,Region.binds md e = true → e.on ≠ i) → oi.apart ops ok = true:=fun k ok hk hki hun hno => by
    refine hfree k ok hk hki ?_ hno;by_cases hjk : j = k
    ·subst hjk;exact hjun
    ·rw [getD_set_ne true hjk] at hun;exact hun
   refine wpOp_mono (fun a' w' h3 => ⟨h3.2.1,ih (listed.setIfInBounds j true) a' w' hfree' (ready_mono hr (Ne.symm hji)) h3.1 ?_⟩) h2;rw [Array.setIfInBounds_comm _ _ hji];exact h3.2.2
theorem set_toArray {α : Type} (l : List α) (i : Nat) (v : α) : l.toArray.setIfInBounds i v = (l.set i v).toArray:=by simp
theorem goN (i d : Nat) (v : Value) (B : List Nat) {oi : Oper} {fuel : Nat} {lb : List Bool} {ts : List Value} {ds : List Deferred} {w : World} (hi : ops[i]? = some oi) (hd : oi.dst = some d)
 (hs : Region.noSelect ops = true) (hf : Region.free md ops lb.toArray i = true) (hr : (Region.ready md ops lb.toArray).contains i = true) (hl : waits md ops F lb.toArray i B = true) (hc : closedB md ops lb.toArray = true)
 (hQ : ∀ c a w,Q (.panic c) (a.put (some d) v) w → Q (.panic c) a w) (hS : S w) (hw : Region.wanted oi (yielded ops ts.toArray) = true) (hy : ∀ w,S w → (execOp (Act.eval ⟨ts.toArray,ds⟩) oi).run P w = .ok (.value v) w)
 (h : wpAnyN P md ops Q S F fuel (lb.set i true).toArray ⟨(ts.set d v).toArray,ds⟩ w) : wpAnyN P md ops Q S F (fuel + 1) lb.toArray ⟨ts.toArray,ds⟩ w:=by
 refine wpAnyN_first (waits_spec hl).1 hi (Region.noSelect_spec hs) (by rw [hd];exact hQ) fuel lb.toArray ⟨ts.toArray,ds⟩ w (closed_of hc) (Region.free_spec hi hf) (waits_spec hl).2 (by simpa using hr) (.inl ⟨hw,hy⟩) hS ?_;rw [hd,set_toArray];show wpAnyN P md ops Q S F fuel _ ⟨ts.toArray.setIfInBounds d v,ds⟩ w;rw [set_toArray];exact h
theorem goM (i d : Nat) (v : Value) {oi : Oper} {fuel : Nat} {lb : List Bool} {ts : List Value} {ds : List Deferred} {w : World} (hi : ops[i]? = some oi) (hd : oi.dst = some d)
 (hs : Region.noSelect ops = true) (hf : Region.free md ops lb.toArray i = true) (hr : (Region.ready md ops lb.toArray).contains i = true) (hF : F i = false)
 (hQ : ∀ c a w,Q (.panic c) (a.put (some d) v) w → Q (.panic c) a w) (hw : Region.wanted oi (yielded ops ts.toArray) = true) (hy : ∀ w,(execOp (Act.eval ⟨ts.toArray,ds⟩) oi).run P w = .ok (.value v) w)
 (h : wpAnyN P md ops Q S F fuel (lb.set i true).toArray ⟨(ts.set d v).toArray,ds⟩ w) : wpAnyN P md ops Q S F (fuel + 1) lb.toArray ⟨ts.toArray,ds⟩ w:=by
 refine wpAnyN_move hi (Region.noSelect_spec hs) hF (by rw [hd];exact hQ) fuel lb.toArray ⟨ts.toArray,ds⟩ w (Region.free_spec hi hf) (by simpa using hr) (.inl ⟨hw,fun w _ => hy w⟩) ?_;rw [hd,set_toArray];show wpAnyN P md ops Q S F fuel _ ⟨ts.toArray.setIfInBounds d v,ds⟩ w;rw [set_toArray];exact h
def Comes1 (P : Program) (md : Region.Mode) (ops : Array Oper) (Q : Exit → Act → World → Prop) (S : World → Prop) (F : Nat → Bool) (fuel : Nat) (lb : List Bool) (a : Act) (w : World) (i : Nat) : Prop:=
 ∃ o,ops[i]? = some o ∧ ∀ K' : Act → World → Prop,Shut (∀ a w,(F i = true → S w) → wpAnyN P md ops Q S F fuel (lb.set i true).toArray a w → K' a w) → if Region.wanted o (yielded ops a.tmps) = true then Oper.wp P o a w K' Q else K' (a.put o.dst undef) w
theorem eachN {l : List Nat} {fuel : Nat} {lb : List Bool} {a : Act} {w : World} (hr : Region.ready md ops lb.toArray = l) (hne : l ≠ []) (h : ∀ i ∈ l,Comes1 P md ops Q S F fuel lb a w i) : wpAnyN P md ops Q S F (fuel + 1) lb.toArray a w:=
 ⟨fun h0 => absurd (hr.symm.trans h0) hne,fun i hi => by
  rw [hr] at hi;obtain ⟨o,ho,h1⟩:=h i hi
  exact wpOp_step ho fun K' hK => h1 K' (fun a w hS hW => hK a w ⟨hS,by rw [set_toArray];exact hW⟩)⟩
theorem doneN {lb : List Bool} {a : Act} {w : World} (hr : Region.ready md ops lb.toArray = []) (h : Q .normal a w) : ∀ fuel,wpAnyN P md ops Q S F fuel lb.toArray a w
 | 0 => ⟨hr,h⟩
 | _ + 1 => ⟨fun _ => h,by rw [hr];simp⟩
theorem headN {id : Nat} {a : Act} {w : World} {n : Nat} {lb : List Bool} (hn : ops.size = n) (hlb : List.replicate n false = lb) (hm : P.follows .mixedOrders = true)
 (h : wpAnyN P .any ops Q S F n lb.toArray a w.drew) : (Code.region id ops true).wp P Q a w:=by
 refine wp_region_any hm (wpAny_of (S:=S) (F:=F) _ _ _ _ ?_);(have e : Array.replicate ops.size false = lb.toArray:=by rw [hn,← hlb];simp);rw [e,hn];exact h
end
end phase
namespace phase
open Go
section
variable {P : Program} {ops : Array Oper} {Q : Exit → Act → World → Prop} {md : Region.Mode} {S : World → Prop} {F : Nat → Bool}
inductive Each (P : Program) (md : Region.Mode) (ops : Array Oper) (Q : Exit → Act → World → Prop) (S : World → Prop) (F : Nat → Bool) (fuel : Nat) (lb : List Bool) (a : Act) (w : World) : List Nat → Prop
 | nil : Each P md ops Q S F fuel lb a w []
 | cons {i : Nat} {l : List Nat} : (Region.ready md ops lb.toArray).contains i = false ∨ Comes1 P md ops Q S F fuel lb a w i → Each P md ops Q S F fuel lb a w l → Each P md ops Q S F fuel lb a w (i :: l)
theorem Each.get {fuel : Nat} {lb : List Bool} {a : Act} {w : World} {l : List Nat} (h : Each P md ops Q S F fuel lb a w l) : ∀ i ∈ l,i ∈ Region.ready md ops lb.toArray → Comes1 P md ops Q S F fuel lb a w i:=by
 induction h with
 | nil => intro i hi;cases hi
 | cons h1 _ ih =>
  intro i hi hr;rcases List.mem_cons.1 hi with rfl | hi
  ·rcases h1 with h1 | h1
   ·(have : (Region.ready md ops lb.toArray).contains i = true:=by simpa using hr);rw [h1] at this;cases this
   ·exact h1
  ·exact ih i hi hr
theorem eachA (l : List Nat) {fuel : Nat} {lb : List Bool} {a : Act} {w : World} (h : Each P md ops Q S F fuel lb a w l) (hr : (Region.ready md ops lb.toArray).all (fun i => l.contains i) = true:=by decide +kernel) (hne : (Region.ready md ops lb.toArray).isEmpty = false:=by decide +kernel) : wpAnyN P md ops Q S F (fuel + 1) lb.toArray a w:=by
 refine eachN (l:=Region.ready md ops lb.toArray) rfl (fun e => by rw [e] at hne;cases hne) fun i hi => h.get i ?_ hi;have:=List.all_eq_true.1 hr i hi;simpa using this
end
end phase
end Go.Proofs.YtefkmcjhgoagcaaGreatDoor
