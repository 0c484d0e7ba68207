/-
  A part of the proof of the law WorldLasts: MapOf.
-/
import Derived.WideKeyPair
import Derived.Maps.OwnOps
import Derived.Maps.OwnSet
import Derived.Maps.RangeWalk
import Derived.Test.YtefkmcjhgoagcaaGreatDoorP02
import Derived.Test.YtefkmcjhgoagcaaGreatDoorP05
namespace Go.Proofs.YtefkmcjhgoagcaaGreatDoor
namespace mapof
open Go.RowKit Go.WideMaps heap own model
structure MapSpec (P : Program) (κ ε : Type) where
 K : TypeId
 e : TypeId
 t : TypeId
 kv : κ → Value
 kl : κ → Lit
 okK : κ → Prop
 ev : ε → Value
 ed : ε → DataW Unit
 okE : ε → Prop
 z : ε
 R : Value → Option (DataW Unit × List MemPlace)
 keyed : Maps.Keyed P K
 ht : P.underlying t = some (.map K e)
 key : ∀ k,okK k → keyOf P K (kv k) = some (kl k)
 key_inv : ∀ v l,keyOf P K v = some l → ∃ k,v = kv k ∧ l = kl k ∧ okK k
 elem : ∀ x,okE x → R (ev x) = some (ed x,[])
 elem_inv : ∀ v y,R v = some y → ∃ x,v = ev x ∧ y = (ed x,[]) ∧ okE x
 kv_inj : ∀ k k',kv k = kv k' → k = k'
 ed_inj : ∀ x x',ed x = ed x' → x = x'
 zero : ∀ w,(zeroValue e).run P w = .ok (ev z) w
 okZ : okE z
section
variable {κ ε : Type} [DecidableEq κ]
theorem seek_del_same {k : κ} : ∀ (l : List (κ × ε)),seek k (del k l) = none
 | [] => rfl
 | (x,v) :: l => by
  unfold del;by_cases h : x = k
  ·rw [if_pos h];exact seek_del_same l
  ·rw [if_neg h];unfold seek;rw [if_neg h];exact seek_del_same l
theorem seek_del_other {k k' : κ} (hk : k' ≠ k) : ∀ (l : List (κ × ε)),seek k' (del k l) = seek k' l
 | [] => rfl
 | (x,v) :: l => by
  unfold del;by_cases h : x = k
  ·rw [if_pos h]
   conv => rhs;unfold seek
   rw [if_neg (fun e => hk (by rw [← e,h]))];exact seek_del_other hk l
  ·rw [if_neg h];unfold seek;by_cases h' : x = k'
   ·rw [if_pos h',if_pos h']
   ·rw [if_neg h',if_neg h'];exact seek_del_other hk l
theorem del_filter (k : κ) : ∀ (l : List (κ × ε)),del k l = l.filter fun p => decide (p.1 ≠ k)
 | [] => rfl
 | (x,v) :: l => by
  unfold del;by_cases h : x = k
  ·rw [if_pos h,List.filter_cons_of_neg (by simp [h])];exact del_filter k l
  ·rw [if_neg h,List.filter_cons_of_pos (by simp [h]),del_filter k l]
theorem del_sublist (k : κ) (l : List (κ × ε)) : (del k l).Sublist l:=by rw [del_filter];exact List.filter_sublist
theorem seek_mem {k : κ} : ∀ (l : List (κ × ε)),(seek k l).isSome = true ↔ k ∈ l.map (·.1)
 | [] => by simp [seek]
 | (x,v) :: l => by
  unfold seek;rw [List.map_cons,List.mem_cons];by_cases h : x = k
  ·rw [if_pos h];simp [h]
  ·rw [if_neg h,seek_mem l];constructor
   ·exact .inr
   ·rintro (e | e)
    ·exact absurd e.symm h
    ·exact e
theorem seek_some {k : κ} {v : ε} : ∀ (l : List (κ × ε)),seek k l = some v → (k,v) ∈ l
 | [],h => by cases h
 | (x,u) :: l,h => by
  unfold seek at h;by_cases hx : x = k
  ·rw [if_pos hx] at h;rw [← hx,← Option.some.inj h];exact List.mem_cons_self ..
  ·rw [if_neg hx] at h;exact List.mem_cons_of_mem _ (seek_some l h)
theorem seek_of_mem {k : κ} {v : ε} : ∀ (l : List (κ × ε)),(l.map (·.1)).Nodup → (k,v) ∈ l → seek k l = some v
 | [],_,h => by cases h
 | (x,u) :: l,hn,h => by
  rw [List.map_cons,List.nodup_cons] at hn;unfold seek;rcases List.mem_cons.1 h with e | h
  ·obtain ⟨rfl,rfl⟩:=Prod.mk.inj e;rw [if_pos rfl]
  ·have : x ≠ k:=fun e => hn.1 (e ▸ List.mem_map.2 ⟨(k,v),h,rfl⟩);rw [if_neg this];exact seek_of_mem l hn.2 h
theorem del_length (k : κ) : ∀ (l : List (κ × ε)),(l.map (·.1)).Nodup → (del k l).length + (if (seek k l).isSome then 1 else 0) = l.length
 | [],_ => rfl
 | (x,v) :: l,hn => by
  rw [List.map_cons,List.nodup_cons] at hn;have ih:=del_length k l hn.2;unfold del seek;by_cases h : x = k
  ·rw [if_pos h,if_pos h]
   have hno : seek k l = none:=by
    cases hs : seek k l with
    | none => rfl
    | some y => exact absurd (h ▸ (seek_mem l).1 (by rw [hs];rfl)) hn.1
   rw [hno] at ih;simp at ih ⊢;exact ih
  ·rw [if_neg h,if_neg h];simp only [List.length_cons];omega
theorem seek_put_same {k : κ} {v : ε} {l : List (κ × ε)} : seek k (put k v l) = some v:=by simp [put,seek]
theorem seek_put_other {k k' : κ} {v : ε} {l : List (κ × ε)} (h : k' ≠ k) : seek k' (put k v l) = seek k' l:=by
 unfold put
 conv => lhs;unfold seek
 rw [if_neg (fun e => h e.symm),seek_del_other h]
end
section
variable {P : Program} {κ ε : Type} (S : MapSpec P κ ε)
theorem MapSpec.kl_inj {k k' : κ} (h : S.okK k) (h' : S.okK k') (e : S.kl k = S.kl k') : k = k':=
 S.kv_inj _ _ (S.keyed.inj (S.key k h) (e ▸ S.key k' h'))
theorem MapSpec.isKey {k : κ} (h : S.okK k) : WideAt.IsKeyLit (S.kl k):=S.keyed.key (S.key k h)
end
section
variable {P : Program} {κ ε : Type} [DecidableEq κ] (S : MapSpec P κ ε)
structure Reads (D : DataW Unit) (l : List (κ × ε)) : Prop where
 tidy : Maps.Tidy D
 ok : ∀ p ∈ l,S.okK p.1 ∧ S.okE p.2
 nodup : (l.map (·.1)).Nodup
 size : Maps.size D = l.length
 at_ : ∀ k,S.okK k → D.atKey (S.kl k) (S.ed S.z) = S.ed ((seek k l).getD S.z)
 has : ∀ k,S.okK k → Maps.has D (S.kl k) = (seek k l).isSome
variable {S}
theorem Reads.empty : Reads S (.map []) []:=⟨Maps.tidy_empty,(fun _ h => by cases h),List.Pairwise.nil,rfl,fun _ _ => rfl,fun _ _ => rfl⟩
theorem Reads.del {D : DataW Unit} {l : List (κ × ε)} (h : Reads S D l) {k : κ} (hk : S.okK k) : Reads S (D.del (S.kl k)) (model.del k l):=by
 refine ⟨h.tidy.del _,fun p hp => h.ok p ((del_sublist _ _).subset hp),h.nodup.sublist ((del_sublist _ _).map _),?_,fun k' hk' => ?_,fun k' hk' => ?_⟩
 ·have h1:=Maps.size_del (k:=S.kl k) h.tidy;have h2:=del_length k l h.nodup;rw [h.has k hk,h.size] at h1;omega
 ·by_cases he : k' = k
  ·subst he;rw [Maps.atKey_del_same,seek_del_same];rfl
  ·rw [Maps.atKey_del_other (fun e => he (S.kl_inj hk' hk e)),seek_del_other he];exact h.at_ k' hk'
 ·by_cases he : k' = k
  ·subst he;rw [Maps.has_del_same,seek_del_same];rfl
  ·rw [Maps.has_del_other (fun e => he (S.kl_inj hk' hk e)),seek_del_other he];exact h.has k' hk'
theorem Reads.put {D : DataW Unit} {l : List (κ × ε)} (h : Reads S D l) {k : κ} {u : ε} (hk : S.okK k) (hu : S.okE u) : Reads S (D.put (S.kl k) (S.ed u)) (model.put k u l):=by
 have hd:=h.del hk;have hkl:=S.isKey hk;have him:=h.tidy.isMap;refine ⟨h.tidy.put hkl _,fun p hp => ?_,?_,?_,fun k' hk' => ?_,fun k' hk' => ?_⟩
 ·rcases List.mem_cons.1 hp with rfl | hp
  ·exact ⟨hk,hu⟩
  ·exact hd.ok p hp
 ·show (k :: (model.del k l).map (·.1)).Nodup;refine List.nodup_cons.2 ⟨fun hm => ?_,hd.nodup⟩;have:=(seek_mem _).2 hm;rw [seek_del_same] at this;cases this
 ·have h1:=Maps.size_put (k:=S.kl k) h.tidy (S.ed u);have h2:=del_length k l h.nodup;show _ = (model.del k l).length + 1;rw [h1,h.has k hk,h.size];split <;> rename_i hs
  ·rw [hs] at h2;simp at h2;omega
  ·simp only [hs] at h2;simp at h2;omega
 ·by_cases he : k' = k
  ·subst he;rw [Maps.atKey_put_same him hkl,seek_put_same];rfl
  ·rw [Maps.atKey_put_other (fun e => he (S.kl_inj hk' hk e)),h.at_ k' hk',seek_put_other he]
 ·by_cases he : k' = k
  ·subst he;rw [Maps.has_put_same him hkl,seek_put_same];rfl
  ·rw [Maps.has_put_other (fun e => he (S.kl_inj hk' hk e)),h.has k' hk',seek_put_other he]
theorem Reads.found {D : DataW Unit} {l : List (κ × ε)} (h : Reads S D l) {k : κ} {u : ε} (hk : S.okK k) (ha : ∀ zd,D.atKey (S.kl k) zd = S.ed u) : seek k l = some u:=by
 have h1:=Maps.has_true_of_atKey ha;rw [h.has k hk] at h1;have h2:=h.at_ k hk;rw [ha] at h2
 cases hs : seek k l with
 | none => rw [hs] at h1;cases h1
 | some x => rw [hs] at h2;rw [S.ed_inj _ _ h2];rfl
theorem tight {P : Program} {k : TypeId} {R : Value → Option (DataW Unit × List MemPlace)} {w : World} {b n : Nat} {D : DataW Unit} (h : w.ownsMap P k R b n D) : w.ownsMap P k R b (Maps.size D) D:=by
 obtain ⟨es,clock,hb,F,_,rfl⟩:=h;exact ⟨es,clock,hb,F,Nat.le_of_eq (by show es.size = List.length _;rw [length_read]),rfl⟩
variable (S)
def At (w : World) (b : Nat) (l : List (κ × ε)) : Prop:=∃ D : DataW Unit,w.ownsMap P S.K S.R b l.length D ∧ Reads S D l
def Over (w : World) (b r n : Nat) (l : List (κ × ε)) (left : Lit → Bool) (cnt : Nat) : Prop:=∃ D : DataW Unit,w.ranges P S.K S.R b r n D left cnt ∧ Reads S D l
variable {S}
section
variable {w w' : World} {b r n cnt : Nat} {l : List (κ × ε)} {left : Lit → Bool}
theorem At.lt (h : At S w b l) : b < w.heap.size:=by
 obtain ⟨D,h1,-⟩:=h;exact h1.lt
theorem At.nodup (h : At S w b l) : (l.map (·.1)).Nodup:=by
 obtain ⟨D,-,h2⟩:=h;exact h2.nodup
theorem At.ok (h : At S w b l) : ∀ p ∈ l,S.okK p.1 ∧ S.okE p.2:=by
 obtain ⟨D,-,h2⟩:=h;exact h2.ok
theorem At.okE (h : At S w b l) (k : κ) : S.okE ((seek k l).getD S.z):=by
 cases hs : seek k l with
 | none => exact S.okZ
 | some u => exact (h.ok _ (seek_some _ hs)).2
theorem At.same (h : At S w b l) (he : w'.heap[b]? = w.heap[b]?) : At S w' b l:=by
 obtain ⟨D,⟨es,clock,hb,F,hs,hD⟩,h2⟩:=h;exact ⟨D,⟨es,clock,he.trans hb,F,hs,hD⟩,h2⟩
theorem At.turn {T : Nat → Prop} (h : At S w b l) (ht : Turn T w w') (hS : ¬ T b) : At S w' b l:=h.same (ht.block b h.lt hS)
theorem At.below (h : At S w b l) (hb : Below w.heap.size w w') : At S w' b l:=h.same (hb.block b h.lt)
theorem At.drew (h : At S w b l) : At S w.drew b l:=h.same rfl
theorem At.alloc (h : At S w b l) (o : Obj) : At S (w.alloc o) b l:=h.same (Below.heap_alloc w o b h.lt)
theorem At.far (h : At S w b l) {p : Addr} (hp : b ≠ p.block) (u : Value) : At S (w.setCell p u) b l:=h.same (Below.heap_setCell w p u b hp)
theorem At.grown {row : Option Nat} (h : At S w b l) (hg : w.grownBy w' row) (hb : some b ≠ row) : At S w' b l:=h.same (hg.block b h.lt hb)
theorem At.new (S : MapSpec P κ ε) (w : World) : At S (w.alloc (.map #[] 0)) w.heap.size []:=⟨_,World.ownsMap_made w _ _ _,Reads.empty⟩
theorem At.look (h : At S w b l) {k : κ} (hk : S.okK k) : (Instr.lookup S.t (.map (some b)) (S.kv k) false).run P w = .ok (S.ev ((seek k l).getD S.z)) w:=by
 obtain ⟨D,h1,h2⟩:=h;obtain ⟨v,ps,hr,hx⟩:=h1.lookup S.keyed S.ht (S.zero w) (S.elem _ S.okZ) (S.key k hk);rw [h2.at_ k hk] at hx;obtain ⟨x,rfl,hy,-⟩:=S.elem_inv _ _ hx;rw [hr,S.ed_inj _ _ (Prod.mk.inj hy).1]
theorem At.look_ok (h : At S w b l) {k : κ} (hk : S.okK k) : (Instr.lookup S.t (.map (some b)) (S.kv k) true).run P w = .ok (.tuple #[S.ev ((seek k l).getD S.z),.bool (seek k l).isSome]) w:=by
 obtain ⟨D,h1,h2⟩:=h;obtain ⟨v,ps,hr,hx⟩:=h1.look_ok S.keyed S.ht (S.zero w) (S.elem _ S.okZ) (S.key k hk);rw [h2.at_ k hk] at hx;obtain ⟨x,rfl,hy,-⟩:=S.elem_inv _ _ hx;rw [hr,h2.has k hk,S.ed_inj _ _ (Prod.mk.inj hy).1]
theorem At.store (h : At S w b l) (hn : l.length < maxLen) {k : κ} {u : ε} (hk : S.okK k) (hu : S.okE u) :
 ∃ w',(Instr.mapUpdate S.t (.map (some b)) (S.kv k) (S.ev u)).run P w = .ok () w' ∧ At S w' b (model.put k u l) ∧ w.grownBy w' (some b):=by
 obtain ⟨D,h1,h2⟩:=h;obtain ⟨w',hr,h3,h4⟩:=h1.update S.keyed S.ht hn (S.key k hk) (S.elem u hu);have h5:=h2.put hk hu;refine ⟨w',hr,⟨_,?_,h5⟩,h4⟩;have:=tight h3;rwa [h5.size] at this
theorem At.drop (h : At S w b l) {k : κ} (hk : S.okK k) (ty : TypeId) :
 ∃ w',(Builtin.delete_ #[S.t,S.K] ty #[.map (some b),S.kv k]).run P w = .ok (.tuple #[]) w' ∧ At S w' b (model.del k l) ∧ w.grownBy w' (some b):=by
 obtain ⟨D,h1,h2⟩:=h;obtain ⟨w',hr,h3,h4⟩:=h1.drop S.keyed S.ht (S.key k hk) ty;have h5:=h2.del hk;refine ⟨w',hr,⟨_,?_,h5⟩,h4.grown⟩;have:=tight h3;rwa [h5.size] at this
theorem Over.at_ (h : Over S w b r n l left cnt) : At S w b l:=by
 obtain ⟨D,h1,h2⟩:=h;have:=tight h1.owns;rw [h2.size] at this;exact ⟨D,this,h2⟩
theorem Over.left_eq (h : Over S w b r n l left cnt) : w.rangeLeft b r = cnt:=by
 obtain ⟨D,h1,-⟩:=h;exact h1.left_eq
theorem Over.kept {row : Option Nat} (h : Over S w b r n l left cnt) (hg : w.grownBy w' row) (hb' : some b ≠ row) (hr' : some r ≠ row) : Over S w' b r n l left cnt:=by
 obtain ⟨D,h1,h2⟩:=h;exact ⟨D,h1.kept hg hb' hr',h2⟩
theorem Over.alloc (h : Over S w b r n l left cnt) (o : Obj) : Over S (w.alloc o) b r n l left cnt:=h.kept (World.grownBy_alloc w o none) (by simp) (by simp)
theorem Over.drew (h : Over S w b r n l left cnt) : Over S w.drew b r n l left cnt:=by
 obtain ⟨D,h1,h2⟩:=h;exact ⟨D,h1,h2⟩
end
section
variable {w : World} {ops : Array Oper} {rest : List Oper} {o : Oper} {a : Act} {Q : Exit → Act → World → Prop} {b r n cnt : Nat} {l : List (κ × ε)} {left : Lit → Bool}
theorem wp_mdrop (S : MapSpec P κ ε) {KK' : Act → World → Prop} (m x : Operand) (hop : o.op = Op.call { callee:=Callee.builtin Builtin.delete,args:=#[m,x],argTypes:=#[S.t,S.K] })
 (hm : a.eval m = .map (some b)) (h : At S w b l) {k : κ} (hk : S.okK k) (hx : a.eval x = S.kv k)
 (hK : ∀ w',At S w' b (model.del k l) → w.grownBy w' (some b) → KK' (a.put o.dst (.tuple #[])) w') : o.wp P a w KK' Q:=by
 obtain ⟨w',hrun,r1,r2⟩:=h.drop hk o.type;unfold Oper.wp;simp [execOp,hop,resolve,invoke,builtin,hm,hx,hrun,Result.andThen];exact hK w' r1 r2
theorem wpList_mdrop (S : MapSpec P κ ε) (hg : o.guard = none) (m x : Operand) (hop : o.op = Op.call { callee:=Callee.builtin Builtin.delete,args:=#[m,x],argTypes:=#[S.t,S.K] })
 (hm : a.eval m = .map (some b)) (h : At S w b l) {k : κ} (hk : S.okK k) (hx : a.eval x = S.kv k)
 (hK : ∀ w',At S w' b (model.del k l) → w.grownBy w' (some b) → wpList P ops Q rest (a.put o.dst (.tuple #[])) w') : wpList P ops Q (o :: rest) a w:=
 wpList_plain hg fun _ hK' => wp_mdrop S m x hop hm h hk hx fun w' r1 r2 => hK' _ _ (hK w' r1 r2)
theorem wp_mstore (S : MapSpec P κ ε) {KK' : Act → World → Prop} {u : ε} (m x v : Operand) (hop : o.op = Op.mapUpdate S.t m x v)
 (hm : a.eval m = .map (some b)) (h : At S w b l) (hn : l.length < maxLen) {k : κ} (hk : S.okK k) (hu : S.okE u) (hx : a.eval x = S.kv k) (hv : a.eval v = S.ev u)
 (hK : ∀ w',At S w' b (model.put k u l) → w.grownBy w' (some b) → KK' (a.put o.dst undef) w') : o.wp P a w KK' Q:=by
 obtain ⟨w',hrun,r1,r2⟩:=h.store hn hk hu;unfold Oper.wp;simp [execOp,hop,hm,hx,hv,hrun,Result.andThen];exact hK w' r1 r2
theorem exec_mlook (S : MapSpec P κ ε) (m x : Operand) (hop : o.op = Op.lookup S.t m x false) (hm : a.eval m = .map (some b)) (h : At S w b l) {k : κ} (hk : S.okK k) (hx : a.eval x = S.kv k) :
 (execOp a.eval o).run P w = .ok (.value (S.ev ((seek k l).getD S.z))) w:=by
 simp [execOp,hop,hm,hx,h.look hk,Result.andThen]
theorem exec_mlook_ok (S : MapSpec P κ ε) (m x : Operand) (hop : o.op = Op.lookup S.t m x true) (hm : a.eval m = .map (some b)) (h : At S w b l) {k : κ} (hk : S.okK k) (hx : a.eval x = S.kv k) :
 (execOp a.eval o).run P w = .ok (.value (.tuple #[S.ev ((seek k l).getD S.z),.bool (seek k l).isSome])) w:=by
 simp [execOp,hop,hm,hx,h.look_ok hk,Result.andThen]
theorem wpList_mrange (S : MapSpec P κ ε) (hg : o.guard = none) (m : Operand) (hop : o.op = Op.range S.t m) (hm : a.eval m = .map (some b)) (h : At S w b l)
 (hK : ∀ w' left,Over S w' b w.heap.size l.length l left l.length → (∀ p ∈ l,left (S.kl p.1) = true) → w.grownBy w' none → w'.heap.size = w.heap.size + 1 → wpList P ops Q rest (a.put o.dst (.pointer (some ⟨w.heap.size,0,none⟩))) w') :
 wpList P ops Q (o :: rest) a w:=by
 obtain ⟨D,h1,h2⟩:=h;refine wpList_range_own w hg m S.t hop S.K S.e S.keyed S.ht S.R b l.length D hm h1 ?_;intro w' hr hg' hs';rw [h2.size] at hr;refine hK w' _ ⟨D,hr,h2⟩ (fun p hp => ?_) hg' hs';rw [h2.has p.1 (h2.ok p hp).1];exact (seek_mem l).2 (List.mem_map.2 ⟨p,hp,rfl⟩)
theorem wpList_mnext (S : MapSpec P κ ε) (hg : o.guard = none) (it : Operand) (hop : o.op = Op.next it false) (hit : a.eval it = .pointer (some ⟨r,0,none⟩)) (h : Over S w b r n l left cnt)
 (hDone : cnt = 0 → (∀ kl,left kl = false) → wpList P ops Q rest (a.put o.dst (.tuple #[.bool false])) w)
 (hMore : ∀ (k : κ) (u : ε) (w' : World) (cnt' : Nat),S.okK k → S.okE u → seek k l = some u → left (S.kl k) = true → Over S w' b r n l (fun z => left z && !z.sameKey (S.kl k)) cnt' → cnt' < cnt →
   w.grownBy w' (some r) → w'.heap.size = w.heap.size → (Instr.entry (.pointer (some ⟨r,0,none⟩))).run P w' = .ok (.tuple #[S.kv k,S.ev u]) w' → wpList P ops Q rest (a.put o.dst (.tuple #[.bool true,S.kv k,S.ev u])) w') :
 wpList P ops Q (o :: rest) a w:=by
 obtain ⟨D,h1,h2⟩:=h;refine wpList_next_ranges (α:=κ) (β:=ε) w hg it hop S.K S.keyed S.R S.kv S.ev (fun v l hv => ?_) (fun v y hv => ?_) b r n D left cnt hit h1 hDone ?_
 ·obtain ⟨k,hk,-⟩:=S.key_inv v l hv;exact ⟨k,hk⟩
 ·obtain ⟨x,hx,-⟩:=S.elem_inv v y hv;exact ⟨x,hx⟩
 ·intro x c kl y w' cnt' hkey hlk hv hat hrg hlt hgr hsz hen;obtain ⟨k,e1,rfl,hok⟩:=S.key_inv _ _ hkey;obtain rfl:=S.kv_inj _ _ e1;obtain ⟨u,e2,e3,hou⟩:=S.elem_inv _ _ hv;rw [e2] at hen ⊢;refine hMore x u w' cnt' hok hou (h2.found hok (fun zd => by rw [hat,e3])) hlk ⟨D,hrg,h2⟩ hlt hgr hsz hen
theorem wp_mdrop_over (S : MapSpec P κ ε) {KK' : Act → World → Prop} (m x : Operand) (hop : o.op = Op.call { callee:=Callee.builtin Builtin.delete,args:=#[m,x],argTypes:=#[S.t,S.K] })
 (hm : a.eval m = .map (some b)) (h : Over S w b r n l left cnt) {k : κ} (hk : S.okK k) (hx : a.eval x = S.kv k)
 (hK : ∀ w' cnt',Over S w' b r n (model.del k l) (fun z => left z && !z.sameKey (S.kl k)) cnt' → cnt' ≤ cnt → w.grownBy w' (some b) → w'.heap.size = w.heap.size → KK' (a.put o.dst (.tuple #[])) w') : o.wp P a w KK' Q:=by
 obtain ⟨D,h1,h2⟩:=h;obtain ⟨w',cnt',hrun,r1,r2,r3⟩:=h1.drop S.keyed S.ht (S.key k hk) o.type;unfold Oper.wp;simp [execOp,hop,resolve,invoke,builtin,hm,hx,hrun,Result.andThen];refine hK w' cnt' ⟨_,r1,h2.del hk⟩ r2 r3.grown ?_;obtain ⟨es,clock,es',clock',hb,rfl⟩:=r3;simp [ChangeMaps.setBlock]
end
end
def i64ok (n : Int) : Prop:=(Lit.int .i64 n).wf = true
def pairV (k : Int × Int) : Value:=.agg #[.int .i64 k.1,.int .i64 k.2]
def pairL (k : Int × Int) : Lit:=.string (keyBytes [.int .i64 k.1,.int .i64 k.2])
def pairOk (k : Int × Int) : Prop:=i64ok k.1 ∧ i64ok k.2
theorem pairV_inj (k k' : Int × Int) (h : pairV k = pairV k') : k = k':=by
 obtain ⟨a,b⟩:=k;obtain ⟨c,d⟩:=k';simpa [pairV] using h
section
variable {P : Program} {κ : Type}
def intSpec (K e t : TypeId) (he : P.underlying e = some (.int .i64)) (hz : ∀ w,(zeroValue e).run P w = .ok (.int .i64 0) w) (ht : P.underlying t = some (.map K e)) (keyed : Maps.Keyed P K)
 (kv : κ → Value) (kl : κ → Lit) (okK : κ → Prop) (key : ∀ k,okK k → keyOf P K (kv k) = some (kl k)) (key_inv : ∀ v l,keyOf P K v = some l → ∃ k,v = kv k ∧ l = kl k ∧ okK k) (kv_inj : ∀ k k',kv k = kv k' → k = k') : MapSpec P κ Int where
 K:=K
 e:=e
 t:=t
 kv:=kv
 kl:=kl
 okK:=okK
 ev:=Value.int .i64
 ed:=fun n => .lit (.int .i64 n)
 okE:=i64ok
 z:=0
 R:=plainElem P e
 keyed:=keyed
 ht:=ht
 key:=key
 key_inv:=key_inv
 elem:=fun _ h => plainElem_int he h
 elem_inv:=fun v y h => plainElem_int_inv he h
 kv_inj:=kv_inj
 ed_inj:=fun _ _ h => by simpa using h
 zero:=hz
 okZ:=by unfold i64ok;decide
end
end mapof
end Go.Proofs.YtefkmcjhgoagcaaGreatDoor
