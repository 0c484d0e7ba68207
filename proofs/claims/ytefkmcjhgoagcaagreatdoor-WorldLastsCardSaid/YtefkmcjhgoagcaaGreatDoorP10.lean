/-
  A part of the proof of the law WorldLasts: Law, ListArg, Wire1, Wire2, StepArg.
-/
import Derived.Test.YtefkmcjhgoagcaaGreatDoorRows
import Derived.WalkKit
import Derived.ProofKit
import Derived.OpenShut
import Derived.Carry
import Derived.ChangeSame
import Derived.Deep.Fields
import Derived.Deep.Slices
import Derived.ChangeSlices
import Derived.RegionTactic
import Derived.ChangeAlike
import Derived.StillTailTactics
import Derived.Deep.Draws
import Derived.OwnWalk
import Derived.Lib.AppendStr
import Derived.Test.YtefkmcjhgoagcaaGreatDoorHd
import Derived.Test.YtefkmcjhgoagcaaGreatDoorP04
import Derived.Test.YtefkmcjhgoagcaaGreatDoorP05
namespace Go.Proofs.YtefkmcjhgoagcaaGreatDoor
namespace law
open Go.ChangeShapes Go.WideShapes Go.RowKit Go.Deep
theorem laidOut : laidOutB Tryz.prog = true:=by kernel_rfl
section
variable {H : Type} {enc : TypeId × Value → H}
theorem trodAll_below {W W' : World} (hb : Below W.heap.size W W') : ∀ (ts : List TypeId) (vs : List Value) (ds : List (DataW H)) (ps : List MemPlace),
 (∀ t ∈ ts,Tryz.prog.readableRec t = true ∧ t < Tryz.prog.types.size) → (∀ p ∈ ps,p.block < W.heap.size) →
 DataW.TrodAll enc Tryz.prog W 0 (fun _ => true) true ts vs ds ps → DataW.TrodAll enc Tryz.prog W' 0 (fun b => decide (b < W.heap.size)) true ts vs ds ps
 | [],vs,ds,ps,_,_,h => by
  obtain ⟨rfl,rfl,rfl⟩:=trodAll_nil h;exact trodAll_mk0
 | t :: ts,vs,ds,ps,hr,hlt,h => by
  obtain ⟨v,vs',d,ds',p,q,rfl,rfl,rfl,h1,h2⟩:=trodAll_cons h
  exact trodAll_cons_mk (Below.trod laidOut (hr t (by simp)).1 (hr t (by simp)).2 h1 hb (fun x hx => hlt x (by simp [hx])))
   (trodAll_below hb ts vs' ds' q (fun t ht => hr t (by simp [ht])) (fun x hx => hlt x (by simp [hx])) h2)
theorem law_post {f : Func} {s : ChangeSpec} {apart fresh handsOn : Bool} {W W' : World} {args : Array Value} {ds gs : List (DataW H)} {before : List MemPlace}
 (hW : DataW.Whole enc Tryz.prog f.params.toList s.vars apart W args.toList ds gs before) (hv : s.vars = []) (hrt : f.resultTypes = #[4])
 (hr : ∀ t ∈ f.params.toList,Tryz.prog.readableRec t = true ∧ t < Tryz.prog.types.size)
 (hs : ∀ gs,gs = [] → (s.fn H (ds ++ gs)) = { results:=[.lit (.bool true)],args:=ds }) (hb : Below W.heap.size W W') :
 s.post enc Tryz.prog f apart fresh handsOn false W args (.bool true) W':=by
 have hlt : ∀ p ∈ before,p.block < W.heap.size:=fun p hp => hW.lt p hp;have hW':=hW;obtain ⟨p,q,hA0,hV,rfl,hfz,hnd⟩:=hW;have hA : DataW.TrodAll enc Tryz.prog W 0 (fun _ => true) true f.params.toList args.toList ds p:=hA0;rw [hv] at hV;obtain ⟨rfl,rfl⟩:=trodVars_none hV;refine ⟨ds,[],_,[],p,[],hW',?_,?_,?_,World.keptBut_mono (fun x hx => ⟨hx,?_⟩) (hb.frame (· ∈ p ++ [])),fun h => by cases h⟩
 ·rw [hs [] rfl,hrt];exact trodAll_cons_mk (shut_bool Tryz.underlying4 _) trodAll_mk0
 ·rw [hs [] rfl];exact trodAll_below hb _ _ _ _ hr (fun x hx => hlt x (by simp [hx])) hA
 ·rw [hs [] rfl,hv];rfl
 ·exact Or.inr (by simpa using hx)
end
end law
namespace law
open Go.ChangeShapes Go.WideShapes Go.RowKit Go.Deep heap
structure ListAt (Pd : List Value → Prop) (w : World) (size : Nat) (a : Option Addr) (n : Nat) (l : List (List Value)) : Prop where
 len : l.length = n
 each : ∀ r ∈ l,Pd r ∧ r.length = size
 cells : 0 < n → ∃ b o,a = some ⟨b,o,none⟩ ∧ b < w.heap.size ∧ ∀ (i : Nat) r,l[i]? = some r → ∀ (j : Nat) u,r[j]? = some u → w.cell? ⟨b,o + i * size + j,none⟩ = some u
theorem open_list {H : Type} {enc : TypeId × Value → H} {w : World} {base : Nat} {spare : Nat → Bool} {held : Bool} {fuel : Nat} {cs : List Value} {x : DataW H × List MemPlace} {ts e : TypeId} (size : Nat) (hu : Tryz.prog.underlying ts = some (.slice e)) (he : Tryz.prog.cellsOf e = size) (hp : 0 < size)
 (Pd : List Value → Prop) (hone : ∀ (fuel : Nat) (cs : List Value) (x : DataW H × List MemPlace),cs.length = size → DataW.trod enc Tryz.prog w base spare held fuel e cs = some x → Pd cs)
 (h : DataW.trod enc Tryz.prog w base spare held fuel ts cs = some x) : ∃ (a : Option Addr) (n c : Nat) (l : List (List Value)),cs = [.slice a n c] ∧ ListAt Pd w size a n l ∧ n ≤ c ∧ c ≤ maxLen:=by
 rcases open_slice hu h with ⟨rfl,-⟩ | ⟨a,len,cap,m,n',D,Pl,rfl,-,hlc,hcm,hm,-,hel⟩
 ·exact ⟨none,0,0,[],rfl,⟨rfl,fun r hr => (by cases hr),fun h => absurd h (Nat.lt_irrefl 0)⟩,Nat.le_refl _,by simp [maxLen]⟩
 ·rw [he] at hel;(have hml : len ≤ m:=by rw [hm];split <;> omega);rcases Nat.eq_zero_or_pos len with h0 | h0
  ·exact ⟨some a,len,cap,[],rfl,⟨by rw [h0];rfl,fun r hr => (by cases hr),fun h => by omega⟩,hlc,hcm⟩
  ·obtain ⟨b,o,spot⟩:=a;obtain ⟨cs0,hc0,-⟩:=hel 0 (by omega);rw [Nat.zero_mul] at hc0;obtain ⟨-,hcl0,hcell0⟩:=World.cells?_some hc0;have d0:=hcell0 0 (by omega)
   have hspot : spot = none:=by
    have : w.cell? (((⟨b,o,spot⟩ : Addr).add 0).add 0) = some (cs0[0]'(by omega)):=d0.trans (List.getElem?_eq_getElem (by omega));simpa [Addr.add] using World.cell?_spot this
   subst hspot;have hadd : ∀ i j,((⟨b,o,none⟩ : Addr).add i).add j = ⟨b,o + i + j,none⟩:=fun i j => by by_cases h0 : i = 0 <;> by_cases h1 : j = 0 <;> simp [Addr.add,h0,h1]
   have hb : b < w.heap.size:=by
    rcases Nat.lt_or_ge b w.heap.size with h' | h'
    ·exact h'
    ·have e:=d0.trans (List.getElem?_eq_getElem (by omega));rw [hadd] at e;simp [World.cell?,Array.getElem?_eq_none h'] at e
   have hex : ∀ k,k ≤ len → ∃ l : List (List Value),l.length = k ∧ (∀ r ∈ l,Pd r ∧ r.length = size) ∧ ∀ (i : Nat) r,l[i]? = some r → ∀ (j : Nat) u,r[j]? = some u → w.cell? ⟨b,o + i * size + j,none⟩ = some u:=by
    intro k
    induction k with
    | zero => intro _;exact ⟨[],rfl,fun r hr => (by cases hr),fun i r h => by simp at h⟩
    | succ k ih =>
     intro hk;obtain ⟨l,h1,h2,h3⟩:=ih (by omega);obtain ⟨cs',hc,ht⟩:=hel k (by omega);obtain ⟨-,hcl,hcell⟩:=World.cells?_some hc;refine ⟨l ++ [cs'],by simp [h1],fun r hr => ?_,fun i r hi j u hj => ?_⟩
     ·rcases List.mem_append.1 hr with hr | hr
      ·exact h2 r hr
      ·rw [List.mem_singleton.1 hr];exact ⟨hone _ _ _ hcl ht,hcl⟩
     ·by_cases hik : i < l.length
      ·rw [List.getElem?_append_left hik] at hi;exact h3 i r hi j u hj
      ·rw [List.getElem?_append_right (by omega)] at hi
       have : i = k:=by
        have:=(List.getElem?_eq_some_iff.1 hi).1;simp at this;omega
       subst this;rw [h1,Nat.sub_self] at hi;(obtain rfl : cs' = r:=by simpa using hi);obtain ⟨hj1,hj2⟩:=List.getElem?_eq_some_iff.1 hj;have e:=hcell j (by omega);rw [hadd] at e;rw [e,hj]
   obtain ⟨l,h1,h2,h3⟩:=hex len (Nat.le_refl _);exact ⟨some ⟨b,o,none⟩,len,cap,l,rfl,⟨h1,h2,fun _ => ⟨b,o,rfl,hb,h3⟩⟩,hlc,hcm⟩
end law
namespace wire
open Go.RowKit heap
abbrev msgCells (a b c d e f g : Int) (l : Bool) (s : ByteArray) : Array Value:=#[.int .i64 a,.int .i64 b,.int .i64 c,.int .i64 d,.int .i64 e,.int .i64 f,.int .i64 g,.bool l,.string s]
def ptrs (b : Nat) : Array Value:=#[.pointer (some ⟨b,0,none⟩),.pointer (some ⟨b,1,none⟩),.pointer (some ⟨b,2,none⟩),.pointer (some ⟨b,3,none⟩),.pointer (some ⟨b,4,none⟩),.pointer (some ⟨b,5,none⟩),.pointer (some ⟨b,6,none⟩)]
set_option maxHeartbeats 1000000 in
set_option maxRecDepth 100000 in
theorem numbers_any (b : Nat) (w : World) :
 Calls Tryz.prog 67 #[.pointer (some ⟨b,0,none⟩)] w fun e w' => e = .returned (.slice (some ⟨w.heap.size,0,none⟩) 7 7) ∧ w' = (w.alloc (.cells (ptrs b) 135)).drew:=by
 go_enter Tryz.func67,Tryz.ntmps67
 go_wp2
 go_region
 go_wp2;go_ret;exact ⟨rfl,rfl⟩
theorem fn_ok (n : Int) (a : Addr) (w : World) (hc : w.cell? a = some (.int .i64 n)) :
 Calls Tryz.prog 88 #[.pointer (some a)] w fun e w' => e = .returned (.bool (!okN n)) ∧ w = w':=by
 by_cases h1 : n < 0
 ·(go_enter Tryz.func88,Tryz.ntmps88);go_wp2;go_ret;exact ⟨by simp [okN];omega,rfl⟩
 ·by_cases h2 : 1099511627776 < n
  ·(go_enter Tryz.func88,Tryz.ntmps88);go_wp2;go_ret;exact ⟨by simp [okN];omega,rfl⟩
  ·(have h3 : decide (1099511627776 < n) = false:=by simp;omega);(have h4 : decide (n < 0) = false:=by simp;omega);(have h5 : n ≤ 1099511627776:=by omega);(have h6 : 0 ≤ n:=by omega);(go_enter Tryz.func88,Tryz.ntmps88);go_wp2;go_ret;exact ⟨by simp [okN];omega,rfl⟩
theorem all_take_succ (ns : List Int) (k : Nat) (h : (ns.take k).all okN = true) (hk : okN (ns.getD k 0) = true) (hl : k < ns.length) : (ns.take (k + 1)).all okN = true:=by
 rw [List.take_succ_eq_append_getElem hl,List.all_append,h];simp [List.getD,hl] at hk;simp [hk]
theorem all_no (ns : List Int) (k : Nat) (hk : okN (ns.getD k 0) = false) (hl : k < ns.length) : ns.all okN = false:=by
 rw [List.all_eq_false];refine ⟨ns[k],List.getElem_mem hl,?_⟩;simp [List.getD,hl] at hk;simp [hk]
theorem index_any (g b : Nat) (ns : List Int) (w : World) (hl : ns.length = 7)
 (hp : ∀ k,k < 7 → w.cell? ⟨g,k,none⟩ = some (.pointer (some ⟨b,k,none⟩))) (hn : ∀ k,k < 7 → w.cell? ⟨b,k,none⟩ = some (.int .i64 (ns.getD k 0))) :
 Calls Tryz.prog 120 #[.slice (some ⟨g,0,none⟩) 7 7,.func (.func 88) #[] #[]] w fun e w' => ∃ r : Int,e = .returned (.int .i64 r) ∧ (decide (0 ≤ r) = !(ns.all okN)) ∧ w = w':=by
 have HL:=Hd hl
 clear hl
 go_enter Tryz.func120,Tryz.ntmps120
 go_wp2
 go_loop [8,5] (fun i _ => ∃ k : Nat,k ≤ 7 ∧ i = .int .i64 k ∧ (ns.take k).all okN = true) (fun i _ => 7 - (intOf i).toNat)
 case atStart => exact ⟨0,by omega,rfl,rfl⟩
 case round =>
  obtain ⟨k,hk,rfl,hall⟩:=hrel;have HA:=Hd hall;clear hall;by_cases hlt : k < 7
  ·have c1:=hp k hlt;have c2:=hn k hlt;have HN:=Hd hn;have HP:=Hd hp;clear hn hp;cases hok : okN (ns.getD k 0)
   ·have HK:=Hd hok;clear hok;(go_wp2_with (go_at_call 88;refine (fn_ok _ _ _ c2).mono ?_;rintro e w' ⟨rfl,rfl⟩;rw [HK.out]));go_ret;refine ⟨_,rfl,?_,rfl⟩;rw [all_no ns k HK.out (by rw [HL.out];exact hlt)];simp
   ·have HK:=Hd hok
    clear hok
    go_wp2_with (go_at_call 88;refine (fn_ok _ _ _ c2).mono ?_;rintro e w' ⟨rfl,rfl⟩;rw [HK.out])
    go_round
    (case rel => exact ⟨k + 1,by omega,by go_num,all_take_succ ns k HA.out HK.out (by rw [HL.out];exact hlt)⟩);case measure => simp [intOf];omega
  ·(obtain rfl : k = 7:=by omega);go_wp2;go_ret;refine ⟨_,rfl,?_,rfl⟩;have:=HA.out;rw [List.take_of_length_le (by rw [HL.out];exact Nat.le_refl _)] at this;rw [this];rfl
theorem contains_any (g b : Nat) (ns : List Int) (w : World) (hl : ns.length = 7)
 (hp : ∀ k,k < 7 → w.cell? ⟨g,k,none⟩ = some (.pointer (some ⟨b,k,none⟩))) (hn : ∀ k,k < 7 → w.cell? ⟨b,k,none⟩ = some (.int .i64 (ns.getD k 0))) :
 Calls Tryz.prog 87 #[.slice (some ⟨g,0,none⟩) 7 7,.func (.func 88) #[] #[]] w fun e w' => e = .returned (.bool (!(ns.all okN))) ∧ w = w':=by
 have C:=Hd (index_any g b ns w hl hp hn);clear hl hp hn;(go_enter Tryz.func87,Tryz.ntmps87);(go_wp2_with fail);refine C.out.mono ?_;rintro e w' ⟨r,rfl,hr,rfl⟩;have HR:=Hd hr;clear hr;(go_wp2_with fail);go_ret;exact ⟨by rw [← HR.out];rfl,rfl⟩
theorem ptrs_cell (g b k : Nat) (w : World) (h : Has w g (.cells (ptrs b) 135)) (hk : k < 7) : w.cell? ⟨g,k,none⟩ = some (.pointer (some ⟨b,k,none⟩)):=by
 rw [h.cell]
 match k,hk with
 | 0,_ | 1,_ | 2,_ | 3,_ | 4,_ | 5,_ | 6,_ => rfl
theorem msg_cell {w : World} {b : Nat} {a1 a2 a3 a4 a5 a6 a7 : Int} {l : Bool} {s : ByteArray} (h : Has w b (.cells (msgCells a1 a2 a3 a4 a5 a6 a7 l s) 93)) (k : Nat) (hk : k < 7) :
 w.cell? ⟨b,k,none⟩ = some (.int .i64 ([a1,a2,a3,a4,a5,a6,a7].getD k 0)):=by
 rw [h.cell]
 match k,hk with
 | 0,_ | 1,_ | 2,_ | 3,_ | 4,_ | 5,_ | 6,_ => rfl
def Msg.val (m : Msg) : Value:=.agg (msgCells m.kind m.client m.number m.epoch m.session m.object m.version m.lease ⟨m.data.toArray⟩)
theorem right_any (m : Msg) (w : World) (hs : m.data.length ≤ 9223372036854775807) :
 Calls Tryz.prog 68 #[m.val] w fun e w' => e = .returned (.bool m.right) ∧ Below w.heap.size w w':=by
 obtain ⟨a1,a2,a3,a4,a5,a6,a7,l,s⟩:=m;simp only at hs;have hsz : (ByteArray.mk s.toArray).size = s.length:=rfl;by_cases c1 : 1 ≤ a1
 ·by_cases c2 : a1 ≤ 9
  ·by_cases c3 : s.length ≤ 20
   ·have e : Msg.right { kind:=a1,client:=a2,number:=a3,epoch:=a4,session:=a5,object:=a6,version:=a7,lease:=l,data:=s } = [a1,a2,a3,a4,a5,a6,a7].all okN:=by
     simp [Msg.right,c1,c2,c3,Msg.nums]
    rw [e];clear e;have H1:=(((Has.new w (.cells (msgCells a1 a2 a3 a4 a5 a6 a7 l ⟨s.toArray⟩) 93)).alloc (.cells (ptrs w.heap.size) 135))).drew;have H2:=(Has.new (w.alloc (.cells (msgCells a1 a2 a3 a4 a5 a6 a7 l ⟨s.toArray⟩) 93)) (.cells (ptrs w.heap.size) 135)).drew;rw [World.size_alloc] at H2;have C:=Hd (contains_any (w.heap.size + 1) w.heap.size [a1,a2,a3,a4,a5,a6,a7] _ rfl (fun k hk => ptrs_cell _ _ k _ H2 hk) (fun k hk => msg_cell H1 k hk));clear H1 H2;unfold Msg.val;(go_enter Tryz.func68,Tryz.ntmps68);(go_wp2_with fail);refine (numbers_any _ _).mono ?_;rintro e w' ⟨rfl,rfl⟩;(go_wp2_with fail);refine C.out.mono ?_;rintro e w' ⟨rfl,rfl⟩;(go_wp2_with fail);go_ret;exact ⟨by simp,(((Below.refl _ _).alloc (Nat.le_refl _) _).alloc (by simp) _).drew⟩
   ·have e : Msg.right { kind:=a1,client:=a2,number:=a3,epoch:=a4,session:=a5,object:=a6,version:=a7,lease:=l,data:=s } = false:=by
     simp [Msg.right,c3]
    rw [e];clear e;(have c4 : (20 : Int) < s.length:=by omega);unfold Msg.val;(go_enter Tryz.func68,Tryz.ntmps68);(go_wp2_with fail);go_ret;exact ⟨rfl,(Below.refl _ _).alloc (Nat.le_refl _) _⟩
  ·have e : Msg.right { kind:=a1,client:=a2,number:=a3,epoch:=a4,session:=a5,object:=a6,version:=a7,lease:=l,data:=s } = false:=by
    simp [Msg.right,c2]
   rw [e];clear e;(have c4 : 9 < a1:=by omega);unfold Msg.val;(go_enter Tryz.func68,Tryz.ntmps68);(go_wp2_with fail);go_ret;exact ⟨rfl,(Below.refl _ _).alloc (Nat.le_refl _) _⟩
 ·have e : Msg.right { kind:=a1,client:=a2,number:=a3,epoch:=a4,session:=a5,object:=a6,version:=a7,lease:=l,data:=s } = false:=by
   simp [Msg.right,c1]
  rw [e];clear e;(have c4 : a1 < 1:=by omega);unfold Msg.val;(go_enter Tryz.func68,Tryz.ntmps68);(go_wp2_with fail);go_ret;exact ⟨rfl,(Below.refl _ _).alloc (Nat.le_refl _) _⟩
def B (c : UInt8) : Value:=.int .u8 c.toNat
theorem info5 : (Tryz.prog.info? 5).map (fun i => (i.zero,i.size,i.bytes)) = some (some (.int .u8 0),1,1):=by kernel_rfl
theorem numsB_len (l : List Int) (h : ∀ y ∈ l,0 ≤ y ∧ y.toNat < 128 ^ 6) : (numsB l).length ≤ 6 * l.length:=by
 induction l with
 | nil => simp [numsB]
 | cons y l ih =>
  have e1:=numB_len y.toNat (h y (by simp)).2;have e2:=ih fun z hz => h z (by simp [hz]);(have e3 : numsB (y :: l) = numB y.toNat ++ numsB l:=by simp [numsB]);rw [e3,List.length_append,List.length_cons];omega
theorem numB_two (q : Nat) (h : 128 ≤ q) : 2 ≤ (numB q).length:=by
 have e : numB q = UInt8.ofNat (q % 128 + 128) :: numF 5 (q / 128):=by
  simp only [numB,numF];rw [if_neg (by omega)]
 rw [e];have:=numF_ne 5 (q / 128);cases h2 : numF 5 (q / 128)
 ·exact absurd h2 this
 ·simp
theorem or_all : ∀ n : Fin 256,bits BinOp.or IntKind.u8 (n.val : Int) 128 = ((n.val % 128 + 128 : Nat) : Int):=by decide +kernel
def hiB (q : Nat) : UInt8:=UInt8.ofNat (q % 128 + 128)
def loB (q : Nat) : UInt8:=UInt8.ofNat q
theorem or_byte (q : Nat) : bits BinOp.or IntKind.u8 ((q : Int) % 256) 128 = ((hiB q).toNat : Int):=by
 have h:=or_all ⟨q % 256,Nat.mod_lt _ (by omega)⟩;(have e : ((q : Int) % 256) = ((q % 256 : Nat) : Int):=by omega);rw [e,h];simp [hiB];omega
theorem lo_byte (q : Nat) (h : q < 128) : (q : Int) = ((loB q).toNat : Int):=by
 simp [loB];omega
theorem one_cell {w : World} {v : Value} {t : TypeId} {u : Value} (hv : v = u) : ∀ (j : Nat) (x : Value),[u][j]? = some x → (w.alloc (.cells #[v] t)).cell? ((⟨w.heap.size,0,none⟩ : Addr).add j) = some x:=by
 subst hv;intro j x hj
 match j,hj with
 | 0,hj => simp at hj;subst hj;simp [Addr.add]
theorem B_one (l : List UInt8) : ∀ u ∈ l.map B,u.oneCell' = true:=by
 intro u hu;obtain ⟨c,_,rfl⟩:=List.mem_map.1 hu;rfl
theorem two_cells {w : World} {v v' : Value} {t : TypeId} {u u' : Value} (hv : v = u) (hv' : v' = u') : ∀ (j : Nat) (x : Value),[u,u'][j]? = some x → (w.alloc (.cells #[v,v'] t)).cell? ((⟨w.heap.size,0,none⟩ : Addr).add j) = some x:=by
 subst hv;subst hv';intro j x hj
 match j,hj with
 | 0,hj => simp at hj;subst hj;simp [Addr.add]
 | 1,hj => simp at hj;subst hj;simp [Addr.add]
theorem own_block_ge {w : World} {base : Nat} {e : TypeId} {size n : Nat} {v : Value} {xs : List Value} (h : w.ownsRow base e size v n xs) : ∀ g,v.ownBlock = some g → base ≤ g:=by
 intro g hg;rcases h.2 with ⟨rfl,_⟩ | ⟨g',_,_,rfl,h,_⟩
 ·cases hg
 ·(have : g' = g:=by simpa [Value.ownBlock] using hg);omega
theorem own_base {w : World} {base base' : Nat} {e : TypeId} {size n : Nat} {v : Value} {xs : List Value} (h : w.ownsRow base e size v n xs) (hb : base' ≤ base) : w.ownsRow base' e size v n xs:=by
 refine ⟨h.1,?_⟩;rcases h.2 with h2 | ⟨g',cap,cur,h1,h2,h3⟩
 ·exact .inl h2
 ·exact .inr ⟨g',cap,cur,h1,by omega,h3⟩
theorem strCells_B (s : List UInt8) : Lib.strCells ⟨s.toArray⟩ = s.map B:=by simp [Lib.strCells,B]
set_option maxHeartbeats 1000000 in
set_option maxRecDepth 100000 in
theorem Encode_yes (m : Msg) (w : World) (hr : m.right = true) :
 Calls Tryz.prog 63 #[m.val] w fun e w' => ∃ v n,e = .returned (.tuple #[v,.nilIface]) ∧ w'.ownsRow w.heap.size 5 1 v n ((encB m).map B) ∧ Below w.heap.size w w':=by
 obtain ⟨i0,hi0,hz0,hz1,hz2⟩:=info_parts info5;have hdl:=right_data hr;have HR:=Hd hr;clear hr;have R:=Hd (right_any m);obtain ⟨a1,a2,a3,a4,a5,a6,a7,l,s⟩:=m;simp only [Msg.val] at R hdl;unfold Msg.val;(go_enter Tryz.func63,Tryz.ntmps63);(go_wp2_with fail);refine (R.out _ (by omega)).mono ?_;rintro e w1 ⟨rfl,hb1⟩;rw [HR.out];have h1:=(Has.new w (.cells (msgCells a1 a2 a3 a4 a5 a6 a7 l ⟨s.toArray⟩) 93)).below hb1 (by simp);have hs1:=hb1.size;rw [World.size_alloc] at hs1;(go_wp2_with fail);refine (numbers_any _ _).mono ?_;rintro e w' ⟨rfl,hw2⟩;have h2 : Has w' w.heap.size _:=hw2 ▸ (h1.alloc (.cells (ptrs w.heap.size) 135)).drew;have h3 : Has w' w1.heap.size (.cells (ptrs w.heap.size) 135):=hw2 ▸ (Has.new w1 (.cells (ptrs w.heap.size) 135)).drew;have hb2 : Below w.heap.size w w':=((Below.refl _ _).alloc (Nat.le_refl _) _).trans ((hb1.mono (by simp)).trans (hw2 ▸ ((Below.refl _ w1).alloc (by omega) _).drew));(have hs2 : w'.heap.size = w1.heap.size + 1:=by rw [hw2];simp);have HS2:=Hd hs2;clear hs2 hw2 hb1 h1;have H2:=Hd h2;have H3:=Hd h3;clear h2 h3;go_wp2_with fail
 have ok : ∀ k,k < 7 → 0 ≤ [a1,a2,a3,a4,a5,a6,a7].getD k 0 ∧ [a1,a2,a3,a4,a5,a6,a7].getD k 0 ≤ 1099511627776:=by
  intro k hk;apply right_nums HR.out;simp [List.getD,Msg.nums,hk]
 have OK:=Hd ok;clear ok;(go_loopw [4,6,7,15] (fun v _ _ i wr => ∃ k n : Nat,k ≤ 7 ∧ i = .int .i64 k ∧ n ≤ 6 * k ∧ wr.ownsRow (w1.heap.size + 1) 5 1 v n ((numsB ([a1,a2,a3,a4,a5,a6,a7].take k)).map B) ∧ Below (w1.heap.size + 1) w' wr) (fun _ _ _ i _ => 7 - (intOf i).toNat));case atStart => exact ⟨0,0,by omega,rfl,by omega,⟨rfl,.inl ⟨rfl,rfl⟩⟩,Below.refl _ _⟩
 case round =>
  obtain ⟨k,n,hk,rfl,hn,hown,hbel⟩:=hrel;by_cases hlt : k < 7
  ·have c1:=(hbel.cell (p:=⟨w1.heap.size,k,none⟩) (by simp)).trans (ptrs_cell _ _ _ _ H3.out hlt);have c2:=(hbel.cell (p:=⟨w.heap.size,k,none⟩) (by simp;omega)).trans (msg_cell H2.out k hlt);have hx:=OK.out k hlt;generalize hxe : [a1,a2,a3,a4,a5,a6,a7].getD k 0 = x at c2 hx;have HX:=Hd hxe;clear hxe;obtain ⟨x0,xM⟩:=hx;obtain ⟨x,rfl⟩:=Int.eq_ofNat_of_zero_le x0;have HO:=Hd hown;clear hown
   have hL : (numsB ([a1,a2,a3,a4,a5,a6,a7].take k)).length + (numB x).length ≤ 6 * k + 6:=by
    have h6 : (128 ^ 6 : Nat) = 4398046511104:=by decide
    have e1:=numsB_len ([a1,a2,a3,a4,a5,a6,a7].take k) (fun y hy => by
     have:=right_nums HR.out y (List.take_subset _ _ hy);refine ⟨this.1,?_⟩;rw [h6]
     omega)
    have e2:=numB_len x (by omega);have e3 : ([a1,a2,a3,a4,a5,a6,a7].take k).length ≤ k:=List.length_take_le _ _;omega
   have HL:=Hd hL;clear hL;(have hd : decide ((k : Int) < 7) = true:=by simp;omega);obtain ⟨wo,rfl⟩ : ∃ wo : World,wo = wr:=⟨_,rfl⟩;(go_wp2_with fail);(go_loopw [4,7] (fun v y wq => ∃ (q j : Nat) (pre : List UInt8),q + 1 ≤ 1099511627777 ∧ y = .int .i64 q ∧ j ≤ 6 * k + 6 ∧ pre ++ numB q = numsB ([a1,a2,a3,a4,a5,a6,a7].take k) ++ numB x ∧ wq.ownsRow (w1.heap.size + 1) 5 1 v j (pre.map B) ∧ Below (w1.heap.size + 1) w' wq) (fun _ y _ => (intOf y).toNat));case atStart => exact ⟨x,n,_,by omega,rfl,by omega,rfl,HO.out,hbel⟩
   case round =>
    obtain ⟨q,j,pre,hq,rfl,hj,hpre,hown,hbel2⟩:=hrel;have HPRE:=Hd hpre;have HOW:=Hd hown;clear hpre hown;by_cases hlt2 : 128 ≤ q
    ·(go_wp2_with (at_builtin;refine wpList_append_own _ rfl _ _ 56 rfl (w1.heap.size + 1) 5 i0 (.int .u8 0) 1 1 Tryz.underlying56 hi0 hz0 hz1 hz2 rfl (by decide) _ _ _ rfl (HOW.out.alloc _) ⟨wr.heap.size,0,none⟩ 1 1 [B (hiB q)] rfl rfl ?c1 ?c2 ?c3 ?c4 ?c5 ?_));(case c1 => exact one_cell (by rw [or_byte];rfl));(case c2 => exact B_one [_]);(case c3 => unfold maxLen;omega);(case c4 => omega);(case c5 => simp;have:=hbel2.size;have:=HS2.out;omega);intro v2 w2 hown2 hg2 _;have hown3 : w2.ownsRow (w1.heap.size + 1) 5 1 v2 (j + 1) ((pre ++ [hiB q]).map B):=by rw [List.map_append];exact hown2
     have hb3 : Below (w1.heap.size + 1) w' w2:=(hbel2.alloc (by have:=hbel2.size;have:=HS2.out;omega) _).grown hg2 (by simp;have:=hbel2.size;have:=HS2.out;omega) (fun g hg => by
      rcases HOW.out.2 with ⟨rfl,_⟩ | ⟨g',_,_,rfl,h,_⟩
      ·cases hg
      ·have : g' = g:=by simpa [Value.ownBlock] using hg
       omega)
     have HO3:=Hd hown3;clear hown2 hown3 hg2
     have hm : j + 1 ≤ 6 * k + 6:=by
      have e1:=congrArg List.length HPRE.out;have e2:=HOW.out.1;have e3:=HL.out;have e4 : 2 ≤ (numB q).length:=numB_two q hlt2;simp only [List.length_append,List.length_map] at e1 e2;omega
     have hpre3 : (pre ++ [hiB q]) ++ numB (q / 128) = numsB ([a1,a2,a3,a4,a5,a6,a7].take k) ++ numB x:=by
      rw [← HPRE.out,numB_step q hlt2 (by have : (128 ^ 6 : Nat) = 4398046511104:=(by decide);omega)];simp [hiB]
     have HP3:=Hd hpre3;clear hpre3;go_wp2;go_roundw;(case rel => exact ⟨q / 128,j + 1,pre ++ [hiB q],by omega,by go_num,hm,HP3.out,HO3.out,hb3⟩);case measure => simp [intOf];omega
    ·(go_wp2_with (at_builtin;refine wpList_append_own _ rfl _ _ 56 rfl (w1.heap.size + 1) 5 i0 (.int .u8 0) 1 1 Tryz.underlying56 hi0 hz0 hz1 hz2 rfl (by decide) _ _ _ rfl (HOW.out.alloc _) ⟨wr.heap.size,0,none⟩ 1 1 [B (loB q)] rfl rfl ?c1 ?c2 ?c3 ?c4 ?c5 ?_));(case c1 => exact one_cell (by rw [lo_byte q (by omega)];rfl));(case c2 => exact B_one [_]);(case c3 => unfold maxLen;omega);(case c4 => omega);(case c5 => simp;have:=hbel2.size;have:=HS2.out;omega);intro v2 w2 hown2 hg2 _;have hown3 : w2.ownsRow (w1.heap.size + 1) 5 1 v2 (j + 1) ((pre ++ [loB q]).map B):=by rw [List.map_append];exact hown2
     have hb3 : Below (w1.heap.size + 1) w' w2:=(hbel2.alloc (by have:=hbel2.size;have:=HS2.out;omega) _).grown hg2 (by simp;have:=hbel2.size;have:=HS2.out;omega) (fun g hg => by
      rcases HOW.out.2 with ⟨rfl,_⟩ | ⟨g',_,_,rfl,h,_⟩
      ·cases hg
      ·have : g' = g:=by simpa [Value.ownBlock] using hg
       omega)
     have HO3:=Hd hown3;clear hown2 hown3 hg2
     have hk3 : numsB ([a1,a2,a3,a4,a5,a6,a7].take (k + 1)) = pre ++ [loB q]:=by
      have e0 : [a1,a2,a3,a4,a5,a6,a7].take (k + 1) = [a1,a2,a3,a4,a5,a6,a7].take k ++ [(x : Int)]:=by
       rw [List.take_succ_eq_append_getElem (by simpa using hlt),← HX.out];simp [List.getD,hlt]
      rw [e0];have e1:=HPRE.out;rw [numB_small q (by omega)] at e1;rw [show [loB q] = [UInt8.ofNat q] from rfl,e1];simp [numsB]
     have hm : j + 1 ≤ 6 * (k + 1):=by
      have e1:=congrArg List.length HPRE.out;have e2:=HOW.out.1;have e3:=HL.out;(have e4 : (numB q).length = 1:=by rw [numB_small q (by omega)];rfl);simp only [List.length_append,List.length_map] at e1 e2;omega
     have HK3:=Hd hk3;clear hk3;go_wp2;go_roundw;(case rel => exact ⟨k + 1,j + 1,by omega,by go_num,hm,by rw [HK3.out];exact HO3.out,hb3⟩);case measure => simp [intOf];omega
  ·(obtain rfl : k = 7:=by omega);have c7 : wr.cell? ⟨w.heap.size,7,none⟩ = some (.bool l):=(hbel.cell (p:=⟨w.heap.size,7,none⟩) (by simp;omega)).trans (H2.out.cell 7);have c8 : wr.cell? ⟨w.heap.size,8,none⟩ = some (.string ⟨s.toArray⟩):=(hbel.cell (p:=⟨w.heap.size,8,none⟩) (by simp;omega)).trans (H2.out.cell 8);have HO:=Hd hown;clear hown;have hsz : (ByteArray.mk s.toArray).size = s.length:=rfl;(have hbs : w1.heap.size + 1 ≤ wr.heap.size:=by have:=hbel.size;have:=HS2.out;omega);cases l
   ·(go_wp2_with (at_builtin;refine wpList_append_own _ rfl (.tmp 40) (.tmp 46) 56 rfl (w1.heap.size + 1) 5 i0 (.int .u8 0) 1 1 Tryz.underlying56 hi0 hz0 hz1 hz2 rfl (by decide) _ _ _ rfl (HO.out.alloc _) ⟨wr.heap.size,0,none⟩ 2 2 [B (leaseB false),B (loB s.length)] rfl rfl ?c1 ?c2 ?c3 ?c4 ?c5 ?_));(case c1 => exact two_cells rfl (by rw [lo_byte s.length (by omega)];rfl));(case c2 => exact B_one [_,_]);(case c3 => unfold maxLen;omega);(case c4 => omega);(case c5 => simp;omega);intro v2 w2 hown2 hg2 _;have hb3 : Below (w1.heap.size + 1) w' w2:=(hbel.alloc hbs _).grown hg2 (by simp;omega) (own_block_ge HO.out);(have hs3 : w1.heap.size + 1 ≤ w2.heap.size:=by have:=hb3.size;have:=HS2.out;omega);have d8 : w2.cell? ⟨w.heap.size,8,none⟩ = some (.string ⟨s.toArray⟩):=(hb3.cell (p:=⟨w.heap.size,8,none⟩) (by simp;omega)).trans (H2.out.cell 8);have HO2:=Hd hown2;clear hown2 c7 c8 hg2;(go_wp2_with (at_builtin;refine Lib.wpList_append_own_string _ rfl (.tmp 48) (.tmp 50) 56 9 rfl (w1.heap.size + 1) 5 i0 Tryz.underlying56 Tryz.underlying9 hi0 hz0 hz1 hz2 _ _ _ rfl HO2.out ⟨s.toArray⟩ rfl ?c6 ?c7 ?c8 ?_));(case c6 => unfold maxLen;omega);(case c7 => omega);(case c8 => exact hs3);intro v3 w3 hown3 hg3 _;have hb4:=hb3.grown hg3 hs3 (own_block_ge HO2.out)
    have hown4 : w3.ownsRow (w1.heap.size + 1) 5 1 v3 (n + 2 + s.length) ((encB { kind:=a1,client:=a2,number:=a3,epoch:=a4,session:=a5,object:=a6,version:=a7,lease:=false,data:=s }).map B):=by
     refine cast (congrArg (fun xs => w3.ownsRow (w1.heap.size + 1) 5 1 v3 (n + 2 + s.length) xs) ?_) hown3;simp [encB,strCells_B,Msg.nums,loB]
    have HO3:=Hd hown4;clear hown3 hown4;go_wp2;go_ret2;exact ⟨v3,_,rfl,own_base HO3.out (by omega),hb2.trans (hb4.mono (by omega))⟩
   ·(go_wp2_with (at_builtin;refine wpList_append_own _ rfl (.tmp 40) (.tmp 46) 56 rfl (w1.heap.size + 1) 5 i0 (.int .u8 0) 1 1 Tryz.underlying56 hi0 hz0 hz1 hz2 rfl (by decide) _ _ _ rfl (HO.out.alloc _) ⟨wr.heap.size,0,none⟩ 2 2 [B (leaseB true),B (loB s.length)] rfl rfl ?c1 ?c2 ?c3 ?c4 ?c5 ?_));(case c1 => exact two_cells rfl (by rw [lo_byte s.length (by omega)];rfl));(case c2 => exact B_one [_,_]);(case c3 => unfold maxLen;omega);(case c4 => omega);(case c5 => simp;omega);intro v2 w2 hown2 hg2 _;have hb3 : Below (w1.heap.size + 1) w' w2:=(hbel.alloc hbs _).grown hg2 (by simp;omega) (own_block_ge HO.out);(have hs3 : w1.heap.size + 1 ≤ w2.heap.size:=by have:=hb3.size;have:=HS2.out;omega);have d8 : w2.cell? ⟨w.heap.size,8,none⟩ = some (.string ⟨s.toArray⟩):=(hb3.cell (p:=⟨w.heap.size,8,none⟩) (by simp;omega)).trans (H2.out.cell 8);have HO2:=Hd hown2;clear hown2 c7 c8 hg2;(go_wp2_with (at_builtin;refine Lib.wpList_append_own_string _ rfl (.tmp 48) (.tmp 50) 56 9 rfl (w1.heap.size + 1) 5 i0 Tryz.underlying56 Tryz.underlying9 hi0 hz0 hz1 hz2 _ _ _ rfl HO2.out ⟨s.toArray⟩ rfl ?c6 ?c7 ?c8 ?_));(case c6 => unfold maxLen;omega);(case c7 => omega);(case c8 => exact hs3);intro v3 w3 hown3 hg3 _;have hb4:=hb3.grown hg3 hs3 (own_block_ge HO2.out)
    have hown4 : w3.ownsRow (w1.heap.size + 1) 5 1 v3 (n + 2 + s.length) ((encB { kind:=a1,client:=a2,number:=a3,epoch:=a4,session:=a5,object:=a6,version:=a7,lease:=true,data:=s }).map B):=by
     refine cast (congrArg (fun xs => w3.ownsRow (w1.heap.size + 1) 5 1 v3 (n + 2 + s.length) xs) ?_) hown3;simp [encB,strCells_B,Msg.nums,loB]
    have HO3:=Hd hown4;clear hown3 hown4;go_wp2;go_ret2;exact ⟨v3,_,rfl,own_base HO3.out (by omega),hb2.trans (hb4.mono (by omega))⟩
theorem Encode_no (m : Msg) (w : World) (hr : m.right = false) (hs : m.data.length ≤ 9223372036854775807) :
 Calls Tryz.prog 63 #[m.val] w fun e w' => e = .returned (.tuple #[.slice none 0 0,.iface 69 (.int .i64 1)]) ∧ Below w.heap.size w w':=by
 have HR:=Hd hr;clear hr;have R:=Hd (right_any m);obtain ⟨a1,a2,a3,a4,a5,a6,a7,l,s⟩:=m;simp only [Msg.val] at R hs;unfold Msg.val;(go_enter Tryz.func63,Tryz.ntmps63);(go_wp2_with fail);refine (R.out _ hs).mono ?_;rintro e w1 ⟨rfl,hb1⟩;rw [HR.out];(go_wp2_with fail);go_ret2;exact ⟨rfl,((Below.refl _ _).alloc (Nat.le_refl _) _).trans (hb1.mono (by simp))⟩
end wire
namespace keep
open Go.ChangeShapes Go.WideShapes Go.RowKit Go.Deep heap
def Step.cells (x : Step) : List Value:=[.int .i64 x.what,.int .i64 x.k,.int .i64 x.a,.int .i64 x.b]
def IsStep (cs : List Value) : Prop:=∃ x : Step,cs = x.cells
set_option maxRecDepth 100000 in
theorem open_step {H : Type} {enc : TypeId × Value → H} {w : World} {base : Nat} {spare : Nat → Bool} {held : Bool} {fuel : Nat} {cs : List Value} {x : DataW H × List MemPlace}
 (hl4 : cs.length = 4) (h : DataW.trod enc Tryz.prog w base spare held fuel 28 cs = some x) : IsStep cs:=by
 obtain ⟨xs,n,-,-,hl,hlen,hg⟩:=DataW.trod_struct Tryz.underlying28 h
 match cs,hl4 with
 | [c0,c1,c2,c3],_ =>
  have hx : xs.length = 4:=hlen
  match xs,hx with
  | [x0,x1,x2,x3],_ =>
   (have e1 : Tryz.prog.cellsOf 3 = 1:=by kernel_rfl);have g0 : DataW.trod enc Tryz.prog w base spare held n 3 (([c0,c1,c2,c3].drop 0).take (Tryz.prog.cellsOf 3)) = some x0:=hg 0 _ rfl;have g1 : DataW.trod enc Tryz.prog w base spare held n 3 (([c0,c1,c2,c3].drop 1).take (Tryz.prog.cellsOf 3)) = some x1:=hg 1 _ rfl;have g2 : DataW.trod enc Tryz.prog w base spare held n 3 (([c0,c1,c2,c3].drop 2).take (Tryz.prog.cellsOf 3)) = some x2:=hg 2 _ rfl;have g3 : DataW.trod enc Tryz.prog w base spare held n 3 (([c0,c1,c2,c3].drop 3).take (Tryz.prog.cellsOf 3)) = some x3:=hg 3 _ rfl;rw [e1] at g0 g1 g2 g3;obtain ⟨a0,f0,-,-⟩:=DataW.trod_int Tryz.underlying3 g0;obtain ⟨a1,f1,-,-⟩:=DataW.trod_int Tryz.underlying3 g1;obtain ⟨a2,f2,-,-⟩:=DataW.trod_int Tryz.underlying3 g2;obtain ⟨a3,f3,-,-⟩:=DataW.trod_int Tryz.underlying3 g3;simp only [List.drop_zero,List.drop_succ_cons,List.take_succ_cons,List.take_zero,List.cons.injEq,and_true] at f0 f1 f2 f3;subst f0 f1 f2 f3;exact ⟨⟨a0,a1,a2,a3⟩,rfl⟩
end keep
end Go.Proofs.YtefkmcjhgoagcaaGreatDoor
