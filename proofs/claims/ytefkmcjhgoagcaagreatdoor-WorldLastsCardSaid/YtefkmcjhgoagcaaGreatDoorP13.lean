/-
  A part of the proof of the law WorldLasts: CacheC, CacheD.
-/
import Derived.Deep.DeepCutAuto
import Derived.Deep.CutBlock
import Derived.Laws.ResultCell
import Derived.Test.YtefkmcjhgoagcaaGreatDoorHd
import Derived.Test.YtefkmcjhgoagcaaGreatDoorP06
import Derived.Test.YtefkmcjhgoagcaaGreatDoorP12
namespace Go.Proofs.YtefkmcjhgoagcaaGreatDoor
namespace cache
open Go.RowKit heap own
attribute [local go_sem ↓] Go.wp_at_zero Go.wp_at_succ
def putI (l : List It) (x : It) : List It:=(if (dropI l x.obj).length = 6 then List.drop 1 (dropI l x.obj) else dropI l x.obj) ++ [x]
theorem DelItem_first (own : Nat → Nat) (T : Nat) (v : Value) (n : Nat) (xs : List Value) (w : World) (h : Row own T w 152 4 v n xs) (hk : 0 < n) (hone : ∀ u ∈ xs,u.oneCell' = true) :
 Calls Tryz.prog 85 #[v,.int .i64 0,.int .i64 1] w fun e w' => ∃ v',e = .returned v' ∧ v'.ownBlock = v.ownBlock ∧ Row own T w' 152 4 v' (n - 1) (cut 4 0 xs) ∧ Turn (fun g => v.ownBlock = some g) w w':=by
 have:=DelItem_any own T v n 0 xs w h hk hone;rwa [show (((0 : Nat) : Int) + 1) = 1 from rfl,show ((0 : Nat) : Int) = 0 from rfl] at this
theorem cells4 {w : World} {a b c d : Value} {t : TypeId} : ∀ (j : Nat) (x : Value),[a,b,c,d][j]? = some x → (w.alloc (.cells #[a,b,c,d] t)).drew.cell? ((⟨w.heap.size,0,none⟩ : Addr).add j) = some x:=by
 intro j x hj;have h:=(Has.new w (.cells #[a,b,c,d] t)).cell j;(have e : (⟨w.heap.size,0,none⟩ : Addr).add j = ⟨w.heap.size,j,none⟩:=by by_cases h0 : j = 0 <;> simp [Addr.add,h0]);rw [e];refine h.trans ?_;rw [← hj];simp
theorem itc_one (x : It) : ∀ u ∈ itc x,u.oneCell' = true:=by
 intro u hu;simp only [itc,List.mem_cons,List.not_mem_nil,or_false] at hu;rcases hu with rfl | rfl | rfl | rfl <;> rfl
theorem infoItem' : (Tryz.prog.info? 152).map (fun i => (i.zero,i.size,i.bytes)) = some (some (.agg #[.int .i64 0,.string ByteArray.empty,.int .i64 0,.int .i64 0]),4,40):=infoItem
theorem append_done {own : Nat → Nat} {T b q g cap' : Nat} {cs : Array Value} {t : TypeId} {sl : Value} {l : List It} {x : It} {w w3 : World} {ob : Obj}
 (hb : own b ≠ T) (hI : Items own T w sl l) (hlt : b < w.heap.size) (hB : Has w b (.cells cs t)) (ho3 : w3.ownsRow 0 152 4 (.slice (some ⟨g,0,none⟩) (l.length + 1) cap') (l.length + 1) (icells l ++ itc x))
 (hg3 : (w.alloc ob).drew.grownBy w3 sl.ownBlock) (hg : sl.ownBlock = some g ∨ g = w.heap.size + 1) :
 CachePost own T b q cs t (l ++ [x]) w (w3.setCell ⟨b,q,none⟩ (.slice (some ⟨g,0,none⟩) (l.length + 1) cap')):=by
 have hrb : ∀ k,sl.ownBlock = some k → k < w.heap.size ∧ own k = T:=fun k hk => ⟨hI.lt k hk,hI.2 k hk⟩;have hgl : own g = T ∧ g < w.heap.size ∨ g = w.heap.size + 1:=hg.imp (fun h => ⟨(hrb g h).2,(hrb g h).1⟩) (fun h => h)
 have hgb : g ≠ b:=by
  rintro rfl;rcases hgl with h | h
  ·exact hb h.1
  ·omega
 refine ⟨newOwn own w T,.slice (some ⟨g,0,none⟩) (l.length + 1) cap',Ext.new _ _ _,?_,?_,?_⟩
 ·exact (((Turn.refl _ w).alloc ob).drew.grown hg3 (fun k hk => .inr (.inr (hrb k hk).2))).setCell (p:=⟨b,q,none⟩) (.inr (.inl rfl)) _
 ·have h1 : Has w3 b (.cells cs t):=by
   refine (hg3.block b (by show b < (w.alloc ob).heap.size;simp;omega) (fun e => hb (hrb b e.symm).2)).trans ?_;exact (hB.alloc ob).drew
  exact h1.set_ q _
 ·unfold Items;rw [List.length_append,List.length_singleton];(have e : icells (l ++ [x]) = icells l ++ itc x:=by simp [icells]);rw [e]
  refine ⟨row_kept ho3 fun k hk => Below.heap_setCell _ _ _ _ (by
   (have : g = k:=by simpa [Value.ownBlock] using hk);show k ≠ b
   omega),fun k hk => ?_⟩
  (obtain rfl : g = k:=by simpa [Value.ownBlock] using hk);rcases hgl with h | h
  ·rw [new_old h.2];exact h.1
  ·exact new_new (by omega)
theorem alloc_cell {w : World} {p : Addr} {v : Value} (h : w.cell? p = some v) : ∀ ob,(w.alloc ob).cell? p = some v:=fun ob => (World.cell?_alloc_lt w ob p (by
 rcases Nat.lt_or_ge p.block w.heap.size with h' | h'
 ·exact h'
 ·simp [World.cell?,Array.getElem?_eq_none h'] at h)).trans h
theorem grown_keep {w w' : World} {ob : Obj} {row : Option Nat} {p : Addr} {v : Value} (hg : (w.alloc ob).drew.grownBy w' row) (h : w.cell? p = some v) (hr : ∀ k,row = some k → k ≠ p.block) : w'.cell? p = some v:=by
 have hlt : p.block < w.heap.size:=by
  rcases Nat.lt_or_ge p.block w.heap.size with h' | h'
  ·exact h'
  ·simp [World.cell?,Array.getElem?_eq_none h'] at h
 exact (World.cell?_of_block (hg.block _ (by show p.block < (w.alloc ob).heap.size;rw [World.size_alloc];omega) (fun e => hr _ e.symm rfl))).trans (alloc_cell h ob)
theorem grown_frozen {w w' : World} {ob : Obj} {row : Option Nat} {b i : Nat} {cs : Array Value} {t : TypeId} (hg : (w.alloc ob).drew.grownBy w' row) (h : Has w b (.cells cs t)) (hr : ∀ k,row = some k → k ≠ b) : w'.frozen? ⟨b,i,none⟩ = false:=by
 have h1 : Has w' b (.cells cs t):=(hg.block b (by show b < (w.alloc ob).heap.size;rw [World.size_alloc];have:=h.lt;omega) (fun e => hr _ e.symm rfl)).trans (h.alloc ob).drew;exact h1.frozen i
theorem CachePost.comp {own own1 : Nat → Nat} {T b q : Nat} {cs : Array Value} {t : TypeId} {l2 : List It} {v1 : Value} {w w1 w2 : World} (e1 : Ext w own own1) (t1 : Turn (fun k => k = b ∨ own k = T) w w1)
 (h2 : CachePost own1 T b q (cs.setIfInBounds q v1) t l2 w1 w2) : CachePost own T b q cs t l2 w w2:=by
 obtain ⟨own2,v2,e2,t2,b2,i2⟩:=h2;refine ⟨own2,v2,e1.trans e2 t1.size,t1.trans t2 (fun k hk hS => ?_),?_,i2⟩
 ·rcases hS with hS | hS
  ·exact .inl hS
  ·exact .inr ((e1 k hk).symm.trans hS)
 ·have:=b2;rwa [Array.setIfInBounds_setIfInBounds] at this
theorem del_done {own : Nat → Nat} {T b q k : Nat} {cs : Array Value} {t : TypeId} {v v' : Value} {l : List It} {w w2 : World} (hb : own b ≠ T) (hB : Has w b (.cells cs t)) (h : Items own T w v l) (hk : k < l.length) (hv' : v'.ownBlock = v.ownBlock)
 (hrow : Row own T w2 152 4 v' (l.length - 1) (cut 4 k (icells l))) (ht : Turn (fun g => v.ownBlock = some g) w w2) : Turn (fun k => k = b ∨ own k = T) w (w2.setCell ⟨b,q,none⟩ v') ∧ Has (w2.setCell ⟨b,q,none⟩ v') b (.cells (cs.setIfInBounds q v') t) ∧ Items own T (w2.setCell ⟨b,q,none⟩ v') v' (l.eraseIdx k):=by
 have hnb : ¬ (v.ownBlock = some b):=fun e => hb (h.2 b e);refine ⟨(ht.mono (fun g _ e => .inr (h.2 g e))).setCell (p:=⟨b,q,none⟩) (.inr (.inl rfl)) _,(ht.has hB hnb).set_ q _,?_⟩;have e1 : (l.eraseIdx k).length = l.length - 1:=List.length_eraseIdx_of_lt hk;have e2 : cut 4 k (icells l) = icells (l.eraseIdx k):=cut_flat 4 k _ (fun _ => rfl) l;unfold Items;rw [e1,← e2];refine ⟨row_kept hrow.1 fun k' hk' => Below.heap_setCell _ _ _ _ ?_,hrow.2⟩;rw [hv'] at hk';rintro rfl;exact hnb hk'
theorem CachePost.ahead {own own0 : Nat → Nat} {T b q : Nat} {cs : Array Value} {t : TypeId} {l : List It} {w w0 w1 : World} (hb : Below w.heap.size w w0) (he : Ext w own own0) (h : CachePost own0 T b q cs t l w0 w1) : CachePost own T b q cs t l w w1:=by
 obtain ⟨own1,v1,e1,t1,b1,i1⟩:=h;refine ⟨own1,v1,fun k hk => (e1 k (Nat.lt_of_lt_of_le hk hb.size)).trans (he k hk),(Turn.of_below hb (Nat.le_refl _)).trans t1 (fun k hk hS => ?_),b1,i1⟩;rw [← he k hk];exact hS
set_option maxHeartbeats 2000000 in
set_option maxRecDepth 100000 in
theorem Put_any (own : Nat → Nat) (T b q : Nat) (cs : Array Value) (t : TypeId) (v : Value) (l : List It) (x : It) (w : World) (hB : Has w b (.cells cs t)) (c0 : cs[q]? = some v) (hb : own b ≠ T) (h : Items own T w v l) (hl : l.length ≤ 6) :
 Calls Tryz.prog 102 #[.pointer (some ⟨b,q,none⟩),.int .i64 x.obj,.agg #[.string ⟨x.data.toArray⟩,.int .i64 x.ver],.int .i64 x.till] w fun e w' => e = .returned (.tuple #[]) ∧ CachePost own T b q cs t (putI l x) w w':=by
 obtain ⟨i0,hi0,hz0,hz1,hz2⟩:=info_parts infoItem';have hlt:=hB.lt;have hbw0 : Below w.heap.size w (w.alloc (.cells #[.string ⟨x.data.toArray⟩,.int .i64 x.ver] 37)):=(Below.refl _ _).alloc (Nat.le_refl _) _;have hE0 : Ext w own (newOwn own w (T + 1)):=Ext.new _ _ _;(have hb0 : newOwn own w (T + 1) b ≠ T:=by rw [new_old hlt];exact hb);have D:=Hd (Drop_any (newOwn own w (T + 1)) T b q cs t v l x.obj (w.alloc (.cells #[.string ⟨x.data.toArray⟩,.int .i64 x.ver] 37)) (hB.alloc _) c0 hb0 (Row.keep (S:=fun _ => False) h (Turn.of_below hbw0 (Nat.le_refl _)) hE0 (fun _ _ _ h => h)));have HX0 : Hid (newOwn own w (T + 1) w.heap.size = T + 1):=new_new (Nat.le_refl _);have hP:=Has.new w (.cells #[.string ⟨x.data.toArray⟩,.int .i64 x.ver] 37);have hdl : (dropI l x.obj).length ≤ 6:=Nat.le_trans (List.length_eraseP_le) hl;have HP:=Hd hP;have HBW0:=Hd hbw0;have HOB:=Hd hb;have HQ:=Hd (show q < cs.size from (Array.getElem?_eq_some_iff.1 c0).1);have HIL:=Hd (fun k (hk : v.ownBlock = some k) => h.lt k hk);clear hB c0 h hb hP hbw0;(go_enter Tryz.func102,Tryz.ntmps102);(go_wp2_with fail);refine D.out.mono ?_;rintro e w1 ⟨rfl,own1,v1,e1,t1,hB1,hI1⟩;have hs1 : w.heap.size + 1 ≤ w1.heap.size:=by have:=t1.size;simpa using this
 obtain ⟨A1,m1,cap1,rfl,hM1⟩ : ∃ a m c,v1 = .slice a m c ∧ m = (dropI l x.obj).length:=by
  rcases hI1.1.2 with ⟨rfl,e⟩ | ⟨g,cap,cur,rfl,_⟩
  ·exact ⟨_,_,_,rfl,e.symm⟩
  ·exact ⟨_,_,_,rfl,rfl⟩
 have HT1:=Hd t1;have HE1:=Hd e1;have ob1:=(e1 b (by show b < (w.alloc _).heap.size;rw [World.size_alloc];omega));have ow1:=(e1 w.heap.size (by rw [World.size_alloc];omega)).trans HX0.out;(have hob1 : own1 b ≠ T:=by rw [ob1];exact hb0);have hX1:=t1.has HP.out (fun h => by have:=HX0.out;rcases h with h | h <;> omega);have HDL:=Hd hdl;clear e1 t1 hdl hb0 ob1;by_cases h6 : (dropI l x.obj).length = 6
 ·(have k1 : w1.cell? ⟨b,q,none⟩ = some (.slice A1 m1 cap1):=by rw [hB1.cell,Array.getElem?_setIfInBounds_self];simp [HQ.out]);(obtain rfl : m1 = 6:=by rw [hM1];exact h6);have HB1:=Hd hB1;have HI1:=Hd hI1;have HX1:=Hd hX1;have HO1:=Hd hob1;(have HR1 : Hid (Row own1 T w1 152 4 (.slice A1 6 cap1) 6 (icells (dropI l x.obj))):=by have:=hI1;unfold Items at this;rwa [h6] at this);clear hB1 hI1 hX1 hM1 hob1;(go_wp2_with fail);refine (DelItem_first own1 T _ 6 (icells (dropI l x.obj)) w1 HR1.out (by omega) (icells_one _)).mono ?_;rintro e w2 ⟨v',rfl,hv',hrow2,ht2⟩
  obtain ⟨A,m,cap,rfl⟩ : ∃ a m c,v' = .slice a m c:=by
   rcases hrow2.1.2 with ⟨rfl,_⟩ | ⟨g,cap,cur,rfl,_⟩ <;> exact ⟨_,_,_,rfl⟩
  have hnb : ¬ ((Value.slice A1 6 cap1).ownBlock = some b):=fun e => HO1.out (HR1.out.2 b e)
  have hB2:=ht2.has HB1.out hnb
  have k2 : w2.cell? ⟨b,q,none⟩ = some (.slice A1 6 cap1):=by rw [hB2.cell,Array.getElem?_setIfInBounds_self];simp [HQ.out]
  have f2 : w2.frozen? ⟨b,q,none⟩ = false:=hB2.frozen q
  have hX2:=ht2.has HX1.out (fun e => by have:=HR1.out.2 _ e;omega)
  have hne : b ≠ w.heap.size:=by omega
  obtain ⟨LL,hLL⟩ : ∃ LL,LL = (dropI l x.obj).eraseIdx 0:=⟨_,rfl⟩
  have hll : LL.length ≤ 6:=by rw [hLL,List.length_eraseIdx_of_lt (by omega)];omega
  have CP:=del_done (q:=q) HO1.out HB1.out HI1.out (k:=0) (by omega) hv' (by rw [h6];exact hrow2) ht2
  rw [← hLL] at CP
  have HLL:=Hd hLL
  have HW2:=Hd hX2
  clear hLL hv' hrow2 ht2 hnb hB2 hX2
  go_upto_region 4 with fail
  obtain ⟨w3,hw3⟩ : ∃ w3,w3 = w2.setCell ⟨b,q,none⟩ (.slice A m cap):=⟨_,rfl⟩
  rw [← hw3] at CP ⊢
  have hX3:=HW2.out.far (p:=⟨b,q,none⟩) (Ne.symm hne) (.slice A m cap)
  rw [← hw3] at hX3
  obtain ⟨t3,hB3,hI3⟩:=CP
  have HT3:=Hd t3
  have hob3:=HO1.out
  have hno3 : own1 w.heap.size ≠ T:=by omega
  have k3 : w3.cell? ⟨b,q,none⟩ = some (.slice A m cap):=by rw [hB3.cell,Array.getElem?_setIfInBounds_self];simp [HQ.out]
  have k4 : w3.cell? ⟨w.heap.size,0,none⟩ = some (.string ⟨x.data.toArray⟩):=hX3.cell 0
  have k5 : w3.cell? ⟨w.heap.size,1,none⟩ = some (.int .i64 x.ver):=hX3.cell 1
  have HH6:=Hd h6
  clear t3 hX3 hw3 k1 k2 f2 h6
  have HB3:=Hd hB3
  have HI3:=Hd hI3
  have HOB3:=Hd hob3
  have HLT3:=Hd (show b < w3.heap.size from hB3.lt)
  have HR3 : Hid ((w3.alloc (.cells #[.int .i64 x.obj,.string ⟨x.data.toArray⟩,.int .i64 x.ver,.int .i64 x.till] 152)).drew.ownsRow 0 152 4 (.slice A m cap) LL.length (icells LL)):=hI3.1.alloc _
  have HS3 : Hid ((w3.alloc (.cells #[.int .i64 x.obj,.string ⟨x.data.toArray⟩,.int .i64 x.ver,.int .i64 x.till] 152)).drew.heap.size = w3.heap.size + 1):=World.size_alloc _ _
  have HNB : Hid (∀ k,(Value.slice A m cap).ownBlock = some k → k ≠ b):=fun k hk e => hob3 (by rw [← e];exact hI3.2 k hk)
  have HNW : Hid (∀ k,(Value.slice A m cap).ownBlock = some k → k ≠ w.heap.size):=fun k hk e => hno3 (by rw [← e];exact hI3.2 k hk)
  clear hB3 hI3 hob3 hno3
  refine last.wp_region_last (S:=fun W => W.cell? ⟨b,q,none⟩ = some (.slice A m cap) ∧ W.cell? ⟨w.heap.size,0,none⟩ = some (.string ⟨x.data.toArray⟩) ∧ W.cell? ⟨w.heap.size,1,none⟩ = some (.int .i64 x.ver)) (L:=13) (by kernel_rfl) ?_
  refine last.wpAnyL_take (i:=0) (v:=.pointer (some ⟨b,q,none⟩)) rfl (by kernel_rfl) (by kernel_rfl) (by kernel_rfl) (by kernel_rfl) (fun _ _ _ h => h) ⟨k3,k4,k5⟩ (by rfl) (fun W hW => by obtain ⟨hW1,hW2,hW3⟩:=hW;go_simp) ?_
  dsimp only [Act.put]
  refine last.wpAnyL_take (i:=1) (v:=.pointer (some ⟨b,q,none⟩)) rfl (by kernel_rfl) (by kernel_rfl) (by kernel_rfl) (by kernel_rfl) (fun _ _ _ h => h) ⟨k3,k4,k5⟩ (by rfl) (fun W hW => by obtain ⟨hW1,hW2,hW3⟩:=hW;go_simp) ?_
  dsimp only [Act.put]
  refine last.wpAnyL_take (i:=2) (v:=.pointer (some ⟨b,q,none⟩)) rfl (by kernel_rfl) (by kernel_rfl) (by kernel_rfl) (by kernel_rfl) (fun _ _ _ h => h) ⟨k3,k4,k5⟩ (by rfl) (fun W hW => by obtain ⟨hW1,hW2,hW3⟩:=hW;go_simp) ?_
  dsimp only [Act.put]
  refine last.wpAnyL_take (i:=3) (v:=.pointer (some ⟨b,q,none⟩)) rfl (by kernel_rfl) (by kernel_rfl) (by kernel_rfl) (by kernel_rfl) (fun _ _ _ h => h) ⟨k3,k4,k5⟩ (by rfl) (fun W hW => by obtain ⟨hW1,hW2,hW3⟩:=hW;go_simp) ?_
  dsimp only [Act.put]
  refine last.wpAnyL_take (i:=4) (v:=.slice A m cap) rfl (by kernel_rfl) (by kernel_rfl) (by kernel_rfl) (by kernel_rfl) (fun _ _ _ h => h) ⟨k3,k4,k5⟩ (by rfl) (fun W hW => by obtain ⟨hW1,hW2,hW3⟩:=hW;go_simp) ?_
  dsimp only [Act.put]
  refine last.wpAnyL_take (i:=5) (v:=.int .i64 x.obj) rfl (by kernel_rfl) (by kernel_rfl) (by kernel_rfl) (by kernel_rfl) (fun _ _ _ h => h) ⟨k3,k4,k5⟩ (by rfl) (fun W hW => by obtain ⟨hW1,hW2,hW3⟩:=hW;go_simp) ?_
  dsimp only [Act.put]
  refine last.wpAnyL_take (i:=6) (v:=.agg #[.string ⟨x.data.toArray⟩,.int .i64 x.ver]) rfl (by kernel_rfl) (by kernel_rfl) (by kernel_rfl) (by kernel_rfl) (fun _ _ _ h => h) ⟨k3,k4,k5⟩ (by rfl) (fun W hW => by obtain ⟨hW1,hW2,hW3⟩:=hW;go_simp) ?_
  dsimp only [Act.put]
  refine last.wpAnyL_take (i:=7) (v:=.int .i64 x.till) rfl (by kernel_rfl) (by kernel_rfl) (by kernel_rfl) (by kernel_rfl) (fun _ _ _ h => h) ⟨k3,k4,k5⟩ (by rfl) (fun W hW => by obtain ⟨hW1,hW2,hW3⟩:=hW;go_simp) ?_
  dsimp only [Act.put]
  refine last.wpAnyL_take (i:=8) (v:=.agg #[.int .i64 x.obj,.string ⟨x.data.toArray⟩,.int .i64 x.ver,.int .i64 x.till]) rfl (by kernel_rfl) (by kernel_rfl) (by kernel_rfl) (by kernel_rfl) (fun _ _ _ h => h) ⟨k3,k4,k5⟩ (by rfl) (fun W hW => by obtain ⟨hW1,hW2,hW3⟩:=hW;go_simp) ?_
  dsimp only [Act.put]
  refine last.wpAnyL_one (i:=9) (by kernel_rfl) rfl fun K hK => ?_
  go_simp
  refine hK.out _ _ (fun _ => ⟨alloc_cell k3 _,alloc_cell k4 _,alloc_cell k5 _⟩) ?_
  clear hK
  refine last.wpAnyL_one (i:=10) (by kernel_rfl) rfl fun K hK => ?_
  refine step_append_lies _ (by rfl) (.tmp 29) (.tmp 34) 117 (by rfl) 0 152 i0 _ 4 40 Tryz.underlying117 hi0 hz0 hz1 hz2 (by rfl) (by decide) (.slice A m cap) LL.length (icells LL) (by rfl) HR3.out ⟨w3.heap.size,0,none⟩ 1 1 (itc x) (by rfl) rfl cells4 (itc_one x) (by omega) (by unfold maxLen;omega) (by omega) (by simp) (w3.heap.size + 1) HS3.out ?_
  intro g cap' w4 hown4 hg4 hgl hgw
  refine hK.out _ _ (fun _ => ⟨grown_keep hg4 k3 HNB.out,grown_keep hg4 k4 HNW.out,grown_keep hg4 k5 HNW.out⟩) ?_
  have k6:=grown_keep hg4 k3 HNB.out
  have k7:=grown_keep hg4 k4 HNW.out
  have k8:=grown_keep hg4 k5 HNW.out
  have D4:=Hd (append_done (q:=q) HOB3.out HI3.out HLT3.out HB3.out hown4 hg4 hgl)
  have f6 : w4.frozen? ⟨b,q,none⟩ = false:=grown_frozen hg4 HB3.out HNB.out
  clear hK hown4 hg4 hgl hgw
  dsimp only [Act.put]
  refine last.wpAnyL_one (i:=11) (by kernel_rfl) rfl fun K hK => ?_
  go_simp
  refine hK.out _ _ (fun _ => ⟨k6,k7,k8⟩) ?_
  clear hK
  refine last.wpAnyL_one (i:=12) (by kernel_rfl) rfl fun K hK => ?_
  go_simp
  refine hK.out _ _ (fun _ => ⟨k6,k7,k8⟩) ?_
  clear hK
  refine last.wpAnyL_one (i:=13) (by kernel_rfl) rfl fun K hK => ?_
  go_simp
  refine hK.out _ _ (fun h => absurd rfl h) ?_
  clear hK
  refine last.done ?_
  go_wp2_with fail
  go_end0
  refine ⟨rfl,CachePost.ahead HBW0.out hE0 (CachePost.comp (v1:=.slice A1 6 cap1) HE1.out HT1.out (CachePost.comp (v1:=.slice A m cap) (Ext.refl _ _) HT3.out ?_))⟩;(have : putI l x = LL ++ [x]:=by unfold putI;rw [HLL.out,if_pos HH6.out,List.eraseIdx_zero,List.drop_one]);rw [this];exact D4.out
 ·obtain ⟨LL,hLL⟩ : ∃ LL,LL = dropI l x.obj:=⟨_,rfl⟩
  have HLL:=Hd hLL
  have hll : LL.length ≤ 6:=by rw [hLL];exact HDL.out
  have h6' : ((m1 : Int) == 6) = false:=by rw [hM1];exact beq_eq_false_iff_ne.2 (by omega)
  rw [← hLL] at hI1
  obtain ⟨w3,hw3⟩ : ∃ w3,w3 = w1:=⟨_,rfl⟩
  subst hw3
  obtain ⟨A,m,cap,e3⟩ : ∃ A m cap,Value.slice A1 m1 cap1 = .slice A m cap:=⟨_,_,_,rfl⟩
  obtain ⟨rfl,rfl,rfl⟩ : A1 = A ∧ m1 = m ∧ cap1 = cap:=by simpa using e3
  have hB3:=hB1
  have hI3:=hI1
  have hob3:=hob1
  have hno3 : own1 w.heap.size ≠ T:=by omega
  have k3 : w3.cell? ⟨b,q,none⟩ = some (.slice A1 m1 cap1):=by rw [hB1.cell,Array.getElem?_setIfInBounds_self];simp [HQ.out]
  have k4 : w3.cell? ⟨w.heap.size,0,none⟩ = some (.string ⟨x.data.toArray⟩):=hX1.cell 0
  have k5 : w3.cell? ⟨w.heap.size,1,none⟩ = some (.int .i64 x.ver):=hX1.cell 1
  have HH6:=Hd h6
  clear e3 hB1 hI1 hob1 hX1 h6 hLL hM1
  have HB3:=Hd hB3
  have HI3:=Hd hI3
  have HOB3:=Hd hob3
  have HLT3:=Hd (show b < w3.heap.size from hB3.lt)
  have HR3 : Hid ((w3.alloc (.cells #[.int .i64 x.obj,.string ⟨x.data.toArray⟩,.int .i64 x.ver,.int .i64 x.till] 152)).drew.ownsRow 0 152 4 (.slice A1 m1 cap1) LL.length (icells LL)):=hI3.1.alloc _
  have HS3 : Hid ((w3.alloc (.cells #[.int .i64 x.obj,.string ⟨x.data.toArray⟩,.int .i64 x.ver,.int .i64 x.till] 152)).drew.heap.size = w3.heap.size + 1):=World.size_alloc _ _
  have HNB : Hid (∀ k,(Value.slice A1 m1 cap1).ownBlock = some k → k ≠ b):=fun k hk e => hob3 (by rw [← e];exact hI3.2 k hk)
  have HNW : Hid (∀ k,(Value.slice A1 m1 cap1).ownBlock = some k → k ≠ w.heap.size):=fun k hk e => hno3 (by rw [← e];exact hI3.2 k hk)
  clear hB3 hI3 hob3 hno3
  go_upto_region 4 with fail
  refine last.wp_region_last (S:=fun W => W.cell? ⟨b,q,none⟩ = some (.slice A1 m1 cap1) ∧ W.cell? ⟨w.heap.size,0,none⟩ = some (.string ⟨x.data.toArray⟩) ∧ W.cell? ⟨w.heap.size,1,none⟩ = some (.int .i64 x.ver)) (L:=13) (by kernel_rfl) ?_
  refine last.wpAnyL_take (i:=0) (v:=.pointer (some ⟨b,q,none⟩)) rfl (by kernel_rfl) (by kernel_rfl) (by kernel_rfl) (by kernel_rfl) (fun _ _ _ h => h) ⟨k3,k4,k5⟩ (by rfl) (fun W hW => by obtain ⟨hW1,hW2,hW3⟩:=hW;go_simp) ?_
  dsimp only [Act.put]
  refine last.wpAnyL_take (i:=1) (v:=.pointer (some ⟨b,q,none⟩)) rfl (by kernel_rfl) (by kernel_rfl) (by kernel_rfl) (by kernel_rfl) (fun _ _ _ h => h) ⟨k3,k4,k5⟩ (by rfl) (fun W hW => by obtain ⟨hW1,hW2,hW3⟩:=hW;go_simp) ?_
  dsimp only [Act.put]
  refine last.wpAnyL_take (i:=2) (v:=.pointer (some ⟨b,q,none⟩)) rfl (by kernel_rfl) (by kernel_rfl) (by kernel_rfl) (by kernel_rfl) (fun _ _ _ h => h) ⟨k3,k4,k5⟩ (by rfl) (fun W hW => by obtain ⟨hW1,hW2,hW3⟩:=hW;go_simp) ?_
  dsimp only [Act.put]
  refine last.wpAnyL_take (i:=3) (v:=.pointer (some ⟨b,q,none⟩)) rfl (by kernel_rfl) (by kernel_rfl) (by kernel_rfl) (by kernel_rfl) (fun _ _ _ h => h) ⟨k3,k4,k5⟩ (by rfl) (fun W hW => by obtain ⟨hW1,hW2,hW3⟩:=hW;go_simp) ?_
  dsimp only [Act.put]
  refine last.wpAnyL_take (i:=4) (v:=.slice A1 m1 cap1) rfl (by kernel_rfl) (by kernel_rfl) (by kernel_rfl) (by kernel_rfl) (fun _ _ _ h => h) ⟨k3,k4,k5⟩ (by rfl) (fun W hW => by obtain ⟨hW1,hW2,hW3⟩:=hW;go_simp) ?_
  dsimp only [Act.put]
  refine last.wpAnyL_take (i:=5) (v:=.int .i64 x.obj) rfl (by kernel_rfl) (by kernel_rfl) (by kernel_rfl) (by kernel_rfl) (fun _ _ _ h => h) ⟨k3,k4,k5⟩ (by rfl) (fun W hW => by obtain ⟨hW1,hW2,hW3⟩:=hW;go_simp) ?_
  dsimp only [Act.put]
  refine last.wpAnyL_take (i:=6) (v:=.agg #[.string ⟨x.data.toArray⟩,.int .i64 x.ver]) rfl (by kernel_rfl) (by kernel_rfl) (by kernel_rfl) (by kernel_rfl) (fun _ _ _ h => h) ⟨k3,k4,k5⟩ (by rfl) (fun W hW => by obtain ⟨hW1,hW2,hW3⟩:=hW;go_simp) ?_
  dsimp only [Act.put]
  refine last.wpAnyL_take (i:=7) (v:=.int .i64 x.till) rfl (by kernel_rfl) (by kernel_rfl) (by kernel_rfl) (by kernel_rfl) (fun _ _ _ h => h) ⟨k3,k4,k5⟩ (by rfl) (fun W hW => by obtain ⟨hW1,hW2,hW3⟩:=hW;go_simp) ?_
  dsimp only [Act.put]
  refine last.wpAnyL_take (i:=8) (v:=.agg #[.int .i64 x.obj,.string ⟨x.data.toArray⟩,.int .i64 x.ver,.int .i64 x.till]) rfl (by kernel_rfl) (by kernel_rfl) (by kernel_rfl) (by kernel_rfl) (fun _ _ _ h => h) ⟨k3,k4,k5⟩ (by rfl) (fun W hW => by obtain ⟨hW1,hW2,hW3⟩:=hW;go_simp) ?_
  dsimp only [Act.put]
  refine last.wpAnyL_one (i:=9) (by kernel_rfl) rfl fun K hK => ?_
  go_simp
  refine hK.out _ _ (fun _ => ⟨alloc_cell k3 _,alloc_cell k4 _,alloc_cell k5 _⟩) ?_
  clear hK
  refine last.wpAnyL_one (i:=10) (by kernel_rfl) rfl fun K hK => ?_
  refine step_append_lies _ (by rfl) (.tmp 29) (.tmp 34) 117 (by rfl) 0 152 i0 _ 4 40 Tryz.underlying117 hi0 hz0 hz1 hz2 (by rfl) (by decide) (.slice A1 m1 cap1) LL.length (icells LL) (by rfl) HR3.out ⟨w3.heap.size,0,none⟩ 1 1 (itc x) (by rfl) rfl cells4 (itc_one x) (by omega) (by unfold maxLen;omega) (by omega) (by simp) (w3.heap.size + 1) HS3.out ?_
  intro g cap' w4 hown4 hg4 hgl hgw
  refine hK.out _ _ (fun _ => ⟨grown_keep hg4 k3 HNB.out,grown_keep hg4 k4 HNW.out,grown_keep hg4 k5 HNW.out⟩) ?_
  have k6:=grown_keep hg4 k3 HNB.out
  have k7:=grown_keep hg4 k4 HNW.out
  have k8:=grown_keep hg4 k5 HNW.out
  have D4:=Hd (append_done (q:=q) HOB3.out HI3.out HLT3.out HB3.out hown4 hg4 hgl)
  have f6 : w4.frozen? ⟨b,q,none⟩ = false:=grown_frozen hg4 HB3.out HNB.out
  clear hK hown4 hg4 hgl hgw
  dsimp only [Act.put]
  refine last.wpAnyL_one (i:=11) (by kernel_rfl) rfl fun K hK => ?_
  go_simp
  refine hK.out _ _ (fun _ => ⟨k6,k7,k8⟩) ?_
  clear hK
  refine last.wpAnyL_one (i:=12) (by kernel_rfl) rfl fun K hK => ?_
  go_simp
  refine hK.out _ _ (fun _ => ⟨k6,k7,k8⟩) ?_
  clear hK
  refine last.wpAnyL_one (i:=13) (by kernel_rfl) rfl fun K hK => ?_
  go_simp
  refine hK.out _ _ (fun h => absurd rfl h) ?_
  clear hK
  refine last.done ?_
  go_wp2_with fail
  go_end0
  refine ⟨rfl,CachePost.ahead HBW0.out hE0 (CachePost.comp (v1:=.slice A1 m1 cap1) HE1.out HT1.out ?_)⟩;(have : putI l x = LL ++ [x]:=by unfold putI;rw [HLL.out,if_neg HH6.out]);rw [this];exact D4.out
attribute [local go_sem ↓] Go.wp_at_zero Go.wp_at_succ
theorem results_cell_two {fn : Func} {p u v : Tmp} {ty : TypeId} (h : fn.results = #[.cell p ty,.tmp u,.tmp v]) (tmps : Array Value) (P : Program) (w : World) :
 (results fn tmps).run P w =
   ((asAddr (tmps.getD p undef)).run P w).andThen fun a w₁ => ((loadVar ty a).run P w₁).andThen fun x w₂ => .ok (.tuple #[x,tmps.getD u undef,tmps.getD v undef]) w₂:=by
 simp only [results,h];simp [Sem.run_bind,Result.andThen]
theorem get_results (tmps : Array Value) (W : World) (g : Nat) (x y till err : Value) (h2 : tmps.getD 4 undef = .pointer (some ⟨g,0,none⟩)) (h3 : tmps.getD 5 undef = till) (h4 : tmps.getD 6 undef = err)
 (hg : Has W g (.cells #[x,y] 37)) : (results Tryz.f61 tmps).run Tryz.prog W = .ok (.tuple #[.agg #[x,y],till,err]) W:=by
 rw [results_cell_two Tryz.results61,h2,h3,h4];(have hi : (Tryz.prog.info? 37).map (·.size) = some (#[x,y] : Array Value).size:=by kernel_rfl);have:=run_loadVar_row (P:=Tryz.prog) W g 37 37 _ (0,0) _ hg Tryz.underlying37 rfl hi;simp [asAddr,Result.andThen,this]
theorem Get_no (own : Nat → Nat) (T b q : Nat) (v : Value) (l : List It) (o : Int) (w : World) (k0 : w.cell? ⟨b,q,none⟩ = some v) (h : Items own T w v l) (hf : findAt l o = -1) :
 Calls Tryz.prog 61 #[.pointer (some ⟨b,q,none⟩),.int .i64 o] w fun e w' => e = .returned (.tuple #[.agg #[.string ByteArray.empty,.int .i64 0],.int .i64 0,.iface 69 (.int .i64 7)]) ∧ Below w.heap.size w w':=by
 have hb0 : Below w.heap.size w (w.alloc (.cells #[.string ByteArray.empty,.int .i64 0] 37)):=(Below.refl _ _).alloc (Nat.le_refl _) _;have F:=Hd (find_any own T b q v l o (w.alloc (.cells #[.string ByteArray.empty,.int .i64 0] 37)) (alloc_cell k0 _) (h.below hb0));rw [hf] at F;have HB0:=Hd hb0;clear h hb0;(go_enter Tryz.func61,Tryz.ntmps61);(go_wp2_with fail);refine F.out.mono ?_;rintro e w1 ⟨rfl,hb1⟩;have hX1 : Has w1 w.heap.size (.cells #[.string ByteArray.empty,.int .i64 0] 37):=(Has.new w _).below hb1 (by simp);have c0 : w1.cell? ⟨w.heap.size,0,none⟩ = some (.string ByteArray.empty):=hX1.cell 0;have c1 : w1.cell? ⟨w.heap.size,1,none⟩ = some (.int .i64 0):=hX1.cell 1;have f0 : w1.frozen? ⟨w.heap.size,0,none⟩ = false:=hX1.frozen 0;have f1 : w1.frozen? ⟨w.heap.size,1,none⟩ = false:=hX1.frozen 1;have HX1:=Hd hX1;have HB1:=Hd (HB0.out.trans (hb1.mono (by simp)));clear hb1 hX1;(go_wp2_with fail);have hW:=(HX1.out.set_ 0 (.string ByteArray.empty)).set_ 1 (.int .i64 0);refine bodyPost_ret (get_results _ _ w.heap.size (.string ByteArray.empty) (.int .i64 0) _ _ rfl rfl rfl hW) rfl ⟨rfl,?_⟩;exact (HB1.out.setCell (p:=⟨w.heap.size,0,none⟩) (Nat.le_refl _) _).setCell (p:=⟨w.heap.size,1,none⟩) (Nat.le_refl _) _
theorem append_any {own : Nat → Nat} {T b q g cap' : Nat} {cs : Array Value} {t : TypeId} {sl : Value} {l : List It} {x : It} {w wA w3 w5 : World} {r : Nat}
 (hb : own b ≠ T) (hT : Turn (fun k => k = b ∨ own k = T) w wA) (hI : Row own T wA 152 4 sl l.length (icells l)) (hsl : ∀ k,sl.ownBlock = some k → k < w.heap.size) (hlt : b < w.heap.size) (hB : Has wA b (.cells cs t))
 (ho3 : w3.ownsRow 0 152 4 (.slice (some ⟨g,0,none⟩) (l.length + 1) cap') (l.length + 1) (icells l ++ itc x))
 (hg3 : wA.grownBy w3 sl.ownBlock) (hg : sl.ownBlock = some g ∨ g = wA.heap.size)
 (hr1 : w.heap.size ≤ r) (hr2 : r < wA.heap.size) (h5 : Turn (fun k => k = r) (w3.setCell ⟨b,q,none⟩ (.slice (some ⟨g,0,none⟩) (l.length + 1) cap')) w5) : CachePost own T b q cs t (l ++ [x]) w w5:=by
 have hrb : ∀ k,sl.ownBlock = some k → k < w.heap.size ∧ own k = T:=fun k hk => ⟨hsl k hk,hI.2 k hk⟩;have hs:=hT.size;have hgl : own g = T ∧ g < w.heap.size ∨ g = wA.heap.size:=hg.imp (fun h => ⟨(hrb g h).2,(hrb g h).1⟩) (fun h => h)
 have hgb : g ≠ b:=by
  rintro rfl;rcases hgl with h | h
  ·exact hb h.1
  ·omega
 refine ⟨newOwn own w T,.slice (some ⟨g,0,none⟩) (l.length + 1) cap',Ext.new _ _ _,?_,?_,?_⟩
 ·exact ((hT.grown hg3 (fun k hk => .inr (.inr (hrb k hk).2))).setCell (p:=⟨b,q,none⟩) (.inr (.inl rfl)) _).trans h5 (fun k hk e => by omega)
 ·have h1 : Has w3 b (.cells cs t):=(hg3.block b (by omega) (fun e => hb (hrb b e.symm).2)).trans hB;exact h5.has (h1.set_ q _) (by omega)
 ·unfold Items;rw [List.length_append,List.length_singleton];(have e : icells (l ++ [x]) = icells l ++ itc x:=by simp [icells]);rw [e]
  have hg9 : g < w3.heap.size:=by
   rcases ho3.2 with ⟨h,-⟩ | ⟨g',c',cu',h,_,hh,_⟩
   ·cases h
   ·(have e1 : g = g':=by injection h with h1 _ _;injection h1 with h1;injection h1);subst e1;exact Has.lt (w:=w3) hh
  refine ⟨row_kept ho3 fun k hk => ?_,fun k hk => ?_⟩
  ·(have : g = k:=by simpa [Value.ownBlock] using hk);subst this;exact (h5.block g (by simpa [World.setCell] using hg9) (by omega)).trans (Below.heap_setCell _ _ _ _ hgb)
  (obtain rfl : g = k:=by simpa [Value.ownBlock] using hk);rcases hgl with h | h
  ·rw [new_old h.2];exact h.1
  ·exact new_new (by omega)
set_option maxHeartbeats 2000000 in
set_option maxRecDepth 100000 in
theorem Get_yes (own : Nat → Nat) (T b q : Nat) (cs : Array Value) (t : TypeId) (v : Value) (l : List It) (o : Int) (k : Nat) (x : It) (w : World) (hB : Has w b (.cells cs t)) (c0 : cs[q]? = some v) (hb : own b ≠ T) (h : Items own T w v l) (hl : l.length ≤ 6) (hk : l[k]? = some x) (hf : findAt l o = k) :
 Calls Tryz.prog 61 #[.pointer (some ⟨b,q,none⟩),.int .i64 o] w fun e w' => e = .returned (.tuple #[.agg #[.string ⟨x.data.toArray⟩,.int .i64 x.ver],.int .i64 x.till,.nilIface]) ∧ CachePost own T b q cs t (l.eraseIdx k ++ [x]) w w':=by
 obtain ⟨i0,hi0,hz0,hz1,hz2⟩:=info_parts infoItem';have hlt:=hB.lt;have hkl:=(List.getElem?_eq_some_iff.1 hk).1;have k0 : w.cell? ⟨b,q,none⟩ = some v:=(hB.cell q).trans c0;have hb0 : Below w.heap.size w (w.alloc (.cells #[.string ByteArray.empty,.int .i64 0] 37)):=(Below.refl _ _).alloc (Nat.le_refl _) _;have F:=Hd (find_any own T b q v l o (w.alloc (.cells #[.string ByteArray.empty,.int .i64 0] 37)) (alloc_cell k0 _) (h.below hb0));rw [hf] at F;obtain ⟨g,cap,cur,rfl,ho,hh,hnc,hcm,hcs,hcx⟩:=h.shape (by omega);(have hgb : g ≠ b:=by rintro rfl;exact hb ho);have hglt:=hh.lt;(have HC : Hid (∀ j,j < 4 → w.cell? ⟨g,k * 4 + j,none⟩ = (itc x)[j]?):=fun j hj => by rw [(row_cell hh hcx (k * 4 + j) (by omega)).1,icells_get l k x hk j hj]);have HB0:=Hd hb0;have HB:=Hd hB;have HC0:=Hd c0;have HI:=Hd h;have HK:=Hd hk;have HOB:=Hd hb;unfold maxLen at hcm;(have hk9 : ¬ ((k : Int) < 0):=by omega);(have hl9 : l.length ≤ 9223372036854775807:=by omega);(have hkl9 : (k : Int) < l.length:=by omega);clear hb0 hB c0 h hk hb ho hh hcs hcx k0 hf;(go_enter Tryz.func61,Tryz.ntmps61);(go_wp2_with fail);refine F.out.mono ?_;rintro e w1 ⟨rfl,hb1⟩;rw [World.size_alloc] at hb1;have hbw:=HB0.out.trans (hb1.mono (by omega));have hX1 : Has w1 w.heap.size (.cells #[.string ByteArray.empty,.int .i64 0] 37):=(Has.new w _).below hb1 (by omega);have k1 : w1.cell? ⟨b,q,none⟩ = some (.slice (some ⟨g,0,none⟩) l.length cap):=((HB.out.below hbw hlt).cell q).trans HC0.out;have hbc : ∀ j,w1.cell? ⟨g,k * 4 + j,none⟩ = w.cell? ⟨g,k * 4 + j,none⟩:=fun j => hbw.cell (p:=⟨g,k * 4 + j,none⟩) hglt;have g0 : w1.cell? ⟨g,k * 4,none⟩ = some (.int .i64 x.obj):=(hbc 0).trans (HC.out 0 (by omega));have g1 : w1.cell? ⟨g,k * 4 + 1,none⟩ = some (.string ⟨x.data.toArray⟩):=(hbc 1).trans (HC.out 1 (by omega));have g2 : w1.cell? ⟨g,k * 4 + 2,none⟩ = some (.int .i64 x.ver):=(hbc 2).trans (HC.out 2 (by omega));have g3 : w1.cell? ⟨g,k * 4 + 3,none⟩ = some (.int .i64 x.till):=(hbc 3).trans (HC.out 3 (by omega));have HX1:=Hd hX1;have HBW:=Hd hbw;clear hb1 hbw hX1 hbc;(go_upto_region 5 with fail);obtain ⟨V0,hV0⟩ : ∃ V0,V0 = w1.alloc (.cells #[.int .i64 x.obj,.string ⟨x.data.toArray⟩,.int .i64 x.ver,.int .i64 x.till] 152):=⟨_,rfl⟩;rw [← hV0];have hs1:=HX1.out.lt;(have hVs : V0.heap.size = w1.heap.size + 1:=by rw [hV0,World.size_alloc]);(have HVB : Hid (Below w1.heap.size w1 V0):=by rw [hV0];exact (Below.refl _ _).alloc (Nat.le_refl _) _);have HVW:=Hd (HBW.out.trans (HVB.out.mono HBW.out.size));have HXV:=Hd (HX1.out.below HVB.out hs1);(have HXX : Hid (Has V0 w1.heap.size (.cells #[.int .i64 x.obj,.string ⟨x.data.toArray⟩,.int .i64 x.ver,.int .i64 x.till] 152)):=by rw [hV0];exact Has.new _ _);(have k3 : V0.cell? ⟨b,q,none⟩ = some (.slice (some ⟨g,0,none⟩) l.length cap):=by rw [hV0];exact alloc_cell k1 _);have y0 : V0.cell? ⟨w1.heap.size,0,none⟩ = some (.int .i64 x.obj):=HXX.out.cell 0;have y1 : V0.cell? ⟨w1.heap.size,1,none⟩ = some (.string ⟨x.data.toArray⟩):=HXX.out.cell 1;have y2 : V0.cell? ⟨w1.heap.size,2,none⟩ = some (.int .i64 x.ver):=HXX.out.cell 2;have y3 : V0.cell? ⟨w1.heap.size,3,none⟩ = some (.int .i64 x.till):=HXX.out.cell 3;have HBV:=Hd (HB.out.below HVW.out hlt);have HIV:=Hd (HI.out.below HVW.out);(have hwrap : IntKind.i64.wrap ((k : Int) + 1) = (k : Int) + 1:=by simp only [IntKind.wrap_i64];omega);have HVS:=Hd hVs;have hlen : (l.eraseIdx k).length = l.length - 1:=List.length_eraseIdx_of_lt hkl;have hcut : cut 4 k (icells l) = icells (l.eraseIdx k):=cut_flat 4 k _ (fun _ => rfl) l;have HLEN:=Hd hlen;have HCUT:=Hd hcut;have hw1 : w.heap.size < w1.heap.size:=hs1;clear hV0 hVs k1 g0 g1 g2 g3 hlen hcut;refine last.wp_region_last (S:=fun W => W.cell? ⟨b,q,none⟩ = some (.slice (some ⟨g,0,none⟩) l.length cap) ∧ W.cell? ⟨w1.heap.size,0,none⟩ = some (.int .i64 x.obj) ∧ W.cell? ⟨w1.heap.size,1,none⟩ = some (.string ⟨x.data.toArray⟩) ∧ W.cell? ⟨w1.heap.size,2,none⟩ = some (.int .i64 x.ver) ∧ W.cell? ⟨w1.heap.size,3,none⟩ = some (.int .i64 x.till)) (L:=14) (by kernel_rfl) ?_;refine last.wpAnyL_take (i:=0) (v:=.pointer (some ⟨b,q,none⟩)) rfl (by kernel_rfl) (by kernel_rfl) (by kernel_rfl) (by kernel_rfl) (fun _ _ _ h => h) ⟨k3,y0,y1,y2,y3⟩ (by rfl) (fun W hW => by obtain ⟨hW1,hW2,hW3,hW4,hW5⟩:=hW;go_simp) ?_;dsimp only [Act.put];refine last.wpAnyL_take (i:=1) (v:=.pointer (some ⟨b,q,none⟩)) rfl (by kernel_rfl) (by kernel_rfl) (by kernel_rfl) (by kernel_rfl) (fun _ _ _ h => h) ⟨k3,y0,y1,y2,y3⟩ (by rfl) (fun W hW => by obtain ⟨hW1,hW2,hW3,hW4,hW5⟩:=hW;go_simp) ?_;dsimp only [Act.put];refine last.wpAnyL_take (i:=2) (v:=.pointer (some ⟨b,q,none⟩)) rfl (by kernel_rfl) (by kernel_rfl) (by kernel_rfl) (by kernel_rfl) (fun _ _ _ h => h) ⟨k3,y0,y1,y2,y3⟩ (by rfl) (fun W hW => by obtain ⟨hW1,hW2,hW3,hW4,hW5⟩:=hW;go_simp) ?_;dsimp only [Act.put];refine last.wpAnyL_take (i:=3) (v:=.pointer (some ⟨b,q,none⟩)) rfl (by kernel_rfl) (by kernel_rfl) (by kernel_rfl) (by kernel_rfl) (fun _ _ _ h => h) ⟨k3,y0,y1,y2,y3⟩ (by rfl) (fun W hW => by obtain ⟨hW1,hW2,hW3,hW4,hW5⟩:=hW;go_simp) ?_;dsimp only [Act.put];refine last.wpAnyL_take (i:=4) (v:=.slice (some ⟨g,0,none⟩) l.length cap) rfl (by kernel_rfl) (by kernel_rfl) (by kernel_rfl) (by kernel_rfl) (fun _ _ _ h => h) ⟨k3,y0,y1,y2,y3⟩ (by rfl) (fun W hW => by obtain ⟨hW1,hW2,hW3,hW4,hW5⟩:=hW;go_simp) ?_;dsimp only [Act.put];refine last.wpAnyL_take (i:=5) (v:=.int .i64 k) rfl (by kernel_rfl) (by kernel_rfl) (by kernel_rfl) (by kernel_rfl) (fun _ _ _ h => h) ⟨k3,y0,y1,y2,y3⟩ (by rfl) (fun W hW => by obtain ⟨hW1,hW2,hW3,hW4,hW5⟩:=hW;go_simp) ?_;dsimp only [Act.put];refine last.wpAnyL_take (i:=6) (v:=.int .i64 k) rfl (by kernel_rfl) (by kernel_rfl) (by kernel_rfl) (by kernel_rfl) (fun _ _ _ h => h) ⟨k3,y0,y1,y2,y3⟩ (by rfl) (fun W hW => by obtain ⟨hW1,hW2,hW3,hW4,hW5⟩:=hW;go_simp) ?_;dsimp only [Act.put];refine last.wpAnyL_take (i:=7) (v:=.int .i64 ((k : Int) + 1)) rfl (by kernel_rfl) (by kernel_rfl) (by kernel_rfl) (by kernel_rfl) (fun _ _ _ h => h) ⟨k3,y0,y1,y2,y3⟩ (by rfl) (fun W hW => by obtain ⟨hW1,hW2,hW3,hW4,hW5⟩:=hW;go_simp) ?_;dsimp only [Act.put];refine last.wpAnyL_take (i:=9) (v:=.agg #[.int .i64 x.obj,.string ⟨x.data.toArray⟩,.int .i64 x.ver,.int .i64 x.till]) rfl (by kernel_rfl) (by kernel_rfl) (by kernel_rfl) (by kernel_rfl) (fun _ _ _ h => h) ⟨k3,y0,y1,y2,y3⟩ (by rfl) (fun W hW => by obtain ⟨hW1,hW2,hW3,hW4,hW5⟩:=hW;go_simp) ?_;dsimp only [Act.put];refine last.wpAnyL_two (i:=8) (j:=10) (by kernel_rfl) rfl rfl (fun K hK => ?_) (fun K hK => ?_)
 ·go_simp;obtain ⟨VV,hVV⟩ : ∃ VV,VV = V0.drew:=⟨_,rfl⟩;rw [← hVV];(have HIVV : Hid (Items own T VV (.slice (some ⟨g,0,none⟩) l.length cap) l):=by rw [hVV];exact HIV.out);(have HBVV : Hid (Has VV b (.cells cs t)):=by rw [hVV];exact HBV.out);(have HXVV : Hid (Has VV w1.heap.size (.cells #[.int .i64 x.obj,.string ⟨x.data.toArray⟩,.int .i64 x.ver,.int .i64 x.till] 152)):=by rw [hVV];exact HXX.out);(have HRVV : Hid (Has VV w.heap.size (.cells #[.string ByteArray.empty,.int .i64 0] 37)):=by rw [hVV];exact HXV.out);(have HBVW : Hid (Below w.heap.size w VV):=by rw [hVV];exact HVW.out.drew);clear hVV k3 y0 y1 y2 y3;refine (DelItem_any own T _ l.length k (icells l) VV HIVV.out hkl (icells_one l)).mono ?_;rintro e w2 ⟨v',rfl,hv',hrow2,ht2⟩
  obtain ⟨a2,n2,c2,rfl⟩ : ∃ a m c,v' = .slice a m c:=by
   rcases hrow2.1.2 with ⟨rfl,_⟩ | ⟨g,cap,cur,rfl,_⟩ <;> exact ⟨_,_,_,rfl⟩
  have hS : ∀ j,j ≠ g → ¬ ((Value.slice (some ⟨g,0,none⟩) l.length cap).ownBlock = some j):=fun j hj e => hj (by simpa [Value.ownBlock] using e.symm);have hB2:=ht2.has HBVV.out (hS _ (Ne.symm hgb));have hX2:=ht2.has HXVV.out (hS _ (by omega));have hR2:=ht2.has HRVV.out (hS _ (by omega));have m0 : w2.cell? ⟨b,q,none⟩ = some (.slice (some ⟨g,0,none⟩) l.length cap):=(hB2.cell q).trans HC0.out;have m1 : w2.cell? ⟨w1.heap.size,0,none⟩ = some (.int .i64 x.obj):=hX2.cell 0;have m2 : w2.cell? ⟨w1.heap.size,1,none⟩ = some (.string ⟨x.data.toArray⟩):=hX2.cell 1;have m3 : w2.cell? ⟨w1.heap.size,2,none⟩ = some (.int .i64 x.ver):=hX2.cell 2;have m4 : w2.cell? ⟨w1.heap.size,3,none⟩ = some (.int .i64 x.till):=hX2.cell 3;refine hK.out _ _ (fun _ => ⟨m0,m1,m2,m3,m4⟩) ?_;have HV2:=Hd hv';have HROW2:=Hd hrow2;have HT2:=Hd ht2;have HB2:=Hd hB2;have HX2:=Hd hX2;have HR2:=Hd hR2;have hs2:=ht2.size;clear hK hv' hrow2 ht2 hB2 hX2 hR2 hS;refine last.wpAnyL_one (i:=10) (by kernel_rfl) rfl fun K hK => ?_;go_simp;refine hK.out _ _ (fun _ => ⟨alloc_cell m0 _,alloc_cell m1 _,alloc_cell m2 _,alloc_cell m3 _,alloc_cell m4 _⟩) ?_;clear hK m0 m1 m2 m3 m4;obtain ⟨wA,hwA⟩ : ∃ wA,wA = w2.alloc (.cells #[.int .i64 x.obj,.string ⟨x.data.toArray⟩,.int .i64 x.ver,.int .i64 x.till] 152):=⟨_,rfl⟩;rw [← hwA];(have hsA : wA.heap.size = w2.heap.size + 1:=by rw [hwA,World.size_alloc]);(have HBA : Hid (Has wA b (.cells cs t)):=by rw [hwA];exact HB2.out.alloc _);(have HXA:=by have:=HX2.out.alloc (.cells #[.int .i64 x.obj,.string ⟨x.data.toArray⟩,.int .i64 x.ver,.int .i64 x.till] 152);rw [← hwA] at this;exact Hd this);(have HRA2:=by have:=HR2.out.alloc (.cells #[.int .i64 x.obj,.string ⟨x.data.toArray⟩,.int .i64 x.ver,.int .i64 x.till] 152);rw [← hwA] at this;exact Hd this);(have HRA : Hid (Row own T wA 152 4 (.slice a2 n2 c2) (l.eraseIdx k).length (icells (l.eraseIdx k))):=by rw [HLEN.out,← HCUT.out,hwA];exact HROW2.out.below ((Below.refl _ _).alloc (Nat.le_refl _) _));have HLIT : Hid (∀ (j : Nat) (u : Value),(itc x)[j]? = some u → wA.cell? ((⟨w2.heap.size,0,none⟩ : Addr).add j) = some u):=by rw [hwA];exact fun j u hj => cells4 j u hj
  have HTA : Hid (Turn (fun k => k = b ∨ own k = T) w wA):=by
   rw [hwA];refine (((Turn.refl _ w).then_below HBVW.out (Nat.le_refl _)).trans HT2.out (fun j _ e => .inr ?_)).alloc _;exact HI.out.2 j e
  clear hwA
  refine last.wpAnyL_one (i:=11) (by kernel_rfl) rfl fun K hK => ?_
  refine step_append_lies _ (by rfl) (.tmp 31) (.tmp 33) 117 (by rfl) 0 152 i0 _ 4 40 Tryz.underlying117 hi0 hz0 hz1 hz2 (by rfl) (by decide) (.slice a2 n2 c2) (l.eraseIdx k).length (icells (l.eraseIdx k)) (by rfl) HRA.out.1 ⟨w2.heap.size,0,none⟩ 1 1 (itc x) (by rfl) rfl HLIT.out (itc_one x) (by omega) (by rw [HLEN.out];unfold maxLen;omega) (by rw [HLEN.out];omega) (by omega) wA.heap.size rfl ?_
  intro g' cap' w4 hown4 hg4 hgl hgw
  have hnb : ∀ j,(Value.slice a2 n2 c2).ownBlock = some j → j = g:=fun j hj => by rw [HV2.out] at hj;simpa [Value.ownBlock] using hj.symm
  have hB4 : Has w4 b (.cells cs t):=(hg4.block b HBA.out.lt (fun e => hgb (hnb b e.symm).symm)).trans HBA.out
  have hX4:=(hg4.block w1.heap.size HXA.out.lt (fun e => by have:=hnb _ e.symm;omega)).trans HXA.out
  have hR4:=(hg4.block w.heap.size HRA2.out.lt (fun e => by have:=hnb _ e.symm;omega)).trans HRA2.out
  have m0 : w4.cell? ⟨b,q,none⟩ = some (.slice (some ⟨g,0,none⟩) l.length cap):=(hB4.cell q).trans HC0.out
  have mf : w4.frozen? ⟨b,q,none⟩ = false:=hB4.frozen q
  have hX4' : Has w4 w1.heap.size (.cells #[.int .i64 x.obj,.string ⟨x.data.toArray⟩,.int .i64 x.ver,.int .i64 x.till] 152):=hX4
  have hR4' : Has w4 w.heap.size (.cells #[.string ByteArray.empty,.int .i64 0] 37):=hR4
  have m1 : w4.cell? ⟨w1.heap.size,0,none⟩ = some (.int .i64 x.obj):=hX4'.cell 0
  have m2 : w4.cell? ⟨w1.heap.size,1,none⟩ = some (.string ⟨x.data.toArray⟩):=hX4'.cell 1
  have m3 : w4.cell? ⟨w1.heap.size,2,none⟩ = some (.int .i64 x.ver):=hX4'.cell 2
  have m4 : w4.cell? ⟨w1.heap.size,3,none⟩ = some (.int .i64 x.till):=hX4'.cell 3
  refine hK.out _ _ (fun _ => ⟨m0,m1,m2,m3,m4⟩) ?_
  have HOWN4:=Hd hown4
  have HG4:=Hd hg4
  have HGL:=Hd hgl
  have HX4:=Hd hX4'
  have HR4:=Hd hR4'
  have HNB:=Hd hnb
  clear hK hown4 hg4 hgl hgw hB4 hX4 hR4 hX4' hR4' hnb
  dsimp only [Act.put]
  refine last.wpAnyL_one (i:=12) (by kernel_rfl) rfl fun K hK => ?_
  go_simp
  refine hK.out _ _ (fun _ => ⟨m0,m1,m2,m3,m4⟩) ?_
  clear hK
  refine last.wpAnyL_one (i:=13) (by kernel_rfl) rfl fun K hK => ?_
  go_simp
  refine hK.out _ _ (fun _ => ⟨m0,m1,m2,m3,m4⟩) ?_
  clear hK
  refine last.wpAnyL_one (i:=14) (by kernel_rfl) rfl fun K hK => ?_
  go_simp
  refine hK.out _ _ (fun h => absurd rfl h) ?_
  clear hK
  refine last.done ?_
  obtain ⟨w5,hw5⟩ : ∃ w5,w5 = w4.setCell ⟨b,q,none⟩ (.slice (some ⟨g',0,none⟩) ((l.eraseIdx k).length + 1) cap'):=⟨_,rfl⟩
  rw [← hw5]
  have hX5 : Has w5 w1.heap.size (.cells #[.int .i64 x.obj,.string ⟨x.data.toArray⟩,.int .i64 x.ver,.int .i64 x.till] 152):=by rw [hw5];exact HX4.out.far (p:=⟨b,q,none⟩) (by show w1.heap.size ≠ b;omega) _
  have hR5 : Has w5 w.heap.size (.cells #[.string ByteArray.empty,.int .i64 0] 37):=by rw [hw5];exact HR4.out.far (p:=⟨b,q,none⟩) (by show w.heap.size ≠ b;omega) _
  have HW5:=Hd hw5
  have n1 : w5.cell? ⟨w1.heap.size,1,none⟩ = some (.string ⟨x.data.toArray⟩):=hX5.cell 1
  have n2' : w5.cell? ⟨w1.heap.size,2,none⟩ = some (.int .i64 x.ver):=hX5.cell 2
  have n3 : w5.cell? ⟨w1.heap.size,3,none⟩ = some (.int .i64 x.till):=hX5.cell 3
  have p0 : w5.cell? ⟨w.heap.size,0,none⟩ = some (.string ByteArray.empty):=hR5.cell 0
  have p1 : w5.cell? ⟨w.heap.size,1,none⟩ = some (.int .i64 0):=hR5.cell 1
  have q0 : w5.frozen? ⟨w.heap.size,0,none⟩ = false:=hR5.frozen 0
  have q1 : w5.frozen? ⟨w.heap.size,1,none⟩ = false:=hR5.frozen 1
  have hne1 : w1.heap.size ≠ w.heap.size:=by omega
  have HR5:=Hd hR5
  clear hw5 hX5 hR5 m0 mf m1 m2 m3 m4
  go_wp2_with fail
  go_region
  all_goals
   (go_wp2_with fail);have hW:=(HR5.out.set_ 0 (.string ⟨x.data.toArray⟩)).set_ 1 (.int .i64 x.ver);refine bodyPost_ret (get_results _ _ w.heap.size (.string ⟨x.data.toArray⟩) (.int .i64 x.ver) _ _ rfl rfl rfl hW) rfl ⟨rfl,?_⟩;refine append_any (q:=q) (r:=w.heap.size) HOB.out HTA.out HRA.out (fun j hj => by rw [HNB.out j hj];exact hglt) hlt HBA.out HOWN4.out HG4.out HGL.out (Nat.le_refl _) HRA2.out.lt ?_;rw [← HW5.out];exact ((Turn.refl (fun k => k = w.heap.size) w5).drew.setCell (p:=⟨w.heap.size,0,none⟩) (.inr rfl) _).setCell (p:=⟨w.heap.size,1,none⟩) (.inr rfl) _
 ·go_simp;refine hK.out _ _ (fun _ => ⟨alloc_cell k3 _,alloc_cell y0 _,alloc_cell y1 _,alloc_cell y2 _,alloc_cell y3 _⟩) ?_;clear hK;refine last.wpAnyL_one (i:=8) (by kernel_rfl) rfl fun K hK => ?_;go_simp;obtain ⟨VV,hVV⟩ : ∃ VV,VV = (V0.alloc (.cells #[.int .i64 x.obj,.string ⟨x.data.toArray⟩,.int .i64 x.ver,.int .i64 x.till] 152)).drew:=⟨_,rfl⟩;rw [← hVV];(have hBW : Below V0.heap.size V0 VV:=by rw [hVV];exact ((Below.refl _ _).alloc (Nat.le_refl _) _).drew);have HIVV : Hid (Items own T VV (.slice (some ⟨g,0,none⟩) l.length cap) l):=HIV.out.below hBW;have HBVV : Hid (Has VV b (.cells cs t)):=HBV.out.below hBW HBV.out.lt;have HXVV : Hid (Has VV w1.heap.size (.cells #[.int .i64 x.obj,.string ⟨x.data.toArray⟩,.int .i64 x.ver,.int .i64 x.till] 152)):=HXX.out.below hBW HXX.out.lt;have HRVV : Hid (Has VV w.heap.size (.cells #[.string ByteArray.empty,.int .i64 0] 37)):=HXV.out.below hBW HXV.out.lt;have HBVW : Hid (Below w.heap.size w VV):=HVW.out.trans (hBW.mono HVW.out.size);(have HLVV : Hid (Has VV V0.heap.size (.cells #[.int .i64 x.obj,.string ⟨x.data.toArray⟩,.int .i64 x.ver,.int .i64 x.till] 152)):=by rw [hVV];exact (Has.new V0 _).drew);have hgV : g < V0.heap.size:=Nat.lt_of_lt_of_le hglt HVW.out.size;(have hsVV : VV.heap.size = V0.heap.size + 1:=by rw [hVV];exact World.size_alloc _ _);clear hVV hBW k3 y0 y1 y2 y3;refine (DelItem_any own T _ l.length k (icells l) VV HIVV.out hkl (icells_one l)).mono ?_;rintro e w2 ⟨v',rfl,hv',hrow2,ht2⟩
  obtain ⟨a2,n2,c2,rfl⟩ : ∃ a m c,v' = .slice a m c:=by
   rcases hrow2.1.2 with ⟨rfl,_⟩ | ⟨g,cap,cur,rfl,_⟩ <;> exact ⟨_,_,_,rfl⟩
  have hS : ∀ j,j ≠ g → ¬ ((Value.slice (some ⟨g,0,none⟩) l.length cap).ownBlock = some j):=fun j hj e => hj (by simpa [Value.ownBlock] using e.symm);have hB2:=ht2.has HBVV.out (hS _ (Ne.symm hgb));have hX2:=ht2.has HXVV.out (hS _ (by omega));have hR2:=ht2.has HRVV.out (hS _ (by omega));have m0 : w2.cell? ⟨b,q,none⟩ = some (.slice (some ⟨g,0,none⟩) l.length cap):=(hB2.cell q).trans HC0.out;have m1 : w2.cell? ⟨w1.heap.size,0,none⟩ = some (.int .i64 x.obj):=hX2.cell 0;have m2 : w2.cell? ⟨w1.heap.size,1,none⟩ = some (.string ⟨x.data.toArray⟩):=hX2.cell 1;have m3 : w2.cell? ⟨w1.heap.size,2,none⟩ = some (.int .i64 x.ver):=hX2.cell 2;have m4 : w2.cell? ⟨w1.heap.size,3,none⟩ = some (.int .i64 x.till):=hX2.cell 3;refine hK.out _ _ (fun _ => ⟨m0,m1,m2,m3,m4⟩) ?_;have HV2:=Hd hv';have HROW2:=Hd hrow2;have HT2:=Hd ht2;have HB2:=Hd hB2;have HX2:=Hd hX2;have HR2:=Hd hR2;have hs2:=ht2.size;have hL2:=ht2.has HLVV.out (hS _ (by omega));clear hK hv' hrow2 ht2 hB2 hX2 hR2 hS m0 m1 m2 m3 m4;obtain ⟨wA,hwA⟩ : ∃ wA,wA = w2:=⟨_,rfl⟩;(have HBA : Hid (Has wA b (.cells cs t)):=by rw [hwA];exact HB2.out);(have HXA:=by have:=HX2.out;rw [← hwA] at this;exact Hd this);(have HRA2:=by have:=HR2.out;rw [← hwA] at this;exact Hd this);have HRA : Hid (Row own T wA 152 4 (.slice a2 n2 c2) (l.eraseIdx k).length (icells (l.eraseIdx k))):=by rw [HLEN.out,← HCUT.out,hwA];exact HROW2.out
  have HLIT : Hid (∀ (j : Nat) (u : Value),(itc x)[j]? = some u → wA.cell? ((⟨V0.heap.size,0,none⟩ : Addr).add j) = some u):=by
   rw [hwA];intro j u hj;rw [show (⟨V0.heap.size,0,none⟩ : Addr).add j = ⟨V0.heap.size,j,none⟩ from by by_cases h0 : j = 0 <;> simp [Addr.add,h0]];rw [hL2.cell,← hj];simp [itc]
  have HTA : Hid (Turn (fun k => k = b ∨ own k = T) w wA):=by
   rw [hwA];refine ((Turn.refl _ w).then_below HBVW.out (Nat.le_refl _)).trans HT2.out (fun j _ e => .inr ?_);exact HI.out.2 j e
  subst hwA
  clear hL2
  refine last.wpAnyL_one (i:=11) (by kernel_rfl) rfl fun K hK => ?_
  refine step_append_lies _ (by rfl) (.tmp 31) (.tmp 33) 117 (by rfl) 0 152 i0 _ 4 40 Tryz.underlying117 hi0 hz0 hz1 hz2 (by rfl) (by decide) (.slice a2 n2 c2) (l.eraseIdx k).length (icells (l.eraseIdx k)) (by rfl) HRA.out.1 ⟨V0.heap.size,0,none⟩ 1 1 (itc x) (by rfl) rfl HLIT.out (itc_one x) (by omega) (by rw [HLEN.out];unfold maxLen;omega) (by rw [HLEN.out];omega) (by omega) wA.heap.size rfl ?_
  intro g' cap' w4 hown4 hg4 hgl hgw
  have hnb : ∀ j,(Value.slice a2 n2 c2).ownBlock = some j → j = g:=fun j hj => by rw [HV2.out] at hj;simpa [Value.ownBlock] using hj.symm
  have hB4 : Has w4 b (.cells cs t):=(hg4.block b HBA.out.lt (fun e => hgb (hnb b e.symm).symm)).trans HBA.out
  have hX4:=(hg4.block w1.heap.size HXA.out.lt (fun e => by have:=hnb _ e.symm;omega)).trans HXA.out
  have hR4:=(hg4.block w.heap.size HRA2.out.lt (fun e => by have:=hnb _ e.symm;omega)).trans HRA2.out
  have m0 : w4.cell? ⟨b,q,none⟩ = some (.slice (some ⟨g,0,none⟩) l.length cap):=(hB4.cell q).trans HC0.out
  have mf : w4.frozen? ⟨b,q,none⟩ = false:=hB4.frozen q
  have hX4' : Has w4 w1.heap.size (.cells #[.int .i64 x.obj,.string ⟨x.data.toArray⟩,.int .i64 x.ver,.int .i64 x.till] 152):=hX4
  have hR4' : Has w4 w.heap.size (.cells #[.string ByteArray.empty,.int .i64 0] 37):=hR4
  have m1 : w4.cell? ⟨w1.heap.size,0,none⟩ = some (.int .i64 x.obj):=hX4'.cell 0
  have m2 : w4.cell? ⟨w1.heap.size,1,none⟩ = some (.string ⟨x.data.toArray⟩):=hX4'.cell 1
  have m3 : w4.cell? ⟨w1.heap.size,2,none⟩ = some (.int .i64 x.ver):=hX4'.cell 2
  have m4 : w4.cell? ⟨w1.heap.size,3,none⟩ = some (.int .i64 x.till):=hX4'.cell 3
  refine hK.out _ _ (fun _ => ⟨m0,m1,m2,m3,m4⟩) ?_
  have HOWN4:=Hd hown4
  have HG4:=Hd hg4
  have HGL:=Hd hgl
  have HX4:=Hd hX4'
  have HR4:=Hd hR4'
  have HNB:=Hd hnb
  clear hK hown4 hg4 hgl hgw hB4 hX4 hR4 hX4' hR4' hnb
  dsimp only [Act.put]
  refine last.wpAnyL_one (i:=12) (by kernel_rfl) rfl fun K hK => ?_
  go_simp
  refine hK.out _ _ (fun _ => ⟨m0,m1,m2,m3,m4⟩) ?_
  clear hK
  refine last.wpAnyL_one (i:=13) (by kernel_rfl) rfl fun K hK => ?_
  go_simp
  refine hK.out _ _ (fun _ => ⟨m0,m1,m2,m3,m4⟩) ?_
  clear hK
  refine last.wpAnyL_one (i:=14) (by kernel_rfl) rfl fun K hK => ?_
  go_simp
  refine hK.out _ _ (fun h => absurd rfl h) ?_
  clear hK
  refine last.done ?_
  obtain ⟨w5,hw5⟩ : ∃ w5,w5 = w4.setCell ⟨b,q,none⟩ (.slice (some ⟨g',0,none⟩) ((l.eraseIdx k).length + 1) cap'):=⟨_,rfl⟩
  rw [← hw5]
  have hX5 : Has w5 w1.heap.size (.cells #[.int .i64 x.obj,.string ⟨x.data.toArray⟩,.int .i64 x.ver,.int .i64 x.till] 152):=by rw [hw5];exact HX4.out.far (p:=⟨b,q,none⟩) (by show w1.heap.size ≠ b;omega) _
  have hR5 : Has w5 w.heap.size (.cells #[.string ByteArray.empty,.int .i64 0] 37):=by rw [hw5];exact HR4.out.far (p:=⟨b,q,none⟩) (by show w.heap.size ≠ b;omega) _
  have HW5:=Hd hw5
  have n1 : w5.cell? ⟨w1.heap.size,1,none⟩ = some (.string ⟨x.data.toArray⟩):=hX5.cell 1
  have n2' : w5.cell? ⟨w1.heap.size,2,none⟩ = some (.int .i64 x.ver):=hX5.cell 2
  have n3 : w5.cell? ⟨w1.heap.size,3,none⟩ = some (.int .i64 x.till):=hX5.cell 3
  have p0 : w5.cell? ⟨w.heap.size,0,none⟩ = some (.string ByteArray.empty):=hR5.cell 0
  have p1 : w5.cell? ⟨w.heap.size,1,none⟩ = some (.int .i64 0):=hR5.cell 1
  have q0 : w5.frozen? ⟨w.heap.size,0,none⟩ = false:=hR5.frozen 0
  have q1 : w5.frozen? ⟨w.heap.size,1,none⟩ = false:=hR5.frozen 1
  have hne1 : w1.heap.size ≠ w.heap.size:=by omega
  have HR5:=Hd hR5
  clear hw5 hX5 hR5 m0 mf m1 m2 m3 m4
  go_wp2_with fail
  go_region
  all_goals
   (go_wp2_with fail);have hW:=(HR5.out.set_ 0 (.string ⟨x.data.toArray⟩)).set_ 1 (.int .i64 x.ver);refine bodyPost_ret (get_results _ _ w.heap.size (.string ⟨x.data.toArray⟩) (.int .i64 x.ver) _ _ rfl rfl rfl hW) rfl ⟨rfl,?_⟩;refine append_any (q:=q) (r:=w.heap.size) HOB.out HTA.out HRA.out (fun j hj => by rw [HNB.out j hj];exact hglt) hlt HBA.out HOWN4.out HG4.out HGL.out (Nat.le_refl _) HRA2.out.lt ?_;rw [← HW5.out];exact ((Turn.refl (fun k => k = w.heap.size) w5).drew.setCell (p:=⟨w.heap.size,0,none⟩) (.inr rfl) _).setCell (p:=⟨w.heap.size,1,none⟩) (.inr rfl) _
end cache
end Go.Proofs.YtefkmcjhgoagcaaGreatDoor
