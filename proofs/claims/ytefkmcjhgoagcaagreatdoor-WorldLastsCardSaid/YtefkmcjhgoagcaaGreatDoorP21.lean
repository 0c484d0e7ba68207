/-
  A part of the proof of the law WorldLasts: WalE, WalF, WalG, WalH, WalI.
-/
import Derived.Laws.ResultCell
import Derived.Lib.AtoiErrMem
import Derived.Deep.AppendLies
import Derived.Laws.AppendOwnNone
import Derived.Deep.LoopGhost
import Derived.Test.YtefkmcjhgoagcaaGreatDoorHd
import Derived.Test.YtefkmcjhgoagcaaGreatDoorP06
import Derived.Test.YtefkmcjhgoagcaaGreatDoorP20
namespace Go.Proofs.YtefkmcjhgoagcaaGreatDoor
namespace wal
open Go.RowKit heap own recs
open model (Rec)
def zeroRec : Rec:=⟨0,0,0,0,[],0⟩
def zeroCells : Array Value:=recCells 0 0 0 0 ⟨#[]⟩ 0
def Parsed (T : Lib.PrintTabs) (k : Nat) (r : Rec) (s : ByteArray) (w : World) (e : Ending) (w' : World) : Prop:=
 ∃ (r' : Rec) (ok : Bool),e = .returned (.tuple #[recV r',.bool ok]) ∧ Below w.heap.size w w' ∧ ok = decide (s.data.toList = text T k r) ∧ (ok = true → r' = r)
theorem splitN_any (s : ByteArray) (hs : s.size < 4294967281) (w : World) (m : Int) (hm : w.cell? ⟨1,0,none⟩ = some (.int .i64 m)) :
 Calls Tryz.prog 104 #[.string s,.string ⟨#[32]⟩,.int .i64 7] w fun e w' =>
  e = .returned (.slice (some ⟨w.heap.size,0,none⟩) (pieces s).length (min 7 (s.size + 1) : Nat)) ∧ w' = w.alloc (.cells (Lib.cellsOf (pieces s) (min 7 (s.size + 1))) 9):=
 Tryz.strings_SplitN s ⟨#[32]⟩ 7 m w hs hm (by decide) (by decide) (by decide)
theorem lastIndex_any (s : ByteArray) (hs : s.size < 4611686018427387904) (w : World) :
 Calls Tryz.prog 106 #[.string s,.int .u8 32] w fun e w' => e = .returned (.int .i64 (Lib.lastIndexByte s 32)) ∧ w' = w:=Tryz.strings_LastIndexByte s 32 hs w
theorem atoi_any (x : Int) (h0 : -1 ≤ x) (h1 : x ≤ 1099511627776) (s : ByteArray) (hs : s.data.toList = Lib.itoa x) (w : World) :
 Calls Tryz.prog 105 #[.string s] w fun e w' => e = .returned (.tuple #[.int .i64 x,.nilIface]) ∧ Below w.heap.size w w':=
 (Tryz.strconv_Atoi s x (by show s.data.size ≤ 18;rw [← Array.length_toList,hs];have:=itoa_short x h0 (by omega);omega) (by rw [hs];exact atoi_itoa x) w).mono fun _ _ ⟨he,t,hw⟩ => ⟨he,by rw [hw];exact Lib.bytesWorld_below w _ t⟩
theorem parse_results (tmps : Array Value) (W : World) (g : Nat) (r : Rec) (ok : Bool) (h2 : tmps.getD 4 undef = .pointer (some ⟨g,0,none⟩)) (h3 : tmps.getD 5 undef = .bool ok)
 (hg : Has W g (.cells (recCells r.client r.number r.object r.version ⟨r.data.toArray⟩ r.epoch) 113)) : (results Tryz.f79 tmps).run Tryz.prog W = .ok (.tuple #[recV r,.bool ok]) W:=by
 rw [results_cell_tmp Tryz.results79,h2,h3]
 have hi : (Tryz.prog.info? 113).map (·.size) = some (recCells r.client r.number r.object r.version ⟨r.data.toArray⟩ r.epoch).size:=by
  show _ = some 6
  kernel_rfl
 have:=run_loadVar_row (P:=Tryz.prog) W g 113 113 _ (0,0) _ hg Tryz.underlying113 rfl hi;simp [asAddr,Result.andThen,this,recV]
theorem parse_ret {T : Lib.PrintTabs} {k : Nat} {r r' : Rec} {s : ByteArray} {w W : World} {a : Act} {g : Nat} {ok : Bool} (hd : a.defers = []) (h2 : a.tmps.getD 4 undef = .pointer (some ⟨g,0,none⟩)) (h3 : a.tmps.getD 5 undef = .bool ok)
 (hg : Has W g (.cells (recCells r'.client r'.number r'.object r'.version ⟨r'.data.toArray⟩ r'.epoch) 113)) (hb : Below w.heap.size w W) (hok : ok = decide (s.data.toList = text T k r)) (hr : ok = true → r' = r) :
 bodyPost Tryz.prog Tryz.f79 (Parsed T k r s w) Exit.ret a W:=
 bodyPost_ret (parse_results a.tmps W g r' ok h2 h3 hg) hd ⟨r',ok,rfl,hb,hok,hr⟩
set_option maxHeartbeats 4000000 in
set_option maxRecDepth 100000 in
theorem parse_few (T : Lib.PrintTabs) (k : Nat) (r : Rec) (s : ByteArray) (hs : s.size ≤ 1000) (hne : s.data.toList ≠ text T k r) (w : World) (hK : Kit T w) (h : (pieces s).length ≤ 6) :
 Calls Tryz.prog 79 #[.int .i64 k,.string s] w (Parsed T k r s w):=by
 obtain ⟨m,hm⟩:=hK.mx;have hl:=cell_lt hm;have SN:=splitN_any s (by omega) (w.alloc (.cells zeroCells 113)) m (by rw [World.cell?_alloc_old _ _ _ (Nat.ne_of_lt hl)];exact hm);obtain ⟨n,hn⟩ : ∃ n,n = (pieces s).length:=⟨_,rfl⟩;rw [← hn] at SN h;have b7 : ((n : Int) != 7) = true:=bne_iff_ne.mpr (by omega);have HNE:=Hd hne;clear hn hne hK;unfold zeroCells recCells at SN;(go_enter Tryz.func79,Tryz.ntmps79);(go_wp2_with (go_at_call 104;refine SN.mono ?_;rintro e w1 ⟨rfl,rfl⟩;clear SN));refine parse_ret (g:=w.heap.size) (r':=zeroRec) (ok:=false) rfl rfl rfl ((Has.new w _).alloc _) (((Below.refl _ _).alloc (Nat.le_refl _) _).alloc (by simp) _) ?_ (fun h => by cases h);exact (decide_eq_false HNE.out).symm
theorem six_eq (zc : Array Value) (h : zc.size = 6) (a b c d e f : Value) : (((((zc.setIfInBounds 0 a).setIfInBounds 1 b).setIfInBounds 2 c).setIfInBounds 3 d).setIfInBounds 4 e).setIfInBounds 5 f = #[a,b,c,d,e,f]:=by
 obtain ⟨l⟩:=zc
 match l,h with
 | [_,_,_,_,_,_],_ => rfl
theorem six_set {W : World} {g : Nat} {zc : Array Value} {t : TypeId} (h : Has W g (.cells zc t)) (hz : zc.size = 6) (a b c d e f : Value) :
 Has ((((((W.setCell ⟨g,0,none⟩ a).setCell ⟨g,1,none⟩ b).setCell ⟨g,2,none⟩ c).setCell ⟨g,3,none⟩ d).setCell ⟨g,4,none⟩ e).setCell ⟨g,5,none⟩ f) g (.cells #[a,b,c,d,e,f] t):=by
 have h6:=(((((h.set_ 0 a).set_ 1 b).set_ 2 c).set_ 3 d).set_ 4 e).set_ 5 f;rw [six_eq zc hz] at h6;exact h6
theorem six_below {w W : World} {B g : Nat} (h : Below B w W) (hg : B ≤ g) (a b c d e f : Value) :
 Below B w ((((((W.setCell ⟨g,0,none⟩ a).setCell ⟨g,1,none⟩ b).setCell ⟨g,2,none⟩ c).setCell ⟨g,3,none⟩ d).setCell ⟨g,4,none⟩ e).setCell ⟨g,5,none⟩ f):=by
 have st : ∀ {W' : World} (_ : Below B w W') (i : Nat) (v : Value),Below B w (W'.setCell ⟨g,i,none⟩ v):=fun h i v => h.setCell (p:=⟨g,i,none⟩) hg v;exact st (st (st (st (st (st h 0 a) 1 b) 2 c) 3 d) 4 e) 5 f
theorem has_drew {W : World} {g : Nat} {o : Obj} (h : Has W g o) : Has W.drew g o:=h
def PS (T : Lib.PrintTabs) (w : World) (D : Nat) (r : Rec) (W : World) : Prop:=
 Has W D (.cells #[.int .i64 r.client,.int .i64 r.number,.int .i64 r.object,.int .i64 r.version,.string ⟨r.data.toArray⟩,.int .i64 r.epoch] 113) ∧ Kit T W ∧ (∃ zc : Array Value,zc.size = 6 ∧ Has W w.heap.size (.cells zc 113)) ∧ Below w.heap.size w W
theorem PS.below {T : Lib.PrintTabs} {w : World} {D : Nat} {r : Rec} {W W' : World} (h : PS T w D r W) (hb : Below W.heap.size W W') : PS T w D r W':=by
 obtain ⟨h1,h2,⟨zc,h3,h4⟩,h5⟩:=h;exact ⟨h1.below hb h1.lt,h2.below hb,⟨zc,h3,h4.below hb h4.lt⟩,h5.trans (hb.mono h5.size)⟩
def numCells (ns : List Int) (j : Nat) : Array Value:=((ns.take j).map (Value.int .i64) ++ List.replicate (6 - j) (Value.int .i64 0)).toArray
theorem numCells_set {ns : List Int} {j : Nat} {x : Int} (hn : ns.length = 6) (hx : ns[j]? = some x) : (numCells ns j).setIfInBounds j (.int .i64 x) = numCells ns (j + 1):=by
 (have hj : j < 6:=by rcases Nat.lt_or_ge j 6 with h | h;exact h;rw [List.getElem?_eq_none (by omega)] at hx;cases hx);(have hl : ((ns.take j).map (Value.int .i64)).length = j:=by simp;omega);(have e : 6 - j = 6 - (j + 1) + 1:=by omega);unfold numCells;rw [List.setIfInBounds_toArray,List.set_append_right _ _ (by omega),hl,Nat.sub_self,e,List.replicate_succ,List.set_cons_zero,List.take_add_one,hx];simp
theorem numCells_get {ns : List Int} {j : Nat} (hn : ns.length = 6) (hj : j < 6) : (numCells ns j)[j]? = some (.int .i64 0):=by
 (have hl : ((ns.take j).map (Value.int .i64)).length = j:=by simp;omega);(have e : 6 - j = 6 - (j + 1) + 1:=by omega);unfold numCells;rw [List.getElem?_toArray,List.getElem?_append_right (by omega),hl,Nat.sub_self,e,List.replicate_succ];rfl
theorem numCells_full {ns : List Int} (hn : ns.length = 6) : numCells ns 6 = (ns.map (Value.int .i64)).toArray:=by
 unfold numCells;rw [List.take_of_length_le (by omega)];simp
set_option maxHeartbeats 4000000 in
set_option maxRecDepth 100000 in
theorem parse_seven (T : Lib.PrintTabs) (k : Nat) (r : Rec) (hr : r.right = true) (s : ByteArray) (hs : s.size ≤ 1000) (w : World) (hK : Kit T w) (hk : k < 1000) (rest : ByteArray)
 (hp : (pieces s).map (·.data.toList) = nums k r ++ [rest.data.toList]) (h7 : (pieces s).length = 7) (h7' : min 7 (s.size + 1) = 7) (hrs : rest.size ≤ 1000)
 (hC : (s.data.toList ≠ text T k r ∧ Lib.lastIndexByte rest 32 = -1) ∨
   (s.data.toList ≠ text T k r ∧ ∃ (q : Nat) (ts : List toks.Tok),Lib.lastIndexByte rest 32 = q ∧ q ≤ rest.size ∧ unq.InStr (rest.extract 0 q) ts []) ∨
   (∃ (q : Nat) (ts : List toks.Tok),Lib.lastIndexByte rest 32 = q ∧ q ≤ rest.size ∧ unq.InStr (rest.extract 0 q) ts [34] ∧ ts.flatMap toks.Tok.val = r.data)) :
 Calls Tryz.prog 79 #[.int .i64 k,.string s] w (Parsed T k r s w):=by
 obtain ⟨m,hm⟩:=hK.mx;have hl:=cell_lt hm;have SN:=splitN_any s (by omega) (w.alloc (.cells zeroCells 113)) m (by rw [World.cell?_alloc_old _ _ _ (Nat.ne_of_lt hl)];exact hm);obtain ⟨xs,hxs⟩ : ∃ xs,xs = pieces s:=⟨_,rfl⟩;rw [h7,h7',← hxs] at SN;rw [← hxs] at hp h7;(have hcs : Lib.cellsOf xs 7 = (xs.map Value.string).toArray:=by have:=Lib.cellsOf_full xs;rw [h7] at this;exact this);rw [hcs] at SN;obtain ⟨xc,hxc⟩ : ∃ xc,xc = (xs.map Value.string).toArray:=⟨_,rfl⟩;rw [← hxc] at SN;obtain ⟨ns,hns⟩ : ∃ ns : List Int,ns = [(k : Int),r.client,r.number,r.object,r.version,r.epoch]:=⟨_,rfl⟩;have hnl6 : ns.length = 6:=by rw [hns];rfl
 have hrange : ∀ x ∈ ns,-1 ≤ x ∧ x ≤ 1099511627776:=by
  have hr:=right_small hr;have:=hr.c0;have:=hr.c1;have:=hr.n0;have:=hr.n1;have:=hr.o0;have:=hr.o1;have:=hr.v0;have:=hr.v1;have:=hr.e0;have:=hr.e1;intro x hx;rw [hns] at hx;simp only [List.mem_cons,List.not_mem_nil,or_false] at hx;rcases hx with rfl | rfl | rfl | rfl | rfl | rfl <;> omega
 have hxj : ∀ (j : Nat) x,ns[j]? = some x → ∃ z : ByteArray,xc[j]? = some (.string z) ∧ z.data.toList = Lib.itoa x:=by
  intro j x hx;(have hj : j < 6:=by rcases Nat.lt_or_ge j 6 with h | h;exact h;rw [List.getElem?_eq_none (by omega)] at hx;cases hx);have e : nums k r = ns.map Lib.itoa:=by rw [hns];rfl
  have hq : (xs.map (·.data.toList))[j]? = some (Lib.itoa x):=by
   rw [hp,e,List.getElem?_append_left (by simp;omega),List.getElem?_map,hx];rfl
  rw [List.getElem?_map] at hq
  cases hz : xs[j]? with
  | none => rw [hz] at hq;cases hq
  | some z =>
   rw [hz] at hq;exact ⟨z,by rw [hxc];simp [hz],by simpa using hq⟩
 have hx6 : xc[6]? = some (.string rest):=by
  (have hq : (xs.map (·.data.toList))[6]? = some rest.data.toList:=by rw [hp];rfl);rw [List.getElem?_map] at hq
  cases hz : xs[6]? with
  | none => rw [hz] at hq;cases hq
  | some z =>
   rw [hz] at hq;have : z = rest:=bytes_ext (by simpa using hq);rw [hxc];simp [hz,this]
 have HR:=Hd hr;have HK:=Hd hK;have HNS:=Hd hns;have HRG:=Hd hrange;have HXJ:=Hd hxj;have HX6:=Hd hx6;have HC:=Hd hC;clear hr hK hns hrange hxj hx6 hC hp h7 h7' hxs hcs hxc;unfold zeroCells recCells at SN;(go_enter Tryz.func79,Tryz.ntmps79);(go_wp2_with (go_at_call 104;refine SN.mono ?_;rintro e w1 ⟨rfl,rfl⟩;clear SN));obtain ⟨zc,hzc⟩ : ∃ zc : Array Value,zc = #[.int .i64 0,.int .i64 0,.int .i64 0,.int .i64 0,.string ⟨#[]⟩,.int .i64 0]:=⟨_,rfl⟩;rw [← hzc];have HZC:=Hd hzc;clear hzc;go_loopw [19] (fun q19 wr => ∃ (j : Nat),j ≤ 6 ∧ q19 = .int .i64 j ∧ Has wr w.heap.size (.cells zc 113) ∧ Has wr (w.heap.size + 1) (.cells xc 9) ∧ Has wr (w.heap.size + 1 + 1) (.cells (numCells ns j) 172) ∧ Below w.heap.size w wr) (fun q19 _ => 6 - (intOf q19).toNat)
 case atStart =>
  have h1:=Has.new w (.cells zc 113);have h2:=Has.new (w.alloc (.cells zc 113)) (.cells xc 9);have h3:=Has.new ((w.alloc (.cells zc 113)).alloc (.cells xc 9)) (.cells #[.int .i64 0,.int .i64 0,.int .i64 0,.int .i64 0,.int .i64 0,.int .i64 0] 172);rw [World.size_alloc] at h2;rw [World.size_alloc,World.size_alloc] at h3;exact ⟨0,by omega,rfl,(h1.alloc _).alloc _,h2.alloc _,h3,(((Below.refl _ _).alloc (Nat.le_refl _) _).alloc (by simp) _).alloc (by simp;omega) _⟩
 case round =>
  obtain ⟨j,hj,rfl,hh1,hh2,hh3,hb⟩:=hrel;by_cases hlt : j < 6
  ·obtain ⟨x,hx⟩ : ∃ x,ns[j]? = some x:=⟨_,List.getElem?_eq_getElem (by omega)⟩;obtain ⟨z,hz1,hz2⟩:=HXJ.out j x hx;(have hc : wr.cell? ⟨w.heap.size + 1,j,none⟩ = some (.string z):=by rw [hh2.cell];exact hz1);have hxr:=HRG.out x (List.mem_of_getElem? hx);(have hji : (j : Int) < 6:=by omega);have AT:=atoi_any x hxr.1 hxr.2 z hz2 wr;have HR1:=Hd hh1;have HR2:=Hd hh2;have HR3:=Hd hh3;have HB:=Hd hb;have HX:=Hd hx;clear hx hz1 hz2 hh1 hh2 hh3 hb hxr;(go_wp2_with (go_at_call 105;refine AT.mono ?_;rintro e w1 ⟨rfl,hb1⟩;clear AT;have hC1 : w1.cell? ⟨w.heap.size + 1 + 1,j,none⟩ = some (.int .i64 0):=(by rw [(HR3.out.below hb1 HR3.out.lt).cell];exact numCells_get hnl6 hlt);have hF1:=(HR3.out.below hb1 HR3.out.lt).frozen j));go_roundw
   case rel =>
    refine ⟨j + 1,by omega,by go_num,(HR1.out.below hb1 HR1.out.lt).far (by show w.heap.size ≠ w.heap.size + 1 + 1;omega) _,(HR2.out.below hb1 HR2.out.lt).far (by show w.heap.size + 1 ≠ w.heap.size + 1 + 1;omega) _,?_,(HB.out.trans (hb1.mono HB.out.size)).setCell (by show w.heap.size ≤ w.heap.size + 1 + 1;omega) _⟩;rw [← numCells_set hnl6 HX.out];exact (HR3.out.below hb1 HR3.out.lt).set_ j _
   case measure => simp [intOf];omega
  ·(obtain rfl : j = 6:=by omega);rw [numCells_full hnl6] at hh3;(have hx6 : wr.cell? ⟨w.heap.size + 1,6,none⟩ = some (.string rest):=by rw [hh2.cell];exact HX6.out);have LI:=lastIndex_any rest (by omega) wr;have hK1 : Kit T wr:=HK.out.below hb;obtain ⟨ty,ev,hE⟩:=hK1.err;have hU:=hK1.utf;have HR1:=Hd hh1;have HR3:=Hd hh3;have HB:=Hd hb;have HK1:=Hd hK1;rcases HC.out with ⟨hne,hq⟩ | ⟨hne,q,ts,hq,hql,hI⟩ | ⟨q,ts,hq,hql,hI,hv⟩
   ·rw [hq] at LI;have HNE:=Hd hne;clear hne hq hh1 hh2 hh3 hb hK1 hE hU;(have hz6 : zc.size = 6:=by rw [HZC.out];rfl);(have c0 : ∀ i,i < 6 → ∃ v,wr.cell? ⟨w.heap.size,i,none⟩ = some v:=fun i hi => by rw [HR1.out.cell];exact ⟨_,Array.getElem?_eq_getElem (by omega)⟩);obtain ⟨v0,z0⟩:=c0 0 (by omega);obtain ⟨v1,z1⟩:=c0 1 (by omega);obtain ⟨v2,z2⟩:=c0 2 (by omega);obtain ⟨v3,z3⟩:=c0 3 (by omega);obtain ⟨v4,z4⟩:=c0 4 (by omega);obtain ⟨v5,z5⟩:=c0 5 (by omega);have f0:=HR1.out.frozen 0;have f1:=HR1.out.frozen 1;have f2:=HR1.out.frozen 2;have f3:=HR1.out.frozen 3;have f4:=HR1.out.frozen 4;have f5:=HR1.out.frozen 5;clear c0
    go_wp2_with (first
     | (go_at_call 106;refine LI.mono ?_;rintro e w1 ⟨rfl,rfl⟩;clear LI))
    exact parse_ret (g:=w.heap.size) (r':=zeroRec) (ok:=false) rfl rfl rfl (six_set HR1.out hz6 _ _ _ _ _ _) (six_below HB.out (Nat.le_refl _) _ _ _ _ _ _) (decide_eq_false HNE.out).symm (fun h => by cases h)
   ·rw [hq] at LI;have HNE:=Hd hne;have UQ:=unq.Unquote_torn _ ts hI _ wr hU hE;have d0 : decide ((q : Int) < 0) = false:=decide_eq_false (by omega);(have hqI : (q : Int) ≤ rest.size:=by omega);clear hne hq hh1 hh2 hh3 hb hK1 hE hU hI
    go_wp2_with (first
     | (go_at_call 106;refine LI.mono ?_;rintro e w1 ⟨rfl,rfl⟩;clear LI)
     | (go_at_call 107;refine UQ.mono ?_;rintro e w1 ⟨rfl,hb1⟩;clear UQ
        have H3:=HR3.out.below hb1 HR3.out.lt;(have k1 : w1.cell? ⟨w.heap.size + 1 + 1,1,none⟩ = some (.int .i64 r.client):=by rw [H3.cell,HNS.out];rfl);(have k2 : w1.cell? ⟨w.heap.size + 1 + 1,2,none⟩ = some (.int .i64 r.number):=by rw [H3.cell,HNS.out];rfl);(have k3 : w1.cell? ⟨w.heap.size + 1 + 1,3,none⟩ = some (.int .i64 r.object):=by rw [H3.cell,HNS.out];rfl);(have k4 : w1.cell? ⟨w.heap.size + 1 + 1,4,none⟩ = some (.int .i64 r.version):=by rw [H3.cell,HNS.out];rfl);(have k5 : w1.cell? ⟨w.heap.size + 1 + 1,5,none⟩ = some (.int .i64 r.epoch):=by rw [H3.cell,HNS.out];rfl);have H1:=Hd (HR1.out.below hb1 HR1.out.lt)
        clear H3))
    have hz6 : zc.size = 6:=by rw [HZC.out];rfl
    obtain ⟨W,hW⟩ : ∃ W,W = w1.alloc (.cells #[.int .i64 r.client,.int .i64 r.number,.int .i64 r.object,.int .i64 r.version,.string ⟨#[]⟩,.int .i64 r.epoch] 113):=⟨_,rfl⟩
    have hD : Has W w1.heap.size (.cells #[.int .i64 r.client,.int .i64 r.number,.int .i64 r.object,.int .i64 r.version,.string ⟨#[]⟩,.int .i64 r.epoch] 113):=by rw [hW];exact Has.new _ _
    have hA : Has W w.heap.size (.cells zc 113):=by rw [hW];exact H1.out.alloc _
    have hbW : Below w.heap.size w W:=by rw [hW];exact (HB.out.trans (hb1.mono HB.out.size)).alloc (Nat.le_trans HB.out.size hb1.size) _
    rw [← hW]
    clear hW
    have c0 : ∀ i,i < 6 → ∃ v,W.cell? ⟨w.heap.size,i,none⟩ = some v:=fun i hi => by rw [hA.cell];exact ⟨_,Array.getElem?_eq_getElem (by omega)⟩
    obtain ⟨v0,z0⟩:=c0 0 (by omega)
    obtain ⟨v1,z1⟩:=c0 1 (by omega)
    obtain ⟨v2,z2⟩:=c0 2 (by omega)
    obtain ⟨v3,z3⟩:=c0 3 (by omega)
    obtain ⟨v4,z4⟩:=c0 4 (by omega)
    obtain ⟨v5,z5⟩:=c0 5 (by omega)
    have f0:=hA.frozen 0
    have f1:=hA.frozen 1
    have f2:=hA.frozen 2
    have f3:=hA.frozen 3
    have f4:=hA.frozen 4
    have f5:=hA.frozen 5
    have d0':=hD.cell 0
    have d1':=hD.cell 1
    have d2':=hD.cell 2
    have d3':=hD.cell 3
    have d4':=hD.cell 4
    have d5':=hD.cell 5
    simp only [List.getElem?_toArray,List.getElem?_cons_zero,List.getElem?_cons_succ] at d0' d1' d2' d3' d4' d5'
    have HA:=Hd hA
    have HBW:=Hd hbW
    clear hA hbW hD c0
    go_region
    go_wp2;refine parse_ret (g:=w.heap.size) (r':=⟨r.client,r.number,r.object,r.version,[],r.epoch⟩) (ok:=false) rfl rfl rfl ?_ ?_ (decide_eq_false HNE.out).symm (fun h => by cases h)
    ·exact has_drew (six_set HA.out hz6 _ _ _ _ _ _)
    ·exact (six_below HBW.out (Nat.le_refl _) _ _ _ _ _ _).drew
   ·
    rw [hq] at LI;have UQ:=unq.Unquote_whole _ ts hI _ wr hU hE;rw [hv] at UQ;have d0 : decide ((q : Int) < 0) = false:=decide_eq_false (by omega);(have hqI : (q : Int) ≤ rest.size:=by omega);clear hq hh1 hh2 hh3 hb hK1 hE hU hI hv
    go_wp2_with (first
     | (go_at_call 106;refine LI.mono ?_;rintro e w1 ⟨rfl,rfl⟩;clear LI)
     | (go_at_call 107;refine UQ.mono ?_;rintro e w1 ⟨rfl,hb1⟩;clear UQ
        have H3:=HR3.out.below hb1 HR3.out.lt;(have k1 : w1.cell? ⟨w.heap.size + 1 + 1,1,none⟩ = some (.int .i64 r.client):=by rw [H3.cell,HNS.out];rfl);(have k2 : w1.cell? ⟨w.heap.size + 1 + 1,2,none⟩ = some (.int .i64 r.number):=by rw [H3.cell,HNS.out];rfl);(have k3 : w1.cell? ⟨w.heap.size + 1 + 1,3,none⟩ = some (.int .i64 r.object):=by rw [H3.cell,HNS.out];rfl);(have k4 : w1.cell? ⟨w.heap.size + 1 + 1,4,none⟩ = some (.int .i64 r.version):=by rw [H3.cell,HNS.out];rfl);(have k5 : w1.cell? ⟨w.heap.size + 1 + 1,5,none⟩ = some (.int .i64 r.epoch):=by rw [H3.cell,HNS.out];rfl);have H1:=Hd (HR1.out.below hb1 HR1.out.lt)
        clear H3))
    (have hz6 : zc.size = 6:=by rw [HZC.out];rfl);obtain ⟨W,hW⟩ : ∃ W,W = w1.alloc (.cells #[.int .i64 r.client,.int .i64 r.number,.int .i64 r.object,.int .i64 r.version,.string ⟨r.data.toArray⟩,.int .i64 r.epoch] 113):=⟨_,rfl⟩;(have hD : Has W w1.heap.size (.cells #[.int .i64 r.client,.int .i64 r.number,.int .i64 r.object,.int .i64 r.version,.string ⟨r.data.toArray⟩,.int .i64 r.epoch] 113):=by rw [hW];exact Has.new _ _);(have hA : Has W w.heap.size (.cells zc 113):=by rw [hW];exact H1.out.alloc _);(have hbW : Below w.heap.size w W:=by rw [hW];exact (HB.out.trans (hb1.mono HB.out.size)).alloc (Nat.le_trans HB.out.size hb1.size) _);rw [← hW];clear hW;have hKW : Kit T W:=HK.out.below hbW;have HS : Hid (PS T w w1.heap.size r W.drew):=Hd ⟨has_drew hD,hKW.below (Below.refl _ _).drew,⟨zc,hz6,has_drew hA⟩,hbW.drew⟩;have RA:=right_any r (by have:=(right_small HR.out).d1;omega) W.drew;rw [HR.out] at RA;clear hD hKW hA hbW H1 k1 k2 k3 k4 k5;refine last.head (PS T w w1.heap.size r) 15 16 ?_;refine last.many [(0,61,_),(1,62,_),(2,63,_),(3,64,_),(4,65,_)] HS.out ?_ (hy:=fun W' hW' => by have e0:=hW'.1.cell 0;have e1:=hW'.1.cell 1;have e2:=hW'.1.cell 2;have e3:=hW'.1.cell 3;have e4:=hW'.1.cell 4;have e5:=hW'.1.cell 5;simp only [List.getElem?_toArray,List.getElem?_cons_zero,List.getElem?_cons_succ] at e0 e1 e2 e3 e4 e5;repeat (first | exact .z | refine .s ?_ | refine .k ?_));refine last.one 5 fun K hK => ?_;go_simp;refine RA.mono ?_;rintro e W2 ⟨rfl,hb2⟩;have HS2:=Hd (HS.out.below hb2);refine hK.out _ _ (fun _ => HS2.out) ?_;clear hK K RA;refine last.many [(6,67,_),(7,68,_),(8,69,_),(9,70,_),(11,72,_)] HS2.out ?_ (hy:=fun W' hW' => by have e0:=hW'.1.cell 0;have e1:=hW'.1.cell 1;have e2:=hW'.1.cell 2;have e3:=hW'.1.cell 3;have e4:=hW'.1.cell 4;have e5:=hW'.1.cell 5;simp only [List.getElem?_toArray,List.getElem?_cons_zero,List.getElem?_cons_succ] at e0 e1 e2 e3 e4 e5;repeat (first | exact .z | refine .s ?_ | refine .k ?_));have TA:=text_any T k hk r (right_small HR.out) W2 HS2.out.2.1;obtain ⟨tx,htx⟩ : ∃ tx : ByteArray,tx = ⟨(text T k r).toArray⟩:=⟨_,rfl⟩;rw [← htx] at TA;have HTX:=Hd htx;clear htx;refine last.one 10 fun K hK => ?_;go_simp;refine TA.mono ?_;rintro e W3 ⟨rfl,hb3⟩;have HS3:=Hd (HS2.out.below hb3);refine hK.out _ _ (fun _ => HS3.out) ?_;clear hK K TA;refine last.many [(12,73,_),(13,74,_)] HS3.out ?_;obtain ⟨zc',hz',hA'⟩:=HS3.out.2.2.1;refine last.one 14 fun K hK => ?_;refine wp_store_row 113 (.tmp 4) (.tmp 61) rfl w.heap.size #[.int .i64 r.client,.int .i64 r.number,.int .i64 r.object,.int .i64 r.version,.string ⟨r.data.toArray⟩,.int .i64 r.epoch] rfl rfl 113 zc' hA' (by kernel_rfl) hz' (by kernel_rfl) ?_;have hb4 : Below w.heap.size w (W3.setRow w.heap.size #[.int .i64 r.client,.int .i64 r.number,.int .i64 r.object,.int .i64 r.version,.string ⟨r.data.toArray⟩,.int .i64 r.epoch]):=below_setRow HS3.out.2.2.2 (Nat.le_refl _) _;have hA4:=hA'.setRow #[.int .i64 r.client,.int .i64 r.number,.int .i64 r.object,.int .i64 r.version,.string ⟨r.data.toArray⟩,.int .i64 r.epoch];refine hK.out _ _ (fun _ => ⟨HS3.out.1.setRow_far (by have:=HB.out.size;have:=hb1.size;have:=HR1.out.lt;omega) _,HK.out.below hb4,⟨_,rfl,hA4⟩,hb4⟩) ?_;clear hK K;refine last.one 15 fun K hK => ?_;go_simp;refine hK.out _ _ (fun h => absurd rfl h) ?_;refine last.done ?_;go_wp2;refine parse_ret (g:=w.heap.size) (r':=r) (ok:=tx.toList == s.toList) rfl rfl rfl hA4 hb4 ?_ (fun _ => rfl);(have e1 : tx.toList = text T k r:=by rw [Lib.toList_data,HTX.out]);have e2 : s.toList = s.data.toList:=Lib.toList_data s;rw [e1,e2];by_cases he : s.data.toList = text T k r
    ·rw [he];simp
    ·rw [decide_eq_false he];exact beq_eq_false_iff_ne.2 (fun e => he e.symm)
end wal
namespace wal
open Go.RowKit heap own recs errs
open model (Rec)
theorem parse_any (T : Lib.PrintTabs) (k : Nat) (hk : k < 1000) (r : Rec) (hr : r.right = true) (s : ByteArray) (hP : s.data.toList <+: text T k r) (w : World) (hK : Kit T w) :
 Calls Tryz.prog 79 #[.int .i64 k,.string s] w (Parsed T k r s w):=by
 have hsl : s.data.toList.length = s.size:=rfl
 have hs : s.size ≤ 1000:=by
  have h1:=hP.length_le;have h2:=text_len T k r (by omega) (by omega) (right_small hr);omega
 have small : ∀ rest : ByteArray,Lib.splitK [32] 0 6 s.data.toList = nums k r ++ [rest.data.toList] → rest.size ≤ 1000:=fun rest h => by
  have:=(split_len 6 s.data.toList).2 rest.data.toList (by rw [h];simp);have e : rest.data.toList.length = rest.size:=rfl;omega
 have h7 : ∀ rest : ByteArray,(nums k r ++ [rest.data.toList]).length = 7:=fun _ => rfl
 cases cutting T k r _ hP with
 | few hne h => exact parse_few T k r s hs hne w hK (pieces_few h)
 | bare hne rest h hq =>
  obtain ⟨p1,p2,p3⟩:=pieces_seven h (h7 rest);exact parse_seven T k r hr s hs w hK hk rest p1 p2 p3 (small rest h) (.inl ⟨hne,hq⟩)
 | torn hne rest q ts h hq hl ht e =>
  obtain ⟨p1,p2,p3⟩:=pieces_seven h (h7 rest);have hsm:=small rest h;exact parse_seven T k r hr s hs w hK hk rest p1 p2 p3 hsm (.inr (.inl ⟨hne,q,ts,hq,hl,⟨by rw [Lib.extract_from_zero];exact e,ht,by simp;omega⟩⟩))
 | whole rest q ts h hq hl ht e hv =>
  obtain ⟨p1,p2,p3⟩:=pieces_seven h (h7 rest);have hsm:=small rest h;exact parse_seven T k r hr s hs w hK hk rest p1 p2 p3 hsm (.inr (.inr ⟨q,ts,hq,hl,⟨by rw [Lib.extract_from_zero];exact e,ht,by simp;omega⟩,hv⟩))
structure Places (T : Lib.PrintTabs) (ps : List ByteArray) (l : List Rec) : Prop where
 len : l.length ≤ 200
 right : ∀ r ∈ l,r.right = true
 there : ∀ (k : Nat) r,l[k]? = some r → ps[k]? = some ⟨(text T k r).toArray⟩
 none : ∀ (k : Nat),l.length ≤ k → k < 200 → ∃ (s : ByteArray) (r : Rec),ps[k]? = some s ∧ r.right = true ∧ s.data.toList <+: text T k r ∧ s.data.toList ≠ text T k r
theorem blank_right : (⟨0,0,0,0,[],0⟩ : Rec).right = true:=by decide
theorem Places.new (T : Lib.PrintTabs) : Places T (List.replicate 200 ⟨#[]⟩) []:=
 ⟨Nat.zero_le _,fun _ h => (by cases h),fun _ _ h => (by simp at h),fun k _ hk => ⟨⟨#[]⟩,⟨0,0,0,0,[],0⟩,by rw [List.getElem?_replicate,if_pos hk],blank_right,List.nil_prefix,fun e => by
  have:=text_pos T k ⟨0,0,0,0,[],0⟩;rw [← e] at this
  exact absurd this (Nat.lt_irrefl _)⟩⟩
theorem Places.add {T : Lib.PrintTabs} {ps : List ByteArray} {l : List Rec} (h : Places T ps l) (hl : ps.length = 200) (r : Rec) (hr : r.right = true) (h2 : l.length < 200) :
 Places T (ps.set l.length ⟨(text T l.length r).toArray⟩) (l ++ [r]):=by
 refine ⟨by simp;omega,fun x hx => ?_,fun k x hk => ?_,fun k h0 h1 => ?_⟩
 ·rcases List.mem_append.1 hx with hx | hx
  ·exact h.right x hx
  ·rw [List.mem_singleton.1 hx];exact hr
 ·by_cases hkl : k < l.length
  ·rw [List.getElem?_append_left hkl] at hk;rw [List.getElem?_set_ne (by omega)];exact h.there k x hk
  ·rw [List.getElem?_append_right (by omega)] at hk
   cases hq : k - l.length with
   | zero =>
    rw [hq] at hk;(obtain rfl : r = x:=by simpa using hk);(obtain rfl : k = l.length:=by omega);rw [List.getElem?_set_self (by omega)]
   | succ n => rw [hq] at hk;simp at hk
 ·simp only [List.length_append,List.length_cons,List.length_nil] at h0;rw [List.getElem?_set_ne (by omega)];exact h.none k (by omega) h1
theorem Places.tear {T : Lib.PrintTabs} {ps : List ByteArray} {l : List Rec} (h : Places T ps l) (hl : ps.length = 200) (r : Rec) (hr : r.right = true) (h2 : l.length < 200) (s : ByteArray)
 (h3 : s.data.toList <+: text T l.length r) (h4 : s.data.toList ≠ text T l.length r) : Places T (ps.set l.length s) l:=by
 refine ⟨h.len,h.right,fun k x hk => ?_,fun k h0 h1 => ?_⟩
 ·have hkl : k < l.length:=by
   rcases Nat.lt_or_ge k l.length with h | h
   ·exact h
   ·rw [List.getElem?_eq_none h] at hk;cases hk
  rw [List.getElem?_set_ne (by omega)];exact h.there k x hk
 ·by_cases hkl : k = l.length
  ·subst hkl;exact ⟨s,r,List.getElem?_set_self (by omega),hr,h3,h4⟩
  ·rw [List.getElem?_set_ne (by omega)];exact h.none k h0 h1
def recRow (r : Rec) : List Value:=[.int .i64 r.client,.int .i64 r.number,.int .i64 r.object,.int .i64 r.version,.string ⟨r.data.toArray⟩,.int .i64 r.epoch]
def recCs (l : List Rec) : List Value:=l.flatMap recRow
theorem recRow_one (x : Rec) : ∀ u ∈ recRow x,u.oneCell' = true:=by
 intro u hu;simp only [recRow,List.mem_cons,List.not_mem_nil,or_false] at hu;rcases hu with rfl | rfl | rfl | rfl | rfl | rfl <;> rfl
theorem recCs_len (l : List Rec) : (recCs l).length = l.length * 6:=by
 induction l with
 | nil => rfl
 | cons x l ih =>
  (have e : recCs (x :: l) = recRow x ++ recCs l:=by simp [recCs]);rw [e,List.length_append,ih,List.length_cons];show 6 + _ = _;omega
theorem recCs_snoc (l : List Rec) (r : Rec) : recCs (l ++ [r]) = recCs l ++ recRow r:=by simp [recCs]
theorem infoRec : (Tryz.prog.info? 113).map (fun i => (i.zero,i.size,i.bytes)) = some (some (.agg #[.int .i64 0,.int .i64 0,.int .i64 0,.int .i64 0,.string ByteArray.empty,.int .i64 0]),6,56):=by kernel_rfl
structure WalAt (own : Nat → Nat) (T B : Nat) (w : World) (wb db : Nat) (v : Value) (down : Bool) (l : List Rec) : Prop where
 w_ : Has w wb (.cells #[.pointer (some ⟨db,0,none⟩),v,.bool down] 139)
 row : Row own T w 113 6 v l.length (recCs l)
 ow : own wb = T + 1
 low : ∀ g,own g = T → B ≤ g
 lw : B ≤ wb
section
variable {own own1 : Nat → Nat} {T B : Nat} {w w1 : World} {wb db : Nat} {v : Value} {down : Bool} {l : List Rec}
theorem WalAt.below {B' : Nat} (h : WalAt own T B w wb db v down l) (hb : Below B' w w1) (hB : w.heap.size ≤ B') : WalAt own T B w1 wb db v down l:=
 ⟨h.w_.below hb (Nat.lt_of_lt_of_le h.w_.lt hB),h.row.below (hb.mono hB),h.ow,h.low,h.lw⟩
theorem WalAt.setDown (h : WalAt own T B w wb db v down l) (d : Bool) : WalAt own T B (w.setCell ⟨wb,2,none⟩ (.bool d)) wb db v d l:=by
 refine ⟨h.w_.set_ 2 _,?_,h.ow,h.low,h.lw⟩;refine ⟨row_kept h.row.1 fun g hg => Below.heap_setCell _ _ _ _ ?_,h.row.2⟩;have:=h.row.2 g hg;intro e;rw [show g = wb from e,h.ow] at this;omega
end
def WalPost (own : Nat → Nat) (T B wb db : Nat) (down : Bool) (l : List Rec) (w W : World) : Prop:=
 ∃ own1 v,Ext w own own1 ∧ Turn (fun g => g = wb ∨ own g = T) w W ∧ WalAt own1 T B W wb db v down l
theorem wal_append {own : Nat → Nat} {T B wb db g cap' : Nat} {v : Value} {down : Bool} {l : List Rec} {r : Rec} {w w3 : World} {ob : Obj} (h : WalAt own T B w wb db v down l) (hBw : B ≤ w.heap.size)
 (ho3 : w3.ownsRow 0 113 6 (.slice (some ⟨g,0,none⟩) (l.length + 1) cap') (l.length + 1) (recCs l ++ recRow r)) (hg3 : (w.alloc ob).drew.grownBy w3 v.ownBlock) (hg : v.ownBlock = some g ∨ g = w.heap.size + 1) :
 WalPost own T B wb db down (l ++ [r]) w (w3.setCell ⟨wb,1,none⟩ (.slice (some ⟨g,0,none⟩) (l.length + 1) cap')):=by
 have hwlt:=h.w_.lt;have hrb : ∀ k,v.ownBlock = some k → k < w.heap.size ∧ own k = T:=fun k hk => ⟨h.row.lt k hk,h.row.2 k hk⟩;have hgl : own g = T ∧ g < w.heap.size ∨ g = w.heap.size + 1:=hg.imp (fun h => ⟨(hrb g h).2,(hrb g h).1⟩) (fun h => h);have hnb : ∀ k,own k = T → k ≠ wb:=fun k hk e => by rw [e,h.ow] at hk;omega
 have hgb : g ≠ wb:=by
  rcases hgl with h' | h'
  ·exact hnb g h'.1
  ·omega
 refine ⟨newOwn own w T,.slice (some ⟨g,0,none⟩) (l.length + 1) cap',Ext.new _ _ _,?_,?_,?_,?_,fun k hk => ?_,h.lw⟩
 ·exact (((Turn.refl _ w).alloc ob).drew.grown hg3 (fun k hk => .inr (.inr (hrb k hk).2))).setCell (p:=⟨wb,1,none⟩) (.inr (.inl rfl)) _
 ·have h1 : Has w3 wb (.cells #[.pointer (some ⟨db,0,none⟩),v,.bool down] 139):=by
   refine (hg3.block wb (by show wb < (w.alloc ob).heap.size;simp;omega) (fun e => hnb wb (hrb wb e.symm).2 rfl)).trans ?_;exact (h.w_.alloc ob).drew
  exact h1.set_ 1 _
 ·rw [List.length_append,List.length_singleton,recCs_snoc]
  refine ⟨row_kept ho3 fun k hk => Below.heap_setCell _ _ _ _ (by
   (have : g = k:=by simpa [Value.ownBlock] using hk);show k ≠ wb
   omega),fun k hk => ?_⟩
  (obtain rfl : g = k:=by simpa [Value.ownBlock] using hk);rcases hgl with h' | h'
  ·rw [new_old h'.2];exact h'.1
  ·exact new_new (by omega)
 ·rw [new_old hwlt];exact h.ow
 ·by_cases hk2 : k < w.heap.size
  ·rw [new_old hk2] at hk;exact h.low k hk
  ·omega
theorem empty_row (w : World) : (w.alloc (.cells #[] 113)).ownsRow w.heap.size 113 6 (.slice (some ⟨w.heap.size,0,none⟩) 0 0) 0 []:=
 owns_new (l:=[]) (Has.new w _) (Nat.le_refl _) rfl (Nat.zero_le _)
theorem Down_any {own : Nat → Nat} {T B wb db : Nat} {v : Value} {down : Bool} {l : List Rec} (w : World) (h : WalAt own T B w wb db v down l) :
 Calls Tryz.prog 89 #[.pointer (some ⟨wb,0,none⟩)] w fun e w' => e = .returned (.bool down) ∧ w = w':=by
 have c2:=h.w_.cell 2;simp only [List.getElem?_toArray,List.getElem?_cons_zero,List.getElem?_cons_succ] at c2;clear h;(go_enter Tryz.func89,Tryz.ntmps89);go_wp2;go_ret;exact ⟨rfl,rfl⟩
set_option maxHeartbeats 1000000 in
set_option maxRecDepth 100000 in
theorem Records_any {own : Nat → Nat} {T B wb db : Nat} {v : Value} {down : Bool} {l : List Rec} (w : World) (h : WalAt own T B w wb db v down l) (hl : l.length ≤ 200) :
 Calls Tryz.prog 53 #[.pointer (some ⟨wb,0,none⟩)] w fun e w' => ∃ v',e = .returned v' ∧ w'.ownsRow w.heap.size 113 6 v' l.length (recCs l) ∧ Below w.heap.size w w':=by
 obtain ⟨i0,hi0,hz0,hz1,hz2⟩:=info_parts infoRec;have HI:=Hd (And.intro hi0 (And.intro hz0 (And.intro hz1 hz2)));have c1:=h.w_.cell 1;simp only [List.getElem?_toArray,List.getElem?_cons_zero,List.getElem?_cons_succ] at c1;have hlt:=h.w_.lt;have H:=Hd h;rcases Nat.eq_zero_or_pos l.length with h0 | h0
 ·have hv : v = .slice none 0 0 ∨ ∃ g cap,v = .slice (some ⟨g,0,none⟩) 0 cap:=by
   rcases h.row.1.2 with ⟨e,-⟩ | ⟨g,cap,cur,e,-⟩
   ·exact .inl e
   ·exact .inr ⟨g,cap,by rw [e,h0]⟩
  have hl0 : l = []:=List.eq_nil_of_length_eq_zero h0;clear h;subst hl0;rcases hv with rfl | ⟨g,cap,rfl⟩
  all_goals
   (go_enter Tryz.func53,Tryz.ntmps53);go_wp2;go_ret;exact ⟨_,rfl,empty_row w,(Below.refl _ _).alloc (Nat.le_refl _) _⟩
 ·obtain ⟨g,cap,cur,rfl,-,hg,hc1,hc2,hc3,hc4⟩:=h.row.shape h0;clear h;(go_enter Tryz.func53,Tryz.ntmps53);have HE:=Hd (empty_row w);have HG:=Hd hg;have H4:=Hd hc4;have hgl:=Has.lt (w:=w) hg;clear hg hc4 hz0 hz1 hz2 hi0;go_wp2_with (at_builtin;refine wpList_append_own _ rfl (.tmp 3) (.tmp 7) 110 rfl w.heap.size 113 i0 _ 6 56 Tryz.underlying110 HI.out.1 HI.out.2.1 HI.out.2.2.1 HI.out.2.2.2 rfl (by decide) _ _ _ rfl HE.out ⟨g,0,none⟩ l.length cap (recCs l) rfl (recCs_len l) ?c1 ?c2 ?c3 ?c4 ?c5 ?_)
  case c1 =>
   intro j u hj;(have hjl : j < l.length * 6:=by rw [← recCs_len];rcases Nat.lt_or_ge j (recCs l).length with h | h;exact h;rw [List.getElem?_eq_none h] at hj;cases hj);(have e : (⟨g,0,none⟩ : Addr).add j = ⟨g,j,none⟩:=by by_cases h0 : j = 0 <;> simp [Addr.add,h0]);rw [e,(Has.alloc (w:=w) HG.out _).cell,← hj,← H4.out,List.getElem?_take,if_pos hjl,Array.getElem?_toList]
  case c2 =>
   intro u hu;obtain ⟨x,-,hx⟩:=List.mem_flatMap.1 hu;exact recRow_one x u hx
  (case c3 => unfold maxLen;omega);(case c4 => omega);(case c5 => simp);intro v2 w2 hown hg2 _;go_wp2;go_ret
  exact ⟨v2,rfl,hown,((Below.refl _ _).alloc (Nat.le_refl _) _).grown hg2 (by simp) (fun k hk => by
   have : w.heap.size = k:=by simpa [Value.ownBlock] using hk
   omega)⟩
def KitB (P : Lib.PrintTabs) (B : Nat) (w : World) : Prop:=∃ w0 : World,w0.heap.size = B ∧ Kit P w0 ∧ Below B w0 w
theorem KitB.kit {P : Lib.PrintTabs} {B : Nat} {w : World} (h : KitB P B w) : Kit P w:=by
 obtain ⟨w0,hB,hk,hb⟩:=h;exact hk.below (by rw [hB];exact hb)
theorem KitB.le {P : Lib.PrintTabs} {B : Nat} {w : World} (h : KitB P B w) : B ≤ w.heap.size:=by
 obtain ⟨w0,hB,hk,hb⟩:=h;have:=hb.size;omega
theorem KitB.below {P : Lib.PrintTabs} {B : Nat} {w w' : World} (h : KitB P B w) (hb : Below B w w') : KitB P B w':=by
 obtain ⟨w0,hB,hk,hb0⟩:=h;exact ⟨w0,hB,hk,hb0.trans hb⟩
theorem KitB.turn {P : Lib.PrintTabs} {B : Nat} {w w' : World} {S : Nat → Prop} (h : KitB P B w) (ht : Turn S w w') (hs : ∀ g,S g → B ≤ g) : KitB P B w':=
 h.below (ht.to_below h.le fun k hk hS => by have:=hs k hS;omega)
theorem DiskAt.turn {w w' : World} {b : Nat} {ps : List ByteArray} {cut : Bool} {left : Int} {S : Nat → Prop} (h : DiskAt w b ps cut left) (ht : Turn S w w') (hn : ¬ S b) : DiskAt w' b ps cut left:=⟨ht.has h.d_ hn,h.hp⟩
def AS (wb box db : Nat) (v : Value) (down : Bool) (r : Rec) (W : World) : Prop:=
 Has W wb (.cells #[.pointer (some ⟨db,0,none⟩),v,.bool down] 139) ∧ Has W box (.cells #[.int .i64 r.client,.int .i64 r.number,.int .i64 r.object,.int .i64 r.version,.string ⟨r.data.toArray⟩,.int .i64 r.epoch] 113)
theorem AS.alloc {wb box db : Nat} {v : Value} {down : Bool} {r : Rec} {W : World} (h : AS wb box db v down r W) (o : Obj) : AS wb box db v down r (W.alloc o).drew:=⟨h.1.alloc o,h.2.alloc o⟩
theorem AS.grown {wb box db : Nat} {v : Value} {down : Bool} {r : Rec} {W W' : World} {row : Option Nat} (h : AS wb box db v down r W) (hg : W.grownBy W' row) (hn : ∀ k,row = some k → k ≠ wb ∧ k ≠ box) : AS wb box db v down r W':=
 ⟨h.1.grown hg (fun e => (hn wb e.symm).1 rfl),h.2.grown hg (fun e => (hn box e.symm).2 rfl)⟩
theorem rec_cells (r : Rec) {w : World} : ∀ (j : Nat) (x : Value),(recRow r)[j]? = some x → (w.alloc (.cells #[.int .i64 r.client,.int .i64 r.number,.int .i64 r.object,.int .i64 r.version,.string ⟨r.data.toArray⟩,.int .i64 r.epoch] 113)).drew.cell? ((⟨w.heap.size,0,none⟩ : Addr).add j) = some x:=by
 intro j x hj;have h:=(Has.new w (.cells #[.int .i64 r.client,.int .i64 r.number,.int .i64 r.object,.int .i64 r.version,.string ⟨r.data.toArray⟩,.int .i64 r.epoch] 113)).cell j;(have e : (⟨w.heap.size,0,none⟩ : Addr).add j = ⟨w.heap.size,j,none⟩:=by by_cases h0 : j = 0 <;> simp [Addr.add,h0]);rw [e];refine h.trans ?_;rw [← hj];simp [recRow]
def OpenPost (own : Nat → Nat) (T B : Nat) (w : World) (db : Nat) (l : List Rec) (e : Ending) (w' : World) : Prop:=
 ∃ own1 wb v,e = .returned (.tuple #[.pointer (some ⟨wb,0,none⟩),.nilIface]) ∧ Ext w own own1 ∧ Turn (fun g => own g = T) w w' ∧ WalAt own1 T B w' wb db v false l ∧ w.heap.size ≤ wb
set_option maxHeartbeats 4000000 in
set_option maxRecDepth 100000 in
theorem Open_any (P : Lib.PrintTabs) (own : Nat → Nat) (T B : Nat) (w : World) (db : Nat) (ps : List ByteArray) (cut : Bool) (left : Int) (l : List Rec) (hK : KitB P B w) (hD : DiskAt w db ps cut left) (hP : Places P ps l) (hod : own db ≠ T) (hlow : ∀ g,own g = T → B ≤ g) :
 Calls Tryz.prog 51 #[.pointer (some ⟨db,0,none⟩)] w (OpenPost own T B w db l):=by
 obtain ⟨i0,hi0,hz0,hz1,hz2⟩:=info_parts infoRec;have HI:=Hd (And.intro hi0 (And.intro hz0 (And.intro hz1 hz2)));have HK:=Hd hK;have HD:=Hd hD;have HP:=Hd hP;have HOD:=Hd hod;have HLOW:=Hd hlow;have hdb:=hD.lt;have hl200:=hP.len;have hBl:=hK.le;clear hi0 hz0 hz1 hz2 hK hD hP hod hlow;(go_enter Tryz.func51,Tryz.ntmps51);go_wp2;go_loopw [14] (fun q14 wr => ∃ (k : Nat) (own1 : Nat → Nat) (v : Value),k ≤ l.length ∧ q14 = .int .i64 k ∧ Ext w own own1 ∧ WalAt own1 T B wr w.heap.size db v false (l.take k) ∧ Turn (fun g => own g = T) w wr) (fun q14 _ => 200 - (intOf q14).toNat)
 case atStart =>
  refine ⟨0,fun k => if k = w.heap.size then T + 1 else own k,.slice none 0 0,by omega,rfl,fun k hk => by simp;omega,⟨?_,Row.nil _ _ _ _ _,by simp,fun g hg => ?_,hBl⟩,(Turn.refl _ _).alloc _⟩
  ·exact Has.new w _
  ·by_cases e : g = w.heap.size
   ·omega
   ·simp only [if_neg e] at hg;exact HLOW.out g hg
 case round =>
  obtain ⟨k,own1,v,hk,rfl,hext,hw,ht⟩:=hrel;have HT:=Hd ht;have HEX:=Hd hext;have hwlt:=hw.w_.lt;have hKr : KitB P B wr:=HK.out.turn ht HLOW.out;have hDr:=HD.out.turn ht HOD.out;have HKR:=Hd hKr;have hBr:=hKr.le;by_cases hkl : k < l.length
  ·obtain ⟨r,hr⟩ : ∃ r,l[k]? = some r:=⟨_,List.getElem?_eq_getElem hkl⟩;have hright:=HP.out.right r (List.mem_of_getElem? hr);obtain ⟨s,hs⟩ : ∃ s : ByteArray,s = ⟨(text P k r).toArray⟩:=⟨_,rfl⟩;(have hsl : s.data.toList = text P k r:=by rw [hs]);have hc : wr.cell? ⟨db,k,none⟩ = some (.string s):=hDr.place k (by omega) s (by rw [HP.out.there k r hr,hs]);have PA:=parse_any P k (by omega) r hright s (by rw [hsl];exact List.prefix_refl _) wr hKr.kit;(have hk2 : (k : Int) < 200:=by omega);have HSL:=Hd hsl;have HR:=Hd hr;have HW0:=Hd hw;obtain ⟨lk,hlk⟩ : ∃ lk,lk = l.take k:=⟨_,rfl⟩;(have hlen : lk.length = k:=by rw [hlk,List.length_take];omega);have HLK:=Hd hlk;rw [← hlk] at hw;have HW1:=Hd hw;clear hs hsl hr hright hKr hDr hext hw hlk ht;(go_wp2_with (go_at_call 79;refine PA.mono ?_;rintro e w1 ⟨r',ok,rfl,hb1,hok,hr'⟩;have hok' : ok = true:=(by rw [hok];exact decide_eq_true HSL.out);subst hok';obtain rfl : r = r':=(hr' rfl).symm;clear hok hr' PA;unfold recV recCells));obtain ⟨W,hW⟩ : ∃ W,W = w1.alloc (.cells #[.int .i64 r.client,.int .i64 r.number,.int .i64 r.object,.int .i64 r.version,.string ⟨r.data.toArray⟩,.int .i64 r.epoch] 113):=⟨_,rfl⟩;have HBX : Hid (Has W w1.heap.size (.cells #[.int .i64 r.client,.int .i64 r.number,.int .i64 r.object,.int .i64 r.version,.string ⟨r.data.toArray⟩,.int .i64 r.epoch] 113)):=Hd (by rw [hW];exact Has.new _ _);have HBB : Hid (Below wr.heap.size wr W):=Hd (by rw [hW];exact hb1.alloc hb1.size _);have HW : Hid (WalAt own1 T B W w.heap.size db v false lk):=Hd (HW1.out.below HBB.out (Nat.le_refl _));have HBW : Hid (B ≤ W.heap.size):=Hd (Nat.le_trans hBr HBB.out.size)
   have HNB : Hid (∀ k,v.ownBlock = some k → k ≠ w.heap.size ∧ k ≠ w1.heap.size):=Hd fun k hk => by
    have h1:=HW1.out.row.lt k hk;have h2:=HW1.out.row.2 k hk;have h3:=HW1.out.ow;have h4:=hb1.size;refine ⟨fun e => ?_,by omega⟩;rw [e,h3] at h2;omega
   rw [← hW]
   clear hW hb1
   have HS : Hid (AS w.heap.size (w1.heap.size) db v false r W.drew):=Hd ⟨HW.out.w_,HBX.out⟩
   have HRW : Hid ((W.alloc (.cells #[.int .i64 r.client,.int .i64 r.number,.int .i64 r.object,.int .i64 r.version,.string ⟨r.data.toArray⟩,.int .i64 r.epoch] 113)).drew.ownsRow 0 113 6 v lk.length (recCs lk)):=Hd (HW.out.row.1.alloc _)
   have HSZ : Hid ((W.alloc (.cells #[.int .i64 r.client,.int .i64 r.number,.int .i64 r.object,.int .i64 r.version,.string ⟨r.data.toArray⟩,.int .i64 r.epoch] 113)).drew.heap.size = W.heap.size + 1):=Hd (World.size_alloc _ _)
   refine last.head (AS w.heap.size (w1.heap.size) db v false r) 10 11 ?_
   refine last.many [(0,30,_),(1,31,_),(2,32,_),(3,33,_),(4,34,_),(5,35,_)] HS.out ?_ (hy:=fun W' hW' => by have hv1:=hW'.1.cell 1;simp only [List.getElem?_toArray,List.getElem?_cons_zero,List.getElem?_cons_succ] at hv1;have e0:=hW'.2.cell 0;have e1:=hW'.2.cell 1;have e2:=hW'.2.cell 2;have e3:=hW'.2.cell 3;have e4:=hW'.2.cell 4;have e5:=hW'.2.cell 5;simp only [List.getElem?_toArray,List.getElem?_cons_zero,List.getElem?_cons_succ] at e0 e1 e2 e3 e4 e5;repeat (first | exact .z | refine .s ?_ | refine .k ?_))
   refine last.one 6 fun K hK => ?_
   go_simp
   have HS2 : Hid (AS w.heap.size (w1.heap.size) db v false r (W.alloc (.cells #[.int .i64 r.client,.int .i64 r.number,.int .i64 r.object,.int .i64 r.version,.string ⟨r.data.toArray⟩,.int .i64 r.epoch] 113)).drew):=Hd (AS.alloc ⟨HW.out.w_,HBX.out⟩ _)
   refine hK.out _ _ (fun _ => HS2.out) ?_
   clear hK K
   refine last.wpAnyL_oneL (i:=7) (by kernel_rfl) (by simp only [List.getElem?_toArray,List.getElem?_cons_succ,List.getElem?_cons_zero];exact rfl) fun K hK => ?_
   refine step_append_lies _ (by rfl) (.tmp 34) (.tmp 36) 110 (by rfl) 0 113 i0 _ 6 56 Tryz.underlying110 HI.out.1 HI.out.2.1 HI.out.2.2.1 HI.out.2.2.2 (by rfl) (by decide) v lk.length (recCs lk) (by rfl) HRW.out ⟨W.heap.size,0,none⟩ 1 1 (recRow r) (by rfl) rfl (rec_cells r) (recRow_one r) (by omega) (by unfold maxLen;omega) (by omega) (by simp) (W.heap.size + 1) HSZ.out ?_
   intro g cap' w4 hown4 hg4 hgl hgw
   have HS4 : Hid (AS w.heap.size (w1.heap.size) db v false r w4):=Hd (AS.grown HS2.out hg4 HNB.out)
   refine hK.out _ _ (fun _ => HS4.out) ?_
   have D4:=Hd (wal_append HW.out HBW.out hown4 hg4 hgl)
   clear hK K hown4 hg4 hgl hgw
   skip
   refine last.one 8 fun K hK => ?_;go_simp;refine hK.out _ _ (fun _ => HS4.out) ?_;clear hK K;refine last.one 9 fun K hK => ?_;go_simp;refine hK.out _ _ (fun _ => HS4.out) ?_;clear hK K;refine last.one 10 fun K hK => ?_;have hv1:=HS4.out.1.cell 1;simp only [List.getElem?_toArray,List.getElem?_cons_zero,List.getElem?_cons_succ] at hv1;have fv1:=HS4.out.1.frozen 1;go_simp;refine hK.out _ _ (fun h => absurd rfl h) ?_;clear hK K hv1 fv1;refine last.done ?_;(go_wp2_with fail);go_roundw
   case rel =>
    subst hlen;obtain ⟨own2,v2,he2,ht2,hw2⟩:=D4.out;have hsz:=HBB.out.size;have hwz:=HT.out.size;refine ⟨lk.length + 1,own2,v2,by omega,by go_num,HEX.out.trans (fun j hj => he2 j (by omega)) hwz,?_,?_⟩
    ·rw [List.take_add_one,HR.out,← HLK.out];exact hw2
    ·refine (HT.out.then_below HBB.out (Nat.le_refl _)).trans ht2 (fun j hj hS => ?_);rcases hS with rfl | hS
     ·omega
     ·rw [HEX.out j hj] at hS;exact hS
   case measure => simp [intOf];omega
  ·(obtain rfl : k = l.length:=by omega);rw [List.take_length] at hw;have HW0:=Hd hw;by_cases hk2 : l.length < 200
   ·obtain ⟨s,r,hs,hright,hpre,hne⟩:=HP.out.none l.length (Nat.le_refl _) hk2;have hc : wr.cell? ⟨db,l.length,none⟩ = some (.string s):=hDr.place _ hk2 s hs;have PA:=parse_any P l.length (by omega) r hright s hpre wr hKr.kit;(have hk2' : (l.length : Int) < 200:=by omega);have HNE:=Hd hne;clear hs hpre hne hright hKr hDr hext hw ht;(go_wp2_with (go_at_call 79;refine PA.mono ?_;rintro e w1 ⟨r',ok,rfl,hb1,hok,-⟩;have hok' : ok = false:=(by rw [hok];exact decide_eq_false HNE.out);subst hok';clear hok PA;unfold recV recCells));go_ret2;have hbb : ∀ o,Below wr.heap.size wr (w1.alloc o):=fun o => hb1.alloc hb1.size o;exact ⟨own1,w.heap.size,v,rfl,HEX.out,HT.out.then_below (hbb _) (Nat.le_refl _),HW0.out.below (hbb _) (Nat.le_refl _),Nat.le_refl _⟩
   ·(have hk2' : ¬ (l.length : Int) < 200:=by omega);clear hKr hDr hext hw ht;(go_wp2_with fail);go_ret2;exact ⟨own1,w.heap.size,v,rfl,HEX.out,HT.out,HW0.out,Nat.le_refl _⟩
end wal
namespace wal
open Go.RowKit heap own recs errs
open model (Rec Disk)
def AddPost (P : Lib.PrintTabs) (own : Nat → Nat) (T B : Nat) (w : World) (wb db : Nat) (x : Int × Disk × Bool) (e : Ending) (w' : World) : Prop:=
 e = .returned (errV x.1) ∧ ∃ own1 v ps,Ext w own own1 ∧ Turn (fun g => g = wb ∨ g = db ∨ own g = T) w w' ∧ WalAt own1 T B w' wb db v x.2.2 x.2.1.recs ∧ DiskAt w' db ps x.2.1.cut x.2.1.left ∧ Places P ps x.2.1.recs
theorem AS.below {wb box db : Nat} {v : Value} {down : Bool} {r : Rec} {W W' : World} (h : AS wb box db v down r W) (hb : Below W.heap.size W W') : AS wb box db v down r W':=⟨h.1.below hb h.1.lt,h.2.below hb h.2.lt⟩
theorem AS.turn {wb box db : Nat} {v : Value} {down : Bool} {r : Rec} {W W' : World} (h : AS wb box db v down r W) (ht : Turn (fun g => g = db) W W') (h1 : wb ≠ db) (h2 : box ≠ db) : AS wb box db v down r W':=⟨ht.has h.1 h1,ht.has h.2 h2⟩
theorem add_bad {d : Disk} {r : Rec} (h : r.right = false) : d.add false r = (1,d,false):=by simp [Disk.add,h]
theorem add_full {d : Disk} {r : Rec} (h : r.right = true) (h2 : 200 ≤ d.recs.length) : d.add false r = (12,d,false):=by simp [Disk.add,h,h2]
theorem add_dev {d : Disk} {r : Rec} (h : r.right = true) (h2 : d.recs.length < 200) (h3 : d.cut = true ∧ d.left = 0) : d.add false r = (14,d,true):=by
 (have : ¬ 200 ≤ d.recs.length:=by omega);simp [Disk.add,h,this,h3.1,h3.2]
theorem add_ok {d : Disk} {r : Rec} (h : r.right = true) (h2 : d.recs.length < 200) (h3 : ¬ (d.cut = true ∧ d.left = 0)) : d.add false r = (0,{ d with recs:=d.recs ++ [r],left:=wrap64 (d.left - 1) },false):=by
 have : ¬ 200 ≤ d.recs.length:=by omega
 have h4 : (d.cut && decide (d.left = 0)) = false:=by
  cases hc : d.cut with
  | false => rfl
  | true => exact decide_eq_false (fun e => h3 ⟨hc,e⟩)
 simp [Disk.add,h,this,h4]
theorem WalAt.turn {own : Nat → Nat} {T B : Nat} {w w1 : World} {wb db : Nat} {v : Value} {down : Bool} {l : List Rec} {S : Nat → Prop} (h : WalAt own T B w wb db v down l) (ht : Turn S w w1) (h1 : ¬ S wb) (h2 : ∀ k,own k = T → ¬ S k) : WalAt own T B w1 wb db v down l:=
 ⟨ht.has h.w_ h1,h.row.keep ht (Ext.refl _ _) (fun k _ hk => h2 k hk),h.ow,h.low,h.lw⟩
theorem DiskAt.far {w : World} {b wb : Nat} {ps : List ByteArray} {cut : Bool} {left : Int} (h : DiskAt w b ps cut left) (hn : b ≠ wb) (o : Nat) (v : Value) : DiskAt (w.setCell ⟨wb,o,none⟩ v) b ps cut left:=⟨h.d_.far (p:=⟨wb,o,none⟩) hn v,h.hp⟩
theorem slice_shape {own : Nat → Nat} {T B : Nat} {w : World} {wb db : Nat} {v : Value} {down : Bool} {l : List Rec} (h : WalAt own T B w wb db v down l) : ∃ a c,v = .slice a l.length c:=by
 rcases h.row.1.2 with ⟨e,h0⟩ | ⟨g,cap,cur,e,-⟩
 ·exact ⟨none,0,by rw [e,h0]⟩
 ·exact ⟨some ⟨g,0,none⟩,cap,e⟩
set_option maxHeartbeats 4000000 in
set_option maxRecDepth 100000 in
theorem Add_up (P : Lib.PrintTabs) (own : Nat → Nat) (T B : Nat) (w : World) (wb db : Nat) (v : Value) (ps : List ByteArray) (d : Disk) (r : Rec) (hs : r.data.length < 4611686018427387904) (torn : Int) (hK : KitB P B w)
 (h : WalAt own T B w wb db v false d.recs) (hD : DiskAt w db ps d.cut d.left) (hP : Places P ps d.recs) (hod : own db ≠ T) (hne : wb ≠ db) :
 Calls Tryz.prog 55 #[.pointer (some ⟨wb,0,none⟩),recV r,.int .i64 torn] w (AddPost P own T B w wb db (d.add false r)):=by
 obtain ⟨i0,hi0,hz0,hz1,hz2⟩:=info_parts infoRec;have HI:=Hd (And.intro hi0 (And.intro hz0 (And.intro hz1 hz2)));obtain ⟨a,c,rfl⟩:=slice_shape h;obtain ⟨n,hn⟩ : ∃ n,n = d.recs.length:=⟨_,rfl⟩;rw [← hn] at h;have hlt:=h.w_.lt;have hdlt:=hD.lt;have hl200:=hP.len;have c1:=h.w_.cell 1;have c2:=h.w_.cell 2;simp only [List.getElem?_toArray,List.getElem?_cons_zero,List.getElem?_cons_succ] at c1 c2;have hbW : Below w.heap.size w (w.alloc (.cells #[.int .i64 r.client,.int .i64 r.number,.int .i64 r.object,.int .i64 r.version,.string ⟨r.data.toArray⟩,.int .i64 r.epoch] 113)):=(Below.refl _ _).alloc (Nat.le_refl _) _;have RA:=right_any r hs (w.alloc (.cells #[.int .i64 r.client,.int .i64 r.number,.int .i64 r.object,.int .i64 r.version,.string ⟨r.data.toArray⟩,.int .i64 r.epoch] 113));have HBX0 : Hid (Has (w.alloc (.cells #[.int .i64 r.client,.int .i64 r.number,.int .i64 r.object,.int .i64 r.version,.string ⟨r.data.toArray⟩,.int .i64 r.epoch] 113)) w.heap.size (.cells #[.int .i64 r.client,.int .i64 r.number,.int .i64 r.object,.int .i64 r.version,.string ⟨r.data.toArray⟩,.int .i64 r.epoch] 113)):=Hd (Has.new _ _);have HW0:=Hd (h.below hbW (Nat.le_refl _));have HD0:=Hd (hD.below hbW hdlt);have HK0:=Hd (hK.below (hbW.mono hK.le));have HBW0:=Hd hbW;have HP:=Hd hP;have HOWN:=Hd (fun k (hk : (Value.slice a n c).ownBlock = some k) => And.intro (h.row.lt k hk) (And.intro (h.row.2 k hk) h.ow));have HLOW:=Hd h.low;have HN:=Hd hn;have hBle:=hK.le;have HOD:=Hd hod;have HNE:=Hd hne;unfold recV recCells;unfold recV recCells at RA;clear h hD hP hbW hK hi0 hz0 hz1 hz2 hn hod
 cases hr : r.right with
 | false =>
  rw [hr] at RA;rw [add_bad hr];clear hr;(go_enter Tryz.func55,Tryz.ntmps55);(go_wp2_with (go_at_call 80;refine RA.mono ?_;rintro e w1 ⟨rfl,hb1⟩;clear RA));go_ret;have hbb:=HBW0.out.trans (hb1.mono HBW0.out.size);exact ⟨rfl,own,_,ps,Ext.refl _ _,Turn.of_below hbb (Nat.le_refl _),HW0.out.below hb1 (Nat.le_refl _),HD0.out.below hb1 HD0.out.lt,HP.out⟩
 | true =>
  rw [hr] at RA;have HR:=Hd hr;clear hr;by_cases hfull : 200 ≤ n
  ·have d200 : decide ((200 : Int) ≤ (n : Int)) = true:=decide_eq_true (by omega);rw [add_full HR.out (by rw [← HN.out];exact hfull)];(go_enter Tryz.func55,Tryz.ntmps55);(go_wp2_with (go_at_call 80;refine RA.mono ?_;rintro e w1 ⟨rfl,hb1⟩;clear RA;have c3:=(HW0.out.below hb1 (Nat.le_refl _)).w_.cell 1;simp only [List.getElem?_toArray,List.getElem?_cons_zero,List.getElem?_cons_succ] at c3));go_ret;have hbb:=HBW0.out.trans (hb1.mono HBW0.out.size);exact ⟨rfl,own,_,ps,Ext.refl _ _,Turn.of_below hbb (Nat.le_refl _),HW0.out.below hb1 (Nat.le_refl _),HD0.out.below hb1 HD0.out.lt,HP.out⟩
  ·(have hn200 : n < 200:=by omega);have d200 : decide ((200 : Int) ≤ (n : Int)) = false:=decide_eq_false (by omega);(have hnI : ¬ (200 : Int) ≤ (n : Int):=by omega);by_cases hcl : d.cut = true ∧ d.left = 0
   ·rw [add_dev HR.out (by rw [← HN.out];exact hn200) hcl];have HCL:=Hd hcl;clear hcl;(go_enter Tryz.func55,Tryz.ntmps55);(go_wp2_with (go_at_call 80;refine RA.mono ?_;rintro e w1 ⟨rfl,hb1⟩;clear RA;have c3:=(HW0.out.below hb1 (Nat.le_refl _)).w_.cell 1;simp only [List.getElem?_toArray,List.getElem?_cons_zero,List.getElem?_cons_succ] at c3));have HW1:=Hd (HW0.out.below hb1 (Nat.le_refl _));have HD1:=Hd (HD0.out.below hb1 HD0.out.lt);have HK1:=Hd (HK0.out.below (hb1.mono HK0.out.le));have HBX1:=Hd (HBX0.out.below hb1 HBX0.out.lt);have HBW1:=Hd (HBW0.out.trans (hb1.mono HBW0.out.size));have HS : Hid (AS wb w.heap.size db (.slice a n c) false r w1.drew):=Hd ⟨HW1.out.w_,HBX1.out⟩;clear c3 hb1;refine last.head (AS wb w.heap.size db (.slice a n c) false r) 1000 19 ?_;refine last.many [(0,27,_),(1,28,_),(2,29,_),(3,30,_),(4,31,_),(5,32,_),(6,33,_),(7,34,_),(8,35,_),(9,36,_),(10,37,_),(11,38,_),(12,39,_),(13,40,_),(14,41,_),(16,43,_)] HS.out ?_ (hy:=fun W' hW' => by have hv0:=hW'.1.cell 0;simp only [List.getElem?_toArray,List.getElem?_cons_zero] at hv0;have hv1:=hW'.1.cell 1;simp only [List.getElem?_toArray,List.getElem?_cons_zero,List.getElem?_cons_succ] at hv1;have e0:=hW'.2.cell 0;have e1:=hW'.2.cell 1;have e2:=hW'.2.cell 2;have e3:=hW'.2.cell 3;have e4:=hW'.2.cell 4;have e5:=hW'.2.cell 5;simp only [List.getElem?_toArray,List.getElem?_cons_zero,List.getElem?_cons_succ] at e0 e1 e2 e3 e4 e5;repeat (first | exact .z | refine .s ?_ | refine .k ?_));have TA:=text_any P n (by omega) r (right_small HR.out) w1.drew (HK1.out.below (Below.refl _ _).drew).kit;obtain ⟨tx,htx⟩ : ∃ tx : ByteArray,tx = ⟨(text P n r).toArray⟩:=⟨_,rfl⟩;rw [← htx] at TA;have HTX:=Hd htx;(have htl : tx.size ≤ 1000:=by rw [htx];show (text P n r).toArray.size ≤ 1000;rw [List.size_toArray];exact text_len P n r (by omega) (by omega) (right_small HR.out));clear htx;refine last.one 15 fun K hK => ?_;go_simp;refine TA.mono ?_;rintro e w2 ⟨rfl,hb2⟩;have HS2:=Hd (HS.out.below hb2);refine hK.out _ _ (fun _ => HS2.out) ?_;clear hK K TA;have hb2' : Below w1.heap.size w1 w2:=⟨hb2.os,hb2.tape,hb2.output,hb2.size,hb2.block⟩;have HW2:=Hd (HW1.out.below hb2' (Nat.le_refl _));have HD2:=Hd (HD1.out.below hb2' HD1.out.lt);have HBW2:=Hd (HBW1.out.trans (hb2'.mono HBW1.out.size));clear hb2 hb2';have WA:=write_any db ps d.cut d.left n hn200 tx (by omega) torn w2 HD2.out;rw [if_pos HCL.out] at WA;simp only [if_pos HCL.out] at WA;refine last.one 17 fun K hK => ?_;go_simp;refine WA.mono ?_;rintro e w3 ⟨rfl,hd3,ht3⟩;have HS3:=Hd (HS2.out.turn ht3 HNE.out (by omega));refine hK.out _ _ (fun _ => HS3.out) ?_;clear hK K WA;have HW3:=Hd (HW2.out.turn ht3 HNE.out (fun k hk e => HOD.out (by rw [← show k = db from e];exact hk)));have HD3:=Hd hd3;have HT3:=Hd ht3;clear hd3 ht3;refine last.one 18 fun K hK => ?_;go_simp;refine hK.out _ _ (fun _ => HS3.out) ?_;clear hK K;refine last.done ?_;rw [errV_of (by decide : (14 : Int) ≠ 0)];have c3:=HW3.out.w_.cell 2;simp only [List.getElem?_toArray,List.getElem?_cons_zero,List.getElem?_cons_succ] at c3;have f3:=HW3.out.w_.frozen 2;go_wp2;go_ret;refine ⟨by rw [errV_of (by decide : (14 : Int) ≠ 0)];rfl,own,_,_,Ext.refl _ _,?_,HW3.out.setDown true,DiskAt.far HD3.out (Ne.symm HNE.out) 2 _,?_⟩
    ·have h1 : Turn (fun g => g = wb ∨ g = db ∨ own g = T) w w3:=(Turn.of_below HBW2.out (Nat.le_refl _)).trans HT3.out (fun k _ hk => .inr (.inl hk));exact h1.setCell (p:=⟨wb,2,none⟩) (.inr (.inl rfl)) _
    ·by_cases ht : 0 ≤ torn
     ·rw [if_pos ht];(have htz : 0 < tx.size:=by rw [HTX.out];show 0 < (text P n r).toArray.size;rw [List.size_toArray];exact text_pos P n r);have hlt2:=tornAt_lt htz ht;(have he : (tx.extract 0 (tornAt tx.size torn)).data.toList = (text P d.recs.length r).take (tornAt tx.size torn):=by rw [Lib.extract_from_zero,HTX.out,HN.out]);rw [HN.out];refine HP.out.tear HD0.out.hp r HR.out (by rw [← HN.out];exact hn200) _ ?_ ?_
      ·rw [he];exact List.take_prefix _ _
      ·intro e;(have h2 : ((text P d.recs.length r).take (tornAt tx.size torn)).length = (text P d.recs.length r).length:=by rw [← he,e]);(have h3 : tx.size = (text P d.recs.length r).length:=by rw [HTX.out,HN.out];show (text P d.recs.length r).toArray.size = _;rw [List.size_toArray]);rw [List.length_take] at h2;omega
     ·rw [if_neg ht];exact HP.out
   ·rw [add_ok HR.out (by rw [← HN.out];exact hn200) hcl];have HCL:=Hd hcl;clear hcl;(go_enter Tryz.func55,Tryz.ntmps55);(go_wp2_with (go_at_call 80;refine RA.mono ?_;rintro e w1 ⟨rfl,hb1⟩;clear RA;have c3:=(HW0.out.below hb1 (Nat.le_refl _)).w_.cell 1;simp only [List.getElem?_toArray,List.getElem?_cons_zero,List.getElem?_cons_succ] at c3));have HW1:=Hd (HW0.out.below hb1 (Nat.le_refl _));have HD1:=Hd (HD0.out.below hb1 HD0.out.lt);have HK1:=Hd (HK0.out.below (hb1.mono HK0.out.le));have HBX1:=Hd (HBX0.out.below hb1 HBX0.out.lt);have HBW1:=Hd (HBW0.out.trans (hb1.mono HBW0.out.size));have HS : Hid (AS wb w.heap.size db (.slice a n c) false r w1.drew):=Hd ⟨HW1.out.w_,HBX1.out⟩;clear c3 hb1;refine last.head (AS wb w.heap.size db (.slice a n c) false r) 1000 19 ?_;refine last.many [(0,27,_),(1,28,_),(2,29,_),(3,30,_),(4,31,_),(5,32,_),(6,33,_),(7,34,_),(8,35,_),(9,36,_),(10,37,_),(11,38,_),(12,39,_),(13,40,_),(14,41,_),(16,43,_)] HS.out ?_ (hy:=fun W' hW' => by have hv0:=hW'.1.cell 0;simp only [List.getElem?_toArray,List.getElem?_cons_zero] at hv0;have hv1:=hW'.1.cell 1;simp only [List.getElem?_toArray,List.getElem?_cons_zero,List.getElem?_cons_succ] at hv1;have e0:=hW'.2.cell 0;have e1:=hW'.2.cell 1;have e2:=hW'.2.cell 2;have e3:=hW'.2.cell 3;have e4:=hW'.2.cell 4;have e5:=hW'.2.cell 5;simp only [List.getElem?_toArray,List.getElem?_cons_zero,List.getElem?_cons_succ] at e0 e1 e2 e3 e4 e5;repeat (first | exact .z | refine .s ?_ | refine .k ?_));have TA:=text_any P n (by omega) r (right_small HR.out) w1.drew (HK1.out.below (Below.refl _ _).drew).kit;obtain ⟨tx,htx⟩ : ∃ tx : ByteArray,tx = ⟨(text P n r).toArray⟩:=⟨_,rfl⟩;rw [← htx] at TA;have HTX:=Hd htx;(have htl : tx.size ≤ 1000:=by rw [htx];show (text P n r).toArray.size ≤ 1000;rw [List.size_toArray];exact text_len P n r (by omega) (by omega) (right_small HR.out));clear htx;refine last.one 15 fun K hK => ?_;go_simp;refine TA.mono ?_;rintro e w2 ⟨rfl,hb2⟩;have HS2:=Hd (HS.out.below hb2);refine hK.out _ _ (fun _ => HS2.out) ?_;clear hK K TA;have hb2' : Below w1.heap.size w1 w2:=⟨hb2.os,hb2.tape,hb2.output,hb2.size,hb2.block⟩;have HW2:=Hd (HW1.out.below hb2' (Nat.le_refl _));have HD2:=Hd (HD1.out.below hb2' HD1.out.lt);have HBW2:=Hd (HBW1.out.trans (hb2'.mono HBW1.out.size));clear hb2 hb2';have WA:=write_any db ps d.cut d.left n hn200 tx (by omega) torn w2 HD2.out;rw [if_neg HCL.out] at WA;simp only [if_neg HCL.out] at WA;refine last.one 17 fun K hK => ?_;go_simp;refine WA.mono ?_;rintro e w3 ⟨rfl,hd3,ht3⟩;have HS3:=Hd (HS2.out.turn ht3 HNE.out (by omega));refine hK.out _ _ (fun _ => HS3.out) ?_;clear hK K WA;have HW3:=Hd (HW2.out.turn ht3 HNE.out (fun k hk e => HOD.out (by rw [← show k = db from e];exact hk)));have HD3:=Hd hd3;have HT3:=Hd ht3;clear hd3 ht3;refine last.one 18 fun K hK => ?_;go_simp;refine hK.out _ _ (fun _ => HS3.out) ?_;clear hK K;refine last.done ?_;rw [errV_zero];(go_wp2_with fail);have HW:=HW3;have HBX:=Hd HS3.out.2;have HBW : Hid (B ≤ w3.heap.size):=Hd (by have:=HT3.out.size;have:=HBW2.out.size;omega)
    have HNB : Hid (∀ k,(Value.slice a n c).ownBlock = some k → k ≠ wb ∧ k ≠ w.heap.size):=Hd fun k hk => by
     obtain ⟨h1,h2,h3⟩:=HOWN.out k hk;refine ⟨fun e => ?_,by omega⟩;rw [e,h3] at h2;omega
    rw [HN.out] at *
    have HS : Hid (AS wb (w.heap.size) db (.slice a d.recs.length c) false r w3.drew):=Hd ⟨HW.out.w_,HBX.out⟩
    have HRW : Hid ((w3.alloc (.cells #[.int .i64 r.client,.int .i64 r.number,.int .i64 r.object,.int .i64 r.version,.string ⟨r.data.toArray⟩,.int .i64 r.epoch] 113)).drew.ownsRow 0 113 6 (.slice a d.recs.length c) d.recs.length (recCs d.recs)):=Hd (HW.out.row.1.alloc _)
    have HSZ : Hid ((w3.alloc (.cells #[.int .i64 r.client,.int .i64 r.number,.int .i64 r.object,.int .i64 r.version,.string ⟨r.data.toArray⟩,.int .i64 r.epoch] 113)).drew.heap.size = w3.heap.size + 1):=Hd (World.size_alloc _ _)
    refine last.head (AS wb (w.heap.size) db (.slice a d.recs.length c) false r) 10 11 ?_
    refine last.many [(0,51,_),(1,52,_),(2,53,_),(3,54,_),(4,55,_),(5,56,_)] HS.out ?_ (hy:=fun W' hW' => by have hv1:=hW'.1.cell 1;simp only [List.getElem?_toArray,List.getElem?_cons_zero,List.getElem?_cons_succ] at hv1;have e0:=hW'.2.cell 0;have e1:=hW'.2.cell 1;have e2:=hW'.2.cell 2;have e3:=hW'.2.cell 3;have e4:=hW'.2.cell 4;have e5:=hW'.2.cell 5;simp only [List.getElem?_toArray,List.getElem?_cons_zero,List.getElem?_cons_succ] at e0 e1 e2 e3 e4 e5;repeat (first | exact .z | refine .s ?_ | refine .k ?_))
    refine last.one 6 fun K hK => ?_
    go_simp
    have HS2 : Hid (AS wb (w.heap.size) db (.slice a d.recs.length c) false r (w3.alloc (.cells #[.int .i64 r.client,.int .i64 r.number,.int .i64 r.object,.int .i64 r.version,.string ⟨r.data.toArray⟩,.int .i64 r.epoch] 113)).drew):=Hd (AS.alloc ⟨HW.out.w_,HBX.out⟩ _)
    refine hK.out _ _ (fun _ => HS2.out) ?_
    clear hK K
    refine last.wpAnyL_oneL (i:=7) (by kernel_rfl) (by simp only [List.getElem?_toArray,List.getElem?_cons_succ,List.getElem?_cons_zero];exact rfl) fun K hK => ?_
    refine step_append_lies _ (by rfl) (.tmp 55) (.tmp 57) 110 (by rfl) 0 113 i0 _ 6 56 Tryz.underlying110 HI.out.1 HI.out.2.1 HI.out.2.2.1 HI.out.2.2.2 (by rfl) (by decide) (.slice a d.recs.length c) d.recs.length (recCs d.recs) (by rfl) HRW.out ⟨w3.heap.size,0,none⟩ 1 1 (recRow r) (by rfl) rfl (rec_cells r) (recRow_one r) (by omega) (by unfold maxLen;omega) (by omega) (by simp) (w3.heap.size + 1) HSZ.out ?_
    intro g cap' w4 hown4 hg4 hgl hgw
    have HS4 : Hid (AS wb (w.heap.size) db (.slice a d.recs.length c) false r w4):=Hd (AS.grown HS2.out hg4 HNB.out)
    refine hK.out _ _ (fun _ => HS4.out) ?_
    have D4:=Hd (wal_append HW.out HBW.out hown4 hg4 hgl)
    clear hK K hown4 hg4 hgl hgw
    skip
    refine last.one 8 fun K hK => ?_;go_simp;refine hK.out _ _ (fun _ => HS4.out) ?_;clear hK K;refine last.one 9 fun K hK => ?_;go_simp;refine hK.out _ _ (fun _ => HS4.out) ?_;clear hK K;refine last.one 10 fun K hK => ?_;have hv1:=HS4.out.1.cell 1;simp only [List.getElem?_toArray,List.getElem?_cons_zero,List.getElem?_cons_succ] at hv1;have fv1:=HS4.out.1.frozen 1;go_simp;refine hK.out _ _ (fun h => absurd rfl h) ?_;clear hK K hv1 fv1;refine last.done ?_;go_wp2;go_ret;obtain ⟨own2,v2,he2,ht2,hw2⟩:=D4.out;have hz3:=HT3.out.size;have hz2:=HBW2.out.size;refine ⟨rfl,own2,v2,ps.set d.recs.length tx,fun k hk => he2 k (by omega),?_,hw2,?_,?_⟩
    ·have h1 : Turn (fun g => g = wb ∨ g = db ∨ own g = T) w w3:=(Turn.of_below HBW2.out (Nat.le_refl _)).trans HT3.out (fun k _ hk => .inr (.inl hk));exact h1.trans ht2 (fun k _ hk => hk.imp (fun h => h) (fun h => .inr h))
    ·exact HD3.out.turn ht2 (fun e => e.elim (fun h => HNE.out h.symm) HOD.out)
    ·have e:=HP.out.add HD0.out.hp r HR.out hn200;rw [← HTX.out] at e;exact e
end wal
end Go.Proofs.YtefkmcjhgoagcaaGreatDoor
