/-
  A part of the proof of the law WorldLasts: UnqE, UnqF.
-/
import Derived.Deep.LoopGhost
import Derived.Laws.BytesArg
import Derived.Lib.BufferWrite
import Derived.Shelf.Unicode.DecodeSlow
import Derived.Shelf.Bytes.SlSmallAll
import Derived.Test.YtefkmcjhgoagcaaGreatDoorHd
import Derived.Test.YtefkmcjhgoagcaaGreatDoorP19
namespace Go.Proofs.YtefkmcjhgoagcaaGreatDoor
namespace unq
open Go.RowKit toks heap own
theorem byte_info : (Tryz.prog.info? 5).map (fun i => (i.zero,i.size,i.bytes)) = some (some (.int .u8 0),1,1):=by kernel_rfl
theorem convert_own {w : World} {B n : Nat} {v : Value} {l : Bytes} (h : w.ownsRow B 5 1 v n (Lib.byteCells l)) (hn : n = l.length) :
 (convert 56 9 v).run Tryz.prog w = .ok (.string ⟨l.toArray⟩) w:=by
 subst hn;rcases h.2 with ⟨rfl,h0⟩ | ⟨g,cap,cur,rfl,hb,hg,h1,h2,h3,h4⟩
 ·have:=List.eq_nil_of_length_eq_zero h0;subst this;exact run_convert_bytes_zero w _ _ Tryz.underlying56 Tryz.underlying5 none 0 _ Tryz.underlying9
 ·rcases Nat.eq_zero_or_pos l.length with h0 | h0
  ·have:=List.eq_nil_of_length_eq_zero h0;subst this;exact run_convert_bytes_zero w _ _ Tryz.underlying56 Tryz.underlying5 _ cap _ Tryz.underlying9
  ·refine run_convert_bytes_back w _ _ _ ⟨g,0,none⟩ cap l Tryz.underlying56 Tryz.underlying5 Tryz.underlying9 (fun j hj => ?_);rw [show (⟨g,0,none⟩ : Addr).add j = ⟨g,j,none⟩ from by by_cases h0 : j = 0 <;> simp [Addr.add,h0]];rw [(row_cell (w:=w) (n:=l.length) (size:=1) hg h4 j (by omega)).1];simp [Lib.byteCells,List.getElem?_eq_getElem hj]
structure InStr (s : ByteArray) (ts : List Tok) (T : Bytes) : Prop where
 e : s.data.toList = 34 :: (ts.flatMap Tok.bs ++ T)
 ok : ∀ t ∈ ts,TokOk t
 small : s.size < 100000
theorem size_list (s : ByteArray) : s.size = s.data.toList.length:=rfl
theorem at_list (s : ByteArray) (k : Nat) (h : k < s.size) (b : UInt8) (hb : s.data.toList[k]? = some b) : s[k]'h = b:=by
 (have : s.data.toList[k]? = some (s[k]'h):=by rw [List.getElem?_eq_getElem (by rw [← size_list];exact h)];rfl);rw [this] at hb;exact Option.some.inj hb
def strLen : Value → Nat
 | .string s => s.size
 | _ => 0
theorem tok_range {t : Tok} (h : TokOk t) : 0 ≤ t.r ∧ t.r < 1114112 ∧ (t.m = false → t.r < 256):=by
 cases h with
 | ascii c h0 h1 h2 h3 => exact ⟨by simp,by simp;omega,fun _ => by simp;omega⟩
 | multi r h0 hv => simp only [Lib.validRune,decide_eq_true_eq] at hv;exact ⟨by simp;omega,by simp;omega,fun e => by cases e⟩
 | short x v h => unfold Short at h;simp only;omega
 | hex a h => exact ⟨by simp,by simp;omega,fun _ => by simp;omega⟩
 | u4 r h0 h1 hv => exact ⟨by simp,by simp;omega,fun e => by cases e⟩
 | u8 r h0 hv => simp only [Lib.validRune,decide_eq_true_eq] at hv;exact ⟨by simp,by simp;omega,fun e => by cases e⟩
theorem tok_len {t : Tok} (h : TokOk t) : t.val.length ≤ 4 ∧ t.val.length ≤ 4 * t.bs.length:=by
 have h1 : t.val.length ≤ 4:=by
  unfold Tok.val;split
  ·simp
  ·have:=Lib.encodeRuneZ_length t.r;simp [Lib.encodeRune];omega
 obtain ⟨b,l,hb,-,-⟩:=tok_head h;exact ⟨h1,by rw [hb];simp;omega⟩
theorem vals_len : ∀ (ts : List Tok),(∀ t ∈ ts,TokOk t) → (ts.flatMap Tok.val).length ≤ 4 * (ts.flatMap Tok.bs).length
 | [],_ => by simp
 | t :: ts,h => by
  have h1:=(tok_len (h t (by simp))).2;have h2:=vals_len ts (fun x hx => h x (by simp [hx]));simp only [List.flatMap_cons,List.length_append];omega
theorem take_len (ts : List Tok) (k : Nat) : ((ts.take k).flatMap Tok.val).length ≤ (ts.flatMap Tok.val).length:=by
 (have h : ts.flatMap Tok.val = (ts.take k).flatMap Tok.val ++ (ts.drop k).flatMap Tok.val:=by rw [← List.flatMap_append,List.take_append_drop]);rw [h,List.length_append];omega
theorem row_snoc {w : World} {B k m : Nat} {ts : List Tok} {t : Tok} {v : Value} {cs : List Value} {N : Nat} {L : List Value} (hN : N = ((ts.take k).flatMap Tok.val).length) (hL : L = Lib.byteCells ((ts.take k).flatMap Tok.val)) (hk : ts.take (k + 1) = ts.take k ++ [t]) (hm : t.val.length = m) (hc : Lib.byteCells t.val = cs)
 (h : w.ownsRow B 5 1 v (N + m) (L ++ cs)) :
 w.ownsRow B 5 1 v ((ts.take (k + 1)).flatMap Tok.val).length (Lib.byteCells ((ts.take (k + 1)).flatMap Tok.val)):=by
 (have e : (ts.take (k + 1)).flatMap Tok.val = (ts.take k).flatMap Tok.val ++ t.val:=by rw [hk];simp);rw [e,List.length_append,Lib.byteCells_append,hm,hc,← hN,← hL];exact h
theorem below_grown {w wm : World} (h : w.grownBy wm none) : Below w.heap.size w wm:=⟨h.os,h.tape,h.output,h.size,fun k hk => h.block k hk (by simp)⟩
theorem U8.below {w w' : World} (h : U8 w) (hb : Below w.heap.size w w') : U8 w':=Utf8Tabs_below h hb
theorem plain_case {s u : ByteArray} {ts : List Tok} {T : Bytes} {o : Nat} (hok : ∀ t ∈ ts,TokOk t) (hT : T = [34] ∨ T = []) (hu : u.data.toList = ts.flatMap Tok.bs ++ T) (ho : u.data.toList[o]? = some 34)
 (hs : s.data.toList = 34 :: (ts.flatMap Tok.bs ++ T)) (hc : false = (Lib.indexByte (s.extract 0 (o + 2)).data.toList ((92 : Int).toNat.toUInt8) != -1)) :
 T = [34] ∧ o + 2 = s.size ∧ (s.extract 0 (o + 2)).extract 1 (o + 1) = ⟨(ts.flatMap Tok.val).toArray⟩:=by
 have h92 : (92 : UInt8) ∉ s.data.toList.take (o + 2):=by
  intro hm;obtain ⟨k,hk⟩:=List.mem_iff_getElem?.1 hm
  have e : Lib.indexByte (s.data.toList.take (o + 2)) 92 = -1:=by
   have hc':=hc.symm;rw [Lib.extract_from_zero] at hc';have:=bne_eq_false_iff_eq.1 hc';exact this
  exact Lib.indexByte_none e k hk
 rw [hs,List.take_succ_cons] at h92;have h92' : (92 : UInt8) ∉ (ts.flatMap Tok.bs ++ T).take (o + 1):=fun h => h92 (List.mem_cons_of_mem _ h);rw [hu] at ho
 have hlen : ¬ o < (ts.flatMap Tok.bs).length:=by
  intro hl;rw [List.getElem?_append_left hl] at ho;have:=toks_quote ts hok o ho;apply h92';rw [List.take_append_of_le_length (by omega)];exact List.mem_of_mem_take (l:=(ts.flatMap Tok.bs).take (o + 1)) (i:=o) (by rw [List.take_take,Nat.min_eq_left (by omega)];exact this)
 rw [List.getElem?_append_right (by omega)] at ho;rcases hT with rfl | rfl
 ·have ho' : o = (ts.flatMap Tok.bs).length:=by
   cases hq : o - (ts.flatMap Tok.bs).length with
   | zero => omega
   | succ n => rw [hq] at ho;simp at ho
  (have hsz : s.size = o + 2:=by rw [size_list,hs,ho'];simp);refine ⟨rfl,hsz.symm,?_⟩;have hb : (92 : UInt8) ∉ ts.flatMap Tok.bs:=fun h => h92' (by rw [ho',List.take_of_length_le (by simp)];exact List.mem_append_left _ h);have hp:=(toks_plain ts hok hb).1;apply ba_ext;rw [Lib.extract_data,Lib.extract_from_zero,hs,hp,ho'];have e1 : (34 :: (ts.flatMap Tok.bs ++ [34])).take ((ts.flatMap Tok.bs).length + 2) = 34 :: (ts.flatMap Tok.bs ++ [34]):=List.take_of_length_le (by rw [List.length_cons,List.length_append];exact Nat.le_refl _);rw [e1];show List.take ((ts.flatMap Tok.bs).length + 1 - 1) (ts.flatMap Tok.bs ++ [34]) = ts.flatMap Tok.bs;exact List.take_left' (Nat.add_sub_cancel _ _).symm
 ·simp at ho
set_option maxHeartbeats 4000000 in
set_option maxRecDepth 100000 in
theorem unquote_try (s : ByteArray) (ts : List Tok) (T : Bytes) (hT : T = [34] ∨ T = []) (h : InStr s ts T) (ev : Value) (w : World) (hU : U8 w) (hE : w.cell? ⟨0,0,none⟩ = some ev) :
 Calls Tryz.prog 130 #[.string s,.bool true] w fun e w' =>
  e = .returned (if T = [34] then .tuple #[.string ⟨(ts.flatMap Tok.val).toArray⟩,.string ⟨#[]⟩,.nilIface] else .tuple #[.string ⟨#[]⟩,.string s,ev]) ∧ Below w.heap.size w w':=by
 (have hsz : s.size = 1 + (ts.flatMap Tok.bs).length + T.length:=by rw [size_list,h.e];simp;omega);(have hs0 : 0 < s.size:=by omega);obtain ⟨i0,hi0,iz0,iz1,iz2⟩:=info_parts byte_info
 have hEl : 0 < w.heap.size:=by
  rcases Nat.lt_or_ge 0 w.heap.size with h' | h'
  ·exact h'
  ·simp [World.cell?,Array.getElem?_eq_none h'] at hE
 obtain ⟨i0,hi0,iz0,iz1,iz2⟩:=info_parts byte_info
 have hEl : 0 < w.heap.size:=by
  rcases Nat.lt_or_ge 0 w.heap.size with h' | h'
  ·exact h'
  ·simp [World.cell?,Array.getElem?_eq_none h'] at hE
 obtain ⟨i0,hi0,iz0,iz1,iz2⟩:=info_parts byte_info
 have hEl : 0 < w.heap.size:=by
  rcases Nat.lt_or_ge 0 w.heap.size with h' | h'
  ·exact h'
  ·simp [World.cell?,Array.getElem?_eq_none h'] at hE
 (have e0 : ((s[0]'hs0).toNat : Int) = 34:=by rw [at_list s 0 hs0 34 (by rw [h.e];rfl)];rfl);have HVB : Hid ((ts.flatMap Tok.val).length ≤ 400000):=Hd (by have:=vals_len ts h.ok;have:=h.small;omega);have H:=Hd h;have HT:=Hd hT;have HSZ:=Hd hsz;have hsm:=h.small;(have hsI : (0 : Int) < s.size:=by omega);clear h hT hsz;by_cases h2 : s.size < 2
 ·have b2 : decide ((s.size : Int) < 2) = true:=decide_eq_true (by omega)
  have hT0 : ¬ T = [34]:=fun e => by have hsz:=HSZ.out;rw [e] at hsz;simp at hsz;omega
  rw [if_neg hT0]
  go_enter Tryz.func130,Tryz.ntmps130
  go_wp2
  go_quiet (fail)
  go_wp2
  go_ret3
  exact ⟨rfl,below_drewN (Below.refl _ _) _⟩
 ·have b2 : decide ((s.size : Int) < 2) = false:=decide_eq_false (by omega);(have h1I : (1 : Int) ≤ s.size:=by omega);obtain ⟨u,hu⟩ : ∃ u,u = s.extract 1 s.size:=⟨_,rfl⟩;(have hul : u.data.toList = ts.flatMap Tok.bs ++ T:=by rw [hu,Lib.extract_to_end,H.out.e];rfl);(have husz : u.size = s.size - 1:=by rw [hu];simp);have hu':=hu.symm;have HU:=Hd hul;have HUZ:=Hd husz;(have husm : u.size < 100000:=by omega);clear hu hul husz;have IX:=index_any u 34 w;obtain ⟨i,hi⟩ : ∃ i,i = Lib.indexByte u.data.toList ((34 : Int).toNat.toUInt8):=⟨_,rfl⟩;rw [← hi] at IX;have hge:=Lib.indexByte_ge u.data.toList ((34 : Int).toNat.toUInt8);rw [← hi] at hge;have HI:=Hd hi;clear hi;by_cases h0 : i < 0
  ·have d0 : decide (i < 0) = true:=decide_eq_true h0
   have hT0 : ¬ T = [34]:=fun e => by
    have h5:=Lib.indexByte_none (l:=u.data.toList) (c:=34) (by have:=HI.out;have e34 : (34 : Int).toNat.toUInt8 = (34 : UInt8):=rfl;rw [e34] at this;omega) (ts.flatMap Tok.bs).length;rw [HU.out,e] at h5;simp at h5
   rw [if_neg hT0]
   go_enter Tryz.func130,Tryz.ntmps130
   go_wp2_with (go_at_call 148;refine IX.mono ?_;rintro e w1 ⟨rfl,rfl⟩)
   go_quiet (fail)
   go_wp2
   go_ret3
   exact ⟨rfl,below_drewN (Below.refl _ _) _⟩
  ·obtain ⟨o,rfl⟩ : ∃ o : Nat,i = o:=⟨i.toNat,by omega⟩;have d0 : decide ((o : Int) < 0) = false:=decide_eq_false h0;have hio:=Lib.indexByte_some (l:=u.data.toList) (c:=34) (o:=o) HI.out.symm
   have hou : o < u.size:=by
    rw [size_list];have:=hio.1;rcases Nat.lt_or_ge o u.data.toList.length with h' | h'
    ·exact h'
    ·rw [List.getElem?_eq_none h'] at this;cases this
   (have hos : o + 2 ≤ s.size:=by have:=HUZ.out;omega);(have hosI : (o : Int) + 2 ≤ s.size:=by omega);have HIO:=Hd hio;clear hio h0 hge;obtain ⟨c1,hc1⟩ : ∃ c1,c1 = (Lib.indexByte (s.extract 0 (o + 2)).data.toList ((92 : Int).toNat.toUInt8) != -1):=⟨_,rfl⟩;obtain ⟨c2,hc2⟩ : ∃ c2,c2 = (Lib.indexByte (s.extract 0 (o + 2)).data.toList ((10 : Int).toNat.toUInt8) != -1):=⟨_,rfl⟩;have C1:=contains_any (s.extract 0 (o + 2)) 92 w;rw [← hc1] at C1;have C2:=contains_any (s.extract 0 (o + 2)) 10 w;rw [← hc2] at C2;have HC1:=Hd hc1;clear hc1 hc2;have hr1 : (34 : Int) = 34:=rfl
   cases hcc : c1 with
   | true =>
    subst hcc;go_enter Tryz.func130,Tryz.ntmps130
    go_wp2_with (first
     | (go_at_call 148;refine IX.mono ?_;rintro e w1 ⟨rfl,rfl⟩)
     | (go_at_call 149;refine C1.mono ?_;rintro e w1 ⟨rfl,rfl⟩;clear C1)
     | (go_at_call 149;refine C2.mono ?_;rintro e w1 ⟨rfl,rfl⟩;clear C2)
     | (at_make;refine wpList_make_own _ rfl _ _ 56 rfl w.heap.size 5 i0 (.int .u8 0) 1 Tryz.underlying56 hi0 iz0 iz1 _ _ _ (3 * (o + 2) / 2) rfl rfl (by omega) (by rw [iz2];omega) (by unfold maxLen;omega) (Nat.le_refl _) ?_;intro wm hown hgm))
    (go_loopw [0,4,5,6,14,16,17,18,19] (fun q0 q4 q5 q6 q14 _ _ _ _ wr => ∃ (k : Nat) (x : ByteArray),k ≤ ts.length ∧ q0 = .string x ∧ x.data.toList = (ts.drop k).flatMap Tok.bs ++ T ∧ q4 = .string ⟨#[]⟩ ∧ q5 = .string ⟨#[]⟩ ∧ q6 = .nilIface ∧ wr.ownsRow w.heap.size 5 1 q14 ((ts.take k).flatMap Tok.val).length (Lib.byteCells ((ts.take k).flatMap Tok.val)) ∧ Below w.heap.size w wr ∧ x.size < 100000) (fun q0 _ _ _ _ _ _ _ _ _ => strLen q0));case atStart => exact ⟨0,u,by omega,by simp,by rw [HU.out];simp,by simp,by simp,by simp,hown,below_grown hgm,husm⟩
    case round =>
     obtain ⟨k,x,hk,rfl,hx,rfl,rfl,rfl,hrow,hb,hxs⟩:=hrel;have HX:=Hd hx;have HROW:=Hd hrow;have HB:=Hd hb;have hbs:=hb.size;have HGE:=Hd (owns_ge hrow);have hv9 : ((ts.take k).flatMap Tok.val).length ≤ 400000:=Nat.le_trans (take_len ts k) HVB.out;have HK9:=Hd hv9;have hU1 : U8 wr:=U8.below hU hb;have hE1 : wr.cell? ⟨0,0,none⟩ = some ev:=(hb.cell (p:=⟨0,0,none⟩) hEl).trans hE;clear hx hrow hb hv9;by_cases hkl : k < ts.length
     ·obtain ⟨t,ht⟩ : ∃ t,ts[k]? = some t:=⟨_,List.getElem?_eq_getElem hkl⟩;have htok : TokOk t:=H.out.ok t (List.mem_of_getElem? ht);(have hdrop : ts.drop k = t :: ts.drop (k + 1):=by rw [List.drop_eq_getElem_cons hkl];congr 1;rw [List.getElem?_eq_getElem hkl] at ht;exact Option.some.inj ht);(have htake : ts.take (k + 1) = ts.take k ++ [t]:=by rw [List.take_add_one,ht];rfl);obtain ⟨bb,ll,hbl,hb34,hb10⟩:=tok_head htok;(have hxl : x.data.toList = t.bs ++ ((ts.drop (k + 1)).flatMap Tok.bs ++ T):=by rw [HX.out,hdrop,List.flatMap_cons,List.append_assoc]);(have hx0 : 0 < x.size:=by rw [size_list,hxl,hbl];simp);have hxb : x[0]'hx0 = bb:=at_list x 0 hx0 bb (by rw [hxl,hbl];rfl);have g1 : (((x[0]'hx0).toNat : Int) != 34) = true:=bne_iff_ne.mpr (fun e => hb34 (by rw [hxb] at e;exact UInt8.toNat_inj.1 (by simpa using Int.ofNat_inj.1 e)));have g2 : (((x[0]'hx0).toNat : Int) == 10) = false:=beq_eq_false_iff_ne.mpr (fun e => hb10 (by rw [hxb] at e;exact UInt8.toNat_inj.1 (by simpa using Int.ofNat_inj.1 e)));have g0 : decide ((0 : Int) < x.size) = true:=decide_eq_true (by omega);(have hxI : (0 : Int) < x.size:=by omega);have HXB : Hid (x[0]'hx0 = bb):=Hd hxb;obtain ⟨y,hy⟩ : ∃ y : ByteArray,y = ⟨((ts.drop (k + 1)).flatMap Tok.bs ++ T).toArray⟩:=⟨_,rfl⟩;have CT:=char_tok t htok _ x (ba_ext hxl) hxs wr hU1;rw [← hy] at CT;(have hyl : y.data.toList = (ts.drop (k + 1)).flatMap Tok.bs ++ T:=by rw [hy]);(have hyx : y.size < x.size:=by rw [size_list,size_list,hyl,hxl,hbl];simp;omega);have HYL:=Hd hyl;have HTK:=Hd htake;obtain ⟨hr0,hr1,hr2⟩:=tok_range htok;have HLEN:=Hd (tok_len htok);obtain ⟨r,hr⟩ : ∃ r,r = t.r:=⟨_,rfl⟩;obtain ⟨m,hm⟩ : ∃ m,m = t.m:=⟨_,rfl⟩;have HVAL : Hid (t.val = if r < 128 ∨ m = false then [UInt8.ofNat r.toNat] else Lib.encodeRune r):=Hd (by rw [hr,hm];rfl);rw [← hr,← hm] at CT;rw [← hr] at hr0 hr1 hr2;rw [← hm] at hr2;have HR2:=Hd hr2;clear ht htok hdrop htake hbl hb34 hb10 hxl hxb hy hyl hr hm hr2;obtain ⟨N,hN⟩ : ∃ N,N = ((ts.take k).flatMap Tok.val).length:=⟨_,rfl⟩;obtain ⟨L,hL⟩ : ∃ L,L = Lib.byteCells ((ts.take k).flatMap Tok.val):=⟨_,rfl⟩;have HRN : Hid (wr.ownsRow w.heap.size 5 1 _ N L):=Hd (by rw [hN,hL];exact HROW.out);(have hN9 : N ≤ 400000:=by rw [hN];exact HK9.out);have HN:=Hd hN;have HL:=Hd hL;clear hN hL;by_cases hsm : r < 128 ∨ m = false
      ·(have hv1 : t.val = [UInt8.ofNat r.toNat]:=by rw [HVAL.out,if_pos hsm]);(have hr256 : r < 256:=by rcases hsm with h | h;omega;exact HR2.out h);(have hu8 : r % 256 = r:=by omega);have HSM : Hid (Value.int .u8 r = .int .u8 ((UInt8.ofNat r.toNat).toNat : Int)):=Hd (by congr 1;simp;omega);have HV1:=Hd hv1;have HG : Hid ((decide (r < 128) = true) ∨ (decide (r < 128) = false ∧ m = false)):=Hd (by rcases hsm with h | h;exact .inl (decide_eq_true h);by_cases h' : r < 128;exact .inl (decide_eq_true h');exact .inr ⟨decide_eq_false h',h⟩);have HWU : Hid (IntKind.u8.wrap r = r):=Hd (by simp only [IntKind.wrap,IntKind.signed,IntKind.bits];simp;omega);clear hsm hv1;rcases HG.out with dd | ⟨dd,rfl⟩
       all_goals
        go_wp2_with (first
         | (go_at_call 152;refine CT.mono ?_;rintro e w1 ⟨rfl,hb1⟩;clear CT;have HROW2:=Hd ((owns_below HRN.out hb1).alloc (.cells #[.int .u8 r] 5));have hw1:=hb1.size)
         | (at_builtin;refine wpList_append_own _ rfl (.tmp 186) (.tmp 189) 56 rfl w.heap.size 5 i0 (.int .u8 0) 1 1 Tryz.underlying56 hi0 iz0 iz1 iz2 rfl (by decide) _ _ _ rfl HROW2.out ⟨w1.heap.size,0,none⟩ 1 1 [.int .u8 r] rfl rfl ?c1 (by simp [Value.oneCell']) ?c3 ?c4 ?c5 ?_))
        case c1 =>
         intro j v hj;have hn:=Has.new w1 (.cells #[.int .u8 r] 5)
         match j,hj with
         | 0,hj =>
          (obtain rfl : Value.int .u8 r = v:=by simpa using hj);exact hn.cell 0
        (case c3 => unfold maxLen;omega);(case c4 => omega);(case c5 => simp;omega);intro v2 w2 hown2 hg2 _;(go_wp2_with fail);go_roundw
        case rel =>
         exact ⟨k + 1,y,by omega,rfl,HYL.out,rfl,rfl,rfl,row_snoc (m:=1) (cs:=[.int .u8 r]) HN.out HL.out HTK.out (by rw [HV1.out];rfl) (by rw [HV1.out,HSM.out];rfl) hown2,((HB.out.trans (hb1.mono hbs)).alloc (by omega) _).grown hg2 (by simp;omega) (fun j hj => HGE.out j hj),by omega⟩
        case measure => exact hyx
      ·(have hv1 : t.val = Lib.encodeRune r:=by rw [HVAL.out,if_neg hsm]);(have hm1 : m = true:=by cases m with | true => rfl | false => exact absurd (Or.inr rfl) hsm);subst hm1;have dd : decide (r < 128) = false:=decide_eq_false (fun h => hsm (.inl h));have HV1:=Hd hv1;clear hsm hv1
       go_wp2_with (first
        | (go_at_call 152;refine CT.mono ?_;rintro e w1 ⟨rfl,hb1⟩;clear CT;have HROW2:=Hd (owns_below HRN.out hb1);have hw1:=hb1.size)
        | (go_at_call 153;refine (Tryz.utf8_AppendRune_plain w.heap.size _ _ _ r (by omega) (by omega) _ HROW2.out (by omega) (by omega)).mono ?_;rintro e w2 ⟨v2,rfl,hown2,oo,hg2⟩))
       go_roundw
       case rel =>
        exact ⟨k + 1,y,by omega,rfl,HYL.out,rfl,rfl,rfl,row_snoc (m:=(Lib.runeCells r).length) (cs:=Lib.runeCells r) HN.out HL.out HTK.out (by rw [HV1.out,Lib.runeCells_length]) (by rw [HV1.out,Lib.byteCells_encodeRune]) hown2,((HB.out.trans (hb1.mono hbs)).alloc (by omega) _).grown hg2 (by simp;omega) (fun j hj => HGE.out j hj),by omega⟩
       case measure => exact hyx
     ·(have hk' : k = ts.length:=by omega);subst hk';(have hxT : x.data.toList = T:=by rw [HX.out];simp);have CV:=convert_own HROW.out (by rw [List.take_length]);rw [List.take_length] at CV;have HCV:=Hd CV;rcases HT.out with hT | hT
      ·have hx1 : x.size = 1:=by rw [size_list,hxT,hT];rfl
       have hx0 : 0 < x.size:=by omega
       have hxb : x[0]'hx0 = 34:=at_list x 0 hx0 34 (by rw [hxT,hT];rfl)
       have g1 : (((x[0]'hx0).toNat : Int) != 34) = false:=by rw [hxb];rfl
       have g2 : (((x[0]'hx0).toNat : Int) == 34) = true:=by rw [hxb];rfl
       have g0 : decide ((0 : Int) < x.size) = true:=decide_eq_true (by omega)
       have hxI : (0 : Int) < x.size:=by omega
       have hxJ : (1 : Int) ≤ x.size:=by omega
       have hxe : x.extract 1 x.size = ⟨#[]⟩:=ba_ext (by rw [Lib.extract_to_end,hxT,hT];rfl)
       have HXE:=Hd hxe
       have HTT:=Hd hT
       clear hx1 hxb hxT hT hxe
       go_wp2_with fail
       go_ret3
       try rw [if_pos HTT.out]
       rw [HXE.out];exact ⟨rfl,HB.out⟩
      ·have hx1 : x.size = 0:=by rw [size_list,hxT,hT];rfl
       have g0 : decide ((0 : Int) < x.size) = false:=decide_eq_false (by omega)
       have HTT : Hid (¬ T = [34]):=Hd (by rw [hT];simp)
       clear hxT hT CV
       go_wp2_with fail
       go_quiet (fail)
       go_wp2
       go_ret3
       try rw [if_neg HTT.out]
       exact ⟨rfl,below_drewN HB.out _⟩
   | false =>
    subst hcc
    cases c2 with
    | true =>
     go_enter Tryz.func130,Tryz.ntmps130
     go_wp2_with (first
      | (go_at_call 148;refine IX.mono ?_;rintro e w1 ⟨rfl,rfl⟩)
      | (go_at_call 149;refine C1.mono ?_;rintro e w1 ⟨rfl,rfl⟩;clear C1)
      | (go_at_call 149;refine C2.mono ?_;rintro e w1 ⟨rfl,rfl⟩;clear C2)
      | (at_make;refine wpList_make_own _ rfl _ _ 56 rfl w.heap.size 5 i0 (.int .u8 0) 1 Tryz.underlying56 hi0 iz0 iz1 _ _ _ (3 * (o + 2) / 2) rfl rfl (by omega) (by rw [iz2];omega) (by unfold maxLen;omega) (Nat.le_refl _) ?_;intro wm hown hgm))
     (go_loopw [0,4,5,6,14,16,17,18,19] (fun q0 q4 q5 q6 q14 _ _ _ _ wr => ∃ (k : Nat) (x : ByteArray),k ≤ ts.length ∧ q0 = .string x ∧ x.data.toList = (ts.drop k).flatMap Tok.bs ++ T ∧ q4 = .string ⟨#[]⟩ ∧ q5 = .string ⟨#[]⟩ ∧ q6 = .nilIface ∧ wr.ownsRow w.heap.size 5 1 q14 ((ts.take k).flatMap Tok.val).length (Lib.byteCells ((ts.take k).flatMap Tok.val)) ∧ Below w.heap.size w wr ∧ x.size < 100000) (fun q0 _ _ _ _ _ _ _ _ _ => strLen q0));case atStart => exact ⟨0,u,by omega,by simp,by rw [HU.out];simp,by simp,by simp,by simp,hown,below_grown hgm,husm⟩
     case round =>
      obtain ⟨k,x,hk,rfl,hx,rfl,rfl,rfl,hrow,hb,hxs⟩:=hrel;have HX:=Hd hx;have HROW:=Hd hrow;have HB:=Hd hb;have hbs:=hb.size;have HGE:=Hd (owns_ge hrow);have hv9 : ((ts.take k).flatMap Tok.val).length ≤ 400000:=Nat.le_trans (take_len ts k) HVB.out;have HK9:=Hd hv9;have hU1 : U8 wr:=U8.below hU hb;have hE1 : wr.cell? ⟨0,0,none⟩ = some ev:=(hb.cell (p:=⟨0,0,none⟩) hEl).trans hE;clear hx hrow hb hv9;by_cases hkl : k < ts.length
      ·obtain ⟨t,ht⟩ : ∃ t,ts[k]? = some t:=⟨_,List.getElem?_eq_getElem hkl⟩;have htok : TokOk t:=H.out.ok t (List.mem_of_getElem? ht);(have hdrop : ts.drop k = t :: ts.drop (k + 1):=by rw [List.drop_eq_getElem_cons hkl];congr 1;rw [List.getElem?_eq_getElem hkl] at ht;exact Option.some.inj ht);(have htake : ts.take (k + 1) = ts.take k ++ [t]:=by rw [List.take_add_one,ht];rfl);obtain ⟨bb,ll,hbl,hb34,hb10⟩:=tok_head htok;(have hxl : x.data.toList = t.bs ++ ((ts.drop (k + 1)).flatMap Tok.bs ++ T):=by rw [HX.out,hdrop,List.flatMap_cons,List.append_assoc]);(have hx0 : 0 < x.size:=by rw [size_list,hxl,hbl];simp);have hxb : x[0]'hx0 = bb:=at_list x 0 hx0 bb (by rw [hxl,hbl];rfl);have g1 : (((x[0]'hx0).toNat : Int) != 34) = true:=bne_iff_ne.mpr (fun e => hb34 (by rw [hxb] at e;exact UInt8.toNat_inj.1 (by simpa using Int.ofNat_inj.1 e)));have g2 : (((x[0]'hx0).toNat : Int) == 10) = false:=beq_eq_false_iff_ne.mpr (fun e => hb10 (by rw [hxb] at e;exact UInt8.toNat_inj.1 (by simpa using Int.ofNat_inj.1 e)));have g0 : decide ((0 : Int) < x.size) = true:=decide_eq_true (by omega);(have hxI : (0 : Int) < x.size:=by omega);have HXB : Hid (x[0]'hx0 = bb):=Hd hxb;obtain ⟨y,hy⟩ : ∃ y : ByteArray,y = ⟨((ts.drop (k + 1)).flatMap Tok.bs ++ T).toArray⟩:=⟨_,rfl⟩;have CT:=char_tok t htok _ x (ba_ext hxl) hxs wr hU1;rw [← hy] at CT;(have hyl : y.data.toList = (ts.drop (k + 1)).flatMap Tok.bs ++ T:=by rw [hy]);(have hyx : y.size < x.size:=by rw [size_list,size_list,hyl,hxl,hbl];simp;omega);have HYL:=Hd hyl;have HTK:=Hd htake;obtain ⟨hr0,hr1,hr2⟩:=tok_range htok;have HLEN:=Hd (tok_len htok);obtain ⟨r,hr⟩ : ∃ r,r = t.r:=⟨_,rfl⟩;obtain ⟨m,hm⟩ : ∃ m,m = t.m:=⟨_,rfl⟩;have HVAL : Hid (t.val = if r < 128 ∨ m = false then [UInt8.ofNat r.toNat] else Lib.encodeRune r):=Hd (by rw [hr,hm];rfl);rw [← hr,← hm] at CT;rw [← hr] at hr0 hr1 hr2;rw [← hm] at hr2;have HR2:=Hd hr2;clear ht htok hdrop htake hbl hb34 hb10 hxl hxb hy hyl hr hm hr2;obtain ⟨N,hN⟩ : ∃ N,N = ((ts.take k).flatMap Tok.val).length:=⟨_,rfl⟩;obtain ⟨L,hL⟩ : ∃ L,L = Lib.byteCells ((ts.take k).flatMap Tok.val):=⟨_,rfl⟩;have HRN : Hid (wr.ownsRow w.heap.size 5 1 _ N L):=Hd (by rw [hN,hL];exact HROW.out);(have hN9 : N ≤ 400000:=by rw [hN];exact HK9.out);have HN:=Hd hN;have HL:=Hd hL;clear hN hL;by_cases hsm : r < 128 ∨ m = false
       ·(have hv1 : t.val = [UInt8.ofNat r.toNat]:=by rw [HVAL.out,if_pos hsm]);(have hr256 : r < 256:=by rcases hsm with h | h;omega;exact HR2.out h);(have hu8 : r % 256 = r:=by omega);have HSM : Hid (Value.int .u8 r = .int .u8 ((UInt8.ofNat r.toNat).toNat : Int)):=Hd (by congr 1;simp;omega);have HV1:=Hd hv1;have HG : Hid ((decide (r < 128) = true) ∨ (decide (r < 128) = false ∧ m = false)):=Hd (by rcases hsm with h | h;exact .inl (decide_eq_true h);by_cases h' : r < 128;exact .inl (decide_eq_true h');exact .inr ⟨decide_eq_false h',h⟩);have HWU : Hid (IntKind.u8.wrap r = r):=Hd (by simp only [IntKind.wrap,IntKind.signed,IntKind.bits];simp;omega);clear hsm hv1;rcases HG.out with dd | ⟨dd,rfl⟩
        all_goals
         go_wp2_with (first
          | (go_at_call 152;refine CT.mono ?_;rintro e w1 ⟨rfl,hb1⟩;clear CT;have HROW2:=Hd ((owns_below HRN.out hb1).alloc (.cells #[.int .u8 r] 5));have hw1:=hb1.size)
          | (at_builtin;refine wpList_append_own _ rfl (.tmp 186) (.tmp 189) 56 rfl w.heap.size 5 i0 (.int .u8 0) 1 1 Tryz.underlying56 hi0 iz0 iz1 iz2 rfl (by decide) _ _ _ rfl HROW2.out ⟨w1.heap.size,0,none⟩ 1 1 [.int .u8 r] rfl rfl ?c1 (by simp [Value.oneCell']) ?c3 ?c4 ?c5 ?_))
         case c1 =>
          intro j v hj;have hn:=Has.new w1 (.cells #[.int .u8 r] 5)
          match j,hj with
          | 0,hj =>
           (obtain rfl : Value.int .u8 r = v:=by simpa using hj);exact hn.cell 0
         (case c3 => unfold maxLen;omega);(case c4 => omega);(case c5 => simp;omega);intro v2 w2 hown2 hg2 _;(go_wp2_with fail);go_roundw
         case rel =>
          exact ⟨k + 1,y,by omega,rfl,HYL.out,rfl,rfl,rfl,row_snoc (m:=1) (cs:=[.int .u8 r]) HN.out HL.out HTK.out (by rw [HV1.out];rfl) (by rw [HV1.out,HSM.out];rfl) hown2,((HB.out.trans (hb1.mono hbs)).alloc (by omega) _).grown hg2 (by simp;omega) (fun j hj => HGE.out j hj),by omega⟩
         case measure => exact hyx
       ·(have hv1 : t.val = Lib.encodeRune r:=by rw [HVAL.out,if_neg hsm]);(have hm1 : m = true:=by cases m with | true => rfl | false => exact absurd (Or.inr rfl) hsm);subst hm1;have dd : decide (r < 128) = false:=decide_eq_false (fun h => hsm (.inl h));have HV1:=Hd hv1;clear hsm hv1
        go_wp2_with (first
         | (go_at_call 152;refine CT.mono ?_;rintro e w1 ⟨rfl,hb1⟩;clear CT;have HROW2:=Hd (owns_below HRN.out hb1);have hw1:=hb1.size)
         | (go_at_call 153;refine (Tryz.utf8_AppendRune_plain w.heap.size _ _ _ r (by omega) (by omega) _ HROW2.out (by omega) (by omega)).mono ?_;rintro e w2 ⟨v2,rfl,hown2,oo,hg2⟩))
        go_roundw
        case rel =>
         exact ⟨k + 1,y,by omega,rfl,HYL.out,rfl,rfl,rfl,row_snoc (m:=(Lib.runeCells r).length) (cs:=Lib.runeCells r) HN.out HL.out HTK.out (by rw [HV1.out,Lib.runeCells_length]) (by rw [HV1.out,Lib.byteCells_encodeRune]) hown2,((HB.out.trans (hb1.mono hbs)).alloc (by omega) _).grown hg2 (by simp;omega) (fun j hj => HGE.out j hj),by omega⟩
        case measure => exact hyx
      ·(have hk' : k = ts.length:=by omega);subst hk';(have hxT : x.data.toList = T:=by rw [HX.out];simp);have CV:=convert_own HROW.out (by rw [List.take_length]);rw [List.take_length] at CV;have HCV:=Hd CV;rcases HT.out with hT | hT
       ·have hx1 : x.size = 1:=by rw [size_list,hxT,hT];rfl
        have hx0 : 0 < x.size:=by omega
        have hxb : x[0]'hx0 = 34:=at_list x 0 hx0 34 (by rw [hxT,hT];rfl)
        have g1 : (((x[0]'hx0).toNat : Int) != 34) = false:=by rw [hxb];rfl
        have g2 : (((x[0]'hx0).toNat : Int) == 34) = true:=by rw [hxb];rfl
        have g0 : decide ((0 : Int) < x.size) = true:=decide_eq_true (by omega)
        have hxI : (0 : Int) < x.size:=by omega
        have hxJ : (1 : Int) ≤ x.size:=by omega
        have hxe : x.extract 1 x.size = ⟨#[]⟩:=ba_ext (by rw [Lib.extract_to_end,hxT,hT];rfl)
        have HXE:=Hd hxe
        have HTT:=Hd hT
        clear hx1 hxb hxT hT hxe
        go_wp2_with fail
        go_ret3
        try rw [if_pos HTT.out]
        rw [HXE.out];exact ⟨rfl,HB.out⟩
       ·have hx1 : x.size = 0:=by rw [size_list,hxT,hT];rfl
        have g0 : decide ((0 : Int) < x.size) = false:=decide_eq_false (by omega)
        have HTT : Hid (¬ T = [34]):=Hd (by rw [hT];simp)
        clear hxT hT CV
        go_wp2_with fail
        go_quiet (fail)
        go_wp2
        go_ret3
        try rw [if_neg HTT.out]
        exact ⟨rfl,below_drewN HB.out _⟩
    | false =>
     obtain ⟨vd,hvd⟩ : ∃ vd,vd = Lib.validD (s.extract 1 (o + 1)).data.toList:=⟨_,rfl⟩;have VS:=Tryz.utf8_ValidString (s.extract 1 (o + 1)) w (by simp;omega) hU;rw [← hvd] at VS;clear hvd
     cases vd with
     | false =>
      go_enter Tryz.func130,Tryz.ntmps130
      go_wp2_with (first
       | (go_at_call 148;refine IX.mono ?_;rintro e w1 ⟨rfl,rfl⟩)
       | (go_at_call 149;refine C1.mono ?_;rintro e w1 ⟨rfl,rfl⟩;clear C1)
       | (go_at_call 149;refine C2.mono ?_;rintro e w1 ⟨rfl,rfl⟩;clear C2)
       | (go_at_call 150;refine VS.mono ?_;rintro e w1 ⟨rfl,hbv⟩;clear VS;have hbz:=hbv.size;have HBV:=Hd hbv;clear hbv)
       | (at_make;refine wpList_make_own _ rfl _ _ 56 rfl w.heap.size 5 i0 (.int .u8 0) 1 Tryz.underlying56 hi0 iz0 iz1 _ _ _ (3 * (o + 2) / 2) rfl rfl (by omega) (by rw [iz2];omega) (by unfold maxLen;omega) hbz ?_;intro wm hown hgm))
      (go_loopw [0,4,5,6,14,16,17,18,19] (fun q0 q4 q5 q6 q14 _ _ _ _ wr => ∃ (k : Nat) (x : ByteArray),k ≤ ts.length ∧ q0 = .string x ∧ x.data.toList = (ts.drop k).flatMap Tok.bs ++ T ∧ q4 = .string ⟨#[]⟩ ∧ q5 = .string ⟨#[]⟩ ∧ q6 = .nilIface ∧ wr.ownsRow w.heap.size 5 1 q14 ((ts.take k).flatMap Tok.val).length (Lib.byteCells ((ts.take k).flatMap Tok.val)) ∧ Below w.heap.size w wr ∧ x.size < 100000) (fun q0 _ _ _ _ _ _ _ _ _ => strLen q0));case atStart => exact ⟨0,u,by omega,by simp,by rw [HU.out];simp,by simp,by simp,by simp,hown,(HBV.out.trans ((below_grown hgm).mono hbz)),husm⟩
      case round =>
       obtain ⟨k,x,hk,rfl,hx,rfl,rfl,rfl,hrow,hb,hxs⟩:=hrel;have HX:=Hd hx;have HROW:=Hd hrow;have HB:=Hd hb;have hbs:=hb.size;have HGE:=Hd (owns_ge hrow);have hv9 : ((ts.take k).flatMap Tok.val).length ≤ 400000:=Nat.le_trans (take_len ts k) HVB.out;have HK9:=Hd hv9;have hU1 : U8 wr:=U8.below hU hb;have hE1 : wr.cell? ⟨0,0,none⟩ = some ev:=(hb.cell (p:=⟨0,0,none⟩) hEl).trans hE;clear hx hrow hb hv9;by_cases hkl : k < ts.length
       ·obtain ⟨t,ht⟩ : ∃ t,ts[k]? = some t:=⟨_,List.getElem?_eq_getElem hkl⟩;have htok : TokOk t:=H.out.ok t (List.mem_of_getElem? ht);(have hdrop : ts.drop k = t :: ts.drop (k + 1):=by rw [List.drop_eq_getElem_cons hkl];congr 1;rw [List.getElem?_eq_getElem hkl] at ht;exact Option.some.inj ht);(have htake : ts.take (k + 1) = ts.take k ++ [t]:=by rw [List.take_add_one,ht];rfl);obtain ⟨bb,ll,hbl,hb34,hb10⟩:=tok_head htok;(have hxl : x.data.toList = t.bs ++ ((ts.drop (k + 1)).flatMap Tok.bs ++ T):=by rw [HX.out,hdrop,List.flatMap_cons,List.append_assoc]);(have hx0 : 0 < x.size:=by rw [size_list,hxl,hbl];simp);have hxb : x[0]'hx0 = bb:=at_list x 0 hx0 bb (by rw [hxl,hbl];rfl);have g1 : (((x[0]'hx0).toNat : Int) != 34) = true:=bne_iff_ne.mpr (fun e => hb34 (by rw [hxb] at e;exact UInt8.toNat_inj.1 (by simpa using Int.ofNat_inj.1 e)));have g2 : (((x[0]'hx0).toNat : Int) == 10) = false:=beq_eq_false_iff_ne.mpr (fun e => hb10 (by rw [hxb] at e;exact UInt8.toNat_inj.1 (by simpa using Int.ofNat_inj.1 e)));have g0 : decide ((0 : Int) < x.size) = true:=decide_eq_true (by omega);(have hxI : (0 : Int) < x.size:=by omega);have HXB : Hid (x[0]'hx0 = bb):=Hd hxb;obtain ⟨y,hy⟩ : ∃ y : ByteArray,y = ⟨((ts.drop (k + 1)).flatMap Tok.bs ++ T).toArray⟩:=⟨_,rfl⟩;have CT:=char_tok t htok _ x (ba_ext hxl) hxs wr hU1;rw [← hy] at CT;(have hyl : y.data.toList = (ts.drop (k + 1)).flatMap Tok.bs ++ T:=by rw [hy]);(have hyx : y.size < x.size:=by rw [size_list,size_list,hyl,hxl,hbl];simp;omega);have HYL:=Hd hyl;have HTK:=Hd htake;obtain ⟨hr0,hr1,hr2⟩:=tok_range htok;have HLEN:=Hd (tok_len htok);obtain ⟨r,hr⟩ : ∃ r,r = t.r:=⟨_,rfl⟩;obtain ⟨m,hm⟩ : ∃ m,m = t.m:=⟨_,rfl⟩;have HVAL : Hid (t.val = if r < 128 ∨ m = false then [UInt8.ofNat r.toNat] else Lib.encodeRune r):=Hd (by rw [hr,hm];rfl);rw [← hr,← hm] at CT;rw [← hr] at hr0 hr1 hr2;rw [← hm] at hr2;have HR2:=Hd hr2;clear ht htok hdrop htake hbl hb34 hb10 hxl hxb hy hyl hr hm hr2;obtain ⟨N,hN⟩ : ∃ N,N = ((ts.take k).flatMap Tok.val).length:=⟨_,rfl⟩;obtain ⟨L,hL⟩ : ∃ L,L = Lib.byteCells ((ts.take k).flatMap Tok.val):=⟨_,rfl⟩;have HRN : Hid (wr.ownsRow w.heap.size 5 1 _ N L):=Hd (by rw [hN,hL];exact HROW.out);(have hN9 : N ≤ 400000:=by rw [hN];exact HK9.out);have HN:=Hd hN;have HL:=Hd hL;clear hN hL;by_cases hsm : r < 128 ∨ m = false
        ·(have hv1 : t.val = [UInt8.ofNat r.toNat]:=by rw [HVAL.out,if_pos hsm]);(have hr256 : r < 256:=by rcases hsm with h | h;omega;exact HR2.out h);(have hu8 : r % 256 = r:=by omega);have HSM : Hid (Value.int .u8 r = .int .u8 ((UInt8.ofNat r.toNat).toNat : Int)):=Hd (by congr 1;simp;omega);have HV1:=Hd hv1;have HG : Hid ((decide (r < 128) = true) ∨ (decide (r < 128) = false ∧ m = false)):=Hd (by rcases hsm with h | h;exact .inl (decide_eq_true h);by_cases h' : r < 128;exact .inl (decide_eq_true h');exact .inr ⟨decide_eq_false h',h⟩);have HWU : Hid (IntKind.u8.wrap r = r):=Hd (by simp only [IntKind.wrap,IntKind.signed,IntKind.bits];simp;omega);clear hsm hv1;rcases HG.out with dd | ⟨dd,rfl⟩
         all_goals
          go_wp2_with (first
           | (go_at_call 152;refine CT.mono ?_;rintro e w1 ⟨rfl,hb1⟩;clear CT;have HROW2:=Hd ((owns_below HRN.out hb1).alloc (.cells #[.int .u8 r] 5));have hw1:=hb1.size)
           | (at_builtin;refine wpList_append_own _ rfl (.tmp 186) (.tmp 189) 56 rfl w.heap.size 5 i0 (.int .u8 0) 1 1 Tryz.underlying56 hi0 iz0 iz1 iz2 rfl (by decide) _ _ _ rfl HROW2.out ⟨w1.heap.size,0,none⟩ 1 1 [.int .u8 r] rfl rfl ?c1 (by simp [Value.oneCell']) ?c3 ?c4 ?c5 ?_))
          case c1 =>
           intro j v hj;have hn:=Has.new w1 (.cells #[.int .u8 r] 5)
           match j,hj with
           | 0,hj =>
            (obtain rfl : Value.int .u8 r = v:=by simpa using hj);exact hn.cell 0
          (case c3 => unfold maxLen;omega);(case c4 => omega);(case c5 => simp;omega);intro v2 w2 hown2 hg2 _;(go_wp2_with fail);go_roundw
          case rel =>
           exact ⟨k + 1,y,by omega,rfl,HYL.out,rfl,rfl,rfl,row_snoc (m:=1) (cs:=[.int .u8 r]) HN.out HL.out HTK.out (by rw [HV1.out];rfl) (by rw [HV1.out,HSM.out];rfl) hown2,((HB.out.trans (hb1.mono hbs)).alloc (by omega) _).grown hg2 (by simp;omega) (fun j hj => HGE.out j hj),by omega⟩
          case measure => exact hyx
        ·(have hv1 : t.val = Lib.encodeRune r:=by rw [HVAL.out,if_neg hsm]);(have hm1 : m = true:=by cases m with | true => rfl | false => exact absurd (Or.inr rfl) hsm);subst hm1;have dd : decide (r < 128) = false:=decide_eq_false (fun h => hsm (.inl h));have HV1:=Hd hv1;clear hsm hv1
         go_wp2_with (first
          | (go_at_call 152;refine CT.mono ?_;rintro e w1 ⟨rfl,hb1⟩;clear CT;have HROW2:=Hd (owns_below HRN.out hb1);have hw1:=hb1.size)
          | (go_at_call 153;refine (Tryz.utf8_AppendRune_plain w.heap.size _ _ _ r (by omega) (by omega) _ HROW2.out (by omega) (by omega)).mono ?_;rintro e w2 ⟨v2,rfl,hown2,oo,hg2⟩))
         go_roundw
         case rel =>
          exact ⟨k + 1,y,by omega,rfl,HYL.out,rfl,rfl,rfl,row_snoc (m:=(Lib.runeCells r).length) (cs:=Lib.runeCells r) HN.out HL.out HTK.out (by rw [HV1.out,Lib.runeCells_length]) (by rw [HV1.out,Lib.byteCells_encodeRune]) hown2,((HB.out.trans (hb1.mono hbs)).alloc (by omega) _).grown hg2 (by simp;omega) (fun j hj => HGE.out j hj),by omega⟩
         case measure => exact hyx
       ·(have hk' : k = ts.length:=by omega);subst hk';(have hxT : x.data.toList = T:=by rw [HX.out];simp);have CV:=convert_own HROW.out (by rw [List.take_length]);rw [List.take_length] at CV;have HCV:=Hd CV;rcases HT.out with hT | hT
        ·have hx1 : x.size = 1:=by rw [size_list,hxT,hT];rfl
         have hx0 : 0 < x.size:=by omega
         have hxb : x[0]'hx0 = 34:=at_list x 0 hx0 34 (by rw [hxT,hT];rfl)
         have g1 : (((x[0]'hx0).toNat : Int) != 34) = false:=by rw [hxb];rfl
         have g2 : (((x[0]'hx0).toNat : Int) == 34) = true:=by rw [hxb];rfl
         have g0 : decide ((0 : Int) < x.size) = true:=decide_eq_true (by omega)
         have hxI : (0 : Int) < x.size:=by omega
         have hxJ : (1 : Int) ≤ x.size:=by omega
         have hxe : x.extract 1 x.size = ⟨#[]⟩:=ba_ext (by rw [Lib.extract_to_end,hxT,hT];rfl)
         have HXE:=Hd hxe
         have HTT:=Hd hT
         clear hx1 hxb hxT hT hxe
         go_wp2_with fail
         go_ret3
         try rw [if_pos HTT.out]
         rw [HXE.out];exact ⟨rfl,HB.out⟩
        ·have hx1 : x.size = 0:=by rw [size_list,hxT,hT];rfl
         have g0 : decide ((0 : Int) < x.size) = false:=decide_eq_false (by omega)
         have HTT : Hid (¬ T = [34]):=Hd (by rw [hT];simp)
         clear hxT hT CV
         go_wp2_with fail
         go_quiet (fail)
         go_wp2
         go_ret3
         try rw [if_neg HTT.out]
         exact ⟨rfl,below_drewN HB.out _⟩
     | true =>
      have HPL:=Hd (plain_case H.out.ok HT.out HU.out HIO.out.1 H.out.e HC1.out);have hT1:=HPL.out.1;rw [if_pos hT1];clear hT1;go_enter Tryz.func130,Tryz.ntmps130
      go_wp2_with (first
       | (go_at_call 148;refine IX.mono ?_;rintro e w1 ⟨rfl,rfl⟩)
       | (go_at_call 149;refine C1.mono ?_;rintro e w1 ⟨rfl,rfl⟩;clear C1)
       | (go_at_call 149;refine C2.mono ?_;rintro e w1 ⟨rfl,rfl⟩;clear C2)
       | (go_at_call 150;refine VS.mono ?_;rintro e w1 ⟨rfl,hbv⟩;clear VS;have hbz:=hbv.size;have HBV:=Hd hbv;clear hbv)
       | (at_make;refine wpList_make_own _ rfl _ _ 56 rfl w.heap.size 5 i0 (.int .u8 0) 1 Tryz.underlying56 hi0 iz0 iz1 _ _ _ (3 * (o + 2) / 2) rfl rfl (by omega) (by rw [iz2];omega) (by unfold maxLen;omega) hbz ?_;intro wm hown hgm))
      go_quiet (fail)
      go_wp2
      go_ret3
      have hex : s.extract (o + 2) s.size = ⟨#[]⟩:=ba_ext (by rw [Lib.extract_to_end,List.drop_of_length_le (by rw [← size_list];have:=HPL.out.2.1;omega)]);have h3 : (s.extract 0 (o + 2)).extract 1 (o + 2 - 1) = ⟨(ts.flatMap Tok.val).toArray⟩:=HPL.out.2.2;rw [h3,hex];exact ⟨rfl,below_drewN HBV.out _⟩
set_option maxHeartbeats 1000000 in
set_option maxRecDepth 100000 in
theorem Unquote_whole (s : ByteArray) (ts : List Tok) (h : InStr s ts [34]) (ev : Value) (w : World) (hU : U8 w) (hE : w.cell? ⟨0,0,none⟩ = some ev) :
 Calls Tryz.prog 107 #[.string s] w fun e w' => e = .returned (.tuple #[.string ⟨(ts.flatMap Tok.val).toArray⟩,.nilIface]) ∧ Below w.heap.size w w':=by
 have U:=unquote_try s ts [34] (.inl rfl) h ev w hU hE;rw [if_pos rfl] at U;obtain ⟨d,hd⟩ : ∃ d : ByteArray,d = ⟨(ts.flatMap Tok.val).toArray⟩:=⟨_,rfl⟩;rw [← hd] at U ⊢;clear hd h;(go_enter Tryz.func107,Tryz.ntmps107);(go_wp2_with (go_at_call 130;refine U.mono ?_;rintro e w1 ⟨rfl,hb⟩));go_ret2;exact ⟨rfl,hb⟩
set_option maxHeartbeats 1000000 in
set_option maxRecDepth 100000 in
theorem Unquote_torn (s : ByteArray) (ts : List Tok) (h : InStr s ts []) (ev : Value) (w : World) (hU : U8 w) (hE : w.cell? ⟨0,0,none⟩ = some ev) :
 Calls Tryz.prog 107 #[.string s] w fun e w' => e = .returned (.tuple #[.string ⟨#[]⟩,ev]) ∧ Below w.heap.size w w':=by
 have U:=unquote_try s ts [] (.inr rfl) h ev w hU hE;rw [if_neg (by simp)] at U;(have hs : (0 : Int) < s.size:=by have : s.size = _:=size_list s;rw [h.e] at this;simp at this;omega);have d0 : decide ((0 : Int) < s.size) = true:=decide_eq_true hs
 have hEl : 0 < w.heap.size:=by
  rcases Nat.lt_or_ge 0 w.heap.size with h' | h'
  ·exact h'
  ·simp [World.cell?,Array.getElem?_eq_none h'] at hE
 clear h;(go_enter Tryz.func107,Tryz.ntmps107);(go_wp2_with (go_at_call 130;refine U.mono ?_;rintro e w1 ⟨rfl,hb⟩;have hE1:=(hb.cell (p:=⟨0,0,none⟩) hEl).trans hE));(go_quiet (fail));go_wp2;go_ret2;exact ⟨rfl,below_drewN hb _⟩
end unq
end Go.Proofs.YtefkmcjhgoagcaaGreatDoor
