/-
  A part of the proof of the law WorldLasts: Toks.
-/
import Derived.Lib.QuoteLoop
import Derived.Lib.MapLaws
import Derived.Lib.IndexBytes
import Derived.Laws.BytesArg
namespace Go.Proofs.YtefkmcjhgoagcaaGreatDoor
namespace toks
open Go Go.Lib Go.RowKit
abbrev Bytes:=List UInt8
structure Tok where
 bs : Bytes
 r : Int
 m : Bool
def Tok.val (t : Tok) : Bytes:=if t.r < 128 ∨ t.m = false then [UInt8.ofNat t.r.toNat] else encodeRune t.r
def hd (x : Nat) : UInt8:=UInt8.ofNat (if x < 10 then 48 + x else 87 + x)
def hds (r : Nat) : Nat → Bytes
 | 0 => []
 | n + 1 => hd (r / 16 ^ n % 16) :: hds r n
def Short (x : UInt8) (v : Int) : Prop:=(x = 97 ∧ v = 7) ∨ (x = 98 ∧ v = 8) ∨ (x = 102 ∧ v = 12) ∨ (x = 110 ∧ v = 10) ∨ (x = 114 ∧ v = 13) ∨ (x = 116 ∧ v = 9) ∨ (x = 118 ∧ v = 11) ∨ (x = 92 ∧ v = 92) ∨ (x = 34 ∧ v = 34)
inductive TokOk : Tok → Prop
 | ascii (c : UInt8) (h0 : 32 ≤ c.toNat) (h1 : c.toNat < 127) (h2 : c.toNat ≠ 34) (h3 : c.toNat ≠ 92) : TokOk ⟨[c],c.toNat,false⟩
 | multi (r : Int) (h0 : 128 ≤ r) (h1 : validRune r = true) : TokOk ⟨encodeRune r,r,true⟩
 | short (x : UInt8) (v : Int) (h : Short x v) : TokOk ⟨[92,x],v,false⟩
 | hex (a : Nat) (h : a < 256) : TokOk ⟨[92,120,hd (a / 16),hd (a % 16)],a,false⟩
 | u4 (r : Nat) (h0 : 128 ≤ r) (h1 : r < 65536) (h2 : validRune (r : Int) = true) : TokOk ⟨92 :: 117 :: hds r 4,r,true⟩
 | u8 (r : Nat) (h0 : 65536 ≤ r) (h2 : validRune (r : Int) = true) : TokOk ⟨92 :: 85 :: hds r 8,r,true⟩
def toB (n : Int) : UInt8:=UInt8.ofNat n.toNat
theorem hd_eq (x : Nat) : toB (hexDigit x) = hd x:=by
 unfold hexDigit hd toB;split
 ·congr 1
 ·congr 1
theorem hds_eq (r : Nat) : ∀ n,(hexDigits r n).map toB = hds r n
 | 0 => rfl
 | n + 1 => by rw [hexDigits,List.map_cons,hds,hds_eq r n,hd_eq]
theorem enc_eq (r : Int) : (encodeRuneZ r).map toB = encodeRune r:=rfl
theorem enc_one {r : Int} (h0 : 0 ≤ r) (h1 : r < 128) : encodeRune r = [toB r]:=by
 rw [← enc_eq,encodeRuneZ_one h0 (by omega)];rfl
theorem latin {T : PrintTabs} {r : Int} (h0 : 0 ≤ r) (h1 : r < 128) : isPrintR T r = (decide (32 ≤ r) && decide (r ≤ 126)):=by
 unfold isPrintR;rw [if_pos (by omega)];unfold isPrintLatin;(have : decide (161 ≤ r) = false:=by simp;omega);rw [this];simp
theorem esc_tok (T : PrintTabs) (r : Nat) (hv : validRune (r : Int) = true) : ∃ t,TokOk t ∧ (escRune T r).map toB = t.bs ∧ t.val = encodeRune r:=by
 have small : ∀ x : Int,0 ≤ x → x < 128 → [UInt8.ofNat x.toNat] = encodeRune x:=fun x h0 h1 => (enc_one h0 h1).symm;unfold escRune;by_cases c0 : (r : Int) = 34 ∨ (r : Int) = 92
 ·rw [if_pos c0];rcases c0 with c0 | c0
  ·exact ⟨⟨[92,34],34,false⟩,.short 34 34 (by simp [Short]),by rw [c0];rfl,by rw [c0];exact small 34 (by omega) (by omega)⟩
  ·exact ⟨⟨[92,92],92,false⟩,.short 92 92 (by simp [Short]),by rw [c0];rfl,by rw [c0];exact small 92 (by omega) (by omega)⟩
 rw [if_neg c0];by_cases c1 : isPrintR T (r : Int) = true
 ·rw [if_pos c1];by_cases hr : (r : Int) < 128
  ·rw [latin (by omega) hr] at c1;simp only [Bool.and_eq_true,decide_eq_true_eq] at c1;(have e : ((UInt8.ofNat r).toNat : Int) = r:=by simp;omega);(have e' : (UInt8.ofNat r).toNat = r:=by omega);refine ⟨⟨[UInt8.ofNat r],((UInt8.ofNat r).toNat : Int),false⟩,.ascii _ (by omega) (by omega) (by omega) (by omega),?_,?_⟩
   ·rw [enc_eq,enc_one (by omega) hr];rfl
   ·rw [← small r (by omega) hr];simp [Tok.val,e']
  ·exact ⟨⟨encodeRune r,r,true⟩,.multi r (by omega) hv,enc_eq _,by simp [Tok.val];omega⟩
 rw [if_neg c1]
 have sh : ∀ (k : Nat) (x : UInt8),r = k → Short x k → k < 128 → ∃ t,TokOk t ∧ ([92,(x.toNat : Int)].map toB) = t.bs ∧ t.val = encodeRune r:=by
  intro k x hk hs h1;refine ⟨⟨[92,x],k,false⟩,.short x k hs,?_,?_⟩
  ·simp [toB]
  ·rw [hk,← small k (by omega) (by omega)];simp [Tok.val]
 by_cases c2 : (r : Int) = 7
 ·rw [if_pos c2];exact sh 7 97 (by omega) (by simp [Short]) (by omega)
 rw [if_neg c2];by_cases c3 : (r : Int) = 8
 ·rw [if_pos c3];exact sh 8 98 (by omega) (by simp [Short]) (by omega)
 rw [if_neg c3];by_cases c4 : (r : Int) = 12
 ·rw [if_pos c4];exact sh 12 102 (by omega) (by simp [Short]) (by omega)
 rw [if_neg c4];by_cases c5 : (r : Int) = 10
 ·rw [if_pos c5];exact sh 10 110 (by omega) (by simp [Short]) (by omega)
 rw [if_neg c5];by_cases c6 : (r : Int) = 13
 ·rw [if_pos c6];exact sh 13 114 (by omega) (by simp [Short]) (by omega)
 rw [if_neg c6];by_cases c7 : (r : Int) = 9
 ·rw [if_pos c7];exact sh 9 116 (by omega) (by simp [Short]) (by omega)
 rw [if_neg c7];by_cases c8 : (r : Int) = 11
 ·rw [if_pos c8];exact sh 11 118 (by omega) (by simp [Short]) (by omega)
 rw [if_neg c8];by_cases c9 : (r : Int) < 32 ∨ (r : Int) = 127
 ·rw [if_pos c9];refine ⟨⟨[92,120,hd (r / 16),hd (r % 16)],r,false⟩,.hex r (by omega),?_,?_⟩
  ·rw [Int.toNat_natCast];simp only [List.map_cons,List.map_nil,hd_eq];rfl
  ·rw [← small r (by omega) (by omega)];simp [Tok.val]
 rw [if_neg c9,if_neg (by rw [hv];simp)]
 have big : 128 ≤ r:=by
  rcases Nat.lt_or_ge r 128 with h | h
  ·rw [latin (by omega) (by omega)] at c1;simp only [Bool.and_eq_true,decide_eq_true_eq] at c1;omega
  ·exact h
 by_cases c10 : (r : Int) < 65536
 ·rw [if_pos c10];refine ⟨⟨92 :: 117 :: hds r 4,r,true⟩,.u4 r big (by omega) hv,?_,by simp [Tok.val];omega⟩;simp only [List.map_cons,hds_eq,Int.toNat_natCast];rfl
 ·rw [if_neg c10];refine ⟨⟨92 :: 85 :: hds r 8,r,true⟩,.u8 r (by omega) hv,?_,by simp [Tok.val];omega⟩;simp only [List.map_cons,hds_eq,Int.toNat_natCast];rfl
theorem step_tok (T : PrintTabs) (s : ByteArray) (h : 0 < s.size) : ∃ t,TokOk t ∧ (quoteStep T s).map toB = t.bs ∧ t.val = s.data.toList.take (Utf8.decode s 0).2:=by
 have hne : s.data.toList ≠ []:=fun e => by
  (have : s.data.toList.length = 0:=by rw [e];rfl);rw [Array.length_toList] at this;have h2 : s.data.size = s.size:=rfl;omega
 (have hd0 : decodeL s.data.toList = Utf8.decode s 0:=by have:=decodeL_drop s 0;rwa [List.drop_zero] at this);unfold quoteStep;by_cases hb : (Utf8.decode s 0).2 = 1 ∧ (Utf8.decode s 0).1 = 65533
 ·rw [if_pos hb];refine ⟨⟨[92,120,hd ((s.get! 0).toNat / 16),hd ((s.get! 0).toNat % 16)],(s.get! 0).toNat,false⟩,.hex _ (s.get! 0).toNat_lt,?_,?_⟩
  ·simp only [List.map_cons,List.map_nil,hd_eq];rfl
  ·rw [hb.1];obtain ⟨⟨l⟩⟩:=s
   cases l with
   | nil => exact absurd rfl hne
   | cons a l => simp [Tok.val,ByteArray.get!]
 ·rw [if_neg hb];obtain ⟨t,h1,h2,h3⟩:=esc_tok T (Utf8.decode s 0).1 (rune_valid s);refine ⟨t,h1,h2,?_⟩;rw [h3,← hd0];exact encode_decode _ hne (fun e => hb (by rw [hd0] at e;exact ⟨e.2,e.1⟩))
theorem from_toks (T : PrintTabs) : ∀ (f : Nat) (s : ByteArray),s.size ≤ f → ∃ ts : List Tok,(∀ t ∈ ts,TokOk t) ∧ (quoteFrom T f s).map toB = ts.flatMap Tok.bs ∧ ts.flatMap Tok.val = s.data.toList
 | 0,s,h => by
  refine ⟨[],(fun _ h => by cases h),rfl,?_⟩;have h2 : s.data.size = s.size:=rfl;exact (List.eq_nil_of_length_eq_zero (by rw [Array.length_toList];omega)).symm
 | f + 1,s,h => by
  unfold quoteFrom;by_cases h0 : 0 < s.size
  ·rw [if_pos h0];obtain ⟨t,h1,h2,h3⟩:=step_tok T s h0;have hw:=width_pos s 0;have hsz : (s.extract (Utf8.decode s 0).2 s.size).size = s.size - (Utf8.decode s 0).2:=size_rest s _;obtain ⟨ts,g1,g2,g3⟩:=from_toks T f (s.extract (Utf8.decode s 0).2 s.size) (by omega);refine ⟨t :: ts,fun x hx => by rcases List.mem_cons.1 hx with rfl | hx;exact h1;exact g1 x hx,?_,?_⟩
   ·rw [List.map_append,h2,g2,List.flatMap_cons]
   ·rw [List.flatMap_cons,h3,g3,Lib.extract_to_end,List.take_append_drop]
  ·rw [if_neg h0];refine ⟨[],(fun _ h => by cases h),rfl,?_⟩;have h2 : s.data.size = s.size:=rfl;exact (List.eq_nil_of_length_eq_zero (by rw [Array.length_toList];omega)).symm
theorem quote_toks (T : PrintTabs) (s : ByteArray) : ∃ ts : List Tok,(∀ t ∈ ts,TokOk t) ∧ (strOfNums (quoteZ T s)).data.toList = 34 :: (ts.flatMap Tok.bs ++ [34]) ∧ ts.flatMap Tok.val = s.data.toList:=by
 obtain ⟨ts,h1,h2,h3⟩:=from_toks T s.size s (Nat.le_refl _);refine ⟨ts,h1,?_,h3⟩;rw [strOfNums_data,quoteZ];simp only [List.map_cons,List.map_append,List.map_nil];rw [← h2];rfl
end toks
end Go.Proofs.YtefkmcjhgoagcaaGreatDoor
