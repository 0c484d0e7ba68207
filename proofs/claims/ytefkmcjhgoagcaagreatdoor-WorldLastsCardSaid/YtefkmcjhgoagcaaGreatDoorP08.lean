/-
  A part of the proof of the law WorldLasts: WalP.
-/
import Derived.Lib.Join
import Derived.Lib.Atoi
import Derived.Lib.ItoaNum
import Derived.Lib.IndexBytes
import Derived.Lib.Split
import Derived.Lib.LastIndexByte
import Derived.Test.YtefkmcjhgoagcaaGreatDoorP02
import Derived.Test.YtefkmcjhgoagcaaGreatDoorP07
namespace Go.Proofs.YtefkmcjhgoagcaaGreatDoor
namespace recs
open Go Go.Lib toks
open model (Rec)
theorem digit_byte (d : Nat) (h : d < 10) : (UInt8.ofNat (48 + d)).toNat = 48 + d:=by
 rw [UInt8.toNat_ofNat'];omega
theorem dig_range (u : Nat) : ∀ b ∈ decDigits u,48 ≤ b.toNat ∧ b.toNat ≤ 57:=by
 induction u using Nat.strongRecOn with
 | _ u ih =>
  intro b hb;rw [decDigits] at hb;split at hb
  ·rw [List.mem_singleton.1 hb,digit_byte _ (by omega)];omega
  ·rcases List.mem_append.1 hb with hb | hb
   ·exact ih _ (by omega) b hb
   ·rw [List.mem_singleton.1 hb,digit_byte _ (by omega)];omega
theorem decFrom_append : ∀ (a b : Bytes) (acc : Nat),decFrom acc (a ++ b) = (decFrom acc a).bind fun x => decFrom x b
 | [],b,acc => rfl
 | x :: a,b,acc => by
  rw [List.cons_append,decFrom,decFrom]
  cases digitVal x with
  | none => rfl
  | some d => exact decFrom_append a b _
theorem decFrom_dig (u : Nat) : decFrom 0 (decDigits u) = some u:=by
 induction u using Nat.strongRecOn with
 | _ u ih =>
  rw [decDigits];split
  ·rename_i h;rw [decFrom,digitVal,digit_byte _ h,if_pos (by omega)];simp [decFrom]
  ·rename_i h;rw [decFrom_append,ih _ (by omega)];have e:=digit_byte (u % 10) (by omega);rw [Option.bind_some,decFrom,digitVal,e,if_pos (by omega)];simp [decFrom];omega
theorem dig_ne (u : Nat) : decDigits u ≠ []:=by
 rw [decDigits];split <;> simp
theorem decNat_dig (u : Nat) : decNat (decDigits u) = some u:=by
 (have h : (decDigits u).isEmpty = false:=by simp [dig_ne u]);rw [decNat,h];exact decFrom_dig u
theorem atoi_itoa (n : Int) : atoi (itoa n) = some n:=by
 unfold itoa;split
 ·rename_i h;rw [atoi,if_pos (by rfl),decNat_dig];simp;omega
 ·rename_i h
  cases hd : decDigits n.toNat with
  | nil => exact absurd hd (dig_ne _)
  | cons b l =>
   have hb:=dig_range n.toNat b (by rw [hd];simp);have h1 : (b == 45) = false:=beq_eq_false_iff_ne.2 (fun e => by rw [e] at hb;simp at hb);have h2 : (b == 43) = false:=beq_eq_false_iff_ne.2 (fun e => by rw [e] at hb;simp at hb);rw [atoi,h1,h2];simp only [Bool.false_eq_true,if_false];rw [← hd,decNat_dig];simp;omega
theorem itoa_sp (n : Int) : (32 : UInt8) ∉ itoa n:=by
 intro h;unfold itoa at h;split at h
 ·rcases List.mem_cons.1 h with h | h
  ·cases h
  ·have:=dig_range _ _ h;simp at this
 ·have:=dig_range _ _ h;simp at this
theorem itoa_short (n : Int) (h0 : -1 ≤ n) (h1 : n < 10000000000000000) : (itoa n).length ≤ 17:=by
 have nd : ∀ (k u : Nat),u < 10 ^ (k + 1) → nDigits u ≤ k + 1:=by
  intro k
  induction k with
  | zero => intro u h;rw [nDigits_small (by simpa using h)];omega
  | succ k ih =>
   intro u h;rw [Nat.pow_succ] at h;by_cases hu : u < 10
   ·rw [nDigits_small hu];omega
   ·rw [nDigits_big hu];have:=ih (u / 10) (by omega);omega
 unfold itoa;split
 ·rw [List.length_cons,decDigits_length];have:=nd 0 n.natAbs (by omega);omega
 ·rw [decDigits_length];have:=nd 15 n.toNat (by simp;omega);omega
theorem index_sp : ∀ (x r : Bytes),(32 : UInt8) ∉ x → indexByte (x ++ 32 :: r) 32 = x.length
 | [],r,_ => by simp [indexByte]
 | b :: x,r,h => by
  have hb : ¬ b = 32:=fun e => h (by rw [e];simp);have ih:=index_sp x r (fun hh => h (by simp [hh]));rw [List.cons_append,indexByte,ih];rw [if_neg (by simpa using hb),if_neg (by rw [beq_iff_eq];omega)];simp
theorem index_no : ∀ (x : Bytes),(32 : UInt8) ∉ x → indexByte x 32 = -1
 | [],_ => rfl
 | b :: x,h => by
  have hb : ¬ b = 32:=fun e => h (by rw [e];simp);rw [indexByte,index_no x (fun hh => h (by simp [hh])),if_neg (by simpa using hb),if_pos (by rfl)]
theorem split_no (k : Nat) (x : Bytes) (h : (32 : UInt8) ∉ x) : splitK [32] 0 k x = [x]:=by
 cases k with
 | zero => rfl
 | succ k => rw [splitK,index_one,index_no x h,if_pos (by rfl)]
theorem split_one (k : Nat) (x r : Bytes) (h : (32 : UInt8) ∉ x) : splitK [32] 0 (k + 1) (x ++ 32 :: r) = x :: splitK [32] 0 k r:=by
 rw [splitK,index_one,index_sp x r h,if_neg (by rw [beq_iff_eq];omega)];simp
def lay (ws : List Bytes) : Bytes:=ws.flatMap (· ++ [32])
theorem split_pre : ∀ (ws : List Bytes) (tail P : Bytes),(∀ x ∈ ws,(32 : UInt8) ∉ x) → P <+: lay ws ++ tail →
 (splitK [32] 0 ws.length P).length ≤ ws.length ∨ ∃ rest,rest <+: tail ∧ P = lay ws ++ rest ∧ splitK [32] 0 ws.length P = ws ++ [rest]
 | [],tail,P,_,h => .inr ⟨P,by simpa [lay] using h,by simp [lay],rfl⟩
 | x :: ws,tail,P,hx,h => by
  have hx0 : (32 : UInt8) ∉ x:=hx x (by simp);(have e : lay (x :: ws) = (x ++ [32]) ++ lay ws:=by simp [lay]);rw [e,List.append_assoc] at h
  have no : P <+: x → (splitK [32] 0 (x :: ws).length P).length ≤ (x :: ws).length:=fun hp => by
   rw [split_no _ P (fun hh => hx0 (hp.subset hh))];simp
  rcases List.prefix_or_prefix_of_prefix h (List.prefix_append (x ++ [32]) _) with hp | hp
  ·rcases List.prefix_concat_iff.1 hp with hp | hp
   ·have : P = x ++ 32 :: []:=hp
    cases ws with
    | nil =>
     refine .inr ⟨[],by simp,by rw [e,this];simp [lay],?_⟩;rw [this];exact split_one 0 x [] hx0
    | cons y ws =>
     refine .inl ?_;rw [this,List.length_cons,split_one _ x [] hx0,split_no _ [] (by simp)];simp
   ·exact .inl (no hp)
  ·obtain ⟨P',rfl⟩:=hp;rw [List.append_assoc] at h;rw [List.append_assoc] at h
   have h' : P' <+: lay ws ++ tail:=by
    have h2:=(List.prefix_append_right_inj x).1 h;exact (List.prefix_append_right_inj [32]).1 h2
   have es : splitK [32] 0 (x :: ws).length (x ++ [32] ++ P') = x :: splitK [32] 0 ws.length P':=by
    rw [List.append_assoc];exact split_one ws.length x P' hx0
   rw [es];rcases split_pre ws tail P' (fun y hy => hx y (by simp [hy])) h' with hl | ⟨rest,h1,h2,h3⟩
   ·exact .inl (by simp;omega)
   ·exact .inr ⟨rest,h1,by rw [e,h2];simp,by rw [h3];simp⟩
theorem list_at (s : ByteArray) (j : Nat) (h : j < s.size) : s.data.toList[j]? = some (s.data[j]!):=by
 have h' : j < s.data.size:=h;rw [getElem!_pos s.data j h',List.getElem?_eq_getElem (by simpa using h')];rfl
theorem hd_sp (x : Nat) (hx : x < 16) : hd x ≠ 32:=by
 (have : ∀ y : Fin 16,hd y.val ≠ 32:=by decide);exact this ⟨x,hx⟩
theorem hds_sp (r : Nat) : ∀ n,(32 : UInt8) ∉ hds r n
 | 0,h => by cases h
 | n + 1,h => by
  rcases List.mem_cons.1 h with h | h
  ·exact hd_sp _ (by omega) h.symm
  ·exact hds_sp r n h
theorem enc_big (r : Int) (h0 : 128 ≤ r) (hv : validRune r = true) : ∀ b ∈ encodeRune r,128 ≤ b.toNat:=by
 have hv' : (r < 55296) ∨ (57343 < r ∧ r ≤ 1114111):=by
  simp only [validRune,decide_eq_true_eq] at hv;omega
 intro b hb;unfold encodeRune at hb;by_cases h1 : r ≤ 2047
 ·rw [encodeRuneZ_two (by omega) (by omega)] at hb;simp only [List.map_cons,List.map_nil,List.mem_cons,List.not_mem_nil,or_false] at hb;rcases hb with rfl | rfl <;> (simp;omega)
 ·by_cases h2 : r ≤ 65535
  ·rw [encodeRuneZ_three (by omega)] at hb;simp only [List.map_cons,List.map_nil,List.mem_cons,List.not_mem_nil,or_false] at hb;rcases hb with rfl | rfl | rfl <;> (simp;omega)
  ·rw [encodeRuneZ_four (by omega) (by omega)] at hb;simp only [List.map_cons,List.map_nil,List.mem_cons,List.not_mem_nil,or_false] at hb;rcases hb with rfl | rfl | rfl | rfl <;> (simp;omega)
theorem tok_sp {t : Tok} (h : TokOk t) : t.bs = [32] ∨ (32 : UInt8) ∉ t.bs:=by
 cases h with
 | ascii c h0 h1 h2 h3 =>
  by_cases hc : c = 32
  ·exact .inl (by rw [hc])
  ·exact .inr (by simp;exact fun e => hc e.symm)
 | multi r h0 hv => exact .inr (fun hh => by have:=enc_big r h0 hv _ hh;simp at this)
 | short x v h => exact .inr (by unfold Short at h;simp;rintro rfl;simp at h)
 | hex a h => exact .inr (by simp;exact ⟨fun e => hd_sp _ (by omega) e.symm,fun e => hd_sp _ (by omega) e.symm⟩)
 | u4 r h0 h1 hv => exact .inr (by simp;exact hds_sp _ _)
 | u8 r h0 hv => exact .inr (by simp;exact hds_sp _ _)
theorem toks_sp : ∀ (ts : List Tok),(∀ t ∈ ts,TokOk t) → ∀ o : Nat,(ts.flatMap Tok.bs)[o]? = some 32 → ∃ j,(ts.flatMap Tok.bs).take o = (ts.take j).flatMap Tok.bs
 | [],_,o,h => by simp at h
 | t :: ts,ht,o,h => by
  rw [List.flatMap_cons] at h;by_cases ho : o < t.bs.length
  ·rw [List.getElem?_append_left ho] at h;rcases tok_sp (ht t (by simp)) with e | e
   ·refine ⟨0,?_⟩;rw [e] at ho;(have : o = 0:=by simpa using ho);rw [this];simp
   ·exact absurd (List.mem_of_getElem? h) e
  ·rw [List.getElem?_append_right (by omega)] at h;obtain ⟨j,hj⟩:=toks_sp ts (fun x hx => ht x (by simp [hx])) _ h;refine ⟨j + 1,?_⟩;rw [List.flatMap_cons,List.take_succ_cons,List.flatMap_cons,← hj,List.take_append];congr 1;exact List.take_of_length_le (by omega)
def nums (k : Int) (r : Rec) : List Bytes:=[itoa k,itoa r.client,itoa r.number,itoa r.object,itoa r.version,itoa r.epoch]
def quoted (T : PrintTabs) (d : Bytes) : Bytes:=(strOfNums (quoteZ T ⟨d.toArray⟩)).data.toList
def body (T : PrintTabs) (k : Int) (r : Rec) : Bytes:=lay (nums k r) ++ quoted T r.data
def sumStep (n : Int) (c : UInt8) : Int:=IntKind.u64.wrap (bits .xor .u64 n (c.toNat : Int) * 1099511628211)
def sumN (b : Bytes) : Int:=b.foldl sumStep 14695981039346656037 / 8
def text (T : PrintTabs) (k : Int) (r : Rec) : Bytes:=body T k r ++ 32 :: itoa (sumN (body T k r))
theorem quoted_toks (T : PrintTabs) (d : Bytes) : ∃ ts : List Tok,(∀ t ∈ ts,TokOk t) ∧ quoted T d = 34 :: (ts.flatMap Tok.bs ++ [34]) ∧ ts.flatMap Tok.val = d:=by
 obtain ⟨ts,h1,h2,h3⟩:=quote_toks T ⟨d.toArray⟩;exact ⟨ts,h1,h2,by rw [h3]⟩
theorem quoted_len (T : PrintTabs) (d : Bytes) : (quoted T d).length ≤ 10 * d.length + 2:=by
 have h:=quoteZ_length_le T ⟨d.toArray⟩
 have e : (quoted T d).length = (quoteZ T ⟨d.toArray⟩).length:=by
  unfold quoted;rw [← strOfNums_size];rfl
 rw [e];exact h
inductive Cutting (T : PrintTabs) (k : Int) (r : Rec) (P : Bytes) : Prop
 | few (hne : P ≠ text T k r) (h : (splitK [32] 0 6 P).length ≤ 6)
 | bare (hne : P ≠ text T k r) (rest : ByteArray) (h : splitK [32] 0 6 P = nums k r ++ [rest.data.toList]) (hq : lastIndexByte rest 32 = -1)
 | torn (hne : P ≠ text T k r) (rest : ByteArray) (q : Nat) (ts : List Tok) (h : splitK [32] 0 6 P = nums k r ++ [rest.data.toList]) (hq : lastIndexByte rest 32 = q) (hl : q ≤ rest.size) (ht : ∀ t ∈ ts,TokOk t) (e : rest.data.toList.take q = 34 :: (ts.flatMap Tok.bs ++ []))
 | whole (rest : ByteArray) (q : Nat) (ts : List Tok) (h : splitK [32] 0 6 P = nums k r ++ [rest.data.toList]) (hq : lastIndexByte rest 32 = q) (hl : q ≤ rest.size) (ht : ∀ t ∈ ts,TokOk t) (e : rest.data.toList.take q = 34 :: (ts.flatMap Tok.bs ++ [34])) (hv : ts.flatMap Tok.val = r.data)
theorem split_lay : ∀ (ws : List Bytes) (tail : Bytes),(∀ x ∈ ws,(32 : UInt8) ∉ x) → splitK [32] 0 ws.length (lay ws ++ tail) = ws ++ [tail]
 | [],tail,_ => by simp [lay,splitK]
 | x :: ws,tail,h => by
  (have e : lay (x :: ws) ++ tail = x ++ 32 :: (lay ws ++ tail):=by simp [lay]);rw [e,List.length_cons,split_one _ _ _ (h x (by simp)),split_lay ws tail (fun y hy => h y (by simp [hy]))];rfl
theorem cutting (T : PrintTabs) (k : Int) (r : Rec) (P : Bytes) (hP : P <+: text T k r) : Cutting T k r P:=by
 have hws : ∀ x ∈ nums k r,(32 : UInt8) ∉ x:=by
  intro x hx;simp only [nums,List.mem_cons,List.not_mem_nil,or_false] at hx;rcases hx with rfl | rfl | rfl | rfl | rfl | rfl <;> exact itoa_sp _
 obtain ⟨ts,ht,hq,hv⟩:=quoted_toks T r.data
 have hP' : P <+: lay (nums k r) ++ (quoted T r.data ++ 32 :: itoa (sumN (body T k r))):=by
  rw [text,body,List.append_assoc] at hP;exact hP
 (have htx : text T k r = lay (nums k r) ++ (quoted T r.data ++ 32 :: itoa (sumN (body T k r))):=by rw [text,body,List.append_assoc]);rcases split_pre (nums k r) _ P hws hP' with h | ⟨l,h1,h2,h3⟩
 ·refine .few (fun e => ?_) h;have:=split_lay (nums k r) (quoted T r.data ++ 32 :: itoa (sumN (body T k r))) hws;rw [e,htx,this] at h;simp at h;omega
 have htail : P = text T k r → l[(quoted T r.data).length]? = some 32:=fun e => by
  rw [h2,htx] at e;rw [List.append_cancel_left e,List.getElem?_append_right (Nat.le_refl _),Nat.sub_self];rfl
 obtain ⟨rest,hr⟩ : ∃ rest : ByteArray,rest.data.toList = l:=⟨⟨l.toArray⟩,rfl⟩;(have hsz : rest.size = l.length:=by rw [← hr];rfl);(have h3' : splitK [32] 0 6 P = nums k r ++ [rest.data.toList]:=by rw [hr];exact h3);rcases lastIndexByte_spec rest 32 with ⟨hn,hn'⟩ | ⟨q,hqs,hqe,hqc,hqa⟩
 ·refine .bare (fun e => ?_) rest h3' hn;have ht:=htail e
  have hlt : (quoted T r.data).length < rest.size:=by
   rcases Nat.lt_or_ge (quoted T r.data).length l.length with h | h
   ·omega
   ·rw [List.getElem?_eq_none h] at ht;cases ht
  refine hn' _ hlt ?_;rw [← hr,list_at rest _ hlt] at ht;rw [Option.some.inj ht];rfl
 have at32 : l[q]? = some 32:=by
  rw [← hr,list_at rest q hqs];congr 1;exact UInt8.toNat_inj.1 (by simpa using Int.ofNat_inj.1 hqc)
 have no32 : ∀ j : Nat,q < j → l[j]? ≠ some 32:=by
  intro j hj he;by_cases hjs : j < rest.size
  ·rw [← hr,list_at rest j hjs] at he;refine hqa j hj hjs ?_;rw [Option.some.inj he];rfl
  ·rw [List.getElem?_eq_none (by omega)] at he;cases he
 have hql : q < l.length:=by omega
 have full : ∀ (j : Nat) (b : UInt8),l[j]? = some b → (quoted T r.data ++ 32 :: itoa (sumN (body T k r)))[j]? = some b:=by
  intro j b hb;obtain ⟨t,he⟩:=h1;rw [← he,List.getElem?_append_left (by rcases Nat.lt_or_ge j l.length with h | h;exact h;rw [List.getElem?_eq_none h] at hb;cases hb)];exact hb
 have tk : l.take q = (quoted T r.data ++ 32 :: itoa (sumN (body T k r))).take q:=by
  obtain ⟨t,he⟩:=h1;rw [← he,List.take_append_of_le_length (by omega)]
 have hf:=full q 32 at32;rcases Nat.lt_trichotomy q (quoted T r.data).length with hlt | heq | hgt
 ·rw [List.getElem?_append_left hlt,hq] at hf
  cases q with
  | zero => simp at hf
  | succ q =>
   rw [List.getElem?_cons_succ] at hf
   have hq2 : q < (ts.flatMap Tok.bs).length:=by
    rcases Nat.lt_or_ge q (ts.flatMap Tok.bs).length with h | h
    ·exact h
    ·rw [List.getElem?_append_right h] at hf
     cases hqq : q - (ts.flatMap Tok.bs).length with
     | zero => rw [hqq] at hf;simp at hf
     | succ n => rw [hqq] at hf;simp at hf
   rw [List.getElem?_append_left hq2] at hf;obtain ⟨j,hj⟩:=toks_sp ts ht q hf;refine .torn (fun e => no32 _ hlt (htail e)) rest (q + 1) (ts.take j) h3' hqe (by omega) (fun t h => ht t (List.mem_of_mem_take h)) ?_;rw [hr,tk,List.take_append_of_le_length (by omega),hq,List.take_succ_cons,List.take_append_of_le_length (by omega),hj,List.append_nil]
 ·refine .whole rest q ts h3' hqe (by omega) ht ?_ hv;rw [hr,tk,heq,List.take_left,hq]
 ·rw [List.getElem?_append_right (by omega)] at hf
  cases hqq : q - (quoted T r.data).length with
  | zero => omega
  | succ n =>
   rw [hqq,List.getElem?_cons_succ] at hf;exact absurd (List.mem_of_getElem? hf) (itoa_sp _)
theorem step_range (n : Int) (c : UInt8) : 0 ≤ sumStep n c ∧ sumStep n c < 18446744073709551616:=by
 have h : sumStep n c = (bits .xor .u64 n (c.toNat : Int) * 1099511628211) % 18446744073709551616:=rfl;rw [h];exact ⟨Int.emod_nonneg _ (by decide),Int.emod_lt_of_pos _ (by decide)⟩
theorem fold_range (l : Bytes) : ∀ (a : Int),0 ≤ a → a < 18446744073709551616 → 0 ≤ l.foldl sumStep a ∧ l.foldl sumStep a < 18446744073709551616:=by
 induction l with
 | nil => intro a h0 h1;exact ⟨h0,h1⟩
 | cons c l ih => intro a h0 h1;exact ih _ (step_range a c).1 (step_range a c).2
theorem sum_range (b : Bytes) : 0 ≤ sumN b ∧ sumN b < 2305843009213693952:=by
 have:=fold_range b 14695981039346656037 (by decide) (by decide);unfold sumN;omega
structure Small (r : Rec) : Prop where
 c0 : 0 ≤ r.client
 c1 : r.client ≤ 1099511627776
 n0 : 0 ≤ r.number
 n1 : r.number ≤ 1099511627776
 o0 : -1 ≤ r.object
 o1 : r.object ≤ 7
 v0 : 0 ≤ r.version
 v1 : r.version ≤ 1099511627776
 e0 : 0 ≤ r.epoch
 e1 : r.epoch ≤ 1099511627776
 d1 : r.data.length ≤ 20
theorem right_small {r : Rec} (h : r.right = true) : Small r:=by
 unfold Rec.right at h;split at h
 ·rename_i ho;simp only [wire.okN,Bool.and_eq_true,decide_eq_true_eq] at h;obtain ⟨⟨⟨⟨h1,h2⟩,h3⟩,h4⟩,h5⟩:=h;exact ⟨by omega,by omega,by omega,by omega,by omega,by omega,by omega,by omega,by omega,by omega,by rw [h5];simp⟩
 ·simp only [wire.okN,model.inR,Bool.and_eq_true,decide_eq_true_eq] at h;obtain ⟨⟨⟨⟨⟨h1,h2⟩,h3⟩,h4⟩,h5⟩,h6⟩:=h;exact ⟨by omega,by omega,by omega,by omega,by omega,by omega,by omega,by omega,by omega,by omega,by omega⟩
theorem itoa_len (n : Int) (h0 : -1 ≤ n) (h1 : n < 2305843009213693952) : (itoa n).length ≤ 20:=by
 have nd : ∀ (k u : Nat),u < 10 ^ (k + 1) → nDigits u ≤ k + 1:=by
  intro k
  induction k with
  | zero => intro u h;rw [nDigits_small (by simpa using h)];omega
  | succ k ih =>
   intro u h;rw [Nat.pow_succ] at h;by_cases hu : u < 10
   ·rw [nDigits_small hu];omega
   ·rw [nDigits_big hu];have:=ih (u / 10) (by omega);omega
 unfold itoa;split
 ·rw [List.length_cons,decDigits_length];have:=nd 18 n.natAbs (by omega);omega
 ·rw [decDigits_length];have:=nd 18 n.toNat (by simp;omega);omega
theorem body_len (T : PrintTabs) (k : Int) (r : Rec) (h0 : 0 ≤ k) (h1 : k < 1000) (hr : Small r) : (body T k r).length ≤ 400:=by
 have q:=quoted_len T r.data;have a1:=itoa_short k (by omega) (by omega);have a2:=itoa_short r.client (by have:=hr.c0;omega) (by have:=hr.c1;omega);have a3:=itoa_short r.number (by have:=hr.n0;omega) (by have:=hr.n1;omega);have a4:=itoa_short r.object (by have:=hr.o0;omega) (by have:=hr.o1;omega);have a5:=itoa_short r.version (by have:=hr.v0;omega) (by have:=hr.v1;omega);have a6:=itoa_short r.epoch (by have:=hr.e0;omega) (by have:=hr.e1;omega);have d:=hr.d1;simp only [body,lay,nums,List.flatMap_cons,List.flatMap_nil,List.length_append,List.length_cons,List.length_nil];omega
theorem text_len (T : PrintTabs) (k : Int) (r : Rec) (h0 : 0 ≤ k) (h1 : k < 1000) (hr : Small r) : (text T k r).length ≤ 1000:=by
 have a:=body_len T k r h0 h1 hr;have b:=sum_range (body T k r);have c:=itoa_len (sumN (body T k r)) (by omega) (by omega);simp only [text,List.length_append,List.length_cons];omega
theorem split_len : ∀ (k : Nat) (P : Bytes),(splitK [32] 0 k P).length ≤ P.length + 1 ∧ ∀ x ∈ splitK [32] 0 k P,x.length ≤ P.length
 | 0,P => ⟨by simp [splitK],fun x hx => by simp [splitK] at hx;rw [hx];exact Nat.le_refl _⟩
 | k + 1,P => by
  rw [splitK];split
  ·exact ⟨by simp,fun x hx => by simp at hx;rw [hx];exact Nat.le_refl _⟩
  ·rename_i h;(have hne : P ≠ []:=fun e => by rw [e] at h;exact h rfl);have hp : 0 < P.length:=List.length_pos_iff.2 hne;obtain ⟨h1,h2⟩:=split_len k (P.drop ((index P [32]).toNat + [32].length));simp only [List.length_cons,List.length_nil,Nat.zero_add,List.length_drop,Nat.add_zero] at h1 h2 ⊢;refine ⟨by omega,fun x hx => ?_⟩;rcases List.mem_cons.1 hx with rfl | hx
   ·rw [List.length_take];omega
   ·have:=h2 x hx;omega
def pieces (s : ByteArray) : List ByteArray:=splitB ⟨#[32]⟩ 0 (min 7 (s.size + 1) - 1) s
theorem pieces_data (s : ByteArray) : (pieces s).map (·.data.toList) = splitK [32] 0 (min 7 (s.size + 1) - 1) s.data.toList:=splitB_data _ _ _ _
theorem pieces_few {s : ByteArray} (h : (splitK [32] 0 6 s.data.toList).length ≤ 6) : (pieces s).length ≤ 6:=by
 (have e : (pieces s).length = (splitK [32] 0 (min 7 (s.size + 1) - 1) s.data.toList).length:=by rw [← pieces_data,List.length_map]);rw [e];by_cases h6 : 6 ≤ s.size
 ·rw [show min 7 (s.size + 1) - 1 = 6 by omega];exact h
 ·have:=(split_len (min 7 (s.size + 1) - 1) s.data.toList).1;have hl : s.data.toList.length = s.size:=rfl;omega
theorem pieces_seven {s : ByteArray} {xs : List Bytes} (h : splitK [32] 0 6 s.data.toList = xs) (hx : xs.length = 7) : (pieces s).map (·.data.toList) = xs ∧ (pieces s).length = 7 ∧ min 7 (s.size + 1) = 7:=by
 have h6 : 6 ≤ s.size:=by
  have:=(split_len 6 s.data.toList).1;have hl : s.data.toList.length = s.size:=rfl;rw [h] at this;omega
 (have e : (pieces s).map (·.data.toList) = xs:=by rw [pieces_data,show min 7 (s.size + 1) - 1 = 6 by omega];exact h);refine ⟨e,?_,by omega⟩;rw [← hx,← e,List.length_map]
theorem text_join (T : PrintTabs) (k : Int) (r : Rec) : body T k r = join (nums k r) [32] ++ [32] ++ quoted T r.data:=by
 simp [body,lay,nums,join,List.intercalate]
theorem text_pos (T : PrintTabs) (k : Int) (r : Rec) : 0 < (text T k r).length:=by simp [text];omega
end recs
end Go.Proofs.YtefkmcjhgoagcaaGreatDoor
