/-
  A part of the proof of the law WorldLasts: WirePlain.
-/
namespace Go.Proofs.YtefkmcjhgoagcaaGreatDoor
namespace wire
structure Msg where
 kind : Int
 client : Int
 number : Int
 epoch : Int
 session : Int
 object : Int
 version : Int
 lease : Bool
 data : List UInt8
deriving DecidableEq
def maxTime : Int:=1099511627776
theorem maxTime_eq : maxTime = 1099511627776:=rfl
def Msg.nums (m : Msg) : List Int:=[m.kind,m.client,m.number,m.epoch,m.session,m.object,m.version]
def okN (n : Int) : Bool:=decide (0 ≤ n ∧ n ≤ 1099511627776)
def Msg.right (m : Msg) : Bool:=decide (1 ≤ m.kind) && decide (m.kind ≤ 9) && decide (m.data.length ≤ 20) && m.nums.all okN
def numF : Nat → Nat → List UInt8
 | 0,n => [UInt8.ofNat n]
 | f + 1,n => if n < 128 then [UInt8.ofNat n] else UInt8.ofNat (n % 128 + 128) :: numF f (n / 128)
def numB (n : Nat) : List UInt8:=numF 6 n
theorem numF_ne (f n : Nat) : numF f n ≠ []:=by
 cases f <;> simp only [numF]
 ·simp
 ·split <;> simp
theorem numF_len_lt (f k n : Nat) (h : n < 128 ^ (k + 1)) : (numF f n).length ≤ k + 1:=by
 induction f generalizing n k with
 | zero => simp [numF]
 | succ f ih =>
  simp only [numF];split
  ·simp
  ·rename_i h1
   cases k with
   | zero => simp at h;omega
   | succ k =>
    have:=ih k (n / 128) (by
     have e : 128 ^ (k + 1 + 1) = 128 ^ (k + 1) * 128:=Nat.pow_succ ..;rw [e] at h
     exact Nat.div_lt_of_lt_mul (by omega))
    simp;omega
theorem numF_fuel (f g k n : Nat) (h : n < 128 ^ (k + 1)) (hf : k ≤ f) (hg : k ≤ g) : numF f n = numF g n:=by
 induction k generalizing f g n with
 | zero =>
  (have h' : n < 128:=by simpa using h);cases f <;> cases g <;> simp [numF,h']
 | succ k ih =>
  obtain ⟨f,rfl⟩ : ∃ f',f = f' + 1:=⟨f - 1,by omega⟩;obtain ⟨g,rfl⟩ : ∃ g',g = g' + 1:=⟨g - 1,by omega⟩;simp only [numF];split
  ·rfl
  ·congr 1;apply ih _ _ _ _ (by omega) (by omega);have e : 128 ^ (k + 1 + 1) = 128 ^ (k + 1) * 128:=Nat.pow_succ ..;rw [e] at h;exact Nat.div_lt_of_lt_mul (by omega)
theorem numB_small (n : Nat) (h : n < 128) : numB n = [UInt8.ofNat n]:=by simp [numB,numF,h]
theorem numB_step (n : Nat) (h : 128 ≤ n) (h2 : n < 128 ^ 6) : numB n = UInt8.ofNat (n % 128 + 128) :: numB (n / 128):=by
 have e : numB n = UInt8.ofNat (n % 128 + 128) :: numF 5 (n / 128):=by
  simp only [numB,numF];rw [if_neg (by omega)]
 rw [e];congr 1;apply numF_fuel _ _ 4 _ _ (by omega) (by omega);have e : 128 ^ 6 = 128 ^ (4 + 1) * 128:=rfl;rw [e] at h2;exact Nat.div_lt_of_lt_mul (by omega)
theorem numB_len (n : Nat) (h : n < 128 ^ 6) : (numB n).length ≤ 6:=numF_len_lt 6 5 n h
def leaseB (b : Bool) : UInt8:=if b then 1 else 0
def numsB (l : List Int) : List UInt8:=l.flatMap fun n => numB n.toNat
def encB (m : Msg) : List UInt8:=numsB m.nums ++ ([leaseB m.lease,UInt8.ofNat m.data.length] ++ m.data)
def readF : Nat → Bool → List UInt8 → Option (Nat × List UInt8)
 | 0,_,_ => none
 | _ + 1,_,[] => none
 | f + 1,first,c :: l =>
  if c.toNat < 128 then (if c.toNat = 0 ∧ first = false then none else some (c.toNat,l))
  else match readF f false l with
   | none => none
   | some (n,r) => some (c.toNat % 128 + 128 * n,r)
def readN (l : List UInt8) : Option (Nat × List UInt8):=readF 6 true l
theorem u8_of (c : UInt8) (n : Nat) (h : c.toNat = n) : c = UInt8.ofNat n:=by rw [← h];simp
theorem readF_num (f : Nat) (first : Bool) (l : List UInt8) (n : Nat) (r : List UInt8) (h : readF f first l = some (n,r)) :
 n < 128 ^ f ∧ (first = false → 0 < n) ∧ l = numF (f - 1) n ++ r:=by
 induction f generalizing first l n r with
 | zero => simp [readF] at h
 | succ f ih =>
  cases l with
  | nil => simp [readF] at h
  | cons c l =>
   simp only [readF] at h;split at h
   ·rename_i hc;split at h
    ·cases h
    ·rename_i h0;(obtain ⟨rfl,rfl⟩ : c.toNat = n ∧ l = r:=by simpa using h);refine ⟨Nat.lt_of_lt_of_le hc (by rw [Nat.pow_succ];exact Nat.le_mul_of_pos_left _ (Nat.pow_pos (by omega))),fun hf => ?_,?_⟩
     ·rcases Nat.eq_zero_or_pos c.toNat with hz | hz
      ·exact absurd ⟨hz,hf⟩ h0
      ·exact hz
     ·cases f with
      | zero => simp [numF]
      | succ f => simp [numF,hc]
   ·rename_i hc
    cases hr : readF f false l with
    | none => rw [hr] at h;cases h
    | some p =>
     obtain ⟨n',r'⟩:=p;rw [hr] at h;(obtain ⟨rfl,rfl⟩ : c.toNat % 128 + 128 * n' = n ∧ r' = r:=by simpa using h);obtain ⟨h1,h2,h3⟩:=ih _ _ _ _ hr;have h2':=h2 rfl;have hcl : c.toNat < 256:=c.toNat_lt;refine ⟨by rw [Nat.pow_succ];omega,fun _ => by omega,?_⟩
     cases f with
     | zero => simp [readF] at hr
     | succ f =>
      simp only [Nat.add_sub_cancel] at h3 ⊢;simp only [numF];rw [if_neg (by omega),h3];simp only [List.cons_append,List.cons.injEq];refine ⟨?_,?_⟩
      ·apply u8_of;omega
      ·rw [show (c.toNat % 128 + 128 * n') / 128 = n' from by omega]
theorem numF_read (f g : Nat) (first : Bool) (n : Nat) (r : List UInt8) (h : n < 128 ^ (f + 1)) (hg : f < g) (h0 : first = false → 0 < n) :
 readF g first (numF f n ++ r) = some (n,r):=by
 induction f generalizing g first n with
 | zero =>
  obtain ⟨g,rfl⟩ : ∃ g',g = g' + 1:=⟨g - 1,by omega⟩;(have h' : n < 128:=by simpa using h);(have e : (UInt8.ofNat n).toNat = n:=by simp;omega);simp only [numF,List.cons_append,List.nil_append,readF,e];rw [if_pos h',if_neg];rintro ⟨rfl,hf⟩;exact absurd (h0 hf) (by omega)
 | succ f ih =>
  obtain ⟨g,rfl⟩ : ∃ g',g = g' + 1:=⟨g - 1,by omega⟩;simp only [numF];split
  ·rename_i h';(have e : (UInt8.ofNat n).toNat = n:=by simp;omega);simp only [List.cons_append,List.nil_append,readF,e];rw [if_pos h',if_neg];rintro ⟨rfl,hf⟩;exact absurd (h0 hf) (by omega)
  ·rename_i h';have e : (UInt8.ofNat (n % 128 + 128)).toNat = n % 128 + 128:=by simp;omega
   have hd : n / 128 < 128 ^ (f + 1):=by
    have e : 128 ^ (f + 1 + 1) = 128 ^ (f + 1) * 128:=Nat.pow_succ ..;rw [e] at h;exact Nat.div_lt_of_lt_mul (by omega)
   simp only [List.cons_append,readF,e];rw [if_neg (by omega),ih g false (n / 128) hd (by omega) (fun _ => by omega)];simp;omega
theorem readN_num (l : List UInt8) (n : Nat) (r : List UInt8) (h : readN l = some (n,r)) : n < 128 ^ 6 ∧ l = numB n ++ r:=by
 obtain ⟨h1,_,h3⟩:=readF_num 6 true l n r h;refine ⟨h1,?_⟩;rw [h3];congr 1;exact numF_fuel _ _ 5 _ h1 (by omega) (by omega)
theorem numB_read (n : Nat) (r : List UInt8) (h : n < 128 ^ 6) : readN (numB n ++ r) = some (n,r):=by
 have e : numB n = numF 5 n:=numF_fuel _ _ 5 _ h (by omega) (by omega);rw [e];exact numF_read 5 6 true n r h (by omega) (fun h => by cases h)
def readsN : Nat → List UInt8 → Option (List Int × List UInt8)
 | 0,l => some ([],l)
 | k + 1,l => match readN l with
  | none => none
  | some (n,r) => match readsN k r with
   | none => none
   | some (ns,r) => some ((n : Int) :: ns,r)
def tailB (ns : List Int) (r : List UInt8) : Option Msg:=
 match ns,r with
 | [a,b,c,d,e,f,g],x :: y :: r =>
  if x.toNat ≤ 1 ∧ y.toNat = r.length then
   (let m : Msg:={ kind:=a,client:=b,number:=c,epoch:=d,session:=e,object:=f,version:=g,lease:=decide (x.toNat = 1),data:=r }
    if m.right then some m else none)
  else none
 | _,_ => none
def decB (l : List UInt8) : Option Msg:=
 match readsN 7 l with
 | none => none
 | some (ns,r) => tailB ns r
theorem nums_readsN (ns : List Int) (r : List UInt8) (h : ∀ n ∈ ns,0 ≤ n ∧ n ≤ 1099511627776) : readsN ns.length (numsB ns ++ r) = some (ns,r):=by
 induction ns with
 | nil => simp [readsN,numsB]
 | cons n ns ih =>
  have h0:=h n (by simp);(have e : numsB (n :: ns) ++ r = numB n.toNat ++ (numsB ns ++ r):=by simp [numsB]);rw [e];simp only [List.length_cons,readsN];rw [numB_read _ _ (by have : (128 ^ 6 : Nat) = 4398046511104:=(by decide);omega)];simp only;rw [ih fun x hx => h x (by simp [hx])];simp;omega
theorem right_nums {m : Msg} (h : m.right = true) : ∀ n ∈ m.nums,0 ≤ n ∧ n ≤ 1099511627776:=by
 simp only [Msg.right,Bool.and_eq_true,List.all_eq_true] at h;intro n hn;have:=h.2 n hn;simpa [okN] using this
theorem right_data {m : Msg} (h : m.right = true) : m.data.length ≤ 20:=by
 simp only [Msg.right,Bool.and_eq_true,decide_eq_true_eq] at h;exact h.1.2
theorem dec_enc (m : Msg) (h : m.right = true) : decB (encB m) = some m:=by
 have hd:=right_data h;unfold decB encB;have:=nums_readsN m.nums ([leaseB m.lease,UInt8.ofNat m.data.length] ++ m.data) (right_nums h);rw [show m.nums.length = 7 from rfl] at this;rw [this];(have e1 : (leaseB m.lease).toNat ≤ 1:=by unfold leaseB;split <;> decide);(have e2 : (UInt8.ofNat m.data.length).toNat = m.data.length:=by simp;omega);(have e3 : decide ((leaseB m.lease).toNat = 1) = m.lease:=by unfold leaseB;cases m.lease <;> decide);simp only [Msg.nums,List.cons_append,List.nil_append,tailB,e2,e3];rw [if_pos ⟨e1,trivial⟩,if_pos h]
end wire
end Go.Proofs.YtefkmcjhgoagcaaGreatDoor
