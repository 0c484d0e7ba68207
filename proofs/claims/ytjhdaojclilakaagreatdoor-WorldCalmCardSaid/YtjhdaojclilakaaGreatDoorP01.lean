/-
  A part of the proof of the law WorldCalm: WirePlain.
-/
import Derived.Test.YtjhdaojclilakaaGreatDoorHd
set_option maxHeartbeats 16000000
set_option maxRecDepth 1000000
namespace Go.Proofs.YtjhdaojclilakaaGreatDoor
namespace fD
structure eL where
 eO:Int
 eI:Int
 eK:Int
 eS:Int
 fx:Int
 eF:Int
 fJ:Int
 gE:Bool
 data:List UInt8
deriving DecidableEq
def jO:Int:=1099511627776
theorem pJ:jO=1099511627776:=rfl
def eL.iG (m:eL):List Int:=[m.eO,m.eI,m.eK,m.eS,m.fx,m.eF,m.fJ]
def jm (n:Int):Bool:=decide (0<=n/\n<=1099511627776)
def eL.right (m:eL):Bool:=decide (1<=m.eO)&&decide (m.eO<=9)&&decide (m.data.length<=20)&&m.iG.all jm
def kP:Nat->Nat->List UInt8
 |0,n=>[UInt8.ofNat n]
 |f+1,n=>if n<128 then [UInt8.ofNat n] else UInt8.ofNat (n%128+128)::kP f (n/128)
def kE (n:Nat):List UInt8:=kP 6 n
theorem Gj (f n:Nat):kP f n≠[]:=by
 cases f<;>simp only[kP]
 ·simp
 split<;>simp
theorem Gk (f k n:Nat) (h:n<128^(k+1)):(kP f n).length<=k+1:=by
 induction f generalizing n k with
 |zero=>simp[kP]
 |succ f ih =>
  simp only[kP];split
  ·simp
  rename_i a
  cases k with
  |zero=>simp at h;omega
  |succ k =>
   have:=ih k (n/128) (by
    have e:128^(k+1+1)=128^(k+1)*128:=cY ..;rw[e]at h
    exact dN ab)
   simp;omega
theorem zy (f g k n:Nat) (h:n<128^(k+1)) (d:k<=f) (i:k<=g):kP f n=kP g n:=by
 induction k generalizing f g n with
 |zero =>
  (have a:n<128:=by simpa using h);cases f<;>cases g<;>simp[kP,a]
 |succ k ih =>
  obtain⟨f,rfl⟩:∃b,f=b+1:=⟨f-1,ab⟩;obtain⟨g,rfl⟩:∃c,g=c+1:=⟨g-1,ab⟩;simp only[kP];split
  ·rfl
  congr 1;apply ih _ _ _ _ ab ab;have e:128^(k+1+1)=128^(k+1)*128:=cY ..;rw[e]at h;exact dN ab
theorem zz (n:Nat) (h:n<128):kE n=[UInt8.ofNat n]:=by simp[kE,kP,h]
theorem Gl (n:Nat) (h:128<=n) (a:n<128^6):kE n=UInt8.ofNat (n%128+128)::kE (n/128):=by
 have e:kE n=UInt8.ofNat (n%128+128)::kP 5 (n/128):=by
  simp only[kE,kP];rw[if_neg ab]
 rw[e];congr 1;apply zy _ _ 4 _ _ ab ab;have e:128^6=128^(4+1)*128:=rfl;rw[e]at a;exact dN ab
theorem zA (n:Nat) (h:n<128^6):(kE n).length<=6:=Gk 6 5 n h
def pK (b:Bool):UInt8:=if b then 1 else 0
def lI (l:List Int):List UInt8:=l.flatMap fun n=>kE n.toNat
def lj (m:eL):List UInt8:=lI m.iG++([pK m.gE,UInt8.ofNat m.data.length]++m.data)
def mM:Nat->Bool->List UInt8->Option (Nat×List UInt8)
 |0,_,_=>none
 |_+1,_,[]=>none
 |f+1,first,c::l =>
  if c.toNat<128 then (if c.toNat=0/\first=false then none else some (c.toNat,l))
  else match mM f false l with
   |none=>none
   |some (n,r)=>some (c.toNat%128+128*n,r)
def oF (l:List UInt8):Option (Nat×List UInt8):=mM 6 true l
theorem Gm (f g:Nat) (first:Bool) (n:Nat) (r:List UInt8) (h:n<128^(f+1)) (i:f<g) (d:first=false->0<n) :
 mM g first (kP f n++r)=some (n,r):=by
 induction f generalizing g first n with
 |zero =>
  obtain⟨g,rfl⟩:∃b,g=b+1:=⟨g-1,ab⟩;(have a:n<128:=by simpa using h);have e:(UInt8.ofNat n).toNat=n:=ah;simp only[kP,ct,cf,mM,e];rw[if_pos a,if_neg];rintro⟨rfl,c⟩;exact absurd (d c) ab
 |succ f ih =>
  obtain⟨g,rfl⟩:∃b,g=b+1:=⟨g-1,ab⟩;simp only[kP];split
  ·rename_i a;have e:(UInt8.ofNat n).toNat=n:=ah;simp only[ct,cf,mM,e];rw[if_pos a,if_neg];rintro⟨rfl,c⟩;exact absurd (d c) ab
  rename_i a;have e:(UInt8.ofNat (n%128+128)).toNat=n%128+128:=ah
  have hd:n/128<128^(f+1):=by
   have e:128^(f+1+1)=128^(f+1)*128:=cY ..;rw[e]at h;exact dN ab
  simp only[ct,mM,e];rw[if_neg ab,ih g false (n/128) hd ab (fun _=>ab)];simp;omega
theorem Gn (n:Nat) (r:List UInt8) (h:n<128^6):oF (kE n++r)=some (n,r):=by
 have e:kE n=kP 5 n:=zy _ _ 5 _ h ab ab;rw[e];exact Gm 5 6 true n r h ab (fun h=>by cases h)
def nI:Nat->List UInt8->Option (List Int×List UInt8)
 |0,l=>some ([],l)
 |k+1,l=>match oF l with
  |none=>none
  |some (n,r)=>match nI k r with
   |none=>none
   |some (ns,r)=>some ((n:Int)::ns,r)
def oZ (ns:List Int) (r:List UInt8):Option eL:=
 match ns,r with
 | [a,b,c,d,e,f,g],x::y::r =>
  if x.toNat<=1/\y.toNat=r.length then
   (let m:eL:={eO:=a,eI:=b,eK:=c,eS:=d,fx:=e,eF:=f,fJ:=g,gE:=decide (x.toNat=1),data:=r}
    if m.right then some m else none)
  else none
 |_,_=>none
def mN (l:List UInt8):Option eL:=
 match nI 7 l with
 |none=>none
 |some (ns,r)=>oZ ns r
theorem Gp (ns:List Int) (r:List UInt8) (h:∀n∈ns,0<=n/\n<=1099511627776):nI ns.length (lI ns++r)=some (ns,r):=by
 induction ns with
 |nil=>simp[nI,lI]
 |cons n ns ih =>
  have b:=h n ae;(have e:lI (n::ns)++r=kE n.toNat++(lI ns++r):=by simp[lI]);rw[e];simp only[aL,nI];rw[Gn _ _ (by have:(128^6:Nat)=4398046511104:=aj;omega)];simp only;rw[ih fun x a=>h x (by simp[a])];simp;omega
variable {m:eL}
theorem rf (h:m.right=true):∀n∈m.iG,0<=n/\n<=1099511627776:=by
 simp only[eL.right,aF,List.all_eq_true]at h;intro n a;have:=h.2 n a;simpa[jm]using this
theorem wG (h:m.right=true):m.data.length<=20:=by
 simp only[eL.right,aF,decide_eq_true_eq]at h;exact h.1.2
theorem Gq (m:eL) (h:m.right=true):mN (lj m)=some m:=by
 have hd:=wG h;unfold mN lj;have:=Gp m.iG ([pK m.gE,UInt8.ofNat m.data.length]++m.data) (rf h);rw[show m.iG.length=7 from rfl]at this;rw[this];(have e1:(pK m.gE).toNat<=1:=by unfold pK;split<;>decide);have a:(UInt8.ofNat m.data.length).toNat=m.data.length:=ah;(have b:decide ((pK m.gE).toNat=1)=m.gE:=by unfold pK;cases m.gE<;>decide);simp only[eL.iG,ct,cf,oZ,a,b];rw[if_pos ⟨e1,trivial⟩,if_pos h]
end fD
end Go.Proofs.YtjhdaojclilakaaGreatDoor
