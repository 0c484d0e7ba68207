/-
  A part of the proof of the law DeskPieces: WirePlain.
-/
import Derived.Test.YtlhodcmdpchllaaGreatDoorHd
set_option maxHeartbeats 16000000
set_option maxRecDepth 1000000
namespace Go.Proofs.YtlhodcmdpchllaaGreatDoor
namespace eK
structure dH where
 dT:Int
 dL:Int
 dN:Int
 dQ:Int
 fj:Int
 dF:Int
 eI:Int
 fu:Bool
 data:List UInt8
deriving DecidableEq
def lW:Int:=1099511627776
theorem mU:lW=1099511627776:=rfl
def dH.fo (m:dH):List Int:=[m.dT,m.dL,m.dN,m.dQ,m.fj,m.dF,m.eI]
def gK (n:Int):Bool:=decide (0<=n/\n<=1099511627776)
def dH.right (m:dH):Bool:=decide (1<=m.dT)&&decide (m.dT<=9)&&decide (m.data.length<=20)&&m.fo.all gK
def ig:Nat->Nat->List UInt8
 |0,n=>[UInt8.ofNat n]
 |f+1,n=>if n<128 then [UInt8.ofNat n] else UInt8.ofNat (n%128+128)::ig f (n/128)
def iD (n:Nat):List UInt8:=ig 6 n
theorem Bv (f n:Nat):ig f n≠[]:=by
 cases f<;>simp only[ig]
 ·simp
 split<;>simp
theorem Bw (f k n:Nat) (h:n<128^(k+1)):(ig f n).length<=k+1:=by
 induction f generalizing n k with
 |zero=>simp[ig]
 |succ f ih =>
  simp only[ig];split
  ·simp
  rename_i h1
  cases k with
  |zero=>simp at h;omega
  |succ k =>
   have:=ih k (n/128) (by
    have e:128^(k+1+1)=128^(k+1)*128:=cf ..;rw[e]at h
    exact dj (by omega))
   simp;omega
theorem sr (f g k n:Nat) (h:n<128^(k+1)) (hf:k<=f) (hg:k<=g):ig f n=ig g n:=by
 induction k generalizing f g n with
 |zero =>
  (have h':n<128:=by simpa using h);cases f<;>cases g<;>simp[ig,h']
 |succ k ih =>
  obtain⟨f,rfl⟩:∃f',f=f'+1:=⟨f-1,by omega⟩;obtain⟨g,rfl⟩:∃g',g=g'+1:=⟨g-1,by omega⟩;simp only[ig];split
  ·rfl
  congr 1;apply ih _ _ _ _ (by omega) (by omega);have e:128^(k+1+1)=128^(k+1)*128:=cf ..;rw[e]at h;exact dj (by omega)
theorem va (n:Nat) (h:n<128):iD n=[UInt8.ofNat n]:=by simp[iD,ig,h]
theorem Bx (n:Nat) (h:128<=n) (h2:n<128^6):iD n=UInt8.ofNat (n%128+128)::iD (n/128):=by
 have e:iD n=UInt8.ofNat (n%128+128)::ig 5 (n/128):=by
  simp only[iD,ig];rw[if_neg (by omega)]
 rw[e];congr 1;apply sr _ _ 4 _ _ (by omega) (by omega);have e:128^6=128^(4+1)*128:=rfl;rw[e]at h2;exact dj (by omega)
theorem vc (n:Nat) (h:n<128^6):(iD n).length<=6:=Bw 6 5 n h
def mV (b:Bool):UInt8:=if b then 1 else 0
def jJ (l:List Int):List UInt8:=l.flatMap fun n=>iD n.toNat
def jk (m:dH):List UInt8:=jJ m.fo++([mV m.fu,UInt8.ofNat m.data.length]++m.data)
def jc:Nat->Bool->List UInt8->Option (Nat×List UInt8)
 |0,_,_=>none
 |_+1,_,[]=>none
 |f+1,first,c::l =>
  if c.toNat<128 then (if c.toNat=0/\first=false then none else some (c.toNat,l))
  else match jc f false l with
   |none=>none
   |some (n,r)=>some (c.toNat%128+128*n,r)
def lC (l:List UInt8):Option (Nat×List UInt8):=jc 6 true l
theorem By (c:UInt8) (n:Nat) (h:c.toNat=n):c=UInt8.ofNat n:=by rw[<- h];simp
theorem Bz (f:Nat) (first:Bool) (l:List UInt8) (n:Nat) (r:List UInt8) (h:jc f first l=some (n,r)) :
 n<128^f/\(first=false->0<n)/\l=ig (f-1) n++r:=by
 induction f generalizing first l n r with
 |zero=>simp[jc]at h
 |succ f ih =>
  cases l with
  |nil=>simp[jc]at h
  |cons c l =>
   simp only[jc]at h;split at h
   ·rename_i hc;split at h
    ·cases h
    rename_i h0;(obtain⟨rfl,rfl⟩:c.toNat=n/\l=r:=by simpa using h);refine⟨ay hc (by rw[cf];exact Nat.le_mul_of_pos_left _ (Nat.pow_pos (by omega))),fun hf=>?_,?_⟩
    ·rcases bx c.toNat with hz|hz
     ·exact absurd ⟨hz,hf⟩ h0
     exact hz
    cases f with
    |zero=>simp[ig]
    |succ f=>simp[ig,hc]
   rename_i hc
   cases hr:jc f false l with
   |none=>rw[hr]at h;cases h
   |some p =>
    obtain⟨n',r'⟩:=p;rw[hr]at h;(obtain⟨rfl,rfl⟩:c.toNat%128+128*n'=n/\r'=r:=by simpa using h);obtain⟨h1,h2,h3⟩:=ih _ _ _ _ hr;have h2':=h2 rfl;have KW:c.toNat<256:=c.toNat_lt;refine⟨by rw[cf];omega,fun _=>by omega,?_⟩
    cases f with
    |zero=>simp[jc]at hr
    |succ f =>
     simp only[bT]at h3⊢;simp only[ig];rw[if_neg (by omega),h3];simp only[bn,List.cons.injEq];refine⟨?_,?_⟩
     ·apply By;omega
     rw[show (c.toNat%128+128*n')/128=n' from by omega]
theorem BA (f g:Nat) (first:Bool) (n:Nat) (r:List UInt8) (h:n<128^(f+1)) (hg:f<g) (h0:first=false->0<n) :
 jc g first (ig f n++r)=some (n,r):=by
 induction f generalizing g first n with
 |zero =>
  obtain⟨g,rfl⟩:∃g',g=g'+1:=⟨g-1,by omega⟩;(have h':n<128:=by simpa using h);(have e:(UInt8.ofNat n).toNat=n:=by simp;omega);simp only[ig,bn,bL,jc,e];rw[if_pos h',if_neg];rintro⟨rfl,hf⟩;exact absurd (h0 hf) (by omega)
 |succ f ih =>
  obtain⟨g,rfl⟩:∃g',g=g'+1:=⟨g-1,by omega⟩;simp only[ig];split
  ·rename_i h';(have e:(UInt8.ofNat n).toNat=n:=by simp;omega);simp only[bn,bL,jc,e];rw[if_pos h',if_neg];rintro⟨rfl,hf⟩;exact absurd (h0 hf) (by omega)
  rename_i h';have e:(UInt8.ofNat (n%128+128)).toNat=n%128+128:=by simp;omega
  have hd:n/128<128^(f+1):=by
   have e:128^(f+1+1)=128^(f+1)*128:=cf ..;rw[e]at h;exact dj (by omega)
  simp only[bn,jc,e];rw[if_neg (by omega),ih g false (n/128) hd (by omega) (fun _=>by omega)];simp;omega
theorem Ka (l:List UInt8) (n:Nat) (r:List UInt8) (h:lC l=some (n,r)):n<128^6/\l=iD n++r:=by
 obtain⟨h1,_,h3⟩:=Bz 6 true l n r h;refine⟨h1,?_⟩;rw[h3];congr 1;exact sr _ _ 5 _ h1 (by omega) (by omega)
theorem BC (n:Nat) (r:List UInt8) (h:n<128^6):lC (iD n++r)=some (n,r):=by
 have e:iD n=ig 5 n:=sr _ _ 5 _ h (by omega) (by omega);rw[e];exact BA 5 6 true n r h (by omega) (fun h=>by cases h)
def lh:Nat->List UInt8->Option (List Int×List UInt8)
 |0,l=>some ([],l)
 |k+1,l=>match lC l with
  |none=>none
  |some (n,r)=>match lh k r with
   |none=>none
   |some (ns,r)=>some ((n:Int)::ns,r)
def mC (ns:List Int) (r:List UInt8):Option dH:=
 match ns,r with
 | [a,b,c,d,e,f,g],x::y::r =>
  if x.toNat<=1/\y.toNat=r.length then
   (let m:dH:={dT:=a,dL:=b,dN:=c,dQ:=d,fj:=e,dF:=f,eI:=g,fu:=decide (x.toNat=1),data:=r}
    if m.right then some m else none)
  else none
 |_,_=>none
def kt (l:List UInt8):Option dH:=
 match lh 7 l with
 |none=>none
 |some (ns,r)=>mC ns r
theorem BD (ns:List Int) (r:List UInt8) (h:∀n∈ns,0<=n/\n<=1099511627776):lh ns.length (jJ ns++r)=some (ns,r):=by
 induction ns with
 |nil=>simp[lh,jJ]
 |cons n ns ih =>
  have h0:=h n (by simp);(have e:jJ (n::ns)++r=iD n.toNat++(jJ ns++r):=by simp[jJ]);rw[e];simp only[aJ,lh];rw[BC _ _ (by have:(128^6:Nat)=4398046511104:=(by decide);omega)];simp only;rw[ih fun x hx=>h x (by simp[hx])];simp;omega
theorem pH {m:dH} (h:m.right=true):∀n∈m.fo,0<=n/\n<=1099511627776:=by
 simp only[dH.right,aK,List.all_eq_true]at h;intro n hn;have:=h.2 n hn;simpa[gK]using this
theorem su {m:dH} (h:m.right=true):m.data.length<=20:=by
 simp only[dH.right,aK,decide_eq_true_eq]at h;exact h.1.2
theorem BE (m:dH) (h:m.right=true):kt (jk m)=some m:=by
 have hd:=su h;unfold kt jk;have:=BD m.fo ([mV m.fu,UInt8.ofNat m.data.length]++m.data) (pH h);rw[show m.fo.length=7 from rfl]at this;rw[this];(have e1:(mV m.fu).toNat<=1:=by unfold mV;split<;>decide);(have e2:(UInt8.ofNat m.data.length).toNat=m.data.length:=by simp;omega);(have e3:decide ((mV m.fu).toNat=1)=m.fu:=by unfold mV;cases m.fu<;>decide);simp only[dH.fo,bn,bL,mC,e2,e3];rw[if_pos ⟨e1,trivial⟩,if_pos h]
end eK
end Go.Proofs.YtlhodcmdpchllaaGreatDoor
