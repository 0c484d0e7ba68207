/-
  A part of the proof of the law WorldCalm: Toks.
-/
import Derived.Lib.QuoteLoop
import Derived.Lib.MapLaws
import Derived.Lib.IndexBytes
import Derived.Laws.BytesArg
import Derived.Test.YtjhdaojclilakaaGreatDoorHd
set_option maxHeartbeats 16000000
set_option maxRecDepth 1000000
namespace Go.Proofs.YtjhdaojclilakaaGreatDoor
section
variable {p q:Prop}
theorem acm (h:p:=by
 refine⟨[],(fun _ h=>by cases h),rfl,?_⟩;have h2:s.data.size=s.size:=rfl;exact (bc (by rw[cy];omega)).symm):p:=h
end
namespace oq
open Go Go.Lib Go.RowKit
abbrev Bytes:=List UInt8
structure Tok where
 bs:Bytes
 r:Int
 m:Bool
def Tok.val (t:Tok):Bytes:=if t.r<128\/t.m=false then [UInt8.ofNat t.r.toNat] else encodeRune t.r
def hd (x:Nat):UInt8:=UInt8.ofNat (if x<10 then 48+x else 87+x)
def mO (r:Nat):Nat->Bytes
 |0=>[]
 |n+1=>hd (r/16^n%16)::mO r n
def mm (x:UInt8) (v:Int):Prop:=(x=97/\v=7)\/(x=98/\v=8)\/(x=102/\v=12)\/(x=110/\v=10)\/(x=114/\v=13)\/(x=116/\v=9)\/(x=118/\v=11)\/(x=92/\v=92)\/(x=34/\v=34)
inductive jI:Tok->Prop
 |ascii (c:UInt8) (h0:32<=c.toNat) (h1:c.toNat<127) (h2:c.toNat≠34) (h3:c.toNat≠92):jI ⟨[c],c.toNat,false⟩
 |multi (r:Int) (h0:128<=r) (h1:validRune r=true):jI ⟨encodeRune r,r,true⟩
 |short (x:UInt8) (v:Int) (h:mm x v):jI ⟨[92,x],v,false⟩
 |hex (a:Nat) (h:a<256):jI ⟨[92,120,hd (a/16),hd (a%16)],a,false⟩
 |u4 (r:Nat) (h0:128<=r) (h1:r<65536) (h2:validRune (r:Int)=true):jI ⟨92::117::mO r 4,r,true⟩
 |u8 (r:Nat) (h0:65536<=r) (h2:validRune (r:Int)=true):jI ⟨92::85::mO r 8,r,true⟩
def oH (n:Int):UInt8:=UInt8.ofNat n.toNat
theorem wP (x:Nat):oH (hexDigit x)=hd x:=by
 unfold hexDigit hd oH;split
 ·congr 1
 congr 1
theorem wQ (r:Nat):∀n,(hexDigits r n).map oH=mO r n
 |0=>rfl
 |n+1=>by rw[hexDigits,aY,mO,wQ r n,wP]
theorem wR (r:Int):(encodeRuneZ r).map oH=encodeRune r:=rfl
variable {r:Int}
theorem zV (a:0<=r) (b:r<128):encodeRune r=[oH r]:=by
 rw[<- wR,encodeRuneZ_one a ab];rfl
theorem zW {T:PrintTabs} (a:0<=r) (b:r<128):isPrintR T r=(decide (32<=r)&&decide (r<=126)):=by
 unfold isPrintR;rw[if_pos ab];unfold isPrintLatin;have:decide (161<=r)=false:=ah;rw[this];simp
theorem Hn (T:PrintTabs) (r:Nat) (hv:validRune (r:Int)=true):∃t,jI t/\(escRune T r).map oH=t.bs/\t.val=encodeRune r:=by
 have small:∀x:Int,0<=x->x<128->[UInt8.ofNat x.toNat]=encodeRune x:=fun x h0 h1=>(zV h0 h1).symm;unfold escRune;by_cases c0:(r:Int)=34\/(r:Int)=92
 ·rw[if_pos c0];rcases c0 with c0|c0
  ·exact⟨⟨[92,34],34,false⟩,.short 34 34 (by simp[mm]),by rw[c0];rfl,by rw[c0];exact small 34 ab ab⟩
  exact⟨⟨[92,92],92,false⟩,.short 92 92 (by simp[mm]),by rw[c0];rfl,by rw[c0];exact small 92 ab ab⟩
 rw[if_neg c0];by_cases c1:isPrintR T (r:Int)=true
 ·rw[if_pos c1];by_cases a:(r:Int)<128
  ·rw[zW ab a]at c1;simp only[aF,decide_eq_true_eq]at c1;have e:((UInt8.ofNat r).toNat:Int)=r:=ah;have f:(UInt8.ofNat r).toNat=r:=ab;refine⟨⟨[UInt8.ofNat r],((UInt8.ofNat r).toNat:Int),false⟩,.ascii _ ab ab ab ab,?_,?_⟩
   ·rw[wR,zV ab a];rfl
   rw[<- small r ab a];simp[Tok.val,f]
  exact⟨⟨encodeRune r,r,true⟩,.multi r ab hv,wR _,by simp[Tok.val];omega⟩
 rw[if_neg c1]
 have sh:∀(k:Nat) (x:UInt8),r=k->mm x k->k<128->∃t,jI t/\([92,(x.toNat:Int)].map oH)=t.bs/\t.val=encodeRune r:=by
  intro k x g hs h1;refine⟨⟨[92,x],k,false⟩,.short x k hs,?_,?_⟩
  ·simp[oH]
  rw[g,<- small k ab ab];simp[Tok.val]
 by_cases c2:(r:Int)=7
 ·rw[if_pos c2];exact sh 7 97 ab (by simp[mm]) ab
 rw[if_neg c2];by_cases c3:(r:Int)=8
 ·rw[if_pos c3];exact sh 8 98 ab (by simp[mm]) ab
 rw[if_neg c3];by_cases c4:(r:Int)=12
 ·rw[if_pos c4];exact sh 12 102 ab (by simp[mm]) ab
 rw[if_neg c4];by_cases c5:(r:Int)=10
 ·rw[if_pos c5];exact sh 10 110 ab (by simp[mm]) ab
 rw[if_neg c5];by_cases c6:(r:Int)=13
 ·rw[if_pos c6];exact sh 13 114 ab (by simp[mm]) ab
 rw[if_neg c6];by_cases c7:(r:Int)=9
 ·rw[if_pos c7];exact sh 9 116 ab (by simp[mm]) ab
 rw[if_neg c7];by_cases c8:(r:Int)=11
 ·rw[if_pos c8];exact sh 11 118 ab (by simp[mm]) ab
 rw[if_neg c8];by_cases c:(r:Int)<32\/(r:Int)=127
 ·rw[if_pos c];refine⟨⟨[92,120,hd (r/16),hd (r%16)],r,false⟩,.hex r ab,?_,?_⟩
  ·rw[bo];simp only[aY,bD,wP];rfl
  rw[<- small r ab ab];simp[Tok.val]
 rw[if_neg c,if_neg (by rw[hv];simp)]
 have b:128<=r:=by
  rcases bk r 128 with h|h
  ·rw[zW ab ab]at c1;simp only[aF,decide_eq_true_eq]at c1;omega
  exact h
 by_cases d:(r:Int)<65536
 ·rw[if_pos d];refine⟨⟨92::117::mO r 4,r,true⟩,.u4 r b ab hv,?_,by simp[Tok.val];omega⟩;simp only[aY,wQ,bo];rfl
 rw[if_neg d];refine⟨⟨92::85::mO r 8,r,true⟩,.u8 r ab hv,?_,by simp[Tok.val];omega⟩;simp only[aY,wQ,bo];rfl
theorem Ho (T:PrintTabs) (s:ByteArray) (h:0<s.size):∃t,jI t/\(quoteStep T s).map oH=t.bs/\t.val=s.data.toList.take (Utf8.decode s 0).2:=by
 have c:s.data.toList≠[]:=fun e=>by
  (have:s.data.toList.length=0:=by rw[e];rfl);rw[cy]at this;have d:s.data.size=s.size:=rfl;omega
 (have b:decodeL s.data.toList=Utf8.decode s 0:=by have:=decodeL_drop s 0;rwa [List.drop_zero]at this);unfold quoteStep;by_cases hb:(Utf8.decode s 0).2=1/\(Utf8.decode s 0).1=65533
 ·rw[if_pos hb];refine⟨⟨[92,120,hd ((s.get! 0).toNat/16),hd ((s.get! 0).toNat%16)],(s.get! 0).toNat,false⟩,.hex _ (s.get! 0).toNat_lt,?_,?_⟩
  ·simp only[aY,bD,wP];rfl
  rw[hb.1];obtain⟨⟨l⟩⟩:=s
  cases l with
  |nil=>exact absurd rfl c
  |cons a l=>simp[Tok.val,ByteArray.get!]
 rw[if_neg hb];obtain⟨t,f,d,g⟩:=Hn T (Utf8.decode s 0).1 (rune_valid s);refine⟨t,f,d,?_⟩;rw[g,<- b];exact encode_decode _ c (fun e=>hb (by rw[b]at e;exact⟨e.2,e.1⟩))
theorem zX (T:PrintTabs):∀(f:Nat) (s:ByteArray),s.size<=f->∃a:List Tok,(∀t∈a,jI t)/\(quoteFrom T f s).map oH=a.flatMap Tok.bs/\a.flatMap Tok.val=s.data.toList
 |0,s,h=>by
  exact acm
 |f+1,s,h=>by
  unfold quoteFrom;by_cases b:0<s.size
  ·rw[if_pos b];obtain⟨t,d,h2,e⟩:=Ho T s b;have hw:=width_pos s 0;have g:(s.extract (Utf8.decode s 0).2 s.size).size=s.size-(Utf8.decode s 0).2:=size_rest s _;obtain⟨a,g1,g2,g3⟩:=zX T f (s.extract (Utf8.decode s 0).2 s.size) ab;refine⟨t::a,fun x c=>by rcases aH.1 c with rfl|c;exact d;exact g1 x c,?_,?_⟩
   ·rw[cF,h2,g2,bm]
   rw[bm,e,g3,Lib.extract_to_end,cS]
  rw[if_neg b];exact acm
theorem Hp (T:PrintTabs) (s:ByteArray):∃a:List Tok,(∀t∈a,jI t)/\(strOfNums (quoteZ T s)).data.toList=34::(a.flatMap Tok.bs++[34])/\a.flatMap Tok.val=s.data.toList:=by
 obtain⟨a,b,c,d⟩:=zX T s.size s (ax _);refine⟨a,b,?_,d⟩;rw[strOfNums_data,quoteZ];simp only[aY,cF,bD];rw[<- c];rfl
end oq
end Go.Proofs.YtjhdaojclilakaaGreatDoor
