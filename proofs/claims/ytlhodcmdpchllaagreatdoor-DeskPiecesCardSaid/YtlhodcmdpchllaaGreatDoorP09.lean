/-
  A part of the proof of the law DeskPieces: Toks.
-/
import Derived.Lib.QuoteLoop
import Derived.Lib.MapLaws
import Derived.Lib.IndexBytes
import Derived.Laws.BytesArg
import Derived.Test.YtlhodcmdpchllaaGreatDoorHd
set_option maxHeartbeats 16000000
set_option maxRecDepth 1000000
namespace Go.Proofs.YtlhodcmdpchllaaGreatDoor
namespace lG
open Go Go.Lib Go.RowKit
abbrev Bytes:=List UInt8
structure Tok where
 bs:Bytes
 r:Int
 m:Bool
def Tok.val (t:Tok):Bytes:=if t.r<128\/t.m=false then [UInt8.ofNat t.r.toNat] else encodeRune t.r
def hd (x:Nat):UInt8:=UInt8.ofNat (if x<10 then 48+x else 87+x)
def ky (r:Nat):Nat->Bytes
 |0=>[]
 |n+1=>hd (r/16^n%16)::ky r n
def j9 (x:UInt8) (v:Int):Prop:=(x=97/\v=7)\/(x=98/\v=8)\/(x=102/\v=12)\/(x=110/\v=10)\/(x=114/\v=13)\/(x=116/\v=9)\/(x=118/\v=11)\/(x=92/\v=92)\/(x=34/\v=34)
inductive gP:Tok->Prop
 |ascii (c:UInt8) (h0:32<=c.toNat) (h1:c.toNat<127) (h2:c.toNat≠34) (h3:c.toNat≠92):gP ⟨[c],c.toNat,false⟩
 |multi (r:Int) (h0:128<=r) (h1:validRune r=true):gP ⟨encodeRune r,r,true⟩
 |short (x:UInt8) (v:Int) (h:j9 x v):gP ⟨[92,x],v,false⟩
 |hex (a:Nat) (h:a<256):gP ⟨[92,120,hd (a/16),hd (a%16)],a,false⟩
 |u4 (r:Nat) (h0:128<=r) (h1:r<65536) (h2:validRune (r:Int)=true):gP ⟨92::117::ky r 4,r,true⟩
 |u8 (r:Nat) (h0:65536<=r) (h2:validRune (r:Int)=true):gP ⟨92::85::ky r 8,r,true⟩
def lZ (n:Int):UInt8:=UInt8.ofNat n.toNat
theorem sF (x:Nat):lZ (hexDigit x)=hd x:=by
 unfold hexDigit hd lZ;split
 ·congr 1
 congr 1
theorem sG (r:Nat):∀n,(hexDigits r n).map lZ=ky r n
 |0=>rfl
 |n+1=>by rw[hexDigits,bf,ky,sG r n,sF]
theorem sH (r:Int):(encodeRuneZ r).map lZ=encodeRune r:=rfl
theorem vJ {r:Int} (h0:0<=r) (h1:r<128):encodeRune r=[lZ r]:=by
 rw[<- sH,encodeRuneZ_one h0 (by omega)];rfl
theorem vK {T:PrintTabs} {r:Int} (h0:0<=r) (h1:r<128):isPrintR T r=(decide (32<=r)&&decide (r<=126)):=by
 unfold isPrintR;rw[if_pos (by omega)];unfold isPrintLatin;(have:decide (161<=r)=false:=by simp;omega);rw[this];simp
theorem Ct (T:PrintTabs) (r:Nat) (hv:validRune (r:Int)=true):∃t,gP t/\(escRune T r).map lZ=t.bs/\t.val=encodeRune r:=by
 have small:∀x:Int,0<=x->x<128->[UInt8.ofNat x.toNat]=encodeRune x:=fun x h0 h1=>(vJ h0 h1).symm;unfold escRune;by_cases c0:(r:Int)=34\/(r:Int)=92
 ·rw[if_pos c0];rcases c0 with c0|c0
  ·exact⟨⟨[92,34],34,false⟩,.short 34 34 (by simp[j9]),by rw[c0];rfl,by rw[c0];exact small 34 (by omega) (by omega)⟩
  exact⟨⟨[92,92],92,false⟩,.short 92 92 (by simp[j9]),by rw[c0];rfl,by rw[c0];exact small 92 (by omega) (by omega)⟩
 rw[if_neg c0];by_cases c1:isPrintR T (r:Int)=true
 ·rw[if_pos c1];by_cases hr:(r:Int)<128
  ·rw[vK (by omega) hr]at c1;simp only[aK,decide_eq_true_eq]at c1;(have e:((UInt8.ofNat r).toNat:Int)=r:=by simp;omega);(have e':(UInt8.ofNat r).toNat=r:=by omega);refine⟨⟨[UInt8.ofNat r],((UInt8.ofNat r).toNat:Int),false⟩,.ascii _ (by omega) (by omega) (by omega) (by omega),?_,?_⟩
   ·rw[sH,vJ (by omega) hr];rfl
   rw[<- small r (by omega) hr];simp[Tok.val,e']
  exact⟨⟨encodeRune r,r,true⟩,.multi r (by omega) hv,sH _,by simp[Tok.val];omega⟩
 rw[if_neg c1]
 have sh:∀(k:Nat) (x:UInt8),r=k->j9 x k->k<128->∃t,gP t/\([92,(x.toNat:Int)].map lZ)=t.bs/\t.val=encodeRune r:=by
  intro k x hk hs h1;refine⟨⟨[92,x],k,false⟩,.short x k hs,?_,?_⟩
  ·simp[lZ]
  rw[hk,<- small k (by omega) (by omega)];simp[Tok.val]
 by_cases c2:(r:Int)=7
 ·rw[if_pos c2];exact sh 7 97 (by omega) (by simp[j9]) (by omega)
 rw[if_neg c2];by_cases c3:(r:Int)=8
 ·rw[if_pos c3];exact sh 8 98 (by omega) (by simp[j9]) (by omega)
 rw[if_neg c3];by_cases c4:(r:Int)=12
 ·rw[if_pos c4];exact sh 12 102 (by omega) (by simp[j9]) (by omega)
 rw[if_neg c4];by_cases c5:(r:Int)=10
 ·rw[if_pos c5];exact sh 10 110 (by omega) (by simp[j9]) (by omega)
 rw[if_neg c5];by_cases c6:(r:Int)=13
 ·rw[if_pos c6];exact sh 13 114 (by omega) (by simp[j9]) (by omega)
 rw[if_neg c6];by_cases c7:(r:Int)=9
 ·rw[if_pos c7];exact sh 9 116 (by omega) (by simp[j9]) (by omega)
 rw[if_neg c7];by_cases c8:(r:Int)=11
 ·rw[if_pos c8];exact sh 11 118 (by omega) (by simp[j9]) (by omega)
 rw[if_neg c8];by_cases c9:(r:Int)<32\/(r:Int)=127
 ·rw[if_pos c9];refine⟨⟨[92,120,hd (r/16),hd (r%16)],r,false⟩,.hex r (by omega),?_,?_⟩
  ·rw[bH];simp only[bf,bJ,sF];rfl
  rw[<- small r (by omega) (by omega)];simp[Tok.val]
 rw[if_neg c9,if_neg (by rw[hv];simp)]
 have big:128<=r:=by
  rcases aW r 128 with h|h
  ·rw[vK (by omega) (by omega)]at c1;simp only[aK,decide_eq_true_eq]at c1;omega
  exact h
 by_cases M3:(r:Int)<65536
 ·rw[if_pos M3];refine⟨⟨92::117::ky r 4,r,true⟩,.u4 r big (by omega) hv,?_,by simp[Tok.val];omega⟩;simp only[bf,sG,bH];rfl
 rw[if_neg M3];refine⟨⟨92::85::ky r 8,r,true⟩,.u8 r (by omega) hv,?_,by simp[Tok.val];omega⟩;simp only[bf,sG,bH];rfl
theorem Cu (T:PrintTabs) (s:ByteArray) (h:0<s.size):∃t,gP t/\(quoteStep T s).map lZ=t.bs/\t.val=s.data.toList.take (Utf8.decode s 0).2:=by
 have Km:s.data.toList≠[]:=fun e=>by
  (have:s.data.toList.length=0:=by rw[e];rfl);rw[bQ]at this;have h2:s.data.size=s.size:=rfl;omega
 (have hd0:decodeL s.data.toList=Utf8.decode s 0:=by have:=decodeL_drop s 0;rwa [List.drop_zero]at this);unfold quoteStep;by_cases hb:(Utf8.decode s 0).2=1/\(Utf8.decode s 0).1=65533
 ·rw[if_pos hb];refine⟨⟨[92,120,hd ((s.get! 0).toNat/16),hd ((s.get! 0).toNat%16)],(s.get! 0).toNat,false⟩,.hex _ (s.get! 0).toNat_lt,?_,?_⟩
  ·simp only[bf,bJ,sF];rfl
  rw[hb.1];obtain⟨⟨l⟩⟩:=s
  cases l with
  |nil=>exact absurd rfl Km
  |cons a l=>simp[Tok.val,ByteArray.get!]
 rw[if_neg hb];obtain⟨t,h1,h2,h3⟩:=Ct T (Utf8.decode s 0).1 (rune_valid s);refine⟨t,h1,h2,?_⟩;rw[h3,<- hd0];exact encode_decode _ Km (fun e=>hb (by rw[hd0]at e;exact⟨e.2,e.1⟩))
theorem vL (T:PrintTabs):∀(f:Nat) (s:ByteArray),s.size<=f->∃ts:List Tok,(∀t∈ts,gP t)/\(quoteFrom T f s).map lZ=ts.flatMap Tok.bs/\ts.flatMap Tok.val=s.data.toList
 |0,s,h=>by
  refine⟨[],(fun _ h=>by cases h),rfl,?_⟩;have h2:s.data.size=s.size:=rfl;exact (aP (by rw[bQ];omega)).symm
 |f+1,s,h=>by
  unfold quoteFrom;by_cases h0:0<s.size
  ·rw[if_pos h0];obtain⟨t,h1,h2,h3⟩:=Cu T s h0;have hw:=width_pos s 0;have LH:(s.extract (Utf8.decode s 0).2 s.size).size=s.size-(Utf8.decode s 0).2:=size_rest s _;obtain⟨ts,g1,g2,g3⟩:=vL T f (s.extract (Utf8.decode s 0).2 s.size) (by omega);refine⟨t::ts,fun x hx=>by rcases aM.1 hx with rfl|hx;exact h1;exact g1 x hx,?_,?_⟩
   ·rw[bN,h2,g2,aU]
   rw[aU,h3,g3,Lib.extract_to_end,cD]
  rw[if_neg h0];refine⟨[],(fun _ h=>by cases h),rfl,?_⟩;have h2:s.data.size=s.size:=rfl;exact (aP (by rw[bQ];omega)).symm
theorem Cv (T:PrintTabs) (s:ByteArray):∃ts:List Tok,(∀t∈ts,gP t)/\(strOfNums (quoteZ T s)).data.toList=34::(ts.flatMap Tok.bs++[34])/\ts.flatMap Tok.val=s.data.toList:=by
 obtain⟨ts,h1,h2,h3⟩:=vL T s.size s (aq _);refine⟨ts,h1,?_,h3⟩;rw[strOfNums_data,quoteZ];simp only[bf,bN,bJ];rw[<- h2];rfl
end lG
end Go.Proofs.YtlhodcmdpchllaaGreatDoor
