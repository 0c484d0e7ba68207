/-
  A part of the proof of the law WorldCalm: UnqA, UnqB, WalD, UnqC, UnqD.
-/
import Derived.Test.YtjhdaojclilakaaGreatDoorShelf
import Derived.Test.YtjhdaojclilakaaGreatDoorRows
import Derived.WalkKit
import Derived.ProofKit
import Derived.OpenShut
import Derived.BigQuiet
import Derived.Deep.QuietTactic
import Derived.Lib.QuietBelow
import Derived.Shelf.Strconv.Quoted
import Derived.Lib.Bytealg
import Derived.Lib.IndexLaws
import Derived.Test.YtjhdaojclilakaaGreatDoorHd
import Derived.Test.YtjhdaojclilakaaGreatDoorP16
set_option maxHeartbeats 16000000
set_option maxRecDepth 1000000
namespace Go.Proofs.YtjhdaojclilakaaGreatDoor
section
variable {p q:Prop}
theorem abF (h:p:=by
 refine bodyPost_ret (mQ rfl _ _ _) rfl ?_;exact⟨rfl,rfl⟩):p:=h
theorem aap (h:p:=by
 clear h0 h1;(go_enter Tryz.func154,Tryz.ntmps154);go_wp2;exact abF):p:=h
theorem aay (h:p:=by
 rw[<- hy];clear hx hy;(go_wp2_with (go_at_call 183;refine (wY x hx16 _).mono ?_;rintro e w1 ⟨rfl,rfl⟩));go_roundw
 case rel =>
  refine⟨k+1,ab,by go_num,?_,ae⟩;have h5:=HYR.o;rw[uj ab ab,show ((y:Int)*16)=((y*16:Nat):Int) from by omega,wZ y x hx16 ab,HQ.o]
 case measure=>simp[intOf];omega):p:=h
end
namespace lx
open Go.RowKit oq
theorem mQ {fn:Func} {t u v x:Tmp} (h:fn.results=#[.tmp t,.tmp u,.tmp v,.tmp x]) (tmps:Array Value) (P:Program) (w:World) :
 (results fn tmps).run P w=.ok (.tuple #[tmps.getD t undef,tmps.getD u undef,tmps.getD v undef,tmps.getD x undef]) w:=by
 simp[results,h]
theorem wY (x:Nat) (a:x<16) (w:World):Calls Tryz.prog 183 #[.int .u8 ((hd x).toNat:Int)] w fun e w'=>e=.returned (.tuple #[.int .i32 x,.bool true])/\w=w':=by
 by_cases h:x<10
 ·(have e:(((hd x).toNat:Nat):Int)=48+x:=by unfold hd;rw[if_pos h];simp;omega);rw[e];have d1:decide ((48:Int)<=48+x)=true:=ah;have d2:decide ((48:Int)+x<=57)=true:=ah;(go_enter Tryz.func183,Tryz.ntmps183);go_wp2;go_ret2;exact⟨by rw[show (48:Int)+x-48=x from by omega];rfl,rfl⟩
 (have e:(((hd x).toNat:Nat):Int)=87+x:=by unfold hd;rw[if_neg h];simp;omega);rw[e];have d1:decide ((48:Int)<=87+x)=true:=ah;have d2:decide ((87:Int)+x<=57)=false:=ah;have d3:decide ((97:Int)<=87+x)=true:=ah;have d4:decide ((87:Int)+x<=102)=true:=ah;(go_enter Tryz.func183,Tryz.ntmps183);go_wp2;go_ret2;exact⟨by rw[show (87:Int)+x-97+10=x from by omega];rfl,rfl⟩
theorem uj {n:Int} (a:0<=n) (b:n<2147483648):wrap32 n=n:=by unfold wrap32;omega
theorem Ic (s:ByteArray) (hs:0<s.size) (hm:s.size<100000) (a:32<=(s[0]'hs).toNat) (b:(s[0]'hs).toNat<127) (c:(s[0]'hs).toNat≠34) (d:(s[0]'hs).toNat≠92) (w:World) :
 Calls Tryz.prog 154 #[.string s,.int .u8 34] w fun e w'=>e=.returned (.tuple #[.int .i32 (s[0]'hs).toNat,.bool false,.string (s.extract 1 s.size),.nilIface])/\∃n,w'=w.drewN n:=by
 have b0:((s.size:Int)==0)=false:=beq_eq_false_iff_ne.mpr ab;have h:(((s[0]'hs).toNat:Int)==34)=false:=beq_eq_false_iff_ne.mpr ab;have i:decide ((128:Int)<=(s[0]'hs).toNat)=false:=decide_eq_false ab;have j:(((s[0]'hs).toNat:Int) !=92)=true:=bne_iff_ne.mpr ab;have f:(0:Int)<s.size:=ab;have g:Hy (wrap32 ((s[0]'hs).toNat:Int)=(s[0]'hs).toNat):=Hd (uj ab ab);clear a b c d;(go_enter Tryz.func154,Tryz.ntmps154);go_wp2;(go_quiet (fail));go_wp2;refine bodyPost_ret (mQ rfl _ _ _) rfl ?_;rw[g.o];exact⟨rfl,_,rfl⟩
theorem Ie (s:ByteArray) (hs:1<s.size) (hm:s.size<100000) (h0:(s[0]'(by omega)).toNat=92) (v:Int) (h:mm (s[1]'hs) v) (w:World) :
 Calls Tryz.prog 154 #[.string s,.int .u8 34] w fun e w'=>e=.returned (.tuple #[.int .i32 v,.bool false,.string (s.extract 2 s.size),.nilIface])/\w=w':=by
 have b0:((s.size:Int)==0)=false:=beq_eq_false_iff_ne.mpr ab;have d:decide ((s.size:Int)<=1)=false:=decide_eq_false ab;have e0:((s[0]'(by omega)).toNat:Int)=92:=ab;have a:(0:Int)<s.size:=ab;have b:(1:Int)<s.size:=ab;have c:(2:Int)<=s.size:=ab;unfold mm at h;rcases h with⟨h1,rfl⟩|⟨h1,rfl⟩|⟨h1,rfl⟩|⟨h1,rfl⟩|⟨h1,rfl⟩|⟨h1,rfl⟩|⟨h1,rfl⟩|⟨h1,rfl⟩|⟨h1,rfl⟩
 ·(have e1:((s[1]'hs).toNat:Int)=97:=by rw[h1];rfl);exact aap
 ·(have e1:((s[1]'hs).toNat:Int)=98:=by rw[h1];rfl);exact aap
 ·(have e1:((s[1]'hs).toNat:Int)=102:=by rw[h1];rfl);exact aap
 ·(have e1:((s[1]'hs).toNat:Int)=110:=by rw[h1];rfl);exact aap
 ·(have e1:((s[1]'hs).toNat:Int)=114:=by rw[h1];rfl);exact aap
 ·(have e1:((s[1]'hs).toNat:Int)=116:=by rw[h1];rfl);exact aap
 ·(have e1:((s[1]'hs).toNat:Int)=118:=by rw[h1];rfl);exact aap
 ·(have e1:((s[1]'hs).toNat:Int)=92:=by rw[h1];rfl);exact aap
 (have e1:((s[1]'hs).toNat:Int)=34:=by rw[h1];rfl);clear h0 h1;(go_enter Tryz.func154,Tryz.ntmps154);go_wp2;refine bodyPost_ret (mQ rfl _ _ _) rfl ?_;exact⟨rfl,rfl⟩
abbrev U8 (w:World):Prop:=Lib.Utf8Tabs 4 5 w
theorem below_drewN {B:Nat} {w a:World} (h:Below B w a) (n:Nat):Below B w (a.drewN n):=⟨h.os,h.tape,h.output,h.size,h.block⟩
theorem Ig (s:ByteArray) (hs:0<s.size) (hm:s.size<100000) (c:128<=(s[0]'hs).toNat) (R K:Nat) (a:(Lib.decodeGo s).1=R) (hK:(Lib.decodeGo s).2=K) (d:K<=s.size) (w:World) (b:U8 w) :
 Calls Tryz.prog 154 #[.string s,.int .u8 34] w fun e w'=>e=.returned (.tuple #[.int .i32 R,.bool true,.string (s.extract K s.size),.nilIface])/\BB w w':=by
 have c1:=Tryz.utf8_DecodeRuneInString s w b;rw[a,hK]at c1;have b0:((s.size:Int)==0)=false:=beq_eq_false_iff_ne.mpr ab;have i:(((s[0]'hs).toNat:Int)==34)=false:=beq_eq_false_iff_ne.mpr ab;have j:decide ((128:Int)<=(s[0]'hs).toNat)=true:=decide_eq_true ab;have f:(0:Int)<s.size:=ab;have g:(K:Int)<=s.size:=ab;clear c b a hK;(go_enter Tryz.func154,Tryz.ntmps154);(go_wp2_with (go_at_call 153;refine c1.mono ?_;rintro e k ⟨rfl,h⟩));(go_quiet (fail));go_wp2;refine bodyPost_ret (mQ rfl _ _ _) rfl ?_;exact⟨rfl,below_drewN h _⟩
theorem Ih (a b:Nat) (c:a<2147483648) (hb:b<2147483648):bits .or .i32 (a:Int) (b:Int)=((a ||| b:Nat):Int):=by
 have h:a ||| b<2147483648:=Nat.or_lt_two_pow (n:=31) c hb
 have e:(BitVec.ofInt IntKind.i32.bits (a:Int) ||| BitVec.ofInt IntKind.i32.bits (b:Int)).toNat=a ||| b:=by
  rw[BitVec.toNat_or,BitVec.toNat_ofInt,BitVec.toNat_ofInt];congr 1<;>(simp[IntKind.bits];omega)
 unfold bits;simp only;rw[e];rw[IntKind.wrap_i32];omega
theorem wZ (y x:Nat) (a:x<16) (hy:y*16<2147483632):bits BinOp.or IntKind.i32 ((y*16:Nat):Int) (x:Int)=((y*16+x:Nat):Int):=by
 rw[Ih (y*16) x ab ab];congr 1;rw[show (16:Nat)=2^4 from rfl,<- Nat.shiftLeft_eq,Nat.shiftLeft_add_eq_or_of_lt a]
theorem Ii (s:ByteArray) (hs:4<=s.size) (hm:s.size<100000) (i:(s[0]'(by omega)).toNat=92) (d:(s[1]'(by omega)).toNat=120) (r:Nat) (C:r<256)
 (f:∀(k:Nat) (h:k<(s.extract 2 s.size).size),k<2->(s.extract 2 s.size)[k]'h=hd (r/16^(1-k)%16)) (w:World) :
 Calls Tryz.prog 154 #[.string s,.int .u8 34] w fun e w'=>e=.returned (.tuple #[.int .i32 r,.bool false,.string ((s.extract 2 s.size).extract 2 (s.extract 2 s.size).size),.nilIface])/\w=w':=by
 obtain⟨s2,a⟩:=nm (s.extract 2 s.size);(have l:s2.size=s.size-2:=by rw[a];simp);have b0:((s.size:Int)==0)=false:=beq_eq_false_iff_ne.mpr ab;have D:decide ((s.size:Int)<=1)=false:=decide_eq_false ab;have e0:((s[0]'(by omega)).toNat:Int)=92:=ab;have e1:((s[1]'(by omega)).toNat:Int)=120:=ab;have m:(0:Int)<s.size:=ab;have n:(1:Int)<s.size:=ab;have q:(2:Int)<=s.size:=ab;have E:decide ((s2.size:Int)<2)=false:=decide_eq_false ab;have t:2<=s2.size:=ab;have u:s2.size<100000:=ab;rw[<- a];have z:Hy (∀(k:Nat) (h:k<s2.size),k<2->s2[k]'h=hd (r/16^(1-k)%16)):=Hd (by subst a;exact f);have A:=a.symm;clear i d a f l;(go_enter Tryz.func154,Tryz.ntmps154);go_wp2;(go_loopw [7,13,14,15,16] (fun e v j _ _ wr=>∃k:Nat,k<=2/\j=VI k/\v=.int .i32 ((r/16^(2-k):Nat):Int)/\wr=w/\e=.nilIface) (fun _ _ j _ _ _=>2-(intOf j).toNat));case atStart=>exact⟨0,ab,ae,by rw[Nat.div_eq_of_lt ab];rfl,ae⟩
 case round =>
  obtain⟨k,F,rfl,rfl,rfl,rfl⟩:=hrel;by_cases B:k<2
  ·have b:(k:Int)<2:=ab;have G:(k:Int)<s2.size:=ab;have g:k<s2.size:=ab;obtain⟨x,hx⟩:=nm (r/16^(1-k)%16);have hx16:x<16:=ab;(have H:((s2[k]'g).toNat:Int)=((hd x).toNat:Int):=by rw[z.o k g B,hx]);obtain⟨y,hy⟩:=nm (r/16^(2-k))
   have HQ:Hy (r/16^(2-(k+1))=y*16+x):=Hd (by
    rw[hx,hy,show 2-k=(2-(k+1))+1 from by omega,cY,<- Nat.div_div_eq_div_mul,show 1-k=2-(k+1) from by omega]
    omega)
   have HYR:Hy (y*16<=r):=Hd (by have d:=Nat.div_le_self r (16^(2-(k+1)));have I:=HQ.o;omega);exact aay
  have b:¬(k:Int)<2:=ab;(obtain rfl:k=2:=by omega);have c:r/16^(2-2)=r:=ae;rw[c];go_wp2;exact abF
theorem Ij (s:ByteArray) (hs:6<=s.size) (hm:s.size<100000) (l:(s[0]'(by omega)).toNat=92) (d:(s[1]'(by omega)).toNat=117) (r:Nat) (D:r<65536) (hv:Lib.validRune (r:Int)=true)
 (f:∀(k:Nat) (h:k<(s.extract 2 s.size).size),k<4->(s.extract 2 s.size)[k]'h=hd (r/16^(3-k)%16)) (w:World) :
 Calls Tryz.prog 154 #[.string s,.int .u8 34] w fun e w'=>e=.returned (.tuple #[.int .i32 r,.bool true,.string ((s.extract 2 s.size).extract 4 (s.extract 2 s.size).size),.nilIface])/\w=w':=by
 obtain⟨s2,a⟩:=nm (s.extract 2 s.size);(have m:s2.size=s.size-2:=by rw[a];simp);have b0:((s.size:Int)==0)=false:=beq_eq_false_iff_ne.mpr ab;have E:decide ((s.size:Int)<=1)=false:=decide_eq_false ab;have e0:((s[0]'(by omega)).toNat:Int)=92:=ab;have e1:((s[1]'(by omega)).toNat:Int)=117:=ab;have n:(0:Int)<s.size:=ab;have q:(1:Int)<s.size:=ab;have t:(2:Int)<=s.size:=ab;have F:decide ((s2.size:Int)<4)=false:=decide_eq_false ab;have u:4<=s2.size:=ab;have z:s2.size<100000:=ab;rw[<- a];have A:Hy (∀(k:Nat) (h:k<s2.size),k<4->s2[k]'h=hd (r/16^(3-k)%16)):=Hd (by subst a;exact f);have B:=a.symm;clear l d a f m;have g:=Tryz.utf8_ValidRune (r:Int) w;rw[hv]at g;clear hv;(go_enter Tryz.func154,Tryz.ntmps154);go_wp2;(go_loopw [7,13,14,15,16] (fun e v j _ _ wr=>∃k:Nat,k<=4/\j=VI k/\v=.int .i32 ((r/16^(4-k):Nat):Int)/\wr=w/\e=.nilIface) (fun _ _ j _ _ _=>4-(intOf j).toNat));case atStart=>exact⟨0,ab,ae,by rw[Nat.div_eq_of_lt ab];rfl,ae⟩
 case round =>
  obtain⟨k,G,rfl,rfl,rfl,rfl⟩:=hrel;by_cases C:k<4
  ·have b:(k:Int)<4:=ab;have H:(k:Int)<s2.size:=ab;have i:k<s2.size:=ab;obtain⟨x,hx⟩:=nm (r/16^(3-k)%16);have hx16:x<16:=ab;(have I:((s2[k]'i).toNat:Int)=((hd x).toNat:Int):=by rw[A.o k i C,hx]);obtain⟨y,hy⟩:=nm (r/16^(4-k))
   have HQ:Hy (r/16^(4-(k+1))=y*16+x):=Hd (by
    rw[hx,hy,show 4-k=(4-(k+1))+1 from by omega,cY,<- Nat.div_div_eq_div_mul,show 3-k=4-(k+1) from by omega]
    omega)
   have HYR:Hy (y*16<=r):=Hd (by have d:=Nat.div_le_self r (16^(4-(k+1)));have J:=HQ.o;omega);exact aay
  have b:¬(k:Int)<4:=ab;(obtain rfl:k=4:=by omega);have c:r/16^(4-4)=r:=ae;rw[c];(go_wp2_with (go_at_call 184;refine g.mono ?_;rintro e w1 ⟨rfl,rfl⟩));exact abF
theorem Ik (s:ByteArray) (hs:10<=s.size) (hm:s.size<100000) (l:(s[0]'(by omega)).toNat=92) (d:(s[1]'(by omega)).toNat=85) (r:Nat) (D:r<1114112) (hv:Lib.validRune (r:Int)=true)
 (f:∀(k:Nat) (h:k<(s.extract 2 s.size).size),k<8->(s.extract 2 s.size)[k]'h=hd (r/16^(7-k)%16)) (w:World) :
 Calls Tryz.prog 154 #[.string s,.int .u8 34] w fun e w'=>e=.returned (.tuple #[.int .i32 r,.bool true,.string ((s.extract 2 s.size).extract 8 (s.extract 2 s.size).size),.nilIface])/\w=w':=by
 obtain⟨s2,a⟩:=nm (s.extract 2 s.size);(have m:s2.size=s.size-2:=by rw[a];simp);have b0:((s.size:Int)==0)=false:=beq_eq_false_iff_ne.mpr ab;have E:decide ((s.size:Int)<=1)=false:=decide_eq_false ab;have e0:((s[0]'(by omega)).toNat:Int)=92:=ab;have e1:((s[1]'(by omega)).toNat:Int)=85:=ab;have n:(0:Int)<s.size:=ab;have q:(1:Int)<s.size:=ab;have t:(2:Int)<=s.size:=ab;have F:decide ((s2.size:Int)<8)=false:=decide_eq_false ab;have u:8<=s2.size:=ab;have z:s2.size<100000:=ab;rw[<- a];have A:Hy (∀(k:Nat) (h:k<s2.size),k<8->s2[k]'h=hd (r/16^(7-k)%16)):=Hd (by subst a;exact f);have B:=a.symm;clear l d a f m;have g:=Tryz.utf8_ValidRune (r:Int) w;rw[hv]at g;clear hv;(go_enter Tryz.func154,Tryz.ntmps154);go_wp2;(go_loopw [7,13,14,15,16] (fun e v j _ _ wr=>∃k:Nat,k<=8/\j=VI k/\v=.int .i32 ((r/16^(8-k):Nat):Int)/\wr=w/\e=.nilIface) (fun _ _ j _ _ _=>8-(intOf j).toNat));case atStart=>exact⟨0,ab,ae,by rw[Nat.div_eq_of_lt ab];rfl,ae⟩
 case round =>
  obtain⟨k,G,rfl,rfl,rfl,rfl⟩:=hrel;by_cases C:k<8
  ·have b:(k:Int)<8:=ab;have H:(k:Int)<s2.size:=ab;have i:k<s2.size:=ab;obtain⟨x,hx⟩:=nm (r/16^(7-k)%16);have hx16:x<16:=ab;(have I:((s2[k]'i).toNat:Int)=((hd x).toNat:Int):=by rw[A.o k i C,hx]);obtain⟨y,hy⟩:=nm (r/16^(8-k))
   have HQ:Hy (r/16^(8-(k+1))=y*16+x):=Hd (by
    rw[hx,hy,show 8-k=(8-(k+1))+1 from by omega,cY,<- Nat.div_div_eq_div_mul,show 7-k=8-(k+1) from by omega]
    omega)
   have HYR:Hy (y*16<=r):=Hd (by have d:=Nat.div_le_self r (16^(8-(k+1)));have J:=HQ.o;omega);exact aay
  have b:¬(k:Int)<8:=ab;(obtain rfl:k=8:=by omega);have c:r/16^(8-8)=r:=ae;rw[c];(go_wp2_with (go_at_call 184;refine g.mono ?_;rintro e w1 ⟨rfl,rfl⟩));exact abF
end lx
namespace fF
open Go.RowKit heap own eG
open eY (Rec)
variable {g:Nat} {w w':World}
theorem Il {n:String} {k:IntKind} {zs:List Int} (b:Tryz.prog.globalNamed n=some g) (h:Lib.TabIs Tryz.prog w n k zs) (hb:BB w w'):Lib.TabIs Tryz.prog w' n k zs:=by
 unfold Lib.TabIs World.var? at h⊢;rw[b]at h⊢;simp only[Option.bind_some]at h⊢
 have c:g<w.heap.size:=by
  rcases bk g w.heap.size with a|a
  ·exact a
  rw[bZ a]at h;cases h
 rw[hb.block g c];exact h
theorem pP {o:Nat} {v:Value} (h:CC w g o v):g<w.heap.size:=by
 exact Lt h
structure kQ (T:Lib.PrintTabs) (w:World):Prop where
 iR:Lib.TabIs Tryz.prog w "internal/strconv.uint64pow10" .u64 Lib.pow10Tab
 prt:Lib.PrintTabsAt 7 8 9 10 T w
 As:lx.U8 w
 err:∃ty v,CC w 0 0 (.iface ty v)
 mx:∃m,CI w 2 0 m
theorem kQ.below {T:Lib.PrintTabs} (h:kQ T w) (hb:BB w w'):kQ T w':=by
 obtain⟨c,d,e,⟨ty,v,a⟩,⟨m,b⟩⟩:=h
 exact⟨Il (g:=6) af c hb,printTabs_below d hb,Utf8Tabs_below e hb,
  ⟨ty,v,(hb.cell (p:=⟨0,0,none⟩) (pP a)).trans a⟩,⟨m,(hb.cell (p:=⟨2,0,none⟩) (pP b)).trans b⟩⟩
theorem Aq (n:Int) (b : -9223372036854775808<=n) (c:n<=9223372036854775807) (w:World) (a:Lib.TabIs Tryz.prog w "internal/strconv.uint64pow10" .u64 Lib.pow10Tab) :
 Calls Tryz.prog 114 #[VI n] w fun e w'=>e=.returned (.string ⟨(Lib.itoa n).toArray⟩)/\BB w w':=
 (Tryz.strconv_Itoa n b c w a).mono fun _ _ ⟨he,k,os,hw⟩=>⟨he,by
   rw[hw]
   exact⟨rfl,rfl,rfl,by simp[Go.Sort.grow,World.drewN],fun g d=>by simp[Go.Sort.grow,World.drewN,Array.getElem?_append,d]⟩⟩
theorem Ar {a b:ByteArray} (h:a.data.toList=b.data.toList):a=b:=by
 obtain⟨⟨a⟩⟩:=a;obtain⟨⟨b⟩⟩:=b;exact congrArg (fun l=>ByteArray.mk ⟨l⟩) h
theorem Im:(Tryz.prog.info? 9).map (fun i=>(i.zero,i.size,i.bytes))=some (some (.string ⟨#[]⟩),1,16):=af
def strs (l:List (List UInt8)):List Value:=l.map fun b=>.string ⟨b.toArray⟩
theorem xa (T:Lib.PrintTabs) (k:Nat) (hk:k<1000) (r:Rec) (c:Small r) (w:World) (hK:kQ T w) :
 Calls Tryz.prog 84 #[VI k,mr r] w fun e w'=>e=.returned (.string ⟨(text T k r).toArray⟩)/\BB w w':=by
 obtain⟨i0,P7,Xk,Xl,Xm⟩:=info_parts Im;unfold mr;obtain⟨s,hs⟩:=nm (⟨r.data.toArray⟩:ByteArray);rw[<- hs];have HS:=Hd hs;clear hs;have HR:=Hd c;obtain⟨ns,M⟩:=nm ([(k:Int),r.eI,r.eK,r.eF,r.fJ,r.eS]:List Int);have Xo:=Hd M;have SA:iG k r=ns.map Lib.itoa:=by rw[M];rfl
 have TG:∀x∈ns,-1<=x/\x<=1099511627776:=by
  have:=c.c0;have:=c.c1;have:=c.n0;have:=c.n1;have:=c.o0;have:=c.o1;have:=c.v0;have:=c.v1;have:=c.e0;have:=c.e1;intro x a;rw[M]at a;simp only[aH,bq,or_false]at a;rcases a with rfl|rfl|rfl|rfl|rfl|rfl<;>omega
 have VZ:=Hd TG;have U:=Hd SA;have V:=Hd hK;clear c M SA TG hK;(go_enter Tryz.func84,Tryz.ntmps84);go_wp2;obtain⟨X,t⟩:=nm (mq r.eI r.eK r.eF r.fJ s r.eS);rw[<- t];(have G:#[VI (k:Int),VI r.eI,VI r.eK,VI r.eF,VI r.fJ,VI r.eS]=(ns.map (Value.int .i64)).toArray:=by rw[Xo.o];rfl);rw[G];have Y:=Hd t;clear G t;(have Z7:ns.length=6:=by rw[Xo.o];rfl);have Z:(iG k r).length=6:=rfl;go_loopw [22,5] (fun u q5 wr=>∃(j:Nat),j<=6/\u=VI j/\wr.ownsRow (w.heap.size+2) 9 1 q5 j (strs ((iG k r).take j))/\Has wr w.heap.size (.cells X 124)/\Has wr (w.heap.size+1) (.cells (ns.map (Value.int .i64)).toArray 3)/\BB w wr/\w.heap.size+2<=wr.heap.size) (fun u _ _=>6-(intOf u).toNat)
 case atStart =>
  have h1:=Has.new w (.cells X 124);have h2:=Has.new (w.alloc (.cells X 124)) (.cells (ns.map (Value.int .i64)).toArray 3);rw[World.size_alloc]at h2;exact⟨0,ab,rfl,⟨rfl,.inl ⟨rfl,rfl⟩⟩,h1.alloc _,h2,((Below.refl _ _).alloc (ax _) _).alloc ae _,ae⟩
 case round =>
  obtain⟨j,hj,rfl,D,N,O,hb,Q5⟩:=hrel;by_cases Pw:j<6
  ·obtain⟨x,a⟩:∃x,ns[j]?=some x:=⟨_,ay ab⟩;(have hc:wr.cell? ⟨w.heap.size+1,j,none⟩=some (VI x):=by rw[O.cell];simp[a]);have V2:=VZ.o x (aT a);have Rh:(j:Int)<6:=ab;obtain⟨z,m⟩:=nm (⟨(Lib.itoa x).toArray⟩:ByteArray);have E:=Aq x ab ab wr (V.o.below hb).iR;rw[<- m]at E
   have SV:Hy ((iG k r).take (j+1)=(iG k r).take j++[Lib.itoa x]):=Hd (by
    rw[bH,U.o,br,a];rfl)
   have HZ:=Hd m;have Qj:=Hd N;have Qu:=Hd O;have HB:=Hd hb;have Sg:=Hd D;obtain⟨L,hL⟩:=nm (strs ((iG k r).take j));have HL:=Hd hL;rw[<- hL]at D;have aa:=Hd D;clear a m N O hb D hL
   go_wp2_with (first
    |(go_at_call 114;refine E.mono ?_;rintro e P ⟨rfl,y⟩;clear E;have PR:=y.size;have ad:=Hd ((mh aa.o y).alloc (.cells #[.string z] 9)))
    |(at_builtin;refine wpList_append_own _ rfl (.tmp 26) (.tmp 29) 174 rfl (w.heap.size+2) 9 i0 (.string ⟨#[]⟩) 1 16 Tryz.underlying174 P7 Xk Xl Xm rfl aj _ _ _ rfl ad.o ⟨P.heap.size,0,none⟩ 1 1 [.string z] rfl rfl ?c1 ao ?c3 ?c4 ?c5 ?_))
   case c1 =>
    intro i v hi;have hn:=Has.new P (.cells #[.string z] 9)
    match i,hi with
    |0,hi =>
     (obtain rfl:Value.string z=v:=by simpa using hi);exact hn.cell 0
   (case c3=>unfold maxLen;omega);(case c4=>omega);(case c5=>simp;omega);intro v2 w2 PJ Q _;(go_wp2_with fail);go_roundw
   case rel =>
    have A:∀g,Value.ownBlock _=some g->w.heap.size+2<=g:=fun g hg=>lK Sg.o g hg;refine⟨j+1,ab,by go_num,?_,((Qj.o.below y Qj.o.lt).alloc _).grown Q (fun e=>by have:=A _ e.symm;omega),((Qu.o.below y Qu.o.lt).alloc _).grown Q (fun e=>by have:=A _ e.symm;omega),((HB.o.trans (y.mono HB.o.size)).alloc (by have:=HB.o.size;omega) _).grown Q (by have:=HB.o.size;simp;omega) (fun i hi=>by have:=A _ hi;omega),by have:=Q.size;rw[World.size_alloc]at this;omega⟩;(have e:strs ((iG k r).take (j+1))=L++[.string z]:=by rw[SV.o,HL.o,HZ.o];simp[strs]);rw[e];exact PJ
   case measure=>simp[intOf];omega
  (obtain rfl:j=6:=by omega);rcases D.2 with⟨-,h0⟩|⟨g,cap,cur,rfl,Tr,hg,Sp,PE,Q7,TE⟩
  ·omega
  obtain⟨xs,R⟩:=nm ((iG k r).map fun b=>⟨b.toArray⟩:List ByteArray);(have QW:xs.length=6:=by rw[R];rfl);have B:xs.map (·.data.toList)=iG k r:=by rw[R,List.map_map];exact List.map_id _
  have f:∀(i:Nat) x,xs[i]?=some x->wr.cell? ⟨g,0+i,none⟩=some (.string x):=by
   intro i x a;(have hi:i<6:=by rcases bk i 6 with h|h;exact h;rw[bw ab]at a;cases a);rw[cN,(kj (w:=wr) (n:=6) (size:=1) hg TE i ab).1];rw[R]at a;rw[br]at a;rw[strs,br,bB (by rw[Z];exact ax _)]
   cases hq:(iG k r)[i]? with
   |none=>rw[hq]at a;cases a
   |some b=>rw[hq]at a;simp at a;simp[a]
  obtain⟨F,l⟩:=nm (⟨(Lib.join (iG k r) [32]).toArray⟩:ByteArray);have Sz:=Am T k r ab ab HR.o;rw[Ao]at Sz;simp only[aE,aL,bJ]at Sz;have a7:F.size<=400:=by rw[l];show (Lib.join (iG k r) [32]).toArray.size<=400;rw[bX];omega
  have JO:∀W,BB wr W->Calls Tryz.prog 115 #[.slice (some ⟨g,0,none⟩) 6 cap,.string ⟨#[32]⟩] W fun e w'=>e=.returned (.string F)/\BB W w':=by
   intro W q;have h:=Tryz.strings_Join g 0 cap xs ⟨#[32]⟩ W (fun i x a=>(q.cell (p:=⟨g,0+i,none⟩) (Has.lt (w:=wr) hg)).trans (f i x a)) (aG (Has.lt (w:=wr) hg) q.size) ab ab (by rw[B];show (Lib.join (iG k r) [32]).length<=_;omega);rw[QW,B]at h;rw[l];exact h
  obtain⟨C,UY⟩:=nm (strOfNums (Lib.quoteZ T s):ByteArray);(have X3:C.data.toList=eG.quoted T r.data:=by rw[UY,HS.o];rfl);(have bb:C.size<=400:=by show C.data.size<=400;rw[<- cy,X3];omega);have bg:s.size<=20:=by rw[HS.o];show r.data.toArray.size<=20;rw[bX];exact HR.o.d1
  have QU:∀W,BB wr W->Calls Tryz.prog 116 #[.string s] W fun e w'=>e=.returned (.string C)/\BB W w':=by
   intro W q;have H:=(V.o.below hb).below q;rw[UY];exact Tryz.strconv_Quote T s W ab H.prt H.As
  have cJ:∀d os,Calls Tryz.prog 115 #[.slice (some ⟨g,0,none⟩) 6 cap,.string ⟨#[32]⟩] (Go.Sort.grow (redrawn wr d) os) fun e w''=>e=.returned (.string F)/\∃p:Regrown,w''=Go.Sort.grow (redrawn wr p.d) p.os:=fun d os=>Calls.regrown_of (JO _ (below_regrown wr d os));have cQ:∀d os,Calls Tryz.prog 116 #[.string s] (Go.Sort.grow (redrawn wr d) os) fun e w''=>e=.returned (.string C)/\∃p:Regrown,w''=Go.Sort.grow (redrawn wr p.d) p.os:=fun d os=>Calls.regrown_of (QU _ (below_regrown wr d os));(have I:wr.cell? ⟨w.heap.size,4,none⟩=some (.string s):=by rw[N.cell,Y.o];rfl);have k4:=cell_regrown I;have n1:¬9223372036854775807<F.size+1:=ab;have n2:¬9223372036854775807<F.size+1+C.size:=ab;have al:=Hd X3;have an:=Hd l;have HB:=Hd hb;clear D hg Sp PE Q7 TE R QW B f Sz JO QU UY X3 l N O hb I;(go_wp2_with fail);refine wp_region_quiet_below af af ?_
  repeat (quiet_step (first|exact cJ _ _|exact cQ _ _))
  refine wpQuiet_nil ?_;intro _ aq;obtain⟨⟨dq,J⟩,ar⟩:=aq;subst ar;obtain⟨W,q⟩:=nm (Go.Sort.grow (redrawn wr dq) J);(have VA:BB wr W:=by rw[q];exact below_regrown wr dq J);dsimp only;rw[<- q];obtain⟨bd,S⟩:=nm (F++⟨#[32]⟩++C);rw[<- S];(have K:bd.data.toList=body T k r:=by rw[S,Ao];simp[al.o,an.o]);have au:(⟨#[32]⟩:ByteArray).size=1:=rfl;(have a6:bd.size<=900:=by rw[S,ByteArray.size_append,ByteArray.size_append,au];omega);have SU:=Ib bd ab W;have a1:=Ak bd.data.toList;obtain⟨sm,Ql⟩:=nm (mP bd.data.toList);rw[<- Ql]at SU a1;obtain⟨z,m⟩:=nm (⟨(Lib.itoa sm).toArray⟩:ByteArray);have E:=Aq sm ab ab W ((V.o.below HB.o).below VA).iR;rw[<- m]at E;(have bj:z.size<=20:=by rw[m];show (Lib.itoa sm).toArray.size<=20;rw[bX];exact Al sm ab ab);have n3:¬9223372036854775807<bd.size+1:=ab;have n4:¬9223372036854775807<bd.size+1+z.size:=ab;have V3:Hy (bd++⟨#[32]⟩++z=⟨(text T k r).toArray⟩):=Hd (Ar (by rw[text,<- K,<- Ql,m];simp));have RG:=Hd VA;clear q S K Ql m VA cJ cQ k4
  go_wp2_with (first
   |(go_at_call 117;refine SU.mono ?_;rintro e P ⟨rfl,rfl⟩)
   |(go_at_call 114;refine E.mono ?_;rintro e P ⟨rfl,y⟩))
  go_ret;refine⟨?_,(HB.o.trans (RG.o.mono HB.o.size)).trans (y.mono (aB HB.o.size RG.o.size))⟩;rw[<- V3.o];rfl
end fF
namespace lx
open Go.RowKit oq
theorem pf {a b:ByteArray} (h:a.data.toList=b.data.toList):a=b:=by
 obtain⟨⟨x⟩⟩:=a;obtain⟨⟨y⟩⟩:=b;simp only at h;rw[h]
theorem pg (l r:Bytes) (s:ByteArray) (e:s=⟨(l++r).toArray⟩) (k:Nat) (a:k=l.length):s.extract k s.size=⟨r.toArray⟩:=by
 apply pf;rw[Lib.extract_to_end,e,a];simp
theorem Io (r:Nat) (d:128<=r) (hv:Lib.validRune (r:Int)=true) (rest:Bytes):Lib.decodeGo ⟨(Lib.encodeRune r++rest).toArray⟩=(r,(Lib.encodeRune r).length):=by
 have f:((r:Int)<55296)\/(57343<(r:Int)/\(r:Int)<=1114111):=by
  simp only[Lib.validRune,decide_eq_true_eq]at hv;omega
 clear hv;have hlen:=Lib.encodeRuneZ_length r;(have b:(Lib.encodeRune r).length=(Lib.encodeRuneZ r).length:=by simp[Lib.encodeRune]);unfold Lib.decodeGo;rw[if_neg (by simp[ByteArray.size];intro h;rw[h]at b;simp at b;omega)];have:Utf8.decode ⟨(Lib.encodeRune r++rest).toArray⟩ 0=Lib.decodeL (Lib.encodeRune r++rest):=rfl;rw[this,Lib.decodeL_N];by_cases g:r<=2047
 ·have e:Lib.encodeRune r=[UInt8.ofNat (192+r/64),UInt8.ofNat (128+r%64)]:=by
   unfold Lib.encodeRune;rw[Lib.encodeRuneZ_two ab ab];simp only[aY,bD];congr 2
   all_goals
    congr 1;omega
  rw[e]
  simp only[ct,cf,aL,List.getD_cons_zero,List.getD_cons_succ]
  have e0:(UInt8.ofNat (192+r/64)).toNat=192+r/64:=ah
  have e1:(UInt8.ofNat (128+r%64)).toNat=128+r%64:=ah
  rw[e0,e1]
  unfold Lib.decodeN
  repeat' split
  all_goals first
   |omega
   |(refine Prod.ext ?_ ?_<;>simp only[bJ]<;>omega)
 by_cases i:r<=65535
 ·have e:Lib.encodeRune r=[UInt8.ofNat (224+r/4096),UInt8.ofNat (128+r/64%64),UInt8.ofNat (128+r%64)]:=by
   unfold Lib.encodeRune;rw[Lib.encodeRuneZ_three ab];simp only[aY,bD];congr 2
  rw[e]
  simp only[ct,cf,aL,List.getD_cons_zero,List.getD_cons_succ]
  have e0:(UInt8.ofNat (224+r/4096)).toNat=224+r/4096:=ah
  have e1:(UInt8.ofNat (128+r/64%64)).toNat=128+r/64%64:=ah
  have a:(UInt8.ofNat (128+r%64)).toNat=128+r%64:=ah
  rw[e0,e1,a]
  unfold Lib.decodeN
  repeat' split
  all_goals first
   |omega
   |(refine Prod.ext ?_ ?_<;>simp only[bJ]<;>omega)
 have e:Lib.encodeRune r=[UInt8.ofNat (240+r/262144),UInt8.ofNat (128+r/4096%64),UInt8.ofNat (128+r/64%64),UInt8.ofNat (128+r%64)]:=by
  unfold Lib.encodeRune;rw[Lib.encodeRuneZ_four ab ab];simp only[aY,bD];congr 2
 rw[e]
 simp only[ct,cf,aL,List.getD_cons_zero,List.getD_cons_succ]
 have e0:(UInt8.ofNat (240+r/262144)).toNat=240+r/262144:=ah
 have e1:(UInt8.ofNat (128+r/4096%64)).toNat=128+r/4096%64:=ah
 have a:(UInt8.ofNat (128+r/64%64)).toNat=128+r/64%64:=ah
 have c:(UInt8.ofNat (128+r%64)).toNat=128+r%64:=ah
 rw[e0,e1,a,c]
 unfold Lib.decodeN
 repeat' split
 all_goals first
  |omega
  |(refine Prod.ext ?_ ?_<;>simp only[bJ]<;>omega)
theorem Ip (r:Nat) (a:128<=r) (hv:Lib.validRune (r:Int)=true):∃b l,Lib.encodeRune r=b::l/\128<=b.toNat:=by
 have c:((r:Int)<55296)\/(57343<(r:Int)/\(r:Int)<=1114111):=by
  simp only[Lib.validRune,decide_eq_true_eq]at hv;omega
 unfold Lib.encodeRune;by_cases d:r<=2047
 ·rw[Lib.encodeRuneZ_two ab ab];exact⟨_,_,rfl,ah⟩
 by_cases e:r<=65535
 ·rw[Lib.encodeRuneZ_three ab];exact⟨_,_,rfl,ah⟩
 rw[Lib.encodeRuneZ_four ab ab];exact⟨_,_,rfl,ah⟩
theorem xf (t:Tok) (ht:jI t) (rest:Bytes) (s:ByteArray) (e:s=⟨(t.bs++rest).toArray⟩) (hm:s.size<100000) (w:World) (z:U8 w) :
 Calls Tryz.prog 154 #[.string s,.int .u8 34] w fun e w'=>e=.returned (.tuple #[.int .i32 t.r,.bool t.m,.string ⟨rest.toArray⟩,.nilIface])/\BB w w':=by
 have g:s.size=t.bs.length+rest.length:=by rw[e];simp[ByteArray.size]
 cases ht with
 |ascii c u y A B =>
  (have i:∀h,s[0]'h=c:=fun h=>by subst e;rfl);(have hs:0<s.size:=by rw[g];simp;omega);refine (Ic s hs hm (by rw[i];exact u) (by rw[i];exact y) (by rw[i];exact A) (by rw[i];exact B) w).mono ?_;rintro p w' ⟨rfl,n,rfl⟩;rw[i,pg [c] rest s e 1 rfl];exact⟨rfl,below_drewN (Below.refl _ _) n⟩
 |multi r u hv =>
  obtain⟨n,rfl⟩:∃n:Nat,r=n:=⟨r.toNat,ab⟩;obtain⟨b,l,hb,C⟩:=Ip n ab hv;(have i:∀h,s[0]'h=b:=fun h=>by subst e;simp only[hb];rfl);(have hs:0<s.size:=by rw[g,hb];simp;omega);have hd:=Io n ab hv rest;rw[<- e]at hd;refine (Ig s hs hm (by rw[i];exact C) n (Lib.encodeRune n).length (by rw[hd]) (by rw[hd]) (by rw[g];simp) w z).mono ?_;rintro p w' ⟨rfl,D⟩;rw[pg (Lib.encodeRune n) rest s e _ rfl];exact⟨rfl,D⟩
 |short x v h =>
  (have j:∀h,s[0]'h=92:=fun h=>by subst e;rfl);(have o:∀h,s[1]'h=x:=fun h=>by subst e;rfl);(have hs:1<s.size:=by rw[g];simp;omega);refine (Ie s hs hm (by rw[j];rfl) v (by rw[o];exact h) w).mono ?_;rintro p w' ⟨rfl,rfl⟩;rw[pg [92,x] rest s e 2 rfl];exact⟨rfl,Below.refl _ _⟩
 |hex a h =>
  (have j:∀h,s[0]'h=92:=fun h=>by subst e;rfl);(have o:∀h,s[1]'h=120:=fun h=>by subst e;rfl);(have hs:4<=s.size:=by rw[g];simp);have d:s.extract 2 s.size=⟨([hd (a/16),hd (a%16)]++rest).toArray⟩:=pg [92,120] _ s e 2 rfl;refine (Ii s hs hm (by rw[j];rfl) (by rw[o];rfl) a h (fun k f q=>?_) w).mono ?_
  ·revert f;rw[d];intro f
   match k,q with
   |0,_=>show hd (a/16)=hd (a/16^1%16);congr 1;omega
   |1,_=>show hd (a%16)=hd (a/16^0%16);congr 1;omega
  rintro p w' ⟨rfl,rfl⟩;rw[d,pg [hd (a/16),hd (a%16)] rest _ rfl 2 rfl];exact⟨rfl,Below.refl _ _⟩
 |u4 r u y hv =>
  (have j:∀h,s[0]'h=92:=fun h=>by subst e;rfl);(have o:∀h,s[1]'h=117:=fun h=>by subst e;rfl);(have hs:6<=s.size:=by rw[g];simp[mO]);have d:s.extract 2 s.size=⟨(mO r 4++rest).toArray⟩:=pg [92,117] _ s e 2 rfl;refine (Ij s hs hm (by rw[j];rfl) (by rw[o];rfl) r y hv (fun k f q=>?_) w).mono ?_
  ·revert f;rw[d];intro f
   match k,q with
   |0,_=>rfl
   |1,_=>rfl
   |2,_=>rfl
   |3,_=>rfl
  rintro p w' ⟨rfl,rfl⟩;rw[d,pg (mO r 4) rest _ rfl 4 rfl];exact⟨rfl,Below.refl _ _⟩
 |u8 r u hv =>
  (have E:r<1114112:=by simp only[Lib.validRune,decide_eq_true_eq]at hv;omega);(have j:∀h,s[0]'h=92:=fun h=>by subst e;rfl);(have o:∀h,s[1]'h=85:=fun h=>by subst e;rfl);(have hs:10<=s.size:=by rw[g];simp[mO]);have d:s.extract 2 s.size=⟨(mO r 8++rest).toArray⟩:=pg [92,85] _ s e 2 rfl;refine (Ik s hs hm (by rw[j];rfl) (by rw[o];rfl) r E hv (fun k f q=>?_) w).mono ?_
  ·revert f;rw[d];intro f
   match k,q with
   |0,_=>rfl
   |1,_=>rfl
   |2,_=>rfl
   |3,_=>rfl
   |4,_=>rfl
   |5,_=>rfl
   |6,_=>rfl
   |7,_=>rfl
  rintro p w' ⟨rfl,rfl⟩;rw[d,pg (mO r 8) rest _ rfl 8 rfl];exact⟨rfl,Below.refl _ _⟩
theorem rr (s:ByteArray) (c:Int) (w:World) :
 Calls Tryz.prog 150 #[.string s,.int .u8 c] w fun e w'=>e=.returned (VI (Lib.indexByte s.data.toList c.toNat.toUInt8))/\w=w':=by
 (go_enter Tryz.func150,Tryz.ntmps150);go_wp2;rw[run_callFunc_extern Tryz.func180 af af af (e:=Extern.BytealgIndexByte.indexByte) af,Lib.run_indexByteString];simp only[Result.andThen];rw[Oper.upon_value];go_wp2;go_ret;exact⟨rfl,rfl⟩
theorem uk (s:ByteArray) (c:Int) (w:World) :
 Calls Tryz.prog 151 #[.string s,.int .u8 c] w fun e w'=>e=.returned (.bool (Lib.indexByte s.data.toList c.toNat.toUInt8 != -1))/\w=w':=by
 (go_enter Tryz.func151,Tryz.ntmps151);(go_wp2_with (go_at_call 150;refine (rr _ _ _).mono ?_;rintro e a ⟨rfl,rfl⟩));go_ret;exact⟨rfl,rfl⟩
theorem Iq (r:Int) (a:128<=r) (hv:Lib.validRune r=true):∀b∈Lib.encodeRune r,128<=b.toNat:=by
 have c:(r<55296)\/(57343<r/\r<=1114111):=by
  simp only[Lib.validRune,decide_eq_true_eq]at hv;omega
 intro b hb;unfold Lib.encodeRune at hb;by_cases d:r<=2047
 ·rw[Lib.encodeRuneZ_two ab ab]at hb;simp only[aY,bD,aH,bq,or_false]at hb;rcases hb with rfl|rfl<;>(simp;omega)
 by_cases e:r<=65535
 ·rw[Lib.encodeRuneZ_three ab]at hb;simp only[aY,bD,aH,bq,or_false]at hb;rcases hb with rfl|rfl|rfl<;>(simp;omega)
 rw[Lib.encodeRuneZ_four ab ab]at hb;simp only[aY,bD,aH,bq,or_false]at hb;rcases hb with rfl|rfl|rfl|rfl<;>(simp;omega)
variable {t:Tok}
theorem xg (ht:jI t):((∀b∈t.bs,b≠34/\b≠92/\b≠10)/\t.val=t.bs/\t.bs≠[])\/(∃l,t.bs=92::l):=by
 cases ht with
 |ascii c d g f i =>
  refine .inl ⟨fun b hb=>?_,?_,ae⟩
  ·rw[aD.1 hb];refine⟨fun e=>f (by rw[e];rfl),fun e=>i (by rw[e];rfl),fun e=>by rw[e]at d;revert d;decide⟩
  simp[Tok.val]
 |multi r d hv =>
  refine .inl ⟨fun b hb=>?_,?_,?_⟩
  ·have:=Iq r d hv b hb;refine⟨fun e=>?_,fun e=>?_,fun e=>?_⟩<;>(rw[e]at this;revert this;decide)
  ·unfold Tok.val;rw[if_neg ah]
  intro e;have g:=Lib.encodeRuneZ_length r;(have f:(Lib.encodeRune r).length=0:=by have e2:Lib.encodeRune r=[]:=e;rw[e2];rfl);rw[show (Lib.encodeRune r).length=(Lib.encodeRuneZ r).length from by simp[Lib.encodeRune]]at f;omega
 |short x v h=>exact .inr ⟨_,rfl⟩
 |hex a h=>exact .inr ⟨_,rfl⟩
 |u4 r d g hv=>exact .inr ⟨_,rfl⟩
 |u8 r d hv=>exact .inr ⟨_,rfl⟩
theorem um (ht:jI t):∃b l,t.bs=b::l/\b≠34/\b≠10:=by
 rcases xg ht with⟨a,-,c⟩|⟨l,h⟩
 ·cases hb:t.bs with
  |nil=>exact absurd hb c
  |cons b l=>exact⟨b,l,rfl,(a b (by rw[hb];simp)).1,(a b (by rw[hb];simp)).2.2⟩
 exact⟨92,l,h,aj,aj⟩
theorem Au:∀(a:List Tok),(∀t∈a,jI t)->(92:UInt8)∉a.flatMap Tok.bs->a.flatMap Tok.val=a.flatMap Tok.bs/\(34:UInt8)∉a.flatMap Tok.bs
 | [],_,_=>⟨rfl,ae⟩
 |t::a,ht,h=>by
  rw[bm]at h;rw[bm,bm];have b:(92:UInt8)∉t.bs:=fun hm=>h (bp _ hm);have c:(92:UInt8)∉a.flatMap Tok.bs:=fun hm=>h (bA _ hm);obtain⟨i1,i2⟩:=Au a (fun x hx=>ht x (aI _ hx)) c;rcases xg (ht t (aK ..))with⟨d,e,-⟩|⟨l,k⟩
  ·refine⟨by rw[e,i1],fun hm=>?_⟩;rcases aN.1 hm with hm|hm
   ·exact (d _ hm).1 rfl
   exact i2 hm
  exact absurd (by rw[k];simp) b
theorem Av:∀(a:List Tok),(∀t∈a,jI t)->∀o:Nat,(a.flatMap Tok.bs)[o]?=some 34->(92:UInt8)∈(a.flatMap Tok.bs).take o
 | [],_,o,h=>by simp at h
 |t::a,ht,o,h=>by
  rw[bm]at h⊢;by_cases b:o<t.bs.length
  ·rw[ba b]at h;rcases xg (ht t (aK ..))with⟨c,-,-⟩|⟨l,k⟩
   ·exact absurd rfl (c 34 (aT h)).1
   rw[k]at h⊢
   cases o with
   |zero=>simp at h
   |succ o=>simp
  rw[aR ab]at h;have:=Av a (fun x hx=>ht x (aI _ hx)) _ h;rw[dh,aN];exact .inr this
end lx
end Go.Proofs.YtjhdaojclilakaaGreatDoor
