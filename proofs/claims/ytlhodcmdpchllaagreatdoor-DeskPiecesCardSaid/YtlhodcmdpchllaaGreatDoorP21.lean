/-
  A part of the proof of the law DeskPieces: UnqA, UnqB, WalD, UnqC, UnqD.
-/
import Derived.Test.YtlhodcmdpchllaaGreatDoorShelf
import Derived.Test.YtlhodcmdpchllaaGreatDoorRows
import Derived.WalkKit
import Derived.ProofKit
import Derived.OpenShut
import Derived.BigQuiet
import Derived.Deep.QuietTactic
import Derived.Lib.QuietBelow
import Derived.Shelf.Strconv.Quoted
import Derived.Lib.Bytealg
import Derived.Lib.IndexLaws
import Derived.Test.YtlhodcmdpchllaaGreatDoorHd
import Derived.Test.YtlhodcmdpchllaaGreatDoorP17
set_option maxHeartbeats 16000000
set_option maxRecDepth 1000000
namespace Go.Proofs.YtlhodcmdpchllaaGreatDoor
namespace jS
open Go.RowKit lG
theorem kA {fn:Func} {t u v x:Tmp} (h:fn.results=#[.tmp t,.tmp u,.tmp v,.tmp x]) (tmps:Array Value) (P:Program) (w:World) :
 (results fn tmps).run P w=.ok (.tuple #[tmps.getD t undef,tmps.getD u undef,tmps.getD v undef,tmps.getD x undef]) w:=by
 simp[results,h]
theorem sO (x:Nat) (hx:x<16) (w:World):Calls Tryz.prog 223 #[.int .u8 ((hd x).toNat:Int)] w fun e w'=>e=.returned (.tuple #[.int .i32 x,.bool true])/\w=w':=by
 by_cases h:x<10
 ·(have e:(((hd x).toNat:Nat):Int)=48+x:=by unfold hd;rw[if_pos h];simp;omega);rw[e];(have d1:decide ((48:Int)<=48+x)=true:=by simp;omega);(have d2:decide ((48:Int)+x<=57)=true:=by simp;omega);(go_enter Tryz.func223,Tryz.ntmps223);go_wp2;go_ret2;exact⟨by rw[show (48:Int)+x-48=x from by omega];rfl,rfl⟩
 (have e:(((hd x).toNat:Nat):Int)=87+x:=by unfold hd;rw[if_neg h];simp;omega);rw[e];(have d1:decide ((48:Int)<=87+x)=true:=by simp;omega);(have d2:decide ((87:Int)+x<=57)=false:=by simp;omega);(have d3:decide ((97:Int)<=87+x)=true:=by simp;omega);(have d4:decide ((87:Int)+x<=102)=true:=by simp;omega);(go_enter Tryz.func223,Tryz.ntmps223);go_wp2;go_ret2;exact⟨by rw[show (87:Int)+x-97+10=x from by omega];rfl,rfl⟩
theorem qI {n:Int} (h0:0<=n) (h1:n<2147483648):wrap32 n=n:=by unfold wrap32;omega
theorem CL (s:ByteArray) (hs:0<s.size) (hm:s.size<100000) (h0:32<=(s[0]'hs).toNat) (h1:(s[0]'hs).toNat<127) (h2:(s[0]'hs).toNat≠34) (h3:(s[0]'hs).toNat≠92) (w:World) :
 Calls Tryz.prog 208 #[.string s,.int .u8 34] w fun e w'=>e=.returned (.tuple #[.int .i32 (s[0]'hs).toNat,.bool false,.string (s.extract 1 s.size),.nilIface])/\∃n,w'=w.drewN n:=by
 have b0:((s.size:Int)==0)=false:=beq_eq_false_iff_ne.mpr (by omega);have b1:(((s[0]'hs).toNat:Int)==34)=false:=beq_eq_false_iff_ne.mpr (by omega);have b2:decide ((128:Int)<=(s[0]'hs).toNat)=false:=decide_eq_false (by omega);have b3:(((s[0]'hs).toNat:Int) !=92)=true:=bne_iff_ne.mpr (by omega);(have XE:(0:Int)<s.size:=by omega);have HW:Hy (wrap32 ((s[0]'hs).toNat:Int)=(s[0]'hs).toNat):=Hd (qI (by omega) (by omega));clear h0 h1 h2 h3;(go_enter Tryz.func208,Tryz.ntmps208);go_wp2;(go_quiet (fail));go_wp2;refine bodyPost_ret (kA rfl _ _ _) rfl ?_;rw[HW.o];exact⟨rfl,_,rfl⟩
theorem CN (s:ByteArray) (hs:1<s.size) (hm:s.size<100000) (h0:(s[0]'(by omega)).toNat=92) (v:Int) (h:j9 (s[1]'hs) v) (w:World) :
 Calls Tryz.prog 208 #[.string s,.int .u8 34] w fun e w'=>e=.returned (.tuple #[.int .i32 v,.bool false,.string (s.extract 2 s.size),.nilIface])/\w=w':=by
 have b0:((s.size:Int)==0)=false:=beq_eq_false_iff_ne.mpr (by omega);have b1:decide ((s.size:Int)<=1)=false:=decide_eq_false (by omega);(have e0:((s[0]'(by omega)).toNat:Int)=92:=by omega);(have XE:(0:Int)<s.size:=by omega);(have hsJ:(1:Int)<s.size:=by omega);(have hsK:(2:Int)<=s.size:=by omega);unfold j9 at h;rcases h with⟨h1,rfl⟩|⟨h1,rfl⟩|⟨h1,rfl⟩|⟨h1,rfl⟩|⟨h1,rfl⟩|⟨h1,rfl⟩|⟨h1,rfl⟩|⟨h1,rfl⟩|⟨h1,rfl⟩
 ·(have e1:((s[1]'hs).toNat:Int)=97:=by rw[h1];rfl);clear h0 h1;(go_enter Tryz.func208,Tryz.ntmps208);go_wp2;refine bodyPost_ret (kA rfl _ _ _) rfl ?_;exact⟨rfl,rfl⟩
 ·(have e1:((s[1]'hs).toNat:Int)=98:=by rw[h1];rfl);clear h0 h1;(go_enter Tryz.func208,Tryz.ntmps208);go_wp2;refine bodyPost_ret (kA rfl _ _ _) rfl ?_;exact⟨rfl,rfl⟩
 ·(have e1:((s[1]'hs).toNat:Int)=102:=by rw[h1];rfl);clear h0 h1;(go_enter Tryz.func208,Tryz.ntmps208);go_wp2;refine bodyPost_ret (kA rfl _ _ _) rfl ?_;exact⟨rfl,rfl⟩
 ·(have e1:((s[1]'hs).toNat:Int)=110:=by rw[h1];rfl);clear h0 h1;(go_enter Tryz.func208,Tryz.ntmps208);go_wp2;refine bodyPost_ret (kA rfl _ _ _) rfl ?_;exact⟨rfl,rfl⟩
 ·(have e1:((s[1]'hs).toNat:Int)=114:=by rw[h1];rfl);clear h0 h1;(go_enter Tryz.func208,Tryz.ntmps208);go_wp2;refine bodyPost_ret (kA rfl _ _ _) rfl ?_;exact⟨rfl,rfl⟩
 ·(have e1:((s[1]'hs).toNat:Int)=116:=by rw[h1];rfl);clear h0 h1;(go_enter Tryz.func208,Tryz.ntmps208);go_wp2;refine bodyPost_ret (kA rfl _ _ _) rfl ?_;exact⟨rfl,rfl⟩
 ·(have e1:((s[1]'hs).toNat:Int)=118:=by rw[h1];rfl);clear h0 h1;(go_enter Tryz.func208,Tryz.ntmps208);go_wp2;refine bodyPost_ret (kA rfl _ _ _) rfl ?_;exact⟨rfl,rfl⟩
 ·(have e1:((s[1]'hs).toNat:Int)=92:=by rw[h1];rfl);clear h0 h1;(go_enter Tryz.func208,Tryz.ntmps208);go_wp2;refine bodyPost_ret (kA rfl _ _ _) rfl ?_;exact⟨rfl,rfl⟩
 (have e1:((s[1]'hs).toNat:Int)=34:=by rw[h1];rfl);clear h0 h1;(go_enter Tryz.func208,Tryz.ntmps208);go_wp2;refine bodyPost_ret (kA rfl _ _ _) rfl ?_;exact⟨rfl,rfl⟩
abbrev U8 (w:World):Prop:=Lib.Utf8Tabs 1 2 w
theorem below_drewN {B:Nat} {w w1:World} (h:Below B w w1) (n:Nat):Below B w (w1.drewN n):=⟨h.os,h.tape,h.output,h.size,h.block⟩
theorem CO (s:ByteArray) (hs:0<s.size) (hm:s.size<100000) (h0:128<=(s[0]'hs).toNat) (R K:Nat) (hR:(Lib.decodeGo s).1=R) (hK:(Lib.decodeGo s).2=K) (hKs:K<=s.size) (w:World) (hU:U8 w) :
 Calls Tryz.prog 208 #[.string s,.int .u8 34] w fun e w'=>e=.returned (.tuple #[.int .i32 R,.bool true,.string (s.extract K s.size),.nilIface])/\Below w.heap.size w w':=by
 have c1:=Tryz.utf8_DecodeRuneInString s w hU;rw[hR,hK]at c1;have b0:((s.size:Int)==0)=false:=beq_eq_false_iff_ne.mpr (by omega);have b1:(((s[0]'hs).toNat:Int)==34)=false:=beq_eq_false_iff_ne.mpr (by omega);have b2:decide ((128:Int)<=(s[0]'hs).toNat)=true:=decide_eq_true (by omega);(have XE:(0:Int)<s.size:=by omega);(have hsK:(K:Int)<=s.size:=by omega);clear h0 hU hR hK;(go_enter Tryz.func208,Tryz.ntmps208);(go_wp2_with (go_at_call 28;refine c1.mono ?_;rintro e w1 ⟨rfl,Kd⟩));(go_quiet (fail));go_wp2;refine bodyPost_ret (kA rfl _ _ _) rfl ?_;exact⟨rfl,below_drewN Kd _⟩
theorem CQ (a b:Nat) (ha:a<2147483648) (hb:b<2147483648):bits .or .i32 (a:Int) (b:Int)=((a ||| b:Nat):Int):=by
 have h:a ||| b<2147483648:=Nat.or_lt_two_pow (n:=31) ha hb
 have e:(BitVec.ofInt IntKind.i32.bits (a:Int) ||| BitVec.ofInt IntKind.i32.bits (b:Int)).toNat=a ||| b:=by
  rw[BitVec.toNat_or,BitVec.toNat_ofInt,BitVec.toNat_ofInt];congr 1<;>(simp[IntKind.bits];omega)
 unfold bits;simp only;rw[e];rw[IntKind.wrap_i32];omega
theorem sP (y x:Nat) (hx:x<16) (hy:y*16<2147483632):bits BinOp.or IntKind.i32 ((y*16:Nat):Int) (x:Int)=((y*16+x:Nat):Int):=by
 rw[CQ (y*16) x (by omega) (by omega)];congr 1;rw[show (16:Nat)=2^4 from rfl,<- Nat.shiftLeft_eq,Nat.shiftLeft_add_eq_or_of_lt hx]
theorem CR (s:ByteArray) (hs:4<=s.size) (hm:s.size<100000) (h0:(s[0]'(by omega)).toNat=92) (h1:(s[1]'(by omega)).toNat=120) (r:Nat) (hr:r<256)
 (Pe:∀(k:Nat) (h:k<(s.extract 2 s.size).size),k<2->(s.extract 2 s.size)[k]'h=hd (r/16^(1-k)%16)) (w:World) :
 Calls Tryz.prog 208 #[.string s,.int .u8 34] w fun e w'=>e=.returned (.tuple #[.int .i32 r,.bool false,.string ((s.extract 2 s.size).extract 2 (s.extract 2 s.size).size),.nilIface])/\w=w':=by
 obtain⟨s2,KY⟩:∃s2,s2=s.extract 2 s.size:=⟨_,rfl⟩;(have LH:s2.size=s.size-2:=by rw[KY];simp);have b0:((s.size:Int)==0)=false:=beq_eq_false_iff_ne.mpr (by omega);have b1:decide ((s.size:Int)<=1)=false:=decide_eq_false (by omega);(have e0:((s[0]'(by omega)).toNat:Int)=92:=by omega);(have e1:((s[1]'(by omega)).toNat:Int)=120:=by omega);(have XE:(0:Int)<s.size:=by omega);(have hsJ:(1:Int)<s.size:=by omega);(have hsK:(2:Int)<=s.size:=by omega);have b2:decide ((s2.size:Int)<2)=false:=decide_eq_false (by omega);(have Yy:2<=s2.size:=by omega);(have Yz:s2.size<100000:=by omega);rw[<- KY];have HD:Hy (∀(k:Nat) (h:k<s2.size),k<2->s2[k]'h=hd (r/16^(1-k)%16)):=Hd (by subst KY;exact Pe);have YA:=KY.symm;clear h0 h1 KY Pe LH;(go_enter Tryz.func208,Tryz.ntmps208);go_wp2;(go_loopw [7,13,14,15,16] (fun e v j _ _ wr=>∃k:Nat,k<=2/\j=.int .i64 k/\v=.int .i32 ((r/16^(2-k):Nat):Int)/\wr=w/\e=.nilIface) (fun _ _ j _ _ _=>2-(intOf j).toNat));case atStart=>exact⟨0,by omega,by simp,by rw[Nat.div_eq_of_lt (by omega)];rfl,by simp⟩
 case round =>
  obtain⟨k,hk,rfl,rfl,rfl,rfl⟩:=hrel;by_cases OE:k<2
  ·(have YB:(k:Int)<2:=by omega);(have Mm:(k:Int)<s2.size:=by omega);(have hk3:k<s2.size:=by omega);obtain⟨x,hx⟩:∃x,x=r/16^(1-k)%16:=⟨_,rfl⟩;(have Pf:x<16:=by omega);(have ek:((s2[k]'hk3).toNat:Int)=((hd x).toNat:Int):=by rw[HD.o k hk3 OE,hx]);obtain⟨y,hy⟩:∃y,y=r/16^(2-k):=⟨_,rfl⟩
   have HQ:Hy (r/16^(2-(k+1))=y*16+x):=Hd (by
    rw[hx,hy,show 2-k=(2-(k+1))+1 from by omega,cf,<- Nat.div_div_eq_div_mul,show 1-k=2-(k+1) from by omega]
    omega)
   have YC:Hy (y*16<=r):=Hd (by have h1:=Nat.div_le_self r (16^(2-(k+1)));have h2:=HQ.o;omega);rw[<- hy];clear hx hy;(go_wp2_with (go_at_call 223;refine (sO x Pf _).mono ?_;rintro e w1 ⟨rfl,rfl⟩));go_roundw
   case rel =>
    refine⟨k+1,by omega,by go_num,?_,by simp⟩;have h5:=YC.o;rw[qI (by omega) (by omega),show ((y:Int)*16)=((y*16:Nat):Int) from by omega,sP y x Pf (by omega),HQ.o]
   case measure=>simp[intOf];omega
  (have YB:¬(k:Int)<2:=by omega);(obtain rfl:k=2:=by omega);(have YD:r/16^(2-2)=r:=by simp);rw[YD];go_wp2;refine bodyPost_ret (kA rfl _ _ _) rfl ?_;exact⟨rfl,rfl⟩
theorem CU (s:ByteArray) (hs:6<=s.size) (hm:s.size<100000) (h0:(s[0]'(by omega)).toNat=92) (h1:(s[1]'(by omega)).toNat=117) (r:Nat) (hr:r<65536) (hv:Lib.validRune (r:Int)=true)
 (Pe:∀(k:Nat) (h:k<(s.extract 2 s.size).size),k<4->(s.extract 2 s.size)[k]'h=hd (r/16^(3-k)%16)) (w:World) :
 Calls Tryz.prog 208 #[.string s,.int .u8 34] w fun e w'=>e=.returned (.tuple #[.int .i32 r,.bool true,.string ((s.extract 2 s.size).extract 4 (s.extract 2 s.size).size),.nilIface])/\w=w':=by
 obtain⟨s2,KY⟩:∃s2,s2=s.extract 2 s.size:=⟨_,rfl⟩;(have LH:s2.size=s.size-2:=by rw[KY];simp);have b0:((s.size:Int)==0)=false:=beq_eq_false_iff_ne.mpr (by omega);have b1:decide ((s.size:Int)<=1)=false:=decide_eq_false (by omega);(have e0:((s[0]'(by omega)).toNat:Int)=92:=by omega);(have e1:((s[1]'(by omega)).toNat:Int)=117:=by omega);(have XE:(0:Int)<s.size:=by omega);(have hsJ:(1:Int)<s.size:=by omega);(have hsK:(2:Int)<=s.size:=by omega);have b2:decide ((s2.size:Int)<4)=false:=decide_eq_false (by omega);(have Yy:4<=s2.size:=by omega);(have Yz:s2.size<100000:=by omega);rw[<- KY];have HD:Hy (∀(k:Nat) (h:k<s2.size),k<4->s2[k]'h=hd (r/16^(3-k)%16)):=Hd (by subst KY;exact Pe);have YA:=KY.symm;clear h0 h1 KY Pe LH;have cv:=Tryz.utf8_ValidRune (r:Int) w;rw[hv]at cv;clear hv;(go_enter Tryz.func208,Tryz.ntmps208);go_wp2;(go_loopw [7,13,14,15,16] (fun e v j _ _ wr=>∃k:Nat,k<=4/\j=.int .i64 k/\v=.int .i32 ((r/16^(4-k):Nat):Int)/\wr=w/\e=.nilIface) (fun _ _ j _ _ _=>4-(intOf j).toNat));case atStart=>exact⟨0,by omega,by simp,by rw[Nat.div_eq_of_lt (by omega)];rfl,by simp⟩
 case round =>
  obtain⟨k,hk,rfl,rfl,rfl,rfl⟩:=hrel;by_cases OE:k<4
  ·(have YB:(k:Int)<4:=by omega);(have Mm:(k:Int)<s2.size:=by omega);(have hk3:k<s2.size:=by omega);obtain⟨x,hx⟩:∃x,x=r/16^(3-k)%16:=⟨_,rfl⟩;(have Pf:x<16:=by omega);(have ek:((s2[k]'hk3).toNat:Int)=((hd x).toNat:Int):=by rw[HD.o k hk3 OE,hx]);obtain⟨y,hy⟩:∃y,y=r/16^(4-k):=⟨_,rfl⟩
   have HQ:Hy (r/16^(4-(k+1))=y*16+x):=Hd (by
    rw[hx,hy,show 4-k=(4-(k+1))+1 from by omega,cf,<- Nat.div_div_eq_div_mul,show 3-k=4-(k+1) from by omega]
    omega)
   have YC:Hy (y*16<=r):=Hd (by have h1:=Nat.div_le_self r (16^(4-(k+1)));have h2:=HQ.o;omega);rw[<- hy];clear hx hy;(go_wp2_with (go_at_call 223;refine (sO x Pf _).mono ?_;rintro e w1 ⟨rfl,rfl⟩));go_roundw
   case rel =>
    refine⟨k+1,by omega,by go_num,?_,by simp⟩;have h5:=YC.o;rw[qI (by omega) (by omega),show ((y:Int)*16)=((y*16:Nat):Int) from by omega,sP y x Pf (by omega),HQ.o]
   case measure=>simp[intOf];omega
  (have YB:¬(k:Int)<4:=by omega);(obtain rfl:k=4:=by omega);(have YD:r/16^(4-4)=r:=by simp);rw[YD];(go_wp2_with (go_at_call 224;refine cv.mono ?_;rintro e w1 ⟨rfl,rfl⟩));refine bodyPost_ret (kA rfl _ _ _) rfl ?_;exact⟨rfl,rfl⟩
theorem CW (s:ByteArray) (hs:10<=s.size) (hm:s.size<100000) (h0:(s[0]'(by omega)).toNat=92) (h1:(s[1]'(by omega)).toNat=85) (r:Nat) (hr:r<1114112) (hv:Lib.validRune (r:Int)=true)
 (Pe:∀(k:Nat) (h:k<(s.extract 2 s.size).size),k<8->(s.extract 2 s.size)[k]'h=hd (r/16^(7-k)%16)) (w:World) :
 Calls Tryz.prog 208 #[.string s,.int .u8 34] w fun e w'=>e=.returned (.tuple #[.int .i32 r,.bool true,.string ((s.extract 2 s.size).extract 8 (s.extract 2 s.size).size),.nilIface])/\w=w':=by
 obtain⟨s2,KY⟩:∃s2,s2=s.extract 2 s.size:=⟨_,rfl⟩;(have LH:s2.size=s.size-2:=by rw[KY];simp);have b0:((s.size:Int)==0)=false:=beq_eq_false_iff_ne.mpr (by omega);have b1:decide ((s.size:Int)<=1)=false:=decide_eq_false (by omega);(have e0:((s[0]'(by omega)).toNat:Int)=92:=by omega);(have e1:((s[1]'(by omega)).toNat:Int)=85:=by omega);(have XE:(0:Int)<s.size:=by omega);(have hsJ:(1:Int)<s.size:=by omega);(have hsK:(2:Int)<=s.size:=by omega);have b2:decide ((s2.size:Int)<8)=false:=decide_eq_false (by omega);(have Yy:8<=s2.size:=by omega);(have Yz:s2.size<100000:=by omega);rw[<- KY];have HD:Hy (∀(k:Nat) (h:k<s2.size),k<8->s2[k]'h=hd (r/16^(7-k)%16)):=Hd (by subst KY;exact Pe);have YA:=KY.symm;clear h0 h1 KY Pe LH;have cv:=Tryz.utf8_ValidRune (r:Int) w;rw[hv]at cv;clear hv;(go_enter Tryz.func208,Tryz.ntmps208);go_wp2;(go_loopw [7,13,14,15,16] (fun e v j _ _ wr=>∃k:Nat,k<=8/\j=.int .i64 k/\v=.int .i32 ((r/16^(8-k):Nat):Int)/\wr=w/\e=.nilIface) (fun _ _ j _ _ _=>8-(intOf j).toNat));case atStart=>exact⟨0,by omega,by simp,by rw[Nat.div_eq_of_lt (by omega)];rfl,by simp⟩
 case round =>
  obtain⟨k,hk,rfl,rfl,rfl,rfl⟩:=hrel;by_cases OE:k<8
  ·(have YB:(k:Int)<8:=by omega);(have Mm:(k:Int)<s2.size:=by omega);(have hk3:k<s2.size:=by omega);obtain⟨x,hx⟩:∃x,x=r/16^(7-k)%16:=⟨_,rfl⟩;(have Pf:x<16:=by omega);(have ek:((s2[k]'hk3).toNat:Int)=((hd x).toNat:Int):=by rw[HD.o k hk3 OE,hx]);obtain⟨y,hy⟩:∃y,y=r/16^(8-k):=⟨_,rfl⟩
   have HQ:Hy (r/16^(8-(k+1))=y*16+x):=Hd (by
    rw[hx,hy,show 8-k=(8-(k+1))+1 from by omega,cf,<- Nat.div_div_eq_div_mul,show 7-k=8-(k+1) from by omega]
    omega)
   have YC:Hy (y*16<=r):=Hd (by have h1:=Nat.div_le_self r (16^(8-(k+1)));have h2:=HQ.o;omega);rw[<- hy];clear hx hy;(go_wp2_with (go_at_call 223;refine (sO x Pf _).mono ?_;rintro e w1 ⟨rfl,rfl⟩));go_roundw
   case rel =>
    refine⟨k+1,by omega,by go_num,?_,by simp⟩;have h5:=YC.o;rw[qI (by omega) (by omega),show ((y:Int)*16)=((y*16:Nat):Int) from by omega,sP y x Pf (by omega),HQ.o]
   case measure=>simp[intOf];omega
  (have YB:¬(k:Int)<8:=by omega);(obtain rfl:k=8:=by omega);(have YD:r/16^(8-8)=r:=by simp);rw[YD];(go_wp2_with (go_at_call 224;refine cv.mono ?_;rintro e w1 ⟨rfl,rfl⟩));refine bodyPost_ret (kA rfl _ _ _) rfl ?_;exact⟨rfl,rfl⟩
end jS
namespace dZ
open Go.RowKit heap own dK
open dI (Rec)
theorem CX {n:String} {g:Nat} {k:IntKind} {zs:List Int} {w w':World} (hg:Tryz.prog.globalNamed n=some g) (h:Lib.TabIs Tryz.prog w n k zs) (hb:Below w.heap.size w w'):Lib.TabIs Tryz.prog w' n k zs:=by
 unfold Lib.TabIs World.var? at h⊢;rw[hg]at h⊢;simp only[Option.bind_some]at h⊢
 have Kg:g<w.heap.size:=by
  rcases aW g w.heap.size with h'|h'
  ·exact h'
  rw[bV h']at h;cases h
 rw[hb.block g Kg];exact h
theorem l4 {w:World} {g o:Nat} {v:Value} (h:w.cell? ⟨g,o,none⟩=some v):g<w.heap.size:=by
 exact Lt h
structure jr (T:Lib.PrintTabs) (w:World):Prop where
 fD:Lib.TabIs Tryz.prog w "internal/strconv.uint64pow10" .u64 Lib.pow10Tab
 prt:Lib.PrintTabsAt 9 10 11 12 T w
 wk:jS.U8 w
 err:∃ty v,w.cell? ⟨4,0,none⟩=some (.iface ty v)
 mx:∃m,w.cell? ⟨3,0,none⟩=some (.int .i64 m)
theorem jr.below {T:Lib.PrintTabs} {w w':World} (h:jr T w) (hb:Below w.heap.size w w'):jr T w':=by
 obtain⟨h1,h2,h3,⟨ty,v,h4⟩,⟨m,h5⟩⟩:=h
 exact⟨CX (g:=6) (by kernel_rfl) h1 hb,printTabs_below h2 hb,Utf8Tabs_below h3 hb,
  ⟨ty,v,(hb.cell (p:=⟨4,0,none⟩) (l4 h4)).trans h4⟩,⟨m,(hb.cell (p:=⟨3,0,none⟩) (l4 h5)).trans h5⟩⟩
theorem kQ (n:Int) (h0 : -9223372036854775808<=n) (h1:n<=9223372036854775807) (w:World) (acT:Lib.TabIs Tryz.prog w "internal/strconv.uint64pow10" .u64 Lib.pow10Tab) :
 Calls Tryz.prog 19 #[.int .i64 n] w fun e w'=>e=.returned (.string ⟨(Lib.itoa n).toArray⟩)/\Below w.heap.size w w':=
 (Tryz.strconv_Itoa n h0 h1 w acT).mono fun _ _ ⟨he,k,os,hw⟩=>⟨he,by
   rw[hw]
   exact⟨rfl,rfl,rfl,by simp[Go.Sort.grow,World.drewN],fun g hg=>by simp[Go.Sort.grow,World.drewN,Array.getElem?_append,hg]⟩⟩
theorem wj {a b:ByteArray} (h:a.data.toList=b.data.toList):a=b:=by
 obtain⟨⟨a⟩⟩:=a;obtain⟨⟨b⟩⟩:=b;exact congrArg (fun l=>ByteArray.mk ⟨l⟩) h
theorem CY:(Tryz.prog.info? 9).map (fun i=>(i.zero,i.size,i.bytes))=some (some (.string ⟨#[]⟩),1,16):=by kernel_rfl
def strs (l:List (List UInt8)):List Value:=l.map fun b=>.string ⟨b.toArray⟩
theorem sQ (T:Lib.PrintTabs) (k:Nat) (hk:k<1000) (r:Rec) (hr:Small r) (w:World) (hK:jr T w) :
 Calls Tryz.prog 91 #[.int .i64 k,ke r] w fun e w'=>e=.returned (.string ⟨(text T k r).toArray⟩)/\Below w.heap.size w w':=by
 obtain⟨i0,KO,Q4,Q5,Q6⟩:=info_parts CY;unfold ke;obtain⟨s,hs⟩:∃s:ByteArray,s=⟨r.data.toArray⟩:=⟨_,rfl⟩;rw[<- hs];have HS:=Hd hs;clear hs;have HR:=Hd hr;obtain⟨ns,Tg⟩:∃ns:List Int,ns=[(k:Int),r.dL,r.dN,r.dF,r.eI,r.dQ]:=⟨_,rfl⟩;have Q7:=Hd Tg;have MM:fo k r=ns.map Lib.itoa:=by rw[Tg];rfl
 have N3:∀x∈ns,-1<=x/\x<=1099511627776:=by
  have:=hr.c0;have:=hr.c1;have:=hr.n0;have:=hr.n1;have:=hr.o0;have:=hr.o1;have:=hr.v0;have:=hr.v1;have:=hr.e0;have:=hr.e1;intro x hx;rw[Tg]at hx;simp only[aM,bc,or_false]at hx;rcases hx with rfl|rfl|rfl|rfl|rfl|rfl<;>omega
 have P6:=Hd N3;have RF:=Hd MM;have HK:=Hd hK;clear hr Tg MM N3 hK;(go_enter Tryz.func91,Tryz.ntmps91);go_wp2;obtain⟨rb,hrb⟩:∃rb,rb=kd r.dL r.dN r.dF r.eI s r.dQ:=⟨_,rfl⟩;rw[<- hrb];(have UX:#[.int .i64 (k:Int),.int .i64 r.dL,.int .i64 r.dN,.int .i64 r.dF,.int .i64 r.eI,.int .i64 r.dQ]=(ns.map (Value.int .i64)).toArray:=by rw[Q7.o];rfl);rw[UX];have HRB:=Hd hrb;clear UX hrb;(have TI:ns.length=6:=by rw[Q7.o];rfl);have YE:(fo k r).length=6:=rfl;go_loopw [22,5] (fun Sd q5 wr=>∃(j:Nat),j<=6/\Sd=.int .i64 j/\wr.ownsRow (w.heap.size+2) 9 1 q5 j (strs ((fo k r).take j))/\Has wr w.heap.size (.cells rb 107)/\Has wr (w.heap.size+1) (.cells (ns.map (Value.int .i64)).toArray 3)/\Below w.heap.size w wr/\w.heap.size+2<=wr.heap.size) (fun Sd _ _=>6-(intOf Sd).toNat)
 case atStart =>
  have h1:=Has.new w (.cells rb 107);have h2:=Has.new (w.alloc (.cells rb 107)) (.cells (ns.map (Value.int .i64)).toArray 3);rw[World.size_alloc]at h2;exact⟨0,by omega,rfl,⟨rfl,.inl ⟨rfl,rfl⟩⟩,h1.alloc _,h2,((Below.refl _ _).alloc (aq _) _).alloc (by simp) _,by simp⟩
 case round =>
  obtain⟨j,hj,rfl,Kj,Pg,RG,hb,LH⟩:=hrel;by_cases Kg:j<6
  ·obtain⟨x,hx⟩:∃x,ns[j]?=some x:=⟨_,ax (by omega)⟩;(have hc:wr.cell? ⟨w.heap.size+1,j,none⟩=some (.int .i64 x):=by rw[RG.cell];simp[hx]);have P7:=P6.o x (aR hx);(have LZ:(j:Int)<6:=by omega);obtain⟨z,hz⟩:∃z:ByteArray,z=⟨(Lib.itoa x).toArray⟩:=⟨_,rfl⟩;have IT:=kQ x (by omega) (by omega) wr (HK.o.below hb).fD;rw[<- hz]at IT
   have N4:Hy ((fo k r).take (j+1)=(fo k r).take j++[Lib.itoa x]):=Hd (by
    rw[bo,RF.o,aY,hx];rfl)
   have HZ:=Hd hz;have K3:=Hd Pg;have Ld:=Hd RG;have HB:=Hd hb;have MN:=Hd Kj;obtain⟨L,hL⟩:∃L,L=strs ((fo k r).take j):=⟨_,rfl⟩;have HL:=Hd hL;rw[<- hL]at Kj;have HRL:=Hd Kj;clear hx hz Pg RG hb Kj hL
   go_wp2_with (first
    |(go_at_call 19;refine IT.mono ?_;rintro e w1 ⟨rfl,Kd⟩;clear IT;have N5:=Kd.size;have acV:=Hd ((jE HRL.o Kd).alloc (.cells #[.string z] 9)))
    |(at_builtin;refine wpList_append_own _ rfl (.tmp 26) (.tmp 29) 30 rfl (w.heap.size+2) 9 i0 (.string ⟨#[]⟩) 1 16 Tryz.underlying30 KO Q4 Q5 Q6 rfl (by decide) _ _ _ rfl acV.o ⟨w1.heap.size,0,none⟩ 1 1 [.string z] rfl rfl ?c1 (by simp[Value.oneCell']) ?c3 ?c4 ?c5 ?_))
   case c1 =>
    intro i v hi;have hn:=Has.new w1 (.cells #[.string z] 9)
    match i,hi with
    |0,hi =>
     (obtain rfl:Value.string z=v:=by simpa using hi);exact hn.cell 0
   (case c3=>unfold maxLen;omega);(case c4=>omega);(case c5=>simp;omega);intro v2 w2 Kp KE _;(go_wp2_with fail);go_roundw
   case rel =>
    have hge:∀g,Value.ownBlock _=some g->w.heap.size+2<=g:=fun g hg=>jF MN.o g hg;refine⟨j+1,by omega,by go_num,?_,((K3.o.below Kd K3.o.lt).alloc _).grown KE (fun e=>by have:=hge _ e.symm;omega),((Ld.o.below Kd Ld.o.lt).alloc _).grown KE (fun e=>by have:=hge _ e.symm;omega),((HB.o.trans (Kd.mono HB.o.size)).alloc (by have:=HB.o.size;omega) _).grown KE (by have:=HB.o.size;simp;omega) (fun i hi=>by have:=hge _ hi;omega),by have:=KE.size;rw[World.size_alloc]at this;omega⟩;(have e:strs ((fo k r).take (j+1))=L++[.string z]:=by rw[N4.o,HL.o,HZ.o];simp[strs]);rw[e];exact Kp
   case measure=>simp[intOf];omega
  (obtain rfl:j=6:=by omega);rcases Kj.2 with⟨-,h0⟩|⟨g,cap,cur,rfl,Lo,hg,Ln,KL,Mh,N2⟩
  ·omega
  obtain⟨xs,QH⟩:∃xs:List ByteArray,xs=(fo k r).map fun b=>⟨b.toArray⟩:=⟨_,rfl⟩;(have LK:xs.length=6:=by rw[QH];rfl);have hxm:xs.map (·.data.toList)=fo k r:=by rw[QH,List.map_map];exact List.map_id _
  have hcell:∀(i:Nat) x,xs[i]?=some x->wr.cell? ⟨g,0+i,none⟩=some (.string x):=by
   intro i x hx;(have hi:i<6:=by rcases aW i 6 with h|h;exact h;rw[bm (by omega)]at hx;cases hx);rw[bW,(ij (w:=wr) (n:=6) (size:=1) hg N2 i (by omega)).1];rw[QH]at hx;rw[aY]at hx;rw[strs,aY,ba (by rw[YE];exact aq _)]
   cases hq:(fo k r)[i]? with
   |none=>rw[hq]at hx;cases hx
   |some b=>rw[hq]at hx;simp at hx;simp[hx]
  obtain⟨jn,YF⟩:∃jn:ByteArray,jn=⟨(Lib.join (fo k r) [32]).toArray⟩:=⟨_,rfl⟩;have LJ:=we T k r (by omega) (by omega) HR.o;rw[wh]at LJ;simp only[aA,aJ,aZ]at LJ;have VE:jn.size<=400:=by rw[YF];show (Lib.join (fo k r) [32]).toArray.size<=400;rw[cd];omega
  have JO:∀W,Below wr.heap.size wr W->Calls Tryz.prog 66 #[.slice (some ⟨g,0,none⟩) 6 cap,.string ⟨#[32]⟩] W fun e w'=>e=.returned (.string jn)/\Below W.heap.size W w':=by
   intro W hW;have h:=Tryz.strings_Join g 0 cap xs ⟨#[32]⟩ W (fun i x hx=>(hW.cell (p:=⟨g,0+i,none⟩) (Has.lt (w:=wr) hg)).trans (hcell i x hx)) (ay (Has.lt (w:=wr) hg) hW.size) (by omega) (by omega) (by rw[hxm];show (Lib.join (fo k r) [32]).length<=_;omega);rw[LK,hxm]at h;rw[YF];exact h
  obtain⟨qs,RE⟩:∃qs:ByteArray,qs=strOfNums (Lib.quoteZ T s):=⟨_,rfl⟩;(have UW:qs.data.toList=dK.quoted T r.data:=by rw[RE,HS.o];rfl);(have hqz:qs.size<=400:=by show qs.data.size<=400;rw[<- bQ,UW];omega);have afI:s.size<=20:=by rw[HS.o];show r.data.toArray.size<=20;rw[cd];exact HR.o.d1
  have QU:∀W,Below wr.heap.size wr W->Calls Tryz.prog 136 #[.string s] W fun e w'=>e=.returned (.string qs)/\Below W.heap.size W w':=by
   intro W hW;have YG:=(HK.o.below hb).below hW;rw[RE];exact Tryz.strconv_Quote T s W (by omega) YG.prt YG.wk
  have cJ:∀d os,Calls Tryz.prog 66 #[.slice (some ⟨g,0,none⟩) 6 cap,.string ⟨#[32]⟩] (Go.Sort.grow (redrawn wr d) os) fun e TJ=>e=.returned (.string jn)/\∃p:Regrown,TJ=Go.Sort.grow (redrawn wr p.d) p.os:=fun d os=>Calls.regrown_of (JO _ (below_regrown wr d os));have cQ:∀d os,Calls Tryz.prog 136 #[.string s] (Go.Sort.grow (redrawn wr d) os) fun e TJ=>e=.returned (.string qs)/\∃p:Regrown,TJ=Go.Sort.grow (redrawn wr p.d) p.os:=fun d os=>Calls.regrown_of (QU _ (below_regrown wr d os));(have hd4:wr.cell? ⟨w.heap.size,4,none⟩=some (.string s):=by rw[Pg.cell,HRB.o];rfl);have k4:=cell_regrown hd4;(have n1:¬9223372036854775807<jn.size+1:=by omega);(have n2:¬9223372036854775807<jn.size+1+qs.size:=by omega);have HQQ:=Hd UW;have HJN:=Hd YF;have HB:=Hd hb;clear Kj hg Ln KL Mh N2 QH LK hxm hcell LJ JO QU RE UW YF Pg RG hb hd4;(go_wp2_with fail);refine wp_region_quiet_below (by kernel_rfl) (by kernel_rfl) ?_
  repeat (quiet_step (first|exact cJ _ _|exact cQ _ _))
  refine wpQuiet_nil ?_;intro _ hw';obtain⟨⟨dq,osq⟩,acY⟩:=hw';subst acY;obtain⟨W,hW⟩:∃W,W=Go.Sort.grow (redrawn wr dq) osq:=⟨_,rfl⟩;(have PM:Below wr.heap.size wr W:=by rw[hW];exact below_regrown wr dq osq);dsimp only;rw[<- hW];obtain⟨bd,hbd⟩:∃bd,bd=jn++⟨#[32]⟩++qs:=⟨_,rfl⟩;rw[<- hbd];(have YH:bd.data.toList=body T k r:=by rw[hbd,wh];simp[HQQ.o,HJN.o]);have e32:(⟨#[32]⟩:ByteArray).size=1:=rfl;(have hbdz:bd.size<=900:=by rw[hbd,ByteArray.size_append,ByteArray.size_append,e32];omega);have SU:=CJ bd (by omega) W;have hsr:=vZ bd.data.toList;obtain⟨sm,LU⟩:∃sm,sm=kz bd.data.toList:=⟨_,rfl⟩;rw[<- LU]at SU hsr;obtain⟨z,hz⟩:∃z:ByteArray,z=⟨(Lib.itoa sm).toArray⟩:=⟨_,rfl⟩;have IT:=kQ sm (by omega) (by omega) W ((HK.o.below HB.o).below PM).fD;rw[<- hz]at IT;(have hzl:z.size<=20:=by rw[hz];show (Lib.itoa sm).toArray.size<=20;rw[cd];exact v7 sm (by omega) (by omega));(have n3:¬9223372036854775807<bd.size+1:=by omega);(have n4:¬9223372036854775807<bd.size+1+z.size:=by omega);have P8:Hy (bd++⟨#[32]⟩++z=⟨(text T k r).toArray⟩):=Hd (wj (by rw[text,<- YH,<- LU,hz];simp));have Mb:=Hd PM;clear hW hbd YH LU hz PM cJ cQ k4
  go_wp2_with (first
   |(go_at_call 137;refine SU.mono ?_;rintro e w1 ⟨rfl,rfl⟩)
   |(go_at_call 19;refine IT.mono ?_;rintro e w1 ⟨rfl,Kd⟩))
  go_ret;refine⟨?_,(HB.o.trans (Mb.o.mono HB.o.size)).trans (Kd.mono (az HB.o.size Mb.o.size))⟩;rw[<- P8.o];rfl
end dZ
namespace jS
open Go.RowKit lG
theorem mJ {a b:ByteArray} (h:a.data.toList=b.data.toList):a=b:=by
 obtain⟨⟨x⟩⟩:=a;obtain⟨⟨y⟩⟩:=b;simp only at h;rw[h]
theorem mL (l r:Bytes) (s:ByteArray) (e:s=⟨(l++r).toArray⟩) (k:Nat) (hk:k=l.length):s.extract k s.size=⟨r.toArray⟩:=by
 apply mJ;rw[Lib.extract_to_end,e,hk];simp
theorem CZ (r:Nat) (h0:128<=r) (hv:Lib.validRune (r:Int)=true) (rest:Bytes):Lib.decodeGo ⟨(Lib.encodeRune r++rest).toArray⟩=(r,(Lib.encodeRune r).length):=by
 have Om:((r:Int)<55296)\/(57343<(r:Int)/\(r:Int)<=1114111):=by
  simp only[Lib.validRune,decide_eq_true_eq]at hv;omega
 clear hv;have hlen:=Lib.encodeRuneZ_length r;(have Km:(Lib.encodeRune r).length=(Lib.encodeRuneZ r).length:=by simp[Lib.encodeRune]);unfold Lib.decodeGo;rw[if_neg (by simp[ByteArray.size];intro h;rw[h]at Km;simp at Km;omega)];have:Utf8.decode ⟨(Lib.encodeRune r++rest).toArray⟩ 0=Lib.decodeL (Lib.encodeRune r++rest):=rfl;rw[this,Lib.decodeL_N];by_cases h1:r<=2047
 ·have e:Lib.encodeRune r=[UInt8.ofNat (192+r/64),UInt8.ofNat (128+r%64)]:=by
   unfold Lib.encodeRune;rw[Lib.encodeRuneZ_two (by omega) (by omega)];simp only[bf,bJ];congr 2
   all_goals
    congr 1;omega
  rw[e]
  simp only[bn,bL,aJ,List.getD_cons_zero,List.getD_cons_succ]
  have e0:(UInt8.ofNat (192+r/64)).toNat=192+r/64:=by simp;omega
  have e1:(UInt8.ofNat (128+r%64)).toNat=128+r%64:=by simp;omega
  rw[e0,e1]
  unfold Lib.decodeN
  repeat' split
  all_goals first
   |omega
   |(refine Prod.ext ?_ ?_<;>simp only[aZ]<;>omega)
 by_cases h2:r<=65535
 ·have e:Lib.encodeRune r=[UInt8.ofNat (224+r/4096),UInt8.ofNat (128+r/64%64),UInt8.ofNat (128+r%64)]:=by
   unfold Lib.encodeRune;rw[Lib.encodeRuneZ_three (by omega)];simp only[bf,bJ];congr 2
  rw[e]
  simp only[bn,bL,aJ,List.getD_cons_zero,List.getD_cons_succ]
  have e0:(UInt8.ofNat (224+r/4096)).toNat=224+r/4096:=by simp;omega
  have e1:(UInt8.ofNat (128+r/64%64)).toNat=128+r/64%64:=by simp;omega
  have e2:(UInt8.ofNat (128+r%64)).toNat=128+r%64:=by simp;omega
  rw[e0,e1,e2]
  unfold Lib.decodeN
  repeat' split
  all_goals first
   |omega
   |(refine Prod.ext ?_ ?_<;>simp only[aZ]<;>omega)
 have e:Lib.encodeRune r=[UInt8.ofNat (240+r/262144),UInt8.ofNat (128+r/4096%64),UInt8.ofNat (128+r/64%64),UInt8.ofNat (128+r%64)]:=by
  unfold Lib.encodeRune;rw[Lib.encodeRuneZ_four (by omega) (by omega)];simp only[bf,bJ];congr 2
 rw[e]
 simp only[bn,bL,aJ,List.getD_cons_zero,List.getD_cons_succ]
 have e0:(UInt8.ofNat (240+r/262144)).toNat=240+r/262144:=by simp;omega
 have e1:(UInt8.ofNat (128+r/4096%64)).toNat=128+r/4096%64:=by simp;omega
 have e2:(UInt8.ofNat (128+r/64%64)).toNat=128+r/64%64:=by simp;omega
 have e3:(UInt8.ofNat (128+r%64)).toNat=128+r%64:=by simp;omega
 rw[e0,e1,e2,e3]
 unfold Lib.decodeN
 repeat' split
 all_goals first
  |omega
  |(refine Prod.ext ?_ ?_<;>simp only[aZ]<;>omega)
theorem C0 (r:Nat) (h0:128<=r) (hv:Lib.validRune (r:Int)=true):∃b l,Lib.encodeRune r=b::l/\128<=b.toNat:=by
 have Om:((r:Int)<55296)\/(57343<(r:Int)/\(r:Int)<=1114111):=by
  simp only[Lib.validRune,decide_eq_true_eq]at hv;omega
 unfold Lib.encodeRune;by_cases h1:r<=2047
 ·rw[Lib.encodeRuneZ_two (by omega) (by omega)];exact⟨_,_,rfl,by simp;omega⟩
 by_cases h2:r<=65535
 ·rw[Lib.encodeRuneZ_three (by omega)];exact⟨_,_,rfl,by simp;omega⟩
 rw[Lib.encodeRuneZ_four (by omega) (by omega)];exact⟨_,_,rfl,by simp;omega⟩
theorem sR (t:Tok) (ht:gP t) (rest:Bytes) (s:ByteArray) (e:s=⟨(t.bs++rest).toArray⟩) (hm:s.size<100000) (w:World) (hU:U8 w) :
 Calls Tryz.prog 208 #[.string s,.int .u8 34] w fun e w'=>e=.returned (.tuple #[.int .i32 t.r,.bool t.m,.string ⟨rest.toArray⟩,.nilIface])/\Below w.heap.size w w':=by
 have LH:s.size=t.bs.length+rest.length:=by rw[e];simp[ByteArray.size]
 cases ht with
 |ascii c h0 h1 h2 h3 =>
  (have hx:∀h,s[0]'h=c:=fun h=>by subst e;rfl);(have hs:0<s.size:=by rw[LH];simp;omega);refine (CL s hs hm (by rw[hx];exact h0) (by rw[hx];exact h1) (by rw[hx];exact h2) (by rw[hx];exact h3) w).mono ?_;rintro e' w' ⟨rfl,n,rfl⟩;rw[hx,mL [c] rest s e 1 rfl];exact⟨rfl,below_drewN (Below.refl _ _) n⟩
 |multi r h0 hv =>
  obtain⟨n,rfl⟩:∃n:Nat,r=n:=⟨r.toNat,by omega⟩;obtain⟨b,l,hb,UY⟩:=C0 n (by omega) hv;(have hx:∀h,s[0]'h=b:=fun h=>by subst e;simp only[hb];rfl);(have hs:0<s.size:=by rw[LH,hb];simp;omega);have hd:=CZ n (by omega) hv rest;rw[<- e]at hd;refine (CO s hs hm (by rw[hx];exact UY) n (Lib.encodeRune n).length (by rw[hd]) (by rw[hd]) (by rw[LH];simp) w hU).mono ?_;rintro e' w' ⟨rfl,hb'⟩;rw[mL (Lib.encodeRune n) rest s e _ rfl];exact⟨rfl,hb'⟩
 |short x v h =>
  (have K5:∀h,s[0]'h=92:=fun h=>by subst e;rfl);(have Kf:∀h,s[1]'h=x:=fun h=>by subst e;rfl);(have hs:1<s.size:=by rw[LH];simp;omega);refine (CN s hs hm (by rw[K5];rfl) v (by rw[Kf];exact h) w).mono ?_;rintro e' w' ⟨rfl,rfl⟩;rw[mL [92,x] rest s e 2 rfl];exact⟨rfl,Below.refl _ _⟩
 |hex a h =>
  (have K5:∀h,s[0]'h=92:=fun h=>by subst e;rfl);(have Kf:∀h,s[1]'h=120:=fun h=>by subst e;rfl);(have hs:4<=s.size:=by rw[LH];simp);have e2:s.extract 2 s.size=⟨([hd (a/16),hd (a%16)]++rest).toArray⟩:=mL [92,120] _ s e 2 rfl;refine (CR s hs hm (by rw[K5];rfl) (by rw[Kf];rfl) a h (fun k hk Mm=>?_) w).mono ?_
  ·revert hk;rw[e2];intro hk
   match k,Mm with
   |0,_=>show hd (a/16)=hd (a/16^1%16);congr 1;omega
   |1,_=>show hd (a%16)=hd (a/16^0%16);congr 1;omega
  rintro e' w' ⟨rfl,rfl⟩;rw[e2,mL [hd (a/16),hd (a%16)] rest _ rfl 2 rfl];exact⟨rfl,Below.refl _ _⟩
 |u4 r h0 h1 hv =>
  (have K5:∀h,s[0]'h=92:=fun h=>by subst e;rfl);(have Kf:∀h,s[1]'h=117:=fun h=>by subst e;rfl);(have hs:6<=s.size:=by rw[LH];simp[ky]);have e2:s.extract 2 s.size=⟨(ky r 4++rest).toArray⟩:=mL [92,117] _ s e 2 rfl;refine (CU s hs hm (by rw[K5];rfl) (by rw[Kf];rfl) r h1 hv (fun k hk Mm=>?_) w).mono ?_
  ·revert hk;rw[e2];intro hk
   match k,Mm with
   |0,_=>rfl
   |1,_=>rfl
   |2,_=>rfl
   |3,_=>rfl
  rintro e' w' ⟨rfl,rfl⟩;rw[e2,mL (ky r 4) rest _ rfl 4 rfl];exact⟨rfl,Below.refl _ _⟩
 |u8 r h0 hv =>
  (have hr:r<1114112:=by simp only[Lib.validRune,decide_eq_true_eq]at hv;omega);(have K5:∀h,s[0]'h=92:=fun h=>by subst e;rfl);(have Kf:∀h,s[1]'h=85:=fun h=>by subst e;rfl);(have hs:10<=s.size:=by rw[LH];simp[ky]);have e2:s.extract 2 s.size=⟨(ky r 8++rest).toArray⟩:=mL [92,85] _ s e 2 rfl;refine (CW s hs hm (by rw[K5];rfl) (by rw[Kf];rfl) r hr hv (fun k hk Mm=>?_) w).mono ?_
  ·revert hk;rw[e2];intro hk
   match k,Mm with
   |0,_=>rfl
   |1,_=>rfl
   |2,_=>rfl
   |3,_=>rfl
   |4,_=>rfl
   |5,_=>rfl
   |6,_=>rfl
   |7,_=>rfl
  rintro e' w' ⟨rfl,rfl⟩;rw[e2,mL (ky r 8) rest _ rfl 8 rfl];exact⟨rfl,Below.refl _ _⟩
theorem pd (s:ByteArray) (c:Int) (w:World) :
 Calls Tryz.prog 205 #[.string s,.int .u8 c] w fun e w'=>e=.returned (.int .i64 (Lib.indexByte s.data.toList c.toNat.toUInt8))/\w=w':=by
 (go_enter Tryz.func205,Tryz.ntmps205);go_wp2;rw[run_callFunc_extern Tryz.func141 (by kernel_rfl) (by kernel_rfl) (by kernel_rfl) (e:=Extern.BytealgIndexByte.indexByte) (by kernel_rfl),Lib.run_indexByteString];simp only[Result.andThen];rw[Oper.upon_value];go_wp2;go_ret;exact⟨rfl,rfl⟩
theorem qJ (s:ByteArray) (c:Int) (w:World) :
 Calls Tryz.prog 206 #[.string s,.int .u8 c] w fun e w'=>e=.returned (.bool (Lib.indexByte s.data.toList c.toNat.toUInt8 != -1))/\w=w':=by
 (go_enter Tryz.func206,Tryz.ntmps206);(go_wp2_with (go_at_call 205;refine (pd _ _ _).mono ?_;rintro e w1 ⟨rfl,rfl⟩));go_ret;exact⟨rfl,rfl⟩
theorem C3 (r:Int) (h0:128<=r) (hv:Lib.validRune r=true):∀b∈Lib.encodeRune r,128<=b.toNat:=by
 have Om:(r<55296)\/(57343<r/\r<=1114111):=by
  simp only[Lib.validRune,decide_eq_true_eq]at hv;omega
 intro b hb;unfold Lib.encodeRune at hb;by_cases h1:r<=2047
 ·rw[Lib.encodeRuneZ_two (by omega) (by omega)]at hb;simp only[bf,bJ,aM,bc,or_false]at hb;rcases hb with rfl|rfl<;>(simp;omega)
 by_cases h2:r<=65535
 ·rw[Lib.encodeRuneZ_three (by omega)]at hb;simp only[bf,bJ,aM,bc,or_false]at hb;rcases hb with rfl|rfl|rfl<;>(simp;omega)
 rw[Lib.encodeRuneZ_four (by omega) (by omega)]at hb;simp only[bf,bJ,aM,bc,or_false]at hb;rcases hb with rfl|rfl|rfl|rfl<;>(simp;omega)
theorem sS {t:Tok} (ht:gP t):((∀b∈t.bs,b≠34/\b≠92/\b≠10)/\t.val=t.bs/\t.bs≠[])\/(∃l,t.bs=92::l):=by
 cases ht with
 |ascii c h0 h1 h2 h3 =>
  refine .inl ⟨fun b hb=>?_,?_,by simp⟩
  ·rw[aH.1 hb];refine⟨fun e=>h2 (by rw[e];rfl),fun e=>h3 (by rw[e];rfl),fun e=>by rw[e]at h0;revert h0;decide⟩
  simp[Tok.val]
 |multi r h0 hv =>
  refine .inl ⟨fun b hb=>?_,?_,?_⟩
  ·have:=C3 r h0 hv b hb;refine⟨fun e=>?_,fun e=>?_,fun e=>?_⟩<;>(rw[e]at this;revert this;decide)
  ·unfold Tok.val;rw[if_neg (by simp;omega)]
  intro e;have h1:=Lib.encodeRuneZ_length r;(have h2:(Lib.encodeRune r).length=0:=by have e2:Lib.encodeRune r=[]:=e;rw[e2];rfl);rw[show (Lib.encodeRune r).length=(Lib.encodeRuneZ r).length from by simp[Lib.encodeRune]]at h2;omega
 |short x v h=>exact .inr ⟨_,rfl⟩
 |hex a h=>exact .inr ⟨_,rfl⟩
 |u4 r h0 h1 hv=>exact .inr ⟨_,rfl⟩
 |u8 r h0 hv=>exact .inr ⟨_,rfl⟩
theorem qK {t:Tok} (ht:gP t):∃b l,t.bs=b::l/\b≠34/\b≠10:=by
 rcases sS ht with⟨h1,-,h3⟩|⟨l,h⟩
 ·cases hb:t.bs with
  |nil=>exact absurd hb h3
  |cons b l=>exact⟨b,l,rfl,(h1 b (by rw[hb];simp)).1,(h1 b (by rw[hb];simp)).2.2⟩
 exact⟨92,l,h,by decide,by decide⟩
theorem wu:∀(ts:List Tok),(∀t∈ts,gP t)->(92:UInt8)∉ts.flatMap Tok.bs->ts.flatMap Tok.val=ts.flatMap Tok.bs/\(34:UInt8)∉ts.flatMap Tok.bs
 | [],_,_=>⟨rfl,by simp⟩
 |t::ts,ht,h=>by
  rw[aU]at h;rw[aU,aU];have h1:(92:UInt8)∉t.bs:=fun hm=>h (dr _ hm);have h2:(92:UInt8)∉ts.flatMap Tok.bs:=fun hm=>h (cE _ hm);obtain⟨i1,i2⟩:=wu ts (fun x hx=>ht x (bh _ hx)) h2;rcases sS (ht t (bt ..))with⟨k1,k2,-⟩|⟨l,k⟩
  ·refine⟨by rw[k2,i1],fun hm=>?_⟩;rcases aO.1 hm with hm|hm
   ·exact (k1 _ hm).1 rfl
   exact i2 hm
  exact absurd (by rw[k];simp) h1
theorem wv:∀(ts:List Tok),(∀t∈ts,gP t)->∀o:Nat,(ts.flatMap Tok.bs)[o]?=some 34->(92:UInt8)∈(ts.flatMap Tok.bs).take o
 | [],_,o,h=>by simp at h
 |t::ts,ht,o,h=>by
  rw[aU]at h⊢;by_cases ho:o<t.bs.length
  ·rw[aV ho]at h;rcases sS (ht t (bt ..))with⟨k1,-,-⟩|⟨l,k⟩
   ·exact absurd rfl (k1 34 (aR h)).1
   rw[k]at h⊢
   cases o with
   |zero=>simp at h
   |succ o=>simp
  rw[aL (by omega)]at h;have:=wv ts (fun x hx=>ht x (bh _ hx)) _ h;rw[cz,aO];exact .inr this
end jS
end Go.Proofs.YtlhodcmdpchllaaGreatDoor
