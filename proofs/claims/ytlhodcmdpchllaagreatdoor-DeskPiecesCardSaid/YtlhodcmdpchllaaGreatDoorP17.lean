/-
  A part of the proof of the law DeskPieces: WalA, WalB, WalC.
-/
import Derived.Test.YtlhodcmdpchllaaGreatDoorRows
import Derived.WalkKit
import Derived.ProofKit
import Derived.OpenShut
import Derived.RegionTactic
import Derived.ChangeAlike
import Derived.StillTailTactics
import Derived.Deep.LoopGhost
import Derived.Deep.QuietTactic
import Derived.Test.YtlhodcmdpchllaaGreatDoorHd
import Derived.Test.YtlhodcmdpchllaaGreatDoorP07
import Derived.Test.YtlhodcmdpchllaaGreatDoorP10
import Derived.Test.YtlhodcmdpchllaaGreatDoorP12
set_option maxHeartbeats 16000000
set_option maxRecDepth 1000000
namespace Go.Proofs.YtlhodcmdpchllaaGreatDoor
namespace dZ
open Go.RowKit heap own dK
open dI (Rec)
open eK (gK)
abbrev kd (a b c d:Int) (s:ByteArray) (e:Int):Array Value:=#[.int .i64 a,.int .i64 b,.int .i64 c,.int .i64 d,.string s,.int .i64 e]
def ke (r:Rec):Value:=.agg (kd r.dL r.dN r.dF r.eI ⟨r.data.toArray⟩ r.dQ)
theorem ok_one (n:Int) (w:World) :
 Calls Tryz.prog 135 #[.int .i64 n] w fun e w'=>e=.returned (.bool (gK n))/\w=w':=by
 by_cases h1:n<0
 ·have d1:decide (0<=n)=false:=decide_eq_false (by omega);have h0:gK n=false:=decide_eq_false (by omega);rw[h0];clear h0;(go_enter Tryz.func135,Tryz.ntmps135);go_wp2;go_ret;exact⟨rfl,rfl⟩
 (have h2:gK n=decide (n<=1099511627776):=by unfold gK;simp only[decide_eq_decide];omega);rw[h2];(have h3:0<=n:=by omega);have d1:decide (0<=n)=true:=decide_eq_true h3;clear h1 h2 h3;(go_enter Tryz.func135,Tryz.ntmps135);go_wp2;go_ret;exact⟨rfl,rfl⟩
theorem CG (s:ByteArray) (k:Nat) (h:k<s.size) (a:Int):(s.data.toList.take (k+1)).foldl kP a=kP ((s.data.toList.take k).foldl kP a) (s[k]'h):=by
 have h':k<s.data.toList.length:=h;rw[bC h',List.foldl_append];rfl
theorem CH (c:UInt8):IntKind.u64.wrap (c.toNat:Int)=c.toNat:=by
 have h:IntKind.u64.wrap (c.toNat:Int)=(c.toNat:Int)%18446744073709551616:=rfl;have:=c.toNat_lt;rw[h];omega
theorem CJ (s:ByteArray) (hs:s.size<4611686018427387904) (w:World) :
 Calls Tryz.prog 137 #[.string s] w fun e w'=>e=.returned (.int .i64 (kz s.data.toList))/\w=w':=by
 go_enter Tryz.func137,Tryz.ntmps137
 go_wp2
 go_loop [7,3] (fun q7 q3=>∃(k:Nat),k<=s.size/\q7=.int .i64 k/\q3=.int .u64 ((s.data.toList.take k).foldl kP 14695981039346656037)) (fun q7 _=>s.size-(intOf q7).toNat)
 case atStart=>exact⟨0,by omega,rfl,rfl⟩
 case round =>
  obtain⟨k,hk,rfl,rfl⟩:=hrel;obtain⟨x,hx⟩:∃x,x=(s.data.toList.take k).foldl kP 14695981039346656037:=⟨_,rfl⟩;have K5:=vY (s.data.toList.take k) 14695981039346656037 (by decide) (by decide);rw[<- hx]at K5⊢;have HX:=Hd hx;clear hx;have hl:s.data.toList.length=s.size:=rfl;by_cases Kg:k<s.size
  ·have d0:decide ((k:Int)<s.size)=true:=decide_eq_true (by omega)
   have R6:(k:Int)<s.size:=by omega
   have Yx:Hy ((s.data.toList.take (k+1)).foldl kP 14695981039346656037=kP x (s[k]'Kg)):=Hd (by rw[CG s k Kg,HX.o])
   clear hk
   go_wp2
   go_round
   (case rel=>exact⟨k+1,by omega,rfl,by rw[Yx.o,CH];rfl⟩);case measure=>show s.size-((k:Int)+1).toNat<s.size-(k:Int).toNat;omega
  have d0:decide ((k:Int)<s.size)=false:=decide_eq_false (by omega);(have hkk:k=s.size:=by omega);go_wp2;go_ret;refine⟨?_,rfl⟩;(have e:kz s.data.toList=x/8:=by rw[kz,HX.o,ba (by omega)]);rw[e];rfl
theorem jI (r:Rec) (hs:r.data.length<4611686018427387904) (w:World) :
 Calls Tryz.prog 89 #[ke r] w fun e w'=>e=.returned (.bool r.right)/\Below w.heap.size w w':=by
 unfold ke;obtain⟨c,n,o,v,d,ep⟩:=r;dsimp only;dsimp only at hs;obtain⟨s,R7⟩:∃s:ByteArray,s=⟨d.toArray⟩:=⟨_,rfl⟩;rw[<- R7];(have hz:s.size=d.length:=by rw[R7];rfl);(go_enter Tryz.func89,Tryz.ntmps89);go_wp2_with (go_at_call 135;refine (ok_one _ _).mono ?_;rintro e w1 ⟨rfl,rfl⟩)
 all_goals
  go_ret
  refine⟨?_,Below.alloc (Below.refl _ _) (aq _) _⟩
  show Ending.returned (Value.bool _)=Ending.returned (Value.bool _)
  congr 2
  clear R7 hs
  unfold Rec.right dI.eG
  simp_all
 all_goals first
  |(intros;omega)
  | (have a:o<=7:=by omega
     have b:List.length d<=20:=by omega
     simp[a,b];done)
  | (have a:o<=7:=by omega
     have b:List.length d<=20:=by omega
     by_cases e0:ep=0<;>simp[a,b,e0])
end dZ
namespace dZ
open Go.RowKit heap own dK eO
open dI (Rec)
open eK (gK)
def nP (ps:List ByteArray) (cut:Bool) (left:Int):List Value:=ps.map Value.string++[.bool cut,.int .i64 left]
structure fU (w:World) (b:Nat) (ps:List ByteArray) (cut:Bool) (left:Int):Prop where
 d_:Has w b (.cells (nP ps cut left).toArray 64)
 hp:ps.length=200
section
variable {w w':World} {b:Nat} {ps:List ByteArray} {cut:Bool} {left:Int}
theorem fU.lt (h:fU w b ps cut left):b<w.heap.size:=h.d_.lt
theorem fU.place (h:fU w b ps cut left) (k:Nat) (hk:k<200) (s:ByteArray) (hs:ps[k]?=some s):w.cell? ⟨b,k,none⟩=some (.string s):=by
 rw[h.d_.cell];(have MW:k<(ps.map Value.string).length:=by rw[aS,h.hp];exact hk);simp only[nP,aC];rw[aV MW,aY,hs];rfl
theorem fU.wG (h:fU w b ps cut left):w.cell? ⟨b,200,none⟩=some (.bool cut):=by
 rw[h.d_.cell];(have e:(ps.map Value.string).length=200:=by rw[aS,h.hp]);simp only[nP,aC];rw[aL (by omega),e];rfl
theorem fU.wH (h:fU w b ps cut left):w.cell? ⟨b,201,none⟩=some (.int .i64 left):=by
 rw[h.d_.cell];(have e:(ps.map Value.string).length=200:=by rw[aS,h.hp]);simp only[nP,aC];rw[aL (by omega),e];rfl
theorem fU.below {B:Nat} (h:fU w b ps cut left) (hb:Below B w w') (hB:b<B):fU w' b ps cut left:=⟨h.d_.below hb hB,h.hp⟩
theorem fU.qO (h:fU w b ps cut left) (k:Nat) (hk:k<200) (s:ByteArray):fU (w.setCell ⟨b,k,none⟩ (.string s)) b (ps.set k s) cut left:=by
 refine⟨?_,by rw[aN];exact h.hp⟩;have:=h.d_.eu k (.string s);(have MW:k<(ps.map Value.string).length:=by rw[aS,h.hp];exact hk);simpa only[nP,aF,cH _ _ MW,List.map_set]using this
theorem fU.wI (h:fU w b ps cut left) (c:Bool):fU (w.setCell ⟨b,200,none⟩ (.bool c)) b ps c left:=by
 refine⟨?_,h.hp⟩;have:=h.d_.eu 200 (.bool c);(have e:(ps.map Value.string).length=200:=by rw[aS,h.hp]);simpa only[nP,aF,bk 200 _ (cU e),e,cX,aI]using this
theorem fU.qP (h:fU w b ps cut left) (n:Int):fU (w.setCell ⟨b,201,none⟩ (.int .i64 n)) b ps cut n:=by
 refine⟨?_,h.hp⟩;have:=h.d_.eu 201 (.int .i64 n);(have e:(ps.map Value.string).length=200:=by rw[aS,h.hp]);simpa only[nP,aF,bk 201 _ (by omega:(ps.map Value.string).length<=201),e,show 201-200=1 from rfl,aG,aI]using this
end
theorem fp {b:Nat} {w w':World} (h:dD (fun x=>x=b) w w') (o:Nat) (v:Value):dD (fun x=>x=b) w (w'.setCell ⟨b,o,none⟩ v):=
 dD.setCell (S:=fun x=>x=b) (p:=⟨b,o,none⟩) h (.inr rfl) v
theorem wJ (b:Nat) (ps:List ByteArray) (cut:Bool) (left n:Int) (w:World) (h:fU w b ps cut left) :
 Calls Tryz.prog 116 #[.pointer (some ⟨b,0,none⟩),.int .i64 n] w fun e w' =>
  e=.returned (.tuple #[])/\fU w' b ps (decide (0<=n)) (max n 0)/\dD (·=b) w w':=by
 have c1:=h.wG;have c2:=h.wH;have f1:=h.d_.frozen 200;have f2:=h.d_.frozen 201;have H:=Hd h;have Kg:=h.lt;clear h;(go_enter Tryz.func116,Tryz.ntmps116);go_wp2
 all_goals
  go_end0
  have T2:∀(u v:Value),dD (·=b) w ((w.setCell ⟨b,200,none⟩ u).setCell ⟨b,201,none⟩ v):=fun u v=>fp (fp (dD.refl _ _) 200 u) 201 v
  first
   |(rw[Int.max_eq_right (by omega)];exact⟨rfl,(H.o.wI _).qP _,T2 _ _⟩)
   |(rw[Int.max_eq_left (by omega)];exact⟨rfl,(H.o.wI _).qP _,T2 _ _⟩)
def kR (n:Nat) (fa:Int):Nat:=(if (if 1<(n:Int) then (n:Int)-1 else 0)<fa then if 1<(n:Int) then (n:Int)-1 else 0 else fa).toNat
theorem Df (n:Nat) (fa:Int):kR n fa=if 1<n then (if (n:Int)-1<fa then n-1 else fa.toNat) else if 0<fa then 0 else fa.toNat:=by
 unfold kR;by_cases h:1<n
 ·rw[if_pos (by omega:1<(n:Int)),if_pos h];split<;>omega
 rw[if_neg (by omega:¬1<(n:Int)),if_neg h];split<;>omega
theorem Dh {n:Nat} {fa:Int} (h:0<n) (ht:0<=fa):kR n fa<n:=by
 unfold kR;split<;>split at * <;> omega
theorem wK (b:Nat) (ps:List ByteArray) (cut:Bool) (left:Int) (k:Nat) (hk:k<200) (s:ByteArray) (hs:s.size<4611686018427387904) (fa:Int) (w:World) (h:fU w b ps cut left) :
 Calls Tryz.prog 90 #[.pointer (some ⟨b,0,none⟩),.int .i64 k,.string s,.int .i64 fa] w fun e w' =>
  e=.returned (fx (if cut=true/\left=0 then 14 else 0)) /\
  (if cut=true/\left=0 then fU w' b (if 0<=fa then ps.set k (s.extract 0 (kR s.size fa)) else ps) cut left else fU w' b (ps.set k s) cut (wrap64 (left-1)))/\dD (·=b) w w':=by
 have c1:=h.wG;have c2:=h.wH;have f1:=h.d_.frozen 200;have fk:=h.d_.frozen k;obtain⟨x,hx⟩:∃x,ps[k]?=some x:=⟨_,ax (by rw[h.hp];exact hk)⟩;have ck:=h.place k hk x hx;have f2:=h.d_.frozen 201;have H:=Hd h;have Kg:=h.lt;clear h;by_cases hc:cut=true/\left=0
 ·rw[if_pos hc];simp only[if_pos hc];obtain⟨rfl,rfl⟩:=hc;by_cases ht:0<=fa
  ·have d0:decide (0<=fa)=true:=decide_eq_true ht;rw[if_pos ht];(go_enter Tryz.func90,Tryz.ntmps90);go_wp2
   have key:∀N,N=kR s.size fa->fU (w.setCell ⟨b,k,none⟩ (.string (s.extract 0 N))).drew b (ps.set k (s.extract 0 (kR s.size fa))) true 0:=by
    rintro _ rfl;have h1:=H.o.qO k hk (s.extract 0 (kR s.size fa));exact⟨h1.d_,h1.hp⟩
   go_region
   go_wp2
   all_goals
    go_ret;have hN:=Df s.size fa
    have h0:¬(1<(s.size:Int))->0<fa->s.extract 0 (kR s.size fa)=ByteArray.empty:=fun h1 h2=>by
     rw[hN,if_neg (by omega),if_pos h2];apply ByteArray.ext;simp
    first
     | (have e:=h0 (by omega) (by omega)
        have h1:=H.o.qO k hk (s.extract 0 (kR s.size fa));rw[e]at h1⊢
        exact⟨rfl,⟨h1.d_,h1.hp⟩,(fp (dD.refl _ _) k _).drew⟩)
     | (refine⟨rfl,key _ ?_,(fp (dD.refl _ _) k _).drew⟩
        rw[hN]
        clear hN key
        repeat' split
        all_goals omega)
  have d0:decide (0<=fa)=false:=decide_eq_false ht;rw[if_neg ht];(go_enter Tryz.func90,Tryz.ntmps90);go_wp2;go_ret;exact⟨rfl,H.o,dD.refl _ _⟩
 rw[if_neg hc];simp only[if_neg hc]
 cases hcut:cut with
 |false =>
  subst hcut;(go_enter Tryz.func90,Tryz.ntmps90);go_wp2;go_ret;exact⟨rfl,(H.o.qP _).qO k hk _,fp (fp (dD.refl _ _) 201 _) k _⟩
 |true =>
  subst hcut;have hl:left≠0:=fun e=>hc ⟨rfl,e⟩;have bl:(left==0)=false:=beq_eq_false_iff_ne.2 hl;clear hc;(go_enter Tryz.func90,Tryz.ntmps90);go_wp2;go_ret;exact⟨rfl,(H.o.qP _).qO k hk _,fp (fp (dD.refl _ _) 201 _) k _⟩
end dZ
end Go.Proofs.YtlhodcmdpchllaaGreatDoor
