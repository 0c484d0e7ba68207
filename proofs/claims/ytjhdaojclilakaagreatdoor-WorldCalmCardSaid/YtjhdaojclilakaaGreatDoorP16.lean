/-
  A part of the proof of the law WorldCalm: WalA, WalB, WalC.
-/
import Derived.Test.YtjhdaojclilakaaGreatDoorRows
import Derived.WalkKit
import Derived.ProofKit
import Derived.OpenShut
import Derived.RegionTactic
import Derived.ChangeAlike
import Derived.StillTailTactics
import Derived.Deep.LoopGhost
import Derived.Deep.QuietTactic
import Derived.Test.YtjhdaojclilakaaGreatDoorHd
import Derived.Test.YtjhdaojclilakaaGreatDoorP06
import Derived.Test.YtjhdaojclilakaaGreatDoorP09
import Derived.Test.YtjhdaojclilakaaGreatDoorP12
set_option maxHeartbeats 16000000
set_option maxRecDepth 1000000
namespace Go.Proofs.YtjhdaojclilakaaGreatDoor
namespace fF
open Go.RowKit heap own eG
open eY (Rec)
open fD (jm)
abbrev mq (a b c d:Int) (s:ByteArray) (e:Int):Array Value:=#[VI a,VI b,VI c,VI d,.string s,VI e]
def mr (r:Rec):Value:=.agg (mq r.eI r.eK r.eF r.fJ ⟨r.data.toArray⟩ r.eS)
theorem ok_one (n:Int) (w:World) :
 Calls Tryz.prog 113 #[VI n] w fun e w'=>e=.returned (.bool (jm n))/\w=w':=by
 by_cases d:n<0
 ·have d1:decide (0<=n)=false:=decide_eq_false ab;have a:jm n=false:=decide_eq_false ab;rw[a];clear a;(go_enter Tryz.func113,Tryz.ntmps113);go_wp2;go_ret;exact⟨rfl,rfl⟩
 (have b:jm n=decide (n<=1099511627776):=by unfold jm;simp only[decide_eq_decide];omega);rw[b];have c:0<=n:=ab;have d1:decide (0<=n)=true:=decide_eq_true c;clear d b c;(go_enter Tryz.func113,Tryz.ntmps113);go_wp2;go_ret;exact⟨rfl,rfl⟩
theorem HJ (s:ByteArray) (k:Nat) (h:k<s.size) (a:Int):(s.data.toList.take (k+1)).foldl mZ a=mZ ((s.data.toList.take k).foldl mZ a) (s[k]'h):=by
 have b:k<s.data.toList.length:=h;rw[dB b,List.foldl_append];rfl
theorem Ia (c:UInt8):IntKind.u64.wrap (c.toNat:Int)=c.toNat:=by
 have h:IntKind.u64.wrap (c.toNat:Int)=(c.toNat:Int)%18446744073709551616:=rfl;have:=c.toNat_lt;rw[h];omega
theorem Ib (s:ByteArray) (hs:s.size<4611686018427387904) (w:World) :
 Calls Tryz.prog 117 #[.string s] w fun e w'=>e=.returned (VI (mP s.data.toList))/\w=w':=by
 go_enter Tryz.func117,Tryz.ntmps117
 go_wp2
 go_loop [7,3] (fun a g=>∃(k:Nat),k<=s.size/\a=VI k/\g=.int .u64 ((s.data.toList.take k).foldl mZ 14695981039346656037)) (fun a _=>s.size-(intOf a).toNat)
 case atStart=>exact⟨0,ab,rfl,rfl⟩
 case round =>
  obtain⟨k,h,rfl,rfl⟩:=hrel;obtain⟨x,b⟩:=nm ((s.data.toList.take k).foldl mZ 14695981039346656037);have i:=Aj (s.data.toList.take k) 14695981039346656037 aj aj;rw[<- b]at i⊢;have d:=Hd b;clear b;have l:s.data.toList.length=s.size:=rfl;by_cases f:k<s.size
  ·have d0:decide ((k:Int)<s.size)=true:=decide_eq_true ab
   have m:(k:Int)<s.size:=ab
   have c:Hy ((s.data.toList.take (k+1)).foldl mZ 14695981039346656037=mZ x (s[k]'f)):=Hd (by rw[HJ s k f,d.o])
   clear h
   go_wp2
   go_round
   (case rel=>exact⟨k+1,ab,rfl,by rw[c.o,Ia];rfl⟩);case measure=>show s.size-((k:Int)+1).toNat<s.size-(k:Int).toNat;omega
  have d0:decide ((k:Int)<s.size)=false:=decide_eq_false ab;have j:k=s.size:=ab;go_wp2;go_ret;refine⟨?_,rfl⟩;(have e:mP s.data.toList=x/8:=by rw[mP,d.o,bB ab]);rw[e];rfl
theorem lH (r:Rec) (hs:r.data.length<4611686018427387904) (w:World) :
 Calls Tryz.prog 82 #[mr r] w fun e w'=>e=.returned (.bool r.right)/\BB w w':=by
 unfold mr;obtain⟨c,n,o,v,d,ep⟩:=r;dsimp only;dsimp only at hs;obtain⟨s,f⟩:=nm (⟨d.toArray⟩:ByteArray);rw[<- f];(have g:s.size=d.length:=by rw[f];rfl);(go_enter Tryz.func82,Tryz.ntmps82);go_wp2_with (go_at_call 113;refine (ok_one _ _).mono ?_;rintro e h ⟨rfl,rfl⟩)
 all_goals
  go_ret
  refine⟨?_,Below.alloc (Below.refl _ _) (ax _) _⟩
  show Ending.returned (Value.bool _)=Ending.returned (Value.bool _)
  congr 2
  clear f hs
  unfold Rec.right eY.fR
  simp_all
 all_goals first
  |(intros;omega)
  | (have a:o<=7:=ab
     have b:List.length d<=20:=ab
     simp[a,b];done)
  | (have a:o<=7:=ab
     have b:List.length d<=20:=ab
     by_cases e0:ep=0<;>simp[a,b,e0])
end fF
namespace fF
open Go.RowKit heap own eG gC
open eY (Rec)
open fD (jm)
def qA (ps:List ByteArray) (cut:Bool) (left:Int):List Value:=ps.map Value.string++[.bool cut,VI left]
structure iZ (w:World) (b:Nat) (ps:List ByteArray) (cut:Bool) (left:Int):Prop where
 d_:Has w b (.cells (qA ps cut left).toArray 79)
 hp:ps.length=200
section
variable {w w':World} {b:Nat} {ps:List ByteArray} {cut:Bool} {left:Int}
theorem iZ.lt (h:iZ w b ps cut left):b<w.heap.size:=h.d_.lt
theorem iZ.place (h:iZ w b ps cut left) (k:Nat) (a:k<200) (s:ByteArray) (hs:ps[k]?=some s):w.cell? ⟨b,k,none⟩=some (.string s):=by
 rw[h.d_.cell];(have c:k<(ps.map Value.string).length:=by rw[aX,h.hp];exact a);simp only[qA,aJ];rw[ba c,br,hs];rfl
theorem iZ.AD (h:iZ w b ps cut left):w.cell? ⟨b,200,none⟩=some (.bool cut):=by
 rw[h.d_.cell];(have e:(ps.map Value.string).length=200:=by rw[aX,h.hp]);simp only[qA,aJ];rw[aR ab,e];rfl
theorem iZ.AE (h:iZ w b ps cut left):w.cell? ⟨b,201,none⟩=some (VI left):=by
 rw[h.d_.cell];(have e:(ps.map Value.string).length=200:=by rw[aX,h.hp]);simp only[qA,aJ];rw[aR ab,e];rfl
theorem iZ.below {B:Nat} (h:iZ w b ps cut left) (hb:Below B w w') (a:b<B):iZ w' b ps cut left:=⟨h.d_.below hb a,h.hp⟩
theorem iZ.uu (h:iZ w b ps cut left) (k:Nat) (a:k<200) (s:ByteArray):iZ (w.setCell ⟨b,k,none⟩ (.string s)) b (ps.set k s) cut left:=by
 refine⟨?_,by rw[aU];exact h.hp⟩;have:=h.d_.fQ k (.string s);(have c:k<(ps.map Value.string).length:=by rw[aX,h.hp];exact a);simpa only[qA,aP,dy _ _ c,List.map_set]using this
theorem iZ.AF (h:iZ w b ps cut left) (c:Bool):iZ (w.setCell ⟨b,200,none⟩ (.bool c)) b ps c left:=by
 refine⟨?_,h.hp⟩;have:=h.d_.fQ 200 (.bool c);(have e:(ps.map Value.string).length=200:=by rw[aX,h.hp]);simpa only[qA,aP,bE 200 _ (cZ e),e,dA,bn]using this
theorem iZ.uv (h:iZ w b ps cut left) (n:Int):iZ (w.setCell ⟨b,201,none⟩ (VI n)) b ps cut n:=by
 refine⟨?_,h.hp⟩;have:=h.d_.fQ 201 (VI n);(have e:(ps.map Value.string).length=200:=by rw[aX,h.hp]);simpa only[qA,aP,bE 201 _ (by omega:(ps.map Value.string).length<=201),e,show 201-200=1 from rfl,bf,bn]using this
end
theorem gX {b:Nat} {w w':World} (h:eJ (fun x=>x=b) w w') (o:Nat) (v:Value):eJ (fun x=>x=b) w (w'.setCell ⟨b,o,none⟩ v):=
 eJ.setCell (S:=fun x=>x=b) (p:=⟨b,o,none⟩) h (.inr rfl) v
theorem AH (b:Nat) (ps:List ByteArray) (cut:Bool) (left n:Int) (w:World) (h:iZ w b ps cut left) :
 Calls Tryz.prog 26 #[VP b 0,VI n] w fun e w' =>
  e=.returned (.tuple #[])/\iZ w' b ps (decide (0<=n)) (max n 0)/\eJ (·=b) w w':=by
 have c1:=h.AD;have c2:=h.AE;have f1:=h.d_.frozen 200;have f2:=h.d_.frozen 201;have H:=Hd h;have c:=h.lt;clear h;(go_enter Tryz.func26,Tryz.ntmps26);go_wp2
 all_goals
  go_end0
  have a:∀(u v:Value),eJ (·=b) w ((w.setCell ⟨b,200,none⟩ u).setCell ⟨b,201,none⟩ v):=fun u v=>gX (gX (eJ.refl _ _) 200 u) 201 v
  first
   |(rw[Int.max_eq_right ab];exact⟨rfl,(H.o.AF _).uv _,a _ _⟩)
   |(rw[Int.max_eq_left ab];exact⟨rfl,(H.o.AF _).uv _,a _ _⟩)
def na (n:Nat) (gy:Int):Nat:=(if (if 1<(n:Int) then (n:Int)-1 else 0)<gy then if 1<(n:Int) then (n:Int)-1 else 0 else gy).toNat
theorem ID (n:Nat) (gy:Int):na n gy=if 1<n then (if (n:Int)-1<gy then n-1 else gy.toNat) else if 0<gy then 0 else gy.toNat:=by
 unfold na;by_cases h:1<n
 ·rw[if_pos (by omega:1<(n:Int)),if_pos h];split<;>omega
 rw[if_neg (by omega:¬1<(n:Int)),if_neg h];split<;>omega
theorem IE {n:Nat} {gy:Int} (h:0<n) (ht:0<=gy):na n gy<n:=by
 unfold na;split<;>split at * <;> omega
theorem AI (b:Nat) (ps:List ByteArray) (cut:Bool) (left:Int) (k:Nat) (c:k<200) (s:ByteArray) (hs:s.size<4611686018427387904) (gy:Int) (w:World) (h:iZ w b ps cut left) :
 Calls Tryz.prog 83 #[VP b 0,VI k,.string s,VI gy] w fun e w' =>
  e=.returned (iC (if cut=true/\left=0 then 14 else 0)) /\
  (if cut=true/\left=0 then iZ w' b (if 0<=gy then ps.set k (s.extract 0 (na s.size gy)) else ps) cut left else iZ w' b (ps.set k s) cut (wrap64 (left-1)))/\eJ (·=b) w w':=by
 have c1:=h.AD;have c2:=h.AE;have f1:=h.d_.frozen 200;have fk:=h.d_.frozen k;obtain⟨x,f⟩:∃x,ps[k]?=some x:=⟨_,ay (by rw[h.hp];exact c)⟩;have ck:=h.place k c x f;have f2:=h.d_.frozen 201;have H:=Hd h;have j:=h.lt;clear h;by_cases hc:cut=true/\left=0
 ·rw[if_pos hc];simp only[if_pos hc];obtain⟨rfl,rfl⟩:=hc;by_cases ht:0<=gy
  ·have d0:decide (0<=gy)=true:=decide_eq_true ht;rw[if_pos ht];(go_enter Tryz.func83,Tryz.ntmps83);go_wp2
   have key:∀N,N=na s.size gy->iZ (w.setCell ⟨b,k,none⟩ (.string (s.extract 0 N))).drew b (ps.set k (s.extract 0 (na s.size gy))) true 0:=by
    rintro _ rfl;have a:=H.o.uu k c (s.extract 0 (na s.size gy));exact⟨a.d_,a.hp⟩
   go_region
   go_wp2
   all_goals
    go_ret;have d:=ID s.size gy
    have g:¬(1<(s.size:Int))->0<gy->s.extract 0 (na s.size gy)=ByteArray.empty:=fun a h2=>by
     rw[d,if_neg ab,if_pos h2];apply ByteArray.ext;simp
    first
     | (have e:=g ab ab
        have a:=H.o.uu k c (s.extract 0 (na s.size gy));rw[e]at a⊢
        exact⟨rfl,⟨a.d_,a.hp⟩,(gX (eJ.refl _ _) k _).drew⟩)
     | (refine⟨rfl,key _ ?_,(gX (eJ.refl _ _) k _).drew⟩
        rw[d]
        clear d key
        repeat' split
        all_goals omega)
  have d0:decide (0<=gy)=false:=decide_eq_false ht;rw[if_neg ht];(go_enter Tryz.func83,Tryz.ntmps83);go_wp2;go_ret;exact⟨rfl,H.o,eJ.refl _ _⟩
 rw[if_neg hc];simp only[if_neg hc]
 cases hcut:cut with
 |false =>
  subst hcut;(go_enter Tryz.func83,Tryz.ntmps83);go_wp2;go_ret;exact⟨rfl,(H.o.uv _).uu k c _,gX (gX (eJ.refl _ _) 201 _) k _⟩
 |true =>
  subst hcut;have i:left≠0:=fun e=>hc ⟨rfl,e⟩;have l:(left==0)=false:=beq_eq_false_iff_ne.2 i;clear hc;(go_enter Tryz.func83,Tryz.ntmps83);go_wp2;go_ret;exact⟨rfl,(H.o.uv _).uu k c _,gX (gX (eJ.refl _ _) 201 _) k _⟩
end fF
end Go.Proofs.YtjhdaojclilakaaGreatDoor
