/-
  A part of the proof of the law DeskPieces: Wire1, CacheA, CacheB, Wire2.
-/
import Derived.Test.YtlhodcmdpchllaaGreatDoorRows
import Derived.WalkKit
import Derived.ProofKit
import Derived.OpenShut
import Derived.RegionTactic
import Derived.ChangeAlike
import Derived.StillTailTactics
import Derived.Deep.Draws
import Derived.Deep.RegionLaw
import Derived.Deep.AppendLies
import Derived.Deep.DrawnRows
import Derived.OwnWalk
import Derived.Lib.AppendStr
import Derived.Test.YtlhodcmdpchllaaGreatDoorHd
import Derived.Test.YtlhodcmdpchllaaGreatDoorP01
import Derived.Test.YtlhodcmdpchllaaGreatDoorP07
import Derived.Test.YtlhodcmdpchllaaGreatDoorP12
set_option maxHeartbeats 16000000
set_option maxRecDepth 1000000
namespace Go.Proofs.YtlhodcmdpchllaaGreatDoor
namespace eK
open Go.RowKit heap
abbrev gE (a b c d e f g:Int) (l:Bool) (s:ByteArray):Array Value:=#[.int .i64 a,.int .i64 b,.int .i64 c,.int .i64 d,.int .i64 e,.int .i64 f,.int .i64 g,.bool l,.string s]
def lH (b:Nat):Array Value:=#[.pointer (some ⟨b,0,none⟩),.pointer (some ⟨b,1,none⟩),.pointer (some ⟨b,2,none⟩),.pointer (some ⟨b,3,none⟩),.pointer (some ⟨b,4,none⟩),.pointer (some ⟨b,5,none⟩),.pointer (some ⟨b,6,none⟩)]
theorem tg (b:Nat) (w:World) :
 Calls Tryz.prog 155 #[.pointer (some ⟨b,0,none⟩)] w fun e w'=>e=.returned (.slice (some ⟨w.heap.size,0,none⟩) 7 7)/\w'=(w.alloc (.cells (lH b) 238)).drew:=by
 go_enter Tryz.func155,Tryz.ntmps155
 go_wp2
 go_region
 go_wp2;go_ret;exact⟨rfl,rfl⟩
theorem wR (n:Int) (a:Addr) (w:World) (hc:w.cell? a=some (.int .i64 n)) :
 Calls Tryz.prog 182 #[.pointer (some a)] w fun e w'=>e=.returned (.bool (!gK n))/\w=w':=by
 by_cases h1:n<0
 ·(go_enter Tryz.func182,Tryz.ntmps182);go_wp2;go_ret;exact⟨by simp[gK];omega,rfl⟩
 by_cases h2:1099511627776<n
 ·(go_enter Tryz.func182,Tryz.ntmps182);go_wp2;go_ret;exact⟨by simp[gK];omega,rfl⟩
 (have h3:decide (1099511627776<n)=false:=by simp;omega);(have h4:decide (n<0)=false:=by simp;omega);(have h5:n<=1099511627776:=by omega);(have h6:0<=n:=by omega);(go_enter Tryz.func182,Tryz.ntmps182);go_wp2;go_ret;exact⟨by simp[gK];omega,rfl⟩
theorem DC (ns:List Int) (k:Nat) (h:(ns.take k).all gK=true) (hk:gK (ns.getD k 0)=true) (hl:k<ns.length):(ns.take (k+1)).all gK=true:=by
 rw[bC hl,List.all_append,h];simp[List.getD,hl]at hk;simp[hk]
theorem DD (ns:List Int) (k:Nat) (hk:gK (ns.getD k 0)=false) (hl:k<ns.length):ns.all gK=false:=by
 rw[List.all_eq_false];refine⟨ns[k],cA hl,?_⟩;simp[List.getD,hl]at hk;simp[hk]
theorem pd (g b:Nat) (ns:List Int) (w:World) (hl:ns.length=7)
 (hp:∀k,k<7->w.cell? ⟨g,k,none⟩=some (.pointer (some ⟨b,k,none⟩))) (hn:∀k,k<7->w.cell? ⟨b,k,none⟩=some (.int .i64 (ns.getD k 0))) :
 Calls Tryz.prog 211 #[.slice (some ⟨g,0,none⟩) 7 7,.func (.func 182) #[] #[]] w fun e w'=>∃r:Int,e=.returned (.int .i64 r)/\(decide (0<=r)=!(ns.all gK))/\w=w':=by
 have HL:=Hd hl
 clear hl
 go_enter Tryz.func211,Tryz.ntmps211
 go_wp2
 go_loop [8,5] (fun i _=>∃k:Nat,k<=7/\i=.int .i64 k/\(ns.take k).all gK=true) (fun i _=>7-(intOf i).toNat)
 case atStart=>exact⟨0,by omega,rfl,rfl⟩
 case round =>
  obtain⟨k,hk,rfl,M1⟩:=hrel;have HA:=Hd M1;clear M1;by_cases Kg:k<7
  ·have c1:=hp k Kg;have c2:=hn k Kg;have HN:=Hd hn;have HP:=Hd hp;clear hn hp;cases L5:gK (ns.getD k 0)
   ·have HK:=Hd L5;clear L5;(go_wp2_with (go_at_call 182;refine (wR _ _ _ c2).mono ?_;rintro e w' ⟨rfl,rfl⟩;rw[HK.o]));go_ret;refine⟨_,rfl,?_,rfl⟩;rw[DD ns k HK.o (by rw[HL.o];exact Kg)];simp
   have HK:=Hd L5
   clear L5
   go_wp2_with (go_at_call 182;refine (wR _ _ _ c2).mono ?_;rintro e w' ⟨rfl,rfl⟩;rw[HK.o])
   go_round
   (case rel=>exact⟨k+1,by omega,by go_num,DC ns k HA.o HK.o (by rw[HL.o];exact Kg)⟩);case measure=>simp[intOf];omega
  (obtain rfl:k=7:=by omega);go_wp2;go_ret;refine⟨_,rfl,?_,rfl⟩;have:=HA.o;rw[ba (by rw[HL.o];exact aq _)]at this;rw[this];rfl
theorem qJ (g b:Nat) (ns:List Int) (w:World) (hl:ns.length=7)
 (hp:∀k,k<7->w.cell? ⟨g,k,none⟩=some (.pointer (some ⟨b,k,none⟩))) (hn:∀k,k<7->w.cell? ⟨b,k,none⟩=some (.int .i64 (ns.getD k 0))) :
 Calls Tryz.prog 181 #[.slice (some ⟨g,0,none⟩) 7 7,.func (.func 182) #[] #[]] w fun e w'=>e=.returned (.bool (!(ns.all gK)))/\w=w':=by
 have C:=Hd (pd g b ns w hl hp hn);clear hl hp hn;(go_enter Tryz.func181,Tryz.ntmps181);(go_wp2_with fail);refine C.o.mono ?_;rintro e w' ⟨r,rfl,hr,rfl⟩;have HR:=Hd hr;clear hr;(go_wp2_with fail);go_ret;exact⟨by rw[<- HR.o];rfl,rfl⟩
theorem th (g b k:Nat) (w:World) (h:Has w g (.cells (lH b) 238)) (hk:k<7):w.cell? ⟨g,k,none⟩=some (.pointer (some ⟨b,k,none⟩)):=by
 rw[h.cell]
 match k,hk with
 |0,_|1,_|2,_|3,_|4,_|5,_|6,_=>rfl
theorem qR {w:World} {b:Nat} {a1 a2 a3 a4 a5 a6 a7:Int} {l:Bool} {s:ByteArray} (h:Has w b (.cells (gE a1 a2 a3 a4 a5 a6 a7 l s) 109)) (k:Nat) (hk:k<7) :
 w.cell? ⟨b,k,none⟩=some (.int .i64 ([a1,a2,a3,a4,a5,a6,a7].getD k 0)):=by
 rw[h.cell]
 match k,hk with
 |0,_|1,_|2,_|3,_|4,_|5,_|6,_=>rfl
def dH.val (m:dH):Value:=.agg (gE m.dT m.dL m.dN m.dQ m.fj m.dF m.eI m.fu ⟨m.data.toArray⟩)
theorem jI (m:dH) (w:World) (hs:m.data.length<=9223372036854775807) :
 Calls Tryz.prog 156 #[m.val] w fun e w'=>e=.returned (.bool m.right)/\Below w.heap.size w w':=by
 obtain⟨a1,a2,a3,a4,a5,a6,a7,l,s⟩:=m;simp only at hs;have LH:(ByteArray.mk s.toArray).size=s.length:=rfl;by_cases c1:1<=a1
 ·by_cases c2:a1<=9
  ·by_cases c3:s.length<=20
   ·have e:dH.right {dT:=a1,dL:=a2,dN:=a3,dQ:=a4,fj:=a5,dF:=a6,eI:=a7,fu:=l,data:=s}=[a1,a2,a3,a4,a5,a6,a7].all gK:=by
     simp[dH.right,c1,c2,c3,dH.fo]
    rw[e];clear e;have H1:=(((Has.new w (.cells (gE a1 a2 a3 a4 a5 a6 a7 l ⟨s.toArray⟩) 109)).alloc (.cells (lH w.heap.size) 238))).drew;have H2:=(Has.new (w.alloc (.cells (gE a1 a2 a3 a4 a5 a6 a7 l ⟨s.toArray⟩) 109)) (.cells (lH w.heap.size) 238)).drew;rw[World.size_alloc]at H2;have C:=Hd (qJ (w.heap.size+1) w.heap.size [a1,a2,a3,a4,a5,a6,a7] _ rfl (fun k hk=>th _ _ k _ H2 hk) (fun k hk=>qR H1 k hk));clear H1 H2;unfold dH.val;(go_enter Tryz.func156,Tryz.ntmps156);(go_wp2_with fail);refine (tg _ _).mono ?_;rintro e w' ⟨rfl,rfl⟩;(go_wp2_with fail);refine C.o.mono ?_;rintro e w' ⟨rfl,rfl⟩;(go_wp2_with fail);go_ret;exact⟨by simp,(((Below.refl _ _).alloc (aq _) _).alloc (by simp) _).drew⟩
   have e:dH.right {dT:=a1,dL:=a2,dN:=a3,dQ:=a4,fj:=a5,dF:=a6,eI:=a7,fu:=l,data:=s}=false:=by
    simp[dH.right,c3]
   rw[e];clear e;(have c4:(20:Int)<s.length:=by omega);unfold dH.val;(go_enter Tryz.func156,Tryz.ntmps156);(go_wp2_with fail);go_ret;exact⟨rfl,(Below.refl _ _).alloc (aq _) _⟩
  have e:dH.right {dT:=a1,dL:=a2,dN:=a3,dQ:=a4,fj:=a5,dF:=a6,eI:=a7,fu:=l,data:=s}=false:=by
   simp[dH.right,c2]
  rw[e];clear e;(have c4:9<a1:=by omega);unfold dH.val;(go_enter Tryz.func156,Tryz.ntmps156);(go_wp2_with fail);go_ret;exact⟨rfl,(Below.refl _ _).alloc (aq _) _⟩
 have e:dH.right {dT:=a1,dL:=a2,dN:=a3,dQ:=a4,fj:=a5,dF:=a6,eI:=a7,fu:=l,data:=s}=false:=by
  simp[dH.right,c1]
 rw[e];clear e;(have c4:a1<1:=by omega);unfold dH.val;(go_enter Tryz.func156,Tryz.ntmps156);(go_wp2_with fail);go_ret;exact⟨rfl,(Below.refl _ _).alloc (aq _) _⟩
end eK
namespace cache
open Go.RowKit heap own
structure It where
 obj:Int
 data:List UInt8
 dY:Int
 fO:Int
def iS (x:It):List Value:=[.int .i64 x.obj,.string ⟨x.data.toArray⟩,.int .i64 x.dY,.int .i64 x.fO]
def It.val (x:It):Value:=.agg #[.int .i64 x.obj,.string ⟨x.data.toArray⟩,.int .i64 x.dY,.int .i64 x.fO]
def gA (l:List It):List Value:=l.flatMap iS
def iX (own:Nat->Nat) (T:Nat) (w:World) (v:Value) (l:List It):Prop:=Row own T w 272 4 v l.length (gA l)
theorem rh (l:List It):∀u∈gA l,u.oneCell'=true:=by
 intro u hu;obtain⟨x,-,hu⟩:=dt.1 hu;simp only[iS,aM,bc,or_false]at hu;rcases hu with rfl|rfl|rfl|rfl<;>rfl
theorem xK (l:List It) (k:Nat) (x:It) (h:l[k]?=some x) (j:Nat) (hj:j<4):(gA l)[k*4+j]?=(iS x)[j]?:=by
 induction l generalizing k with
 |nil=>simp at h
 |cons q l ih =>
  cases k with
  |zero =>
   (obtain rfl:q=x:=by simpa using h);simp only[gA,aU,Nat.zero_mul,bW];rw[aV (by simpa[iS]using hj)]
  |succ k =>
   have:=ih k (by simpa using h);simp only[gA,aU]at this⊢;rw[aL (by simp[iS];omega)];rw[show (k+1)*4+j-(iS q).length=k*4+j from by simp[iS];omega];exact this
def findAt (l:List It) (o:Int):Int:=match l.findIdx? (fun x=>decide (x.obj=o))with|some k=>k|none => -1
theorem Eu (x:It) (o:Int) (p:Nat) (w:World) (hp:w.cell? ⟨p,0,none⟩=some (.int .i64 o)) :
 Calls Tryz.prog 218 #[x.val,.pointer (some ⟨p,0,none⟩)] w fun e w'=>e=.returned (.bool (x.obj==o))/\Below w.heap.size w w':=by
 have Kg:p<w.heap.size:=by
  exact Lt hp
 unfold It.val;(go_enter Tryz.func218,Tryz.ntmps218);go_wp2;go_ret;exact⟨rfl,(Below.refl _ _).alloc (aq _) _⟩
theorem Ev (l:List It) (o:Int) (k:Nat) (x:It) (h:l[k]?=some x) (hx:x.obj=o) (hn:∀y∈l.take k,y.obj≠o):findAt l o=k:=by
 unfold findAt
 have:l.findIdx? (fun x=>decide (x.obj=o))=some k:=by
  rw[List.findIdx?_eq_some_iff_getElem];obtain⟨hk,rfl⟩:=ar.1 h;refine⟨hk,by simpa using hx,fun j hj=>?_⟩
  have:=hn l[j] (by
   rw[List.mem_take_iff_getElem]
   exact⟨j,by omega,rfl⟩)
  simpa using this
 rw[this]
theorem Ew (l:List It) (o:Int) (hn:∀y∈l,y.obj≠o):findAt l o = -1:=by
 unfold findAt
 have:l.findIdx? (fun x=>decide (x.obj=o))=none:=by
  rw[List.findIdx?_eq_none_iff];intro x hx;simpa using hn x hx
 rw[this]
theorem pd (own:Nat->Nat) (T:Nat) (v:Value) (l:List It) (o:Int) (p:Nat) (w:World) (h:iX own T w v l) (hp:w.cell? ⟨p,0,none⟩=some (.int .i64 o)) :
 Calls Tryz.prog 217 #[v,.func (.func 218) #[] #[.pointer (some ⟨p,0,none⟩)]] w fun e w'=>e=.returned (.int .i64 (findAt l o))/\Below w.heap.size w w':=by
 have QS:∃a c,v=.slice a l.length c/\l.length<=9223372036854775807/\(0<l.length->∃g,a=some ⟨g,0,none⟩/\g<w.heap.size/\∀k x,l[k]?=some x->∀j,j<4->w.cell? ⟨g,k*4+j,none⟩=(iS x)[j]?):=by
  rcases bx l.length with h0|h0
  ·rcases h.1.2 with⟨rfl,e⟩|⟨g,cap,cur,rfl,_⟩
   ·exact⟨none,0,by rw[<- h0],by omega,fun h=>by omega⟩
   exact⟨_,_,rfl,by omega,fun h=>by omega⟩
  obtain⟨g,cap,cur,rfl,ho,hh,Sy,Oa,LN,hcx⟩:=h.shape h0;refine⟨_,_,rfl,by unfold maxLen at Oa;omega,fun _=>⟨g,rfl,hh.lt,fun k x hk j hj=>?_⟩⟩;have Ks:=(ar.1 hk).1;rw[(ij hh hcx (k*4+j) (by omega)).1,xK l k x hk j hj]
 obtain⟨a,c,rfl,Y3,hcell⟩:=QS
 have Sr:p<w.heap.size:=by
  exact Lt hp
 have HC:=Hd hcell;have HP:=Hd hp;clear h hcell hp;(go_enter Tryz.func217,Tryz.ntmps217);go_wp2;(go_loopw [8,5] (fun i _ wr=>∃k:Nat,k<=l.length/\i=.int .i64 k/\(∀y∈l.take k,y.obj≠o)/\Below w.heap.size w wr) (fun i _ _=>l.length-(intOf i).toNat));case atStart=>exact⟨0,by omega,rfl,(fun y hy=>by simp at hy),Below.refl _ _⟩
 case round =>
  obtain⟨k,hk,rfl,L3,hb⟩:=hrel;have Lz:=Hd L3;clear L3;by_cases Kg:k<l.length
  ·obtain⟨g,rfl,hg,hc⟩:=HC.o (by omega);have MD:l[k]?=some l[k]:=ax Kg;have hcx:=hc k _ MD;have hbc:∀j,wr.cell? ⟨g,k*4+j,none⟩=w.cell? ⟨g,k*4+j,none⟩:=fun j=>hb.cell (p:=⟨g,k*4+j,none⟩) hg;generalize hx:l[k]=x at MD hcx;have c0:wr.cell? ⟨g,k*4,none⟩=some (.int .i64 x.obj):=(hbc 0).trans (hcx 0 (by omega));have c1:wr.cell? ⟨g,k*4+1,none⟩=some (.string ⟨x.data.toArray⟩):=(hbc 1).trans (hcx 1 (by omega));have c2:wr.cell? ⟨g,k*4+2,none⟩=some (.int .i64 x.dY):=(hbc 2).trans (hcx 2 (by omega));have c3:wr.cell? ⟨g,k*4+3,none⟩=some (.int .i64 x.fO):=(hbc 3).trans (hcx 3 (by omega));have F:=Hd (Eu x o p wr ((hb.cell (p:=⟨p,0,none⟩) Sr).trans HP.o));have HKX:=Hd MD;have HX:=Hd hx;unfold It.val at F;clear hbc hcx hc MD hx;by_cases he:x.obj=o
   ·have heq:(x.obj==o)=true:=beq_iff_eq.2 he;have HE:=Hd he;have Wh:=Hd heq;clear he heq;(go_wp2_with fail);refine F.o.mono ?_;rintro e w2 ⟨rfl,Ke⟩;rw[Wh.o];(go_wp2_with fail);go_ret;exact⟨by rw[Ev l o k x HKX.o HE.o Lz.o];rfl,hb.trans (Ke.mono hb.size)⟩
   have heq:(x.obj==o)=false:=beq_eq_false_iff_ne.2 he;have HE:=Hd he;have Wh:=Hd heq;clear he heq;(go_wp2_with fail);refine F.o.mono ?_;rintro e w2 ⟨rfl,Ke⟩;rw[Wh.o];(go_wp2_with fail);go_roundw
   case rel =>
    refine⟨k+1,by omega,by go_num,fun y hy=>?_,hb.trans (Ke.mono hb.size)⟩;rw[bo,HKX.o]at hy;rcases aO.1 hy with hy|hy
    ·exact Lz.o y hy
    (obtain rfl:y=x:=by simpa using hy);exact HE.o
   case measure=>simp[intOf];omega
  (obtain rfl:k=l.length:=by omega);(go_wp2_with fail);go_ret;exact⟨by rw[Ew l o (fun y hy=>Lz.o y (by rw[bp];exact hy))];rfl,hb⟩
theorem tC (own:Nat->Nat) (T b q:Nat) (v:Value) (l:List It) (o:Int) (w:World) (k0:w.cell? ⟨b,q,none⟩=some v) (h:iX own T w v l) :
 Calls Tryz.prog 197 #[.pointer (some ⟨b,q,none⟩),.int .i64 o] w fun e w'=>e=.returned (.int .i64 (findAt l o))/\Below w.heap.size w w':=by
 obtain⟨a,m,c,rfl⟩:∃a m c,v=.slice a m c:=by
  rcases h.1.2 with⟨rfl,_⟩|⟨g,cap,cur,rfl,_⟩<;>exact⟨_,_,_,rfl⟩
 have Kg:b<w.heap.size:=by
  exact Lt k0
 have C:=Hd (pd own T (.slice a m c) l o w.heap.size (w.alloc (.cells #[.int .i64 o] 3)) (h.below ((Below.refl _ _).alloc (aq _) _)) ((Has.new w (.cells #[.int .i64 o] 3)).cell 0));clear h;(go_enter Tryz.func197,Tryz.ntmps197);(go_wp2_with fail);refine C.o.mono ?_;rintro e w2 ⟨rfl,Ke⟩;(go_wp2_with fail);go_ret;exact⟨rfl,((Below.refl _ _).alloc (aq _) _).trans (Ke.mono (by simp))⟩
def mN:List Value:=[.int .i64 0,.string ByteArray.empty,.int .i64 0,.int .i64 0]
theorem Ex:(Builtin.zeroCells (Value.agg #[.int .i64 0,.string ByteArray.empty,.int .i64 0,.int .i64 0]).cells 1).toList=mN:=by kernel_rfl
theorem Ey:∀v∈mN,v.oneCell'=true:=by simp[mN,Value.oneCell']
theorem xL:(Tryz.prog.info? 272).map (fun i=>(i.zero,i.size,i.bytes))=some (some (.agg #[.int .i64 0,.string ByteArray.empty,.int .i64 0,.int .i64 0]),4,40):=by kernel_rfl
theorem Ez (w:World):(zeroValue 272).run Tryz.prog w=.ok (.agg #[.int .i64 0,.string ByteArray.empty,.int .i64 0,.int .i64 0]) w:=by kernel_rfl
theorem rm (own:Nat->Nat) (T:Nat) (v:Value) (n k:Nat) (xs:List Value) (w:World) (h:Row own T w 272 4 v n xs) (hk:k<n) (Qp:∀u∈xs,u.oneCell'=true) :
 Calls Tryz.prog 198 #[v,.int .i64 k,.int .i64 ((k:Int)+1)] w fun e w'=>∃v',e=.returned v'/\v'.ownBlock=v.ownBlock/\Row own T w' 272 4 v' (n-1) (cut 4 k xs)/\dD (fun g=>v.ownBlock=some g) w w':=by
 obtain⟨i0,KO,La,KH,KD⟩:=info_parts xL;obtain⟨g,cap,cur,rfl,ho,hh,Sy,Oa,LN,hcx⟩:=h.shape (by omega);have LK:xs.length=n*4:=h.1.1;have HX:=Hd LK;have HC:=Hd (vB (k:=k) (zs:=mN) ho hh.drew Sy Oa LN hcx hk rfl)
 have HT:Hy (dD (fun b=>(Value.slice (some ⟨g,0,none⟩) n cap).ownBlock=some b) w ((w.drew.setCells g (k*4) (xs.drop ((k+1)*4))).setCells g ((n-1)*4) mN)):=
  vy (S:=fun b=>(Value.slice (some ⟨g,0,none⟩) n cap).ownBlock=some b) rfl w _ _ _ _
 obtain⟨A,hA,Wt⟩:∃A:Addr,(if cap=k+1 then (some ⟨g,0,none⟩:Option Addr) else some ⟨g,(k+1)*4,none⟩)=some A/\Hy (∀t u,(xs.drop ((k+1)*4))[t]?=some u->w.drew.cell? (A.add t)=some u):=by
  by_cases h:cap=k+1
  ·refine⟨⟨g,0,none⟩,by simp[h],fun t u hu=>?_⟩;have:=(ar.1 hu).1;simp at this;omega
  refine⟨⟨g,(k+1)*4,none⟩,by simp[h],fun t u hu=>?_⟩;rw[dx]at hu;have Kg:=(ar.1 hu).1;have:=(ij hh hcx ((k+1)*4+t) (by omega)).1;rw[show (⟨g,(k+1)*4,none⟩:Addr).add t=⟨g,(k+1)*4+t,none⟩ from by by_cases h0:t=0<;>simp[Addr.add,h0]];exact this.trans hu
 (have s1:Hy ((xs.drop ((k+1)*4)).length=(n-(k+1))*4):=by rw[Hy,bO,LK];omega);have s2:Hy (∀u∈xs.drop ((k+1)*4),u.oneCell'=true):=fun u hu=>Qp u (List.mem_of_mem_drop hu)
 have s3:Hy (∀t,t<(xs.drop ((k+1)*4)).length->(w.drew.cell? ⟨g,0+k*4+t,none⟩).isSome=true/\w.drew.frozen? ⟨g,0+k*4+t,none⟩=false):=by
  intro t ht;rw[bO,LK]at ht;rw[bW];exact qC hh.drew LN _ (by omega)
 obtain⟨W1,Kh⟩:∃W1,W1=w.drew.setCells g (0+k*4) (xs.drop ((k+1)*4)):=⟨_,rfl⟩;have Qq:Hy (W1=w.drew.setCells g (k*4) (xs.drop ((k+1)*4))):=by rw[Kh,bW];rfl
 have KW:∀ty,(Builtin.clear_ #[114] ty #[.slice (some ⟨g,(k+(n-(k+1)))*4,none⟩) (n-(k+(n-(k+1)))) (cap-(k+(n-(k+1))))]).run Tryz.prog W1=.ok (.tuple #[]) (W1.setCells g ((n-1)*4) mN):=fun ty=>by
  rw[show k+(n-(k+1))=n-1 from by omega,show n-(n-1)=1 from by omega];(have Pg:Has W1 g (.cells (lay cur (k*4) (xs.drop ((k+1)*4))) 272):=by rw[Qq.o];exact Has.setCells _ hh.drew _);exact vA W1 _ _ ty _ mN Tryz.underlying114 (Ez _) Ex Ey g _ _ (fun j hj=>(qC Pg (by rw[o8,LN]) _ (by have e:mN.length=4:=rfl;rw[e]at hj;omega)).1) (fun j hj=>Pg.frozen _)
 have HW:=Hd Kh
 have KZ:k+1<=cap:=by omega
 have Rk:k<=cap:=by omega
 have g1:(0:Int)<=(k:Int)+1:=by omega
 have g2:(k:Int)+1<=(n:Int):=by omega
 unfold maxLen at Oa
 clear Kh h hh LN hcx LK Qp ho
 go_enter Tryz.func198,Tryz.ntmps198
 go_wp2_with fail
 go_region_law (refine step_append_room rfl (.tmp 22) (.tmp 25) 114 rfl 272 i0 4 Tryz.underlying114 KO KH g 0 k cap (by simp[Act.eval,Act.put]) A (n-(k+1)) (cap-(k+1)) (xs.drop ((k+1)*4)) (by simp[Act.eval,Act.put]) s1.o Wt.o s2.o (by omega) s3.o ?_;rw[<- HW.o])
 go_wp2;go_ret;refine⟨_,rfl,rfl,?_,?_⟩
 ·show Row own T (W1.setCells g ((n-1)*4) mN) _ 4 (.slice (some ⟨g,0,none⟩) (k+(n-(k+1))) cap) _ _;rw[show k+(n-(k+1))=n-1 from by omega,Qq.o];exact HC.o
 rw[Qq.o];exact HT.o
def jK (l:List It) (o:Int):List It:=l.eraseP (fun x=>decide (x.obj=o))
theorem xN (l:List It) (o:Int):(∃(k:Nat) (x:It),l[k]?=some x/\x.obj=o/\findAt l o=k/\k<l.length/\jK l o=l.eraseIdx k/\l.find? (fun x=>decide (x.obj=o))=some x)\/(findAt l o = -1/\jK l o=l/\l.find? (fun x=>decide (x.obj=o))=none):=by
 unfold findAt jK;rw[List.eraseP_eq_eraseIdx]
 cases h:l.findIdx? (fun x=>decide (x.obj=o))with
 |none =>
  right;refine⟨rfl,rfl,?_⟩;rw[List.find?_eq_none];rw[List.findIdx?_eq_none_iff]at h;intro x hx;simpa using h x hx
 |some k =>
  left;obtain⟨hk,h1,h2⟩:=List.findIdx?_eq_some_iff_getElem.1 h;refine⟨k,l[k],ax hk,by simpa using h1,rfl,hk,rfl,?_⟩;rw[List.find?_eq_some_iff_getElem];exact⟨h1,k,hk,rfl,fun j hj=>by simpa using h2 j hj⟩
theorem iX.below {own:Nat->Nat} {T:Nat} {w w':World} {v:Value} {l:List It} (h:iX own T w v l) (hb:Below w.heap.size w w'):iX own T w' v l:=Row.below h hb
def jg (own:Nat->Nat) (T b q:Nat) (cs:Array Value) (t:TypeId) (l:List It) (w w':World):Prop:=
 ∃Mp v',Ext w own Mp/\dD (fun k=>k=b\/own k=T) w w'/\Has w' b (.cells (cs.setIfInBounds q v') t)/\iX Mp T w' v' l
theorem rp {cs:Array Value} {o:Nat} {v:Value} (h:cs[o]?=some v):cs.setIfInBounds o v=cs:=by
 apply Array.ext_getElem?;intro i;rw[cZ];split
 ·rename_i e;subst e;rw[if_pos (bz.1 h).1,h]
 rfl
theorem xO (own:Nat->Nat) (T b q:Nat) (cs:Array Value) (t:TypeId) (v:Value) (l:List It) (o:Int) (w:World) (hB:Has w b (.cells cs t)) (c0:cs[q]?=some v) (hb:own b≠T) (h:iX own T w v l) :
 Calls Tryz.prog 166 #[.pointer (some ⟨b,q,none⟩),.int .i64 o] w fun e w'=>e=.returned (.tuple #[])/\jg own T b q cs t (jK l o) w w':=by
 have k0:w.cell? ⟨b,q,none⟩=some v:=(hB.cell q).trans c0;have F:=Hd (tC own T b q v l o w k0 h);have Kg:=hB.lt;rcases xN l o with⟨k,x,hk,hx,hf,Ks,hd,-⟩|⟨hf,hd,-⟩
 ·obtain⟨g,cap,cur,rfl,ho,hh,Sy,Oa,LN,hcx⟩:=h.shape (by omega);(have Mw:g≠b:=by rintro rfl;exact hb ho);have HB:=Hd hB;have RR:=Hd c0;have HH:=Hd h;have HD:=Hd hd;have HF:=Hd hf;unfold maxLen at Oa;(have Y3:l.length<=9223372036854775807:=by omega);(have hkz:(k:Int)+1<=l.length:=by omega);(have hk9:¬((k:Int)<0):=by omega);clear hB c0 h hd hf hk hx ho hh LN hcx;(go_enter Tryz.func166,Tryz.ntmps166);(go_wp2_with fail);refine F.o.mono ?_;rintro e w1 ⟨rfl,Kd⟩;rw[HF.o];have k1:w1.cell? ⟨b,q,none⟩=some (.slice (some ⟨g,0,none⟩) l.length cap):=(Kd.cell (p:=⟨b,q,none⟩) Kg).trans k0;have Ki:=Hd Kd;clear Kd;(go_wp2_with fail);refine (rm own T _ l.length k (gA l) _ (HH.o.below Ki.o) Ks (rh l)).mono ?_;rintro e w2 ⟨v',rfl,Om,K7,Kr⟩
  obtain⟨ag,ng,cg,rfl⟩:∃a m c,v'=.slice a m c:=by
   rcases K7.1.2 with⟨rfl,_⟩|⟨g,cap,cur,rfl,_⟩<;>exact⟨_,_,_,rfl⟩
  have hS:∀k,k≠g->¬((Value.slice (some ⟨g,0,none⟩) l.length cap).ownBlock=some k):=fun k hk e=>hk (by simpa[Value.ownBlock]using e.symm)
  have Nl:Has w2 b (.cells cs t):=Kr.has (HB.o.below Ki.o Kg) (hS _ (Ne.symm Mw))
  have k2:w2.cell? ⟨b,q,none⟩=some (.slice (some ⟨g,0,none⟩) l.length cap):=(Nl.cell q).trans RR.o
  have f2:w2.frozen? ⟨b,q,none⟩=false:=Nl.frozen q
  have HV:=Hd Om
  have Ld:=Hd K7
  have K4:=Hd Kr
  have Kn:=Hd Nl
  clear Om K7 Kr Nl hS k1
  go_wp2_with fail
  go_end0
  refine⟨rfl,own,.slice ag ng cg,Ext.refl _ _,?_,Kn.o.eu q _,?_⟩
  ·refine ((((dD.refl _ w).gn Ki.o (aq _)).trans K4.o (fun k' _ e=>.inr ?_)).setCell (p:=⟨b,q,none⟩) (.inr (.inl rfl)) _);exact HH.o.2 k' e
  rw[HD.o];have e1:(l.eraseIdx k).length=l.length-1:=bU Ks;have e2:cut 4 k (gA l)=gA (l.eraseIdx k):=qB 4 k _ (fun _=>rfl) l;unfold iX;rw[e1,<- e2];refine⟨lV Ld.o.1 fun k' MW=>?_,Ld.o.2⟩;rw[HV.o]at MW;(have:g=k':=by simpa[Value.ownBlock]using MW);subst this;exact Below.heap_setCell _ _ _ _ Mw
 have HF:=Hd hf
 have HB:=Hd hB
 have RR:=Hd c0
 have HH:=Hd h
 have HD:=Hd hd
 clear hB c0 h hd hf
 go_enter Tryz.func166,Tryz.ntmps166
 go_wp2_with fail
 refine F.o.mono ?_
 rintro e w1 ⟨rfl,Kd⟩
 rw[HF.o]
 have Ki:=Hd Kd
 clear Kd
 go_wp2_with fail
 go_end0
 refine⟨rfl,own,v,Ext.refl _ _,(dD.refl _ w).gn Ki.o (aq _),?_,?_⟩
 ·rw[rp RR.o];exact HB.o.below Ki.o Kg
 rw[HD.o];exact HH.o.below Ki.o
theorem EA (own:Nat->Nat) (T b q:Nat) (cs:Array Value) (t:TypeId) (v:Value) (w:World) (hB:Has w b (.cells cs t)) (c0:cs[q]?=some v) :
 Calls Tryz.prog 165 #[.pointer (some ⟨b,q,none⟩)] w fun e w'=>e=.returned (.tuple #[])/\jg own T b q cs t [] w w':=by
 have k0:w.cell? ⟨b,q,none⟩=some v:=(hB.cell q).trans c0
 have f0:w.frozen? ⟨b,q,none⟩=false:=hB.frozen q
 have HB:=Hd hB
 clear hB c0
 go_enter Tryz.func165,Tryz.ntmps165
 go_wp2_with fail
 go_end0
 exact⟨rfl,own,.slice none 0 0,Ext.refl _ _,(dD.refl _ w).setCell (p:=⟨b,q,none⟩) (.inr (.inl rfl)) _,HB.o.eu q _,Row.nil _ _ _ _ _⟩
end cache
namespace eK
open Go.RowKit heap
def B (c:UInt8):Value:=.int .u8 c.toNat
theorem xY:(Tryz.prog.info? 5).map (fun i=>(i.zero,i.size,i.bytes))=some (some (.int .u8 0),1,1):=by kernel_rfl
theorem xZ (l:List Int) (h:∀y∈l,0<=y/\y.toNat<128^6):(jJ l).length<=6*l.length:=by
 induction l with
 |nil=>simp[jJ]
 |cons y l ih =>
  have e1:=vc y.toNat (h y (by simp)).2;have e2:=ih fun z hz=>h z (by simp[hz]);(have e3:jJ (y::l)=iD y.toNat++jJ l:=by simp[jJ]);rw[e3,aA,aJ];omega
theorem ET (q:Nat) (h:128<=q):2<=(iD q).length:=by
 have e:iD q=UInt8.ofNat (q%128+128)::ig 5 (q/128):=by
  simp only[iD,ig];rw[if_neg (by omega)]
 rw[e];have:=Bv 5 (q/128);cases h2:ig 5 (q/128)
 ·exact absurd h2 this
 simp
theorem EU:∀n:Fin 256,bits BinOp.or IntKind.u8 (n.val:Int) 128=((n.val%128+128:Nat):Int):=by decide +kernel
def nY (q:Nat):UInt8:=UInt8.ofNat (q%128+128)
def ma (q:Nat):UInt8:=UInt8.ofNat q
theorem EV (q:Nat):bits BinOp.or IntKind.u8 ((q:Int)%256) 128=((nY q).toNat:Int):=by
 have h:=EU ⟨q%256,Nat.mod_lt _ (by omega)⟩;(have e:((q:Int)%256)=((q%256:Nat):Int):=by omega);rw[e,h];simp[nY];omega
theorem tG (q:Nat) (h:q<128):(q:Int)=((ma q).toNat:Int):=by
 simp[ma];omega
theorem one_cell {w:World} {v:Value} {t:TypeId} {u:Value} (hv:v=u):∀(j:Nat) (x:Value),[u][j]?=some x->(w.alloc (.cells #[v] t)).cell? ((⟨w.heap.size,0,none⟩:Addr).add j)=some x:=by
 subst hv;intro j x hj
 match j,hj with
 |0,hj=>simp at hj;subst hj;simp[Addr.add]
theorem pX (l:List UInt8):∀u∈l.map B,u.oneCell'=true:=by
 intro u hu;obtain⟨c,_,rfl⟩:=bA.1 hu;rfl
theorem tH {w:World} {v v':Value} {t:TypeId} {u u':Value} (hv:v=u) (Om:v'=u'):∀(j:Nat) (x:Value),[u,u'][j]?=some x->(w.alloc (.cells #[v,v'] t)).cell? ((⟨w.heap.size,0,none⟩:Addr).add j)=some x:=by
 subst hv;subst Om;intro j x hj
 match j,hj with
 |0,hj=>simp at hj;subst hj;simp[Addr.add]
 |1,hj=>simp at hj;subst hj;simp[Addr.add]
theorem rA {w:World} {base:Nat} {e:TypeId} {size n:Nat} {v:Value} {xs:List Value} (h:w.ownsRow base e size v n xs):∀g,v.ownBlock=some g->base<=g:=by
 intro g hg;rcases h.2 with⟨rfl,_⟩|⟨g',_,_,rfl,h,_⟩
 ·cases hg
 (have:g'=g:=by simpa[Value.ownBlock]using hg);omega
theorem x7 {w:World} {base Pb:Nat} {e:TypeId} {size n:Nat} {v:Value} {xs:List Value} (h:w.ownsRow base e size v n xs) (hb:Pb<=base):w.ownsRow Pb e size v n xs:=by
 refine⟨h.1,?_⟩;rcases h.2 with h2|⟨g',cap,cur,h1,h2,h3⟩
 ·exact .inl h2
 exact .inr ⟨g',cap,cur,h1,by omega,h3⟩
theorem x9 (s:List UInt8):Lib.strCells ⟨s.toArray⟩=s.map B:=by simp[Lib.strCells,B]
theorem EW (m:dH) (w:World) (hr:m.right=true) :
 Calls Tryz.prog 148 #[m.val] w fun e w'=>∃v n,e=.returned (.tuple #[v,.nilIface])/\w'.ownsRow w.heap.size 5 1 v n ((jk m).map B)/\Below w.heap.size w w':=by
 obtain⟨i0,KO,La,KH,KD⟩:=info_parts xY;have kg:=su hr;have HR:=Hd hr;clear hr;have R:=Hd (jI m);obtain⟨a1,a2,a3,a4,a5,a6,a7,l,s⟩:=m;simp only[dH.val]at R kg;unfold dH.val;(go_enter Tryz.func148,Tryz.ntmps148);(go_wp2_with fail);refine (R.o _ (by omega)).mono ?_;rintro e w1 ⟨rfl,Kd⟩;rw[HR.o];have h1:=(Has.new w (.cells (gE a1 a2 a3 a4 a5 a6 a7 l ⟨s.toArray⟩) 109)).below Kd (by simp);have Ol:=Kd.size;rw[World.size_alloc]at Ol;(go_wp2_with fail);refine (tg _ _).mono ?_;rintro e w' ⟨rfl,Nh⟩;have h2:Has w' w.heap.size _:=Nh▸(h1.alloc (.cells (lH w.heap.size) 238)).drew;have h3:Has w' w1.heap.size (.cells (lH w.heap.size) 238):=Nh▸(Has.new w1 (.cells (lH w.heap.size) 238)).drew;have Ke:Below w.heap.size w w':=((Below.refl _ _).alloc (aq _) _).trans ((Kd.mono (by simp)).trans (Nh▸((Below.refl _ w1).alloc (by omega) _).drew));(have KY:w'.heap.size=w1.heap.size+1:=by rw[Nh];simp);have Kq:=Hd KY;clear KY Nh Kd h1;have H2:=Hd h2;have H3:=Hd h3;clear h2 h3;go_wp2_with fail
 have ok:∀k,k<7->0<=[a1,a2,a3,a4,a5,a6,a7].getD k 0/\[a1,a2,a3,a4,a5,a6,a7].getD k 0<=1099511627776:=by
  intro k hk;apply pH HR.o;simp[List.getD,dH.fo,hk]
 have OK:=Hd ok;clear ok;(go_loopw [4,6,7,15] (fun v _ _ i wr=>∃k n:Nat,k<=7/\i=.int .i64 k/\n<=6*k/\wr.ownsRow (w1.heap.size+1) 5 1 v n ((jJ ([a1,a2,a3,a4,a5,a6,a7].take k)).map B)/\Below (w1.heap.size+1) w' wr) (fun _ _ _ i _=>7-(intOf i).toNat));case atStart=>exact⟨0,0,by omega,rfl,by omega,⟨rfl,.inl ⟨rfl,rfl⟩⟩,Below.refl _ _⟩
 case round =>
  obtain⟨k,n,hk,rfl,hn,Kt,Np⟩:=hrel;by_cases Kg:k<7
  ·have c1:=(Np.cell (p:=⟨w1.heap.size,k,none⟩) (by simp)).trans (th _ _ _ _ H3.o Kg);have c2:=(Np.cell (p:=⟨w.heap.size,k,none⟩) (by simp;omega)).trans (qR H2.o k Kg);have hx:=OK.o k Kg;generalize Ra:[a1,a2,a3,a4,a5,a6,a7].getD k 0=x at c2 hx;have HX:=Hd Ra;clear Ra;obtain⟨x0,xM⟩:=hx;obtain⟨x,rfl⟩:=Int.eq_ofNat_of_zero_le x0;have HO:=Hd Kt;clear Kt
   have hL:(jJ ([a1,a2,a3,a4,a5,a6,a7].take k)).length+(iD x).length<=6*k+6:=by
    have h6:(128^6:Nat)=4398046511104:=by decide
    have e1:=xZ ([a1,a2,a3,a4,a5,a6,a7].take k) (fun y hy=>by
     have:=pH HR.o y (List.take_subset _ _ hy);refine⟨this.1,?_⟩;rw[h6]
     omega)
    have e2:=vc x (by omega);have e3:([a1,a2,a3,a4,a5,a6,a7].take k).length<=k:=List.length_take_le _ _;omega
   have HL:=Hd hL;clear hL;(have hd:decide ((k:Int)<7)=true:=by simp;omega);obtain⟨wo,rfl⟩:∃wo:World,wo=wr:=⟨_,rfl⟩;(go_wp2_with fail);(go_loopw [4,7] (fun v y wq=>∃(q j:Nat) (pre:List UInt8),q+1<=1099511627777/\y=.int .i64 q/\j<=6*k+6/\pre++iD q=jJ ([a1,a2,a3,a4,a5,a6,a7].take k)++iD x/\wq.ownsRow (w1.heap.size+1) 5 1 v j (pre.map B)/\Below (w1.heap.size+1) w' wq) (fun _ y _=>(intOf y).toNat));case atStart=>exact⟨x,n,_,by omega,rfl,by omega,rfl,HO.o,Np⟩
   case round =>
    obtain⟨q,j,pre,hq,rfl,hj,Qd,Kt,Nz⟩:=hrel;have Um:=Hd Qd;have PK:=Hd Kt;clear Qd Kt;by_cases VW:128<=q
    ·(go_wp2_with (at_builtin;refine wpList_append_own _ rfl _ _ 32 rfl (w1.heap.size+1) 5 i0 (.int .u8 0) 1 1 Tryz.underlying32 KO La KH KD rfl (by decide) _ _ _ rfl (PK.o.alloc _) ⟨wr.heap.size,0,none⟩ 1 1 [B (nY q)] rfl rfl ?c1 ?c2 ?c3 ?c4 ?c5 ?_));(case c1=>exact one_cell (by rw[EV];rfl));(case c2=>exact pX [_]);(case c3=>unfold maxLen;omega);(case c4=>omega);(case c5=>simp;have:=Nz.size;have:=Kq.o;omega);intro v2 w2 Kp KE _;have LM:w2.ownsRow (w1.heap.size+1) 5 1 v2 (j+1) ((pre++[nY q]).map B):=by rw[bN];exact Kp
     have Kk:Below (w1.heap.size+1) w' w2:=(Nz.alloc (by have:=Nz.size;have:=Kq.o;omega) _).grown KE (by simp;have:=Nz.size;have:=Kq.o;omega) (fun g hg=>by
      rcases PK.o.2 with⟨rfl,_⟩|⟨g',_,_,rfl,h,_⟩
      ·cases hg
      have:g'=g:=by simpa[Value.ownBlock]using hg
      omega)
     have Rs:=Hd LM;clear Kp LM KE
     have hm:j+1<=6*k+6:=by
      have e1:=congrArg List.length Um.o;have e2:=PK.o.1;have e3:=HL.o;have e4:2<=(iD q).length:=ET q VW;simp only[aA,aS]at e1 e2;omega
     have Vn:(pre++[nY q])++iD (q/128)=jJ ([a1,a2,a3,a4,a5,a6,a7].take k)++iD x:=by
      rw[<- Um.o,Bx q VW (by have:(128^6:Nat)=4398046511104:=(by decide);omega)];simp[nY]
     have HP3:=Hd Vn;clear Vn;go_wp2;go_roundw;(case rel=>exact⟨q/128,j+1,pre++[nY q],by omega,by go_num,hm,HP3.o,Rs.o,Kk⟩);case measure=>simp[intOf];omega
    (go_wp2_with (at_builtin;refine wpList_append_own _ rfl _ _ 32 rfl (w1.heap.size+1) 5 i0 (.int .u8 0) 1 1 Tryz.underlying32 KO La KH KD rfl (by decide) _ _ _ rfl (PK.o.alloc _) ⟨wr.heap.size,0,none⟩ 1 1 [B (ma q)] rfl rfl ?c1 ?c2 ?c3 ?c4 ?c5 ?_));(case c1=>exact one_cell (by rw[tG q (by omega)];rfl));(case c2=>exact pX [_]);(case c3=>unfold maxLen;omega);(case c4=>omega);(case c5=>simp;have:=Nz.size;have:=Kq.o;omega);intro v2 w2 Kp KE _;have LM:w2.ownsRow (w1.heap.size+1) 5 1 v2 (j+1) ((pre++[ma q]).map B):=by rw[bN];exact Kp
    have Kk:Below (w1.heap.size+1) w' w2:=(Nz.alloc (by have:=Nz.size;have:=Kq.o;omega) _).grown KE (by simp;have:=Nz.size;have:=Kq.o;omega) (fun g hg=>by
     rcases PK.o.2 with⟨rfl,_⟩|⟨g',_,_,rfl,h,_⟩
     ·cases hg
     have:g'=g:=by simpa[Value.ownBlock]using hg
     omega)
    have Rs:=Hd LM;clear Kp LM KE
    have hk3:jJ ([a1,a2,a3,a4,a5,a6,a7].take (k+1))=pre++[ma q]:=by
     have e0:[a1,a2,a3,a4,a5,a6,a7].take (k+1)=[a1,a2,a3,a4,a5,a6,a7].take k++[(x:Int)]:=by
      rw[bC (by simpa using Kg),<- HX.o];simp[List.getD,Kg]
     rw[e0];have e1:=Um.o;rw[va q (by omega)]at e1;rw[show [ma q]=[UInt8.ofNat q] from rfl,e1];simp[jJ]
    have hm:j+1<=6*(k+1):=by
     have e1:=congrArg List.length Um.o;have e2:=PK.o.1;have e3:=HL.o;(have e4:(iD q).length=1:=by rw[va q (by omega)];rfl);simp only[aA,aS]at e1 e2;omega
    have WU:=Hd hk3;clear hk3;go_wp2;go_roundw;(case rel=>exact⟨k+1,j+1,by omega,by go_num,hm,by rw[WU.o];exact Rs.o,Kk⟩);case measure=>simp[intOf];omega
  (obtain rfl:k=7:=by omega);have c7:wr.cell? ⟨w.heap.size,7,none⟩=some (.bool l):=(Np.cell (p:=⟨w.heap.size,7,none⟩) (by simp;omega)).trans (H2.o.cell 7);have c8:wr.cell? ⟨w.heap.size,8,none⟩=some (.string ⟨s.toArray⟩):=(Np.cell (p:=⟨w.heap.size,8,none⟩) (by simp;omega)).trans (H2.o.cell 8);have HO:=Hd Kt;clear Kt;have LH:(ByteArray.mk s.toArray).size=s.length:=rfl;(have Se:w1.heap.size+1<=wr.heap.size:=by have:=Np.size;have:=Kq.o;omega);cases l
  ·(go_wp2_with (at_builtin;refine wpList_append_own _ rfl (.tmp 40) (.tmp 46) 32 rfl (w1.heap.size+1) 5 i0 (.int .u8 0) 1 1 Tryz.underlying32 KO La KH KD rfl (by decide) _ _ _ rfl (HO.o.alloc _) ⟨wr.heap.size,0,none⟩ 2 2 [B (mV false),B (ma s.length)] rfl rfl ?c1 ?c2 ?c3 ?c4 ?c5 ?_));(case c1=>exact tH rfl (by rw[tG s.length (by omega)];rfl));(case c2=>exact pX [_,_]);(case c3=>unfold maxLen;omega);(case c4=>omega);(case c5=>simp;omega);intro v2 w2 Kp KE _;have Kk:Below (w1.heap.size+1) w' w2:=(Np.alloc Se _).grown KE (by simp;omega) (rA HO.o);(have NJ:w1.heap.size+1<=w2.heap.size:=by have:=Kk.size;have:=Kq.o;omega);have d8:w2.cell? ⟨w.heap.size,8,none⟩=some (.string ⟨s.toArray⟩):=(Kk.cell (p:=⟨w.heap.size,8,none⟩) (by simp;omega)).trans (H2.o.cell 8);have Tt:=Hd Kp;clear Kp c7 c8 KE;(go_wp2_with (at_builtin;refine Lib.wpList_append_own_string _ rfl (.tmp 48) (.tmp 50) 32 9 rfl (w1.heap.size+1) 5 i0 Tryz.underlying32 Tryz.underlying9 KO La KH KD _ _ _ rfl Tt.o ⟨s.toArray⟩ rfl ?c6 ?c7 ?c8 ?_));(case c6=>unfold maxLen;omega);(case c7=>omega);(case c8=>exact NJ);intro v3 w3 LM MH _;have KB:=Kk.grown MH NJ (rA Tt.o)
   have KR:w3.ownsRow (w1.heap.size+1) 5 1 v3 (n+2+s.length) ((jk {dT:=a1,dL:=a2,dN:=a3,dQ:=a4,fj:=a5,dF:=a6,eI:=a7,fu:=false,data:=s}).map B):=by
    refine cast (congrArg (fun xs=>w3.ownsRow (w1.heap.size+1) 5 1 v3 (n+2+s.length) xs) ?_) LM;simp[jk,x9,dH.fo,ma]
   have Rs:=Hd KR;clear LM KR;go_wp2;go_ret2;exact⟨v3,_,rfl,x7 Rs.o (by omega),Ke.trans (KB.mono (by omega))⟩
  (go_wp2_with (at_builtin;refine wpList_append_own _ rfl (.tmp 40) (.tmp 46) 32 rfl (w1.heap.size+1) 5 i0 (.int .u8 0) 1 1 Tryz.underlying32 KO La KH KD rfl (by decide) _ _ _ rfl (HO.o.alloc _) ⟨wr.heap.size,0,none⟩ 2 2 [B (mV true),B (ma s.length)] rfl rfl ?c1 ?c2 ?c3 ?c4 ?c5 ?_));(case c1=>exact tH rfl (by rw[tG s.length (by omega)];rfl));(case c2=>exact pX [_,_]);(case c3=>unfold maxLen;omega);(case c4=>omega);(case c5=>simp;omega);intro v2 w2 Kp KE _;have Kk:Below (w1.heap.size+1) w' w2:=(Np.alloc Se _).grown KE (by simp;omega) (rA HO.o);(have NJ:w1.heap.size+1<=w2.heap.size:=by have:=Kk.size;have:=Kq.o;omega);have d8:w2.cell? ⟨w.heap.size,8,none⟩=some (.string ⟨s.toArray⟩):=(Kk.cell (p:=⟨w.heap.size,8,none⟩) (by simp;omega)).trans (H2.o.cell 8);have Tt:=Hd Kp;clear Kp c7 c8 KE;(go_wp2_with (at_builtin;refine Lib.wpList_append_own_string _ rfl (.tmp 48) (.tmp 50) 32 9 rfl (w1.heap.size+1) 5 i0 Tryz.underlying32 Tryz.underlying9 KO La KH KD _ _ _ rfl Tt.o ⟨s.toArray⟩ rfl ?c6 ?c7 ?c8 ?_));(case c6=>unfold maxLen;omega);(case c7=>omega);(case c8=>exact NJ);intro v3 w3 LM MH _;have KB:=Kk.grown MH NJ (rA Tt.o)
  have KR:w3.ownsRow (w1.heap.size+1) 5 1 v3 (n+2+s.length) ((jk {dT:=a1,dL:=a2,dN:=a3,dQ:=a4,fj:=a5,dF:=a6,eI:=a7,fu:=true,data:=s}).map B):=by
   refine cast (congrArg (fun xs=>w3.ownsRow (w1.heap.size+1) 5 1 v3 (n+2+s.length) xs) ?_) LM;simp[jk,x9,dH.fo,ma]
  have Rs:=Hd KR;clear LM KR;go_wp2;go_ret2;exact⟨v3,_,rfl,x7 Rs.o (by omega),Ke.trans (KB.mono (by omega))⟩
theorem EX (m:dH) (w:World) (hr:m.right=false) (hs:m.data.length<=9223372036854775807) :
 Calls Tryz.prog 148 #[m.val] w fun e w'=>e=.returned (.tuple #[.slice none 0 0,.iface 52 (.int .i64 1)])/\Below w.heap.size w w':=by
 have HR:=Hd hr;clear hr;have R:=Hd (jI m);obtain⟨a1,a2,a3,a4,a5,a6,a7,l,s⟩:=m;simp only[dH.val]at R hs;unfold dH.val;(go_enter Tryz.func148,Tryz.ntmps148);(go_wp2_with fail);refine (R.o _ hs).mono ?_;rintro e w1 ⟨rfl,Kd⟩;rw[HR.o];(go_wp2_with fail);go_ret2;exact⟨rfl,((Below.refl _ _).alloc (aq _) _).trans (Kd.mono (by simp))⟩
end eK
end Go.Proofs.YtlhodcmdpchllaaGreatDoor
