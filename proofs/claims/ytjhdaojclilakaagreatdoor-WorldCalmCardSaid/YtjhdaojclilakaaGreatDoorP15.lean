/-
  A part of the proof of the law WorldCalm: LeaseA, LeaseB, LeaseK, LeaseC, LeaseD, LeaseD2, LeaseE.
-/
import Derived.Deep.RegionLaw
import Derived.WalkSpells
import Derived.WideKeyPair
import Derived.DeepKeys4
import Derived.Deep.LoopGhost
import Derived.Test.YtjhdaojclilakaaGreatDoorHd
import Derived.Test.YtjhdaojclilakaaGreatDoorP07
import Derived.Test.YtjhdaojclilakaaGreatDoorP10
import Derived.Test.YtjhdaojclilakaaGreatDoorP12
set_option maxHeartbeats 16000000
set_option maxRecDepth 1000000
namespace Go.Proofs.YtjhdaojclilakaaGreatDoor
section
variable {p q:Prop}
theorem abp (h:p:=by
 rw[e];(go_enter Tryz.func120,Tryz.ntmps120);go_wp2;go_ret;exact⟨rfl,rfl⟩):p:=h
theorem aaQ (h:p:=by
 (go_wp2_with (go_at_call 120;refine R.mono ?_;rintro e w' ⟨rfl,rfl⟩));go_ret;exact⟨rfl,rfl⟩):p:=h
end
namespace gE
open Go.RowKit heap own
def fX (c:Int):Bool:=decide (0<=c)&&decide (c<4)
def fN (o:Int):Bool:=decide (0<=o)&&decide (o<8)
theorem lH (c o:Int) (w:World) :
 Calls Tryz.prog 120 #[VI c,VI o] w fun e w'=>e=.returned (.bool (fX c&&fN o))/\w=w':=by
 by_cases a:0<=c
 ·by_cases b:c<4
  ·by_cases d:0<=o
   ·by_cases f:o<8
    ·have d1:=decide_eq_true a;have d2:=decide_eq_true b;have d3:=decide_eq_true d;have d4:=decide_eq_true f;(have e:(fX c&&fN o)=true:=by simp[fX,fN,a,b,d,f]);exact abp
    have d1:=decide_eq_true a;have d2:=decide_eq_true b;have d3:=decide_eq_true d;have d4:=decide_eq_false f;(have e:(fX c&&fN o)=false:=by simp[fX,fN,a,b,d,f]);exact abp
   have d1:=decide_eq_true a;have d2:=decide_eq_true b;have d3:=decide_eq_false d;(have e:(fX c&&fN o)=false:=by simp[fX,fN,a,b,d]);exact abp
  have d1:=decide_eq_true a;have d2:=decide_eq_false b;(have e:(fX c&&fN o)=false:=by simp[fX,fN,a,b]);exact abp
 have d1:=decide_eq_false a;(have e:(fX c&&fN o)=false:=by simp[fX,fN,a]);rw[e];(go_enter Tryz.func120,Tryz.ntmps120);go_wp2;go_ret;exact⟨rfl,rfl⟩
def kD (m:Value) (vs ss:List Int):List Value:=m::(vs.map (Value.int .i64)++ss.map (Value.int .i64))
variable {m:Value} {vs ss:List Int} {c:Nat}
theorem wF (hc:c<vs.length):(kD m vs ss)[1+c]?=some (VI (vs.getD c 0)):=by
 rw[dT];simp only[kD,aO];rw[ba (by simpa using hc),br,ay hc];simp[List.getD,hc]
theorem zw (hv:vs.length=4) (hc:c<ss.length):(kD m vs ss)[5+c]?=some (VI (ss.getD c 0)):=by
 rw[show 5+c=(4+c)+1 from by omega];simp only[kD,aO];rw[aR ah,aX,hv,cW,br,ay hc];simp[List.getD,hc]
theorem Gd (p:Value) (c eB:Int) (w:World) (h:fX c=false) :
 Calls Tryz.prog 103 #[p,VI c,VI eB] w fun e w'=>e=.returned (.bool false)/\w=w':=by
 have R:=lH c 0 w;rw[h,ey]at R;(go_enter Tryz.func103,Tryz.ntmps103);(go_wp2_with (go_at_call 120;refine R.mono ?_;rintro e w' ⟨rfl,rfl⟩));go_ret;exact⟨rfl,rfl⟩
theorem Ge (b:Nat) (m:Value) (vs ss:List Int) (c:Nat) (eB:Int) (w:World) (a:Has w b (.cells (kD m vs ss).toArray 150)) (hv:vs.length=4) (hc:c<4) :
 Calls Tryz.prog 103 #[VP b 0,VI c,VI eB] w fun e w'=>e=.returned (.bool (decide (eB<vs.getD c 0)))/\w=w':=by
 have R:=lH c 0 w;(have e0:(fX c&&fN 0)=true:=by simp[fX,fN];omega);rw[e0]at R;(have d:w.cell? ⟨b,1+c,none⟩=some (VI (vs.getD c 0)):=by rw[a.cell,<- wF (m:=m) (ss:=ss) (c:=c) ab];simp);(have f:w.cell? ⟨b,c+1,none⟩=some (VI (vs.getD c 0)):=by rw[dT];exact d);have g:(c:Int)<4:=ab;generalize vs.getD c 0=x at d f;clear a;(go_enter Tryz.func103,Tryz.ntmps103);(go_wp2_with (go_at_call 120;refine R.mono ?_;rintro e w' ⟨rfl,rfl⟩));go_ret;exact⟨rfl,rfl⟩
end gE
namespace gE
open Go.RowKit heap own
theorem Gf (p:Value) (c:Int) (w:World) (h:fX c=false) :
 Calls Tryz.prog 119 #[p,VI c] w fun e w'=>e=.returned (.tuple #[VI 0,.iface 70 (VI 2)])/\w=w':=by
 have R:=lH c 0 w;rw[h,ey]at R;(go_enter Tryz.func119,Tryz.ntmps119);(go_wp2_with (go_at_call 120;refine R.mono ?_;rintro e w' ⟨rfl,rfl⟩));exact bodyPost_ret (v:=.tuple #[VI 0,.iface 70 (VI 2)]) (by simp[results,Tryz.results119,go_sem]) rfl ⟨rfl,rfl⟩
theorem Gg (b:Nat) (m:Value) (vs ss:List Int) (c:Nat) (w:World) (a:Has w b (.cells (kD m vs ss).toArray 150)) (hv:vs.length=4) (hs:ss.length=4) (hc:c<4) :
 Calls Tryz.prog 119 #[VP b 0,VI c] w fun e w'=>e=.returned (.tuple #[VI (ss.getD c 0),.nilIface])/\w=w':=by
 have R:=lH c 0 w;(have e0:(fX c&&fN 0)=true:=by simp[fX,fN];omega);rw[e0]at R;(have d:w.cell? ⟨b,5+c,none⟩=some (VI (ss.getD c 0)):=by rw[a.cell,<- zw (m:=m) (vs:=vs) (c:=c) hv ab];simp);(have f:w.cell? ⟨b,c+5,none⟩=some (VI (ss.getD c 0)):=by rw[dT];exact d);have g:(c:Int)<4:=ab;generalize ss.getD c 0=x at d f;clear a;(go_enter Tryz.func119,Tryz.ntmps119);(go_wp2_with (go_at_call 120;refine R.mono ?_;rintro e w' ⟨rfl,rfl⟩));exact bodyPost_ret (v:=.tuple #[VI x,.nilIface]) (by simp[results,Tryz.results119,go_sem]) rfl ⟨rfl,rfl⟩
theorem Gh (p:Value) (c u:Int) (w:World) (h:¬(fX c=true/\0<=u/\u<=1099511627776)) :
 Calls Tryz.prog 99 #[p,VI c,VI u] w fun e w'=>e=.returned (.iface 70 (VI 2))/\w=w':=by
 have R:=lH c 0 w;have e1:fN 0=true:=rfl;rw[e1,Bool.and_true]at R
 cases hc:fX c with
 |false =>
  rw[hc]at R;(go_enter Tryz.func99,Tryz.ntmps99);exact aaQ
 |true =>
  rw[hc]at R h;by_cases a:u<0
  ·have d0:=decide_eq_true a;(go_enter Tryz.func99,Tryz.ntmps99);exact aaQ
  have d0:=decide_eq_false a
  have b:(1099511627776:Int)<u:=by
   have:¬(0<=u/\u<=1099511627776):=fun hh=>h ⟨rfl,hh⟩;omega
  have d1:=decide_eq_true b;(go_enter Tryz.func99,Tryz.ntmps99);exact aaQ
theorem zx {m:Value} {vs ss:List Int} {c:Nat} (x:Int) (hc:c<vs.length):(kD m vs ss).toArray.setIfInBounds (1+c) (VI x)=(kD m (vs.set c x) ss).toArray:=by
 rw[dT];simp only[kD,aP,bf];rw[dy _ _ (by simpa using hc),List.map_set]
theorem Gi (b:Nat) (m:Value) (vs ss:List Int) (c:Nat) (u:Int) (w:World) (a:Has w b (.cells (kD m vs ss).toArray 150)) (hv:vs.length=4) (hc:c<4) (d:0<=u) (f:u<=1099511627776) :
 Calls Tryz.prog 99 #[VP b 0,VI c,VI u] w fun e w'=>e=.returned .nilIface/\eJ (fun k=>k=b) w w'/\Has w' b (.cells (kD m (vs.set c (max (vs.getD c 0) u)) ss).toArray 150):=by
 have R:=lH c 0 w
 have e0:(fX c&&fN 0)=true:=by simp[fX,fN];omega
 rw[e0]at R
 have g:w.cell? ⟨b,1+c,none⟩=some (VI (vs.getD c 0)):=by rw[a.cell,<- wF (m:=m) (ss:=ss) (c:=c) ab];simp
 have f0:w.frozen? ⟨b,1+c,none⟩=false:=a.frozen _
 have h:(c:Int)<4:=ab
 have d0:decide (u<0)=false:=by simpa using d
 have d1:decide ((1099511627776:Int)<u)=false:=by simpa using f
 have HB:=Hd a
 generalize hx:vs.getD c 0=x at g
 clear a
 go_enter Tryz.func99,Tryz.ntmps99
 go_wp2_with (go_at_call 120;refine R.mono ?_;rintro e w' ⟨rfl,rfl⟩)
 go_region
 all_goals go_wp2
 all_goals go_ret
 all_goals
  refine⟨rfl,((eJ.refl (fun k=>k=b) w).drew).setCell (p:=⟨b,1+c,none⟩) (.inr rfl) _,?_⟩;rw[<- zx _ ab]
  first
   |(rw[show max x u=x from by omega];exact HB.o.drew.fQ (1+c) (.int .i64 x))
   |(rw[show max x u=u from by omega];exact HB.o.drew.fQ (1+c) (.int .i64 u))
end gE
namespace gE
open Go.RowKit Go.WideMaps gO
theorem laidOut:laidOutB Tryz.prog=true:=af
theorem Gw:(match Tryz.prog.underlying 189 with|some (.array _ _)|some (.struct _)=>true|_=>false)=true:=by rw[Tryz.underlying189]
theorem Gx:(189:TypeId)<Tryz.prog.types.size:=of_decide_eq_true af
theorem Gy:Tryz.prog.keyTypeAt 2 189=true:=af
theorem Gz:KeyLaw Tryz.prog 189:=deep_law_laid laidOut (m:=2) ab Gx Gy Gw
theorem GA:Maps.Keyed Tryz.prog 189:=Maps.Keyed.of_law Gz
theorem zH:∃m,Tryz.prog.types.size=m+1:=⟨331-1,af⟩
theorem GB (w:World):(zeroValue 3).run Tryz.prog w=.ok (.int .i64 0) w:=af
theorem GC {c o:Int} (hc:je c) (b:je o):keyOf Tryz.prog 189 (.agg #[.int .i64 c,.int .i64 o])=some (tW (c,o)):=by
 have a:Tryz.prog.keyType 189=true:=af;have d:Tryz.prog.cellsOf 189=2:=af;have e:Tryz.prog.cellsOf 3=1:=af;unfold je at hc b;obtain⟨m,hm⟩:=zH;unfold keyOf;simp only[Tryz.underlying189];rw[if_pos (by simp[a,Value.formed,Tryz.underlying189,d]),hm];unfold Program.keyLits;simp only[Tryz.underlying189,Value.cells];rw[if_pos (by rw[d];exact⟨rfl,ae⟩)];simp[e,Program.keyLits,Tryz.underlying3,hc,b,tW]
theorem zI {m:Nat} {x:Value} {ls:List Lit} (h:Tryz.prog.keyLits (m+1) 3 [x]=some ls):∃c,x=.int .i64 c/\je c/\ls=[.int .i64 c]:=by
 unfold Program.keyLits at h;simp only[Tryz.underlying3]at h;cases x<;>simp at h;obtain⟨⟨rfl,hw⟩,rfl⟩:=h;exact⟨_,rfl,hw,rfl⟩
theorem GD {P:Program} {K:TypeId} {a:Array Field} (hu:P.underlying K=some (.struct a)) {v:Value} (h:v.formed P K=true):∃cs,v=.agg cs/\cs.size=P.cellsOf K:=by
 cases v<;>simp[Value.formed,hu]at h;exact⟨_,rfl,h⟩
theorem pM (v:Value) (l:Lit) (h:keyOf Tryz.prog 189 v=some l):∃k,v=sG k/\l=tW k/\zF k:=by
 have f:Tryz.prog.keyType 189=true:=af;have d:Tryz.prog.cellsOf 189=2:=af;have g:Tryz.prog.cellsOf 3=1:=af;obtain⟨m,hm⟩:=zH;unfold keyOf at h;simp only[Tryz.underlying189]at h;split at h
 ·rename_i e;obtain⟨cs,rfl,hs⟩:=GD Tryz.underlying189 ((aF _ _).mp e).2;rw[d]at hs;obtain⟨ls⟩:=cs;(have i:ls.length=2:=by simpa using hs);clear hs e
  have j:∃a b,ls=[a,b]:=by
   clear h
   match ls,i with
   | [a,b],_=>exact⟨a,b,rfl⟩
  obtain⟨a,b,rfl⟩:=j;rw[hm]at h;unfold Program.keyLits at h;simp only[Tryz.underlying189,Value.cells]at h;rw[if_pos (by rw[d];exact⟨rfl,ae⟩)]at h;simp[g]at h
  cases hA:Tryz.prog.keyLits (m+1) 3 [a]with
  |none=>rw[hA]at h;cases h
  |some p =>
   cases hB:Tryz.prog.keyLits (m+1) 3 [b]with
   |none=>rw[hA,hB]at h;cases h
   |some q =>
    obtain⟨c,rfl,hc,rfl⟩:=zI hA;obtain⟨o,rfl,n,rfl⟩:=zI hB;rw[hA,hB]at h;exact⟨(c,o),rfl,(aA h).symm,hc,n⟩
 cases h
noncomputable def gT:lJ Tryz.prog (Int×Int) Int:=
 zG 189 3 147 Tryz.underlying3 GB Tryz.underlying147 GA sG tW zF (fun _ h=>GC h.1 h.2) pM Gv
end gE
namespace gE
open Go.RowKit Go.WideMaps heap own eY gO
abbrev mb:=List ((Int×Int)×Int)
structure lV (w:World) (b m:Nat) (l:mb) (vs ss:List Int):Prop where
 t_:Has w b (.cells (kD (.map (some m)) vs ss).toArray 150)
 m_:At gT w m l
 ne:m≠b
 hv:vs.length=4
 hs:ss.length=4
variable {w:World} {b m:Nat} {l:mb} {vs ss:List Int}
theorem lV.cell0 (h:lV w b m l vs ss):w.cell? ⟨b,0,none⟩=some (.map (some m)):=by
 rw[h.t_.cell];simp[kD]
theorem lV.grown {w':World} {l':mb} (h:lV w b m l vs ss) (a:w.grownBy w' (some m)) (hm:At gT w' m l'):lV w' b m l' vs ss:=
 ⟨h.t_.grown a (fun e=>h.ne (aA e).symm),hm,h.ne,h.hv,h.hs⟩
theorem GF (b m:Nat) (l:mb) (vs ss:List Int) (c o:Int) (w:World) (h:lV w b m l vs ss) (hc:je c) (d:je o) :
 Calls Tryz.prog 100 #[VP b 0,VI c,VI o] w fun e w'=>e=.returned (.tuple #[])/\lV w' b m (del (c,o) l) vs ss/\w.grownBy w' (some m):=by
 have g:=h.cell0
 have H:=Hd h
 clear h
 go_enter Tryz.func100,Tryz.ntmps100
 go_wp2_with (at_delete;refine Gs gT rfl (.tmp 9) (.tmp 12) rfl rfl H.o.m_ (k:=(c,o)) ⟨hc,d⟩ rfl ?_;intro i f a)
 go_end0
 exact⟨rfl,H.o.grown a f,a⟩
end gE
namespace gE
open Go.RowKit heap own eY gO
theorem GG (p:Value) (c o u:Int) (w:World) (h:¬((gE.fX c&&gE.fN o)=true/\0<=u/\u<=1099511627776)) :
 Calls Tryz.prog 93 #[p,VI c,VI o,VI u] w fun e w'=>e=.returned (.iface 70 (VI 2))/\w=w':=by
 have R:=lH c o w
 cases hc:(gE.fX c&&gE.fN o)with
 |false =>
  rw[hc]at R;(go_enter Tryz.func93,Tryz.ntmps93);exact aaQ
 |true =>
  rw[hc]at R h;by_cases a:u<0
  ·have d0:=decide_eq_true a;(go_enter Tryz.func93,Tryz.ntmps93);exact aaQ
  have d0:=decide_eq_false a
  have b:(1099511627776:Int)<u:=by
   have:¬(0<=u/\u<=1099511627776):=fun hh=>h ⟨rfl,hh⟩;omega
  have d1:=decide_eq_true b;(go_enter Tryz.func93,Tryz.ntmps93);exact aaQ
theorem GJ {w a:World} {o:Obj} {row:Option Nat} (h:(w.alloc o).drew.grownBy a row):w.grownBy a row:=
 ⟨h.os,h.tape,h.output,aB ae h.size,fun k b c=>(h.block k ah c).trans (Below.heap_alloc _ _ _ b)⟩
theorem GK (b m:Nat) (l:mb) (vs ss:List Int) (c o u x y:Int) (w:World) (p:Hy ((if u>x then u else x)=y)) (q:Hy ((fw (c,o) l).getD 0=x)) (h:lV w b m l vs ss) (C:l.length<1000) (r:(gE.fX c&&gE.fN o)=true) (s:0<=u) (t:u<=1099511627776) (hc:je c) (j:je o) (hu:je y) :
 Calls Tryz.prog 93 #[VP b 0,VI c,VI o,VI u] w fun e w'=>e=.returned .nilIface/\lV w' b m (put (c,o) y l) vs ss/\w.grownBy w' (some m):=by
 have R:=lH c o w;rw[r]at R;(have d0:decide (u<0)=false:=by simpa using s);(have d1:decide ((1099511627776:Int)<u)=false:=by simpa using t);have H:=Hd h;have v:=h.t_.lt;obtain⟨V,hV⟩:=nm (w.alloc (.cells #[VI c,VI o] 189))
 have a:Hy (CC V b 0 (.map (some m))/\CI V w.heap.size 0 c/\CI V w.heap.size 1 o/\At gT V m l):=by
  rw[hV];exact⟨(World.cell?_alloc_lt _ _ _ v).trans h.cell0,(Has.new w _).cell 0,(Has.new w _).cell 1,h.m_.below ((Below.refl _ _).alloc (ax _) _)⟩
 have z:=Hd hV;clear h;(go_enter Tryz.func93,Tryz.ntmps93);(go_wp2_with (go_at_call 120;refine R.mono ?_;rintro e w' ⟨rfl,rfl⟩));rw[<- hV];refine last.q9 (S:=fun W=>CC W b 0 (.map (some m))/\CI W w.heap.size 0 c/\CI W w.heap.size 1 o/\At gT W m l) (L:=13) af ?_;refine last.lu 0 26 (VP b 0) rfl rfl af af af af (fun _ _ _ h=>h) a.o ai (fun W hW=>by obtain⟨d,f,g,-⟩:=hW;go_simp) ?_;simp only[aP,bf,bn];refine last.lu 1 27 (VP b 0) rfl rfl af af af af (fun _ _ _ h=>h) a.o ai (fun W hW=>by obtain⟨d,f,g,-⟩:=hW;go_simp) ?_;simp only[aP,bf,bn];refine last.lu 2 28 (VP b 0) rfl rfl af af af af (fun _ _ _ h=>h) a.o ai (fun W hW=>by obtain⟨d,f,g,-⟩:=hW;go_simp) ?_;simp only[aP,bf,bn];refine last.lu 3 29 (.map (some m)) rfl rfl af af af af (fun _ _ _ h=>h) a.o ai (fun W hW=>by obtain⟨d,f,g,-⟩:=hW;go_simp) ?_;simp only[aP,bf,bn];refine last.lu 4 30 (.agg #[VI c,VI o]) rfl rfl af af af af (fun _ _ _ h=>h) a.o ai (fun W hW=>by obtain⟨d,f,g,-⟩:=hW;go_simp) ?_;simp only[aP,bf,bn];refine last.lu 5 31 (VP b 0) rfl rfl af af af af (fun _ _ _ h=>h) a.o ai (fun W hW=>by obtain⟨d,f,g,-⟩:=hW;go_simp) ?_;simp only[aP,bf,bn];refine last.lu 6 32 (VP b 0) rfl rfl af af af af (fun _ _ _ h=>h) a.o ai (fun W hW=>by obtain⟨d,f,g,-⟩:=hW;go_simp) ?_;simp only[aP,bf,bn];refine last.lu 7 33 (VP b 0) rfl rfl af af af af (fun _ _ _ h=>h) a.o ai (fun W hW=>by obtain⟨d,f,g,-⟩:=hW;go_simp) ?_;simp only[aP,bf,bn];refine last.lu 8 34 (.map (some m)) rfl rfl af af af af (fun _ _ _ h=>h) a.o ai (fun W hW=>by obtain⟨d,f,g,-⟩:=hW;go_simp) ?_;simp only[aP,bf,bn];refine last.lu 9 35 (.agg #[VI c,VI o]) rfl rfl af af af af (fun _ _ _ h=>h) a.o ai (fun W hW=>by obtain⟨d,f,g,-⟩:=hW;go_simp) ?_;simp only[aP,bf,bn];refine last.lu 10 36 (VI x) rfl rfl af af af af (fun _ _ _ h=>h) a.o ai (fun W hW=>by obtain⟨d,f,g,A⟩:=hW;rw[<- q.o];exact sF gT (.tmp 34) (.tmp 35) rfl (by go_simp) A (k:=(c,o)) ⟨hc,j⟩ (by go_simp;rfl)) ?_;simp only[aP,bf,bn];refine last.lu 11 37 (VI u) rfl rfl af af af af (fun _ _ _ h=>h) a.o ai (fun W hW=>by obtain⟨d,f,g,-⟩:=hW;go_simp) ?_;simp only[aP,bf,bn];refine last.lu 12 38 (VI y) rfl rfl af af af af (fun _ _ _ h=>h) a.o ai (fun W hW=>by obtain⟨d,f,g,-⟩:=hW;go_simp;exact p.o) ?_;simp only[aP,bf,bn];refine last.ky (i:=13) af rfl fun K hK=>?_;refine (if_pos ai).mpr ?_;refine sE gT (.tmp 29) (.tmp 30) (.tmp 38) rfl rfl a.o.2.2.2 ak (k:=(c,o)) ⟨hc,j⟩ hu rfl rfl ?_;intro D B n;refine hK.out _ _ (fun h=>absurd rfl h) ?_;refine last.done ?_;go_wp2;go_ret;obtain rfl:=z.o;have hb:lV (w.alloc (.cells #[VI c,VI o] 189)).drew b m l vs ss:=⟨(H.o.t_.alloc _).drew,H.o.m_.below (((Below.refl _ _).alloc (ax _) _).drew),H.o.ne,H.o.hv,H.o.hs⟩;exact⟨rfl,hb.grown n B,GJ n⟩
theorem GN (b m:Nat) (l:mb) (vs ss:List Int) (c o u:Int) (w:World) (h:lV w b m l vs ss) (a:l.length<1000) (d:(gE.fX c&&gE.fN o)=true) (f:0<=u) (g:u<=1099511627776) (hc:je c) (i:je o) (hu:je (max ((fw (c,o) l).getD 0) u)) :
 Calls Tryz.prog 93 #[VP b 0,VI c,VI o,VI u] w fun e w'=>e=.returned .nilIface/\lV w' b m (put (c,o) (max ((fw (c,o) l).getD 0) u) l) vs ss/\w.grownBy w' (some m):=
 GK b m l vs ss c o u _ _ w (Hd (by split<;>omega)) (Hd rfl) h a d f g hc i hu
theorem GP (p:Value) (c:Int) (w:World) (h:gE.fX c=false) :
 Calls Tryz.prog 105 #[p,.int .i64 c] w fun e w'=>e=.returned (.iface 70 (.int .i64 2))/\w=w':=by
 have R:=lH c 0 w;rw[h,ey]at R;(go_enter Tryz.func105,Tryz.ntmps105);(go_wp2_with (go_at_call 120;refine R.mono ?_;rintro e w' ⟨rfl,rfl⟩));go_ret;exact⟨rfl,rfl⟩
noncomputable def og (c:Nat) (left:Lit->Bool) (l:mb):mb:=l.filter fun e=>!decide (e.1.1=(c:Int))||left (gT.kl e.1)
variable {c:Nat} {left:Lit->Bool} {l:mb}
theorem GQ (h:∀p∈l,left (gT.kl p.1)=true):og c left l=l:=
 List.filter_eq_self.2 fun p hp=>by simp[h p hp]
theorem GR (h:∀kl,left kl=false):og c left l=l.filter (fun e=>!decide (e.1.1=(c:Int))):=by
 unfold og;congr 1;funext e;simp[h]
variable {k:Int×Int}
theorem GS (b:∀p∈l,gT.jb p.1) (d:gT.jb k) (hc:k.1≠(c:Int)):og c (fun z=>left z&&!z.sameKey (gT.kl k)) l=og c left l:=by
 unfold og;refine List.filter_congr fun p hp=>?_;by_cases a:p.1.1=(c:Int)
 ·have:p.1≠k:=fun e=>hc (e▸a);have hs:(gT.kl p.1).sameKey (gT.kl k)=false:=Maps.sameKey_ne fun e=>this (gT.pL (b p hp) d e);simp[a,hs]
 simp[a]
theorem GU (d:∀p∈l,gT.jb p.1) (b:gT.jb k) (hc:k.1=(c:Int)):og c (fun z=>left z&&!z.sameKey (gT.kl k)) l=del k (og c left l):=by
 unfold og;rw[tU,List.filter_filter];refine List.filter_congr fun p hp=>?_;by_cases a:p.1=k
 ·(have hs:(gT.kl p.1).sameKey (gT.kl k)=true:=by rw[a];exact WideAt.sameKey_self (gT.isKey b));rw[a]at hs⊢;simp[hc,hs]
 have hs:(gT.kl p.1).sameKey (gT.kl k)=false:=Maps.sameKey_ne fun e=>a (gT.pL (d p hp) b e);simp[a,hs]
theorem GV {m:Value} {vs ss:List Int} (x:Int) (hv:vs.length=4):(kD m vs ss).toArray.setIfInBounds (5+c) (.int .i64 x)=(kD m vs (ss.set c x)).toArray:=by
 rw[show 5+c=(4+c)+1 from by omega];simp only[kD,aP,bf];rw[bE _ _ ah,aX,hv,cW,List.map_set]
theorem GW (b m:Nat) (l:mb) (vs ss:List Int) (c:Nat) (w:World) (h:lV w b m l vs ss) (hc:c<4) :
 Calls Tryz.prog 105 #[.pointer (some ⟨b,0,none⟩),.int .i64 c] w fun e w'=>e=.returned .nilIface /\
  lV w' b m (l.filter (fun e=>!decide (e.1.1=(c:Int)))) (vs.set c 0) (ss.set c (wrap64 (ss.getD c 0+1)))/\eJ (fun k=>k=b\/k=m) w w':=by
 have R:=lH c 0 w;(have e0:(fX c&&fN 0)=true:=by simp[fX,fN];omega);rw[e0]at R;have k0:=h.cell0;have P:∀p∈l,gT.jb p.1:=fun p hp=>(h.m_.ok p hp).1;have Q:=Hd P;have Sz:=h.t_.lt;have UD:=h.m_.lt;have n:=Hd h.ne;have q:=Hd h.hv;have r:=Hd h.hs;have H:=Hd h;clear h P;go_enter Tryz.func105,Tryz.ntmps105
 go_wp2_with (first
  |(go_at_call 120;refine R.mono ?_;rintro e w' ⟨rfl,rfl⟩)
  |(at_range;refine zD gT rfl (.tmp 13) rfl rfl H.o.m_ ?_;intro w0 Yt T U F R6))
 go_frame
 go_loopw [5] (fun _ wr=>∃(left:Lit->Bool) (V:Nat),Over gT wr m w.heap.size l.length (og c left l) left V/\Has wr b (.cells (kD (.map (some m)) vs ss).toArray 150)/\eJ (fun k=>k=b\/k=m) w wr/\w.heap.size<wr.heap.size)
  (fun _ wr=>wr.rangeLeft m w.heap.size)
 case atStart=>exact⟨Yt,_,by rw[GQ U];exact T,H.o.t_.grown F ae,(eJ.refl _ _).grown F ae,ab⟩
 case round =>
  clear T U F R6 k0;obtain⟨left,V,B,X,ht,hz⟩:=hrel;have HB:=Hd X;have Y:=Hd B;clear X;go_wp2_with (at_next;refine zE gT rfl (.tmp 14) rfl rfl B ?_ ?_)
  ·intro _ Z
   have k1:wr.cell? ⟨b,1+c,none⟩=some (.int .i64 (vs.getD c 0)):=by rw[HB.o.cell,<- wF (m:=.map (some m)) (ss:=ss) (c:=c) (by rw[q.o];omega)];simp
   have f1:wr.frozen? ⟨b,1+c,none⟩=false:=HB.o.frozen _
   have k2:wr.cell? ⟨b,5+c,none⟩=some (.int .i64 (ss.getD c 0)):=by rw[HB.o.cell,<- zw (m:=.map (some m)) (vs:=vs) (c:=c) q.o (by rw[r.o];omega)];simp
   have f2:wr.frozen? ⟨b,5+c,none⟩=false:=HB.o.frozen _
   have TE:(c:Int)<4:=ab
   obtain⟨y,hy⟩:=nm (ss.getD c 0)
   rw[<- hy]at k2
   have HY:=Hd hy
   have HL:=Hd Z
   clear hy Z
   go_wp2
   go_region
   all_goals
    go_wp2;go_ret;refine⟨rfl,⟨?_,?_,n.o,by simp[q.o],by simp[r.o]⟩,?_⟩
    ·rw[<- GV _ (by simp[q.o]),<- zx _ (by rw[q.o];omega),<- HY.o];exact ((HB.o.fQ (1+c) _).fQ (5+c) _).drew
    ·rw[<- GR HL.o];exact (((B.at_).jv (p:=⟨b,1+c,none⟩) n.o _).jv (p:=⟨b,5+c,none⟩) n.o _).drew
    exact ((ht.setCell (p:=⟨b,1+c,none⟩) (.inr (.inl rfl)) _).setCell (p:=⟨b,5+c,none⟩) (.inr (.inl rfl)) _).drew
  intro c' o' u a Yw f hu s TZ Yx Pw G Qt Xg;have e1:gT.kv (c',o')=.agg #[.int .i64 c',.int .i64 o']:=rfl;have e2:gT.ev u=.int .i64 u:=rfl;rw[e1,e2]at Xg⊢;clear e1 e2;have HE:=Hd s;have aa:=Hd TZ;have WM:=Hd Pw;have I:=Hd Yx;have J:=HB.o.grown G ah;(have k1:a.cell? ⟨b,0,none⟩=some (.map (some m)):=by rw[J.cell];simp[kD]);have PQ:=Hd J;have Qd:=Hd (ht.grown G (fun k f=>by cases f;exact .inl (ax _)));have PU:w.heap.size<a.heap.size:=ab;have X2:=Hd Qt;have M:b<a.heap.size:=ab;clear s TZ Pw Yx J G Qt B ht;by_cases g:c'=(c:Int)
  ·(have hd:((c':Int)==(c:Int))=true:=by simpa using g);have HC:=Hd g;clear g;go_wp2
   have d:Hy ((a.alloc (.cells #[.int .i64 c',.int .i64 o'] 189)).drew.cell? ⟨b,0,none⟩=some (.map (some m))/\(a.alloc (.cells #[.int .i64 c',.int .i64 o'] 189)).drew.cell? ⟨a.heap.size,0,none⟩=some (.int .i64 c')/\(a.alloc (.cells #[.int .i64 c',.int .i64 o'] 189)).drew.cell? ⟨a.heap.size,1,none⟩=some (.int .i64 o')):=
    ⟨(World.cell?_alloc_lt _ _ _ M).trans k1,(Has.new a _).cell 0,(Has.new a _).cell 1⟩
   refine last.q9 (S:=fun W=>CC W b 0 (.map (some m))/\CI W a.heap.size 0 c'/\CI W a.heap.size 1 o') (L:=6) af ?_;refine last.lu 0 23 (.pointer (some ⟨b,0,none⟩)) rfl rfl af af af af (fun _ _ _ h=>h) d.o ai (fun W hW=>by obtain⟨C,D,E⟩:=hW;go_simp) ?_;simp only[aP,bf,bn];refine last.lu 1 24 (.pointer (some ⟨b,0,none⟩)) rfl rfl af af af af (fun _ _ _ h=>h) d.o ai (fun W hW=>by obtain⟨C,D,E⟩:=hW;go_simp) ?_;simp only[aP,bf,bn];refine last.lu 2 25 (.pointer (some ⟨b,0,none⟩)) rfl rfl af af af af (fun _ _ _ h=>h) d.o ai (fun W hW=>by obtain⟨C,D,E⟩:=hW;go_simp) ?_;simp only[aP,bf,bn];refine last.lu 3 26 (.map (some m)) rfl rfl af af af af (fun _ _ _ h=>h) d.o ai (fun W hW=>by obtain⟨C,D,E⟩:=hW;go_simp) ?_;simp only[aP,bf,bn];refine last.lu 4 27 (.agg #[.int .i64 c',.int .i64 o']) rfl rfl af af af af (fun _ _ _ h=>h) d.o ai (fun W hW=>by obtain⟨C,D,E⟩:=hW;go_simp) ?_;simp only[aP,bf,bn];refine last.ky (i:=5) af (by simp only[aJ,aO,aM];exact rfl) fun K hK=>?_;refine (if_pos ai).mpr ?_;refine Gu gT (.tmp 26) (.tmp 27) rfl rfl (I.o.alloc _).drew (k:=(c',o')) f rfl ?_;intro t N O v j Qi;simp only[Act.put]
   have RR:CC t b 0 (.map (some m))/\CI t a.heap.size 0 c'/\CI t a.heap.size 1 o':=
    ⟨(World.cell?_of_block (j.block b ah (fun e=>n.o (aA e).symm))).trans d.o.1,(World.cell?_of_block (j.block a.heap.size ae (fun e=>by have:=aA e;omega))).trans d.o.2.1,(World.cell?_of_block (j.block a.heap.size ae (fun e=>by have:=aA e;omega))).trans d.o.2.2⟩
   refine hK.out _ _ (fun _=>RR) ?_;clear RR;refine last.done ?_;have Qo:=(((Qd.o.alloc (.cells #[.int .i64 c',.int .i64 o'] 189)).drew).grown j (fun k f=>by cases f;exact .inr (.inr rfl)));have Qk:=((PQ.o.alloc (.cells #[.int .i64 c',.int .i64 o'] 189)).drew).grown j (fun e=>n.o (aA e).symm);have Qf:w.heap.size<t.heap.size:=by rw[Qi];simp;omega
   have x:Over gT t m w.heap.size l.length (og c (fun z=>left z&&!z.sameKey (gT.kl (c',o'))) l) (fun z=>left z&&!z.sameKey (gT.kl (c',o'))) N:=by
    rw[GU Q.o f HC.o];rw[Maps.strike_twice]at O;exact O
   have A:=Hd x;have U4:=Hd (And.intro Qo Qk);have Zy:=Hd v;clear O x Qo Qk j v Qi;go_wp2;go_roundw;(case rel=>exact⟨_,_,A.o,U4.o.2,U4.o.1,Qf⟩);case measure=>rw[A.o.left_eq,Y.o.left_eq];exact Nat.lt_of_le_of_lt Zy.o WM.o
  (have hd:((c':Int)==(c:Int))=false:=by simpa using g);have HC:=Hd g;clear g;go_wp2;go_roundw;(case rel=>exact⟨_,Yw,by rw[GS Q.o f HC.o];exact I.o.alloc _,PQ.o.alloc _,Qd.o.alloc _,ah⟩);case measure=>rw[(I.o.alloc _).left_eq,Y.o.left_eq];exact WM.o
end gE
end Go.Proofs.YtjhdaojclilakaaGreatDoor
