/-
  A part of the proof of the law WorldCalm: LeaseF, Tab.
-/
import Derived.Test.YtjhdaojclilakaaGreatDoorHd
import Derived.Test.YtjhdaojclilakaaGreatDoorP15
import Derived.Test.YtjhdaojclilakaaGreatDoorP19
set_option maxHeartbeats 16000000
set_option maxRecDepth 1000000
namespace Go.Proofs.YtjhdaojclilakaaGreatDoor
section
variable {p q:Prop}
theorem abu (h:p:=by
 clear Qr VY;go_wp2;go_roundw;(case rel=>exact⟨_,Yw,xs,U7.o.alloc _,by rw[HR.o];exact HP.o,WN.o.alloc _,PQ.o.alloc ab _,ah⟩);case measure=>rw[(WN.o.alloc _).left_eq,Xj.o.left_eq];exact WM.o):p:=h
end
namespace gE
open Go.RowKit heap own eY gO zO
def mj (o eB:Int) (e:(Int×Int)×Int):Bool:=decide (e.1.2=o)&&decide (eB<e.2)
noncomputable def met (o eB:Int) (left:Lit->Bool) (l:mb):List Int:=(l.filter fun e=>mj o eB e&&!left (gT.kl e.1)).map (·.1.1)
variable {o eB u:Int} {left:Lit->Bool} {l:mb}
theorem GZ (h:∀p∈l,left (gT.kl p.1)=true):met o eB left l=[]:=by
 unfold met;rw[df.2 (fun p hp=>by simp[h p hp])];rfl
theorem G0 (h:∀kl,left kl=false):met o eB left l=(l.filter (mj o eB)).map (·.1.1):=by
 unfold met;congr 2;funext e;simp[h]
variable {k:Int×Int}
theorem G6 (c:(l.map (·.1)).Nodup) (d:∀p∈l,gT.jb p.1) (f:gT.jb k) (hs:fw k l=some u) (hc:mj o eB (k,u)=false):met o eB (fun z=>left z&&!z.sameKey (gT.kl k)) l=met o eB left l:=by
 unfold met;congr 1;refine List.filter_congr fun p hp=>?_;by_cases a:p.1=k
 ·have:p=(k,u):=by
   have b:fw k l=some p.2:=wH _ c (by rw[<- a];exact hp);rw[hs]at b;rw[<- a,aA b]
  rw[this,hc];rfl
 have hs:(gT.kl p.1).sameKey (gT.kl k)=false:=Maps.sameKey_ne fun e=>a (gT.pL (d p hp) f e);simp[hs]
theorem zP {α κ:Type} [DecidableEq κ] (key:α->κ) (f a:α->Bool) (x:α) (g:f x=false) (b:a x=true):∀l:List α,(l.map key).Nodup->x∈l->(∀y∈l,key y≠key x->a y=f y)->(l.filter a).Perm (l.filter f++[x])
 | [],_,h,_=>by cases h
 |y::l,c,h,hy=>by
  rw[aY,cE]at c;by_cases d:key y=key x
  ·have j:y=x:=by
    rcases aH.1 h with e|e
    ·exact e.symm
    exact absurd (d▸aW.2 ⟨x,e,rfl⟩) c.1
   subst j;rw[cC b,cB (by simp[g])];have e1:l.filter a=l.filter f:=List.filter_congr fun z hz=>hy z (aI _ hz) (fun e=>c.1 (e▸aW.2 ⟨z,hz,rfl⟩));rw[e1];exact (List.perm_append_singleton y _).symm
  have k:x∈l:=by
   rcases aH.1 h with e|e
   ·exact absurd (by rw[e]) d
   exact e
  have ih:=zP key f a x g b l c.2 k (fun z hz=>hy z (aI _ hz));have i:=hy y (aK ..) d
  cases hfy:f y with
  |false=>rw[cB (by simp[i,hfy]),cB (by simp[hfy])];exact ih
  |true=>rw[cC (by simp[i,hfy]),cC (by simp[hfy])];exact ih.cons y
theorem G7 (c:(l.map (·.1)).Nodup) (d:∀p∈l,gT.jb p.1) (a:gT.jb k) (hs:fw k l=some u) (f:left (gT.kl k)=true) (hc:mj o eB (k,u)=true):(met o eB (fun z=>left z&&!z.sameKey (gT.kl k)) l).Perm (met o eB left l++[k.1]):=by
 unfold met
 have h:=zP (fun e:(Int×Int)×Int=>e.1) (fun e=>mj o eB e&&!left (gT.kl e.1)) (fun e=>mj o eB e&&!(left (gT.kl e.1)&&!(gT.kl e.1).sameKey (gT.kl k))) (k,u) (by simp[f]) (by simp[hc,WideAt.sameKey_self (gT.isKey a)]) l c (tV _ hs) (fun p hp PB=>by
  have hs:(gT.kl p.1).sameKey (gT.kl k)=false:=Maps.sameKey_ne fun e=>PB (gT.pL (d p hp) a e)
  simp[hs])
 have b:=h.map (fun e:(Int×Int)×Int=>e.1.1);rw[cF]at b;exact b
def ga (l:mb) (o eB:Int):List Int:=([0,1,2,3]:List Int).filter fun c=>match fw (c,o) l with|some u=>decide (eB<u)|none=>false
theorem G9 {xs:List Int} (g:(l.map (·.1)).Nodup) (hv:∀p∈l,0<=p.1.1/\p.1.1<4) (hp:xs.Perm ((l.filter (mj o eB)).map (·.1.1))):sorted xs=ga l o eB:=by
 have j:((l.filter (mj o eB)).map (·.1.1)).Nodup:=by
  refine (List.pairwise_map.2 ?_);have f:(l.filter (mj o eB)).Pairwise (fun a b=>a.1≠b.1):=(List.pairwise_map.1 g).sublist dE;refine f.imp_of_mem fun {a b} k hb m he=>m ?_;have d:=(bL.1 k).2;have i:=(bL.1 hb).2;simp only[mj,aF,decide_eq_true_eq]at d i;exact Prod.ext he (by rw[d.1,i.1])
 have n:(sorted xs).Perm (ga l o eB):=by
  refine ((List.mergeSort_perm xs _).trans hp).trans ?_;refine (List.perm_ext_iff_of_nodup j ?_).2 fun c=>?_
  ·exact (show List.Nodup [(0:Int),1,2,3] from by decide).sublist dE
  constructor
  ·intro h;obtain⟨e,he,rfl⟩:=aW.1 h;obtain⟨f,d⟩:=bL.1 he;simp only[mj,aF,decide_eq_true_eq]at d;have hs:fw (e.1.1,o) l=some e.2:=wH _ g (by rw[<- d.1];exact f);have hb:=hv e f;refine bL.2 ⟨?_,by rw[hs];simpa using d.2⟩;have:e.1.1=0\/e.1.1=1\/e.1.1=2\/e.1.1=3:=ab;simpa using this
  intro h;obtain⟨f,d⟩:=bL.1 h
  cases hs:fw (c,o) l with
  |none=>rw[hs]at d;cases d
  |some u =>
   rw[hs]at d;exact aW.2 ⟨((c,o),u),bL.2 ⟨tV _ hs,by simpa[mj]using d⟩,rfl⟩
 refine List.Perm.eq_of_pairwise (le:=fun a b=>decide (a<=b)=true) (fun a b _ _ f d=>by simp at f d;omega) ?_ ?_ n
 ·exact List.pairwise_mergeSort (fun a b c f d=>by simp at f d⊢;omega) (fun a b=>ah) xs
 exact (show List.Pairwise (fun a b=>decide (a<=b)=true) [(0:Int),1,2,3] from by decide).sublist dE
theorem Ha (o eB:Int) (left:Lit->Bool) (l:mb):(met o eB left l).length<=l.length:=by
 unfold met;rw[aX];exact cR _ _
theorem pN {w b:World} {base r:Nat} {e:TypeId} {size n:Nat} {v:Value} {xs:List Value} (h:w.ownsRow base e size v n xs) (d:w.grownBy b (some r)) (j:r<base):b.ownsRow base e size v n xs:=by
 refine⟨h.1,?_⟩;rcases h.2 with a|⟨g,cap,cur,f,a,c,i⟩
 ·exact .inl a
 exact .inr ⟨g,cap,cur,f,a,(d.block g (Has.lt (w:=w) (g:=g) c) (fun e=>by have:=aA e;omega)).trans c,i⟩
theorem Hb:(Tryz.prog.info? 3).map (fun i=>(i.zero,i.size,i.bytes))=some (some (.int .i64 0),1,8):=af
theorem Hc (b m:Nat) (l:mb) (vs ss:List Int) (o eB:Int) (w:World) (h:lV w b m l vs ss) (hl:l.length<1000) (hv:∀p∈l,0<=p.1.1/\p.1.1<4) :
 Calls Tryz.prog 97 #[.pointer (some ⟨b,0,none⟩),.int .i64 o,.int .i64 eB] w fun e w'=>∃v,e=.returned v/\w'.ownsRow w.heap.size 3 1 v (ga l o eB).length ((ga l o eB).map (Value.int .i64))/\BB w w':=by
 have S:=h.cell0
 have E:=Hd (show ∀p∈l,gT.jb p.1 from fun p hp=>(h.m_.ok p hp).1)
 have c:=Hd h.m_.nodup
 have UD:=h.m_.lt
 have H:=Hd h
 have T:=Hd hv
 obtain⟨i0,U,V,W,X⟩:=info_parts Hb
 clear h hv
 go_enter Tryz.func97,Tryz.ntmps97
 go_wp2_with (at_range;refine zD gT rfl (.tmp 13) rfl rfl H.o.m_ ?_;intro w0 Y F G d Z)
 go_frame
 go_loopw [7] (fun v wr=>∃(left:Lit->Bool) (I:Nat) (xs:List Int),wr.ownsRow (w.heap.size+1) 3 1 v xs.length (xs.map (Value.int .i64))/\xs.Perm (met o eB left l)/\Over gT wr m w.heap.size l.length l left I/\BB w wr/\w.heap.size<wr.heap.size)
  (fun _ wr=>wr.rangeLeft m w.heap.size)
 case atStart=>exact⟨Y,_,[],⟨rfl,.inl ⟨rfl,rfl⟩⟩,by rw[GZ G],F,⟨d.os,d.tape,d.output,d.size,fun i hi=>d.block i hi ae⟩,ab⟩
 case round =>
  clear F G d Z S;obtain⟨left,I,xs,J,t,n,hb,hz⟩:=hrel;(have QW:xs.length<1000:=by have:=Ha o eB left l;rw[<- t.length_eq]at this;omega);have HP:=Hd t;have x:=Hd J;have Xj:=Hd n;have HB:=Hd hb;clear t J hb;go_wp2_with (at_next;refine zE gT rfl (.tmp 14) rfl rfl n ?_ ?_)
  ·intro _ K;have HL:=Hd K;clear K n;(go_wp2_with (go_at_call 123;refine (GY _ _ _ _ x.o ab).mono ?_;rintro e w2 ⟨rfl,q,f⟩));go_ret;have L:sorted xs=ga l o eB:=G9 c.o T.o (by rw[<- G0 HL.o];exact HP.o);rw[L]at q;(have y:xs.length=(ga l o eB).length:=by rw[<- L];exact (wO xs).symm);refine⟨_,rfl,?_,?_⟩
   ·rw[<- y];exact mg q ab
   exact HB.o.grown f ab (fun j a=>by have:=lK x.o j a;omega)
  intro c' o' u r Yw M hu g N O P A Qt Xg;have e1:gT.kv (c',o')=.agg #[.int .i64 c',.int .i64 o']:=rfl;have Q:gT.ev u=.int .i64 u:=rfl;rw[e1,Q]at Xg⊢;clear e1 Q;have WM:=Hd P;have WN:=Hd O;have k:=Hd g;have B:=Hd N;have R:BB w r:=HB.o.grown A ab (fun j a=>by cases a;exact ax _);have PQ:=Hd R;have U7:=Hd (pN x.o A (Nat.lt_succ_self _));have PU:w.heap.size<r.heap.size:=ab;clear g N P O R A Qt n
  cases Qr:mj o eB ((c',o'),u)with
  |false =>
   have HR:Hy ((met o eB (fun z=>left z&&!z.sameKey (gT.kl (c',o'))) l)=met o eB left l):=G6 c.o E.o M k.o Qr;by_cases VY:o'=o
   ·have hd:((o':Int)==o)=true:=by simpa using VY
    have s:decide (eB<u)=false:=by
     simp only[mj,VY,decide_true,Bool.true_and]at Qr;exact Qr
    exact abu
   (have hd:((o':Int)==o)=false:=by simpa using VY);exact abu
  |true =>
   have HR:Hy ((met o eB (fun z=>left z&&!z.sameKey (gT.kl (c',o'))) l).Perm (xs++[c'])):=(G7 c.o E.o M k.o B.o Qr).trans (HP.o.symm.append_right _);(have VY:o'=o/\eB<u:=by simpa[mj]using Qr);(have hd:((o':Int)==o)=true:=by simpa using VY.1);(have s:decide (eB<u)=true:=by simpa using VY.2);clear Qr VY;have C:=Hd ((U7.o.alloc (.cells #[.int .i64 c',.int .i64 o'] 189)).alloc (.cells #[.int .i64 c'] 3));go_wp2_with (at_builtin;refine wpList_append_own _ rfl (.tmp 29) (.tmp 32) 26 rfl (w.heap.size+1) 3 i0 (.int .i64 0) 1 8 Tryz.underlying26 U V W X rfl aj _ _ _ rfl C.o ⟨r.heap.size+1,0,none⟩ 1 1 [.int .i64 c'] rfl rfl ?c1 ao ?c3 ?c4 ?c5 ?_)
   case c1 =>
    intro j u a;have s:=Has.new (r.alloc (.cells #[.int .i64 c',.int .i64 o'] 189)) (.cells #[.int .i64 c'] 3);rw[World.size_alloc]at s
    match j,a with
    |0,a =>
     (obtain rfl:Value.int .i64 c'=u:=by simpa using a);exact s.cell 0
   (case c3=>unfold maxLen;omega);(case c4=>omega);(case c5=>simp;omega);intro u2 w2 q f _;(go_wp2_with fail);go_roundw
   case rel =>
    have D:=((WN.o.alloc (.cells #[.int .i64 c',.int .i64 o'] 189)).alloc (.cells #[.int .i64 c'] 3)).kept f (fun e=>by have:=lK U7.o m e.symm;omega) (fun e=>by have:=lK U7.o _ e.symm;omega);refine⟨_,Yw,xs++[c'],?_,HR.o.symm,D,((PQ.o.alloc ab _).alloc ah _).grown f ah (fun j a=>by have:=lK U7.o j a;omega),?_⟩
    ·rw[aE,aQ,cF];exact q
    have:=f.size;simp at this;omega
   case measure =>
    have D:=((WN.o.alloc (.cells #[.int .i64 c',.int .i64 o'] 189)).alloc (.cells #[.int .i64 c'] 3)).kept f (fun e=>by have:=lK U7.o m e.symm;omega) (fun e=>by have:=lK U7.o _ e.symm;omega);rw[D.left_eq,Xj.o.left_eq];exact WM.o
end gE
namespace iR
open Go.RowKit heap own gC gO gE
open eY (fW fR fw put del)
theorem kG {n a b:Int}:fR n a b=true↔a<=n/\n<=b:=by simp[fR]
theorem nJ {c:Int}:gE.fX c=fR c 0 3:=by
 rw[cr,kG];simp[gE.fX];omega
theorem zQ {c:Int}:gE.fN c=fR c 0 7:=by
 rw[cr,kG];simp[gE.fN];omega
theorem He {x u:Int} (h:je x) (b:0<=u) (c:u<=1099511627776):je (max x u):=by
 by_cases a:x<=u
 ·rw[Int.max_eq_right a];exact WalkArith.wf_i64 ab
 rw[Int.max_eq_left ab];exact h
def zR (l:List ((Int×Int)×Int)):Prop:=∀p∈l,0<=p.1.1/\p.1.1<4/\0<=p.1.2/\p.1.2<8
theorem ud {α:Type} [DecidableEq α]:∀(l L:List α),l.Nodup->(∀x∈l,x∈L)->l.length<=L.length
 | [],_,_,_=>bR _
 |x::l,L,b,hs=>by
  obtain⟨c,d⟩:=cE.1 b;have a:=hs x ae;have:=ud l (L.erase x) d (fun y hy=>(List.mem_erase_of_ne (fun e=>c (by rw[<- e];exact hy))).2 (hs y (by simp[hy])));rw[List.length_erase_of_mem a]at this;have hp:=List.length_pos_of_mem a;rw[aL];omega
def zS:List (Int×Int):=([0,1,2,3]:List Int).flatMap fun c=>([0,1,2,3,4,5,6,7]:List Int).map fun o=>(c,o)
theorem Hf {c o:Int} (h:0<=c/\c<4/\0<=o/\o<8):(c,o)∈zS:=by
 refine di.2 ⟨c,?_,aW.2 ⟨o,?_,rfl⟩⟩
 ·obtain rfl|rfl|rfl|rfl:c=0\/c=1\/c=2\/c=3:=ab
  all_goals simp
 obtain rfl|rfl|rfl|rfl|rfl|rfl|rfl|rfl:o=0\/o=1\/o=2\/o=3\/o=4\/o=5\/o=6\/o=7:=ab
 all_goals simp
theorem Hg {l:List ((Int×Int)×Int)} (a:zR l) (b:(l.map (·.1)).Nodup):l.length<=32:=by
 have:=ud (l.map (·.1)) zS b (fun x hx=>by
  obtain⟨p,hp,rfl⟩:=aW.1 hx
  exact Hf (a p hp))
 rw[aX]at this;exact this
structure jo (w:World) (tb tm:Nat) (t:fW):Prop where
 at_:lV w tb tm t.gZ t.kg t.jz
 ok:zR t.gZ
section
variable {w w':World} {tb tm:Nat} {t:fW} {S:Nat->Prop}
theorem jo.gz (h:jo w tb tm t):t.gZ.length<=32:=Hg h.ok h.at_.m_.nodup
theorem jo.fI (h:jo w tb tm t) (ht:eJ S w w') (a:¬S tb) (b:¬S tm):jo w' tb tm t:=⟨⟨ht.has h.at_.t_ a,h.at_.m_.fI ht b,h.at_.ne,h.at_.hv,h.at_.hs⟩,h.ok⟩
theorem jo.below (h:jo w tb tm t) (hb:BB w w'):jo w' tb tm t:=h.fI (S:=fun _=>False) (eJ.il hb (ax _)) (fun h=>h) (fun h=>h)
theorem jo.drew (h:jo w tb tm t):jo w.drew tb tm t:=h.fI (S:=fun _=>False) (eJ.refl _ _).drew (fun h=>h) (fun h=>h)
theorem jo.lt (h:jo w tb tm t):tb<w.heap.size/\tm<w.heap.size:=⟨h.at_.t_.lt,h.at_.m_.lt⟩
theorem jo.new (w:World):Calls Tryz.prog 58 #[] w fun e w'=>e=.returned (VP (w.heap.size+1) 0)/\jo w' (w.heap.size+1) w.heap.size fW.new/\BB w w'/\w'.heap.size=w.heap.size+2:=by
 have a:=@run_makeMap Tryz.prog;(go_enter Tryz.func58,Tryz.ntmps58);go_wp2;go_ret;have hb:BB w (w.alloc (.map #[] 0)):=(Below.refl _ _).alloc (ax _) _;refine⟨rfl,⟨⟨?_,(At.new gT w).alloc _,ab,rfl,rfl⟩,fun p hp=>by cases hp⟩,hb.alloc ae _,ae⟩;have:=Has.new (w.alloc (.map #[] 0)) (.cells #[.map (some w.heap.size),VI 0,VI 0,VI 0,VI 0,VI 0,VI 0,VI 0,VI 0] 150);rw[World.size_alloc]at this;exact this
theorem Hh (c o u:Int) (h:jo w tb tm t) (hc:je c) (l:je o) :
 Calls Tryz.prog 93 #[VP tb 0,VI c,VI o,VI u] w fun e w'=>e=.returned (iC (t.eF c o u).1)/\jo w' tb tm (t.eF c o u).2/\eJ (fun k=>k=tb\/k=tm) w w':=by
 by_cases a:(eY.fX c&&eY.fN o&&fR u 0 fD.jO)=true
 ·have i:=a;simp only[aF,eY.fX,eY.fN,kG,fD.pJ]at i;obtain⟨⟨b,g⟩,f⟩:=i;(have e:t.eF c o u=(0,{t with gZ:=put (c,o) (max ((fw (c,o) t.gZ).getD 0) u) t.gZ}):=by unfold fW.eF;rw[if_pos a]);rw[e];have m:=h.gz;refine (GN tb tm t.gZ t.kg t.jz c o u w h.at_ ab (by rw[nJ,zQ,aF,kG,kG];exact⟨b,g⟩) f.1 f.2 hc l (He (h.at_.m_.lU (c,o)) f.1 f.2)).mono ?_;rintro e w' ⟨rfl,hT,d⟩;refine⟨rfl,⟨hT,fun p hp=>?_⟩,⟨d.os,d.tape,d.output,d.size,fun k a hn=>d.block k a (fun e=>hn (.inr (by simpa using e)))⟩⟩;rcases aH.1 hp with rfl|hp
  ·exact⟨b.1,Int.lt_of_le_of_lt b.2 aj,g.1,Int.lt_of_le_of_lt g.2 aj⟩
  exact h.ok p ((qt _ _).mem hp)
 (have e:t.eF c o u=(2,t):=by unfold fW.eF;rw[if_neg a]);rw[e];refine (GG _ c o u w ?_).mono ?_
 ·rw[nJ,zQ];intro j;apply a;have b:=j.1;rw[aF]at b;simp only[aF,eY.fX,eY.fN];exact⟨b,kG.2 (by rw[fD.pJ];exact j.2)⟩
 rintro e w' ⟨rfl,rfl⟩;exact⟨rfl,h,eJ.refl _ _⟩
theorem Hi (c u:Int) (h:jo w tb tm t) :
 Calls Tryz.prog 99 #[VP tb 0,VI c,VI u] w fun e w'=>e=.returned (iC (t.fa c u).1)/\jo w' tb tm (t.fa c u).2/\eJ (fun k=>k=tb\/k=tm) w w':=by
 by_cases a:(eY.fX c&&fR u 0 fD.jO)=true
 ·have b:=a;simp only[aF,eY.fX,kG,fD.pJ]at b;obtain⟨j,d⟩:=b;(have e:t.fa c u=(0,{t with kg:=t.kg.set c.toNat (max (t.kg.getD c.toNat 0) u)}):=by unfold fW.fa;rw[if_pos a]);rw[e];obtain⟨n,rfl⟩:∃n:Nat,c=n:=⟨c.toNat,ab⟩;refine (Gi tb _ t.kg t.jz n u w h.at_.t_ h.at_.hv ab d.1 d.2).mono ?_;rintro e w' ⟨rfl,f,i⟩;exact⟨rfl,⟨⟨i,h.at_.m_.fI f h.at_.ne,h.at_.ne,by simp[h.at_.hv],h.at_.hs⟩,h.ok⟩,f.mono fun k _ a=>.inl a⟩
 (have e:t.fa c u=(2,t):=by unfold fW.fa;rw[if_neg a]);rw[e];refine (Gh _ c u w ?_).mono ?_
 ·rw[nJ];intro g;apply a;simp only[aF,eY.fX];exact⟨g.1,kG.2 (by rw[fD.pJ];exact g.2)⟩
 rintro e w' ⟨rfl,rfl⟩;exact⟨rfl,h,eJ.refl _ _⟩
theorem Hj (c:Int) (h:jo w tb tm t) :
 Calls Tryz.prog 105 #[VP tb 0,VI c] w fun e w'=>e=.returned (iC (t.flush c).1)/\jo w' tb tm (t.flush c).2/\eJ (fun k=>k=tb\/k=tm) w w':=by
 by_cases a:eY.fX c=true
 ·have b:=kG.1 a;obtain⟨n,rfl⟩:∃n:Nat,c=n:=⟨c.toNat,ab⟩;(have e:t.flush n=(0,{gZ:=t.gZ.filter (fun e=>!decide (e.1.1=(n:Int))),kg:=t.kg.set n 0,jz:=t.jz.set n (wrap64 (t.jz.getD n 0+1))}):=by unfold fW.flush;rw[if_pos a];rfl);rw[e];refine (GW tb tm t.gZ t.kg t.jz n w h.at_ ab).mono ?_;rintro e w' ⟨rfl,hT,ht⟩;exact⟨rfl,⟨hT,fun p hp=>h.ok p (bL.1 hp).1⟩,ht⟩
 (have e:t.flush c=(2,t):=by unfold fW.flush;rw[if_neg a]);rw[e];refine (GP _ c w (by rw[nJ];simpa[eY.fX]using a)).mono ?_;rintro e w' ⟨rfl,rfl⟩;exact⟨rfl,h,eJ.refl _ _⟩
theorem Hk (c eB:Int) (h:jo w tb tm t) :
 Calls Tryz.prog 103 #[VP tb 0,VI c,VI eB] w fun e w'=>e=.returned (.bool (t.jT c eB))/\w=w':=by
 unfold fW.jT;by_cases a:eY.fX c=true
 ·have b:=kG.1 a;obtain⟨n,rfl⟩:∃n:Nat,c=n:=⟨c.toNat,ab⟩;rw[a,Bool.true_and];exact Ge tb _ t.kg t.jz n eB w h.at_.t_ h.at_.hv ab
 rw[dj]at a;rw[a,ey];exact Gd _ c eB w (by rw[nJ];exact a)
theorem zT (c:Int) (h:jo w tb tm t) :
 Calls Tryz.prog 119 #[VP tb 0,VI c] w fun e w'=>e=.returned (.tuple #[VI (t.fx c),iC (if eY.fX c then 0 else 2)])/\w=w':=by
 unfold fW.fx;by_cases a:eY.fX c=true
 ·have b:=kG.1 a;obtain⟨n,rfl⟩:∃n:Nat,c=n:=⟨c.toNat,ab⟩;rw[if_pos a,if_pos a];exact Gg tb _ t.kg t.jz n w h.at_.t_ h.at_.hv h.at_.hs ab
 rw[if_neg a,if_neg a];rw[dj]at a;exact Gf _ c w (by rw[nJ];exact a)
theorem Hl (c:Int) (h:jo w tb tm t) :
 Calls Tryz.prog 119 #[VP tb 0,VI c] w fun e w'=>∃ev,e=.returned (.tuple #[VI (t.fx c),ev])/\ev=iC (if eY.fX c then 0 else 2)/\w=w':=
 (zT c h).mono fun _ _ ⟨a,b⟩=>⟨_,a,rfl,b⟩
theorem Hm (c o:Int) (h:jo w tb tm t) (hc:je c) (b:je o) :
 Calls Tryz.prog 100 #[VP tb 0,VI c,VI o] w fun e w'=>e=.returned (.tuple #[])/\jo w' tb tm (t.drop c o)/\eJ (fun k=>k=tb\/k=tm) w w':=by
 refine (GF tb tm t.gZ t.kg t.jz c o w h.at_ hc b).mono ?_;rintro e w' ⟨rfl,hT,a⟩;exact⟨rfl,⟨hT,fun p hp=>h.ok p ((qt _ _).mem hp)⟩,⟨a.os,a.tape,a.output,a.size,fun k hk hn=>a.block k hk (fun e=>hn (.inr (by simpa using e)))⟩⟩
theorem zU (o eB:Int) (h:jo w tb tm t) :
 Calls Tryz.prog 97 #[VP tb 0,VI o,VI eB] w fun e w'=>∃v,e=.returned v/\w'.ownsRow w.heap.size 3 1 v (t.ga o eB).length ((t.ga o eB).map (Value.int .i64))/\BB w w':=by
 have a:=h.gz;exact Hc tb tm t.gZ t.kg t.jz o eB w h.at_ ab (fun p hp=>⟨(h.ok p hp).1,(h.ok p hp).2.1⟩)
end
end iR
end Go.Proofs.YtjhdaojclilakaaGreatDoor
