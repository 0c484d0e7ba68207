/-
  A part of the proof of the law WorldCalm: CalmO, CalmP, CalmX, CalmY, CalmZ, CalnA, CalnB, CalmQ.
-/
import Derived.Test.YtjhdaojclilakaaGreatDoorHd
import Derived.Test.YtjhdaojclilakaaGreatDoorP02
set_option maxHeartbeats 16000000
set_option maxRecDepth 1000000
namespace Go.Proofs.YtjhdaojclilakaaGreatDoor
section
variable {p q:Prop}
theorem abw (h:p:=by
 unfold eC.jQ;split
 ·exact h
 split
 ·rename_i g hg;refine h.kt fun x hx=>?_;rw[nD]at hx;split at hx
  ·exact hx
  rcases aN.1 hx with hx|hx
  ·exact hx
  rw[aD.1 hx];exact aT hg
 exact h):p:=h
theorem aaU (h:p:=by
 rw[c4];show [0,0,0,0].getD c.toNat 0=0;rw[aC];rcases hq:([0,0,0,0]:List Int)[c.toNat]? with _|v
 ·rfl
 have:=aT hq;simp at this;simp[this]):p:=h
end
namespace fS
open Go.RowKit fD eY fK
variable {w:eC}
theorem Eo (b:NB w) (a:PS w) {n:Net} {p q:Nat} (c:n.l.length<=200) (d:iU mw n.l<=iU mw w.eH.l+q)
 (hp:Pi {w with eH:=n}<=Pi w+p):iO w {w with eH:=n} p q:=by
 refine⟨⟨c,b.sb⟩,⟨a.sq,a.up⟩,hp,?_⟩;have e:iq {w with eH:=n}=iq w:=rfl;unfold Wn;rw[e];show iU mw n.l+_<=_;omega
theorem NT (a:NB w) (b:PS w) (k:Int):iO w (w.jP k).2 0 0:=by
 unfold eC.jP;split
 ·exact iO.refl a b
 rename_i c;simp only[aV,bu,aF,decide_eq_true_eq]at c;have d:k.toNat<w.eH.l.length:=ab;obtain⟨f,g,e,le⟩:=yB (ay d);refine Eo a b (aB (List.length_eraseIdx_le _ _) a.n200) ?_ ?_
 ·simp only[dU];rw[le,e,oV,oV,tw];omega
 refine aB (qg (w:=w) (fun j _=>qh (Nu _ _ _)) (ax _)) (dt _ _)
theorem NU (a:NB w) (b:PS w) (k:Int):iO w (w.jQ k).2 2 17:=by
 unfold eC.jQ;split
 ·exact (iO.refl a b).more ab ab
 split
 ·rename_i g f;have d:=a.n200;refine Eo a b ?_ ?_ ?_
  ·rw[nD];split
   ·exact d
   simp;omega
  ·rw[nD];split
   ·omega
   rw[oV];have:=Np g.eU;simp[iU]at this⊢;omega
  by_cases c:g.eU.eO=2/\0<=g.eU.eI/\g.eU.eI<=3
  ·have:=yE (w:=w) (w':={w with eH:=w.eH.send g}) (k:=g.eU.eI.toNat) (n:=2) (t:=0) ab (fun j _ hj=>?_) ?_ (ax _)
   ·omega
   ·refine qh (.inl ?_);show fO (w.eH.send g).l j=_;rw[nD];split
    ·rfl
    rw[nF,mH,if_neg (fun e=>hj ab)];simp[fO]
   unfold gn;show gl _ (fO (w.eH.send g).l _) _ _<=_;rw[nD];split
   ·exact dt _ _
   rw[nF,mH];split
   ·exact vH
   simp only[fO,List.filter_nil,bD,bG];exact dt _ _
  refine aB (qg (w:=w) (fun j hj=>qh (.inl ?_)) (ax _)) (dt _ _);show fO (w.eH.send g).l j=_;rw[nD];split
  ·rfl
  rw[nF,mH,if_neg (fun e=>c ⟨e.1,ab,ab⟩)];simp[fO]
 exact (iO.refl a b).more ab ab
theorem NV (w:eC) (ns cl:List Int) (j:Nat):gA {w with eN:=cl,eD:=jj w.eD ns} j=gA w j:=by
 unfold gA;simp only
 cases h:(jj w.eD ns)[j]? with
 |none =>
  have a:=cP.1 h;rw[nB]at a;rw[cP.2 a]
 |some c' =>
  obtain⟨c,hc,b⟩:=rM _ _ _ _ h;rw[hc];simp only;rcases b with rfl|⟨n,rfl⟩
  ·rfl
  rfl
theorem tG {b:Int} {G:gd} (hi:Inv b G w) (e:NB w) (f:PS w) (A:Pi w<=195) (c:List Int):iO w (w.fu c).2 0 0:=by
 unfold eC.fu;split
 ·exact iO.refl e f
 split
 ·exact iO.refl e f
 simp only;obtain⟨a,g⟩:=nm (eC.fA {w with eN:=ib w.eN c,eD:=jj w.eD (ib w.eN c).tail}:eC);(have s1:a.ff=w.ff:=by rw[g];rfl);(have d1:a.eP=w.eP:=by rw[g];rfl);(have n1:a.eH=w.eH:=by rw[g];rfl);(have c1:∀j,gA a j=gA w j:=fun j=>by rw[g];exact NV w (ib w.eN c).tail (ib w.eN c) j);(have h:∀j,gn a j=gn w j:=fun j=>by unfold gn Ew;rw[s1,d1,n1,c1]);(have t1:Tw a=Tw w:=by unfold Tw;rw[s1,d1]);have i:NB a:=⟨by rw[n1];exact e.n200,by rw[s1];exact e.sb⟩;have m:PS a:=⟨by rw[s1,d1];exact f.sq,by rw[s1];exact f.up⟩;(have B:Wn a=Wn w:=by unfold Wn iq;rw[n1,s1]);(have C:Pi a=Pi w:=by unfold Pi;rw[h,h,h,h,d1,t1]);have o:=qi hi;rw[<- g];split
 ·rename_i hs;(have D:a.ff=none:=by rw[s1];rw[s1]at hs;exact hs);exact⟨i,m,by simp only;omega,by simp only;omega⟩
 rename_i s hs;(have n:w.ff=some s:=by rw[<- s1];exact hs);have x:=hi.ff s n;(have y:w.eP.eG.length+fP s<=199:=by unfold iq at o;rw[n]at o;simp only at o;omega);obtain⟨p,a2⟩:=Nc hi.uniq x hi.eG (f.sq s n) y ((ib w.eN c).getD 0 0);obtain⟨q,u,v⟩:=DR (d:=w.eP) (e.sb s n) ((ib w.eN c).getD 0 0);have hcut:=Nt w.eP s ((ib w.eN c).getD 0 0);have t:=tA w.eP s ((ib w.eN c).getD 0 0);rw[<- d1]at p a2 q u v hcut t;generalize eA.tick a.eP s ((ib w.eN c).getD 0 0)=r at p a2 q u v hcut t⊢
 obtain⟨g1,g2,g3⟩:=yF (w:=a) (P:=fun k=>gn w k) hs (m.up s hs) hcut p t a2.p9 (fun k _=>by
  refine aB (a2.oC k _ _) ?_;rw[<- h];unfold gn Ew;rw[hs]
  exact ax _)
 obtain⟨f1,f2,-⟩:=D2 (w:=a) i (out:=r.1) (d:=r.2.1) q;(have e1:Wn a=iU mw a.eH.l+fP s:=by unfold Wn iq;rw[hs]);refine⟨f1,g1,?_,aB f2 ab⟩;exact aB (qg (w:=w) (fun j z=>g2 j z) (by rw[d1,t1]at g3;exact g3)) (ax _)
theorem SQ.eP {d b:fe} {s a:eA} (h:SQ d s) (e:b.eG=d.eG) (e1:a.fi=s.fi) (c:a.done=s.done):SQ b a:=
 ⟨fun k=>by have:=h.nodup k;unfold gR at *;rw[e1];exact this,fun k=>by rw[e,c];exact h.last k⟩
theorem Er (d:NB w) (e:PS w) (a t:Int):iO w (w.kf a t) 1 0:=by
 obtain⟨w',hw⟩:=nm (w.kf a t);(have e1:w'.ff=w.ff.map fun s=>{s with gy:=t}:=by rw[hw];rfl);(have b:w'.eP.eG=w.eP.eG:=by rw[hw];rfl);(have c:w'.eH=w.eH:=by rw[hw];rfl);(have g:w'.eD=w.eD:=by rw[hw];rfl);rw[<- hw]
 have i:∀j,Ew w' j=Ew w j:=fun j=>by
  unfold Ew;rw[e1];cases w.ff<;>rfl
 have eq:iq w'=iq w:=by
  unfold iq;rw[e1];cases w.ff<;>rfl
 refine⟨⟨by rw[c];exact d.n200,fun f h=>?_⟩,⟨fun f h=>?_,fun f h=>?_⟩,?_,by unfold Wn;rw[c,eq];exact ax _⟩
 ·rw[e1]at h;obtain⟨s,hs,rfl⟩:=bS.1 h;have hb:=d.sb s hs;exact⟨hb.h8,hb.tl,hb.hb,hb.oD⟩
 ·rw[e1]at h;obtain⟨s,hs,rfl⟩:=bS.1 h;exact (e.sq s hs).eP b rfl rfl
 ·rw[e1]at h;obtain⟨s,hs,rfl⟩:=bS.1 h;exact e.up s hs
 refine tB (fun j _=>?_) ?_
 ·unfold gn gA;rw[i,b,c,g];exact ax _
 rw[b];have:=vL w';omega
theorem NW (c:NB w):iO w w.od 1 0:=by
 obtain⟨w',hw⟩:=nm w.od;(have e1:w'.ff=none:=by rw[hw];rfl);(have b:w'.eP=w.eP:=by rw[hw];rfl);(have a:w'.eH=w.eH:=by rw[hw];rfl);(have d:w'.eD=w.eD:=by rw[hw];rfl);rw[<- hw];refine⟨⟨by rw[a];exact c.n200,fun s h=>(by rw[e1]at h;cases h)⟩,⟨fun s h=>(by rw[e1]at h;cases h),fun s h=>(by rw[e1]at h;cases h)⟩,?_,?_⟩
 ·refine tB (fun j _=>?_) ?_
  ·unfold gn gA;(have:Ew w' j=[]:=by unfold Ew;rw[e1]);rw[this,b,a,d];exact yu
  rw[b];have:=vL w';omega
 unfold Wn iq;rw[e1,a];simp only;omega
theorem vX (e:NB w) (t:PS w):iO w w.gK.2 0 0:=by
 unfold eC.gK
 cases hs:w.ff with
 |some s=>exact iO.refl e t
 |none =>
  simp only;have hc:=vR (eC.fA w).eZ ((eC.fA w).eP.cutAt (-1)) ((eC.fA w).eN.getD 0 0);generalize eA.new (eC.fA w).eZ ((eC.fA w).eP.cutAt (-1)) ((eC.fA w).eN.getD 0 0)=r at hc;obtain⟨w',hw⟩:=nm ({eC.fA w with eP:=r.2.1,ff:=r.2.2}:eC);(have e1:w'.ff=r.2.2:=by rw[hw]);(have a:w'.eP=r.2.1:=by rw[hw]);(have b:w'.eH=w.eH:=by rw[hw];rfl);(have i:w'.eD=w.eD:=by rw[hw];rfl);(have l:∀j,Ew w j=[]:=fun j=>by unfold Ew;rw[hs]);(have u:Tw w=1:=by unfold Tw;rw[hs];rfl);(have y:iq w=0:=by unfold iq;rw[hs]);show iO w {eC.fA w with eP:=r.2.1,ff:=r.2.2} 0 0;rw[<- hw];rcases hc with⟨c1,c2,c3⟩|⟨s,c1,c2,c3,c4,c5,c6,c7,c8,d,f,v⟩
  ·rw[c1]at e1;have c2:r.2.1.eG=w.eP.eG:=c2;refine⟨⟨by rw[b];exact e.n200,fun s h=>(by rw[e1]at h;cases h)⟩,⟨fun s h=>(by rw[e1]at h;cases h),fun s h=>(by rw[e1]at h;cases h)⟩,?_,?_⟩
   ·refine tB (fun j _=>?_) ?_
    ·unfold gn gA;(have:Ew w' j=[]:=by unfold Ew;rw[e1]);rw[this,a,c2,b,i,l];exact ax _
    rw[a,c2,u];have:=vL w';omega
   unfold Wn;(have:iq w'=0:=by unfold iq;rw[e1]);rw[this,b];omega
  rw[c1]at e1;have d:r.2.1.eG=w.eP.eG++[⟨0,0,-1,0,[],s.eS⟩]:=d;(have f:r.2.1.cut=false:=by rw[f];rfl);have c:∀j,gR s j=[]:=fun j=>by unfold gR;rw[c3];simp[List.replicate,jx]
  have m:∀j,gg r.2.1.eG j=gg w.eP.eG j:=fun j=>by
   rw[d];unfold gg;rw[List.filterMap_append];simp
  have g:s.fi.length=8:=by rw[c3];simp
  have n:∀o,s.eQ o=[]:=fun o=>by
   unfold eA.eQ;rw[c3,aC,bC];split<;>rfl
  refine⟨⟨by rw[b];exact e.n200,fun p h=>?_⟩,⟨fun p h=>?_,fun p h=>?_⟩,?_,?_⟩
  ·rw[e1]at h;obtain rfl:=aA h;exact⟨g,by rw[c4];exact⟨rfl,rfl⟩,fun o _ x rest q=>(by rw[n]at q;cases q),fun o _=>(by rw[n];simp)⟩
  ·rw[e1]at h;obtain rfl:=aA h;refine⟨fun k=>by rw[c];exact dR,fun k=>?_⟩;rw[a,m,v];rfl
  ·rw[e1]at h;obtain rfl:=aA h;exact c2
  ·refine tB (fun j _=>?_) ?_
   ·unfold gn gA;(have:Ew w' j=[]:=by unfold Ew;rw[e1];exact c j);rw[this,a,m,b,i,l];exact ax _
   have t1:Tw w'=0:=by unfold Tw;rw[e1,a,f];rfl
   have ep:jq w'.eP.eG=jq w.eP.eG+1:=by
    rw[a,d];unfold jq;rw[List.filter_append];simp
   omega
  unfold Wn;(have:iq w'=0:=by unfold iq fP;rw[e1];simp[c3,List.replicate]);rw[this,b];omega
theorem vY {id:Int} {t:fU} {gv eB:Int} {c:eM} (h:eM.new id t gv eB=some c):iX c=none/\c.fB=false/\c.eS=0/\c.fx=0/\c.fa=0/\c.gW=[]/\c.eB=eB/\c.eZ=t/\c.seen=[]/\c.cache=[]:=by
 unfold eM.new at h;split at h
 ·obtain rfl:=aA h;exact⟨rfl,rfl,rfl,rfl,rfl,rfl,rfl,rfl,rfl,rfl⟩
 cases h
theorem NX (b:NB w) (a:PS w) (k:Int):iO w (w.jG k).2 0 0:=by
 unfold eC.jG;split
 ·exact iO.refl b a
 rename_i m;split
 ·exact iO.refl b a
 rename_i c hc;obtain⟨n1,-⟩:=vY hc;obtain⟨w',hw⟩:=nm (eC.fA {w with fy:=w.fy.set k.toNat (wrap64 (w.fy.getD k.toNat 0+1)),eD:=w.eD.set k.toNat c,ft:=w.ft.set k.toNat (-1)}:eC);(have e1:w'.ff=w.ff:=by rw[hw];rfl);(have d:w'.eP=w.eP:=by rw[hw];rfl);(have f:w'.eH=w.eH:=by rw[hw];rfl);(have g:w'.eD=w.eD.set k.toNat c:=by rw[hw];rfl);show iO w (eC.fA {w with fy:=w.fy.set k.toNat (wrap64 (w.fy.getD k.toNat 0+1)),eD:=w.eD.set k.toNat c,ft:=w.ft.set k.toNat (-1)}) 0 0;rw[<- hw];refine⟨⟨by rw[f];exact b.n200,by rw[e1];exact b.sb⟩,⟨by rw[e1,d];exact a.sq,by rw[e1];exact a.up⟩,?_,by unfold Wn iq;rw[f,e1];exact ax _⟩;refine aB (qg (w:=w) (fun j _=>?_) ?_) (dt _ _)
 ·(have i:Ew w' j=Ew w j:=by unfold Ew;rw[e1]);unfold gn;rw[i,d,f]
  have hc:gA w' j=gA w j\/gA w' j=none:=by
   unfold gA;rw[g];by_cases e:k.toNat=j
   ·subst e;right;by_cases l:k.toNat<w.eD.length
    ·rw[aS l];exact n1
    rw[cP.2 ah]
   left;rw[a8 e]
  rcases hc with h|h
  ·rw[h];exact ax _
  rw[h];exact qR (qj a j)
 unfold Tw;rw[e1,d];exact ax _
end fS
namespace fS
open Go.RowKit fD eY fK
theorem sc:∀(l:List eL) (n:Net) (t:Bool),∃C:List fY,(gV n t l).l=n.l++C/\∀g∈C,g.eU∈l
 | [],n,_=>⟨[],by simp[gV],ae⟩
 |m::l,n,t=>by
  unfold gV;split
  ·obtain⟨C,c,b⟩:=sc l (n.send ⟨if t then m.eI else -1,m⟩) t
   rw[c,nD];split
   ·exact⟨C,rfl,fun g a=>aI _ (b g a)⟩
   refine⟨⟨if t then m.eI else -1,m⟩::C,ae,fun g a=>?_⟩
   rcases aH.1 a with rfl|a
   ·exact aK
   exact aI _ (b g a)
  obtain⟨C,c,b⟩:=sc l n t;exact⟨C,c,fun g a=>aI _ (b g a)⟩
structure qX (w w':eC) (g:fY) (rest:List fY):Prop where
 ps:PS w'
 tail:∃C:List fY,w'.eH.l=rest++C/\∀x∈C,x.eU.eO≠2
 cur:∀j,gA w' j=gA w j\/gA w' j=none
 other:∀(j:Nat) (D:List Int) (cu:Option Int),¬(g.eU.eO=2/\g.eU.eI=j)->gl (Ew w' j) D (gg w'.eP.eG j) cu<=gl (Ew w j) D (gg w.eP.eG j) cu
 same:∀(j:Nat) (D0 D1:List Int) (cu:Option Int),g.eU.eO=2->g.eU.eI=j->D1.length+1=D0.length->(∀x,x≠g.eU.eK->(x∈D1↔x∈D0))->gl (Ew w' j) D1 (gg w'.eP.eG j) cu<=gl (Ew w j) D0 (gg w.eP.eG j) cu
 free:∀(j:Nat),g.eU.eO=2->g.eU.eI=j->gl (Ew w' j) [] (gg w'.eP.eG j) (some g.eU.eK)<=gl (Ew w j) [] (gg w.eP.eG j) (some g.eU.eK)
 p9:jq w'.eP.eG+Tw w'<=jq w.eP.eG+Tw w
variable {w w':eC} {g:fY} {rest:List fY}
theorem qX.still {C:List fY} (b:PS w') (c:w'.eH.l=rest++C) (d:∀x∈C,x.eU.eO≠2) (e:∀j,gA w' j=gA w j\/gA w' j=none) (hs:w'.ff=w.ff) (hd:w'.eP=w.eP):qX w w' g rest:=by
 (have a:∀j:Nat,Ew w' j=Ew w j:=fun j=>by unfold Ew;rw[hs]);refine⟨b,⟨C,c,d⟩,e,fun j D f _=>by rw[a,hd];exact ax _,fun j D0 i f _ _ h _=>by rw[a,hd];exact qh (.inr h),fun j _ _=>by rw[a,hd];exact ax _,by unfold Tw;rw[hs,hd];exact ax _⟩
variable {b n:Int} {G:gd}
theorem brought (hi:Inv b G w) (hp:PS w) (hP:Pi w<=195) (H:w.eH.l=g::rest):qX w (w.gS 0).2 g rest:=by
 unfold eC.gS;(have hc:(!(decide ((0:Int)<=0)&&decide ((0:Int)<(w.eH.l.length:Int))))=false:=by rw[H];simp);rw[hc];simp only[bh,if_false,Int.toNat_zero,H,aM,List.eraseIdx_cons_zero];obtain⟨w1,A⟩:=nm (eC.fA {w with eH:={w.eH with l:=rest} }:eC);(have n1:w1.eH.l=rest:=by rw[A];rfl);(have s1:w1.ff=w.ff:=by rw[A];rfl);(have c1:w1.eD=w.eD:=by rw[A];rfl);(have d1:w1.eP=w.eP:=by rw[A];rfl);(have t1:Tw w1=Tw w:=by unfold Tw;rw[s1,d1]);have I:PS w1:=⟨by rw[s1,d1];exact hp.sq,by rw[s1];exact hp.up⟩;(have B:∀j,gA w1 j=gA w j:=fun j=>by unfold gA;rw[c1]);have PN:=qi hi;have hg:im G w.eP.eG g.eU:=hi.eH g (by rw[H];exact aK);have T:qX w w1 g rest:=.still (C:=[]) I (by rw[n1];simp) ae (fun j=>.inl (B j)) s1 d1;rw[<- A];split
 ·split
  ·exact T
  rename_i s hs;refine abb ?_;intro PD R3 QN Xd a1 a2 hcut Sd;generalize eA.take w1.eP s (w1.eN.getD 0 0) g.eU=r at a1 a2 hcut Sd⊢
  have V:jq r.2.1.eG=jq w1.eP.eG:=by
   rcases a2 with a2|⟨-,-,-,s2,a2,-⟩<;>exact a2.p9
  obtain⟨f,i⟩:=nm (({w1 with eP:=r.2.1,ff:=some r.2.2}.gf true r.1).iy:eC);obtain⟨g1,-,g3⟩:=yF (w:=w1) (P:=fun k=>gl (gR r.2.2 k) (fO w1.eH.l k) (gg r.2.1.eG k) (gA w1 k)) hs (hp.up s PD) hcut a1 Sd V (fun _ _=>ax _);rw[<- i]at g1 g3;obtain⟨C,t,u⟩:=sc r.1 w1.eH true
  have J:f.eH.l=rest++C/\f.eP=r.2.1/\f.eD=w1.eD:=by
   rw[i];unfold eC.iy;simp only[eC.gf];split<;>exact⟨by rw[<- n1];exact t,rfl,rfl⟩
  have W:∀j:Nat,Ew f j=gR r.2.2 j\/Ew f j=[]:=fun j=>by
   rw[i];unfold eC.iy;simp only[eC.gf];split
   ·right;rfl
   left;rfl
  have v:∀j:Nat,Ew w j=gR s j:=fun j=>by unfold Ew;rw[PD]
  have low:∀(j:Nat) (D:List Int) (n:Option Int),gl (Ew f j) D (gg f.eP.eG j) n<=gl (gR r.2.2 j) D (gg r.2.1.eG j) n:=fun j D n=>by
   rw[J.2.1];rcases W j with h|h
   ·rw[h];exact ax _
   rw[h];exact yu
  rw[<- i];show qX w f g rest;refine⟨g1,⟨C,J.1,fun x hx e=>by have:=Sd _ (u x hx);omega⟩,fun j=>.inl (by unfold gA;rw[J.2.2,c1]),fun j D n X=>?_,fun j D0 D1 n h2 hj hlen PX=>?_,fun j h2 hj=>?_,by rw[d1,t1]at g3;exact g3⟩
  ·refine aB (low j D n) ?_;rw[v];rcases a2 with a2|⟨K,F,y,s2,E,-,-,L,-⟩
   ·have:=a2.oC j D n;rw[d1]at this;exact this
   refine aB (E.oC j D n) ?_;rw[L _ (fun e=>X ⟨K,e.symm⟩),d1];exact ax _
  ·refine aB (low j D1 n) ?_;rw[v];rcases a2 with a2|⟨K,F,y,s2,E,-,-,L,M,N⟩
   ·have:=a2.oC j D1 n;rw[d1]at this;exact aB this (qh (.inr hlen))
   refine aB (E.oC j D1 n) ?_;rw[d1]at y⊢;rw[<- hj];exact DB (m:=g.eU.eK) hlen PX F M (N _) y
  refine aB (low j [] _) ?_;rw[v];rcases a2 with a2|⟨K,F,y,s2,E,-,-,L,M,N⟩
  ·have:=a2.oC j [] (some g.eU.eK);rw[d1]at this;exact this
  refine aB (E.oC j [] _) ?_;rw[d1]at y⊢;rw[<- hj];refine M5 ae F ?_ ((M _).2 (.inl rfl)) y;rw[N];simp[wt]
 split
 ·rename_i c hc;have U:w1.eD[g.to.toNat]?=some c:=hc;obtain⟨f,i⟩:=nm (eC.gf {w1 with eD:=w1.eD.set g.to.toNat (c.take g.eU).2} false (c.take g.eU).1:eC);obtain⟨-,-,Y⟩:=yG f g.to.toNat;obtain⟨O,Q,R,S⟩:=qf f g.to.toNat;obtain⟨C,t,u⟩:=sc (c.take g.eU).1 w1.eH false
  have Z:∀x∈(c.take g.eU).1,x.eO≠2:=fun x hx=>by
   rcases qd c g.eU with k|⟨-,a,k2,k3⟩
   ·rw[k]at hx;cases hx
   rw[k2]at hx;rw[aD.1 hx,k3];decide
  (have e5:∀j,gA f j=if j=g.to.toNat then iX (c.take g.eU).2 else gA w1 j:=fun j=>by rw[i];exact vO U j);(have Xv:PS f:=by rw[i];exact⟨I.sq,I.up⟩);show qX w _ g rest;rw[<- i];refine .still (C:=C) (Y Xv) (by show (f.gG g.to.toNat).eH.l=_;rw[O,i,<- n1];exact t) (fun x hx=>Z _ (u x hx)) (fun j=>?_) (by show (f.gG g.to.toNat).ff=_;rw[Q,i];exact s1) (by show (f.gG g.to.toNat).eP=_;rw[R,i];exact d1);(have e6:gA (f.gG g.to.toNat) j=gA f j:=by unfold gA;rw[S]);show gA (f.gG g.to.toNat) j=_\/gA (f.gG g.to.toNat) j=_;rw[e6,e5,<- B];split
  ·rename_i e;(have Qr:gA w1 j=iX c:=by unfold gA;rw[e,U]);rw[Qr];exact Ea c g.eU
  exact .inl rfl
 exact T
def Pv (w:eC) (k:Nat) (n:Int) (D:List Int):Nat:=
 (if k=0 then gl (Ew w 0) D (gg w.eP.eG 0) (some n) else gn w 0)+(if k=1 then gl (Ew w 1) D (gg w.eP.eG 1) (some n) else gn w 1) +
 (if k=2 then gl (Ew w 2) D (gg w.eP.eG 2) (some n) else gn w 2)+(if k=3 then gl (Ew w 3) D (gg w.eP.eG 3) (some n) else gn w 3)+jq w.eP.eG+Tw w
variable {k p:Nat} {D:List Int}
theorem yQ {c:List Int} (a:∀j,j<4->j≠k->gn w' j<=gn w j) (b:gl (Ew w' k) c (gg w'.eP.eG k) (some n)<=gl (Ew w k) D (gg w.eP.eG k) (some n)) (e:jq w'.eP.eG+Tw w'<=jq w.eP.eG+Tw w) (f:k<4):Pv w' k n c<=Pv w k n D:=by
 have:k=0\/k=1\/k=2\/k=3:=ab;unfold Pv;rcases this with rfl|rfl|rfl|rfl
 ·have d:=a 1 ab ab;have a2:=a 2 ab ab;have a3:=a 3 ab ab;simp only[if_true,show ¬(0:Nat)=1 by omega,show ¬(0:Nat)=2 by omega,show ¬(0:Nat)=3 by omega,if_false];have b:gl (Ew w' 0) c (gg w'.eP.eG 0) (some n)<=gl (Ew w 0) D (gg w.eP.eG 0) (some n):=b;omega
 ·have d:=a 0 ab ab;have a2:=a 2 ab ab;have a3:=a 3 ab ab;simp only[if_true,show ¬(1:Nat)=0 by omega,show ¬(1:Nat)=2 by omega,show ¬(1:Nat)=3 by omega,if_false];have b:gl (Ew w' 1) c (gg w'.eP.eG 1) (some n)<=gl (Ew w 1) D (gg w.eP.eG 1) (some n):=b;omega
 ·have d:=a 0 ab ab;have a2:=a 1 ab ab;have a3:=a 3 ab ab;simp only[if_true,show ¬(2:Nat)=0 by omega,show ¬(2:Nat)=1 by omega,show ¬(2:Nat)=3 by omega,if_false];have b:gl (Ew w' 2) c (gg w'.eP.eG 2) (some n)<=gl (Ew w 2) D (gg w.eP.eG 2) (some n):=b;omega
 have d:=a 0 ab ab;have a2:=a 1 ab ab;have a3:=a 2 ab ab;simp only[if_true,show ¬(3:Nat)=0 by omega,show ¬(3:Nat)=1 by omega,show ¬(3:Nat)=2 by omega,if_false];have b:gl (Ew w' 3) c (gg w'.eP.eG 3) (some n)<=gl (Ew w 3) D (gg w.eP.eG 3) (some n):=b;omega
theorem Es {t:Nat} (a:k<4) (h:gn w k<=gl (Ew w k) D (gg w.eP.eG k) (some n)+t):Pi w<=Pv w k n D+t:=by
 have:k=0\/k=1\/k=2\/k=3:=ab;unfold Pv Pi;rcases this with rfl|rfl|rfl|rfl
 ·simp only[if_true,show ¬(0:Nat)=1 by omega,show ¬(0:Nat)=2 by omega,show ¬(0:Nat)=3 by omega,if_false];have h:gn w 0<=gl (Ew w 0) D (gg w.eP.eG 0) (some n)+t:=h;omega
 ·simp only[if_true,show ¬(1:Nat)=0 by omega,show ¬(1:Nat)=2 by omega,show ¬(1:Nat)=3 by omega,if_false];have h:gn w 1<=gl (Ew w 1) D (gg w.eP.eG 1) (some n)+t:=h;omega
 ·simp only[if_true,show ¬(2:Nat)=0 by omega,show ¬(2:Nat)=1 by omega,show ¬(2:Nat)=3 by omega,if_false];have h:gn w 2<=gl (Ew w 2) D (gg w.eP.eG 2) (some n)+t:=h;omega
 simp only[if_true,show ¬(3:Nat)=0 by omega,show ¬(3:Nat)=1 by omega,show ¬(3:Nat)=2 by omega,if_false];have h:gn w 3<=gl (Ew w 3) D (gg w.eP.eG 3) (some n)+t:=h;omega
def pG (w:eC) (k:Nat) (n:Int) (p:Nat):Prop:=
 ∃(A:List fY) (g:fY) (B:List fY),w.eH.l=A++g::B/\g.eU.eO=2/\g.eU.eI=(k:Int)/\g.eU.eK=n/\fO B (k:Int)=[]/\Pv w k n (fO A k)<=p/\(gA w k=some n\/gA w k=none)
theorem pG.le (h:pG w k n p) (b:k<4) (hp:PS w):Pi w<=p+2:=by
 obtain⟨A,g,B,c,d,f,i,j,m,a⟩:=h;(have e:fO w.eH.l k=fO A k++[n]:=by rw[c,nF,mH,if_pos ⟨d,f⟩,j,i]);refine aB (Es (n:=n) (D:=fO A k) (t:=2) b ?_) ab;unfold gn;rw[e];rcases a with a|a
 ·rw[a];exact vH
 rw[a];exact aB vH (Nat.add_le_add_right (qR (qj hp k)) 2)
theorem pG.gS (hi:Inv b G w) (hp:PS w) {n:Int} (h:pG w k n p) (q:k<4) (M:p<=193):pG (w.gS 0).2 k n p\/Pi (w.gS 0).2<=p:=by
 have y:Pi w<=195:=aB (h.le q hp) ab;obtain⟨A,g,B,s,z,u,E,F,J,K⟩:=h
 have m:∀ {w':eC} {x:fY} {r:List fY},qX w w' x r->gA w' k=some n\/gA w' k=none:=fun hb=>by
  rcases hb.cur k with e|e
  ·rw[e];exact K
  exact .inr e
 cases A with
 |nil =>
  right;have hb:=brought hi hp y (g:=g) (rest:=B) (by rw[s];rfl);obtain⟨C,c,d⟩:=hb.tail
  have hd:∀j:Int,fO (w.gS 0).2.eH.l j=fO B j:=fun j=>by
   rw[c,nF]
   have:fO C j=[]:=by
    unfold fO;rw[df.2 fun x f=>by simp[d x f]];rfl
   rw[this,bG]
  have N:Pv (w.gS 0).2 k n []<=Pv w k n (fO [] k):=by
   refine yQ (fun j L H=>?_) ?_ hb.p9 q
   ·unfold gn;rw[hd,s];have I:¬(g.eU.eO=2/\g.eU.eI=(j:Int)):=fun e=>H (by have:=e.2;rw[u]at this;omega);(have v:fO ([]++g::B) (j:Int)=fO B j:=by rw[cf,mH,if_neg I]);rw[v];refine aB (hb.other j _ _ I) ?_;rcases hb.cur j with e|e
    ·rw[e];exact ax _
    rw[e];exact qR (qj hp j)
   have:=hb.free k z u;rw[E]at this;exact this
  refine aB (Es (n:=n) (D:=[]) (t:=0) q ?_) ab;unfold gn;rw[hd,F];rcases m hb with e|e
  ·rw[e];exact dt _ _
  rw[e];exact aB (qR (qj hb.ps k)) (dt _ _)
 |cons a A =>
  left;have hb:=brought hi hp y (g:=a) (rest:=A++g::B) (by rw[s];rfl);obtain⟨C,c,d⟩:=hb.tail
  have o:∀j:Int,fO C j=[]:=fun j=>by
   unfold fO;rw[df.2 fun x f=>by simp[d x f]];rfl
  refine⟨A,g,B++C,by rw[c];simp,z,u,E,by rw[nF,F,o];rfl,aB (yQ (D:=fO (a::A) k) (fun j L H=>?_) ?_ hb.p9 q) J,m hb⟩
  ·unfold gn;(have e1:fO (w.gS 0).2.eH.l (j:Int)=fO (A++g::B) j:=by rw[c,nF,o,bG]);(have v:fO w.eH.l (j:Int)=if a.eU.eO=2/\a.eU.eI=(j:Int) then a.eU.eK::fO (A++g::B) j else fO (A++g::B) j:=by rw[s,ct,mH]);rw[e1,v];split
   ·rename_i e;refine aB (hb.same j (a.eU.eK::fO (A++g::B) j) (fO (A++g::B) j) _ e.1 e.2 ae (fun x f=>by simp[f])) ?_;rcases hb.cur j with i|i
    ·rw[i];exact ax _
    rw[i];exact qR (qj hp j)
   rename_i e;refine aB (hb.other j _ _ e) ?_;rcases hb.cur j with i|i
   ·rw[i];exact ax _
   rw[i];exact qR (qj hp j)
  rw[mH];split
  ·rename_i e;exact hb.same k _ _ _ e.1 e.2 ae (fun x f=>by simp[f])
  rename_i e;exact hb.other k _ _ e
end fS
namespace fS
open Go.RowKit fD eY fK
structure Kn (V n:Int) (w:eC):Prop where
 hV:1<=V/\V<=1000
 vt:w.eZ.fa=V
 right:kz w.eZ=true
 ep:1<=Ep w/\Ep w<=w.eP.eG.length
 lens:w.eN.length=w.eD.length+1
 ik:∀c∈w.eN,0<=c/\c<=n
 small:0<=n/\n<=1000000
 si:∀s,w.ff=some s->SI V w s
 ci:∀k c,w.eD[k]?=some c->CI V w k c
 ni:∀g∈w.eH.l,NI w g.eU
theorem oT {t:fU} (h:kz t=true):1<=t.fa/\t.fa<=t.eF/\t.eF<=274877906944/\0<=t.fH/\t.fH<=500:=by
 unfold kz fR at h;simp only[aF,decide_eq_true_eq]at h;omega
variable {V n:Int} {w w':eC}
theorem Env.still (hs:w'.ff=w.ff) (hd:w'.eP.eG=w.eP.eG) (he:∀s,w.ff=some s->s.eS=Ep w):Env V w w':=by
 (have e:Ep w'=Ep w:=by unfold Ep;rw[hd]);refine⟨dK e.symm,fun _ s h=>⟨s,by rw[<- hs];exact h,?_⟩,he,fun s h=>by rw[e];exact he s (by rw[<- hs];exact h)⟩;have a:=Sv.refl V w.eP s;exact⟨rfl,rfl,rfl,aZ _,by rw[hd],by rw[hd];exact ax _,fun o=>by rw[hd];exact ax _,fun o b=>by unfold fl;rw[hd];exact aZ _,fun c hc=>by rw[hd];omega,a.fT⟩
variable {k:Nat} {c:eM}
theorem CI.env (h:CI V w k c) (g:Env V w w') (hc:w'.eN.getD (k+1) 0=w.eN.getD (k+1) 0) (ht:w'.eZ=w.eZ) (b:∀o:Nat,(iI w.eP.eG o).length<=(iI w'.eP.eG o).length):CI V w' k c:=
 ⟨h.eB.trans hc.symm,h.eZ.trans ht.symm,h.fT,h.lG,h.fG.env g ab,fun o a=>(h.floor o a).env h.fG g ab a,fun o a=>cU (h.seen o a) (by have:=b o;omega)⟩
theorem NI.env {m:eL} (h:NI w m) (g:Env V w w'):NI w' m:=
 ⟨fun hc a=>(h.fG hc a).env g hc,fun hc a=>by
  obtain⟨o,b,c,d⟩:=h.floor hc a
  exact⟨o,b,c,d.env (h.fG hc (.inr a)) g hc b⟩⟩
theorem Kn.qY (h:Kn V n w):∀s,w.ff=some s->s.eS=Ep w:=fun s hs=>(h.si s hs).ep
theorem Kn.pH (h:Kn V n w) (hc:w.eD[k]?=some c):0<=c.eB/\c.eB<=n:=by
 have a:=(az.1 hc).1;rw[(h.ci k c hc).eB,aC,ay (by have:=h.lens;omega)];exact h.ik _ (bO _)
theorem Kn.qm (h:Kn V n w) (hs:w'.ff=w.ff) (hd:w'.eP.eG=w.eP.eG) (ht:w'.eZ=w.eZ) (b:w'.eN=w.eN) (f:w'.eD.length=w.eD.length)
 (hc:∀k c,w'.eD[k]?=some c->CI V w k c) (i:∀g∈w'.eH.l,g∈w.eH.l\/NI w g.eU):Kn V n w':=by
 have g:Env V w w':=.still hs hd h.qY;(have e:Ep w'=Ep w:=by unfold Ep;rw[hd]);refine⟨h.hV,by rw[ht];exact h.vt,by rw[ht];exact h.right,by rw[e,hd];exact h.ep,by rw[b,f];exact h.lens,by rw[b];exact h.ik,h.small,fun s j=>?_,fun k c PH=>?_,fun x hx=>?_⟩
 ·have a:=h.si s (by rw[<- hs];exact j);exact⟨by rw[b];exact a.eB,by rw[ht];exact a.eZ,a.quiet,a.fT,by rw[e];exact a.ep,fun c m=>by rw[hd];exact a.gU c m⟩
 ·exact (hc k c PH).env g (by rw[b]) ht fun o=>by rw[hd];exact ax _
 rcases i x hx with d|d
 ·exact (h.ni x d).env g
 exact d.env g
theorem yR {l:List eL} {n:Net} {t:Bool} (b:∀m∈l,m.eO≠8/\m.eO≠9):∀g∈(gV n t l).l,g∈n.l\/NI w g.eU:=fun g a=>by
 obtain⟨C,c,d⟩:=sc l n t;rw[c]at a;rcases aN.1 a with a|a
 ·exact .inl a
 have:=b _ (d g a);exact .inr (.other this.1 this.2)
theorem Et (b:c.fB=true->c.call.eO=1\/c.call.eO=2):∀m∈c.fh.1,m.eO≠8/\m.eO≠9:=by
 have a:∀m∈c.asks,m.eO≠8/\m.eO≠9:=fun m hm=>by
  rcases nY c with⟨-,h⟩|⟨d,h⟩
  ·rw[h]at hm;cases hm
  rw[h]at hm;rw[aD.1 hm];rcases b d with e|e<;>simp[eM.fG,e]
 intro m hm;rcases kO c with⟨-,h,-⟩|⟨-,h⟩
 ·rw[h]at hm;rcases aH.1 hm with rfl|hm
  ·simp[mJ,eM.fG]
  exact a m hm
 rw[h]at hm;exact a m hm
theorem tH {c':eM} (h:∀j c,w.eD[j]?=some c->CI V w j c) (b:CI V w k c'):∀j c,(w.eD.set k c')[j]?=some c->CI V w j c:=fun j c a=>by
 by_cases e:k=j
 ·subst e;by_cases d:k<w.eD.length
  ·rw[aS d]at a;obtain rfl:=aA a;exact b
  rw[cP.2 ah]at a;cases a
 rw[a8 e]at a;exact h j c a
theorem Kn.jd {b:Int} {G:gd} (h:Kn V n w) (hi:Inv b G w) (k:Int):Kn V n (w.fh k).2:=by
 unfold eC.fh;split
 ·exact h
 split
 ·rename_i c hc;refine h.qm ai ai ai ai (by simp[eC.gf,eC.fA]) (tH h.ci (Ek (h.ci _ c hc) (h.pH hc).1)) ?_;exact yR (Et fun hb=>((hi.eD _ _ hc).kinds hb).1)
 exact h
theorem Kn.oy (h:Kn V n w) (k:Nat):Kn V n (w.gG k):=by
 obtain⟨b,c,d,a⟩:=qf w k
 have e1:(w.gG k).eZ=w.eZ/\(w.gG k).eN=w.eN:=by
  unfold eC.gG;split
  ·split
   ·split<;>exact⟨rfl,rfl⟩
   exact⟨rfl,rfl⟩
  exact⟨rfl,rfl⟩
 refine h.qm c (by rw[d]) e1.1 e1.2 (by rw[a]) (by rw[a];exact h.ci) (by rw[b];exact fun g e=>.inl e)
end fS
namespace fS
open Go.RowKit fD eY fK
variable {V n:Int} {w:eC} {k:Nat} {c':eM}
theorem CI.tI {c:eM} (h:CI V w k c) (e1:c'.eB=c.eB) (e:c'.eZ=c.eZ) (f:c'.fa=c.fa) (g:c'.iV=c.iV) (b:c'.eS=c.eS) (d:c'.fx=c.fx) (i:c'.gW=c.gW) (j:c'.seen=c.seen):CI V w k c':=by
 (have f1:∀o,c'.kY o=c.kY o:=fun o=>by unfold eM.kY;rw[i]);(have f2:∀o,c'.ke o=c.ke o:=fun o=>by unfold eM.ke;rw[j]);exact⟨e1.trans h.eB,e.trans h.eZ,by rw[f,e1];exact h.fT,by rw[g,e1];exact h.lG,by rw[b,d];exact h.fG,fun o a=>by rw[b,d,f1];exact h.floor o a,fun o a=>by rw[f2];exact h.seen o a⟩
theorem Kn.oA (h:Kn V n w) {l:List eL} {e:Int} (hc:CI V w k c') (a:∀m∈l,m.eO≠8/\m.eO≠9):Kn V n (w.gJ k e l c').2:=by
 unfold eC.gJ;split
 ·exact h.qm ai ai ai ai ae (tH h.ci hc) (fun g b=>.inl b)
 refine Kn.oy ?_ k;exact h.qm ai ai ai ai (by simp[eC.gf,eC.fA]) (tH h.ci hc) (yR a)
theorem yS {c1:eM} (h:CI V w k c1) (a:0<=c1.eB) (b:c1.call.eO=1\/c1.call.eO=2):CI V w k (eM.ask c1).2/\∀m∈(eM.ask c1).1,m.eO≠8/\m.eO≠9:=by
 unfold eM.ask;simp only;exact⟨Ek (h.tI rfl rfl rfl rfl rfl rfl rfl rfl) a,Et fun _=>b⟩
theorem Kn.l6 (h:Kn V n w) (k o:Int):Kn V n (w.read k o).2:=by
 unfold eC.read;split
 ·exact h
 split
 ·rename_i c hc;have a:=h.ci _ c hc;have b:=(h.pH hc).1
  have key:CI V w k.toNat (c.read o).2.2/\∀m∈(c.read o).2.1,m.eO≠8/\m.eO≠9:=by
   unfold eM.read;split
   ·exact⟨a,fun m hm=>by cases hm⟩
   split
   ·exact⟨a,fun m hm=>by cases hm⟩
   simp only;split
   ·split
    ·exact⟨a.tI rfl rfl rfl rfl rfl rfl rfl rfl,fun m hm=>by cases hm⟩
    exact yS (a.tI rfl rfl rfl rfl rfl rfl rfl rfl) b (.inl rfl)
   exact yS (a.tI rfl rfl rfl rfl rfl rfl rfl rfl) b (.inl rfl)
  exact h.oA key.1 key.2
 exact h
theorem Kn.oP (h:Kn V n w) (k o:Int) (data:Bytes):Kn V n (w.write k o data).2:=by
 unfold eC.write;split
 ·exact h
 split
 ·rename_i c hc;have a:=h.ci _ c hc;have b:=(h.pH hc).1
  have key:CI V w k.toNat (c.write o data).2.2/\∀m∈(c.write o data).2.1,m.eO≠8/\m.eO≠9:=by
   unfold eM.write;split
   ·exact⟨a,fun m hm=>by cases hm⟩
   split
   ·exact⟨a,fun m hm=>by cases hm⟩
   split
   ·exact⟨a,fun m hm=>by cases hm⟩
   exact yS (a.tI rfl rfl rfl rfl rfl rfl rfl rfl) b (.inr rfl)
  exact h.oA key.1 key.2
 exact h
theorem Kn.kt (h:Kn V n w) {nt:Net} (a:∀g∈nt.l,g∈w.eH.l):Kn V n {w with eH:=nt}:=
 h.qm ai ai ai ai ai h.ci fun g b=>.inl (a g b)
theorem Kn.px (h:Kn V n w) (k:Int):Kn V n (w.jP k).2:=by
 unfold eC.jP;split
 ·exact h
 exact h.kt fun g a=>bF a
theorem Kn.py (h:Kn V n w) (k:Int):Kn V n (w.jQ k).2:=by
 exact abw
theorem Kn.lZ (h:Kn V n w):Kn V n w.fA:=h.qm ai ai ai ai ai h.ci fun _ a=>.inl a
theorem Kn.yT {w':eC} (h:Kn V n w) (hs:w'.ff=none) (hd:kN w.eP.eG w'.eP.eG) (ht:w'.eZ=w.eZ) (b:w'.eN=w.eN) (hc:w'.eD=w.eD) (f:∀g∈w'.eH.l,g∈w.eH.l\/(g.eU.eO≠8/\g.eU.eO≠9)):Kn V n w':=by
 have e:Ep w'=Ep w:=hd.last;have g:Env V w w':=⟨dK e.symm,fun _ s PD=>(by rw[hs]at PD;cases PD),h.qY,fun s PD=>(by rw[hs]at PD;cases PD)⟩;refine⟨h.hV,by rw[ht];exact h.vt,by rw[ht];exact h.right,by rw[e];have:=h.ep;have:=hd.len;omega,by rw[b,hc];exact h.lens,by rw[b];exact h.ik,h.small,fun s PD=>(by rw[hs]at PD;cases PD),fun k c d=>?_,fun x hx=>?_⟩
 ·rw[hc]at d;exact (h.ci k c d).env g (by rw[b]) ht fun o=>hd.iI o
 rcases f x hx with a|a
 ·exact (h.ni x a).env g
 exact .other a.1 a.2
theorem Kn.qO (h:Kn V n w):Kn V n w.od:=h.yT ai (.refl _) ai ai ai fun _ a=>.inl a
theorem Kn.oB (h:Kn V n w) (a t:Int):Kn V n (w.kf a t):=by
 cases hs:w.ff with
 |none =>
  refine h.yT ?_ (.refl _) ai ai ai fun _ p=>.inl p;unfold eC.kf;rw[hs];rfl
 |some s =>
  obtain⟨w',hw⟩:=nm (w.kf a t);(have e1:w'.ff=some {s with gy:=t}:=by rw[hw];unfold eC.kf;rw[hs];rfl);(have b:w'.eP.eG=w.eP.eG:=by rw[hw];rfl);(have q:w'.eH=w.eH:=by rw[hw];rfl);(have j:w'.eD=w.eD:=by rw[hw];rfl);(have f:w'.eZ=w.eZ:=by rw[hw];rfl);(have i:w'.eN=w.eN:=by rw[hw];rfl);rw[<- hw];have a:=h.si s hs;have e:Ep w'=Ep w:=by unfold Ep;rw[b]
  have g:Env V w w':=by
   refine⟨dK e.symm,fun _ l d=>⟨s,hs,?_⟩,h.qY,fun l d=>?_⟩
   ·rw[e1]at d;obtain rfl:=aA d;have m:=Sv.refl V w.eP s;exact⟨rfl,rfl,rfl,aZ _,by rw[b],by rw[b];exact ax _,fun o=>by rw[b];exact ax _,fun o r=>by unfold fl;rw[b];exact aZ _,fun c hc=>by rw[b];exact m.gU c hc,m.fT⟩
   rw[e1]at d;obtain rfl:=aA d;rw[e];exact a.ep
  refine⟨h.hV,by rw[f];exact h.vt,by rw[f];exact h.right,by rw[e,b];exact h.ep,by rw[i,j];exact h.lens,by rw[i];exact h.ik,h.small,fun l d=>?_,fun k c PH=>?_,fun x hx=>?_⟩
  ·rw[e1]at d;obtain rfl:=aA d;exact⟨by rw[i];exact a.eB,by rw[f];exact a.eZ,a.quiet,a.fT,by rw[e];exact a.ep,fun c hc=>by rw[b];exact a.gU c hc⟩
  ·rw[j]at PH;exact (h.ci k c PH).env g (by rw[i]) f fun o=>by rw[b];exact ax _
  rw[q]at hx;exact (h.ni x hx).env g
end fS
namespace fS
open Go.RowKit fD eY fK
variable {V n:Int} {w:eC}
theorem Kn.lF {b:Int} {G:gd} (h:Kn V n w) (hi:Inv b G w):Kn V n w.gK.2:=by
 unfold eC.gK
 cases hs:w.ff with
 |some s=>exact h
 |none =>
  simp only;have hc:=vR (eC.fA w).eZ ((eC.fA w).eP.cutAt (-1)) ((eC.fA w).eN.getD 0 0);generalize eA.new (eC.fA w).eZ ((eC.fA w).eP.cutAt (-1)) ((eC.fA w).eN.getD 0 0)=r at hc;obtain⟨w',hw⟩:=nm ({eC.fA w with eP:=r.2.1,ff:=r.2.2}:eC);(have e1:w'.ff=r.2.2:=by rw[hw]);(have i:w'.eP=r.2.1:=by rw[hw]);(have l:w'.eH=w.eH:=by rw[hw];rfl);(have j:w'.eD=w.eD:=by rw[hw];rfl);(have a:w'.eZ=w.eZ:=by rw[hw];rfl);(have d:w'.eN=w.eN:=by rw[hw];rfl);show Kn V n {eC.fA w with eP:=r.2.1,ff:=r.2.2};rw[<- hw];rcases hc with⟨c1,c2,c3⟩|⟨s,c1,c2,c3,c4,c5,c6,c7,c8,f,u,y⟩
  ·rw[c1]at e1;have c2:r.2.1.eG=w.eP.eG:=c2;exact h.yT e1 (by rw[i,c2];exact .refl _) a d j (by rw[l];exact fun _ m=>.inl m)
  rw[c1]at e1;have f:r.2.1.eG=w.eP.eG++[⟨0,0,-1,0,[],s.eS⟩]:=f;have c5:s.eS=wrap64 (Ep w+1):=c5;have z:=hi.eG.len;have A:=h.ep;rw[jC ab ab]at c5
  have q:Ep w'=Ep w+1:=by
   unfold Ep;rw[i,f,vP]
   show (if (-1:Int)<0 then j7 (max (j7 0 w.eP.eG) s.eS) [] else _)=_
   rw[if_pos aj];show max (j7 0 w.eP.eG) s.eS=_;unfold Ep at c5;omega
  have g:Env V w w':=⟨ab,fun e=>ab,fun s' PD=>(by rw[hs]at PD;cases PD),fun s' PD=>by rw[e1]at PD;obtain rfl:=aA PD;omega⟩
  have B:0<=w.eN.getD 0 0:=by
   rw[aC,ay (by have:=h.lens;omega)];exact (h.ik _ (bO _)).1
  have c7:s.eB=w.eN.getD 0 0:=c7;have c8:s.quiet=0\/s.quiet=w.eN.getD 0 0+w.eZ.fa:=c8;have t:=h.vt;have hV:=h.hV;refine⟨h.hV,by rw[a];exact h.vt,by rw[a];exact h.right,by rw[q,i,f,aE,aQ];omega,by rw[d,j];exact h.lens,by rw[d];exact h.ik,h.small,fun s' PD=>?_,fun k c PH=>?_,fun x hx=>?_⟩
  ·rw[e1]at PD;obtain rfl:=aA PD;refine⟨by rw[d];exact c7,by rw[a];exact c6,ab,fun c hc=>?_,ab,fun c hc=>?_⟩
   ·have:fT s.eW c=0:=by
     unfold fT;exact aaU
    omega
   have:gU s.eW c=0:=by
    unfold gU;exact aaU
   omega
  ·rw[j]at PH;refine (h.ci k c PH).env g (by rw[d]) a fun o=>?_;rw[i,f,rI];simp
  rw[l]at hx;exact (h.ni x hx).env g
theorem Kn.pz (h:Kn V n w) (k:Int):Kn V n (w.jG k).2:=by
 unfold eC.jG;split
 ·exact h
 rename_i j;split
 ·exact h
 rename_i c hc;have l:=h.ep;have hV:=h.hV;obtain⟨-,-,n3,n4,d,n6,a,e,f,-⟩:=vY hc
 have b:c.iV=0:=by
  unfold eM.new at hc;split at hc
  ·obtain rfl:=aA hc;rfl
  cases hc
 have m:0<=w.eN.getD (k.toNat+1) 0:=by
  rw[aC]
  cases hq:w.eN[k.toNat+1]? with
  |none=>simp
  |some x=>exact (h.ik x (aT hq)).1
 refine h.qm ai ai ai ai (by simp[eC.fA]) (tH h.ci ⟨a,e,by rw[d,a];omega,by rw[b,a];omega,by rw[n3,n4];exact⟨aZ _,aZ _,ab,.inl ab⟩,fun o i=>?_,fun o i=>?_⟩) (fun g hg=>.inl hg)
 ·unfold eM.kY;rw[n6];exact yP
 unfold eM.ke;rw[f];simp[fw]
theorem NY (d:fe) (s:eA) (o:Nat) (x:Wr) (rest:List Wr) (out:List eL):(s.store d o x rest out).2.2.2.eB=s.eB:=by
 unfold eA.store;simp only;split
 ·rfl
 unfold eA.answer;split<;>rfl
theorem yU {o:Nat}:∀(f:Nat) (d:fe) (s:eA) (out:List eL),(eA.iu f d s o out).2.2.eB=s.eB
 |0,_,_,_=>rfl
 |f+1,d,s,out=>by
  unfold eA.iu
  cases hx:s.eQ o with
  |nil=>rfl
  |cons x rest =>
   simp only;split
   ·rfl
   have h:(s.iE d o x rest out).2.2.2.eB=s.eB:=by
    unfold eA.iE;simp only;split
    ·rfl
    exact NY _ _ _ _ _ _
   generalize s.iE d o x rest out=r at h⊢;split
   ·rw[yU f];exact h
   exact h
theorem Eu:∀(a:List Nat) (d:fe) (s:eA) (out:List eL),(eA.gY a d s out).2.2.eB=s.eB
 | [],_,_,_=>rfl
 |k::a,d,s,out=>by
  unfold eA.gY;simp only;rw[Eu a];exact yU _ _ _ _
theorem NZ (d:fe) (s:eA) (eB:Int) (m:eL):(eA.take d s eB m).2.2.eB=s.eB\/(eA.take d s eB m).2.2.eB=(s.at_ eB).eB:=by
 have hv:=mV d s eB m;generalize eA.take d s eB m=r at hv⊢
 cases hv with
 |off=>exact .inl rfl
 |enq|ack=>exact .inr (yU _ _ _ _)
 |_=>exact .inr rfl
end fS
namespace fS
open Go.RowKit fD eY fK
structure qn (s:eA) (m:eL):Prop where
 ep:m.eS=s.eS
 gU:0<=m.eI->0<=m.fx/\m.fx<=200
 obj:m.eO=9->∃o:Nat,o<8/\m.eF=o
variable {d:fe} {s s':eA} {m:eL}
theorem lQ.sX (h:lQ d s m) (hs:nW d s) (g:d.eG.length<=200):qn s m:=
 ⟨h.ep,fun hc=>by
  have a:=hs _ hc;have b:=h.gU hc a.1
  omega,fun c=>by
  obtain⟨o,e,f,-⟩:=h.ig c
  exact⟨o,e,f⟩⟩
theorem qn.tJ (h:qn s m) (e:s'.eS=s.eS):qn s' m:=⟨h.ep.trans e.symm,h.gU,h.obj⟩
theorem yV {d:fe} {o:Nat} (c:o<8) (h8:s.fi.length=8) (ht:TL s.eW) (hd:s.eX=false) (a:(eA.fu d s o).2.2.eX=true):(eA.fu d s o).1=[]:=by
 cases hx:s.eQ o with
 |nil=>rw[pE (.inl hx)]
 |cons x rest =>
  cases hb:blocked s o with
  |true =>
   rw[rZ hx hd hb]at a;rw[hd]at a;cases a
  |false =>
   obtain⟨f,g,s',g1,g2,g3,g4⟩:=r9 (d:=d) c h8 ht hx hd hb;rw[g1]at a⊢;rcases g4 with⟨b,e,-⟩|⟨b,-⟩
   ·exact e
   simp only at a;rw[b]at a;cases a
theorem Ev:∀(a:List Nat) (d:fe) (s:eA) (out:List eL),s.eX=true->(eA.gY a d s out).1=out
 | [],_,_,_,_=>rfl
 |k::a,d,s,out,h=>by
  unfold eA.gY;rw[pE (.inr h)];simp only[bG];exact Ev a d s out h
theorem Ey {G:gd} (hu:jR G):∀(f:List Nat) {d:fe} {s:eA} (_:∀k∈f,k<8) (_:gF G d.eG s) (_:iW G d.eG) (_:SQ d s) (_:SB s) (_:nW d s) (_:s.eX=false) (_:d.eG.length+fP s<=199) (_:∀c,0<=c->0<=fT s.eW c) (out:List eL) (_:∀m∈out,qn s m),
 ∀m∈(eA.gY f d s out).1,qn s m
 | [],d,s,_,_,_,_,_,_,_,_,_,_,g=>g
 |k::f,d,s,o,h,i,p,hb,a,hd,l,hV,out,g=>by
  unfold eA.gY;simp only;have b:=o k aK
  cases hgd:(eA.fu d s k).2.2.eX with
  |true =>
   rw[Ev _ _ _ _ hgd,yV b hb.h8 hb.tl hd hgd,bG];exact g
  |false =>
   obtain⟨v1,v2⟩:=vT (V:=0) hu h i hb.h8 hb.tl a hd l b hgd hV;obtain⟨-,g2,g3,-⟩:=qK b h i;obtain⟨q,r⟩:=tn hu b h i p l;obtain⟨t,-⟩:=hb.iB (d:=d) b;have e:=a.more v1;have n:∀c,0<=c->0<=fT (eA.fu d s k).2.2.eW c:=fun c hc=>(v1.fT c hc).2 (hV c hc);have u:=r.load
   have:=Ey hu f (fun j hj=>o j (aI _ hj)) g3 g2 q t e hgd (aB u l) n (out++(eA.fu d s k).1) (fun m hm=>by
    rcases aN.1 hm with hm|hm
    ·exact (g m hm).tJ v1.ep
    exact (v2 m hm).sX e ab)
   exact fun m hm=>(this m hm).tJ v1.ep.symm
theorem Kn.tK {V n:Int} {w:eC} {i:fe} {out:List eL} (h:Kn V n w) (hs:w.ff=some s) (z:kN w.eP.eG i.eG) (P:i.eG.length<=200) (I:s'.eB=w.eN.getD 0 0)
 (K:s'.eX=false->Sv V w.eP s i s'/\∀m∈out,lQ i s' m) (E:∀m∈out,qn s m):Kn V n ({w with eP:=i,ff:=some s'}.gf true out).iy:=by
 obtain⟨d,p⟩:=nm (eC.gf {w with eP:=i,ff:=some s'} true out:eC);(have e1:d.ff=some s':=by rw[p];rfl);(have q:d.eP=i:=by rw[p];rfl);(have B:d.eD=w.eD:=by rw[p];rfl);(have r:d.eZ=w.eZ:=by rw[p];rfl);(have u:d.eN=w.eN:=by rw[p];rfl);obtain⟨C,c1,c2⟩:=sc out w.eH true;(have J:d.eH.l=w.eH.l++C:=by rw[p];exact c1);have a:=h.si s hs;(have e:Ep d=Ep w:=by unfold Ep;rw[q];exact z.last);rw[<- p,D9 e1]
 cases QN:s'.eX with
 |true =>
  simp only[if_true];obtain⟨D,f⟩:=nm ({d with ff:=none}:eC);(have f1:D.ff=none:=by rw[f]);(have f2:D.eP=i:=by rw[f];exact q);(have F:Ep D=Ep w:=by unfold Ep;rw[f2];exact z.last);have g:Env V w D:=⟨dK F.symm,fun _ s PD=>(by rw[f1]at PD;cases PD),h.qY,fun s PD=>(by rw[f1]at PD;cases PD)⟩;rw[<- f];refine⟨h.hV,by rw[f];show d.eZ.fa=V;rw[r];exact h.vt,by rw[f];show kz d.eZ=true;rw[r];exact h.right,by rw[F,f2];have:=h.ep;have:=z.len;omega,by rw[f];show d.eN.length=d.eD.length+1;rw[u,B];exact h.lens,by rw[f];show ∀c∈d.eN,_;rw[u];exact h.ik,h.small,fun s PD=>(by rw[f1]at PD;cases PD),fun k c A=>?_,fun x T4=>?_⟩
  ·(have G:w.eD[k]?=some c:=by rw[f]at A;rw[<- B];exact A);exact (h.ci k c G).env g (by rw[f];show d.eN.getD (k+1) 0=_;rw[u]) (by rw[f];exact r) fun o=>by rw[f2];exact z.iI o
  (have L:x∈w.eH.l++C:=by rw[f]at T4;rw[<- J];exact T4);rcases aN.1 L with v|v
  ·exact (h.ni x v).env g
  have hm:=E _ (c2 x v);refine⟨fun hc _=>?_,fun hc hk=>?_⟩
  ·have b:=hm.gU hc;refine⟨by rw[hm.ep,a.ep];have:=h.ep;omega,b.1,b.2,.inr ⟨by rw[hm.ep,a.ep,F],fun s PD=>(by rw[f1]at PD;cases PD)⟩⟩
  obtain⟨o,o1,H⟩:=hm.obj hk;exact⟨o,o1,H,fun s PD=>(by rw[f1]at PD;cases PD)⟩
 |false =>
  simp only[bh,if_false];obtain⟨j,M⟩:=K QN;have y:nW i s':=a.gU.more j
  have g:Env V w d:=by
   refine⟨dK e.symm,fun _ t ht=>⟨s,hs,?_⟩,h.qY,fun t ht=>?_⟩
   ·rw[e1]at ht;obtain rfl:=aA ht;rw[q];exact j
   rw[e1]at ht;obtain rfl:=aA ht;rw[e,j.ep];exact a.ep
  refine⟨h.hV,by rw[r];exact h.vt,by rw[r];exact h.right,by rw[e,q];have:=h.ep;have:=z.len;omega,by rw[u,B];exact h.lens,by rw[u];exact h.ik,h.small,fun t ht=>?_,fun k c A=>?_,fun x T4=>?_⟩
  ·rw[e1]at ht;obtain rfl:=aA ht;have Q:=a.eB;have R:=a.quiet;refine⟨by rw[u];exact I,by rw[r,j.eZ];exact a.eZ,by rw[j.quiet,I];omega,fun c hc=>?_,by rw[e,j.ep];exact a.ep,by rw[q];exact y⟩;have v1:=a.fT c hc;have v2:=j.fT c hc;exact⟨v2.2 v1.1,ab⟩
  ·rw[B]at A;exact (h.ci k c A).env g (by rw[u]) r fun o=>by rw[q];exact z.iI o
  rw[J]at T4;rcases aN.1 T4 with v|v
  ·exact (h.ni x v).env g
  have hm:=M _ (c2 x v)
  have N:0<=x.eU.eI->qk d x.eU.eI x.eU.eS x.eU.fx:=fun hc=>by
   have b:=hm.gU hc (y _ hc).1;have S:=(y _ hc).2;refine⟨?_,b.1,ab,.inr ⟨?_,fun t ht=>?_⟩⟩
   ·rw[hm.ep,j.ep,a.ep];have:=h.ep;omega
   ·rw[hm.ep,j.ep,a.ep,e]
   rw[e1]at ht;obtain rfl:=aA ht;exact b.2
  refine⟨fun hc _=>N hc,fun hc hk=>?_⟩;obtain⟨o,o1,H,O⟩:=hm.ig hk;exact⟨o,o1,H,fun t ht _ _=>by rw[e1]at ht;obtain rfl:=aA ht;rw[q];exact O⟩
end fS
namespace fS
open Go.RowKit fD eY fK
theorem Oa {d:fe} {s:eA} (hb:SB s) (hd:s.eX=false) (eB:Int) {m:eL} (b:(eA.take d s eB m).2.2.eX=true):(eA.take d s eB m).1=[]:=by
 have a:=hb.lg eB;have d1:(s.at_ eB).eX=false:=hd;have hv:=mV d s eB m;generalize eA.take d s eB m=r at hv b⊢;generalize s.at_ eB=z at hv a d1
 cases hv with
 |enq _ _ c=>exact yV (jA c).2.1 (by simpa[kW]using a.h8) a.tl d1 b
 |ack _ _ c=>exact yV (jA c).2.1 a.h8 ⟨a.tl.nv,a.tl.ns⟩ d1 b
 |off=>exact absurd (hd.symm.trans b) aj
 |_=>exact absurd (d1.symm.trans b) aj
variable {V n:Int} {w:eC}
theorem sd (h:Kn V n w):0<=w.eN.getD 0 0/\w.eN.getD 0 0<=n:=by
 rw[aC,ay (by have:=h.lens;omega)];exact h.ik _ (bO _)
theorem Kn.ku {b:Int} {G:gd} (h:Kn V n w) (hi:Inv b G w) (P:NB w) (Q:PS w) (Z:Pi w<=195) (p:Int):Kn V n (w.gS p).2:=by
 unfold eC.gS;split
 ·exact h
 cases hl:w.eH.l[p.toNat]? with
 |none=>exact h
 |some g =>
  simp only;have I:g∈w.eH.l:=aT hl;have hm:im G w.eP.eG g.eU:=hi.eH g I;have y:=h.ni g I;obtain⟨f,i⟩:=nm (eC.fA {w with eH:={w.eH with l:=w.eH.l.eraseIdx p.toNat} }:eC);(have s1:f.ff=w.ff:=by rw[i];rfl);(have c1:f.eD=w.eD:=by rw[i];rfl);(have d1:f.eP=w.eP:=by rw[i];rfl);(have z:f.eN=w.eN:=by rw[i];rfl);(have t1:f.eZ=w.eZ:=by rw[i];rfl);have n1:f.eH.l=w.eH.l.eraseIdx p.toNat:=by rw[i];rfl
  have q:Kn V n f:=by
   rw[i];exact (h.kt (nt:={w.eH with l:=w.eH.l.eraseIdx p.toNat}) fun x R=>bF R).lZ
  have A:Env V w f:=.still s1 (by rw[d1]) h.qY;have B:=qi hi;rw[<- i];split
  ·split
   ·exact q
   rename_i s hs;have S:f.ff=some s:=hs;(have t:w.ff=some s:=by rw[<- s1];exact hs);have J:=hi.ff s t;have k:=h.si s t;have K:=P.sb s t;have L:=Q.up s t;(have T:w.eP.eG.length+fP s<=198:=by unfold iq at B;rw[t]at B;simp only at B;omega);have P6:=sd h;(have U:0<=s.eB/\s.eB<=half:=by rw[k.eB];have:=h.small;unfold half;omega);have C:∀c,0<=c->0<=fT s.eW c:=fun c hc=>(k.fT c hc).1;have hV:=h.hV;(have D:s.eZ.fa=V:=by rw[k.eZ];exact h.vt);(have ed:eA.take f.eP s (f.eN.getD 0 0) g.eU=eA.take w.eP s (w.eN.getD 0 0) g.eU:=by rw[d1,z]);rw[ed];clear ed;have M:=NJ w.eP s (w.eN.getD 0 0) g.eU;have u:=NZ w.eP s (w.eN.getD 0 0) g.eU;have N:=vb J hi.eG (w.eN.getD 0 0) hm;have E:=Eg (V:=V) hi.uniq J hi.eG K k.gU L T C D ab U (w.eN.getD 0 0) hm;have v:=Oa (d:=w.eP) K L (w.eN.getD 0 0) (m:=g.eU);generalize eA.take w.eP s (w.eN.getD 0 0) g.eU=r at M u N E v⊢;have O:r.2.1.eG.length<=200:=N.2.1.len
   have W:(s.at_ (w.eN.getD 0 0)).eB=w.eN.getD 0 0:=by
    show max s.eB (min (w.eN.getD 0 0) half)=_;have:=h.small;rw[k.eB];unfold half;omega
   refine q.tK S (by rw[d1];exact M) O ?_ (fun hd=>by rw[d1];exact E hd) fun m j=>?_
   ·rw[z];rcases u with e|e
    ·rw[e];exact k.eB
    rw[e];exact W
   cases QN:r.2.2.eX with
   |true=>rw[v QN]at j;cases j
   |false =>
    obtain⟨v1,v2⟩:=E QN;exact ((v2 m j).sX (k.gU.more v1) O).tJ v1.ep.symm
  split
  ·rename_i c hc;(have F:w.eD[g.to.toNat]?=some c:=by rw[<- c1];exact hc);have hid:=(hi.eD _ _ F).id;have hr:=oT h.right;have X:=NM (h.ci _ c F) hid (by have:=h.hV;omega) ab h.vt (by have:=h.pH F;have:=h.small;omega) hm y;(have H:CI V f g.to.toNat (c.take g.eU).2:=X.env A (by rw[z]) t1 fun o=>by rw[d1];exact ax _);refine Kn.oy ?_ _;refine q.qm ai ai ai ai (by simp[eC.gf]) (tH q.ci H) (yR fun m j=>?_);rcases qd c g.eU with e|⟨-,a,e,Y⟩
   ·rw[e]at j;cases j
   rw[e]at j;rw[aD.1 j,Y];decide
  exact q
end fS
namespace fS
open Go.RowKit fD eY fK
theorem Ez:∀(l:List Nat) (n:Nat),(∀x∈l,x<=n)->l.sum<=n*l.length
 | [],_,_=>ae
 |x::l,n,h=>by
  have a:=Ez l n fun y hy=>h y (aI _ hy);have b:=h x aK;simp only[bN,aL,Nat.mul_add];omega
variable {w:eC}
theorem EA (h:NB w):iq w<=80:=by
 unfold iq
 cases hs:w.ff with
 |none=>simp
 |some s =>
  have hb:=h.sb s hs
  have a:=Ez (s.fi.map List.length) 10 fun x hx=>by
   obtain⟨q,c,rfl⟩:=aW.1 hx;obtain⟨o,b,e⟩:=cX c;(have d:s.eQ o=q:=by simp[eA.eQ,List.getD_eq_getElem?_getD,b,e]);rw[<- d];exact hb.oD o (by rw[<- hb.h8];exact b)
  rw[aX,hb.h8]at a;exact a
variable {b:Int} {G:gd} {p:Nat}
theorem yW (c:p<=195):∀(f:Nat) {w:eC} (_:Inv b G w) (_:PS w) (_:Pi w<=p),PS (eC.ia f w)/\Pi (eC.ia f w)<=p
 |0,_,_,h,a=>⟨h,a⟩
 |f+1,w,hi,h,a=>by
  unfold eC.ia;split
  ·exact⟨h,a⟩
  obtain⟨d,a2⟩:=yH hi h (aB a c) 0;exact yW c f (oO hi 0) d (aB a2 a)
theorem EB {k:Nat} {n:Int} (d:k<4) (e:p<=193):∀(f:Nat) {w:eC} (_:Inv b G w) (_:PS w) (_:pG w k n p\/Pi w<=p),PS (eC.ia f w)/\(pG (eC.ia f w) k n p\/Pi (eC.ia f w)<=p)
 |0,_,_,h,c=>⟨h,c⟩
 |f+1,w,hi,h,c=>by
  unfold eC.ia;split
  ·exact⟨h,c⟩
  have hle:Pi w<=195:=by
   rcases c with a|a
   ·exact aB (a.le d h) ab
   omega
  obtain⟨g,a2⟩:=yH hi h hle 0;refine EB d e f (oO hi 0) g ?_;rcases c with a|a
  ·exact a.gS hi h d e
  exact .inr (aB a2 a)
theorem Ob (hi:Inv b G w) (hb:b<1000000) (L:NB w) (M:PS w) (V:Pi w<=190) (k:Nat) :
 NB (w.fh k).2.gi/\PS (w.fh k).2.gi/\((((w.fh k).2.gi).eH.l=[]/\Pi (w.fh k).2.gi<=Pi w/\Wn (w.fh k).2.gi<=80)\/(Pi (w.fh k).2.gi<=Pi w+2/\Wn (w.fh k).2.gi+973<=Wn w)):=by
 have i:=tD hi L M k;have t:=nP hi hb k
 have key:k<4/\(∃n,pG (w.fh k).2 k n (Pi w))\/Pi (w.fh k).2<=Pi w:=by
  unfold eC.fh;split
  ·exact .inr (ax _)
  split
  ·rename_i c hc;rw[bo]at hc;have N:=hi.eD _ _ hc;have C:k<4:=aG (az.1 hc).1 hi.gz
   have u:iX c.fh.2=iX c:=by
    rcases kO c with⟨-,-,h,-⟩|⟨-,h⟩
    ·exact h.cur
    rw[h]
   obtain⟨a,o⟩:=nm (eC.gf (eC.fA {w with eD:=w.eD.set k c.fh.2}) false c.fh.1:eC);(have e1:a.ff=w.ff:=by rw[o];rfl);(have f:a.eP=w.eP:=by rw[o];rfl);have O:a.eH=gV w.eH false c.fh.1:=by rw[o];rfl
   have v:∀j,gA a j=gA w j:=fun j=>by
    have h:=vO (w:=w) (c':=c.fh.2) hc j;(have P:gA a j=gA {w with eD:=w.eD.set k c.fh.2} j:=by rw[o];rfl);rw[P,h,u];split
    ·rename_i e;unfold gA;rw[e,hc]
    rfl
   (have x:∀j:Int,Ew a j=Ew w j:=fun j=>by unfold Ew;rw[e1]);(have D:Tw a=Tw w:=by unfold Tw;rw[e1,f]);show k<4/\(∃n,pG (eC.gf (eC.fA {w with eD:=w.eD.set (Int.toNat (k:Int)) c.fh.2}) false c.fh.1) k n (Pi w))\/Pi (eC.gf (eC.fA {w with eD:=w.eD.set (Int.toNat (k:Int)) c.fh.2}) false c.fh.1)<=Pi w;rw[bo,<- o]
   have y:(∀j:Int,fO a.eH.l j=fO w.eH.l j)\/(c.fB=true/\c.call.eO=2/\∃(A:List fY) (g:fY),a.eH.l=A++[g]/\g.eU.eO=2/\g.eU.eI=(k:Int)/\g.eU.eK=c.fE/\∀j:Int,fO A j=fO w.eH.l j):=by
    have E:∀n:Net,(∀j:Int,fO n.l j=fO w.eH.l j)->(∀j:Int,fO (gV n false c.asks).l j=fO w.eH.l j)\/(c.fB=true/\c.call.eO=2/\∃(A:List fY) (g:fY),(gV n false c.asks).l=A++[g]/\g.eU.eO=2/\g.eU.eI=(k:Int)/\g.eU.eK=c.fE/\∀j:Int,fO A j=fO w.eH.l j):=fun n hn=>by
     rcases nY c with⟨s,q⟩|⟨s,q⟩
     ·rw[q];exact .inl hn
     rw[q]
     rcases Ei n false (c.fG {iH with eO:=c.call.eO,eK:=c.fE,eF:=c.call.eF,data:=if c.call.eO=2 then c.call.value.data else []})with h|⟨F,a2,a3,a4⟩
     ·exact .inl fun j=>(h j).trans (hn j)
     exact .inr ⟨s,F,n.l,_,a4,F,N.id,rfl,hn⟩
    rw[O];rcases kO c with⟨-,h,-⟩|⟨-,h⟩
    ·rw[h,Ej];exact E _ fun j=>pF _ _ _ _ fun m hm=>by rw[aD.1 hm];simp[mJ,eM.fG]
    rw[h];exact E w.eH fun _=>rfl
   rcases y with h|⟨s,q,A,g,H,Q,I,R,J⟩
   ·right;refine qg (fun j _=>?_) (by rw[f,D];exact ax _);unfold gn;rw[x,f,v,h];exact ax _
   left
   have d:gA w k=some c.fE:=by
    (have e0:gA w k=iX c:=by unfold gA;rw[hc]);rw[e0];unfold iX;rw[s,q];rfl
   refine⟨C,c.fE,A,g,[],H,Q,I,R,rfl,?_,.inl (by rw[v];exact d)⟩
   have r:∀j:Nat,j≠k->gn a j=gn w j:=fun j hj=>by
    unfold gn;rw[x,f,v,H,nF,J,mH,if_neg (fun e=>hj (by have:=e.2;rw[I]at this;omega))];simp[fO]
   have S:gl (Ew a k) (fO A k) (gg a.eP.eG k) (some c.fE)=gn w k:=by
    unfold gn;rw[x,f,J,d]
   have z:Pv a k c.fE (fO A k)<=Pv w k c.fE (fO w.eH.l k):=yQ (fun j _ hj=>cZ (r j hj)) (by rw[S];unfold gn;rw[d];exact ax _) (by rw[f,D];exact ax _) C;refine aB z ?_;have:k=0\/k=1\/k=2\/k=3:=ab;unfold Pv Pi;rcases this with rfl|rfl|rfl|rfl
   ·(have e:gl (Ew w 0) (fO w.eH.l ((0:Nat):Int)) (gg w.eP.eG 0) (some c.fE)=gn w 0:=by unfold gn;rw[d];rfl);simp only[if_true,show ¬(0:Nat)=1 by omega,show ¬(0:Nat)=2 by omega,show ¬(0:Nat)=3 by omega,if_false,e];exact ax _
   ·(have e:gl (Ew w 1) (fO w.eH.l ((1:Nat):Int)) (gg w.eP.eG 1) (some c.fE)=gn w 1:=by unfold gn;rw[d];rfl);simp only[if_true,show ¬(1:Nat)=0 by omega,show ¬(1:Nat)=2 by omega,show ¬(1:Nat)=3 by omega,if_false,e];exact ax _
   ·(have e:gl (Ew w 2) (fO w.eH.l ((2:Nat):Int)) (gg w.eP.eG 2) (some c.fE)=gn w 2:=by unfold gn;rw[d];rfl);simp only[if_true,show ¬(2:Nat)=0 by omega,show ¬(2:Nat)=1 by omega,show ¬(2:Nat)=3 by omega,if_false,e];exact ax _
   (have e:gl (Ew w 3) (fO w.eH.l ((3:Nat):Int)) (gg w.eP.eG 3) (some c.fE)=gn w 3:=by unfold gn;rw[d];rfl);simp only[if_true,show ¬(3:Nat)=0 by omega,show ¬(3:Nat)=1 by omega,show ¬(3:Nat)=2 by omega,if_false,e];exact ax _
  exact .inr (ax _)
 obtain⟨f1,-,-,f4⟩:=yD 1000 t i.nb;have T:=i.wn;have U:=i.pi;show NB (eC.ia 1000 (w.fh k).2)/\PS (eC.ia 1000 (w.fh k).2)/\_;unfold eC.gi
 obtain⟨c1,c2⟩:PS (eC.ia 1000 (w.fh k).2)/\(((eC.ia 1000 (w.fh k).2).eH.l=[]->Pi (eC.ia 1000 (w.fh k).2)<=Pi w)/\Pi (eC.ia 1000 (w.fh k).2)<=Pi w+2):=by
  rcases key with⟨K,n,hc⟩|h
  ·obtain⟨g1,g2⟩:=EB K ab 1000 t i.ps (.inl hc);refine⟨g1,?_,?_⟩
   ·intro hn;rcases g2 with g2|g2
    ·obtain⟨A,g,B,e,-⟩:=g2;rw[hn]at e;simp at e
    exact g2
   rcases g2 with g2|g2
   ·exact g2.le K g1
   omega
  obtain⟨g1,g2⟩:=yW (p:=Pi w) ab 1000 t i.ps h;exact⟨g1,fun _=>g2,ab⟩
 refine⟨f1,c1,?_⟩;rcases f4 with f4|f4
 ·left;refine⟨f4,c2.1 f4,?_⟩;have:=EA f1;unfold Wn;rw[f4];simp only[iU,bD,ez];omega
 right;exact⟨c2.2,ab⟩
end fS
end Go.Proofs.YtjhdaojclilakaaGreatDoor
