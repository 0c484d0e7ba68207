/-
  A part of the proof of the law DeskPieces: WoA, WoB, WoC, WoG, WoH, WoI, WoD, WoE, WoF, WoJ.
-/
import Derived.Test.YtlhodcmdpchllaaGreatDoorHd
import Derived.Test.YtlhodcmdpchllaaGreatDoorP19
import Derived.Test.YtlhodcmdpchllaaGreatDoorP31
set_option maxHeartbeats 16000000
set_option maxRecDepth 1000000
namespace Go.Proofs.YtlhodcmdpchllaaGreatDoor
namespace fe
open Go.RowKit heap own eO fq eK dR eZ
open dI (dW dC dJ ga fB eA gL Net dB)
def fZ (e:fB):List Value:=[.int .i64 e.dL,.int .i64 e.call.dT,.int .i64 e.call.dF,.string ⟨e.call.value.data.toArray⟩,.int .i64 e.call.value.dY,.bool e.call.over,.bool e.call.hit,.int .i64 e.mF,.int .i64 e.ended,.int .i64 e.eW]
theorem ni (e:fB):(fZ e).length=10:=rfl
def ints (l:List Int):List Value:=l.map (Value.int .i64)
def dg (g:gL):Int×List UInt8:=(g.to,jk g.gJ)
structure WV where
 sp:Value
 cl:Value
 li:Value
 ck:Value
 nl:Value
 ev:Value
 op:Value
 fW:List Nat
def kX (db:Nat) (v:WV) (r:dB):Array Value:=#[.int .i64 r.eJ.dF,.int .i64 r.eJ.ei,.int .i64 r.eJ.eS,.pointer (some ⟨db,0,none⟩),v.sp,v.cl,v.li,v.ck,v.nl,.int .i64 r.dM.lost,v.ev,v.op,.int .i64 r.step]
def gY (P:Lib.PrintTabs) (own:Nat->Nat) (w0 w:World) (db:Nat) (sp:Value) (d:dW):Option dC->Prop
 |some s=>∃sb wb dm tb tm v ps qs,sp=.pointer (some ⟨sb,0,none⟩)/\eh P own w0 w sb db wb dm tb tm v ps qs d s
 |none=>sp=.pointer none/\∃ps,iW P own w0 w db ps d
structure dP (P:Lib.PrintTabs) (own:Nat->Nat) (w0 w:World) (ob db:Nat) (v:WV) (r:dB):Prop where
 fr:∀g,w.heap.size<=g->own g=0
 low:∀g,own g≠0->w0.heap.size<=g
 o_:Has w ob (.cells (kX db v r) 72)
 fh:own ob=60
 dR:gY P own w0 w db v.sp r.eM r.eD
 cl:Row own 61 w 75 1 v.cl r.dG.length (v.fW.map fun b=>Value.pointer (some ⟨b,0,none⟩))
 pl:v.fW.length=r.dG.length
 cls:∀k c,r.dG[k]?=some c->∃cb fm sm cv,v.fW[k]?=some cb/\eB own (20+4*k) w cb fm sm cv c
 ft:r.dG.length<=4
 li:Row own 62 w 3 1 v.li r.eH.length (ints r.eH)
 ck:Row own 63 w 3 1 v.ck r.ee.length (ints r.ee)
 ev:Row own 64 w 127 10 v.ev r.ef.length (r.ef.flatMap fZ)
 op:Row own 65 w 3 1 v.op r.eC.length (ints r.eC)
 dM:dM.jM own 66 w v.nl (r.dM.l.map dg)
 right:∀g∈r.dM.l,g.gJ.right=true
 nl:r.eH.length=r.dG.length
 nc:r.dG.length+1<=r.ee.length/\r.ee.length<=5
 no:r.eC.length=r.dG.length
section
variable {P:Lib.PrintTabs} {own own1:Nat->Nat} {w0 w w':World} {ob db:Nat} {v:WV} {r:dB} {S:Nat->Prop}
theorem dP.fF (h:dP P own w0 w ob db v r):Below w0.heap.size w0 w:=by
 have h1:=h.dR;unfold gY at h1;split at h1
 ·obtain⟨sb,wb,dm,tb,tm,v,ps,qs,-,h2⟩:=h1;exact h2.fF
 obtain⟨-,ps,h2⟩:=h1;exact h2.fF
theorem gY.ej {d:dW} {sp:Value} {o:Option dC} (h:gY P own w0 w db sp d o) (ht:dD S w w') (he:Ext w own own1) (hf:∀g,w'.heap.size<=g->own1 g=0) (hs:∀g,g<w.heap.size->S g->¬ey own g/\w0.heap.size<=g):gY P own1 w0 w' db sp d o:=by
 unfold gY at h⊢;split at h
 ·obtain⟨sb,wb,dm,tb,tm,v,ps,qs,h1,h2⟩:=h;exact⟨sb,wb,dm,tb,tm,v,ps,qs,h1,h2.er ht he hf hs⟩
 obtain⟨h1,ps,h2⟩:=h;refine⟨h1,ps,h2.er ht he hf fun g hg hS=>⟨fun e=>(hs g hg hS).1 ?_,(hs g hg hS).2⟩⟩;unfold ey;rw[e,h2.gq];decide
theorem dP.eD (h:dP P own w0 w ob db v r) (ht:dD (ey own) w w') (he:Ext w own own1) (hf:∀g,w'.heap.size<=g->own1 g=0) (Ly:∀g,own1 g≠0->w0.heap.size<=g) (d:dW) (s:Option dC) (hs:gY P own1 w0 w' db v.sp d s):dP P own1 w0 w' ob db v {r with eM:=d,eD:=s}:=by
 (have no:∀g k,own g=k->20<=k->¬ey own g:=fun g k hk h1 e=>by unfold ey at e;omega);have lo:=h.o_.lt;refine⟨hf,Ly,ht.has h.o_ (no _ 60 h.fh (by decide)),(he _ lo).trans h.fh,hs,h.cl.ej ht he fun k _ hk=>no k 61 hk (by decide),h.pl,fun k c hc=>?_,h.ft,h.li.ej ht he fun k _ hk=>no k 62 hk (by decide),h.ck.ej ht he fun k _ hk=>no k 63 hk (by decide),h.ev.ej ht he fun k _ hk=>no k 64 hk (by decide),h.op.ej ht he fun k _ hk=>no k 65 hk (by decide),?_,h.right,h.nl,h.nc,h.no⟩
 ·obtain⟨cb,fm,sm,cv,h1,h2⟩:=h.cls k c hc;exact⟨cb,fm,sm,cv,h1,h2.er ht he fun g _ hS hc=>by unfold ey at hS;unfold fC at hc;omega⟩
 obtain⟨ps,h1,h2,h3,h4⟩:=h.dM;exact⟨ps,h1,h2.ej ht he fun k _ hk=>no k 66 hk (by decide),fun p hp=>(h3 p hp).ej ht he fun k _ hk=>no k 67 hk (by decide),h4⟩
theorem dP.dL (h:dP P own w0 w ob db v r) (k:Nat) (hk:k<r.dG.length) (ht:dD (fC own (20+4*k)) w w') (he:Ext w own own1) (hf:∀g,w'.heap.size<=g->own1 g=0) (Ly:∀g,own1 g≠0->w0.heap.size<=g) (c':dJ) (hc:∃cb fm sm cv,v.fW[k]?=some cb/\eB own1 (20+4*k) w' cb fm sm cv c'):dP P own1 w0 w' ob db v {r with dG:=r.dG.set k c'}:=by
 have Ut:k<4:=ay hk h.ft;(have no:∀g i,own g=i->60<=i->¬fC own (20+4*k) g:=fun g i hi h1 e=>by unfold fC at e;omega);have lo:=h.o_.lt;refine⟨hf,Ly,ht.has h.o_ (no _ 60 h.fh (by decide)),(he _ lo).trans h.fh,h.dR.ej ht he hf fun g _ hS=>?_,?_,?_,fun j c hj=>?_,?_,h.li.ej ht he fun i _ hi=>no i 62 hi (by decide),h.ck.ej ht he fun i _ hi=>no i 63 hi (by decide),h.ev.ej ht he fun i _ hi=>no i 64 hi (by decide),h.op.ej ht he fun i _ hi=>no i 65 hi (by decide),?_,h.right,?_,?_,?_⟩
 ·unfold fC at hS;exact⟨fun e=>by unfold ey at e;omega,h.low g (by omega)⟩
 ·rw[aN];exact h.cl.ej ht he fun i _ hi=>no i 61 hi (by decide)
 ·rw[aN];exact h.pl
 ·have OU:(r.dG.set k c')[j]?=some c:=hj;rw[List.getElem?_set]at OU;split at OU
  ·rename_i X1;subst X1;cases OU;exact hc
  rename_i X1;obtain⟨cb,fm,sm,cv,h1,h2⟩:=h.cls j c OU;exact⟨cb,fm,sm,cv,h1,h2.er ht he fun g _ hS hc=>by unfold fC at hS hc;omega⟩
 ·rw[aN];exact h.ft
 ·obtain⟨ps,h1,h2,h3,h4⟩:=h.dM;exact⟨ps,h1,h2.ej ht he fun i _ hi=>no i 66 hi (by decide),fun p hp=>(h3 p hp).ej ht he fun i _ hi=>no i 67 hi (by decide),h4⟩
 ·rw[aN];exact h.nl
 ·rw[aN];exact h.nc
 rw[aN];exact h.no
theorem dP.ej (h:dP P own w0 w ob db v r) (ht:dD S w w') (he:Ext w own own1) (hf:∀g,w'.heap.size<=g->own1 g=0) (Ly:∀g,own1 g≠0->w0.heap.size<=g) (hs:∀g,g<w.heap.size->S g->own g=0/\w0.heap.size<=g):dP P own1 w0 w' ob db v r:=by
 (have no:∀g i,g<w.heap.size->own g=i->0<i->¬S g:=fun g i hg hi h1 e=>by have:=(hs g hg e).1;omega);have lo:=h.o_.lt;refine⟨hf,Ly,ht.has h.o_ (no _ 60 lo h.fh (by decide)),(he _ lo).trans h.fh,h.dR.ej ht he hf fun g hg hS=>⟨fun e=>by have:=(hs g hg hS).1;unfold ey at e;omega,(hs g hg hS).2⟩,h.cl.ej ht he fun i hg hi=>no i 61 hg hi (by decide),h.pl,fun k c hc=>?_,h.ft,h.li.ej ht he fun i hg hi=>no i 62 hg hi (by decide),h.ck.ej ht he fun i hg hi=>no i 63 hg hi (by decide),h.ev.ej ht he fun i hg hi=>no i 64 hg hi (by decide),h.op.ej ht he fun i hg hi=>no i 65 hg hi (by decide),?_,h.right,h.nl,h.nc,h.no⟩
 ·obtain⟨cb,fm,sm,cv,h1,h2⟩:=h.cls k c hc;exact⟨cb,fm,sm,cv,h1,h2.er ht he fun g hg hS hc=>by have:=(hs g hg hS).1;unfold fC at hc;omega⟩
 obtain⟨ps,h1,h2,h3,h4⟩:=h.dM;exact⟨ps,h1,h2.ej ht he fun i hg hi=>no i 66 hg hi (by decide),fun p hp=>(h3 p hp).ej ht he fun i hg hi=>no i 67 hg hi (by decide),h4⟩
theorem dP.below (h:dP P own w0 w ob db v r) (hb:Below w.heap.size w w') (hf:∀g,w'.heap.size<=g->own g=0):dP P own w0 w' ob db v r:=
 h.ej (S:=fun _=>False) (dD.fw hb (aq _)) (Ext.refl _ _) hf h.low fun _ _ h=>h.elim
theorem dP.drewN (h:dP P own w0 w ob db v r) (n:Nat):dP P own w0 (w.drewN n) ob db v r:=h.below (below_drewN (Below.refl _ _) n) h.fr
theorem dP.tI (h:dP P own w0 w ob db v r) (n k:Int) (sp:Value) (o:Option dC) (ht:dD (fun g=>g=ob) w w') (hp:gY P own w0 w' db sp r.eM o) (hs:Has w' ob (.cells (kX db {v with sp:=sp} {r with eD:=o,step:=n,dM:={r.dM with lost:=k} }) 72)):dP P own w0 w' ob db {v with sp:=sp} {r with eD:=o,step:=n,dM:={r.dM with lost:=k} }:=by
 (have no:∀g i,own g=i->i≠60->¬g=ob:=fun g i hi h1 e=>by rw[e,h.fh]at hi;exact h1 hi.symm);have fr:∀g,w'.heap.size<=g->own g=0:=fun g hg=>h.fr g (az ht.size hg);have he:=Ext.refl w own;refine⟨fr,h.low,hs,h.fh,hp,h.cl.ej ht he fun i _ hi=>no i 61 hi (by decide),h.pl,fun k c hc=>?_,h.ft,h.li.ej ht he fun i _ hi=>no i 62 hi (by decide),h.ck.ej ht he fun i _ hi=>no i 63 hi (by decide),h.ev.ej ht he fun i _ hi=>no i 64 hi (by decide),h.op.ej ht he fun i _ hi=>no i 65 hi (by decide),?_,h.right,h.nl,h.nc,h.no⟩
 ·obtain⟨cb,fm,sm,cv,h1,h2⟩:=h.cls k c hc;have hk:k<4:=ay (ar.mp hc).1 h.ft;exact⟨cb,fm,sm,cv,h1,h2.er ht he fun g _ hS hc=>by unfold fC at hc;rw[hS,h.fh]at hc;omega⟩
 obtain⟨ps,h1,h2,h3,h4⟩:=h.dM;exact⟨ps,h1,h2.ej ht he fun i _ hi=>no i 66 hi (by decide),fun p hp=>(h3 p hp).ej ht he fun i _ hi=>no i 67 hi (by decide),h4⟩
theorem dP.yv (h:dP P own w0 w ob db v r) (ht:dD (fun g=>g=ob) w w'):gY P own w0 w' db v.sp r.eM r.eD:=
 h.dR.ej ht (Ext.refl w own) (fun g hg=>h.fr g (az ht.size hg)) fun g _ hS=>⟨fun e=>by unfold ey at e;rw[hS,h.fh]at e;omega,by rw[hS];exact h.low ob (by rw[h.fh];decide)⟩
theorem dP.Fx (h:dP P own w0 w ob db v r) (n:Int):dP P own w0 (w.setCell ⟨ob,12,none⟩ (.int .i64 n)) ob db v {r with step:=n}:=
 h.tI n r.dM.lost v.sp r.eD (dZ.fp (dD.refl _ _) _ _) (h.yv (dZ.fp (dD.refl _ _) _ _)) (h.o_.eu 12 (.int .i64 n))
theorem gY.none {d:dW} {sp:Value} {o:Option dC} (h:gY P own w0 w db sp d o):gY P own w0 w db (.pointer none) d none:=by
 unfold gY at h;split at h
 ·obtain⟨sb,wb,dm,tb,tm,v,ps,qs,-,h2⟩:=h;exact⟨rfl,ps,h2.eM⟩
 obtain⟨-,ps,h2⟩:=h;exact⟨rfl,ps,h2⟩
theorem dP.qQ (h:dP P own w0 w ob db v r):dP P own w0 (w.setCell ⟨ob,4,none⟩ (.pointer none)) ob db {v with sp:=.pointer none} {r with eD:=none}:=
 h.tI r.step r.dM.lost (.pointer none) none (dZ.fp (dD.refl _ _) _ _) (h.yv (dZ.fp (dD.refl _ _) _ _)).none (h.o_.eu 4 (.pointer none))
def trim (own:Nat->Nat) (w:World):Nat->Nat:=fun g=>if g<w.heap.size then own g else 0
theorem oa (own:Nat->Nat) (w:World):Ext w own (trim own w):=fun _ hk=>if_pos hk
theorem Fy (own:Nat->Nat) (w:World):∀g,w.heap.size<=g->trim own w g=0:=fun _ hg=>if_neg (Nat.not_lt.mpr hg)
theorem Fz {T:Nat} {u:Value} {l:List dM.Dg} (h:dM.jM own T w u l):dM.jM (trim own w) T w u l:=by
 obtain⟨ps,h1,h2,h3,h4⟩:=h;have ht:dD (fun _=>False) w w:=dD.refl _ _;exact⟨ps,h1,h2.ej ht (oa own w) fun _ _ _ h=>h,fun p hp=>(h3 p hp).ej ht (oa own w) fun _ _ _ h=>h,h4⟩
theorem dP.lx (h:dP P own w0 w ob db v r) (N:Net) (u:Value) (ht:dD (fun g=>g=ob\/own g=66) w w') (he:Ext w own own1) (hs:Has w' ob (.cells (kX db {v with nl:=u} {r with dM:=N}) 72)) (hg:dM.jM own1 66 w' u (N.l.map dg)) (hr:∀g∈N.l,g.gJ.right=true):dP P (trim own1 w') w0 w' ob db {v with nl:=u} {r with dM:=N}:=by
 have no:∀g i,own g=i->i≠60->i≠66->¬(g=ob\/own g=66):=fun g i hi h1 h2 e=>by
  rcases e with e|e
  ·rw[e,h.fh]at hi;exact h1 hi.symm
  exact h2 (hi.symm.trans e)
 have fr:=Fy own1 w';have he:Ext w own (trim own1 w'):=fun k hk=>(oa own1 w' k (ay hk ht.size)).trans (he k hk);have lo:=h.o_.lt;have hw:w0.heap.size<=w.heap.size:=h.fF.size;refine⟨fr,fun g hg=>?_,hs,(he _ lo).trans h.fh,h.dR.ej ht he fr fun g _ hS=>?_,h.cl.ej ht he fun i _ hi=>no i 61 hi (by decide) (by decide),h.pl,fun k c hc=>?_,h.ft,h.li.ej ht he fun i _ hi=>no i 62 hi (by decide) (by decide),h.ck.ej ht he fun i _ hi=>no i 63 hi (by decide) (by decide),h.ev.ej ht he fun i _ hi=>no i 64 hi (by decide) (by decide),h.op.ej ht he fun i _ hi=>no i 65 hi (by decide) (by decide),Fz hg,hr,h.nl,h.nc,h.no⟩
 ·rcases aW g w.heap.size with h1|h1
  ·exact h.low g (by rw[<- he g h1];exact hg)
  omega
 ·rcases hS with hS|hS
  ·exact⟨fun e=>by unfold ey at e;rw[hS,h.fh]at e;omega,by rw[hS];exact h.low ob (by rw[h.fh];decide)⟩
  exact⟨fun e=>by unfold ey at e;omega,h.low g (by omega)⟩
 obtain⟨cb,fm,sm,cv,h1,h2⟩:=h.cls k c hc;have hk:k<4:=ay (ar.mp hc).1 h.ft;refine⟨cb,fm,sm,cv,h1,h2.er ht he fun g _ hS hc=>?_⟩;unfold fC at hc;rcases hS with hS|hS
 ·rw[hS,h.fh]at hc;omega
 omega
theorem dP.fL (h:dP P own w0 w ob db v r) (g:gL) (Mr:g.gJ.right=true) (hp:dM.rE own 66 ob 8 (kX db v r) 72 (r.dM.l.map dg) r.dM.lost (dg g) w w'):∃own1 v1,dP P own1 w0 w' ob db v1 {r with dM:=r.dM.send g}/\Ext w own own1/\dD (fun g=>g=ob\/own g=66) w w':=by
 obtain⟨own2,u,he,ht,hs,hg⟩:=hp
 have e1:(r.dM.send g).l.map dg=(dM.fL (r.dM.l.map dg) r.dM.lost (dg g)).1:=by
  unfold dM.fL Net.send;by_cases h1:200<=r.dM.l.length
  ·simp[h1]
  simp[h1]
 have e2:(r.dM.send g).lost=(dM.fL (r.dM.l.map dg) r.dM.lost (dg g)).2:=by
  unfold dM.fL Net.send;by_cases h1:200<=r.dM.l.length
  ·simp[h1]
  simp[h1]
 refine⟨_,_,h.lx (r.dM.send g) u ht he ?_ (by rw[e1];exact hg) fun x hx=>?_,fun k hk=>(oa own2 w' k (ay hk ht.size)).trans (he k hk),ht⟩
 ·rw[<- e2]at hs;exact hs
 unfold Net.send at hx;split at hx
 ·exact h.right x hx
 rcases aO.mp hx with h1|h1
 ·exact h.right x h1
 rw[aH.mp h1];exact Mr
end
section
variable {P:Lib.PrintTabs} {own:Nat->Nat} {w0:World} {ob db:Nat} {v:WV} {r:dB}
theorem oc (w:World) (h:dP P own w0 w ob db v r):Calls Tryz.prog 105 #[.pointer (some ⟨ob,0,none⟩)] w fun e w'=>e=.returned (.tuple #[])/\dP P own w0 w' ob db v r.eR/\dD (fun g=>g=ob) w w':=by
 have c12:w.cell? ⟨ob,12,none⟩=some (.int .i64 r.step):=h.o_.cell 12
 have f12:=h.o_.frozen 12
 have H:=Hd h
 clear h
 go_enter Tryz.func105,Tryz.ntmps105
 go_wp2
 go_end0
 exact⟨rfl,H.o.Fx _,dZ.fp (dD.refl _ _) _ _⟩
theorem rF (w:World) (k:Int) (h:dP P own w0 w ob db v r):Calls Tryz.prog 104 #[.pointer (some ⟨ob,0,none⟩),.int .i64 k] w fun e w'=>e=.returned (.bool (r.right k))/\w=w':=by
 obtain⟨a,cp,KW⟩:∃a cp,v.cl=.slice a r.dG.length cp:=by
  rcases h.cl.1.2 with⟨h1,h2⟩|⟨g,cap,cur,h1,-⟩
  ·have hn:r.dG.length=0:=by
    have:=h.cl.1.1;simp[h2]at this;rw[<- h.pl,this];rfl
   exact⟨_,_,by rw[h1,hn]⟩
  exact⟨_,_,h1⟩
 (have c5:w.cell? ⟨ob,5,none⟩=some (.slice a r.dG.length cp):=by rw[<- KW];exact h.o_.cell 5);have hlen:r.dG.length<=4:=h.ft;obtain⟨b,hb⟩:∃b,b=r.right k:=⟨_,rfl⟩;obtain⟨n,hn⟩:∃n,n=r.dG.length:=⟨_,rfl⟩;unfold dB.right at hb;rw[<- hn]at c5 hlen hb;rw[show r.right k=b from by rw[hb,hn];rfl];clear h KW hn;subst hb;(go_enter Tryz.func104,Tryz.ntmps104);by_cases h1:0<=k
 ·have e1:decide (0<=k)=true:=by simp[h1]
  go_wp2
  go_ret
  simp_all
 have e1:decide (0<=k)=false:=by simp[h1]
 go_wp2
 go_ret
 simp_all
theorem FA (w:World) (h:dP P own w0 w ob db v r):Calls Tryz.prog 113 #[.pointer (some ⟨ob,0,none⟩)] w fun e w'=>e=.returned (.tuple #[])/\(∃v',dP P own w0 w' ob db v' r.iu)/\dD (fun g=>g=ob) w w':=by
 have H:=Hd h;have f4:=h.o_.frozen 4;have c4:w.cell? ⟨ob,4,none⟩=some v.sp:=h.o_.cell 4;have hs:=h.dR;unfold gY at hs
 cases KK:r.eD with
 |none =>
  rw[KK]at hs
  obtain⟨h1,-⟩:=hs
  rw[h1]at c4
  have HE:Hy (r.iu=r):=Hd (by unfold dB.iu;rw[KK])
  clear h KK h1
  go_enter Tryz.func113,Tryz.ntmps113
  go_wp2_with fail
  go_end0
  exact⟨rfl,⟨v,by rw[HE.o];exact H.o.below (Below.refl _ _) H.o.fr⟩,dD.refl _ _⟩
 |some s =>
  rw[KK]at hs;obtain⟨sb,wb,dm,tb,tm,v1,ps,qs,h1,h2⟩:=hs;rw[h1]at c4;have HD:=Hd (qT w h2)
  cases hd:s.dU with
  |false =>
   rw[hd]at HD
   have HE:Hy (r.iu=r):=Hd (by unfold dB.iu;rw[KK];simp only[];rw[hd];rfl)
   clear h KK h1 h2 hd
   go_enter Tryz.func113,Tryz.ntmps113
   go_wp2_with (go_at_call 157;refine HD.o.mono ?_;rintro e w' ⟨rfl,rfl⟩)
   go_end0
   exact⟨rfl,⟨v,by rw[HE.o];exact H.o⟩,dD.refl _ _⟩
  |true =>
   rw[hd]at HD
   have HE:Hy (r.iu={r with eD:=none}):=Hd (by unfold dB.iu;rw[KK];simp only[];rw[hd];rfl)
   clear h KK h1 h2 hd
   go_enter Tryz.func113,Tryz.ntmps113
   go_wp2_with (go_at_call 157;refine HD.o.mono ?_;rintro e w' ⟨rfl,rfl⟩)
   go_end0
   exact⟨rfl,⟨_,by rw[HE.o];exact H.o.qQ⟩,dZ.fp (dD.refl _ _) _ _⟩
theorem mb {own:Nat->Nat} {T n size:Nat} {w:World} {e:TypeId} {v:Value} {xs:List Value} (h:Row own T w e size v n xs) (hs:0<size):∃a c,v=.slice a n c:=by
 rcases h.1.2 with⟨h1,h2⟩|⟨g,cap,cur,h1,-⟩
 ·have hn:n=0:=by
   have h3:=h.1.1;rw[h2]at h3;rcases bx n with h4|h4
   ·exact h4
   have:=Nat.mul_pos h4 hs;simp at h3;omega
  exact⟨_,_,by rw[h1,hn]⟩
 exact⟨_,_,h1⟩
theorem dP.pZ {w:World} (h:dP P own w0 w ob db v r):∃a c,v.nl=.slice a r.dM.l.length c:=by
 obtain⟨ps,-,h2,-⟩:=h.dM;have h3:=mb h2 (by decide);rw[aS]at h3;exact h3
theorem FB (w:World) (h:dP P own w0 w ob db v r):Calls Tryz.prog 80 #[.pointer (some ⟨ob,0,none⟩)] w fun e w'=>e=.returned (.bool r.eD.isSome)/\w=w':=by
 have c4:w.cell? ⟨ob,4,none⟩=some v.sp:=h.o_.cell 4;have hs:=h.dR;unfold gY at hs
 cases KK:r.eD with
 |none =>
  rw[KK]at hs;obtain⟨h1,-⟩:=hs;rw[h1]at c4;clear h KK h1;(go_enter Tryz.func80,Tryz.ntmps80);(go_wp2_with fail);go_ret;exact⟨rfl,rfl⟩
 |some s =>
  rw[KK]at hs;obtain⟨sb,wb,dm,tb,tm,v1,ps,qs,h1,-⟩:=hs;rw[h1]at c4;clear h KK h1;(go_enter Tryz.func80,Tryz.ntmps80);(go_wp2_with fail);go_ret;exact⟨rfl,rfl⟩
theorem FC (w:World) (h:dP P own w0 w ob db v r):Calls Tryz.prog 73 #[.pointer (some ⟨ob,0,none⟩)] w fun e w'=>e=.returned (.int .i64 r.dM.l.length)/\w=w':=by
 obtain⟨a,c,h1⟩:=h.pZ;(have c8:w.cell? ⟨ob,8,none⟩=some (.slice a r.dM.l.length c):=by rw[<- h1];exact h.o_.cell 8);have HM:=Hd (dM.yh ob 8 a r.dM.l.length c w c8);clear h h1 c8;(go_enter Tryz.func73,Tryz.ntmps73);(go_wp2_with (go_at_call 120;refine HM.o.mono ?_;rintro e w' ⟨rfl,rfl⟩));go_ret;exact⟨rfl,rfl⟩
theorem FD (w:World) (h:dP P own w0 w ob db v r):Calls Tryz.prog 68 #[.pointer (some ⟨ob,0,none⟩)] w fun e w'=>e=.returned (.tuple #[])/\(∃v',dP P own w0 w' ob db v' r.oZ)/\dD (fun g=>g=ob) w w':=by
 have HB:=Hd (oc w h)
 clear h
 go_enter Tryz.func68,Tryz.ntmps68
 go_wp2_with (go_at_call 105;refine HB.o.mono ?_;rintro e w' ⟨rfl,h1,h2⟩;have c4:=h1.o_.cell 4;have f4:=h1.o_.frozen 4;have H:=Hd h1;have HT:=Hd h2;clear h1 h2)
 go_end0
 exact⟨rfl,⟨_,H.o.qQ⟩,HT.o.trans (dZ.fp (dD.refl _ _) _ _) fun _ _ e=>e⟩
end
def eP (P:Lib.PrintTabs) (own:Nat->Nat) (w0:World) (ob db:Nat) (w:World) (r:dB) (w':World):Prop:=
 ∃own1 v1,dP P own1 w0 w' ob db v1 r/\Ext w own own1/\dD (fun g=>own g≠0) w w'
section
variable {P:Lib.PrintTabs} {own own1:Nat->Nat} {w0 w w1 w':World} {ob db:Nat} {v v1:WV} {r r':dB}
theorem eP.here (h:dP P own w0 w ob db v r):eP P own w0 ob db w r w:=⟨own,v,h,Ext.refl _ _,dD.refl _ _⟩
theorem eP.ahead (he:Ext w own own1) (ht:dD (fun g=>own g≠0) w w1) (h:eP P own1 w0 ob db w1 r' w'):eP P own w0 ob db w r' w':=by
 obtain⟨own2,v2,h1,h2,h3⟩:=h;exact⟨own2,v2,h1,fun k hk=>(h2 k (ay hk ht.size)).trans (he k hk),ht.trans h3 fun k hk hS=>by rw[<- he k hk];exact hS⟩
theorem dP.nj (h:dP P own w0 w ob db v r) (ht:dD (fun g=>g=ob) w w'):dD (fun g=>own g≠0) w w':=ht.mono fun g _ e=>by rw[e,h.fh];decide
theorem dP.rG (h:dP P own w0 w ob db v r) (ht:dD (fun g=>g=ob\/own g=66) w w'):dD (fun g=>own g≠0) w w':=ht.mono fun g _ e=>by
 rcases e with e|e
 ·rw[e,h.fh];decide
 omega
theorem dP.FE (h:dP P own w0 w ob db v r) (g:gL) (Mr:g.gJ.right=true) (hp:dM.rE own 66 ob 8 (kX db v r) 72 (r.dM.l.map dg) r.dM.lost (dg g) w w'):eP P own w0 ob db w {r with dM:=r.dM.send g} w':=by
 obtain⟨own1,v1,h1,h2,h3⟩:=h.fL g Mr hp;exact⟨own1,v1,h1,h2,h.rG h3⟩
theorem eP.below (h:eP P own w0 ob db w r w1) (hb:Below w1.heap.size w1 w'):eP P own w0 ob db w r w':=by
 obtain⟨own1,v1,h1,h2,h3⟩:=h;exact⟨own1,v1,h1.below hb fun g hg=>h1.fr g (az hb.size hg),h2,h3.trans (dD.fw (S:=fun _=>False) hb (aq _)) fun _ _ e=>e.elim⟩
theorem yw {m:dH} (hr:m.right=true):(jk m).length<=1000:=by
 have h6:(128^6:Nat)=4398046511104:=by decide
 have e1:=xZ m.fo (fun y hy=>by
  have:=pH hr y hy;refine⟨this.1,?_⟩;rw[h6]
  omega)
 have e2:=su hr;have e3:m.fo.length=7:=rfl;simp only[jk,aA,aJ,aZ];omega
theorem pY {α β:Type} (f:α->β):∀(l:List α) (k:Nat),(l.map f).eraseIdx k=(l.eraseIdx k).map f
 | [],_=>rfl
 |_::_,0=>rfl
 |_::l,k+1=>congrArg (_::·) (pY f l k)
theorem dP.taken (h:dP P own w0 w ob db v r) (k:Nat) (u:Value) (ht:dD (fun g=>g=ob\/own g=66) w w') (hs:Has w' ob (.cells ((kX db v r).setIfInBounds 8 u) 72)) (hg:dM.jM own 66 w' u ((r.dM.l.map dg).eraseIdx k)):eP P own w0 ob db w {r with dM:={r.dM with l:=r.dM.l.eraseIdx k} } w':=by
 have e:(r.dM.l.map dg).eraseIdx k=(r.dM.l.eraseIdx k).map dg:=pY _ _ _;rw[e]at hg;exact⟨_,_,h.lx {r.dM with l:=r.dM.l.eraseIdx k} u ht (Ext.refl _ _) hs hg fun g hg=>h.right g (bD hg),fun g hg=>oa own w' g (ay hg ht.size),h.rG ht⟩
theorem FF (w:World) (k:Int) (h:dP P own w0 w ob db v r):Calls Tryz.prog 78 #[.pointer (some ⟨ob,0,none⟩),.int .i64 k] w fun e w'=>e=.returned (fx (r.gU k).1)/\eP P own w0 ob db w (r.gU k).2 w':=by
 obtain⟨a,c,MM⟩:=h.pZ;(have c8:w.cell? ⟨ob,8,none⟩=some (.slice a r.dM.l.length c):=by rw[<- MM];exact h.o_.cell 8);have H:=Hd h;by_cases hk:0<=k/\k<r.dM.l.length
 ·obtain⟨g,hg⟩:∃g,r.dM.l[k.toNat]?=some g:=⟨_,ax (by omega)⟩;have K9:g∈r.dM.l:=aR hg
  have HR:Hy (r.gU k=(0,{r with dM:=r.dM.send g})):=Hd (by
   unfold dB.gU;simp only[hg]
   rw[if_neg (by simp[hk.1,hk.2])])
  have HT:=Hd (dM.Ft own 66 ob 8 (kX db v r) 72 v.nl (r.dM.l.map dg) r.dM.lost k.toNat g.to (jk g.gJ) w h.o_ rfl rfl (by rw[h.fh];decide) (by rw[h.fh];decide) h.dM (by rw[aY,hg];rfl) (az (yw (h.right g K9)) (by decide)));have hkk:((k.toNat:Nat):Int)=k:=Int.toNat_of_nonneg hk.1;rw[hkk]at HT;have HM:=Hd (h.right g K9);clear h c8 MM hk hg K9 hkk;(go_enter Tryz.func78,Tryz.ntmps78);(go_wp2_with (go_at_call 124;refine HT.o.mono ?_;rintro e w' ⟨rfl,h1⟩));go_ret;rw[HR.o];exact⟨rfl,H.o.FE g HM.o h1⟩
 have HR:Hy (r.gU k=(2,r)):=Hd (by
  unfold dB.gU
  rw[if_pos (by simp only[a8,br,decide_eq_false_iff_not];omega)])
 have HT:=Hd (dM.Fs ob 8 a r.dM.l.length c k w c8 hk);clear h c8 MM hk;(go_enter Tryz.func78,Tryz.ntmps78);(go_wp2_with (go_at_call 124;refine HT.o.mono ?_;rintro e w' ⟨rfl,rfl⟩));go_ret;rw[HR.o];exact⟨rfl,eP.here H.o⟩
theorem FG (w:World) (k:Int) (h:dP P own w0 w ob db v r):Calls Tryz.prog 72 #[.pointer (some ⟨ob,0,none⟩),.int .i64 k] w fun e w'=>e=.returned (fx (r.gT k).1)/\eP P own w0 ob db w (r.gT k).2 w':=by
 obtain⟨a,c,MM⟩:=h.pZ;(have c8:w.cell? ⟨ob,8,none⟩=some (.slice a r.dM.l.length c):=by rw[<- MM];exact h.o_.cell 8);have H:=Hd h;by_cases hk:0<=k/\k<r.dM.l.length
 ·have HR:Hy (r.gT k=(0,{r with dM:={r.dM with l:=r.dM.l.eraseIdx k.toNat} })):=Hd (by
   unfold dB.gT
   rw[if_neg (by simp[hk.1,hk.2])])
  have HT:=Hd (dM.yk own 66 ob 8 (kX db v r) 72 v.nl (r.dM.l.map dg) k.toNat w h.o_ rfl (by rw[h.fh];decide) (by rw[h.fh];decide) h.dM (by rw[aS];omega));have hkk:((k.toNat:Nat):Int)=k:=Int.toNat_of_nonneg hk.1;rw[hkk]at HT;clear h c8 MM hk hkk;(go_enter Tryz.func72,Tryz.ntmps72);(go_wp2_with (go_at_call 110;refine HT.o.mono ?_;rintro e w' ⟨u,tt,bs,v',rfl,h1,h2,h3,h4,h5⟩;obtain⟨au,cu,rfl⟩:=mb h5 (by decide)));go_ret;rw[HR.o];exact⟨rfl,(H.o.taken k.toNat v' h2 h3 h4).below ((Below.refl _ _).alloc (aq _) _)⟩
 have HR:Hy (r.gT k=(2,r)):=Hd (by
  unfold dB.gT
  rw[if_pos (by simp only[a8,br,decide_eq_false_iff_not];omega)])
 have HT:=Hd (dM.yj ob 8 a r.dM.l.length c k w c8 hk);clear h c8 MM hk;(go_enter Tryz.func72,Tryz.ntmps72);(go_wp2_with (go_at_call 110;refine HT.o.mono ?_;rintro e w' ⟨rfl,h1⟩));go_ret;rw[HR.o];exact⟨rfl,((eP.here H.o).below h1).below ((Below.refl _ _).alloc (aq _) _)⟩
end
end fe
namespace fe
open Go.RowKit heap own eO fq eK dR eZ
open dI (dW dC dJ ga fB eA gL Net dB j6)
section
variable {P:Lib.PrintTabs} {own own1:Nat->Nat} {w0 w w' w1:World} {ob db B:Nat} {v:WV} {r r':dB}
def kp (P:Lib.PrintTabs) (own:Nat->Nat) (w0 w:World) (ob db:Nat) (r:dB) (w':World):Prop:=
 ∃own1 v1,dP P own1 w0 w' ob db v1 r/\Ext w own own1/\dD (fun g=>g=ob\/own g=66) w w'
theorem tJ (b:Bool) (m:dH):∀(l:List dH) (n:Net),j6 n b (l++[m])=if m.right then (j6 n b l).send ⟨if b then m.dL else -1,m⟩ else j6 n b l
 | [],n=>by cases h:m.right<;>simp[j6,h]
 |x::l,n=>by
  rw[bn,j6,j6];split<;>exact tJ b m l _
theorem kp.here (h:dP P own w0 w ob db v r):kp P own w0 w ob db r w:=⟨own,v,h,Ext.refl _ _,dD.refl _ _⟩
theorem kp.FH (h:dP P own w0 w ob db v r) (hs:kp P own w0 w ob db r' w'):eP P own w0 ob db w r' w':=by
 obtain⟨own1,v1,h1,h2,h3⟩:=hs;exact⟨own1,v1,h1,h2,h.rG h3⟩
theorem kp.more (he:Ext w own own1) (ht:dD (fun g=>g=ob\/own g=66) w w1) (hs:kp P own1 w0 w1 ob db r' w'):kp P own w0 w ob db r' w':=by
 obtain⟨own2,v2,h1,h2,h3⟩:=hs;exact⟨own2,v2,h1,fun k hk=>(h2 k (ay hk ht.size)).trans (he k hk),ht.trans h3 fun k hk hS=>by rw[<- he k hk];exact hS⟩
theorem qR {u:Value} {l:List dH} (h:eE B w u l) {k:Nat} {x:dH} (hk:l[k]?=some x) :
 ∃g cap,u=.slice (some ⟨g,0,none⟩) l.length cap/\g<w.heap.size/\∀j y,(fT x)[j]?=some y->w.cell? ⟨g,k*9+j,none⟩=some y:=by
 have Ks:k<l.length:=(ar.1 hk).1;rcases h.2 with⟨-,h0⟩|⟨g,cap,cur,rfl,-,h2,-,-,-,h4⟩
 ·omega
 have h3:Has w g (.cells cur 109):=h2;refine⟨g,cap,rfl,h3.lt,fun j y hj=>?_⟩;have hj9:j<9:=(ar.1 hj).1;rw[(ij h3 h4 (k*9+j) (by omega)).1];exact (flat_get (f:=fT) (size:=9) (fun _=>rfl) l k x hk j hj9).trans hj
theorem yx (m:dH) (w:World) (hr:m.right=true):Calls Tryz.prog 148 #[m.val] w fun e w'=>∃a n c,e=.returned (.tuple #[.slice a n c,.nilIface])/\Below w.heap.size w w'/\n<=c/\n<=140737488355328/\RD w' w'.heap.size a n (jk m):=by
 refine (EW m w hr).mono ?_;rintro e w' ⟨v,n,rfl,ho,hb⟩;obtain⟨a,c,rfl⟩:=pk ho;obtain⟨h1,h2,h3,h4⟩:=dM.rC ho;exact⟨a,n,c,rfl,hb,h2,by have:=h4.1;have:=yw hr;omega,h4⟩
theorem yy (h:dP P own w0 w ob db v r) (m:dH) (b:Bool) (hr:m.right=true) {a:Option Addr} {n c:Nat} (hc:n<=c) (hn:n<=140737488355328) (NA:RD w w.heap.size a n (jk m)) (X2:Int) (hto:X2=if b then m.dL else -1) :
 Calls Tryz.prog 149 #[.pointer (some ⟨ob,8,none⟩),.agg #[.int .i64 X2,.slice a n c]] w fun e w'=>e=.returned (.tuple #[])/\kp P own w0 w ob db {r with dM:=r.dM.send ⟨if b then m.dL else -1,m⟩} w':=by
 refine (dM.yn own 66 ob 8 (kX db v r) 72 v.nl (r.dM.l.map dg) r.dM.lost a n c (jk m) X2 w h.o_ rfl rfl (by rw[h.fh];decide) (by rw[h.fh];decide) h.dM NA hc hn).mono ?_;rintro e w' ⟨rfl,hp⟩;refine⟨rfl,?_⟩;rw[hto]at hp
 exact h.fL ⟨if b then m.dL else -1,m⟩ hr hp
theorem FI (w:World) (b:Bool) (u:Value) (l:List dH) (h:dP P own w0 w ob db v r) (hm:eE B w u l) (hB:∀g,B<=g->g<w.heap.size->g≠ob/\own g≠66) (hd:∀m∈l,m.data.length<=20) :
 Calls Tryz.prog 106 #[.pointer (some ⟨ob,0,none⟩),.int .i64 (if b then 0 else -1),u] w fun e w'=>e=.returned (.tuple #[])/\kp P own w0 w ob db (r.fK b l) w':=by
 have Lm:l.length<=maxLen:=by
  rcases hm.2 with⟨-,h0⟩|⟨g,cap,cur,-,-,-,h1,h2,-⟩
  ·rw[h0];exact bP _
  exact az h1 h2
 unfold maxLen at Lm;obtain⟨ua,uc,hu⟩:=pk hm;subst hu;have HM:=Hd hm;have HB:=Hd hB;have HD:=Hd hd;have H0:Hy (kp P own w0 w ob db (r.fK b (l.take 0)) w):=Hd (kp.here h)
 obtain⟨tt,Uu⟩:∃tt:Int,tt=if b then 0 else -1:=⟨_,rfl⟩
 rw[<- Uu];(have htd:decide (0<=tt)=b:=by rw[Uu];cases b<;>rfl);(have PO:Hy (b=false->tt = -1):=Hd fun e=>by rw[Uu,e];rfl);clear h hm hB hd Uu;(go_enter Tryz.func106,Tryz.ntmps106);(go_wp2_with fail);(go_loopw [13] (fun q13 wx=>∃k:Nat,k<=l.length/\q13=.int .i64 k/\kp P own w0 w ob db (r.fK b (l.take k)) wx) (fun q13 _=>l.length-(intOf q13).toNat));case atStart=>exact⟨0,by omega,rfl,H0.o⟩
 case round =>
  clear H0;obtain⟨k,hk,rfl,own1,v1,h1,h2,h3⟩:=hrel;have HW:=Hd h1;have HX:=Hd h2;have HT:=Hd h3;by_cases Ks:k<l.length
  ·have O8:l[k]?=some l[k]:=ax Ks;have K9:l[k]∈l:=cA Ks;(have LV:l.take (k+1)=l.take k++[l[k]]:=by rw[bo,O8];rfl);generalize l[k]=m at O8 K9 LV;have HDM:=Hd (HD.o m K9)
   have hmx:eE B wr (.slice ua l.length uc) l:=HM.o.er h3 fun g hg hl hS=>by
    obtain⟨e1,e2⟩:=HB.o g hg hl;rcases hS with hS|hS
    ·exact e1 hS
    exact e2 hS
   obtain⟨g,cap,e1,hg,hc⟩:=qR hmx O8;simp only[Value.slice.injEq]at e1;obtain⟨rfl,-,rfl⟩:=e1;obtain⟨mk,mc,mn,me,ms,mo,mv,ml,md⟩:=m;have z0:wr.cell? ⟨g,k*9,none⟩=some (.int .i64 mk):=hc 0 _ rfl;have z1:wr.cell? ⟨g,k*9+1,none⟩=some (.int .i64 mc):=hc 1 _ rfl;have z2:wr.cell? ⟨g,k*9+2,none⟩=some (.int .i64 mn):=hc 2 _ rfl;have z3:wr.cell? ⟨g,k*9+3,none⟩=some (.int .i64 me):=hc 3 _ rfl;have z4:wr.cell? ⟨g,k*9+4,none⟩=some (.int .i64 ms):=hc 4 _ rfl;have z5:wr.cell? ⟨g,k*9+5,none⟩=some (.int .i64 mo):=hc 5 _ rfl;have z6:wr.cell? ⟨g,k*9+6,none⟩=some (.int .i64 mv):=hc 6 _ rfl;have z7:wr.cell? ⟨g,k*9+7,none⟩=some (.bool ml):=hc 7 _ rfl;have z8:wr.cell? ⟨g,k*9+8,none⟩=some (.string ⟨md.toArray⟩):=hc 8 _ rfl;have Q9:=Hd LV;obtain⟨yes,Z6⟩:∃yes,yes=(⟨mk,mc,mn,me,ms,mo,mv,ml,md⟩:dH).right:=⟨_,rfl⟩;have HY:=Hd Z6;clear h1 h2 h3 O8 K9 LV hmx hc hg Z6
   cases yes with
   |false =>
    have HN:Hy (r.fK b (l.take (k+1))=r.fK b (l.take k)):=Hd (by
     rw[Q9.o];unfold dB.fK
     rw[tJ,if_neg (by rw[<- HY.o];decide)])
    (go_wp2_with (go_at_call 148;refine (EX ⟨mk,mc,mn,me,ms,mo,mv,ml,md⟩ _ HY.o.symm (az HDM.o (by decide))).mono ?_;rintro e w2 ⟨rfl,hb⟩;have Kn:=Hd hb;clear hb));go_roundw
    case rel =>
     have hb:=((Below.refl wr.heap.size wr).alloc (aq _) _).trans (Kn.o.mono (by simp));exact⟨k+1,by omega,by go_num,by rw[HN.o];exact⟨own1,v1,HW.o.below hb fun g hg=>HW.o.fr g (az hb.size hg),HX.o,HT.o.gn hb (aq _)⟩⟩
    case measure=>simp[intOf];omega
   |true =>
    have HN:Hy (r.fK b (l.take (k+1))={r.fK b (l.take k)with dM:=(r.fK b (l.take k)).dM.send ⟨if b then mc else -1,⟨mk,mc,mn,me,ms,mo,mv,ml,md⟩⟩}):=Hd (by
     rw[Q9.o];unfold dB.fK
     rw[tJ,if_pos HY.o.symm])
    cases b with
    |false =>
     have KP:Hy (tt = -1):=Hd (PO.o rfl)
     go_wp2_with (first
      |(go_at_call 148;refine (yx ⟨mk,mc,mn,me,ms,mo,mv,ml,md⟩ _ HY.o.symm).mono ?_;rintro e w2 ⟨a,n,c,rfl,hb,NN,OM,NA⟩;have Ke:=((Below.refl wr.heap.size wr).alloc (aq _) _).trans (hb.mono (by simp));have Lk:=Hd (HW.o.below Ke fun g hg=>HW.o.fr g (az Ke.size hg));have K4:=Hd (HT.o.gn Ke (aq _));have Oe:=Hd NA;have X3:=Hd NN;have HN2:=Hd OM;clear hb Ke NA NN OM)
      |(go_at_call 149;refine (yy Lk.o ⟨mk,mc,mn,me,ms,mo,mv,ml,md⟩ false HY.o.symm X3.o HN2.o Oe.o tt KP.o).mono ?_;rintro e w3 ⟨rfl,hp⟩;have HP:=Hd (kp.more HX.o K4.o hp);clear hp))
     go_roundw;(case rel=>exact⟨k+1,by omega,by go_num,by rw[HN.o];exact HP.o⟩);case measure=>simp[intOf];omega
    |true =>
     go_wp2_with (first
      |(go_at_call 148;refine (yx ⟨mk,mc,mn,me,ms,mo,mv,ml,md⟩ _ HY.o.symm).mono ?_;rintro e w2 ⟨a,n,c,rfl,hb,NN,OM,NA⟩;have cq:w2.cell? ⟨wr.heap.size,1,none⟩=some (.int .i64 mc):=(hb.cell (p:=⟨wr.heap.size,1,none⟩) (by simp)).trans ((Has.new wr _).cell 1);have Ke:=((Below.refl wr.heap.size wr).alloc (aq _) _).trans (hb.mono (by simp));have Lk:=Hd (HW.o.below Ke fun g hg=>HW.o.fr g (az Ke.size hg));have K4:=Hd (HT.o.gn Ke (aq _));have Oe:=Hd NA;have X3:=Hd NN;have HN2:=Hd OM;clear hb Ke NA NN OM)
      |(go_at_call 149;refine (yy Lk.o ⟨mk,mc,mn,me,ms,mo,mv,ml,md⟩ true HY.o.symm X3.o HN2.o Oe.o mc rfl).mono ?_;rintro e w3 ⟨rfl,hp⟩;have HP:=Hd (kp.more HX.o K4.o hp);clear hp))
     go_roundw;(case rel=>exact⟨k+1,by omega,by go_num,by rw[HN.o];exact HP.o⟩);case measure=>simp[intOf];omega
  obtain rfl:k=l.length:=by omega
  have hte:l.take l.length=l:=bp
  rw[hte]at HW
  have HF:Hy (kp P own w0 w ob db (r.fK b l) wr):=Hd ⟨own1,v1,HW.o,HX.o,HT.o⟩
  clear h1 h2 h3 hte HW HX HT
  go_wp2_with fail
  go_end0
  exact⟨rfl,HF.o⟩
end
end fe
namespace fe
open Go.RowKit heap own eO fq eK dR eZ
open dI (dW dC dJ ga fB eA gL Net dB)
section
variable {P:Lib.PrintTabs} {own own1:Nat->Nat} {w0 w w':World} {ob db:Nat} {v v':WV} {r r':dB} {S:Nat->Prop}
theorem p4 {T n size g cap:Nat} {e:TypeId} {xs:List Value} (h:Row own T w e size (.slice (some ⟨g,0,none⟩) n cap) n xs) (j:Nat) (hj:j<n*size) (u:Value):Row own T (w.setCell ⟨g,j,none⟩ u) e size (.slice (some ⟨g,0,none⟩) n cap) n (xs.set j u):=by
 have hn:0<n:=by
  rcases bx n with e|e
  ·rw[e,Nat.zero_mul]at hj;omega
  exact e
 obtain⟨g',Ku,cur,e1,ho,hh,h1,h2,h3,h4⟩:=h.shape hn;simp only[Value.slice.injEq]at e1;obtain⟨e1,-,rfl⟩:=e1;(obtain rfl:g=g':=by simpa using e1);refine Row.mk ho (hh.eu j u) h1 h2 (by simp[h3]) ?_;rw[dp,List.take_set,h4]
theorem jN {T:Nat} {t:TypeId} {u:Value} {l:List Int} (h:Row own T w t 1 u l.length (ints l)) {k:Nat} {x:Int} (hk:l[k]?=some x) :
 ∃g cap,u=.slice (some ⟨g,0,none⟩) l.length cap/\own g=T/\g<w.heap.size/\w.cell? ⟨g,k,none⟩=some (.int .i64 x)/\w.frozen? ⟨g,k,none⟩=false:=by
 have Ks:k<l.length:=(ar.1 hk).1;obtain⟨g,cap,cur,rfl,ho,hh,h1,h2,h3,h4⟩:=h.shape (by omega);have:=ij hh h4 k (by omega);refine⟨g,cap,rfl,ho,hh.lt,?_,this.2⟩;show World.cell? _ _=_;rw[this.1];simp[ints,hk]
theorem ints_set (l:List Int) (k:Nat) (x:Int):(ints l).set k (.int .i64 x)=ints (l.set k x):=by simp[ints,List.map_set]
theorem dP.rows (h:dP P own w0 w ob db v r) (ht:dD S w w') (hS:∀g,g<w.heap.size->S g->g=ob\/(61<=own g/\own g<66)) (he:Ext w own own1) (hf:∀g,w'.heap.size<=g->own1 g=0) (Ly:∀g,own1 g≠0->w0.heap.size<=g)
 (hs:Has w' ob (.cells (kX db v' r') 72)) (e1:v'.sp=v.sp) (e2:v'.nl=v.nl) (e3:v'.fW=v.fW) (ed:r'.eM=r.eM) (es:r'.eD=r.eD) (ec:r'.dG=r.dG) (en:r'.dM.l=r.dM.l)
 (cl:Row own1 61 w' 75 1 v'.cl r.dG.length (v.fW.map fun b=>Value.pointer (some ⟨b,0,none⟩)))
 (li:Row own1 62 w' 3 1 v'.li r'.eH.length (ints r'.eH)) (ck:Row own1 63 w' 3 1 v'.ck r'.ee.length (ints r'.ee))
 (ev:Row own1 64 w' 127 10 v'.ev r'.ef.length (r'.ef.flatMap fZ)) (op:Row own1 65 w' 3 1 v'.op r'.eC.length (ints r'.eC))
 (nl:r'.eH.length=r.eH.length) (nc:r'.ee.length=r.ee.length) (no:r'.eC.length=r.eC.length):dP P own1 w0 w' ob db v' r':=by
 have lo:=h.o_.lt
 have nX:∀g i,g<w.heap.size->own g=i->i≠60->(i<61\/66<=i)->¬S g:=fun g i hg hi h1 h2 Z7=>by
  rcases hS g hg Z7 with e|e
  ·rw[e,h.fh]at hi;exact h1 hi.symm
  omega
 refine⟨hf,Ly,hs,(he _ lo).trans h.fh,?_,?_,?_,fun k c hc=>?_,?_,li,ck,ev,op,?_,?_,?_,?_,?_⟩
 ·rw[e1,ed,es];refine h.dR.ej ht he hf fun g hg Z7=>?_;rcases hS g hg Z7 with e|e
  ·exact⟨fun e2=>by unfold ey at e2;rw[e,h.fh]at e2;omega,by rw[e];exact h.low ob (by rw[h.fh];decide)⟩
  exact⟨fun e2=>by unfold ey at e2;omega,h.low g (by omega)⟩
 ·rw[ec,e3];exact cl
 ·rw[ec,e3];exact h.pl
 ·rw[ec]at hc;obtain⟨cb,fm,sm,cv,h1,h2⟩:=h.cls k c hc;have Ut:k<4:=ay (ar.mp hc).1 h.ft;refine⟨cb,fm,sm,cv,by rw[e3];exact h1,h2.er ht he fun g hg Z7 hc=>?_⟩;unfold fC at hc;rcases hS g hg Z7 with e|e
  ·rw[e,h.fh]at hc;omega
  omega
 ·rw[ec];exact h.ft
 ·rw[e2,en];obtain⟨ps,h1,h2,h3,h4⟩:=h.dM;exact⟨ps,h1,h2.ej ht he fun i hg hi=>nX i 66 hg hi (by decide) (by decide),fun p hp=>(h3 p hp).ej ht he fun i hg hi=>nX i 67 hg hi (by decide) (by decide),h4⟩
 ·rw[en];exact h.right
 ·rw[nl,ec];exact h.nl
 ·rw[nc,ec];exact h.nc
 rw[no,ec];exact h.no
theorem dP.rH (h:dP P own w0 w ob db v r) (g T:Nat) (hg:own g=T) (h1:61<=T) (h2:T<66):(∀k,k<w.heap.size->k=g->k=ob\/(61<=own k/\own k<66))/\(∀i j,i<w.heap.size->own i=j->j≠T->¬i=g)/\g≠ob/\(∀k,(w'.heap.size<=k->w.heap.size<=w'.heap.size->own k=0)):=
 ⟨fun k _ e=>.inr (by rw[e,hg];exact⟨h1,h2⟩),fun i j _ hi hj e=>hj (by rw[<- hi,e,hg]),fun e=>by rw[e,h.fh]at hg;omega,fun k hk hs=>h.fr k (az hs hk)⟩
theorem dP.rI (h:dP P own w0 w ob db v r) (k:Nat) (x:Int) (hk:k<r.eC.length) {g cap:Nat} (hv:v.op=.slice (some ⟨g,0,none⟩) r.eC.length cap) (hg:own g=65):dP P own w0 (w.setCell ⟨g,k,none⟩ (.int .i64 x)) ob db v {r with eC:=r.eC.set k x}:=by
 obtain⟨a1,a2,a3,a4⟩:=h.rH (w':=w.setCell ⟨g,k,none⟩ (.int .i64 x)) g 65 hg (by decide) (by decide);have ht:dD (fun i=>i=g) w (w.setCell ⟨g,k,none⟩ (.int .i64 x)):=dZ.fp (dD.refl _ _) _ _;have he:=Ext.refl w own;refine h.rows ht a1 he (fun i hi=>a4 i hi ht.size) h.low (h.o_.far (Ne.symm a3) _) rfl rfl rfl rfl rfl rfl rfl (h.cl.ej ht he fun i hi ho=>a2 i 61 hi ho (by decide)) (h.li.ej ht he fun i hi ho=>a2 i 62 hi ho (by decide)) (h.ck.ej ht he fun i hi ho=>a2 i 63 hi ho (by decide)) (h.ev.ej ht he fun i hi ho=>a2 i 64 hi ho (by decide)) ?_ rfl rfl (by simp);have h1:=h.op;rw[hv]at h1;have h2:=p4 h1 k (by omega) (.int .i64 x);rw[ints_set]at h2;simp only[aN];rw[hv];exact h2
theorem dP.FJ (h:dP P own w0 w ob db v r) (k:Nat) (x:Int) (hk:k<r.eH.length) {g cap:Nat} (hv:v.li=.slice (some ⟨g,0,none⟩) r.eH.length cap) (hg:own g=62):dP P own w0 (w.setCell ⟨g,k,none⟩ (.int .i64 x)) ob db v {r with eH:=r.eH.set k x}:=by
 obtain⟨a1,a2,a3,a4⟩:=h.rH (w':=w.setCell ⟨g,k,none⟩ (.int .i64 x)) g 62 hg (by decide) (by decide);have ht:dD (fun i=>i=g) w (w.setCell ⟨g,k,none⟩ (.int .i64 x)):=dZ.fp (dD.refl _ _) _ _;have he:=Ext.refl w own;refine h.rows ht a1 he (fun i hi=>a4 i hi ht.size) h.low (h.o_.far (Ne.symm a3) _) rfl rfl rfl rfl rfl rfl rfl (h.cl.ej ht he fun i hi ho=>a2 i 61 hi ho (by decide)) ?_ (h.ck.ej ht he fun i hi ho=>a2 i 63 hi ho (by decide)) (h.ev.ej ht he fun i hi ho=>a2 i 64 hi ho (by decide)) (h.op.ej ht he fun i hi ho=>a2 i 65 hi ho (by decide)) (by simp) rfl rfl;have h1:=h.li;rw[hv]at h1;have h2:=p4 h1 k (by omega) (.int .i64 x);rw[ints_set]at h2;simp only[aN];rw[hv];exact h2
theorem dP.FK (h:dP P own w0 w ob db v r) (k:Nat) (x:Int) (hk:k<r.ee.length) {g cap:Nat} (hv:v.ck=.slice (some ⟨g,0,none⟩) r.ee.length cap) (hg:own g=63):dP P own w0 (w.setCell ⟨g,k,none⟩ (.int .i64 x)) ob db v {r with ee:=r.ee.set k x}:=by
 obtain⟨a1,a2,a3,a4⟩:=h.rH (w':=w.setCell ⟨g,k,none⟩ (.int .i64 x)) g 63 hg (by decide) (by decide);have ht:dD (fun i=>i=g) w (w.setCell ⟨g,k,none⟩ (.int .i64 x)):=dZ.fp (dD.refl _ _) _ _;have he:=Ext.refl w own;refine h.rows ht a1 he (fun i hi=>a4 i hi ht.size) h.low (h.o_.far (Ne.symm a3) _) rfl rfl rfl rfl rfl rfl rfl (h.cl.ej ht he fun i hi ho=>a2 i 61 hi ho (by decide)) (h.li.ej ht he fun i hi ho=>a2 i 62 hi ho (by decide)) ?_ (h.ev.ej ht he fun i hi ho=>a2 i 64 hi ho (by decide)) (h.op.ej ht he fun i hi ho=>a2 i 65 hi ho (by decide)) rfl (by simp) rfl;have h1:=h.ck;rw[hv]at h1;have h2:=p4 h1 k (by omega) (.int .i64 x);rw[ints_set]at h2;simp only[aN];rw[hv];exact h2
theorem dP.FL (h:dP P own w0 w ob db v r) (l:List fB) (ht:dD (fun i=>own i=64) w w') (hr:Row own 64 w' 127 10 v.ev l.length (l.flatMap fZ)):dP P own w0 w' ob db v {r with ef:=l}:=by
 have he:=Ext.refl w own;have a2:∀i j,i<w.heap.size->own i=j->j≠64->¬own i=64:=fun i j _ hi hj e=>hj (by rw[<- hi,e]);refine h.rows ht (fun g _ e=>.inr (by omega)) he (fun i hi=>h.fr i (az ht.size hi)) h.low (ht.has h.o_ (by rw[h.fh];decide)) rfl rfl rfl rfl rfl rfl rfl (h.cl.ej ht he fun i hi ho=>a2 i 61 hi ho (by decide)) (h.li.ej ht he fun i hi ho=>a2 i 62 hi ho (by decide)) (h.ck.ej ht he fun i hi ho=>a2 i 63 hi ho (by decide)) hr (h.op.ej ht he fun i hi ho=>a2 i 65 hi ho (by decide)) rfl rfl rfl
theorem dP.pt (h:dP P own w0 w ob db v r) {k:Nat} {c:dJ} (hk:r.dG[k]?=some c) :
 ∃g cap cb fm sm cv,v.cl=.slice (some ⟨g,0,none⟩) r.dG.length cap/\own g=61/\g<w.heap.size/\v.fW[k]?=some cb/\w.cell? ⟨g,k,none⟩=some (.pointer (some ⟨cb,0,none⟩))/\w.frozen? ⟨g,k,none⟩=false/\eB own (20+4*k) w cb fm sm cv c:=by
 have Ks:k<r.dG.length:=(ar.1 hk).1;obtain⟨cb,fm,sm,cv,h1,h2⟩:=h.cls k c hk;obtain⟨g,cap,cur,hv,ho,hh,h3,h4,h5,h6⟩:=h.cl.shape (by omega);have:=ij hh h6 k (by omega);refine⟨g,cap,cb,fm,sm,cv,hv,ho,hh.lt,h1,?_,this.2,h2⟩;show World.cell? _ _=_;rw[this.1];simp[h1]
end
end fe
namespace fe
open Go.RowKit heap own eO fq eK dR eZ
open dI (dW dC dJ ga fB eA gL Net dB)
open eU (Idx)
section
variable {P:Lib.PrintTabs} {own own1:Nat->Nat} {w0 w w':World} {ob db:Nat} {v v':WV} {r r':dB}
theorem Gf {T n en g cap:Nat} {l:List fB} {x:fB} (h:Row own T w 127 10 (.slice (some ⟨g,0,none⟩) n cap) l.length (l.flatMap fZ)) (hx:l[en]?=some x) (c:ga) (s:Int) :
 Row own T ((w.setCells g (en*10+1) (#[.int .i64 c.dT,.int .i64 c.dF,.string ⟨c.value.data.toArray⟩,.int .i64 c.value.dY,.bool c.over,.bool c.hit]:Array Value).toList).setCell ⟨g,en*10+8,none⟩ (.int .i64 s)) 127 10 (.slice (some ⟨g,0,none⟩) n cap) l.length ((l.set en {x with call:=c,ended:=s}).flatMap fZ):=by
 have Q0:en<l.length:=(ar.1 hx).1;have Ra:l[en]=x:=(ar.1 hx).2
 obtain⟨rfl,-⟩:n=l.length/\True:=by
  obtain⟨a,c2,e⟩:=mb h (by decide);simp only[Value.slice.injEq]at e;exact⟨e.2.1,trivial⟩
 (have hl:l=l.take en++x::l.drop (en+1):=by rw[<- Ra,List.getElem_cons_drop,cD]);(have hlen:((l.take en).flatMap fZ).length=en*10:=by rw[kS ni,bG,dv (Nat.le_of_lt Q0)]);obtain⟨A,hA⟩:∃A,A=(l.take en).flatMap fZ:=⟨_,rfl⟩;obtain⟨B,hB⟩:∃B,B=(l.drop (en+1)).flatMap fZ:=⟨_,rfl⟩
 have e1:l.flatMap fZ=(A++[.int .i64 x.dL])++[.int .i64 x.call.dT,.int .i64 x.call.dF,.string ⟨x.call.value.data.toArray⟩,.int .i64 x.call.value.dY,.bool x.call.over,.bool x.call.hit]++([.int .i64 x.mF,.int .i64 x.ended,.int .i64 x.eW]++B):=by
  rw[hl,bY,aU,hA,hB];simp[fZ]
 have e2:(l.set en {x with call:=c,ended:=s}).flatMap fZ=(A++[.int .i64 x.dL,.int .i64 c.dT,.int .i64 c.dF,.string ⟨c.value.data.toArray⟩,.int .i64 c.value.dY,.bool c.over,.bool c.hit,.int .i64 x.mF])++[.int .i64 s]++([.int .i64 x.eW]++B):=by
  rw[List.set_eq_take_append_cons_drop,if_pos Q0,bY,aU,hA,hB];simp[fZ]
 rw[<- hA]at hlen;rw[e1]at h;have h1:=yV (vs:=[.int .i64 c.dT,.int .i64 c.dF,.string ⟨c.value.data.toArray⟩,.int .i64 c.value.dY,.bool c.over,.bool c.hit]) h rfl (Nat.succ_pos _);rw[aA,hlen,aQ]at h1;(have e3:∀u:List Value,(A++[.int .i64 x.dL])++u++([.int .i64 x.mF,.int .i64 x.ended,.int .i64 x.eW]++B)=(A++([.int .i64 x.dL]++u++[.int .i64 x.mF]))++[.int .i64 x.ended]++([.int .i64 x.eW]++B):=fun u=>by simp);rw[e3]at h1;have h2:=yV (vs:=[.int .i64 s]) h1 rfl (Nat.succ_pos _);rw[aA,hlen]at h2;rw[e2];exact h2
theorem tZ (w:World) (k:Nat) (h:dP P own w0 w ob db v r) (hk:k<r.dG.length) (hi:Idx r) :
 Calls Tryz.prog 115 #[.pointer (some ⟨ob,0,none⟩),.int .i64 k] w fun e w'=>e=.returned (.tuple #[])/\eP P own w0 ob db w (r.ir k) w':=by
 (have PT:k<r.eC.length:=by rw[h.no];exact hk);have KZ:r.dG[k]?=some r.dG[k]:=ax hk;have MP:r.eC[k]?=some r.eC[k]:=ax PT;have Hz:=hi _ (cA PT);generalize r.dG[k]=c at KZ;generalize r.eC[k]=e at MP Hz;have Tx:=Hd KZ;have HKO:=Hd MP;have H:=Hd h;obtain⟨g8,NR,PB,M5,Ty,z8,f8⟩:=jN h.op MP;obtain⟨g5,KT,cb,fm,sm,cv,MG,Nq,PC,Mo,z5,f5,Nc⟩:=h.pt KZ;(have SP:w.cell? ⟨ob,11,none⟩=some (.slice (some ⟨g8,0,none⟩) r.eC.length NR):=by rw[<- PB];exact h.o_.cell 11);(have c5:w.cell? ⟨ob,5,none⟩=some (.slice (some ⟨g5,0,none⟩) r.dG.length KT):=by rw[<- MG];exact h.o_.cell 5);have M6:=Hd Nc;have HB:=Hd (pn w Nc);have Vs:=Hd PB;have RY:=Hd M5;have PY:=Hd Hz;have L3:Hy (r.eC.length=r.dG.length):=Hd h.no;obtain⟨n8,hn8⟩:∃n,n=r.eC.length:=⟨_,rfl⟩;obtain⟨n5,PZ⟩:∃n,n=r.dG.length:=⟨_,rfl⟩;rw[<- hn8]at SP PT;rw[<- PZ]at c5 hk;have ZQ:=Hd hn8;have HN5:=Hd PZ;by_cases Ru:0<=e
 ·have e0:decide (0<=e)=true:=decide_eq_true Ru
  cases L0:c.fX with
  |true =>
   rw[L0]at HB
   have HR:Hy (r.ir k=r):=Hd (by unfold dB.ir;rw[KZ,MP];simp[L0])
   clear h KZ MP Hz PB MG M5 Nq Mo Nc hn8 PZ L0
   go_enter Tryz.func115,Tryz.ntmps115
   go_wp2_with (go_at_call 152;refine HB.o.mono ?_;rintro e w' ⟨rfl,rfl⟩)
   go_end0
   exact⟨rfl,by rw[HR.o];exact eP.here H.o⟩
  |false =>
   rw[L0]at HB;obtain⟨en,rfl⟩:∃en:Nat,e=en:=⟨e.toNat,by omega⟩;(have hel:en<r.ef.length:=by omega);have hex:r.ef[en]?=some r.ef[en]:=ax hel;generalize r.ef[en]=x at hex;obtain⟨g7,KJ,NZ,NB,PD,hc7,hm7,hz7⟩:=Row.elem (f:=fZ) ni h.ev hex;(have M3:w.cell? ⟨ob,10,none⟩=some (.slice (some ⟨g7,0,none⟩) r.ef.length KJ):=by rw[<- NZ];exact h.o_.cell 10);have c12:w.cell? ⟨ob,12,none⟩=some (.int .i64 r.step):=h.o_.cell 12
   have HY:Hy (∀j,j<6->(w.cell? ⟨g7,en*10+1+j,none⟩).isSome=true/\w.frozen? ⟨g7,en*10+1+j,none⟩=false):=Hd fun j hj=>by
    (have WX:1+j<(fZ x).length:=by rw[ni];omega);have:=hz7 (1+j) _ (ax WX);rw[<- Nat.add_assoc]at this;rw[this.1];exact⟨rfl,this.2⟩
   have y8:=hz7 8 _ rfl;have KW:=tF w.drew Nc.drew;unfold pW at KW;have NW:=Hd KW;clear KW;have HBZ:=Hd L0;have KN:ob<w.heap.size:=h.o_.lt;(have aeu:g5≠g7:=fun e=>by rw[e,NB]at Nq;cases Nq);(have WY:ob≠g7:=fun e=>by have:=h.fh;rw[e,NB]at this;cases this);have Pm:=Hd hex;have X4:=Hd NZ;have HO7:=Hd NB;obtain⟨n7,N0⟩:∃n,n=r.ef.length:=⟨_,rfl⟩;rw[<- N0]at M3 hel;have NK:=Hd N0;clear h KZ MP Hz PB MG M5 Nq Mo Nc hn8 PZ L0 hz7 NZ NB N0 hex;(go_enter Tryz.func115,Tryz.ntmps115);(go_upto_region 2 with (go_at_call 152;refine HB.o.mono ?_;rintro e w' ⟨rfl,rfl⟩));refine last.fS (fun W=>W.cell? ⟨ob,5,none⟩=some (.slice (some ⟨g5,0,none⟩) n5 KT)/\W.cell? ⟨ob,10,none⟩=some (.slice (some ⟨g7,0,none⟩) n7 KJ)/\W.cell? ⟨ob,12,none⟩=some (.int .i64 r.step)/\W.cell? ⟨g5,k,none⟩=some (.pointer (some ⟨cb,0,none⟩))) 27 28 ⟨c5,M3,c12,z5⟩ fun HS=>?_;refine last.many [(0,25,_),(1,26,_),(2,27,_),(3,28,_),(4,29,_),(5,30,_),(6,31,_),(7,32,_),(8,33,_),(9,34,_),(10,35,_),(11,36,_),(12,37,_),(13,38,_),(14,39,_),(15,40,_),(16,41,_),(18,43,_),(19,44,_),(20,45,_),(21,46,_)] HS.o ?_ (hy:=fun W' Kc=>by have e1:=Kc.2.1;have f0:=Kc.1;have f1:=Kc.2.2.2;have f2:=Kc.2.2.1;repeat (first|exact .z|refine .s ?_|refine .k ?_));refine last.one 17 fun K hK=>?_;go_simp;refine NW.o.mono ?_;rintro e w2 ⟨rfl,Ke⟩;have Kq:Hy ((fun W=>W.cell? ⟨ob,5,none⟩=some (.slice (some ⟨g5,0,none⟩) n5 KT)/\W.cell? ⟨ob,10,none⟩=some (.slice (some ⟨g7,0,none⟩) n7 KJ)/\W.cell? ⟨ob,12,none⟩=some (.int .i64 r.step)/\W.cell? ⟨g5,k,none⟩=some (.pointer (some ⟨cb,0,none⟩))) w2):=Hd ⟨(Ke.cell (p:=⟨ob,5,none⟩) KN).trans c5,(Ke.cell (p:=⟨ob,10,none⟩) KN).trans M3,(Ke.cell (p:=⟨ob,12,none⟩) KN).trans c12,(Ke.cell (p:=⟨g5,k,none⟩) PC).trans z5⟩;have Kn:=Hd (((Below.refl w.heap.size w).drew).trans Ke);clear Ke;refine hK.out _ _ (fun _=>Kq.o) ?_;clear hK K HS;have HS:=Kq;refine last.many [(22,47,_),(23,48,_)] HS.o ?_;refine last.one 24 fun K hK=>?_;refine Ge 118 (.tmp 48) (.tmp 42) rfl g7 (en*10+1) #[.int .i64 c.call.dT,.int .i64 c.call.dF,.string ⟨c.call.value.data.toArray⟩,.int .i64 c.call.value.dY,.bool c.call.over,.bool c.call.hit] rfl rfl (by kernel_rfl) (fun j hj=>by rw[(Kn.o.cell (p:=⟨g7,en*10+1+j,none⟩) PD)];exact (HY.o j (by simp at hj;omega)).1) (fun j hj=>by rw[(Kn.o.frozen (p:=⟨g7,en*10+1+j,none⟩) PD)];exact (HY.o j (by simp at hj;omega)).2) (by simp[Value.oneCell']) ?_;obtain⟨W3,Kz⟩:∃W3,W3=w2.setCells g7 (en*10+1) #[.int .i64 c.call.dT,.int .i64 c.call.dF,.string ⟨c.call.value.data.toArray⟩,.int .i64 c.call.value.dY,.bool c.call.over,.bool c.call.hit].toList:=⟨_,rfl⟩;rw[<- Kz];have LQ:Hy (dD (fun i=>i=g7) w2 W3):=Hd (by rw[Kz];exact dD.setCells (S:=fun i=>i=g7) _ (dD.refl _ _) (.inr rfl) _);have Ti:=Hd Kz;have Lp:Hy ((fun W=>W.cell? ⟨ob,5,none⟩=some (.slice (some ⟨g5,0,none⟩) n5 KT)/\W.cell? ⟨ob,10,none⟩=some (.slice (some ⟨g7,0,none⟩) n7 KJ)/\W.cell? ⟨ob,12,none⟩=some (.int .i64 r.step)/\W.cell? ⟨g5,k,none⟩=some (.pointer (some ⟨cb,0,none⟩))) W3):=Hd ⟨(LQ.o.cell (p:=⟨ob,5,none⟩) (ay KN Kn.o.size) WY).trans HS.o.1,(LQ.o.cell (p:=⟨ob,10,none⟩) (ay KN Kn.o.size) WY).trans HS.o.2.1,(LQ.o.cell (p:=⟨ob,12,none⟩) (ay KN Kn.o.size) WY).trans HS.o.2.2.1,(LQ.o.cell (p:=⟨g5,k,none⟩) (ay PC Kn.o.size) aeu).trans HS.o.2.2.2⟩;(have u8:(W3.cell? ⟨g7,en*10+8,none⟩).isSome=true:=by rw[Kz,World.cell?_setCells_out _ _ _ _ _ (fun _ _=>.inr (by simp)),(Kn.o.cell (p:=⟨g7,en*10+8,none⟩) PD),y8.1];rfl);(have t8:W3.frozen? ⟨g7,en*10+8,none⟩=false:=by rw[Kz,World.frozen?_setCells,(Kn.o.frozen (p:=⟨g7,en*10+8,none⟩) PD),y8.2]);obtain⟨y8v,u8⟩:=Option.isSome_iff_exists.1 u8;clear Kz;refine hK.out _ _ (fun _=>Lp.o) ?_;clear hK K HS;have HS:=Lp;refine last.gp [26,25] 25 49 (.pointer (some ⟨g7,en*10,none⟩)) HS.o ?_;dsimp only[List.set];refine last.many [(26,50,_)] HS.o ?_;refine last.one 27 fun K hK=>?_;go_simp;refine hK.out _ _ (fun h=>absurd rfl h) ?_;clear hK K;refine last.done ?_;obtain⟨W4,MX⟩:∃W4,W4=W3.setCell ⟨g7,en*10+8,none⟩ (.int .i64 r.step):=⟨_,rfl⟩;rw[<- MX];have h2:=H.o.below Kn.o fun g hg=>H.o.fr g (az Kn.o.size hg)
   have hT4:dD (fun i=>own i=64) w2 W4:=by
    rw[MX];exact (LQ.o.mono fun g _ e=>by have e:g=g7:=e;rw[e];exact HO7.o).setCell (p:=⟨g7,en*10+8,none⟩) (.inr HO7.o) _
   have Lw:=h2.ev
   rw[X4.o]at Lw
   have Kj:=Gf Lw Pm.o c.call r.step
   rw[<- Ti.o,<- MX]at Kj
   have h4:dP P own w0 W4 ob db v {r with ef:=r.ef.set en {x with call:=c.call,ended:=r.step} }:=h2.FL _ hT4 (by rw[X4.o,aN];exact Kj)
   have a11:W4.cell? ⟨ob,11,none⟩=some (.slice (some ⟨g8,0,none⟩) n8 NR):=by rw[ZQ.o,<- Vs.o];exact h4.o_.cell 11
   have aad:g8<w2.heap.size:=ay Ty Kn.o.size
   have n8n:¬own g8=64:=by rw[RY.o];decide
   have b8:W4.cell? ⟨g8,k,none⟩=some (.int .i64 (en:Int)):=(hT4.cell (p:=⟨g8,k,none⟩) aad n8n).trans ((Kn.o.cell (p:=⟨g8,k,none⟩) Ty).trans z8)
   have t88:W4.frozen? ⟨g8,k,none⟩=false:=(hT4.frozen (p:=⟨g8,k,none⟩) aad n8n).trans ((Kn.o.frozen (p:=⟨g8,k,none⟩) Ty).trans f8)
   have H5:Hy (dP P own w0 (W4.setCell ⟨g8,k,none⟩ (.int .i64 (-1))) ob db v {r with ef:=r.ef.set en {x with call:=c.call,ended:=r.step},eC:=r.eC.set k (-1)}):=Hd (h4.rI k (-1) (by rw[<- ZQ.o];exact PT) Vs.o RY.o)
   have MJ:Hy (dD (fun g=>own g≠0) w (W4.setCell ⟨g8,k,none⟩ (.int .i64 (-1)))):=Hd (((dD.fw Kn.o (aq _)).trans (hT4.mono fun g _ e=>by have e:own g=64:=e;show own g≠0;omega) fun _ _ e=>e).setCell (p:=⟨g8,k,none⟩) (.inr (by show own g8≠0;rw[RY.o];decide)) _)
   clear h2 Lw Kj h4 hT4 MX SP c5 M3 c12 z5 z8 y8 u8 t8 f8 f5
   go_wp2_with fail
   go_end0
   have HR:r.ir k={r with ef:=r.ef.set en {x with call:=c.call,ended:=r.step},eC:=r.eC.set k (-1)}:=by
    unfold dB.ir;rw[Tx.o,HKO.o];simp only[e0,HBZ.o,Bool.not_false,Bool.and_true,if_true,bH,Pm.o]
   rw[HR];exact⟨rfl,own,v,H5.o,Ext.refl _ _,MJ.o⟩
 have e0:decide (0<=e)=false:=decide_eq_false Ru
 have HR:Hy (r.ir k=r):=Hd (by unfold dB.ir;rw[KZ,MP];simp[Ru])
 clear h KZ MP Hz PB MG M5 Nq Mo Nc hn8 PZ
 go_enter Tryz.func115,Tryz.ntmps115
 go_wp2_with fail
 go_end0
 exact⟨rfl,by rw[HR.o];exact eP.here H.o⟩
end
end fe
namespace fe
open Go.RowKit heap own eO fq eK dR eZ
open dI (dW dC dJ ga fB eA gL Net dB)
section
variable {P:Lib.PrintTabs} {own own1:Nat->Nat} {w0 w w1 w':World} {ob db sb wb dm tb tm:Nat} {v v1:WV} {r r':dB} {vv:Value} {ps:List ByteArray} {qs:List Value} {d:dW} {s:dC}
theorem Gg (h:eh P own w0 w sb db wb dm tb tm vv ps qs d s) (n:Int) (ht:dD (·=db) w w') (hd:dZ.fU w' db ps (decide (0<=n)) (max n 0)):eh P own w0 w' sb db wb dm tb tm vv ps qs (d.cutAt n) s:=by
 (have nS:∀g k,own g=k->k≠1->¬g=db:=fun g k hk h1 e=>by rw[e,h.gq]at hk;exact h1 hk.symm);have he:=Ext.refl w own;have hw:w0.heap.size<=db:=h.low db (by unfold ey;rw[h.gq];decide);exact⟨h.jT,h.kh,h.fF.trans (ht.lU h.le fun k _ hS=>by have:k=db:=hS;omega),h.low,fun g hg=>h.fr g (az ht.size hg),⟨ht.has h.dZ.w_ (nS _ 3 h.dZ.ow (by decide)),h.dZ.row.ej ht he fun k _ ho=>nS k 2 ho (by decide),h.dZ.ow,h.dZ.low,h.dZ.lw⟩,hd,h.jf,h.gq,ht.has h.s_ (nS _ 4 h.fJ (by decide)),h.fJ,⟨h.ok.nv,h.ok.nq,h.ok.qc,h.ok.dk,h.ok.rc,h.ok.ql⟩,h.lq,fun o ho=>(h.dX o ho).ej ht he fun k _ MP=>nS k (10+o) MP (by omega),h.done.er ht (nS _ 5 h.ix (by decide)),h.ix,h.eo.er ht (nS _ 6 h.iQ (by decide)) (nS _ 7 h.iR (by decide)),h.iQ,h.iR⟩
theorem Gh (h:iW P own w0 w db ps d) (n:Int) (ht:dD (·=db) w w') (hd:dZ.fU w' db ps (decide (0<=n)) (max n 0)):iW P own w0 w' db ps (d.cutAt n):=by
 have hw:w0.heap.size<=db:=h.low db (by unfold ey;rw[h.gq];decide);exact⟨h.jT,h.kh,h.fF.trans (ht.lU h.le fun k _ hS=>by have:k=db:=hS;omega),h.low,fun g hg=>h.fr g (az ht.size hg),hd,h.jf,h.gq,h.rc⟩
theorem yW (w:World) (n:Int) (h:dP P own w0 w ob db v r):Calls Tryz.prog 116 #[.pointer (some ⟨db,0,none⟩),.int .i64 n] w fun e w'=>e=.returned (.tuple #[])/\dP P own w0 w' ob db v {r with eM:=r.eM.cutAt n}/\dD (ey own) w w':=by
 have hs:=h.dR;unfold gY at hs
 have fin:∀w',dD (·=db) w w'->own db=1->gY P own w0 w' db v.sp (r.eM.cutAt n) r.eD->dP P own w0 w' ob db v {r with eM:=r.eM.cutAt n}/\dD (ey own) w w':=fun w' ht ho hp=>by
  (have Kr:dD (ey own) w w':=ht.mono fun g _ e=>by have e:g=db:=e;unfold ey;rw[e,ho];decide);exact⟨h.eD Kr (Ext.refl _ _) (fun g hg=>h.fr g (az ht.size hg)) h.low (r.eM.cutAt n) r.eD hp,Kr⟩
 split at hs
 ·rename_i s KK;obtain⟨sb,wb,dm,tb,tm,v1,ps,qs,h1,h2⟩:=hs;refine (dZ.wJ db ps _ _ n w h2.hZ).mono ?_;rintro e w' ⟨rfl,hd,ht⟩;refine⟨rfl,fin w' ht h2.gq ?_⟩;rw[KK];exact⟨sb,wb,dm,tb,tm,v1,ps,qs,h1,Gg h2 n ht hd⟩
 rename_i KK;obtain⟨h1,ps,h2⟩:=hs;refine (dZ.wJ db ps _ _ n w h2.hZ).mono ?_;rintro e w' ⟨rfl,hd,ht⟩;refine⟨rfl,fin w' ht h2.gq ?_⟩;rw[KK];exact⟨h1,ps,Gh h2 n ht hd⟩
theorem Gi (w:World) (n:Int) (s:dC) (sb:Nat) (h:dP P own w0 w ob db v r) (hs:r.eD=some s) (hp:v.sp=.pointer (some ⟨sb,0,none⟩)):Calls Tryz.prog 117 #[.pointer (some ⟨sb,0,none⟩),.int .i64 n] w fun e w'=>e=.returned (.tuple #[])/\dP P own w0 w' ob db v {r with eD:=some {s with fa:=n} }/\dD (ey own) w w':=by
 have hq:=h.dR;unfold gY at hq;rw[hs]at hq;obtain⟨sb2,wb,dm,tb,tm,v1,ps,qs,h1,h2⟩:=hq;rw[hp]at h1;cases h1;refine (D8 w n h2).mono ?_;rintro e w' ⟨rfl,h3,ht⟩;(have Kr:dD (ey own) w w':=ht.mono fun g _ e=>by unfold ey;rw[e,h2.fJ];decide);exact⟨rfl,h.eD Kr (Ext.refl _ _) (fun g hg=>h.fr g (az ht.size hg)) h.low r.eM (some {s with fa:=n}) ⟨sb,wb,dm,tb,tm,v1,ps,qs,hp,h3⟩,Kr⟩
theorem Gj (w:World) (j5 fa:Int) (h:dP P own w0 w ob db v r):Calls Tryz.prog 70 #[.pointer (some ⟨ob,0,none⟩),.int .i64 j5,.int .i64 fa] w fun e w'=>e=.returned (.tuple #[])/\dP P own w0 w' ob db v (r.kN j5 fa)/\dD (ey own) w w':=by
 have c3:w.cell? ⟨ob,3,none⟩=some (.pointer (some ⟨db,0,none⟩)):=h.o_.cell 3;obtain⟨n,hn⟩:∃n,n=max j5 0:=⟨_,rfl⟩;have HC:=Hd (yW w n h);have HN:=Hd hn
 cases KK:r.eD with
 |none =>
  have hs:=h.dR;unfold gY at hs;rw[KK]at hs;have HP:=Hd hs.1;have HR:Hy (r.kN j5 fa={r with eM:=r.eM.cutAt n}):=Hd (by unfold dB.kN;rw[KK,hn];cases r;simp_all);clear h hs KK hn;(go_enter Tryz.func70,Tryz.ntmps70);go_wp2_with (go_at_call 116;rw[<- HN.o];refine HC.o.mono ?_;rintro e w' ⟨rfl,h1,h2⟩;have c4:w'.cell? ⟨ob,4,none⟩=some (.pointer none):=(by rw[<- HP.o];exact h1.o_.cell 4);have H:=Hd h1;have HT:=Hd h2;clear h1 h2)
  all_goals
   go_end0
   rw[HR.o];exact⟨rfl,H.o,HT.o⟩
 |some s =>
  have hs:=h.dR;unfold gY at hs;rw[KK]at hs;obtain⟨sb,wb,dm,tb,tm,v1,ps,qs,hp,-⟩:=hs;have HP:=Hd hp;have HS:=Hd KK;have HR:Hy (r.kN j5 fa={r with eM:=r.eM.cutAt n,eD:=some {s with fa:=fa} }):=Hd (by unfold dB.kN;rw[KK,hn];rfl);clear h KK hn hp;go_enter Tryz.func70,Tryz.ntmps70
  go_wp2_with first
   |(go_at_call 116;rw[<- HN.o];refine HC.o.mono ?_;rintro e w' ⟨rfl,h1,h2⟩;have c4:w'.cell? ⟨ob,4,none⟩=some (.pointer (some ⟨sb,0,none⟩)):=(by rw[<- HP.o];exact h1.o_.cell 4);have H:=Hd h1;have HT:=Hd h2;clear h1 h2)
   |(go_at_call 117;refine (Gi _ fa s sb H.o HS.o HP.o).mono ?_;rintro e w2 ⟨rfl,h1,h2⟩;have H2:=Hd h1;have K4:=Hd h2;clear h1 h2)
  all_goals
   go_end0
   rw[HR.o];exact⟨rfl,H2.o,HT.o.trans K4.o fun _ _ e=>e⟩
end
section
variable {P:Lib.PrintTabs} {own own1 own2:Nat->Nat} {T k n size:Nat} {w0 w w1 w':World} {ob db sb wb dm tb tm cb fm sm:Nat} {v v1:WV} {r r':dB} {vv:Value} {xs:List Value} {ty:TypeId} {ps:List ByteArray} {qs:List Value} {d:dW} {s:dC} {c:dJ}
theorem yX (h:Row own k w ty size vv n xs) (hk:∀g,own g=k->own1 g=k):Row own1 k w ty size vv n xs:=⟨h.1,fun g hg=>hk g (h.2 g hg)⟩
theorem Gk (h:fH own k w ty size vv n xs) (hk:∀g,own g=k->own1 g=k):fH own1 k w ty size vv n xs:=by
 refine⟨h.1,h.2.imp id ?_⟩;rintro⟨g,off,cap,cur,h1,h2,h3⟩;exact⟨g,off,cap,cur,h1,hk g h2,h3⟩
theorem yY (h:eh P own w0 w sb db wb dm tb tm vv ps qs d s) (hk:∀g k,1<=k->k<20->own g=k->own1 g=k) (hs:∀g,ey own1 g->ey own g) (hf:∀g,w.heap.size<=g->own1 g=0):eh P own1 w0 w sb db wb dm tb tm vv ps qs d s:=
 ⟨h.jT,h.kh,h.fF,fun g hg=>h.low g (hs g hg),hf,⟨h.dZ.w_,yX h.dZ.row fun g=>hk g 2 (by decide) (by decide),hk _ 3 (by decide) (by decide) h.dZ.ow,fun g hg=>h.low g (hs g (by unfold ey;omega)),h.dZ.lw⟩,h.hZ,h.jf,hk _ 1 (by decide) (by decide) h.gq,h.s_,hk _ 4 (by decide) (by decide) h.fJ,h.ok,h.lq,fun o ho=>Gk (h.dX o ho) fun g=>hk g (10+o) (by omega) (by omega),h.done,hk _ 5 (by decide) (by decide) h.ix,h.eo,hk _ 6 (by decide) (by decide) h.iQ,hk _ 7 (by decide) (by decide) h.iR⟩
theorem Gl (h:iW P own w0 w db ps d) (hk:∀g k,1<=k->k<20->own g=k->own1 g=k) (hs:∀g,ey own1 g->ey own g) (hf:∀g,w.heap.size<=g->own1 g=0):iW P own1 w0 w db ps d:=
 ⟨h.jT,h.kh,h.fF,fun g hg=>h.low g (hs g hg),hf,h.hZ,h.jf,hk _ 1 (by decide) (by decide) h.gq,h.rc⟩
theorem yZ {cv:Value} (h:eB own T w cb fm sm cv c) (hk:∀g k,T<=k->k<T+4->own g=k->own1 g=k):eB own1 T w cb fm sm cv c:=
 ⟨h.c_,hk _ T (by omega) (by omega) h.gI,yX h.items fun g=>hk g (T+1) (by omega) (by omega),h.ft,h.fG,hk _ (T+2) (by omega) (by omega) h.kV,h.seen,hk _ (T+3) (by omega) (by omega) h.kj,h.fk,h.sk⟩
def only (own own1:Nat->Nat) (w:World) (lo hi:Nat):Nat->Nat:=fun g=>if g<w.heap.size then own g else if lo<=own1 g/\own1 g<hi then own1 g else 0
theorem kG (own own1:Nat->Nat) (w:World) (lo hi:Nat):Ext w own (only own own1 w lo hi):=fun _ hk=>if_pos hk
theorem qg {lo hi:Nat} (he:Ext w own own1) (g k:Nat) (h1:lo<=k) (h2:k<hi) (h:own1 g=k):only own own1 w lo hi g=k:=by
 unfold only;split
 ·rename_i hg;rw[<- he g hg];exact h
 rw[if_pos (by rw[h];exact⟨h1,h2⟩)];exact h
theorem y7 {lo hi g:Nat} (hg:w.heap.size<=g):only own own1 w lo hi g=0\/(lo<=only own own1 w lo hi g/\only own own1 w lo hi g<hi):=by
 unfold only;rw[if_neg (Nat.not_lt.mpr hg)];split
 ·rename_i h;exact .inr h
 exact .inl rfl
theorem qh {lo hi:Nat} (hw:w.heap.size<=w'.heap.size) (hf:∀g,w'.heap.size<=g->own1 g=0):∀g,w'.heap.size<=g->only own own1 w lo hi g=0:=fun g hg=>by
 unfold only;rw[if_neg (Nat.not_lt.mpr (az hw hg)),hf g hg];split<;>rfl
end
section
variable {P:Lib.PrintTabs} {own own1 own2:Nat->Nat} {w0 w w':World} {ob db sb wb dm tb tm cb:Nat} {v:WV} {r:dB} {d:dW} {s:dC} {c:dJ} {l:List dH} {e:Ending}
theorem dP.jh (h:dP P own w0 w ob db v r) (hp:v.sp=.pointer (some ⟨sb,0,none⟩)) (hg:gj P own w0 w sb db wb dm tb tm (l,d,s) e w') :
 ∃u own2,e=.returned u/\eE w.heap.size w' u l/\dP P own2 w0 w' ob db v {r with eM:=d,eD:=some s}/\Ext w own own2/\dD (ey own) w w'/\∀g,w.heap.size<=g->own2 g<20:=by
 obtain⟨u,own1,v1,OL,NX,he,hx,hm,hs,ht⟩:=hg;have hn:=fun g (hg:w.heap.size<=g)=>y7 (own:=own) (own1:=own1) (lo:=1) (hi:=20) hg;have hf:=qh (own:=own) (own1:=own1) (lo:=1) (hi:=20) ht.size hs.fr
 have Up:∀g,ey (only own own1 w 1 20) g->ey own1 g:=fun g hg=>by
  unfold ey only at *;split at hg
  ·rename_i h1;rw[hx g h1];exact hg
  split at hg
  ·exact hg
  omega
 have KY:=yY (own1:=only own own1 w 1 20) hs (fun g k h1 h2 h3=>qg hx g k h1 h2 h3) Up hf;refine⟨u,only own own1 w 1 20,he,hm,h.eD ht (kG _ _ _ _ _) hf (fun g hg=>?_) d (some s) ⟨sb,wb,dm,tb,tm,v1,OL,NX,hp,KY⟩,kG _ _ _ _ _,ht,fun g hg=>?_⟩
 ·rcases aW g w.heap.size with h1|h1
  ·rw[kG own own1 w 1 20 g h1]at hg;exact h.low g hg
  exact az h.fF.size h1
 rcases hn g hg with h1|h1<;>omega
theorem dP.Gt (h:dP P own w0 w ob db v r) (k:Nat) (hk:k<r.dG.length) (hp:v.fW[k]?=some cb) (mk:Value->Value) (hg:iZ own (20+4*k) w cb c l mk e w') :
 ∃u own2,e=.returned (mk u)/\eE w.heap.size w' u l/\dP P own2 w0 w' ob db v {r with dG:=r.dG.set k c}/\Ext w own own2/\dD (fC own (20+4*k)) w w'/\∀g,w.heap.size<=g->own2 g<40:=by
 obtain⟨own1,WR,ZR,jZ,u,he,hx,RV,hc,hm,ht⟩:=hg;have Ut:k<4:=ay hk h.ft;have hn:=fun g (hg:w.heap.size<=g)=>y7 (own:=own) (own1:=own1) (lo:=20+4*k) (hi:=20+4*k+4) hg;have hf:=qh (own:=own) (own1:=own1) (lo:=20+4*k) (hi:=20+4*k+4) ht.size RV;have KL:=yZ (own1:=only own own1 w (20+4*k) (20+4*k+4)) hc fun g i h1 h2 h3=>qg hx g i h1 h2 h3;refine⟨u,only own own1 w (20+4*k) (20+4*k+4),he,hm,h.dL k hk ht (kG _ _ _ _ _) hf (fun g hg=>?_) c ⟨cb,ZR,jZ,WR,hp,KL⟩,kG _ _ _ _ _,ht,fun g hg=>?_⟩
 ·rcases aW g w.heap.size with h1|h1
  ·rw[kG own own1 w _ _ g h1]at hg;exact h.low g hg
  exact az h.fF.size h1
 rcases hn g hg with h1|h1<;>omega
end
end fe
namespace fe
open Go.RowKit heap own eO fq eK dR eZ
open dI (dW dC dJ ga fB eA gL Net dB)
open eU (Idx Inv)
section
variable {P:Lib.PrintTabs} {own own1:Nat->Nat} {w0 w w':World} {ob db:Nat} {v v':WV} {r r':dB}
def mi (P:Lib.PrintTabs) (own:Nat->Nat) (w0:World) (ob db:Nat) (v:WV) (w:World) (r':dB) (l:List dH) (mk:Value->Value) (e:Ending) (w':World):Prop:=
 ∃u own2,e=.returned (mk u)/\eE w.heap.size w' u l/\dP P own2 w0 w' ob db v r'/\Ext w own own2/\dD (fun g=>own g≠0) w w'/\∀g,w.heap.size<=g->g<w'.heap.size->g≠ob/\own2 g<60
theorem rS (h:dP P own w0 w ob db v r) {k cb:Nat} (hk:k<r.dG.length) (hp:v.fW[k]?=some cb) {mk:Value->Value} {c:dJ} {l:List dH} {e:Ending} (hg:iZ own (20+4*k) w cb c l mk e w'):mi P own w0 ob db v w {r with dG:=r.dG.set k c} l mk e w':=by
 obtain⟨u,own2,h1,h2,h3,h4,h5,h6⟩:=h.Gt k hk hp mk hg;refine⟨u,own2,h1,h2,h3,h4,h5.mono fun g _ e=>?_,fun g hg _=>⟨fun e=>?_,?_⟩⟩
 ·unfold fC at e;omega
 ·have:=h.o_.lt;omega
 have:=h6 g hg;omega
theorem Gu (w:World) (h:dP P own w0 w ob db v r) {k cb:Nat} {c:dJ} (hk:r.dG[k]?=some c) (hp:v.fW[k]?=some cb) :
 Calls Tryz.prog 107 #[.pointer (some ⟨cb,0,none⟩)] w (mi P own w0 ob db v w {r with dG:=r.dG.set k c.eV.2} c.eV.1 fun u=>u):=by
 obtain⟨TE,fm,sm,cv,h1,h2⟩:=h.cls k c hk;obtain rfl:cb=TE:=aw (hp.symm.trans h1);refine (xU h2 h.fr (by omega)).mono ?_;rintro e w' ⟨u,rfl,hm⟩;exact rS h (ar.mp hk).1 hp (hm.post (mk:=fun u=>u))
theorem Gv (w:World) (o:Int) (h:dP P own w0 w ob db v r) {k cb:Nat} {c:dJ} (hk:r.dG[k]?=some c) (hp:v.fW[k]?=some cb) :
 Calls Tryz.prog 123 #[.pointer (some ⟨cb,0,none⟩),.int .i64 o] w (mi P own w0 ob db v w {r with dG:=r.dG.set k (c.read o).2.2} (c.read o).2.1 fun u=>.tuple #[u,fx (c.read o).1]):=by
 obtain⟨TE,fm,sm,cv,h1,h2⟩:=h.cls k c hk;obtain rfl:cb=TE:=aw (hp.symm.trans h1);exact (ER o h2 h.fr (by omega)).mono fun e w' hm=>rS h (ar.mp hk).1 hp hm
theorem Gw (w:World) (o:Int) (data:List UInt8) (h:dP P own w0 w ob db v r) {k cb:Nat} {c:dJ} (hk:r.dG[k]?=some c) (hp:v.fW[k]?=some cb) :
 Calls Tryz.prog 128 #[.pointer (some ⟨cb,0,none⟩),.int .i64 o,.string ⟨data.toArray⟩] w (mi P own w0 ob db v w {r with dG:=r.dG.set k (c.write o data).2.2} (c.write o data).2.1 fun u=>.tuple #[u,fx (c.write o data).1]):=by
 obtain⟨TE,fm,sm,cv,h1,h2⟩:=h.cls k c hk;obtain rfl:cb=TE:=aw (hp.symm.trans h1);refine (EO o data h2 h.fr (by omega)).mono ?_;rintro e w' ⟨u,rfl,hm⟩;exact rS h (ar.mp hk).1 hp (hm.post (mk:=fun u=>.tuple #[u,fx (c.write o data).1]))
theorem Gx (w:World) (m:dH) (hv:gi m.eI) (h:dP P own w0 w ob db v r) {k cb:Nat} {c:dJ} (hk:r.dG[k]?=some c) (hp:v.fW[k]?=some cb) :
 Calls Tryz.prog 114 #[.pointer (some ⟨cb,0,none⟩),m.val] w (mi P own w0 ob db v w {r with dG:=r.dG.set k (c.take m).2} (c.take m).1 fun u=>u):=by
 obtain⟨TE,fm,sm,cv,h1,h2⟩:=h.cls k c hk;obtain rfl:cb=TE:=aw (hp.symm.trans h1);exact (Gs m h2 h.fr (by omega) hv).mono fun e w' hm=>rS h (ar.mp hk).1 hp hm
theorem py (b:Bool) (u:Value) (l:List dH) {B:Nat} (h:dP P own w0 w ob db v r) (hm:eE B w u l) (hB:∀g,B<=g->g<w.heap.size->g≠ob/\own g≠66) (hd:∀m∈l,m.data.length<=20) (X2:Int) (hto:X2=if b then 0 else -1) :
 Calls Tryz.prog 106 #[.pointer (some ⟨ob,0,none⟩),.int .i64 X2,u] w fun e w'=>e=.returned (.tuple #[])/\∃own2 v2,dP P own2 w0 w' ob db v2 (r.fK b l)/\Ext w own own2/\dD (fun g=>own g≠0) w w':=by
 rw[hto];refine (FI w b u l h hm hB hd).mono ?_;rintro e w' ⟨rfl,hs⟩;exact⟨rfl,hs.FH h⟩
theorem ub (w:World) (h:dP P own w0 w ob db v r):Calls Tryz.prog 105 #[.pointer (some ⟨ob,0,none⟩)] w fun e w'=>e=.returned (.tuple #[])/\dP P own w0 w' ob db v r.eR/\dD (fun g=>own g≠0) w w':=by
 refine (oc w h).mono ?_;rintro e w' ⟨rfl,h1,h2⟩;exact⟨rfl,h1,h.nj h2⟩
theorem rT {k:Int} (h:r.right k=true):∃n:Nat,k=n/\n<r.dG.length:=by
 unfold dB.right at h;simp only[aK,decide_eq_true_eq]at h;exact⟨k.toNat,by omega,by omega⟩
theorem za (w:World) (k:Int) {b:Int} {G:eU.eF} (hi:Inv b G r) (hb:b<=1000000) (h:dP P own w0 w ob db v r) :
 Calls Tryz.prog 63 #[.pointer (some ⟨ob,0,none⟩),.int .i64 k] w fun e w'=>e=.returned (fx (r.eV k).1)/\eP P own w0 ob db w (r.eV k).2 w':=by
 have Of:=Hd (rF w k h)
 cases hr:r.right k with
 |false =>
  rw[hr]at Of;have HR:Hy (r.eV k=(2,r)):=Hd (by unfold dB.eV;rw[hr];rfl);have H:=Hd h;clear h hr;(go_enter Tryz.func63,Tryz.ntmps63);(go_wp2_with (go_at_call 104;refine Of.o.mono ?_;rintro e w' ⟨rfl,rfl⟩));go_ret;rw[HR.o];exact⟨rfl,eP.here H.o⟩
 |true =>
  rw[hr]at Of;obtain⟨n,rfl,hn⟩:=rT hr;have KZ:r.dG[n]?=some r.dG[n]:=ax hn;generalize r.dG[n]=c at KZ
  have HR:Hy (r.eV n=(0,{r with dG:=r.dG.set n c.eV.2}.eR.fK false c.eV.1)):=Hd (by
   unfold dB.eV;rw[hr]
   simp only[dh,bK,if_false,bH,KZ])
  have OR:Hy (∀m∈c.eV.1,m.data.length<=20):=Hd fun m hm=>by
   obtain⟨l0,l1⟩:=eU.pw hi KZ;exact ((eU.tS (hi.dG n c KZ) hi.b0 hb l0 l1).1 m hm).short
  have Tx:Hy (r.eR.dG[n]?=some c):=Hd KZ;have H:=Hd h;obtain⟨m,hm⟩:∃m,m=r.dG.length:=⟨_,rfl⟩;rw[<- hm]at hn;have HM:=Hd hm;clear h hr KZ hi hm;go_enter Tryz.func63,Tryz.ntmps63
  go_wp2_with first
   |(go_at_call 104;refine Of.o.mono ?_;rintro e w' ⟨rfl,rfl⟩)
   |(go_at_call 105;refine (ub _ H.o).mono ?_;rintro e w1 ⟨rfl,h1,Le⟩;obtain⟨g5,KT,cb,fm,sm,cv,MG,Nq,PC,Mo,z5,f5,Nc⟩:=h1.pt Tx.o;have c5:w1.cell? ⟨ob,5,none⟩=some (.slice (some ⟨g5,0,none⟩) m KT):=(by rw[HM.o];exact (h1.o_.cell 5).trans (congrArg some MG));have H1:=Hd h1;have KP:=Hd Le;have Vu:=Hd Mo;clear h1 Le Mo MG Nq Nc f5)
   |(go_at_call 107;refine (Gu _ H1.o Tx.o Vu.o).mono ?_;rintro e w2 ⟨u,own2,rfl,Sp,h2,KA,Kr,Ke⟩;have Wj:=Hd Sp;have H2:=Hd h2;have KV:=Hd KA;have K4:=Hd (KP.o.trans Kr fun _ _ e=>e);have Kn:=Hd Ke;clear Sp h2 KA Kr Ke)
   |(go_at_call 106;refine (py false u _ H2.o Wj.o (fun g h1 h2=>⟨(Kn.o g h1 h2).1,by have:=(Kn.o g h1 h2).2;omega⟩) OR.o (-1) rfl).mono ?_;rintro e w3 ⟨rfl,NJ⟩;have Lp:=Hd NJ;clear NJ)
  go_ret;rw[HR.o];refine⟨rfl,eP.ahead (fun g hg=>KV.o g (ay hg KP.o.size)) K4.o Lp.o⟩
end
end fe
end Go.Proofs.YtlhodcmdpchllaaGreatDoor
