/-
  A part of the proof of the law WorldCalm: WoA, WoB, WoC, WoG, WoH, WoI, WoD, WoE, WoF, WoJ.
-/
import Derived.Test.YtjhdaojclilakaaGreatDoorHd
import Derived.Test.YtjhdaojclilakaaGreatDoorP18
import Derived.Test.YtjhdaojclilakaaGreatDoorP30
import Derived.Test.YtjhdaojclilakaaGreatDoorP33
import Derived.Test.YtjhdaojclilakaaGreatDoorP35
set_option maxHeartbeats 16000000
set_option maxRecDepth 1000000
namespace Go.Proofs.YtjhdaojclilakaaGreatDoor
section
variable {p q:Prop}
theorem abQ (h:p:=by
 obtain⟨ps,h1,h2,h3,h4⟩:=h.eH;exact⟨ps,h1,h2.fc ht he fun i _ hi=>no i 66 hi aj,fun p hp=>(h3 p hp).fc ht he fun i _ hi=>no i 67 hi aj,h4⟩):p:=h
theorem ab5 (h:p:=by
 exact⟨own2,v2,h1,fun k hk=>(h2 k (aG hk ht.size)).trans (he k hk),ht.trans h3 fun k hk hS=>by rw[<- he k hk];exact hS⟩):p:=h
theorem abB (h:p:=by
 rw[hv]at h1;have h2:=rH h1 k ab (VI x);rw[ints_set]at h2;simp only[aU];rw[hv];exact h2):p:=h
theorem aa5 (h:p:=by
 (go_wp2_with (go_at_call 38;refine TS.o.mono ?_;rintro e w' ⟨rfl,rfl⟩));go_ret;rw[HR.o];exact⟨rfl,gh.here H.o⟩):p:=h
end
namespace iv
open Go.RowKit heap own gC gO fD fj gj
open eY (fe eA eM iM iw fU fY Net eC)
def gB (e:iw):List Value:=[VI e.eI,VI e.call.eO,VI e.call.eF,.string ⟨e.call.value.data.toArray⟩,VI e.call.value.fq,.bool e.call.over,.bool e.call.hit,VI e.oe,VI e.ended,VI e.gv]
theorem kM (e:iw):(gB e).length=10:=rfl
def ints (l:List Int):List Value:=l.map (Value.int .i64)
def dg (g:fY):Int×List UInt8:=(g.to,lj g.eU)
structure WV where
 sp:Value
 cl:Value
 li:Value
 ck:Value
 nl:Value
 ev:Value
 op:Value
 ja:List Nat
def ny (db:Nat) (v:WV) (r:eC):Array Value:=#[VI r.eZ.eF,VI r.eZ.fa,VI r.eZ.fH,VP db 0,v.sp,v.cl,v.li,v.ck,v.nl,VI r.eH.lost,v.ev,v.op,VI r.step]
def jW (P:Lib.PrintTabs) (own:Nat->Nat) (w0 w:World) (db:Nat) (sp:Value) (d:fe):Option eA->Prop
 |some s=>∃sb a b c e v ps f,sp=VP sb 0/\fC P own w0 w sb db a b c e v ps f d s
 |none=>sp=.pointer none/\∃ps,kS P own w0 w db ps d
structure fp (P:Lib.PrintTabs) (own:Nat->Nat) (w0 w:World) (ob db:Nat) (v:WV) (r:eC):Prop where
 fr:∀g,w.heap.size<=g->own g=0
 low:∀g,own g≠0->w0.heap.size<=g
 o_:Has w ob (.cells (ny db v r) 68)
 gI:own ob=60
 fj:jW P own w0 w db v.sp r.eP r.ff
 cl:Row own 61 w 72 1 v.cl r.eD.length (v.ja.map fun b=>Value.pointer (some ⟨b,0,none⟩))
 pl:v.ja.length=r.eD.length
 cls:∀k c,r.eD[k]?=some c->∃cb fm sm cv,v.ja[k]?=some cb/\fM own (20+4*k) w cb fm sm cv c
 gz:r.eD.length<=4
 li:Row own 62 w 3 1 v.li r.fy.length (ints r.fy)
 ck:Row own 63 w 3 1 v.ck r.eN.length (ints r.eN)
 ev:Row own 64 w 45 10 v.ev r.fg.length (r.fg.flatMap gB)
 op:Row own 65 w 3 1 v.op r.ft.length (ints r.ft)
 eH:eH.lz own 66 w v.nl (r.eH.l.map dg)
 right:∀g∈r.eH.l,g.eU.right=true
 nl:r.fy.length=r.eD.length
 nc:r.eD.length+1<=r.eN.length/\r.eN.length<=5
 no:r.ft.length=r.eD.length
section
variable {P:Lib.PrintTabs} {own own1:Nat->Nat} {w0 w w':World} {ob db:Nat} {v:WV} {r:eC} {S:Nat->Prop}
theorem fp.iA (h:fp P own w0 w ob db v r):BB w0 w:=by
 have a:=h.fj;unfold jW at a;split at a
 ·obtain⟨sb,c,d,e,f,v,ps,g,-,b⟩:=a;exact b.iA
 obtain⟨-,ps,b⟩:=a;exact b.iA
theorem jW.fc {d:fe} {sp:Value} {o:Option eA} (h:jW P own w0 w db sp d o) (ht:eJ S w w') (he:Ext w own own1) (c:∀g,w'.heap.size<=g->own1 g=0) (hs:∀g,g<w.heap.size->S g->¬fL own g/\w0.heap.size<=g):jW P own1 w0 w' db sp d o:=by
 unfold jW at h⊢;split at h
 ·obtain⟨sb,j,k,l,m,v,ps,n,b,a⟩:=h;exact⟨sb,j,k,l,m,v,ps,n,b,a.fI ht he c hs⟩
 obtain⟨b,ps,a⟩:=h;refine⟨b,ps,a.fI ht he c fun g f i=>⟨fun e=>(hs g f i).1 ?_,(hs g f i).2⟩⟩;unfold fL;rw[e,a.jk];decide
theorem fp.ff (h:fp P own w0 w ob db v r) (ht:eJ (fL own) w w') (he:Ext w own own1) (b:∀g,w'.heap.size<=g->own1 g=0) (f:∀g,own1 g≠0->w0.heap.size<=g) (d:fe) (s:Option eA) (hs:jW P own1 w0 w' db v.sp d s):fp P own1 w0 w' ob db v {r with eP:=d,ff:=s}:=by
 (have no:∀g k,own g=k->20<=k->¬fL own g:=fun g k hk h1 e=>by unfold fL at e;omega);have lo:=h.o_.lt;refine⟨b,f,ht.has h.o_ (no _ 60 h.gI aj),(he _ lo).trans h.gI,hs,h.cl.fc ht he fun k _ hk=>no k 61 hk aj,h.pl,fun k c hc=>?_,h.gz,h.li.fc ht he fun k _ hk=>no k 62 hk aj,h.ck.fc ht he fun k _ hk=>no k 63 hk aj,h.ev.fc ht he fun k _ hk=>no k 64 hk aj,h.op.fc ht he fun k _ hk=>no k 65 hk aj,?_,h.right,h.nl,h.nc,h.no⟩
 ·obtain⟨i,j,sm,l,h1,a⟩:=h.cls k c hc;exact⟨i,j,sm,l,h1,a.fI ht he fun g _ m hc=>by unfold fL at m;unfold hO at hc;omega⟩
 obtain⟨ps,h1,a,n,o⟩:=h.eH;exact⟨ps,h1,a.fc ht he fun k _ hk=>no k 66 hk aj,fun p hp=>(n p hp).fc ht he fun k _ hk=>no k 67 hk aj,o⟩
theorem fp.eI (h:fp P own w0 w ob db v r) (k:Nat) (o:k<r.eD.length) (ht:eJ (hO own (20+4*k)) w w') (he:Ext w own own1) (n:∀g,w'.heap.size<=g->own1 g=0) (q:∀g,own1 g≠0->w0.heap.size<=g) (c':eM) (hc:∃b f sm l,v.ja[k]?=some b/\fM own1 (20+4*k) w' b f sm l c'):fp P own1 w0 w' ob db v {r with eD:=r.eD.set k c'}:=by
 have s:k<4:=aG o h.gz;(have no:∀g i,own g=i->60<=i->¬hO own (20+4*k) g:=fun g i hi h1 e=>by unfold hO at e;omega);have lo:=h.o_.lt;refine⟨n,q,ht.has h.o_ (no _ 60 h.gI aj),(he _ lo).trans h.gI,h.fj.fc ht he n fun g _ m=>?_,?_,?_,fun j c hj=>?_,?_,h.li.fc ht he fun i _ hi=>no i 62 hi aj,h.ck.fc ht he fun i _ hi=>no i 63 hi aj,h.ev.fc ht he fun i _ hi=>no i 64 hi aj,h.op.fc ht he fun i _ hi=>no i 65 hi aj,?_,h.right,?_,?_,?_⟩
 ·unfold hO at m;exact⟨fun e=>by unfold fL at e;omega,h.low g ab⟩
 ·rw[aU];exact h.cl.fc ht he fun i _ hi=>no i 61 hi aj
 ·rw[aU];exact h.pl
 ·have d:(r.eD.set k c')[j]?=some c:=hj;rw[bt]at d;split at d
  ·rename_i a;subst a;cases d;exact hc
  rename_i a;obtain⟨b,f,sm,l,h1,h2⟩:=h.cls j c d;exact⟨b,f,sm,l,h1,h2.fI ht he fun g _ m hc=>by unfold hO at m hc;omega⟩
 ·rw[aU];exact h.gz
 ·exact abQ
 ·rw[aU];exact h.nl
 ·rw[aU];exact h.nc
 rw[aU];exact h.no
theorem fp.fc (h:fp P own w0 w ob db v r) (ht:eJ S w w') (he:Ext w own own1) (d:∀g,w'.heap.size<=g->own1 g=0) (f:∀g,own1 g≠0->w0.heap.size<=g) (hs:∀g,g<w.heap.size->S g->own g=0/\w0.heap.size<=g):fp P own1 w0 w' ob db v r:=by
 (have no:∀g i,g<w.heap.size->own g=i->0<i->¬S g:=fun g i hg hi h1 e=>by have:=(hs g hg e).1;omega);have lo:=h.o_.lt;refine⟨d,f,ht.has h.o_ (no _ 60 lo h.gI aj),(he _ lo).trans h.gI,h.fj.fc ht he d fun g hg a=>⟨fun e=>by have:=(hs g hg a).1;unfold fL at e;omega,(hs g hg a).2⟩,h.cl.fc ht he fun i hg hi=>no i 61 hg hi aj,h.pl,fun k c hc=>?_,h.gz,h.li.fc ht he fun i hg hi=>no i 62 hg hi aj,h.ck.fc ht he fun i hg hi=>no i 63 hg hi aj,h.ev.fc ht he fun i hg hi=>no i 64 hg hi aj,h.op.fc ht he fun i hg hi=>no i 65 hg hi aj,?_,h.right,h.nl,h.nc,h.no⟩
 ·obtain⟨j,l,sm,m,h1,b⟩:=h.cls k c hc;exact⟨j,l,sm,m,h1,b.fI ht he fun g hg a hc=>by have:=(hs g hg a).1;unfold hO at hc;omega⟩
 obtain⟨ps,h1,b,n,o⟩:=h.eH;exact⟨ps,h1,b.fc ht he fun i hg hi=>no i 66 hg hi aj,fun p hp=>(n p hp).fc ht he fun i hg hi=>no i 67 hg hi aj,o⟩
theorem fp.below (h:fp P own w0 w ob db v r) (hb:BB w w') (a:∀g,w'.heap.size<=g->own g=0):fp P own w0 w' ob db v r:=
 h.fc (S:=fun _=>False) (eJ.il hb (ax _)) (Ext.refl _ _) a h.low fun _ _ h=>h.elim
theorem fp.drewN (h:fp P own w0 w ob db v r) (n:Nat):fp P own w0 (w.drewN n) ob db v r:=h.below (below_drewN (Below.refl _ _) n) h.fr
theorem fp.xQ (h:fp P own w0 w ob db v r) (n k:Int) (sp:Value) (o:Option eA) (ht:eJ (fun g=>g=ob) w w') (hp:jW P own w0 w' db sp r.eP o) (hs:Has w' ob (.cells (ny db {v with sp:=sp} {r with ff:=o,step:=n,eH:={r.eH with lost:=k} }) 68)):fp P own w0 w' ob db {v with sp:=sp} {r with ff:=o,step:=n,eH:={r.eH with lost:=k} }:=by
 (have no:∀g i,own g=i->i≠60->¬g=ob:=fun g i hi h1 e=>by rw[e,h.gI]at hi;exact h1 hi.symm);have fr:∀g,w'.heap.size<=g->own g=0:=fun g hg=>h.fr g (aB ht.size hg);have he:=Ext.refl w own;refine⟨fr,h.low,hs,h.gI,hp,h.cl.fc ht he fun i _ hi=>no i 61 hi aj,h.pl,fun k c hc=>?_,h.gz,h.li.fc ht he fun i _ hi=>no i 62 hi aj,h.ck.fc ht he fun i _ hi=>no i 63 hi aj,h.ev.fc ht he fun i _ hi=>no i 64 hi aj,h.op.fc ht he fun i _ hi=>no i 65 hi aj,?_,h.right,h.nl,h.nc,h.no⟩
 ·obtain⟨a,b,sm,d,h1,h2⟩:=h.cls k c hc;have j:k<4:=aG (az.mp hc).1 h.gz;exact⟨a,b,sm,d,h1,h2.fI ht he fun g _ f hc=>by unfold hO at hc;rw[f,h.gI]at hc;omega⟩
 exact abQ
theorem fp.BW (h:fp P own w0 w ob db v r) (ht:eJ (fun g=>g=ob) w w'):jW P own w0 w' db v.sp r.eP r.ff:=
 h.fj.fc ht (Ext.refl w own) (fun g a=>h.fr g (aB ht.size a)) fun g _ hS=>⟨fun e=>by unfold fL at e;rw[hS,h.gI]at e;omega,by rw[hS];exact h.low ob (by rw[h.gI];decide)⟩
theorem fp.KV (h:fp P own w0 w ob db v r) (n:Int):fp P own w0 (w.setCell ⟨ob,12,none⟩ (VI n)) ob db v {r with step:=n}:=
 h.xQ n r.eH.lost v.sp r.ff (fF.gX (eJ.refl _ _) _ _) (h.BW (fF.gX (eJ.refl _ _) _ _)) (h.o_.fQ 12 (VI n))
theorem jW.none {d:fe} {sp:Value} {o:Option eA} (h:jW P own w0 w db sp d o):jW P own w0 w db (.pointer none) d none:=by
 unfold jW at h;split at h
 ·obtain⟨sb,b,c,e,f,v,ps,g,-,a⟩:=h;exact⟨rfl,ps,a.eP⟩
 obtain⟨-,ps,a⟩:=h;exact⟨rfl,ps,a⟩
theorem fp.uw (h:fp P own w0 w ob db v r):fp P own w0 (w.setCell ⟨ob,4,none⟩ (.pointer none)) ob db {v with sp:=.pointer none} {r with ff:=none}:=
 h.xQ r.step r.eH.lost (.pointer none) none (fF.gX (eJ.refl _ _) _ _) (h.BW (fF.gX (eJ.refl _ _) _ _)).none (h.o_.fQ 4 (.pointer none))
def trim (own:Nat->Nat) (w:World):Nat->Nat:=fun g=>if g<w.heap.size then own g else 0
theorem qI (own:Nat->Nat) (w:World):Ext w own (trim own w):=fun _ a=>if_pos a
theorem KW (own:Nat->Nat) (w:World):∀g,w.heap.size<=g->trim own w g=0:=fun _ a=>if_neg (Nat.not_lt.mpr a)
theorem KX {T:Nat} {u:Value} {l:List eH.Dg} (h:eH.lz own T w u l):eH.lz (trim own w) T w u l:=by
 obtain⟨ps,a,b,c,d⟩:=h;have ht:eJ (fun _=>False) w w:=eJ.refl _ _;exact⟨ps,a,b.fc ht (qI own w) fun _ _ _ h=>h,fun p hp=>(c p hp).fc ht (qI own w) fun _ _ _ h=>h,d⟩
theorem fp.kt (h:fp P own w0 w ob db v r) (N:Net) (u:Value) (ht:eJ (fun g=>g=ob\/own g=66) w w') (he:Ext w own own1) (hs:Has w' ob (.cells (ny db {v with nl:=u} {r with eH:=N}) 68)) (a:eH.lz own1 66 w' u (N.l.map dg)) (b:∀g∈N.l,g.eU.right=true):fp P (trim own1 w') w0 w' ob db {v with nl:=u} {r with eH:=N}:=by
 have no:∀g i,own g=i->i≠60->i≠66->¬(g=ob\/own g=66):=fun g i hi h1 h2 e=>by
  rcases e with e|e
  ·rw[e,h.gI]at hi;exact h1 hi.symm
  exact h2 (hi.symm.trans e)
 have fr:=KW own1 w';have he:Ext w own (trim own1 w'):=fun k hk=>(qI own1 w' k (aG hk ht.size)).trans (he k hk);have lo:=h.o_.lt;have hw:w0.heap.size<=w.heap.size:=h.iA.size;refine⟨fr,fun g a=>?_,hs,(he _ lo).trans h.gI,h.fj.fc ht he fr fun g _ hS=>?_,h.cl.fc ht he fun i _ hi=>no i 61 hi aj aj,h.pl,fun k c hc=>?_,h.gz,h.li.fc ht he fun i _ hi=>no i 62 hi aj aj,h.ck.fc ht he fun i _ hi=>no i 63 hi aj aj,h.ev.fc ht he fun i _ hi=>no i 64 hi aj aj,h.op.fc ht he fun i _ hi=>no i 65 hi aj aj,KX a,b,h.nl,h.nc,h.no⟩
 ·rcases bk g w.heap.size with h1|h1
  ·exact h.low g (by rw[<- he g h1];exact a)
  omega
 ·rcases hS with hS|hS
  ·exact⟨fun e=>by unfold fL at e;rw[hS,h.gI]at e;omega,by rw[hS];exact h.low ob (by rw[h.gI];decide)⟩
  exact⟨fun e=>by unfold fL at e;omega,h.low g ab⟩
 obtain⟨d,f,sm,j,h1,h2⟩:=h.cls k c hc;have hk:k<4:=aG (az.mp hc).1 h.gz;refine⟨d,f,sm,j,h1,h2.fI ht he fun g _ hS hc=>?_⟩;unfold hO at hc;rcases hS with hS|hS
 ·rw[hS,h.gI]at hc;omega
 omega
theorem fp.gL (h:fp P own w0 w ob db v r) (g:fY) (d:g.eU.right=true) (hp:eH.uT own 66 ob 8 (ny db v r) 68 (r.eH.l.map dg) r.eH.lost (dg g) w w'):∃own1 v1,fp P own1 w0 w' ob db v1 {r with eH:=r.eH.send g}/\Ext w own own1/\eJ (fun g=>g=ob\/own g=66) w w':=by
 obtain⟨b,u,he,ht,hs,e⟩:=hp
 have e1:(r.eH.send g).l.map dg=(eH.gL (r.eH.l.map dg) r.eH.lost (dg g)).1:=by
  unfold eH.gL Net.send;by_cases a:200<=r.eH.l.length
  ·simp[a]
  simp[a]
 have f:(r.eH.send g).lost=(eH.gL (r.eH.l.map dg) r.eH.lost (dg g)).2:=by
  unfold eH.gL Net.send;by_cases a:200<=r.eH.l.length
  ·simp[a]
  simp[a]
 refine⟨_,_,h.kt (r.eH.send g) u ht he ?_ (by rw[e1];exact e) fun x c=>?_,fun k hk=>(qI b w' k (aG hk ht.size)).trans (he k hk),ht⟩
 ·rw[<- f]at hs;exact hs
 unfold Net.send at c;split at c
 ·exact h.right x c
 rcases aN.mp c with a|a
 ·exact h.right x a
 rw[aD.mp a];exact d
end
section
variable {P:Lib.PrintTabs} {own:Nat->Nat} {w0:World} {ob db:Nat} {v:WV} {r:eC}
theorem qJ (w:World) (h:fp P own w0 w ob db v r):Calls Tryz.prog 39 #[VP ob 0] w fun e w'=>e=.returned (.tuple #[])/\fp P own w0 w' ob db v r.fA/\eJ (fun g=>g=ob) w w':=by
 have a:CI w ob 12 r.step:=h.o_.cell 12
 have f12:=h.o_.frozen 12
 have H:=Hd h
 clear h
 go_enter Tryz.func39,Tryz.ntmps39
 go_wp2
 go_end0
 exact⟨rfl,H.o.KV _,fF.gX (eJ.refl _ _) _ _⟩
theorem uU (w:World) (k:Int) (h:fp P own w0 w ob db v r):Calls Tryz.prog 38 #[VP ob 0,VI k] w fun e w'=>e=.returned (.bool (r.right k))/\w=w':=by
 obtain⟨a,f,i⟩:∃a f,v.cl=.slice a r.eD.length f:=by
  rcases h.cl.1.2 with⟨c,j⟩|⟨g,cap,cur,c,-⟩
  ·have d:r.eD.length=0:=by
    have:=h.cl.1.1;simp[j]at this;rw[<- h.pl,this];rfl
   exact⟨_,_,by rw[c,d]⟩
  exact⟨_,_,c⟩
 (have c5:w.cell? ⟨ob,5,none⟩=some (.slice a r.eD.length f):=by rw[<- i];exact h.o_.cell 5);have hlen:r.eD.length<=4:=h.gz;obtain⟨b,hb⟩:=nm (r.right k);obtain⟨n,d⟩:=nm r.eD.length;unfold eC.right at hb;rw[<- d]at c5 hlen hb;rw[show r.right k=b from by rw[hb,d];rfl];clear h i d;subst hb;(go_enter Tryz.func38,Tryz.ntmps38);by_cases c:0<=k
 ·have e1:decide (0<=k)=true:=by simp[c]
  go_wp2
  go_ret
  simp_all
 have e1:decide (0<=k)=false:=by simp[c]
 go_wp2
 go_ret
 simp_all
theorem KY (w:World) (h:fp P own w0 w ob db v r):Calls Tryz.prog 45 #[VP ob 0] w fun e w'=>e=.returned (.tuple #[])/\(∃f,fp P own w0 w' ob db f r.iy)/\eJ (fun g=>g=ob) w w':=by
 have H:=Hd h;have f4:=h.o_.frozen 4;have c4:CC w ob 4 v.sp:=h.o_.cell 4;have hs:=h.fj;unfold jW at hs
 cases PV:r.ff with
 |none =>
  rw[PV]at hs
  obtain⟨a,-⟩:=hs
  rw[a]at c4
  have b:Hy (r.iy=r):=Hd (by unfold eC.iy;rw[PV])
  clear h PV a
  go_enter Tryz.func45,Tryz.ntmps45
  go_wp2_with fail
  go_end0
  exact⟨rfl,⟨v,by rw[b.o];exact H.o.below (Below.refl _ _) H.o.fr⟩,eJ.refl _ _⟩
 |some s =>
  rw[PV]at hs;obtain⟨sb,i,j,k,l,v1,ps,m,a,d⟩:=hs;rw[a]at c4;have c:=Hd (uz w d)
  cases hd:s.eX with
  |false =>
   rw[hd]at c
   have b:Hy (r.iy=r):=Hd (by unfold eC.iy;rw[PV];simp only[];rw[hd];rfl)
   clear h PV a d hd
   go_enter Tryz.func45,Tryz.ntmps45
   go_wp2_with (go_at_call 68;refine c.o.mono ?_;rintro e w' ⟨rfl,rfl⟩)
   go_end0
   exact⟨rfl,⟨v,by rw[b.o];exact H.o⟩,eJ.refl _ _⟩
  |true =>
   rw[hd]at c
   have b:Hy (r.iy={r with ff:=none}):=Hd (by unfold eC.iy;rw[PV];simp only[];rw[hd];rfl)
   clear h PV a d hd
   go_enter Tryz.func45,Tryz.ntmps45
   go_wp2_with (go_at_call 68;refine c.o.mono ?_;rintro e w' ⟨rfl,rfl⟩)
   go_end0
   exact⟨rfl,⟨_,by rw[b.o];exact H.o.uw⟩,fF.gX (eJ.refl _ _) _ _⟩
theorem oM {own:Nat->Nat} {T n size:Nat} {w:World} {e:TypeId} {v:Value} {xs:List Value} (h:Row own T w e size v n xs) (hs:0<size):∃a c,v=.slice a n c:=by
 rcases h.1.2 with⟨b,i⟩|⟨g,cap,cur,b,-⟩
 ·have j:n=0:=by
   have f:=h.1.1;rw[i]at f;rcases bQ n with d|d
   ·exact d
   have:=Nat.mul_pos d hs;simp at f;omega
  exact⟨_,_,by rw[b,j]⟩
 exact⟨_,_,b⟩
theorem fp.sU {w:World} (h:fp P own w0 w ob db v r):∃a c,v.nl=.slice a r.eH.l.length c:=by
 obtain⟨ps,-,d,-⟩:=h.eH;have b:=oM d aj;rw[aX]at b;exact b
theorem KZ (w:World) (h:fp P own w0 w ob db v r):Calls Tryz.prog 11 #[VP ob 0] w fun e w'=>e=.returned (.bool r.ff.isSome)/\w=w':=by
 have c4:CC w ob 4 v.sp:=h.o_.cell 4;have hs:=h.fj;unfold jW at hs
 cases PV:r.ff with
 |none =>
  rw[PV]at hs;obtain⟨a,-⟩:=hs;rw[a]at c4;clear h PV a;(go_enter Tryz.func11,Tryz.ntmps11);(go_wp2_with fail);go_ret;exact⟨rfl,rfl⟩
 |some s =>
  rw[PV]at hs;obtain⟨sb,b,c,d,f,v1,ps,g,a,-⟩:=hs;rw[a]at c4;clear h PV a;(go_enter Tryz.func11,Tryz.ntmps11);(go_wp2_with fail);go_ret;exact⟨rfl,rfl⟩
theorem rG (w:World) (h:fp P own w0 w ob db v r):Calls Tryz.prog 14 #[VP ob 0] w fun e w'=>e=.returned (VI r.eH.l.length)/\w=w':=by
 obtain⟨a,c,b⟩:=h.sU;(have c8:w.cell? ⟨ob,8,none⟩=some (.slice a r.eH.l.length c):=by rw[<- b];exact h.o_.cell 8);have d:=Hd (eH.BM ob 8 a r.eH.l.length c w c8);clear h b c8;(go_enter Tryz.func14,Tryz.ntmps14);(go_wp2_with (go_at_call 33;refine d.o.mono ?_;rintro e w' ⟨rfl,rfl⟩));go_ret;exact⟨rfl,rfl⟩
theorem K0 (w:World) (h:fp P own w0 w ob db v r):Calls Tryz.prog 23 #[VP ob 0] w fun e w'=>e=.returned (.tuple #[])/\(∃c,fp P own w0 w' ob db c r.od)/\eJ (fun g=>g=ob) w w':=by
 have HB:=Hd (qJ w h)
 clear h
 go_enter Tryz.func23,Tryz.ntmps23
 go_wp2_with (go_at_call 39;refine HB.o.mono ?_;rintro e w' ⟨rfl,a,b⟩;have c4:=a.o_.cell 4;have f4:=a.o_.frozen 4;have H:=Hd a;have d:=Hd b;clear a b)
 go_end0
 exact⟨rfl,⟨_,H.o.uw⟩,d.o.trans (fF.gX (eJ.refl _ _) _ _) fun _ _ e=>e⟩
end
def gh (P:Lib.PrintTabs) (own:Nat->Nat) (w0:World) (ob db:Nat) (w:World) (r:eC) (w':World):Prop:=
 ∃own1 v1,fp P own1 w0 w' ob db v1 r/\Ext w own own1/\eJ (fun g=>own g≠0) w w'
section
variable {P:Lib.PrintTabs} {own own1:Nat->Nat} {w0 w w1 w':World} {ob db:Nat} {v v1:WV} {r r':eC}
theorem gh.here (h:fp P own w0 w ob db v r):gh P own w0 ob db w r w:=⟨own,v,h,Ext.refl _ _,eJ.refl _ _⟩
theorem gh.ahead (he:Ext w own own1) (ht:eJ (fun g=>own g≠0) w w1) (h:gh P own1 w0 ob db w1 r' w'):gh P own w0 ob db w r' w':=by
 obtain⟨own2,v2,h1,h2,h3⟩:=h;exact ab5
theorem fp.pT (h:fp P own w0 w ob db v r) (ht:eJ (fun g=>g=ob) w w'):eJ (fun g=>own g≠0) w w':=ht.mono fun g _ e=>by rw[e,h.gI];decide
theorem fp.uV (h:fp P own w0 w ob db v r) (ht:eJ (fun g=>g=ob\/own g=66) w w'):eJ (fun g=>own g≠0) w w':=ht.mono fun g _ e=>by
 rcases e with e|e
 ·rw[e,h.gI];decide
 omega
theorem fp.K9 (h:fp P own w0 w ob db v r) (g:fY) (a:g.eU.right=true) (hp:eH.uT own 66 ob 8 (ny db v r) 68 (r.eH.l.map dg) r.eH.lost (dg g) w w'):gh P own w0 ob db w {r with eH:=r.eH.send g} w':=by
 obtain⟨own1,v1,b,c,d⟩:=h.gL g a hp;exact⟨own1,v1,b,c,h.uV d⟩
theorem gh.below (h:gh P own w0 ob db w r w1) (hb:BB w1 w'):gh P own w0 ob db w r w':=by
 obtain⟨own1,v1,a,b,c⟩:=h;exact⟨own1,v1,a.below hb fun g d=>a.fr g (aB hb.size d),b,c.trans (eJ.il (S:=fun _=>False) hb (ax _)) fun _ _ e=>e.elim⟩
theorem BX {m:eL} (a:m.right=true):(lj m).length<=1000:=by
 have b:(128^6:Nat)=4398046511104:=aj
 have e1:=BG m.iG (fun y hy=>by
  have:=rf a y hy;refine⟨this.1,?_⟩;rw[b]
  omega)
 have c:=wG a;have d:m.iG.length=7:=rfl;simp only[lj,aE,aL,bJ];omega
theorem sT {α β:Type} (f:α->β):∀(l:List α) (k:Nat),(l.map f).eraseIdx k=(l.eraseIdx k).map f
 | [],_=>rfl
 |_::_,0=>rfl
 |_::l,k+1=>congrArg (_::·) (sT f l k)
theorem fp.taken (h:fp P own w0 w ob db v r) (k:Nat) (u:Value) (ht:eJ (fun g=>g=ob\/own g=66) w w') (hs:Has w' ob (.cells ((ny db v r).setIfInBounds 8 u) 68)) (a:eH.lz own 66 w' u ((r.eH.l.map dg).eraseIdx k)):gh P own w0 ob db w {r with eH:={r.eH with l:=r.eH.l.eraseIdx k} } w':=by
 have e:(r.eH.l.map dg).eraseIdx k=(r.eH.l.eraseIdx k).map dg:=sT _ _ _;rw[e]at a;exact⟨_,_,h.kt {r.eH with l:=r.eH.l.eraseIdx k} u ht (Ext.refl _ _) hs a fun g a=>h.right g (bF a),fun g a=>qI own w' g (aG a ht.size),h.uV ht⟩
theorem La (w:World) (k:Int) (h:fp P own w0 w ob db v r):Calls Tryz.prog 21 #[VP ob 0,VI k] w fun e w'=>e=.returned (iC (r.jQ k).1)/\gh P own w0 ob db w (r.jQ k).2 w':=by
 obtain⟨a,c,j⟩:=h.sU;(have c8:w.cell? ⟨ob,8,none⟩=some (.slice a r.eH.l.length c):=by rw[<- j];exact h.o_.cell 8);have H:=Hd h;by_cases b:0<=k/\k<r.eH.l.length
 ·obtain⟨g,f⟩:∃g,r.eH.l[k.toNat]?=some g:=⟨_,ay ab⟩;have m:g∈r.eH.l:=aT f
  have HR:Hy (r.jQ k=(0,{r with eH:=r.eH.send g})):=Hd (by
   unfold eC.jQ;simp only[f]
   rw[if_neg (by simp[b.1,b.2])])
  have i:=Hd (eH.KR own 66 ob 8 (ny db v r) 68 v.nl (r.eH.l.map dg) r.eH.lost k.toNat g.to (lj g.eU) w h.o_ rfl rfl (by rw[h.gI];decide) (by rw[h.gI];decide) h.eH (by rw[br,f];rfl) (aB (BX (h.right g m)) aj));have d:((k.toNat:Nat):Int)=k:=Int.toNat_of_nonneg b.1;rw[d]at i;have n:=Hd (h.right g m);clear h c8 j b f m d;(go_enter Tryz.func21,Tryz.ntmps21);(go_wp2_with (go_at_call 48;refine i.o.mono ?_;rintro e w' ⟨rfl,p⟩));go_ret;rw[HR.o];exact⟨rfl,H.o.K9 g n.o p⟩
 have HR:Hy (r.jQ k=(2,r)):=Hd (by
  unfold eC.jQ
  rw[if_pos (by simp only[aV,bU,decide_eq_false_iff_not];omega)])
 have i:=Hd (eH.KP ob 8 a r.eH.l.length c k w c8 b);clear h c8 j b;(go_enter Tryz.func21,Tryz.ntmps21);(go_wp2_with (go_at_call 48;refine i.o.mono ?_;rintro e w' ⟨rfl,rfl⟩));go_ret;rw[HR.o];exact⟨rfl,gh.here H.o⟩
theorem Lb (w:World) (k:Int) (h:fp P own w0 w ob db v r):Calls Tryz.prog 20 #[VP ob 0,VI k] w fun e w'=>e=.returned (iC (r.jP k).1)/\gh P own w0 ob db w (r.jP k).2 w':=by
 obtain⟨a,c,g⟩:=h.sU;(have c8:w.cell? ⟨ob,8,none⟩=some (.slice a r.eH.l.length c):=by rw[<- g];exact h.o_.cell 8);have H:=Hd h;by_cases b:0<=k/\k<r.eH.l.length
 ·have HR:Hy (r.jP k=(0,{r with eH:={r.eH with l:=r.eH.l.eraseIdx k.toNat} })):=Hd (by
   unfold eC.jP
   rw[if_neg (by simp[b.1,b.2])])
  have f:=Hd (eH.BP own 66 ob 8 (ny db v r) 68 v.nl (r.eH.l.map dg) k.toNat w h.o_ rfl (by rw[h.gI];decide) (by rw[h.gI];decide) h.eH (by rw[aX];omega));have d:((k.toNat:Nat):Int)=k:=Int.toNat_of_nonneg b.1;rw[d]at f;clear h c8 g b d;(go_enter Tryz.func20,Tryz.ntmps20);(go_wp2_with (go_at_call 42;refine f.o.mono ?_;rintro e w' ⟨u,s,bs,j,rfl,i,m,n,p,q⟩;obtain⟨t,x,rfl⟩:=oM q aj));go_ret;rw[HR.o];exact⟨rfl,(H.o.taken k.toNat j m n p).below ((Below.refl _ _).alloc (ax _) _)⟩
 have HR:Hy (r.jP k=(2,r)):=Hd (by
  unfold eC.jP
  rw[if_pos (by simp only[aV,bU,decide_eq_false_iff_not];omega)])
 have f:=Hd (eH.BO ob 8 a r.eH.l.length c k w c8 b);clear h c8 g b;(go_enter Tryz.func20,Tryz.ntmps20);(go_wp2_with (go_at_call 42;refine f.o.mono ?_;rintro e w' ⟨rfl,i⟩));go_ret;rw[HR.o];exact⟨rfl,((gh.here H.o).below i).below ((Below.refl _ _).alloc (ax _) _)⟩
end
end iv
namespace iv
open Go.RowKit heap own gC gO fD fj gj
open eY (fe eA eM iM iw fU fY Net eC gV)
section
variable {P:Lib.PrintTabs} {own own1:Nat->Nat} {w0 w w' w1:World} {ob db B:Nat} {v:WV} {r r':eC}
def mD (P:Lib.PrintTabs) (own:Nat->Nat) (w0 w:World) (ob db:Nat) (r:eC) (w':World):Prop:=
 ∃own1 v1,fp P own1 w0 w' ob db v1 r/\Ext w own own1/\eJ (fun g=>g=ob\/own g=66) w w'
theorem xR (b:Bool) (m:eL):∀(l:List eL) (n:Net),gV n b (l++[m])=if m.right then (gV n b l).send ⟨if b then m.eI else -1,m⟩ else gV n b l
 | [],n=>by cases h:m.right<;>simp[gV,h]
 |x::l,n=>by
  rw[ct,gV,gV];split<;>exact xR b m l _
theorem mD.here (h:fp P own w0 w ob db v r):mD P own w0 w ob db r w:=⟨own,v,h,Ext.refl _ _,eJ.refl _ _⟩
theorem mD.Lc (h:fp P own w0 w ob db v r) (hs:mD P own w0 w ob db r' w'):gh P own w0 ob db w r' w':=by
 obtain⟨own1,v1,a,b,c⟩:=hs;exact⟨own1,v1,a,b,h.uV c⟩
theorem mD.more (he:Ext w own own1) (ht:eJ (fun g=>g=ob\/own g=66) w w1) (hs:mD P own1 w0 w1 ob db r' w'):mD P own w0 w ob db r' w':=by
 obtain⟨own2,v2,h1,h2,h3⟩:=hs;exact ab5
theorem ux {u:Value} {l:List eL} (h:fV B w u l) {k:Nat} {x:eL} (b:l[k]?=some x) :
 ∃g cap,u=.slice (some ⟨g,0,none⟩) l.length cap/\g<w.heap.size/\∀j y,(iS x)[j]?=some y->w.cell? ⟨g,k*9+j,none⟩=some y:=by
 have m:k<l.length:=(az.1 b).1;rcases h.2 with⟨-,n⟩|⟨g,cap,cur,rfl,-,e,-,-,-,i⟩
 ·omega
 have c:Has w g (.cells cur 93):=e;refine⟨g,cap,rfl,c.lt,fun j y d=>?_⟩;have a:j<9:=(az.1 d).1;rw[(kj c i (k*9+j) ab).1];exact (flat_get (f:=iS) (size:=9) (fun _=>rfl) l k x b j a).trans d
theorem BY (m:eL) (w:World) (b:m.right=true):Calls Tryz.prog 62 #[m.val] w fun e w'=>∃a n c,e=.returned (.tuple #[.slice a n c,.nilIface])/\BB w w'/\n<=c/\n<=140737488355328/\RD w' w'.heap.size a n (lj m):=by
 refine (Kk m w b).mono ?_;rintro e w' ⟨v,n,rfl,d,hb⟩;obtain⟨a,c,rfl⟩:=rD d;obtain⟨h,g,i,f⟩:=eH.uS d;exact⟨a,n,c,rfl,hb,g,by have:=f.1;have:=BX b;omega,f⟩
theorem BZ (h:fp P own w0 w ob db v r) (m:eL) (b:Bool) (f:m.right=true) {a:Option Addr} {n c:Nat} (hc:n<=c) (g:n<=140737488355328) (i:RD w w.heap.size a n (lj m)) (d:Int) (j:d=if b then m.eI else -1) :
 Calls Tryz.prog 63 #[VP ob 8,.agg #[VI d,.slice a n c]] w fun e w'=>e=.returned (.tuple #[])/\mD P own w0 w ob db {r with eH:=r.eH.send ⟨if b then m.eI else -1,m⟩} w':=by
 refine (eH.BS own 66 ob 8 (ny db v r) 68 v.nl (r.eH.l.map dg) r.eH.lost a n c (lj m) d w h.o_ rfl rfl (by rw[h.gI];decide) (by rw[h.gI];decide) h.eH i hc g).mono ?_;rintro e w' ⟨rfl,hp⟩;refine⟨rfl,?_⟩;rw[j]at hp
 exact h.gL ⟨if b then m.eI else -1,m⟩ f hp
theorem Ld (w:World) (b:Bool) (u:Value) (l:List eL) (h:fp P own w0 w ob db v r) (hm:fV B w u l) (hB:∀g,B<=g->g<w.heap.size->g≠ob/\own g≠66) (hd:∀m∈l,m.data.length<=20) :
 Calls Tryz.prog 40 #[VP ob 0,VI (if b then 0 else -1),u] w fun e w'=>e=.returned (.tuple #[])/\mD P own w0 w ob db (r.gf b l) w':=by
 have Uv:l.length<=maxLen:=by
  rcases hm.2 with⟨-,h0⟩|⟨g,cap,cur,-,-,-,E,F,-⟩
  ·rw[h0];exact bR _
  exact aB E F
 unfold maxLen at Uv;obtain⟨ua,uc,hu⟩:=rD hm;subst hu;have HM:=Hd hm;have HB:=Hd hB;have HD:=Hd hd;have H0:Hy (mD P own w0 w ob db (r.gf b (l.take 0)) w):=Hd (mD.here h)
 obtain⟨O,f⟩:=nm (if b then 0 else -1:Int)
 rw[<- f];(have aa:decide (0<=O)=b:=by rw[f];cases b<;>rfl);(have VD:Hy (b=false->O = -1):=Hd fun e=>by rw[f,e];rfl);clear h hm hB hd f;(go_enter Tryz.func40,Tryz.ntmps40);(go_wp2_with fail);(go_loopw [13] (fun y wx=>∃k:Nat,k<=l.length/\y=VI k/\mD P own w0 w ob db (r.gf b (l.take k)) wx) (fun y _=>l.length-(intOf y).toNat));case atStart=>exact⟨0,ab,rfl,H0.o⟩
 case round =>
  clear H0;obtain⟨k,hk,rfl,own1,v1,E,F,Q⟩:=hrel;have i:=Hd E;have G:=Hd F;have H:=Hd Q;by_cases PG:k<l.length
  ·have R:l[k]?=some l[k]:=ay PG;have T:l[k]∈l:=bO PG;(have U:l.take (k+1)=l.take k++[l[k]]:=by rw[bH,R];rfl);generalize l[k]=m at R T U;have V:=Hd (HD.o m T)
   have I:fV B wr (.slice ua l.length uc) l:=HM.o.fI Q fun g hg hl hS=>by
    obtain⟨e1,e2⟩:=HB.o g hg hl;rcases hS with hS|hS
    ·exact e1 hS
    exact e2 hS
   obtain⟨g,cap,e1,hg,hc⟩:=ux I R;simp only[Value.slice.injEq]at e1;obtain⟨rfl,-,rfl⟩:=e1;obtain⟨mk,d,q,s,ms,t,mv,x,md⟩:=m;have z0:CI wr g (k*9) mk:=hc 0 _ rfl;have z1:CI wr g (k*9+1) d:=hc 1 _ rfl;have z2:CI wr g (k*9+2) q:=hc 2 _ rfl;have z3:CI wr g (k*9+3) s:=hc 3 _ rfl;have z4:CI wr g (k*9+4) ms:=hc 4 _ rfl;have z5:CI wr g (k*9+5) t:=hc 5 _ rfl;have z6:CI wr g (k*9+6) mv:=hc 6 _ rfl;have z7:CC wr g (k*9+7) (.bool x):=hc 7 _ rfl;have z8:CC wr g (k*9+8) (.string ⟨md.toArray⟩):=hc 8 _ rfl;have Xp:=Hd U;obtain⟨yes,J⟩:=nm ((⟨mk,d,q,s,ms,t,mv,x,md⟩:eL).right);have z:=Hd J;clear E F Q R T U I hc hg J
   cases yes with
   |false =>
    have S:Hy (r.gf b (l.take (k+1))=r.gf b (l.take k)):=Hd (by
     rw[Xp.o];unfold eC.gf
     rw[xR,if_neg (by rw[<- z.o];decide)])
    (go_wp2_with (go_at_call 62;refine (Kl ⟨mk,d,q,s,ms,t,mv,x,md⟩ _ z.o.symm (aB V.o aj)).mono ?_;rintro e W ⟨rfl,hb⟩;have Qk:=Hd hb;clear hb));go_roundw
    case rel =>
     have hb:=((Below.refl wr.heap.size wr).alloc (ax _) _).trans (Qk.o.mono ae);exact⟨k+1,ab,by go_num,by rw[S.o];exact⟨own1,v1,i.o.below hb fun g hg=>i.o.fr g (aB hb.size hg),G.o,H.o.jl hb (ax _)⟩⟩
    case measure=>simp[intOf];omega
   |true =>
    have S:Hy (r.gf b (l.take (k+1))={r.gf b (l.take k)with eH:=(r.gf b (l.take k)).eH.send ⟨if b then d else -1,⟨mk,d,q,s,ms,t,mv,x,md⟩⟩}):=Hd (by
     rw[Xp.o];unfold eC.gf
     rw[xR,if_pos z.o.symm])
    cases b with
    |false =>
     have Qd:Hy (O = -1):=Hd (VD.o rfl)
     go_wp2_with (first
      |(go_at_call 62;refine (BY ⟨mk,d,q,s,ms,t,mv,x,md⟩ _ z.o.symm).mono ?_;rintro e W ⟨a,n,c,rfl,hb,K,L,M⟩;have j:=((Below.refl wr.heap.size wr).alloc (ax _) _).trans (hb.mono ae);have A:=Hd (i.o.below j fun g hg=>i.o.fr g (aB j.size hg));have X:=Hd (H.o.jl j (ax _));have Y:=Hd M;have C:=Hd K;have D:=Hd L;clear hb j M K L)
      |(go_at_call 63;refine (BZ A.o ⟨mk,d,q,s,ms,t,mv,x,md⟩ false z.o.symm C.o D.o Y.o O Qd.o).mono ?_;rintro e w3 ⟨rfl,hp⟩;have Z:=Hd (mD.more G.o X.o hp);clear hp))
     go_roundw;(case rel=>exact⟨k+1,ab,by go_num,by rw[S.o];exact Z.o⟩);case measure=>simp[intOf];omega
    |true =>
     go_wp2_with (first
      |(go_at_call 62;refine (BY ⟨mk,d,q,s,ms,t,mv,x,md⟩ _ z.o.symm).mono ?_;rintro e W ⟨a,n,c,rfl,hb,K,L,M⟩;have cq:CI W wr.heap.size 1 d:=(hb.cell (p:=⟨wr.heap.size,1,none⟩) ae).trans ((Has.new wr _).cell 1);have j:=((Below.refl wr.heap.size wr).alloc (ax _) _).trans (hb.mono ae);have A:=Hd (i.o.below j fun g hg=>i.o.fr g (aB j.size hg));have X:=Hd (H.o.jl j (ax _));have Y:=Hd M;have C:=Hd K;have D:=Hd L;clear hb j M K L)
      |(go_at_call 63;refine (BZ A.o ⟨mk,d,q,s,ms,t,mv,x,md⟩ true z.o.symm C.o D.o Y.o d rfl).mono ?_;rintro e w3 ⟨rfl,hp⟩;have Z:=Hd (mD.more G.o X.o hp);clear hp))
     go_roundw;(case rel=>exact⟨k+1,ab,by go_num,by rw[S.o];exact Z.o⟩);case measure=>simp[intOf];omega
  obtain rfl:k=l.length:=ab
  have N:l.take l.length=l:=bK
  rw[N]at i
  have HF:Hy (mD P own w0 w ob db (r.gf b l) wr):=Hd ⟨own1,v1,i.o,G.o,H.o⟩
  clear E F Q N i G H
  go_wp2_with fail
  go_end0
  exact⟨rfl,HF.o⟩
end
end iv
namespace iv
open Go.RowKit heap own gC gO fD fj gj
open eY (fe eA eM iM iw fU fY Net eC)
section
variable {P:Lib.PrintTabs} {own own1:Nat->Nat} {w0 w w':World} {ob db:Nat} {v v':WV} {r r':eC} {S:Nat->Prop}
theorem rH {T n size g cap:Nat} {e:TypeId} {xs:List Value} (h:Row own T w e size (.slice (some ⟨g,0,none⟩) n cap) n xs) (j:Nat) (a:j<n*size) (u:Value):Row own T (w.setCell ⟨g,j,none⟩ u) e size (.slice (some ⟨g,0,none⟩) n cap) n (xs.set j u):=by
 have b:0<n:=by
  rcases bQ n with e|e
  ·rw[e,Nat.zero_mul]at a;omega
  exact e
 obtain⟨c,o,cur,e1,d,f,i,k,l,m⟩:=h.shape b;simp only[Value.slice.injEq]at e1;obtain⟨e1,-,rfl⟩:=e1;(obtain rfl:g=c:=by simpa using e1);refine Row.mk d (f.fQ j u) i k (by simp[l]) ?_;rw[dP,List.take_set,m]
theorem lE {T:Nat} {t:TypeId} {u:Value} {l:List Int} (h:Row own T w t 1 u l.length (ints l)) {k:Nat} {x:Int} (a:l[k]?=some x) :
 ∃g cap,u=.slice (some ⟨g,0,none⟩) l.length cap/\own g=T/\g<w.heap.size/\CI w g k x/\w.frozen? ⟨g,k,none⟩=false:=by
 have e:k<l.length:=(az.1 a).1;obtain⟨g,cap,cur,rfl,c,b,f,i,j,d⟩:=h.shape ab;have:=kj b d k ab;refine⟨g,cap,rfl,c,b.lt,?_,this.2⟩;show World.cell? _ _=_;rw[this.1];simp[ints,a]
theorem ints_set (l:List Int) (k:Nat) (x:Int):(ints l).set k (VI x)=ints (l.set k x):=by simp[ints,List.map_set]
theorem fp.rows (h:fp P own w0 w ob db v r) (ht:eJ S w w') (f:∀g,g<w.heap.size->S g->g=ob\/(61<=own g/\own g<66)) (he:Ext w own own1) (m:∀g,w'.heap.size<=g->own1 g=0) (q:∀g,own1 g≠0->w0.heap.size<=g)
 (hs:Has w' ob (.cells (ny db v' r') 68)) (e1:v'.sp=v.sp) (d:v'.nl=v.nl) (j:v'.ja=v.ja) (ed:r'.eP=r.eP) (es:r'.ff=r.ff) (a:r'.eD=r.eD) (n:r'.eH.l=r.eH.l)
 (cl:Row own1 61 w' 72 1 v'.cl r.eD.length (v.ja.map fun b=>Value.pointer (some ⟨b,0,none⟩)))
 (li:Row own1 62 w' 3 1 v'.li r'.fy.length (ints r'.fy)) (ck:Row own1 63 w' 3 1 v'.ck r'.eN.length (ints r'.eN))
 (ev:Row own1 64 w' 45 10 v'.ev r'.fg.length (r'.fg.flatMap gB)) (op:Row own1 65 w' 3 1 v'.op r'.ft.length (ints r'.ft))
 (nl:r'.fy.length=r.fy.length) (nc:r'.eN.length=r.eN.length) (no:r'.ft.length=r.ft.length):fp P own1 w0 w' ob db v' r':=by
 have lo:=h.o_.lt
 have o:∀g i,g<w.heap.size->own g=i->i≠60->(i<61\/66<=i)->¬S g:=fun g i hg hi h1 h2 hSg=>by
  rcases f g hg hSg with e|e
  ·rw[e,h.gI]at hi;exact h1 hi.symm
  omega
 refine⟨m,q,hs,(he _ lo).trans h.gI,?_,?_,?_,fun k c hc=>?_,?_,li,ck,ev,op,?_,?_,?_,?_,?_⟩
 ·rw[e1,ed,es];refine h.fj.fc ht he m fun g hg hSg=>?_;rcases f g hg hSg with e|e
  ·exact⟨fun d=>by unfold fL at d;rw[e,h.gI]at d;omega,by rw[e];exact h.low ob (by rw[h.gI];decide)⟩
  exact⟨fun d=>by unfold fL at d;omega,h.low g ab⟩
 ·rw[a,j];exact cl
 ·rw[a,j];exact h.pl
 ·rw[a]at hc;obtain⟨s,t,sm,u,h1,h2⟩:=h.cls k c hc;have z:k<4:=aG (az.mp hc).1 h.gz;refine⟨s,t,sm,u,by rw[j];exact h1,h2.fI ht he fun g hg hSg hc=>?_⟩;unfold hO at hc;rcases f g hg hSg with e|e
  ·rw[e,h.gI]at hc;omega
  omega
 ·rw[a];exact h.gz
 ·rw[d,n];obtain⟨ps,h1,h2,x,y⟩:=h.eH;exact⟨ps,h1,h2.fc ht he fun i hg hi=>o i 66 hg hi aj aj,fun p hp=>(x p hp).fc ht he fun i hg hi=>o i 67 hg hi aj aj,y⟩
 ·rw[n];exact h.right
 ·rw[nl,a];exact h.nl
 ·rw[nc,a];exact h.nc
 rw[no,a];exact h.no
theorem fp.uW (h:fp P own w0 w ob db v r) (g T:Nat) (a:own g=T) (b:61<=T) (c:T<66):(∀k,k<w.heap.size->k=g->k=ob\/(61<=own k/\own k<66))/\(∀i j,i<w.heap.size->own i=j->j≠T->¬i=g)/\g≠ob/\(∀k,(w'.heap.size<=k->w.heap.size<=w'.heap.size->own k=0)):=
 ⟨fun k _ e=>.inr (by rw[e,a];exact⟨b,c⟩),fun i j _ hi d e=>d (by rw[<- hi,e,a]),fun e=>by rw[e,h.gI]at a;omega,fun k f hs=>h.fr k (aB hs f)⟩
theorem fp.uX (h:fp P own w0 w ob db v r) (k:Nat) (x:Int) (c:k<r.ft.length) {g cap:Nat} (hv:v.op=.slice (some ⟨g,0,none⟩) r.ft.length cap) (a:own g=65):fp P own w0 (w.setCell ⟨g,k,none⟩ (VI x)) ob db v {r with ft:=r.ft.set k x}:=by
 obtain⟨b,a2,a3,a4⟩:=h.uW (w':=w.setCell ⟨g,k,none⟩ (VI x)) g 65 a aj aj;have ht:eJ (fun i=>i=g) w (w.setCell ⟨g,k,none⟩ (VI x)):=fF.gX (eJ.refl _ _) _ _;have he:=Ext.refl w own;refine h.rows ht b he (fun i hi=>a4 i hi ht.size) h.low (h.o_.jv (Ne.symm a3) _) rfl rfl rfl rfl rfl rfl rfl (h.cl.fc ht he fun i hi ho=>a2 i 61 hi ho aj) (h.li.fc ht he fun i hi ho=>a2 i 62 hi ho aj) (h.ck.fc ht he fun i hi ho=>a2 i 63 hi ho aj) (h.ev.fc ht he fun i hi ho=>a2 i 64 hi ho aj) ?_ rfl rfl ae;have h1:=h.op;exact abB
theorem fp.Le (h:fp P own w0 w ob db v r) (k:Nat) (x:Int) (c:k<r.fy.length) {g cap:Nat} (hv:v.li=.slice (some ⟨g,0,none⟩) r.fy.length cap) (a:own g=62):fp P own w0 (w.setCell ⟨g,k,none⟩ (VI x)) ob db v {r with fy:=r.fy.set k x}:=by
 obtain⟨b,a2,a3,a4⟩:=h.uW (w':=w.setCell ⟨g,k,none⟩ (VI x)) g 62 a aj aj;have ht:eJ (fun i=>i=g) w (w.setCell ⟨g,k,none⟩ (VI x)):=fF.gX (eJ.refl _ _) _ _;have he:=Ext.refl w own;refine h.rows ht b he (fun i hi=>a4 i hi ht.size) h.low (h.o_.jv (Ne.symm a3) _) rfl rfl rfl rfl rfl rfl rfl (h.cl.fc ht he fun i hi ho=>a2 i 61 hi ho aj) ?_ (h.ck.fc ht he fun i hi ho=>a2 i 63 hi ho aj) (h.ev.fc ht he fun i hi ho=>a2 i 64 hi ho aj) (h.op.fc ht he fun i hi ho=>a2 i 65 hi ho aj) ae rfl rfl;have h1:=h.li;exact abB
theorem fp.Lf (h:fp P own w0 w ob db v r) (k:Nat) (x:Int) (c:k<r.eN.length) {g cap:Nat} (hv:v.ck=.slice (some ⟨g,0,none⟩) r.eN.length cap) (a:own g=63):fp P own w0 (w.setCell ⟨g,k,none⟩ (VI x)) ob db v {r with eN:=r.eN.set k x}:=by
 obtain⟨b,a2,a3,a4⟩:=h.uW (w':=w.setCell ⟨g,k,none⟩ (VI x)) g 63 a aj aj;have ht:eJ (fun i=>i=g) w (w.setCell ⟨g,k,none⟩ (VI x)):=fF.gX (eJ.refl _ _) _ _;have he:=Ext.refl w own;refine h.rows ht b he (fun i hi=>a4 i hi ht.size) h.low (h.o_.jv (Ne.symm a3) _) rfl rfl rfl rfl rfl rfl rfl (h.cl.fc ht he fun i hi ho=>a2 i 61 hi ho aj) (h.li.fc ht he fun i hi ho=>a2 i 62 hi ho aj) ?_ (h.ev.fc ht he fun i hi ho=>a2 i 64 hi ho aj) (h.op.fc ht he fun i hi ho=>a2 i 65 hi ho aj) rfl ae rfl;have h1:=h.ck;exact abB
theorem fp.Lg (h:fp P own w0 w ob db v r) (l:List iw) (ht:eJ (fun i=>own i=64) w w') (b:Row own 64 w' 45 10 v.ev l.length (l.flatMap gB)):fp P own w0 w' ob db v {r with fg:=l}:=by
 have he:=Ext.refl w own;have a2:∀i j,i<w.heap.size->own i=j->j≠64->¬own i=64:=fun i j _ hi hj e=>hj (by rw[<- hi,e]);refine h.rows ht (fun g _ e=>.inr ab) he (fun i hi=>h.fr i (aB ht.size hi)) h.low (ht.has h.o_ (by rw[h.gI];decide)) rfl rfl rfl rfl rfl rfl rfl (h.cl.fc ht he fun i hi a=>a2 i 61 hi a aj) (h.li.fc ht he fun i hi a=>a2 i 62 hi a aj) (h.ck.fc ht he fun i hi a=>a2 i 63 hi a aj) b (h.op.fc ht he fun i hi a=>a2 i 65 hi a aj) rfl rfl rfl
theorem fp.pt (h:fp P own w0 w ob db v r) {k:Nat} {c:eM} (e:r.eD[k]?=some c) :
 ∃g cap a b sm d,v.cl=.slice (some ⟨g,0,none⟩) r.eD.length cap/\own g=61/\g<w.heap.size/\v.ja[k]?=some a/\CP w g k a 0/\w.frozen? ⟨g,k,none⟩=false/\fM own (20+4*k) w a b sm d c:=by
 have n:k<r.eD.length:=(az.1 e).1;obtain⟨a,b,sm,d,f,j⟩:=h.cls k c e;obtain⟨g,cap,cur,hv,l,i,o,p,q,m⟩:=h.cl.shape ab;have:=kj i m k ab;refine⟨g,cap,a,b,sm,d,hv,l,i.lt,f,?_,this.2,j⟩;show World.cell? _ _=_;rw[this.1];simp[f]
end
end iv
namespace iv
open Go.RowKit heap own gC gO fD fj gj
open eY (fe eA eM iM iw fU fY Net eC)
open fK (Idx)
section
variable {P:Lib.PrintTabs} {own own1:Nat->Nat} {w0 w w':World} {ob db:Nat} {v v':WV} {r r':eC}
theorem LG {T n b g cap:Nat} {l:List iw} {x:iw} (h:Row own T w 45 10 (.slice (some ⟨g,0,none⟩) n cap) l.length (l.flatMap gB)) (i:l[b]?=some x) (c:iM) (s:Int) :
 Row own T ((w.setCells g (b*10+1) (#[VI c.eO,VI c.eF,.string ⟨c.value.data.toArray⟩,VI c.value.fq,.bool c.over,.bool c.hit]:Array Value).toList).setCell ⟨g,b*10+8,none⟩ (VI s)) 45 10 (.slice (some ⟨g,0,none⟩) n cap) l.length ((l.set b {x with call:=c,ended:=s}).flatMap gB):=by
 have j:b<l.length:=(az.1 i).1;have o:l[b]=x:=(az.1 i).2
 obtain⟨rfl,-⟩:n=l.length/\True:=by
  obtain⟨a,c2,e⟩:=oM h aj;simp only[Value.slice.injEq]at e;exact⟨e.2.1,trivial⟩
 (have p:l=l.take b++x::l.drop (b+1):=by rw[<- o,List.getElem_cons_drop,cS]);(have hlen:((l.take b).flatMap gB).length=b*10:=by rw[nf kM,bV,ef (Nat.le_of_lt j)]);obtain⟨A,d⟩:=nm ((l.take b).flatMap gB);obtain⟨B,k⟩:=nm ((l.drop (b+1)).flatMap gB)
 have e1:l.flatMap gB=(A++[VI x.eI])++[VI x.call.eO,VI x.call.eF,.string ⟨x.call.value.data.toArray⟩,VI x.call.value.fq,.bool x.call.over,.bool x.call.hit]++([VI x.oe,VI x.ended,VI x.gv]++B):=by
  rw[p,cH,bm,d,k];simp[gB]
 have q:(l.set b {x with call:=c,ended:=s}).flatMap gB=(A++[VI x.eI,VI c.eO,VI c.eF,.string ⟨c.value.data.toArray⟩,VI c.value.fq,.bool c.over,.bool c.hit,VI x.oe])++[VI s]++([VI x.gv]++B):=by
  rw[dv,if_pos j,cH,bm,d,k];simp[gB]
 rw[<- d]at hlen;rw[e1]at h;have f:=Cf (vs:=[VI c.eO,VI c.eF,.string ⟨c.value.data.toArray⟩,VI c.value.fq,.bool c.over,.bool c.hit]) h rfl (Nat.succ_pos _);rw[aE,hlen,aQ]at f;have r:∀u:List Value,(A++[VI x.eI])++u++([VI x.oe,VI x.ended,VI x.gv]++B)=(A++([VI x.eI]++u++[VI x.oe]))++[VI x.ended]++([VI x.gv]++B):=fun u=>ae;rw[r]at f;have m:=Cf (vs:=[VI s]) f rfl (Nat.succ_pos _);rw[aE,hlen]at m;rw[q];exact m
theorem xZ (w:World) (k:Nat) (h:fp P own w0 w ob db v r) (hk:k<r.eD.length) (hi:Idx r) :
 Calls Tryz.prog 47 #[VP ob 0,VI k] w fun e w'=>e=.returned (.tuple #[])/\gh P own w0 ob db w (r.gG k) w':=by
 (have X:k<r.ft.length:=by rw[h.no];exact hk);have q:r.eD[k]?=some r.eD[k]:=ay hk;have t:r.ft[k]?=some r.ft[k]:=ay X;have d:=hi _ (bO X);generalize r.eD[k]=c at q;generalize r.ft[k]=e at t d;have ZW:=Hd q;have aa:=Hd t;have H:=Hd h;obtain⟨g8,To,F,Y,ZX,z8,f8⟩:=lE h.op t;obtain⟨g5,Z,cb,fm,sm,cv,R1,G,Vp,Sn,z5,f5,B⟩:=h.pt q;(have VQ:w.cell? ⟨ob,11,none⟩=some (.slice (some ⟨g8,0,none⟩) r.ft.length To):=by rw[<- F];exact h.o_.cell 11);(have c5:w.cell? ⟨ob,5,none⟩=some (.slice (some ⟨g5,0,none⟩) r.eD.length Z):=by rw[<- R1];exact h.o_.cell 5);have SE:=Hd B;have HB:=Hd (rE w B);have I:=Hd F;have Yk:=Hd Y;have aq:=Hd d;have Qa:Hy (r.ft.length=r.eD.length):=Hd h.no;obtain⟨n8,l⟩:∃n,n=r.ft.length:=⟨_,rfl⟩;obtain⟨n5,J⟩:∃n,n=r.eD.length:=⟨_,rfl⟩;rw[<- l]at VQ X;rw[<- J]at c5 hk;have L:=Hd l;have ar:=Hd J;by_cases US:0<=e
 ·have e0:decide (0<=e)=true:=decide_eq_true US
  cases QL:c.fB with
  |true =>
   rw[QL]at HB
   have HR:Hy (r.gG k=r):=Hd (by unfold eC.gG;rw[q,t];simp[QL])
   clear h q t d F R1 Y G Sn B l J QL
   go_enter Tryz.func47,Tryz.ntmps47
   go_wp2_with (go_at_call 52;refine HB.o.mono ?_;rintro e w' ⟨rfl,rfl⟩)
   go_end0
   exact⟨rfl,by rw[HR.o];exact gh.here H.o⟩
  |false =>
   rw[QL]at HB;obtain⟨a,rfl⟩:∃a:Nat,e=a:=⟨e.toNat,ab⟩;have M:a<r.fg.length:=ab;have hex:r.fg[a]?=some r.fg[a]:=ay M;generalize r.fg[a]=x at hex;obtain⟨g7,P0,Tz,Te,UA,au,a1,u⟩:=Row.elem (f:=gB) kM h.ev hex;(have Rz:w.cell? ⟨ob,10,none⟩=some (.slice (some ⟨g7,0,none⟩) r.fg.length P0):=by rw[<- Tz];exact h.o_.cell 10);have TQ:CI w ob 12 r.step:=h.o_.cell 12
   have HY:Hy (∀j,j<6->(w.cell? ⟨g7,a*10+1+j,none⟩).isSome=true/\w.frozen? ⟨g7,a*10+1+j,none⟩=false):=Hd fun j hj=>by
    (have ad:1+j<(gB x).length:=by rw[kM];omega);have:=u (1+j) _ (ay ad);rw[<- Nat.add_assoc]at this;rw[this.1];exact⟨rfl,this.2⟩
   have y8:=u 8 _ rfl;have PI:=xN w.drew B.drew;unfold sR at PI;have S9:=Hd PI;clear PI;have al:=Hd QL;have C:ob<w.heap.size:=h.o_.lt;(have an:g5≠g7:=fun e=>by rw[e,Te]at G;cases G);(have y:ob≠g7:=fun e=>by have:=h.gI;rw[e,Te]at this;cases this);have Ve:=Hd hex;have N:=Hd Tz;have O:=Hd Te;obtain⟨n7,TB⟩:∃n,n=r.fg.length:=⟨_,rfl⟩;rw[<- TB]at Rz M;have Tk:=Hd TB;clear h q t d F R1 Y G Sn B l J QL u Tz Te TB hex;(go_enter Tryz.func47,Tryz.ntmps47);(go_upto_region 2 with (go_at_call 52;refine HB.o.mono ?_;rintro e w' ⟨rfl,rfl⟩));refine last.iJ (fun W=>CS W ob 5 g5 n5 Z/\CS W ob 10 g7 n7 P0/\CI W ob 12 r.step/\CP W g5 k cb 0) 27 28 ⟨c5,Rz,TQ,z5⟩ fun HS=>?_;refine last.many [(0,25,_),(1,26,_),(2,27,_),(3,28,_),(4,29,_),(5,30,_),(6,31,_),(7,32,_),(8,33,_),(9,34,_),(10,35,_),(11,36,_),(12,37,_),(13,38,_),(14,39,_),(15,40,_),(16,41,_),(18,43,_),(19,44,_),(20,45,_),(21,46,_)] HS.o ?_ (hy:=fun W' Pt=>by have e1:=Pt.2.1;have f0:=Pt.1;have f1:=Pt.2.2.2;have f2:=Pt.2.2.1;repeat (first|exact .z|refine .s ?_|refine .k ?_));refine last.one 17 fun K hK=>?_;go_simp;refine S9.o.mono ?_;rintro e Q ⟨rfl,D⟩;have Qw:Hy ((fun W=>CS W ob 5 g5 n5 Z/\CS W ob 10 g7 n7 P0/\CI W ob 12 r.step/\CP W g5 k cb 0) Q):=Hd ⟨(D.cell (p:=⟨ob,5,none⟩) C).trans c5,(D.cell (p:=⟨ob,10,none⟩) C).trans Rz,(D.cell (p:=⟨ob,12,none⟩) C).trans TQ,(D.cell (p:=⟨g5,k,none⟩) Vp).trans z5⟩;have b:=Hd (((Below.refl w.heap.size w).drew).trans D);clear D;refine hK.out _ _ (fun _=>Qw.o) ?_;clear hK K HS;have HS:=Qw;refine last.many [(22,47,_),(23,48,_)] HS.o ?_;refine last.one 24 fun K hK=>?_;refine LF 43 (.tmp 48) (.tmp 42) rfl g7 (a*10+1) #[VI c.call.eO,VI c.call.eF,.string ⟨c.call.value.data.toArray⟩,VI c.call.value.fq,.bool c.call.over,.bool c.call.hit] rfl rfl af (fun j hj=>by rw[(b.o.cell (p:=⟨g7,a*10+1+j,none⟩) UA)];exact (HY.o j (by simp at hj;omega)).1) (fun j hj=>by rw[(b.o.frozen (p:=⟨g7,a*10+1+j,none⟩) UA)];exact (HY.o j (by simp at hj;omega)).2) ao ?_;obtain⟨R,E⟩:=nm (Q.setCells g7 (a*10+1) #[VI c.call.eO,VI c.call.eF,.string ⟨c.call.value.data.toArray⟩,VI c.call.value.fq,.bool c.call.over,.bool c.call.hit].toList);rw[<- E];have T:Hy (eJ (fun i=>i=g7) Q R):=Hd (by rw[E];exact eJ.setCells (S:=fun i=>i=g7) _ (eJ.refl _ _) (.inr rfl) _);have ZE:=Hd E;have Q9:Hy ((fun W=>CS W ob 5 g5 n5 Z/\CS W ob 10 g7 n7 P0/\CI W ob 12 r.step/\CP W g5 k cb 0) R):=Hd ⟨(T.o.cell (p:=⟨ob,5,none⟩) (aG C b.o.size) y).trans HS.o.1,(T.o.cell (p:=⟨ob,10,none⟩) (aG C b.o.size) y).trans HS.o.2.1,(T.o.cell (p:=⟨ob,12,none⟩) (aG C b.o.size) y).trans HS.o.2.2.1,(T.o.cell (p:=⟨g5,k,none⟩) (aG Vp b.o.size) an).trans HS.o.2.2.2⟩;(have u8:(R.cell? ⟨g7,a*10+8,none⟩).isSome=true:=by rw[E,World.cell?_setCells_out _ _ _ _ _ (fun _ _=>.inr ae),(b.o.cell (p:=⟨g7,a*10+8,none⟩) UA),y8.1];rfl);(have t8:R.frozen? ⟨g7,a*10+8,none⟩=false:=by rw[E,World.frozen?_setCells,(b.o.frozen (p:=⟨g7,a*10+8,none⟩) UA),y8.2]);obtain⟨a6,u8⟩:=Option.isSome_iff_exists.1 u8;clear E;refine hK.out _ _ (fun _=>Q9.o) ?_;clear hK K HS;have HS:=Q9;refine last.iF [26,25] 25 49 (VP g7 (a*10)) HS.o ?_;dsimp only[List.set];refine last.many [(26,50,_)] HS.o ?_;refine last.one 27 fun K hK=>?_;go_simp;refine hK.out _ _ (fun h=>absurd rfl h) ?_;clear hK K;refine last.done ?_;obtain⟨A,S8⟩:=nm (R.setCell ⟨g7,a*10+8,none⟩ (VI r.step));rw[<- S8];have h2:=H.o.below b.o fun g hg=>H.o.fr g (aB b.o.size hg)
   have m:eJ (fun i=>own i=64) Q A:=by
    rw[S8];exact (T.o.mono fun g _ e=>by have e:g=g7:=e;rw[e];exact O.o).setCell (p:=⟨g7,a*10+8,none⟩) (.inr O.o) _
   have Qx:=h2.ev
   rw[N.o]at Qx
   have Py:=LG Qx Ve.o c.call r.step
   rw[<- ZE.o,<- S8]at Py
   have h4:fp P own w0 A ob db v {r with fg:=r.fg.set a {x with call:=c.call,ended:=r.step} }:=h2.Lg _ m (by rw[N.o,aU];exact Py)
   have a7:A.cell? ⟨ob,11,none⟩=some (.slice (some ⟨g8,0,none⟩) n8 To):=by rw[L.o,<- I.o];exact h4.o_.cell 11
   have U:g8<Q.heap.size:=aG ZX b.o.size
   have V:¬own g8=64:=by rw[Yk.o];decide
   have b8:CI A g8 k (a:Int):=(m.cell (p:=⟨g8,k,none⟩) U V).trans ((b.o.cell (p:=⟨g8,k,none⟩) ZX).trans z8)
   have t88:A.frozen? ⟨g8,k,none⟩=false:=(m.frozen (p:=⟨g8,k,none⟩) U V).trans ((b.o.frozen (p:=⟨g8,k,none⟩) ZX).trans f8)
   have H5:Hy (fp P own w0 (A.setCell ⟨g8,k,none⟩ (VI (-1))) ob db v {r with fg:=r.fg.set a {x with call:=c.call,ended:=r.step},ft:=r.ft.set k (-1)}):=Hd (h4.uX k (-1) (by rw[<- L.o];exact X) I.o Yk.o)
   have SD:Hy (eJ (fun g=>own g≠0) w (A.setCell ⟨g8,k,none⟩ (VI (-1)))):=Hd (((eJ.il b.o (ax _)).trans (m.mono fun g _ e=>by have e:own g=64:=e;show own g≠0;omega) fun _ _ e=>e).setCell (p:=⟨g8,k,none⟩) (.inr (by show own g8≠0;rw[Yk.o];decide)) _)
   clear h2 Qx Py h4 m S8 VQ c5 Rz TQ z5 z8 y8 u8 t8 f8 f5
   go_wp2_with fail
   go_end0
   have HR:r.gG k={r with fg:=r.fg.set a {x with call:=c.call,ended:=r.step},ft:=r.ft.set k (-1)}:=by
    unfold eC.gG;rw[ZW.o,aa.o];simp only[e0,al.o,Bool.not_false,Bool.and_true,if_true,bo,Ve.o]
   rw[HR];exact⟨rfl,own,v,H5.o,Ext.refl _ _,SD.o⟩
 have e0:decide (0<=e)=false:=decide_eq_false US
 have HR:Hy (r.gG k=r):=Hd (by unfold eC.gG;rw[q,t];simp[US])
 clear h q t d F R1 Y G Sn B l J
 go_enter Tryz.func47,Tryz.ntmps47
 go_wp2_with fail
 go_end0
 exact⟨rfl,by rw[HR.o];exact gh.here H.o⟩
end
end iv
namespace iv
open Go.RowKit heap own gC gO fD fj gj
open eY (fe eA eM iM iw fU fY Net eC)
section
variable {P:Lib.PrintTabs} {own own1:Nat->Nat} {w0 w w1 w':World} {ob db sb wb dm tb tm:Nat} {v v1:WV} {r r':eC} {vv:Value} {ps:List ByteArray} {qs:List Value} {d:fe} {s:eA}
theorem LH (h:fC P own w0 w sb db wb dm tb tm vv ps qs d s) (n:Int) (ht:eJ (·=db) w w') (hd:fF.iZ w' db ps (decide (0<=n)) (max n 0)):fC P own w0 w' sb db wb dm tb tm vv ps qs (d.cutAt n) s:=by
 (have a:∀g k,own g=k->k≠1->¬g=db:=fun g k hk h1 e=>by rw[e,h.jk]at hk;exact h1 hk.symm);have he:=Ext.refl w own;have hw:w0.heap.size<=db:=h.low db (by unfold fL;rw[h.jk];decide);exact⟨h.lW,h.my,h.iA.trans (ht.oE h.le fun k _ b=>by have:k=db:=b;omega),h.low,fun g c=>h.fr g (aB ht.size c),⟨ht.has h.fF.w_ (a _ 3 h.fF.ow aj),h.fF.row.fc ht he fun k _ ho=>a k 2 ho aj,h.fF.ow,h.fF.low,h.fF.lw⟩,hd,h.kZ,h.jk,ht.has h.s_ (a _ 4 h.iL aj),h.iL,⟨h.ok.nv,h.ok.nq,h.ok.qc,h.ok.dk,h.ok.rc,h.ok.ql⟩,h.lq,fun o ho=>(h.eQ o ho).fc ht he fun k _ QX=>a k (10+o) QX ab,h.done.fI ht (a _ 5 h.km aj),h.km,h.eW.fI ht (a _ 6 h.kJ aj) (a _ 7 h.kK aj),h.kJ,h.kK⟩
theorem LJ (h:kS P own w0 w db ps d) (n:Int) (ht:eJ (·=db) w w') (hd:fF.iZ w' db ps (decide (0<=n)) (max n 0)):kS P own w0 w' db ps (d.cutAt n):=by
 have hw:w0.heap.size<=db:=h.low db (by unfold fL;rw[h.jk];decide);exact⟨h.lW,h.my,h.iA.trans (ht.oE h.le fun k _ a=>by have:k=db:=a;omega),h.low,fun g b=>h.fr g (aB ht.size b),hd,h.kZ,h.jk,h.rc⟩
theorem Cg (w:World) (n:Int) (h:fp P own w0 w ob db v r):Calls Tryz.prog 26 #[VP db 0,VI n] w fun e w'=>e=.returned (.tuple #[])/\fp P own w0 w' ob db v {r with eP:=r.eP.cutAt n}/\eJ (fL own) w w':=by
 have hs:=h.fj;unfold jW at hs
 have fin:∀w',eJ (·=db) w w'->own db=1->jW P own w0 w' db v.sp (r.eP.cutAt n) r.ff->fp P own w0 w' ob db v {r with eP:=r.eP.cutAt n}/\eJ (fL own) w w':=fun w' ht ho hp=>by
  (have d:eJ (fL own) w w':=ht.mono fun g _ e=>by have e:g=db:=e;unfold fL;rw[e,ho];decide);exact⟨h.ff d (Ext.refl _ _) (fun g f=>h.fr g (aB ht.size f)) h.low (r.eP.cutAt n) r.ff hp,d⟩
 split at hs
 ·rename_i s b;obtain⟨sb,wb,dm,tb,tm,v1,ps,qs,c,a⟩:=hs;refine (fF.AH db ps _ _ n w a.jU).mono ?_;rintro e w' ⟨rfl,hd,ht⟩;refine⟨rfl,fin w' ht a.jk ?_⟩;rw[b];exact⟨sb,wb,dm,tb,tm,v1,ps,qs,c,LH a n ht hd⟩
 rename_i b;obtain⟨c,ps,a⟩:=hs;refine (fF.AH db ps _ _ n w a.jU).mono ?_;rintro e w' ⟨rfl,hd,ht⟩;refine⟨rfl,fin w' ht a.jk ?_⟩;rw[b];exact⟨c,ps,LJ a n ht hd⟩
theorem LK (w:World) (n:Int) (s:eA) (sb:Nat) (h:fp P own w0 w ob db v r) (hs:r.ff=some s) (hp:v.sp=VP sb 0):Calls Tryz.prog 27 #[VP sb 0,VI n] w fun e w'=>e=.returned (.tuple #[])/\fp P own w0 w' ob db v {r with ff:=some {s with gy:=n} }/\eJ (fL own) w w':=by
 have a:=h.fj;unfold jW at a;rw[hs]at a;obtain⟨f,wb,dm,tb,tm,v1,ps,qs,b,c⟩:=a;rw[hp]at b;cases b;refine (Jw w n c).mono ?_;rintro e w' ⟨rfl,i,ht⟩;(have d:eJ (fL own) w w':=ht.mono fun g _ e=>by unfold fL;rw[e,c.iL];decide);exact⟨rfl,h.ff d (Ext.refl _ _) (fun g j=>h.fr g (aB ht.size j)) h.low r.eP (some {s with gy:=n}) ⟨sb,wb,dm,tb,tm,v1,ps,qs,hp,i⟩,d⟩
theorem ya (w:World) (gp gy:Int) (h:fp P own w0 w ob db v r):Calls Tryz.prog 8 #[VP ob 0,VI gp,VI gy] w fun e w'=>e=.returned (.tuple #[])/\fp P own w0 w' ob db v (r.kf gp gy)/\eJ (fL own) w w':=by
 have c3:CP w ob 3 db 0:=h.o_.cell 3;obtain⟨n,c⟩:=nm (max gp 0);have HC:=Hd (Cg w n h);have g:=Hd c
 cases PV:r.ff with
 |none =>
  have hs:=h.fj;unfold jW at hs;rw[PV]at hs;have d:=Hd hs.1;have HR:Hy (r.kf gp gy={r with eP:=r.eP.cutAt n}):=Hd (by unfold eC.kf;rw[PV,c];cases r;simp_all);clear h hs PV c;(go_enter Tryz.func8,Tryz.ntmps8);go_wp2_with (go_at_call 26;rw[<- g.o];refine HC.o.mono ?_;rintro e w' ⟨rfl,a,b⟩;have c4:w'.cell? ⟨ob,4,none⟩=some (.pointer none):=(by rw[<- d.o];exact a.o_.cell 4);have H:=Hd a;have f:=Hd b;clear a b)
  all_goals
   go_end0
   rw[HR.o];exact⟨rfl,H.o,f.o⟩
 |some s =>
  have hs:=h.fj;unfold jW at hs;rw[PV]at hs;obtain⟨sb,wb,dm,tb,tm,v1,ps,qs,hp,-⟩:=hs;have d:=Hd hp;have i:=Hd PV;have HR:Hy (r.kf gp gy={r with eP:=r.eP.cutAt n,ff:=some {s with gy:=gy} }):=Hd (by unfold eC.kf;rw[PV,c];rfl);clear h PV c hp;go_enter Tryz.func8,Tryz.ntmps8
  go_wp2_with first
   |(go_at_call 26;rw[<- g.o];refine HC.o.mono ?_;rintro e w' ⟨rfl,a,b⟩;have c4:w'.cell? ⟨ob,4,none⟩=some (VP sb 0):=(by rw[<- d.o];exact a.o_.cell 4);have H:=Hd a;have f:=Hd b;clear a b)
   |(go_at_call 27;refine (LK _ gy s sb H.o i.o d.o).mono ?_;rintro e l ⟨rfl,a,b⟩;have j:=Hd a;have k:=Hd b;clear a b)
  all_goals
   go_end0
   rw[HR.o];exact⟨rfl,j.o,f.o.trans k.o fun _ _ e=>e⟩
end
section
variable {P:Lib.PrintTabs} {own own1 own2:Nat->Nat} {T k n size:Nat} {w0 w w1 w':World} {ob db sb wb dm tb tm cb fm sm:Nat} {v v1:WV} {r r':eC} {vv:Value} {xs:List Value} {ty:TypeId} {ps:List ByteArray} {qs:List Value} {d:fe} {s:eA} {c:eM}
theorem Ch (h:Row own k w ty size vv n xs) (a:∀g,own g=k->own1 g=k):Row own1 k w ty size vv n xs:=⟨h.1,fun g b=>a g (h.2 g b)⟩
theorem LM (h:iD own k w ty size vv n xs) (a:∀g,own g=k->own1 g=k):iD own1 k w ty size vv n xs:=by
 refine⟨h.1,h.2.imp id ?_⟩;rintro⟨g,off,cap,cur,b,c,d⟩;exact⟨g,off,cap,cur,b,a g c,d⟩
theorem Ci (h:fC P own w0 w sb db wb dm tb tm vv ps qs d s) (a:∀g k,1<=k->k<20->own g=k->own1 g=k) (hs:∀g,fL own1 g->fL own g) (c:∀g,w.heap.size<=g->own1 g=0):fC P own1 w0 w sb db wb dm tb tm vv ps qs d s:=
 ⟨h.lW,h.my,h.iA,fun g b=>h.low g (hs g b),c,⟨h.fF.w_,Ch h.fF.row fun g=>a g 2 aj aj,a _ 3 aj aj h.fF.ow,fun g b=>h.low g (hs g (by unfold fL;omega)),h.fF.lw⟩,h.jU,h.kZ,a _ 1 aj aj h.jk,h.s_,a _ 4 aj aj h.iL,h.ok,h.lq,fun o e=>LM (h.eQ o e) fun g=>a g (10+o) ab ab,h.done,a _ 5 aj aj h.km,h.eW,a _ 6 aj aj h.kJ,a _ 7 aj aj h.kK⟩
theorem LN (h:kS P own w0 w db ps d) (a:∀g k,1<=k->k<20->own g=k->own1 g=k) (hs:∀g,fL own1 g->fL own g) (b:∀g,w.heap.size<=g->own1 g=0):kS P own1 w0 w db ps d:=
 ⟨h.lW,h.my,h.iA,fun g c=>h.low g (hs g c),b,h.jU,h.kZ,a _ 1 aj aj h.jk,h.rc⟩
theorem Cj {b:Value} (h:fM own T w cb fm sm b c) (a:∀g k,T<=k->k<T+4->own g=k->own1 g=k):fM own1 T w cb fm sm b c:=
 ⟨h.c_,a _ T ab ab h.jw,Ch h.items fun g=>a g (T+1) ab ab,h.gz,h.gW,a _ (T+2) ab ab h.np,h.seen,a _ (T+3) ab ab h.mB,h.fk,h.sk⟩
def only (own own1:Nat->Nat) (w:World) (lo hi:Nat):Nat->Nat:=fun g=>if g<w.heap.size then own g else if lo<=own1 g/\own1 g<hi then own1 g else 0
theorem mX (own own1:Nat->Nat) (w:World) (lo hi:Nat):Ext w own (only own own1 w lo hi):=fun _ a=>if_pos a
theorem sZ {lo hi:Nat} (he:Ext w own own1) (g k:Nat) (a:lo<=k) (b:k<hi) (h:own1 g=k):only own own1 w lo hi g=k:=by
 unfold only;split
 ·rename_i c;rw[<- he g c];exact h
 rw[if_pos (by rw[h];exact⟨a,b⟩)];exact h
theorem Ck {lo hi g:Nat} (a:w.heap.size<=g):only own own1 w lo hi g=0\/(lo<=only own own1 w lo hi g/\only own own1 w lo hi g<hi):=by
 unfold only;rw[if_neg (Nat.not_lt.mpr a)];split
 ·rename_i h;exact .inr h
 exact .inl rfl
theorem s7 {lo hi:Nat} (hw:w.heap.size<=w'.heap.size) (b:∀g,w'.heap.size<=g->own1 g=0):∀g,w'.heap.size<=g->only own own1 w lo hi g=0:=fun g a=>by
 unfold only;rw[if_neg (Nat.not_lt.mpr (aB hw a)),b g a];split<;>rfl
end
section
variable {P:Lib.PrintTabs} {own own1 own2:Nat->Nat} {w0 w w':World} {ob db sb wb dm tb tm cb:Nat} {v:WV} {r:eC} {d:fe} {s:eA} {c:eM} {l:List eL} {e:Ending}
theorem fp.iB (h:fp P own w0 w ob db v r) (hp:v.sp=VP sb 0) (a:jf P own w0 w sb db wb dm tb tm (l,d,s) e w') :
 ∃u own2,e=.returned u/\fV w.heap.size w' u l/\fp P own2 w0 w' ob db v {r with eP:=d,ff:=some s}/\Ext w own own2/\eJ (fL own) w w'/\∀g,w.heap.size<=g->own2 g<20:=by
 obtain⟨u,own1,v1,j,m,he,f,hm,hs,ht⟩:=a;have n:=fun g (a:w.heap.size<=g)=>Ck (own:=own) (own1:=own1) (lo:=1) (hi:=20) a;have i:=s7 (own:=own) (own1:=own1) (lo:=1) (hi:=20) ht.size hs.fr
 have c:∀g,fL (only own own1 w 1 20) g->fL own1 g:=fun g a=>by
  unfold fL only at *;split at a
  ·rename_i b;rw[f g b];exact a
  split at a
  ·exact a
  omega
 have o:=Ci (own1:=only own own1 w 1 20) hs (fun g k b p h3=>sZ f g k b p h3) c i;refine⟨u,only own own1 w 1 20,he,hm,h.ff ht (mX _ _ _ _ _) i (fun g a=>?_) d (some s) ⟨sb,wb,dm,tb,tm,v1,j,m,hp,o⟩,mX _ _ _ _ _,ht,fun g a=>?_⟩
 ·rcases bk g w.heap.size with b|b
  ·rw[mX own own1 w 1 20 g b]at a;exact h.low g a
  exact aB h.iA.size b
 rcases n g a with b|b<;>omega
theorem fp.LV (h:fp P own w0 w ob db v r) (k:Nat) (m:k<r.eD.length) (hp:v.ja[k]?=some cb) (mk:Value->Value) (a:kV own (20+4*k) w cb c l mk e w') :
 ∃u own2,e=.returned (mk u)/\fV w.heap.size w' u l/\fp P own2 w0 w' ob db v {r with eD:=r.eD.set k c}/\Ext w own own2/\eJ (hO own (20+4*k)) w w'/\∀g,w.heap.size<=g->own2 g<40:=by
 obtain⟨own1,b,d,f,u,he,n,j,hc,hm,ht⟩:=a;have s:k<4:=aG m h.gz;have o:=fun g (a:w.heap.size<=g)=>Ck (own:=own) (own1:=own1) (lo:=20+4*k) (hi:=20+4*k+4) a;have p:=s7 (own:=own) (own1:=own1) (lo:=20+4*k) (hi:=20+4*k+4) ht.size j;have q:=Cj (own1:=only own own1 w (20+4*k) (20+4*k+4)) hc fun g i h1 h2 h3=>sZ n g i h1 h2 h3;refine⟨u,only own own1 w (20+4*k) (20+4*k+4),he,hm,h.eI k m ht (mX _ _ _ _ _) p (fun g a=>?_) c ⟨cb,d,f,b,hp,q⟩,mX _ _ _ _ _,ht,fun g a=>?_⟩
 ·rcases bk g w.heap.size with h1|h1
  ·rw[mX own own1 w _ _ g h1]at a;exact h.low g a
  exact aB h.iA.size h1
 rcases o g a with h1|h1<;>omega
end
end iv
namespace iv
open Go.RowKit heap own gC gO fD fj gj
open eY (fe eA eM iM iw fU fY Net eC)
open fK (Idx Inv)
section
variable {P:Lib.PrintTabs} {own own1:Nat->Nat} {w0 w w':World} {ob db:Nat} {v v':WV} {r r':eC}
def oS (P:Lib.PrintTabs) (own:Nat->Nat) (w0:World) (ob db:Nat) (v:WV) (w:World) (r':eC) (l:List eL) (mk:Value->Value) (e:Ending) (w':World):Prop:=
 ∃u a,e=.returned (mk u)/\fV w.heap.size w' u l/\fp P a w0 w' ob db v r'/\Ext w own a/\eJ (fun g=>own g≠0) w w'/\∀g,w.heap.size<=g->g<w'.heap.size->g≠ob/\a g<60
theorem vi (h:fp P own w0 w ob db v r) {k d:Nat} (f:k<r.eD.length) (hp:v.ja[k]?=some d) {mk:Value->Value} {c:eM} {l:List eL} {e:Ending} (b:kV own (20+4*k) w d c l mk e w'):oS P own w0 ob db v w {r with eD:=r.eD.set k c} l mk e w':=by
 obtain⟨u,a,i,j,m,n,o,p⟩:=h.LV k f hp mk b;refine⟨u,a,i,j,m,n,o.mono fun g _ e=>?_,fun g b _=>⟨fun e=>?_,?_⟩⟩
 ·unfold hO at e;omega
 ·have:=h.o_.lt;omega
 have:=p g b;omega
theorem LW (w:World) (h:fp P own w0 w ob db v r) {k a:Nat} {c:eM} (b:r.eD[k]?=some c) (hp:v.ja[k]?=some a) :
 Calls Tryz.prog 41 #[VP a 0] w (oS P own w0 ob db v w {r with eD:=r.eD.set k c.fh.2} c.fh.1 fun u=>u):=by
 obtain⟨d,i,sm,j,f,g⟩:=h.cls k c b;obtain rfl:a=d:=aA (hp.symm.trans f);refine (BA g h.fr ab).mono ?_;rintro e w' ⟨u,rfl,hm⟩;exact vi h (az.mp b).1 hp (hm.post (mk:=fun u=>u))
theorem LX (w:World) (o:Int) (h:fp P own w0 w ob db v r) {k a:Nat} {c:eM} (b:r.eD[k]?=some c) (hp:v.ja[k]?=some a) :
 Calls Tryz.prog 32 #[VP a 0,VI o] w (oS P own w0 ob db v w {r with eD:=r.eD.set k (c.read o).2.2} (c.read o).2.1 fun u=>.tuple #[u,iC (c.read o).1]):=by
 obtain⟨d,i,sm,j,f,g⟩:=h.cls k c b;obtain rfl:a=d:=aA (hp.symm.trans f);exact (Kf o g h.fr ab).mono fun e w' hm=>vi h (az.mp b).1 hp hm
theorem LY (w:World) (o:Int) (data:List UInt8) (h:fp P own w0 w ob db v r) {k a:Nat} {c:eM} (b:r.eD[k]?=some c) (hp:v.ja[k]?=some a) :
 Calls Tryz.prog 37 #[VP a 0,VI o,.string ⟨data.toArray⟩] w (oS P own w0 ob db v w {r with eD:=r.eD.set k (c.write o data).2.2} (c.write o data).2.1 fun u=>.tuple #[u,iC (c.write o data).1]):=by
 obtain⟨d,i,sm,j,f,g⟩:=h.cls k c b;obtain rfl:a=d:=aA (hp.symm.trans f);refine (Kd o data g h.fr ab).mono ?_;rintro e w' ⟨u,rfl,hm⟩;exact vi h (az.mp b).1 hp (hm.post (mk:=fun u=>.tuple #[u,iC (c.write o data).1]))
theorem LZ (w:World) (m:eL) (hv:je m.fJ) (h:fp P own w0 w ob db v r) {k a:Nat} {c:eM} (b:r.eD[k]?=some c) (hp:v.ja[k]?=some a) :
 Calls Tryz.prog 46 #[VP a 0,m.val] w (oS P own w0 ob db v w {r with eD:=r.eD.set k (c.take m).2} (c.take m).1 fun u=>u):=by
 obtain⟨d,i,sm,j,f,g⟩:=h.cls k c b;obtain rfl:a=d:=aA (hp.symm.trans f);exact (LU m g h.fr ab hv).mono fun e w' hm=>vi h (az.mp b).1 hp hm
theorem rP (b:Bool) (u:Value) (l:List eL) {B:Nat} (h:fp P own w0 w ob db v r) (hm:fV B w u l) (d:∀g,B<=g->g<w.heap.size->g≠ob/\own g≠66) (hd:∀m∈l,m.data.length<=20) (c:Int) (f:c=if b then 0 else -1) :
 Calls Tryz.prog 40 #[VP ob 0,VI c,u] w fun e w'=>e=.returned (.tuple #[])/\∃a v2,fp P a w0 w' ob db v2 (r.gf b l)/\Ext w own a/\eJ (fun g=>own g≠0) w w':=by
 rw[f];refine (Ld w b u l h hm d hd).mono ?_;rintro e w' ⟨rfl,hs⟩;exact⟨rfl,hs.Lc h⟩
theorem yc (w:World) (h:fp P own w0 w ob db v r):Calls Tryz.prog 39 #[VP ob 0] w fun e w'=>e=.returned (.tuple #[])/\fp P own w0 w' ob db v r.fA/\eJ (fun g=>own g≠0) w w':=by
 refine (qJ w h).mono ?_;rintro e w' ⟨rfl,a,b⟩;exact⟨rfl,a,h.pT b⟩
theorem oT {k:Int} (h:r.right k=true):∃n:Nat,k=n/\n<r.eD.length:=by
 unfold eC.right at h;simp only[aF,decide_eq_true_eq]at h;exact⟨k.toNat,ab,ab⟩
theorem Co (w:World) (k:Int) {b:Int} {G:fK.gd} (hi:Inv b G r) (hb:b<=1000000) (h:fp P own w0 w ob db v r) :
 Calls Tryz.prog 18 #[VP ob 0,VI k] w fun e w'=>e=.returned (iC (r.fh k).1)/\gh P own w0 ob db w (r.fh k).2 w':=by
 have TS:=Hd (uU w k h)
 cases hr:r.right k with
 |false =>
  rw[hr]at TS;have HR:Hy (r.fh k=(2,r)):=Hd (by unfold eC.fh;rw[hr];rfl);have H:=Hd h;clear h hr;(go_enter Tryz.func18,Tryz.ntmps18);exact aa5
 |true =>
  rw[hr]at TS;obtain⟨n,rfl,j⟩:=oT hr;have d:r.eD[n]?=some r.eD[n]:=ay j;generalize r.eD[n]=c at d
  have HR:Hy (r.fh n=(0,{r with eD:=r.eD.set n c.fh.2}.fA.gf false c.fh.1)):=Hd (by
   unfold eC.fh;rw[hr]
   simp only[cT,bh,if_false,bo,d])
  have F:Hy (∀m∈c.fh.1,m.data.length<=20):=Hd fun m hm=>by
   obtain⟨I,J⟩:=fK.oN hi d;exact ((fK.xW (hi.eD n c d) hi.b0 hb I J).1 m hm).short
  have l:Hy (r.fA.eD[n]?=some c):=Hd d;have H:=Hd h;obtain⟨m,hm⟩:=nm r.eD.length;rw[<- hm]at j;have K:=Hd hm;clear h hr d hi hm;go_enter Tryz.func18,Tryz.ntmps18
  go_wp2_with first
   |(go_at_call 38;refine TS.o.mono ?_;rintro e w' ⟨rfl,rfl⟩)
   |(go_at_call 39;refine (yc _ H.o).mono ?_;rintro e L ⟨rfl,a,q⟩;obtain⟨g5,M,W,X,sm,Y,s,N,Z,t,z5,f5,O⟩:=a.pt l.o;have c5:L.cell? ⟨ob,5,none⟩=some (.slice (some ⟨g5,0,none⟩) m M):=(by rw[K.o];exact (a.o_.cell 5).trans (congrArg some s));have H1:=Hd a;have x:=Hd q;have i:=Hd t;clear a q t s N O f5)
   |(go_at_call 41;refine (LW _ H1.o l.o i.o).mono ?_;rintro e w2 ⟨u,y,rfl,z,f,A,B,C⟩;have Q:=Hd z;have R:=Hd f;have S:=Hd A;have T:=Hd (x.o.trans B fun _ _ e=>e);have D:=Hd C;clear z f A B C)
   |(go_at_call 40;refine (rP false u _ R.o Q.o (fun g a f=>⟨(D.o g a f).1,by have:=(D.o g a f).2;omega⟩) F.o (-1) rfl).mono ?_;rintro e w3 ⟨rfl,E⟩;have U:=Hd E;clear E)
  go_ret;rw[HR.o];refine⟨rfl,gh.ahead (fun g V=>S.o g (aG V x.o.size)) T.o U.o⟩
end
end iv
end Go.Proofs.YtjhdaojclilakaaGreatDoor
