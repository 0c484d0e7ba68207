/-
  A part of the proof of the law WorldCalm: Model, View, Lasts, Idx, Tos, Clk, CalmA, CalmB, CalmC, CalmD, CalmE, CalmF, CalmG, CalmH, CalmI, CalmJ, CalmK, CalmS, CalmT, CalmU, CalmV, CalmL, CalmW, CalmM, CalmN.
-/
import Derived.RowKit
import Derived.Test.YtjhdaojclilakaaGreatDoorHd
import Derived.Test.YtjhdaojclilakaaGreatDoorP01
set_option maxHeartbeats 16000000
set_option maxRecDepth 1000000
namespace Go.Proofs.YtjhdaojclilakaaGreatDoor
section
variable {p q:Prop}
theorem abr (h:p:=by
 exact⟨[],(fun y hy=>by cases hy),hu,(fun m hm=>by cases hm),hm,fun h=>absurd h ae,fun _=>rfl⟩):p:=h
theorem abc (h:p:=by
 rw[hrr];unfold Rec.right;have e1:¬((o:Nat):Int) = -1:=ab;(have e2:∀n:Int,jm n=true↔0<=n/\n<=1099511627776:=fun n=>by simp[jm]);simp only[e1,if_false,e2,fR,aF,decide_eq_true_eq,iP];exact⟨⟨⟨⟨⟨ab,ab⟩,ab⟩,ab⟩,l1⟩,trivial⟩):p:=h
theorem aaA (h:p:=by
 refine⟨XB,d2,s2,i1,(k1.trans g2).trans i2,by rw[i3,g3,t1],?_⟩;rcases i5 with⟨b1,b2,b3,b4⟩|⟨j1,j2,D,j3,j4,j5,j6⟩
 ·exact .inl ⟨b1,b2,by rw[g4]at b3;simp;omega,b4⟩
 refine .inr ⟨j1,j2,m::D,by rw[j3];simp,by simp[j4,g4],fun y hy=>?_,fun y hy=>?_⟩
 ·rcases aH.1 hy with rfl|hy
  ·obtain⟨a1,a2,a3⟩:=g7;exact⟨a1,a2.trans k1.eS,by rw[a3,t1]⟩
  obtain⟨a1,a2,a3⟩:=j5 y hy;exact⟨a1,a2.trans (g2.eS.trans k1.eS),by rw[a3,g3,t1]⟩
 rcases aH.1 hy with rfl|hy
 ·exact⟨m,aK,g8,g9⟩
 obtain⟨a,a1,a2⟩:=j6 y (by rw[g4];exact hy);exact⟨a,aI _ a1,a2⟩):p:=h
theorem abm (h:p:=by
 rw[g5];generalize hp:d.add s1.eX ⟨x.eI,x.eK,o,wrap64 ((s1.value o).fq+1),x.data,0⟩=p at g10;rw[d1]at hp;rw[hp];obtain⟨e,d2,abR⟩:=p;rcases mS hp with⟨-,-,-,-,-,k⟩|⟨-,-,k⟩
 ·exact k
 exact k g10):p:=h
theorem abb (z:q) (h:Hy q->p:=by
 intro zz;(have PD:w.ff=some s:=by rw[<- s1];exact hs);have R3:=hi.ff s PD;have QN:∀k x,fw k s.done=some x->x.eO=6:=fun k x hx=>(R3.done k x hx).1;(have Xd:w.eP.eG.length+fP s<=198:=by unfold iq at PN;rw[PD]at PN;simp only at PN;omega);obtain⟨a1,a2⟩:=DJ hi.uniq R3 hi.eG (hp.sq s PD) Xd (w1.eN.getD 0 0) hg;rw[<- d1]at a1 a2;have hcut:=D8 w1.eP s (w1.eN.getD 0 0) g.eU;have Sd:=tz (d:=w1.eP) QN (w1.eN.getD 0 0) g.eU;revert PD R3 QN Xd a1 a2 hcut Sd;exact zz.o):p:=h z
theorem aca (h:p:=by
 unfold lC at hm;split at hm
 ·cases hm
 obtain⟨c,-,rfl⟩:=aW.1 hm;exact (yK h ab ho PB c).more PV fun hc=>(hse _ hc).1):p:=h
theorem abt (h:p:=by
 exact tE hi h1 h2 hc (fun _=>rfl) (fun h=>absurd h ae) (fun h=>absurd h ae) (fun h=>absurd h ae)):p:=h
end
namespace eY
open Go.RowKit fD
abbrev Bytes:=List UInt8
def fw {K V:Type} [DecidableEq K] (k:K):List (K×V)->Option V
 | []=>none
 |(x,v)::l=>if x=k then some v else fw k l
def del {K V:Type} [DecidableEq K] (k:K):List (K×V)->List (K×V)
 | []=>[]
 |(x,v)::l=>if x=k then del k l else (x,v)::del k l
def put {K V:Type} [DecidableEq K] (k:K) (v:V) (l:List (K×V)):List (K×V):=(k,v)::del k l
def fR (n low high:Int):Bool:=decide (low<=n)&&decide (n<=high)
def short (fH term:Int):Int:=if fR fH 0 500&&fR term 0 jO then term*(1000-fH)/(1000+fH) else 0
def ji (a b:Int):Int:=if fR a 0 jO&&fR b 0 jO then min (a+b) jO else 0
structure ir where
 data:Bytes
 fq:Int
deriving DecidableEq
def lT:ir:=⟨[],0⟩
structure fU where
 eF:Int
 fa:Int
 fH:Int
structure iM where
 eO:Int
 eF:Int
 value:ir
 over:Bool
 hit:Bool
deriving DecidableEq
def oG:iM:=⟨0,0,lT,false,false⟩
structure Rec where
 eI:Int
 eK:Int
 eF:Int
 fJ:Int
 data:Bytes
 eS:Int
deriving DecidableEq
def Rec.right (r:Rec):Bool:=
 if r.eF = -1 then jm r.eS&&decide (r.eI=0)&&decide (r.eK=0)&&decide (r.fJ=0)&&decide (r.data=[])
 else jm r.eI&&jm r.eK&&fR r.eF 0 7&&jm r.fJ&&decide (r.data.length<=20)&&decide (r.eS=0)
structure fe where
 eG:List Rec
 cut:Bool
 left:Int
def fe.cutAt (d:fe) (n:Int):fe:={d with cut:=decide (0<=n),left:=max n 0}
def fe.add (d:fe) (eX:Bool) (r:Rec):Int×fe×Bool:=
 if eX then (6,d,eX)
 else if !r.right then (1,d,eX)
 else if 200<=d.eG.length then (12,d,eX)
 else if d.cut&&decide (d.left=0) then (14,d,true)
 else (0,{d with eG:=d.eG++[r],left:=wrap64 (d.left-1)},eX)
structure fW where
 gZ:List ((Int×Int)×Int)
 kg:List Int
 jz:List Int
def fW.new:fW:=⟨[],[0,0,0,0],[0,0,0,0]⟩
def fX (c:Int):Bool:=fR c 0 3
def fN (o:Int):Bool:=fR o 0 7
def fW.eF (t:fW) (c o u:Int):Int×fW:=
 if fX c&&fN o&&fR u 0 jO then (0,{t with gZ:=put (c,o) (max ((fw (c,o) t.gZ).getD 0) u) t.gZ}) else (2,t)
def fW.fa (t:fW) (c u:Int):Int×fW:=
 if fX c&&fR u 0 jO then (0,{t with kg:=t.kg.set c.toNat (max (t.kg.getD c.toNat 0) u)}) else (2,t)
def fW.holds (t:fW) (o eB c:Int):Bool:=match fw (c,o) t.gZ with|some u=>decide (eB<u)|none=>false
def fW.ga (t:fW) (o eB:Int):List Int:=[0,1,2,3].filter (t.holds o eB)
def fW.jT (t:fW) (c eB:Int):Bool:=fX c&&decide (eB<t.kg.getD c.toNat 0)
def fW.drop (t:fW) (c o:Int):fW:={t with gZ:=del (c,o) t.gZ}
def fW.flush (t:fW) (c:Int):Int×fW:=
 if fX c then (0,{gZ:=t.gZ.filter (fun e=>!decide (e.1.1=c)),kg:=t.kg.set c.toNat 0,jz:=t.jz.set c.toNat (wrap64 (t.jz.getD c.toNat 0+1))}) else (2,t)
def fW.fx (t:fW) (c:Int):Int:=if fX c then t.jz.getD c.toNat 0 else 0
structure jg where
 eF:Int
 value:ir
 iK:Int
abbrev Cache:=List jg
def Cache.drop (c:Cache) (o:Int):Cache:=c.eraseP (fun x=>decide (x.eF=o))
def Cache.put (c:Cache) (o:Int) (v:ir) (u:Int):Cache:=
 let l:=c.drop o
 (if l.length=6 then List.drop 1 l else l)++[⟨o,v,u⟩]
def Cache.get (c:Cache) (o:Int):Option jg×Cache:=
 match c.find? (fun x=>decide (x.eF=o))with
 |some x=>(some x,c.drop o++[x])
 |none=>(none,c)
structure fY where
 to:Int
 eU:eL
structure Net where
 l:List fY
 lost:Int
def Net.send (n:Net) (g:fY):Net:=if 200<=n.l.length then {n with lost:=wrap64 (n.lost+1)} else {n with l:=n.l++[g]}
def iH:eL:=⟨0,0,0,0,0,0,0,false,[]⟩
structure Wr where
 eI:Int
 eK:Int
 data:Bytes
 gw:Bool
structure eA where
 eZ:fU
 eX:Bool
 values:List ir
 fi:List (List Wr)
 done:List (Int×eL)
 eW:fW
 eS:Int
 quiet:Int
 eB:Int
 gy:Int
def eA.value (s:eA) (o:Nat):ir:=s.values.getD o lT
def eA.eQ (s:eA) (o:Nat):List Wr:=s.fi.getD o []
def eA.fG (s:eA) (m:eL):eL:={m with eS:=s.eS,fx:=s.eW.fx m.eI}
def eA.kF (s:eA) (m:eL):Bool:=fX m.eI&&decide (m.eS=s.eS)&&decide (m.fx=s.eW.fx m.eI)
def half:Int:=549755813888
def eA.at_ (s:eA) (eB:Int):eA:={s with eB:=max s.eB (min eB half)}
def eA.jB (s:eA) (r:Rec):eA×eL:=
 let m:eL:={iH with eO:=6,eI:=r.eI,eK:=r.eK,eF:=r.eF,fJ:=r.fJ}
 ({s with values:=s.values.set r.eF.toNat ⟨r.data,r.fJ⟩,done:=put r.eI m s.done},m)
def eA.ig (s:eA) (c:Int) (o:Nat):eL:=s.fG {iH with eO:=9,eI:=c,eF:=o,fJ:=wrap64 ((s.value o).fq+1)}
def eA.lp (s:eA) (c:Int):eL:=s.fG {iH with eO:=8,eI:=c}
def jr (t:fW) (l:List Int):fW:=l.foldl (fun t c=>(t.flush c).2) t
def eA.answer (s:eA) (e:Int) (r:Rec):eA×eL:=
 if e=0 then s.jB r
 else
  let m:eL:={iH with eO:=6,eI:=r.eI,eK:=r.eK,eF:=r.eF}
  ({s with done:=put r.eI m s.done},m)
def eA.store (d:fe) (s:eA) (o:Nat) (w:Wr) (rest:List Wr) (out:List eL):Bool×List eL×fe×eA:=
 let r:Rec:=⟨w.eI,w.eK,o,wrap64 ((s.value o).fq+1),w.data,0⟩
 let p:=d.add s.eX r
 if p.1=14 then (false,[],p.2.1,{s with eX:=p.2.2})
 else
  let a:=eA.answer {s with eX:=p.2.2} p.1 r
  (true,out++[a.1.fG a.2],p.2.1,{a.1 with fi:=a.1.fi.set o rest})
def eA.iE (d:fe) (s:eA) (o:Nat) (w:Wr) (rest:List Wr) (out:List eL):Bool×List eL×fe×eA:=
 let ga:=s.eW.ga o s.eB
 let out:=if w.gw then out else out++ga.map fun c=>s.ig c o
 let s:={s with fi:=s.fi.set o ({w with gw:=true}::rest)}
 if decide (s.eB<s.quiet)||ga.any (fun c=>s.eW.jT c s.eB) then (false,out,d,s)
 else eA.store d {s with eW:=jr s.eW ga} o w rest out
def eA.iu:Nat->fe->eA->Nat->List eL->List eL×fe×eA
 |0,d,s,_,out=>(out,d,s)
 |f+1,d,s,o,out =>
  match s.eQ o with
  | []=>(out,d,s)
  |w::rest =>
   if s.eX then (out,d,s)
   else
    let r:=s.iE d o w rest out
    if r.1 then eA.iu f r.2.2.1 r.2.2.2 o r.2.1 else r.2
def eA.fu (d:fe) (s:eA) (o:Nat):List eL×fe×eA:=eA.iu ((s.eQ o).length+1) d s o []
def eA.reads (s:eA) (m:eL):List eL×eA:=
 let o:=m.eF.toNat
 let v:=s.value o
 let r:=s.fG {iH with eO:=5,eI:=m.eI,eK:=m.eK,eF:=m.eF,fJ:=v.fq,data:=v.data}
 if !s.kF m then ([r,s.lp m.eI],s)
 else if (s.eQ o).isEmpty then
  let p:=s.eW.eF m.eI m.eF (ji s.eB s.eZ.eF)
  ([{r with gE:=decide (p.1=0)}],{s with eW:=p.2})
 else ([r],s)
def eA.pending (s:eA) (c:Int):List Nat:=(List.range 8).filter fun k=>!(s.eQ k).isEmpty&&(s.eW.ga k s.eB).contains c
def eA.j9 (s:eA) (m:eL):List eL×eA:=
 if !s.kF m then ([s.lp m.eI],s)
 else
  let out:=(s.pending m.eI).map fun k=>s.ig m.eI k
  if !out.isEmpty then (out,s)
  else
   let s:={s with eW:=(s.eW.fa m.eI (ji s.eB s.eZ.fa)).2}
   ([s.fG {iH with eO:=7,eI:=m.eI,eK:=m.eK}],s)
def eA.qq (d:fe) (s:eA) (m:eL):List eL×fe×eA:=
 let o:=m.eF.toNat
 if !s.kF m||(s.eQ o).isEmpty||!decide (m.fJ=wrap64 ((s.value o).fq+1)) then ([],d,s)
 else eA.fu d {s with eW:=s.eW.drop m.eI m.eF} o
def eA.enqueue (d:fe) (s:eA) (m:eL):List eL×fe×eA:=
 let o:=m.eF.toNat
 if s.fi.any (fun q=>q.any fun w=>decide (w.eI=m.eI)&&decide (m.eK<=w.eK)) then ([],d,s)
 else if 10<=(s.eQ o).length||decide (20<m.data.length) then ([],d,s)
 else eA.fu d {s with fi:=s.fi.set o (s.eQ o++[⟨m.eI,m.eK,m.data,false⟩])} o
def eA.gp (d:fe) (s:eA) (m:eL):List eL×fe×eA:=
 match fw m.eI s.done with
 |some x=>if m.eK<=x.eK then (if m.eK<x.eK then ([],d,s) else ([s.fG x],d,s)) else eA.enqueue d s m
 |none=>eA.enqueue d s m
def eA.take (d:fe) (s:eA) (eB:Int) (m:eL):List eL×fe×eA:=
 if s.eX||!fX m.eI||!fN m.eF then ([],d,s)
 else
  let s:=s.at_ eB
  if m.eO=1 then ((s.reads m).1,d,(s.reads m).2)
  else if m.eO=2 then eA.gp d s m
  else if m.eO=3 then ((s.j9 m).1,d,(s.j9 m).2)
  else if m.eO=4 then eA.qq d s m
  else ([],d,s)
def eA.gY:List Nat->fe->eA->List eL->List eL×fe×eA
 | [],d,s,out=>(out,d,s)
 |k::a,d,s,out =>
  let r:=eA.fu d s k
  eA.gY a r.2.1 r.2.2 (out++r.1)
def eA.tick (d:fe) (s:eA) (eB:Int):List eL×fe×eA:=
 if s.eX then ([],d,s) else eA.gY (List.range 8) d (s.at_ eB) []
def kz (t:fU):Bool:=decide (1<=t.fa)&&decide (t.fa<=t.eF)&&decide (t.eF<=274877906944)&&fR t.fH 0 500
def eA.iN (s:eA):List Rec->eA
 | []=>s
 |r::l=>if r.eF<0 then eA.iN {s with eS:=max s.eS r.eS} l else eA.iN (s.jB r).1 l
def eA.blank (t:fU) (eB:Int):eA:=⟨t,false,List.replicate 8 lT,List.replicate 8 [],[],fW.new,0,0,eB,-1⟩
def eA.new (t:fU) (d:fe) (eB:Int):Int×fe×Option eA:=
 if !kz t||!fR eB 0 half then (2,d,none)
 else
  let s:=(eA.blank t eB).iN d.eG;let s:={s with eS:=wrap64 (s.eS+1)}
  let s:=if 1<s.eS then {s with quiet:=eB+t.fa} else s
  let p:=d.add false ⟨0,0,-1,0,[],s.eS⟩
  if p.1=0 then (0,p.2.1,some s) else (p.1,p.2.1,none)
structure eM where
 id:Int
 eZ:fU
 eK:Int
 eS:Int
 fx:Int
 eB:Int
 fa:Int
 cache:Cache
 gW:List (Int×Int)
 seen:List (Int×Int)
 call:iM
 fE:Int
 gL:Int
 ij:Int
 iV:Int
def eM.new (id:Int) (t:fU) (gv eB:Int):Option eM:=
 if fX id&&fR gv 0 1000&&fR eB 0 half&&fR t.fH 0 500&&fR t.eF 0 274877906944&&fR t.fa 0 274877906944 then
  some ⟨id,t,gv*1048576,0,0,eB,0,[],[],[],oG,0,0,0,0⟩
 else none
def eM.at_ (c:eM) (eB:Int):eM:={c with eB:=max c.eB (min eB half)}
def eM.jT (c:eM):Bool:=decide (c.eB<c.fa)
def eM.fB (c:eM):Bool:=decide (c.fE≠0)
def eM.fG (c:eM) (m:eL):eL:={m with eI:=c.id,eS:=c.eS,fx:=c.fx}
def eM.asks (c:eM):List eL:=
 if c.fB then [c.fG {iH with eO:=c.call.eO,eK:=c.fE,eF:=c.call.eF,data:=if c.call.eO=2 then c.call.value.data else []}] else []
def eM.fh (c:eM):List eL×eM:=
 if wrap64 (c.fa-2)<=c.eB then
  let n:=wrap64 (c.eK+1);let c:={c with eK:=n,ij:=n,iV:=c.eB}
  ([c.fG {iH with eO:=3,eK:=n}]++c.asks,c)
 else (c.asks,c)
def eM.ke (c:eM) (o:Int):Int:=(fw o c.seen).getD 0
def eM.kY (c:eM) (o:Int):Int:=(fw o c.gW).getD 0
def eM.ask (c:eM):List eL×eM:=
 let n:=wrap64 (c.eK+1)
 eM.fh {c with eK:=n,fE:=n,gL:=c.eB}
def eM.read (c:eM) (o:Int):Int×List eL×eM:=
 if c.fB then (6,[],c)
 else if !fN o then (2,[],c)
 else
  let call:iM:=⟨1,o,lT,false,false⟩
  match c.cache.get o with
  |(some x,k) =>
   let c:={c with call:=call,cache:=k}
   if decide (c.eB<x.iK)&&c.jT&&decide (c.ke o<=x.value.fq) then
    (0,[],{c with call:={call with value:=x.value,over:=true,hit:=true} })
   else (0,c.ask)
  |(none,_)=>(0,eM.ask {c with call:=call})
def eM.write (c:eM) (o:Int) (data:Bytes):Int×List eL×eM:=
 if c.fB then (6,[],c)
 else if !fN o then (2,[],c)
 else if 20<data.length then (4,[],c)
 else (0,eM.ask {c with call:=⟨2,o,⟨data,0⟩,false,false⟩})
def eM.ends (c:eM) (gL term:Int):Int:=wrap64 (gL+short c.eZ.fH term)
def eM.lr (c:eM) (m:eL) (same:Bool):eM:=
 if !c.fB||!decide (m.eK=c.fE)||!decide (c.call.eO=1)||!decide (c.call.eF=m.eF) then c
 else
  let v:ir:=⟨m.data,m.fJ⟩
  let c:=if same&&m.gE&&decide (c.kY m.eF<=m.fJ) then {c with cache:=c.cache.put m.eF v (c.ends c.gL c.eZ.eF)} else c
  {c with seen:=put m.eF (max (c.ke m.eF) m.fJ) c.seen,call:={c.call with value:=v,over:=true},fE:=0}
def eM.take (c:eM) (m:eL):List eL×eM:=
 if !decide (m.eI=c.id)||!fN m.eF then ([],c)
 else
  let same:=decide (m.eS=c.eS)&&decide (m.fx=c.fx)
  if m.eO=5 then ([],c.lr m same)
  else if m.eO=6 then
   if c.fB&&decide (m.eK=c.fE)&&decide (c.call.eO=2) then
    ([],{c with call:={c.call with value:={c.call.value with fq:=m.fJ},over:=true},fE:=0})
   else ([],c)
  else if m.eO=7 then
   if same&&decide (c.ij≠0)&&decide (m.eK=c.ij) then ([],{c with fa:=c.ends c.iV c.eZ.fa,ij:=0}) else ([],c)
  else if m.eO=8 then
   if decide (c.eS<m.eS)||decide (m.eS=c.eS)&&decide (c.fx<m.fx) then
    ([],{c with eS:=m.eS,fx:=m.fx,fa:=0,ij:=0,cache:=[],gW:=[]})
   else ([],c)
  else if m.eO=9 then
   if same then
    let c:={c with cache:=c.cache.drop m.eF,gW:=put m.eF (max (c.kY m.eF) m.fJ) c.gW}
    ([c.fG {iH with eO:=4,eF:=m.eF,fJ:=m.fJ}],c)
   else ([],c)
  else ([],c)
structure iw where
 eI:Int
 call:iM
 oe:Int
 ended:Int
 gv:Int
structure eC where
 eZ:fU
 eP:fe
 ff:Option eA
 eD:List eM
 fy:List Int
 eN:List Int
 eH:Net
 fg:List iw
 ft:List Int
 step:Int
def oc (t:fU):Nat->Nat->Option (List eM)
 |_,0=>some []
 |k,n+1=>match eM.new k t 0 0,oc t (k+1) n with
  |some c,some l=>some (c::l)
  |_,_=>none
def eC.new (t:fU) (n:Int):Int×Option eC:=
 if !fR n 1 4 then (2,none)
 else match eA.new t ⟨[],false,0⟩ 0 with
  |(_,d,some s) =>
   match oc t 0 n.toNat with
   |some cs=>(0,some ⟨t,d,some s,cs,List.replicate n.toNat 0,List.replicate (n.toNat+1) 0,⟨[],0⟩,[],List.replicate n.toNat (-1),0⟩)
   |none=>(2,none)
  |(e,_,none)=>(e,none)
def eC.fA (w:eC):eC:={w with step:=wrap64 (w.step+1)}
def gV (n:Net) (a:Bool):List eL->Net
 | []=>n
 |m::l=>if m.right then gV (n.send ⟨if a then m.eI else -1,m⟩) a l else gV n a l
def eC.gf (w:eC) (a:Bool) (l:List eL):eC:={w with eH:=gV w.eH a l}
def eC.gG (w:eC) (k:Nat):eC:=
 match w.eD[k]?,w.ft[k]? with
 |some c,some e =>
  if decide (0<=e)&&!c.fB then
   match w.fg[e.toNat]? with
   |some x=>{w with fg:=w.fg.set e.toNat {x with call:=c.call,ended:=w.step},ft:=w.ft.set k (-1)}
   |none=>w
  else w
 |_,_=>w
def eC.right (w:eC) (k:Int):Bool:=decide (0<=k)&&decide (k<w.eD.length)
def eC.gJ (w:eC) (k:Nat) (e:Int) (l:List eL) (c:eM):Int×eC:=
 if e≠0 then (e,{w with eD:=w.eD.set k c})
 else
  let w:={w with eD:=w.eD.set k c}.fA;let w:={w with ft:=w.ft.set k w.fg.length,fg:=w.fg++[iw.mk k c.call w.step 0 (w.fy.getD k 0)]}
  (0,(w.gf false l).gG k)
def eC.read (w:eC) (k o:Int):Int×eC:=
 if !w.right k then (2,w)
 else match w.eD[k.toNat]? with
  |some c=>w.gJ k.toNat (c.read o).1 (c.read o).2.1 (c.read o).2.2
  |none=>(2,w)
def eC.write (w:eC) (k o:Int) (data:Bytes):Int×eC:=
 if !w.right k then (2,w)
 else match w.eD[k.toNat]? with
  |some c=>w.gJ k.toNat (c.write o data).1 (c.write o data).2.1 (c.write o data).2.2
  |none=>(2,w)
def eC.fh (w:eC) (k:Int):Int×eC:=
 if !w.right k then (2,w)
 else match w.eD[k.toNat]? with
  |some c=>(0,{w with eD:=w.eD.set k.toNat c.fh.2}.fA.gf false c.fh.1)
  |none=>(2,w)
def eC.iy (w:eC):eC:=match w.ff with|some s=>if s.eX then {w with ff:=none} else w|none=>w
def eC.gS (w:eC) (k:Int):Int×eC:=
 if !(decide (0<=k)&&decide (k<w.eH.l.length)) then (2,w)
 else match w.eH.l[k.toNat]? with
  |none=>(2,w)
  |some g =>
   let w:={w with eH:={w.eH with l:=w.eH.l.eraseIdx k.toNat} }.fA
   if g.to<0 then
    match w.ff with
    |none=>(0,w)
    |some s =>
     let r:=eA.take w.eP s (w.eN.getD 0 0) g.eU
     (0,({w with eP:=r.2.1,ff:=some r.2.2}.gf true r.1).iy)
   else match w.eD[g.to.toNat]? with
    |some c=>(0,({w with eD:=w.eD.set g.to.toNat (c.take g.eU).2}.gf false (c.take g.eU).1).gG g.to.toNat)
    |none=>(0,w)
def eC.jP (w:eC) (k:Int):Int×eC:=
 if !(decide (0<=k)&&decide (k<w.eH.l.length)) then (2,w) else (0,{w with eH:={w.eH with l:=w.eH.l.eraseIdx k.toNat} })
def eC.jQ (w:eC) (k:Int):Int×eC:=
 if !(decide (0<=k)&&decide (k<w.eH.l.length)) then (2,w) else
  match w.eH.l[k.toNat]? with
  |some g=>(0,{w with eH:=w.eH.send g})
  |none=>(2,w)
def ib:List Int->List Int->List Int
 |c::cs,n::ns=>min (c+n) half::ib cs ns
 |_,_=>[]
def jj:List eM->List Int->List eM
 |c::cs,n::ns=>c.at_ n::jj cs ns
 |cs,[]=>cs
 | [],_=>[]
def eC.fu (w:eC) (a:List Int):Int×eC:=
 if a.length≠w.eN.length then (2,w)
 else if a.any (fun n=>!fR n 0 137438953472) then (2,w)
 else
  let eN:=ib w.eN a;let w:={w with eN:=eN,eD:=jj w.eD eN.tail}.fA
  match w.ff with
  |none=>(0,w)
  |some s =>
   let r:=eA.tick w.eP s (eN.getD 0 0)
   (0,({w with eP:=r.2.1,ff:=some r.2.2}.gf true r.1).iy)
def eC.kf (w:eC) (gp gy:Int):eC:=
 {w with eP:=w.eP.cutAt (max gp 0),ff:=w.ff.map fun s=>{s with gy:=gy} }
def eC.od (w:eC):eC:={w.fA with ff:=none}
def eC.gK (w:eC):Int×eC:=
 match w.ff with
 |some _=>(6,w)
 |none =>
  let w:=w.fA;let r:=eA.new w.eZ (w.eP.cutAt (-1)) (w.eN.getD 0 0)
  (r.1,{w with eP:=r.2.1,ff:=r.2.2})
def eC.jG (w:eC) (k:Int):Int×eC:=
 if !w.right k then (2,w)
 else match eM.new k w.eZ (wrap64 (w.fy.getD k.toNat 0+1)) (w.eN.getD (k.toNat+1) 0)with
  |none=>(2,w)
  |some c=>(0,{w with fy:=w.fy.set k.toNat (wrap64 (w.fy.getD k.toNat 0+1)),eD:=w.eD.set k.toNat c,ft:=w.ft.set k.toNat (-1)}.fA)
def eC.ia:Nat->eC->eC
 |0,w=>w
 |f+1,w=>if w.eH.l.isEmpty then w else eC.ia f (w.gS 0).2
def eC.gi (w:eC):eC:=eC.ia 1000 w
def eC.iY:List Nat->eC->eC
 | [],w=>w
 |k::a,w=>eC.iY a (w.fh k).2.gi
def eC.round (w:eC):eC:=
 let w:=w.gK.2;let w:=eC.iY (List.range w.eD.length) w
 (w.fu (List.replicate w.eN.length 1)).2.gi
def eC.iz:Nat->eC->eC
 |0,w=>w
 |n+1,w=>eC.iz n w.round
def eC.fS (w:eC) (rounds:Int):eC:=eC.iz rounds.toNat w
def pU (z:eA) (m:eL):eL:=z.fG {iH with eO:=5,eI:=m.eI,eK:=m.eK,eF:=m.eF,fJ:=(z.value m.eF.toNat).fq,data:=(z.value m.eF.toNat).data}
def Lh (z:eA) (m:eL):eL:=z.fG {iH with eO:=7,eI:=m.eI,eK:=m.eK}
def sV (z:eA) (m:eL):eA:={z with eW:=(z.eW.fa m.eI (ji z.eB z.eZ.fa)).2}
def B0 (z:eA) (m:eL):eA:={z with eW:=(z.eW.eF m.eI m.eF (ji z.eB z.eZ.eF)).2}
def kW (z:eA) (m:eL):eA:={z with fi:=z.fi.set m.eF.toNat (z.eQ m.eF.toNat++[⟨m.eI,m.eK,m.data,false⟩])}
def pq (z:eA) (m:eL):eA:={z with eW:=z.eW.drop m.eI m.eF}
inductive TV (d:fe) (s z:eA) (m:eL):List eL×fe×eA->Prop
 |off:s.eX=true\/fX m.eI=false\/fN m.eF=false->TV d s z m ([],d,s)
 |idle:s.eX=false->fX m.eI=true->fN m.eF=true->TV d s z m ([],d,z)
 |done (x:eL):s.eX=false->fX m.eI=true->fN m.eF=true->m.eO=2->fw m.eI z.done=some x->m.eK=x.eK->TV d s z m ([z.fG x],d,z)
 |read:s.eX=false->fX m.eI=true->fN m.eF=true->m.eO=1->z.kF m=true->z.eQ m.eF.toNat≠[]->TV d s z m ([pU z m],d,z)
 |flush1:s.eX=false->fX m.eI=true->fN m.eF=true->m.eO=1->z.kF m=false->TV d s z m ([pU z m,z.lp m.eI],d,z)
 | gE:s.eX=false->fX m.eI=true->fN m.eF=true->m.eO=1->z.kF m=true->z.eQ m.eF.toNat=[] ->
    TV d s z m ([{pU z m with gE:=decide ((z.eW.eF m.eI m.eF (ji z.eB z.eZ.eF)).1=0)}],d,B0 z m)
 |flush3:s.eX=false->fX m.eI=true->fN m.eF=true->m.eO=3->z.kF m=false->TV d s z m ([z.lp m.eI],d,z)
 |wait:s.eX=false->fX m.eI=true->fN m.eF=true->m.eO=3->z.kF m=true->z.pending m.eI≠[]->TV d s z m ((z.pending m.eI).map fun k=>z.ig m.eI k,d,z)
 |fT:s.eX=false->fX m.eI=true->fN m.eF=true->m.eO=3->z.kF m=true->z.pending m.eI=[]->TV d s z m ([Lh (sV z m) m],d,sV z m)
 |enq:s.eX=false->fX m.eI=true->fN m.eF=true->m.eO=2->(∀x,fw m.eI z.done=some x->x.eK<m.eK)->(z.fi.any (fun q=>q.any fun w=>decide (w.eI=m.eI)&&decide (m.eK<=w.eK)))=false->(z.eQ m.eF.toNat).length<10->m.data.length<=20->TV d s z m (eA.fu d (kW z m) m.eF.toNat)
 |ack:s.eX=false->fX m.eI=true->fN m.eF=true->m.eO=4->z.kF m=true->z.eQ m.eF.toNat≠[]->TV d s z m (eA.fu d (pq z m) m.eF.toNat)
theorem mV (d:fe) (s:eA) (eB:Int) (m:eL):TV d s (s.at_ eB) m (eA.take d s eB m):=by
 unfold eA.take;by_cases hc:(s.eX||!fX m.eI||!fN m.eF)=true
 ·rw[if_pos hc];refine .off ?_;simpa[or_assoc]using hc
 rw[if_neg hc];simp only[bz,aV,not_or,bu,dj]at hc;obtain⟨⟨a,b⟩,c⟩:=hc;generalize s.at_ eB=z;simp only;split
 ·rename_i e;unfold eA.reads;simp only
  cases hn:z.kF m with
  |false=>exact .flush1 a b c e hn
  |true =>
   cases hq:z.eQ m.eF.toNat with
   |nil=>exact .gE a b c e hn hq
   |cons x q=>exact .read a b c e hn (by rw[hq];simp)
 split
 ·rename_i e
  have he:(∀x,fw m.eI z.done=some x->x.eK<m.eK)->TV d s z m (eA.enqueue d z m):=fun hx=>by
   unfold eA.enqueue;simp only;split
   ·exact .idle a b c
   rename_i f;split
   ·exact .idle a b c
   rename_i hb;simp only[bz,decide_eq_true_eq,not_or]at hb;exact .enq a b c e hx (by simpa using f) ab ab
  unfold eA.gp;split
  ·rename_i x hx;split
   ·split
    ·exact .idle a b c
    exact .done x a b c e hx ab
   exact he fun y hy=>by rw[hx]at hy;rw[<- aA hy];omega
  rename_i hx;exact he fun y hy=>by rw[hx]at hy;cases hy
 split
 ·rename_i e;unfold eA.j9
  cases hn:z.kF m with
  |false=>exact .flush3 a b c e hn
  |true =>
   simp only[cT,bh,if_false]
   cases hp:z.pending m.eI with
   |nil=>exact .fT a b c e hn hp
   |cons x q =>
    rw[if_pos ae,<- hp];exact .wait a b c e hn (by rw[hp];simp)
 split
 ·rename_i e;unfold eA.qq;simp only;split
  ·exact .idle a b c
  rename_i hb;simp only[bz,aV,not_or,bu,dG]at hb;exact .ack a b c e hb.1.1 hb.1.2
 exact .idle a b c
end eY
namespace fK
open Go.RowKit fD eY
variable {n o v e b b' gv:Int}
theorem jC (a : -9223372036854775808<=n) (b:n<=9223372036854775807):wrap64 n=n:=by unfold wrap64;omega
def iI (l:List Rec) (o:Int):List Bytes:=l.filterMap fun r=>if r.eF=o then some r.data else none
theorem rI (a b:List Rec) (o:Int):iI (a++b) o=iI a o++iI b o:=by simp[iI]
theorem B1 (l:List Rec) (r:Rec):iI (l++[r]) r.eF=iI l r.eF++[r.data]:=by simp[iI]
theorem uY (l:List Rec) (r:Rec) (o:Int) (h:r.eF≠o):iI (l++[r]) o=iI l o:=by simp[iI,h]
theorem rJ (l:List Rec) (o:Int):(iI l o).length<=l.length:=List.length_filterMap_le _ _
def lY (l:List Rec) (o v:Int) (d:Bytes):Prop:=(v=0/\d=[])\/(1<=v/\(iI l o)[v.toNat-1]?=some d)
variable {l:List Rec}
theorem lY.more {d:Bytes} (h:lY l o v d) (r:List Rec):lY (l++r) o v d:=by
 rcases h with h|⟨b,a⟩
 ·exact .inl h
 refine .inr ⟨b,?_⟩;rw[rI,ba (az.1 a).1];exact a
theorem lY.le {d:Bytes} (h:lY l o v d):v<=(iI l o).length:=by
 rcases h with⟨rfl,_⟩|⟨b,a⟩
 ·omega
 have:=(az.1 a).1;omega
theorem lY.same {d c:Bytes} (h:lY l o v d) (e:lY l o v c):d=c:=by
 rcases h with⟨f,a⟩|⟨f,a⟩<;>rcases e with⟨g,b⟩|⟨g,b⟩
 ·rw[a,b]
 ·omega
 ·omega
 exact aA (a.symm.trans b)
def iP (l:List Rec) (o:Int):ir:=⟨(iI l o).getLastD [],(iI l o).length⟩
theorem B3 (l:List Rec) (o:Int):lY l o (iP l o).fq (iP l o).data:=by
 unfold iP
 cases h:iI l o with
 |nil=>left;simp
 |cons a t =>
  right;simp only[aL];refine⟨ab,?_⟩;rw[h,show ((t.length+1:Nat):Int).toNat-1=t.length from by omega];rw[List.getLastD_cons,List.getElem?_cons]
  cases t with
  |nil=>simp
  |cons b t=>simp[List.getLastD_eq_getLast?,List.getLast?_eq_getElem?]
theorem Li (l:List Rec) (o:Int):(iP l o).data=[]\/∃r∈l,r.data=(iP l o).data:=by
 unfold iP
 cases h:iI l o with
 |nil=>left;rfl
 |cons a t =>
  right
  have d:(a::t).getLastD []∈iI l o:=by
   rw[h,List.getLastD_cons,List.getLastD_eq_getLast?]
   cases t with
   |nil=>simp
   |cons b t=>simp[List.getLast?_eq_getElem?]
  unfold iI at d;obtain⟨r,e,c⟩:=dJ.1 d;split at c
  ·exact⟨r,e,aA c⟩
  cases c
def rK (l:List Rec):Prop:=∀(a:List Rec) (r:Rec) (b:List Rec),l=a++r::b->0<=r.eF->r.fJ=((iI a r.eF).length:Int)+1
variable {r:Rec}
theorem rK.add (h:rK l) (d:0<=r.eF->r.fJ=((iI l r.eF).length:Int)+1):rK (l++[r]):=by
 intro a x b e c;rcases List.eq_nil_or_concat b with rfl|⟨b',y,rfl⟩
 ·obtain⟨rfl,f⟩:=List.append_inj' e rfl;(obtain rfl:r=x:=by simpa using f);exact d c
 (have g:l++[r]=(a++x::b')++[y]:=by rw[e];simp);obtain⟨rfl,_⟩:=List.append_inj' g rfl;exact h a x b' rfl c
theorem rK.known (h:rK l) (c:r∈l) (d:0<=r.eF):lY l r.eF r.fJ r.data:=by
 obtain⟨a,b,rfl⟩:=List.append_of_mem c;have hv:=h a r b rfl d;right;refine⟨ab,?_⟩;rw[hv,show ((iI a r.eF).length+1:Int).toNat-1=(iI a r.eF).length from by omega,rI];rw[aR (ax _),dA];simp[iI]
abbrev gd:=List (Int×Int×Int×Bytes)
structure jR (G:gd):Prop where
 same:∀c n o d o' d',(c,n,o,d)∈G->(c,n,o',d')∈G->o=o'/\d=d'
 small:∀c n o d,(c,n,o,d)∈G->(0<=c/\c<=3)/\(1<=n/\n<=1099511627776)/\(0<=o/\o<=7)/\d.length<=20
structure iW (G:gd) (l:List Rec):Prop where
 len:l.length<=200
 rO:rK l
 fE:∀r∈l,0<=r.eF->(r.eI,r.eK,r.eF,r.data)∈G
 high:∀r∈l,-1<=r.eF/\r.eF<=7
 short:∀r∈l,r.data.length<=20
variable {G g:gd}
theorem Lj (h:iW G l) (o:Int):(iP l o).data.length<=20:=by
 rcases Li l o with a|⟨r,a,b⟩
 ·rw[a];simp
 rw[<- b];exact h.short r a
structure im (G:gd) (l:List Rec) (m:eL):Prop where
 write:m.eO=2->(m.eI,m.eK,m.eF,m.data)∈G
 value:m.eO=5->lY l m.eF m.fJ m.data
 done:m.eO=6->m.fJ=0\/∃r∈l,0<=r.eF/\r.eI=m.eI/\r.eK=m.eK/\r.fJ=m.fJ
 short:m.data.length<=20
variable {m:eL}
theorem im.more (h:im G l m) (r:List Rec) (g:gd):im (g++G) (l++r) m:=
 ⟨fun e=>bA _ (h.write e),fun e=>(h.value e).more _,fun e=>by
  rcases h.done e with h|⟨x,a,b⟩
  ·exact .inl h
  exact .inr ⟨x,bp _ a,b⟩,h.short⟩
theorem im.fG (h:im G l m) (e s:Int):im G l {m with eS:=e,fx:=s}:=⟨h.write,h.value,h.done,h.short⟩
theorem rL (a:m.eO≠2) (b:m.eO≠5) (c:m.eO≠6) (hd:m.data=[]):im G l m:=⟨fun h=>absurd h a,fun h=>absurd h b,fun h=>absurd h c,by simp[hd]⟩
structure gF (G:gd) (l:List Rec) (s:eA):Prop where
 nv:s.values.length=8
 nq:s.fi.length=8
 value:∀o,o<8->s.value o=iP l o
 eQ:∀o,o<8->∀x∈s.eQ o,(x.eI,x.eK,(o:Int),x.data)∈G
 done:∀k m,fw k s.done=some m->m.eO=6/\im G l m
structure Lk (l:List Rec) (c:iM):Prop where
 eF:fN c.eF=true
 known:c.value.fq=0\/lY l c.eF c.value.fq c.value.data
structure kB (G:gd) (l:List Rec) (b gv:Int) (k:Nat) (c:eM):Prop where
 id:c.id=k
 low:gv*1048576<=c.eK
 high:c.eK<=gv*1048576+b
 cache:∀x∈c.cache,lY l x.eF x.value.fq x.value.data
 asks:c.fB=true->c.call.eO=2->(c.id,c.fE,c.call.eF,c.call.value.data)∈G
 elder:∀n o d,(c.id,n,o,d)∈G->n<=c.eK
 kinds:c.fB=true->(c.call.eO=1\/c.call.eO=2)/\fN c.call.eF=true
 over:c.fB=false->c.call.eO≠0->Lk l c.call
 short:c.call.eO=2->c.call.value.data.length<=20
 top:c.fB=true->c.call.eO=2->∀n o d,(c.id,n,o,d)∈G->n<=c.fE
 one:(c.cache.map jg.eF).Nodup
structure xS (l:List Rec) (e:iw):Prop where
 eF:fN e.call.eF=true
 known:e.ended≠0->e.call.value.fq=0\/lY l e.call.eF e.call.value.fq e.call.value.data
structure Inv (b:Int) (G:gd) (w:eC):Prop where
 b0:0<=b
 gz:w.eD.length<=4
 uniq:jR G
 eG:iW G w.eP.eG
 eH:∀g∈w.eH.l,im G w.eP.eG g.eU
 ff:∀s,w.ff=some s->gF G w.eP.eG s
 nl:w.fy.length=w.eD.length
 no:w.ft.length=w.eD.length
 fy:∀k,k<w.fy.length->0<=w.fy.getD k 0/\w.fy.getD k 0<=1000
 eD:∀k c,w.eD[k]?=some c->kB G w.eP.eG b (w.fy.getD k 0) k c
 fg:∀e∈w.fg,xS w.eP.eG e
 ft:∀k c,w.eD[k]?=some c->0<=w.ft.getD k (-1)->c.call.eO≠0
theorem ou {K V:Type} [DecidableEq K] (k a:K) (v:V) (l:List (K×V)):fw a (put k v l)=if k=a then some v else fw a l:=by
 have hd:∀l:List (K×V),k≠a->fw a (del k l)=fw a l:=by
  intro l c
  induction l with
  |nil=>rfl
  |cons e l ih =>
   obtain⟨x,u⟩:=e;by_cases h:x=k
   ·subst h;simp[del,fw,ih,c]
   by_cases b:x=a
   ·subst b;simp[del,fw,h]
   simp[del,fw,ih,h,b]
 by_cases h:k=a
 ·subst h;simp[put,fw]
 simp[put,fw,h,hd l h]
variable {s:eA} {q rest:List Wr}
theorem ph {o o':Nat} (h:s.fi.length=8) (a:o<8):eA.eQ {s with fi:=s.fi.set o q} o'=if o=o' then q else s.eQ o':=by
 simp only[eA.eQ,aC];by_cases e:o=o'
 ·subst e;rw[aS ab];simp
 rw[a8 e];simp[e]
def Good (G:gd) (d:fe) (r:List eL×fe×eA):Prop:=
 (∃x,r.2.1.eG=d.eG++x)/\iW G r.2.1.eG/\gF G r.2.1.eG r.2.2/\∀m∈r.1,im G r.2.1.eG m
theorem gF.pr (h:gF G l s) {o:Nat} (b:o<8) (c:∀x∈q,(x.eI,x.eK,(o:Int),x.data)∈G):gF G l {s with fi:=s.fi.set o q}:=by
 refine⟨h.nv,by simpa using h.nq,h.value,fun o' d x a=>?_,h.done⟩;rw[ph h.nq b]at a;split at a
 ·rename_i e;subst e;exact c x a
 exact h.eQ o' d x a
theorem gF.mF (h:gF G l s) (t:fW):gF G l {s with eW:=t}:=⟨h.nv,h.nq,h.value,h.eQ,h.done⟩
theorem gF.lg (h:gF G l s) (n:Int):gF G l (s.at_ n):=⟨h.nv,h.nq,h.value,h.eQ,h.done⟩
theorem gF.Ll (h:gF G l s) (n:Int):gF G l {s with gy:=n}:=⟨h.nv,h.nq,h.value,h.eQ,h.done⟩
theorem gF.uZ (h:gF G l s) (n:Bool):gF G l {s with eX:=n}:=⟨h.nv,h.nq,h.value,h.eQ,h.done⟩
theorem gF.sW (h:gF G l s) (k:Int) (hm:m.eO=6/\im G l m):gF G l {s with done:=put k m s.done}:=
 ⟨h.nv,h.nq,h.value,h.eQ,fun b m' a=>by
  simp only[ou]at a;split at a
  ·obtain rfl:=aA a;exact hm
  exact h.done b m' a⟩
theorem gF.Lm (h:gF G l s) (b:iW G l) (d:0<=r.eF) (f:r.eF<=7) (g:(r.eI,r.eK,r.eF,r.data)∈G) (hv:r.fJ=(iP l r.eF).fq+1) (u:l.length<200) (i:r.data.length<=20) :
 iW G (l++[r])/\gF G (l++[r]) (s.jB r).1/\im G (l++[r]) (s.jB r).2/\(s.jB r).2.eO=6:=by
 have hm:im G (l++[r]) (s.jB r).2:=⟨fun h=>by simp[eA.jB]at h,fun h=>by simp[eA.jB]at h,fun _=>.inr ⟨r,ae,d,rfl,rfl,rfl⟩,by simp[eA.jB,iH]⟩;refine⟨⟨ah,b.rO.add fun _=>hv,?_,?_,?_⟩,⟨by simpa[eA.jB]using h.nv,h.nq,?_,h.eQ,?_⟩,hm,rfl⟩
 ·intro x a j;rcases aN.1 a with a|a
  ·exact b.fE x a j
  obtain rfl:=aD.1 a;exact g
 ·intro x a;rcases aN.1 a with a|a
  ·exact b.high x a
  obtain rfl:=aD.1 a;exact⟨ab,f⟩
 ·intro x a;rcases aN.1 a with a|a
  ·exact b.short x a
  obtain rfl:=aD.1 a;exact i
 ·intro o n;simp only[eA.jB,eA.value,aC];by_cases e:r.eF.toNat=o
  ·subst e;rw[aS (by rw[h.nv];omega)];have p:((r.eF.toNat:Nat):Int)=r.eF:=ab;simp only[dp,p,iP,B1,aE,aQ];simp[hv,iP]
  rw[a8 e];have:=h.value o n;simp only[eA.value,aC]at this;rw[this];simp only[iP];rw[uY _ _ _ ab]
 intro k m c;simp only[eA.jB,ou]at c;split at c
 ·obtain rfl:=aA c;exact⟨rfl,hm⟩
 obtain⟨q,t⟩:=h.done k m c;exact⟨q,t.more [r] []⟩
variable {d:fe}
theorem mS {a:fe} {eX b:Bool} (h:d.add eX r=(e,a,b)) :
 (e=0/\a.eG=d.eG++[r]/\d.eG.length<200/\r.right=true/\eX=false/\b=false)\/(e≠0/\a.eG=d.eG/\(e≠14->b=eX)):=by
 unfold fe.add at h;split at h
 ·(obtain⟨rfl,rfl,rfl⟩:6=e/\d=a/\eX=b:=by simpa using h);exact .inr ⟨aj,rfl,fun _=>rfl⟩
 rename_i hd;split at h
 ·(obtain⟨rfl,rfl,rfl⟩:1=e/\d=a/\eX=b:=by simpa using h);exact .inr ⟨aj,rfl,fun _=>rfl⟩
 rename_i c;split at h
 ·(obtain⟨rfl,rfl,rfl⟩:12=e/\d=a/\eX=b:=by simpa using h);exact .inr ⟨aj,rfl,fun _=>rfl⟩
 split at h
 ·(obtain⟨rfl,rfl,rfl⟩:14=e/\d=a/\true=b:=by simpa using h);exact .inr ⟨aj,rfl,fun h=>absurd rfl h⟩
 (obtain⟨rfl,rfl,rfl⟩:0=e/\{d with eG:=d.eG++[r],left:=wrap64 (d.left-1)}=a/\eX=b:=by simpa using h);exact .inl ⟨rfl,rfl,ab,by simpa using c,by simpa using hd,by simpa using hd⟩
theorem Ln (h:r.right=true) (a:r.eF ≠ -1):r.data.length<=20:=by
 unfold Rec.right at h;rw[if_neg a]at h;simp only[aF,decide_eq_true_eq]at h;exact h.1.2
theorem Lo (h:gF G l s) (a:iW G l) (c:0<=r.eF) (d:r.eF<=7) (f:(r.eI,r.eK,r.eF,r.data)∈G) (hv:r.fJ=(iP l r.eF).fq+1) {l':List Rec}
 (he:(e=0/\l'=l++[r]/\l.length<200/\r.data.length<=20)\/(e≠0/\l'=l)):iW G l'/\gF G l' (s.answer e r).1/\im G l' (s.answer e r).2:=by
 unfold eA.answer;rcases he with⟨rfl,rfl,g,i⟩|⟨he,rfl⟩
 ·obtain⟨j,k,m,_⟩:=h.Lm a c d f hv g i;exact⟨j,k,m⟩
 rw[if_neg he];have b:im G l' {iH with eO:=6,eI:=r.eI,eK:=r.eK,eF:=r.eF}:=⟨fun h=>by simp at h,fun h=>by simp at h,fun _=>.inl rfl,by simp[iH]⟩;exact⟨a,h.sW r.eI ⟨rfl,b⟩,b⟩
theorem B4 (s:eA) (c:Int) (o:Nat):im G l (s.ig c o):=rL (by simp[eA.ig,eA.fG]) (by simp[eA.ig,eA.fG]) (by simp[eA.ig,eA.fG]) rfl
theorem B5 (s:eA) (c:Int):im G l (s.lp c):=rL (by simp[eA.lp,eA.fG]) (by simp[eA.lp,eA.fG]) (by simp[eA.lp,eA.fG]) rfl
variable {out:List eL}
theorem Lp (h:gF G d.eG s) (g:iW G d.eG) {o:Nat} (l:o<8) {x:Wr} (n:∀y∈x::rest,(y.eI,y.eK,(o:Int),y.data)∈G) (z:∀m∈out,im G d.eG m) :
 Good G d (s.store d o x rest out).2:=by
 have c:s.value o=iP d.eG o:=h.value o l;have hlen:=rJ d.eG o;have A:=g.len
 have hv:wrap64 ((s.value o).fq+1)=(iP d.eG o).fq+1:=by
  rw[c,jC]
  ·simp only[iP];omega
  simp only[iP];omega
 unfold eA.store;simp only[hv];generalize hp:d.add s.eX ⟨x.eI,x.eK,o,(iP d.eG o).fq+1,x.data,0⟩=p;obtain⟨e,q,t⟩:=p;have i:=mS hp;have f:=h.uZ t;simp only;generalize ({s with eX:=t}:eA)=s3 at f⊢;split
 ·rename_i he;rcases i with⟨B,_⟩|⟨_,j,_⟩
  ·rw[B]at he;cases he
  exact⟨⟨[],by simp[j]⟩,by simpa[j]using g,by simpa[j]using f,fun m hm=>by cases hm⟩
 obtain⟨C,u,v⟩:=Lo f g (r:=⟨x.eI,x.eK,o,(iP d.eG o).fq+1,x.data,0⟩) ae ah (n x ae) rfl (e:=e) (l':=q.eG) (by
  rcases i with⟨k,b,f,D,_⟩|⟨k,b,_⟩
  ·exact .inl ⟨k,b,f,Ln D (show ((o:Nat):Int) ≠ -1 by omega)⟩
  exact .inr ⟨k,b⟩)
 have w:∃y,q.eG=d.eG++y:=by
  rcases i with⟨_,b,_⟩|⟨_,b,_⟩
  ·exact⟨_,b⟩
  exact⟨[],by simp[b]⟩
 generalize s3.answer e ⟨x.eI,x.eK,o,(iP d.eG o).fq+1,x.data,0⟩=a at u v⊢;refine⟨w,C,u.pr l fun y hy=>n y (by simp[hy]),?_⟩;intro m hm;rcases aN.1 hm with hm|hm
 ·obtain⟨y,hy⟩:=w;rw[hy];exact (z m hm).more _ []
 obtain rfl:=aD.1 hm;exact v.fG _ _
theorem va (h:gF G d.eG s) (f:iW G d.eG) {o:Nat} (e:o<8) {x:Wr} (j:s.eQ o=x::rest) (g:∀m∈out,im G d.eG m) :
 Good G d (s.iE d o x rest out).2:=by
 have a:∀y∈x::rest,(y.eI,y.eK,(o:Int),y.data)∈G:=fun y hy=>h.eQ o e y (by rw[j];exact hy)
 have b:∀m∈(if x.gw then out else out++(s.eW.ga o s.eB).map fun c=>s.ig c o),im G d.eG m:=by
  split
  ·exact g
  intro m hm;rcases aN.1 hm with hm|hm
  ·exact g m hm
  obtain⟨c,_,rfl⟩:=aW.1 hm;exact B4 _ _ _
 have i:gF G d.eG {s with fi:=s.fi.set o ({x with gw:=true}::rest)}:=h.pr e fun y hy=>by
  rcases aH.1 hy with rfl|hy
  ·exact a x ae
  exact a y (by simp[hy])
 unfold eA.iE;simp only;split
 ·exact⟨⟨[],ae⟩,f,i,b⟩
 exact Lp (i.mF _) f e a b
theorem B6 {o:Nat} (c:o<8):∀(f:Nat) {d:fe} {s:eA} (_:gF G d.eG s) (_:iW G d.eG) {out:List eL} (_:∀m∈out,im G d.eG m),Good G d (eA.iu f d s o out)
 |0,d,s,h,a,out,b=>⟨⟨[],by simp[eA.iu]⟩,a,h,b⟩
 |f+1,d,s,h,a,out,b=>by
  unfold eA.iu
  cases hq:s.eQ o with
  |nil=>exact⟨⟨[],ae⟩,a,h,b⟩
  |cons x rest =>
   simp only;split
   ·exact⟨⟨[],ae⟩,a,h,b⟩
   have g:=va h a c hq b;split
   ·obtain⟨⟨y,hy⟩,g2,g3,g4⟩:=g;obtain⟨⟨z,e⟩,i,j,k⟩:=B6 c f g3 g2 g4;exact⟨⟨y++z,by rw[e,hy,bx]⟩,i,j,k⟩
   exact g
theorem qK {o:Nat} (a:o<8) (h:gF G d.eG s) (b:iW G d.eG):Good G d (eA.fu d s o):=
 B6 a _ h b (fun m hm=>by cases hm)
theorem Good.here (h:gF G d.eG s) (a:iW G d.eG) {l:List eL} (b:∀m∈l,im G d.eG m):Good G d (l,d,s):=⟨⟨[],ae⟩,a,h,b⟩
theorem jA (h:fN o=true):0<=o/\o.toNat<8/\((o.toNat:Nat):Int)=o:=by
 simp only[fN,fR,aF,decide_eq_true_eq]at h;omega
theorem vb (h:gF G d.eG s) (c:iW G d.eG) (eB:Int) (hm:im G d.eG m):Good G d (eA.take d s eB m):=by
 have b:=h.lg eB;have hv:=mV d s eB m;generalize eA.take d s eB m=r at hv⊢;generalize s.at_ eB=z at hv b;have one:∀ {t:eA} {x:eL},gF G d.eG t->im G d.eG x->Good G d ([x],d,t):=fun ht hx=>.here ht c fun y hy=>by rw[aD.1 hy];exact hx
 have a:fN m.eF=true->im G d.eG (pU z m):=fun ho=>by
  obtain⟨-,e,f⟩:=jA ho;refine⟨fun h=>absurd h (by show ¬(5:Int)=2;decide),fun _=>?_,fun h=>absurd h (by show ¬(5:Int)=6;decide),?_⟩
  ·show lY d.eG m.eF (z.value m.eF.toNat).fq (z.value m.eF.toNat).data;rw[b.value _ e,f];exact B3 _ _
  show (z.value m.eF.toNat).data.length<=20;rw[b.value _ e];exact Lj c _
 cases hv with
 |off=>exact .here h c fun x hx=>by cases hx
 |idle=>exact .here b c fun x hx=>by cases hx
 |done x _ _ _ _ hx=>exact one b ((b.done _ _ hx).2.fG _ _)
 |read _ _ ho=>exact one b (a ho)
 |flush1 _ _ ho =>
  exact .here b c fun x hx=>by
   rcases aH.1 hx with rfl|hx
   ·exact a ho
   rw[aD.1 hx];exact B5 _ _
 |gE _ _ ho=>exact one (b.mF _) ⟨(a ho).write,(a ho).value,(a ho).done,(a ho).short⟩
 |flush3=>exact one b (B5 _ _)
 |wait=>exact .here b c fun x hx=>by obtain⟨k,-,rfl⟩:=aW.1 hx;exact B4 _ _ _
 |fT=>exact one (b.mF _) (rL (by show (7:Int)≠2;decide) (by show (7:Int)≠5;decide) (by show (7:Int)≠6;decide) rfl)
 |enq _ _ ho g =>
  obtain⟨-,e,f⟩:=jA ho;refine qK e (b.pr e fun y hy=>?_) c;rcases aN.1 hy with hy|hy
  ·exact b.eQ _ e y hy
  rw[aD.1 hy,f];exact hm.write g
 |ack _ _ ho=>exact qK (jA ho).2.1 (b.mF _) c
theorem B7:∀(a:List Nat) {d:fe} {s:eA} (_:∀k∈a,k<8) (_:gF G d.eG s) (_:iW G d.eG) {out:List eL} (_:∀m∈out,im G d.eG m),Good G d (eA.gY a d s out)
 | [],d,s,_,h,b,out,c=>.here h b c
 |k::a,d,s,e,h,b,out,c=>by
  unfold eA.gY;obtain⟨⟨y,hy⟩,g2,g3,g4⟩:=qK (e k ae) h b
  obtain⟨⟨z,f⟩,g,i,j⟩:=B7 a (fun x hx=>e x (by simp[hx])) g3 g2 (out:=out++(eA.fu d s k).1) (by
   intro m hm;rcases aN.1 hm with hm|hm
   ·rw[hy];exact (c m hm).more _ []
   exact g4 m hm)
  exact⟨⟨y++z,by rw[f,hy,bx]⟩,g,i,j⟩
theorem vc (h:gF G d.eG s) (a:iW G d.eG) (eB:Int):Good G d (eA.tick d s eB):=by
 unfold eA.tick;split
 ·exact .here h a (fun m hm=>by cases hm)
 exact B7 _ (fun k b=>by simpa using b) (h.lg eB) a (fun m hm=>by cases hm)
structure xT (G:gd) (l a:List Rec) (s:eA):Prop where
 nv:s.values.length=8
 nq:s.fi.length=8
 value:∀o,o<8->s.value o=iP a o
 eQ:∀o,o<8->s.eQ o=[]
 done:∀k m,fw k s.done=some m->m.eO=6/\im G l m
theorem xU (c:iW G l):∀(b a:List Rec) {s:eA} (_:a++b=l) (_:xT G l a s),xT G l l (s.iN b)
 | [],a,s,e,h=>by
  (obtain rfl:a=l:=by simpa using e);exact h
 |r::b,a,s,e,h=>by
  unfold eA.iN;(have f:r∈l:=by rw[<- e];simp);split
  ·rename_i g;refine xU c b (a++[r]) (by simpa using e) ⟨h.nv,h.nq,fun o d=>?_,h.eQ,h.done⟩;have:=h.value o d;simp only[eA.value]at this⊢;rw[this];simp only[iP];rw[uY _ _ _ ab]
  rename_i g;have hv:=c.rO a r b e.symm ab;have j:=(c.high r f).2;refine xU c b (a++[r]) (by simpa using e) ⟨by simpa[eA.jB]using h.nv,h.nq,fun o d=>?_,h.eQ,fun k m hk=>?_⟩
  ·simp only[eA.jB,eA.value,aC];by_cases e:r.eF.toNat=o
   ·subst e;rw[aS (by rw[h.nv];omega)];have i:((r.eF.toNat:Nat):Int)=r.eF:=ab;simp only[dp,i,iP,B1,aE,aQ];simp[hv]
   rw[a8 e];have:=h.value o d;simp only[eA.value,aC]at this;rw[this];simp only[iP];rw[uY _ _ _ ab]
  simp only[eA.jB,ou]at hk;split at hk
  ·obtain rfl:=aA hk;exact⟨rfl,fun h=>by simp at h,fun h=>by simp at h,fun _=>.inr ⟨r,f,ab,rfl,rfl,rfl⟩,by simp[iH]⟩
  exact h.done k m hk
theorem B8 (b:iW G d.eG) (t:fU) (eB:Int) :
 (∃x,(eA.new t d eB).2.1.eG=d.eG++x)/\iW G (eA.new t d eB).2.1.eG/\∀s,(eA.new t d eB).2.2=some s->gF G (eA.new t d eB).2.1.eG s:=by
 unfold eA.new;split
 ·exact⟨⟨[],ae⟩,b,fun s h=>by cases h⟩
 have n:xT G d.eG [] (eA.blank t eB):=by
  refine⟨by simp[eA.blank],by simp[eA.blank],fun o c=>?_,fun o c=>?_,fun k m hk=>by simp[eA.blank,fw]at hk⟩
  ·simp only[eA.blank,eA.value,aC];rw[bC,if_pos c];rfl
  simp only[eA.blank,eA.eQ,aC];rw[bC,if_pos c];rfl
 have g:=xU b d.eG [] ae n;generalize (eA.blank t eB).iN d.eG=s1 at g⊢;have a:gF G d.eG s1:=⟨g.nv,g.nq,g.value,(fun o c x hx=>by rw[g.eQ o c]at hx;cases hx),g.done⟩
 have f:gF G d.eG (if 1<(wrap64 (s1.eS+1)) then {s1 with eS:=wrap64 (s1.eS+1),quiet:=eB+t.fa} else {s1 with eS:=wrap64 (s1.eS+1)}):=by
  split
  ·exact⟨a.nv,a.nq,a.value,a.eQ,a.done⟩
  exact⟨a.nv,a.nq,a.value,a.eQ,a.done⟩
 simp only;(have q:(if 1<wrap64 (s1.eS+1) then ({s1 with eS:=wrap64 (s1.eS+1),quiet:=eB+t.fa}:eA) else {s1 with eS:=wrap64 (s1.eS+1)}).eS=wrap64 (s1.eS+1):=by split<;>rfl);rw[q];generalize hp:d.add false ⟨0,0,-1,0,[],wrap64 (s1.eS+1)⟩=p;obtain⟨e,r,u⟩:=p
 generalize (if 1<wrap64 (s1.eS+1) then ({s1 with eS:=wrap64 (s1.eS+1),quiet:=eB+t.fa}:eA) else {s1 with eS:=wrap64 (s1.eS+1)})=s2 at f⊢
 simp only;rcases mS hp with⟨rfl,i,v,_⟩|⟨he,i,_⟩
 ·have j:iW G r.eG:=by
   rw[i];refine⟨ah,b.rO.add fun h=>absurd h ae,?_,?_,?_⟩
   ·intro x hx l;rcases aN.1 hx with hx|hx
    ·exact b.fE x hx l
    obtain rfl:=aD.1 hx;exact absurd l ae
   ·intro x hx;rcases aN.1 hx with hx|hx
    ·exact b.high x hx
    obtain rfl:=aD.1 hx;exact⟨ae,ae⟩
   intro x hx;rcases aN.1 hx with hx|hx
   ·exact b.short x hx
   obtain rfl:=aD.1 hx;simp
  simp only[if_true];refine⟨⟨_,i⟩,j,fun s hs=>?_⟩;obtain rfl:=aA hs;rw[i];refine⟨f.nv,f.nq,fun o c=>?_,f.eQ,fun k m hk=>⟨(f.done k m hk).1,(f.done k m hk).2.more _ []⟩⟩;rw[f.value o c];simp only[iP];rw[uY _ _ _ ae]
 rw[if_neg he];exact⟨⟨[],by simp[i]⟩,by simpa[i]using b,fun s h=>by cases h⟩
variable {x:jg}
theorem ve {c:Cache} (h:x∈c.drop o):x∈c:=List.mem_of_mem_eraseP h
theorem Lq {c:Cache} {u:Int} {v:ir} (h:x∈c.put o v u):x∈c\/x=⟨o,v,u⟩:=by
 unfold Cache.put at h;simp only at h;rcases aN.1 h with h|h
 ·left;split at h
  ·exact ve (List.mem_of_mem_drop h)
  exact ve h
 right;exact aD.1 h
theorem drop_one {c:Cache} (h:(c.map jg.eF).Nodup) (o:Int):((c.drop o).map jg.eF).Nodup:=List.Sublist.nodup (List.Sublist.map _ List.eraseP_sublist) h
theorem B9 {c:Cache} (h:(c.map jg.eF).Nodup) (o:Int):o∉(c.drop o).map jg.eF:=by
 induction c with
 |nil=>simp[Cache.drop]
 |cons x c ih =>
  rw[aY,cE]at h;unfold Cache.drop at ih⊢;by_cases e:x.eF=o
  ·rw[List.eraseP_cons_of_pos (by simpa using e),<- e];exact h.1
  rw[List.eraseP_cons_of_neg (by simpa using e),aY,aH,not_or];exact⟨fun h=>e h.symm,ih h.2⟩
theorem xV {c:Cache} (h:(c.map jg.eF).Nodup) (d:x.eF∉c.map jg.eF):((c++[x]).map jg.eF).Nodup:=by
 rw[cF,List.nodup_append];refine⟨h,ae,fun a f b hb=>?_⟩;(obtain rfl:b=x.eF:=by simpa using hb);exact fun e=>d (e▸f)
theorem Lr {c:Cache} (h:(c.map jg.eF).Nodup) (o:Int) (v:ir) (u:Int):((c.put o v u).map jg.eF).Nodup:=by
 unfold Cache.put;simp only;have a:=drop_one h o;have b:=B9 h o;split
 ·exact xV (List.Sublist.nodup (List.Sublist.map _ (List.drop_sublist 1 _)) a) fun d=>b (List.Sublist.mem d (List.Sublist.map _ (List.drop_sublist 1 _)))
 exact xV a b
theorem Ls {c:Cache} (h:(c.map jg.eF).Nodup) (o:Int):((c.get o).2.map jg.eF).Nodup:=by
 unfold Cache.get;split
 ·rename_i x a;(have e:x.eF=o:=by simpa using List.find?_some a);exact xV (drop_one h o) (by rw[e];exact B9 h o)
 exact h
theorem Lu {c:Cache} {k:Cache} (h:c.get o=(some x,k)):x∈c/\x.eF=o/\∀y∈k,y∈c:=by
 unfold Cache.get at h;split at h
 ·rename_i y hy;(obtain⟨rfl,rfl⟩:y=x/\c.drop o++[y]=k:=by simpa using h);have hm:=List.mem_of_find?_eq_some hy;refine⟨hm,by simpa using List.find?_some hy,fun z a=>?_⟩;rcases aN.1 a with a|a
  ·exact ve a
  obtain rfl:=aD.1 a;exact hm
 cases (Prod.mk.inj h).1
variable {k:Nat} {c c':eM}
theorem kB.more {x:List Rec} (h:kB G l b gv k c) (hb:b<=b') (a:∀y∈g,y.1≠k):kB (g++G) (l++x) b' gv k c:=
 ⟨h.id,h.low,by have:=h.high;omega,fun y hy=>(h.cache y hy).more _,fun h1 h2=>bA _ (h.asks h1 h2),
  fun n o d hm=>by
   rcases aN.1 hm with hm|hm
   ·exact absurd h.id (a _ hm)
   exact h.elder n o d hm,
  h.kinds,fun h1 h2=>⟨(h.over h1 h2).eF,(h.over h1 h2).known.imp (fun h=>h) fun h=>h.more _⟩,h.short,fun h1 h2 n o d hm=>by
   rcases aN.1 hm with hm|hm
   ·exact absurd h.id (a _ hm)
   exact h.top h1 h2 n o d hm,h.one⟩
theorem Ca (h:kB G l b gv k c):∀m∈c.asks,im G l m:=by
 intro m hm;unfold eM.asks at hm;split at hm
 ·rename_i hb;obtain rfl:=aD.1 hm;rcases (h.kinds hb).1 with a|a
  ·exact rL (by simp[eM.fG,a]) (by simp[eM.fG,a]) (by simp[eM.fG,a]) (by simp[eM.fG,a])
  refine⟨fun _=>?_,fun h=>by simp[eM.fG,a]at h,fun h=>by simp[eM.fG,a]at h,?_⟩
  ·simpa[eM.fG,a]using h.asks hb a
  simpa[eM.fG,a]using h.short a
 cases hm
theorem xW (h:kB G l b gv k c) (g:0<=b) (hb:b<=1000000) (i:0<=gv) (j:gv<=1000) :
 (∀m∈c.fh.1,im G l m)/\kB G l (b+1) gv k c.fh.2/\c.fh.2.call=c.call:=by
 have p:=h.low;have e:=h.high;have f:wrap64 (c.eK+1)=c.eK+1:=jC ab ab;unfold eM.fh;split
 ·simp only[f]
  have a:kB G l (b+1) gv k {c with eK:=c.eK+1,ij:=c.eK+1,iV:=c.eB}:=
   ⟨h.id,by simp only;omega,by simp only;omega,h.cache,h.asks,fun n o d hm=>by have:=h.elder n o d hm;simp only;omega,h.kinds,h.over,h.short,h.top,h.one⟩
  refine⟨fun m hm=>?_,a,trivial⟩;rcases aN.1 hm with hm|hm
  ·obtain rfl:=aD.1 hm;exact rL (by simp[eM.fG]) (by simp[eM.fG]) (by simp[eM.fG]) rfl
  exact Ca a m hm
 exact⟨Ca h,⟨h.id,h.low,(by show c.eK<=_;omega),h.cache,h.asks,h.elder,h.kinds,h.over,h.short,h.top,h.one⟩,rfl⟩
theorem xX (hid:c.id=k) (z:gv*1048576<=c.eK) (i:c.eK<=gv*1048576+b) (A:0<=b) (hb:b<1000000) (j:0<=gv) (p:gv<=1000)
 (e:∀x∈c.cache,lY l x.eF x.value.fq x.value.data) (q:c.call.eO=1\/c.call.eO=2) (r:fN c.call.eF=true)
 (s:c.call.eO=2->(c.id,c.eK+1,c.call.eF,c.call.value.data)∈G) (he:∀n o d,(c.id,n,o,d)∈G->n<=c.eK+1) (t:c.call.eO=2->c.call.value.data.length<=20) (f:(c.cache.map jg.eF).Nodup) :
 (∀m∈c.ask.1,im G l m)/\kB G l (b+2) gv k c.ask.2/\c.ask.2.call=c.call:=by
 have u:wrap64 (c.eK+1)=c.eK+1:=jC ab ab
 have g:eM.fB {c with eK:=c.eK+1,fE:=c.eK+1,gL:=c.eB}=true:=by
  simp only[eM.fB,decide_eq_true_eq];omega
 have h:kB G l (b+1) gv k {c with eK:=c.eK+1,fE:=c.eK+1,gL:=c.eB}:=
  ⟨hid,(by show _<=c.eK+1;omega),(by show c.eK+1<=_;omega),e,fun _ v=>s v,fun n o d hm=>he n o d hm,fun _=>⟨q,r⟩,(fun h=>by rw[g]at h;cases h),t,fun _ _ n o d hm=>he n o d hm,f⟩
 unfold eM.ask;simp only[u];obtain⟨w,a,y⟩:=xW h ab ab j p;exact⟨w,⟨a.id,a.low,by have:=a.high;omega,a.cache,a.asks,a.elder,a.kinds,a.over,a.short,a.top,a.one⟩,y⟩
theorem vf (h:kB G l b gv k c) (q:0<=b) (hb:b<1000000) (r:0<=gv) (s:gv<=1000) (o:Int) :
 (∀m∈(c.read o).2.1,im G l m)/\kB G l (b+2) gv k (c.read o).2.2/\((c.read o).1=0->(c.read o).2.2.call.eO≠0/\fN (c.read o).2.2.call.eF=true)/\((c.read o).1≠0->(c.read o).2.2=c):=by
 have hm:kB G l (b+2) gv k c:=⟨h.id,h.low,by have:=h.high;omega,h.cache,h.asks,h.elder,h.kinds,h.over,h.short,h.top,h.one⟩;unfold eM.read;split
 ·exact⟨(fun m hm=>by cases hm),hm,fun h=>absurd h ae,fun _=>rfl⟩
 split
 ·exact⟨(fun m hm=>by cases hm),hm,fun h=>absurd h ae,fun _=>rfl⟩
 rename_i e a;(have a:fN o=true:=by simpa using a);simp only;split
 ·rename_i x t u;obtain⟨w,g,f⟩:=Lu u;(have v:(t.map jg.eF).Nodup:=by have:=Ls h.one o;rw[u]at this;exact this);split
  ·refine⟨(fun m hm=>by cases hm),⟨h.id,h.low,(by show c.eK<=_;have:=h.high;omega),fun y hy=>h.cache y (f y hy),fun Px=>absurd Px e,h.elder,fun Px=>absurd Px e,fun _ _=>⟨a,.inr ?_⟩,(fun h=>by simp at h),fun Px=>absurd Px e,v⟩,fun _=>⟨ae,a⟩,fun h=>absurd rfl h⟩;have:=h.cache x w;rw[g]at this;exact this
  obtain⟨i,j,p⟩:=xX (G:=G) (l:=l) (b:=b) (gv:=gv) (k:=k) (c:={c with call:=⟨1,o,lT,false,false⟩,cache:=t}) h.id h.low h.high q hb r s (fun y hy=>h.cache y (f y hy)) (.inl rfl) a (fun h=>by simp at h) (fun n o d hm=>by have:=h.elder n o d hm;simp only;omega) (fun h=>by simp at h) v;exact⟨i,j,fun _=>by simp only[p];exact⟨ae,a⟩,fun h=>absurd rfl h⟩
 obtain⟨i,j,p⟩:=xX (G:=G) (l:=l) (b:=b) (gv:=gv) (k:=k) (c:={c with call:=⟨1,o,lT,false,false⟩}) h.id h.low h.high q hb r s h.cache (.inl rfl) a (fun h=>by simp at h) (fun n o d hm=>by have:=h.elder n o d hm;simp only;omega) (fun h=>by simp at h) h.one;exact⟨i,j,fun _=>by simp only[p];exact⟨ae,a⟩,fun h=>absurd rfl h⟩
theorem Cb (h:kB G l b gv k c) (r:0<=b) (hb:b<1000000) (s:0<=gv) (t:gv<=1000) (o:Int) (data:Bytes) (hu:jR G) (z:k<=3) :
 ∃g:gd,(∀y∈g,y.1=k)/\jR (g++G)/\(∀m∈(c.write o data).2.1,im (g++G) l m)/\kB (g++G) l (b+2) gv k (c.write o data).2.2/\((c.write o data).1=0->(c.write o data).2.2.call.eO≠0/\fN (c.write o data).2.2.call.eF=true)/\((c.write o data).1≠0->(c.write o data).2.2=c):=by
 have hm:kB G l (b+2) gv k c:=⟨h.id,h.low,by have:=h.high;omega,h.cache,h.asks,h.elder,h.kinds,h.over,h.short,h.top,h.one⟩;unfold eM.write;split
 ·exact abr
 split
 ·exact abr
 split
 ·exact abr
 rename_i u i A;(have i:fN o=true:=by simpa using i);refine⟨[(c.id,c.eK+1,o,data)],fun y hy=>?_,?_,?_⟩
 ·obtain rfl:=aD.1 hy;exact h.id
 ·refine⟨fun a n o1 d1 q d2 e f=>?_,fun a n o1 d1 e=>?_⟩
  rotate_left
  ·rcases aN.1 e with e|e
   ·have e1:=aD.1 e;simp only[dD]at e1;obtain⟨rfl,rfl,rfl,rfl⟩:=e1;have f:=h.id;have B:=h.low;have C:=h.high;obtain⟨D,E,F⟩:=jA i;exact⟨ab,ab,ab,ab⟩
   exact hu.small a n o1 d1 e
  rcases aN.1 e with e|e<;>rcases aN.1 f with f|f
  ·have e1:=aD.1 e;have j:=aD.1 f;simp only[dD]at e1 j;exact⟨e1.2.2.1.trans j.2.2.1.symm,e1.2.2.2.trans j.2.2.2.symm⟩
  ·have e1:=aD.1 e;simp only[dD]at e1;have:=h.elder n q d2 (by rw[<- e1.1];exact f);omega
  ·have e1:=aD.1 f;simp only[dD]at e1;have:=h.elder n o1 d1 (by rw[<- e1.1];exact e);omega
  exact hu.same a n o1 d1 q d2 e f
 obtain⟨v,w,x⟩:=xX (G:=[(c.id,c.eK+1,o,data)]++G) (l:=l) (b:=b) (gv:=gv) (k:=k) (c:={c with call:=⟨2,o,⟨data,0⟩,false,false⟩}) h.id h.low h.high r hb s t h.cache (.inr rfl) i (fun _=>ae) (fun n o d hm=>by
  rcases aN.1 hm with hm|hm
  ·have e1:=aD.1 hm;simp only[dD]at e1;simp only;omega
  have:=h.elder n o d hm;simp only;omega) (fun _=>by simp only;omega) h.one
 exact⟨v,w,fun _=>by simp only[x];exact⟨ae,i⟩,fun h=>absurd rfl h⟩
theorem Cc (h:kB G l b gv k c) (j:iW G l) (hu:jR G) (hm:im G l m) :
 (∀x∈(c.take m).1,im G l x)/\kB G l b gv k (c.take m).2/\(c.take m).2.call.eO=c.call.eO:=by
 (have a:∀x∈([]:List eL),im G l x:=fun x hx=>by cases hx);unfold eM.take;split
 ·exact⟨a,h,rfl⟩
 rename_i hc;simp only[bz,aV,not_or,bu,decide_eq_true_eq]at hc;simp only;split
 ·
  rename_i g;refine⟨a,?_⟩;unfold eM.lr;split
  ·exact⟨h,rfl⟩
  rename_i e;simp only[bz,aV,not_or,bu,decide_eq_true_eq]at e;obtain⟨⟨⟨f,n⟩,o⟩,t⟩:=e;have p:=hm.value g;simp only
  have d:kB G l b gv k {c with seen:=put m.eF (max (c.ke m.eF) m.fJ) c.seen,call:={c.call with value:=⟨m.data,m.fJ⟩,over:=true},fE:=0}:=by
   refine⟨h.id,h.low,h.high,h.cache,fun hb=>?_,h.elder,fun hb=>?_,fun _ _=>⟨(h.kinds f).2,.inr ?_⟩,fun h=>?_,fun hb=>?_,h.one⟩
   ·simp[eM.fB]at hb
   ·simp[eM.fB]at hb
   ·rw[show ({c.call with value:=⟨m.data,m.fJ⟩,over:=true}:iM).eF=m.eF from t];exact p
   ·have e1:c.call.eO=2:=h;omega
   simp[eM.fB]at hb
  split
  ·refine⟨⟨d.id,d.low,d.high,fun x hx=>?_,d.asks,d.elder,d.kinds,d.over,d.short,d.top,Lr h.one _ _ _⟩,rfl⟩;rcases Lq hx with hx|rfl
   ·exact h.cache x hx
   exact p
  exact⟨d,rfl⟩
 split
 ·
  rename_i g;split
  ·rename_i e;simp only[aF,decide_eq_true_eq]at e;obtain⟨⟨f,n⟩,o⟩:=e;refine⟨a,⟨h.id,h.low,h.high,h.cache,fun hb=>?_,h.elder,fun hb=>?_,fun _ _=>⟨(h.kinds f).2,?_⟩,h.short,(fun hb=>?_),h.one⟩,rfl⟩
   ·simp[eM.fB]at hb
   ·simp[eM.fB]at hb
   ·rcases hm.done g with hv|⟨r,q,s,u,v,i⟩
    ·exact .inl hv
    right;have g1:=h.asks f o;have g2:=j.fE r q s;rw[u,v,hc.1,n]at g2;obtain⟨e1,w⟩:=hu.same _ _ _ _ _ _ g1 g2;have:=j.rO.known q s;rw[i,<- e1,<- w]at this;exact this
   simp[eM.fB]at hb
  exact⟨a,h,rfl⟩
 split
 ·split
  ·exact⟨a,⟨h.id,h.low,h.high,h.cache,h.asks,h.elder,h.kinds,h.over,h.short,h.top,h.one⟩,rfl⟩
  exact⟨a,h,rfl⟩
 split
 ·split
  ·exact⟨a,⟨h.id,h.low,h.high,(fun x hx=>by cases hx),h.asks,h.elder,h.kinds,h.over,h.short,h.top,dR⟩,rfl⟩
  exact⟨a,h,rfl⟩
 split
 ·split
  ·refine⟨fun x hx=>?_,⟨h.id,h.low,h.high,fun x hx=>h.cache x (ve hx),h.asks,h.elder,h.kinds,h.over,h.short,h.top,drop_one h.one _⟩,rfl⟩;obtain rfl:=aD.1 hx;exact rL (by simp[eM.fG]) (by simp[eM.fG]) (by simp[eM.fG]) rfl
  exact⟨a,h,rfl⟩
 exact⟨a,h,rfl⟩
theorem vg:∀(l:List eL) (n:Net) (t:Bool) (g:fY),g∈(gV n t l).l->g∈n.l\/g.eU∈l
 | [],n,t,g,h=>.inl h
 |m::l,n,t,g,h=>by
  unfold gV at h;split at h
  ·rcases vg l _ t g h with h|h
   ·unfold Net.send at h;split at h
    ·exact .inl h
    rcases aN.1 h with h|h
    ·exact .inl h
    obtain rfl:=aD.1 h;exact .inr ae
   exact .inr (by simp[h])
  rcases vg l _ t g h with h|h
  ·exact .inl h
  exact .inr (by simp[h])
theorem im.sX (h:im G l m) (g:gd):im (g++G) l m:=by
 have:=h.more [] g;rwa [bG]at this
variable {w:eC}
theorem Inv.pw (h:Inv b G w) (hc:w.eD[k]?=some c) (hb:b<=b') (f:∀x∈g,x.1=k) (hu:jR (g++G))
 (i:kB (g++G) w.eP.eG b' (w.fy.getD k 0) k c') (l:∀m∈out,im (g++G) w.eP.eG m) (d:0<=w.ft.getD k (-1)->c'.call.eO≠0) :
 Inv b' (g++G) ({w with eD:=w.eD.set k c'}.gf false out):=by
 refine⟨by have:=h.b0;omega,by simpa[eC.gf]using h.gz,hu,?_,fun x a=>?_,fun s hs=>?_,by simpa[eC.gf]using h.nl,by simpa[eC.gf]using h.no,h.fy,fun j x a=>?_,h.fg,fun j x a hj=>?_⟩
 ·exact⟨h.eG.len,h.eG.rO,fun r n p=>bA _ (h.eG.fE r n p),h.eG.high,h.eG.short⟩
 ·rcases vg _ _ _ _ a with a|a
  ·exact (h.eH x a).sX g
  exact l _ a
 ·have hs:=h.ff s hs;exact⟨hs.nv,hs.nq,hs.value,fun o d x a=>bA _ (hs.eQ o d x a),fun k m hm=>⟨(hs.done k m hm).1,(hs.done k m hm).2.sX g⟩⟩
 ·simp only[eC.gf]at a;by_cases e:k=j
  ·subst e;rw[aS (az.1 hc).1]at a;obtain rfl:=aA a;exact i
  rw[a8 e]at a;have:=(h.eD j x a).more (g:=g) (x:=[]) hb (fun y hy=>by rw[f y hy];omega);rwa [bG]at this
 simp only[eC.gf]at a;by_cases e:k=j
 ·subst e;rw[aS (az.1 hc).1]at a;obtain rfl:=aA a;exact d hj
 rw[a8 e]at a;exact h.ft j x a hj
theorem Inv.sY {r:List eL×fe×eA} (h:Inv b G w) (f:Good G w.eP r):Inv b G ({w with eP:=r.2.1,ff:=some r.2.2}.gf true r.1):=by
 obtain⟨⟨x,d⟩,i,k,l⟩:=f;refine⟨h.b0,h.gz,h.uniq,i,fun g a=>?_,fun s hs=>?_,h.nl,h.no,h.fy,fun j c hc=>?_,fun e he=>?_,h.ft⟩
 ·show im G r.2.1.eG g.eU;rcases vg _ _ _ _ a with a|a
  ·rw[d];exact (h.eH g a).more x []
  exact l _ a
 ·obtain rfl:=aA hs;exact k
 ·show kB G r.2.1.eG b _ j c;rw[d];exact (h.eD j c hc).more (g:=[]) (aZ _) (fun y hy=>by cases hy)
 show xS r.2.1.eG e;rw[d];exact⟨(h.fg e he).eF,fun m=>((h.fg e he).known m).imp (fun h=>h) fun h=>h.more _⟩
theorem Inv.lZ (h:Inv b G w):Inv b G w.fA:=⟨h.b0,h.gz,h.uniq,h.eG,h.eH,h.ff,h.nl,h.no,h.fy,h.eD,h.fg,h.ft⟩
theorem Inv.uZ (h:Inv b G w):Inv b G {w with ff:=none}:=⟨h.b0,h.gz,h.uniq,h.eG,h.eH,(fun s h=>by cases h),h.nl,h.no,h.fy,h.eD,h.fg,h.ft⟩
theorem Inv.ox (h:Inv b G w):Inv b G w.iy:=by
 unfold eC.iy;split
 ·split
  ·exact h.uZ
  exact h
 exact h
theorem Inv.gx (h:Inv b G w) (hb:b<=b'):Inv b' G w:=
 ⟨by have:=h.b0;omega,h.gz,h.uniq,h.eG,h.eH,h.ff,h.nl,h.no,h.fy,fun k c hc=>⟨(h.eD k c hc).id,(h.eD k c hc).low,by have:=(h.eD k c hc).high;omega,(h.eD k c hc).cache,(h.eD k c hc).asks,(h.eD k c hc).elder,(h.eD k c hc).kinds,(h.eD k c hc).over,(h.eD k c hc).short,(h.eD k c hc).top,(h.eD k c hc).one⟩,h.fg,h.ft⟩
theorem Inv.kt (h:Inv b G w) {n:Net} (a:∀g∈n.l,g∈w.eH.l):Inv b G {w with eH:=n}:=⟨h.b0,h.gz,h.uniq,h.eG,fun g c=>h.eH g (a g c),h.ff,h.nl,h.no,h.fy,h.eD,h.fg,h.ft⟩
theorem lN (l:List Int) (k j:Nat) (x d:Int):(l.set k x).getD j d=if k=j/\k<l.length then x else l.getD j d:=by
 simp only[aC];by_cases e:k=j
 ·subst e;by_cases a:k<l.length
  ·rw[aS a];simp[a]
  rw[bw ah,bw ab];simp[a]
 rw[a8 e];simp[e]
theorem Inv.oy (h:Inv b G w) (k:Nat):Inv b G (w.gG k):=by
 unfold eC.gG;split
 ·rename_i c e hc he;split
  ·rename_i a;simp only[aF,decide_eq_true_eq,aV]at a;split
   ·rename_i x f;refine⟨h.b0,h.gz,h.uniq,h.eG,h.eH,h.ff,h.nl,by simpa using h.no,h.fy,h.eD,fun y hy=>?_,fun j c' Qb hj=>?_⟩
    ·rcases dW hy with hy|rfl
     ·exact h.fg y hy
     have d:=h.ft k c hc (by rw[aC,he];exact a.1);have:=(h.eD k c hc).over a.2 d;exact⟨this.eF,fun _=>this.known⟩
    simp only[lN]at hj;split at hj
    ·omega
    exact h.ft j c' Qb hj
   exact h
  exact h
 exact h
theorem oN (h:Inv b G w) (hc:w.eD[k]?=some c):0<=w.fy.getD k 0/\w.fy.getD k 0<=1000:=
 h.fy k (by rw[h.nl];exact (az.1 hc).1)
theorem Cd (h:Inv b G w) (hc:w.eD[k]?=some c) {l:List eL}
 (f:∀x∈g,x.1=k) (hu:jR (g++G)) (i:kB (g++G) w.eP.eG (b+2) (w.fy.getD k 0) k c') (n:∀m∈l,im (g++G) w.eP.eG m) (o:e=0->c'.call.eO≠0/\fN c'.call.eF=true) (p:e≠0->c'=c) :
 Inv (b+2) (g++G) (w.gJ k e l c').2:=by
 unfold eC.gJ;split
 ·rename_i he;have:=h.pw hc (b':=b+2) ab f hu i (out:=[]) (fun m hm=>by cases hm) (fun ho=>by rw[p he];exact h.ft k c hc ho);exact this
 rename_i he;have he:e=0:=ab;obtain⟨d,q⟩:=o he;have a:=h.pw hc (b':=b+2) ab f hu i (out:=l) n (fun _=>d);refine Inv.oy ?_ k;refine⟨a.b0,a.gz,a.uniq,a.eG,a.eH,a.ff,a.nl,?_,a.fy,a.eD,fun y hy=>?_,fun j x hx hj=>?_⟩
 ·have:=a.no;simp only[eC.gf,eC.fA,aU]at this⊢;exact this
 ·simp only[eC.gf,eC.fA]at hy;rcases aN.1 hy with hy|hy
  ·exact a.fg y hy
  obtain rfl:=aD.1 hy;exact⟨q,fun h=>absurd rfl h⟩
 simp only[eC.gf,eC.fA,lN]at hj hx;by_cases e:k=j
 ·subst e;rw[aS (az.1 hc).1]at hx;obtain rfl:=aA hx;exact d
 rw[if_neg (fun h=>e h.1)]at hj;exact a.ft j x hx hj
theorem Lv (h:Inv b G w) (hb:b<1000000) (k o:Int):∃a,Inv (b+2) a (w.read k o).2:=by
 unfold eC.read;split
 ·exact⟨G,h.gx ab⟩
 split
 ·rename_i c hc;obtain⟨d,e⟩:=oN h hc;obtain⟨f,i,j,l⟩:=vf (h.eD _ c hc) h.b0 hb d e o;exact⟨[]++G,Cd (g:=[]) h hc (fun x m=>by cases m) h.uniq i f j l⟩
 exact⟨G,h.gx ab⟩
theorem Lw (h:Inv b G w) (hb:b<1000000) (k o:Int) (data:Bytes):∃a,Inv (b+2) a (w.write k o data).2:=by
 unfold eC.write;split
 ·exact⟨G,h.gx ab⟩
 split
 ·rename_i c hc;obtain⟨d,e⟩:=oN h hc;obtain⟨g,f,hu,i,j,l,m⟩:=Cb (h.eD _ c hc) h.b0 hb d e o data h.uniq (by have:=(az.1 hc).1;have:=h.gz;omega);exact⟨g++G,Cd h hc f hu j i l m⟩
 exact⟨G,h.gx ab⟩
theorem nP (h:Inv b G w) (hb:b<1000000) (k:Int):Inv (b+1) G (w.fh k).2:=by
 unfold eC.fh;split
 ·exact h.gx ab
 split
 ·rename_i c hc;obtain⟨a,d⟩:=oN h hc;obtain⟨e,f,i⟩:=xW (h.eD _ c hc) h.b0 ab a d;have:=(h.pw hc (g:=[]) (b':=b+1) ab (fun x hx=>by cases hx) h.uniq f (out:=c.fh.1) e (fun ho=>by rw[i];exact h.ft _ c hc ho)).lZ;exact this
 exact h.gx ab
theorem oO (h:Inv b G w) (k:Int):Inv b G (w.gS k).2:=by
 unfold eC.gS;split
 ·exact h
 split
 ·exact h
 rename_i g d;have hm:im G w.eP.eG g.eU:=h.eH g (aT d);have a:Inv b G ({w with eH:={w.eH with l:=w.eH.l.eraseIdx k.toNat} }:eC).fA:=(h.kt fun x hx=>bF hx).lZ;have hd:({w with eH:={w.eH with l:=w.eH.l.eraseIdx k.toNat} }:eC).fA.eP=w.eP:=rfl;generalize ({w with eH:={w.eH with l:=w.eH.l.eraseIdx k.toNat} }:eC).fA=w1 at a hd⊢;rw[<- hd]at hm;simp only;split
 ·split
  ·exact a
  rename_i s hs;exact (a.sY (vb (a.ff s hs) a.eG _ hm)).ox
 split
 ·rename_i c hc;obtain⟨e,f,i⟩:=Cc (a.eD _ c hc) a.eG a.uniq hm;have:=(a.pw hc (g:=[]) (b':=b) ab (fun x hx=>by cases hx) a.uniq f (out:=(c.take g.eU).1) e (fun ho=>by rw[i];exact a.ft _ c hc ho)).oy g.to.toNat;exact this
 exact a
theorem Lx (h:Inv b G w) (k:Int):Inv b G (w.jP k).2:=by
 unfold eC.jP;split
 ·exact h
 exact h.kt fun x a=>bF a
theorem Ly (h:Inv b G w) (k:Int):Inv b G (w.jQ k).2:=by
 unfold eC.jQ;split
 ·exact h
 split
 ·rename_i g c;refine h.kt fun x a=>?_;unfold Net.send at a;split at a
  ·exact a
  rcases aN.1 a with a|a
  ·exact a
  obtain rfl:=aD.1 a;exact aT c
 exact h
theorem rM:∀(cs:List eM) (ns:List Int) (k:Nat) (c':eM),(jj cs ns)[k]?=some c'->∃c,cs[k]?=some c/\(c'=c\/∃n,c'=c.at_ n)
 | [],[],k,c',h=>by simp[jj]at h
 | [],n::ns,k,c',h=>by simp[jj]at h
 |c::cs,[],k,c',h=>⟨c',by simpa[jj]using h,.inl rfl⟩
 |c::cs,n::ns,0,c',h=>⟨c,rfl,.inr ⟨n,by simpa[jj,eq_comm]using h⟩⟩
 |c::cs,n::ns,k+1,c',h=>by
  have:=rM cs ns k c' (by simpa[jj]using h);simpa using this
theorem nB:∀(cs:List eM) (ns:List Int),(jj cs ns).length=cs.length
 | [],[]=>rfl
 | [],_::_=>rfl
 |_::_,[]=>rfl
 |_::cs,_::ns=>by simp[jj,nB cs ns]
theorem Inv.mW (h:Inv b G w) (ns cl:List Int):Inv b G {w with eN:=cl,eD:=jj w.eD ns}:=by
 refine⟨h.b0,by simpa[nB]using h.gz,h.uniq,h.eG,h.eH,h.ff,by simpa[nB]using h.nl,by simpa[nB]using h.no,h.fy,fun k c hc=>?_,h.fg,fun k c hc ho=>?_⟩
 ·obtain⟨c0,a,rfl|⟨n,rfl⟩⟩:=rM _ _ _ _ hc
  ·exact h.eD k _ a
  have:=h.eD k _ a;exact⟨this.id,this.low,this.high,this.cache,this.asks,this.elder,this.kinds,this.over,this.short,this.top,this.one⟩
 obtain⟨c0,a,rfl|⟨n,rfl⟩⟩:=rM _ _ _ _ hc
 ·exact h.ft k _ a ho
 have:=h.ft k _ a ho;exact this
theorem pV (h:Inv b G w) (l:List Int):Inv b G (w.fu l).2:=by
 unfold eC.fu;split
 ·exact h
 split
 ·exact h
 have a:=(h.mW (ib w.eN l).tail (ib w.eN l)).lZ;simp only;generalize ({w with eN:=ib w.eN l,eD:=jj w.eD (ib w.eN l).tail}:eC).fA=w1 at a⊢;split
 ·exact a
 rename_i s hs;exact (a.sY (vc (a.ff s hs) a.eG _)).ox
theorem Lz (h:Inv b G w) (a t:Int):Inv b G (w.kf a t):=by
 refine⟨h.b0,h.gz,h.uniq,h.eG,h.eH,fun s hs=>?_,h.nl,h.no,h.fy,h.eD,h.fg,h.ft⟩;simp only[eC.kf]at hs
 cases hw:w.ff with
 |none=>rw[hw]at hs;cases hs
 |some c =>
  rw[hw]at hs;obtain rfl:=aA hs;exact (h.ff c hw).Ll t
theorem LA (h:Inv b G w):Inv b G w.od:=h.lZ.uZ
theorem qL (h:Inv b G w):Inv b G w.gK.2:=by
 unfold eC.gK;split
 ·exact h
 obtain⟨⟨x,i⟩,k,l⟩:=B8 (d:=w.eP.cutAt (-1)) h.eG w.eZ (w.eN.getD 0 0);have f:(eA.new w.eZ (w.eP.cutAt (-1)) (w.eN.getD 0 0)).2.1.eG=w.eP.eG++x:=i;have a:=h.lZ;simp only;refine⟨a.b0,a.gz,a.uniq,k,fun g m=>?_,l,a.nl,a.no,a.fy,fun j c hc=>?_,fun e he=>?_,a.ft⟩
 ·show im G (eA.new w.eZ (w.eP.cutAt (-1)) (w.eN.getD 0 0)).2.1.eG g.eU;rw[f];exact (h.eH g m).more x []
 ·show kB G (eA.new w.eZ (w.eP.cutAt (-1)) (w.eN.getD 0 0)).2.1.eG b _ j c;rw[f];exact (h.eD j c hc).more (g:=[]) (aZ _) (fun y hy=>by cases hy)
 show xS (eA.new w.eZ (w.eP.cutAt (-1)) (w.eN.getD 0 0)).2.1.eG e;rw[f];exact⟨(h.fg e he).eF,fun n=>((h.fg e he).known n).imp (fun h=>h) fun h=>h.more _⟩
theorem LB (h:Inv b G w) (hb:b<1000000) (k:Int):Inv b G (w.jG k).2:=by
 unfold eC.jG;split
 ·exact h
 rename_i f;simp only[eC.right,aV,bu,aF,decide_eq_true_eq]at f;split
 ·exact h
 rename_i c hc;unfold eM.new at hc;split at hc
 ·rename_i i;obtain rfl:=aA hc;have a:k.toNat<w.eD.length:=ab;obtain⟨p,q⟩:=h.fy k.toNat (by rw[h.nl];exact a);have hw:wrap64 (w.fy.getD k.toNat 0+1)=w.fy.getD k.toNat 0+1:=jC ab ab;rw[hw]at i⊢;simp only[aF,fR,decide_eq_true_eq]at i;have g:=h.eD k.toNat _ (ay a);have e1:((k.toNat:Nat):Int)=k:=ab;refine Inv.lZ ⟨h.b0,by simpa using h.gz,h.uniq,h.eG,h.eH,h.ff,by simpa using h.nl,by simpa using h.no,fun j l=>?_,fun j c' Qb=>?_,h.fg,fun j c' Qb ho=>?_⟩
  ·simp only[lN,aU]at l⊢;split
   ·exact⟨ab,ab⟩
   exact h.fy j l
  ·simp only[lN]at Qb⊢;by_cases e:k.toNat=j
   ·subst e;rw[aS a]at Qb;obtain rfl:=aA Qb;rw[if_pos ⟨rfl,by rw[h.nl];exact a⟩];refine⟨e1.symm,(by show _<=(w.fy.getD k.toNat 0+1)*1048576;omega),(by show (w.fy.getD k.toNat 0+1)*1048576<=_;have:=h.b0;omega),(fun x m=>by cases m),(fun hb=>by simp[eM.fB]at hb),fun n o d hm=>?_,(fun hb=>by simp[eM.fB]at hb),(fun _ f=>absurd rfl f),(fun h=>by simp[oG]at h),(fun hb=>by simp[eM.fB]at hb),dR⟩;have:=g.elder n o d (by rw[g.id,e1];exact hm);have:=g.high;show n<=(w.fy.getD k.toNat 0+1)*1048576;omega
   rw[a8 e]at Qb;rw[if_neg (fun h=>e h.1)];exact h.eD j c' Qb
  simp only[lN]at Qb ho;by_cases e:k.toNat=j
  ·subst e;rw[if_pos ⟨rfl,by rw[h.no];exact a⟩]at ho;omega
  rw[a8 e]at Qb;rw[if_neg (fun h=>e h.1)]at ho;exact h.ft j c' Qb ho
 cases hc
theorem pW:∀(f:Nat) {w:eC} (_:Inv b G w),Inv b G (eC.ia f w)
 |0,_,h=>h
 |f+1,w,h=>by
  unfold eC.ia;split
  ·exact h
  exact pW f (oO h 0)
theorem rN:∀(a:List Nat) {b:Int} {w:eC} (_:Inv b G w) (_:b+a.length<=1000000),Inv (b+a.length) G (eC.iY a w)
 | [],b,w,h,_=>by simpa[eC.iY]using h
 |k::a,b,w,h,hb=>by
  simp only[aL]at hb;unfold eC.iY;have:=rN a (pW 1000 (nP h ab k)) ab;have e:b+1+(a.length:Int)=b+((k::a).length:Nat):=ah;rw[e]at this;exact this
theorem vh (h:Inv b G w) (hb:b+4<=1000000):Inv (b+4) G w.round:=by
 unfold eC.round;have a:=qL h;have d:=a.gz;have c:=rN (List.range w.gK.2.eD.length) a ah;exact (pW 1000 (pV c _)).gx ah
theorem Ce:∀(n:Nat) {b:Int} {w:eC} (_:Inv b G w) (_:b+4*n<=1000000),Inv (b+4*n) G (eC.iz n w)
 |0,b,w,h,_=>by simpa[eC.iz]using h
 |n+1,b,w,h,hb=>by
  unfold eC.iz;have:=Ce n (vh h ab) ab;rwa [show b+4+4*(n:Int)=b+4*((n+1:Nat):Int) from by omega]at this
theorem pX:∀(n:Nat) {t:fU} {j:Nat} {l:List eM} (_:oc t j n=some l),l.length=n/\∀k c,l[k]?=some c->eM.new (j+k:Nat) t 0 0=some c
 |0,t,j,l,h=>by
  (obtain rfl:[]=l:=by simpa[oc]using h);exact⟨rfl,fun k c a=>by simp at a⟩
 |n+1,t,j,l,h=>by
  unfold oc at h;split at h
  ·rename_i c cs b d;obtain rfl:=aA h;obtain⟨i1,i2⟩:=pX n d;refine⟨by simp[i1],fun k x a=>?_⟩
   cases k with
   |zero =>
    (obtain rfl:c=x:=by simpa using a);exact b
   |succ k =>
    have:=i2 k x (by simpa using a);rwa [show j+1+k=j+(k+1) from by omega]at this
  cases h
theorem LC {t:fU} (h:(eC.new t n).2=some w):Inv 0 [] w:=by
 unfold eC.new at h;split at h
 ·cases h
 rename_i l;simp only[aV,bu,fR,aF,decide_eq_true_eq]at l;have m:iW [] (⟨[],false,0⟩:fe).eG:=⟨ae,fun a r b e=>by simp at e,fun r hr=>by simp at hr,fun r hr=>by simp at hr,fun r hr=>by simp at hr⟩;obtain⟨_,f,i⟩:=B8 m t 0;split at h
 ·rename_i e d s heq;rw[heq]at f i;split at h
  ·rename_i cs o;obtain rfl:=aA h;obtain⟨c1,c2⟩:=pX _ o;refine⟨aZ _,(by simp only[c1];omega),⟨(fun _ _ _ _ _ _ h=>by cases h),fun _ _ _ _ h=>by cases h⟩,f,(fun g hg=>by cases hg),(fun p PD=>i p PD),(by simp[c1]),(by simp[c1]),fun k hk=>?_,fun k c hc=>?_,(fun e he=>by cases he),fun k c hc ho=>?_⟩
   ·simp only[aC,bC];split<;>simp
   ·have j:=(az.1 hc).1;rw[c1]at j;(have hg:(List.replicate n.toNat (0:Int)).getD k 0=0:=by simp[List.getD_eq_getElem?_getD,j]);simp only[hg];have:=c2 k c hc;unfold eM.new at this;split at this
    ·obtain rfl:=aA this;exact⟨ae,ae,ae,(fun x q=>by cases q),(fun hb=>by simp[eM.fB]at hb),(fun _ _ _ h=>by cases h),(fun hb=>by simp[eM.fB]at hb),(fun _ hk=>absurd rfl hk),(fun h=>by simp[oG]at h),(fun hb=>by simp[eM.fB]at hb),dR⟩
    cases this
   exfalso;simp only[aC,bC]at ho;split at ho<;>simp at ho
  cases h
 cases h
theorem fK (h:Inv b G w) (hs:w.ff=some s) {e:iw} (he:e∈w.fg) :
 fN e.call.eF=true/\(e.ended≠0->e.call.value.fq<=(s.value e.call.eF.toNat).fq/\((s.value e.call.eF.toNat).fq=e.call.value.fq->0<(s.value e.call.eF.toNat).fq->(s.value e.call.eF.toNat).data=e.call.value.data)):=by
 have c:=(h.fg e he).eF;refine⟨c,fun f=>?_⟩;obtain⟨o1,g,i⟩:=jA c;have hv:=(h.ff s hs).value _ g;rw[hv,i];rcases (h.fg e he).known f with a|a
 ·rw[a];refine⟨by simp[iP],fun e1 k=>ab⟩
 have j:=a.le;refine⟨by simpa[iP]using j,fun e1 _=>?_⟩;have d:=B3 w.eP.eG e.call.eF;rw[e1]at d;exact d.same a
end fK
namespace fK
open Go.RowKit fD eY
def Idx (w:eC):Prop:=∀e∈w.ft,e<w.fg.length
theorem mem_set {l:List Int} {k:Nat} {x e:Int} (h:e∈l.set k x):e=x\/e∈l:=(dW h).symm
variable {w:eC}
theorem Idx.same {w':eC} (h:Idx w) (e1:w'.ft=w.ft) (a:w'.fg.length=w.fg.length):Idx w':=fun e he=>by rw[a];exact h e (e1▸he)
theorem Idx.xY (h:Idx w) (b:Bool) (l:List eL):Idx (w.gf b l):=h
theorem Idx.oy (h:Idx w) (k:Nat):Idx (w.gG k):=by
 unfold eC.gG;split
 ·split
  ·split
   ·intro e he;simp only[aU]at he⊢;rcases mem_set he with rfl|he
    ·omega
    exact h e he
   exact h
  exact h
 exact h
theorem Idx.oA (h:Idx w) (k:Nat) (e:Int) (l:List eL) (c:eM):Idx (w.gJ k e l c).2:=by
 unfold eC.gJ;split
 ·exact h
 refine Idx.oy (Idx.xY (fun x a=>?_) _ _) _;simp only[eC.fA,aE,aQ]at a⊢;rcases mem_set a with rfl|a
 ·omega
 have:=h x a;omega
theorem Idx.l6 (h:Idx w) (k o:Int):Idx (w.read k o).2:=by
 unfold eC.read;split
 ·exact h
 split
 ·exact h.oA _ _ _ _
 exact h
theorem Idx.oP (h:Idx w) (k o:Int) (d:Bytes):Idx (w.write k o d).2:=by
 unfold eC.write;split
 ·exact h
 split
 ·exact h.oA _ _ _ _
 exact h
theorem Idx.jd (h:Idx w) (k:Int):Idx (w.fh k).2:=by
 unfold eC.fh;split
 ·exact h
 split
 ·exact h
 exact h
theorem Idx.ox (h:Idx w):Idx w.iy:=by
 unfold eC.iy;split
 ·split
  ·exact h
  exact h
 exact h
theorem Idx.ku (h:Idx w) (k:Int):Idx (w.gS k).2:=by
 unfold eC.gS;split
 ·exact h
 split
 ·exact h
 simp only;split
 ·split
  ·exact h
  exact Idx.ox (w:=eC.gf _ true _) h
 split
 ·refine Idx.oy ?_ _;exact h
 exact h
theorem Idx.px (h:Idx w) (k:Int):Idx (w.jP k).2:=by
 unfold eC.jP;split<;>exact h
theorem Idx.py (h:Idx w) (k:Int):Idx (w.jQ k).2:=by
 unfold eC.jQ;split
 ·exact h
 split<;>exact h
theorem Idx.iB (h:Idx w) (l:List Int):Idx (w.fu l).2:=by
 unfold eC.fu;split
 ·exact h
 split
 ·exact h
 simp only;split
 ·exact h
 exact Idx.ox (w:=eC.gf _ true _) h
theorem Idx.lF (h:Idx w):Idx w.gK.2:=by
 unfold eC.gK;split<;>exact h
theorem Idx.pz (h:Idx w) (k:Int):Idx (w.jG k).2:=by
 unfold eC.jG;split
 ·exact h
 split
 ·exact h
 intro e he;simp only[eC.fA]at he⊢;rcases mem_set he with rfl|he
 ·omega
 exact h e he
theorem Idx.ki:∀(f:Nat) {w:eC} (_:Idx w),Idx (eC.ia f w)
 |0,_,h=>h
 |f+1,w,h=>by
  unfold eC.ia;split
  ·exact h
  exact Idx.ki f (h.ku 0)
theorem Idx.lA:∀(a:List Nat) {w:eC} (_:Idx w),Idx (eC.iY a w)
 | [],_,h=>h
 |k::a,_,h=>Idx.lA a (Idx.ki 1000 (h.jd k))
theorem Idx.l7 (h:Idx w):Idx w.round:=Idx.ki 1000 ((Idx.lA _ h.lF).iB _)
theorem Idx.oQ:∀(n:Nat) {w:eC} (_:Idx w),Idx (eC.iz n w)
 |0,_,h=>h
 |n+1,_,h=>Idx.oQ n h.l7
theorem Idx.oR {t:fU} {n:Int} (h:(eC.new t n).2=some w):Idx w:=by
 unfold eC.new at h;split at h
 ·cases h
 split at h
 ·split at h
  ·obtain rfl:=aA h;intro e he;have:=bT he;simp only[bJ];omega
  cases h
 cases h
end fK
namespace fK
open Go.RowKit fD eY
def Cl (K:Nat) (c:Int):Prop:=0<=c/\c<K
def ic (K:Nat) (l:List eL):Prop:=∀m∈l,Cl K m.eI
def kX (K:Nat) (l:List Rec):Prop:=∀r∈l,0<=r.eF->Cl K r.eI
structure jt (K:Nat) (s:eA):Prop where
 eQ:∀q∈s.fi,∀x∈q,Cl K x.eI
 done:∀k m,fw k s.done=some m->Cl K m.eI
 gZ:∀e∈s.eW.gZ,Cl K e.1.1
def pY (K:Nat) (r:List eL×fe×eA):Prop:=ic K r.1/\kX K r.2.1.eG/\jt K r.2.2
section
variable {K:Nat} {s:eA} {d:fe}
theorem ic.nil:ic K []:=fun m hm=>by cases hm
theorem ic.one {m:eL} (h:Cl K m.eI):ic K [m]:=fun x a=>by rw[aD.1 a];exact h
theorem ic.app {a b:List eL} (c:ic K a) (hb:ic K b):ic K (a++b):=fun m hm=>(aN.1 hm).elim (c m) (hb m)
theorem qu {A V:Type} [DecidableEq A] {k:A} {v:V}:∀ {l:List (A×V)},fw k l=some v->(k,v)∈l
 | [],h=>by cases h
 |(x,u)::l,h=>by
  unfold fw at h;split at h
  ·rename_i e;rw[<- e,aA h];exact aK
  exact aI _ (qu h)
theorem vm {A V:Type} [DecidableEq A] {k:A} {e:A×V}:∀ {l:List (A×V)},e∈del k l->e∈l
 | [],h=>h
 |(x,u)::l,h=>by
  unfold del at h;split at h
  ·exact aI _ (vm h)
  rcases aH.1 h with h|h
  ·rw[h];exact aK
  exact aI _ (vm h)
theorem L5 (h:jt K s) (o eB:Int):∀c∈s.eW.ga o eB,Cl K c:=fun c hc=>by
 unfold fW.ga at hc;have a:=(bL.1 hc).2;unfold fW.holds at a;split at a
 ·rename_i u hu;exact h.gZ _ (qu hu)
 cases a
theorem L6 (t:fW) (c:Int):∀e∈(t.flush c).2.gZ,e∈t.gZ:=fun e he=>by
 unfold fW.flush at he;split at he
 ·exact (bL.1 he).1
 exact he
theorem Cq:∀(l:List Int) (t:fW),∀e∈(jr t l).gZ,e∈t.gZ
 | [],_,_,h=>h
 |c::l,t,e,h=>L6 t c e (Cq l (t.flush c).2 e h)
theorem L7 {o:Nat} {x:Wr} (h:x∈s.eQ o):∃q∈s.fi,x∈q:=by
 unfold eA.eQ at h;rw[aC]at h
 cases hq:s.fi[o]? with
 |none=>rw[hq]at h;cases h
 |some q=>rw[hq]at h;exact⟨q,aT hq,h⟩
theorem jt.Cr (h:jt K s) {o:Nat} {x:Wr} (a:x∈s.eQ o):Cl K x.eI:=by
 obtain⟨q,b,c⟩:=L7 a;exact h.eQ q b x c
theorem jt.fQ (h:jt K s) (o:Nat) {q:List Wr} (c:∀x∈q,Cl K x.eI):jt K {s with fi:=s.fi.set o q}:=
 ⟨fun p hp x a=>by
  rcases dW hp with b|b
  ·exact h.eQ p b x a
  rw[b]at a;exact c x a,h.done,h.gZ⟩
theorem jt.sW (h:jt K s) (k:Int) {m:eL} (hm:Cl K m.eI):jt K {s with done:=put k m s.done}:=
 ⟨h.eQ,fun j x a=>by
  rw[ou]at a;split at a
  ·rw[<- aA a];exact hm
  exact h.done j x a,h.gZ⟩
theorem jt.iR (h:jt K s) {t:fW} (ht:∀e∈t.gZ,Cl K e.1.1):jt K {s with eW:=t}:=⟨h.eQ,h.done,ht⟩
theorem kX.Cs (h:kX K d.eG) (eX:Bool) {r:Rec} (g:0<=r.eF->Cl K r.eI):kX K (d.add eX r).2.1.eG:=by
 generalize hp:d.add eX r=p;obtain⟨e,f,i⟩:=p;rcases mS hp with⟨-,b,-⟩|⟨-,b,-⟩
 ·show kX K f.eG;rw[b];intro x a c;rcases aN.1 a with a|a
  ·exact h x a c
  rw[aD.1 a]at c⊢;exact g c
 show kX K f.eG;rw[b];exact h
theorem L8 (h:jt K s) (f:kX K d.eG) {o:Nat} {x:Wr} {rest:List Wr} (a:Cl K x.eI) (b:∀y∈rest,Cl K y.eI) {out:List eL} (g:ic K out):pY K (s.store d o x rest out).2:=by
 unfold eA.store;simp only;have c:=f.Cs s.eX (r:=⟨x.eI,x.eK,o,wrap64 ((s.value o).fq+1),x.data,0⟩) fun _=>a;generalize d.add s.eX ⟨x.eI,x.eK,o,wrap64 ((s.value o).fq+1),x.data,0⟩=p at c⊢;have e:jt K {s with eX:=p.2.2}:=⟨h.eQ,h.done,h.gZ⟩;split
 ·exact⟨ic.nil,c,e⟩
 have key:jt K (eA.answer {s with eX:=p.2.2} p.1 ⟨x.eI,x.eK,o,wrap64 ((s.value o).fq+1),x.data,0⟩).1/\Cl K (eA.answer {s with eX:=p.2.2} p.1 ⟨x.eI,x.eK,o,wrap64 ((s.value o).fq+1),x.data,0⟩).2.eI:=by
  unfold eA.answer;split
  ·exact⟨⟨h.eQ,(e.sW x.eI (m:={iH with eO:=6,eI:=x.eI,eK:=x.eK,eF:=o,fJ:=wrap64 ((s.value o).fq+1)}) a).done,h.gZ⟩,a⟩
  exact⟨e.sW x.eI a,a⟩
 obtain⟨i,j⟩:=key;exact⟨g.app (ic.one j),c,i.fQ o b⟩
theorem L9 (h:jt K s) (b:kX K d.eG) {o:Nat} {x:Wr} {rest:List Wr} (j:s.eQ o=x::rest) {out:List eL} (f:ic K out):pY K (s.iE d o x rest out).2:=by
 have a:∀y∈x::rest,Cl K y.eI:=fun y hy=>h.Cr (o:=o) (by rw[j];exact hy)
 have g:jt K {s with fi:=s.fi.set o ({x with gw:=true}::rest)}:=h.fQ o fun y hy=>by
  rcases aH.1 hy with rfl|hy
  ·exact a x ae
  exact a y (by simp[hy])
 have i:ic K (if x.gw then out else out++(s.eW.ga o s.eB).map fun c=>s.ig c o):=by
  split
  ·exact f
  refine f.app fun m hm=>?_;obtain⟨c,hc,rfl⟩:=aW.1 hm;exact L5 h _ _ c hc
 unfold eA.iE;simp only;split
 ·exact⟨i,b,g⟩
 exact L8 (g.iR fun e he=>h.gZ e (Cq _ _ e he)) b (a x ae) (fun y hy=>a y (by simp[hy])) i
theorem Ct {o:Nat}:∀(f:Nat) {d:fe} {s:eA} (_:jt K s) (_:kX K d.eG) {out:List eL} (_:ic K out),pY K (eA.iu f d s o out)
 |0,_,_,h,a,_,b=>⟨b,a,h⟩
 |f+1,d,s,h,a,out,b=>by
  unfold eA.iu;split
  ·exact⟨b,a,h⟩
  rename_i x rest e;split
  ·exact⟨b,a,h⟩
  have c:=L9 h a e b;simp only;generalize s.iE d o x rest out=r at c⊢;split
  ·exact Ct f c.2.2 c.2.1 c.1
  exact c
theorem yd (h:jt K s) (a:kX K d.eG) (o:Nat):pY K (eA.fu d s o):=Ct _ h a ic.nil
theorem Cu (h:jt K s) (c:kX K d.eG) (eB:Int) {m:eL} (hm:Cl K m.eI):pY K (eA.take d s eB m):=by
 have b:jt K (s.at_ eB):=⟨h.eQ,h.done,h.gZ⟩;have hv:=mV d s eB m;generalize eA.take d s eB m=r at hv⊢;generalize s.at_ eB=z at hv b
 cases hv with
 |off=>exact⟨ic.nil,c,h⟩
 |idle=>exact⟨ic.nil,c,b⟩
 |done x _ _ _ _ f=>exact⟨ic.one (b.done _ x f),c,b⟩
 |read=>exact⟨ic.one hm,c,b⟩
 |flush1=>exact⟨ic.app (a:=[pU z m]) (ic.one hm) (ic.one hm),c,b⟩
 |gE =>
  refine⟨ic.one hm,c,b.iR fun e he=>?_⟩;unfold fW.eF at he;split at he
  ·rcases aH.1 he with rfl|he
   ·exact hm
   exact b.gZ e (vm he)
  exact b.gZ e he
 |flush3=>exact⟨ic.one hm,c,b⟩
 |wait=>exact⟨fun x f=>by obtain⟨k,_,rfl⟩:=aW.1 f;exact hm,c,b⟩
 |fT =>
  refine⟨ic.one hm,c,b.iR fun e he=>?_⟩;unfold fW.fa at he;split at he<;>exact b.gZ e he
 |enq =>
  exact yd (b.fQ _ fun x f=>by
   rcases aN.1 f with f|f
   ·exact b.Cr f
   rw[aD.1 f];exact hm) c _
 |ack=>exact yd (b.iR fun e he=>b.gZ e (vm he)) c _
theorem Cv:∀(a:List Nat) {d:fe} {s:eA} (_:jt K s) (_:kX K d.eG) {out:List eL} (_:ic K out),pY K (eA.gY a d s out)
 | [],_,_,h,b,_,c=>⟨c,b,h⟩
 |k::a,d,s,h,b,out,c=>by
  unfold eA.gY;obtain⟨g1,g2,g3⟩:=yd h b k;exact Cv a g3 g2 (c.app g1)
theorem Cw (h:jt K s) (a:kX K d.eG) (eB:Int):pY K (eA.tick d s eB):=by
 unfold eA.tick;split
 ·exact⟨ic.nil,a,h⟩
 exact Cv (List.range 8) (s:=s.at_ eB) ⟨h.eQ,h.done,h.gZ⟩ a (out:=[]) ic.nil
theorem ye:∀(l:List Rec) {s:eA} (_:jt K s) (_:kX K l),jt K (s.iN l)
 | [],_,h,_=>h
 |r::l,s,h,a=>by
  unfold eA.iN;have b:kX K l:=fun x hx=>a x (aI _ hx);split
  ·exact ye l ⟨h.eQ,h.done,h.gZ⟩ b
  refine ye l ?_ b;have hc:=a r aK ab;exact⟨h.eQ,(h.sW r.eI (m:={iH with eO:=6,eI:=r.eI,eK:=r.eK,eF:=r.eF,fJ:=r.fJ}) hc).done,h.gZ⟩
theorem Cx (b:kX K d.eG) (t:fU) (eB:Int):kX K (eA.new t d eB).2.1.eG/\∀s,(eA.new t d eB).2.2=some s->jt K s:=by
 unfold eA.new;split
 ·exact⟨b,fun s h=>by cases h⟩
 have hb:jt K (eA.blank t eB):=by
  refine⟨fun q i x f=>?_,fun k m h=>?_,fun e he=>?_⟩
  ·have:=bT i;rw[this]at f;cases f
  ·simp[eA.blank,fw]at h
  cases he
 have a:jt K ((eA.blank t eB).iN d.eG):=ye _ hb b;generalize (eA.blank t eB).iN d.eG=s1 at a⊢
 have g:jt K (if 1<(wrap64 (s1.eS+1)) then {s1 with eS:=wrap64 (s1.eS+1),quiet:=eB+t.fa} else {s1 with eS:=wrap64 (s1.eS+1)}):=by
  split<;>exact⟨a.eQ,a.done,a.gZ⟩
 simp only
 generalize (if 1<wrap64 (s1.eS+1) then ({s1 with eS:=wrap64 (s1.eS+1),quiet:=eB+t.fa}:eA) else {s1 with eS:=wrap64 (s1.eS+1)})=s2 at g⊢
 have c:=b.Cs false (r:=⟨0,0,-1,0,[],s2.eS⟩) fun h=>absurd h ae;generalize d.add false ⟨0,0,-1,0,[],s2.eS⟩=p at c⊢;split
 ·exact⟨c,fun s hs=>by rw[<- aA hs];exact g⟩
 exact⟨c,fun s hs=>by cases hs⟩
end
structure Tos (w:eC):Prop where
 eG:kX w.eD.length w.eP.eG
 ff:∀s,w.ff=some s->jt w.eD.length s
 eH:∀g∈w.eH.l,Cl w.eD.length g.eU.eI/\(g.to<0\/g.to=g.eU.eI)
 ids:∀(k:Nat) (c:eM),w.eD[k]?=some c->c.id=k
section
variable {w:eC}
theorem yf {K:Nat} {c:eM} (h:Cl K c.id):ic K c.fh.1/\c.fh.2.id=c.id:=by
 have a:∀c':eM,c'.id=c.id->ic K c'.asks:=fun c' e=>by
  unfold eM.asks;split
  ·exact ic.one (by simp only[eM.fG,e];exact h)
  exact ic.nil
 unfold eM.fh;split
 ·exact⟨ic.app (ic.one h) (a _ rfl),rfl⟩
 exact⟨a _ rfl,rfl⟩
theorem yg {K:Nat} {c:eM} (h:Cl K c.id):ic K c.ask.1/\c.ask.2.id=c.id:=by
 unfold eM.ask;exact yf (c:={c with eK:=wrap64 (c.eK+1),fE:=wrap64 (c.eK+1),gL:=c.eB}) h
theorem Cy {K:Nat} {c:eM} (h:Cl K c.id) (o:Int):ic K (c.read o).2.1/\(c.read o).2.2.id=c.id:=by
 unfold eM.read;split
 ·exact⟨ic.nil,rfl⟩
 split
 ·exact⟨ic.nil,rfl⟩
 simp only;split
 ·split
  ·exact⟨ic.nil,rfl⟩
  exact yg (by exact h)
 exact yg (by exact h)
theorem Cz {K:Nat} {c:eM} (h:Cl K c.id) (o:Int) (d:Bytes):ic K (c.write o d).2.1/\(c.write o d).2.2.id=c.id:=by
 unfold eM.write;split
 ·exact⟨ic.nil,rfl⟩
 split
 ·exact⟨ic.nil,rfl⟩
 split
 ·exact⟨ic.nil,rfl⟩
 exact yg (by exact h)
theorem CA {K:Nat} {c:eM} (h:Cl K c.id) (m:eL):ic K (c.take m).1/\(c.take m).2.id=c.id:=by
 unfold eM.take;split
 ·exact⟨ic.nil,rfl⟩
 simp only;split
 ·refine⟨ic.nil,?_⟩;unfold eM.lr;split
  ·rfl
  simp only;split<;>rfl
 split
 ·split<;>exact⟨ic.nil,rfl⟩
 split
 ·split<;>exact⟨ic.nil,rfl⟩
 split
 ·split<;>exact⟨ic.nil,rfl⟩
 split
 ·split
  ·exact⟨ic.one h,rfl⟩
  exact⟨ic.nil,rfl⟩
 exact⟨ic.nil,rfl⟩
theorem vo {K:Nat} (b:Bool):∀(l:List eL) (n:Net) (_:ic K l) (_:∀g∈n.l,Cl K g.eU.eI/\(g.to<0\/g.to=g.eU.eI)),∀g∈(gV n b l).l,Cl K g.eU.eI/\(g.to<0\/g.to=g.eU.eI)
 | [],n,_,a=>a
 |m::l,n,c,a=>by
  unfold gV;split
  ·refine vo b l _ (fun x d=>c x (aI _ d)) fun g hg=>?_;unfold Net.send at hg;split at hg
   ·exact a g hg
   rcases aN.1 hg with hg|hg
   ·exact a g hg
   rw[aD.1 hg];refine⟨c m aK,?_⟩;cases b
   ·left;show (-1:Int)<0;decide
   exact .inr rfl
  exact vo b l n (fun x d=>c x (aI _ d)) a
theorem Tos.pw (h:Tos w) {k:Nat} {c c':eM} (hc:w.eD[k]?=some c) (hid:c'.id=c.id) {l:List eL} (b:ic w.eD.length l):Tos ({w with eD:=w.eD.set k c'}.gf false l):=by
 refine⟨?_,?_,?_,fun j x a=>?_⟩
 ·show kX (w.eD.set k c').length _;rw[aU];exact h.eG
 ·show ∀s,_->jt (w.eD.set k c').length s;rw[aU];exact h.ff
 ·show ∀g∈(gV w.eH false l).l,Cl (w.eD.set k c').length _/\_;rw[aU];exact vo false l w.eH b h.eH
 have a:(w.eD.set k c')[j]?=some x:=a;rw[bt]at a;split at a
 ·rename_i e;split at a
  ·rw[<- aA a,hid,h.ids k c hc,e]
  cases a
 exact h.ids j x a
theorem Tos.cl (h:Tos w) {k:Nat} {c:eM} (hc:w.eD[k]?=some c):Cl w.eD.length c.id:=by
 rw[h.ids k c hc];have:=(az.1 hc).1;exact⟨ab,ab⟩
theorem Tos.sY (h:Tos w) {r:List eL×fe×eA} (a:pY w.eD.length r):Tos ({w with eP:=r.2.1,ff:=some r.2.2}.gf true r.1):=
 ⟨a.2.1,fun s hs=>by rw[<- aA hs];exact a.2.2,vo true r.1 w.eH a.1 h.eH,h.ids⟩
theorem Tos.ox (h:Tos w):Tos w.iy:=by
 unfold eC.iy;split
 ·split
  ·exact⟨h.eG,(fun s hs=>by cases hs),h.eH,h.ids⟩
  exact h
 exact h
theorem Tos.oy (h:Tos w) (k:Nat):Tos (w.gG k):=by
 unfold eC.gG;split
 ·split
  ·split
   ·exact⟨h.eG,h.ff,h.eH,h.ids⟩
   exact h
  exact h
 exact h
theorem Tos.oA (h:Tos w) {k:Nat} {c c':eM} (hc:w.eD[k]?=some c) (hid:c'.id=c.id) (e:Int) {l:List eL} (d:ic w.eD.length l):Tos (w.gJ k e l c').2:=by
 have a:=h.pw hc hid (l:=[]) ic.nil;have b:=h.pw hc hid d;unfold eC.gJ;split
 ·exact⟨a.eG,a.ff,a.eH,a.ids⟩
 refine Tos.oy (w:=eC.gf _ false l) ?_ k;exact⟨b.eG,b.ff,b.eH,b.ids⟩
theorem Tos.l6 (h:Tos w) (k o:Int):Tos (w.read k o).2:=by
 unfold eC.read;split
 ·exact h
 split
 ·rename_i c hc;exact h.oA hc (Cy (h.cl hc) o).2 _ (Cy (h.cl hc) o).1
 exact h
theorem Tos.oP (h:Tos w) (k o:Int) (d:Bytes):Tos (w.write k o d).2:=by
 unfold eC.write;split
 ·exact h
 split
 ·rename_i c hc;exact h.oA hc (Cz (h.cl hc) o d).2 _ (Cz (h.cl hc) o d).1
 exact h
theorem Tos.jd (h:Tos w) (k:Int):Tos (w.fh k).2:=by
 unfold eC.fh;split
 ·exact h
 split
 ·rename_i c hc;have a:=h.pw hc (yf (h.cl hc)).2 (yf (h.cl hc)).1;exact⟨a.eG,a.ff,a.eH,a.ids⟩
 exact h
theorem Tos.kt (h:Tos w) {n:Net} (a:∀g∈n.l,g∈w.eH.l):Tos {w with eH:=n}:=⟨h.eG,h.ff,fun g b=>h.eH g (a g b),h.ids⟩
theorem Tos.ku (h:Tos w) (k:Int):Tos (w.gS k).2:=by
 unfold eC.gS;split
 ·exact h
 split
 ·exact h
 rename_i g b;have hm:=h.eH g (aT b)
 have a:Tos ({w with eH:={w.eH with l:=w.eH.l.eraseIdx k.toNat} }:eC).fA:=by
  have:=h.kt (n:={w.eH with l:=w.eH.l.eraseIdx k.toNat}) fun x hx=>bF hx;exact⟨this.eG,this.ff,this.eH,this.ids⟩
 have e0:({w with eH:={w.eH with l:=w.eH.l.eraseIdx k.toNat} }:eC).fA.eD.length=w.eD.length:=rfl;generalize ({w with eH:={w.eH with l:=w.eH.l.eraseIdx k.toNat} }:eC).fA=w1 at a e0;simp only;split
 ·split
  ·exact a
  rename_i s hs;exact Tos.ox (a.sY (Cu (a.ff s hs) a.eG _ (by rw[e0];exact hm.1)))
 split
 ·rename_i c hc;exact Tos.oy (a.pw hc (CA (a.cl hc) _).2 (CA (a.cl hc) _).1) _
 exact a
theorem Tos.px (h:Tos w) (k:Int):Tos (w.jP k).2:=by
 unfold eC.jP;split
 ·exact h
 exact h.kt fun x a=>bF a
theorem Tos.py (h:Tos w) (k:Int):Tos (w.jQ k).2:=by
 unfold eC.jQ;split
 ·exact h
 split
 ·rename_i g b;refine h.kt fun x a=>?_;unfold Net.send at a;split at a
  ·exact a
  rcases aN.1 a with a|a
  ·exact a
  rw[aD.1 a];exact aT b
 exact h
theorem Tos.mW (h:Tos w) (ns cl:List Int):Tos ({w with eN:=cl,eD:=jj w.eD ns}:eC).fA:=by
 have e:(jj w.eD ns).length=w.eD.length:=nB _ _;refine⟨?_,?_,?_,fun k c hc=>?_⟩
 ·show kX (jj w.eD ns).length _;rw[e];exact h.eG
 ·show ∀s,_->jt (jj w.eD ns).length s;rw[e];exact h.ff
 ·show ∀g∈w.eH.l,Cl (jj w.eD ns).length _/\_;rw[e];exact h.eH
 obtain⟨c0,a,b⟩:=rM _ _ k c hc;rcases b with rfl|⟨n,rfl⟩
 ·exact h.ids k c a
 exact h.ids k c0 a
theorem Tos.iB (h:Tos w) (l:List Int):Tos (w.fu l).2:=by
 unfold eC.fu;split
 ·exact h
 split
 ·exact h
 have a:=h.mW (ib w.eN l).tail (ib w.eN l);simp only;split
 ·exact a
 rename_i s hs;have b:=(a.sY (r:=eA.tick w.eP s ((ib w.eN l).getD 0 0)) (Cw (a.ff s hs) a.eG _)).ox;exact b
theorem Tos.oB (h:Tos w) (a t:Int):Tos (w.kf a t):=by
 refine⟨h.eG,fun s hs=>?_,h.eH,h.ids⟩;have hs:w.ff.map (fun s=>{s with gy:=t})=some s:=hs;obtain⟨b,c,rfl⟩:=bS.1 hs;have:=h.ff b c;exact⟨this.eQ,this.done,this.gZ⟩
theorem Tos.qO (h:Tos w):Tos w.od:=⟨h.eG,(fun s hs=>by cases hs),h.eH,h.ids⟩
theorem Tos.lF (h:Tos w):Tos w.gK.2:=by
 unfold eC.gK;split
 ·exact h
 have a:=Cx (d:=w.fA.eP.cutAt (-1)) h.eG w.fA.eZ (w.fA.eN.getD 0 0);exact⟨a.1,a.2,h.eH,h.ids⟩
theorem Tos.pz (h:Tos w) (k:Int):Tos (w.jG k).2:=by
 unfold eC.jG;split
 ·exact h
 rename_i b;split
 ·exact h
 rename_i c hc;simp only[aV,bu,eC.right,aF,decide_eq_true_eq]at b
 have hid:c.id=k:=by
  unfold eM.new at hc;split at hc
  ·rw[<- aA hc]
  cases hc
 refine⟨?_,?_,?_,fun j x a=>?_⟩
 ·show kX (w.eD.set k.toNat c).length _;rw[aU];exact h.eG
 ·show ∀s,_->jt (w.eD.set k.toNat c).length s;rw[aU];exact h.ff
 ·show ∀g∈w.eH.l,Cl (w.eD.set k.toNat c).length _/\_;rw[aU];exact h.eH
 have a:(w.eD.set k.toNat c)[j]?=some x:=a;rw[bt]at a;split at a
 ·split at a
  ·rw[<- aA a,hid];omega
  cases a
 exact h.ids j x a
theorem Tos.ki:∀(f:Nat) {w:eC} (_:Tos w),Tos (eC.ia f w)
 |0,_,h=>h
 |f+1,w,h=>by
  unfold eC.ia;split
  ·exact h
  exact Tos.ki f (h.ku 0)
theorem Tos.lA:∀(a:List Nat) {w:eC} (_:Tos w),Tos (eC.iY a w)
 | [],_,h=>h
 |k::a,_,h=>Tos.lA a (Tos.ki 1000 (h.jd k))
theorem Tos.l7 (h:Tos w):Tos w.round:=Tos.ki 1000 ((Tos.lA _ h.lF).iB _)
theorem Tos.oQ:∀(n:Nat) {w:eC} (_:Tos w),Tos (eC.iz n w)
 |0,_,h=>h
 |n+1,_,h=>Tos.oQ n h.l7
theorem Tos.oR {t:fU} {n:Int} (h:(eC.new t n).2=some w):Tos w:=by
 unfold eC.new at h;split at h
 ·cases h
 split at h
 ·rename_i e d s heq;split at h
  ·rename_i cs b;obtain rfl:=aA h;obtain⟨c1,c2⟩:=pX _ b;have a:=Cx (K:=cs.length) (d:=⟨[],false,0⟩) (fun r hr=>by cases hr) t 0;rw[heq]at a;refine⟨a.1,a.2,(fun g f=>by cases f),fun k c hc=>?_⟩;have:=c2 k c hc;unfold eM.new at this;split at this
   ·rw[<- aA this];simp
   cases this
  cases h
 cases h
end
def Clk (w:eC):Prop:=∀c∈w.eN,0<=c/\c<=half
theorem CF:∀(cs ns:List Int) (_:∀c∈cs,0<=c/\c<=half) (_:∀n∈ns,0<=n),∀c∈ib cs ns,0<=c/\c<=half
 | [],ns,_,_,c,h=>by simp[ib]at h
 |x::cs,[],_,_,c,h=>by simp[ib]at h
 |x::cs,n::ns,a,b,c,h=>by
  unfold ib at h;rcases aH.1 h with rfl|h
  ·have d:=(a x aK).1;have a2:=b n aK;unfold half;omega
  exact CF cs ns (fun c hc=>a c (aI _ hc)) (fun c hc=>b c (aI _ hc)) c h
variable {w:eC}
theorem Clk.same {w':eC} (h:Clk w) (e:w'.eN=w.eN):Clk w':=fun c hc=>h c (e▸hc)
theorem yh (w:eC) (k:Nat):(w.gG k).eN=w.eN:=by
 unfold eC.gG;split
 ·split
  ·split<;>rfl
  rfl
 rfl
theorem CG (w:eC) (k:Nat) (e:Int) (l:List eL) (c:eM):(w.gJ k e l c).2.eN=w.eN:=by
 unfold eC.gJ;split
 ·rfl
 exact yh _ _
theorem Me (w:eC) (k o:Int):(w.read k o).2.eN=w.eN:=by
 unfold eC.read;split
 ·rfl
 split
 ·exact CG _ _ _ _ _
 rfl
theorem Mf (w:eC) (k o:Int) (d:Bytes):(w.write k o d).2.eN=w.eN:=by
 unfold eC.write;split
 ·rfl
 split
 ·exact CG _ _ _ _ _
 rfl
theorem rR (w:eC) (k:Int):(w.fh k).2.eN=w.eN:=by
 unfold eC.fh;split
 ·rfl
 split<;>rfl
theorem CH (w:eC):w.iy.eN=w.eN:=by
 unfold eC.iy;split
 ·split<;>rfl
 rfl
theorem CJ (w:eC) (k:Int):(w.gS k).2.eN=w.eN:=by
 unfold eC.gS;split
 ·rfl
 split
 ·rfl
 simp only;split
 ·split
  ·rfl
  exact CH _
 split
 ·exact yh _ _
 rfl
theorem Mg (w:eC) (k:Int):(w.jP k).2.eN=w.eN:=by
 unfold eC.jP;split<;>rfl
theorem Mh (w:eC) (k:Int):(w.jQ k).2.eN=w.eN:=by
 unfold eC.jQ;split
 ·rfl
 split<;>rfl
theorem yi (w:eC):w.gK.2.eN=w.eN:=by
 unfold eC.gK;split<;>rfl
theorem Mi (w:eC) (k:Int):(w.jG k).2.eN=w.eN:=by
 unfold eC.jG;split
 ·rfl
 split<;>rfl
theorem Clk.iB (h:Clk w) (l:List Int):Clk (w.fu l).2:=by
 unfold eC.fu;split
 ·exact h
 split
 ·exact h
 rename_i a
 have b:∀c∈ib w.eN l,0<=c/\c<=half:=CF _ _ h fun n hn=>by
  have a:¬(l.any fun n=>!fR n 0 137438953472)=true:=a;rw[bW]at a;have d:¬(!fR n 0 137438953472)=true:=fun h3=>a ⟨n,hn,h3⟩;simp only[aV,bu,fR,aF,decide_eq_true_eq]at d;exact d.1
 simp only;split
 ·exact b
 intro c hc;rw[CH]at hc;exact b c hc
theorem pZ:∀(f:Nat) (w:eC),(eC.ia f w).eN=w.eN
 |0,_=>rfl
 |f+1,w=>by
  unfold eC.ia;split
  ·rfl
  rw[pZ f,CJ]
theorem CK:∀(a:List Nat) (w:eC),(eC.iY a w).eN=w.eN
 | [],_=>rfl
 |k::a,w=>by
  unfold eC.iY eC.gi;rw[CK a,pZ,rR]
theorem Clk.l7 (h:Clk w):Clk w.round:=by
 unfold eC.round eC.gi;have a:Clk (eC.iY (List.range w.gK.2.eD.length) w.gK.2):=h.same (by rw[CK,yi]);exact (a.iB _).same (pZ _ _)
theorem Clk.oQ:∀(n:Nat) {w:eC} (_:Clk w),Clk (eC.iz n w)
 |0,_,h=>h
 |n+1,_,h=>Clk.oQ n h.l7
theorem Clk.oR {t:fU} {n:Int} (h:(eC.new t n).2=some w):Clk w:=by
 unfold eC.new at h;split at h
 ·cases h
 split at h
 ·split at h
  ·obtain rfl:=aA h;intro c hc;have:=bT hc;unfold half;omega
  cases h
 cases h
def mv:Nat->List Int->List Int->List Int
 |k+1,c::cs,n::ns=>min (c+n) half::mv k cs ns
 |_,cs,_=>cs
theorem tf (cs ns:List Int):mv 0 cs ns=cs:=by unfold mv;rfl
theorem vq:∀(k:Nat) (cs ns:List Int),(mv k cs ns).length=cs.length
 |0,cs,ns=>by rw[tf]
 |k+1,[],ns=>by simp[mv]
 |k+1,c::cs,[]=>by simp[mv]
 |k+1,c::cs,n::ns=>by simp[mv,vq k cs ns]
theorem CL:∀(k:Nat) (cs ns:List Int),(mv k cs ns)[k]?=cs[k]?
 |0,cs,ns=>by rw[tf]
 |k+1,[],ns=>by simp[mv]
 |k+1,c::cs,[]=>by simp[mv]
 |k+1,c::cs,n::ns=>by simp[mv,CL k cs ns]
theorem CN:∀(k:Nat) (cs ns:List Int) (c n:Int) (_:cs[k]?=some c) (_:ns[k]?=some n),(mv k cs ns).set k (min (c+n) half)=mv (k+1) cs ns
 |0,c::cs,n::ns,c',d,a,b=>by
  (have e1:c=c':=by simpa using a);(have e:n=d:=by simpa using b);rw[tf,mv,tf,e1,e];rfl
 |k+1,c::cs,n::ns,c',d,a,b=>by
  rw[mv,mv,bf,CN k cs ns c' d (by simpa using a) (by simpa using b)]
 |k,[],ns,c',d,a,b=>by simp at a
 |k,c::cs,[],c',d,a,b=>by simp at b
theorem CO:∀(cs ns:List Int) (_:ns.length=cs.length),mv cs.length cs ns=ib cs ns
 | [],[],_=>rfl
 | [],n::ns,h=>by simp at h
 |c::cs,[],h=>by simp at h
 |c::cs,n::ns,h=>by
  simp only[aL]at h⊢;rw[mv,ib,CO cs ns ab]
def av:Nat->List eM->List Int->List eM
 |k+1,c::cs,n::ns=>c.at_ n::av k cs ns
 |_,cs,_=>cs
theorem vu (cs:List eM) (ns:List Int):av 0 cs ns=cs:=by unfold av;rfl
theorem CQ:∀(k:Nat) (cs:List eM) (ns:List Int),(av k cs ns)[k]?=cs[k]?
 |0,cs,ns=>by rw[vu]
 |k+1,[],ns=>by simp[av]
 |k+1,c::cs,[]=>by simp[av]
 |k+1,c::cs,n::ns=>by simp[av,CQ k cs ns]
theorem CR:∀(k:Nat) (cs:List eM) (ns:List Int) (c:eM) (n:Int) (_:cs[k]?=some c) (_:ns[k]?=some n),(av k cs ns).set k (c.at_ n)=av (k+1) cs ns
 |0,c::cs,n::ns,c',d,a,b=>by
  (have e1:c=c':=by simpa using a);(have e:n=d:=by simpa using b);rw[vu,av,vu,e1,e];rfl
 |k+1,c::cs,n::ns,c',d,a,b=>by
  rw[av,av,bf,CR k cs ns c' d (by simpa using a) (by simpa using b)]
 |k,[],ns,c',d,a,b=>by simp at a
 |k,c::cs,[],c',d,a,b=>by simp at b
theorem CU:∀(cs:List eM) (ns:List Int),av cs.length cs ns=jj cs ns
 | [],ns=>by unfold av jj;cases ns<;>rfl
 |c::cs,[]=>by simp[av,jj]
 |c::cs,n::ns=>by
  simp only[aL];rw[av,jj,CU cs ns]
end fK
namespace fS
def wt (cur:Option Int) (m:Int):Nat:=if cur=some m then 1 else 2
def jE (cur:Option Int) (E:List Int):Nat:=(E.map (wt cur)).sum
def jF (E D R:List Int):Option Int->Nat
 |none=>0
 |some n=>(if n∉E/\R.getLast?≠some n then 1 else 0)+(if n∉E/\n∉R/\n∈D then 0 else 1)
theorem nQ (E D R:List Int) (n:Int):jF E D R (some n)=(if n∉E/\R.getLast?≠some n then 1 else 0)+(if n∉E/\n∉R/\n∈D then 0 else 1):=rfl
theorem vF (E D R:List Int):jF E D R none=0:=rfl
def gl (E D R:List Int) (cur:Option Int):Nat:=R.length+jE cur E+2*D.length+jF E D R cur
theorem yr (E:List Int):jE none E=2*E.length:=by
 induction E with
 |nil=>rfl
 |cons a E ih=>simp only[jE,aY,bN,aL]at ih⊢;rw[ih];simp[wt];omega
theorem vG {n:Int} {E:List Int} (h:n∉E):jE (some n) E=2*E.length:=by
 induction E with
 |nil=>rfl
 |cons a E ih =>
  simp only[aH,not_or]at h;have:=ih h.2;simp only[jE,aY,bN,aL]at this⊢;rw[this];(have:wt (some n) a=2:=by unfold wt;rw[if_neg (fun e=>h.1 (aA e))]);omega
theorem M0 {n:Int} {E:List Int} (b:E.Nodup) (h:n∈E):jE (some n) E+1=2*E.length:=by
 induction E with
 |nil=>cases h
 |cons a E ih =>
  simp only[cE]at b;rcases aH.1 h with rfl|d
  ·have:=vG b.1;simp only[jE,aY,bN,aL]at this⊢;rw[this];simp[wt];omega
  have:=ih b.2 d;have c:n≠a:=fun e=>b.1 (e▸d);simp only[jE,aY,bN,aL]at this⊢;(have:wt (some n) a=2:=by unfold wt;rw[if_neg (fun e=>c (aA e))]);omega
theorem yt (cur:Option Int) (E F:List Int):jE cur (E++F)=jE cur E+jE cur F:=by simp[jE]
theorem DA (E D R:List Int) (cur:Option Int):jF E D R cur<=2:=by
 unfold jF;split
 ·omega
 split<;>split<;>omega
section
variable {E E' D D' R:List Int} {cur:Option Int} {n m:Int}
theorem M1 (a:n∉E) (b:n∉R):gl E (D++[n]) R (some n)<=gl E D R none+3:=by
 unfold gl;rw[vG a,yr]
 have:jF E (D++[n]) R (some n)<=1:=by
  simp only[nQ];rw[if_pos (show n∉E/\n∉R/\n∈D++[n] from ⟨a,b,ae⟩)];split<;>omega
 simp only[aE,aQ,vF];omega
theorem M3 (a:n∉E):gl E D R (some n)<=gl E D R none+3:=by
 unfold gl;rw[vG a,yr];have:=DA E D R (some n);have e:=vF E D R;omega
theorem vH:gl E (D++[m]) R cur<=gl E D R cur+2:=by
 unfold gl
 have:jF E (D++[m]) R cur<=jF E D R cur:=by
  unfold jF;split
  ·exact ax _
  refine Nat.add_le_add_left ?_ _;split
  ·omega
  rename_i h;rw[if_neg]
  ·exact ax _
  rintro⟨a,b,c⟩;exact h ⟨a,b,bp _ c⟩
 simp only[aE,aQ];omega
theorem M4 (a:D'.length+1=D.length):gl E D' R cur+1<=gl E D R cur:=by
 unfold gl
 have:jF E D' R cur<=jF E D R cur+1:=by
  unfold jF;split
  ·omega
  split<;>split<;>split<;>omega
 omega
theorem DB (g:D'.length+1=D.length) (hm:∀x,x≠m->(x∈D'↔x∈D)) (b:m∉E) (a:∀x,x∈E'↔x=m\/x∈E) (hw:jE cur E'=jE cur E+wt cur m) (c:R.getLast?≠some m):gl E' D' R cur<=gl E D R cur:=by
 unfold gl;rw[hw]
 cases cur with
 |none=>simp only[vF,wt];simp;omega
 |some n =>
  by_cases e:n=m
  ·subst e
   have d:jF E' D' R (some n)=1:=by
    simp only[nQ];rw[if_neg (fun h=>h.1 ((a n).2 (.inl rfl))),if_neg (fun h=>h.1 ((a n).2 (.inl rfl)))]
   have i:1<=jF E D R (some n):=by
    simp only[nQ];rw[if_pos ⟨b,c⟩];omega
   (have f:wt (some n) n=1:=by simp[wt]);omega
  have d:jF E' D' R (some n)=jF E D R (some n):=by
   simp only[nQ];(have e1:n∈E'↔n∈E:=by rw[a];exact⟨fun h=>h.resolve_left e,.inr⟩);simp only[e1,hm n e]
  (have f:wt (some n) m=2:=by unfold wt;rw[if_neg (fun h=>e (aA h))]);omega
theorem M5 (b:n∉D) (c:n∉E) (hw:jE (some n) E'=jE (some n) E+1) (a:n∈E') (d:R.getLast?≠some n):gl E' D R (some n)<=gl E D R (some n):=by
 unfold gl;rw[hw]
 have e:jF E' D R (some n)=1:=by
  simp only[nQ];rw[if_neg (fun h=>h.1 a),if_neg (fun h=>h.1 a)]
 have f:jF E D R (some n)=2:=by
  simp only[nQ];rw[if_pos ⟨c,d⟩,if_neg (fun h=>b h.2.2)]
 omega
theorem M6 (a:∀x,x≠m->(x∈E'↔x∈E)) (b:m∈E) (hm:m∉E') (hw:jE cur E=jE cur E'+wt cur m):gl E' D (R++[m]) cur<=gl E D R cur:=by
 unfold gl;rw[hw];simp only[aE,aQ]
 cases cur with
 |none=>simp only[vF,wt];simp;omega
 |some n =>
  by_cases e:n=m
  ·subst e
   have c:jF E' D (R++[n]) (some n)=1:=by
    simp only[nQ];rw[if_neg (fun h=>h.2 ae),if_neg (fun h=>h.2.1 ae)]
   have f:jF E D R (some n)=1:=by
    simp only[nQ];rw[if_neg (fun h=>h.1 b),if_neg (fun h=>h.1 b)]
   (have d:wt (some n) n=1:=by simp[wt]);omega
  have c:jF E' D (R++[m]) (some n)<=jF E D R (some n)+1:=by
   simp only[nQ];(have e1:n∈R++[m]↔n∈R:=by simp[e]);simp only[a n e,e1];split<;>split<;>split<;>omega
  (have d:wt (some n) m=2:=by unfold wt;rw[if_neg (fun h=>e (aA h))]);omega
theorem yu:gl [] D R cur<=gl E D R cur:=by
 unfold gl
 cases cur with
 |none=>simp[jF,jE]
 |some n =>
  by_cases e:n∈E
  ·have c:jF [] D R (some n)<=2:=DA _ _ _ _
   have f:jF E D R (some n)=1:=by
    simp only[nQ];rw[if_neg (fun h=>h.1 e),if_neg (fun h=>h.1 e)]
   have g:1<=jE (some n) E:=by
    obtain⟨a,b,rfl⟩:=List.append_of_mem e;rw[yt];simp only[jE,aY,bN];(have:wt (some n) n=1:=by simp[wt]);omega
   have d:jE (some n) []=0:=rfl;omega
  have c:jF [] D R (some n)=jF E D R (some n):=by
   simp only[nQ];(have e1:n∈([]:List Int)↔n∈E:=by simp[e]);simp only[e1]
  have d:jE (some n) []=0:=rfl;omega
theorem qR (a:E.Nodup):gl E D R none<=gl E D R cur:=by
 unfold gl
 cases cur with
 |none=>exact ax _
 |some n =>
  rw[yr];by_cases e:n∈E
  ·have b:=M0 a e
   have d:jF E D R (some n)=1:=by
    simp only[nQ];rw[if_neg (fun h=>h.1 e),if_neg (fun h=>h.1 e)]
   have c:jF E D R none=0:=rfl;omega
  have b:=vG e;have c:jF E D R none=0:=rfl;omega
end
end fS
namespace fS
open Go.RowKit fD eY fK
def jx (q:List Wr) (k:Int):List Int:=(q.filter fun x=>decide (x.eI=k)).map Wr.eK
def gR (s:eA) (k:Int):List Int:=s.fi.flatMap fun q=>jx q k
def fP (s:eA):Nat:=(s.fi.map List.length).sum
def gg (l:List Rec) (k:Int):List Int:=l.filterMap fun r=>if 0<=r.eF/\r.eI=k then some r.eK else none
def jq (l:List Rec):Nat:=(l.filter fun r=>decide (r.eF<0)).length
theorem M7 (l:List Rec) (r:Rec) (k:Int) (a:0<=r.eF):gg (l++[r]) k=if r.eI=k then gg l k++[r.eK] else gg l k:=by
 unfold gg;rw[List.filterMap_append];by_cases h:r.eI=k
 ·simp[h,a]
 simp[h]
theorem M8 (l:List Rec) (r:Rec) (a:0<=r.eF):jq (l++[r])=jq l:=by
 unfold jq;rw[List.filter_append];simp;omega
theorem qS (x:Wr) (q:List Wr) (k:Int):jx (x::q) k=if x.eI=k then x.eK::jx q k else jx q k:=by
 unfold jx;by_cases h:x.eI=k<;>simp[h]
theorem M9 (x:Wr) (q:List Wr) (k:Int):jx (q++[x]) k=if x.eI=k then jx q k++[x.eK] else jx q k:=by
 unfold jx;by_cases h:x.eI=k<;>simp[h]
theorem DD (s:eA) (o:Nat) (h8:s.fi.length=8) (d:o<8):∃a b:List (List Wr),s.fi=a++s.eQ o::b/\∀q,s.fi.set o q=a++q::b:=by
 have c:o<s.fi.length:=ab;refine⟨s.fi.take o,s.fi.drop (o+1),?_,fun q=>?_⟩
 ·(have e:s.eQ o=s.fi[o]:=by simp[eA.eQ,List.getD_eq_getElem?_getD,c]);rw[e,List.getElem_cons_drop c,cS]
 rw[dv,if_pos c]
variable {s s':eA} {o:Nat}
theorem yv (h8:s.fi.length=8) (c:o<8):∃A B:Int->List Int,(∀k,gR s k=A k++jx (s.eQ o) k++B k)/\∀q k,gR {s with fi:=s.fi.set o q} k=A k++jx q k++B k:=by
 obtain⟨a,b,d,e⟩:=DD s o h8 c;refine⟨fun k=>a.flatMap fun q=>jx q k,fun k=>b.flatMap fun q=>jx q k,fun k=>?_,fun q k=>?_⟩
 ·unfold gR;rw[d];simp
 unfold gR;simp only[e];simp
theorem rX (h8:s.fi.length=8) (c:o<8) (q:List Wr):fP {s with fi:=s.fi.set o q}+(s.eQ o).length=fP s+q.length:=by
 obtain⟨a,b,d,e⟩:=DD s o h8 c;unfold fP;simp only[e];rw[d];simp;omega
theorem DE (h8:s.fi.length=8) (a:o<8):(s.eQ o).length<=fP s:=by
 have:=rX h8 a [];simp at this;omega
structure SQ (d:fe) (s:eA):Prop where
 nodup:∀k,(gR s k).Nodup
 last:∀k,(gg d.eG k).getLast?=(fw k s.done).map eL.eK
structure kC (d:fe) (s:eA) (d':fe) (s':eA):Prop where
 load:d'.eG.length+fP s'<=d.eG.length+fP s
 oC:∀k D cur,gl (gR s' k) D (gg d'.eG k) cur<=gl (gR s k) D (gg d.eG k) cur
 p9:jq d'.eG=jq d.eG
 eG:d.eG.length<=d'.eG.length
 sub:∀k n,n∈gR s' k->n∈gR s k
 ep:s'.eS=s.eS
theorem kC.refl (d:fe) (s:eA):kC d s d s:=⟨ax _,fun _ _ _=>ax _,rfl,ax _,fun _ _ h=>h,rfl⟩
variable {d:fe}
theorem kC.trans {d1 d2:fe} {s1 s2:eA} (h:kC d s d1 s1) (g:kC d1 s1 d2 s2):kC d s d2 s2:=
 ⟨aB g.load h.load,fun k D c=>aB (g.oC k D c) (h.oC k D c),g.p9.trans h.p9,aB h.eG g.eG,fun k n hn=>h.sub k n (g.sub k n hn),g.ep.trans h.ep⟩
theorem kC.same (h:s'.fi=s.fi) (e:s'.eS=s.eS):kC d s d s':=by
 (have e1:∀k,gR s' k=gR s k:=fun k=>by unfold gR;rw[h]);(have b:fP s'=fP s:=by unfold fP;rw[h]);exact⟨by rw[b];exact ax _,fun k D c=>by rw[e1];exact ax _,rfl,ax _,fun k n a=>by rw[e1]at a;exact a,e⟩
theorem SQ.same (h:SQ d s) (e1:s'.fi=s.fi) (a:s'.done=s.done):SQ d s':=
 ⟨fun k=>by have:=h.nodup k;unfold gR at *;rw[e1];exact this,fun k=>by rw[a];exact h.last k⟩
theorem DF {r:Rec} (a:r.right=true) (b:d.eG.length<200):(d.add false r).1=0\/(d.add false r).1=14:=by
 unfold fe.add;simp only[bh,if_false,a,cT];rw[if_neg ab];split
 ·exact .inr rfl
 exact .inl rfl
variable {G:gd} {x:Wr} {rest:List Wr}
theorem Na (h:gF G d.eG s) (hu:jR G) (g:SQ d s) (i:o<8) {y:Wr} (q:s.eQ o=y::rest) (z:y.eI=x.eI) (C:y.eK=x.eK) (N:y.data=x.data) (hd:s.eX=false) (X:d.eG.length+fP s<=199) (out:List eL) :
 SQ (s.store d o x rest out).2.2.1 (s.store d o x rest out).2.2.2/\kC d s (s.store d o x rest out).2.2.1 (s.store d o x rest out).2.2.2:=by
 have E:=h.eQ o i y (by rw[q];simp);rw[z,C,N]at E;obtain⟨⟨c1,c2⟩,⟨n1,Y⟩,-,l1⟩:=hu.small _ _ _ _ E;have j:s.value o=iP d.eG o:=h.value o i;have hlen:=rJ d.eG o;have Z:1<=fP s:=by have:=DE h.nq i;rw[q]at this;simp at this;omega
 have hv:wrap64 ((s.value o).fq+1)=(iP d.eG o).fq+1:=by
  rw[j,jC]
  ·simp only[iP];omega
  simp only[iP];omega
 unfold eA.store;simp only[hv,hd];obtain⟨r,hrr⟩:=nm (⟨x.eI,x.eK,o,(iP d.eG o).fq+1,x.data,0⟩:Rec);rw[<- hrr]
 have O:r.right=true:=by
  exact abc
 (have F:0<=r.eF:=by rw[hrr];simp);(have H:r.eI=x.eI:=by rw[hrr]);(have l:r.eK=x.eK:=by rw[hrr]);rcases DF (d:=d) O ab with e|e
 ·generalize hp:d.add false r=p at e;obtain⟨u,t,P⟩:=p;obtain rfl:u=0:=e;rcases mS hp with⟨-,b,k3,-,-,k6⟩|⟨v,-⟩
  ·simp only[show ¬(0:Int)=14 from by decide,if_false,eA.answer,if_true,eA.jB];obtain⟨A,B,Q,R⟩:=yv h.nq i;obtain⟨s',f⟩:=nm ({s with fi:=s.fi.set o rest}:eA);(have hw:∀k,gR s' k=A k++jx rest k++B k:=fun k=>by rw[f];exact R rest k);(have c:∀k,gR s k=A k++(if x.eI=k then x.eK::jx rest k else jx rest k)++B k:=fun k=>by rw[Q k,q,qS,z,C]);have I:=rX h.nq i rest;rw[<- f,q]at I;simp only[aL]at I;have J:∀k,gg t.eG k=if x.eI=k then gg d.eG k++[x.eK] else gg d.eG k:=fun k=>by rw[b,M7 _ _ _ F,H,l]
   have w:∀k n,n∈gR s' k->n∈gR s k:=fun k n hn=>by
    rw[hw]at hn;rw[c];split
    ·simp only[aN,aH]at hn⊢;rcases hn with (hn|hn)|hn
     ·exact .inl (.inl hn)
     ·exact .inl (.inr (.inr hn))
     exact .inr hn
    exact hn
   have key:SQ t {s with fi:=s.fi.set o rest,done:=put x.eI {iH with eO:=6,eI:=r.eI,eK:=r.eK,eF:=r.eF,fJ:=r.fJ} s.done}/\kC d s t s':=by
    refine⟨⟨fun k=>?_,fun k=>?_⟩,⟨?_,fun k D cur=>?_,by rw[b,M8 _ _ F],by rw[b];simp,w,by rw[f]⟩⟩
    ·(have e1:gR {s with fi:=s.fi.set o rest,done:=put x.eI {iH with eO:=6,eI:=r.eI,eK:=r.eK,eF:=r.eF,fJ:=r.fJ} s.done} k=gR s' k:=by rw[f];rfl);rw[e1,hw];have:=g.nodup k;rw[c]at this;split at this
     ·exact this.sublist (by
       refine List.Sublist.append ?_ (List.Sublist.refl _)
       exact List.Sublist.append (List.Sublist.refl _) (List.sublist_cons_self _ _))
     exact this
    ·rw[J,ou];split
     ·simp[l]
     exact g.last k
    ·rw[b];simp only[aE,aQ];omega
    rw[J];by_cases e:x.eI=k
    ·rw[if_pos e];have K:=g.nodup k;have a:=c k;rw[if_pos e]at a;have S:x.eK∈gR s k:=by rw[a];simp
     have T:x.eK∉gR s' k:=by
      rw[a]at K;rw[hw];have L:=List.nodup_append.1 K;have M:=List.nodup_append.1 L.1;have U:=cE.1 M.2.1;simp only[aN,not_or];refine⟨⟨fun hm=>?_,U.1⟩,fun hm=>?_⟩
      ·exact M.2.2 _ hm _ ae rfl
      exact L.2.2 x.eK ae _ hm rfl
     refine M6 (m:=x.eK) (fun y hy=>?_) S T ?_
     ·rw[hw,a];simp only[aN,aH];constructor
      ·rintro ((h|h)|h)
       ·exact .inl (.inl h)
       ·exact .inl (.inr (.inr h))
       exact .inr h
      rintro ((h|h|h)|h)
      ·exact .inl (.inl h)
      ·exact absurd h hy
      ·exact .inl (.inr h)
      exact .inr h
     rw[hw,a];simp only[yt];simp only[jE,aY,bN];omega
    rw[if_neg e,hw];have a:=c k;rw[if_neg e]at a;rw[a];exact ax _
   obtain⟨V,W⟩:=key;refine⟨V.same rfl ?_,W.trans (.same (by rw[f]) (by rw[f]))⟩;simp only[H]
  exact absurd rfl v
 generalize hp:d.add false r=p at e;obtain⟨u,t,P⟩:=p;obtain rfl:u=14:=e;rcases mS hp with⟨v,-⟩|⟨-,b,-⟩
 ·cases v
 simp only[if_true];refine⟨⟨g.nodup,fun k=>by rw[b];exact g.last k⟩,⟨by rw[b];exact ax _,fun k D cur=>by rw[b];exact ax _,by rw[b],by rw[b];exact ax _,fun _ _ h=>h,rfl⟩⟩
theorem DG (h8:s.fi.length=8) (a:o<8) (c:s.eQ o=x::rest) (b:Bool) :
 (∀k,gR {s with fi:=s.fi.set o ({x with gw:=b}::rest)} k=gR s k)/\fP {s with fi:=s.fi.set o ({x with gw:=b}::rest)}=fP s:=by
 obtain⟨A,B,d,e⟩:=yv h8 a;refine⟨fun k=>?_,?_⟩
 ·rw[e,d,c,qS,qS]
 have:=rX h8 a ({x with gw:=b}::rest);rw[c]at this;simp only[aL]at this;omega
theorem SQ.eqs (h:SQ d s) (e1:∀k,gR s' k=gR s k) (a:s'.done=s.done):SQ d s':=
 ⟨fun k=>by rw[e1];exact h.nodup k,fun k=>by rw[a];exact h.last k⟩
theorem kC.eqs (e1:∀k,gR s' k=gR s k) (b:fP s'=fP s) (e:s'.eS=s.eS):kC d s d s':=
 ⟨by rw[b];exact ax _,fun k D c=>by rw[e1];exact ax _,rfl,ax _,fun k n a=>by rw[e1]at a;exact a,e⟩
theorem Nb (h:gF G d.eG s) (hu:jR G) (f:SQ d s) (a:o<8) (b:s.eQ o=x::rest) (hd:s.eX=false) (k:d.eG.length+fP s<=199) (out:List eL) :
 SQ (s.iE d o x rest out).2.2.1 (s.iE d o x rest out).2.2.2/\kC d s (s.iE d o x rest out).2.2.1 (s.iE d o x rest out).2.2.2:=by
 obtain⟨e1,g⟩:=DG h.nq a b true
 have e:∀y∈{x with gw:=true}::rest,(y.eI,y.eK,(o:Int),y.data)∈G:=fun y hy=>by
  rcases aH.1 hy with rfl|hy
  ·exact h.eQ o a x (by rw[b];simp)
  exact h.eQ o a y (by rw[b];simp[hy])
 have l:=h.pr a e;have i:=ph (q:={x with gw:=true}::rest) (o':=o) h.nq a;rw[if_pos rfl]at i;unfold eA.iE;simp only;split
 ·exact⟨f.eqs e1 rfl,.eqs e1 g rfl⟩
 have m:SQ d {s with fi:=s.fi.set o ({x with gw:=true}::rest),eW:=jr s.eW (s.eW.ga o s.eB)}:=f.eqs e1 rfl;have j:kC d s d {s with fi:=s.fi.set o ({x with gw:=true}::rest),eW:=jr s.eW (s.eW.ga o s.eB)}:=.eqs e1 g rfl
 obtain⟨n,p⟩:=Na (x:=x) (l.mF (jr s.eW (s.eW.ga o s.eB))) hu m a (y:={x with gw:=true}) i rfl rfl rfl hd (aB j.load k) (if x.gw=true then out else out++List.map (fun c=>s.ig c o) (s.eW.ga o s.eB))
 exact⟨n,j.trans p⟩
theorem DH (hu:jR G) (c:o<8):∀(f:Nat) {d:fe} {s:eA} (_:gF G d.eG s) (_:iW G d.eG) (_:SQ d s) (_:d.eG.length+fP s<=199) {out:List eL} (_:∀m∈out,im G d.eG m),
 SQ (eA.iu f d s o out).2.1 (eA.iu f d s o out).2.2/\kC d s (eA.iu f d s o out).2.1 (eA.iu f d s o out).2.2
 |0,d,s,_,_,a,_,_,_=>⟨a,.refl _ _⟩
 |f+1,d,s,h,k,a,g,out,l=>by
  unfold eA.iu;split
  ·exact⟨a,.refl _ _⟩
  rename_i x rest i;split
  ·exact⟨a,.refl _ _⟩
  rename_i hd;(have hd:s.eX=false:=by simpa using hd);obtain⟨e,b⟩:=Nb h hu a c i hd g out;have j:=va h k c i l;simp only;generalize s.iE d o x rest out=r at e b j⊢;obtain⟨-,g2,g3,g4⟩:=j;split
  ·obtain⟨i1,i2⟩:=DH hu c f g3 g2 e (aB b.load g) g4;exact⟨i1,b.trans i2⟩
  exact⟨e,b⟩
theorem tn (hu:jR G) (a:o<8) (h:gF G d.eG s) (b:iW G d.eG) (c:SQ d s) (e:d.eG.length+fP s<=199) :
 SQ (eA.fu d s o).2.1 (eA.fu d s o).2.2/\kC d s (eA.fu d s o).2.1 (eA.fu d s o).2.2:=
 DH hu a _ h b c e fun m hm=>by cases hm
theorem DI (hu:jR G):∀(a:List Nat) {d:fe} {s:eA} (_:∀k∈a,k<8) (_:gF G d.eG s) (_:iW G d.eG) (_:SQ d s) (_:d.eG.length+fP s<=199) (out:List eL),
 SQ (eA.gY a d s out).2.1 (eA.gY a d s out).2.2/\kC d s (eA.gY a d s out).2.1 (eA.gY a d s out).2.2
 | [],d,s,_,_,_,b,_,_=>⟨b,.refl _ _⟩
 |k::a,d,s,c,h,e,b,f,out=>by
  unfold eA.gY;obtain⟨i,g⟩:=tn hu (c k ae) h e b f;obtain⟨-,g2,g3,-⟩:=qK (c k ae) h e;obtain⟨i1,i2⟩:=DI hu a (fun j hj=>c j (by simp[hj])) g3 g2 i (aB g.load f) (out++(eA.fu d s k).1);exact⟨i1,g.trans i2⟩
theorem Nc (hu:jR G) (h:gF G d.eG s) (c:iW G d.eG) (a:SQ d s) (e:d.eG.length+fP s<=199) (eB:Int) :
 SQ (eA.tick d s eB).2.1 (eA.tick d s eB).2.2/\kC d s (eA.tick d s eB).2.1 (eA.tick d s eB).2.2:=by
 unfold eA.tick;split
 ·exact⟨a,.refl _ _⟩
 have f:SQ d (s.at_ eB):=a.same rfl rfl;have b:kC d s d (s.at_ eB):=.same rfl rfl;obtain⟨g,i⟩:=DI hu (List.range 8) (fun k hk=>by simpa using hk) (h.lg eB) c f (aB b.load e) [];exact⟨g,b.trans i⟩
theorem DJ (hu:jR G) (h:gF G d.eG s) (C:iW G d.eG) (D:SQ d s) (K:d.eG.length+fP s<=198) (eB:Int) {m:eL} (hm:im G d.eG m) :
 SQ (eA.take d s eB m).2.1 (eA.take d s eB m).2.2/\(kC d s (eA.take d s eB m).2.1 (eA.take d s eB m).2.2 \/
  (m.eO=2/\m.eK∉gR s m.eI/\(gg d.eG m.eI).getLast?≠some m.eK/\∃s1:eA,kC d s1 (eA.take d s eB m).2.1 (eA.take d s eB m).2.2/\s1.eS=s.eS/\fP s1=fP s+1/\(∀k,k≠m.eI->gR s1 k=gR s k)/\(∀n,n∈gR s1 m.eI↔n=m.eK\/n∈gR s m.eI)/\∀cur,jE cur (gR s1 m.eI)=jE cur (gR s m.eI)+wt cur m.eK)):=by
 have g:=h.lg eB;have b:SQ d (s.at_ eB):=D.same rfl rfl;have l:kC d s d (s.at_ eB):=.same rfl rfl;have L:d.eG.length+fP (s.at_ eB)<=198:=aB l.load K;have a:∀k,gR (s.at_ eB) k=gR s k:=fun k=>rfl;have e1:(s.at_ eB).eS=s.eS:=rfl;have M:fP (s.at_ eB)=fP s:=rfl;have hv:=mV d s eB m;generalize eA.take d s eB m=r at hv⊢;generalize s.at_ eB=s1 at hv g b l L a e1 M
 cases hv with
 |off=>exact⟨D,.inl (.refl _ _)⟩
 |ack _ _ t =>
  have N:SQ d (pq s1 m):=b.same rfl rfl;have E:kC d s d (pq s1 m):=l.trans (.same rfl rfl);obtain⟨u,v⟩:=tn hu (jA t).2.1 (g.mF (s1.eW.drop m.eI m.eF)) C N (aB E.load ab);exact⟨u,.inl (E.trans v)⟩
 |enq _ _ t c f O =>
  obtain⟨P,i,Q⟩:=jA t
  have R:(gg d.eG m.eI).getLast?≠some m.eK:=fun e=>by
   rw[b.last]at e;obtain⟨x,w,F⟩:=bS.1 e;have:=f x w;omega
  have H:m.eK∉gR s m.eI:=fun PX=>by
   rw[<- a]at PX;unfold gR at PX;obtain⟨q,S,I⟩:=di.1 PX;unfold jx at I;obtain⟨x,w,F⟩:=aW.1 I;obtain⟨T,U⟩:=bL.1 w;refine absurd O ?_;rw[bu,bW];refine⟨q,S,?_⟩;rw[bW];refine⟨x,T,?_⟩;rw[U,F];simp
  have V:=hm.write c
  have W:∀x∈s1.eQ m.eF.toNat++[⟨m.eI,m.eK,m.data,false⟩],(x.eI,x.eK,((m.eF.toNat:Nat):Int),x.data)∈G:=fun x f=>by
   rcases aN.1 f with f|f
   ·exact g.eQ _ i x f
   rw[aD.1 f,Q];exact V
  have y:=g.pr i W;obtain⟨A,B,v1,v2⟩:=yv (o:=m.eF.toNat) g.nq i;have z:=rX (o:=m.eF.toNat) g.nq i (s1.eQ m.eF.toNat++[⟨m.eI,m.eK,m.data,false⟩]);rw[aE,aQ]at z;obtain⟨s2,p⟩:=nm (kW s1 m:eA);(have v3:∀k,gR s2 k=A k++(if m.eI=k then jx (s1.eQ m.eF.toNat) k++[m.eK] else jx (s1.eQ m.eF.toNat) k)++B k:=fun k=>by rw[p];show gR {s1 with fi:=_} k=_;rw[v2,M9]);(have X:s2.eS=s1.eS:=by rw[p];rfl);(have Y:s2.done=s1.done:=by rw[p];rfl);change gF G d.eG (kW s1 m)at y;change fP (kW s1 m)+_=_ at z;rw[<- p]at z y⊢
  have PX:∀n,n∈gR s2 m.eI↔n=m.eK\/n∈gR s m.eI:=fun n=>by
   rw[v3,if_pos rfl,<- a,v1]
   simp only[aN,aD]
   grind
  have j:∀k,k≠m.eI->gR s2 k=gR s k:=fun k c=>by rw[v3,if_neg (Ne.symm c),<- a,v1]
  have Z:SQ d s2:=by
   refine⟨fun k=>?_,fun k=>by rw[Y];exact b.last k⟩;by_cases c:k=m.eI
   ·subst c;have J:=b.nodup m.eI;rw[a]at J
    have e:(gR s2 m.eI).Perm (m.eK::gR s m.eI):=by
     rw[v3,if_pos rfl,<- a,v1,bx,bx,bx,<- bx (A _) (jx _ _),<- bx (A _) (jx _ _)];exact List.perm_middle
    exact e.nodup_iff.2 (cE.2 ⟨H,J⟩)
   rw[j k c,<- a];exact b.nodup k
  obtain⟨u,v⟩:=tn hu i y C Z ab;refine⟨u,.inr ⟨c,H,R,s2,v,X.trans e1,ab,j,PX,fun cur=>?_⟩⟩;rw[v3,if_pos rfl,<- a,v1];simp only[yt];simp only[jE,aY,bN,bD,ez];omega
 |_=>exact⟨b.same rfl rfl,.inl (l.trans (.same rfl rfl))⟩
end fS
namespace fS
open Go.RowKit fD eY fK
def fT (t:fW) (c:Int):Int:=t.kg.getD c.toNat 0
def gU (t:fW) (c:Int):Int:=t.jz.getD c.toNat 0
theorem nJ (c:Int):fX c=true↔0<=c/\c<=3:=by simp[fX,fR]
theorem Nd {K V:Type} [DecidableEq K] (p:K->Bool) (k:K) (l:List (K×V)):fw k (l.filter fun e=>p e.1)=if p k=true then fw k l else none:=by
 induction l with
 |nil=>simp[fw]
 |cons e l ih =>
  obtain⟨x,v⟩:=e;by_cases a:p x=true
  ·rw[cC (by simpa using a)];by_cases e:x=k
   ·subst e;simp[fw,a]
   simp[fw,e,ih]
  rw[cB (by simpa using a),ih];by_cases e:x=k
  ·subst e;simp[a]
  simp[fw,e]
variable {t:fW} {c:Int}
theorem nT {o eB:Int}:c∈t.ga o eB↔(0<=c/\c<=3)/\∃u,fw (c,o) t.gZ=some u/\eB<u:=by
 unfold fW.ga fW.holds;rw[bL]
 have a:c∈[0,1,2,3]↔0<=c/\c<=3:=by
  simp only[aH,bq,or_false];omega
 rw[a];refine and_congr_right fun _=>?_
 cases fw (c,o) t.gZ with
 |none=>simp
 |some u=>simp
theorem tp (t:fW) (o eB:Int):(t.ga o eB).Nodup:=by
 unfold fW.ga;exact List.Nodup.sublist dE aj
theorem Nf (t:fW) (o eB:Int):(t.ga o eB).length<=4:=cR _ _
structure TL (t:fW):Prop where
 nv:t.kg.length=4
 ns:t.jz.length=4
theorem yw (l:List Int) (h:l.length=4) (hc:0<=c/\c<=3) (d:Int) (hd:0<=d) (x:Int):(l.set c.toNat x).getD d.toNat 0=if d=c then x else l.getD d.toNat 0:=by
 rw[lN];by_cases e:d=c
 ·subst e;rw[if_pos ⟨rfl,ab⟩,if_pos rfl]
 rw[if_neg ab,if_neg e]
theorem Ng (h:TL t) (hc:0<=c/\c<=3):TL (t.flush c).2/\(∀k,fw k (t.flush c).2.gZ=if k.1=c then none else fw k t.gZ)/\(∀d,0<=d->fT (t.flush c).2 d=if d=c then 0 else fT t d)/\∀d,0<=d->gU (t.flush c).2 d=if d=c then wrap64 (gU t c+1) else gU t d:=by
 unfold fW.flush;rw[if_pos ((nJ c).2 hc)];refine⟨⟨by simpa using h.nv,by simpa using h.ns⟩,fun k=>?_,fun d hd=>yw _ h.nv hc d hd _,fun d hd=>yw _ h.ns hc d hd _⟩;show fw k (t.gZ.filter fun e=>!decide (e.1.1=c))=_;rw[Nd (fun k:Int×Int=>!decide (k.1=c))];by_cases e:k.1=c<;>simp[e]
theorem rY:∀(l:List Int) {t:fW} (_:TL t) (_:∀c∈l,0<=c/\c<=3) (_:l.Nodup),
 TL (jr t l)/\(∀k,fw k (jr t l).gZ=if k.1∈l then none else fw k t.gZ)/\(∀d,0<=d->fT (jr t l) d=if d∈l then 0 else fT t d)/\∀d,0<=d->gU (jr t l) d=if d∈l then wrap64 (gU t d+1) else gU t d
 | [],t,h,_,_=>⟨h,fun k=>by simp[jr],fun d _=>by simp[jr],fun d _=>by simp[jr]⟩
 |c::l,t,h,hc,b=>by
  obtain⟨f1,f2,f3,f4⟩:=Ng h (hc c aK);obtain⟨f,g⟩:=cE.1 b;obtain⟨g1,g2,g3,g4⟩:=rY l f1 (fun x hx=>hc x (aI _ hx)) g;have e:jr t (c::l)=jr (t.flush c).2 l:=rfl;rw[e];refine⟨g1,fun k=>?_,fun d hd=>?_,fun d hd=>?_⟩
  ·rw[g2,f2];by_cases e1:k.1=c
   ·simp[e1]
   by_cases a:k.1∈l<;>simp[e1,a]
  ·rw[g3 d hd,f3 d hd];by_cases e1:d=c
   ·simp[e1]
   by_cases a:d∈l<;>simp[e1,a]
  rw[g4 d hd,f4 d hd];by_cases e1:d=c
  ·subst e1;simp[f]
  by_cases a:d∈l<;>simp[e1,a]
theorem yx (h:TL t) (o eB:Int):∀n,eB<=n->(jr t (t.ga o eB)).ga o n=[]:=by
 intro n e;obtain⟨-,g2,-⟩:=rY (t.ga o eB) h (fun c hc=>(nT.1 hc).1) (tp t o eB);refine List.eq_nil_iff_forall_not_mem.2 fun c hc=>?_;obtain⟨b,u,a,f⟩:=nT.1 hc;rw[g2]at a;split at a
 ·cases a
 rename_i d;exact d (nT.2 ⟨b,u,a,ab⟩)
end fS
namespace fS
open Go.RowKit fD eY fK
def Pow (d:fe):Prop:=d.cut=true->1000<=d.left+d.eG.length/\d.left<=1000
variable {d:fe}
theorem Pow.add (h:Pow d) (a:d.eG.length<=200) (eX:Bool) (r:Rec):(d.add eX r).1≠14/\(eX=false->(d.add eX r).2.2=false)/\Pow (d.add eX r).2.1:=by
 unfold fe.add;split
 ·exact⟨ae,fun e=>by simp_all,h⟩
 rename_i hd;split
 ·exact⟨ae,fun e=>by simpa using hd,h⟩
 split
 ·exact⟨ae,fun e=>by simpa using hd,h⟩
 split
 ·rename_i hc;simp only[aF,decide_eq_true_eq]at hc;have:=h hc.1;omega
 refine⟨ae,fun e=>by simpa using hd,fun hc=>?_⟩;have b:=h hc;simp only[aE,aQ];rw[jC ab ab];omega
structure lP (s s':eA) (o:Nat):Prop where
 eZ:s'.eZ=s.eZ
 eS:s'.eS=s.eS
 quiet:s'.quiet=s.quiet
 eB:s'.eB=s.eB
 nq:s'.fi.length=8
 l9:∀o',o'≠o->s'.eQ o'=s.eQ o'
variable {s:eA} {o:Nat}
theorem lP.trans {s1 s2:eA} (h:lP s s1 o) (g:lP s1 s2 o):lP s s2 o:=
 ⟨g.eZ.trans h.eZ,g.eS.trans h.eS,g.quiet.trans h.quiet,g.eB.trans h.eB,g.nq,fun o' a=>(g.l9 o' a).trans (h.l9 o' a)⟩
variable {q:List Wr}
theorem nU {o':Nat} (h:o'≠o):eA.eQ {s with fi:=s.fi.set o q} o'=s.eQ o':=by
 simp only[eA.eQ,aC];rw[a8 (Ne.symm h)]
theorem mG (h8:s.fi.length=8) (a:o<8):eA.eQ {s with fi:=s.fi.set o q} o=q:=by
 rw[ph h8 a,if_pos rfl]
def isDone (s:eA) (m:eL):Prop:=m.eO=6/\m.eS=s.eS/\m.fx=s.eW.fx m.eI
theorem vI (h:o<8) (h8:s.fi.length=8) (x:Wr) (rest:List Wr) (out:List eL) :
 (∃a m b,s.store d o x rest out=(true,out++[m],a,b)/\lP s b o/\b.eW=s.eW/\b.eQ o=rest/\b.eX=(d.add s.eX ⟨x.eI,x.eK,o,wrap64 ((s.value o).fq+1),x.data,0⟩).2.2/\a=(d.add s.eX ⟨x.eI,x.eK,o,wrap64 ((s.value o).fq+1),x.data,0⟩).2.1/\isDone s m/\m.eI=x.eI/\m.eK=x.eK/\(d.add s.eX ⟨x.eI,x.eK,o,wrap64 ((s.value o).fq+1),x.data,0⟩).1≠14) \/
 ∃a,(d.add s.eX ⟨x.eI,x.eK,o,wrap64 ((s.value o).fq+1),x.data,0⟩).1=14/\s.store d o x rest out=(false,[],a,{s with eX:=true})/\a.eG=d.eG/\a.cut=d.cut:=by
 unfold eA.store;simp only;generalize hp:d.add s.eX ⟨x.eI,x.eK,o,wrap64 ((s.value o).fq+1),x.data,0⟩=p;obtain⟨e,a,c⟩:=p;by_cases f:e=14
 ·right;rw[if_pos f];subst f;refine⟨a,rfl,?_,?_⟩
  ·have:c=true:=by
    unfold fe.add at hp;split at hp
    ·simp at hp
    split at hp
    ·simp at hp
    split at hp
    ·simp at hp
    split at hp
    ·simp at hp;exact hp.2
    simp at hp
   rw[this]
  unfold fe.add at hp;split at hp
  ·simp at hp
  split at hp
  ·simp at hp
  split at hp
  ·simp at hp
  split at hp
  ·simp at hp;rw[<- hp.1];exact⟨rfl,rfl⟩
  simp at hp
 left;rw[if_neg f];unfold eA.answer;split
 ·refine⟨_,_,_,rfl,⟨rfl,rfl,rfl,rfl,by simpa[eA.jB]using h8,fun o' g=>?_⟩,rfl,?_,rfl,rfl,⟨rfl,rfl,rfl⟩,rfl,rfl,f⟩
  ·exact nU (s:=(eA.jB {s with eX:=c} ⟨x.eI,x.eK,o,wrap64 ((s.value o).fq+1),x.data,0⟩).1) g
  exact mG (s:=(eA.jB {s with eX:=c} ⟨x.eI,x.eK,o,wrap64 ((s.value o).fq+1),x.data,0⟩).1) h8 h
 refine⟨_,_,_,rfl,⟨rfl,rfl,rfl,rfl,by simpa using h8,fun o' g=>?_⟩,rfl,?_,rfl,rfl,⟨rfl,rfl,rfl⟩,rfl,rfl,f⟩
 ·exact nU (s:={s with eX:=c,done:=_}) g
 exact mG (s:={s with eX:=c,done:=_}) h8 h
def DL (s:eA) (q:List Wr) (D:List eL):Prop:=D.length=q.length/\(∀m∈D,isDone s m)/\∀x∈q,∃m∈D,m.eI=x.eI/\m.eK=x.eK
theorem drain (i:o<8):∀(f:Nat) (d:fe) (s:eA) (out:List eL) (_:s.fi.length=8) (_:(s.eQ o).length<f) (_:s.eW.ga o s.eB=[]) (_:¬s.eB<s.quiet) (_:s.eX=false),
 ∃j g b,eA.iu f d s o out=(j,g,b)/\lP s b o/\b.eW=s.eW /\
  ((b.eX=true/\j=[]/\(b.eQ o).length<=(s.eQ o).length/\∀x rest,b.eQ o=x::rest->x.gw=true)\/(b.eX=false/\b.eQ o=[]/\∃D,j=out++D/\DL s (s.eQ o) D))
 |0,_,_,_,_,h,_,_,_=>ab
 |f+1,d,s,out,h8,l,n,q,hd=>by
  unfold eA.iu
  cases hx:s.eQ o with
  |nil=>exact⟨_,_,_,rfl,⟨rfl,rfl,rfl,rfl,h8,fun _ _=>rfl⟩,rfl,.inr ⟨hd,hx,[],ae,rfl,ae,ae⟩⟩
  |cons x rest =>
   simp only[hd,bh,if_false];unfold eA.iE;simp only[n,List.any_nil,Bool.or_false,decide_eq_true_eq,if_neg q,bD,bG,ite_self];have e0:jr s.eW []=s.eW:=rfl;rw[e0];obtain⟨s1,c⟩:=nm ({s with fi:=s.fi.set o ({x with gw:=true}::rest),eW:=s.eW}:eA)
   have k1:lP s s1 o:=by
    rw[c];exact⟨rfl,rfl,rfl,rfl,by simpa using h8,fun o' u=>nU u⟩
   (have t:s1.eQ o={x with gw:=true}::rest:=by rw[c];exact mG h8 i);(have t1:s1.eW=s.eW:=by rw[c]);(have d1:s1.eX=false:=by rw[c];exact hd);rw[<- c];rcases vI i k1.nq (d:=d) x rest out with⟨g,m,b,g1,g2,g3,g4,g5,g6,g7,g8,g9,g10⟩|⟨g,g0,g1,g2,g3⟩
   ·rw[g1];simp only[if_true];rw[d1]at g5
    have v:b.eX=false:=by
     exact abm
    have w:s.eQ o=x::rest:=hx;obtain⟨XB,d2,s2,i1,i2,i3,i5⟩:=drain i f g b (out++[m]) g2.nq (by rw[g4];rw[w]at l;simp at l;omega) (by rw[g3,t1,g2.eB,k1.eB];exact n) (by rw[g2.eB,g2.quiet,k1.eB,k1.quiet];exact q) v;exact aaA
   rw[g1];simp only[bh,if_false];refine⟨_,_,_,rfl,⟨k1.eZ,k1.eS,k1.quiet,k1.eB,k1.nq,k1.l9⟩,t1,.inl ⟨rfl,rfl,by show (s1.eQ o).length<=_;rw[t];simp,fun y r hy=>?_⟩⟩;have:s1.eQ o=y::r:=hy;rw[t]at this;injection this with e _;rw[<- e]
end fS
namespace fS
open Go.RowKit fD eY fK
def blocked (s:eA) (o:Nat):Bool:=decide (s.eB<s.quiet)||(s.eW.ga o s.eB).any fun c=>s.eW.jT c s.eB
def lC (s:eA) (o:Nat) (x:Wr):List eL:=if x.gw then [] else (s.eW.ga o s.eB).map fun c=>s.ig c o
variable {d:fe} {s s':eA} {o:Nat}
theorem pE (h:s.eQ o=[]\/s.eX=true):eA.fu d s o=([],d,s):=by
 unfold eA.fu eA.iu
 cases hx:s.eQ o with
 |nil=>rfl
 |cons x rest =>
  rcases h with h|h
  ·rw[hx]at h;cases h
  simp[h]
variable {x:Wr} {rest:List Wr}
theorem rZ (a:s.eQ o=x::rest) (hd:s.eX=false) (hb:blocked s o=true) :
 eA.fu d s o=(lC s o x,d,{s with fi:=s.fi.set o ({x with gw:=true}::rest)}):=by
 unfold eA.fu eA.iu;rw[a];simp only[hd,bh,if_false];unfold eA.iE;unfold blocked at hb;simp only[hb,if_true,bh,if_false];unfold lC;split<;>simp[hd]
theorem r9 (g:o<8) (h8:s.fi.length=8) (ht:TL s.eW) (q:s.eQ o=x::rest) (hd:s.eX=false) (hb:blocked s o=false) :
 ∃i f s',eA.fu d s o=(i,f,s')/\lP s s' o/\s'.eW=jr s.eW (s.eW.ga o s.eB) /\
  ((s'.eX=true/\i=[]/\(s'.eQ o).length<=(s.eQ o).length/\(∀x rest,s'.eQ o=x::rest->x.gw=true)) \/
    (s'.eX=false/\s'.eQ o=[]/\∃D,i=lC s o x++D/\DL {s with eW:=jr s.eW (s.eW.ga o s.eB)} (x::rest) D)):=by
 have t:=hb;unfold blocked at hb;rw[bY]at hb;(have u:¬s.eB<s.quiet:=by simpa using hb.1);obtain⟨s1,b⟩:=nm ({s with fi:=s.fi.set o ({x with gw:=true}::rest),eW:=jr s.eW (s.eW.ga o s.eB)}:eA)
 have k1:lP s s1 o:=by
  rw[b];exact⟨rfl,rfl,rfl,rfl,by simpa using h8,fun o' v=>nU v⟩
 (have n:s1.eQ o={x with gw:=true}::rest:=by rw[b];exact mG h8 g);(have t1:s1.eW=jr s.eW (s.eW.ga o s.eB):=by rw[b]);(have d1:s1.eX=false:=by rw[b];exact hd);(have w:s1.eW.ga o s1.eB=[]:=by rw[t1,k1.eB];exact yx ht _ _ _ (aZ _));unfold eA.fu eA.iu;rw[q];simp only[hd,bh,if_false];unfold eA.iE;have j:(decide (s.eB<s.quiet)||(s.eW.ga o s.eB).any fun c=>s.eW.jT c s.eB)=false:=t;simp only[j,bh,if_false]
 have l:(if x.gw=true then ([]:List eL) else []++(s.eW.ga o s.eB).map fun c=>s.ig c o)=lC s o x:=by
  unfold lC;split<;>simp
 rw[l,<- b];rcases vI g k1.nq (d:=d) x rest (lC s o x)with⟨f,m,s',g1,g2,g3,g4,g5,g6,g7,g8,g9,g10⟩|⟨f,g0,g1,g2,g3⟩
 ·rw[g1];simp only[if_true];rw[d1]at g5
  have z:s'.eX=false:=by
   exact abm
  obtain⟨XB,d2,s2,i1,i2,i3,i5⟩:=drain g (x::rest).length f s' (lC s o x++[m]) g2.nq (by rw[g4];simp) (by rw[g3,g2.eB];exact w) (by rw[g2.eB,g2.quiet,k1.eB,k1.quiet];exact u) z;exact aaA
 rw[g1];simp only[bh,if_false];refine⟨_,_,_,rfl,⟨k1.eZ,k1.eS,k1.quiet,k1.eB,k1.nq,k1.l9⟩,t1,.inl ⟨rfl,rfl,by show (s1.eQ o).length<=_;rw[n];simp,fun y r hy=>?_⟩⟩;have:s1.eQ o=y::r:=hy;rw[n]at this;injection this with e _;rw[<- e]
theorem Nh (b:d.eG.length<=200) (eX:Bool) (r:Rec):(d.add eX r).2.1.eG.length<=200:=by
 generalize hp:d.add eX r=p;obtain⟨e,c,f⟩:=p;rcases mS hp with⟨-,a,g,-⟩|⟨-,a,-⟩
 ·simp only[a,aE,aQ];omega
 simp only[a];exact b
theorem yz (e:o<8):∀(f:Nat) {d:fe} {s:eA} (_:s.fi.length=8) (_:Pow d) (_:d.eG.length<=200) (_:s.eX=false) (out:List eL),
 (eA.iu f d s o out).2.2.eX=false/\Pow (eA.iu f d s o out).2.1/\(eA.iu f d s o out).2.1.eG.length<=200/\(eA.iu f d s o out).2.2.fi.length=8
 |0,d,s,h8,hp,a,hd,_=>⟨hd,hp,a,h8⟩
 |f+1,d,s,h8,hp,a,hd,out=>by
  unfold eA.iu
  cases hx:s.eQ o with
  |nil=>exact⟨hd,hp,a,h8⟩
  |cons x rest =>
   simp only[hd,bh,if_false];unfold eA.iE;simp only;split
   ·exact⟨hd,hp,a,by simpa using h8⟩
   obtain⟨s1,b⟩:=nm ({s with fi:=s.fi.set o ({x with gw:=true}::rest),eW:=jr s.eW (s.eW.ga o s.eB)}:eA);(have g:s1.fi.length=8:=by rw[b];simpa using h8);(have d1:s1.eX=false:=by rw[b];exact hd);rw[<- b];obtain⟨h,a2,a3⟩:=hp.add a s1.eX ⟨x.eI,x.eK,o,wrap64 ((s1.value o).fq+1),x.data,0⟩
   rcases vI e g (d:=d) x rest (if x.gw=true then out else out++List.map (fun c=>s.ig c o) (s.eW.ga o s.eB))with⟨i,m,s',g1,g2,g3,g4,g5,g6,-⟩|⟨i,g0,-⟩
   ·rw[g1];simp only[if_true];exact yz e f g2.nq (by rw[g6];exact a3) (by rw[g6];exact Nh a _ _) (by rw[g5];exact a2 d1) _
   exact absurd g0 h
theorem tr (a:o<8) (h8:s.fi.length=8) (hp:Pow d) (b:d.eG.length<=200) (hd:s.eX=false) :
 (eA.fu d s o).2.2.eX=false/\Pow (eA.fu d s o).2.1/\(eA.fu d s o).2.1.eG.length<=200:=by
 obtain⟨c,e,f,-⟩:=yz a ((s.eQ o).length+1) h8 hp b hd [];exact⟨c,e,f⟩
theorem Ni (h:lP s s' o) (h8:s.fi.length=8):s'.fi=s.fi.set o (s'.eQ o):=by
 refine List.ext_getElem (by simp[h.nq,h8]) fun i b c=>?_;(have hi:i<8:=by rw[h.nq]at b;exact b);(have e:∀(t:eA) (ht:i<t.fi.length),t.fi[i]=t.eQ i:=fun t ht=>by simp[eA.eQ,List.getD_eq_getElem?_getD,ht]);by_cases a:o=i
 ·subst a;rw[List.getElem_set_self,e]
 rw[List.getElem_set_ne a,e,e];exact h.l9 i (fun e=>a e.symm)
theorem vJ (h:lP s s' o) (a:o<8) (h8:s.fi.length=8):fP s'+(s.eQ o).length=fP s+(s'.eQ o).length:=by
 have b:=rX h8 a (s'.eQ o);(have e:fP s'=fP {s with fi:=s.fi.set o (s'.eQ o)}:=by unfold fP;rw[Ni h h8]);omega
def HB (s:eA):Prop:=∀o,o<8->∀x rest,s.eQ o=x::rest->x.gw=true
def mw (m:eL):Nat:=if m.eO=3 then 17 else if m.eO=2 then 10 else if m.eO=1 then 3 else if m.eO=9 then 2 else 1
def iQ (l:List eL):Nat:=(l.map mw).sum
theorem DM (a b:List eL):iQ (a++b)=iQ a+iQ b:=by simp[iQ]
theorem yA {l:List eL} {n:Nat} (h:∀m∈l,mw m<=n):iQ l<=n*l.length:=by
 induction l with
 |nil=>simp[iQ]
 |cons a l ih =>
  have c:=h a aK;have b:=ih fun m hm=>h m (aI _ hm);simp only[iQ,aY,bN,aL]at b⊢;rw[Nat.mul_add];omega
theorem Nj {m:eL} (h:isDone s m):mw m=1:=by unfold mw;rw[h.1];decide
theorem DN (s:eA) (c:Int) (o:Nat):mw (s.ig c o)=2:=by simp[mw,eA.ig,eA.fG]
theorem DO (s:eA) (o:Nat) (x:Wr):(lC s o x).length<=4/\(x.gw=true->lC s o x=[]):=by
 unfold lC;refine⟨?_,fun h=>by rw[if_pos h]⟩;split
 ·simp
 simp only[aX];exact Nf _ _ _
theorem Nk (s:eA) (o:Nat) (x:Wr):iQ (lC s o x)<=8/\(x.gw=true->lC s o x=[]):=by
 obtain⟨b,a⟩:=DO s o x;refine⟨?_,a⟩
 have d:iQ (lC s o x)<=2*(lC s o x).length:=yA fun m hm=>by
  unfold lC at hm;split at hm
  ·cases hm
  obtain⟨c,-,rfl⟩:=aW.1 hm;rw[DN];exact ax _
 omega
theorem DP (j:o<8) (h8:s.fi.length=8) (ht:TL s.eW) :
 (∃n,n<=4/\(∀x rest,s.eQ o=x::rest->x.gw=true->n=0)/\iQ (eA.fu d s o).1+fP (eA.fu d s o).2.2<=fP s+2*n/\(eA.fu d s o).1.length+fP (eA.fu d s o).2.2<=fP s+n) /\
 lP s (eA.fu d s o).2.2 o/\TL (eA.fu d s o).2.2.eW/\(∀x rest,(eA.fu d s o).2.2.eQ o=x::rest->s.eX=false->x.gw=true)/\((eA.fu d s o).2.2.eQ o).length<=(s.eQ o).length:=by
 have u:lP s s o:=⟨rfl,rfl,rfl,rfl,h8,fun _ _=>rfl⟩;by_cases a:s.eQ o=[]\/s.eX=true
 ·rw[pE a];refine⟨⟨0,ab,fun _ _ _ _=>rfl,by simp[iQ],ae⟩,u,ht,fun x rest hx hd=>?_,ax _⟩;have q:s.eQ o=x::rest:=hx;rcases a with a|a
  ·rw[a]at q;cases q
  rw[a]at hd;cases hd
 rw[not_or]at a;have hd:s.eX=false:=by simpa using a.2
 cases hx:s.eQ o with
 |nil=>exact absurd hx a.1
 |cons x rest =>
  obtain⟨i1,i2⟩:=DO s o x;obtain⟨B,-⟩:=Nk s o x
  have v:∃n,n<=4/\(x.gw=true->n=0)/\iQ (lC s o x)<=2*n/\(lC s o x).length<=n:=by
   by_cases hb:x.gw=true
   ·exact⟨0,ab,fun _=>rfl,by rw[i2 hb];simp[iQ],by rw[i2 hb];simp⟩
   exact⟨4,ab,fun h=>absurd h hb,ab,ab⟩
  obtain⟨n,n1,w,n3,n4⟩:=v
  have b:∀y r,x::rest=y::r->y.gw=true->n=0:=fun y r e hy=>by
   injection e with e1 _;exact w (by rw[e1];exact hy)
  cases hb:blocked s o with
  |true =>
   rw[rZ hx hd hb];have t:lP s {s with fi:=s.fi.set o ({x with gw:=true}::rest)} o:=⟨rfl,rfl,rfl,rfl,by simpa using h8,fun o' Rv=>nU Rv⟩;have l:eA.eQ {s with fi:=s.fi.set o ({x with gw:=true}::rest)} o={x with gw:=true}::rest:=mG h8 j;have g:=vJ t j h8;rw[l,hx]at g;simp only[aL]at g;refine⟨⟨n,n1,b,by simp only;omega,by simp only;omega⟩,t,ht,fun y r hy _=>?_,by rw[l];simp⟩;simp only[l]at hy;injection hy with e _;rw[<- e]
  |false =>
   obtain⟨C,E,s',g1,g2,g3,g4⟩:=r9 (d:=d) j h8 ht hx hd hb;have g:=vJ g2 j h8;(have i:TL s'.eW:=by rw[g3];exact (rY _ ht (fun c hc=>(nT.1 hc).1) (tp _ _ _)).1);rw[g1];rcases g4 with⟨z,f,k,p⟩|⟨z,f,D,k,p,A,-⟩
   ·refine⟨⟨n,n1,b,by simp only[f];simp[iQ];omega,by simp only[f];simp;omega⟩,g2,i,fun y r hy _=>p y r hy,by simpa[hx]using k⟩
   (have F:iQ D<=1*D.length:=yA fun m hm=>by rw[Nj (A m hm)];exact ax _);rw[f,hx]at g;simp only[bJ,aL,dU]at g;simp only[aL]at p;refine⟨⟨n,n1,b,?_,?_⟩,g2,i,fun y r hy _=>?_,by simp[f]⟩
   ·simp only[k,DM];omega
   ·simp only[k,aE];omega
   simp only[f]at hy;cases hy
end fS
namespace fS
open Go.RowKit fD eY fK
structure SB (s:eA):Prop where
 h8:s.fi.length=8
 tl:TL s.eW
 hb:HB s
 oD:∀o,o<8->(s.eQ o).length<=10
def cw (m:eL):Nat:=if m.eO=3 then 8 else if m.eO=2 then 5 else if m.eO=1 then 2 else 1
variable {d:fe} {s:eA}
theorem SB.iB (h:SB s) {o:Nat} (a:o<8) :
 SB (eA.fu d s o).2.2/\iQ (eA.fu d s o).1+fP (eA.fu d s o).2.2<=fP s/\(eA.fu d s o).1.length+fP (eA.fu d s o).2.2<=fP s:=by
 obtain⟨⟨n,n1,c,n3,n4⟩,k,t,hd,f⟩:=DP (d:=d) a h.h8 h.tl
 have g:iQ (eA.fu d s o).1+fP (eA.fu d s o).2.2<=fP s/\(eA.fu d s o).1.length+fP (eA.fu d s o).2.2<=fP s:=by
  cases hx:s.eQ o with
  |nil=>rw[pE (.inl hx)];simp[iQ]
  |cons x rest =>
   have:=c x rest hx (h.hb o a x rest hx);omega
 refine⟨⟨k.nq,t,fun o' b x rest hx=>?_,fun o' b=>?_⟩,g⟩
 ·by_cases e:o'=o
  ·subst e
   cases QN:s.eX with
   |true =>
    rw[pE (.inr QN)]at hx;exact h.hb o' a x rest hx
   |false=>exact hd x rest hx QN
  rw[k.l9 o' e]at hx;exact h.hb o' b x rest hx
 by_cases e:o'=o
 ·subst e;exact aB f (h.oD o' a)
 rw[k.l9 o' e];exact h.oD o' b
theorem SB.lg (h:SB s) (n:Int):SB (s.at_ n):=⟨h.h8,h.tl,h.hb,h.oD⟩
variable {t:fW}
theorem SB.mF (h:SB s) (ht:TL t):SB {s with eW:=t}:=⟨h.h8,ht,h.hb,h.oD⟩
theorem DQ:∀(a:List Nat) {d:fe} {s:eA} (_:∀k∈a,k<8) (_:SB s) (out:List eL),
 SB (eA.gY a d s out).2.2/\iQ (eA.gY a d s out).1+fP (eA.gY a d s out).2.2<=fP s+iQ out/\(eA.gY a d s out).1.length+fP (eA.gY a d s out).2.2<=fP s+out.length
 | [],d,s,_,h,out=>⟨h,by unfold eA.gY;simp only;omega,by unfold eA.gY;simp only;omega⟩
 |k::a,d,s,b,h,out=>by
  unfold eA.gY;simp only;obtain⟨c,a2,a3⟩:=h.iB (d:=d) (b k aK);obtain⟨e,f,g⟩:=DQ a (d:=(eA.fu d s k).2.1) (fun j hj=>b j (aI _ hj)) c (out++(eA.fu d s k).1);rw[DM]at f;rw[aE]at g;exact⟨e,ab,ab⟩
theorem DR (h:SB s) (eB:Int) :
 SB (eA.tick d s eB).2.2/\iQ (eA.tick d s eB).1+fP (eA.tick d s eB).2.2<=fP s/\(eA.tick d s eB).1.length+fP (eA.tick d s eB).2.2<=fP s:=by
 unfold eA.tick;split
 ·exact⟨h,by simp[iQ],ae⟩
 obtain⟨a,a2,a3⟩:=DQ (List.range 8) (d:=d) (s:=s.at_ eB) (fun k hk=>by simpa using hk) (h.lg eB) [];have e:fP (s.at_ eB)=fP s:=rfl;rw[e]at a2 a3;exact⟨a,by simpa[iQ]using a2,by simpa using a3⟩
theorem Nl (h:TL t) (c o u:Int):TL (t.eF c o u).2:=by
 unfold fW.eF;split
 ·exact⟨h.nv,h.ns⟩
 exact h
theorem Nn (h:TL t) (c u:Int):TL (t.fa c u).2:=by
 unfold fW.fa;split
 ·exact⟨by simpa using h.nv,h.ns⟩
 exact h
theorem No (h:SB s) (l:s.eX=false) {m:eL} (f:m.eF.toNat<8) (i:(s.eQ m.eF.toNat).length<10) :
 SB (eA.fu d (kW s m) m.eF.toNat).2.2/\iQ (eA.fu d (kW s m) m.eF.toNat).1+fP (eA.fu d (kW s m) m.eF.toNat).2.2<=fP s+9/\(eA.fu d (kW s m) m.eF.toNat).1.length+fP (eA.fu d (kW s m) m.eF.toNat).2.2<=fP s+5:=by
 obtain⟨s1,a⟩:=nm (kW s m:eA);(have c:lP s s1 m.eF.toNat:=by rw[a];exact⟨rfl,rfl,rfl,rfl,by simpa[kW]using h.h8,fun o' b=>nU b⟩);(have j:s1.eQ m.eF.toNat=s.eQ m.eF.toNat++[⟨m.eI,m.eK,m.data,false⟩]:=by rw[a];exact mG h.h8 f);(have t1:s1.eW=s.eW:=by rw[a];rfl);have o:=vJ c f h.h8;rw[j,aE,aQ]at o;rw[<- a];obtain⟨⟨n,n1,q,n3,n4⟩,k,t,hd,p⟩:=DP (d:=d) f c.nq (by rw[t1];exact h.tl);refine⟨⟨k.nq,t,fun o' b x rest g=>?_,fun o' b=>?_⟩,ab,ab⟩
 ·by_cases e:o'=m.eF.toNat
  ·subst e;exact hd x rest g (by rw[a];exact l)
  rw[k.l9 o' e,c.l9 o' e]at g;exact h.hb o' b x rest g
 by_cases e:o'=m.eF.toNat
 ·subst e;rw[j,aE,aQ]at p;omega
 rw[k.l9 o' e,c.l9 o' e];exact h.oD o' b
theorem DT (m:eL):1<=mw m:=by
 unfold mw
 repeat' split
 all_goals omega
theorem qT (m:eL):1<=cw m:=by
 unfold cw
 repeat' split
 all_goals omega
theorem DU {d:fe} {s:eA} (h:SB s) (l:∀k x,fw k s.done=some x->x.eO=6) (eB:Int) (m:eL) :
 SB (eA.take d s eB m).2.2/\iQ (eA.take d s eB m).1+fP (eA.take d s eB m).2.2+1<=fP s+mw m/\(eA.take d s eB m).1.length+fP (eA.take d s eB m).2.2<=fP s+cw m:=by
 have q:=DT m;have c1:=qT m;have a:=h.lg eB;have b:∀k x,fw k (s.at_ eB).done=some x->x.eO=6:=l;have e1:fP (s.at_ eB)=fP s:=rfl;have d1:(s.at_ eB).eX=s.eX:=rfl;have hv:=mV d s eB m;generalize eA.take d s eB m=r at hv⊢;generalize s.at_ eB=z at hv a b e1 d1;(have c:m.eO=1->mw m=3/\cw m=2:=fun hk=>by unfold mw cw;rw[hk];decide);(have i:m.eO=2->mw m=10/\cw m=5:=fun hk=>by unfold mw cw;rw[hk];decide);have f:m.eO=3->mw m=17/\cw m=8:=fun hk=>by unfold mw cw;rw[hk];decide
 have one:∀ {t:eA} {x:eL},SB t->fP t=fP s->(x.eO=5\/x.eO=6\/x.eO=7\/x.eO=8)->3<=mw m->SB t/\iQ [x]+fP t+1<=fP s+mw m/\[x].length+fP t<=fP s+cw m:=fun ht e hx hm=>by
  have:mw _=1:=(show mw _=1 by unfold mw;rcases hx with hx|hx|hx|hx<;>(rw[hx];decide));exact⟨ht,by simp only[iQ,aY,bD,bN,ez,this];omega,by simp only[aL,bJ];omega⟩
 cases hv with
 |off=>exact⟨h,by simp[iQ];omega,ae⟩
 |idle=>exact⟨a,by simp[iQ];omega,ah⟩
 |done x _ _ _ hk hx=>exact one a e1 (.inr (.inl (by show x.eO=6;exact b _ _ hx))) (by have:=i hk;omega)
 |read _ _ _ hk=>exact one a e1 (.inl rfl) (by have:=c hk;omega)
 |gE _ _ _ hk=>exact one (a.mF (Nl a.tl _ _ _)) e1 (.inl rfl) (by have:=c hk;omega)
 |flush1 _ _ _ hk =>
  have:=c hk;exact⟨a,by show 1+(1+0)+fP z+1<=_;omega,by show 2+fP z<=_;omega⟩
 |flush3 _ _ _ hk=>exact one a e1 (.inr (.inr (.inr rfl))) (by have:=f hk;omega)
 |fT _ _ _ hk=>exact one (a.mF (Nn a.tl _ _)) e1 (.inr (.inr (.inl rfl))) (by have:=f hk;omega)
 |wait _ _ _ hk =>
  have:=f hk
  have j:((z.pending m.eI).map fun k=>z.ig m.eI k).length<=8:=by
   rw[aX];exact aB (cR _ _) ae
  have hw:iQ ((z.pending m.eI).map fun k=>z.ig m.eI k)<=2*((z.pending m.eI).map fun k=>z.ig m.eI k).length:=yA fun x hx=>by
   obtain⟨k,-,rfl⟩:=aW.1 hx;rw[DN];exact ax _
  exact⟨a,by simp only;omega,by simp only;omega⟩
 |enq hd _ g hk _ _ j =>
  have:=i hk;obtain⟨n,u,v⟩:=No (d:=d) a (d1.trans hd) (jA g).2.1 j;exact⟨n,ab,ab⟩
 |ack _ _ g =>
  obtain⟨o,a2,a3⟩:=SB.iB (d:=d) (s:=pq z m) (a.mF ⟨a.tl.nv,a.tl.ns⟩) (jA g).2.1;have p:fP (pq z m)=fP z:=rfl;rw[p]at a2 a3;exact⟨o,ab,ab⟩
end fS
namespace fS
open Go.RowKit fD eY fK
def iU (f:eL->Nat) (l:List fY):Nat:=(l.map fun g=>f g.eU).sum
theorem oV (f:eL->Nat) (a b:List fY):iU f (a++b)=iU f a+iU f b:=by simp[iU]
theorem tw (f:eL->Nat) (g:fY) (l:List fY):iU f (g::l)=f g.eU+iU f l:=by simp[iU]
variable {f:eL->Nat}
theorem vK (a:∀m,1<=f m) (l:List fY):l.length<=iU f l:=by
 induction l with
 |nil=>simp[iU]
 |cons g l ih=>rw[tw];have:=a g.eU;simp;omega
def iq (w:eC):Nat:=match w.ff with|some s=>fP s|none=>0
def Wn (w:eC):Nat:=iU mw w.eH.l+iq w
def Cn (w:eC):Nat:=iU cw w.eH.l+iq w
structure NB (w:eC):Prop where
 n200:w.eH.l.length<=200
 sb:∀s,w.ff=some s->SB s
theorem nD (n:Net) (g:fY):(n.send g).l=if 200<=n.l.length then n.l else n.l++[g]:=by
 unfold Net.send;split<;>rfl
theorem qU (f:eL->Nat):∀(l:List eL) (n:Net) (t:Bool),iU f (gV n t l).l<=iU f n.l+(l.map f).sum/\(n.l.length<=200->(gV n t l).l.length<=200)
 | [],n,t=>⟨by simp[gV],fun h=>h⟩
 |m::l,n,t=>by
  unfold gV;split
  ·obtain⟨b,a⟩:=qU f l (n.send ⟨if t then m.eI else -1,m⟩) t
   have e:iU f (n.send ⟨if t then m.eI else -1,m⟩).l<=iU f n.l+f m:=by
    rw[nD];split
    ·omega
    rw[oV];simp[iU]
   refine⟨by simp only[aY,bN];omega,fun h=>a ?_⟩;rw[nD];split
   ·exact h
   simp;omega
  obtain⟨b,a⟩:=qU f l n t;exact⟨by simp only[aY,bN];omega,a⟩
theorem Np (m:eL):mw m<=17:=by
 unfold mw
 repeat' split
 all_goals omega
variable {l:List eL}
theorem Nq (h:∀m∈l,f m=1):(l.map f).sum=l.length:=by
 induction l with
 |nil=>rfl
 |cons m l ih=>simp only[aY,bN,aL,h m aK,ih fun x a=>h x (aI _ a)];omega
def Told (l:List eL):Prop:=∀m∈l,5<=m.eO/\m.eO<=9
theorem DV (h:Told l):(l.map cw).sum=l.length:=Nq fun m hm=>by
 have:=h m hm
 unfold cw
 repeat' split
 all_goals omega
theorem DW {o:Nat}:∀(f:Nat) (d:fe) (s:eA) (out:List eL),Told out->Told (eA.iu f d s o out).1
 |0,_,_,_,h=>h
 |f+1,d,s,out,h=>by
  unfold eA.iu
  cases hx:s.eQ o with
  |nil=>exact h
  |cons x rest =>
   simp only;split
   ·exact h
   have a:Told (if x.gw then out else out++(s.eW.ga o s.eB).map fun c=>s.ig c o):=by
    split
    ·exact h
    intro m hm;rcases aN.1 hm with hm|hm
    ·exact h m hm
    obtain⟨c,-,rfl⟩:=aW.1 hm;simp[eA.ig,eA.fG]
   unfold eA.iE;simp only;split
   ·exact a
   unfold eA.store;simp only;split
   ·simp only[bh,if_false];intro m hm;cases hm
   simp only[if_true];refine DW f _ _ _ fun m hm=>?_;rcases aN.1 hm with hm|hm
   ·exact a m hm
   rw[aD.1 hm];unfold eA.answer;split<;>simp[eA.jB,eA.fG]
theorem DX (d:fe) (s:eA) (o:Nat):Told (eA.fu d s o).1:=DW _ _ _ _ fun m hm=>by cases hm
variable {d:fe} {s:eA}
theorem tz (b:∀k x,fw k s.done=some x->x.eO=6) (eB:Int) (m:eL):Told (eA.take d s eB m).1:=by
 (have one:∀r:eL,5<=r.eO/\r.eO<=9->Told [r]:=fun r hr x hx=>by rw[aD.1 hx];exact hr);have a:∀k x,fw k (s.at_ eB).done=some x->x.eO=6:=b;have hv:=mV d s eB m;generalize eA.take d s eB m=r at hv⊢;generalize s.at_ eB=z at hv a
 cases hv with
 |off|idle=>intro x hx;cases hx
 |done x _ _ _ _ hx=>exact one _ (by have:=a _ _ hx;show 5<=x.eO/\x.eO<=9;omega)
 |read|gE=>exact one _ (by show 5<=(5:Int)/\(5:Int)<=9;decide)
 |flush1 =>
  intro x hx;rcases aH.1 hx with rfl|hx
  ·show 5<=(5:Int)/\(5:Int)<=9;decide
  rw[aD.1 hx];show 5<=(8:Int)/\(8:Int)<=9;decide
 |flush3=>exact one _ (by show 5<=(8:Int)/\(8:Int)<=9;decide)
 |wait=>intro x hx;obtain⟨k,-,rfl⟩:=aW.1 hx;show 5<=(9:Int)/\(9:Int)<=9;decide
 |fT=>exact one _ (by show 5<=(7:Int)/\(7:Int)<=9;decide)
 |enq|ack=>exact DX _ _ _
theorem DY:∀(a:List Nat) (d:fe) (s:eA) (out:List eL),Told out->Told (eA.gY a d s out).1
 | [],_,_,_,h=>h
 |k::a,d,s,out,h=>by
  unfold eA.gY;simp only;refine DY a _ _ _ fun m hm=>?_;rcases aN.1 hm with hm|hm
  ·exact h m hm
  exact DX _ _ _ m hm
theorem tA (d:fe) (s:eA) (eB:Int):Told (eA.tick d s eB).1:=by
 unfold eA.tick;split
 ·intro m hm;cases hm
 exact DY _ _ _ _ fun m hm=>by cases hm
theorem qd (c:eM) (m:eL):(c.take m).1=[]\/(m.eO=9/\∃a:eL,(c.take m).1=[a]/\a.eO=4):=by
 unfold eM.take;split
 ·exact .inl rfl
 simp only
 repeat' split
 all_goals first|exact .inl rfl|skip
 rename_i b _;exact .inr ⟨b,_,rfl,rfl⟩
theorem qf (w:eC) (k:Nat):(w.gG k).eH=w.eH/\(w.gG k).ff=w.ff/\(w.gG k).eP=w.eP/\(w.gG k).eD=w.eD:=by
 unfold eC.gG;split
 ·split
  ·split<;>exact⟨rfl,rfl,rfl,rfl⟩
  exact⟨rfl,rfl,rfl,rfl⟩
 exact⟨rfl,rfl,rfl,rfl⟩
theorem DZ (w:eC) (k:Nat):Wn (w.gG k)=Wn w/\Cn (w.gG k)=Cn w/\(NB w->NB (w.gG k)):=by
 obtain⟨a,b,-,-⟩:=qf w k;exact⟨by unfold Wn iq;rw[a,b],by unfold Cn iq;rw[a,b],fun h=>⟨by rw[a];exact h.n200,by rw[b];exact h.sb⟩⟩
variable {w:eC}
theorem Nr:Wn w.iy<=Wn w/\Cn w.iy<=Cn w/\(NB w->NB w.iy):=by
 unfold eC.iy
 cases hs:w.ff with
 |none=>exact⟨ax _,ax _,fun h=>h⟩
 |some s =>
  simp only;split
  ·exact⟨by unfold Wn iq;simp,by unfold Cn iq;simp,fun h=>⟨h.n200,fun s' PD=>by cases PD⟩⟩
  exact⟨ax _,ax _,fun h=>h⟩
theorem D2 (h:NB w) {out:List eL} (hs:SB s) :
 NB ({w with eP:=d,ff:=some s}.gf true out).iy/\Wn ({w with eP:=d,ff:=some s}.gf true out).iy<=iU mw w.eH.l+iQ out+fP s/\Cn ({w with eP:=d,ff:=some s}.gf true out).iy<=iU cw w.eH.l+(out.map cw).sum+fP s:=by
 obtain⟨b,a2⟩:=qU mw out w.eH true;obtain⟨c,-⟩:=qU cw out w.eH true;obtain⟨c1,c2,c3⟩:=@Nr ({w with eP:=d,ff:=some s}.gf true out);refine⟨c3 ⟨a2 h.n200,fun e a=>by obtain rfl:=aA a;exact hs⟩,aB c1 ?_,aB c2 ?_⟩
 ·show iU mw (gV w.eH true out).l+fP s<=_;unfold iQ;omega
 show iU cw (gV w.eH true out).l+fP s<=_;omega
theorem yB {l:List fY} {i:Nat} {g:fY} (h:l[i]?=some g):∃a b,l=a++g::b/\l.eraseIdx i=a++b:=by
 obtain⟨c,d⟩:=az.1 h;refine⟨l.take i,l.drop (i+1),?_,cO _ _⟩;rw[<- d,List.getElem_cons_drop c,cS]
variable {b:Int} {G:gd}
theorem yC (hi:Inv b G w) (h:NB w) (k:Int):NB (w.gS k).2/\Cn (w.gS k).2<=Cn w/\Wn (w.gS k).2<=Wn w/\(0<=k/\k<w.eH.l.length->Wn (w.gS k).2+1<=Wn w):=by
 unfold eC.gS;split
 ·rename_i p;exact⟨h,ax _,ax _,fun E=>by simp at p;omega⟩
 cases hl:w.eH.l[k.toNat]? with
 |none=>exact⟨h,ax _,ax _,fun E=>by have:=cP.1 hl;omega⟩
 |some g =>
 simp only;obtain⟨v,y,q,le⟩:=yB hl;have z:=h.n200;rw[q]at z;simp only[aE,aL]at z;rw[le];obtain⟨e,m⟩:=nm (eC.fA {w with eH:={w.eH with l:=v++y} }:eC);(have n1:e.eH.l=v++y:=by rw[m];rfl);(have s1:e.ff=w.ff:=by rw[m];rfl);have n:NB e:=⟨by rw[n1,aE];omega,by rw[s1];exact h.sb⟩;(have J:Wn w=mw g.eU+Wn e:=by unfold Wn iq;rw[q,n1,s1,oV,oV,tw];omega);(have K:Cn w=cw g.eU+Cn e:=by unfold Cn iq;rw[q,n1,s1,oV,oV,tw];omega);have L:=DT g.eU;have M:=qT g.eU;(have N:w.eD=e.eD:=by rw[m];rfl);(have hd:w.eP=e.eP:=by rw[m];rfl);rw[<- m];split
 ·
  split
  ·exact⟨n,by simp only;omega,by simp only;omega,fun _=>by simp only;omega⟩
  rename_i s hs;(have A:w.ff=some s:=by rw[<- s1];exact hs);have B:∀k x,fw k s.done=some x->x.eO=6:=fun k x p=>((hi.ff s A).done k x p).1;obtain⟨f,a2,a3⟩:=DU (d:=e.eP) (h.sb s A) B (e.eN.getD 0 0) g.eU;have a4:=DV (tz (d:=e.eP) B (e.eN.getD 0 0) g.eU);obtain⟨i,C,F⟩:=D2 (w:=e) n (out:=(eA.take e.eP s (e.eN.getD 0 0) g.eU).1) (d:=(eA.take e.eP s (e.eN.getD 0 0) g.eU).2.1) f;(have e1:Wn e=iU mw e.eH.l+fP s:=by unfold Wn iq;rw[hs]);(have r:Cn e=iU cw e.eH.l+fP s:=by unfold Cn iq;rw[hs]);refine⟨i,aB F ab,aB C ab,fun _=>aB (Nat.add_le_add_right C 1) ab⟩
 split
 ·rename_i c hc;obtain⟨j,o⟩:=nm (eC.gf {e with eD:=e.eD.set g.to.toNat (c.take g.eU).2} false (c.take g.eU).1:eC);obtain⟨O,P,H⟩:=DZ j g.to.toNat;obtain⟨f,a2⟩:=qU mw (c.take g.eU).1 e.eH false;obtain⟨i,-⟩:=qU cw (c.take g.eU).1 e.eH false;(have e1:Wn j=iU mw (gV e.eH false (c.take g.eU).1).l+iq e:=by rw[o];rfl);(have r:Cn j=iU cw (gV e.eH false (c.take g.eU).1).l+iq e:=by rw[o];rfl);(have I:NB j:=by rw[o];exact⟨a2 n.n200,n.sb⟩);have Q:Wn e=iU mw e.eH.l+iq e:=rfl;have R:Cn e=iU cw e.eH.l+iq e:=rfl;rw[<- o]
  have key:Wn (j.gG g.to.toNat)+1<=Wn w:=by
   rcases qd c g.eU with k|⟨D,a,t,u⟩
   ·rw[k]at f e1;simp at f;omega
   rw[t]at f e1;(have f1:mw a=1:=by unfold mw;rw[u];decide);(have f2:mw g.eU=2:=by unfold mw;rw[D];decide);simp only[aY,bD,bN,ez,f1]at f;omega
  refine⟨H I,?_,aB (Nat.le_succ _) key,fun _=>key⟩;show Cn (j.gG g.to.toNat)<=_;rcases qd c g.eU with k|⟨D,a,t,u⟩
  ·rw[k]at i r;simp at i;omega
  rw[t]at i r;(have:cw a=1:=by unfold cw;rw[u];decide);simp only[aY,bD,bN,ez,this]at i;omega
 exact⟨n,by simp only;omega,by simp only;omega,fun _=>by simp only;omega⟩
theorem yD:∀(f:Nat) {w:eC} (_:Inv b G w) (_:NB w),NB (eC.ia f w)/\Cn (eC.ia f w)<=Cn w/\Wn (eC.ia f w)<=Wn w/\((eC.ia f w).eH.l=[]\/Wn (eC.ia f w)+f<=Wn w)
 |0,w,_,h=>⟨h,ax _,ax _,.inr (ax _)⟩
 |f+1,w,hi,h=>by
  unfold eC.ia;split
  ·rename_i he;exact⟨h,ax _,ax _,.inl (by simpa using he)⟩
  rename_i he;(have c:w.eH.l≠[]:=by simpa using he);obtain⟨d,a2,-,a3⟩:=yC hi h 0;obtain⟨e,g,i,a⟩:=yD f (oO hi 0) d;have a4:=a3 ⟨ab,by have:=List.length_pos_iff.2 c;omega⟩;refine⟨e,ab,ab,?_⟩;rcases a with a|a
  ·exact .inl a
  exact .inr ab
end fS
namespace fS
open Go.RowKit fD eY fK
structure Cut (d:fe) (s:eA) (d':fe) (s':eA):Prop where
 same:d'.cut=d.cut
 off:s'.eX=true->s.eX=true\/d.cut=true
theorem Cut.refl (d:fe) (s:eA):Cut d s d s:=⟨rfl,fun h=>.inl h⟩
variable {d:fe} {s:eA}
theorem Cut.trans {d1 d2:fe} {s1 s2:eA} (h:Cut d s d1 s1) (g:Cut d1 s1 d2 s2):Cut d s d2 s2:=
 ⟨g.same.trans h.same,fun e=>by
  rcases g.off e with e|e
  ·exact h.off e
  exact .inr (h.same▸e)⟩
theorem Cut.eqs {a:eA} (h:a.eX=s.eX):Cut d s d a:=⟨rfl,fun e=>.inl (h▸e)⟩
theorem D3 (d:fe) (eX:Bool) (r:Rec):(d.add eX r).2.1.cut=d.cut/\((d.add eX r).2.2=true->eX=true\/d.cut=true):=by
 unfold fe.add;split
 ·exact⟨rfl,fun h=>.inl h⟩
 split
 ·exact⟨rfl,fun h=>.inl h⟩
 split
 ·exact⟨rfl,fun h=>.inl h⟩
 split
 ·rename_i h;simp only[aF]at h;exact⟨rfl,fun _=>.inr h.1⟩
 exact⟨rfl,fun h=>.inl h⟩
theorem Ns (d:fe) (s:eA) (o:Nat) (x:Wr) (rest:List Wr) (out:List eL):Cut d s (s.store d o x rest out).2.2.1 (s.store d o x rest out).2.2.2:=by
 unfold eA.store;simp only;obtain⟨a,b⟩:=D3 d s.eX ⟨x.eI,x.eK,o,wrap64 ((s.value o).fq+1),x.data,0⟩;generalize d.add s.eX ⟨x.eI,x.eK,o,wrap64 ((s.value o).fq+1),x.data,0⟩=p at a b;split
 ·exact⟨a,b⟩
 unfold eA.answer;split
 ·exact⟨a,b⟩
 exact⟨a,b⟩
variable {o:Nat}
theorem D5:∀(f:Nat) (d:fe) (s:eA) (out:List eL),Cut d s (eA.iu f d s o out).2.1 (eA.iu f d s o out).2.2
 |0,d,s,_=>.refl d s
 |f+1,d,s,out=>by
  unfold eA.iu
  cases hx:s.eQ o with
  |nil=>exact .refl d s
  |cons x rest =>
   simp only;split
   ·exact .refl d s
   unfold eA.iE;simp only;split
   ·exact .eqs rfl
   have h:=Ns d {s with fi:=s.fi.set o ({x with gw:=true}::rest),eW:=jr s.eW (s.eW.ga o s.eB)} o x rest (if x.gw=true then out else out++List.map (fun c=>s.ig c o) (s.eW.ga o s.eB));have b:Cut d s d {s with fi:=s.fi.set o ({x with gw:=true}::rest),eW:=jr s.eW (s.eW.ga o s.eB)}:=.eqs rfl;have a:=b.trans h
   generalize eA.store d {s with fi:=s.fi.set o ({x with gw:=true}::rest),eW:=jr s.eW (s.eW.ga o s.eB)} o x rest (if x.gw=true then out else out++List.map (fun c=>s.ig c o) (s.eW.ga o s.eB))=r at a⊢
   split
   ·exact a.trans (D5 f _ _ _)
   exact a
theorem D6 {a:eA} (e:s.eX=a.eX):Cut d a (eA.fu d s o).2.1 (eA.fu d s o).2.2:=(Cut.eqs e).trans (D5 _ _ _ _)
theorem D7:∀(a:List Nat) (d:fe) (s:eA) (out:List eL),Cut d s (eA.gY a d s out).2.1 (eA.gY a d s out).2.2
 | [],d,s,_=>.refl d s
 |k::a,d,s,out=>by
  unfold eA.gY;simp only;exact (D6 rfl).trans (D7 a _ _ _)
theorem Nt (d:fe) (s:eA) (eB:Int):Cut d s (eA.tick d s eB).2.1 (eA.tick d s eB).2.2:=by
 unfold eA.tick;split
 ·exact .refl d s
 exact (Cut.eqs rfl:Cut d s d (s.at_ eB)).trans (D7 _ _ _ _)
theorem D8 (d:fe) (s:eA) (eB:Int) (m:eL):Cut d s (eA.take d s eB m).2.1 (eA.take d s eB m).2.2:=by
 have hv:=mV d s eB m;generalize eA.take d s eB m=r at hv⊢;have a:(s.at_ eB).eX=s.eX:=rfl;generalize s.at_ eB=z at hv a
 cases hv with
 |off=>exact .refl d s
 |idle|done|read|flush1|gE|flush3|wait|fT=>exact .eqs a
 |enq|ack=>exact D6 a
end fS
namespace fS
open Go.RowKit fD eY fK
def fO (l:List fY) (k:Int):List Int:=(l.filter fun g=>decide (g.eU.eO=2)&&decide (g.eU.eI=k)).map fun g=>g.eU.eK
theorem nF (a b:List fY) (k:Int):fO (a++b) k=fO a k++fO b k:=by simp[fO]
theorem mH (g:fY) (l:List fY) (k:Int):fO (g::l) k=if g.eU.eO=2/\g.eU.eI=k then g.eU.eK::fO l k else fO l k:=by
 unfold fO;by_cases h:g.eU.eO=2/\g.eU.eI=k
 ·rw[cC (by simpa using h),if_pos h];rfl
 rw[cB (by simpa using h),if_neg h]
theorem Nu (l:List fY) (i:Nat) (k:Int):fO (l.eraseIdx i) k=fO l k\/(fO (l.eraseIdx i) k).length+1=(fO l k).length:=by
 induction l generalizing i with
 |nil=>left;simp
 |cons g l ih =>
  cases i with
  |zero =>
   rw[List.eraseIdx_cons_zero,mH];split
   ·right;simp
   left;rfl
  |succ i =>
   rw[List.eraseIdx_cons_succ,mH,mH];rcases ih i with h|h
   ·rw[h];left;rfl
   split
   ·right;simp;omega
   right;exact h
theorem pF:∀(l:List eL) (n:Net) (t:Bool) (k:Int) (_:∀m∈l,m.eO≠2),fO (gV n t l).l k=fO n.l k
 | [],_,_,_,_=>rfl
 |m::l,n,t,k,h=>by
  have hm:=h m aK;have a:∀x∈l,x.eO≠2:=fun x hx=>h x (aI _ hx);unfold gV;split
  ·rw[pF l _ t k a,nD];split
   ·rfl
   rw[nF,mH,if_neg (fun e=>hm e.1)];simp[fO]
  exact pF l n t k a
theorem Nv {l:List eL} (h:Told l) (n:Net) (t:Bool) (k:Int):fO (gV n t l).l k=fO n.l k:=
 pF l n t k fun m hm e=>by have:=h m hm;omega
def Ew (w:eC) (k:Int):List Int:=match w.ff with|some s=>gR s k|none=>[]
def iX (c:eM):Option Int:=if c.fB&&decide (c.call.eO=2) then some c.fE else none
def gA (w:eC) (k:Nat):Option Int:=match w.eD[k]? with|some c=>iX c|none=>none
def gn (w:eC) (k:Nat):Nat:=gl (Ew w k) (fO w.eH.l k) (gg w.eP.eG k) (gA w k)
def Tw (w:eC):Nat:=if w.ff.isNone||w.eP.cut then 1 else 0
def Pi (w:eC):Nat:=gn w 0+gn w 1+gn w 2+gn w 3+jq w.eP.eG+Tw w
theorem vL (w:eC):Tw w<=1:=by unfold Tw;split<;>omega
variable {w w':eC} {t:Nat}
theorem yE {k n:Nat} (c:k<4) (a:∀j,j<4->j≠k->gn w' j<=gn w j) (d:gn w' k<=gn w k+n) (e:jq w'.eP.eG+Tw w'<=jq w.eP.eG+Tw w+t):Pi w'<=Pi w+n+t:=by
 unfold Pi;have a0:=a 0 ab;have b:=a 1 ab;have a2:=a 2 ab;have a3:=a 3 ab;have:k=0\/k=1\/k=2\/k=3:=ab;rcases this with rfl|rfl|rfl|rfl
 ·have:=b ab;have:=a2 ab;have:=a3 ab;omega
 ·have:=a0 ab;have:=a2 ab;have:=a3 ab;omega
 ·have:=a0 ab;have:=b ab;have:=a3 ab;omega
 have:=a0 ab;have:=b ab;have:=a2 ab;omega
theorem tB (a:∀j,j<4->gn w' j<=gn w j) (b:jq w'.eP.eG+Tw w'<=jq w.eP.eG+Tw w+t):Pi w'<=Pi w+t:=by
 have:=yE (k:=0) (n:=0) ab (fun j c _=>a j c) (aB (a 0 ab) ab) b;omega
theorem qg (a:∀j,j<4->gn w' j<=gn w j) (b:jq w'.eP.eG+Tw w'<=jq w.eP.eG+Tw w):Pi w'<=Pi w:=by
 have:=tB (t:=0) a b;omega
theorem qh {E D a R:List Int} {cur:Option Int} (h:a=D\/a.length+1=D.length):gl E a R cur<=gl E D R cur:=by
 rcases h with rfl|h
 ·exact ax _
 have:=M4 (E:=E) (R:=R) (cur:=cur) h;omega
structure PS (w:eC):Prop where
 sq:∀s,w.ff=some s->SQ w.eP s
 up:∀s,w.ff=some s->s.eX=false
theorem Nw {l:List Rec} (h:∀r∈l,0<=r.eF->0<=r.eI/\r.eI<=3):l.length=(gg l 0).length+(gg l 1).length+(gg l 2).length+(gg l 3).length+jq l:=by
 induction l with
 |nil=>rfl
 |cons r l ih =>
  have f:=ih fun x hx=>h x (aI _ hx)
  have e:∀k:Int,(gg (r::l) k).length=(gg l k).length+(if 0<=r.eF/\r.eI=k then 1 else 0):=fun k=>by
   unfold gg;rw[dZ];split
   ·rename_i b;split at b
    ·cases b
    rename_i c;rw[if_neg c];rfl
   rename_i b;split at b
   ·rename_i c;rw[if_pos c];rfl
   cases b
  have d:jq (r::l)=jq l+(if r.eF<0 then 1 else 0):=by
   unfold jq;by_cases a:r.eF<0
   ·rw[cC (by simpa using a),if_pos a];rfl
   rw[cB (by simpa using a),if_neg a];rfl
  rw[e 0,e 1,e 2,e 3,d,aL];by_cases a:r.eF<0
  ·rw[if_neg ab,if_neg ab,if_neg ab,if_neg ab,if_pos a];omega
  have:=h r aK ab;have hc:r.eI=0\/r.eI=1\/r.eI=2\/r.eI=3:=ab;rw[if_neg a];rcases hc with hc|hc|hc|hc<;>simp[hc,show 0<=r.eF by omega]<;>omega
theorem Nx {q:List Wr} (h:∀x∈q,0<=x.eI/\x.eI<=3):q.length=(jx q 0).length+(jx q 1).length+(jx q 2).length+(jx q 3).length:=by
 induction q with
 |nil=>rfl
 |cons x q ih =>
  have a:=ih fun y hy=>h y (aI _ hy);have b:=h x aK;rw[qS,qS,qS,qS,aL];have hc:x.eI=0\/x.eI=1\/x.eI=2\/x.eI=3:=ab;rcases hc with hc|hc|hc|hc<;>simp[hc]<;>omega
theorem Ny {a:List (List Wr)} (h:∀q∈a,∀x∈q,0<=x.eI/\x.eI<=3):(a.map List.length).sum=(a.flatMap fun q=>jx q 0).length+(a.flatMap fun q=>jx q 1).length+(a.flatMap fun q=>jx q 2).length+(a.flatMap fun q=>jx q 3).length:=by
 induction a with
 |nil=>rfl
 |cons q a ih =>
  have b:=ih fun y hy=>h y (aI _ hy);have c:=Nx (h q aK);simp only[aY,bN,bm,aE];omega
theorem NA (cur:Option Int) (E:List Int):E.length<=jE cur E:=by
 induction E with
 |nil=>simp[jE]
 |cons a E ih =>
  simp only[jE,aY,bN,aL]at ih⊢;(have:1<=wt cur a:=by unfold wt;split<;>omega);omega
theorem vM (E D R:List Int) (cur:Option Int):R.length+E.length<=gl E D R cur:=by
 unfold gl;have:=NA cur E;omega
theorem qi {b:Int} {G:gd} (hi:Inv b G w):w.eP.eG.length+iq w+Tw w<=Pi w:=by
 have n:=Nw (l:=w.eP.eG) fun r hr h0=>(hi.uniq.small _ _ _ _ (hi.eG.fE r hr h0)).1;have a:(gg w.eP.eG 0).length+(Ew w 0).length<=gn w 0:=vM _ _ _ _;have c:(gg w.eP.eG 1).length+(Ew w 1).length<=gn w 1:=vM _ _ _ _;have d:(gg w.eP.eG 2).length+(Ew w 2).length<=gn w 2:=vM _ _ _ _;have f:(gg w.eP.eG 3).length+(Ew w 3).length<=gn w 3:=vM _ _ _ _;unfold Pi iq;unfold Ew at a c d f
 cases hs:w.ff with
 |none =>
  simp only[hs,bJ]at a c d f;simp only;omega
 |some s =>
  simp only[hs]at a c d f;have g:=hi.ff s hs
  have p:fP s=(gR s 0).length+(gR s 1).length+(gR s 2).length+(gR s 3).length:=by
   unfold fP gR;refine Ny fun q i x j=>?_;obtain⟨o,h,e⟩:=cX i;(have k:o<8:=by rw[<- g.nq];exact h);(have m:s.eQ o=q:=by simp[eA.eQ,List.getD_eq_getElem?_getD,h,e]);exact (hi.uniq.small _ _ _ _ (g.eQ o k x (by rw[m];exact j))).1
  simp only;omega
end fS
namespace fS
open Go.RowKit fD eY fK
variable {w:eC} {s:eA}
theorem D9 (hs:w.ff=some s):w.iy=if s.eX then {w with ff:=none} else w:=by
 unfold eC.iy;rw[hs]
theorem yF {a:eA} {b:fe} {out:List eL} {P:Nat->Nat} (hs:w.ff=some s) (hd:s.eX=false) (hc:Cut w.eP s b a) (j:SQ b a) (m:Told out) (he:jq b.eG=jq w.eP.eG)
 (f:∀k:Nat,k<4->gl (gR a k) (fO w.eH.l k) (gg b.eG k) (gA w k)<=P k) :
 PS ({w with eP:=b,ff:=some a}.gf true out).iy/\(∀k,k<4->gn ({w with eP:=b,ff:=some a}.gf true out).iy k<=P k) /\
  jq ({w with eP:=b,ff:=some a}.gf true out).iy.eP.eG+Tw ({w with eP:=b,ff:=some a}.gf true out).iy<=jq w.eP.eG+Tw w:=by
 obtain⟨c,d⟩:=nm (eC.gf {w with eP:=b,ff:=some a} true out:eC);(have e1:c.ff=some a:=by rw[d];rfl);(have e:c.eP=b:=by rw[d];rfl);(have n:c.eD=w.eD:=by rw[d];rfl);(have g:∀k,fO c.eH.l k=fO w.eH.l k:=fun k=>by rw[d];exact Nv m _ _ _);(have i:∀k,gA c k=gA w k:=fun k=>by unfold gA;rw[n]);rw[<- d,D9 e1]
 cases QN:a.eX with
 |false =>
  simp only[bh,if_false];refine⟨⟨fun t ht=>?_,fun t ht=>?_⟩,fun k hk=>?_,?_⟩
  ·rw[e1]at ht;obtain rfl:=aA ht;rw[e];exact j
  ·rw[e1]at ht;obtain rfl:=aA ht;exact QN
  ·unfold gn Ew;rw[e1,e,g,i];exact f k hk
  unfold Tw;rw[e,he,e1,hs,hc.same];simp
 |true =>
  simp only[if_true];refine⟨⟨fun t ht=>by simp at ht,fun t ht=>by simp at ht⟩,fun k hk=>?_,?_⟩
  ·refine aB ?_ (f k hk);unfold gn Ew;show gl [] (fO c.eH.l k) (gg c.eP.eG k) (gA c k)<=_;rw[e,g,i];exact yu
  have hcut:w.eP.cut=true:=by
   rcases hc.off QN with h|h
   ·rw[hd]at h;cases h
   exact h
  (have:Tw w=1:=by unfold Tw;rw[hcut];simp);rw[this];exact Nat.add_le_add (cZ (by show jq c.eP.eG=_;rw[e,he])) (vL _)
theorem Ea (c:eM) (m:eL):iX (c.take m).2=iX c\/iX (c.take m).2=none:=by
 unfold eM.take;split
 ·exact .inl rfl
 simp only;split
 ·unfold eM.lr;split
  ·exact .inl rfl
  right;simp only;unfold iX eM.fB;simp
 split
 ·split
  ·right;unfold iX eM.fB;simp
  exact .inl rfl
 split
 ·split<;>exact .inl rfl
 split
 ·split<;>exact .inl rfl
 split
 ·split<;>exact .inl rfl
 exact .inl rfl
theorem yG (w:eC) (k:Nat):(∀j,gn (w.gG k) j=gn w j)/\Tw (w.gG k)=Tw w/\(PS w->PS (w.gG k)):=by
 obtain⟨c,a,b,d⟩:=qf w k;exact⟨fun j=>by unfold gn Ew gA;rw[c,a,b,d],by unfold Tw;rw[a,b],fun h=>⟨by rw[a,b];exact h.sq,by rw[a];exact h.up⟩⟩
theorem qj (h:PS w) (k:Int):(Ew w k).Nodup:=by
 unfold Ew
 cases hs:w.ff with
 |none=>exact dR
 |some s=>exact (h.sq s hs).nodup k
theorem vO {k:Nat} {c c':eM} (hc:w.eD[k]?=some c) (j:Nat):gA {w with eD:=w.eD.set k c'} j=if j=k then iX c' else gA w j:=by
 unfold gA;simp only;by_cases e:j=k
 ·subst e;rw[aS (by exact (az.1 hc).1),if_pos rfl]
 rw[a8 (fun h=>e h.symm),if_neg e]
theorem yH {b:Int} {G:gd} (hi:Inv b G w) (hp:PS w) (hP:Pi w<=195) (B:Int):PS (w.gS B).2/\Pi (w.gS B).2<=Pi w:=by
 unfold eC.gS;split
 ·exact⟨hp,ax _⟩
 cases hl:w.eH.l[B.toNat]? with
 |none=>exact⟨hp,ax _⟩
 |some g =>
 simp only;obtain⟨A,u,F,le⟩:=yB hl;rw[le];obtain⟨w1,v⟩:=nm (eC.fA {w with eH:={w.eH with l:=A++u} }:eC);(have n1:w1.eH.l=A++u:=by rw[v];rfl);(have s1:w1.ff=w.ff:=by rw[v];rfl);(have c1:w1.eD=w.eD:=by rw[v];rfl);(have d1:w1.eP=w.eP:=by rw[v];rfl);(have H:∀k:Int,fO w.eH.l k=fO A k++(if g.eU.eO=2/\g.eU.eI=k then g.eU.eK::fO u k else fO u k):=fun k=>by rw[F,nF,mH]);have C:∀k:Int,fO w1.eH.l k=fO A k++fO u k:=fun k=>by rw[n1,nF]
 have n:∀k:Int,fO w1.eH.l k=fO w.eH.l k\/(fO w1.eH.l k).length+1=(fO w.eH.l k).length:=fun k=>by
  rw[H,C];split
  ·right;simp;omega
  left;rfl
 have K:∀j,gn w1 j<=gn w j:=fun j=>by
  unfold gn Ew gA;rw[s1,c1,d1];exact qh (n j)
 (have t1:Tw w1=Tw w:=by unfold Tw;rw[s1,d1]);have y:PS w1:=⟨by rw[s1,d1];exact hp.sq,by rw[s1];exact hp.up⟩;have D:Pi w1<=Pi w:=qg (fun j _=>K j) (by rw[d1,t1];exact ax _);have PN:=qi hi;have hg:im G w.eP.eG g.eU:=hi.eH g (by rw[F];simp);rw[<- v];split
 ·split
  ·exact⟨y,D⟩
  rename_i s hs;refine abb ?_;intro PD R3 QN Xd a1 a2 hcut Sd;generalize eA.take w1.eP s (w1.eN.getD 0 0) g.eU=r at a1 a2 hcut Sd⊢
  have L:jq r.2.1.eG=jq w1.eP.eG:=by
   rcases a2 with a2|⟨-,-,-,s2,a2,-⟩<;>exact a2.p9
  have E:∀k:Nat,k<4->gl (gR r.2.2 k) (fO w1.eH.l k) (gg r.2.1.eG k) (gA w1 k)<=gn w k:=fun k _=>by
   (have M:gA w1 k=gA w k:=by unfold gA;rw[c1]);rw[M];unfold gn Ew;rw[PD];simp only;rcases a2 with a2|⟨N,O,I,s2,Q,-,-,R,S,T⟩
   ·refine aB (a2.oC k _ _) ?_;rw[d1];exact qh (n k)
   refine aB (Q.oC k _ _) ?_;rw[d1]at I⊢;by_cases e:(k:Int)=g.eU.eI
   ·rw[e];have t:=H g.eU.eI;rw[if_pos ⟨N,rfl⟩]at t;refine DB (m:=g.eU.eK) (by rw[t,C];simp;omega) (fun x hx=>?_) O S (T _) I;rw[t,C];simp[hx]
   rw[R _ e];exact qh (n k)
  obtain⟨g1,g2,g3⟩:=yF (w:=w1) (P:=fun k=>gn w k) hs (hp.up s PD) hcut a1 Sd L E;exact⟨g1,qg (w:=w) (fun j U=>g2 j U) (by rw[d1,t1]at g3;exact g3)⟩
 split
 ·rename_i c hc;(have J:w1.eD[g.to.toNat]?=some c:=by rw[c1];rw[c1]at hc;exact hc);obtain⟨f,i⟩:=nm (eC.gf {w1 with eD:=w1.eD.set g.to.toNat (c.take g.eU).2} false (c.take g.eU).1:eC);obtain⟨V,W,X⟩:=yG f g.to.toNat
  have Y:∀x∈(c.take g.eU).1,x.eO≠2:=fun x hx=>by
   rcases qd c g.eU with k|⟨-,a,Z,k3⟩
   ·rw[k]at hx;cases hx
   rw[Z]at hx;rw[aD.1 hx,k3];decide
  (have e4:∀k,fO f.eH.l k=fO w1.eH.l k:=fun k=>by rw[i];exact pF _ _ _ _ Y);have e5:∀j,gA f j=if j=g.to.toNat then iX (c.take g.eU).2 else gA w1 j:=fun j=>by rw[i];exact vO J j
  have p2:∀j,gn f j<=gn w1 j:=fun j=>by
   (have ee:Ew f j=Ew w1 j:=by rw[i];rfl);(have ed:f.eP=w1.eP:=by rw[i];rfl);unfold gn;rw[ee,ed,e4,e5];split
   ·rename_i e;(have Qr:gA w1 j=iX c:=by unfold gA;rw[e,J]);rw[Qr];rcases Ea c g.eU with h|h
    ·rw[h];exact ax _
    rw[h];exact qR (qj y j)
   exact ax _
  (have t2:Tw f=Tw w1:=by rw[i];rfl);(have Xv:PS f:=by rw[i];exact⟨y.sq,y.up⟩);rw[<- i];refine⟨X Xv,aB ?_ D⟩;refine qg (fun j _=>by show gn (f.gG _) j<=_;rw[V];exact p2 j) ?_;show jq (f.gG _).eP.eG+Tw (f.gG _)<=_;rw[W,t2,(qf f _).2.2.1,i];exact ax _
 exact⟨y,D⟩
end fS
namespace fS
open Go.RowKit fD eY fK
def j7:Int->List Rec->Int
 |e,[]=>e
 |e,r::l=>if r.eF<0 then j7 (max e r.eS) l else j7 e l
theorem vP:∀(a b:List Rec) (e:Int),j7 e (a++b)=j7 (j7 e a) b
 | [],_,_=>rfl
 |r::a,b,e=>by
  show (if r.eF<0 then _ else _)=j7 (if r.eF<0 then _ else _) b
  split<;>exact vP a b _
theorem vQ:∀(l:List Rec) (s:eA),(s.iN l).fi=s.fi/\(s.iN l).eW=s.eW/\(s.iN l).eB=s.eB/\(s.iN l).eX=s.eX/\(s.iN l).quiet=s.quiet/\(s.iN l).eZ=s.eZ/\(s.iN l).eS=j7 s.eS l
 | [],s=>⟨rfl,rfl,rfl,rfl,rfl,rfl,rfl⟩
 |r::l,s=>by
  unfold eA.iN j7;split
  ·exact vQ l {s with eS:=max s.eS r.eS}
  exact vQ l (s.jB r).1
theorem yI:∀(l:List Rec) (s:eA) (k:Int),(fw k (s.iN l).done).map eL.eK=match (gg l k).getLast? with|some n=>some n|none=>(fw k s.done).map eL.eK
 | [],s,k=>rfl
 |r::l,s,k=>by
  unfold eA.iN;split
  ·rename_i h;rw[yI l]
   have e:gg (r::l) k=gg l k:=by
    unfold gg;rw[dZ,if_neg ab]
   rw[e]
  rename_i h;rw[yI l];by_cases hc:r.eI=k
  ·have e:gg (r::l) k=r.eK::gg l k:=by
    unfold gg;rw[dZ,if_pos ⟨ab,hc⟩]
   rw[e]
   cases hR:gg l k with
   |nil=>simp[eA.jB,ou,hc]
   |cons a t =>
    have:∀x,(a::t).getLast?=some x->(r.eK::a::t).getLast?=some x:=fun x hx=>by simpa using hx
    cases hx:(a::t).getLast? with
    |none=>simp at hx
    |some x=>rw[this x hx]
  have e:gg (r::l) k=gg l k:=by
   unfold gg;rw[dZ,if_neg (fun h=>hc h.2)]
  rw[e];simp[eA.jB,ou,hc]
theorem vR (t:fU) (d:fe) (eB:Int) :
 ((eA.new t d eB).2.2=none/\(eA.new t d eB).2.1.eG=d.eG/\(eA.new t d eB).2.1.cut=d.cut) \/
 ∃s,(eA.new t d eB).2.2=some s/\s.eX=false/\s.fi=List.replicate 8 []/\s.eW=fW.new/\s.eS=wrap64 (j7 0 d.eG+1)/\s.eZ=t/\s.eB=eB/\(s.quiet=0\/s.quiet=eB+t.fa) /\
  (eA.new t d eB).2.1.eG=d.eG++[⟨0,0,-1,0,[],s.eS⟩]/\(eA.new t d eB).2.1.cut=d.cut/\∀k,(fw k s.done).map eL.eK=(gg d.eG k).getLast?:=by
 unfold eA.new;split
 ·exact .inl ⟨rfl,rfl,rfl⟩
 obtain⟨g,h,i,j,l,m,o⟩:=vQ d.eG (eA.blank t eB);have q:=yI d.eG (eA.blank t eB);generalize (eA.blank t eB).iN d.eG=s0 at g h i j l m o q;simp only
 obtain⟨s1,b⟩:=nm (if 1<wrap64 (s0.eS+1) then {s0 with eS:=wrap64 (s0.eS+1),quiet:=eB+t.fa} else {s0 with eS:=wrap64 (s0.eS+1)}:eA)
 (have e1:s1.eS=wrap64 (s0.eS+1):=by rw[b];split<;>rfl);have a:s1.eX=s0.eX/\s1.fi=s0.fi/\s1.eW=s0.eW/\s1.eZ=s0.eZ/\s1.eB=s0.eB/\s1.done=s0.done:=by rw[b];split<;>exact⟨rfl,rfl,rfl,rfl,rfl,rfl⟩
 have r:s1.quiet=0\/s1.quiet=eB+t.fa:=by
  rw[b];split
  ·exact .inr rfl
  left;exact l
 rw[<- b];generalize hp:d.add false ⟨0,0,-1,0,[],s1.eS⟩=p;obtain⟨e,u,v⟩:=p;have hcut:=(D3 d false ⟨0,0,-1,0,[],s1.eS⟩).1;rw[hp]at hcut;rcases mS hp with⟨c,f,-,-,-,-⟩|⟨c,f,-⟩
 ·right;rw[if_pos c];refine⟨s1,rfl,a.1.trans j,a.2.1.trans g,a.2.2.1.trans h,by rw[e1,o];rfl,a.2.2.2.1.trans m,a.2.2.2.2.1.trans i,r,f,hcut,fun k=>?_⟩;rw[a.2.2.2.2.2,q]
  cases (gg d.eG k).getLast? with
  |none=>rfl
  |some n=>rfl
 left;rw[if_neg c];exact⟨rfl,f,hcut⟩
variable {G:gd} {o:Nat}
theorem NC {d:fe} {s:eA} (h:gF G d.eG s) (hu:jR G) (b:o<8) {x y:Wr} {rest:List Wr} (c:s.eQ o=y::rest) (g:y.eI=x.eI) (i:y.eK=x.eK) (j:y.data=x.data) (hd:s.eX=false) (t:d.eG.length+fP s<=199) :
 (d.add s.eX ⟨x.eI,x.eK,o,wrap64 ((s.value o).fq+1),x.data,0⟩).1=14\/((d.add s.eX ⟨x.eI,x.eK,o,wrap64 ((s.value o).fq+1),x.data,0⟩).1=0 /\
   (d.add s.eX ⟨x.eI,x.eK,o,wrap64 ((s.value o).fq+1),x.data,0⟩).2.1.eG=d.eG++[⟨x.eI,x.eK,o,wrap64 ((s.value o).fq+1),x.data,0⟩]):=by
 have f:=h.eQ o b y (by rw[c];simp);rw[g,i,j]at f;obtain⟨⟨c1,c2⟩,⟨n1,u⟩,-,l1⟩:=hu.small _ _ _ _ f;have a:s.value o=iP d.eG o:=h.value o b;have hlen:=rJ d.eG o;have v:1<=fP s:=by have:=DE h.nq b;rw[c]at this;simp at this;omega
 have hv:wrap64 ((s.value o).fq+1)=(iP d.eG o).fq+1:=by
  rw[a,jC]
  ·simp only[iP];omega
  simp only[iP];omega
 rw[hv,hd];obtain⟨r,hrr⟩:=nm (⟨x.eI,x.eK,o,(iP d.eG o).fq+1,x.data,0⟩:Rec);rw[<- hrr]
 have k:r.right=true:=by
  exact abc
 rcases DF (d:=d) k ab with e|e
 ·right;generalize hp:d.add false r=p at e;obtain⟨l,w,z⟩:=p;obtain rfl:l=0:=e;rcases mS hp with⟨-,m,-⟩|⟨q,-⟩
  ·exact⟨rfl,m⟩
  exact absurd rfl q
 exact .inl e
def yJ (o:Nat) (l l':List Rec) (s a:eA):Prop:=∃X:List Rec,l'=l++X/\(∀r∈X,r.eF=(o:Int))/\(a.eX=false->X.length+(a.eQ o).length=(s.eQ o).length)
theorem Eb (hu:jR G) (g:o<8):∀(f:Nat) {d:fe} {s:eA} (_:gF G d.eG s) (_:iW G d.eG) (_:d.eG.length+fP s<=199) {out:List eL} (_:∀m∈out,im G d.eG m),
 yJ o d.eG (eA.iu f d s o out).2.1.eG s (eA.iu f d s o out).2.2
 |0,d,s,_,_,_,_,_=>⟨[],by simp[eA.iu],ae,fun _=>by simp[eA.iu]⟩
 |f+1,d,s,h,B,C,out,D=>by
  unfold eA.iu
  cases hx:s.eQ o with
  |nil=>exact⟨[],ae,ae,fun _=>by simp[hx]⟩
  |cons x rest =>
   simp only;split
   ·rename_i hd;exact⟨[],ae,ae,fun e=>by simp only at e;rw[e]at hd;cases hd⟩
   rename_i hd;(have hd:s.eX=false:=by simpa using hd);have t:=va h B g hx D;obtain⟨e1,u⟩:=DG h.nq g hx true
   have one:yJ o d.eG (s.iE d o x rest out).2.2.1.eG s (s.iE d o x rest out).2.2.2/\((s.iE d o x rest out).1=true->lP s (s.iE d o x rest out).2.2.2 o/\(s.iE d o x rest out).2.2.2.eX=false):=by
    unfold eA.iE;simp only;split
    ·refine⟨⟨[],ae,ae,fun _=>?_⟩,fun e=>by simp at e⟩;have n:eA.eQ {s with fi:=s.fi.set o ({x with gw:=true}::rest)} o={x with gw:=true}::rest:=mG h.nq g;simp only[n];rw[hx];simp
    obtain⟨s1,i⟩:=nm ({s with fi:=s.fi.set o ({x with gw:=true}::rest),eW:=jr s.eW (s.eW.ga o s.eB)}:eA);(have E:s1.fi.length=8:=by rw[i];simpa using h.nq);(have n:s1.eQ o={x with gw:=true}::rest:=by rw[i];exact mG h.nq g);(have d1:s1.eX=false:=by rw[i];exact hd);have ql:fP s1=fP s:=by rw[i];exact u
    have q:∀y∈{x with gw:=true}::rest,(y.eI,y.eK,(o:Int),y.data)∈G:=fun y hy=>by
     rcases aH.1 hy with rfl|hy
     ·exact h.eQ o g x (by rw[hx];simp)
     exact h.eQ o g y (by rw[hx];simp[hy])
    (have F:gF G d.eG s1:=by rw[i];exact (h.pr g q).mF (jr s.eW (s.eW.ga o s.eB)));have j:=NC (x:=x) F hu g n rfl rfl rfl d1 (by rw[ql];exact C);rw[<- i]
    rcases vI g E (d:=d) x rest (if x.gw=true then out else out++List.map (fun c=>s.ig c o) (s.eW.ga o s.eB))with⟨H,m,I,g1,g2,g3,g4,g5,g6,g7,g8,g9,g10⟩|⟨H,g0,g1,g2,g3⟩
    ·rw[g1];rcases j with j|⟨-,j⟩
     ·exact absurd j g10
     have J:lP s s1 o:=by
      rw[i];exact⟨rfl,rfl,rfl,rfl,by simpa using h.nq,fun o' K=>nU K⟩
     have L:I.eX=false:=by
      rw[g5];generalize hp:d.add s1.eX ⟨x.eI,x.eK,o,wrap64 ((s1.value o).fq+1),x.data,0⟩=p at g10;rw[d1]at hp;obtain⟨e,d2,M⟩:=p;rcases mS hp with⟨-,-,-,-,-,k⟩|⟨-,-,k⟩
      ·exact k
      exact k g10
     refine⟨⟨[⟨x.eI,x.eK,o,wrap64 ((s1.value o).fq+1),x.data,0⟩],by simp only;rw[g6,j],ae,fun _=>?_⟩,fun _=>⟨J.trans g2,L⟩⟩;simp only[g4,hx,aL,bJ];omega
    rw[g1];exact⟨⟨[],by simp[g2],ae,fun e=>by simp at e⟩,fun e=>by simp at e⟩
   obtain⟨one,two⟩:=one;generalize s.iE d o x rest out=r at t one two⊢;obtain⟨-,g2,g3,g4⟩:=t;split
   ·rename_i N;obtain⟨X,v,O,w⟩:=one;obtain⟨P,A⟩:=two N
    have Q:r.2.2.1.eG.length+fP r.2.2.2<=199:=by
     have a:=vJ P g h.nq;have b:=w A;rw[v,aE];omega
    obtain⟨Y,R,S,y3⟩:=Eb hu g f g3 g2 Q g4;refine⟨X++Y,by rw[R,v,bx],fun z l=>?_,fun e=>?_⟩
    ·rcases aN.1 l with l|l
     ·exact O z l
     exact S z l
    have e1:=w A;have u:=y3 e;rw[aE];omega
   exact one
end fS
namespace fS
open Go.RowKit fD eY fK
def fl (d:fe) (s:eA) (o:Nat):Int:=(iI d.eG o).length+(if s.eQ o=[] then 0 else 1)
structure Sv (V:Int) (d:fe) (s:eA) (d':fe) (s':eA):Prop where
 ep:s'.eS=s.eS
 eZ:s'.eZ=s.eZ
 quiet:s'.quiet=s.quiet
 eB:s.eB<=s'.eB
 last:j7 0 d'.eG=j7 0 d.eG
 len:d.eG.length<=d'.eG.length
 iI:∀o:Nat,(iI d.eG o).length<=(iI d'.eG o).length
 fl:∀o,o<8->fl d s o<=fl d' s' o
 gU:∀c,0<=c->gU s.eW c<=gU s'.eW c/\gU s'.eW c+d.eG.length<=gU s.eW c+d'.eG.length
 fT:∀c,0<=c->fT s'.eW c<=max (fT s.eW c) (s'.eB+V)/\(0<=fT s.eW c->0<=fT s'.eW c)
variable {V:Int} {d d':fe} {s s':eA}
theorem Sv.trans {d1 d2:fe} {s1 s2:eA} (h:Sv V d s d1 s1) (g:Sv V d1 s1 d2 s2):Sv V d s d2 s2:=by
 refine⟨g.ep.trans h.ep,g.eZ.trans h.eZ,g.quiet.trans h.quiet,cU h.eB g.eB,g.last.trans h.last,aB h.len g.len,fun o=>aB (h.iI o) (g.iI o),fun o ho=>cU (h.fl o ho) (g.fl o ho),fun c hc=>?_,fun c hc=>?_⟩
 ·have a:=h.gU c hc;have b:=g.gU c hc;omega
 have a:=h.fT c hc;have b:=g.fT c hc;have n:=g.eB;refine⟨ab,fun e=>b.2 (a.2 e)⟩
theorem Sv.same (a:s'.eS=s.eS) (b:s'.eZ=s.eZ) (f:s'.quiet=s.quiet) (g:s.eB<=s'.eB) (i:∀o,o<8->s.eQ o≠[]->s'.eQ o≠[]) (j:s'.eW.jz=s.eW.jz) (k:s'.eW.kg=s.eW.kg):Sv V d s d s':=by
 refine⟨a,b,f,g,rfl,ax _,fun _=>ax _,fun o ho=>?_,fun c _=>?_,fun c _=>?_⟩
 ·unfold fS.fl;by_cases e:s.eQ o=[]
  ·rw[if_pos e];split<;>omega
  rw[if_neg e,if_neg (i o ho e)];omega
 ·unfold fS.gU;rw[j];omega
 unfold fS.fT;rw[k];exact⟨ab,fun h=>h⟩
theorem Sv.refl (V:Int) (d:fe) (s:eA):Sv V d s d s:=.same rfl rfl rfl (aZ _) (fun _ _ h=>h) rfl rfl
structure lQ (d:fe) (s:eA) (m:eL):Prop where
 ep:m.eS=s.eS
 gU:0<=m.eI->0<=gU s.eW m.eI->0<=m.fx/\m.fx<=gU s.eW m.eI
 ig:m.eO=9->∃o:Nat,o<8/\m.eF=o/\m.fJ<=fl d s o
variable {m:eL}
theorem lQ.more (h:lQ d s m) (g:Sv V d s d' s') (hs:0<=m.eI->0<=fS.gU s.eW m.eI):lQ d' s' m:=by
 refine⟨h.ep.trans g.ep.symm,fun hc _=>?_,fun hk=>?_⟩
 ·have a:=h.gU hc (hs hc);have b:=(g.gU m.eI hc).1;omega
 obtain⟨o,c,e,f⟩:=h.ig hk;exact⟨o,c,e,cU f (g.fl o c)⟩
theorem vS (t:fW) (c:Int):t.fx c=if fX c then gU t c else 0:=rfl
theorem qV (b:m.eO≠9):lQ d s (s.fG m):=by
 refine⟨rfl,fun hc a=>?_,fun h=>absurd h b⟩;show 0<=s.eW.fx m.eI/\s.eW.fx m.eI<=gU s.eW m.eI;have a:0<=gU s.eW m.eI:=a;rw[vS];split<;>omega
variable {G:gd} {o:Nat}
theorem yK (h:gF G d.eG s) (f:d.eG.length<=200) (a:o<8) (e:s.eQ o≠[]) (c:Int):lQ d s (s.ig c o):=by
 refine⟨rfl,fun hc b=>?_,fun _=>⟨o,a,rfl,?_⟩⟩
 ·show 0<=s.eW.fx c/\s.eW.fx c<=gU s.eW c;have b:0<=gU s.eW c:=b;rw[vS];split<;>omega
 show wrap64 ((s.value o).fq+1)<=fl d s o;have:=rJ d.eG o;rw[h.value o a];unfold fl;rw[if_neg e,jC]
 ·simp only[iP];omega
 ·simp only[iP];omega
 simp only[iP];omega
theorem ND (h:isDone s m):lQ d s m:=by
 obtain⟨a,b,c⟩:=h;refine⟨b,fun hc e=>?_,fun hk=>by rw[a]at hk;cases hk⟩;rw[c,vS];split<;>omega
def nW (d:fe) (s:eA):Prop:=∀c,0<=c->0<=gU s.eW c/\gU s.eW c<=d.eG.length
theorem nW.more (h:nW d s) (g:Sv V d s d' s'):nW d' s':=fun c hc=>by
 have a:=h c hc;have b:=g.gU c hc;omega
theorem vT (hu:jR G) {d:fe} (h:gF G d.eG s) (z:iW G d.eG) (h8:s.fi.length=8) (l:TL s.eW) (hse:nW d s) (hd:s.eX=false) (A:d.eG.length+fP s<=199) (ho:o<8) (b:(eA.fu d s o).2.2.eX=false) (hV:∀c,0<=c->0<=fT s.eW c) :
 Sv V d s (eA.fu d s o).2.1 (eA.fu d s o).2.2/\∀m∈(eA.fu d s o).1,lQ (eA.fu d s o).2.1 (eA.fu d s o).2.2 m:=by
 have i:yJ o d.eG (eA.fu d s o).2.1.eG s (eA.fu d s o).2.2:=Eb hu ho _ h z A (fun m hm=>by cases hm)
 cases hx:s.eQ o with
 |nil =>
  rw[pE (.inl hx)];exact⟨.refl V d s,fun m hm=>by cases hm⟩
 |cons x rest =>
  have PB:s.eQ o≠[]:=by rw[hx];simp
  cases hb:blocked s o with
  |true =>
   rw[rZ hx hd hb]
   have PV:Sv V d s d {s with fi:=s.fi.set o ({x with gw:=true}::rest)}:=.same rfl rfl rfl (aZ _) (fun o' n e=>by
    by_cases q:o'=o
    ·subst q;rw[mG h8 ho];simp
    rw[nU q];exact e) rfl rfl
   refine⟨PV,fun m hm=>?_⟩;exact aca
  |false =>
   obtain⟨H,d',s',g1,g2,g3,g4⟩:=r9 (d:=d) ho h8 l hx hd hb;rw[g1]at i b⊢;simp only at i b⊢;rcases g4 with⟨t,-⟩|⟨t,B,D,C,I,E,J⟩
   ·rw[t]at b;cases b
   obtain⟨X,f,j,F⟩:=i;have u:=F b;rw[B,hx]at u;simp only[bJ,aL,dU]at u;obtain⟨t1,t2,t3,t4⟩:=rY (s.eW.ga o s.eB) l (fun c hc=>(nT.1 hc).1) (tp _ _ _)
   have v:∀o':Nat,o'≠o->iI d'.eG o'=iI d.eG o':=fun o' n=>by
    rw[f,rI]
    have:iI X o'=[]:=by
     unfold iI;rw[List.filterMap_eq_nil_iff];intro r a;rw[if_neg];rw[j r a];omega
    rw[this,bG]
   have g:(iI d'.eG o).length=(iI d.eG o).length+X.length:=by
    rw[f,rI,aE];congr 1;unfold iI;rw[List.length_filterMap_eq_countP,List.countP_eq_length.2];intro r a;simp[j r a]
   have PV:Sv V d s d' s':=by
    refine⟨g2.eS,g2.eZ,g2.quiet,dK g2.eB.symm,?_,by rw[f];simp,fun o'=>?_,fun o' n=>?_,fun c hc=>?_,fun c hc=>?_⟩
    ·rw[f,vP]
     have:∀(Y:List Rec) (e:Int),(∀r∈Y,r.eF=(o:Int))->j7 e Y=e:=by
      intro Y
      induction Y with
      |nil=>intro e _;rfl
      |cons r Y ih =>
       intro e w
       show (if r.eF<0 then j7 (max e r.eS) Y else j7 e Y)=e
       rw[if_neg (by rw[w r aK];omega)];exact ih e fun y hy=>w y (aI _ hy)
     exact this X _ j
    ·by_cases e:o'=o
     ·rw[e,g];omega
     rw[v o' e];exact ax _
    ·unfold fS.fl;by_cases e:o'=o
     ·rw[e,g,if_neg PB];split<;>omega
     rw[v o' e,g2.l9 o' e];exact aZ _
    ·have hb:=hse c hc;rw[g3,t4 c hc,f,aE];split
     ·rw[jC ab ab];omega
     omega
    rw[g3,t3 c hc];have:=hV c hc;split
    ·exact⟨ab,fun _=>aZ _⟩
    exact⟨ab,fun h=>h⟩
   refine⟨PV,fun m hm=>?_⟩;rw[C]at hm;rcases aN.1 hm with hm|hm
   ·exact aca
   have:=E m hm;have k:isDone s' m:=⟨this.1,this.2.1.trans g2.eS.symm,by rw[this.2.2,g3]⟩;exact ND k
end fS
namespace fS
open Go.RowKit fD eY fK
theorem Ec:∀(a:List Nat) (d:fe) (s:eA) (out:List eL),s.eX=true->(eA.gY a d s out).2.2.eX=true
 | [],_,_,_,h=>h
 |k::a,d,s,out,h=>by
  unfold eA.gY;rw[pE (.inr h)];exact Ec a d s _ h
variable {G:gd}
theorem Ed {V:Int} (hu:jR G):∀(a:List Nat) {d:fe} {s:eA} (_:∀k∈a,k<8) (_:gF G d.eG s) (_:iW G d.eG) (_:SQ d s) (_:SB s) (_:nW d s) (_:s.eX=false) (_:d.eG.length+fP s<=199) (_:∀c,0<=c->0<=fT s.eW c) (out:List eL) (_:∀m∈out,lQ d s m) (_:(eA.gY a d s out).2.2.eX=false),
 Sv V d s (eA.gY a d s out).2.1 (eA.gY a d s out).2.2/\∀m∈(eA.gY a d s out).1,lQ (eA.gY a d s out).2.1 (eA.gY a d s out).2.2 m
 | [],d,s,_,_,_,_,_,_,_,_,_,_,i,_=>⟨.refl V d s,i⟩
 |k::a,d,s,q,h,l,r,hb,b,hd,n,hV,out,i,e=>by
  unfold eA.gY at e⊢;simp only at e⊢;have g:=q k aK
  have f:(eA.fu d s k).2.2.eX=false:=by
   cases hc:(eA.fu d s k).2.2.eX with
   |false=>rfl
   |true=>rw[Ec a _ _ _ hc]at e;cases e
  obtain⟨v1,v2⟩:=vT (V:=V) hu h l hb.h8 hb.tl b hd n g f hV;obtain⟨-,g2,g3,-⟩:=qK g h l;obtain⟨t,u⟩:=tn hu g h l r n;obtain⟨v,-⟩:=hb.iB (d:=d) g;have o:=b.more v1;have p:∀c,0<=c->0<=fT (eA.fu d s k).2.2.eW c:=fun c hc=>(v1.fT c hc).2 (hV c hc)
  obtain⟨w,x⟩:=Ed (V:=V) hu a (fun j hj=>q j (aI _ hj)) g3 g2 t v o f (aB u.load n) p (out++(eA.fu d s k).1) (fun m hm=>by
   rcases aN.1 hm with hm|hm
   ·exact (i m hm).more v1 fun hc=>(b _ hc).1
   exact v2 m hm) e
  exact⟨v1.trans w,x⟩
theorem yL (V:Int) (d:fe) (s:eA) (n:Int):Sv V d s d (s.at_ n):=.same rfl rfl rfl (by show s.eB<=max s.eB _;omega) (fun _ _ h=>h) rfl rfl
variable {V:Int} {d:fe} {s:eA}
theorem Ee (hu:jR G) (h:gF G d.eG s) (e:iW G d.eG) (f:SQ d s) (hb:SB s) (b:nW d s) (hd:s.eX=false) (g:d.eG.length+fP s<=199) (hV:∀c,0<=c->0<=fT s.eW c) (eB:Int) (a:(eA.tick d s eB).2.2.eX=false) :
 Sv V d s (eA.tick d s eB).2.1 (eA.tick d s eB).2.2/\(∀m∈(eA.tick d s eB).1,lQ (eA.tick d s eB).2.1 (eA.tick d s eB).2.2 m):=by
 unfold eA.tick at a⊢;rw[hd]at a⊢;simp only[bh,if_false]at a⊢;obtain⟨i,a2⟩:=Ed (V:=V) hu (List.range 8) (d:=d) (s:=s.at_ eB) (fun k hk=>by simpa using hk) (h.lg eB) e (f.same rfl rfl) (hb.lg eB) b hd g hV [] (fun m hm=>by cases hm) a;exact⟨(yL V d s eB).trans i,a2⟩
theorem Ef {t:fW} (h:TL t) {c:Int} (hc:fX c=true) (u:Int) (hu:fR u 0 jO=true):∀d,0<=d->fT (t.fa c u).2 d=if d=c then max (fT t c) u else fT t d:=by
 intro d hd;unfold fW.fa;rw[if_pos (by rw[hc,hu];rfl)];exact yw _ h.nv ((nJ c).1 hc) d hd _
theorem vU (t:fW) (c u:Int):(t.fa c u).2.jz=t.jz/\(t.fa c u).2.gZ=t.gZ:=by
 unfold fW.fa;split<;>exact⟨rfl,rfl⟩
theorem yM (t:fW) (c o u:Int):(t.eF c o u).2.jz=t.jz/\(t.eF c o u).2.kg=t.kg:=by
 unfold fW.eF;split<;>exact⟨rfl,rfl⟩
theorem yN {a b:Int} (c:fR a 0 jO=true) (hb:fR b 0 jO=true):ji a b=min (a+b) jO/\fR (ji a b) 0 jO=true:=by
 unfold ji;rw[if_pos (by rw[c,hb];rfl)];refine⟨rfl,?_⟩;unfold fR jO at *;simp only[aF,decide_eq_true_eq]at *;omega
theorem Eg {V:Int} (hu:jR G) {s:eA} (h:gF G d.eG s) (A:iW G d.eG) (hb:SB s) (l:nW d s) (hd:s.eX=false) (F:d.eG.length+fP s<=198) (hV:∀c,0<=c->0<=fT s.eW c) (n:s.eZ.fa=V) (H:0<=V/\V<=1000) (Q:0<=s.eB/\s.eB<=half) (eB:Int) {m:eL} (hm:im G d.eG m) (p:(eA.take d s eB m).2.2.eX=false) :
 Sv V d s (eA.take d s eB m).2.1 (eA.take d s eB m).2.2/\(∀x∈(eA.take d s eB m).1,lQ (eA.take d s eB m).2.1 (eA.take d s eB m).2.2 x):=by
 have f:=h.lg eB;have g:=hb.lg eB;have v1:=yL V d s eB;have s1:nW d (s.at_ eB):=l;have d1:(s.at_ eB).eX=false:=hd;have B:d.eG.length+fP (s.at_ eB)<=198:=F;have j:∀c,0<=c->0<=fT (s.at_ eB).eW c:=hV;have t1:(s.at_ eB).eZ.fa=V:=n;(have n1:0<=(s.at_ eB).eB/\(s.at_ eB).eB<=half:=by show 0<=max s.eB (min eB half)/\max s.eB (min eB half)<=half;omega);have hv:=mV d s eB m;generalize eA.take d s eB m=r at hv p⊢;generalize s.at_ eB=z at hv f g v1 s1 d1 B j t1 n1;have I:∀x:eL,0<=x.eI->0<=gU z.eW x.eI:=fun x hx=>(s1 _ hx).1;have one:∀ {t:eA} {x:eL},Sv V d s d t->lQ d t x->Sv V d s d t/\∀y∈[x],lQ d t y:=fun ht hx=>⟨ht,fun y hy=>by rw[aD.1 hy];exact hx⟩
 cases hv with
 |off=>exact⟨.refl V d s,fun x hx=>by cases hx⟩
 |idle=>exact⟨v1,fun x hx=>by cases hx⟩
 |done x _ _ _ _ hx=>exact one v1 (qV (by rw[(f.done _ _ hx).1];decide))
 |read=>exact one v1 (qV (by show (5:Int)≠9;decide))
 |flush1 =>
  refine⟨v1,fun x hx=>?_⟩;rcases aH.1 hx with rfl|hx
  ·exact qV (by show (5:Int)≠9;decide)
  rw[aD.1 hx];exact qV (by show (8:Int)≠9;decide)
 |gE =>
  have v2:Sv V d z d (B0 z m):=.same rfl rfl rfl (aZ _) (fun _ _ e=>e) (yM _ _ _ _).1 (yM _ _ _ _).2;have:lQ d z {pU z m with gE:=decide ((z.eW.eF m.eI m.eF (ji z.eB z.eZ.eF)).1=0)}:=qV (m:={pU z m with gE:=decide ((z.eW.eF m.eI m.eF (ji z.eB z.eZ.eF)).1=0)}) (by show (5:Int)≠9;decide);exact one (v1.trans v2) (this.more v2 fun hc=>I _ hc)
 |flush3=>exact one v1 (qV (by show (8:Int)≠9;decide))
 |wait =>
  refine⟨v1,fun x hx=>?_⟩;obtain⟨k,q,rfl⟩:=aW.1 hx;obtain⟨J,C⟩:=bL.1 q;simp only[aF,aV,List.isEmpty_eq_false_iff]at C;exact yK f ab (by simpa using J) C.1 _
 |fT _ hc =>
  have D:=yN (a:=z.eB) (b:=z.eZ.fa) (by unfold fR jO;unfold half at n1;simp;omega) (by rw[t1];unfold fR jO;simp;omega);obtain⟨K,R⟩:=vU z.eW m.eI (ji z.eB z.eZ.fa);have L:=Ef g.tl hc (ji z.eB z.eZ.fa) D.2;have hle:ji z.eB z.eZ.fa<=z.eB+V:=by rw[D.1,t1];omega
  have v2:Sv V d z d (sV z m):=by
   refine⟨rfl,rfl,rfl,aZ _,rfl,ax _,fun _=>ax _,fun _ _=>aZ _,fun c _=>?_,fun c Qb=>?_⟩
   ·show gU z.eW c<=(z.eW.fa m.eI (ji z.eB z.eZ.fa)).2.jz.getD c.toNat 0/\(z.eW.fa m.eI (ji z.eB z.eZ.fa)).2.jz.getD c.toNat 0+_<=_;rw[K];unfold gU;omega
   show fT (z.eW.fa m.eI (ji z.eB z.eZ.fa)).2 c<=max (fT z.eW c) (z.eB+V)/\(0<=fT z.eW c->0<=fT (z.eW.fa m.eI (ji z.eB z.eZ.fa)).2 c);rw[L c Qb];have:=j c Qb;by_cases e:c=m.eI
   ·rw[if_pos e,<- e];exact⟨ab,fun _=>ab⟩
   rw[if_neg e];exact⟨ab,fun h=>h⟩
  exact one (v1.trans v2) (qV (by show (7:Int)≠9;decide))
 |enq _ _ u q =>
  obtain⟨-,i,M⟩:=jA u
  have N:∀x∈z.eQ m.eF.toNat++[⟨m.eI,m.eK,m.data,false⟩],(x.eI,x.eK,((m.eF.toNat:Nat):Int),x.data)∈G:=fun x hx=>by
   rcases aN.1 hx with hx|hx
   ·exact f.eQ _ i x hx
   rw[aD.1 hx,M];exact hm.write q
  have O:=f.pr i N;have P:=rX (o:=m.eF.toNat) f.nq i (z.eQ m.eF.toNat++[⟨m.eI,m.eK,m.data,false⟩]);rw[aE,aQ]at P
  have v2:Sv V d z d (kW z m):=.same rfl rfl rfl (aZ _) (fun o' S e=>by
   by_cases E:o'=m.eF.toNat
   ·rw[E,show (kW z m).eQ m.eF.toNat=_ from mG f.nq i];simp
   rw[show (kW z m).eQ o'=_ from nU E];exact e) rfl rfl
  obtain⟨v,w⟩:=vT (V:=V) (s:=kW z m) hu O A (by simpa[kW]using f.nq) g.tl s1 d1 (by show _+fP {z with fi:=_}<=_;omega) i p j;exact⟨(v1.trans v2).trans v,w⟩
 |ack _ _ u =>
  have v2:Sv V d z d (pq z m):=.same rfl rfl rfl (aZ _) (fun _ _ e=>e) rfl rfl;obtain⟨v,w⟩:=vT (V:=V) hu (f.mF (z.eW.drop m.eI m.eF)) A g.h8 ⟨g.tl.nv,g.tl.ns⟩ s1 d1 (aB B ab) (jA u).2.1 p j;exact⟨(v1.trans v2).trans v,w⟩
end fS
namespace fS
open Go.RowKit fD eY fK
def kN (l l':List Rec):Prop:=∃X:List Rec,l'=l++X/\∀r∈X,0<=r.eF
theorem kN.refl (l:List Rec):kN l l:=⟨[],ae,ae⟩
variable {a b:List Rec}
theorem kN.trans {c:List Rec} (h:kN a b) (g:kN b c):kN a c:=by
 obtain⟨X,e,f⟩:=h;obtain⟨Y,i,j⟩:=g;refine⟨X++Y,by rw[i,e,bx],fun r d=>?_⟩;rcases aN.1 d with d|d
 ·exact f r d
 exact j r d
theorem kN.last (h:kN a b):j7 0 b=j7 0 a:=by
 obtain⟨X,d,f⟩:=h;rw[d,vP]
 have:∀(Y:List Rec) (e:Int),(∀r∈Y,0<=r.eF)->j7 e Y=e:=by
  intro Y
  induction Y with
  |nil=>intro e _;rfl
  |cons r Y ih =>
   intro e c
   show (if r.eF<0 then j7 (max e r.eS) Y else j7 e Y)=e
   rw[if_neg (by have:=c r aK;omega)];exact ih e fun y hy=>c y (aI _ hy)
 exact this X _ f
theorem kN.len (h:kN a b):a.length<=b.length:=by
 obtain⟨X,c,-⟩:=h;rw[c];simp
theorem kN.iI (h:kN a b) (o:Int):(iI a o).length<=(iI b o).length:=by
 obtain⟨X,c,-⟩:=h;rw[c,rI];simp
theorem NG (d:fe) (s:eA) (o:Nat) (x:Wr) (rest:List Wr) (out:List eL):kN d.eG (s.store d o x rest out).2.2.1.eG:=by
 unfold eA.store;simp only;generalize hp:d.add s.eX ⟨x.eI,x.eK,o,wrap64 ((s.value o).fq+1),x.data,0⟩=p;obtain⟨e,a,c⟩:=p
 have h:kN d.eG a.eG:=by
  rcases mS hp with⟨-,k,-⟩|⟨-,k,-⟩
  ·exact⟨_,k,fun r b=>by rw[aD.1 b];simp⟩
  rw[k];exact .refl _
 split<;>exact h
variable {o:Nat}
theorem yO:∀(f:Nat) (d:fe) (s:eA) (out:List eL),kN d.eG (eA.iu f d s o out).2.1.eG
 |0,_,_,_=>.refl _
 |f+1,d,s,out=>by
  unfold eA.iu
  cases hx:s.eQ o with
  |nil=>exact .refl _
  |cons x rest =>
   simp only;split
   ·exact .refl _
   have h:kN d.eG (s.iE d o x rest out).2.2.1.eG:=by
    unfold eA.iE;simp only;split
    ·exact .refl _
    exact NG _ _ _ _ _ _
   generalize s.iE d o x rest out=r at h⊢;split
   ·exact h.trans (yO f _ _ _)
   exact h
theorem Eh:∀(a:List Nat) (d:fe) (s:eA) (out:List eL),kN d.eG (eA.gY a d s out).2.1.eG
 | [],_,_,_=>.refl _
 |k::a,d,s,out=>by
  unfold eA.gY;simp only;exact kN.trans (yO _ d s []) (Eh a _ _ _)
theorem NH (d:fe) (s:eA) (eB:Int):kN d.eG (eA.tick d s eB).2.1.eG:=by
 unfold eA.tick;split
 ·exact .refl _
 exact Eh _ _ _ _
theorem NJ (d:fe) (s:eA) (eB:Int) (m:eL):kN d.eG (eA.take d s eB m).2.1.eG:=by
 have hv:=mV d s eB m;generalize eA.take d s eB m=r at hv⊢
 cases hv with
 |enq|ack=>exact yO _ _ _ _
 |_=>exact .refl _
def Ep (w:eC):Int:=j7 0 w.eP.eG
def qk (w:eC) (c e n:Int):Prop:=0<=e/\0<=n/\n<=200/\(e<Ep w\/(e=Ep w/\∀s,w.ff=some s->n<=gU s.eW c))
def qW (w:eC) (c e n:Int) (o:Nat) (v:Int):Prop:=∀s,w.ff=some s->e=s.eS->n=gU s.eW c->v<=fl w.eP s o
structure Env (V:Int) (w w':eC):Prop where
 le:Ep w<=Ep w'
 up:Ep w'=Ep w->∀s',w'.ff=some s'->∃s,w.ff=some s/\Sv V w.eP s w'.eP s'
 ep:∀s,w.ff=some s->s.eS=Ep w
 NK:∀s,w'.ff=some s->s.eS=Ep w'
variable {V c e n:Int} {w w':eC}
theorem qk.env (h:qk w c e n) (g:Env V w w') (hc:0<=c):qk w' c e n:=by
 obtain⟨b,d,f,a⟩:=h;have hle:=g.le;refine⟨b,d,f,?_⟩;rcases a with a|⟨a,i⟩
 ·left;omega
 by_cases e1:Ep w'=Ep w
 ·right;refine⟨a.trans e1.symm,fun j k=>?_⟩;obtain⟨s,hs,l⟩:=g.up e1 j k;exact cU (i s hs) (l.gU c hc).1
 left;omega
theorem qW.env {v:Int} (h:qW w c e n o v) (hs:qk w c e n) (g:Env V w w') (hc:0<=c) (j:o<8):qW w' c e n o v:=by
 intro f i he l;have hle:=g.le;have m:=g.NK f i;obtain⟨-,-,-,b⟩:=hs
 have heq:Ep w'=Ep w:=by
  rcases b with b|⟨b,-⟩<;>omega
 obtain⟨s,hs,d⟩:=g.up heq f i;have a:=(d.gU c hc).1
 have p:n<=gU s.eW c:=by
  rcases b with b|⟨-,k⟩
  ·omega
  exact k s hs
 exact cU (h s hs (by rw[he,d.ep]) ab) (d.fl o j)
end fS
namespace fS
open Go.RowKit fD eY fK
structure Alike (c c':eM):Prop where
 id:c'.id=c.id
 eZ:c'.eZ=c.eZ
 eS:c'.eS=c.eS
 fx:c'.fx=c.fx
 eB:c'.eB=c.eB
 fa:c'.fa=c.fa
 cache:c'.cache=c.cache
 gW:c'.gW=c.gW
 seen:c'.seen=c.seen
 call:c'.call=c.call
 fE:c'.fE=c.fE
 gL:c'.gL=c.gL
theorem Alike.refl (c:eM):Alike c c:=⟨rfl,rfl,rfl,rfl,rfl,rfl,rfl,rfl,rfl,rfl,rfl,rfl⟩
def mJ (c:eM):eL:=c.fG {iH with eO:=3,eK:=wrap64 (c.eK+1)}
theorem kO (c:eM):(wrap64 (c.fa-2)<=c.eB/\(c.fh).1=mJ c::c.asks/\Alike c c.fh.2/\c.fh.2.ij=wrap64 (c.eK+1)/\c.fh.2.iV=c.eB/\c.fh.2.eK=wrap64 (c.eK+1)) \/
 (¬wrap64 (c.fa-2)<=c.eB/\c.fh=(c.asks,c)):=by
 unfold eM.fh;split
 ·rename_i h;exact .inl ⟨h,rfl,⟨rfl,rfl,rfl,rfl,rfl,rfl,rfl,rfl,rfl,rfl,rfl,rfl⟩,rfl,rfl,rfl⟩
 rename_i h;exact .inr ⟨h,rfl⟩
theorem nY (c:eM):(c.fB=false/\c.asks=[])\/(c.fB=true/\c.asks=[c.fG {iH with eO:=c.call.eO,eK:=c.fE,eF:=c.call.eF,data:=if c.call.eO=2 then c.call.value.data else []}]):=by
 unfold eM.asks
 cases h:c.fB with
 |true=>right;simp
 |false=>left;simp
variable {c c':eM}
theorem Alike.fB (h:Alike c c'):c'.fB=c.fB:=by unfold eM.fB;rw[h.fE]
theorem Alike.cur (h:Alike c c'):iX c'=iX c:=by unfold iX;rw[h.fB,h.call,h.fE]
theorem Ei (n:Net) (t:Bool) (x:eL):(∀k,fO (gV n t [x]).l k=fO n.l k)\/(x.eO=2/\(∀k,k≠x.eI->fO (gV n t [x]).l k=fO n.l k)/\fO (gV n t [x]).l x.eI=fO n.l x.eI++[x.eK]/\(gV n t [x]).l=n.l++[⟨if t then x.eI else -1,x⟩]):=by
 by_cases a:x.eO=2
 ·unfold gV;split
  ·show (∀k,fO (n.send _).l k=fO n.l k)\/_/\(∀k,_->fO (n.send _).l k=_)/\fO (n.send _).l _=_/\(n.send _).l=_;rw[nD];split
   ·left;intro k;rfl
   right;refine⟨a,fun k b=>?_,?_,rfl⟩
   ·rw[nF,mH,if_neg (fun e=>b e.2.symm)];simp[fO]
   rw[nF,mH,if_pos ⟨a,rfl⟩];simp[fO]
  left;intro k;rfl
 left;intro k;exact pF [x] n t k fun m hm=>by rw[aD.1 hm];exact a
theorem Ej (n:Net) (t:Bool) (a:eL) (l:List eL):gV n t (a::l)=gV (gV n t [a]) t l:=by
 show (if a.right then _ else _)=gV (if a.right then _ else _) t l
 split<;>rfl
theorem vV (c:eM) (n:Net) (k:Int):fO (gV n false c.fh.1).l k=fO n.l k\/(c.fB=true/\c.call.eO=2/\k=c.id/\fO (gV n false c.fh.1).l k=fO n.l k++[c.fE]):=by
 have b:∀n:Net,fO (gV n false c.asks).l k=fO n.l k\/(c.fB=true/\c.call.eO=2/\k=c.id/\fO (gV n false c.asks).l k=fO n.l k++[c.fE]):=fun n=>by
  rcases nY c with⟨d,a⟩|⟨d,a⟩
  ·rw[a];left;rfl
  rw[a]
  rcases Ei n false (c.fG {iH with eO:=c.call.eO,eK:=c.fE,eF:=c.call.eF,data:=if c.call.eO=2 then c.call.value.data else []})with h|⟨f,a2,a3,-⟩
  ·left;exact h k
  by_cases e:k=c.id
  ·right;subst e;exact⟨d,f,rfl,a3⟩
  left;exact a2 k e
 rcases kO c with⟨-,h,-⟩|⟨-,h⟩
 ·rw[h,Ej];(have e:fO (gV n false [mJ c]).l k=fO n.l k:=pF _ _ _ _ fun m hm=>by rw[aD.1 hm];simp[mJ,eM.fG]);have:=b (gV n false [mJ c]);rw[e]at this;exact this
 rw[h];exact b n
theorem tC (c:eM) (b:c.fB=true->c.call.eO=1\/c.call.eO=2):iQ c.fh.1<=27/\(c.fh.1.map cw).sum<=13:=by
 have d:iQ c.asks<=10/\(c.asks.map cw).sum<=5:=by
  rcases nY c with⟨-,a⟩|⟨f,a⟩
  ·rw[a];simp[iQ]
  rw[a];rcases b f with e|e<;>simp[iQ,mw,cw,eM.fG,e]
 rcases kO c with⟨-,h,-⟩|⟨-,h⟩
 ·rw[h];unfold iQ at d⊢;simp only[aY,bN];(have e1:mw (mJ c)=17:=by simp[mw,mJ,eM.fG]);(have g:cw (mJ c)=8:=by simp[cw,mJ,eM.fG]);omega
 rw[h];exact⟨by simp only;omega,by simp only;omega⟩
end fS
namespace fS
open Go.RowKit fD eY fK
structure SI (V:Int) (w:eC) (s:eA):Prop where
 eB:s.eB=w.eN.getD 0 0
 eZ:s.eZ=w.eZ
 quiet:s.quiet<=s.eB+V
 fT:∀c,0<=c->0<=fT s.eW c/\fT s.eW c<=s.eB+V
 ep:s.eS=Ep w
 gU:nW w.eP s
structure CI (V:Int) (w:eC) (k:Nat) (c:eM):Prop where
 eB:c.eB=w.eN.getD (k+1) 0
 eZ:c.eZ=w.eZ
 fT:0<=c.fa/\c.fa<=c.eB+V
 lG:0<=c.iV/\c.iV<=c.eB
 fG:qk w k c.eS c.fx
 floor:∀o,o<8->qW w k c.eS c.fx o (c.kY o)
 seen:∀o:Nat,o<8->c.ke o<=(iI w.eP.eG o).length
structure NI (w:eC) (m:eL):Prop where
 fG:0<=m.eI->m.eO=8\/m.eO=9->qk w m.eI m.eS m.fx
 floor:0<=m.eI->m.eO=9->∃o:Nat,o<8/\m.eF=o/\qW w m.eI m.eS m.fx o m.fJ
variable {w:eC} {m:eL}
theorem NI.other (h8:m.eO≠8) (a:m.eO≠9):NI w m:=⟨fun _ h=>by rcases h with h|h<;>contradiction,fun _ h=>absurd h a⟩
theorem NL {d t:Int} (hd:0<=d/\d<=500) (ht:0<=t/\t<=1000):0<=short d t/\short d t<=t:=by
 unfold short;split
 ·have a:0<=t*(1000-d):=dF ht.1 ab;refine⟨Int.ediv_nonneg a ab,?_⟩;refine Int.ediv_le_of_le_mul ab ?_;exact Int.mul_le_mul_of_nonneg_left ab ht.1
 omega
theorem yP {c e n:Int} {o:Nat}:qW w c e n o 0:=fun s _ _ _=>by unfold fl;split<;>omega
variable {V:Int} {k:Nat} {c:eM}
theorem NM {G:gd} (h:CI V w k c) (hid:c.id=k) (hV:0<=V/\V<=1000) (i:0<=w.eZ.fH/\w.eZ.fH<=500) (j:w.eZ.fa=V) (C:c.eB<=1000000000) (hm:im G w.eP.eG m) (p:NI w m):CI V w k (c.take m).2:=by
 unfold eM.take;split
 ·exact h
 rename_i hc;simp only[bz,aV,not_or,bu,decide_eq_false_iff_not,Classical.not_not]at hc;obtain⟨z,D,E⟩:=jA hc.2;have q:m.eI=(k:Int):=hc.1.trans hid;have r:0<=m.eI:=ab;simp only;split
 ·rename_i d;unfold eM.lr;split
  ·exact h
  simp only;have hv:=(hm.value d).le
  have u:∀(f:List (Int×Int)),f=put m.eF (max (c.ke m.eF) m.fJ) c.seen->∀o:Nat,o<8->(fw (o:Int) f).getD 0<=(iI w.eP.eG o).length:=fun f hf o ho=>by
   rw[hf,ou];split
   ·rename_i e;have l:=h.seen o ho;unfold eM.ke at l⊢;simp only[dp];rw[e]at hv⊢;omega
   exact h.seen o ho
  split
  ·exact⟨h.eB,h.eZ,h.fT,h.lG,h.fG,h.floor,fun o ho=>u _ rfl o ho⟩
  exact⟨h.eB,h.eZ,h.fT,h.lG,h.fG,h.floor,fun o ho=>u _ rfl o ho⟩
 split
 ·split
  ·exact⟨h.eB,h.eZ,h.fT,h.lG,h.fG,h.floor,h.seen⟩
  exact h
 split
 ·split
  ·have hs:=NL i (t:=V) hV;have F:=h.lG;refine⟨h.eB,h.eZ,?_,h.lG,h.fG,h.floor,h.seen⟩;show 0<=wrap64 (c.iV+short c.eZ.fH c.eZ.fa)/\wrap64 (c.iV+short c.eZ.fH c.eZ.fa)<=c.eB+V;rw[h.eZ,j,jC ab ab];omega
  exact h
 split
 ·rename_i d;split
  ·have v:=p.fG r (.inl d);rw[q]at v;have H:=h.lG;refine⟨h.eB,h.eZ,⟨aZ _,?_⟩,h.lG,v,fun o ho=>yP,h.seen⟩;show (0:Int)<=c.eB+V;omega
  exact h
 split
 ·rename_i d;split
  ·rename_i n;simp only[aF,decide_eq_true_eq]at n;obtain⟨x,I,A,y⟩:=p.floor r d;rw[q,n.1,n.2]at y;refine⟨h.eB,h.eZ,h.fT,h.lG,h.fG,fun o ho=>?_,h.seen⟩;show qW w k c.eS c.fx o ((fw (o:Int) (put m.eF (max (c.kY m.eF) m.fJ) c.gW)).getD 0);rw[ou];split
   ·rename_i e;have B:x=o:=ab;subst B;simp only[dp];have l:=h.floor x ho;intro s hs he g;have a:=l s hs he g;have b:=y s hs he g;rw[A];omega
   exact h.floor o ho
  exact h
 exact h
theorem Ek (h:CI V w k c) (d:0<=c.eB):CI V w k c.fh.2:=by
 rcases kO c with⟨-,-,a,f,a2,-⟩|⟨-,a⟩
 ·(have e1:∀o,c.fh.2.kY o=c.kY o:=fun o=>by unfold eM.kY;rw[a.gW]);(have e:∀o,c.fh.2.ke o=c.ke o:=fun o=>by unfold eM.ke;rw[a.seen]);refine⟨a.eB.trans h.eB,a.eZ.trans h.eZ,by rw[a.fa,a.eB];exact h.fT,by rw[a2,a.eB];exact⟨d,aZ _⟩,by rw[a.eS,a.fx];exact h.fG,fun o b=>by rw[a.eS,a.fx,e1];exact h.floor o b,fun o b=>by rw[e];exact h.seen o b⟩
 rw[a];exact h
end fS
namespace fS
open Go.RowKit fD eY fK
structure iO (w w':eC) (p q:Nat):Prop where
 nb:NB w'
 ps:PS w'
 pi:Pi w'<=Pi w+p
 wn:Wn w'<=Wn w+q
variable {w w':eC}
theorem iO.refl (a:NB w) (b:PS w):iO w w 0 0:=⟨a,b,ax _,ax _⟩
variable {p q p' q' k:Nat}
theorem iO.more (h:iO w w' p q) (hp:p<=p') (a:q<=q'):iO w w' p' q':=⟨h.nb,h.ps,aB h.pi ab,aB h.wn ab⟩
theorem iO.trans {a b:eC} (h:iO w a p q) (g:iO a b p' q'):iO w b (p+p') (q+q'):=⟨g.nb,g.ps,by have:=h.pi;have:=g.pi;omega,by have:=h.wn;have:=g.wn;omega⟩
variable {b:Int} {G:gd} {c c':eM} {l:List eL}
theorem El (hi:Inv b G w) (e:NB w) (d:PS w) (hc:w.eD[k]?=some c)
 (hs:w'.ff=w.ff) (hd:w'.eP=w.eP) (h:w'.eD=w.eD.set k c') (a:w'.eH=gV w.eH false l)
 (i:∀j:Int,j≠k->fO (gV w.eH false l).l j=fO w.eH.l j)
 (hp:∀E R:List Int,E=Ew w k->R=gg w.eP.eG k->E.Nodup->gl E (fO (gV w.eH false l).l k) R (iX c')<=gl E (fO w.eH.l k) R (iX c)+p):iO w w' p (iQ l):=by
 have m:k<4:=aG (az.1 hc).1 hi.gz
 have f:∀j,gA w' j=if j=k then iX c' else gA w j:=fun j=>by
  have:=vO (w:=w) (c':=c') hc j;unfold gA at this⊢;rw[h];exact this
 (have g:∀j:Int,Ew w' j=Ew w j:=fun j=>by unfold Ew;rw[hs]);(have o:Tw w'=Tw w:=by unfold Tw;rw[hs,hd]);obtain⟨s1,s2⟩:=qU mw l w.eH false;refine⟨⟨by rw[a];exact s2 e.n200,by rw[hs];exact e.sb⟩,⟨by rw[hs,hd];exact d.sq,by rw[hs];exact d.up⟩,?_,?_⟩
 ·have:=yE (w:=w) (w':=w') (k:=k) (n:=p) (t:=0) m (fun j _ Sy=>?_) ?_ (by rw[hd,o];exact ax _)
  ·omega
  ·unfold gn;rw[g,hd,a,f,if_neg Sy,i _ ab];exact ax _
  unfold gn;rw[g,hd,a,f,if_pos rfl];(have q:gA w k=iX c:=by unfold gA;rw[hc]);rw[q];exact hp _ _ rfl rfl (qj d k)
 unfold Wn iq;rw[a,hs];show iU mw _+_<=_;unfold iQ;omega
theorem NN (h:iO w w' p q) (k:Nat):iO w (w'.gG k) p q:=by
 obtain⟨a,a2,a3⟩:=yG w' k;obtain⟨b,-,c⟩:=DZ w' k;refine⟨c h.nb,a3 h.ps,?_,by rw[b];exact h.wn⟩;(have:Pi (w'.gG k)=Pi w':=by unfold Pi;rw[a,a,a,a,a2,(qf w' k).2.2.1]);rw[this];exact h.pi
theorem tD (hi:Inv b G w) (a:NB w) (d:PS w) (k:Int):iO w (w.fh k).2 2 27:=by
 unfold eC.fh;split
 ·exact (iO.refl a d).more ab ab
 split
 ·rename_i c hc;have g:=hi.eD _ _ hc;have hm:=(tC c (fun hb=>(g.kinds hb).1)).1;have hid:c.id=(k.toNat:Int):=g.id;refine (El (c':=c.fh.2) (l:=c.fh.1) (p:=2) hi a d hc ai ai ai ai (fun j i=>?_) fun E R _ _ _=>?_).more (ax _) hm
  ·rcases vV c w.eH j with h|⟨-,-,e,-⟩
   ·exact h
   rw[hid]at e;exact absurd e i
  have f:iX c.fh.2=iX c:=by
   rcases kO c with⟨-,-,h,-⟩|⟨-,h⟩
   ·exact h.cur
   rw[h]
  rw[f];rcases vV c w.eH (k.toNat:Int)with h|⟨-,-,-,h⟩
  ·rw[h];omega
  rw[h];exact vH
 exact (iO.refl a d).more ab ab
theorem tE (hi:Inv b G w) (d:NB w) (f:PS w) {e:Int} (hc:w.eD[k]?=some c) (he:e≠0->c'=c)
 (g:e=0->∀j:Int,j≠k->fO (gV w.eH false l).l j=fO w.eH.l j)
 (hp:e=0->∀E R:List Int,E=Ew w k->R=gg w.eP.eG k->E.Nodup->gl E (fO (gV w.eH false l).l k) R (iX c')<=gl E (fO w.eH.l k) R (iX c)+p) (i:e=0->iQ l<=q):iO w (w.gJ k e l c').2 p q:=by
 unfold eC.gJ;split
 ·rename_i h;rw[he h]
  have hw:{w with eD:=w.eD.set k c}=w:=by
   have:w.eD.set k c=w.eD:=by
    obtain⟨m,hv⟩:=az.1 hc;rw[<- hv,List.set_getElem_self]
   rw[this]
  simp only;rw[hw];exact (iO.refl d f).more ab ab
 rename_i h;have a:e=0:=ab;refine NN ((El (c':=c') (l:=l) (p:=p) hi d f hc ai ai ai ai (g a) (hp a)).more (ax _) (i a)) k
end fS
namespace fS
open Go.RowKit fD eY fK
variable {b:Int} {G:gd} {w:eC}
theorem vW (hi:Inv b G w) (a:NB w) (c:PS w) (d:Pi w<=195) (k:Int):iO w (w.gS k).2 0 0:=by
 obtain⟨e,-,a3,-⟩:=yC hi a k;obtain⟨f,g⟩:=yH hi c d k;exact⟨e,f,g,a3⟩
variable {c:eM}
theorem NO {E D R:List Int} {c':eM} (a:iX c=none) (h:iX c'=none):gl E D R (iX c')<=gl E D R (iX c)+0:=by rw[a,h];exact ax _
theorem tF (h:c.fB=false):iX c=none:=by unfold iX;rw[h];rfl
theorem En (hi:Inv b G w) (a:NB w) (d:PS w) (k o:Int):iO w (w.read k o).2 0 27:=by
 unfold eC.read;split
 ·exact (iO.refl a d).more ab ab
 split
 ·rename_i c hc
  have key:((c.read o).1≠0->(c.read o).2.2=c)/\((c.read o).1=0->iX c=none/\iX (c.read o).2.2=none/\(∀m∈(c.read o).2.1,m.eO≠2)/\iQ (c.read o).2.1<=27):=by
   unfold eM.read;split
   ·exact⟨fun _=>rfl,fun h=>absurd h ae⟩
   rename_i hb;(have hb:c.fB=false:=by simpa using hb);split
   ·exact⟨fun _=>rfl,fun h=>absurd h ae⟩
   have f:∀c1:eM,c1.call.eO=1->iX (eM.ask c1).2=none/\(∀m∈(eM.ask c1).1,m.eO≠2)/\iQ (eM.ask c1).1<=27:=fun c1 Yy=>by
    unfold eM.ask;simp only;generalize PE:({c1 with eK:=wrap64 (c1.eK+1),fE:=wrap64 (c1.eK+1),gL:=c1.eB}:eM)=c2;(have e:c2.call.eO=1:=by rw[<- PE];exact Yy);(have g:iX c2=none:=by unfold iX;rw[e];simp);refine⟨?_,fun m hm=>?_,(tC c2 fun _=>.inl e).1⟩
    ·rcases kO c2 with⟨-,-,h,-⟩|⟨-,h⟩
     ·rw[h.cur];exact g
     rw[h];exact g
    have i:∀m∈c2.asks,m.eO≠2:=fun m hm=>by
     rcases nY c2 with⟨-,h⟩|⟨-,h⟩
     ·rw[h]at hm;cases hm
     rw[h]at hm;rw[aD.1 hm];simp[eM.fG,e]
    rcases kO c2 with⟨-,h,-⟩|⟨-,h⟩
    ·rw[h]at hm;rcases aH.1 hm with rfl|hm
     ·simp[mJ,eM.fG]
     exact i m hm
    rw[h]at hm;exact i m hm
   simp only;split
   ·split
    ·refine⟨fun h=>absurd rfl h,fun _=>⟨tF hb,tF hb,ae,by simp[iQ]⟩⟩
    rename_i x l _ _;exact⟨fun h=>absurd rfl h,fun _=>⟨tF hb,f {c with call:=⟨1,o,lT,false,false⟩,cache:=l} rfl⟩⟩
   exact⟨fun h=>absurd rfl h,fun _=>⟨tF hb,f {c with call:=⟨1,o,lT,false,false⟩} rfl⟩⟩
  refine tE hi a d hc key.1 (fun h j _=>pF _ _ _ _ (key.2 h).2.2.1) (fun h E R _ _ _=>?_) (fun h=>(key.2 h).2.2.2);rw[pF _ _ _ _ (key.2 h).2.2.1];exact NO (key.2 h).1 (key.2 h).2.1
 exact (iO.refl a d).more ab ab
theorem NP (hi:Inv b G w) (k:Int):(∀n∈Ew w k,∃o d,(k,n,o,d)∈G)/\∀n∈gg w.eP.eG k,∃o d,(k,n,o,d)∈G:=by
 constructor
 ·intro n a;unfold Ew at a
  cases hs:w.ff with
  |none=>rw[hs]at a;cases a
  |some s =>
   rw[hs]at a;simp only at a;have g:=hi.ff s hs;unfold gR at a;obtain⟨q,l,h⟩:=di.1 a;unfold jx at h;obtain⟨x,m,p⟩:=aW.1 h;obtain⟨t,u⟩:=bL.1 m;obtain⟨i,c,e⟩:=cX l;(have h8:i<8:=by rw[<- g.nq];exact c);(have v:s.eQ i=q:=by simp[eA.eQ,List.getD_eq_getElem?_getD,c,e]);have:=g.eQ i h8 x (by rw[v];exact t);rw[show x.eI=k by simpa using u,p]at this;exact⟨_,_,this⟩
 intro n a;unfold gg at a;obtain⟨r,y,f⟩:=dJ.1 a;split at f
 ·rename_i j;have:=hi.eG.fE r y j.1;rw[j.2,aA f]at this;exact⟨_,_,this⟩
 cases f
theorem NS (hi:Inv b G w) (hb:b<1000000) (h1:NB w) (h2:PS w) (k o:Int) (data:Bytes):iO w (w.write k o data).2 3 27:=by
 unfold eC.write;split
 ·exact (iO.refl h1 h2).more ab ab
 split
 ·rename_i c hc;have a:=hi.eD _ _ hc;have s:=oN hi hc;have hid:c.id=(k.toNat:Int):=a.id;have z:=a.low;have t:=a.high;have A:=hi.b0;have hw:wrap64 (c.eK+1)=c.eK+1:=jC ab ab;unfold eM.write;split
  ·exact abt
  rename_i f;(have f:c.fB=false:=by simpa using f);split
  ·exact abt
  split
  ·exact abt
  simp only;unfold eM.ask;simp only[hw];generalize PE:({c with call:=⟨2,o,⟨data,0⟩,false,false⟩,eK:=c.eK+1,fE:=c.eK+1,gL:=c.eB}:eM)=c2;(have q:c2.call.eO=2:=by rw[<- PE]);(have g:c2.id=(k.toNat:Int):=by rw[<- PE];exact hid);(have i:c2.fE=c.eK+1:=by rw[<- PE]);(have l:c2.fB=true:=by unfold eM.fB;rw[i];simp;omega);have d:iX c2=some (c.eK+1):=by unfold iX;rw[l,q,i];rfl
  have m:iX c2.fh.2=some (c.eK+1):=by
   rcases kO c2 with⟨-,-,h,-⟩|⟨-,h⟩
   ·rw[h.cur];exact d
   rw[h];exact d
  refine tE hi h1 h2 hc (fun h=>absurd rfl h) (fun _ j hj=>?_) (fun _ E R u v hE=>?_) (fun _=>(tC c2 fun _=>.inr q).1)
  ·rcases vV c2 w.eH j with h|⟨-,-,e,-⟩
   ·exact h
   rw[g]at e;exact absurd e hj
  rw[m,tF f];obtain⟨m1,m2⟩:=NP hi (k.toNat:Int)
  have r:c.eK+1∉E:=fun hm=>by
   rw[u]at hm;obtain⟨o',x,n⟩:=m1 _ hm;have:=a.elder _ _ _ (by rw[hid];exact n);omega
  have y:c.eK+1∉R:=fun hm=>by
   rw[v]at hm;obtain⟨o',x,n⟩:=m2 _ hm;have:=a.elder _ _ _ (by rw[hid];exact n);omega
  rcases vV c2 w.eH (k.toNat:Int)with h|⟨-,-,-,h⟩
  ·rw[h];exact M3 r
  rw[h,i];exact M1 r y
 exact (iO.refl h1 h2).more ab ab
end fS
end Go.Proofs.YtjhdaojclilakaaGreatDoor
