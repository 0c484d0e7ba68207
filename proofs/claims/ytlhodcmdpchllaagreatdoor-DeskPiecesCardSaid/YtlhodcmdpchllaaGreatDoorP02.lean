/-
  A part of the proof of the law DeskPieces: Model, View, Lasts, Idx, Tos, Clk.
-/
import Derived.RowKit
import Derived.Test.YtlhodcmdpchllaaGreatDoorHd
import Derived.Test.YtlhodcmdpchllaaGreatDoorP01
set_option maxHeartbeats 16000000
set_option maxRecDepth 1000000
namespace Go.Proofs.YtlhodcmdpchllaaGreatDoor
namespace dI
open Go.RowKit eK
abbrev Bytes:=List UInt8
def ez {K V:Type} [DecidableEq K] (k:K):List (K×V)->Option V
 | []=>none
 |(x,v)::l=>if x=k then some v else ez k l
def del {K V:Type} [DecidableEq K] (k:K):List (K×V)->List (K×V)
 | []=>[]
 |(x,v)::l=>if x=k then del k l else (x,v)::del k l
def put {K V:Type} [DecidableEq K] (k:K) (v:V) (l:List (K×V)):List (K×V):=(k,v)::del k l
def eG (n low high:Int):Bool:=decide (low<=n)&&decide (n<=high)
def short (eS term:Int):Int:=if eG eS 0 500&&eG term 0 lW then term*(1000-eS)/(1000+eS) else 0
def jQ (a b:Int):Int:=if eG a 0 lW&&eG b 0 lW then min (a+b) lW else 0
structure fE where
 data:Bytes
 dY:Int
deriving DecidableEq
def j4:fE:=⟨[],0⟩
structure eA where
 dF:Int
 ei:Int
 eS:Int
structure ga where
 dT:Int
 dF:Int
 value:fE
 over:Bool
 hit:Bool
deriving DecidableEq
def lX:ga:=⟨0,0,j4,false,false⟩
structure Rec where
 dL:Int
 dN:Int
 dF:Int
 eI:Int
 data:Bytes
 dQ:Int
deriving DecidableEq
def Rec.right (r:Rec):Bool:=
 if r.dF = -1 then gK r.dQ&&decide (r.dL=0)&&decide (r.dN=0)&&decide (r.eI=0)&&decide (r.data=[])
 else gK r.dL&&gK r.dN&&eG r.dF 0 7&&gK r.eI&&decide (r.data.length<=20)&&decide (r.dQ=0)
structure dW where
 dK:List Rec
 cut:Bool
 left:Int
def dW.cutAt (d:dW) (n:Int):dW:={d with cut:=decide (0<=n),left:=max n 0}
def dW.add (d:dW) (dU:Bool) (r:Rec):Int×dW×Bool:=
 if dU then (6,d,dU)
 else if !r.right then (1,d,dU)
 else if 200<=d.dK.length then (12,d,dU)
 else if d.cut&&decide (d.left=0) then (14,d,true)
 else (0,{d with dK:=d.dK++[r],left:=wrap64 (d.left-1)},dU)
structure eY where
 fN:List ((Int×Int)×Int)
 jo:List Int
 j7:List Int
def eY.new:eY:=⟨[],[0,0,0,0],[0,0,0,0]⟩
def eX (c:Int):Bool:=eG c 0 3
def eT (o:Int):Bool:=eG o 0 7
def eY.dF (t:eY) (c o u:Int):Int×eY:=
 if eX c&&eT o&&eG u 0 lW then (0,{t with fN:=put (c,o) (max ((ez (c,o) t.fN).getD 0) u) t.fN}) else (2,t)
def eY.ei (t:eY) (c u:Int):Int×eY:=
 if eX c&&eG u 0 lW then (0,{t with jo:=t.jo.set c.toNat (max (t.jo.getD c.toNat 0) u)}) else (2,t)
def eY.holds (t:eY) (o dE c:Int):Bool:=match ez (c,o) t.fN with|some u=>decide (dE<u)|none=>false
def eY.gr (t:eY) (o dE:Int):List Int:=[0,1,2,3].filter (t.holds o dE)
def eY.iJ (t:eY) (c dE:Int):Bool:=eX c&&decide (dE<t.jo.getD c.toNat 0)
def eY.drop (t:eY) (c o:Int):eY:={t with fN:=del (c,o) t.fN}
def eY.flush (t:eY) (c:Int):Int×eY:=
 if eX c then (0,{fN:=t.fN.filter (fun e=>!decide (e.1.1=c)),jo:=t.jo.set c.toNat 0,j7:=t.j7.set c.toNat (wrap64 (t.j7.getD c.toNat 0+1))}) else (2,t)
def eY.fj (t:eY) (c:Int):Int:=if eX c then t.j7.getD c.toNat 0 else 0
structure gd where
 dF:Int
 value:fE
 fO:Int
abbrev Cache:=List gd
def Cache.drop (c:Cache) (o:Int):Cache:=c.eraseP (fun x=>decide (x.dF=o))
def Cache.put (c:Cache) (o:Int) (v:fE) (u:Int):Cache:=
 let l:=c.drop o
 (if l.length=6 then List.drop 1 l else l)++[⟨o,v,u⟩]
def Cache.get (c:Cache) (o:Int):Option gd×Cache:=
 match c.find? (fun x=>decide (x.dF=o))with
 |some x=>(some x,c.drop o++[x])
 |none=>(none,c)
structure gL where
 to:Int
 gJ:dH
structure Net where
 l:List gL
 lost:Int
def Net.send (n:Net) (g:gL):Net:=if 200<=n.l.length then {n with lost:=wrap64 (n.lost+1)} else {n with l:=n.l++[g]}
def gg:dH:=⟨0,0,0,0,0,0,0,false,[]⟩
structure Wr where
 dL:Int
 dN:Int
 data:Bytes
 gC:Bool
structure dC where
 eJ:eA
 dU:Bool
 values:List fE
 eQ:List (List Wr)
 done:List (Int×dH)
 eo:eY
 dQ:Int
 quiet:Int
 dE:Int
 fa:Int
def dC.value (s:dC) (o:Nat):fE:=s.values.getD o j4
def dC.dX (s:dC) (o:Nat):List Wr:=s.eQ.getD o []
def dC.eL (s:dC) (m:dH):dH:={m with dQ:=s.dQ,fj:=s.eo.fj m.dL}
def dC.jl (s:dC) (m:dH):Bool:=eX m.dL&&decide (m.dQ=s.dQ)&&decide (m.fj=s.eo.fj m.dL)
def half:Int:=549755813888
def dC.at_ (s:dC) (dE:Int):dC:={s with dE:=max s.dE (min dE half)}
def dC.iK (s:dC) (r:Rec):dC×dH:=
 let m:dH:={gg with dT:=6,dL:=r.dL,dN:=r.dN,dF:=r.dF,eI:=r.eI}
 ({s with values:=s.values.set r.dF.toNat ⟨r.data,r.eI⟩,done:=put r.dL m s.done},m)
def dC.gv (s:dC) (c:Int) (o:Nat):dH:=s.eL {gg with dT:=9,dL:=c,dF:=o,eI:=wrap64 ((s.value o).dY+1)}
def dC.jz (s:dC) (c:Int):dH:=s.eL {gg with dT:=8,dL:=c}
def lY (t:eY) (l:List Int):eY:=l.foldl (fun t c=>(t.flush c).2) t
def dC.answer (s:dC) (e:Int) (r:Rec):dC×dH:=
 if e=0 then s.iK r
 else
  let m:dH:={gg with dT:=6,dL:=r.dL,dN:=r.dN,dF:=r.dF}
  ({s with done:=put r.dL m s.done},m)
def dC.store (d:dW) (s:dC) (o:Nat) (w:Wr) (rest:List Wr) (out:List dH):Bool×List dH×dW×dC:=
 let r:Rec:=⟨w.dL,w.dN,o,wrap64 ((s.value o).dY+1),w.data,0⟩
 let p:=d.add s.dU r
 if p.1=14 then (false,[],p.2.1,{s with dU:=p.2.2})
 else
  let a:=dC.answer {s with dU:=p.2.2} p.1 r
  (true,out++[a.1.eL a.2],p.2.1,{a.1 with eQ:=a.1.eQ.set o rest})
def dC.jA (d:dW) (s:dC) (o:Nat) (w:Wr) (rest:List Wr) (out:List dH):Bool×List dH×dW×dC:=
 let gr:=s.eo.gr o s.dE
 let out:=if w.gC then out else out++gr.map fun c=>s.gv c o
 let s:={s with eQ:=s.eQ.set o ({w with gC:=true}::rest)}
 if decide (s.dE<s.quiet)||gr.any (fun c=>s.eo.iJ c s.dE) then (false,out,d,s)
 else dC.store d {s with eo:=lY s.eo gr} o w rest out
def dC.jd:Nat->dW->dC->Nat->List dH->List dH×dW×dC
 |0,d,s,_,out=>(out,d,s)
 |f+1,d,s,o,out =>
  match s.dX o with
  | []=>(out,d,s)
  |w::rest =>
   if s.dU then (out,d,s)
   else
    let r:=s.jA d o w rest out
    if r.1 then dC.jd f r.2.2.1 r.2.2.2 o r.2.1 else r.2
def dC.fA (d:dW) (s:dC) (o:Nat):List dH×dW×dC:=dC.jd ((s.dX o).length+1) d s o []
def dC.reads (s:dC) (m:dH):List dH×dC:=
 let o:=m.dF.toNat
 let v:=s.value o
 let r:=s.eL {gg with dT:=5,dL:=m.dL,dN:=m.dN,dF:=m.dF,eI:=v.dY,data:=v.data}
 if !s.jl m then ([r,s.jz m.dL],s)
 else if (s.dX o).isEmpty then
  let p:=s.eo.dF m.dL m.dF (jQ s.dE s.eJ.dF)
  ([{r with fu:=decide (p.1=0)}],{s with eo:=p.2})
 else ([r],s)
def dC.pending (s:dC) (c:Int):List Nat:=(List.range 8).filter fun k=>!(s.dX k).isEmpty&&(s.eo.gr k s.dE).contains c
def dC.iq (s:dC) (m:dH):List dH×dC:=
 if !s.jl m then ([s.jz m.dL],s)
 else
  let out:=(s.pending m.dL).map fun k=>s.gv m.dL k
  if !out.isEmpty then (out,s)
  else
   let s:={s with eo:=(s.eo.ei m.dL (jQ s.dE s.eJ.ei)).2}
   ([s.eL {gg with dT:=7,dL:=m.dL,dN:=m.dN}],s)
def dC.nF (d:dW) (s:dC) (m:dH):List dH×dW×dC:=
 let o:=m.dF.toNat
 if !s.jl m||(s.dX o).isEmpty||!decide (m.eI=wrap64 ((s.value o).dY+1)) then ([],d,s)
 else dC.fA d {s with eo:=s.eo.drop m.dL m.dF} o
def dC.enqueue (d:dW) (s:dC) (m:dH):List dH×dW×dC:=
 let o:=m.dF.toNat
 if s.eQ.any (fun q=>q.any fun w=>decide (w.dL=m.dL)&&decide (m.dN<=w.dN)) then ([],d,s)
 else if 10<=(s.dX o).length||decide (20<m.data.length) then ([],d,s)
 else dC.fA d {s with eQ:=s.eQ.set o (s.dX o++[⟨m.dL,m.dN,m.data,false⟩])} o
def dC.j5 (d:dW) (s:dC) (m:dH):List dH×dW×dC:=
 match ez m.dL s.done with
 |some x=>if m.dN<=x.dN then (if m.dN<x.dN then ([],d,s) else ([s.eL x],d,s)) else dC.enqueue d s m
 |none=>dC.enqueue d s m
def dC.take (d:dW) (s:dC) (dE:Int) (m:dH):List dH×dW×dC:=
 if s.dU||!eX m.dL||!eT m.dF then ([],d,s)
 else
  let s:=s.at_ dE
  if m.dT=1 then ((s.reads m).1,d,(s.reads m).2)
  else if m.dT=2 then dC.j5 d s m
  else if m.dT=3 then ((s.iq m).1,d,(s.iq m).2)
  else if m.dT=4 then dC.nF d s m
  else ([],d,s)
def dC.mW:List Nat->dW->dC->List dH->List dH×dW×dC
 | [],d,s,out=>(out,d,s)
 |k::ks,d,s,out =>
  let r:=dC.fA d s k
  dC.mW ks r.2.1 r.2.2 (out++r.1)
def dC.tick (d:dW) (s:dC) (dE:Int):List dH×dW×dC:=
 if s.dU then ([],d,s) else dC.mW (List.range 8) d (s.at_ dE) []
def ku (t:eA):Bool:=decide (1<=t.ei)&&decide (t.ei<=t.dF)&&decide (t.dF<=274877906944)&&eG t.eS 0 500
def dC.gX (s:dC):List Rec->dC
 | []=>s
 |r::l=>if r.dF<0 then dC.gX {s with dQ:=max s.dQ r.dQ} l else dC.gX (s.iK r).1 l
def dC.blank (t:eA) (dE:Int):dC:=⟨t,false,List.replicate 8 j4,List.replicate 8 [],[],eY.new,0,0,dE,-1⟩
def dC.new (t:eA) (d:dW) (dE:Int):Int×dW×Option dC:=
 if !ku t||!eG dE 0 half then (2,d,none)
 else
  let s:=(dC.blank t dE).gX d.dK;let s:={s with dQ:=wrap64 (s.dQ+1)}
  let s:=if 1<s.dQ then {s with quiet:=dE+t.ei} else s
  let p:=d.add false ⟨0,0,-1,0,[],s.dQ⟩
  if p.1=0 then (0,p.2.1,some s) else (p.1,p.2.1,none)
structure dJ where
 id:Int
 eJ:eA
 dN:Int
 dQ:Int
 fj:Int
 dE:Int
 ei:Int
 cache:Cache
 fG:List (Int×Int)
 seen:List (Int×Int)
 call:ga
 fc:Int
 fL:Int
 gh:Int
 jC:Int
def dJ.new (id:Int) (t:eA) (eW dE:Int):Option dJ:=
 if eX id&&eG eW 0 1000&&eG dE 0 half&&eG t.eS 0 500&&eG t.dF 0 274877906944&&eG t.ei 0 274877906944 then
  some ⟨id,t,eW*1048576,0,0,dE,0,[],[],[],lX,0,0,0,0⟩
 else none
def dJ.at_ (c:dJ) (dE:Int):dJ:={c with dE:=max c.dE (min dE half)}
def dJ.iJ (c:dJ):Bool:=decide (c.dE<c.ei)
def dJ.fX (c:dJ):Bool:=decide (c.fc≠0)
def dJ.eL (c:dJ) (m:dH):dH:={m with dL:=c.id,dQ:=c.dQ,fj:=c.fj}
def dJ.asks (c:dJ):List dH:=
 if c.fX then [c.eL {gg with dT:=c.call.dT,dN:=c.fc,dF:=c.call.dF,data:=if c.call.dT=2 then c.call.value.data else []}] else []
def dJ.eV (c:dJ):List dH×dJ:=
 if wrap64 (c.ei-2)<=c.dE then
  let n:=wrap64 (c.dN+1);let c:={c with dN:=n,gh:=n,jC:=c.dE}
  ([c.eL {gg with dT:=3,dN:=n}]++c.asks,c)
 else (c.asks,c)
def dJ.mX (c:dJ) (o:Int):Int:=(ez o c.seen).getD 0
def dJ.mD (c:dJ) (o:Int):Int:=(ez o c.fG).getD 0
def dJ.ask (c:dJ):List dH×dJ:=
 let n:=wrap64 (c.dN+1)
 dJ.eV {c with dN:=n,fc:=n,fL:=c.dE}
def dJ.read (c:dJ) (o:Int):Int×List dH×dJ:=
 if c.fX then (6,[],c)
 else if !eT o then (2,[],c)
 else
  let call:ga:=⟨1,o,j4,false,false⟩
  match c.cache.get o with
  |(some x,k) =>
   let c:={c with call:=call,cache:=k}
   if decide (c.dE<x.fO)&&c.iJ&&decide (c.mX o<=x.value.dY) then
    (0,[],{c with call:={call with value:=x.value,over:=true,hit:=true} })
   else (0,c.ask)
  |(none,_)=>(0,dJ.ask {c with call:=call})
def dJ.write (c:dJ) (o:Int) (data:Bytes):Int×List dH×dJ:=
 if c.fX then (6,[],c)
 else if !eT o then (2,[],c)
 else if 20<data.length then (4,[],c)
 else (0,dJ.ask {c with call:=⟨2,o,⟨data,0⟩,false,false⟩})
def dJ.ends (c:dJ) (fL term:Int):Int:=wrap64 (fL+short c.eJ.eS term)
def dJ.lD (c:dJ) (m:dH) (same:Bool):dJ:=
 if !c.fX||!decide (m.dN=c.fc)||!decide (c.call.dT=1)||!decide (c.call.dF=m.dF) then c
 else
  let v:fE:=⟨m.data,m.eI⟩
  let c:=if same&&m.fu&&decide (c.mD m.dF<=m.eI) then {c with cache:=c.cache.put m.dF v (c.ends c.fL c.eJ.dF)} else c
  {c with seen:=put m.dF (max (c.mX m.dF) m.eI) c.seen,call:={c.call with value:=v,over:=true},fc:=0}
def dJ.take (c:dJ) (m:dH):List dH×dJ:=
 if !decide (m.dL=c.id)||!eT m.dF then ([],c)
 else
  let same:=decide (m.dQ=c.dQ)&&decide (m.fj=c.fj)
  if m.dT=5 then ([],c.lD m same)
  else if m.dT=6 then
   if c.fX&&decide (m.dN=c.fc)&&decide (c.call.dT=2) then
    ([],{c with call:={c.call with value:={c.call.value with dY:=m.eI},over:=true},fc:=0})
   else ([],c)
  else if m.dT=7 then
   if same&&decide (c.gh≠0)&&decide (m.dN=c.gh) then ([],{c with ei:=c.ends c.jC c.eJ.ei,gh:=0}) else ([],c)
  else if m.dT=8 then
   if decide (c.dQ<m.dQ)||decide (m.dQ=c.dQ)&&decide (c.fj<m.fj) then
    ([],{c with dQ:=m.dQ,fj:=m.fj,ei:=0,gh:=0,cache:=[],fG:=[]})
   else ([],c)
  else if m.dT=9 then
   if same then
    let c:={c with cache:=c.cache.drop m.dF,fG:=put m.dF (max (c.mD m.dF) m.eI) c.fG}
    ([c.eL {gg with dT:=4,dF:=m.dF,eI:=m.eI}],c)
   else ([],c)
  else ([],c)
structure fB where
 dL:Int
 call:ga
 mF:Int
 ended:Int
 eW:Int
structure dB where
 eJ:eA
 eM:dW
 eD:Option dC
 dG:List dJ
 eH:List Int
 ee:List Int
 dM:Net
 ef:List fB
 eC:List Int
 step:Int
def lE (t:eA):Nat->Nat->Option (List dJ)
 |_,0=>some []
 |k,n+1=>match dJ.new k t 0 0,lE t (k+1) n with
  |some c,some l=>some (c::l)
  |_,_=>none
def dB.new (t:eA) (n:Int):Int×Option dB:=
 if !eG n 1 4 then (2,none)
 else match dC.new t ⟨[],false,0⟩ 0 with
  |(_,d,some s) =>
   match lE t 0 n.toNat with
   |some cs=>(0,some ⟨t,d,some s,cs,List.replicate n.toNat 0,List.replicate (n.toNat+1) 0,⟨[],0⟩,[],List.replicate n.toNat (-1),0⟩)
   |none=>(2,none)
  |(e,_,none)=>(e,none)
def dB.eR (w:dB):dB:={w with step:=wrap64 (w.step+1)}
def j6 (n:Net) (Mq:Bool):List dH->Net
 | []=>n
 |m::l=>if m.right then j6 (n.send ⟨if Mq then m.dL else -1,m⟩) Mq l else j6 n Mq l
def dB.fK (w:dB) (Mq:Bool) (l:List dH):dB:={w with dM:=j6 w.dM Mq l}
def dB.ir (w:dB) (k:Nat):dB:=
 match w.dG[k]?,w.eC[k]? with
 |some c,some e =>
  if decide (0<=e)&&!c.fX then
   match w.ef[e.toNat]? with
   |some x=>{w with ef:=w.ef.set e.toNat {x with call:=c.call,ended:=w.step},eC:=w.eC.set k (-1)}
   |none=>w
  else w
 |_,_=>w
def dB.right (w:dB) (k:Int):Bool:=decide (0<=k)&&decide (k<w.dG.length)
def dB.fI (w:dB) (k:Nat) (e:Int) (l:List dH) (c:dJ):Int×dB:=
 if e≠0 then (e,{w with dG:=w.dG.set k c})
 else
  let w:={w with dG:=w.dG.set k c}.eR;let w:={w with eC:=w.eC.set k w.ef.length,ef:=w.ef++[fB.mk k c.call w.step 0 (w.eH.getD k 0)]}
  (0,(w.fK false l).ir k)
def dB.read (w:dB) (k o:Int):Int×dB:=
 if !w.right k then (2,w)
 else match w.dG[k.toNat]? with
  |some c=>w.fI k.toNat (c.read o).1 (c.read o).2.1 (c.read o).2.2
  |none=>(2,w)
def dB.write (w:dB) (k o:Int) (data:Bytes):Int×dB:=
 if !w.right k then (2,w)
 else match w.dG[k.toNat]? with
  |some c=>w.fI k.toNat (c.write o data).1 (c.write o data).2.1 (c.write o data).2.2
  |none=>(2,w)
def dB.eV (w:dB) (k:Int):Int×dB:=
 if !w.right k then (2,w)
 else match w.dG[k.toNat]? with
  |some c=>(0,{w with dG:=w.dG.set k.toNat c.eV.2}.eR.fK false c.eV.1)
  |none=>(2,w)
def dB.iu (w:dB):dB:=match w.eD with|some s=>if s.dU then {w with eD:=none} else w|none=>w
def dB.gw (w:dB) (k:Int):Int×dB:=
 if !(decide (0<=k)&&decide (k<w.dM.l.length)) then (2,w)
 else match w.dM.l[k.toNat]? with
  |none=>(2,w)
  |some g =>
   let w:={w with dM:={w.dM with l:=w.dM.l.eraseIdx k.toNat} }.eR
   if g.to<0 then
    match w.eD with
    |none=>(0,w)
    |some s =>
     let r:=dC.take w.eM s (w.ee.getD 0 0) g.gJ
     (0,({w with eM:=r.2.1,eD:=some r.2.2}.fK true r.1).iu)
   else match w.dG[g.to.toNat]? with
    |some c=>(0,({w with dG:=w.dG.set g.to.toNat (c.take g.gJ).2}.fK false (c.take g.gJ).1).ir g.to.toNat)
    |none=>(0,w)
def dB.gT (w:dB) (k:Int):Int×dB:=
 if !(decide (0<=k)&&decide (k<w.dM.l.length)) then (2,w) else (0,{w with dM:={w.dM with l:=w.dM.l.eraseIdx k.toNat} })
def dB.gU (w:dB) (k:Int):Int×dB:=
 if !(decide (0<=k)&&decide (k<w.dM.l.length)) then (2,w) else
  match w.dM.l[k.toNat]? with
  |some g=>(0,{w with dM:=w.dM.send g})
  |none=>(2,w)
def iv:List Int->List Int->List Int
 |c::cs,n::ns=>min (c+n) half::iv cs ns
 |_,_=>[]
def gG:List dJ->List Int->List dJ
 |c::cs,n::ns=>c.at_ n::gG cs ns
 |cs,[]=>cs
 | [],_=>[]
def dB.fA (w:dB) (by_:List Int):Int×dB:=
 if by_.length≠w.ee.length then (2,w)
 else if by_.any (fun n=>!eG n 0 137438953472) then (2,w)
 else
  let ee:=iv w.ee by_;let w:={w with ee:=ee,dG:=gG w.dG ee.tail}.eR
  match w.eD with
  |none=>(0,w)
  |some s =>
   let r:=dC.tick w.eM s (ee.getD 0 0)
   (0,({w with eM:=r.2.1,eD:=some r.2.2}.fK true r.1).iu)
def dB.kN (w:dB) (j5 fa:Int):dB:=
 {w with eM:=w.eM.cutAt (max j5 0),eD:=w.eD.map fun s=>{s with fa:=fa} }
def dB.oZ (w:dB):dB:={w.eR with eD:=none}
def dB.gx (w:dB):Int×dB:=
 match w.eD with
 |some _=>(6,w)
 |none =>
  let w:=w.eR;let r:=dC.new w.eJ (w.eM.cutAt (-1)) (w.ee.getD 0 0)
  (r.1,{w with eM:=r.2.1,eD:=r.2.2})
def dB.gV (w:dB) (k:Int):Int×dB:=
 if !w.right k then (2,w)
 else match dJ.new k w.eJ (wrap64 (w.eH.getD k.toNat 0+1)) (w.ee.getD (k.toNat+1) 0)with
  |none=>(2,w)
  |some c=>(0,{w with eH:=w.eH.set k.toNat (wrap64 (w.eH.getD k.toNat 0+1)),dG:=w.dG.set k.toNat c,eC:=w.eC.set k.toNat (-1)}.eR)
def dB.iL:Nat->dB->dB
 |0,w=>w
 |f+1,w=>if w.dM.l.isEmpty then w else dB.iL f (w.gw 0).2
def dB.jB (w:dB):dB:=dB.iL 1000 w
def dB.jm:List Nat->dB->dB
 | [],w=>w
 |k::ks,w=>dB.jm ks (w.eV k).2.jB
def dB.round (w:dB):dB:=
 let w:=w.gx.2;let w:=dB.jm (List.range w.dG.length) w
 (w.fA (List.replicate w.ee.length 1)).2.jB
def dB.iw:Nat->dB->dB
 |0,w=>w
 |n+1,w=>dB.iw n w.round
def dB.vg (w:dB) (rounds:Int):dB:=dB.iw rounds.toNat w
def dB.valueOf (w:dB) (o:Int):Int×fE:=
 match w.eD with
 |none=>(6,j4)
 |some s=>if eT o then (0,s.value o.toNat) else (2,j4)
def p5 (z:dC) (m:dH):dH:=z.eL {gg with dT:=5,dL:=m.dL,dN:=m.dN,dF:=m.dF,eI:=(z.value m.dF.toNat).dY,data:=(z.value m.dF.toNat).data}
def FM (z:dC) (m:dH):dH:=z.eL {gg with dT:=7,dL:=m.dL,dN:=m.dN}
def yz (z:dC) (m:dH):dC:={z with eo:=(z.eo.ei m.dL (jQ z.dE z.eJ.ei)).2}
def FO (z:dC) (m:dH):dC:={z with eo:=(z.eo.dF m.dL m.dF (jQ z.dE z.eJ.dF)).2}
def FP (z:dC) (m:dH):dC:={z with eQ:=z.eQ.set m.dF.toNat (z.dX m.dF.toNat++[⟨m.dL,m.dN,m.data,false⟩])}
def FQ (z:dC) (m:dH):dC:={z with eo:=z.eo.drop m.dL m.dF}
inductive TV (d:dW) (s z:dC) (m:dH):List dH×dW×dC->Prop
 |off:s.dU=true\/eX m.dL=false\/eT m.dF=false->TV d s z m ([],d,s)
 |idle:s.dU=false->eX m.dL=true->eT m.dF=true->TV d s z m ([],d,z)
 |done (x:dH):s.dU=false->eX m.dL=true->eT m.dF=true->m.dT=2->ez m.dL z.done=some x->m.dN=x.dN->TV d s z m ([z.eL x],d,z)
 |read:s.dU=false->eX m.dL=true->eT m.dF=true->m.dT=1->z.jl m=true->z.dX m.dF.toNat≠[]->TV d s z m ([p5 z m],d,z)
 |flush1:s.dU=false->eX m.dL=true->eT m.dF=true->m.dT=1->z.jl m=false->TV d s z m ([p5 z m,z.jz m.dL],d,z)
 | fu:s.dU=false->eX m.dL=true->eT m.dF=true->m.dT=1->z.jl m=true->z.dX m.dF.toNat=[] ->
    TV d s z m ([{p5 z m with fu:=decide ((z.eo.dF m.dL m.dF (jQ z.dE z.eJ.dF)).1=0)}],d,FO z m)
 |flush3:s.dU=false->eX m.dL=true->eT m.dF=true->m.dT=3->z.jl m=false->TV d s z m ([z.jz m.dL],d,z)
 |wait:s.dU=false->eX m.dL=true->eT m.dF=true->m.dT=3->z.jl m=true->z.pending m.dL≠[]->TV d s z m ((z.pending m.dL).map fun k=>z.gv m.dL k,d,z)
 |vol:s.dU=false->eX m.dL=true->eT m.dF=true->m.dT=3->z.jl m=true->z.pending m.dL=[]->TV d s z m ([FM (yz z m) m],d,yz z m)
 |enq:s.dU=false->eX m.dL=true->eT m.dF=true->m.dT=2->(∀x,ez m.dL z.done=some x->x.dN<m.dN)->(z.eQ.any (fun q=>q.any fun w=>decide (w.dL=m.dL)&&decide (m.dN<=w.dN)))=false->(z.dX m.dF.toNat).length<10->m.data.length<=20->TV d s z m (dC.fA d (FP z m) m.dF.toNat)
 |ack:s.dU=false->eX m.dL=true->eT m.dF=true->m.dT=4->z.jl m=true->z.dX m.dF.toNat≠[]->TV d s z m (dC.fA d (FQ z m) m.dF.toNat)
theorem yA (d:dW) (s:dC) (dE:Int) (m:dH):TV d s (s.at_ dE) m (dC.take d s dE m):=by
 unfold dC.take;by_cases hc:(s.dU||!eX m.dL||!eT m.dF)=true
 ·rw[if_pos hc];refine .off ?_;simpa[or_assoc]using hc
 rw[if_neg hc];simp only[bF,a8,not_or,bS,Bool.not_eq_true]at hc;obtain⟨⟨h1,h2⟩,h3⟩:=hc;generalize s.at_ dE=z;simp only;split
 ·rename_i hk;unfold dC.reads;simp only
  cases hn:z.jl m with
  |false=>exact .flush1 h1 h2 h3 hk hn
  |true =>
   cases hq:z.dX m.dF.toNat with
   |nil=>exact .fu h1 h2 h3 hk hn hq
   |cons x q=>exact .read h1 h2 h3 hk hn (by rw[hq];simp)
 split
 ·rename_i hk
  have he:(∀x,ez m.dL z.done=some x->x.dN<m.dN)->TV d s z m (dC.enqueue d z m):=fun hx=>by
   unfold dC.enqueue;simp only;split
   ·exact .idle h1 h2 h3
   rename_i ha;split
   ·exact .idle h1 h2 h3
   rename_i hb;simp only[bF,decide_eq_true_eq,not_or]at hb;exact .enq h1 h2 h3 hk hx (by simpa using ha) (by omega) (by omega)
  unfold dC.j5;split
  ·rename_i x hx;split
   ·split
    ·exact .idle h1 h2 h3
    exact .done x h1 h2 h3 hk hx (by omega)
   exact he fun y hy=>by rw[hx]at hy;rw[<- aw hy];omega
  rename_i hx;exact he fun y hy=>by rw[hx]at hy;cases hy
 split
 ·rename_i hk;unfold dC.iq
  cases hn:z.jl m with
  |false=>exact .flush3 h1 h2 h3 hk hn
  |true =>
   simp only[dh,bK,if_false]
   cases hp:z.pending m.dL with
   |nil=>exact .vol h1 h2 h3 hk hn hp
   |cons x q =>
    rw[if_pos (by simp),<- hp];exact .wait h1 h2 h3 hk hn (by rw[hp];simp)
 split
 ·rename_i hk;unfold dC.nF;simp only;split
  ·exact .idle h1 h2 h3
  rename_i hb;simp only[bF,a8,not_or,bS,cR]at hb;exact .ack h1 h2 h3 hk hb.1.1 hb.1.2
 exact .idle h1 h2 h3
end dI
namespace eU
open Go.RowKit eK dI
theorem p6 {n:Int} (h1 : -9223372036854775808<=n) (h2:n<=9223372036854775807):wrap64 n=n:=by unfold wrap64;omega
def iz (l:List Rec) (o:Int):List Bytes:=l.filterMap fun r=>if r.dF=o then some r.data else none
theorem yB (a b:List Rec) (o:Int):iz (a++b) o=iz a o++iz b o:=by simp[iz]
theorem yC (l:List Rec) (r:Rec):iz (l++[r]) r.dF=iz l r.dF++[r.data]:=by simp[iz]
theorem rJ (l:List Rec) (r:Rec) (o:Int) (h:r.dF≠o):iz (l++[r]) o=iz l o:=by simp[iz,h]
theorem yD (l:List Rec) (o:Int):(iz l o).length<=l.length:=List.length_filterMap_le _ _
def kq (l:List Rec) (o v:Int) (d:Bytes):Prop:=(v=0/\d=[])\/(1<=v/\(iz l o)[v.toNat-1]?=some d)
theorem kq.more {l:List Rec} {o v:Int} {d:Bytes} (h:kq l o v d) (r:List Rec):kq (l++r) o v d:=by
 rcases h with h|⟨h1,h2⟩
 ·exact .inl h
 refine .inr ⟨h1,?_⟩;rw[yB,aV (ar.1 h2).1];exact h2
theorem kq.same {l:List Rec} {o v:Int} {d d':Bytes} (h:kq l o v d) (h':kq l o v d'):d=d':=by
 rcases h with⟨h1,h2⟩|⟨h1,h2⟩<;>rcases h' with⟨h3,h4⟩|⟨h3,h4⟩
 ·rw[h2,h4]
 ·omega
 ·omega
 exact aw (h2.symm.trans h4)
def gZ (l:List Rec) (o:Int):fE:=⟨(iz l o).getLastD [],(iz l o).length⟩
theorem tK (l:List Rec) (o:Int):kq l o (gZ l o).dY (gZ l o).data:=by
 unfold gZ
 cases h:iz l o with
 |nil=>left;simp
 |cons a t =>
  right;simp only[aJ];refine⟨by omega,?_⟩;rw[h,show ((t.length+1:Nat):Int).toNat-1=t.length from by omega];rw[List.getLastD_cons,List.getElem?_cons]
  cases t with
  |nil=>simp
  |cons b t=>simp[List.getLastD_eq_getLast?,List.getLast?_eq_getElem?]
theorem FR (l:List Rec) (o:Int):(gZ l o).data=[]\/∃r∈l,r.data=(gZ l o).data:=by
 unfold gZ
 cases h:iz l o with
 |nil=>left;rfl
 |cons a t =>
  right
  have h1:(a::t).getLastD []∈iz l o:=by
   rw[h,List.getLastD_cons,List.getLastD_eq_getLast?]
   cases t with
   |nil=>simp
   |cons b t=>simp[List.getLast?_eq_getElem?]
  unfold iz at h1;obtain⟨r,h2,h3⟩:=dy.1 h1;split at h3
  ·exact⟨r,h2,aw h3⟩
  cases h3
def pq (l:List Rec):Prop:=∀(a:List Rec) (r:Rec) (b:List Rec),l=a++r::b->0<=r.dF->r.eI=((iz a r.dF).length:Int)+1
theorem pq.add {l:List Rec} (h:pq l) {r:Rec} (hr:0<=r.dF->r.eI=((iz l r.dF).length:Int)+1):pq (l++[r]):=by
 intro a x b e ho;rcases List.eq_nil_or_concat b with rfl|⟨b',y,rfl⟩
 ·obtain⟨rfl,e2⟩:=List.append_inj' e rfl;(obtain rfl:r=x:=by simpa using e2);exact hr ho
 (have e':l++[r]=(a++x::b')++[y]:=by rw[e];simp);obtain⟨rfl,_⟩:=List.append_inj' e' rfl;exact h a x b' rfl ho
theorem pq.known {l:List Rec} (h:pq l) {r:Rec} (hr:r∈l) (ho:0<=r.dF):kq l r.dF r.eI r.data:=by
 obtain⟨a,b,rfl⟩:=List.append_of_mem hr;have hv:=h a r b rfl ho;right;refine⟨by omega,?_⟩;rw[hv,show ((iz a r.dF).length+1:Int).toNat-1=(iz a r.dF).length from by omega,yB];rw[aL (aq _),cX];simp[iz]
abbrev eF:=List (Int×Int×Int×Bytes)
structure pr (G:eF):Prop where
 same:∀c n o d o' d',(c,n,o,d)∈G->(c,n,o',d')∈G->o=o'/\d=d'
 small:∀c n o d,(c,n,o,d)∈G->(0<=c/\c<=3)/\(1<=n/\n<=1099511627776)/\(0<=o/\o<=7)/\d.length<=20
structure iT (G:eF) (l:List Rec):Prop where
 len:l.length<=200
 qf:pq l
 fc:∀r∈l,0<=r.dF->(r.dL,r.dN,r.dF,r.data)∈G
 high:∀r∈l,-1<=r.dF/\r.dF<=7
 short:∀r∈l,r.data.length<=20
theorem FT {G:eF} {l:List Rec} (h:iT G l) (o:Int):(gZ l o).data.length<=20:=by
 rcases FR l o with h1|⟨r,h1,h2⟩
 ·rw[h1];simp
 rw[<- h2];exact h.short r h1
structure fM (G:eF) (l:List Rec) (m:dH):Prop where
 write:m.dT=2->(m.dL,m.dN,m.dF,m.data)∈G
 value:m.dT=5->kq l m.dF m.eI m.data
 done:m.dT=6->m.eI=0\/∃r∈l,0<=r.dF/\r.dL=m.dL/\r.dN=m.dN/\r.eI=m.eI
 short:m.data.length<=20
theorem fM.more {G:eF} {l:List Rec} {m:dH} (h:fM G l m) (r:List Rec) (g:eF):fM (g++G) (l++r) m:=
 ⟨fun e=>cE _ (h.write e),fun e=>(h.value e).more _,fun e=>by
  rcases h.done e with h|⟨x,h1,h2⟩
  ·exact .inl h
  exact .inr ⟨x,dr _ h1,h2⟩,h.short⟩
theorem fM.eL {G:eF} {l:List Rec} {m:dH} (h:fM G l m) (e s:Int):fM G l {m with dQ:=e,fj:=s}:=⟨h.write,h.value,h.done,h.short⟩
theorem pv {G:eF} {l:List Rec} {m:dH} (h2:m.dT≠2) (h5:m.dT≠5) (h6:m.dT≠6) (hd:m.data=[]):fM G l m:=⟨fun h=>absurd h h2,fun h=>absurd h h5,fun h=>absurd h h6,by simp[hd]⟩
structure gk (G:eF) (l:List Rec) (s:dC):Prop where
 nv:s.values.length=8
 nq:s.eQ.length=8
 value:∀o,o<8->s.value o=gZ l o
 dX:∀o,o<8->∀x∈s.dX o,(x.dL,x.dN,(o:Int),x.data)∈G
 done:∀k m,ez k s.done=some m->m.dT=6/\fM G l m
structure mg (l:List Rec) (c:ga):Prop where
 dF:eT c.dF=true
 known:(c.value.dY=0/\c.value.data.length<=20)\/kq l c.dF c.value.dY c.value.data
structure iG (G:eF) (l:List Rec) (b eW:Int) (k:Nat) (c:dJ):Prop where
 id:c.id=k
 low:eW*1048576<=c.dN
 high:c.dN<=eW*1048576+b
 cache:∀x∈c.cache,kq l x.dF x.value.dY x.value.data
 asks:c.fX=true->c.call.dT=2->(c.id,c.fc,c.call.dF,c.call.value.data)∈G
 elder:∀n o d,(c.id,n,o,d)∈G->n<=c.dN
 kinds:c.fX=true->(c.call.dT=1\/c.call.dT=2)/\eT c.call.dF=true
 over:c.fX=false->c.call.dT≠0->mg l c.call
 short:c.call.dT=2->c.call.value.data.length<=20
 top:c.fX=true->c.call.dT=2->∀n o d,(c.id,n,o,d)∈G->n<=c.fc
 one:(c.cache.map gd.dF).Nodup
structure tL (l:List Rec) (e:fB):Prop where
 dF:eT e.call.dF=true
 known:e.ended≠0->(e.call.value.dY=0/\e.call.value.data.length<=20)\/kq l e.call.dF e.call.value.dY e.call.value.data
structure Inv (b:Int) (G:eF) (w:dB):Prop where
 b0:0<=b
 ft:w.dG.length<=4
 uniq:pr G
 dK:iT G w.eM.dK
 dM:∀g∈w.dM.l,fM G w.eM.dK g.gJ
 eD:∀s,w.eD=some s->gk G w.eM.dK s
 nl:w.eH.length=w.dG.length
 no:w.eC.length=w.dG.length
 eH:∀k,k<w.eH.length->0<=w.eH.getD k 0/\w.eH.getD k 0<=1000
 dG:∀k c,w.dG[k]?=some c->iG G w.eM.dK b (w.eH.getD k 0) k c
 ef:∀e∈w.ef,tL w.eM.dK e
 eC:∀k c,w.dG[k]?=some c->0<=w.eC.getD k (-1)->c.call.dT≠0
theorem rK {K V:Type} [DecidableEq K] (k k':K) (v:V) (l:List (K×V)):ez k' (put k v l)=if k=k' then some v else ez k' l:=by
 have hd:∀l:List (K×V),k≠k'->ez k' (del k l)=ez k' l:=by
  intro l Km
  induction l with
  |nil=>rfl
  |cons e l ih =>
   obtain⟨x,u⟩:=e;by_cases h:x=k
   ·subst h;simp[del,ez,ih,Km]
   by_cases h2:x=k'
   ·subst h2;simp[del,ez,h]
   simp[del,ez,ih,h,h2]
 by_cases h:k=k'
 ·subst h;simp[put,ez]
 simp[put,ez,h,hd l h]
theorem nT {s:dC} {o o':Nat} {q:List Wr} (h:s.eQ.length=8) (ho:o<8):dC.dX {s with eQ:=s.eQ.set o q} o'=if o=o' then q else s.dX o':=by
 simp only[dC.dX,aB];by_cases e:o=o'
 ·subst e;rw[aT (by omega)];simp
 rw[aX e];simp[e]
def Good (G:eF) (d:dW) (r:List dH×dW×dC):Prop:=
 (∃x,r.2.1.dK=d.dK++x)/\iT G r.2.1.dK/\gk G r.2.1.dK r.2.2/\∀m∈r.1,fM G r.2.1.dK m
theorem gk.tM {G:eF} {l:List Rec} {s:dC} (h:gk G l s) {o:Nat} (ho:o<8) {q:List Wr} (hq:∀x∈q,(x.dL,x.dN,(o:Int),x.data)∈G):gk G l {s with eQ:=s.eQ.set o q}:=by
 refine⟨h.nv,by simpa using h.nq,h.value,fun o' VD x hx=>?_,h.done⟩;rw[nT h.nq ho]at hx;split at hx
 ·rename_i e;subst e;exact hq x hx
 exact h.dX o' VD x hx
theorem gk.rL {G:eF} {l:List Rec} {s:dC} (h:gk G l s) (t:eY):gk G l {s with eo:=t}:=⟨h.nv,h.nq,h.value,h.dX,h.done⟩
theorem gk.yE {G:eF} {l:List Rec} {s:dC} (h:gk G l s) (n:Int):gk G l (s.at_ n):=⟨h.nv,h.nq,h.value,h.dX,h.done⟩
theorem gk.FU {G:eF} {l:List Rec} {s:dC} (h:gk G l s) (n:Int):gk G l {s with fa:=n}:=⟨h.nv,h.nq,h.value,h.dX,h.done⟩
theorem gk.rM {G:eF} {l:List Rec} {s:dC} (h:gk G l s) (n:Bool):gk G l {s with dU:=n}:=⟨h.nv,h.nq,h.value,h.dX,h.done⟩
theorem gk.p7 {G:eF} {l:List Rec} {s:dC} (h:gk G l s) (k:Int) {m:dH} (hm:m.dT=6/\fM G l m):gk G l {s with done:=put k m s.done}:=
 ⟨h.nv,h.nq,h.value,h.dX,fun k' m' hk=>by
  simp only[rK]at hk;split at hk
  ·obtain rfl:=aw hk;exact hm
  exact h.done k' m' hk⟩
theorem gk.FV {G:eF} {l:List Rec} {s:dC} (h:gk G l s) (hr:iT G l) {r:Rec} (h0:0<=r.dF) (h7:r.dF<=7) (hg:(r.dL,r.dN,r.dF,r.data)∈G) (hv:r.eI=(gZ l r.dF).dY+1) (hl:l.length<200) (QS:r.data.length<=20) :
 iT G (l++[r])/\gk G (l++[r]) (s.iK r).1/\fM G (l++[r]) (s.iK r).2/\(s.iK r).2.dT=6:=by
 have hm:fM G (l++[r]) (s.iK r).2:=⟨fun h=>by simp[dC.iK]at h,fun h=>by simp[dC.iK]at h,fun _=>.inr ⟨r,by simp,h0,rfl,rfl,rfl⟩,by simp[dC.iK,gg]⟩;refine⟨⟨by simp;omega,hr.qf.add fun _=>hv,?_,?_,?_⟩,⟨by simpa[dC.iK]using h.nv,h.nq,?_,h.dX,?_⟩,hm,rfl⟩
 ·intro x hx K5;rcases aO.1 hx with hx|hx
  ·exact hr.fc x hx K5
  obtain rfl:=aH.1 hx;exact hg
 ·intro x hx;rcases aO.1 hx with hx|hx
  ·exact hr.high x hx
  obtain rfl:=aH.1 hx;exact⟨by omega,h7⟩
 ·intro x hx;rcases aO.1 hx with hx|hx
  ·exact hr.short x hx
  obtain rfl:=aH.1 hx;exact QS
 ·intro o ho;simp only[dC.iK,dC.value,aB];by_cases e:r.dF.toNat=o
  ·subst e;rw[aT (by rw[h.nv];omega)];(have e2:((r.dF.toNat:Nat):Int)=r.dF:=by omega);simp only[Option.getD_some,e2,gZ,yC,aA,aQ];simp[hv,gZ]
  rw[aX e];have:=h.value o ho;simp only[dC.value,aB]at this;rw[this];simp only[gZ];rw[rJ _ _ _ (by omega)]
 intro k m hk;simp only[dC.iK,rK]at hk;split at hk
 ·obtain rfl:=aw hk;exact⟨rfl,hm⟩
 obtain⟨h1,h2⟩:=h.done k m hk;exact⟨h1,h2.more [r] []⟩
theorem pO {d d':dW} {dU LX:Bool} {r:Rec} {e:Int} (h:d.add dU r=(e,d',LX)) :
 (e=0/\d'.dK=d.dK++[r]/\d.dK.length<200/\r.right=true/\dU=false/\LX=false)\/(e≠0/\d'.dK=d.dK/\(e≠14->LX=dU)):=by
 unfold dW.add at h;split at h
 ·(obtain⟨rfl,rfl,rfl⟩:6=e/\d=d'/\dU=LX:=by simpa using h);exact .inr ⟨by decide,rfl,fun _=>rfl⟩
 rename_i hd;split at h
 ·(obtain⟨rfl,rfl,rfl⟩:1=e/\d=d'/\dU=LX:=by simpa using h);exact .inr ⟨by decide,rfl,fun _=>rfl⟩
 rename_i hr;split at h
 ·(obtain⟨rfl,rfl,rfl⟩:12=e/\d=d'/\dU=LX:=by simpa using h);exact .inr ⟨by decide,rfl,fun _=>rfl⟩
 split at h
 ·(obtain⟨rfl,rfl,rfl⟩:14=e/\d=d'/\true=LX:=by simpa using h);exact .inr ⟨by decide,rfl,fun h=>absurd rfl h⟩
 (obtain⟨rfl,rfl,rfl⟩:0=e/\{d with dK:=d.dK++[r],left:=wrap64 (d.left-1)}=d'/\dU=LX:=by simpa using h);exact .inl ⟨rfl,rfl,by omega,by simpa using hr,by simpa using hd,by simpa using hd⟩
theorem FW {r:Rec} (h:r.right=true) (ho:r.dF ≠ -1):r.data.length<=20:=by
 unfold Rec.right at h;rw[if_neg ho]at h;simp only[aK,decide_eq_true_eq]at h;exact h.1.2
theorem FX {G:eF} {l:List Rec} {s:dC} (h:gk G l s) (hr:iT G l) {r:Rec} (h0:0<=r.dF) (h7:r.dF<=7) (hg:(r.dL,r.dN,r.dF,r.data)∈G) (hv:r.eI=(gZ l r.dF).dY+1) {e:Int} {l':List Rec}
 (he:(e=0/\l'=l++[r]/\l.length<200/\r.data.length<=20)\/(e≠0/\l'=l)):iT G l'/\gk G l' (s.answer e r).1/\fM G l' (s.answer e r).2:=by
 unfold dC.answer;rcases he with⟨rfl,rfl,hl,QS⟩|⟨he,rfl⟩
 ·obtain⟨k1,k2,k3,_⟩:=h.FV hr h0 h7 hg hv hl QS;exact⟨k1,k2,k3⟩
 rw[if_neg he];have OP:fM G l' {gg with dT:=6,dL:=r.dL,dN:=r.dN,dF:=r.dF}:=⟨fun h=>by simp at h,fun h=>by simp at h,fun _=>.inl rfl,by simp[gg]⟩;exact⟨hr,h.p7 r.dL ⟨rfl,OP⟩,OP⟩
theorem yF {G:eF} {l:List Rec} (s:dC) (c:Int) (o:Nat):fM G l (s.gv c o):=pv (by simp[dC.gv,dC.eL]) (by simp[dC.gv,dC.eL]) (by simp[dC.gv,dC.eL]) rfl
theorem yG {G:eF} {l:List Rec} (s:dC) (c:Int):fM G l (s.jz c):=pv (by simp[dC.jz,dC.eL]) (by simp[dC.jz,dC.eL]) (by simp[dC.jz,dC.eL]) rfl
theorem FY {G:eF} {d:dW} {s:dC} (h:gk G d.dK s) (hr:iT G d.dK) {o:Nat} (ho:o<8) {x:Wr} {rest:List Wr} (hq:∀y∈x::rest,(y.dL,y.dN,(o:Int),y.data)∈G) {out:List dH} (LA:∀m∈out,fM G d.dK m) :
 Good G d (s.store d o x rest out).2:=by
 have hval:s.value o=gZ d.dK o:=h.value o ho;have hlen:=yD d.dK o;have Vq:=hr.len
 have hv:wrap64 ((s.value o).dY+1)=(gZ d.dK o).dY+1:=by
  rw[hval,p6]
  ·simp only[gZ];omega
  simp only[gZ];omega
 unfold dC.store;simp only[hv];generalize hp:d.add s.dU ⟨x.dL,x.dN,o,(gZ d.dK o).dY+1,x.data,0⟩=p;obtain⟨e,d',LX⟩:=p;have ha:=pO hp;have h3:=h.rM LX;simp only;generalize ({s with dU:=LX}:dC)=s3 at h3⊢;split
 ·rename_i he;rcases ha with⟨h0,_⟩|⟨_,MK,_⟩
  ·rw[h0]at he;cases he
  exact⟨⟨[],by simp[MK]⟩,by simpa[MK]using hr,by simpa[MK]using h3,fun m hm=>by cases hm⟩
 obtain⟨k1,k2,k3⟩:=FX h3 hr (r:=⟨x.dL,x.dN,o,(gZ d.dK o).dY+1,x.data,0⟩) (by simp) (by simp;omega) (hq x (by simp)) rfl (e:=e) (l':=d'.dK) (by
  rcases ha with⟨h1,h2,h3,h4,_⟩|⟨h1,h2,_⟩
  ·exact .inl ⟨h1,h2,h3,FW h4 (show ((o:Nat):Int) ≠ -1 by omega)⟩
  exact .inr ⟨h1,h2⟩)
 have hx:∃y,d'.dK=d.dK++y:=by
  rcases ha with⟨_,h2,_⟩|⟨_,h2,_⟩
  ·exact⟨_,h2⟩
  exact⟨[],by simp[h2]⟩
 generalize s3.answer e ⟨x.dL,x.dN,o,(gZ d.dK o).dY+1,x.data,0⟩=a at k2 k3⊢;refine⟨hx,k1,k2.tM ho fun y hy=>hq y (by simp[hy]),?_⟩;intro m hm;rcases aO.1 hm with hm|hm
 ·obtain⟨y,hy⟩:=hx;rw[hy];exact (LA m hm).more _ []
 obtain rfl:=aH.1 hm;exact k3.eL _ _
theorem FZ {G:eF} {d:dW} {s:dC} (h:gk G d.dK s) (hr:iT G d.dK) {o:Nat} (ho:o<8) {x:Wr} {rest:List Wr} (hq:s.dX o=x::rest) {out:List dH} (LA:∀m∈out,fM G d.dK m) :
 Good G d (s.jA d o x rest out).2:=by
 have hq':∀y∈x::rest,(y.dL,y.dN,(o:Int),y.data)∈G:=fun y hy=>h.dX o ho y (by rw[hq];exact hy)
 have Vr:∀m∈(if x.gC then out else out++(s.eo.gr o s.dE).map fun c=>s.gv c o),fM G d.dK m:=by
  split
  ·exact LA
  intro m hm;rcases aO.1 hm with hm|hm
  ·exact LA m hm
  obtain⟨c,_,rfl⟩:=bA.1 hm;exact yF _ _ _
 have h1:gk G d.dK {s with eQ:=s.eQ.set o ({x with gC:=true}::rest)}:=h.tM ho fun y hy=>by
  rcases aM.1 hy with rfl|hy
  ·exact hq' x (by simp)
  exact hq' y (by simp[hy])
 unfold dC.jA;simp only;split
 ·exact⟨⟨[],by simp⟩,hr,h1,Vr⟩
 exact FY (h1.rL _) hr ho hq' Vr
theorem yH {G:eF} {o:Nat} (ho:o<8):∀(f:Nat) {d:dW} {s:dC} (_:gk G d.dK s) (_:iT G d.dK) {out:List dH} (_:∀m∈out,fM G d.dK m),Good G d (dC.jd f d s o out)
 |0,d,s,h,hr,out,LA=>⟨⟨[],by simp[dC.jd]⟩,hr,h,LA⟩
 |f+1,d,s,h,hr,out,LA=>by
  unfold dC.jd
  cases hq:s.dX o with
  |nil=>exact⟨⟨[],by simp⟩,hr,h,LA⟩
  |cons x rest =>
   simp only;split
   ·exact⟨⟨[],by simp⟩,hr,h,LA⟩
   have g:=FZ h hr ho hq LA;split
   ·obtain⟨⟨y,hy⟩,g2,g3,g4⟩:=g;obtain⟨⟨z,hz⟩,k2,k3,k4⟩:=yH ho f g3 g2 g4;exact⟨⟨y++z,by rw[hz,hy,bw]⟩,k2,k3,k4⟩
   exact g
theorem tN {G:eF} {o:Nat} (ho:o<8) {d:dW} {s:dC} (h:gk G d.dK s) (hr:iT G d.dK):Good G d (dC.fA d s o):=
 yH ho _ h hr (fun m hm=>by cases hm)
theorem Good.here {G:eF} {d:dW} {s:dC} (h:gk G d.dK s) (hr:iT G d.dK) {l:List dH} (hl:∀m∈l,fM G d.dK m):Good G d (l,d,s):=⟨⟨[],by simp⟩,hr,h,hl⟩
theorem p8 {o:Int} (h:eT o=true):0<=o/\o.toNat<8/\((o.toNat:Nat):Int)=o:=by
 simp only[eT,eG,aK,decide_eq_true_eq]at h;omega
theorem yI {G:eF} {d:dW} {s:dC} (h:gk G d.dK s) (hr:iT G d.dK) (dE:Int) {m:dH} (hm:fM G d.dK m):Good G d (dC.take d s dE m):=by
 have hz:=h.yE dE;have hv:=yA d s dE m;generalize dC.take d s dE m=r at hv⊢;generalize s.at_ dE=z at hv hz;have one:∀ {t:dC} {x:dH},gk G d.dK t->fM G d.dK x->Good G d ([x],d,t):=fun ht hx=>.here ht hr fun y hy=>by rw[aH.1 hy];exact hx
 have hval:eT m.dF=true->fM G d.dK (p5 z m):=fun ho=>by
  obtain⟨-,SL,On⟩:=p8 ho;refine⟨fun h=>absurd h (by show ¬(5:Int)=2;decide),fun _=>?_,fun h=>absurd h (by show ¬(5:Int)=6;decide),?_⟩
  ·show kq d.dK m.dF (z.value m.dF.toNat).dY (z.value m.dF.toNat).data;rw[hz.value _ SL,On];exact tK _ _
  show (z.value m.dF.toNat).data.length<=20;rw[hz.value _ SL];exact FT hr _
 cases hv with
 |off=>exact .here h hr fun x hx=>by cases hx
 |idle=>exact .here hz hr fun x hx=>by cases hx
 |done x _ _ _ _ hx=>exact one hz ((hz.done _ _ hx).2.eL _ _)
 |read _ _ ho=>exact one hz (hval ho)
 |flush1 _ _ ho =>
  exact .here hz hr fun x hx=>by
   rcases aM.1 hx with rfl|hx
   ·exact hval ho
   rw[aH.1 hx];exact yG _ _
 |fu _ _ ho=>exact one (hz.rL _) ⟨(hval ho).write,(hval ho).value,(hval ho).done,(hval ho).short⟩
 |flush3=>exact one hz (yG _ _)
 |wait=>exact .here hz hr fun x hx=>by obtain⟨k,-,rfl⟩:=bA.1 hx;exact yF _ _ _
 |vol=>exact one (hz.rL _) (pv (by show (7:Int)≠2;decide) (by show (7:Int)≠5;decide) (by show (7:Int)≠6;decide) rfl)
 |enq _ _ ho hk =>
  obtain⟨-,SL,On⟩:=p8 ho;refine tN SL (hz.tM SL fun y hy=>?_) hr;rcases aO.1 hy with hy|hy
  ·exact hz.dX _ SL y hy
  rw[aH.1 hy,On];exact hm.write hk
 |ack _ _ ho=>exact tN (p8 ho).2.1 (hz.rL _) hr
theorem yJ {G:eF}:∀(ks:List Nat) {d:dW} {s:dC} (_:∀k∈ks,k<8) (_:gk G d.dK s) (_:iT G d.dK) {out:List dH} (_:∀m∈out,fM G d.dK m),Good G d (dC.mW ks d s out)
 | [],d,s,_,h,hr,out,LA=>.here h hr LA
 |k::ks,d,s,hk,h,hr,out,LA=>by
  unfold dC.mW;obtain⟨⟨y,hy⟩,g2,g3,g4⟩:=tN (hk k (by simp)) h hr
  obtain⟨⟨z,hz⟩,k2,k3,k4⟩:=yJ ks (fun x hx=>hk x (by simp[hx])) g3 g2 (out:=out++(dC.fA d s k).1) (by
   intro m hm;rcases aO.1 hm with hm|hm
   ·rw[hy];exact (LA m hm).more _ []
   exact g4 m hm)
  exact⟨⟨y++z,by rw[hz,hy,bw]⟩,k2,k3,k4⟩
theorem yK {G:eF} {d:dW} {s:dC} (h:gk G d.dK s) (hr:iT G d.dK) (dE:Int):Good G d (dC.tick d s dE):=by
 unfold dC.tick;split
 ·exact .here h hr (fun m hm=>by cases hm)
 exact yJ _ (fun k hk=>by simpa using hk) (h.yE dE) hr (fun m hm=>by cases hm)
structure tP (G:eF) (l a:List Rec) (s:dC):Prop where
 nv:s.values.length=8
 nq:s.eQ.length=8
 value:∀o,o<8->s.value o=gZ a o
 dX:∀o,o<8->s.dX o=[]
 done:∀k m,ez k s.done=some m->m.dT=6/\fM G l m
theorem tQ {G:eF} {l:List Rec} (hr:iT G l):∀(b a:List Rec) {s:dC} (_:a++b=l) (_:tP G l a s),tP G l l (s.gX b)
 | [],a,s,e,h=>by
  (obtain rfl:a=l:=by simpa using e);exact h
 |r::b,a,s,e,h=>by
  unfold dC.gX;(have K9:r∈l:=by rw[<- e];simp);split
  ·rename_i ho;refine tQ hr b (a++[r]) (by simpa using e) ⟨h.nv,h.nq,fun o Kg=>?_,h.dX,h.done⟩;have:=h.value o Kg;simp only[dC.value]at this⊢;rw[this];simp only[gZ];rw[rJ _ _ _ (by omega)]
  rename_i ho;have hv:=hr.qf a r b e.symm (by omega);have h7:=(hr.high r K9).2;refine tQ hr b (a++[r]) (by simpa using e) ⟨by simpa[dC.iK]using h.nv,h.nq,fun o Kg=>?_,h.dX,fun k m hk=>?_⟩
  ·simp only[dC.iK,dC.value,aB];by_cases e:r.dF.toNat=o
   ·subst e;rw[aT (by rw[h.nv];omega)];(have e2:((r.dF.toNat:Nat):Int)=r.dF:=by omega);simp only[Option.getD_some,e2,gZ,yC,aA,aQ];simp[hv]
   rw[aX e];have:=h.value o Kg;simp only[dC.value,aB]at this;rw[this];simp only[gZ];rw[rJ _ _ _ (by omega)]
  simp only[dC.iK,rK]at hk;split at hk
  ·obtain rfl:=aw hk;exact⟨rfl,fun h=>by simp at h,fun h=>by simp at h,fun _=>.inr ⟨r,K9,by omega,rfl,rfl,rfl⟩,by simp[gg]⟩
  exact h.done k m hk
theorem yL {G:eF} {d:dW} (hr:iT G d.dK) (t:eA) (dE:Int) :
 (∃x,(dC.new t d dE).2.1.dK=d.dK++x)/\iT G (dC.new t d dE).2.1.dK/\∀s,(dC.new t d dE).2.2=some s->gk G (dC.new t d dE).2.1.dK s:=by
 unfold dC.new;split
 ·exact⟨⟨[],by simp⟩,hr,fun s h=>by cases h⟩
 have h0:tP G d.dK [] (dC.blank t dE):=by
  refine⟨by simp[dC.blank],by simp[dC.blank],fun o ho=>?_,fun o ho=>?_,fun k m hk=>by simp[dC.blank,ez]at hk⟩
  ·simp only[dC.blank,dC.value,aB];rw[bB,if_pos ho];rfl
  simp only[dC.blank,dC.dX,aB];rw[bB,if_pos ho];rfl
 have h1:=tQ hr d.dK [] (by simp) h0;generalize (dC.blank t dE).gX d.dK=s1 at h1⊢;have h2:gk G d.dK s1:=⟨h1.nv,h1.nq,h1.value,(fun o ho x hx=>by rw[h1.dX o ho]at hx;cases hx),h1.done⟩
 have h3:gk G d.dK (if 1<(wrap64 (s1.dQ+1)) then {s1 with dQ:=wrap64 (s1.dQ+1),quiet:=dE+t.ei} else {s1 with dQ:=wrap64 (s1.dQ+1)}):=by
  split
  ·exact⟨h2.nv,h2.nq,h2.value,h2.dX,h2.done⟩
  exact⟨h2.nv,h2.nq,h2.value,h2.dX,h2.done⟩
 simp only;(have Tr:(if 1<wrap64 (s1.dQ+1) then ({s1 with dQ:=wrap64 (s1.dQ+1),quiet:=dE+t.ei}:dC) else {s1 with dQ:=wrap64 (s1.dQ+1)}).dQ=wrap64 (s1.dQ+1):=by split<;>rfl);rw[Tr];generalize hp:d.add false ⟨0,0,-1,0,[],wrap64 (s1.dQ+1)⟩=p;obtain⟨e,d',LX⟩:=p
 generalize (if 1<wrap64 (s1.dQ+1) then ({s1 with dQ:=wrap64 (s1.dQ+1),quiet:=dE+t.ei}:dC) else {s1 with dQ:=wrap64 (s1.dQ+1)})=s2 at h3⊢
 simp only;rcases pO hp with⟨rfl,MK,hl,_⟩|⟨he,MK,_⟩
 ·have hr':iT G d'.dK:=by
   rw[MK];refine⟨by simp;omega,hr.qf.add fun h=>absurd h (by simp),?_,?_,?_⟩
   ·intro x hx K5;rcases aO.1 hx with hx|hx
    ·exact hr.fc x hx K5
    obtain rfl:=aH.1 hx;exact absurd K5 (by simp)
   ·intro x hx;rcases aO.1 hx with hx|hx
    ·exact hr.high x hx
    obtain rfl:=aH.1 hx;exact⟨by simp,by simp⟩
   intro x hx;rcases aO.1 hx with hx|hx
   ·exact hr.short x hx
   obtain rfl:=aH.1 hx;simp
  simp only[if_true];refine⟨⟨_,MK⟩,hr',fun s hs=>?_⟩;obtain rfl:=aw hs;rw[MK];refine⟨h3.nv,h3.nq,fun o ho=>?_,h3.dX,fun k m hk=>⟨(h3.done k m hk).1,(h3.done k m hk).2.more _ []⟩⟩;rw[h3.value o ho];simp only[gZ];rw[rJ _ _ _ (by simp)]
 rw[if_neg he];exact⟨⟨[],by simp[MK]⟩,by simpa[MK]using hr,fun s h=>by cases h⟩
theorem rN {c:Cache} {o:Int} {x:gd} (h:x∈c.drop o):x∈c:=List.mem_of_mem_eraseP h
theorem F0 {c:Cache} {o u:Int} {v:fE} {x:gd} (h:x∈c.put o v u):x∈c\/x=⟨o,v,u⟩:=by
 unfold Cache.put at h;simp only at h;rcases aO.1 h with h|h
 ·left;split at h
  ·exact rN (List.mem_of_mem_drop h)
  exact rN h
 right;exact aH.1 h
theorem drop_one {c:Cache} (h:(c.map gd.dF).Nodup) (o:Int):((c.drop o).map gd.dF).Nodup:=List.Sublist.nodup (List.Sublist.map _ List.eraseP_sublist) h
theorem yM {c:Cache} (h:(c.map gd.dF).Nodup) (o:Int):o∉(c.drop o).map gd.dF:=by
 induction c with
 |nil=>simp[Cache.drop]
 |cons x c ih =>
  rw[bf,cY]at h;unfold Cache.drop at ih⊢;by_cases e:x.dF=o
  ·rw[List.eraseP_cons_of_pos (by simpa using e),<- e];exact h.1
  rw[List.eraseP_cons_of_neg (by simpa using e),bf,aM,not_or];exact⟨fun h=>e h.symm,ih h.2⟩
theorem tR {c:Cache} {x:gd} (h:(c.map gd.dF).Nodup) (hx:x.dF∉c.map gd.dF):((c++[x]).map gd.dF).Nodup:=by
 rw[bN,List.nodup_append];refine⟨h,by simp,fun a ha b hb=>?_⟩;(obtain rfl:b=x.dF:=by simpa using hb);exact fun e=>hx (e▸ha)
theorem F1 {c:Cache} (h:(c.map gd.dF).Nodup) (o:Int) (v:fE) (u:Int):((c.put o v u).map gd.dF).Nodup:=by
 unfold Cache.put;simp only;have h1:=drop_one h o;have h2:=yM h o;split
 ·exact tR (List.Sublist.nodup (List.Sublist.map _ (List.drop_sublist 1 _)) h1) fun hx=>h2 (List.Sublist.mem hx (List.Sublist.map _ (List.drop_sublist 1 _)))
 exact tR h1 h2
theorem F2 {c:Cache} (h:(c.map gd.dF).Nodup) (o:Int):((c.get o).2.map gd.dF).Nodup:=by
 unfold Cache.get;split
 ·rename_i x hx;(have e:x.dF=o:=by simpa using List.find?_some hx);exact tR (drop_one h o) (by rw[e];exact yM h o)
 exact h
theorem F3 {c:Cache} {o:Int} {x:gd} {k:Cache} (h:c.get o=(some x,k)):x∈c/\x.dF=o/\∀y∈k,y∈c:=by
 unfold Cache.get at h;split at h
 ·rename_i y hy;(obtain⟨rfl,rfl⟩:y=x/\c.drop o++[y]=k:=by simpa using h);have hm:=List.mem_of_find?_eq_some hy;refine⟨hm,by simpa using List.find?_some hy,fun z hz=>?_⟩;rcases aO.1 hz with hz|hz
  ·exact rN hz
  obtain rfl:=aH.1 hz;exact hm
 cases (Prod.mk.inj h).1
theorem iG.more {G g:eF} {l x:List Rec} {b b' eW:Int} {k:Nat} {c:dJ} (h:iG G l b eW k c) (hb:b<=b') (hg:∀y∈g,y.1≠k):iG (g++G) (l++x) b' eW k c:=
 ⟨h.id,h.low,by have:=h.high;omega,fun y hy=>(h.cache y hy).more _,fun h1 h2=>cE _ (h.asks h1 h2),
  fun n o d hm=>by
   rcases aO.1 hm with hm|hm
   ·exact absurd h.id (hg _ hm)
   exact h.elder n o d hm,
  h.kinds,fun h1 h2=>⟨(h.over h1 h2).dF,(h.over h1 h2).known.imp (fun h=>h) fun h=>h.more _⟩,h.short,fun h1 h2 n o d hm=>by
   rcases aO.1 hm with hm|hm
   ·exact absurd h.id (hg _ hm)
   exact h.top h1 h2 n o d hm,h.one⟩
theorem yN {G:eF} {l:List Rec} {b eW:Int} {k:Nat} {c:dJ} (h:iG G l b eW k c):∀m∈c.asks,fM G l m:=by
 intro m hm;unfold dJ.asks at hm;split at hm
 ·rename_i hb;obtain rfl:=aH.1 hm;rcases (h.kinds hb).1 with hk|hk
  ·exact pv (by simp[dJ.eL,hk]) (by simp[dJ.eL,hk]) (by simp[dJ.eL,hk]) (by simp[dJ.eL,hk])
  refine⟨fun _=>?_,fun h=>by simp[dJ.eL,hk]at h,fun h=>by simp[dJ.eL,hk]at h,?_⟩
  ·simpa[dJ.eL,hk]using h.asks hb hk
  simpa[dJ.eL,hk]using h.short hk
 cases hm
theorem tS {G:eF} {l:List Rec} {b eW:Int} {k:Nat} {c:dJ} (h:iG G l b eW k c) (Ls:0<=b) (hb:b<=1000000) (OT:0<=eW) (hl:eW<=1000) :
 (∀m∈c.eV.1,fM G l m)/\iG G l (b+1) eW k c.eV.2/\c.eV.2.call=c.call:=by
 have Ly:=h.low;have Z8:=h.high;have hn:wrap64 (c.dN+1)=c.dN+1:=p6 (by omega) (by omega);unfold dJ.eV;split
 ·simp only[hn]
  have h2:iG G l (b+1) eW k {c with dN:=c.dN+1,gh:=c.dN+1,jC:=c.dE}:=
   ⟨h.id,by simp only;omega,by simp only;omega,h.cache,h.asks,fun n o d hm=>by have:=h.elder n o d hm;simp only;omega,h.kinds,h.over,h.short,h.top,h.one⟩
  refine⟨fun m hm=>?_,h2,trivial⟩;rcases aO.1 hm with hm|hm
  ·obtain rfl:=aH.1 hm;exact pv (by simp[dJ.eL]) (by simp[dJ.eL]) (by simp[dJ.eL]) rfl
  exact yN h2 m hm
 exact⟨yN h,⟨h.id,h.low,(by show c.dN<=_;omega),h.cache,h.asks,h.elder,h.kinds,h.over,h.short,h.top,h.one⟩,rfl⟩
theorem tT {G:eF} {l:List Rec} {b eW:Int} {k:Nat} {c:dJ} (hid:c.id=k) (Ly:eW*1048576<=c.dN) (Z8:c.dN<=eW*1048576+b) (Ls:0<=b) (hb:b<1000000) (OT:0<=eW) (hl:eW<=1000)
 (WW:∀x∈c.cache,kq l x.dF x.value.dY x.value.data) (hk:c.call.dT=1\/c.call.dT=2) (ho:eT c.call.dF=true)
 (hg:c.call.dT=2->(c.id,c.dN+1,c.call.dF,c.call.value.data)∈G) (he:∀n o d,(c.id,n,o,d)∈G->n<=c.dN+1) (QS:c.call.dT=2->c.call.value.data.length<=20) (h1c:(c.cache.map gd.dF).Nodup) :
 (∀m∈c.ask.1,fM G l m)/\iG G l (b+2) eW k c.ask.2/\c.ask.2.call=c.call:=by
 have hn:wrap64 (c.dN+1)=c.dN+1:=p6 (by omega) (by omega)
 have Z9:dJ.fX {c with dN:=c.dN+1,fc:=c.dN+1,fL:=c.dE}=true:=by
  simp only[dJ.fX,decide_eq_true_eq];omega
 have h:iG G l (b+1) eW k {c with dN:=c.dN+1,fc:=c.dN+1,fL:=c.dE}:=
  ⟨hid,(by show _<=c.dN+1;omega),(by show c.dN+1<=_;omega),WW,fun _ h2=>hg h2,fun n o d hm=>he n o d hm,fun _=>⟨hk,ho⟩,(fun h=>by rw[Z9]at h;cases h),QS,fun _ _ n o d hm=>he n o d hm,h1c⟩
 unfold dJ.ask;simp only[hn];obtain⟨k1,k2,k3⟩:=tS h (by omega) (by omega) OT hl;exact⟨k1,⟨k2.id,k2.low,by have:=k2.high;omega,k2.cache,k2.asks,k2.elder,k2.kinds,k2.over,k2.short,k2.top,k2.one⟩,k3⟩
theorem yO {G:eF} {l:List Rec} {b eW:Int} {k:Nat} {c:dJ} (h:iG G l b eW k c) (Ls:0<=b) (hb:b<1000000) (OT:0<=eW) (hl:eW<=1000) (o:Int) :
 (∀m∈(c.read o).2.1,fM G l m)/\iG G l (b+2) eW k (c.read o).2.2/\((c.read o).1=0->(c.read o).2.2.call.dT≠0/\eT (c.read o).2.2.call.dF=true)/\((c.read o).1≠0->(c.read o).2.2=c):=by
 have hm:iG G l (b+2) eW k c:=⟨h.id,h.low,by have:=h.high;omega,h.cache,h.asks,h.elder,h.kinds,h.over,h.short,h.top,h.one⟩;unfold dJ.read;split
 ·exact⟨(fun m hm=>by cases hm),hm,fun h=>absurd h (by simp),fun _=>rfl⟩
 split
 ·exact⟨(fun m hm=>by cases hm),hm,fun h=>absurd h (by simp),fun _=>rfl⟩
 rename_i hnb ho;(have ho:eT o=true:=by simpa using ho);simp only;split
 ·rename_i x kk Pz;obtain⟨hx,hxo,hkk⟩:=F3 Pz;(have hk1:(kk.map gd.dF).Nodup:=by have:=F2 h.one o;rw[Pz]at this;exact this);split
  ·refine⟨(fun m hm=>by cases hm),⟨h.id,h.low,(by show c.dN<=_;have:=h.high;omega),fun y hy=>h.cache y (hkk y hy),fun Ke=>absurd Ke hnb,h.elder,fun Ke=>absurd Ke hnb,fun _ _=>⟨ho,.inr ?_⟩,(fun h=>by simp at h),fun Ke=>absurd Ke hnb,hk1⟩,fun _=>⟨by simp,ho⟩,fun h=>absurd rfl h⟩;have:=h.cache x hx;rw[hxo]at this;exact this
  obtain⟨k1,k2,k3⟩:=tT (G:=G) (l:=l) (b:=b) (eW:=eW) (k:=k) (c:={c with call:=⟨1,o,j4,false,false⟩,cache:=kk}) h.id h.low h.high Ls hb OT hl (fun y hy=>h.cache y (hkk y hy)) (.inl rfl) ho (fun h=>by simp at h) (fun n o d hm=>by have:=h.elder n o d hm;simp only;omega) (fun h=>by simp at h) hk1;exact⟨k1,k2,fun _=>by simp only[k3];exact⟨by simp,ho⟩,fun h=>absurd rfl h⟩
 obtain⟨k1,k2,k3⟩:=tT (G:=G) (l:=l) (b:=b) (eW:=eW) (k:=k) (c:={c with call:=⟨1,o,j4,false,false⟩}) h.id h.low h.high Ls hb OT hl h.cache (.inl rfl) ho (fun h=>by simp at h) (fun n o d hm=>by have:=h.elder n o d hm;simp only;omega) (fun h=>by simp at h) h.one;exact⟨k1,k2,fun _=>by simp only[k3];exact⟨by simp,ho⟩,fun h=>absurd rfl h⟩
theorem yP {G:eF} {l:List Rec} {b eW:Int} {k:Nat} {c:dJ} (h:iG G l b eW k c) (Ls:0<=b) (hb:b<1000000) (OT:0<=eW) (hl:eW<=1000) (o:Int) (data:Bytes) (hu:pr G) (hk3:k<=3) :
 ∃g:eF,(∀y∈g,y.1=k)/\pr (g++G)/\(∀m∈(c.write o data).2.1,fM (g++G) l m)/\iG (g++G) l (b+2) eW k (c.write o data).2.2/\((c.write o data).1=0->(c.write o data).2.2.call.dT≠0/\eT (c.write o data).2.2.call.dF=true)/\((c.write o data).1≠0->(c.write o data).2.2=c):=by
 have hm:iG G l (b+2) eW k c:=⟨h.id,h.low,by have:=h.high;omega,h.cache,h.asks,h.elder,h.kinds,h.over,h.short,h.top,h.one⟩;unfold dJ.write;split
 ·exact⟨[],(fun y hy=>by cases hy),hu,(fun m hm=>by cases hm),hm,fun h=>absurd h (by simp),fun _=>rfl⟩
 split
 ·exact⟨[],(fun y hy=>by cases hy),hu,(fun m hm=>by cases hm),hm,fun h=>absurd h (by simp),fun _=>rfl⟩
 split
 ·exact⟨[],(fun y hy=>by cases hy),hu,(fun m hm=>by cases hm),hm,fun h=>absurd h (by simp),fun _=>rfl⟩
 rename_i hnb ho QS;(have ho:eT o=true:=by simpa using ho);refine⟨[(c.id,c.dN+1,o,data)],fun y hy=>?_,?_,?_⟩
 ·obtain rfl:=aH.1 hy;exact h.id
 ·refine⟨fun a n o1 d1 o2 d2 h1 h2=>?_,fun a n o1 d1 h1=>?_⟩
  rotate_left
  ·rcases aO.1 h1 with h1|h1
   ·have e1:=aH.1 h1;simp only[cM]at e1;obtain⟨rfl,rfl,rfl,rfl⟩:=e1;have h2:=h.id;have h3:=h.low;have h4:=h.high;obtain⟨o3,o4,o5⟩:=p8 ho;exact⟨by omega,by omega,by omega,by omega⟩
   exact hu.small a n o1 d1 h1
  rcases aO.1 h1 with h1|h1<;>rcases aO.1 h2 with h2|h2
  ·have e1:=aH.1 h1;have e2:=aH.1 h2;simp only[cM]at e1 e2;exact⟨e1.2.2.1.trans e2.2.2.1.symm,e1.2.2.2.trans e2.2.2.2.symm⟩
  ·have e1:=aH.1 h1;simp only[cM]at e1;have:=h.elder n o2 d2 (by rw[<- e1.1];exact h2);omega
  ·have e1:=aH.1 h2;simp only[cM]at e1;have:=h.elder n o1 d1 (by rw[<- e1.1];exact h1);omega
  exact hu.same a n o1 d1 o2 d2 h1 h2
 obtain⟨k1,k2,k3⟩:=tT (G:=[(c.id,c.dN+1,o,data)]++G) (l:=l) (b:=b) (eW:=eW) (k:=k) (c:={c with call:=⟨2,o,⟨data,0⟩,false,false⟩}) h.id h.low h.high Ls hb OT hl h.cache (.inr rfl) ho (fun _=>by simp) (fun n o d hm=>by
  rcases aO.1 hm with hm|hm
  ·have e1:=aH.1 hm;simp only[cM]at e1;simp only;omega
  have:=h.elder n o d hm;simp only;omega) (fun _=>by simp only;omega) h.one
 exact⟨k1,k2,fun _=>by simp only[k3];exact⟨by simp,ho⟩,fun h=>absurd rfl h⟩
theorem yQ {G:eF} {l:List Rec} {b eW:Int} {k:Nat} {c:dJ} (h:iG G l b eW k c) (hr:iT G l) (hu:pr G) {m:dH} (hm:fM G l m) :
 (∀x∈(c.take m).1,fM G l x)/\iG G l b eW k (c.take m).2/\(c.take m).2.call.dT=c.call.dT:=by
 (have L3:∀x∈([]:List dH),fM G l x:=fun x hx=>by cases hx);unfold dJ.take;split
 ·exact⟨L3,h,rfl⟩
 rename_i hc;simp only[bF,a8,not_or,bS,decide_eq_true_eq]at hc;simp only;split
 ·
  rename_i hk;refine⟨L3,?_⟩;unfold dJ.lD;split
  ·exact⟨h,rfl⟩
  rename_i Mf;simp only[bF,a8,not_or,bS,decide_eq_true_eq]at Mf;obtain⟨⟨⟨h1,h2⟩,h3⟩,h4⟩:=Mf;have OE:=hm.value hk;simp only
  have KC:iG G l b eW k {c with seen:=put m.dF (max (c.mX m.dF) m.eI) c.seen,call:={c.call with value:=⟨m.data,m.eI⟩,over:=true},fc:=0}:=by
   refine⟨h.id,h.low,h.high,h.cache,fun hb=>?_,h.elder,fun hb=>?_,fun _ _=>⟨(h.kinds h1).2,.inr ?_⟩,fun h=>?_,fun hb=>?_,h.one⟩
   ·simp[dJ.fX]at hb
   ·simp[dJ.fX]at hb
   ·rw[show ({c.call with value:=⟨m.data,m.eI⟩,over:=true}:ga).dF=m.dF from h4];exact OE
   ·have e1:c.call.dT=2:=h;omega
   simp[dJ.fX]at hb
  split
  ·refine⟨⟨KC.id,KC.low,KC.high,fun x hx=>?_,KC.asks,KC.elder,KC.kinds,KC.over,KC.short,KC.top,F1 h.one _ _ _⟩,rfl⟩;rcases F0 hx with hx|rfl
   ·exact h.cache x hx
   exact OE
  exact⟨KC,rfl⟩
 split
 ·
  rename_i hk;split
  ·rename_i Mf;simp only[aK,decide_eq_true_eq]at Mf;obtain⟨⟨h1,h2⟩,h3⟩:=Mf;refine⟨L3,⟨h.id,h.low,h.high,h.cache,fun hb=>?_,h.elder,fun hb=>?_,fun _ _=>⟨(h.kinds h1).2,?_⟩,h.short,(fun hb=>?_),h.one⟩,rfl⟩
   ·simp[dJ.fX]at hb
   ·simp[dJ.fX]at hb
   ·rcases hm.done hk with hv|⟨r,LS,LO,NQ,SO,Ud⟩
    ·exact .inl ⟨hv,h.short h3⟩
    right;have g1:=h.asks h1 h3;have g2:=hr.fc r LS LO;rw[NQ,SO,hc.1,h2]at g2;obtain⟨e1,e2⟩:=hu.same _ _ _ _ _ _ g1 g2;have:=hr.qf.known LS LO;rw[Ud,<- e1,<- e2]at this;exact this
   simp[dJ.fX]at hb
  exact⟨L3,h,rfl⟩
 split
 ·split
  ·exact⟨L3,⟨h.id,h.low,h.high,h.cache,h.asks,h.elder,h.kinds,h.over,h.short,h.top,h.one⟩,rfl⟩
  exact⟨L3,h,rfl⟩
 split
 ·split
  ·exact⟨L3,⟨h.id,h.low,h.high,(fun x hx=>by cases hx),h.asks,h.elder,h.kinds,h.over,h.short,h.top,List.nodup_nil⟩,rfl⟩
  exact⟨L3,h,rfl⟩
 split
 ·split
  ·refine⟨fun x hx=>?_,⟨h.id,h.low,h.high,fun x hx=>h.cache x (rN hx),h.asks,h.elder,h.kinds,h.over,h.short,h.top,drop_one h.one _⟩,rfl⟩;obtain rfl:=aH.1 hx;exact pv (by simp[dJ.eL]) (by simp[dJ.eL]) (by simp[dJ.eL]) rfl
  exact⟨L3,h,rfl⟩
 exact⟨L3,h,rfl⟩
theorem rO:∀(l:List dH) (n:Net) (t:Bool) (g:gL),g∈(j6 n t l).l->g∈n.l\/g.gJ∈l
 | [],n,t,g,h=>.inl h
 |m::l,n,t,g,h=>by
  unfold j6 at h;split at h
  ·rcases rO l _ t g h with h|h
   ·unfold Net.send at h;split at h
    ·exact .inl h
    rcases aO.1 h with h|h
    ·exact .inl h
    obtain rfl:=aH.1 h;exact .inr (by simp)
   exact .inr (by simp[h])
  rcases rO l _ t g h with h|h
  ·exact .inl h
  exact .inr (by simp[h])
theorem fM.yR {G:eF} {l:List Rec} {m:dH} (h:fM G l m) (g:eF):fM (g++G) l m:=by
 have:=h.more [] g;rwa [cw]at this
theorem Inv.mP {b b':Int} {G g:eF} {w:dB} {k:Nat} {c c':dJ} {out:List dH} (h:Inv b G w) (hc:w.dG[k]?=some c) (hb:b<=b') (hg:∀x∈g,x.1=k) (hu:pr (g++G))
 (hk:iG (g++G) w.eM.dK b' (w.eH.getD k 0) k c') (LA:∀m∈out,fM (g++G) w.eM.dK m) (ho:0<=w.eC.getD k (-1)->c'.call.dT≠0) :
 Inv b' (g++G) ({w with dG:=w.dG.set k c'}.fK false out):=by
 refine⟨by have:=h.b0;omega,by simpa[dB.fK]using h.ft,hu,?_,fun x hx=>?_,fun s hs=>?_,by simpa[dB.fK]using h.nl,by simpa[dB.fK]using h.no,h.eH,fun j x hx=>?_,h.ef,fun j x hx hj=>?_⟩
 ·exact⟨h.dK.len,h.dK.qf,fun r hr h0=>cE _ (h.dK.fc r hr h0),h.dK.high,h.dK.short⟩
 ·rcases rO _ _ _ _ hx with hx|hx
  ·exact (h.dM x hx).yR g
  exact LA _ hx
 ·have hs:=h.eD s hs;exact⟨hs.nv,hs.nq,hs.value,fun o ho x hx=>cE _ (hs.dX o ho x hx),fun k m hm=>⟨(hs.done k m hm).1,(hs.done k m hm).2.yR g⟩⟩
 ·simp only[dB.fK]at hx;by_cases e:k=j
  ·subst e;rw[aT (ar.1 hc).1]at hx;obtain rfl:=aw hx;exact hk
  rw[aX e]at hx;have:=(h.dG j x hx).more (g:=g) (x:=[]) hb (fun y hy=>by rw[hg y hy];omega);rwa [cw]at this
 simp only[dB.fK]at hx;by_cases e:k=j
 ·subst e;rw[aT (ar.1 hc).1]at hx;obtain rfl:=aw hx;exact ho hj
 rw[aX e]at hx;exact h.eC j x hx hj
theorem Inv.p9 {b:Int} {G:eF} {w:dB} {r:List dH×dW×dC} (h:Inv b G w) (hr:Good G w.eM r):Inv b G ({w with eM:=r.2.1,eD:=some r.2.2}.fK true r.1):=by
 obtain⟨⟨x,hx⟩,h2,h3,h4⟩:=hr;refine⟨h.b0,h.ft,h.uniq,h2,fun g hg=>?_,fun s hs=>?_,h.nl,h.no,h.eH,fun j c hc=>?_,fun e he=>?_,h.eC⟩
 ·show fM G r.2.1.dK g.gJ;rcases rO _ _ _ _ hg with hg|hg
  ·rw[hx];exact (h.dM g hg).more x []
  exact h4 _ hg
 ·obtain rfl:=aw hs;exact h3
 ·show iG G r.2.1.dK b _ j c;rw[hx];exact (h.dG j c hc).more (g:=[]) (Int.le_refl _) (fun y hy=>by cases hy)
 show tL r.2.1.dK e;rw[hx];exact⟨(h.ef e he).dF,fun h0=>((h.ef e he).known h0).imp (fun h=>h) fun h=>h.more _⟩
theorem Inv.nk {b:Int} {G:eF} {w:dB} (h:Inv b G w):Inv b G w.eR:=⟨h.b0,h.ft,h.uniq,h.dK,h.dM,h.eD,h.nl,h.no,h.eH,h.dG,h.ef,h.eC⟩
theorem Inv.rM {b:Int} {G:eF} {w:dB} (h:Inv b G w):Inv b G {w with eD:=none}:=⟨h.b0,h.ft,h.uniq,h.dK,h.dM,(fun s h=>by cases h),h.nl,h.no,h.eH,h.dG,h.ef,h.eC⟩
theorem Inv.lI {b:Int} {G:eF} {w:dB} (h:Inv b G w):Inv b G w.iu:=by
 unfold dB.iu;split
 ·split
  ·exact h.rM
  exact h
 exact h
theorem Inv.jt {b b':Int} {G:eF} {w:dB} (h:Inv b G w) (hb:b<=b'):Inv b' G w:=
 ⟨by have:=h.b0;omega,h.ft,h.uniq,h.dK,h.dM,h.eD,h.nl,h.no,h.eH,fun k c hc=>⟨(h.dG k c hc).id,(h.dG k c hc).low,by have:=(h.dG k c hc).high;omega,(h.dG k c hc).cache,(h.dG k c hc).asks,(h.dG k c hc).elder,(h.dG k c hc).kinds,(h.dG k c hc).over,(h.dG k c hc).short,(h.dG k c hc).top,(h.dG k c hc).one⟩,h.ef,h.eC⟩
theorem Inv.lx {b:Int} {G:eF} {w:dB} (h:Inv b G w) {n:Net} (hn:∀g∈n.l,g∈w.dM.l):Inv b G {w with dM:=n}:=⟨h.b0,h.ft,h.uniq,h.dK,fun g hg=>h.dM g (hn g hg),h.eD,h.nl,h.no,h.eH,h.dG,h.ef,h.eC⟩
theorem qd (l:List Int) (k j:Nat) (x d:Int):(l.set k x).getD j d=if k=j/\k<l.length then x else l.getD j d:=by
 simp only[aB];by_cases e:k=j
 ·subst e;by_cases hk:k<l.length
  ·rw[aT hk];simp[hk]
  rw[bm (by simp;omega),bm (by omega)];simp[hk]
 rw[aX e];simp[e]
theorem Inv.lJ {b:Int} {G:eF} {w:dB} (h:Inv b G w) (k:Nat):Inv b G (w.ir k):=by
 unfold dB.ir;split
 ·rename_i c e hc he;split
  ·rename_i Mf;simp only[aK,decide_eq_true_eq,a8]at Mf;split
   ·rename_i x hx;refine⟨h.b0,h.ft,h.uniq,h.dK,h.dM,h.eD,h.nl,by simpa using h.no,h.eH,h.dG,fun y hy=>?_,fun j c' Nv hj=>?_⟩
    ·rcases cF hy with hy|rfl
     ·exact h.ef y hy
     have hk:=h.eC k c hc (by rw[aB,he];exact Mf.1);have:=(h.dG k c hc).over Mf.2 hk;exact⟨this.dF,fun _=>this.known⟩
    simp only[qd]at hj;split at hj
    ·omega
    exact h.eC j c' Nv hj
   exact h
  exact h
 exact h
theorem pw {b:Int} {G:eF} {w:dB} (h:Inv b G w) {k:Nat} {c:dJ} (hc:w.dG[k]?=some c):0<=w.eH.getD k 0/\w.eH.getD k 0<=1000:=
 h.eH k (by rw[h.nl];exact (ar.1 hc).1)
theorem yS {b:Int} {G g:eF} {w:dB} (h:Inv b G w) {k:Nat} {c c':dJ} (hc:w.dG[k]?=some c) {e:Int} {l:List dH}
 (hg:∀x∈g,x.1=k) (hu:pr (g++G)) (hk:iG (g++G) w.eM.dK (b+2) (w.eH.getD k 0) k c') (LA:∀m∈l,fM (g++G) w.eM.dK m) (h0:e=0->c'.call.dT≠0/\eT c'.call.dF=true) (h1:e≠0->c'=c) :
 Inv (b+2) (g++G) (w.fI k e l c').2:=by
 unfold dB.fI;split
 ·rename_i he;have:=h.mP hc (b':=b+2) (by omega) hg hu hk (out:=[]) (fun m hm=>by cases hm) (fun ho=>by rw[h1 he];exact h.eC k c hc ho);exact this
 rename_i he;(have he:e=0:=by omega);obtain⟨Uq,MP⟩:=h0 he;have h2:=h.mP hc (b':=b+2) (by omega) hg hu hk (out:=l) LA (fun _=>Uq);refine Inv.lJ ?_ k;refine⟨h2.b0,h2.ft,h2.uniq,h2.dK,h2.dM,h2.eD,h2.nl,?_,h2.eH,h2.dG,fun y hy=>?_,fun j x hx hj=>?_⟩
 ·have:=h2.no;simp only[dB.fK,dB.eR,aN]at this⊢;exact this
 ·simp only[dB.fK,dB.eR]at hy;rcases aO.1 hy with hy|hy
  ·exact h2.ef y hy
  obtain rfl:=aH.1 hy;exact⟨MP,fun h=>absurd rfl h⟩
 simp only[dB.fK,dB.eR,qd]at hj hx;by_cases e:k=j
 ·subst e;rw[aT (ar.1 hc).1]at hx;obtain rfl:=aw hx;exact Uq
 rw[if_neg (fun h=>e h.1)]at hj;exact h2.eC j x hx hj
theorem F4 {b:Int} {G:eF} {w:dB} (h:Inv b G w) (hb:b<1000000) (k o:Int):∃G',Inv (b+2) G' (w.read k o).2:=by
 unfold dB.read;split
 ·exact⟨G,h.jt (by omega)⟩
 split
 ·rename_i c hc;obtain⟨l0,l1⟩:=pw h hc;obtain⟨k1,k2,k3,k4⟩:=yO (h.dG _ c hc) h.b0 hb l0 l1 o;exact⟨[]++G,yS (g:=[]) h hc (fun x hx=>by cases hx) h.uniq k2 k1 k3 k4⟩
 exact⟨G,h.jt (by omega)⟩
theorem F5 {b:Int} {G:eF} {w:dB} (h:Inv b G w) (hb:b<1000000) (k o:Int) (data:Bytes):∃G',Inv (b+2) G' (w.write k o data).2:=by
 unfold dB.write;split
 ·exact⟨G,h.jt (by omega)⟩
 split
 ·rename_i c hc;obtain⟨l0,l1⟩:=pw h hc;obtain⟨g,hg,hu,k1,k2,k3,k4⟩:=yP (h.dG _ c hc) h.b0 hb l0 l1 o data h.uniq (by have:=(ar.1 hc).1;have:=h.ft;omega);exact⟨g++G,yS h hc hg hu k2 k1 k3 k4⟩
 exact⟨G,h.jt (by omega)⟩
theorem tU {b:Int} {G:eF} {w:dB} (h:Inv b G w) (hb:b<1000000) (k:Int):Inv (b+1) G (w.eV k).2:=by
 unfold dB.eV;split
 ·exact h.jt (by omega)
 split
 ·rename_i c hc;obtain⟨l0,l1⟩:=pw h hc;obtain⟨k1,k2,k3⟩:=tS (h.dG _ c hc) h.b0 (by omega) l0 l1;have:=(h.mP hc (g:=[]) (b':=b+1) (by omega) (fun x hx=>by cases hx) h.uniq k2 (out:=c.eV.1) k1 (fun ho=>by rw[k3];exact h.eC _ c hc ho)).nk;exact this
 exact h.jt (by omega)
theorem tV {b:Int} {G:eF} {w:dB} (h:Inv b G w) (k:Int):Inv b G (w.gw k).2:=by
 unfold dB.gw;split
 ·exact h
 split
 ·exact h
 rename_i g hg;have hm:fM G w.eM.dK g.gJ:=h.dM g (aR hg);have h1:Inv b G ({w with dM:={w.dM with l:=w.dM.l.eraseIdx k.toNat} }:dB).eR:=(h.lx fun x hx=>bD hx).nk;have hd:({w with dM:={w.dM with l:=w.dM.l.eraseIdx k.toNat} }:dB).eR.eM=w.eM:=rfl;generalize ({w with dM:={w.dM with l:=w.dM.l.eraseIdx k.toNat} }:dB).eR=w1 at h1 hd⊢;rw[<- hd]at hm;simp only;split
 ·split
  ·exact h1
  rename_i s hs;exact (h1.p9 (yI (h1.eD s hs) h1.dK _ hm)).lI
 split
 ·rename_i c hc;obtain⟨k1,k2,k3⟩:=yQ (h1.dG _ c hc) h1.dK h1.uniq hm;have:=(h1.mP hc (g:=[]) (b':=b) (by omega) (fun x hx=>by cases hx) h1.uniq k2 (out:=(c.take g.gJ).1) k1 (fun ho=>by rw[k3];exact h1.eC _ c hc ho)).lJ g.to.toNat;exact this
 exact h1
theorem F6 {b:Int} {G:eF} {w:dB} (h:Inv b G w) (k:Int):Inv b G (w.gT k).2:=by
 unfold dB.gT;split
 ·exact h
 exact h.lx fun x hx=>bD hx
theorem F7 {b:Int} {G:eF} {w:dB} (h:Inv b G w) (k:Int):Inv b G (w.gU k).2:=by
 unfold dB.gU;split
 ·exact h
 split
 ·rename_i g hg;refine h.lx fun x hx=>?_;unfold Net.send at hx;split at hx
  ·exact hx
  rcases aO.1 hx with hx|hx
  ·exact hx
  obtain rfl:=aH.1 hx;exact aR hg
 exact h
theorem od:∀(cs:List dJ) (ns:List Int) (k:Nat) (c':dJ),(gG cs ns)[k]?=some c'->∃c,cs[k]?=some c/\(c'=c\/∃n,c'=c.at_ n)
 | [],[],k,c',h=>by simp[gG]at h
 | [],n::ns,k,c',h=>by simp[gG]at h
 |c::cs,[],k,c',h=>⟨c',by simpa[gG]using h,.inl rfl⟩
 |c::cs,n::ns,0,c',h=>⟨c,rfl,.inr ⟨n,by simpa[gG,eq_comm]using h⟩⟩
 |c::cs,n::ns,k+1,c',h=>by
  have:=od cs ns k c' (by simpa[gG]using h);simpa using this
theorem mQ:∀(cs:List dJ) (ns:List Int),(gG cs ns).length=cs.length
 | [],[]=>rfl
 | [],_::_=>rfl
 |_::_,[]=>rfl
 |_::cs,_::ns=>by simp[gG,mQ cs ns]
theorem Inv.rP {b:Int} {G:eF} {w:dB} (h:Inv b G w) (ns cl:List Int):Inv b G {w with ee:=cl,dG:=gG w.dG ns}:=by
 refine⟨h.b0,by simpa[mQ]using h.ft,h.uniq,h.dK,h.dM,h.eD,by simpa[mQ]using h.nl,by simpa[mQ]using h.no,h.eH,fun k c hc=>?_,h.ef,fun k c hc ho=>?_⟩
 ·obtain⟨c0,h0,rfl|⟨n,rfl⟩⟩:=od _ _ _ _ hc
  ·exact h.dG k _ h0
  have:=h.dG k _ h0;exact⟨this.id,this.low,this.high,this.cache,this.asks,this.elder,this.kinds,this.over,this.short,this.top,this.one⟩
 obtain⟨c0,h0,rfl|⟨n,rfl⟩⟩:=od _ _ _ _ hc
 ·exact h.eC k _ h0 ho
 have:=h.eC k _ h0 ho;exact this
theorem tW {b:Int} {G:eF} {w:dB} (h:Inv b G w) (l:List Int):Inv b G (w.fA l).2:=by
 unfold dB.fA;split
 ·exact h
 split
 ·exact h
 have h1:=(h.rP (iv w.ee l).tail (iv w.ee l)).nk;simp only;generalize ({w with ee:=iv w.ee l,dG:=gG w.dG (iv w.ee l).tail}:dB).eR=w1 at h1⊢;split
 ·exact h1
 rename_i s hs;exact (h1.p9 (yK (h1.eD s hs) h1.dK _)).lI
theorem F8 {b:Int} {G:eF} {w:dB} (h:Inv b G w) (a t:Int):Inv b G (w.kN a t):=by
 refine⟨h.b0,h.ft,h.uniq,h.dK,h.dM,fun s hs=>?_,h.nl,h.no,h.eH,h.dG,h.ef,h.eC⟩;simp only[dB.kN]at hs
 cases hw:w.eD with
 |none=>rw[hw]at hs;cases hs
 |some s0 =>
  rw[hw]at hs;obtain rfl:=aw hs;exact (h.eD s0 hw).FU t
theorem F9 {b:Int} {G:eF} {w:dB} (h:Inv b G w):Inv b G w.oZ:=h.nk.rM
theorem tX {b:Int} {G:eF} {w:dB} (h:Inv b G w):Inv b G w.gx.2:=by
 unfold dB.gx;split
 ·exact h
 obtain⟨⟨x,hx⟩,h2,h3⟩:=yL (d:=w.eM.cutAt (-1)) h.dK w.eJ (w.ee.getD 0 0);have YW:(dC.new w.eJ (w.eM.cutAt (-1)) (w.ee.getD 0 0)).2.1.dK=w.eM.dK++x:=hx;have h1:=h.nk;simp only;refine⟨h1.b0,h1.ft,h1.uniq,h2,fun g hg=>?_,h3,h1.nl,h1.no,h1.eH,fun j c hc=>?_,fun e he=>?_,h1.eC⟩
 ·show fM G (dC.new w.eJ (w.eM.cutAt (-1)) (w.ee.getD 0 0)).2.1.dK g.gJ;rw[YW];exact (h.dM g hg).more x []
 ·show iG G (dC.new w.eJ (w.eM.cutAt (-1)) (w.ee.getD 0 0)).2.1.dK b _ j c;rw[YW];exact (h.dG j c hc).more (g:=[]) (Int.le_refl _) (fun y hy=>by cases hy)
 show tL (dC.new w.eJ (w.eM.cutAt (-1)) (w.ee.getD 0 0)).2.1.dK e;rw[YW];exact⟨(h.ef e he).dF,fun h0=>((h.ef e he).known h0).imp (fun h=>h) fun h=>h.more _⟩
theorem Ga {b:Int} {G:eF} {w:dB} (h:Inv b G w) (hb:b<1000000) (k:Int):Inv b G (w.gV k).2:=by
 unfold dB.gV;split
 ·exact h
 rename_i hk;simp only[dB.right,a8,bS,aK,decide_eq_true_eq]at hk;split
 ·exact h
 rename_i c hc;unfold dJ.new at hc;split at hc
 ·rename_i Mf;obtain rfl:=aw hc;(have Kg:k.toNat<w.dG.length:=by omega);obtain⟨l0,l1⟩:=h.eH k.toNat (by rw[h.nl];exact Kg);have hw:wrap64 (w.eH.getD k.toNat 0+1)=w.eH.getD k.toNat 0+1:=p6 (by omega) (by omega);rw[hw]at Mf⊢;simp only[aK,eG,decide_eq_true_eq]at Mf;have KC:=h.dG k.toNat _ (ax Kg);(have e1:((k.toNat:Nat):Int)=k:=by omega);refine Inv.nk ⟨h.b0,by simpa using h.ft,h.uniq,h.dK,h.dM,h.eD,by simpa using h.nl,by simpa using h.no,fun j hj=>?_,fun j c' Nv=>?_,h.ef,fun j c' Nv ho=>?_⟩
  ·simp only[qd,aN]at hj⊢;split
   ·exact⟨by omega,by omega⟩
   exact h.eH j hj
  ·simp only[qd]at Nv⊢;by_cases e:k.toNat=j
   ·subst e;rw[aT Kg]at Nv;obtain rfl:=aw Nv;rw[if_pos ⟨rfl,by rw[h.nl];exact Kg⟩];refine⟨e1.symm,(by show _<=(w.eH.getD k.toNat 0+1)*1048576;omega),(by show (w.eH.getD k.toNat 0+1)*1048576<=_;have:=h.b0;omega),(fun x hx=>by cases hx),(fun hb=>by simp[dJ.fX]at hb),fun n o d hm=>?_,(fun hb=>by simp[dJ.fX]at hb),(fun _ hk=>absurd rfl hk),(fun h=>by simp[lX]at h),(fun hb=>by simp[dJ.fX]at hb),List.nodup_nil⟩;have:=KC.elder n o d (by rw[KC.id,e1];exact hm);have:=KC.high;show n<=(w.eH.getD k.toNat 0+1)*1048576;omega
   rw[aX e]at Nv;rw[if_neg (fun h=>e h.1)];exact h.dG j c' Nv
  simp only[qd]at Nv ho;by_cases e:k.toNat=j
  ·subst e;rw[if_pos ⟨rfl,by rw[h.no];exact Kg⟩]at ho;omega
  rw[aX e]at Nv;rw[if_neg (fun h=>e h.1)]at ho;exact h.eC j c' Nv ho
 cases hc
theorem rQ {b:Int} {G:eF}:∀(f:Nat) {w:dB} (_:Inv b G w),Inv b G (dB.iL f w)
 |0,_,h=>h
 |f+1,w,h=>by
  unfold dB.iL;split
  ·exact h
  exact rQ f (tV h 0)
theorem yT {G:eF}:∀(ks:List Nat) {b:Int} {w:dB} (_:Inv b G w) (_:b+ks.length<=1000000),Inv (b+ks.length) G (dB.jm ks w)
 | [],b,w,h,_=>by simpa[dB.jm]using h
 |k::ks,b,w,h,hb=>by
  simp only[aJ]at hb;unfold dB.jm;have:=yT ks (rQ 1000 (tU h (by omega) k)) (by omega);(have e:b+1+(ks.length:Int)=b+((k::ks).length:Nat):=by simp;omega);rw[e]at this;exact this
theorem Gb {b:Int} {G:eF} {w:dB} (h:Inv b G w) (hb:b+4<=1000000):Inv (b+4) G w.round:=by
 unfold dB.round;have h1:=tX h;have hf:=h1.ft;have h2:=yT (List.range w.gx.2.dG.length) h1 (by simp;omega);exact (rQ 1000 (tW h2 _)).jt (by simp;omega)
theorem yU {G:eF}:∀(n:Nat) {b:Int} {w:dB} (_:Inv b G w) (_:b+4*n<=1000000),Inv (b+4*n) G (dB.iw n w)
 |0,b,w,h,_=>by simpa[dB.iw]using h
 |n+1,b,w,h,hb=>by
  unfold dB.iw;have:=yU n (Gb h (by omega)) (by omega);rwa [show b+4+4*(n:Int)=b+4*((n+1:Nat):Int) from by omega]at this
theorem rR:∀(n:Nat) {t:eA} {j:Nat} {l:List dJ} (_:lE t j n=some l),l.length=n/\∀k c,l[k]?=some c->dJ.new (j+k:Nat) t 0 0=some c
 |0,t,j,l,h=>by
  (obtain rfl:[]=l:=by simpa[lE]using h);exact⟨rfl,fun k c hk=>by simp at hk⟩
 |n+1,t,j,l,h=>by
  unfold lE at h;split at h
  ·rename_i c cs h1 h2;obtain rfl:=aw h;obtain⟨i1,i2⟩:=rR n h2;refine⟨by simp[i1],fun k x hk=>?_⟩
   cases k with
   |zero =>
    (obtain rfl:c=x:=by simpa using hk);exact h1
   |succ k =>
    have:=i2 k x (by simpa using hk);rwa [show j+1+k=j+(k+1) from by omega]at this
  cases h
theorem Gc {t:eA} {n:Int} {w:dB} (h:(dB.new t n).2=some w):Inv 0 [] w:=by
 unfold dB.new at h;split at h
 ·cases h
 rename_i hn;simp only[a8,bS,eG,aK,decide_eq_true_eq]at hn;have h0:iT [] (⟨[],false,0⟩:dW).dK:=⟨by simp,fun a r b e=>by simp at e,fun r hr=>by simp at hr,fun r hr=>by simp at hr,fun r hr=>by simp at hr⟩;obtain⟨_,k2,k3⟩:=yL h0 t 0;split at h
 ·rename_i e d s heq;rw[heq]at k2 k3;split at h
  ·rename_i cs LN;obtain rfl:=aw h;obtain⟨c1,c2⟩:=rR _ LN;refine⟨Int.le_refl _,(by simp only[c1];omega),⟨(fun _ _ _ _ _ _ h=>by cases h),fun _ _ _ _ h=>by cases h⟩,k2,(fun g hg=>by cases hg),(fun s' R7=>k3 s' R7),(by simp[c1]),(by simp[c1]),fun k hk=>?_,fun k c hc=>?_,(fun e he=>by cases he),fun k c hc ho=>?_⟩
   ·simp only[aB,bB];split<;>simp
   ·have Kg:=(ar.1 hc).1;rw[c1]at Kg;(have hg:(List.replicate n.toNat (0:Int)).getD k 0=0:=by simp[List.getD_eq_getElem?_getD,Kg]);simp only[hg];have:=c2 k c hc;unfold dJ.new at this;split at this
    ·obtain rfl:=aw this;exact⟨by simp,by simp,by simp,(fun x hx=>by cases hx),(fun hb=>by simp[dJ.fX]at hb),(fun _ _ _ h=>by cases h),(fun hb=>by simp[dJ.fX]at hb),(fun _ hk=>absurd rfl hk),(fun h=>by simp[lX]at h),(fun hb=>by simp[dJ.fX]at hb),List.nodup_nil⟩
    cases this
   exfalso;simp only[aB,bB]at ho;split at ho<;>simp at ho
  cases h
 cases h
def Idx (w:dB):Prop:=∀e∈w.eC,e<w.ef.length
theorem mem_set {l:List Int} {k:Nat} {x e:Int} (h:e∈l.set k x):e=x\/e∈l:=(cF h).symm
theorem Idx.same {w w':dB} (h:Idx w) (e1:w'.eC=w.eC) (e2:w'.ef.length=w.ef.length):Idx w':=fun e he=>by rw[e2];exact h e (e1▸he)
theorem Idx.tY {w:dB} (h:Idx w) (b:Bool) (l:List dH):Idx (w.fK b l):=h
theorem Idx.lJ {w:dB} (h:Idx w) (k:Nat):Idx (w.ir k):=by
 unfold dB.ir;split
 ·split
  ·split
   ·intro e he;simp only[aN]at he⊢;rcases mem_set he with rfl|he
    ·omega
    exact h e he
   exact h
  exact h
 exact h
theorem Idx.nn {w:dB} (h:Idx w) (k:Nat) (e:Int) (l:List dH) (c:dJ):Idx (w.fI k e l c).2:=by
 unfold dB.fI;split
 ·exact h
 refine Idx.lJ (Idx.tY (fun x hx=>?_) _ _) _;simp only[dB.eR,aA,aQ]at hx⊢;rcases mem_set hx with rfl|hx
 ·omega
 have:=h x hx;omega
theorem Idx.oe {w:dB} (h:Idx w) (k o:Int):Idx (w.read k o).2:=by
 unfold dB.read;split
 ·exact h
 split
 ·exact h.nn _ _ _ _
 exact h
theorem Idx.og {w:dB} (h:Idx w) (k o:Int) (d:Bytes):Idx (w.write k o d).2:=by
 unfold dB.write;split
 ·exact h
 split
 ·exact h.nn _ _ _ _
 exact h
theorem Idx.kE {w:dB} (h:Idx w) (k:Int):Idx (w.eV k).2:=by
 unfold dB.eV;split
 ·exact h
 split
 ·exact h
 exact h
theorem Idx.lI {w:dB} (h:Idx w):Idx w.iu:=by
 unfold dB.iu;split
 ·split
  ·exact h
  exact h
 exact h
theorem Idx.ly {w:dB} (h:Idx w) (k:Int):Idx (w.gw k).2:=by
 unfold dB.gw;split
 ·exact h
 split
 ·exact h
 simp only;split
 ·split
  ·exact h
  exact Idx.lI (w:=dB.fK _ true _) h
 split
 ·refine Idx.lJ ?_ _;exact h
 exact h
theorem Idx.oq {w:dB} (h:Idx w) (k:Int):Idx (w.gT k).2:=by
 unfold dB.gT;split<;>exact h
theorem Idx.ot {w:dB} (h:Idx w) (k:Int):Idx (w.gU k).2:=by
 unfold dB.gU;split
 ·exact h
 split<;>exact h
theorem Idx.jh {w:dB} (h:Idx w) (l:List Int):Idx (w.fA l).2:=by
 unfold dB.fA;split
 ·exact h
 split
 ·exact h
 simp only;split
 ·exact h
 exact Idx.lI (w:=dB.fK _ true _) h
theorem Idx.kF {w:dB} (h:Idx w):Idx w.gx.2:=by
 unfold dB.gx;split<;>exact h
theorem Idx.ou {w:dB} (h:Idx w) (k:Int):Idx (w.gV k).2:=by
 unfold dB.gV;split
 ·exact h
 split
 ·exact h
 intro e he;simp only[dB.eR]at he⊢;rcases mem_set he with rfl|he
 ·omega
 exact h e he
theorem Idx.kY:∀(f:Nat) {w:dB} (_:Idx w),Idx (dB.iL f w)
 |0,_,h=>h
 |f+1,w,h=>by
  unfold dB.iL;split
  ·exact h
  exact Idx.kY f (h.ly 0)
theorem Idx.np:∀(ks:List Nat) {w:dB} (_:Idx w),Idx (dB.jm ks w)
 | [],_,h=>h
 |k::ks,_,h=>Idx.np ks (Idx.kY 1000 (h.kE k))
theorem Idx.px {w:dB} (h:Idx w):Idx w.round:=Idx.kY 1000 ((Idx.np _ h.kF).jh _)
theorem Idx.kZ:∀(n:Nat) {w:dB} (_:Idx w),Idx (dB.iw n w)
 |0,_,h=>h
 |n+1,_,h=>Idx.kZ n h.px
theorem Idx.mh {t:eA} {n:Int} {w:dB} (h:(dB.new t n).2=some w):Idx w:=by
 unfold dB.new at h;split at h
 ·cases h
 split at h
 ·split at h
  ·obtain rfl:=aw h;intro e he;have:=List.eq_of_mem_replicate he;simp only[aZ];omega
  cases h
 cases h
def Cl (K:Nat) (c:Int):Prop:=0<=c/\c<K
def fy (K:Nat) (l:List dH):Prop:=∀m∈l,Cl K m.dL
def i6 (K:Nat) (l:List Rec):Prop:=∀r∈l,0<=r.dF->Cl K r.dL
structure gB (K:Nat) (s:dC):Prop where
 dX:∀q∈s.eQ,∀x∈q,Cl K x.dL
 done:∀k m,ez k s.done=some m->Cl K m.dL
 fN:∀e∈s.eo.fN,Cl K e.1.1
def nr (K:Nat) (r:List dH×dW×dC):Prop:=fy K r.1/\i6 K r.2.1.dK/\gB K r.2.2
section
variable {K:Nat} {s:dC} {d:dW}
theorem fy.nil:fy K []:=fun m hm=>by cases hm
theorem fy.one {m:dH} (h:Cl K m.dL):fy K [m]:=fun x hx=>by rw[aH.1 hx];exact h
theorem fy.app {a b:List dH} (ha:fy K a) (hb:fy K b):fy K (a++b):=fun m hm=>(aO.1 hm).elim (ha m) (hb m)
theorem nI {A V:Type} [DecidableEq A] {k:A} {v:V}:∀ {l:List (A×V)},ez k l=some v->(k,v)∈l
 | [],h=>by cases h
 |(x,u)::l,h=>by
  unfold ez at h;split at h
  ·rename_i e;rw[<- e,aw h];exact bt
  exact bh _ (nI h)
theorem rW {A V:Type} [DecidableEq A] {k:A} {e:A×V}:∀ {l:List (A×V)},e∈del k l->e∈l
 | [],h=>h
 |(x,u)::l,h=>by
  unfold del at h;split at h
  ·exact bh _ (rW h)
  rcases aM.1 h with h|h
  ·rw[h];exact bt
  exact bh _ (rW h)
theorem GD (h:gB K s) (o dE:Int):∀c∈s.eo.gr o dE,Cl K c:=fun c hc=>by
 unfold eY.gr at hc;have hh:=(cr.1 hc).2;unfold eY.holds at hh;split at hh
 ·rename_i u hu;exact h.fN _ (nI hu)
 cases hh
theorem GF (t:eY) (c:Int):∀e∈(t.flush c).2.fN,e∈t.fN:=fun e he=>by
 unfold eY.flush at he;split at he
 ·exact (cr.1 he).1
 exact he
theorem ze:∀(l:List Int) (t:eY),∀e∈(lY t l).fN,e∈t.fN
 | [],_,_,h=>h
 |c::l,t,e,h=>GF t c e (ze l (t.flush c).2 e h)
theorem GG {o:Nat} {x:Wr} (h:x∈s.dX o):∃q∈s.eQ,x∈q:=by
 unfold dC.dX at h;rw[aB]at h
 cases hq:s.eQ[o]? with
 |none=>rw[hq]at h;cases h
 |some q=>rw[hq]at h;exact⟨q,aR hq,h⟩
theorem gB.zf (h:gB K s) {o:Nat} {x:Wr} (hx:x∈s.dX o):Cl K x.dL:=by
 obtain⟨q,h1,h2⟩:=GG hx;exact h.dX q h1 x h2
theorem gB.eu (h:gB K s) (o:Nat) {q:List Wr} (hq:∀x∈q,Cl K x.dL):gB K {s with eQ:=s.eQ.set o q}:=
 ⟨fun p hp x hx=>by
  rcases cF hp with h1|h1
  ·exact h.dX p h1 x hx
  rw[h1]at hx;exact hq x hx,h.done,h.fN⟩
theorem gB.p7 (h:gB K s) (k:Int) {m:dH} (hm:Cl K m.dL):gB K {s with done:=put k m s.done}:=
 ⟨h.dX,fun j x hx=>by
  rw[rK]at hx;split at hx
  ·rw[<- aw hx];exact hm
  exact h.done j x hx,h.fN⟩
theorem gB.fD (h:gB K s) {t:eY} (ht:∀e∈t.fN,Cl K e.1.1):gB K {s with eo:=t}:=⟨h.dX,h.done,ht⟩
theorem i6.zg (h:i6 K d.dK) (dU:Bool) {r:Rec} (hr:0<=r.dF->Cl K r.dL):i6 K (d.add dU r).2.1.dK:=by
 generalize hp:d.add dU r=p;obtain⟨e,d',LX⟩:=p;rcases pO hp with⟨-,h2,-⟩|⟨-,h2,-⟩
 ·show i6 K d'.dK;rw[h2];intro x hx h0;rcases aO.1 hx with hx|hx
  ·exact h x hx h0
  rw[aH.1 hx]at h0⊢;exact hr h0
 show i6 K d'.dK;rw[h2];exact h
theorem GH (h:gB K s) (hr:i6 K d.dK) {o:Nat} {x:Wr} {rest:List Wr} (hx:Cl K x.dL) (aav:∀y∈rest,Cl K y.dL) {out:List dH} (ho:fy K out):nr K (s.store d o x rest out).2:=by
 unfold dC.store;simp only;have ha:=hr.zg s.dU (r:=⟨x.dL,x.dN,o,wrap64 ((s.value o).dY+1),x.data,0⟩) fun _=>hx;generalize d.add s.dU ⟨x.dL,x.dN,o,wrap64 ((s.value o).dY+1),x.data,0⟩=p at ha⊢;have h1:gB K {s with dU:=p.2.2}:=⟨h.dX,h.done,h.fN⟩;split
 ·exact⟨fy.nil,ha,h1⟩
 have key:gB K (dC.answer {s with dU:=p.2.2} p.1 ⟨x.dL,x.dN,o,wrap64 ((s.value o).dY+1),x.data,0⟩).1/\Cl K (dC.answer {s with dU:=p.2.2} p.1 ⟨x.dL,x.dN,o,wrap64 ((s.value o).dY+1),x.data,0⟩).2.dL:=by
  unfold dC.answer;split
  ·exact⟨⟨h.dX,(h1.p7 x.dL (m:={gg with dT:=6,dL:=x.dL,dN:=x.dN,dF:=o,eI:=wrap64 ((s.value o).dY+1)}) hx).done,h.fN⟩,hx⟩
  exact⟨h1.p7 x.dL hx,hx⟩
 obtain⟨k1,k2⟩:=key;exact⟨ho.app (fy.one k2),ha,k1.eu o aav⟩
theorem GI (h:gB K s) (hr:i6 K d.dK) {o:Nat} {x:Wr} {rest:List Wr} (hq:s.dX o=x::rest) {out:List dH} (ho:fy K out):nr K (s.jA d o x rest out).2:=by
 have hx:∀y∈x::rest,Cl K y.dL:=fun y hy=>h.zf (o:=o) (by rw[hq];exact hy)
 have h1:gB K {s with eQ:=s.eQ.set o ({x with gC:=true}::rest)}:=h.eu o fun y hy=>by
  rcases aM.1 hy with rfl|hy
  ·exact hx x (by simp)
  exact hx y (by simp[hy])
 have h2:fy K (if x.gC then out else out++(s.eo.gr o s.dE).map fun c=>s.gv c o):=by
  split
  ·exact ho
  refine ho.app fun m hm=>?_;obtain⟨c,hc,rfl⟩:=bA.1 hm;exact GD h _ _ c hc
 unfold dC.jA;simp only;split
 ·exact⟨h2,hr,h1⟩
 exact GH (h1.fD fun e he=>h.fN e (ze _ _ e he)) hr (hx x (by simp)) (fun y hy=>hx y (by simp[hy])) h2
theorem zh {o:Nat}:∀(f:Nat) {d:dW} {s:dC} (_:gB K s) (_:i6 K d.dK) {out:List dH} (_:fy K out),nr K (dC.jd f d s o out)
 |0,_,_,h,hr,_,ho=>⟨ho,hr,h⟩
 |f+1,d,s,h,hr,out,ho=>by
  unfold dC.jd;split
  ·exact⟨ho,hr,h⟩
  rename_i x rest hq;split
  ·exact⟨ho,hr,h⟩
  have hg:=GI h hr hq ho;simp only;generalize s.jA d o x rest out=r at hg⊢;split
  ·exact zh f hg.2.2 hg.2.1 hg.1
  exact hg
theorem ud (h:gB K s) (hr:i6 K d.dK) (o:Nat):nr K (dC.fA d s o):=zh _ h hr fy.nil
theorem GJ (h:gB K s) (hr:i6 K d.dK) (dE:Int) {m:dH} (hm:Cl K m.dL):nr K (dC.take d s dE m):=by
 have hz:gB K (s.at_ dE):=⟨h.dX,h.done,h.fN⟩;have hv:=yA d s dE m;generalize dC.take d s dE m=r at hv⊢;generalize s.at_ dE=z at hv hz
 cases hv with
 |off=>exact⟨fy.nil,hr,h⟩
 |idle=>exact⟨fy.nil,hr,hz⟩
 |done x _ _ _ _ hx=>exact⟨fy.one (hz.done _ x hx),hr,hz⟩
 |read=>exact⟨fy.one hm,hr,hz⟩
 |flush1=>exact⟨fy.app (a:=[p5 z m]) (fy.one hm) (fy.one hm),hr,hz⟩
 |fu =>
  refine⟨fy.one hm,hr,hz.fD fun e he=>?_⟩;unfold eY.dF at he;split at he
  ·rcases aM.1 he with rfl|he
   ·exact hm
   exact hz.fN e (rW he)
  exact hz.fN e he
 |flush3=>exact⟨fy.one hm,hr,hz⟩
 |wait=>exact⟨fun x hx=>by obtain⟨k,_,rfl⟩:=bA.1 hx;exact hm,hr,hz⟩
 |vol =>
  refine⟨fy.one hm,hr,hz.fD fun e he=>?_⟩;unfold eY.ei at he;split at he<;>exact hz.fN e he
 |enq =>
  exact ud (hz.eu _ fun x hx=>by
   rcases aO.1 hx with hx|hx
   ·exact hz.zf hx
   rw[aH.1 hx];exact hm) hr _
 |ack=>exact ud (hz.fD fun e he=>hz.fN e (rW he)) hr _
theorem zj:∀(ks:List Nat) {d:dW} {s:dC} (_:gB K s) (_:i6 K d.dK) {out:List dH} (_:fy K out),nr K (dC.mW ks d s out)
 | [],_,_,h,hr,_,ho=>⟨ho,hr,h⟩
 |k::ks,d,s,h,hr,out,ho=>by
  unfold dC.mW;obtain⟨g1,g2,g3⟩:=ud h hr k;exact zj ks g3 g2 (ho.app g1)
theorem GK (h:gB K s) (hr:i6 K d.dK) (dE:Int):nr K (dC.tick d s dE):=by
 unfold dC.tick;split
 ·exact⟨fy.nil,hr,h⟩
 exact zj (List.range 8) (s:=s.at_ dE) ⟨h.dX,h.done,h.fN⟩ hr (out:=[]) fy.nil
theorem ue:∀(l:List Rec) {s:dC} (_:gB K s) (_:i6 K l),gB K (s.gX l)
 | [],_,h,_=>h
 |r::l,s,h,hr=>by
  unfold dC.gX;have h2:i6 K l:=fun x hx=>hr x (bh _ hx);split
  ·exact ue l ⟨h.dX,h.done,h.fN⟩ h2
  refine ue l ?_ h2;have hc:=hr r bt (by omega);exact⟨h.dX,(h.p7 r.dL (m:={gg with dT:=6,dL:=r.dL,dN:=r.dN,dF:=r.dF,eI:=r.eI}) hc).done,h.fN⟩
theorem zl (hr:i6 K d.dK) (t:eA) (dE:Int):i6 K (dC.new t d dE).2.1.dK/\∀s,(dC.new t d dE).2.2=some s->gB K s:=by
 unfold dC.new;split
 ·exact⟨hr,fun s h=>by cases h⟩
 have hb:gB K (dC.blank t dE):=by
  refine⟨fun q hq x hx=>?_,fun k m h=>?_,fun e he=>?_⟩
  ·have:=List.eq_of_mem_replicate hq;rw[this]at hx;cases hx
  ·simp[dC.blank,ez]at h
  cases he
 have h1:gB K ((dC.blank t dE).gX d.dK):=ue _ hb hr;generalize (dC.blank t dE).gX d.dK=s1 at h1⊢
 have h2:gB K (if 1<(wrap64 (s1.dQ+1)) then {s1 with dQ:=wrap64 (s1.dQ+1),quiet:=dE+t.ei} else {s1 with dQ:=wrap64 (s1.dQ+1)}):=by
  split<;>exact⟨h1.dX,h1.done,h1.fN⟩
 simp only
 generalize (if 1<wrap64 (s1.dQ+1) then ({s1 with dQ:=wrap64 (s1.dQ+1),quiet:=dE+t.ei}:dC) else {s1 with dQ:=wrap64 (s1.dQ+1)})=s2 at h2⊢
 have ha:=hr.zg false (r:=⟨0,0,-1,0,[],s2.dQ⟩) fun h=>absurd h (by simp);generalize d.add false ⟨0,0,-1,0,[],s2.dQ⟩=p at ha⊢;split
 ·exact⟨ha,fun s hs=>by rw[<- aw hs];exact h2⟩
 exact⟨ha,fun s hs=>by cases hs⟩
end
structure Tos (w:dB):Prop where
 dK:i6 w.dG.length w.eM.dK
 eD:∀s,w.eD=some s->gB w.dG.length s
 dM:∀g∈w.dM.l,Cl w.dG.length g.gJ.dL/\(g.to<0\/g.to=g.gJ.dL)
 ids:∀(k:Nat) (c:dJ),w.dG[k]?=some c->c.id=k
section
variable {w:dB}
theorem ug {K:Nat} {c:dJ} (h:Cl K c.id):fy K c.eV.1/\c.eV.2.id=c.id:=by
 have h1:∀c':dJ,c'.id=c.id->fy K c'.asks:=fun c' e=>by
  unfold dJ.asks;split
  ·exact fy.one (by simp only[dJ.eL,e];exact h)
  exact fy.nil
 unfold dJ.eV;split
 ·exact⟨fy.app (fy.one h) (h1 _ rfl),rfl⟩
 exact⟨h1 _ rfl,rfl⟩
theorem ui {K:Nat} {c:dJ} (h:Cl K c.id):fy K c.ask.1/\c.ask.2.id=c.id:=by
 unfold dJ.ask;exact ug (c:={c with dN:=wrap64 (c.dN+1),fc:=wrap64 (c.dN+1),fL:=c.dE}) h
theorem zm {K:Nat} {c:dJ} (h:Cl K c.id) (o:Int):fy K (c.read o).2.1/\(c.read o).2.2.id=c.id:=by
 unfold dJ.read;split
 ·exact⟨fy.nil,rfl⟩
 split
 ·exact⟨fy.nil,rfl⟩
 simp only;split
 ·split
  ·exact⟨fy.nil,rfl⟩
  exact ui (by exact h)
 exact ui (by exact h)
theorem zn {K:Nat} {c:dJ} (h:Cl K c.id) (o:Int) (d:Bytes):fy K (c.write o d).2.1/\(c.write o d).2.2.id=c.id:=by
 unfold dJ.write;split
 ·exact⟨fy.nil,rfl⟩
 split
 ·exact⟨fy.nil,rfl⟩
 split
 ·exact⟨fy.nil,rfl⟩
 exact ui (by exact h)
theorem zo {K:Nat} {c:dJ} (h:Cl K c.id) (m:dH):fy K (c.take m).1/\(c.take m).2.id=c.id:=by
 unfold dJ.take;split
 ·exact⟨fy.nil,rfl⟩
 simp only;split
 ·refine⟨fy.nil,?_⟩;unfold dJ.lD;split
  ·rfl
  simp only;split<;>rfl
 split
 ·split<;>exact⟨fy.nil,rfl⟩
 split
 ·split<;>exact⟨fy.nil,rfl⟩
 split
 ·split<;>exact⟨fy.nil,rfl⟩
 split
 ·split
  ·exact⟨fy.one h,rfl⟩
  exact⟨fy.nil,rfl⟩
 exact⟨fy.nil,rfl⟩
theorem rX {K:Nat} (b:Bool):∀(l:List dH) (n:Net) (_:fy K l) (_:∀g∈n.l,Cl K g.gJ.dL/\(g.to<0\/g.to=g.gJ.dL)),∀g∈(j6 n b l).l,Cl K g.gJ.dL/\(g.to<0\/g.to=g.gJ.dL)
 | [],n,_,hn=>hn
 |m::l,n,hl,hn=>by
  unfold j6;split
  ·refine rX b l _ (fun x hx=>hl x (bh _ hx)) fun g hg=>?_;unfold Net.send at hg;split at hg
   ·exact hn g hg
   rcases aO.1 hg with hg|hg
   ·exact hn g hg
   rw[aH.1 hg];refine⟨hl m bt,?_⟩;cases b
   ·left;show (-1:Int)<0;decide
   exact .inr rfl
  exact rX b l n (fun x hx=>hl x (bh _ hx)) hn
theorem Tos.mP (h:Tos w) {k:Nat} {c c':dJ} (hc:w.dG[k]?=some c) (hid:c'.id=c.id) {l:List dH} (hl:fy w.dG.length l):Tos ({w with dG:=w.dG.set k c'}.fK false l):=by
 refine⟨?_,?_,?_,fun j x hx=>?_⟩
 ·show i6 (w.dG.set k c').length _;rw[aN];exact h.dK
 ·show ∀s,_->gB (w.dG.set k c').length s;rw[aN];exact h.eD
 ·show ∀g∈(j6 w.dM false l).l,Cl (w.dG.set k c').length _/\_;rw[aN];exact rX false l w.dM hl h.dM
 have hx:(w.dG.set k c')[j]?=some x:=hx;rw[List.getElem?_set]at hx;split at hx
 ·rename_i e;split at hx
  ·rw[<- aw hx,hid,h.ids k c hc,e]
  cases hx
 exact h.ids j x hx
theorem Tos.cl (h:Tos w) {k:Nat} {c:dJ} (hc:w.dG[k]?=some c):Cl w.dG.length c.id:=by
 rw[h.ids k c hc];have:=(ar.1 hc).1;exact⟨by omega,by omega⟩
theorem Tos.p9 (h:Tos w) {r:List dH×dW×dC} (hr:nr w.dG.length r):Tos ({w with eM:=r.2.1,eD:=some r.2.2}.fK true r.1):=
 ⟨hr.2.1,fun s hs=>by rw[<- aw hs];exact hr.2.2,rX true r.1 w.dM hr.1 h.dM,h.ids⟩
theorem Tos.lI (h:Tos w):Tos w.iu:=by
 unfold dB.iu;split
 ·split
  ·exact⟨h.dK,(fun s hs=>by cases hs),h.dM,h.ids⟩
  exact h
 exact h
theorem Tos.lJ (h:Tos w) (k:Nat):Tos (w.ir k):=by
 unfold dB.ir;split
 ·split
  ·split
   ·exact⟨h.dK,h.eD,h.dM,h.ids⟩
   exact h
  exact h
 exact h
theorem Tos.nn (h:Tos w) {k:Nat} {c c':dJ} (hc:w.dG[k]?=some c) (hid:c'.id=c.id) (e:Int) {l:List dH} (hl:fy w.dG.length l):Tos (w.fI k e l c').2:=by
 have h1:=h.mP hc hid (l:=[]) fy.nil;have h2:=h.mP hc hid hl;unfold dB.fI;split
 ·exact⟨h1.dK,h1.eD,h1.dM,h1.ids⟩
 refine Tos.lJ (w:=dB.fK _ false l) ?_ k;exact⟨h2.dK,h2.eD,h2.dM,h2.ids⟩
theorem Tos.oe (h:Tos w) (k o:Int):Tos (w.read k o).2:=by
 unfold dB.read;split
 ·exact h
 split
 ·rename_i c hc;exact h.nn hc (zm (h.cl hc) o).2 _ (zm (h.cl hc) o).1
 exact h
theorem Tos.og (h:Tos w) (k o:Int) (d:Bytes):Tos (w.write k o d).2:=by
 unfold dB.write;split
 ·exact h
 split
 ·rename_i c hc;exact h.nn hc (zn (h.cl hc) o d).2 _ (zn (h.cl hc) o d).1
 exact h
theorem Tos.kE (h:Tos w) (k:Int):Tos (w.eV k).2:=by
 unfold dB.eV;split
 ·exact h
 split
 ·rename_i c hc;have h1:=h.mP hc (ug (h.cl hc)).2 (ug (h.cl hc)).1;exact⟨h1.dK,h1.eD,h1.dM,h1.ids⟩
 exact h
theorem Tos.lx (h:Tos w) {n:Net} (hn:∀g∈n.l,g∈w.dM.l):Tos {w with dM:=n}:=⟨h.dK,h.eD,fun g hg=>h.dM g (hn g hg),h.ids⟩
theorem Tos.ly (h:Tos w) (k:Int):Tos (w.gw k).2:=by
 unfold dB.gw;split
 ·exact h
 split
 ·exact h
 rename_i g hg;have hm:=h.dM g (aR hg)
 have h0:Tos ({w with dM:={w.dM with l:=w.dM.l.eraseIdx k.toNat} }:dB).eR:=by
  have:=h.lx (n:={w.dM with l:=w.dM.l.eraseIdx k.toNat}) fun x hx=>bD hx;exact⟨this.dK,this.eD,this.dM,this.ids⟩
 have e0:({w with dM:={w.dM with l:=w.dM.l.eraseIdx k.toNat} }:dB).eR.dG.length=w.dG.length:=rfl;generalize ({w with dM:={w.dM with l:=w.dM.l.eraseIdx k.toNat} }:dB).eR=w1 at h0 e0;simp only;split
 ·split
  ·exact h0
  rename_i s hs;exact Tos.lI (h0.p9 (GJ (h0.eD s hs) h0.dK _ (by rw[e0];exact hm.1)))
 split
 ·rename_i c hc;exact Tos.lJ (h0.mP hc (zo (h0.cl hc) _).2 (zo (h0.cl hc) _).1) _
 exact h0
theorem Tos.oq (h:Tos w) (k:Int):Tos (w.gT k).2:=by
 unfold dB.gT;split
 ·exact h
 exact h.lx fun x hx=>bD hx
theorem Tos.ot (h:Tos w) (k:Int):Tos (w.gU k).2:=by
 unfold dB.gU;split
 ·exact h
 split
 ·rename_i g hg;refine h.lx fun x hx=>?_;unfold Net.send at hx;split at hx
  ·exact hx
  rcases aO.1 hx with hx|hx
  ·exact hx
  rw[aH.1 hx];exact aR hg
 exact h
theorem Tos.rP (h:Tos w) (ns cl:List Int):Tos ({w with ee:=cl,dG:=gG w.dG ns}:dB).eR:=by
 have e:(gG w.dG ns).length=w.dG.length:=mQ _ _;refine⟨?_,?_,?_,fun k c hc=>?_⟩
 ·show i6 (gG w.dG ns).length _;rw[e];exact h.dK
 ·show ∀s,_->gB (gG w.dG ns).length s;rw[e];exact h.eD
 ·show ∀g∈w.dM.l,Cl (gG w.dG ns).length _/\_;rw[e];exact h.dM
 obtain⟨c0,h1,h2⟩:=od _ _ k c hc;rcases h2 with rfl|⟨n,rfl⟩
 ·exact h.ids k c h1
 exact h.ids k c0 h1
theorem Tos.jh (h:Tos w) (l:List Int):Tos (w.fA l).2:=by
 unfold dB.fA;split
 ·exact h
 split
 ·exact h
 have h0:=h.rP (iv w.ee l).tail (iv w.ee l);simp only;split
 ·exact h0
 rename_i s hs;have h1:=(h0.p9 (r:=dC.tick w.eM s ((iv w.ee l).getD 0 0)) (GK (h0.eD s hs) h0.dK _)).lI;exact h1
theorem Tos.uj (h:Tos w) (a t:Int):Tos (w.kN a t):=by
 refine⟨h.dK,fun s hs=>?_,h.dM,h.ids⟩;have hs:w.eD.map (fun s=>{s with fa:=t})=some s:=hs;obtain⟨s0,h1,rfl⟩:=Option.map_eq_some_iff.1 hs;have:=h.eD s0 h1;exact⟨this.dX,this.done,this.fN⟩
theorem Tos.uk (h:Tos w):Tos w.oZ:=⟨h.dK,(fun s hs=>by cases hs),h.dM,h.ids⟩
theorem Tos.kF (h:Tos w):Tos w.gx.2:=by
 unfold dB.gx;split
 ·exact h
 have h1:=zl (d:=w.eR.eM.cutAt (-1)) h.dK w.eR.eJ (w.eR.ee.getD 0 0);exact⟨h1.1,h1.2,h.dM,h.ids⟩
theorem Tos.ou (h:Tos w) (k:Int):Tos (w.gV k).2:=by
 unfold dB.gV;split
 ·exact h
 rename_i hr;split
 ·exact h
 rename_i c hc;simp only[a8,bS,dB.right,aK,decide_eq_true_eq]at hr
 have hid:c.id=k:=by
  unfold dJ.new at hc;split at hc
  ·rw[<- aw hc]
  cases hc
 refine⟨?_,?_,?_,fun j x hx=>?_⟩
 ·show i6 (w.dG.set k.toNat c).length _;rw[aN];exact h.dK
 ·show ∀s,_->gB (w.dG.set k.toNat c).length s;rw[aN];exact h.eD
 ·show ∀g∈w.dM.l,Cl (w.dG.set k.toNat c).length _/\_;rw[aN];exact h.dM
 have hx:(w.dG.set k.toNat c)[j]?=some x:=hx;rw[List.getElem?_set]at hx;split at hx
 ·split at hx
  ·rw[<- aw hx,hid];omega
  cases hx
 exact h.ids j x hx
theorem Tos.kY:∀(f:Nat) {w:dB} (_:Tos w),Tos (dB.iL f w)
 |0,_,h=>h
 |f+1,w,h=>by
  unfold dB.iL;split
  ·exact h
  exact Tos.kY f (h.ly 0)
theorem Tos.np:∀(ks:List Nat) {w:dB} (_:Tos w),Tos (dB.jm ks w)
 | [],_,h=>h
 |k::ks,_,h=>Tos.np ks (Tos.kY 1000 (h.kE k))
theorem Tos.px (h:Tos w):Tos w.round:=Tos.kY 1000 ((Tos.np _ h.kF).jh _)
theorem Tos.kZ:∀(n:Nat) {w:dB} (_:Tos w),Tos (dB.iw n w)
 |0,_,h=>h
 |n+1,_,h=>Tos.kZ n h.px
theorem Tos.mh {t:eA} {n:Int} (h:(dB.new t n).2=some w):Tos w:=by
 unfold dB.new at h;split at h
 ·cases h
 split at h
 ·rename_i e d s heq;split at h
  ·rename_i cs LN;obtain rfl:=aw h;obtain⟨c1,c2⟩:=rR _ LN;have h1:=zl (K:=cs.length) (d:=⟨[],false,0⟩) (fun r hr=>by cases hr) t 0;rw[heq]at h1;refine⟨h1.1,h1.2,(fun g hg=>by cases hg),fun k c hc=>?_⟩;have:=c2 k c hc;unfold dJ.new at this;split at this
   ·rw[<- aw this];simp
   cases this
  cases h
 cases h
end
def Clk (w:dB):Prop:=∀c∈w.ee,0<=c/\c<=half
theorem zt:∀(cs ns:List Int) (_:∀c∈cs,0<=c/\c<=half) (_:∀n∈ns,0<=n),∀c∈iv cs ns,0<=c/\c<=half
 | [],ns,_,_,c,h=>by simp[iv]at h
 |x::cs,[],_,_,c,h=>by simp[iv]at h
 |x::cs,n::ns,h1,h2,c,h=>by
  unfold iv at h;rcases aM.1 h with rfl|h
  ·have a1:=(h1 x bt).1;have a2:=h2 n bt;unfold half;omega
  exact zt cs ns (fun c hc=>h1 c (bh _ hc)) (fun c hc=>h2 c (bh _ hc)) c h
theorem Clk.same {w w':dB} (h:Clk w) (e:w'.ee=w.ee):Clk w':=fun c hc=>h c (e▸hc)
theorem zu (w:dB) (k:Nat):(w.ir k).ee=w.ee:=by
 unfold dB.ir;split
 ·split
  ·split<;>rfl
  rfl
 rfl
theorem zv (w:dB) (k:Nat) (e:Int) (l:List dH) (c:dJ):(w.fI k e l c).2.ee=w.ee:=by
 unfold dB.fI;split
 ·rfl
 exact zu _ _
theorem GR (w:dB) (k o:Int):(w.read k o).2.ee=w.ee:=by
 unfold dB.read;split
 ·rfl
 split
 ·exact zv _ _ _ _ _
 rfl
theorem GS (w:dB) (k o:Int) (d:Bytes):(w.write k o d).2.ee=w.ee:=by
 unfold dB.write;split
 ·rfl
 split
 ·exact zv _ _ _ _ _
 rfl
theorem rY (w:dB) (k:Int):(w.eV k).2.ee=w.ee:=by
 unfold dB.eV;split
 ·rfl
 split<;>rfl
theorem zw (w:dB):w.iu.ee=w.ee:=by
 unfold dB.iu;split
 ·split<;>rfl
 rfl
theorem zx (w:dB) (k:Int):(w.gw k).2.ee=w.ee:=by
 unfold dB.gw;split
 ·rfl
 split
 ·rfl
 simp only;split
 ·split
  ·rfl
  exact zw _
 split
 ·exact zu _ _
 rfl
theorem GU (w:dB) (k:Int):(w.gT k).2.ee=w.ee:=by
 unfold dB.gT;split<;>rfl
theorem GV (w:dB) (k:Int):(w.gU k).2.ee=w.ee:=by
 unfold dB.gU;split
 ·rfl
 split<;>rfl
theorem um (w:dB):w.gx.2.ee=w.ee:=by
 unfold dB.gx;split<;>rfl
theorem GW (w:dB) (k:Int):(w.gV k).2.ee=w.ee:=by
 unfold dB.gV;split
 ·rfl
 split<;>rfl
theorem Clk.jh {w:dB} (h:Clk w) (l:List Int):Clk (w.fA l).2:=by
 unfold dB.fA;split
 ·exact h
 split
 ·exact h
 rename_i UC
 have h1:∀c∈iv w.ee l,0<=c/\c<=half:=zt _ _ h fun n hn=>by
  have UC:¬(l.any fun n=>!eG n 0 137438953472)=true:=UC;rw[cB]at UC;have h2:¬(!eG n 0 137438953472)=true:=fun h3=>UC ⟨n,hn,h3⟩;simp only[a8,bS,eG,aK,decide_eq_true_eq]at h2;exact h2.1
 simp only;split
 ·exact h1
 intro c hc;rw[zw]at hc;exact h1 c hc
theorem qj:∀(f:Nat) (w:dB),(dB.iL f w).ee=w.ee
 |0,_=>rfl
 |f+1,w=>by
  unfold dB.iL;split
  ·rfl
  rw[qj f,zx]
theorem zy:∀(ks:List Nat) (w:dB),(dB.jm ks w).ee=w.ee
 | [],_=>rfl
 |k::ks,w=>by
  unfold dB.jm dB.jB;rw[zy ks,qj,rY]
theorem Clk.px {w:dB} (h:Clk w):Clk w.round:=by
 unfold dB.round dB.jB;have h1:Clk (dB.jm (List.range w.gx.2.dG.length) w.gx.2):=h.same (by rw[zy,um]);exact (h1.jh _).same (qj _ _)
theorem Clk.kZ:∀(n:Nat) {w:dB} (_:Clk w),Clk (dB.iw n w)
 |0,_,h=>h
 |n+1,_,h=>Clk.kZ n h.px
theorem Clk.mh {t:eA} {n:Int} {w:dB} (h:(dB.new t n).2=some w):Clk w:=by
 unfold dB.new at h;split at h
 ·cases h
 split at h
 ·split at h
  ·obtain rfl:=aw h;intro c hc;have:=List.eq_of_mem_replicate hc;unfold half;omega
  cases h
 cases h
def mv:Nat->List Int->List Int->List Int
 |k+1,c::cs,n::ns=>min (c+n) half::mv k cs ns
 |_,cs,_=>cs
theorem qk (cs ns:List Int):mv 0 cs ns=cs:=by unfold mv;rfl
theorem rZ:∀(k:Nat) (cs ns:List Int),(mv k cs ns).length=cs.length
 |0,cs,ns=>by rw[qk]
 |k+1,[],ns=>by simp[mv]
 |k+1,c::cs,[]=>by simp[mv]
 |k+1,c::cs,n::ns=>by simp[mv,rZ k cs ns]
theorem zz:∀(k:Nat) (cs ns:List Int),(mv k cs ns)[k]?=cs[k]?
 |0,cs,ns=>by rw[qk]
 |k+1,[],ns=>by simp[mv]
 |k+1,c::cs,[]=>by simp[mv]
 |k+1,c::cs,n::ns=>by simp[mv,zz k cs ns]
theorem zA:∀(k:Nat) (cs ns:List Int) (c n:Int) (_:cs[k]?=some c) (_:ns[k]?=some n),(mv k cs ns).set k (min (c+n) half)=mv (k+1) cs ns
 |0,c::cs,n::ns,c',n',h1,h2=>by
  (have e1:c=c':=by simpa using h1);(have e2:n=n':=by simpa using h2);rw[qk,mv,qk,e1,e2];rfl
 |k+1,c::cs,n::ns,c',n',h1,h2=>by
  rw[mv,mv,aG,zA k cs ns c' n' (by simpa using h1) (by simpa using h2)]
 |k,[],ns,c',n',h1,h2=>by simp at h1
 |k,c::cs,[],c',n',h1,h2=>by simp at h2
theorem zB:∀(cs ns:List Int) (_:ns.length=cs.length),mv cs.length cs ns=iv cs ns
 | [],[],_=>rfl
 | [],n::ns,h=>by simp at h
 |c::cs,[],h=>by simp at h
 |c::cs,n::ns,h=>by
  simp only[aJ]at h⊢;rw[mv,iv,zB cs ns (by omega)]
def av:Nat->List dJ->List Int->List dJ
 |k+1,c::cs,n::ns=>c.at_ n::av k cs ns
 |_,cs,_=>cs
theorem qm (cs:List dJ) (ns:List Int):av 0 cs ns=cs:=by unfold av;rfl
theorem GX:∀(k:Nat) (cs:List dJ) (ns:List Int),(av k cs ns).length=cs.length
 |0,cs,ns=>by rw[qm]
 |k+1,[],ns=>by simp[av]
 |k+1,c::cs,[]=>by simp[av]
 |k+1,c::cs,n::ns=>by simp[av,GX k cs ns]
theorem zC:∀(k:Nat) (cs:List dJ) (ns:List Int),(av k cs ns)[k]?=cs[k]?
 |0,cs,ns=>by rw[qm]
 |k+1,[],ns=>by simp[av]
 |k+1,c::cs,[]=>by simp[av]
 |k+1,c::cs,n::ns=>by simp[av,zC k cs ns]
theorem zD:∀(k:Nat) (cs:List dJ) (ns:List Int) (c:dJ) (n:Int) (_:cs[k]?=some c) (_:ns[k]?=some n),(av k cs ns).set k (c.at_ n)=av (k+1) cs ns
 |0,c::cs,n::ns,c',n',h1,h2=>by
  (have e1:c=c':=by simpa using h1);(have e2:n=n':=by simpa using h2);rw[qm,av,qm,e1,e2];rfl
 |k+1,c::cs,n::ns,c',n',h1,h2=>by
  rw[av,av,aG,zD k cs ns c' n' (by simpa using h1) (by simpa using h2)]
 |k,[],ns,c',n',h1,h2=>by simp at h1
 |k,c::cs,[],c',n',h1,h2=>by simp at h2
theorem zE:∀(cs:List dJ) (ns:List Int),av cs.length cs ns=gG cs ns
 | [],ns=>by unfold av gG;cases ns<;>rfl
 |c::cs,[]=>by simp[av,gG]
 |c::cs,n::ns=>by
  simp only[aJ];rw[av,gG,zE cs ns]
end eU
end Go.Proofs.YtlhodcmdpchllaaGreatDoor
