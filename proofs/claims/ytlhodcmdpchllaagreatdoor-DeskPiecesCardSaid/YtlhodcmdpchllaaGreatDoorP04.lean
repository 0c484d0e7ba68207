/-
  A part of the proof of the law DeskPieces: Keep, DeskKin.
-/
import Derived.IntWalk
import Derived.Laws.Shifts
import Derived.Laws.Bits64
import Derived.Test.YtlhodcmdpchllaaGreatDoorHd
import Derived.Test.YtlhodcmdpchllaaGreatDoorP02
set_option maxHeartbeats 16000000
set_option maxRecDepth 1000000
namespace Go.Proofs.YtlhodcmdpchllaaGreatDoor
namespace ej
open Go.RowKit eK dI eU
def pick (a n:Int):Int:=wrap64 ((IntKind.u64.wrap a).tmod n)
def high (gone d:Int):Int:=gone*(1000+d)/1000
structure Step where
 Kb:Int
 k:Int
 a:Int
 b:Int
def text (n:Int):Bytes:=[119,UInt8.ofNat (n%256).toNat,UInt8.ofNat (n/256%256).toNat]
def index (x:Step) (r:dB):Int:=if 0<r.dM.l.length then pick x.a r.dM.l.length else 0
theorem zU (w:dB) (k:Nat):(w.ir k).ef.length=w.ef.length:=by
 unfold dB.ir;split
 ·split
  ·split<;>simp
  rfl
 rfl
theorem zV (w:dB) (k:Nat) (e:Int) (l:List dH) (c:dJ):(w.fI k e l c).2.ef.length<=w.ef.length+1:=by
 unfold dB.fI;split
 ·simp
 exact az (cU (zU _ _)) (by simp[dB.fK,dB.eR])
theorem zW (w:dB) (k o:Int):(w.read k o).2.ef.length<=w.ef.length+1:=by
 unfold dB.read;split
 ·simp
 split
 ·exact zV _ _ _ _ _
 simp
theorem zX (w:dB) (k o:Int) (d:Bytes):(w.write k o d).2.ef.length<=w.ef.length+1:=by
 unfold dB.write;split
 ·simp
 split
 ·exact zV _ _ _ _ _
 simp
theorem uB (w:dB) (k:Int):(w.eV k).2.ef=w.ef:=by
 unfold dB.eV;split
 ·rfl
 split<;>rfl
theorem zY (w:dB):w.iu.ef=w.ef:=by
 unfold dB.iu;split
 ·split<;>rfl
 rfl
theorem uC (w:dB) (k:Int):(w.gw k).2.ef.length=w.ef.length:=by
 unfold dB.gw;split
 ·rfl
 split
 ·rfl
 dsimp only;split
 ·split
  ·rfl
  rw[zY];rfl
 split
 ·exact zU _ _
 rfl
theorem zZ (w:dB) (k:Int):(w.gT k).2.ef=w.ef:=by
 unfold dB.gT;split<;>rfl
theorem Aa (w:dB) (k:Int):(w.gU k).2.ef=w.ef:=by
 unfold dB.gU;split
 ·rfl
 split<;>rfl
theorem uD (w:dB) (l:List Int):(w.fA l).2.ef=w.ef:=by
 unfold dB.fA;split
 ·rfl
 split
 ·rfl
 dsimp only;split
 ·rfl
 rw[zY];rfl
theorem uE (w:dB):w.gx.2.ef=w.ef:=by
 unfold dB.gx;split<;>rfl
theorem Ab (w:dB) (k:Int):(w.gV k).2.ef=w.ef:=by
 unfold dB.gV;split
 ·rfl
 split<;>rfl
theorem uF:∀(f:Nat) (w:dB),(dB.iL f w).ef.length=w.ef.length
 |0,_=>rfl
 |f+1,w=>by
  unfold dB.iL;split
  ·rfl
  rw[uF f,uC]
theorem Ac:∀(ks:List Nat) (w:dB),(dB.jm ks w).ef.length=w.ef.length
 | [],_=>rfl
 |k::ks,w=>by
  unfold dB.jm;rw[Ac ks,dB.jB,uF,uB]
theorem Hq (w:dB):w.round.ef.length=w.ef.length:=by
 unfold dB.round;simp only[dB.jB];rw[uF,uD,Ac,uE]
theorem uG:∀(n:Nat) (w:dB),(dB.iw n w).ef.length=w.ef.length
 |0,_=>rfl
 |n+1,w=>by
  unfold dB.iw;rw[uG n,Hq]
structure Fits (b:Int) (G:eF) (r:dB):Prop where
 inv:Inv b G r
 idx:Idx r
 iH:Tos r
 iU:Clk r
 kJ:(r.ef.length:Int)<=b
theorem Fits.jt {b b':Int} {G:eF} {r:dB} (h:Fits b G r) (hb:b<=b'):Fits b' G r:=⟨h.inv.jt hb,h.idx,h.iH,h.iU,Int.le_trans h.kJ hb⟩
theorem Fits.oe {b:Int} {G:eF} {r:dB} (h:Fits b G r) (hb:b<1000000) (k o:Int):∃G',Fits (b+2) G' (r.read k o).2:=by
 obtain⟨G',h1⟩:=F4 h.inv hb k o;exact⟨G',h1,h.idx.oe k o,h.iH.oe k o,h.iU.same (GR r k o),by have:=zW r k o;have:=h.kJ;omega⟩
theorem Fits.og {b:Int} {G:eF} {r:dB} (h:Fits b G r) (hb:b<1000000) (k o:Int) (d:Bytes):∃G',Fits (b+2) G' (r.write k o d).2:=by
 obtain⟨G',h1⟩:=F5 h.inv hb k o d;exact⟨G',h1,h.idx.og k o d,h.iH.og k o d,h.iU.same (GS r k o d),by have:=zX r k o d;have:=h.kJ;omega⟩
theorem Fits.kE {b:Int} {G:eF} {r:dB} (h:Fits b G r) (hb:b<1000000) (k:Int):Fits (b+1) G (r.eV k).2:=
 ⟨tU h.inv hb k,h.idx.kE k,h.iH.kE k,h.iU.same (rY r k),by rw[uB];have:=h.kJ;omega⟩
theorem Fits.ly {b:Int} {G:eF} {r:dB} (h:Fits b G r) (k:Int):Fits b G (r.gw k).2:=
 ⟨tV h.inv k,h.idx.ly k,h.iH.ly k,h.iU.same (zx r k),by rw[uC];exact h.kJ⟩
theorem Fits.oq {b:Int} {G:eF} {r:dB} (h:Fits b G r) (k:Int):Fits b G (r.gT k).2:=
 ⟨F6 h.inv k,h.idx.oq k,h.iH.oq k,h.iU.same (GU r k),by rw[zZ];exact h.kJ⟩
theorem Fits.ot {b:Int} {G:eF} {r:dB} (h:Fits b G r) (k:Int):Fits b G (r.gU k).2:=
 ⟨F7 h.inv k,h.idx.ot k,h.iH.ot k,h.iU.same (GV r k),by rw[Aa];exact h.kJ⟩
theorem Fits.jh {b:Int} {G:eF} {r:dB} (h:Fits b G r) (l:List Int):Fits b G (r.fA l).2:=
 ⟨tW h.inv l,h.idx.jh l,h.iH.jh l,h.iU.jh l,by rw[uD];exact h.kJ⟩
theorem Fits.uj {b:Int} {G:eF} {r:dB} (h:Fits b G r) (a t:Int):Fits b G (r.kN a t):=
 ⟨F8 h.inv a t,h.idx,h.iH.uj a t,h.iU,h.kJ⟩
theorem Fits.uk {b:Int} {G:eF} {r:dB} (h:Fits b G r):Fits b G r.oZ:=
 ⟨F9 h.inv,h.idx,h.iH.uk,h.iU,h.kJ⟩
theorem Fits.kF {b:Int} {G:eF} {r:dB} (h:Fits b G r):Fits b G r.gx.2:=
 ⟨tX h.inv,h.idx.kF,h.iH.kF,h.iU.same (um r),by rw[uE];exact h.kJ⟩
theorem Fits.ou {b:Int} {G:eF} {r:dB} (h:Fits b G r) (hb:b<1000000) (k:Int):Fits b G (r.gV k).2:=
 ⟨Ga h.inv hb k,h.idx.ou k,h.iH.ou k,h.iU.same (GW r k),by rw[Ab];exact h.kJ⟩
theorem Clk.kZ:∀(n:Nat) {w:dB} (_:Clk w),Clk (dB.iw n w)
 |0,_,h=>h
 |n+1,_,h=>Clk.kZ n (eU.Clk.px h)
theorem Fits.Hr {b:Int} {G:eF} {r:dB} (h:Fits b G r) (n:Nat) (hb:b+4*n<=1000000):Fits (b+4*n) G (dB.iw n r):=
 ⟨yU n h.inv hb,h.idx.kZ n,h.iH.kZ n,Clk.kZ n h.iU,by rw[uG];have:=h.kJ;omega⟩
theorem Fits.mh {t:eA} {n:Int} {r:dB} (h:(dB.new t n).2=some r):Fits 0 [] r:=by
 refine⟨Gc h,Idx.mh h,Tos.mh h,Clk.mh h,?_⟩;unfold dB.new at h;split at h
 ·cases h
 split at h
 ·split at h
  ·obtain rfl:=aw h;exact Int.le_refl _
  cases h
 cases h
end ej
namespace ff
open Go.RowKit eK dI eU
def EK (e:fB):Prop:=(e.call.dT=1\/e.call.dT=2)/\0<=e.dL/\e.dL<=3
def CK (o:Int) (c:dJ):Prop:=(c.call.dT=0\/c.call.dT=1\/c.call.dT=2)/\(0<=o->c.call.dT≠0)
structure fg (r:dB):Prop where
 ev:∀e∈r.ef,EK e
 cl:∀k c,r.dG[k]?=some c->CK (r.eC.getD k (-1)) c
 ft:r.dG.length<=4
 no:r.eC.length=r.dG.length
theorem Ad (c:dJ):c.eV.2.call=c.call:=by unfold dJ.eV;split<;>rfl
theorem uH (c:dJ):c.ask.2.call=c.call:=by unfold dJ.ask;rw[Ad]
theorem Hs (c:dJ) (m:dH) (b:Bool):(c.lD m b).call.dT=c.call.dT:=by
 unfold dJ.lD;split
 ·rfl
 dsimp only;split<;>rfl
theorem Ht (c:dJ) (m:dH):(c.take m).2.call.dT=c.call.dT:=by
 unfold dJ.take;split
 ·rfl
 dsimp only;split
 ·exact Hs _ _ _
 all_goals (repeat' split)<;>rfl
theorem Hu (c:dJ) (o:Int):((c.read o).1=0->(c.read o).2.2.call.dT=1)/\((c.read o).1≠0->(c.read o).2.2=c):=by
 unfold dJ.read;split
 ·exact⟨fun h=>(by cases h),fun _=>rfl⟩
 split
 ·exact⟨fun h=>(by cases h),fun _=>rfl⟩
 dsimp only;split
 ·split
  ·exact⟨fun _=>rfl,fun h=>absurd rfl h⟩
  exact⟨fun _=>by rw[uH],fun h=>absurd rfl h⟩
 exact⟨fun _=>by rw[uH],fun h=>absurd rfl h⟩
theorem Hv (c:dJ) (o:Int) (d:Bytes):((c.write o d).1=0->(c.write o d).2.2.call.dT=2)/\((c.write o d).1≠0->(c.write o d).2.2=c):=by
 unfold dJ.write;split
 ·exact⟨fun h=>(by cases h),fun _=>rfl⟩
 split
 ·exact⟨fun h=>(by cases h),fun _=>rfl⟩
 split
 ·exact⟨fun h=>(by cases h),fun _=>rfl⟩
 exact⟨fun _=>by rw[uH],fun h=>absurd rfl h⟩
section
variable {r r':dB}
theorem fg.same (h:fg r) (e1:r'.ef=r.ef) (e2:r'.dG=r.dG) (e3:r'.eC=r.eC):fg r':=
 ⟨by rw[e1];exact h.ev,by rw[e2,e3];exact h.cl,by rw[e2];exact h.ft,by rw[e2,e3];exact h.no⟩
theorem fg.eu (h:fg r) {k:Nat} {c c':dJ} (hc:r.dG[k]?=some c) (e:c'.call.dT=c.call.dT):fg {r with dG:=r.dG.set k c'}:=by
 refine⟨h.ev,fun j x hx=>?_,by simp only[aN];exact h.ft,by simp only[aN];exact h.no⟩;dsimp only at hx⊢;by_cases hj:k=j
 ·subst hj;rw[aT (ar.1 hc).1]at hx;obtain rfl:=aw hx;have:=h.cl _ _ hc;unfold CK at this⊢;rw[e];exact this
 rw[aX hj]at hx;exact h.cl j x hx
theorem fg.lJ (h:fg r) (k:Nat):fg (r.ir k):=by
 unfold dB.ir;split
 ·rename_i c e hc he;split
  ·rename_i hb;split
   ·rename_i x hx;have h1:=h.cl k c hc;(have h0:0<=e:=by simp only[aK,decide_eq_true_eq]at hb;exact hb.1);rw[aB,he]at h1;have h2:=h1.2 h0;refine⟨fun y hy=>?_,fun j z hz=>?_,h.ft,by simp only[aN];exact h.no⟩
    ·rcases cF hy with hy|rfl
     ·exact h.ev y hy
     have h3:=h.ev x (aR hx);exact⟨by rcases h1.1 with e|e|e;exact absurd e h2;exact .inl e;exact .inr e,h3.2⟩
    dsimp only;by_cases hj:k=j
    ·subst hj;refine⟨(h.cl _ _ hz).1,fun h9=>?_⟩;rw[aB,aT (by rw[h.no];exact (ar.1 hc).1)]at h9;exact absurd h9 (by decide)
    rw[aB,aX hj,<- aB];exact h.cl j z hz
   exact h
  exact h
 exact h
theorem fg.nn (h:fg r) {k:Nat} {c c':dJ} (hc:r.dG[k]?=some c) {e:Int} (l:List dH) (h0:e=0->c'.call.dT=1\/c'.call.dT=2) (h1:e≠0->c'=c):fg (r.fI k e l c').2:=by
 unfold dB.fI;have hk:=(ar.1 hc).1;split
 ·rename_i he;exact h.eu hc (by rw[h1 he])
 rename_i he;have Nv:=h0 (Decidable.not_not.1 he);have hf:=h.ft;refine fg.lJ ?_ k;refine fg.same (r:={r with dG:=r.dG.set k c',eC:=r.eC.set k r.ef.length,ef:=r.ef++[fB.mk k c'.call (wrap64 (r.step+1)) 0 (r.eH.getD k 0)]}) ⟨?_,?_,by simp only[aN];exact hf,by simp only[aN];exact h.no⟩ rfl rfl rfl
 ·intro x hx;rcases aO.1 hx with hx|hx
  ·exact h.ev x hx
  rw[aH.1 hx];exact⟨Nv,by show 0<=(k:Int);omega,by show (k:Int)<=3;omega⟩
 intro j x hx;dsimp only at hx⊢;by_cases hj:k=j
 ·subst hj;rw[aT hk]at hx;obtain rfl:=aw hx;exact⟨.inr Nv,fun _=>by rcases Nv with e|e<;>rw[e]<;>decide⟩
 rw[aX hj]at hx;rw[aB,aX hj,<- aB];exact h.cl j x hx
theorem fg.oe (h:fg r) (k o:Int):fg (r.read k o).2:=by
 unfold dB.read;split
 ·exact h
 split
 ·rename_i c hc;obtain⟨a,b⟩:=Hu c o;exact h.nn hc _ (fun e=>.inl (a e)) b
 exact h
theorem fg.og (h:fg r) (k o:Int) (d:Bytes):fg (r.write k o d).2:=by
 unfold dB.write;split
 ·exact h
 split
 ·rename_i c hc;obtain⟨a,b⟩:=Hv c o d;exact h.nn hc _ (fun e=>.inr (a e)) b
 exact h
theorem fg.kE (h:fg r) (k:Int):fg (r.eV k).2:=by
 unfold dB.eV;split
 ·exact h
 split
 ·rename_i c hc;exact (h.eu hc (c':=c.eV.2) (by rw[Ad])).same rfl rfl rfl
 exact h
theorem fg.lI (h:fg r):fg r.iu:=by
 unfold dB.iu;split
 ·split
  ·exact h.same rfl rfl rfl
  exact h
 exact h
theorem fg.ly (h:fg r) (k:Int):fg (r.gw k).2:=by
 unfold dB.gw;split
 ·exact h
 split
 ·exact h
 rename_i g hg;dsimp only;split
 ·split
  ·exact h.same rfl rfl rfl
  dsimp only;refine fg.lI ?_;exact h.same rfl rfl rfl
 split
 ·rename_i c hc;have Nv:r.dG[g.to.toNat]?=some c:=hc;refine fg.lJ ?_ _;exact (h.eu Nv (c':=(c.take g.gJ).2) (Ht _ _)).same rfl rfl rfl
 exact h.same rfl rfl rfl
theorem fg.oq (h:fg r) (k:Int):fg (r.gT k).2:=by
 unfold dB.gT;split
 ·exact h
 exact h.same rfl rfl rfl
theorem fg.ot (h:fg r) (k:Int):fg (r.gU k).2:=by
 unfold dB.gU;split
 ·exact h
 split
 ·exact h.same rfl rfl rfl
 exact h
theorem od:∀(cs:List dJ) (ns:List Int) (k:Nat) (c:dJ),(gG cs ns)[k]?=some c->∃c0,cs[k]?=some c0/\c.call=c0.call
 | [],ns,k,c,h=>by cases ns<;>simp[gG]at h
 |x::cs,[],k,c,h=>⟨c,by simpa[gG]using h,rfl⟩
 |x::cs,n::ns,0,c,h=>by
  simp only[gG,aE,bq]at h;exact⟨x,rfl,by rw[<- h];rfl⟩
 |x::cs,n::ns,k+1,c,h=>by
  simp only[gG,aD]at h;obtain⟨c0,h1,h2⟩:=od cs ns k c h;exact⟨c0,by simpa using h1,h2⟩
theorem mQ:∀(cs:List dJ) (ns:List Int),(gG cs ns).length=cs.length
 | [],ns=>by cases ns<;>rfl
 |x::cs,[]=>rfl
 |x::cs,n::ns=>by simp[gG,mQ cs ns]
theorem fg.jh (h:fg r) (l:List Int):fg (r.fA l).2:=by
 unfold dB.fA;split
 ·exact h
 split
 ·exact h
 have h1:fg {r with ee:=iv r.ee l,dG:=gG r.dG (iv r.ee l).tail}:=
  ⟨h.ev,fun k c hc=>by
   obtain⟨c0,e1,e2⟩:=od _ _ k c hc;have:=h.cl k c0 e1;unfold CK at this⊢;rw[e2]
   exact this,by simp only[mQ];exact h.ft,by simp only[mQ];exact h.no⟩
 dsimp only;split
 ·exact h1.same rfl rfl rfl
 dsimp only;refine fg.lI ?_;exact h1.same rfl rfl rfl
theorem fg.kF (h:fg r):fg r.gx.2:=by
 unfold dB.gx;split
 ·exact h
 exact h.same rfl rfl rfl
theorem Ae {id eW dE:Int} {t:eA} {c:dJ} (h:dJ.new id t eW dE=some c):c.call.dT=0:=by
 unfold dJ.new at h;split at h
 ·obtain rfl:=aw h;rfl
 cases h
theorem fg.ou (h:fg r) (k:Int):fg (r.gV k).2:=by
 unfold dB.gV;split
 ·exact h
 rename_i hr;split
 ·exact h
 rename_i c hc;refine fg.same (r:={r with dG:=r.dG.set k.toNat c,eC:=r.eC.set k.toNat (-1)}) ⟨h.ev,fun j x hx=>?_,by simp only[aN];exact h.ft,by simp only[aN];exact h.no⟩ rfl rfl rfl
 have hk:k.toNat<r.dG.length:=by
  unfold dB.right at hr;simp only[a8,br,decide_eq_false_iff_not,not_or,Decidable.not_not]at hr;omega
 dsimp only at hx⊢;by_cases hj:k.toNat=j
 ·subst hj;rw[aT hk]at hx;obtain rfl:=aw hx;rw[aB,aT (by rw[h.no];exact hk)];exact⟨.inl (Ae hc),fun h9=>absurd h9 (by decide)⟩
 rw[aX hj]at hx;rw[aB,aX hj,<- aB];exact h.cl j x hx
theorem fg.kY:∀(f:Nat) {r:dB} (_:fg r),fg (dB.iL f r)
 |0,_,h=>h
 |f+1,r,h=>by
  unfold dB.iL;split
  ·exact h
  exact fg.kY f (h.ly 0)
theorem fg.np:∀(ks:List Nat) {r:dB} (_:fg r),fg (dB.jm ks r)
 | [],_,h=>h
 |k::ks,r,h=>by
  unfold dB.jm;exact fg.np ks ((h.kE k).kY 1000)
theorem fg.kZ:∀(n:Nat) {r:dB} (_:fg r),fg (dB.iw n r)
 |0,_,h=>h
 |n+1,r,h=>by
  unfold dB.iw;exact fg.kZ n (((h.kF.np _).jh _).kY 1000)
theorem Af {t:eA}:∀(n k:Nat) {cs:List dJ},lE t k n=some cs->cs.length=n/\∀c∈cs,c.call.dT=0
 |0,k,cs,h=>by
  obtain rfl:=aw h;exact⟨rfl,fun c hc=>by cases hc⟩
 |n+1,k,cs,h=>by
  unfold lE at h;split at h
  ·rename_i c l h1 h2;obtain rfl:=aw h;obtain⟨e1,e2⟩:=Af n (k+1) h2;refine⟨by simp[e1],fun x hx=>?_⟩;rcases aM.1 hx with rfl|hx
   ·exact Ae h1
   exact e2 x hx
  cases h
theorem fg.mh {t:eA} {n:Int} (h:(dB.new t n).2=some r):fg r:=by
 unfold dB.new at h;split at h
 ·cases h
 rename_i hn
 have hn4:n.toNat<=4:=by
  unfold eG at hn;simp only[a8,br,decide_eq_false_iff_not,not_or,Decidable.not_not]at hn;omega
 split at h
 ·split at h
  ·rename_i cs LN;obtain rfl:=aw h;obtain⟨e1,e2⟩:=Af _ _ LN;refine⟨fun e he=>(by cases he),fun k c hc=>⟨.inl (e2 c (aR hc)),fun h9=>?_⟩,by rw[e1];exact hn4,by simp[e1]⟩;dsimp only at h9;rw[aB,bB]at h9;split at h9<;>exact absurd h9 (by decide)
  cases h
 cases h
end
end ff
end Go.Proofs.YtlhodcmdpchllaaGreatDoor
