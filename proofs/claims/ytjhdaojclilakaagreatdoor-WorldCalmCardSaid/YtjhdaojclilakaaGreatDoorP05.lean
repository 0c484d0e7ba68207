/-
  A part of the proof of the law WorldCalm: Keep, KeepRead, CalmR, CalnC, CalnD, CalnE, CalnF, CalnG, CalnH, CalnI, CalnJ, CalnK, CalnL, CalnM, CalnN, CalnO, CalnP, CalnQ, CalnR, CalnS, CalnT, CalnU, CalnV.
-/
import Derived.IntWalk
import Derived.Laws.Shifts
import Derived.Laws.Bits64
import Derived.Test.YtjhdaojclilakaaGreatDoorHd
import Derived.Test.YtjhdaojclilakaaGreatDoorP03
set_option maxHeartbeats 16000000
set_option maxRecDepth 1000000
namespace Go.Proofs.YtjhdaojclilakaaGreatDoor
section
variable {p q:Prop}
theorem abN (z:q) (h:Hy q->p:=by
 intro zz;have e2:Pi w2<=1+3*s+2*(U+1):=ab;obtain⟨V,hV⟩:=nm (893*U);obtain⟨Z,hZ⟩:=nm (27*s);rw[<- hV,<- hZ]at h2 h3;(have e3:Wn w2+(V+893)<=80+Z:=by clear hV hZ;omega);(have e4:80+(V+893)<=80+Z:=by clear hV hZ;omega);(have e:893*(U+1)=V+893:=by rw[hV];exact Nat.mul_add _ _ _);rw[hZ,<- e]at e3 e4;revert e2 V hV Z hZ h2 h3 e3 e4 e;exact zz.o):p:=h z
theorem aa7 (h:p:=by
 refine⟨fun x hx=>?_,p1,p2⟩;have hf:=h.inv.gz;have hc:=PI.1 x hx;unfold Cl at hc;have ho:=v2 x hx;have hse:=RL.gU.more v1 x.eI ab;have RX:=QR.2.1.len;have UP:=h.ep;have hes:=RL.ep;have Qi:=ho.gU ab hse.1;have VE:=ho.ep;have Xu:=v1.ep;have hk:=Vn x hx;exact qZ ab (QR.2.2.2 x hx).short (hn3 x hx) ab (by rw[VE,Xu];omega) ab):p:=h
theorem acn (h:p:=by
 rw[if_pos h1]at h;exact⟨h,rfl,rfl,rfl⟩):p:=h
theorem acp (h:p:=by
 rw[if_neg h1]at h;exact⟨h,rfl,rfl,rfl⟩):p:=h
theorem abY (h:p:=by
 obtain⟨c0,e1,rfl⟩:=a.eD k c hc;have ht:=wi (d:=w.eP) (hz.ps.up s hz.up) hp.1.eQ (w.eN.getD 0 0+1);rw[a.fj,ht,(j8.mW s _).kc];exact hp.2 c0 e1):p:=h
end
namespace fc
open Go.RowKit fD eY fK
def pick (a n:Int):Int:=wrap64 ((IntKind.u64.wrap a).tmod n)
theorem jK (a n:Int) (c:1<=n) (d:n<=9223372036854775807):0<=pick a n/\pick a n<n:=by
 unfold pick;(have e:IntKind.u64.wrap a=a%18446744073709551616:=by simp[IntKind.wrap_u64]);rw[e,Int.tmod_eq_emod_of_nonneg (Int.emod_nonneg _ ab)];have lo:=Int.emod_nonneg (a%18446744073709551616) (b:=n) ab;have hi:=Int.emod_lt_of_pos (a%18446744073709551616) (b:=n) ab;rw[IntWalk.wrap64_in]<;>omega
def pA (o v d:Int):fU:=⟨1+pick v 15+pick o 25,1+pick v 15,pick d 501⟩
theorem Mv (o v d:Int):kz (pA o v d)=true:=by
 have a:=jK v 15 ab ab;have b:=jK o 25 ab ab;have c:=jK d 501 ab ab;unfold kz pA fR;simp only[aF];refine⟨⟨⟨decide_eq_true ?_,decide_eq_true ?_⟩,decide_eq_true ?_⟩,decide_eq_true ?_,decide_eq_true ?_⟩<;>omega
def low (gone d:Int):Int:=(gone*(1000-d)+999)/1000
def high (gone d:Int):Int:=gone*(1000+d)/1000
def Mw (b:Int):Int:=pick b 1073741824*31+7
def pB (gone d b:Int):Int:=if low gone d<=high gone d then low gone d+pick (b/8) (high gone d-low gone d+1) else gone
def oU:Nat->Int->Int
 |0,b=>b
 |n+1,b=>Mw (oU n b)
def times (gone d:Int) (n:Nat) (b:Int):List Int:=(List.range n).map fun i=>pB gone d (oU (i+1) b)
theorem C8 (gone d:Int) (n:Nat) (b:Int):times gone d (n+1) b=times gone d n b++[pB gone d (oU (n+1) b)]:=by
 simp[times,List.range_succ]
theorem Mx (gone d:Int) (n:Nat) (b:Int):(times gone d n b).length=n:=by simp[times]
structure Step where
 fz:Int
 k:Int
 a:Int
 b:Int
structure jY where
 r:eC
 t:fU
 n:Int
 gp:Int
def text (n:Int):Bytes:=[119,UInt8.ofNat (n%256).toNat,UInt8.ofNat (n/256%256).toNat]
def index (x:Step) (r:eC):Int:=if 0<r.eH.l.length then pick x.a r.eH.l.length else 0
def ie (x:Step) (y:jY):jY:=
 if x.fz=0 then {y with r:=(y.r.read (pick x.k y.n) (pick x.a 3)).2}
 else if x.fz=1 then {y with r:=(y.r.write (pick x.k y.n) (pick x.a 3) (text (y.gp+1))).2,gp:=y.gp+1}
 else if x.fz=2 then {y with r:=(y.r.fh (pick x.k y.n)).2}
 else if x.fz=3 then {y with r:=(y.r.gS (index x y.r)).2}
 else if x.fz=4 then {y with r:=(y.r.jP (index x y.r)).2}
 else if x.fz=5 then {y with r:=(y.r.jQ (index x y.r)).2}
 else if x.fz=6 then {y with r:=(y.r.fu (times (pick x.a 12) y.t.fH (y.n.toNat+1) x.b)).2}
 else if x.fz=7 then {y with r:=y.r.kf (pick x.a 3) (pick x.b 60-1)}
 else if x.fz=8 then {y with r:=y.r.od}
 else if x.fz=9 then {y with r:=y.r.gK.2}
 else if x.fz=10 then {y with r:=(y.r.jG (pick x.k y.n)).2}
 else if x.fz=11 then {y with r:=eC.iz (pick x.a 4).toNat y.r}
 else y
theorem C9 (w:eC) (k:Nat):(w.gG k).fg.length=w.fg.length:=by
 unfold eC.gG;split
 ·split
  ·split<;>simp
  rfl
 rfl
theorem Da (w:eC) (k:Nat) (e:Int) (l:List eL) (c:eM):(w.gJ k e l c).2.fg.length<=w.fg.length+1:=by
 unfold eC.gJ;split
 ·simp
 exact aB (cZ (C9 _ _)) (by simp[eC.gf,eC.fA])
theorem My (w:eC) (k o:Int):(w.read k o).2.fg.length<=w.fg.length+1:=by
 unfold eC.read;split
 ·simp
 split
 ·exact Da _ _ _ _ _
 simp
theorem Mz (w:eC) (k o:Int) (d:Bytes):(w.write k o d).2.fg.length<=w.fg.length+1:=by
 unfold eC.write;split
 ·simp
 split
 ·exact Da _ _ _ _ _
 simp
theorem yk (w:eC) (k:Int):(w.fh k).2.fg=w.fg:=by
 unfold eC.fh;split
 ·rfl
 split<;>rfl
theorem Db (w:eC):w.iy.fg=w.fg:=by
 unfold eC.iy;split
 ·split<;>rfl
 rfl
theorem Dc (w:eC) (k:Int):(w.gS k).2.fg.length=w.fg.length:=by
 unfold eC.gS;split
 ·rfl
 split
 ·rfl
 dsimp only;split
 ·split
  ·rfl
  rw[Db];rfl
 split
 ·exact C9 _ _
 rfl
theorem MA (w:eC) (k:Int):(w.jP k).2.fg=w.fg:=by
 unfold eC.jP;split<;>rfl
theorem MB (w:eC) (k:Int):(w.jQ k).2.fg=w.fg:=by
 unfold eC.jQ;split
 ·rfl
 split<;>rfl
theorem yl (w:eC) (l:List Int):(w.fu l).2.fg=w.fg:=by
 unfold eC.fu;split
 ·rfl
 split
 ·rfl
 dsimp only;split
 ·rfl
 rw[Db];rfl
theorem Dd (w:eC):w.gK.2.fg=w.fg:=by
 unfold eC.gK;split<;>rfl
theorem MC (w:eC) (k:Int):(w.jG k).2.fg=w.fg:=by
 unfold eC.jG;split
 ·rfl
 split<;>rfl
theorem ti:∀(f:Nat) (w:eC),(eC.ia f w).fg.length=w.fg.length
 |0,_=>rfl
 |f+1,w=>by
  unfold eC.ia;split
  ·rfl
  rw[ti f,Dc]
theorem De:∀(a:List Nat) (w:eC),(eC.iY a w).fg.length=w.fg.length
 | [],_=>rfl
 |k::a,w=>by
  unfold eC.iY;rw[De a,eC.gi,ti,yk]
theorem MD (w:eC):w.round.fg.length=w.fg.length:=by
 unfold eC.round;simp only[eC.gi];rw[ti,yl,De,Dd]
theorem Df:∀(n:Nat) (w:eC),(eC.iz n w).fg.length=w.fg.length
 |0,_=>rfl
 |n+1,w=>by
  unfold eC.iz;rw[Df n,MD]
structure Fits (b:Int) (G:gd) (r:eC):Prop where
 inv:Inv b G r
 idx:Idx r
 iT:Tos r
 ik:Clk r
 jM:(r.fg.length:Int)<=b
variable {b:Int} {G:gd} {r:eC}
theorem Fits.gx {b':Int} (h:Fits b G r) (hb:b<=b'):Fits b' G r:=⟨h.inv.gx hb,h.idx,h.iT,h.ik,cU h.jM hb⟩
theorem Fits.l6 (h:Fits b G r) (hb:b<1000000) (k o:Int):∃a,Fits (b+2) a (r.read k o).2:=by
 obtain⟨a,c⟩:=Lv h.inv hb k o;exact⟨a,c,h.idx.l6 k o,h.iT.l6 k o,h.ik.same (Me r k o),by have:=My r k o;have:=h.jM;omega⟩
theorem Fits.oP (h:Fits b G r) (hb:b<1000000) (k o:Int) (d:Bytes):∃a,Fits (b+2) a (r.write k o d).2:=by
 obtain⟨a,c⟩:=Lw h.inv hb k o d;exact⟨a,c,h.idx.oP k o d,h.iT.oP k o d,h.ik.same (Mf r k o d),by have:=Mz r k o d;have:=h.jM;omega⟩
theorem Fits.jd (h:Fits b G r) (hb:b<1000000) (k:Int):Fits (b+1) G (r.fh k).2:=
 ⟨nP h.inv hb k,h.idx.jd k,h.iT.jd k,h.ik.same (rR r k),by rw[yk];have:=h.jM;omega⟩
theorem Fits.ku (h:Fits b G r) (k:Int):Fits b G (r.gS k).2:=
 ⟨oO h.inv k,h.idx.ku k,h.iT.ku k,h.ik.same (CJ r k),by rw[Dc];exact h.jM⟩
theorem Fits.px (h:Fits b G r) (k:Int):Fits b G (r.jP k).2:=
 ⟨Lx h.inv k,h.idx.px k,h.iT.px k,h.ik.same (Mg r k),by rw[MA];exact h.jM⟩
theorem Fits.py (h:Fits b G r) (k:Int):Fits b G (r.jQ k).2:=
 ⟨Ly h.inv k,h.idx.py k,h.iT.py k,h.ik.same (Mh r k),by rw[MB];exact h.jM⟩
theorem Fits.iB (h:Fits b G r) (l:List Int):Fits b G (r.fu l).2:=
 ⟨pV h.inv l,h.idx.iB l,h.iT.iB l,h.ik.iB l,by rw[yl];exact h.jM⟩
theorem Fits.oB (h:Fits b G r) (a t:Int):Fits b G (r.kf a t):=
 ⟨Lz h.inv a t,h.idx,h.iT.oB a t,h.ik,h.jM⟩
theorem Fits.qO (h:Fits b G r):Fits b G r.od:=
 ⟨LA h.inv,h.idx,h.iT.qO,h.ik,h.jM⟩
theorem Fits.lF (h:Fits b G r):Fits b G r.gK.2:=
 ⟨qL h.inv,h.idx.lF,h.iT.lF,h.ik.same (yi r),by rw[Dd];exact h.jM⟩
theorem Fits.pz (h:Fits b G r) (hb:b<1000000) (k:Int):Fits b G (r.jG k).2:=
 ⟨LB h.inv hb k,h.idx.pz k,h.iT.pz k,h.ik.same (Mi r k),by rw[MC];exact h.jM⟩
theorem Clk.oQ:∀(n:Nat) {w:eC} (_:Clk w),Clk (eC.iz n w)
 |0,_,h=>h
 |n+1,_,h=>Clk.oQ n (fK.Clk.l7 h)
theorem Fits.lO (h:Fits b G r) (n:Nat) (hb:b+4*n<=1000000):Fits (b+4*n) G (eC.iz n r):=
 ⟨Ce n h.inv hb,h.idx.oQ n,h.iT.oQ n,Clk.oQ n h.ik,by rw[Df];have:=h.jM;omega⟩
theorem Fits.oR {t:fU} {n:Int} (h:(eC.new t n).2=some r):Fits 0 [] r:=by
 refine⟨LC h,Idx.oR h,Tos.oR h,Clk.oR h,?_⟩;unfold eC.new at h;split at h
 ·cases h
 split at h
 ·split at h
  ·obtain rfl:=aA h;exact aZ _
  cases h
 cases h
theorem Dh {y:jY} (h:Fits b G y.r) (hb:b<=900000) (x:Step):∃d,Fits (b+20) d (ie x y).r:=by
 have up:∀ {b':Int} {d:gd} {r:eC},Fits b' d r->b'<=b+20->∃d,Fits (b+20) d r:=fun hf hl=>⟨_,hf.gx hl⟩;unfold ie;by_cases c:x.fz=0
 ·obtain⟨d,e⟩:=h.l6 ab (pick x.k y.n) (pick x.a 3);rw[if_pos c];exact up e ab
 rw[if_neg c];by_cases c:x.fz=1
 ·obtain⟨d,e⟩:=h.oP ab (pick x.k y.n) (pick x.a 3) (text (y.gp+1));rw[if_pos c];exact up e ab
 rw[if_neg c];by_cases c:x.fz=2
 ·rw[if_pos c];exact up (h.jd ab _) ab
 rw[if_neg c];by_cases c:x.fz=3
 ·rw[if_pos c];exact up (h.ku _) ab
 rw[if_neg c];by_cases c:x.fz=4
 ·rw[if_pos c];exact up (h.px _) ab
 rw[if_neg c];by_cases c:x.fz=5
 ·rw[if_pos c];exact up (h.py _) ab
 rw[if_neg c];by_cases c:x.fz=6
 ·rw[if_pos c];exact up (h.iB _) ab
 rw[if_neg c];by_cases c:x.fz=7
 ·rw[if_pos c];exact up (h.oB _ _) ab
 rw[if_neg c];by_cases c:x.fz=8
 ·rw[if_pos c];exact up h.qO ab
 rw[if_neg c];by_cases c:x.fz=9
 ·rw[if_pos c];exact up h.lF ab
 rw[if_neg c];by_cases c:x.fz=10
 ·rw[if_pos c];exact up (h.pz ab _) ab
 rw[if_neg c];by_cases c:x.fz=11
 ·have hp:=jK x.a 4 ab ab;rw[if_pos c];exact up (h.lO (pick x.a 4).toNat ab) ab
 rw[if_neg c];exact up h ab
theorem rS (x:Step) (y:jY):(ie x y).t=y.t/\(ie x y).n=y.n:=by
 unfold ie;by_cases a:x.fz=0
 ·rw[if_pos a];exact⟨rfl,rfl⟩
 rw[if_neg a];by_cases a:x.fz=1
 ·rw[if_pos a];exact⟨rfl,rfl⟩
 rw[if_neg a];by_cases a:x.fz=2
 ·rw[if_pos a];exact⟨rfl,rfl⟩
 rw[if_neg a];by_cases a:x.fz=3
 ·rw[if_pos a];exact⟨rfl,rfl⟩
 rw[if_neg a];by_cases a:x.fz=4
 ·rw[if_pos a];exact⟨rfl,rfl⟩
 rw[if_neg a];by_cases a:x.fz=5
 ·rw[if_pos a];exact⟨rfl,rfl⟩
 rw[if_neg a];by_cases a:x.fz=6
 ·rw[if_pos a];exact⟨rfl,rfl⟩
 rw[if_neg a];by_cases a:x.fz=7
 ·rw[if_pos a];exact⟨rfl,rfl⟩
 rw[if_neg a];by_cases a:x.fz=8
 ·rw[if_pos a];exact⟨rfl,rfl⟩
 rw[if_neg a];by_cases a:x.fz=9
 ·rw[if_pos a];exact⟨rfl,rfl⟩
 rw[if_neg a];by_cases a:x.fz=10
 ·rw[if_pos a];exact⟨rfl,rfl⟩
 rw[if_neg a];by_cases a:x.fz=11
 ·rw[if_pos a];exact⟨rfl,rfl⟩
 rw[if_neg a];exact⟨rfl,rfl⟩
theorem Di (x:Step) (y:jY):(ie x y).gp=y.gp\/(ie x y).gp=y.gp+1:=by
 unfold ie;by_cases a:x.fz=0
 ·rw[if_pos a];exact .inl rfl
 rw[if_neg a];by_cases a:x.fz=1
 ·rw[if_pos a];exact .inr rfl
 rw[if_neg a];by_cases a:x.fz=2
 ·rw[if_pos a];exact .inl rfl
 rw[if_neg a];by_cases a:x.fz=3
 ·rw[if_pos a];exact .inl rfl
 rw[if_neg a];by_cases a:x.fz=4
 ·rw[if_pos a];exact .inl rfl
 rw[if_neg a];by_cases a:x.fz=5
 ·rw[if_pos a];exact .inl rfl
 rw[if_neg a];by_cases a:x.fz=6
 ·rw[if_pos a];exact .inl rfl
 rw[if_neg a];by_cases a:x.fz=7
 ·rw[if_pos a];exact .inl rfl
 rw[if_neg a];by_cases a:x.fz=8
 ·rw[if_pos a];exact .inl rfl
 rw[if_neg a];by_cases a:x.fz=9
 ·rw[if_pos a];exact .inl rfl
 rw[if_neg a];by_cases a:x.fz=10
 ·rw[if_pos a];exact .inl rfl
 rw[if_neg a];by_cases a:x.fz=11
 ·rw[if_pos a];exact .inl rfl
 rw[if_neg a];exact .inl rfl
end fc
namespace fc
open Go.RowKit fD eY fK
def qQ:Int×eC:=match (eC.new ⟨30,10,0⟩ 2).2 with|some r=>r.write 0 3 [97]|none=>(1,⟨⟨0,0,0⟩,⟨[],false,0⟩,none,[],[],[],⟨[],0⟩,[],[],0⟩)
def vD:eC:=eC.iz 30 qQ.2
def rV:Int×eC:=vD.read 1 3
def rW:eC:=eC.iz 1 rV.2
def pD:Int×eC:=rW.read 1 3
def vE (a b:ir):Bool:=decide (a.data=b.data)&&decide (a.fq=b.fq)
def Dw:Bool:=
 (eC.new ⟨30,10,0⟩ 2).2.isSome&&decide (qQ.1=0)&&decide (rV.1=0)&&decide (pD.1=0)&&decide (pD.2.eH.l.length=rW.eH.l.length) &&
 (match pD.2.fg with
 | [e0,e1,a]=>decide (e0.call.value.fq=1)&&vE e1.call.value ⟨[97],1⟩&&a.call.hit&&vE a.call.value e1.call.value
 |_=>false)
theorem vf:Dw=true:=by decide +kernel
end fc
namespace fS
open Go.RowKit fD eY fK fc
structure Bd (w:eC) (s U:Nat):Prop where
 nb:NB w
 ps:PS w
 pi:Pi w<=1+3*s+2*U
 wn:Wn w+893*U<=80+27*s
 u:80+893*U<=80+27*s
variable {w w':eC} {s U:Nat}
theorem Bd.u1 (h:Bd w s U) (hs:s<=62):U<=1/\Pi w<=189:=by
 have a:=h.u;have b:=h.pi;have:U<=1:=ab;exact⟨this,ab⟩
theorem Bd.grow (h:Bd w s U) (g:iO w w' 3 27):Bd w' (s+1) U:=by
 have a:=h.pi;have b:=h.wn;have c:=h.u;have d:=g.pi;have e:=g.wn;exact⟨g.nb,g.ps,ab,ab,ab⟩
theorem Bd.fc (h:Bd w s U) (g:iO w w' 0 0):Bd w' s U:=by
 have a:=h.pi;have b:=h.wn;have c:=g.pi;have d:=g.wn;exact⟨g.nb,g.ps,ab,ab,h.u⟩
theorem Bd.more {a:Nat} (h:Bd w s U) (hs:s<=a):Bd w a U:=by
 have b:=h.pi;have c:=h.wn;have d:=h.u;exact⟨h.nb,h.ps,ab,ab,ab⟩
variable {b:Int} {G:gd}
theorem yX (hi:Inv b G w) (h:NB w):NB w.gi/\Cn w.gi<=Cn w/\Wn w.gi<=Wn w/\(w.gi.eH.l=[]\/Wn w.gi+1000<=Wn w):=yD 1000 hi h
theorem Oc {p:Nat} (a:p<=195) (hi:Inv b G w) (h:PS w) (c:Pi w<=p):PS w.gi/\Pi w.gi<=p:=yW a 1000 hi h c
theorem Bd.jd (h:Bd w s U) (hs:s<=62) (hi:Inv b G w) (hb:b<1000000) (k:Nat):∃a,U<=a/\Bd (w.fh k).2.gi s a/\(a=U->((w.fh k).2.gi).eH.l=[]):=by
 obtain⟨u1,u2⟩:=h.u1 hs;obtain⟨c,a2,a3⟩:=Ob hi hb h.nb h.ps ab k;generalize (w.fh k).2.gi=w2 at c a2 a3⊢;have d:=h.pi;have h2:=h.wn;have h3:=h.u;rcases a3 with⟨a3,a4,a5⟩|⟨a4,a5⟩
 ·exact⟨U,ax _,⟨c,a2,ab,ab,h3⟩,fun _=>a3⟩
 refine abN ?_;clear u1 u2 hs h2 h3;intro e2 V hV Z hZ h2 h3 e3 e4 e;exact⟨U+1,ab,⟨c,a2,e2,e3,e4⟩,fun e=>ab⟩
theorem Bd.iB (h:Bd w s U) (hs:s<=62) (hi:Inv b G w) (a:List Int):∃c,U<=c/\Bd (w.fu a).2.gi s c/\(c=U->((w.fu a).2.gi).eH.l=[]):=by
 obtain⟨u1,u2⟩:=h.u1 hs;have g:=h.fc (tG hi h.nb h.ps ab a);have d:=pV hi a;obtain⟨f1,-,f3,f4⟩:=yX d g.nb;obtain⟨c1,c2⟩:=Oc (p:=Pi (w.fu a).2) (by have:=(g.u1 hs).2;omega) d g.ps (ax _);generalize (w.fu a).2.gi=w2 at f1 f3 f4 c1 c2⊢;have f:=g.pi;have h2:=g.wn;have h3:=g.u;rcases f4 with f4|f4
 ·refine⟨U,ax _,⟨f1,c1,aB c2 f,?_,h3⟩,fun _=>f4⟩;omega
 refine abN ?_;clear u1 u2 hs h2 h3;intro e2 V hV Z hZ h2 h3 e3 e4 e;exact⟨U+1,ab,⟨f1,c1,e2,e3,e4⟩,fun e=>ab⟩
theorem Bd.lA (hs:s<=62):∀(a:List Nat) {b:Int} {w:eC} {U:Nat} (_:Bd w s U) (_:Inv b G w) (_:b+a.length<=1000000),∃c,U<=c/\Bd (eC.iY a w) s c/\(c=U->a≠[]->(eC.iY a w).eH.l=[])
 | [],_,_,U,h,_,_=>⟨U,ax _,h,fun _ e=>absurd rfl e⟩
 |k::a,b,w,U,h,hi,hb=>by
  simp only[aL]at hb;obtain⟨d,u1,g,e1⟩:=h.jd hs hi ab k;have i:Inv (b+1) G (w.fh k).2.gi:=pW 1000 (nP hi ab k);obtain⟨f,u2,j,m⟩:=Bd.lA hs a g i ab;refine⟨f,aB u1 u2,j,fun e _=>?_⟩;have n:d=U:=ab;have o:f=d:=ab
  cases a with
  |nil=>exact e1 n
  |cons q p=>exact m o ae
theorem Bd.l7 (h:Bd w s U) (hs:s<=62) (hi:Inv b G w) (hb:b+4<=1000000):∃a,U<=a/\Bd w.round s a/\(a=U->w.round.eH.l=[]):=by
 have g1:=h.fc (vX h.nb h.ps);have c:=qL hi;(have k:(w.gK.2.eD.length:Int)<=4:=by have:=c.gz;omega);obtain⟨m,u1,f,e1⟩:=g1.lA hs (List.range w.gK.2.eD.length) c ah;have d:=rN (List.range w.gK.2.eD.length) c ah;obtain⟨g,u2,i,j⟩:=f.iB hs d (List.replicate (eC.iY (List.range w.gK.2.eD.length) w.gK.2).eN.length 1);exact⟨g,aB u1 u2,i,fun e=>j ab⟩
theorem Bd.lO (hs:s<=62):∀(n:Nat) {b:Int} {w:eC} {U:Nat} (_:Bd w s U) (_:Inv b G w) (_:b+4*n<=1000000),∃a,U<=a/\Bd (eC.iz n w) s a
 |0,_,_,U,h,_,_=>⟨U,ax _,h⟩
 |n+1,b,w,U,h,hi,hb=>by
  obtain⟨f,u1,c,-⟩:=h.l7 hs hi ab;obtain⟨d,u2,e⟩:=Bd.lO hs n c (vh hi ab) ab;exact⟨d,aB u1 u2,e⟩
theorem Bd.tL {y:jY} (h:Bd y.r s U) (hs:s<=60) (hi:Inv b G y.r) (hb:b<=900000) (x:Step):∃d,Bd (ie x y).r (s+1) d:=by
 obtain⟨u1,u2⟩:=h.u1 ab;have n:=h.nb;have p:=h.ps;unfold ie;by_cases c:x.fz=0
 ·rw[if_pos c];exact⟨U,h.grow ((En hi n p _ _).more ab ab)⟩
 rw[if_neg c];by_cases c:x.fz=1
 ·rw[if_pos c];exact⟨U,h.grow ((NS hi ab n p _ _ _).more ab ab)⟩
 rw[if_neg c];by_cases c:x.fz=2
 ·rw[if_pos c];exact⟨U,h.grow ((tD hi n p _).more ab ab)⟩
 rw[if_neg c];by_cases c:x.fz=3
 ·rw[if_pos c];exact⟨U,h.grow ((vW hi n p ab _).more ab ab)⟩
 rw[if_neg c];by_cases c:x.fz=4
 ·rw[if_pos c];exact⟨U,h.grow ((NT n p _).more ab ab)⟩
 rw[if_neg c];by_cases c:x.fz=5
 ·rw[if_pos c];exact⟨U,h.grow ((NU n p _).more ab ab)⟩
 rw[if_neg c];by_cases c:x.fz=6
 ·rw[if_pos c];exact⟨U,h.grow ((tG hi n p ab _).more ab ab)⟩
 rw[if_neg c];by_cases c:x.fz=7
 ·rw[if_pos c];exact⟨U,h.grow ((Er n p _ _).more ab ab)⟩
 rw[if_neg c];by_cases c:x.fz=8
 ·rw[if_pos c];exact⟨U,h.grow ((NW n).more ab ab)⟩
 rw[if_neg c];by_cases c:x.fz=9
 ·rw[if_pos c];exact⟨U,h.grow ((vX n p).more ab ab)⟩
 rw[if_neg c];by_cases c:x.fz=10
 ·rw[if_pos c];exact⟨U,h.grow ((NX n p _).more ab ab)⟩
 rw[if_neg c];by_cases c:x.fz=11
 ·rw[if_pos c];have hp:=jK x.a 4 ab ab;obtain⟨d,-,e⟩:=Bd.lO (s:=s) ab (pick x.a 4).toNat h hi ab;exact⟨d,e.more ab⟩
 rw[if_neg c];exact⟨U,h.more ab⟩
end fS
namespace fS
open Go.RowKit fD eY fK
theorem EC:∀(cs ns:List Int),cs.length=ns.length->(ib cs ns).length=cs.length
 | [],[],_=>rfl
 | [],_::_,h=>by cases h
 |_::_,[],h=>by cases h
 |c::cs,n::ns,h=>by
  simp only[aL,Nat.add_right_cancel_iff]at h;unfold ib;simp[EC cs ns h]
theorem ED:∀(cs ns:List Int) (k:Nat),cs.length=ns.length->k<cs.length->(ib cs ns).getD k 0=min (cs.getD k 0+ns.getD k 0) half
 | [],_,_,_,h=>by simp at h
 |_::_,[],_,h,_=>by cases h
 |c::cs,n::ns,0,_,_=>by unfold ib;simp
 |c::cs,n::ns,k+1,h,a=>by
  simp only[aL,Nat.add_right_cancel_iff]at h;simp only[aL]at a;have:=ED cs ns k h ab;show (ib (c::cs) (n::ns)).getD (k+1) 0=min ((c::cs).getD (k+1) 0+(n::ns).getD (k+1) 0) half;simpa[ib]using this
theorem yY:∀(cs:List eM) (ns:List Int) (k:Nat) (c':eM),(jj cs ns)[k]?=some c'->k<ns.length->∃c,cs[k]?=some c/\c'=c.at_ (ns.getD k 0)
 | [],ns,_,_,h,_=>by cases ns<;>simp[jj]at h
 |_::_,[],_,_,_,a=>absurd a (Nat.not_lt_zero _)
 |c::cs,n::ns,0,c',h,_=>by
  have h:some (c.at_ n)=some c':=h;exact⟨c,rfl,(aA h).symm⟩
 |c::cs,n::ns,k+1,c',h,a=>by
  have h:(jj cs ns)[k]?=some c':=h;simp only[aL]at a;obtain⟨x,b,d⟩:=yY cs ns k c' h ab;exact⟨x,b,d⟩
variable {s:eA}
theorem Od (hd:s.eX=false) (d:fe) (eB:Int):(eA.tick d s eB).2.2.eB=(s.at_ eB).eB:=by
 unfold eA.tick;rw[hd];exact Eu _ _ _ _
theorem Oe (hd:s.eX=false) (d:fe) (eB:Int):eA.tick d (s.at_ eB) eB=eA.tick d s eB:=by
 have e:(s.at_ eB).at_ eB=s.at_ eB:=by
  unfold eA.at_;have:max (max s.eB (min eB half)) (min eB half)=max s.eB (min eB half):=ab;simp only[this]
 have a:(s.at_ eB).eX=false:=hd;unfold eA.tick;rw[e,hd,a];simp
theorem Kn.iB {V n m b:Int} {G:gd} {w:eC} (h:Kn V n w) (hi:Inv b G w) (h1:NB w) (K:PS w) (hP:Pi w<=195) (d:List Int) (hb:∀x∈d,0<=x/\x<=m) (aa:0<=m) (hm:n+m<=1000000):Kn V (n+m) (w.fu d).2:=by
 have S:∀ {w:eC},Kn V n w->Kn V (n+m) w:=fun hk=>⟨hk.hV,hk.vt,hk.right,hk.ep,hk.lens,fun c hc=>by have:=hk.ik c hc;omega,by have:=hk.small;omega,hk.si,hk.ci,hk.ni⟩;unfold eC.fu;split
 ·exact S h
 rename_i hlen;have hlen:d.length=w.eN.length:=ab;split
 ·exact S h
 simp only;have Ql:=h.small;have L:=EC w.eN d hlen.symm
 have M:∀k,k<w.eN.length->(ib w.eN d).getD k 0=w.eN.getD k 0+d.getD k 0/\0<=w.eN.getD k 0/\w.eN.getD k 0<=n/\0<=d.getD k 0/\d.getD k 0<=m:=fun k hk=>by
  have a:=ED w.eN d k hlen.symm hk;(have b1:w.eN.getD k 0∈w.eN:=by rw[aC,ay hk];exact bO _);(have b2:d.getD k 0∈d:=by rw[aC,ay ab];exact bO _);have c1:=h.ik _ b1;have c2:=hb _ b2;rw[a];unfold half;omega
 have Xe:=h.lens;obtain⟨C,H⟩:=nm ((ib w.eN d).getD 0 0);have Tr:=M 0 ab;rw[<- H]at Tr;obtain⟨l,u⟩:=nm (eC.fA {w with eN:=ib w.eN d,eD:=jj w.eD (ib w.eN d).tail}:eC);(have s1:l.ff=w.ff:=by rw[u];rfl);(have d1:l.eP=w.eP:=by rw[u];rfl);(have n1:l.eH=w.eH:=by rw[u];rfl);(have t1:l.eZ=w.eZ:=by rw[u];rfl);(have N:l.eN=ib w.eN d:=by rw[u];rfl);have l1:l.eD.length=w.eD.length:=by rw[u];exact nB _ _
 have v:∀j:eC,j.eP=w.eP->j.eH=w.eH->j.eZ=w.eZ->j.eN=ib w.eN d->j.eD=l.eD->(j.ff=w.ff.map fun s=>s.at_ C)->Kn V (n+m) j:=fun j e1 e2 e3 e4 e5 e6=>by
  have e:Ep j=Ep w:=by unfold Ep;rw[e1]
  have g:Env V w j:=by
   refine⟨dK e.symm,fun _ t ht=>?_,h.qY,fun t ht=>?_⟩
   ·rw[e6]at ht;obtain⟨s,hs,rfl⟩:=bS.1 ht;exact⟨s,hs,by rw[e1];exact yL V w.eP s C⟩
   rw[e6]at ht;obtain⟨s,hs,rfl⟩:=bS.1 ht;rw[e];exact (h.si s hs).ep
  refine⟨h.hV,by rw[e3];exact h.vt,by rw[e3];exact h.right,by rw[e,e1];exact h.ep,by rw[e4,e5,L,l1];exact Xe,fun c hc=>?_,ab,fun t ht=>?_,fun k c PH=>?_,fun x hx=>?_⟩
  ·rw[e4]at hc;obtain⟨i,z,rfl⟩:=cX hc;have a:=M i (by rw[<- L];exact z);rw[aC,ay z]at a;simp only[dp]at a;omega
  ·rw[e6]at ht;obtain⟨s,hs,rfl⟩:=bS.1 ht;have a:=h.si s hs;have T:=a.eB
   have A:(s.at_ C).eB=C:=by
    show max s.eB (min C half)=C;rw[T];unfold half;omega
   have aq:=a.quiet;refine⟨by rw[A,e4];exact H,by rw[e3];exact a.eZ,by rw[A];show s.quiet<=C+V;omega,fun c hc=>?_,by rw[e];exact a.ep,by rw[e1];exact a.gU⟩;have b:=a.fT c hc;rw[A];show 0<=fT s.eW c/\fT s.eW c<=C+V;omega
  ·rw[e5,u]at PH;have PH:(jj w.eD (ib w.eN d).tail)[k]?=some c:=PH;(have PG:k<w.eD.length:=by have:=(az.1 PH).1;rw[nB]at this;exact this);obtain⟨c0,c1,c2⟩:=yY _ _ _ _ PH (by rw[List.length_tail,L];omega);have a:=h.ci k c0 c1;have b:=M (k+1) ab
   have et:(ib w.eN d).tail.getD k 0=(ib w.eN d).getD (k+1) 0:=by
    cases hq:ib w.eN d with
    |nil=>rfl
    |cons y ys=>simp
   rw[et]at c2
   have O:c.eB=(ib w.eN d).getD (k+1) 0:=by
    rw[c2];show max c0.eB (min _ half)=_;rw[a.eB];unfold half;omega
   have av:=a.fT;have ar:=a.lG;have T:=a.eB;have f:CI V w k c0:=a;refine⟨by rw[e4];exact O,by rw[c2,e3];exact a.eZ,?_,?_,by rw[c2];exact a.fG.env g ab,fun o I=>by rw[c2];exact (a.floor o I).env a.fG g ab I,fun o I=>by rw[c2,e1];exact a.seen o I⟩
   ·rw[O,c2];show 0<=c0.fa/\c0.fa<=_;omega
   rw[O,c2];show 0<=c0.iV/\c0.iV<=_;omega
  rw[e2]at hx;exact (h.ni x hx).env g
 rw[<- u];split
 ·rename_i hs;(have p:w.ff=none:=by rw[<- s1];exact hs);exact v l d1 n1 t1 N rfl (by rw[s1,p];rfl)
 rename_i s hs;(have p:w.ff=some s:=by rw[<- s1];exact hs);obtain⟨j,q⟩:=nm ({l with ff:=some (s.at_ C)}:eC);have QA:=v j (by rw[q];exact d1) (by rw[q];exact n1) (by rw[q];exact t1) (by rw[q];exact N) (by rw[q]) (by rw[q,p];rfl);have P:=hi.ff s p;have J:=h.si s p;have U:=h1.sb s p;have B:=K.up s p;have Q:=qi hi;(have W:w.eP.eG.length+fP s<=199:=by unfold iq at Q;rw[p]at Q;simp only at Q;omega);have D:∀c,0<=c->0<=fT s.eW c:=fun c hc=>(J.fT c hc).1;have X:=NH w.eP s C;have E:=Od B w.eP C;have Y:=vc P hi.eG C;have R:=Ee (V:=V) hi.uniq (P.lg C) hi.eG ((K.sq s p).same rfl rfl) (U.lg C) J.gU B W D C;rw[Oe B]at R
 have F:∀m∈(eA.tick w.eP s C).1,qn s m:=by
  unfold eA.tick;rw[B];simp only[bh,if_false];exact fun m hm=>(Ey hi.uniq (List.range 8) (fun k hk=>by simpa using hk) (P.lg C) hi.eG ((K.sq s p).same rfl rfl) (U.lg C) J.gU B W D [] (fun m hm=>by cases hm) m hm).tJ rfl
 (have ed:eA.tick l.eP s ((ib w.eN d).getD 0 0)=eA.tick w.eP s C:=by rw[d1,<- H]);rw[ed];generalize eA.tick w.eP s C=r at X E Y R F⊢
 have A:(s.at_ C).eB=C:=by
  show max s.eB (min C half)=C;rw[J.eB];unfold half;omega
 (have e2:({l with eP:=r.2.1,ff:=some r.2.2}:eC)={j with eP:=r.2.1,ff:=some r.2.2}:=by rw[q]);show Kn V (n+m) (eC.iy (eC.gf {l with eP:=r.2.1,ff:=some r.2.2} true r.1));rw[e2];(have Z:j.eP=w.eP:=by rw[q];exact d1);refine QA.tK (s:=s.at_ C) (by rw[q]) (by rw[Z];exact X) Y.2.1.len ?_ (fun hd=>by rw[Z];exact R hd) fun m VW=>(F m VW).tJ rfl;(have kk:j.eN.getD 0 0=C:=by rw[q];show l.eN.getD 0 0=C;rw[N];exact H.symm);rw[kk,E];exact A
end fS
namespace fS
open Go.RowKit fD eY fK fc
variable {V n b:Int} {w:eC}
theorem Kn.gx {a:Int} (h:Kn V n w) (b:n<=a) (d:a<=1000000):Kn V a w:=⟨h.hV,h.vt,h.right,h.ep,h.lens,fun c hc=>by have:=h.ik c hc;omega,by have:=h.small;omega,h.si,h.ci,h.ni⟩
variable {G:gd}
theorem Kn.ki {p:Nat} (hp:p<=195):∀(f:Nat) {w:eC} (_:Kn V n w) (_:Inv b G w) (_:NB w) (_:PS w) (_:Pi w<=p),Kn V n (eC.ia f w)
 |0,_,h,_,_,_,_=>h
 |f+1,w,h,hi,a,c,d=>by
  unfold eC.ia;split
  ·exact h
  have g:=vW hi a c ab 0;exact Kn.ki hp f (h.ku hi a c ab 0) (oO hi 0) g.nb g.ps (by have:=g.pi;omega)
theorem Kn.p7 (h:Kn V n w) (hi:Inv b G w) (a:NB w) (c:PS w) (d:Pi w<=195):Kn V n w.gi:=Kn.ki (p:=195) ab 1000 h hi a c d
structure jy (V:Int) (w:eC) (s U:Nat) (n:Int):Prop where
 bd:Bd w s U
 kn:Kn V n w
variable {s U:Nat}
theorem jy.jd (h:jy V w s U n) (hs:s<=62) (hi:Inv b G w) (hb:b<1000000) (k:Nat):∃a,U<=a/\jy V (w.fh k).2.gi s a n/\(a=U->((w.fh k).2.gi).eH.l=[]):=by
 obtain⟨a,u1,u2,u3⟩:=h.bd.jd hs hi hb k;have g:=tD hi h.bd.nb h.bd.ps k;have c:=(h.bd.u1 hs).2;have:=g.pi;exact⟨a,u1,⟨u2,(h.kn.jd hi k).p7 (nP hi hb k) g.nb g.ps ab⟩,u3⟩
theorem jy.iB {m:Int} (h:jy V w s U n) (hs:s<=62) (hi:Inv b G w) (a:List Int) (e:∀x∈a,0<=x/\x<=m) (d:0<=m) (hm:n+m<=1000000):∃c,U<=c/\jy V (w.fu a).2.gi s c (n+m)/\(c=U->((w.fu a).2.gi).eH.l=[]):=by
 have f:=(h.bd.u1 hs).2;obtain⟨c,u1,u2,u3⟩:=h.bd.iB hs hi a;have g:=tG hi h.bd.nb h.bd.ps ab a;have:=g.pi;exact⟨c,u1,⟨u2,(h.kn.iB hi h.bd.nb h.bd.ps ab a e d hm).p7 (pV hi a) g.nb g.ps ab⟩,u3⟩
theorem jy.lA (hs:s<=62):∀(a:List Nat) {b:Int} {w:eC} {U:Nat} (_:jy V w s U n) (_:Inv b G w) (_:b+a.length<=1000000),∃c,U<=c/\jy V (eC.iY a w) s c n
 | [],_,_,U,h,_,_=>⟨U,ax _,h⟩
 |k::a,b,w,U,h,hi,hb=>by
  simp only[aL]at hb;obtain⟨i,u1,d,-⟩:=h.jd hs hi ab k;have e:Inv (b+1) G (w.fh k).2.gi:=pW 1000 (nP hi ab k);obtain⟨f,u2,g⟩:=jy.lA hs a d e ab;exact⟨f,aB u1 u2,g⟩
theorem jy.l7 (h:jy V w s U n) (hs:s<=62) (hi:Inv b G w) (hb:b+4<=1000000) (e:n+1<=1000000):∃d,U<=d/\jy V w.round s d (n+1):=by
 have g1:=h.bd.fc (vX h.bd.nb h.bd.ps);have f:=h.kn.lF hi;have a:=qL hi;(have k:(w.gK.2.eD.length:Int)<=4:=by have:=a.gz;omega);obtain⟨l,u1,g⟩:=jy.lA hs (List.range w.gK.2.eD.length) (⟨g1,f⟩:jy V w.gK.2 s U n) a ah;have c:=rN (List.range w.gK.2.eD.length) a ah;obtain⟨i,u2,j,-⟩:=g.iB hs c (List.replicate (eC.iY (List.range w.gK.2.eD.length) w.gK.2).eN.length 1) (m:=1) (fun x hx=>by rw[bT hx];omega) ab e;exact⟨i,aB u1 u2,j⟩
theorem jy.lO (hs:s<=62):∀(k:Nat) {n b:Int} {w:eC} {U:Nat} (_:jy V w s U n) (_:Inv b G w) (_:b+4*k<=1000000) (_:n+k<=1000000),∃a,U<=a/\jy V (eC.iz k w) s a (n+k)
 |0,n,_,_,U,h,_,_,_=>⟨U,ax _,⟨h.bd,(show Kn V (n+((0:Nat):Int)) _ from (by omega:n=n+((0:Nat):Int))▸h.kn)⟩⟩
 |k+1,n,b,w,U,h,hi,hb,g=>by
  obtain⟨i,u1,d⟩:=h.l7 hs hi ab ab;obtain⟨f,u2,c⟩:=jy.lO hs k d (vh hi ab) ab ab;have e:n+1+(k:Int)=n+((k+1:Nat):Int):=ab;rw[e]at c;exact⟨f,aB u1 u2,c⟩
theorem Of {gone d:Int} (a:0<=gone/\gone<=11) (hd:0<=d/\d<=500):0<=pB gone d b/\pB gone d b<=20:=by
 have c:0<=gone*(1000-d):=dF a.1 ab;have e:gone*(1000+d)<=11*1500:=Int.mul_le_mul a.2 ab ab ab;(have f:0<=low gone d:=by unfold low;omega);(have g:high gone d<=16:=by unfold high;omega);unfold pB;split
 ·have:=jK (b/8) (high gone d-low gone d+1) ab ab;omega
 omega
theorem jy.tL {y:jY} (h:jy V y.r s U n) (hs:s<=60) (hi:Inv b G y.r) (hb:b<=900000) (m:n<=900000) (hd:0<=y.t.fH/\y.t.fH<=500) (x:Step):∃e,jy V (ie x y).r (s+1) e (n+20):=by
 obtain⟨u1,u2⟩:=h.bd.u1 ab;obtain⟨e,j⟩:=h.bd.tL hs hi hb x;have n0:=h.bd.nb;have f:=h.bd.ps;have k:=h.kn;have d:n+20<=1000000:=ab;refine⟨e,j,?_⟩;unfold ie;by_cases c:x.fz=0
 ·rw[if_pos c];exact (k.l6 _ _).gx ab d
 rw[if_neg c];by_cases c:x.fz=1
 ·rw[if_pos c];exact (k.oP _ _ _).gx ab d
 rw[if_neg c];by_cases c:x.fz=2
 ·rw[if_pos c];exact (k.jd hi _).gx ab d
 rw[if_neg c];by_cases c:x.fz=3
 ·rw[if_pos c];exact (k.ku hi n0 f ab _).gx ab d
 rw[if_neg c];by_cases c:x.fz=4
 ·rw[if_pos c];exact (k.px _).gx ab d
 rw[if_neg c];by_cases c:x.fz=5
 ·rw[if_pos c];exact (k.py _).gx ab d
 rw[if_neg c];by_cases c:x.fz=6
 ·rw[if_pos c];refine k.iB hi n0 f ab _ (fun z g=>?_) ab d;unfold times at g;obtain⟨i,-,rfl⟩:=aW.1 g;have:=jK x.a 12 ab ab;exact Of ab hd
 rw[if_neg c];by_cases c:x.fz=7
 ·rw[if_pos c];exact (k.oB _ _).gx ab d
 rw[if_neg c];by_cases c:x.fz=8
 ·rw[if_pos c];exact k.qO.gx ab d
 rw[if_neg c];by_cases c:x.fz=9
 ·rw[if_pos c];exact (k.lF hi).gx ab d
 rw[if_neg c];by_cases c:x.fz=10
 ·rw[if_pos c];exact (k.pz _).gx ab d
 rw[if_neg c];by_cases c:x.fz=11
 ·rw[if_pos c];have hp:=jK x.a 4 ab ab;obtain⟨o,-,l⟩:=jy.lO (s:=s) ab (pick x.a 4).toNat h hi ab ab;exact l.kn.gx ab d
 rw[if_neg c];exact k.gx ab d
end fS
namespace fS
open Go.RowKit fD eY fK fc
theorem Og {t:fU} {n:Int} {w:eC} (h:(eC.new t n).2=some w) (hV:1<=t.fa/\t.fa<=1000):jy t.fa w 0 0 0:=by
 unfold eC.new at h;split at h
 ·cases h
 rename_i V;have hc:=vR t ⟨[],false,0⟩ 0;generalize hr:eA.new t ⟨[],false,0⟩ 0=r at h hc;obtain⟨e,d,o⟩:=r
 cases o with
 |none=>cases h
 |some s =>
  simp only at h;rcases hc with⟨c1,-⟩|⟨m,c1,c2,c3,c4,c5,c6,c7,c8,i,K,L⟩
  ·cases c1
  obtain rfl:s=m:=aA c1
  cases QH:oc t 0 n.toNat with
  |none=>rw[QH]at h;cases h
  |some cs =>
   rw[QH]at h;simp only[bI]at h;obtain⟨M,H⟩:=pX n.toNat QH;(have e1:w.ff=some s:=by rw[<- h]);(have l:w.eP=d:=by rw[<- h]);(have z:w.eH=⟨[],0⟩:=by rw[<- h]);(have B:w.eD=cs:=by rw[<- h]);(have A:w.eZ=t:=by rw[<- h]);have C:w.eN=List.replicate (n.toNat+1) 0:=by rw[<- h]
   have N:kz t=true:=by
    unfold eA.new at hr;split at hr
    ·simp at hr
    rename_i q;simp only[bz,aV,not_or,bu]at q;exact q.1
   have i:d.eG=[⟨0,0,-1,0,[],s.eS⟩]:=i;have c5:s.eS=1:=by rw[c5];show wrap64 (0+1)=1;exact jC ab ab
   have hq:∀o,s.eQ o=[]:=fun o=>by
    unfold eA.eQ;rw[c3,aC,bC];split<;>rfl
   have u:∀j,gR s j=[]:=fun j=>by unfold gR;rw[c3];simp[List.replicate,jx]
   have D:NB w:=⟨by rw[z];simp,fun m b=>by
    rw[e1]at b;obtain rfl:=aA b
    exact⟨by rw[c3];simp,by rw[c4];exact⟨rfl,rfl⟩,fun o _ x rest q=>(by rw[hq]at q;cases q),fun o _=>(by rw[hq];simp)⟩⟩
   have I:∀j,gg d.eG j=[]:=fun j=>by rw[i];rfl
   have O:PS w:=⟨fun m b=>by
    rw[e1]at b;obtain rfl:=aA b;refine⟨fun k=>by rw[u];exact dR,fun k=>?_⟩;rw[l,I,L]
    rfl,fun m b=>by rw[e1]at b;obtain rfl:=aA b;exact c2⟩
   have a:∀k:Nat,gn w k=0:=fun k=>by
    have P:gA w k=none:=by
     unfold gA;rw[B]
     cases hk:cs[k]? with
     |none=>rfl
     |some c=>exact (vY (H k c hk)).1
    unfold gn Ew;rw[e1,l,z,I,P];simp only;rw[u];rfl
   (have hT:Tw w=0:=by unfold Tw;rw[e1,l,K];rfl);(have Q:jq w.eP.eG=1:=by rw[l,i];rfl);(have E:iq w=0:=by unfold iq fP;rw[e1];simp[c3,List.replicate]);refine⟨⟨D,O,by unfold Pi;rw[a,a,a,a,hT,Q];omega,by unfold Wn;rw[E,z];simp[iU],ab⟩,?_⟩;have f:Ep w=1:=by unfold Ep;rw[l,i];show max 0 s.eS=1;rw[c5];decide
   have J:∀k,w.eN.getD k 0=0:=fun k=>by
    rw[C,aC,bC];split<;>rfl
   refine⟨hV,by rw[A],by rw[A];exact N,by rw[f,l,i];simp,by rw[C,B,M];simp,fun c hc=>?_,ab,fun m b=>?_,fun k c hk=>?_,fun g hg=>by rw[z]at hg;cases hg⟩
   ·rw[C]at hc;rw[bT hc];omega
   ·rw[e1]at b;obtain rfl:=aA b;have c7:s.eB=0:=c7;refine⟨by rw[J];exact c7,by rw[A];exact c6,ab,fun c _=>?_,by rw[f];exact c5,fun c _=>?_⟩
    ·have:fT s.eW c=0:=by
      unfold fT;exact aaU
     omega
    have:gU s.eW c=0:=by
     unfold gU;exact aaU
    omega
   rw[B]at hk;have y:=H k c hk;obtain⟨-,-,n3,n4,R,n6,F,S,T,-⟩:=vY y
   have G:c.iV=0:=by
    unfold eM.new at y;split at y
    ·obtain rfl:=aA y;rfl
    cases y
   refine⟨by rw[F,J],S.trans A.symm,by rw[R,F];omega,by rw[G,F];omega,by rw[n3,n4];exact⟨aZ _,aZ _,ab,.inl (by rw[f];omega)⟩,fun o U=>?_,fun o U=>?_⟩
   ·unfold eM.kY;rw[n6];exact yP
   unfold eM.ke;rw[T];simp[fw]
end fS
namespace fS
open Go.RowKit fD eY fK
def DK (s:eA):Prop:=∀k m,fw k s.done=some m->m.eI=k/\fN m.eF=true
variable {s s':eA}
theorem DK.same (h:DK s) (e:s'.done=s.done):DK s':=fun k m a=>h k m (e▸a)
variable {o:Nat}
theorem yZ (a:o<8):fN (o:Int)=true:=by
 unfold fN fR;simp only[aF,decide_eq_true_eq];omega
theorem DK.y9 {k:Int} {m:eL} (h:DK s) (e:s'.done=put k m s.done) (b:m.eI=k) (c:fN m.eF=true):DK s':=fun j x a=>by
 rw[e,ou]at a;split at a
 ·rename_i e1;rw[<- aA a];exact⟨b.trans e1,c⟩
 exact h j x a
variable {d:fe}
theorem Oh (h:DK s) (a:o<8) (x:Wr) (rest:List Wr) (out:List eL):DK (s.store d o x rest out).2.2.2:=by
 unfold eA.store;simp only;generalize d.add s.eX ⟨x.eI,x.eK,o,wrap64 ((s.value o).fq+1),x.data,0⟩=p;split
 ·exact h
 unfold eA.answer;split
 ·exact h.y9 (k:=x.eI) (m:={iH with eO:=6,eI:=x.eI,eK:=x.eK,eF:=o,fJ:=wrap64 ((s.value o).fq+1)}) rfl rfl (yZ a)
 exact h.y9 (k:=x.eI) (m:={iH with eO:=6,eI:=x.eI,eK:=x.eK,eF:=o}) rfl rfl (yZ a)
theorem EE (b:o<8):∀(f:Nat) {d:fe} {s:eA} (_:DK s) (out:List eL),DK (eA.iu f d s o out).2.2
 |0,_,_,h,_=>h
 |f+1,d,s,h,out=>by
  unfold eA.iu
  cases hx:s.eQ o with
  |nil=>exact h
  |cons x rest =>
   simp only;split
   ·exact h
   have a:DK (s.iE d o x rest out).2.2.2:=by
    unfold eA.iE;simp only;split
    ·exact h
    exact Oh (by exact h.same rfl) b _ _ _
   generalize s.iE d o x rest out=r at a⊢;split
   ·exact EE b f a _
   exact a
theorem za (a:o<8) (h:DK s):DK (eA.fu d s o).2.2:=EE a _ h _
theorem EF:∀(a:List Nat) {d:fe} {s:eA} (_:∀k∈a,k<8) (_:DK s) (out:List eL),DK (eA.gY a d s out).2.2
 | [],_,_,_,h,_=>h
 |k::a,d,s,b,h,out=>by
  unfold eA.gY;simp only;exact EF a (fun j c=>b j (aI _ c)) (za (b k aK) h) _
theorem Oi (h:DK s) (d:fe) (eB:Int):DK (eA.tick d s eB).2.2:=by
 unfold eA.tick;split
 ·exact h
 exact EF (List.range 8) (s:=s.at_ eB) (fun k a=>bP.1 a) (by exact h.same rfl) []
theorem Oj (h:DK s) (d:fe) (eB:Int) (m:eL):DK (eA.take d s eB m).2.2:=by
 have a:DK (s.at_ eB):=h.same rfl;have hv:=mV d s eB m;generalize eA.take d s eB m=r at hv⊢;generalize s.at_ eB=z at hv a
 cases hv with
 |off=>exact h
 |enq _ _ b=>exact za (jA b).2.1 (by exact a.same rfl)
 |ack _ _ b=>exact za (jA b).2.1 (by exact a.same rfl)
 |_=>exact a.same rfl
theorem zb:∀(l:List Rec) {s:eA} (_:DK s) (_:∀r∈l,r.eF<=7),DK (s.iN l)
 | [],_,h,_=>h
 |r::l,s,h,a=>by
  unfold eA.iN;have b:∀x∈l,x.eF<=7:=fun x hx=>a x (aI _ hx);split
  ·exact zb l (h.same rfl) b
  refine zb l ?_ b;have:=a r aK;exact h.y9 (k:=r.eI) (m:={iH with eO:=6,eI:=r.eI,eK:=r.eK,eF:=r.eF,fJ:=r.fJ}) rfl rfl (by show fN r.eF=true;unfold fN fR;simp only[aF,decide_eq_true_eq];omega)
theorem EG (c:∀r∈d.eG,r.eF<=7) (t:fU) (eB:Int) (hs:(eA.new t d eB).2.2=some s):DK s:=by
 unfold eA.new at hs;split at hs
 ·cases hs
 (have hb:DK (eA.blank t eB):=fun k m h=>by simp[eA.blank,fw]at h);have a:DK ((eA.blank t eB).iN d.eG):=zb _ hb c;generalize (eA.blank t eB).iN d.eG=s1 at a hs;simp only at hs
 have b:DK (if 1<(wrap64 (s1.eS+1)) then {s1 with eS:=wrap64 (s1.eS+1),quiet:=eB+t.fa} else {s1 with eS:=wrap64 (s1.eS+1)}):=by
  split<;>exact a.same rfl
 generalize (if 1<wrap64 (s1.eS+1) then ({s1 with eS:=wrap64 (s1.eS+1),quiet:=eB+t.fa}:eA) else {s1 with eS:=wrap64 (s1.eS+1)})=s2 at b hs
 split at hs
 ·rw[<- aA hs];exact b
 cases hs
def ma (c:eM):Prop:=0<=c.fE/\c.fE<=c.eK
variable {c:eM}
theorem EH (h:ma c) (b:c.eK<1000000000000) (d:0<=c.eK):ma c.fh.2/\c.fh.2.fB=c.fB:=by
 rcases kO c with⟨-,-,a,-,-,a3⟩|⟨-,a⟩
 ·rw[jC ab ab]at a3;exact⟨⟨by rw[a.fE];exact h.1,by rw[a.fE,a3];have:=h.2;omega⟩,a.fB⟩
 rw[a];exact⟨h,rfl⟩
theorem ze (a:c.eK+1<1000000000000) (b:0<=c.eK):ma c.ask.2/\c.ask.2.fB=true:=by
 unfold eM.ask;simp only;have e:wrap64 (c.eK+1)=c.eK+1:=jC ab ab;rw[e];have:=EH (c:={c with eK:=c.eK+1,fE:=c.eK+1,gL:=c.eB}) ⟨by show 0<=c.eK+1;omega,by show c.eK+1<=c.eK+1;omega⟩ (by exact a) (by show 0<=c.eK+1;omega);refine⟨this.1,this.2.trans ?_⟩;unfold eM.fB;simp;omega
theorem Ol (h:ma c) (m:eL):ma (c.take m).2:=by
 have a:0<=c.eK:=cU h.1 h.2;unfold eM.take;split
 ·exact h
 simp only;split
 ·unfold eM.lr;split
  ·exact h
  simp only;split<;>exact⟨aZ _,a⟩
 split
 ·split
  ·exact⟨aZ _,a⟩
  exact h
 split
 ·split<;>exact h
 split
 ·split<;>exact h
 split
 ·split<;>exact h
 exact h
end fS
namespace fS
open Go.RowKit fD eY fK fc
def EI (w:eC):Prop:=∀(i:Nat) (e:iw),w.fg[i]?=some e->e.ended=0->0<=e.eI/\e.eI<w.eD.length/\e.gv<=w.fy.getD e.eI.toNat 0/\(e.gv<w.fy.getD e.eI.toNat 0\/w.ft.getD e.eI.toNat (-1)=i)
structure Ex (m:Int) (w:eC):Prop where
 dk:∀s,w.ff=some s->DK s
 as:∀(k:Nat) (c:eM),w.eD[k]?=some c->ma c
 rt:∀g∈w.eH.l,g.eU.right=true
 st:0<=w.step/\w.step<=m
 nn:m<=1000000000000
 op:∀(k:Nat) (c:eM),w.eD[k]?=some c->0<=w.ft.getD k (-1)->c.fB=true
 ev:EI w
theorem se:∀(l:List eL) (n:Net) (t:Bool) (_:∀g∈n.l,g.eU.right=true),∀g∈(gV n t l).l,g.eU.right=true
 | [],_,_,h=>h
 |x::l,n,t,h=>by
  unfold gV;split
  ·rename_i b;refine se l _ t fun g a=>?_;unfold Net.send at a;split at a
   ·exact h g a
   rcases aN.1 a with a|a
   ·exact h g a
   rw[aD.1 a];exact b
  exact se l n t h
variable {m m' b:Int} {w:eC}
theorem Ex.of {w':eC} (h:Ex m w) (he:w'.fg=w.fg) (b:w'.ft=w.ft) (d:w'.fy=w.fy) (f:w'.eD.length=w.eD.length)
 (hc:∀(k:Nat) (c':eM),w'.eD[k]?=some c'->ma c'/\∃c,w.eD[k]?=some c/\c'.fB=c.fB) (hs:∀s,w'.ff=some s->DK s) (j:∀g∈w'.eH.l,g.eU.right=true) (n:0<=w'.step/\w'.step<=m') (hm:m'<=1000000000000):Ex m' w':=by
 refine⟨hs,fun k c a=>(hc k c a).1,j,n,hm,fun k c a h0=>?_,fun i e hi h0=>?_⟩
 ·obtain⟨-,c0,o,p⟩:=hc k c a;rw[p];exact h.op k c0 o (by rw[<- b];exact h0)
 rw[f,d,b];exact h.ev i e (by rw[<- he];exact hi) h0
theorem Ex.oW (h:Ex m w):∀(k:Nat) (c':eM),w.eD[k]?=some c'->ma c'/\∃c,w.eD[k]?=some c/\c'.fB=c.fB:=fun k c a=>⟨h.as k c a,c,a,rfl⟩
theorem step1 (h:Ex m w) (hm:m+1<=1000000000000):1<=wrap64 (w.step+1)/\wrap64 (w.step+1)<=m+1:=by
 have:=h.st;have:=h.nn;rw[jC ab ab];omega
theorem Ex.lZ (h:Ex m w) (hm:m+1<=1000000000000):Ex (m+1) w.fA:=by
 have:=step1 h hm;exact h.of rfl rfl rfl rfl h.oW h.dk h.rt (by show 0<=wrap64 (w.step+1)/\_;exact⟨ab,this.2⟩) hm
theorem Ex.gx (h:Ex m w) (b:m<=m') (a:m'<=1000000000000):Ex m' w:=⟨h.dk,h.as,h.rt,by have:=h.st;omega,a,h.op,h.ev⟩
variable {k:Nat}
theorem EJ (A:w.ft.length=w.eD.length) (h:Idx w) (hs:∀s,w.ff=some s->DK s) (has:∀(k:Nat) (c:eM),w.eD[k]?=some c->ma c) (n:∀g∈w.eH.l,g.eU.right=true)
 (o:1<=w.step/\w.step<=m) (hm:m<=1000000000000) (p:∀(j:Nat) (c:eM),j≠k->w.eD[j]?=some c->0<=w.ft.getD j (-1)->c.fB=true) (d:EI w):Ex m (w.gG k):=by
 have r:=d;unfold eC.gG
 cases hc:w.eD[k]? with
 |none=>exact⟨hs,has,n,⟨by show 0<=w.step;omega,o.2⟩,hm,fun j c b=>p j c (fun e=>by rw[e,hc]at b;cases b) b,d⟩
 |some c =>
  have B:k<w.eD.length:=(az.1 hc).1;have t:k<w.ft.length:=ab;(have e0:w.ft[k]?=some (w.ft.getD k (-1)):=by rw[aC,ay t];rfl);rw[e0];simp only;split
  ·rename_i f;simp only[aF,decide_eq_true_eq,aV]at f;have u:=h _ (aT e0);have v:(w.ft.getD k (-1)).toNat<w.fg.length:=ab;rw[ay v];simp only;refine⟨hs,has,n,⟨by show 0<=w.step;omega,o.2⟩,hm,fun j q b a=>?_,fun i e hi a=>?_⟩
   ·have a:0<=(w.ft.set k (-1)).getD j (-1):=a;rw[lN]at a;split at a
    ·omega
    rename_i x;exact p j q (fun e=>x ⟨e.symm,t⟩) b a
   have hi:(w.fg.set (w.ft.getD k (-1)).toNat _)[i]?=some e:=hi;rw[bt]at hi;split at hi
   ·rename_i y;have:=aA hi;rw[<- this]at a;have a:w.step=0:=a;omega
   rename_i y;obtain⟨v1,v2,v4,v3⟩:=d i e hi a;refine⟨v1,v2,v4,?_⟩;rcases v3 with v3|v3
   ·exact .inl v3
   right;show (w.ft.set k (-1)).getD e.eI.toNat (-1)=i;rw[lN,if_neg]
   ·exact v3
   rintro⟨z,-⟩;rw[<- z]at v3;omega
  rename_i f;refine⟨hs,has,n,⟨ab,o.2⟩,hm,fun j q b a=>?_,d⟩;by_cases e:j=k
  ·subst e;rw[hc]at b;obtain rfl:=aA b;simp only[aF,decide_eq_true_eq,aV,not_and,bu]at f;exact f a
  exact p j q e b a
variable {c' c:eM}
theorem zf (h:∀(j:Nat) (c:eM),w.eD[j]?=some c->ma c) (b:ma c'):∀(j:Nat) (c:eM),(w.eD.set k c')[j]?=some c->ma c:=fun j c a=>by
 rw[bt]at a;split at a
 ·split at a
  ·rw[<- aA a];exact b
  cases a
 exact h j c a
variable {G:gd}
theorem sf (hi:Inv b G w) (hb:b<1000000) (hc:w.eD[k]?=some c):0<=c.eK/\c.eK+1<1000000000000:=by
 have a:=hi.eD k c hc;have d:=oN hi hc;have:=a.low;have:=a.high;have:=hi.b0;omega
theorem Ex.jd (h:Ex m w) (hi:Inv b G w) (hb:b<1000000) (hm:m+1<=1000000000000) (k:Int):Ex (m+1) (w.fh k).2:=by
 unfold eC.fh;split
 ·exact h.gx ab hm
 split
 ·rename_i c hc;have g:=sf hi hb hc;have d:=EH (h.as _ c hc) ab g.1;have i:=step1 h hm;refine h.of rfl rfl rfl (by simp[eC.gf,eC.fA]) (fun j f a=>?_) h.dk ?_ (by show 0<=wrap64 (w.step+1)/\_;exact⟨ab,i.2⟩) hm
  ·have a:(w.eD.set k.toNat c.fh.2)[j]?=some f:=a;rw[bt]at a;split at a
   ·rename_i e;split at a
    ·rw[<- aA a];exact⟨d.1,c,by rw[<- e];exact hc,d.2⟩
    cases a
   exact h.oW j f a
  exact se _ _ _ h.rt
 exact h.gx ab hm
theorem Ex.oA (h:Ex m w) (hi:Inv b G w) (p:Idx w) (hm:m+1<=1000000000000) {e:Int} {l:List eL} (hc:w.eD[k]?=some c) (q:ma c') (r:e≠0->c'=c) (n:e=0->c.fB=false):Ex (m+1) (w.gJ k e l c').2:=by
 unfold eC.gJ;split
 ·rename_i he;rw[r he];refine (h.gx (m':=m+1) ab hm).of rfl rfl rfl ae (fun j f d=>?_) h.dk h.rt ⟨h.st.1,by have:=h.st.2;show w.step<=m+1;omega⟩ hm;rw[bt]at d;split at d
  ·rename_i s;split at d
   ·rw[<- aA d];exact⟨h.as _ c hc,c,by rw[<- s];exact hc,rfl⟩
   cases d
  exact h.oW j f d
 rename_i he;have he:e=0:=Classical.not_not.1 he;have t:=step1 h hm;have u:k<w.eD.length:=(az.1 hc).1;have v:k<w.ft.length:=by rw[hi.no];exact u
 have y:w.ft.getD k (-1)<0:=by
  rcases Int.lt_or_le (w.ft.getD k (-1)) 0 with a|a
  ·exact a
  have:=h.op k c hc a;rw[n he]at this;cases this
 refine EJ ?_ ?_ h.dk (zf h.as q) (se _ _ _ h.rt) t hm (fun j f d g a=>?_) fun i ei Ub a=>?_
 ·show (w.ft.set k _).length=(w.eD.set k _).length;rw[aU,aU];exact hi.no
 ·intro x o;have o:x∈w.ft.set k w.fg.length:=o;show x<((w.fg++[_]).length:Int);rw[aE,aQ];rcases mem_set o with e1|e1
  ·omega
  have:=p x e1;omega
 ·have g:(w.eD.set k c')[j]?=some f:=g;rw[a8 (fun e=>d e.symm)]at g;have a:0<=(w.ft.set k w.fg.length).getD j (-1):=a;rw[lN,if_neg (fun e=>d e.1.symm)]at a;exact h.op j f g a
 have Ub:(w.fg++[iw.mk k c'.call (wrap64 (w.step+1)) 0 (w.fy.getD k 0)])[i]?=some ei:=Ub;show 0<=ei.eI/\ei.eI<((w.eD.set k c').length:Int)/\ei.gv<=w.fy.getD ei.eI.toNat 0/\(ei.gv<w.fy.getD ei.eI.toNat 0\/(w.ft.set k w.fg.length).getD ei.eI.toNat (-1)=i);rw[aU,lN];by_cases z:i<w.fg.length
 ·rw[ba z]at Ub;obtain⟨v1,v2,v4,v3⟩:=h.ev i ei Ub a;refine⟨v1,v2,v4,?_⟩;rcases v3 with v3|v3
  ·exact .inl v3
  right;rw[if_neg]
  ·exact v3
  rintro⟨e1,-⟩;rw[<- e1]at v3;omega
 rw[aR ab]at Ub
 have A:i-w.fg.length=0:=by
  rcases bQ (i-w.fg.length)with a|a
  ·exact a
  rw[bw ah]at Ub;cases Ub
 rw[A]at Ub;have Ub:=(aA Ub).symm;rw[Ub];refine⟨by show (0:Int)<=(k:Int);omega,by show (k:Int)<_;omega,?_,.inr ?_⟩
 ·show w.fy.getD k 0<=w.fy.getD ((k:Int)).toNat 0;simp
 show (if k=((k:Nat):Int).toNat/\k<w.ft.length then (w.fg.length:Int) else _)=i
 rw[if_pos ⟨ae,v⟩];omega
theorem Ex.l6 (h:Ex m w) (hi:Inv b G w) (f:Idx w) (hb:b<1000000) (hm:m+1<=1000000000000) (k o:Int):Ex (m+1) (w.read k o).2:=by
 unfold eC.read;split
 ·exact h.gx ab hm
 split
 ·rename_i c hc;have d:=sf hi hb hc;refine h.oA hi f hm hc ?_ ?_ ?_
  ·unfold eM.read;split
   ·exact h.as _ c hc
   split
   ·exact h.as _ c hc
   simp only;split
   ·split
    ·exact h.as _ c hc
    exact (ze (by exact d.2) (by exact d.1)).1
   exact (ze (by exact d.2) (by exact d.1)).1
  ·unfold eM.read;split
   ·intro _;rfl
   split
   ·intro _;rfl
   simp only;split
   ·split<;>(intro a;exact absurd rfl a)
   intro a;exact absurd rfl a
  unfold eM.read;split
  ·intro a;exact absurd a (by show ¬(6:Int)=0;decide)
  rename_i e;intro _;exact dj _▸e
 exact h.gx ab hm
theorem Ex.oP (h:Ex m w) (hi:Inv b G w) (g:Idx w) (hb:b<1000000) (hm:m+1<=1000000000000) (k o:Int) (d:Bytes):Ex (m+1) (w.write k o d).2:=by
 unfold eC.write;split
 ·exact h.gx ab hm
 split
 ·rename_i c hc;have f:=sf hi hb hc;refine h.oA hi g hm hc ?_ ?_ ?_
  ·unfold eM.write;split
   ·exact h.as _ c hc
   split
   ·exact h.as _ c hc
   split
   ·exact h.as _ c hc
   exact (ze (by exact f.2) (by exact f.1)).1
  ·unfold eM.write;split
   ·intro _;rfl
   split
   ·intro _;rfl
   split
   ·intro _;rfl
   intro a;exact absurd rfl a
  unfold eM.write;split
  ·intro a;exact absurd a (by show ¬(6:Int)=0;decide)
  rename_i e;intro _;exact dj _▸e
 exact h.gx ab hm
theorem Ex.kt (h:Ex m w) {n:Net} (a:∀g∈n.l,g∈w.eH.l):Ex m {w with eH:=n}:=h.of rfl rfl rfl rfl h.oW h.dk (fun g b=>h.rt g (a g b)) h.st h.nn
theorem Ex.ox (h:Ex m w):Ex m w.iy:=by
 unfold eC.iy;split
 ·split
  ·exact h.of rfl rfl rfl rfl h.oW (fun s hs=>by cases hs) h.rt h.st h.nn
  exact h
 exact h
theorem Ex.tK (h:Ex m w) {d:fe} {s:eA} (hs:DK s) (out:List eL):Ex m ({w with eP:=d,ff:=some s}.gf true out):=
 h.of rfl rfl rfl rfl h.oW (fun b a=>by rw[<- aA a];exact hs) (se _ _ _ h.rt) h.st h.nn
theorem Ex.ku (h:Ex m w) (hi:Inv b G w) (f:Idx w) (hm:m+1<=1000000000000) (k:Int):Ex (m+1) (w.gS k).2:=by
 unfold eC.gS;split
 ·exact h.gx ab hm
 cases hl:w.eH.l[k.toNat]? with
 |none=>exact h.gx ab hm
 |some g =>
  simp only;have a:=(h.kt (n:={w.eH with l:=w.eH.l.eraseIdx k.toNat}) fun x f=>bF f).lZ hm;have q:=step1 h hm;split
  ·split
   ·exact a
   rename_i s hs;exact Ex.ox (a.tK (Oj (h.dk s hs) _ _ _) _)
  split
  ·rename_i c hc;have r:=Ol (h.as _ c hc) g.eU;refine EJ ?_ f h.dk (zf h.as r) (se _ _ _ a.rt) q hm (fun j p t d o=>?_) fun i e he o=>?_
   ·show w.ft.length=(w.eD.set _ _).length;rw[aU];exact hi.no
   ·have d:(w.eD.set g.to.toNat (c.take g.eU).2)[j]?=some p:=d;rw[a8 (fun e=>t e.symm)]at d;exact h.op j p d o
   have:=h.ev i e he o;show 0<=e.eI/\e.eI<((w.eD.set _ _).length:Int)/\_;rw[aU];exact this
  exact a
theorem Ex.px (h:Ex m w) (k:Int):Ex m (w.jP k).2:=by
 unfold eC.jP;split
 ·exact h
 exact h.kt fun x a=>bF a
theorem Ex.py (h:Ex m w) (k:Int):Ex m (w.jQ k).2:=by
 exact abw
theorem Ex.iB (h:Ex m w) (hm:m+1<=1000000000000) (a:List Int):Ex (m+1) (w.fu a).2:=by
 unfold eC.fu;split
 ·exact h.gx ab hm
 split
 ·exact h.gx ab hm
 have d:=step1 h hm
 have b:Ex (m+1) ({w with eN:=ib w.eN a,eD:=jj w.eD (ib w.eN a).tail}:eC).fA:=by
  refine h.of rfl rfl rfl (nB _ _) (fun j c e=>?_) h.dk h.rt ⟨by show 0<=wrap64 (w.step+1);omega,d.2⟩ hm;obtain⟨c0,e1,f⟩:=rM _ _ j c e;rcases f with rfl|⟨n,rfl⟩
  ·exact h.oW j c e1
  exact⟨h.as j c0 e1,c0,e1,rfl⟩
 simp only;split
 ·exact b
 rename_i s hs;exact Ex.ox (b.tK (Oi (h.dk s hs) _ _) _)
theorem Ex.oB (h:Ex m w) (a t:Int):Ex m (w.kf a t):=by
 refine h.of rfl rfl rfl rfl h.oW (fun s hs=>?_) h.rt h.st h.nn;have hs:w.ff.map (fun s=>{s with gy:=t})=some s:=hs;obtain⟨b,c,rfl⟩:=bS.1 hs;exact (h.dk b c).same rfl
theorem Ex.qO (h:Ex m w) (hm:m+1<=1000000000000):Ex (m+1) w.od:=
 (h.lZ hm).of rfl rfl rfl rfl h.oW (fun s hs=>by cases hs) h.rt (h.lZ hm).st hm
theorem Ex.lF (h:Ex m w) (hi:Inv b G w) (hm:m+1<=1000000000000):Ex (m+1) w.gK.2:=by
 unfold eC.gK;split
 ·exact h.gx ab hm
 exact (h.lZ hm).of rfl rfl rfl rfl h.oW (fun s hs=>EG (d:=w.fA.eP.cutAt (-1)) (fun r hr=>(hi.eG.high r hr).2) w.fA.eZ (w.fA.eN.getD 0 0) hs) h.rt (h.lZ hm).st hm
theorem Ex.pz (h:Ex m w) (hi:Inv b G w) (hm:m+1<=1000000000000) (k:Int):Ex (m+1) (w.jG k).2:=by
 unfold eC.jG;split
 ·exact h.gx ab hm
 rename_i q;split
 ·exact h.gx ab hm
 rename_i c hc;simp only[aV,bu,eC.right,aF,decide_eq_true_eq]at q;have r:=step1 h hm;(have n:k.toNat<w.fy.length:=by rw[hi.nl];omega);(have s:k.toNat<w.ft.length:=by rw[hi.no];omega);have t:=hi.fy k.toNat n
 have g:ma c:=by
  unfold eM.new at hc;split at hc
  ·rename_i o;simp only[aF,fR,decide_eq_true_eq]at o;obtain rfl:=aA hc;refine⟨aZ _,?_⟩;show (0:Int)<=wrap64 _*1048576;exact dF o.1.1.1.1.2.1 ab
  cases hc
 refine⟨h.dk,zf h.as g,h.rt,⟨by show 0<=wrap64 (w.step+1);omega,r.2⟩,hm,fun j p d a=>?_,fun i e he a=>?_⟩
 ·have d:(w.eD.set k.toNat c)[j]?=some p:=d;have a:0<=(w.ft.set k.toNat (-1)).getD j (-1):=a;rw[lN]at a;split at a
  ·omega
  rename_i l;have l:¬k.toNat=j:=fun e=>l ⟨e,s⟩;rw[a8 l]at d;exact h.op j p d a
 obtain⟨v1,v2,v4,v3⟩:=h.ev i e he a;refine⟨v1,by show e.eI<((w.eD.set _ _).length:Int);rw[aU];exact v2,?_⟩;show e.gv<=(w.fy.set k.toNat (wrap64 (w.fy.getD k.toNat 0+1))).getD e.eI.toNat 0/\(e.gv<(w.fy.set k.toNat (wrap64 (w.fy.getD k.toNat 0+1))).getD e.eI.toNat 0\/(w.ft.set k.toNat (-1)).getD e.eI.toNat (-1)=i);rw[lN,lN,jC ab ab];by_cases f:k.toNat=e.eI.toNat
 ·rw[if_pos ⟨f,n⟩];rw[<- f]at v4;exact⟨ab,.inl ab⟩
 rw[if_neg (fun h=>f h.1),if_neg (fun h=>f h.1)];exact⟨v4,v3⟩
end fS
namespace fS
open Go.RowKit fD eY fK fc
variable {b m:Int} {G:gd}
theorem Ex.ki:∀(f:Nat) {m:Int} {w:eC} (_:Ex m w) (_:Inv b G w) (_:Idx w) (_:m+f<=1000000000000),Ex (m+f) (eC.ia f w)
 |0,m,w,h,_,_,hm=>h.gx ab hm
 |f+1,m,w,h,hi,a,hm=>by
  unfold eC.ia;split
  ·exact h.gx ab hm
  have:=Ex.ki f (h.ku hi a ab 0) (oO hi 0) (a.ku 0) ab;have e:m+1+(f:Int)=m+((f+1:Nat):Int):=ab;rw[e]at this;exact this
variable {w:eC}
theorem Ex.p7 (h:Ex m w) (hi:Inv b G w) (a:Idx w) (hm:m+1000<=1000000000000):Ex (m+1000) w.gi:=h.ki 1000 hi a hm
theorem Ex.lA:∀(a:List Nat) {b m:Int} {w:eC} (_:Ex m w) (_:Inv b G w) (_:Idx w) (_:b+a.length<=1000000) (_:m+1001*a.length<=1000000000000),Ex (m+1001*a.length) (eC.iY a w)
 | [],_,m,_,h,_,_,_,hm=>h.gx ae hm
 |k::a,b,m,w,h,hi,c,hb,hm=>by
  simp only[aL]at hb hm;have d:=(h.jd hi ab ab k).p7 (nP hi ab k) (c.jd k) ab;have:=Ex.lA a d (pW 1000 (nP hi ab k)) (Idx.ki 1000 (c.jd k)) ab ab;(have e:m+1+1000+1001*(a.length:Int)=m+1001*((k::a).length:Int):=by simp only[aL];omega);rw[e]at this;exact this
theorem Ex.l7 (h:Ex m w) (hi:Inv b G w) (e:Idx w) (hb:b+4<=1000000) (hm:m+5006<=1000000000000):Ex (m+5006) w.round:=by
 have f:=h.lF hi ab;have a:=qL hi;have d:=e.lF;(have k:(w.gK.2.eD.length:Int)<=4:=by have:=a.gz;omega);have g:=Ex.lA (List.range w.gK.2.eD.length) f a d ah ah;have c:=rN (List.range w.gK.2.eD.length) a ah;have i:=Idx.lA (List.range w.gK.2.eD.length) d;have hlen:((List.range w.gK.2.eD.length).length:Int)<=4:=ah;have j:=(g.iB ab (List.replicate (eC.iY (List.range w.gK.2.eD.length) w.gK.2).eN.length 1)).p7 (pV c _) (i.iB _) ab;exact j.gx ab hm
theorem Ex.lO:∀(k:Nat) {b m:Int} {w:eC} (_:Ex m w) (_:Inv b G w) (_:Idx w) (_:b+4*k<=1000000) (_:m+5006*k<=1000000000000),Ex (m+5006*k) (eC.iz k w)
 |0,_,_,_,h,_,_,_,hm=>h.gx ab hm
 |k+1,b,m,w,h,hi,a,hb,hm=>by
  have:=Ex.lO k (h.l7 hi a ab ab) (vh hi ab) a.l7 ab ab;have e:m+5006+5006*(k:Int)=m+5006*((k+1:Nat):Int):=ab;rw[e]at this;exact this
theorem Ex.tL {y:jY} (h:Ex m y.r) (hi:Inv b G y.r) (d:Idx y.r) (hb:b<=900000) (hm:m+20024<=1000000000000) (x:Step):Ex (m+20024) (ie x y).r:=by
 unfold ie;by_cases c:x.fz=0
 ·rw[if_pos c];exact (h.l6 hi d ab ab _ _).gx ab hm
 rw[if_neg c];by_cases c:x.fz=1
 ·rw[if_pos c];exact (h.oP hi d ab ab _ _ _).gx ab hm
 rw[if_neg c];by_cases c:x.fz=2
 ·rw[if_pos c];exact (h.jd hi ab ab _).gx ab hm
 rw[if_neg c];by_cases c:x.fz=3
 ·rw[if_pos c];exact (h.ku hi d ab _).gx ab hm
 rw[if_neg c];by_cases c:x.fz=4
 ·rw[if_pos c];exact (h.px _).gx ab hm
 rw[if_neg c];by_cases c:x.fz=5
 ·rw[if_pos c];exact (h.py _).gx ab hm
 rw[if_neg c];by_cases c:x.fz=6
 ·rw[if_pos c];exact (h.iB ab _).gx ab hm
 rw[if_neg c];by_cases c:x.fz=7
 ·rw[if_pos c];exact (h.oB _ _).gx ab hm
 rw[if_neg c];by_cases c:x.fz=8
 ·rw[if_pos c];exact (h.qO ab).gx ab hm
 rw[if_neg c];by_cases c:x.fz=9
 ·rw[if_pos c];exact (h.lF hi ab).gx ab hm
 rw[if_neg c];by_cases c:x.fz=10
 ·rw[if_pos c];exact (h.pz hi ab _).gx ab hm
 rw[if_neg c];by_cases c:x.fz=11
 ·rw[if_pos c];have hp:=jK x.a 4 ab ab;have e:((pick x.a 4).toNat:Int)<=3:=ab;exact (h.lO (pick x.a 4).toNat hi d ab ab).gx ab hm
 rw[if_neg c];exact h.gx ab hm
theorem Om {t:fU} {n:Int} (h:(eC.new t n).2=some w):Ex 0 w:=by
 unfold eC.new at h;split at h
 ·cases h
 rename_i l;generalize hr:eA.new t ⟨[],false,0⟩ 0=r at h;obtain⟨e,d,o⟩:=r
 cases o with
 |none=>cases h
 |some s =>
  simp only at h
  cases QH:oc t 0 n.toNat with
  |none=>rw[QH]at h;cases h
  |some cs =>
   rw[QH]at h;simp only[bI]at h;obtain⟨m,b⟩:=pX n.toNat QH
   have f:∀(k:Nat) (c:eM),cs[k]?=some c->ma c:=fun k c hc=>by
    have:=b k c hc;unfold eM.new at this;split at this
    ·rw[<- aA this];exact⟨aZ _,by show (0:Int)<=0*1048576;omega⟩
    cases this
   rw[<- h];refine⟨fun j a=>?_,f,(fun g hg=>by cases hg),⟨aZ _,aZ _⟩,ab,fun k c _ h0=>?_,fun i e he=>?_⟩
   ·have a:some s=some j:=a;exact EG (d:=⟨[],false,0⟩) (fun r hr=>by cases hr) t 0 (by rw[hr];exact a)
   ·have h0:0<=(List.replicate n.toNat (-1:Int)).getD k (-1):=h0;rw[aC,bC]at h0;split at h0<;>simp at h0
   have he:([]:List iw)[i]?=some e:=he;simp at he
end fS
namespace fS
open Go.RowKit fD eY fK fc
def N3 (m:eL):Prop:=(0<=m.eK/\m.eK<=1099511627776)/\(0<=m.eF/\m.eF<=7)/\0<=m.fJ/\m.fJ<=1099511627776
variable {m:eL}
theorem qZ (a:1<=m.eO/\m.eO<=9) (hd:m.data.length<=20) (b:N3 m) (hc:0<=m.eI/\m.eI<=3) (he:0<=m.eS/\m.eS<=200) (hs:0<=m.fx/\m.fx<=200):m.right=true:=by
 obtain⟨n1,c,n3⟩:=b;unfold eL.right eL.iG jm;simp only[aF,decide_eq_true_eq,List.all_cons,List.all_nil];refine⟨⟨⟨a.1,a.2⟩,hd⟩,ab,ab,ab,ab,ab,ab,ab,trivial⟩
theorem vZ (h:m.right=true) (a:fN m.eF=true):N3 m:=by
 have:=rf h;obtain⟨b,c,d⟩:=jA a;refine⟨this m.eK (by simp[eL.iG]),ab,this m.fJ (by simp[eL.iG])⟩
variable {s:eA}
theorem N3.fG (h:N3 m):N3 (s.fG m):=h
variable {G:gd} {d:fe} {o:Nat}
theorem zg (h:gF G d.eG s) (a:iW G d.eG) (b:o<8):0<=(s.value o).fq/\(s.value o).fq<=200:=by
 rw[h.value o b];have:=rJ d.eG o;have:=a.len;unfold iP;simp only;omega
theorem EK (h:gF G d.eG s) (a:iW G d.eG) (b:o<8) (c:Int):N3 (s.ig c o):=by
 have:=zg h a b;refine⟨⟨aZ _,by show (0:Int)<=_;omega⟩,⟨by show (0:Int)<=(o:Int);omega,by show (o:Int)<=7;omega⟩,?_⟩;show 0<=wrap64 ((s.value o).fq+1)/\wrap64 ((s.value o).fq+1)<=1099511627776;rw[jC ab ab];omega
theorem EL (s:eA) (c:Int):N3 (s.lp c):=⟨⟨aZ _,by show (0:Int)<=_;omega⟩,⟨aZ _,by show (0:Int)<=_;omega⟩,aZ _,by show (0:Int)<=_;omega⟩
theorem On (h:gF G d.eG s) (a:iW G d.eG) (hu:jR G) (b:o<8) {x:Wr} (c:(x.eI,x.eK,(o:Int),x.data)∈G) (rest:List Wr) {out:List eL} (f:∀m∈out,N3 m):∀m∈(s.store d o x rest out).2.1,N3 m:=by
 have hv:=zg h a b;obtain⟨-,g2,-,-⟩:=hu.small _ _ _ _ c;have e:wrap64 ((s.value o).fq+1)=(s.value o).fq+1:=jC ab ab;unfold eA.store;simp only;generalize d.add s.eX ⟨x.eI,x.eK,o,wrap64 ((s.value o).fq+1),x.data,0⟩=p;split
 ·intro m hm;cases hm
 intro m hm;rcases aN.1 hm with hm|hm
 ·exact f m hm
 rw[aD.1 hm];unfold eA.answer;split
 ·exact⟨⟨by show 0<=x.eK;omega,by show x.eK<=_;omega⟩,⟨by show (0:Int)<=(o:Int);omega,by show (o:Int)<=7;omega⟩,by show 0<=wrap64 ((s.value o).fq+1);omega,by show wrap64 ((s.value o).fq+1)<=_;omega⟩
 exact⟨⟨by show 0<=x.eK;omega,by show x.eK<=_;omega⟩,⟨by show (0:Int)<=(o:Int);omega,by show (o:Int)<=7;omega⟩,aZ _,by show (0:Int)<=_;omega⟩
theorem EM (hu:jR G) (a:o<8):∀(f:Nat) {d:fe} {s:eA} (_:gF G d.eG s) (_:iW G d.eG) {out:List eL} (_:∀m∈out,im G d.eG m) (_:∀m∈out,N3 m),∀m∈(eA.iu f d s o out).1,N3 m
 |0,_,_,_,_,_,_,h=>h
 |f+1,d,s,h,g,out,hm,b=>by
  unfold eA.iu
  cases hx:s.eQ o with
  |nil=>exact b
  |cons x rest =>
   simp only;split
   ·exact b
   have j:=va h g a hx hm;have e:=h.eQ o a;rw[hx]at e
   have i:∀m∈(s.iE d o x rest out).2.1,N3 m:=by
    have k:∀m∈(if x.gw then out else out++(s.eW.ga o s.eB).map fun c=>s.ig c o),N3 m:=by
     split
     ·exact b
     intro m hm;rcases aN.1 hm with hm|hm
     ·exact b m hm
     obtain⟨c,-,rfl⟩:=aW.1 hm;exact EK h g a c
    unfold eA.iE;simp only;split
    ·exact k
    refine On (gF.mF (gF.pr h a fun y hy=>?_) _) g hu a (e x aK) rest k;rcases aH.1 hy with rfl|hy
    ·exact e x aK
    exact e y (aI _ hy)
   generalize s.iE d o x rest out=r at j i⊢;obtain⟨g1,g2,g3,g4⟩:=j;split
   ·exact EM hu a f g3 g2 g4 i
   exact i
theorem zh (hu:jR G) (a:o<8) (h:gF G d.eG s) (b:iW G d.eG):∀m∈(eA.fu d s o).1,N3 m:=EM hu a _ h b (out:=[]) (fun m hm=>by cases hm) (fun m hm=>by cases hm)
theorem EN (hu:jR G):∀(a:List Nat) {d:fe} {s:eA} (_:∀k∈a,k<8) (_:gF G d.eG s) (_:iW G d.eG) {out:List eL} (_:∀m∈out,N3 m),∀m∈(eA.gY a d s out).1,N3 m
 | [],_,_,_,_,_,_,h=>h
 |k::a,d,s,b,h,c,out,f=>by
  unfold eA.gY;simp only;have e:=b k aK;obtain⟨-,g2,g3,-⟩:=qK e h c;have g5:=zh hu e h c;refine EN hu a (fun j g=>b j (aI _ g)) g3 g2 fun m hm=>?_;rcases aN.1 hm with hm|hm
  ·exact f m hm
  exact g5 m hm
theorem Oo (hu:jR G) (h:gF G d.eG s) (a:iW G d.eG) (eB:Int):∀m∈(eA.tick d s eB).1,N3 m:=by
 unfold eA.tick;split
 ·intro m hm;cases hm
 exact EN hu (List.range 8) (s:=s.at_ eB) (fun k b=>bP.1 b) (h.lg eB) a (out:=[]) (fun m hm=>by cases hm)
theorem EO (hu:jR G) (h:gF G d.eG s) (c:iW G d.eG) (l:DK s) (eB:Int) (hm:im G d.eG m) (f:m.right=true):∀x∈(eA.take d s eB m).1,N3 x:=by
 have b:=h.lg eB;have j:DK (s.at_ eB):=l.same rfl;have hv:=mV d s eB m;generalize eA.take d s eB m=r at hv⊢;generalize s.at_ eB=z at hv b j;have one:∀ {y:eL},N3 y->∀x∈[y],N3 x:=fun hy x hx=>by rw[aD.1 hx];exact hy
 have a:fN m.eF=true->N3 (pU z m):=fun ho=>by
  have g:=vZ f ho;have:=zg b c (jA ho).2.1;exact⟨g.1,g.2.1,by show 0<=(z.value m.eF.toNat).fq;omega,by show (z.value m.eF.toNat).fq<=_;omega⟩
 cases hv with
 |off|idle=>intro x hx;cases hx
 |done x _ _ ho _ hx B =>
  refine one ?_;have g:=(vZ f ho).1;obtain⟨n,o⟩:=b.done _ _ hx;obtain⟨p,C,D⟩:=jA (j _ _ hx).2;refine⟨⟨by show 0<=x.eK;omega,by show x.eK<=_;omega⟩,⟨p,by show x.eF<=7;omega⟩,?_⟩;show 0<=x.fJ/\x.fJ<=1099511627776;rcases o.done n with e|⟨r,q,t,-,-,E⟩
  ·omega
  have:=(c.rO.known q t);have hle:=this.le;have F:=rJ d.eG r.eF;have H:=c.len;(have u:0<=r.fJ:=by rcases this with⟨e,-⟩|⟨e,-⟩<;>omega);omega
 |read _ _ ho|gE _ _ ho=>exact one (a ho)
 |flush1 _ _ ho =>
  intro x hx;rcases aH.1 hx with rfl|hx
  ·exact a ho
  rw[aD.1 hx];exact EL _ _
 |flush3=>exact one (EL _ _)
 |wait =>
  intro x hx;obtain⟨k,v,rfl⟩:=aW.1 hx;exact EK b c (bP.1 (bL.1 v).1) _
 |fT _ _ ho=>exact one ⟨(vZ f ho).1,⟨aZ _,by show (0:Int)<=_;omega⟩,aZ _,by show (0:Int)<=_;omega⟩
 |enq _ _ ho w =>
  obtain⟨-,i,A⟩:=jA ho;refine zh hu i (b.pr i fun y hy=>?_) c;rcases aN.1 hy with hy|hy
  ·exact b.eQ _ i y hy
  rw[aD.1 hy,A];exact hm.write w
 |ack _ _ ho=>exact zh hu (jA ho).2.1 (b.mF _) c
theorem EP:∀(a:List Nat) {d:fe} {s:eA} (_:∀k∈a,k<8) (_:s.fi.length=8) (_:Pow d) (_:d.eG.length<=200) (_:s.eX=false) (out:List eL),(eA.gY a d s out).2.2.eX=false/\Pow (eA.gY a d s out).2.1
 | [],_,_,_,_,hp,_,hd,_=>⟨hd,hp⟩
 |k::a,d,s,b,h8,hp,c,hd,out=>by
  unfold eA.gY;simp only;obtain⟨g1,g2,g3,g4⟩:=yz (b k aK) ((s.eQ k).length+1) h8 hp c hd [];exact EP a (fun j e=>b j (aI _ e)) g4 g2 g3 g1 _
theorem ER (h8:s.fi.length=8) (hp:Pow d) (a:d.eG.length<=200) (hd:s.eX=false) (eB:Int):(eA.tick d s eB).2.2.eX=false/\Pow (eA.tick d s eB).2.1:=by
 unfold eA.tick;rw[if_neg (by rw[hd];decide)];exact EP (List.range 8) (s:=s.at_ eB) (fun k b=>bP.1 b) h8 hp a hd []
theorem ES {s:eA} (h8:s.fi.length=8) (hp:Pow d) (e:d.eG.length<=200) (hd:s.eX=false) (eB:Int) (m:eL):(eA.take d s eB m).2.2.eX=false/\Pow (eA.take d s eB m).2.1:=by
 have b:(s.at_ eB).fi.length=8:=h8;have a:(s.at_ eB).eX=false:=hd;have hv:=mV d s eB m;generalize eA.take d s eB m=r at hv⊢;generalize s.at_ eB=z at hv b a
 cases hv with
 |off=>exact⟨hd,hp⟩
 |enq _ _ c =>
  have:=tr (s:=kW z m) (jA c).2.1 (by simpa[kW]using b) hp e a;exact⟨this.1,this.2.1⟩
 |ack _ _ c =>
  have:=tr (s:=pq z m) (jA c).2.1 b hp e a;exact⟨this.1,this.2.1⟩
 |_=>exact⟨a,hp⟩
end fS
namespace fS
open Go.RowKit fD eY fK fc
def cg (t:Bool) (m:eL):fY:=⟨if t then m.eI else -1,m⟩
theorem sj:∀(l:List eL) (n:Net) (t:Bool) (_:∀m∈l,m.right=true) (_:n.l.length+l.length<=200),(gV n t l).l=n.l++l.map (cg t)
 | [],_,_,_,_=>by simp[gV]
 |x::l,n,t,h,a=>by
  simp only[aL]at a;unfold gV;rw[if_pos (h x aK)]
  have e:(n.send ⟨if t then x.eI else -1,x⟩).l=n.l++[cg t x]:=by
   rw[nD,if_neg ab];rfl
  rw[sj l _ t (fun m hm=>h m (aI _ hm)) (by rw[e];simp;omega),e];simp
structure Z (V n b m:Int) (G:gd) (w:eC) (s:eA):Prop where
 inv:Inv b G w
 nb:NB w
 ps:PS w
 pi:Pi w<=195
 kn:Kn V n w
 iT:Tos w
 idx:Idx w
 ex:Ex m w
 up:w.ff=some s
 pow:Pow w.eP
 cn:Cn w<=200
structure DS (w:eC) (s:eA) (g:fY) (rest:List fY) (w':eC) (s':eA):Prop where
 to:g.to<0
 eH:w'.eH.l=rest++(eA.take w.eP s (w.eN.getD 0 0) g.eU).1.map (cg true)
 eP:w'.eP=(eA.take w.eP s (w.eN.getD 0 0) g.eU).2.1
 fj:s'=(eA.take w.eP s (w.eN.getD 0 0) g.eU).2.2
 eD:w'.eD=w.eD
 eN:w'.eN=w.eN
 ev:w'.fg=w.fg/\w'.ft=w.ft
structure DC (w:eC) (g:fY) (rest:List fY) (w':eC) (k:Nat) (c:eM):Prop where
 to:g.to=k
 cl:g.eU.eI=k
 hc:w.eD[k]?=some c
 eH:w'.eH.l=rest++(c.take g.eU).1.map (cg false)
 eD:w'.eD=w.eD.set k (c.take g.eU).2
 ff:w'.ff=w.ff
 eP:w'.eP=w.eP
 eN:w'.eN=w.eN
 ev:∃x:eC,w'=x.gG k/\x.fg=w.fg/\x.ft=w.ft/\x.eD=w.eD.set k (c.take g.eU).2/\1<=x.step
variable {w:eC} {n V b m:Int}
theorem zi {c e:Int} (h:qk w c e n) (he:Ep w<=200):(0<=e/\e<=200)/\0<=n/\n<=200:=by
 obtain⟨b,d,f,a⟩:=h;refine⟨⟨b,?_⟩,d,f⟩;rcases a with a|⟨a,-⟩<;>omega
variable {G:gd} {s:eA}
theorem Z.ep (h:Z V n b m G w s):1<=Ep w/\Ep w<=200:=by
 have a:=h.kn.ep;have c:=h.inv.eG.len;omega
theorem Oq (h:Z V n b m G w s) {k:Nat} {c:eM} (hc:w.eD[k]?=some c) {x:eL} (e:x.right=true):∀y∈(c.take x).1,y.right=true:=by
 intro y hy;unfold eM.take at hy;split at hy
 ·cases hy
 rename_i a;simp only[bz,aV,not_or,bu]at a;have d:=vZ e a.2;simp only at hy;split at hy
 ·cases hy
 split at hy
 ·split at hy<;>cases hy
 split at hy
 ·split at hy<;>cases hy
 split at hy
 ·split at hy<;>cases hy
 split at hy
 ·split at hy
  ·rw[aD.1 hy];have f:=(az.1 hc).1;have g:=h.inv.gz;have hid:=(h.inv.eD k c hc).id;obtain⟨s1,s2⟩:=zi (h.kn.ci k c hc).fG h.ep.2;exact qZ (by show 1<=(4:Int)/\(4:Int)<=9;omega) (by show 0<=20;omega) ⟨⟨aZ _,by show (0:Int)<=_;omega⟩,d.2.1,d.2.2⟩ (by show 0<=c.id/\c.id<=3;omega) s1 s2
  cases hy
 cases hy
variable {g:fY}
theorem Z.Ot (h:Z V n b m G w s) (e:g∈w.eH.l):(∀x∈(eA.take w.eP s (w.eN.getD 0 0) g.eU).1,x.right=true)/\(eA.take w.eP s (w.eN.getD 0 0) g.eU).2.2.eX=false/\Pow (eA.take w.eP s (w.eN.getD 0 0) g.eU).2.1:=by
 have a:=h.inv.ff s h.up;have j:=h.nb.sb s h.up;have RL:=h.kn.si s h.up;have o:=h.ps.up s h.up;have hm:=h.inv.eH g e;have q:=h.ex.rt g e;have r:=h.ex.dk s h.up;have f:=qi h.inv;have t:=h.pi;(have u:w.eP.eG.length+fP s<=198:=by unfold iq at f;rw[h.up]at f;simp only at f;omega);have y:=sd h.kn;(have v:0<=s.eB/\s.eB<=half:=by rw[RL.eB];have:=h.kn.small;unfold half;omega);have hV:=h.kn.hV;(have i:s.eZ.fa=V:=by rw[RL.eZ];exact h.kn.vt);obtain⟨p1,p2⟩:=ES j.h8 h.pow h.inv.eG.len o (w.eN.getD 0 0) g.eU;obtain⟨v1,v2⟩:=Eg (V:=V) h.inv.uniq a h.inv.eG j RL.gU o u (fun c hc=>(RL.fT c hc).1) i ab v (w.eN.getD 0 0) hm p1;have Vn:=tz (d:=w.eP) (fun k x hx=>(a.done k x hx).1) (w.eN.getD 0 0) g.eU;have QR:=vb a h.inv.eG (w.eN.getD 0 0) hm;have hn3:=EO h.inv.uniq a h.inv.eG r (w.eN.getD 0 0) hm q;have PI:=Cu (h.iT.ff s h.up) h.iT.eG (w.eN.getD 0 0) (h.iT.eH g e).1;exact aa7
theorem Z.kt (h:Z V n b m G w s):w.eH.l.length<=iU cw w.eH.l/\iU cw w.eH.l+fP s<=200:=by
 have a:=h.cn;unfold Cn iq at a;rw[h.up]at a;exact⟨vK qT _,a⟩
def less (w:eC) (rest:List fY):eC:=eC.fA {w with eH:={w.eH with l:=rest} }
theorem Z.ku (h:Z V n b m G w s) (hm:m+1<=1000000000000) {rest:List fY} (f:w.eH.l=g::rest) :
 (∃i,Z V n b (m+1) G (w.gS 0).2 i/\DS w s g rest (w.gS 0).2 i)\/(∃k c,Z V n b (m+1) G (w.gS 0).2 s/\DC w g rest (w.gS 0).2 k c):=by
 (have o:g∈w.eH.l:=by rw[f];exact aK);have q:=vW h.inv h.nb h.ps h.pi 0;have D:=yC h.inv h.nb 0
 have v:∀i,(w.gS 0).2.ff=some i->Pow (w.gS 0).2.eP->Z V n b (m+1) G (w.gS 0).2 i:=fun i e p =>
  ⟨oO h.inv 0,q.nb,q.ps,by have:=q.pi;have:=h.pi;omega,h.kn.ku h.inv h.nb h.ps h.pi 0,h.iT.ku 0,h.idx.ku 0,h.ex.ku h.inv h.idx hm 0,e,p,by have:=D.2.1;have:=h.cn;omega⟩
 obtain⟨n1,E⟩:=h.kt;rw[f,tw]at E;have n3:=vK qT rest;obtain⟨t1,t2⟩:=h.iT.eH g o;have t3:=h.inv.gz;unfold Cl at t1;by_cases j:g.to<0
 ·left
  have e0:(w.gS 0).2=(eC.gf {less w rest with eP:=(eA.take w.eP s (w.eN.getD 0 0) g.eU).2.1,ff:=some (eA.take w.eP s (w.eN.getD 0 0) g.eU).2.2} true (eA.take w.eP s (w.eN.getD 0 0) g.eU).1).iy:=by
   unfold eC.gS;rw[if_neg (by rw[f];simp)];simp only[f,Int.toNat_zero,aM,List.eraseIdx_zero,List.tail_cons];rw[if_pos j];simp only[eC.fA,h.up];rfl
  obtain⟨y,z,A⟩:=h.Ot o;have F:=DU (d:=w.eP) (h.nb.sb s h.up) (fun k x hx=>((h.inv.ff s h.up).done k x hx).1) (w.eN.getD 0 0) g.eU;generalize hr:eA.take w.eP s (w.eN.getD 0 0) g.eU=r at e0 y z A F
  have t:(eC.gf {less w rest with eP:=r.2.1,ff:=some r.2.2} true r.1).iy=eC.gf {less w rest with eP:=r.2.1,ff:=some r.2.2} true r.1:=by
   unfold eC.iy eC.gf;simp only;rw[if_neg (by rw[z];decide)]
  rw[t]at e0;have u:(gV {w.eH with l:=rest} true r.1).l=rest++r.1.map (cg true):=sj _ _ _ y (by show rest.length+_<=200;omega);exact⟨r.2.2,v _ (by rw[e0];rfl) (by rw[e0];exact A),j,by rw[e0,hr];exact u,by rw[e0,hr];rfl,by rw[hr],by rw[e0];rfl,by rw[e0];rfl,by rw[e0];exact⟨rfl,rfl⟩⟩
 right;have t2:=t2.resolve_left j;have H:g.to.toNat<w.eD.length:=ab;have hc:=ay H
 have e0:(w.gS 0).2=(eC.gf {less w rest with eD:=w.eD.set g.to.toNat ((w.eD[g.to.toNat]).take g.eU).2} false ((w.eD[g.to.toNat]).take g.eU).1).gG g.to.toNat:=by
  unfold eC.gS;rw[if_neg (by rw[f];simp)];simp only[f,Int.toNat_zero,aM,List.eraseIdx_zero,List.tail_cons];rw[if_neg j];simp only[eC.fA,hc];rfl
 obtain⟨I,B,C,J⟩:=qf (eC.gf {less w rest with eD:=w.eD.set g.to.toNat ((w.eD[g.to.toNat]).take g.eU).2} false ((w.eD[g.to.toNat]).take g.eU).1) g.to.toNat;have K:=yh (eC.gf {less w rest with eD:=w.eD.set g.to.toNat ((w.eD[g.to.toNat]).take g.eU).2} false ((w.eD[g.to.toNat]).take g.eU).1) g.to.toNat;have L:=Oq h hc (h.ex.rt g o)
 have hlen:((w.eD[g.to.toNat]).take g.eU).1.length<=1:=by
  rcases qd (w.eD[g.to.toNat]) g.eU with e|⟨-,a,e,-⟩<;>rw[e]<;>simp
 have M:=qT g.eU;have u:(gV {w.eH with l:=rest} false ((w.eD[g.to.toNat]).take g.eU).1).l=rest++((w.eD[g.to.toNat]).take g.eU).1.map (cg false):=sj _ _ _ L (by show rest.length+_<=200;omega);exact⟨g.to.toNat,w.eD[g.to.toNat],v s (by rw[e0,B];exact h.up) (by rw[e0,C];exact h.pow),ab,ab,hc,by rw[e0,I];exact u,by rw[e0,J];rfl,by rw[e0,B];rfl,by rw[e0,C];rfl,by rw[e0,K];rfl,_,e0,rfl,rfl,rfl,(step1 h.ex hm).1⟩
def lR (V n b:Int) (G:gd) (P:eC->eA->Prop):Prop:=
 ∀(m:Int) (w:eC) (s:eA) (g:fY) (rest:List fY) (w':eC),Z V n b m G w s->w.eH.l=g::rest->P w s ->
  (∀a,Z V n b (m+1) G w' a->DS w s g rest w' a->P w' a)/\(∀k c,Z V n b (m+1) G w' s->DC w g rest w' k c->P w' s)
theorem lR.ki {P:eC->eA->Prop} (a:lR V n b G P):∀(f:Nat) {m:Int} {w:eC} {s:eA} (_:Z V n b m G w s) (_:P w s) (_:m+f<=1000000000000),∃i,Z V n b (m+f) G (eC.ia f w) i/\P (eC.ia f w) i
 |0,m,_,s,h,hp,hm=>⟨s,⟨h.inv,h.nb,h.ps,h.pi,h.kn,h.iT,h.idx,h.ex.gx ab hm,h.up,h.pow,h.cn⟩,hp⟩
 |f+1,m,w,s,h,hp,hm=>by
  unfold eC.ia;have e:m+1+(f:Int)=m+((f+1:Nat):Int):=ab
  cases hl:w.eH.l with
  |nil=>exact⟨s,⟨h.inv,h.nb,h.ps,h.pi,h.kn,h.iT,h.idx,h.ex.gx ab hm,h.up,h.pow,h.cn⟩,hp⟩
  |cons g rest =>
   rw[if_neg ae];rcases h.ku ab hl with⟨i,z,d⟩|⟨k,c,z,d⟩
   ·have:=a.ki f z ((a m w s g rest _ h hl hp).1 i z d) ab;rw[e]at this;exact this
   have:=a.ki f z ((a m w s g rest _ h hl hp).2 k c z d) ab;rw[e]at this;exact this
end fS
namespace fS
open Go.RowKit fD eY fK fc
structure AG (w w':eC) (k:Nat) (c:eM):Prop where
 hc:w.eD[k]?=some c
 eH:w'.eH.l=w.eH.l++c.fh.1.map (cg false)
 eD:w'.eD=w.eD.set k c.fh.2
 ff:w'.ff=w.ff
 eP:w'.eP=w.eP
 eN:w'.eN=w.eN
 ev:w'.fg=w.fg/\w'.ft=w.ft
structure GO (w:eC) (s:eA) (w':eC) (s':eA):Prop where
 eH:w'.eH.l=w.eH.l++(eA.tick w.eP s (w.eN.getD 0 0+1)).1.map (cg true)
 eP:w'.eP=(eA.tick w.eP s (w.eN.getD 0 0+1)).2.1
 fj:s'=(eA.tick w.eP s (w.eN.getD 0 0+1)).2.2
 len:w'.eD.length=w.eD.length
 eD:∀(k:Nat) (c':eM),w'.eD[k]?=some c'->∃c,w.eD[k]?=some c/\c'={c with eB:=c.eB+1}
 eN:w'.eN=w.eN.map (·+1)
 ev:w'.fg=w.fg/\w'.ft=w.ft
variable {V n b m:Int} {G:gd} {w:eC} {s:eA} {k st:Nat} {c:eM}
theorem Ou (h:Z V n b m G w s) (hb:b<1000000) (hc:w.eD[k]?=some c):∀y∈c.fh.1,y.right=true:=by
 have i:=(az.1 hc).1;have j:=h.inv.gz;have hi:=h.inv.eD k c hc;have hid:=hi.id;obtain⟨s1,s2⟩:=zi (h.kn.ci k c hc).fG h.ep.2;obtain⟨u1,u2⟩:=sf h.inv hb hc
 have a:∀y∈c.asks,y.right=true:=fun y hy=>by
  rcases nY c with⟨-,e⟩|⟨e1,e⟩
  ·rw[e]at hy;cases hy
  rw[e]at hy;rw[aD.1 hy];obtain⟨l,d⟩:=hi.kinds e1;obtain⟨o1,o,p⟩:=jA d;have f:=h.ex.as k c hc;unfold ma at f;refine qZ (by show 1<=c.call.eO/\c.call.eO<=9;omega) ?_ ⟨⟨by show 0<=c.fE;omega,by show c.fE<=_;omega⟩,⟨o1,by show c.call.eF<=7;omega⟩,aZ _,by show (0:Int)<=_;omega⟩ (by show 0<=c.id/\c.id<=3;omega) s1 s2
  show (if c.call.eO=2 then c.call.value.data else []).length<=20
  split
  ·rename_i g;exact hi.short g
  simp
 intro y hy;rcases kO c with⟨-,e,-⟩|⟨-,e⟩
 ·rw[e]at hy;rcases aH.1 hy with rfl|hy
  ·have hw:wrap64 (c.eK+1)=c.eK+1:=jC ab ab;exact qZ (by show 1<=(3:Int)/\(3:Int)<=9;omega) (by show 0<=20;omega) ⟨⟨by show 0<=wrap64 (c.eK+1);omega,by show wrap64 (c.eK+1)<=_;omega⟩,⟨aZ _,by show (0:Int)<=_;omega⟩,aZ _,by show (0:Int)<=_;omega⟩ (by show 0<=c.id/\c.id<=3;omega) s1 s2
  exact a y hy
 rw[e]at hy;exact a y hy
theorem tM (f:eL->Nat) (t:Bool) (l:List eL):iU f (l.map (cg t))=(l.map f).sum:=by
 unfold iU;rw[List.map_map];rfl
theorem Z.jd (h:Z V n b m G w s) (hb:b<1000000) (hm:m+1<=1000000000000) (f:Cn w<=187) (g:Pi w<=193) (hc:w.eD[k]?=some c):Z V n (b+1) (m+1) G (w.fh k).2 s/\AG w (w.fh k).2 k c/\Wn (w.fh k).2<=Wn w+27/\Cn (w.fh k).2<=Cn w+13:=by
 have r:=(az.1 hc).1;have i:=Ou h hb hc;have a:=tD h.inv h.nb h.ps k;have d:=fun TF=>((h.inv.eD k c hc).kinds TF).1;obtain⟨j,o⟩:=tC c d
 have hlen:c.fh.1.length<=13:=by
  have:=vK qT (c.fh.1.map (cg false));rw[tM,aX]at this;omega
 obtain⟨n1,t⟩:=h.kt;have p:Cn w=iU cw w.eH.l+fP s:=by unfold Cn iq;rw[h.up]
 have e0:(w.fh k).2=eC.gf (eC.fA {w with eD:=w.eD.set k c.fh.2}) false c.fh.1:=by
  unfold eC.fh;rw[if_neg (by unfold eC.right;simp;omega)];simp only[bo,hc]
 have e:(w.fh k).2.eH.l=w.eH.l++c.fh.1.map (cg false):=by
  rw[e0];exact sj _ _ _ i (by show w.eH.l.length+_<=200;omega)
 have q:Cn (w.fh k).2<=Cn w+13:=by
  (have:iq (w.fh k).2=fP s:=by unfold iq;rw[e0];simp only[eC.gf,eC.fA,h.up]);unfold Cn at p⊢;rw[this,e,oV,tM];omega
 refine⟨⟨nP h.inv hb k,a.nb,a.ps,by have:=a.pi;omega,h.kn.jd h.inv k,h.iT.jd k,h.idx.jd k,h.ex.jd h.inv hb hm k,by rw[e0];exact h.up,by rw[e0];exact h.pow,ab⟩,⟨hc,e,by rw[e0];rfl,by rw[e0];rfl,by rw[e0];rfl,by rw[e0];rfl,by rw[e0];exact⟨rfl,rfl⟩⟩,a.wn,q⟩
theorem Ov (cs:List Int) (n:Int) (b:n+1<=1000000) (h:∀c∈cs,0<=c/\c<=n):ib cs (List.replicate cs.length 1)=cs.map (·+1):=by
 induction cs with
 |nil=>rfl
 |cons c cs ih =>
  simp only[aL,dY,ib,aY];rw[ih fun x a=>h x (aI _ a)];have:=h c aK;congr 1;unfold half;omega
theorem Z.Ow (h:Z V n b m G w s) (eB:Int):(∀x∈(eA.tick w.eP s eB).1,x.right=true)/\(eA.tick w.eP s eB).2.2.eX=false/\Pow (eA.tick w.eP s eB).2.1:=by
 have a:=h.inv.ff s h.up;have e:=h.nb.sb s h.up;have RL:=h.kn.si s h.up;have f:=h.ps.up s h.up;have d:=qi h.inv;have g:=h.pi;(have i:w.eP.eG.length+fP s<=199:=by unfold iq at d;rw[h.up]at d;simp only at d;omega);obtain⟨p1,p2⟩:=ER e.h8 h.pow h.inv.eG.len f eB;obtain⟨v1,v2⟩:=Ee (V:=V) h.inv.uniq a h.inv.eG (h.ps.sq s h.up) e RL.gU f i (fun c hc=>(RL.fT c hc).1) eB p1;have Vn:=tA w.eP s eB;have QR:=vc a h.inv.eG eB;have hn3:=Oo h.inv.uniq a h.inv.eG eB;have PI:=Cw (h.iT.ff s h.up) h.iT.eG eB;exact aa7
theorem Z.iB (h:Z V n b m G w s) (hm:m+1<=1000000000000) (j:n+1<=1000000):∃o,Z V (n+1) b (m+1) G (w.fu (List.replicate w.eN.length 1)).2 o/\GO w s (w.fu (List.replicate w.eN.length 1)).2 o/\Wn (w.fu (List.replicate w.eN.length 1)).2<=Wn w/\Cn (w.fu (List.replicate w.eN.length 1)).2<=Cn w:=by
 have g:=tG h.inv h.nb h.ps h.pi (List.replicate w.eN.length 1);have z:=h.kn.iB h.inv h.nb h.ps h.pi (List.replicate w.eN.length 1) (m:=1) (fun x hx=>by rw[bT hx];omega) ab j;have c:=Ov w.eN n j h.kn.ik;have p:=h.kn.lens
 have A:(ib w.eN (List.replicate w.eN.length 1)).getD 0 0=w.eN.getD 0 0+1:=by
  rw[c]
  cases hq:w.eN with
  |nil=>rw[hq]at p;simp at p
  |cons a l=>rfl
 have B:=DR (d:=w.eP) (h.nb.sb s h.up) (w.eN.getD 0 0+1);have q:=tA w.eP s (w.eN.getD 0 0+1);obtain⟨t,u,v⟩:=h.Ow (w.eN.getD 0 0+1);obtain⟨n1,D⟩:=h.kt;(have C:Cn w=iU cw w.eH.l+fP s:=by unfold Cn iq;rw[h.up]);have E:=h.kn.small
 have e0:(w.fu (List.replicate w.eN.length 1)).2=eC.iy (eC.gf {eC.fA {w with eN:=w.eN.map (·+1),eD:=jj w.eD (w.eN.map (·+1)).tail}with eP:=(eA.tick w.eP s (w.eN.getD 0 0+1)).2.1,ff:=some (eA.tick w.eP s (w.eN.getD 0 0+1)).2.2} true (eA.tick w.eP s (w.eN.getD 0 0+1)).1):=by
  unfold eC.fu
  rw[if_neg ae,if_neg (by
   simp only[bW,not_exists,not_and];intro x hx;rw[bT hx]
   decide)]
  simp only[A,eC.fA,h.up];rw[c]
 generalize hr:eA.tick w.eP s (w.eN.getD 0 0+1)=r at e0 t u v B q
 have i:∀x:eC,x.ff=some r.2.2->x.iy=x:=fun x hx=>by
  unfold eC.iy;rw[hx];simp only;rw[if_neg (by rw[u];decide)]
 rw[i _ ai]at e0
 have y:(w.fu (List.replicate w.eN.length 1)).2.eH.l=w.eH.l++r.1.map (cg true):=by
  rw[e0];exact sj _ _ _ t (by show w.eH.l.length+_<=200;omega)
 have e:(w.fu (List.replicate w.eN.length 1)).2.ff=some r.2.2:=by rw[e0];rfl
 have hq:Cn (w.fu (List.replicate w.eN.length 1)).2<=Cn w:=by
  (have:iq (w.fu (List.replicate w.eN.length 1)).2=fP r.2.2:=by unfold iq;rw[e]);rw[C];unfold Cn;rw[this,y,oV,tM,DV q];omega
 refine⟨r.2.2,⟨pV h.inv _,g.nb,g.ps,by have:=g.pi;have:=h.pi;omega,z,h.iT.iB _,h.idx.iB _,h.ex.iB hm _,e,by rw[e0];exact v,by have:=h.cn;omega⟩,⟨by rw[hr];exact y,by rw[hr,e0];rfl,by rw[hr],by rw[e0];exact nB _ _,fun k c' f=>?_,by rw[e0];rfl,by rw[e0];exact⟨rfl,rfl⟩⟩,g.wn,hq⟩;rw[e0]at f;have f:(jj w.eD (w.eN.map (·+1)).tail)[k]?=some c':=f;(have F:k<w.eD.length:=by have:=(az.1 f).1;rw[nB]at this;exact this);obtain⟨c0,c1,c2⟩:=yY _ _ _ _ f ah;refine⟨c0,c1,?_⟩;have a:=(h.kn.ci k c0 c1).eB
 have et:(w.eN.map (·+1)).tail.getD k 0=w.eN.getD (k+1) 0+1:=by
  rw[aC,List.getElem?_tail,br,ay ab,aC,ay ab];rfl
 rw[et,<- a]at c2;have b:=h.kn.pH c1;rw[c2];unfold eM.at_;(have:max c0.eB (min (c0.eB+1) half)=c0.eB+1:=by unfold half;omega);rw[this]
structure Dr (V n b m:Int) (st:Nat) (G:gd) (w:eC) (s:eA):Prop where
 hs:st<=62
 all:∃U,jy V w st U n
 fits:Fits b G w
 ex:Ex m w
 up:w.ff=some s
 pow:Pow w.eP
 wn:Wn w<=107
 cn:Cn w<=93
theorem Dr.z (h:Dr V n b m st G w s):Z V n b m G w s/\Pi w<=189:=by
 obtain⟨U,a⟩:=h.all;have hp:=(a.bd.u1 h.hs).2;exact⟨⟨h.fits.inv,a.bd.nb,a.bd.ps,ab,a.kn,h.fits.iT,h.fits.idx,h.ex,h.up,h.pow,by have:=h.cn;omega⟩,hp⟩
theorem tN (a:NB w) (h:w.eH.l=[]):Wn w<=80/\Cn w<=80:=by
 have:=EA a;unfold Wn Cn;rw[h];simp only[iU,bD,ez];omega
variable {P:eC->eA->Prop}
theorem Dr.jd (h:Dr V n b m st G w s) (hb:b+1<1000000) (hm:m+1001<=1000000000000) (hc:w.eD[k]?=some c) (i:lR V n (b+1) G P)
 (j:∀w',AG w w' k c->Z V n (b+1) (m+1) G w' s->P w' s):∃d,Dr V n (b+1) (m+1001) st G (w.fh k).2.gi d/\((w.fh k).2.gi).eH.l=[]/\P (w.fh k).2.gi d:=by
 obtain⟨z,hp⟩:=h.z;obtain⟨U,a⟩:=h.all;obtain⟨e,g1,u,v⟩:=z.jd ab ab (by have:=h.cn;omega) ab hc;obtain⟨d,z2,o⟩:=i.ki 1000 e (j _ g1 e) ab;obtain⟨p,-,a2,-⟩:=a.jd h.hs z.inv ab k;have q:=(yX e.inv e.nb).2.2.2;have r:=h.wn;have f:((w.fh k).2.gi).eH.l=[]:=q.resolve_right ab;have g:=tN z2.nb f;exact⟨d,⟨h.hs,⟨p,a2⟩,⟨z2.inv,z2.idx,z2.iT,fun c hc=>by have:=z2.kn.ik c hc;have:=z2.kn.small;unfold half;omega,by have e1:=ti 1000 (w.fh k).2;have t:=yk w k;have x:=h.fits.jM;show ((eC.ia 1000 (w.fh k).2).fg.length:Int)<=_;rw[e1,t];omega⟩,by have:=z2.ex;exact (by omega:m+1+((1000:Nat):Int)=m+1001)▸this,z2.up,z2.pow,by have:Wn (w.fh k).2.gi<=80:=g.1;omega,by have:Cn (w.fh k).2.gi<=80:=g.2;omega⟩,f,o⟩
theorem Dr.iB (h:Dr V n b m st G w s) (hm:m+1001<=1000000000000) (f:n+1<=1000000) (j:lR V (n+1) b G P)
 (k:∀w' d,GO w s w' d->Z V (n+1) b (m+1) G w' d->P w' d):∃d,Dr V (n+1) b (m+1001) st G (w.fu (List.replicate w.eN.length 1)).2.gi d/\((w.fu (List.replicate w.eN.length 1)).2.gi).eH.l=[]/\P (w.fu (List.replicate w.eN.length 1)).2.gi d:=by
 obtain⟨z,hp⟩:=h.z;obtain⟨U,a⟩:=h.all;obtain⟨s1,e,g1,u,v⟩:=z.iB ab f;obtain⟨d,z2,o⟩:=j.ki 1000 e (k _ _ g1 e) ab;obtain⟨p,-,a2,-⟩:=a.iB h.hs z.inv (List.replicate w.eN.length 1) (m:=1) (fun x hx=>by rw[bT hx];omega) ab f;have q:=(yX e.inv e.nb).2.2.2;have r:=h.wn;have g:((w.fu (List.replicate w.eN.length 1)).2.gi).eH.l=[]:=q.resolve_right ab;have i:=tN z2.nb g;exact⟨d,⟨h.hs,⟨p,a2⟩,⟨z2.inv,z2.idx,z2.iT,fun c hc=>by have:=z2.kn.ik c hc;have:=z2.kn.small;unfold half;omega,by have e1:=ti 1000 (w.fu (List.replicate w.eN.length 1)).2;have t:=yl w (List.replicate w.eN.length 1);have y:=h.fits.jM;show ((eC.ia 1000 (w.fu (List.replicate w.eN.length 1)).2).fg.length:Int)<=_;rw[e1,t];omega⟩,by have:=z2.ex;exact (by omega:m+1+((1000:Nat):Int)=m+1001)▸this,z2.up,z2.pow,by have:Wn (w.fu (List.replicate w.eN.length 1)).2.gi<=80:=i.1;omega,by have:Cn (w.fu (List.replicate w.eN.length 1)).2.gi<=80:=i.2;omega⟩,g,o⟩
end fS
namespace fS
open Go.RowKit fD eY fK fc
def Em (s:eA) (o:Nat):Prop:=s.eQ o=[]/\s.eW.ga o s.eB=[]/\s.quiet<=s.eB
def Wt (s:eA) (o:Nat) (T:Int):Prop:=Em s o\/(s.eQ o≠[]/\s.quiet<=T/\∀c∈s.eW.ga o s.eB,fT s.eW c<=T)
def Nz (s:eA) (o:Nat):Prop:=s.eQ o≠[]\/Em s o
structure mY (s s':eA):Prop where
 gZ:∀k u,fw k s'.eW.gZ=some u->fw k s.eW.gZ=some u
 fT:∀c,0<=c->fT s'.eW c<=fT s.eW c
 quiet:s'.quiet=s.quiet
 eB:s.eB<=s'.eB
variable {s s':eA} {o:Nat}
theorem mY.ga (h:mY s s') {c:Int} (hc:c∈s'.eW.ga o s'.eB):c∈s.eW.ga o s.eB:=by
 obtain⟨a,u,b,d⟩:=nT.1 hc;exact nT.2 ⟨a,u,h.gZ _ _ b,by have:=h.eB;omega⟩
def lS (o:Nat) (s s':eA):Prop:=(Em s o->Em s' o)/\(∀T,Wt s o T->Wt s' o T)/\(Nz s o->Nz s' o)
theorem lS.refl (o:Nat) (s:eA):lS o s s:=⟨fun h=>h,fun _ h=>h,fun h=>h⟩
theorem lS.trans {a b c:eA} (h:lS o a b) (g:lS o b c):lS o a c:=⟨fun x=>g.1 (h.1 x),fun T x=>g.2.1 T (h.2.1 T x),fun x=>g.2.2 (h.2.2 x)⟩
theorem mY.em (h:mY s s') (a:s'.eQ o=[]) (b:s.eW.ga o s.eB=[]) (d:s.quiet<=s.eB):Em s' o:=by
 refine⟨a,List.eq_nil_iff_forall_not_mem.2 fun c hc=>?_,by have:=h.quiet;have:=h.eB;omega⟩;have:=h.ga hc;rw[b]at this;cases this
variable {T:Int}
theorem mY.wt (h:mY s s') (a:s'.eQ o≠[]) (b:s.quiet<=T) (d:∀c∈s.eW.ga o s.eB,fS.fT s.eW c<=T):Wt s' o T:=
 .inr ⟨a,by rw[h.quiet];exact b,fun c hc=>cU (h.fT c (nT.1 hc).1.1) (d c (h.ga hc))⟩
theorem mY.keeps (h:mY s s') (d:s'.eQ o=s.eQ o):lS o s s':=
 have e:Em s o->Em s' o:=fun⟨a,b,c⟩=>h.em (d.trans a) b c
 ⟨e,fun T hw=>hw.elim (fun x=>.inl (e x)) fun⟨a,b,c⟩=>h.wt (by rw[d];exact a) b c,fun f=>f.elim (fun x=>.inl (by rw[d];exact x)) fun x=>.inr (e x)⟩
theorem ET (a:s.eW.ga o s.eB=[]) (b:s.quiet<=s.eB):blocked s o=false:=by
 unfold blocked;rw[a];simp;omega
theorem Ox (hT:T<=s.eB) (b:s.quiet<=T) (a:∀c∈s.eW.ga o s.eB,fT s.eW c<=T):blocked s o=false:=by
 unfold blocked;rw[bY];refine⟨ah,?_⟩;rw[List.any_eq_false];intro c hc;have:=a c hc;unfold fW.jT;unfold fT at this;simp only[aF,decide_eq_true_eq,not_and];intro _;omega
theorem EU {A B:Type} [DecidableEq A] (k b:A):∀l:List (A×B),fw k (del b l)=if b=k then none else fw k l
 | []=>by simp[fw,del]
 |(x,v)::l=>by
  have ih:=EU k b l;unfold del;by_cases e:x=b
  ·rw[if_pos e,ih];by_cases a:b=k
   ·simp[a]
   rw[if_neg a,if_neg a]
   show fw k l=if x=k then some v else fw k l
   rw[if_neg (fun h=>a (e▸h))]
  rw[if_neg e];unfold fw;by_cases a:x=k
  ·rw[if_pos a,if_neg (fun h=>e (a.trans h.symm))];simp[a]
  rw[if_neg a,ih];by_cases c:b=k
  ·simp[c]
  simp[c,a]
structure Ok (d:fe) (s:eA):Prop where
 sb:SB s
 pow:Pow d
 len:d.eG.length<=200
 up:s.eX=false
 fT:∀c,0<=c->0<=fT s.eW c
theorem Ok.iB {d:fe} {s:eA} (h:Ok d s) {o:Nat} (j:o<8):Ok (eA.fu d s o).2.1 (eA.fu d s o).2.2/\mY s (eA.fu d s o).2.2/\(∀o',o'≠o->(eA.fu d s o).2.2.eQ o'=s.eQ o')/\(eA.fu d s o).2.2.eB=s.eB /\
 ((s.eQ o=[]/\(eA.fu d s o).2.2.eQ o=[])\/(s.eQ o≠[]/\(eA.fu d s o).2.2.eQ o≠[]/\blocked s o=true)\/(s.eQ o≠[]/\blocked s o=false/\Em (eA.fu d s o).2.2 o)):=by
 obtain⟨b,f,g⟩:=tr j h.sb.h8 h.pow h.len h.up;have i:=(h.sb.iB (d:=d) j).1
 cases hx:s.eQ o with
 |nil =>
  have e:=pE (d:=d) (s:=s) (o:=o) (.inl hx);rw[e];exact⟨h,⟨fun _ _ h=>h,fun _ _=>aZ _,rfl,aZ _⟩,fun _ _=>rfl,rfl,.inl ⟨rfl,hx⟩⟩
 |cons x rest =>
  cases hb:blocked s o with
  |true =>
   have e:=rZ (d:=d) hx h.up hb;rw[e]at b f g i⊢;refine⟨⟨i,f,g,b,h.fT⟩,⟨fun _ _ h=>h,fun _ _=>aZ _,rfl,aZ _⟩,fun o' Rv=>nU Rv,rfl,.inr (.inl ⟨ae,?_,rfl⟩)⟩;simp only;rw[mG h.sb.h8 j];simp
  |false =>
   obtain⟨m,n,s',e,a,ht,hc⟩:=r9 (d:=d) j h.sb.h8 h.sb.tl hx h.up hb;rw[e]at b f g i⊢;simp only at b f g i⊢;have hc:=hc.resolve_left (fun hh=>by rw[b]at hh;cases hh.1);obtain⟨t1,t2,t3,-⟩:=rY (s.eW.ga o s.eB) h.sb.tl (fun c hc=>(nT.1 hc).1) (tp _ _ _)
   have hv:∀c,0<=c->fS.fT s'.eW c<=fS.fT s.eW c/\0<=fS.fT s'.eW c:=fun c hc=>by
    have:=h.fT c hc;rw[ht,t3 c hc];split<;>omega
   refine⟨⟨i,f,g,b,fun c hc=>(hv c hc).2⟩,⟨fun k u hk=>?_,fun c hc=>(hv c hc).1,a.quiet,dK a.eB.symm⟩,a.l9,a.eB,.inr (.inr ⟨ae,trivial,hc.2.1,?_,?_⟩)⟩
   ·rw[ht,t2]at hk;split at hk
    ·cases hk
    exact hk
   ·rw[ht,a.eB];exact yx h.sb.tl _ _ _ (aZ _)
   have l:=hb;unfold blocked at l;rw[bY]at l;have:=l.1;rw[a.quiet,a.eB];simpa using this
variable {d:fe}
theorem Ok.EV (h:Ok d s) (b:o<8) (o':Nat):lS o' s (eA.fu d s o).2.2/\(s.eQ o'=[]->(eA.fu d s o).2.2.eQ o'=[]):=by
 obtain⟨-,low,l9,g,hc⟩:=h.iB b;by_cases e:o'=o
 ·subst e;rcases hc with⟨c1,c2⟩|⟨c1,c2,c3⟩|⟨c1,-,c2⟩
  ·exact⟨low.keeps (c2.trans c1.symm),fun _=>c2⟩
  ·refine⟨⟨fun a=>absurd a.1 c1,fun T hw=>?_,fun _=>.inl c2⟩,fun a=>absurd a c1⟩;rcases hw with hw|⟨-,c,f⟩
   ·exact absurd hw.1 c1
   exact low.wt c2 c f
  exact⟨⟨fun _=>c2,fun _ _=>.inl c2,fun _=>.inr c2⟩,fun _=>c2.1⟩
 have:=l9 o' e;exact⟨low.keeps this,fun a=>this.trans a⟩
theorem Ok.EW:∀(a:List Nat) {d:fe} {s:eA} (_:Ok d s) (_:∀k∈a,k<8) (out:List eL),Ok (eA.gY a d s out).2.1 (eA.gY a d s out).2.2/\(eA.gY a d s out).2.2.eB=s.eB/\∀o,lS o s (eA.gY a d s out).2.2/\(s.eQ o=[]->(eA.gY a d s out).2.2.eQ o=[])/\∀T,T<=s.eB->o∈a->Wt s o T->Em (eA.gY a d s out).2.2 o
 | [],_,s,h,_,_=>⟨h,rfl,fun o=>⟨.refl o s,fun h=>h,fun T _ h=>by cases h⟩⟩
 |k::a,d,s,h,c,out=>by
  unfold eA.gY;simp only;have f:=c k aK;obtain⟨g1,g2,g3,g4,g5⟩:=h.iB f;have b:=h.EV f;obtain⟨i1,i2,i3⟩:=Ok.EW a g1 (fun j hj=>c j (aI _ hj)) (out++(eA.fu d s k).1);refine⟨i1,i2.trans g4,fun o=>⟨(b o).1.trans (i3 o).1,fun hq=>(i3 o).2.1 ((b o).2 hq),fun T hT hm hw=>?_⟩⟩;by_cases e:o=k
  ·subst e;refine (i3 o).1.1 ?_;rcases g5 with⟨c1,c2⟩|⟨c1,c2,c3⟩|⟨-,-,c2⟩
   ·rcases hw with hw|⟨g,-,-⟩
    ·exact (b o).1.1 hw
    exact absurd c1 g
   ·rcases hw with hw|⟨g,i,l⟩
    ·exact absurd hw.1 c1
    rw[Ox hT i l]at c3;cases c3
   exact c2
  have hm:o∈a:=(aH.1 hm).resolve_left e;exact (i3 o).2.2 T (by rw[g4];exact hT) hm ((b o).1.2.1 T hw)
theorem Ok.mW (h:Ok d s) (n:Int):Ok d (s.at_ n)/\mY s (s.at_ n):=⟨⟨h.sb.lg n,h.pow,h.len,h.up,h.fT⟩,⟨fun _ _ h=>h,fun _ _=>aZ _,rfl,by show s.eB<=max s.eB _;omega⟩⟩
theorem Ok.Oy (h:Ok d s) (n:Int):Ok (eA.tick d s n).2.1 (eA.tick d s n).2.2/\(eA.tick d s n).2.2.eB=(s.at_ n).eB/\∀o,lS o s (eA.tick d s n).2.2/\(s.eQ o=[]->(eA.tick d s n).2.2.eQ o=[])/\∀T,T<=(s.at_ n).eB->o<8->Wt s o T->Em (eA.tick d s n).2.2 o:=by
 unfold eA.tick;rw[h.up];simp only[bh,if_false];obtain⟨b,a2⟩:=h.mW n;obtain⟨i1,i2,i3⟩:=Ok.EW (List.range 8) b (fun k hk=>bP.1 hk) [];have a:∀o,lS o s (s.at_ n):=fun o=>a2.keeps rfl;exact⟨i1,i2,fun o=>⟨(a o).trans (i3 o).1,(i3 o).2.1,fun T hT ho hw=>(i3 o).2.2 T hT (bP.2 ho) ((a o).2.1 T hw)⟩⟩
theorem Ok.Oz {d:fe} (h:Ok d s) (n:Int) {m:eL} (Q:m.eO≠1) (L:m.eO=3->fR (ji (s.at_ n).eB (s.at_ n).eZ.fa) 0 jO=true):∀o,lS o s (eA.take d s n m).2.2/\(¬(m.eO=2/\m.eF=o)->s.eQ o=[]->(eA.take d s n m).2.2.eQ o=[]):=by
 intro o
 obtain⟨b,a2⟩:=h.mW n
 have M:lS o s (s.at_ n):=a2.keeps rfl
 have C:(s.at_ n).eQ o=s.eQ o:=rfl
 have hv:=mV d s n m
 generalize eA.take d s n m=r at hv⊢
 rw[<- C]
 generalize s.at_ n=z at hv b M L C
 suffices hs:r.2.2=s\/lS o z r.2.2/\(¬(m.eO=2/\m.eF=o)->z.eQ o=[]->r.2.2.eQ o=[]) by
  rcases hs with hs|hs
  ·rw[hs,C];exact⟨.refl o s,fun _ h=>h⟩
  exact⟨M.trans hs.1,hs.2⟩
 cases hv with
 |off=>exact .inl rfl
 |read _ _ _ e|gE _ _ _ e|flush1 _ _ _ e=>exact absurd e Q
 |idle|done|flush3|wait=>exact .inr ⟨.refl o z,fun _ h=>h⟩
 |fT _ hc _ R _ D =>
  right;have S:=Ef b.sb.tl hc (ji z.eB z.eZ.fa) (L R);have U:=(vU z.eW m.eI (ji z.eB z.eZ.fa)).2
  have l:∀o',(sV z m).eW.ga o' z.eB=z.eW.ga o' z.eB:=fun o'=>by
   show (z.eW.fa m.eI _).2.ga o' z.eB=_;unfold fW.ga fW.holds;rw[U]
  have e1:Em z o->Em (sV z m) o:=fun⟨V,W,X⟩=>⟨V,(l o).trans W,X⟩;refine⟨⟨e1,fun T hw=>?_,fun hw=>hw.elim .inl fun x=>.inr (e1 x)⟩,fun _ h=>h⟩;rcases hw with hw|⟨p,E,F⟩
  ·exact .inl (e1 hw)
  refine .inr ⟨p,E,fun c q=>?_⟩;(have A:c∈z.eW.ga o z.eB:=by rw[<- l];exact q);show fS.fT (z.eW.fa m.eI (ji z.eB z.eZ.fa)).2 c<=T;rw[S c (nT.1 A).1.1];rw[if_neg]
  ·exact F c A
  intro e;rw[e]at A
  have Y:o<8:=by
   rcases bk o 8 with g|g
   ·exact g
   exfalso;apply p;show z.eQ o=[];unfold eA.eQ;rw[aC,bw (by have:=b.sb.h8;omega)];rfl
  have:o∈z.pending m.eI:=by
   unfold eA.pending;rw[bL];refine⟨bP.2 Y,?_⟩;have p:z.eQ o≠[]:=p;simp[p,A]
  rw[D]at this;cases this
 |ack _ _ g =>
  right;have Z:Ok d (pq z m):=⟨b.sb.mF ⟨b.sb.tl.nv,b.sb.tl.ns⟩,b.pow,b.len,b.up,b.fT⟩
  have low:mY z (pq z m):=⟨fun k u hu=>by
   have hu:fw k (del (m.eI,m.eF) z.eW.gZ)=some u:=hu;rw[EU]at hu;split at hu
   ·cases hu
   exact hu,fun _ _=>aZ _,rfl,aZ _⟩
  have:=Z.EV (jA g).2.1 o;exact⟨(low.keeps (o:=o) rfl).trans this.1,fun _ i=>this.2 i⟩
 |enq _ _ g N _ _ hlen =>
  right;obtain⟨aa,B,Sq⟩:=jA g;obtain⟨a,f⟩:=nm (kW z m:eA);(have qs:a.eQ m.eF.toNat=z.eQ m.eF.toNat++[⟨m.eI,m.eK,m.data,false⟩]:=by rw[f];exact mG b.sb.h8 B);(have O:∀o',o'≠m.eF.toNat->a.eQ o'=z.eQ o':=fun o' e=>by rw[f];exact nU e);(have low:mY z a:=by rw[f];exact⟨fun _ _ h=>h,fun _ _=>aZ _,rfl,aZ _⟩);(have G:a.eX=false:=by rw[f];exact b.up);(have h8:a.fi.length=8:=by rw[f];simpa[kW]using b.sb.h8);(have H:TL a.eW:=by rw[f];exact b.sb.tl);(have QL:blocked a m.eF.toNat=blocked z m.eF.toNat:=by rw[f];rfl);(have I:∀c,0<=c->0<=fS.fT a.eW c:=by rw[f];exact b.fT);rw[<- f];clear f;have t:a.eQ m.eF.toNat≠[]:=by rw[qs];simp
  cases hf:a.eQ m.eF.toNat with
  |nil=>exact absurd hf t
  |cons x rest =>
   obtain⟨J,-,-⟩:=tr (d:=d) B h8 b.pow b.len G
   cases hb:blocked a m.eF.toNat with
   |true =>
    have eb:=rZ (d:=d) hf G hb;rw[eb]
    have v:¬Em z m.eF.toNat:=fun hem=>by
     rw[QL,ET hem.2.1 hem.2.2]at hb;cases hb
    have w:∀o',o'≠m.eF.toNat->eA.eQ {a with fi:=a.fi.set m.eF.toNat ({x with gw:=true}::rest)} o'=z.eQ o':=fun o' e=>(nU e).trans (O o' e);have y:mY z {a with fi:=a.fi.set m.eF.toNat ({x with gw:=true}::rest)}:=⟨low.gZ,low.fT,low.quiet,low.eB⟩;by_cases e:o=m.eF.toNat
    ·subst e;(have P:eA.eQ {a with fi:=a.fi.set m.eF.toNat ({x with gw:=true}::rest)} m.eF.toNat≠[]:=by rw[mG h8 B];simp);exact⟨⟨fun hem=>absurd hem v,fun T hw=>hw.elim (fun h=>absurd h v) fun⟨_,E,F⟩=>y.wt P E F,fun _=>.inl P⟩,fun t=>absurd ⟨N,ab⟩ t⟩
    exact⟨y.keeps (w o e),fun _ i=>(w o e).trans i⟩
   |false =>
    obtain⟨S5,d',s',eg,j,ht,q⟩:=r9 (d:=d) B h8 H hf G hb;rw[eg]at J⊢;simp only at J⊢;have q:=q.resolve_left (fun hh=>by rw[J]at hh;cases hh.1);by_cases e:o=m.eF.toNat
    ·subst e
     have hem:Em s' m.eF.toNat:=by
      refine⟨q.2.1,by rw[ht,j.eB];exact yx H _ _ _ (aZ _),?_⟩;unfold blocked at hb;rw[bY]at hb;have:=hb.1;rw[j.quiet,j.eB];simpa using this
     exact⟨⟨fun _=>hem,fun _ _=>.inl hem,fun _=>.inr hem⟩,fun t=>absurd ⟨N,ab⟩ t⟩
    obtain⟨-,t2,t3,-⟩:=rY (a.eW.ga m.eF.toNat a.eB) H (fun c hc=>(nT.1 hc).1) (tp _ _ _)
    have K:mY z s':=⟨fun k u hu=>by
     rw[ht,t2]at hu;split at hu
     ·cases hu
     ·exact low.gZ k u hu,fun c hc=>by
     have:=I c hc;have:=low.fT c hc;show fS.fT s'.eW c<=_;rw[ht,t3 c hc]
     split<;>omega,j.quiet.trans low.quiet,by rw[j.eB];exact low.eB⟩
    have i:s'.eQ o=z.eQ o:=(j.l9 o e).trans (O o e);exact⟨K.keeps i,fun _ h=>i.trans h⟩
end fS
namespace fS
open Go.RowKit fD eY fK fc
theorem OA {l:List Rec} {k n:Int} (h:n∈gg l k):∃r∈l,0<=r.eF/\r.eI=k/\r.eK=n:=by
 unfold gg at h;obtain⟨r,b,a⟩:=dJ.1 h;split at a
 ·rename_i hc;exact⟨r,b,hc.1,hc.2,aA a⟩
 cases a
variable {s:eA}
theorem OB (h8:s.fi.length=8) {q:List Wr} (a:q∈s.fi):∃o,o<8/\s.eQ o=q:=by
 obtain⟨i,hi,rfl⟩:=cX a;refine⟨i,ab,?_⟩;unfold eA.eQ;rw[aC,ay hi];rfl
theorem OC {G:gd} {d:fe} (h:gF G d.eG s) (hu:jR G) (L:iW G d.eG) (M:SQ d s) (w:Ok d s) (N:DK s) (eB:Int) {m:eL} (hm:im G d.eG m) (A:m.eO=2) (hc:fX m.eI=true) (B:fN m.eF=true)
 (top:∀n o x,(m.eI,n,o,x)∈G->n<=m.eK) :
 (∃x∈(eA.take d s eB m).1,x.eO=6/\x.eI=m.eI/\x.eK=m.eK)\/(Nz (eA.take d s eB m).2.2 m.eF.toNat/\¬Em s m.eF.toNat):=by
 obtain⟨o1,i,o3⟩:=jA B;have j:=hm.write A;have Tb:=hm.short
 have e0:eA.take d s eB m=eA.gp d (s.at_ eB) m:=by
  unfold eA.take;rw[if_neg (by rw[w.up,hc,B];decide)];simp only;rw[if_neg ab,if_pos A]
 rw[e0]
 obtain⟨a,a2⟩:=w.mW eB
 have k:Em s m.eF.toNat->Em (s.at_ eB) m.eF.toNat:=(a2.keeps rfl).1
 have l:gF G d.eG (s.at_ eB):=h.lg eB
 have C:DK (s.at_ eB):=N.same rfl
 have E:SQ d (s.at_ eB):=M.same rfl rfl
 suffices hs:(∃x∈(eA.gp d (s.at_ eB) m).1,x.eO=6/\x.eI=m.eI/\x.eK=m.eK)\/(Nz (eA.gp d (s.at_ eB) m).2.2 m.eF.toNat/\¬Em (s.at_ eB) m.eF.toNat) from hs.imp id fun⟨x,y⟩=>⟨x,fun e=>y (k e)⟩
 generalize s.at_ eB=z at a l C E
 have he:(∃x∈(eA.enqueue d z m).1,x.eO=6/\x.eI=m.eI/\x.eK=m.eK)\/(Nz (eA.enqueue d z m).2.2 m.eF.toNat/\¬Em z m.eF.toNat):=by
  unfold eA.enqueue;simp only;split
  ·rename_i O;right;obtain⟨q,P,Q⟩:=bW.1 O;obtain⟨x,p,F⟩:=bW.1 Q;simp only[aF,decide_eq_true_eq]at F;obtain⟨o',R,rfl⟩:=OB a.sb.h8 P;have b:=l.eQ o' R x p;rw[F.1]at b;have hle:=top _ _ _ b;have S:x.eK=m.eK:=ab;rw[S]at b;have:=(hu.same _ _ _ _ _ _ b j).1;have e:o'=m.eF.toNat:=ab;subst e;(have g:z.eQ m.eF.toNat≠[]:=fun e=>by rw[e]at p;cases p);exact⟨.inl g,fun em=>g em.1⟩
  split
  ·rename_i H;right;simp only[bz,decide_eq_true_eq]at H
   have g:z.eQ m.eF.toNat≠[]:=fun e=>by
    rcases H with t|t
    ·rw[e]at t;simp at t
    omega
   exact⟨.inl g,fun em=>g em.1⟩
  obtain⟨c,f⟩:=nm ({z with fi:=z.fi.set m.eF.toNat (z.eQ m.eF.toNat++[⟨m.eI,m.eK,m.data,false⟩])}:eA);(have I:c.eQ m.eF.toNat=z.eQ m.eF.toNat++[⟨m.eI,m.eK,m.data,false⟩]:=by rw[f];exact mG a.sb.h8 i);(have u:c.eX=false:=by rw[f];exact a.up);(have h8:c.fi.length=8:=by rw[f];simpa using a.sb.h8);(have T:TL c.eW:=by rw[f];exact a.sb.tl);obtain⟨v,-,-⟩:=tr (d:=d) i h8 a.pow a.len u;rw[<- f]
  cases hx:c.eQ m.eF.toNat with
  |nil=>rw[I]at hx;simp at hx
  |cons x rest =>
   cases hb:blocked c m.eF.toNat with
   |true =>
    right;have U:=rZ (d:=d) hx u hb;rw[U];refine⟨.inl ?_,fun em=>?_⟩
    ·simp only;rw[mG h8 i];simp
    (have:blocked c m.eF.toNat=blocked z m.eF.toNat:=by rw[f];rfl);rw[this,ET em.2.1 em.2.2]at hb;cases hb
   |false =>
    left;obtain⟨S5,d',s',V,-,-,W⟩:=r9 (d:=d) i h8 T hx u hb;rw[V]at v⊢;simp only at v⊢;obtain⟨-,-,D,d1,-,d2,d3⟩:=W.resolve_left (fun hh=>by rw[v]at hh;cases hh.1);obtain⟨y,J,X,y3⟩:=d3 ⟨m.eI,m.eK,m.data,false⟩ (by rw[<- hx,I];simp);exact⟨y,by rw[d1];exact bA _ J,(d2 y J).1,X,y3⟩
 unfold eA.gp;split
 ·rename_i x hx;split
  ·rename_i hle;have K:=E.last m.eI;rw[hx]at K;have Y:x.eK∈gg d.eG m.eI:=List.mem_of_getLast? K;obtain⟨r,Z,r2,r3,r4⟩:=OA Y;have b:=L.fE r Z r2;rw[r3,r4]at b;have:=top _ _ _ b;rw[if_neg ab];left;exact⟨z.fG x,aK,(l.done _ _ hx).1,(C _ _ hx).1,by show x.eK=m.eK;omega⟩
  exact he
 exact he
end fS
namespace fS
open Go.RowKit fD eY fK fc
structure St (V:Int) (G:gd) (P:eC->eA->Prop):Prop where
 mi:∀n b,lR V n b G P
 ag:∀(n b m:Int) (w:eC) (s:eA) (w':eC) (k:Nat) (c:eM),Z V n b m G w s->w.eH.l=[]->P w s->AG w w' k c->Z V n (b+1) (m+1) G w' s->P w' s
 go:∀(n b m:Int) (w:eC) (s:eA) (w':eC) (s':eA),Z V n b m G w s->w.eH.l=[]->P w s->GO w s w' s'->Z V (n+1) b (m+1) G w' s'->P w' s'
theorem St.nG (V:Int) (G:gd):St V G (fun _ _=>True):=⟨fun _ _ _ _ _ _ _ _ _ _ _=>⟨fun _ _ _=>trivial,fun _ _ _ _=>trivial⟩,fun _ _ _ _ _ _ _ _ _ _ _ _ _=>trivial,fun _ _ _ _ _ _ _ _ _ _ _ _=>trivial⟩
variable {V n b m:Int} {G:gd} {P R:eC->eA->Prop}
theorem St.and {Q:eC->eA->Prop} (h:St V G P) (g:St V G Q):St V G (fun w s=>P w s/\Q w s):=
 ⟨fun n b m w s x rest w' e f hp=>⟨fun s' z d=>⟨(h.mi n b m w s x rest w' e f hp.1).1 s' z d,(g.mi n b m w s x rest w' e f hp.2).1 s' z d⟩,fun k c z d=>⟨(h.mi n b m w s x rest w' e f hp.1).2 k c z d,(g.mi n b m w s x rest w' e f hp.2).2 k c z d⟩⟩,
  fun n b m w s w' k c e f hp a z=>⟨h.ag n b m w s w' k c e f hp.1 a z,g.ag n b m w s w' k c e f hp.2 a z⟩,
  fun n b m w s w' s' e f hp a z=>⟨h.go n b m w s w' s' e f hp.1 a z,g.go n b m w s w' s' e f hp.2 a z⟩⟩
theorem St.all {I:Type} {P:I->eC->eA->Prop} (h:∀i,St V G (P i)):St V G (fun w s=>∀i,P i w s):=
 ⟨fun n b m w s x rest w' e f hp=>⟨fun s' z d i=>((h i).mi n b m w s x rest w' e f (hp i)).1 s' z d,fun k c z d i=>((h i).mi n b m w s x rest w' e f (hp i)).2 k c z d⟩,
  fun n b m w s w' k c e f hp a z i=>(h i).ag n b m w s w' k c e f (hp i) a z,
  fun n b m w s w' s' e f hp a z i=>(h i).go n b m w s w' s' e f (hp i) a z⟩
theorem St.eI {C:eM->Prop} (t:∀c m,C c->C (c.take m).2) (a:∀c,C c->C c.fh.2) (g:∀c:eM,C c->C {c with eB:=c.eB+1}) (k:Nat):St V G (fun w _=>∀c,w.eD[k]?=some c->C c):=by
 refine⟨fun n b m w s x rest w' h i hp=>⟨fun s' _ d c hc=>hp c (by rw[<- d.eD];exact hc),fun j f _ d c hc=>?_⟩,fun n b m w s w' j f h i hp d _ c hc=>?_,fun n b m w s w' s' h i hp d _ c hc=>?_⟩
 ·rw[d.eD,bt]at hc;split at hc
  ·rename_i e;split at hc
   ·rw[<- aA hc];exact t _ _ (hp f (by rw[<- e];exact d.hc))
   cases hc
  exact hp c hc
 ·rw[d.eD,bt]at hc;split at hc
  ·rename_i e;split at hc
   ·rw[<- aA hc];exact a _ (hp f (by rw[<- e];exact d.hc))
   cases hc
  exact hp c hc
 obtain⟨c0,l,rfl⟩:=d.eD k c hc;exact g c0 (hp c0 l)
structure D0 (V n b m:Int) (st:Nat) (G:gd) (C:List Int) (w:eC) (s:eA):Prop where
 dr:Dr V n b m st G w s
 nil:w.eH.l=[]
 ik:w.eN=C
variable {st:Nat} {C:List Int} {w:eC} {s:eA}
theorem D0.len (h:D0 V n b m st G C w s):w.eD.length+1=C.length:=by
 have:=h.dr.z.1.kn.lens;rw[h.ik]at this;omega
theorem D0.gx {b' m':Int} (h:D0 V n b m st G C w s) (hb:b<=b') (hm:m<=m') (a:m'<=1000000000000):D0 V n b' m' st G C w s:=
 ⟨⟨h.dr.hs,h.dr.all,h.dr.fits.gx hb,h.dr.ex.gx hm a,h.dr.up,h.dr.pow,h.dr.wn,h.dr.cn⟩,h.nil,h.ik⟩
theorem St.fh (f:St V G P) (h:D0 V n b m st G C w s) (hp:P w s) (hb:b+1<1000000) (hm:m+1001<=1000000000000) {k:Nat} (g:k<w.eD.length) :
 ∃c,D0 V n (b+1) (m+1001) st G C (w.fh k).2.gi c/\P (w.fh k).2.gi c:=by
 obtain⟨c,d,e,p⟩:=h.dr.jd hb hm (ay g) (f.mi n (b+1)) fun w' a z=>f.ag n b m w s w' k _ h.dr.z.1 h.nil hp a z;exact⟨c,⟨d,e,by rw[show (w.fh k).2.gi=eC.ia 1000 (w.fh k).2 from rfl,pZ,rR];exact h.ik⟩,p⟩
theorem St.fu (f:lR V (n+1) b G R) (h:D0 V n b m st G C w s) (hm:m+1001<=1000000000000) (c:n+1<=1000000)
 (i:∀w' a,GO w s w' a->Z V (n+1) b (m+1) G w' a->R w' a) :
 ∃a,D0 V (n+1) b (m+1001) st G (C.map (·+1)) (w.fu (List.replicate w.eN.length 1)).2.gi a/\R (w.fu (List.replicate w.eN.length 1)).2.gi a:=by
 obtain⟨a,d,e,p⟩:=h.dr.iB hm c f i;obtain⟨s1,-,g,-⟩:=h.dr.z.1.iB ab c;exact⟨a,⟨d,e,by rw[show (w.fu (List.replicate w.eN.length 1)).2.gi=eC.ia 1000 (w.fu (List.replicate w.eN.length 1)).2 from rfl,pZ,g.eN,h.ik]⟩,p⟩
variable {Q:Nat->eC->eA->Prop}
theorem St.each (p:St V G P) (hQ:∀j,St V G (fun w s=>P w s/\Q j w s))
 (i:∀(b m:Int) (w:eC) (s:eA) (k:Nat),D0 V n b m st G C w s->P w s->k<w.eD.length->b+1<1000000->m+1001<=1000000000000->∀f,(w.fh k).2.gi.ff=some f->Q k (w.fh k).2.gi f) :
 ∀(d D:List Nat) {b m:Int} {w:eC} {s:eA} (_:D0 V n b m st G C w s) (_:P w s) (_:∀j∈D,Q j w s) (_:∀k∈d,k<w.eD.length) (_:b+d.length<1000000) (_:m+1001*d.length<=1000000000000),
  ∃f,D0 V n (b+d.length) (m+1001*d.length) st G C (eC.iY d w) f/\P (eC.iY d w) f/\∀j,j∈D\/j∈d->Q j (eC.iY d w) f
 | [],D,b,m,w,s,h,hp,l,_,_,hm=>⟨s,h.gx ae ae hm,hp,fun j c=>c.elim (l j) fun e=>by cases e⟩
 |k::d,D,b,m,w,s,h,hp,l,q,hb,hm=>by
  simp only[aL]at hb hm;have g:=q k aK;obtain⟨s1,d1,r⟩:=p.fh h hp ab ab g
  have t:∀j,j∈k::D->Q j (w.fh k).2.gi s1:=fun j c=>by
   rcases aH.1 c with rfl|c
   ·exact i b m w s j h hp g ab ab s1 d1.dr.up
   obtain⟨s2,d2,o⟩:=(hQ j).fh h ⟨hp,l j c⟩ ab ab g;have:s2=s1:=aA (d2.dr.up.symm.trans d1.dr.up);rw[<- this];exact o.2
  have u:(w.fh k).2.gi.eD.length=w.eD.length:=by
   have a:=d1.len;have b:=h.len;omega
  obtain⟨f,d2,o,v⟩:=St.each p hQ i d (k::D) d1 r t (fun j c=>by rw[u];exact q j (aI _ c)) ab ab;refine⟨f,d2.gx (by simp only[aL];omega) (by simp only[aL];omega) (by simp only[aL];omega),o,fun j c=>v j ?_⟩;rcases c with c|c
  ·exact .inl (aI _ c)
  rcases aH.1 c with rfl|c
  ·exact .inl aK
  exact .inr c
theorem St.round (d:St V G P) (hQ:∀j,St V G (fun w s=>P w s/\Q j w s)) (q:St V G R)
 (e:∀(b m:Int) (w:eC) (s:eA) (k:Nat),D0 V n b m st G C w s->P w s->k<w.eD.length->b+1<1000000->m+1001<=1000000000000->∀a,(w.fh k).2.gi.ff=some a->Q k (w.fh k).2.gi a)
 (f:∀(b m:Int) (w:eC) (s:eA) (w':eC) (a:eA),D0 V n b m st G C w s->P w s->GO w s w' a->Z V (n+1) b (m+1) G w' a->R w' a)
 {b m:Int} {w:eC} {s:eA} (h:D0 V n b m st G C w s) (hp:P w s) (hb:b+4<1000000) (hm:m+5005<=1000000000000) (i:n+1<=1000000) :
 ∃a,D0 V (n+1) (b+4) (m+5005) st G (C.map (·+1)) w.round a/\P w.round a/\(∀j,j<w.eD.length->Q j w.round a)/\R w.round a:=by
 (have e0:w.gK.2=w:=by unfold eC.gK;rw[h.dr.up]);have v:=h.dr.fits.inv.gz;obtain⟨s1,d1,l,r⟩:=St.each d hQ e (List.range w.eD.length) [] h hp (fun j hj=>by cases hj) (fun k hk=>bP.1 hk) ah ah
 have e1:w.round=((eC.iY (List.range w.eD.length) w).fu (List.replicate (eC.iY (List.range w.eD.length) w).eN.length 1)).2.gi:=by
  unfold eC.round;simp only[e0]
 have hlen:((List.range w.eD.length).length:Int)<=4:=ah;have t:=fun w' a=>d.go n _ _ _ s1 w' a d1.dr.z.1 d1.nil l;obtain⟨s2,d2,p⟩:=St.fu (d.mi (n+1) _) d1 ab i t;rw[<- e1]at d2 p;refine⟨s2,d2.gx ab ab hm,p,fun j hj=>?_,?_⟩
 ·have u:=fun w' a=>(hQ j).go n _ _ _ s1 w' a d1.dr.z.1 d1.nil ⟨l,r j (.inr (bP.2 hj))⟩;obtain⟨o,d3,c⟩:=St.fu ((hQ j).mi (n+1) _) d1 ab i u;rw[<- e1]at d3 c;have:o=s2:=aA (d3.dr.up.symm.trans d2.dr.up);rw[<- this];exact c.2
 obtain⟨o,d3,c⟩:=St.fu (q.mi (n+1) _) d1 ab i fun w' a g z=>f _ _ _ s1 w' a d1 l g z;rw[<- e1]at d3 c;have:o=s2:=aA (d3.dr.up.symm.trans d2.dr.up);rw[<- this];exact c
theorem oX:∀(a b:Nat) (w:eC),eC.iz (a+b) w=eC.iz b (eC.iz a w)
 |0,b,w=>by rw[cN];rfl
 |a+1,b,w=>by
  rw[show a+1+b=(a+b)+1 by omega];exact oX a b w.round
theorem St.rounds (a:St V G P):∀(j:Nat) {n b m:Int} {C:List Int} {w:eC} {s:eA} (_:D0 V n b m st G C w s) (_:P w s) (_:b+4*j<1000000) (_:m+5005*j<=1000000000000) (_:n+j<=1000000),
 ∃f,D0 V (n+j) (b+4*j) (m+5005*j) st G (C.map (·+(j:Int))) (eC.iz j w) f/\P (eC.iz j w) f
 |0,n,b,m,C,w,s,h,hp,_,hm,_=>by
  refine⟨s,?_,hp⟩;have e1:n+((0:Nat):Int)=n:=ab;have c:b+4*((0:Nat):Int)=b:=ab;have d:m+5005*((0:Nat):Int)=m:=ab
  have e:C.map (·+((0:Nat):Int))=C:=by
   rw[show (fun x:Int=>x+((0:Nat):Int))=id from funext fun x=>by simp];simp
  rw[e1,c,d,e];exact h
 |j+1,n,b,m,C,w,s,h,hp,hb,hm,k=>by
  obtain⟨s1,d1,g,-⟩:=St.round (Q:=fun _ _ _=>True) (R:=fun _ _=>True) a (fun _=>a.and (.nG V G)) (.nG V G) (fun _ _ _ _ _ _ _ _ _ _ _ _=>trivial) (fun _ _ _ _ _ _ _ _ _ _=>trivial) h hp ab ab ab;obtain⟨s2,d2,i⟩:=St.rounds a j d1 g ab ab ab;refine⟨s2,?_,i⟩;have e1:n+1+(j:Int)=n+((j+1:Nat):Int):=ab;have c:b+4+4*(j:Int)=b+4*((j+1:Nat):Int):=ab;have d:m+5005+5005*(j:Int)=m+5005*((j+1:Nat):Int):=ab
  have e:(C.map (·+1)).map (·+(j:Int))=C.map (·+((j+1:Nat):Int)):=by
   rw[List.map_map];congr 1;funext x;show x+1+(j:Int)=x+((j+1:Nat):Int);omega
  rw[e1,c,d,e]at d2;exact d2
end fS
namespace fS
open Go.RowKit fD eY fK fc
variable {V n b m kd n0 b0 o:Int} {G:gd} {w:eC} {s:eA}
theorem Z.ok (h:Z V n b m G w s):Ok w.eP s:=⟨h.nb.sb s h.up,h.pow,h.inv.eG.len,h.ps.up s h.up,fun c hc=>((h.kn.si s h.up).fT c hc).1⟩
theorem Z.told (h:Z V n b m G w s) (eB:Int) (x:eL):Told (eA.take w.eP s eB x).1:=tz (fun k y hy=>((h.inv.ff s h.up).done k y hy).1) eB x
theorem Z.OD (h:Z V n b m G w s):fR (ji (s.at_ (w.eN.getD 0 0)).eB (s.at_ (w.eN.getD 0 0)).eZ.fa) 0 jO=true:=by
 have a:=h.kn.si s h.up;have d:=sd h.kn;have hs:=h.kn.small;have hV:=h.kn.hV
 have e1:(s.at_ (w.eN.getD 0 0)).eB=w.eN.getD 0 0:=by
  show max s.eB (min (w.eN.getD 0 0) half)=_;rw[a.eB];unfold half;omega
 (have c:(s.at_ (w.eN.getD 0 0)).eZ.fa=V:=by show s.eZ.fa=V;rw[a.eZ];exact h.kn.vt);rw[e1,c];refine (yN ?_ ?_).2<;>(unfold fR jO;simp only[aF,decide_eq_true_eq];omega)
theorem sr (c:eM) (m:eL) (h:(c.take m).2.fB=true):c.fB=true/\(c.take m).2.fE=c.fE/\(c.take m).2.call=c.call/\(c.take m).2.gL=c.gL:=by
 unfold eM.take at h⊢;split
 ·rename_i hc;rw[if_pos hc]at h;exact⟨h,rfl,rfl,rfl⟩
 rename_i hc;rw[if_neg hc]at h;simp only at h⊢;split
 ·rename_i e;rw[if_pos e]at h;unfold eM.lr at h⊢;split
  ·rename_i h1;exact acn
  rename_i h1;rw[if_neg h1]at h;simp only at h;exfalso;split at h<;>simp[eM.fB]at h
 rename_i e;rw[if_neg e]at h;split
 ·rename_i a;rw[if_pos a]at h;split
  ·rename_i h1;rw[if_pos h1]at h;simp[eM.fB]at h
  rename_i h1;exact acp
 rename_i a;rw[if_neg a]at h;split
 ·rename_i b;rw[if_pos b]at h;split<;>rename_i h1
  ·exact acn
  exact acp
 rename_i b;rw[if_neg b]at h;split
 ·rename_i f;rw[if_pos f]at h;split<;>rename_i h1
  ·exact acn
  exact acp
 rename_i f;rw[if_neg f]at h;split
 ·rename_i d;rw[if_pos d]at h;split<;>rename_i h1
  ·exact acn
  exact acp
 rename_i d;rw[if_neg d]at h;exact⟨h,rfl,rfl,rfl⟩
variable {c:eM}
theorem EX {m:eL} (a:kd=1\/kd=2) (hid:m.eI=c.id) (d:fN m.eF=true) (f:m.eO=kd+4) (hb:c.fB=true) (b:m.eK=c.fE) (hc:c.call.eO=kd) (e:kd=1->c.call.eF=m.eF):(c.take m).2.fB=false:=by
 unfold eM.take;rw[if_neg (by rw[hid,d];simp)];simp only;rcases a with rfl|rfl
 ·rw[if_pos ab];unfold eM.lr;rw[if_neg (by rw[hb,b,hc,e rfl];simp)];simp only;split<;>rfl
 rw[if_neg ab,if_pos ab,if_pos (by rw[hb,b,hc];simp)];rfl
def su (kd:Int) (k:Nat) (n:Int) (o:Int) (g:fY):Prop:=g.to<0/\g.eU.eO=kd/\g.eU.eI=k/\g.eU.eK=n/\g.eU.eF=o
def tP (kd:Int) (k:Nat) (n:Int) (o:Int) (g:fY):Prop:=g.to=k/\g.eU.eO=kd+4/\g.eU.eI=k/\g.eU.eK=n/\fN g.eU.eF=true/\(kd=1->g.eU.eF=o)
def Dg (kd:Int) (k:Nat) (n:Int) (o:Int) (X:eC->eA->Prop) (w:eC) (s:eA):Prop:=
 ∀c,w.eD[k]?=some c->c.fB=true->(c.fE=n/\c.call.eF=o/\c.call.eO=kd)/\((∃g∈w.eH.l,su kd k n o g)\/(∃g∈w.eH.l,tP kd k n o g)\/X w s)
variable {k st:Nat} {P X:eC->eA->Prop}
theorem zj (r:kd=1\/kd=2) (v:lR V n0 b0 G P) (A:lR V n0 b0 G (fun w s=>P w s/\X w s))
 (fj:∀(m:Int) (w:eC) (s:eA) (g:fY) (rest:List fY) (w':eC) (h:eA) (c:eM),Z V n0 b0 m G w s->w.eH.l=g::rest->P w s->su kd k n o g->w.eD[k]?=some c->c.fB=true->c.fE=n->c.call.eF=o->c.call.eO=kd->Z V n0 b0 (m+1) G w' h->DS w s g rest w' h ->
   (∃x∈(eA.take w.eP s (w.eN.getD 0 0) g.eU).1,x.eO=kd+4/\x.eI=k/\x.eK=n/\fN x.eF=true/\(kd=1->x.eF=o))\/X w' h) :
 lR V n0 b0 G (fun w s=>P w s/\Dg kd k n o X w s):=by
 intro m w s g rest w' i b ⟨hp,hd⟩;refine⟨fun h z d=>⟨(v m w s g rest w' i b hp).1 h z d,fun c hc hb=>?_⟩,fun j cj z d=>⟨(v m w s g rest w' i b hp).2 j cj z d,fun c hc hb=>?_⟩⟩
 ·rw[d.eD]at hc;obtain⟨f,t⟩:=hd c hc hb;refine⟨f,?_⟩;rw[d.eH];rcases t with⟨x,a,rx⟩|⟨x,a,rx⟩|a
  ·rw[b]at a;rcases aH.1 a with rfl|a
   ·rcases fj m w s x rest w' h c i b hp rx hc hb f.1 f.2.1 f.2.2 z d with⟨y,B,C,y3,y4,D,y6⟩|a
    ·exact .inr (.inl ⟨cg true y,bA _ (aW.2 ⟨y,B,rfl⟩),y3,C,y3,y4,D,y6⟩)
    exact .inr (.inr a)
   exact .inl ⟨x,bp _ a,rx⟩
  ·rw[b]at a;rcases aH.1 a with rfl|a
   ·have:=d.to;have:=rx.1;omega
   exact .inr (.inl ⟨x,bp _ a,rx⟩)
  exact .inr (.inr ((A m w s g rest w' i b ⟨hp,a⟩).1 h z d).2)
 have u:∃c0,w.eD[k]?=some c0/\c0.fB=true/\c.fE=c0.fE/\c.call=c0.call/\(j=k->c0=cj/\c=(cj.take g.eU).2):=by
  rw[d.eD,bt]at hc;split at hc
  ·rename_i e;split at hc
   ·have hc:=(aA hc).symm;rw[hc]at hb;obtain⟨E,a2,a3,-⟩:=sr _ _ hb;exact⟨cj,by rw[<- e];exact d.hc,E,by rw[hc];exact a2,by rw[hc];exact a3,fun _=>⟨rfl,hc⟩⟩
   cases hc
  rename_i e;exact⟨c,hc,hb,rfl,rfl,fun q=>absurd q e⟩
 obtain⟨c0,e1,q,F,H,I⟩:=u;obtain⟨f,t⟩:=hd c0 e1 q;refine⟨by rw[F,H];exact f,?_⟩;rw[d.eH];rcases t with⟨x,a,rx⟩|⟨x,a,rx⟩|a
 ·rw[b]at a;rcases aH.1 a with rfl|a
  ·have:=d.to;have:=rx.1;omega
  exact .inl ⟨x,bp _ a,rx⟩
 ·rw[b]at a;rcases aH.1 a with rfl|a
  ·exfalso;obtain⟨O,J,K,L,M,N⟩:=rx;(have p:j=k:=by have:=d.to;omega);obtain⟨f1,f2⟩:=I p;have hid:=(i.inv.eD j cj d.hc).id;(have:(cj.take x.eU).2.fB=false:=EX r (by rw[hid,K,p]) M J (by rw[<- f1];exact q) (by rw[L,<- f1];exact f.1.symm) (by rw[<- f1];exact f.2.2) fun e=>by rw[<- f1,f.2.1,N e]);rw[f2,this]at hb;cases hb
  exact .inr (.inl ⟨x,bp _ a,rx⟩)
 exact .inr (.inr ((A m w s g rest w' i b ⟨hp,a⟩).2 j cj z d).2)
theorem OE {w':eC} (j:Z V n0 b m G w s) (a:AG w w' k c) (i:c.fB=true->c.call.eO=kd):Dg kd k c.fE c.call.eF X w' s:=by
 intro c' g hb;have l:=(az.1 a.hc).1;rw[a.eD,aS l]at g;have g:=(aA g).symm
 have d:Alike c c':=by
  rw[g];rcases kO c with⟨-,-,e,-⟩|⟨-,e⟩
  ·exact e
  rw[e];exact .refl c
 (have f:c.fB=true:=by rw[<- d.fB];exact hb);have hid:=(j.inv.eD k c a.hc).id;refine⟨⟨d.fE,by rw[d.call],by rw[d.call];exact i f⟩,.inl ?_⟩;rcases nY c with⟨e,-⟩|⟨-,e⟩
 ·rw[f]at e;cases e
 have h:∃x∈c.fh.1,x.eO=kd/\x.eI=k/\x.eK=c.fE/\x.eF=c.call.eF:=by
  refine⟨c.fG {iH with eO:=c.call.eO,eK:=c.fE,eF:=c.call.eF,data:=if c.call.eO=2 then c.call.value.data else []},?_,i f,hid,rfl,rfl⟩
  rcases kO c with⟨-,e1,-⟩|⟨-,e1⟩
  ·rw[e1,e];simp
  rw[e1,e];simp
 obtain⟨x,n,o,p,q,r⟩:=h;refine⟨cg false x,?_,by show (-1:Int)<0;decide,o,p,q,r⟩;rw[a.eH];exact bA _ (aW.2 ⟨x,n,rfl⟩)
variable {C:List Int}
theorem zl (o:St V G P) (h:D0 V n b m st G C w s) (hp:P w s) (l:k<w.eD.length) (hb:b+1<1000000) (hm:m+1001<=1000000000000)
 {c:eM} (hc:w.eD[k]?=some c) (j:c.fB=true->c.call.eO=kd)
 (q:lR V n (b+1) G (fun w s=>P w s/\Dg kd k c.fE c.call.eF X w s)):∀i,(w.fh k).2.gi.ff=some i->∀c',(w.fh k).2.gi.eD[k]?=some c'->c'.fB=true->(c'.fE=c.fE/\c'.call.eF=c.call.eF/\c'.call.eO=kd)/\X (w.fh k).2.gi i:=by
 intro i r c' t u
 obtain⟨s2,d,e,-,p⟩:=h.dr.jd hb hm (ay l) q fun w' a z=>by
  have e1:w.eD[k]=c:=aA ((ay l).symm.trans hc);rw[e1]at a;exact⟨o.ag n b m w s w' k c h.dr.z.1 h.nil hp a z,OE h.dr.z.1 a j⟩
 have es:s2=i:=aA (d.up.symm.trans r);obtain⟨v,x⟩:=p c' t u;refine⟨v,?_⟩;rcases x with⟨g,f,-⟩|⟨g,f,-⟩|y
 ·rw[e]at f;cases f
 ·rw[e]at f;cases f
 rw[<- es];exact y
def zm (k:Nat) (w:eC) (_:eA):Prop:=∀c,w.eD[k]?=some c->c.fB=true->c.call.eO≠1
theorem pI (c:eM):c.fh.2.fB=c.fB/\c.fh.2.call=c.call/\c.fh.2.fE=c.fE:=by
 rcases kO c with⟨-,-,e,-⟩|⟨-,e⟩
 ·exact⟨e.fB,e.call,e.fE⟩
 rw[e];exact⟨rfl,rfl,rfl⟩
theorem St.zn (V:Int) (G:gd) (k:Nat):St V G (zm k):=
 St.eI (C:=fun c=>c.fB=true->c.call.eO≠1) (fun c m h hb=>by
  obtain⟨a,-,a3,-⟩:=sr c m hb
  rw[a3];exact h a) (fun c h hb=>by
  obtain⟨a,a2,-⟩:=pI c
  rw[a2];exact h (by rw[<- a];exact hb)) (fun c h hb=>h hb) k
def NR (w:eC) (s:eA):Prop:=(∀k,zm k w s)/\∀g∈w.eH.l,g.eU.eO≠1
theorem St.nr (V:Int) (G:gd):St V G NR:=by
 have j:=St.all (St.zn V G);refine⟨fun n b m w s g rest w' i h hp=>⟨fun s' z d=>⟨(j.mi n b m w s g rest w' i h hp.1).1 s' z d,fun x hx=>?_⟩,fun k c z d=>⟨(j.mi n b m w s g rest w' i h hp.1).2 k c z d,fun x hx=>?_⟩⟩,fun n b m w s w' k c i h hp a z=>⟨j.ag n b m w s w' k c i h hp.1 a z,fun x hx=>?_⟩,fun n b m w s w' s' i h hp a z=>⟨j.go n b m w s w' s' i h hp.1 a z,fun x hx=>?_⟩⟩
 ·rw[d.eH]at hx;rcases aN.1 hx with hx|hx
  ·exact hp.2 x (by rw[h];exact aI _ hx)
  obtain⟨y,f,rfl⟩:=aW.1 hx;have:=i.told (w.eN.getD 0 0) g.eU y f;show y.eO≠1;omega
 ·rw[d.eH]at hx;rcases aN.1 hx with hx|hx
  ·exact hp.2 x (by rw[h];exact aI _ hx)
  obtain⟨y,f,rfl⟩:=aW.1 hx;show y.eO≠1;rcases qd c g.eU with e|⟨-,u,e,o⟩
  ·rw[e]at f;cases f
  rw[e]at f;rw[aD.1 f];omega
 ·rw[a.eH,h]at hx;obtain⟨y,f,rfl⟩:=aW.1 hx;show y.eO≠1
  have l:∀y∈c.asks,y.eO≠1:=fun y hy=>by
   rcases nY c with⟨-,e⟩|⟨e1,e⟩
   ·rw[e]at hy;cases hy
   rw[e]at hy;rw[aD.1 hy];exact hp.1 k c a.hc e1
  rcases kO c with⟨-,e,-⟩|⟨-,e⟩
  ·rw[e]at f;rcases aH.1 f with rfl|f
   ·show (3:Int)≠1;decide
   exact l y f
  rw[e]at f;exact l y f
 rw[a.eH,h]at hx;obtain⟨y,f,rfl⟩:=aW.1 hx;have:=tA w.eP s (w.eN.getD 0 0+1) y f;show y.eO≠1;omega
theorem OF {d:fe} (hd:s.eX=false) (eB:Int) {m:eL} (a:m.eO=1) (hc:fX m.eI=true) (b:fN m.eF=true):∃x∈(eA.take d s eB m).1,x.eO=5/\x.eI=m.eI/\x.eK=m.eK/\x.eF=m.eF:=by
 unfold eA.take eA.reads
 rw[if_neg (by rw[hd,hc,b];decide)]
 simp only
 rw[if_pos a]
 repeat' split
 all_goals exact⟨_,aK,rfl,rfl,rfl,rfl⟩
theorem OG:lR V n0 b0 G (fun w s=>True/\Dg 1 k n o (fun _ _=>False) w s):=by
 refine zj (.inl rfl) ((St.nG V G).mi n0 b0) (fun m w s g rest w' _ _ h=>absurd h.2 not_false) fun m w s g rest w' s' c hz hl _ hr hc hb h1 h2 h3 z d=>.inl ?_;obtain⟨t,f,i,j,a⟩:=hr;have b:=((hz.inv.eD k c hc).kinds hb).2;rw[h2]at b;have u:=(az.1 hc).1;have v:=hz.inv.gz;obtain⟨x,l,p,q,r,e⟩:=OF (d:=w.eP) (hz.ps.up s hz.up) (w.eN.getD 0 0) f ((nJ _).2 ab) (by rw[a];exact b);exact⟨x,l,p,by rw[q,i],by rw[r,j],by rw[e,a];exact b,fun _=>by rw[e,a]⟩
theorem OH (h:D0 V n b m st G C w s) (hb:b+4<1000000) (hm:m+5005<=1000000000000) (p:n+1<=1000000) :
 ∃a,D0 V (n+1) (b+4) (m+5005) st G (C.map (·+1)) w.round a/\NR w.round a:=by
 obtain⟨a,d,-,q,-⟩:=St.round (P:=fun _ _=>True) (R:=fun _ _=>True) (Q:=zm) (St.nG V G) (fun j=>(St.nG V G).and (.zn V G j)) (.nG V G)
  (fun b m w s k h hp l hb hm a r c' f o=>by
    intro t;have hc:=ay l;by_cases i:(w.eD[k]).fB=true->(w.eD[k]).call.eO=1
    ·exact (zl (St.nG V G) h trivial l hb hm hc i OG a r c' f o).2
    obtain⟨e1,u⟩:=Classical.not_imp.1 i;obtain⟨s2,d2,v⟩:=(St.zn V G k).fh h (fun c f _=>by rw[hc]at f;rw[<- aA f];exact u) hb hm l
    exact v c' f o t)
  (fun _ _ _ _ _ _ _ _ _ _=>trivial) h trivial hb hm p
 refine⟨a,d,fun k c hc=>?_,fun g hg=>by rw[d.nil]at hg;cases hg⟩;have x:=(az.1 hc).1
 have e:w.round.eD.length=w.eD.length:=by
  have:=h.len;have:=d.len;simp only[aX]at this;omega
 exact q k ab c hc
end fS
namespace fS
open Go.RowKit fD eY fK fc
variable {V n b m:Int} {G:gd}
theorem St.or {P Q:eC->eA->Prop} (h:St V G P) (g:St V G Q):St V G (fun w s=>P w s\/Q w s):=
 ⟨fun n b m w s x rest w' e f hp=>⟨fun s' z d=>hp.imp (fun hp=>(h.mi n b m w s x rest w' e f hp).1 s' z d) fun hp=>(g.mi n b m w s x rest w' e f hp).1 s' z d,fun k c z d=>hp.imp (fun hp=>(h.mi n b m w s x rest w' e f hp).2 k c z d) fun hp=>(g.mi n b m w s x rest w' e f hp).2 k c z d⟩,
  fun n b m w s w' k c e f hp a z=>hp.imp (fun hp=>h.ag n b m w s w' k c e f hp a z) fun hp=>g.ag n b m w s w' k c e f hp a z,
  fun n b m w s w' s' e f hp a z=>hp.imp (fun hp=>h.go n b m w s w' s' e f hp a z) fun hp=>g.go n b m w s w' s' e f hp a z⟩
variable {w w':eC} {s s':eA} {g:fY} {rest:List fY}
theorem zo (a:Z V n b m G w s) (c:w.eH.l=g::rest) (hp:NR w s) (d:DS w s g rest w' s') (o:Nat):lS o s s'/\(¬(g.eU.eO=2/\g.eU.eF=o)->s.eQ o=[]->s'.eQ o=[]):=by
 rw[d.fj];exact a.ok.Oz _ (hp.2 g (by rw[c];exact aK)) (fun _=>a.OD) o
theorem wg (a:Z V n b m G w s) (d:GO w s w' s') (o:Nat):lS o s s'/\(s.eQ o=[]->s'.eQ o=[])/\∀T,T<=w.eN.getD 0 0+1->o<8->Wt s o T->Em s' o:=by
 rw[d.fj];obtain⟨-,-,h⟩:=a.ok.Oy (w.eN.getD 0 0+1);obtain⟨c,e,f⟩:=h o;refine⟨c,e,fun T hT=>f T ?_⟩;have g:=a.kn.si s a.up;have i:=sd a.kn;have hs:=a.kn.small;show T<=max s.eB (min (w.eN.getD 0 0+1) half);unfold half;omega
theorem St.keeps {o:Nat} {F:eA->Prop} (i:∀s s',lS o s s'->F s->F s'):St V G (fun w s=>NR w s/\F s):=by
 have h:=St.nr V G
 exact⟨fun n b m w s g rest w' e f hp=>⟨fun s' z d=>⟨(h.mi n b m w s g rest w' e f hp.1).1 s' z d,i _ _ (zo e f hp.1 d o).1 hp.2⟩,fun k c z d=>⟨(h.mi n b m w s g rest w' e f hp.1).2 k c z d,hp.2⟩⟩,
  fun n b m w s w' k c e f hp a z=>⟨h.ag n b m w s w' k c e f hp.1 a z,hp.2⟩,
  fun n b m w s w' s' e f hp a z=>⟨h.go n b m w s w' s' e f hp.1 a z,i _ _ (wg e a o).1 hp.2⟩⟩
theorem St.nz (V:Int) (G:gd) (o:Nat):St V G (fun w s=>NR w s/\Nz s o):=St.keeps fun _ _ h=>h.2.2
theorem St.em (V:Int) (G:gd) (o:Nat):St V G (fun w s=>NR w s/\Em s o):=St.keeps fun _ _ h=>h.1
theorem St.wt (V:Int) (G:gd) (o:Nat) (T:Int):St V G (fun w s=>NR w s/\Wt s o T):=St.keeps fun _ _ h=>h.2.1 T
variable {j k st:Nat} {cj c:eM}
theorem EY (d:DC w g rest w' j cj) (hc:w'.eD[k]?=some c) (hb:c.fB=true):∃c0,w.eD[k]?=some c0/\c0.fB=true/\c.call=c0.call:=by
 rw[d.eD,bt]at hc;split at hc
 ·rename_i e;split at hc
  ·have hc:=(aA hc).symm;rw[hc]at hb;obtain⟨a,a2,a3,-⟩:=sr _ _ hb;exact⟨cj,by rw[<- e];exact d.hc,a,by rw[hc];exact a3⟩
  cases hc
 exact⟨c,hc,hb,rfl⟩
theorem EZ (a:AG w w' j cj) (hc:w'.eD[k]?=some c) (hb:c.fB=true):∃c0,w.eD[k]?=some c0/\c0.fB=true/\c.call=c0.call:=by
 rw[a.eD,bt]at hc;split at hc
 ·rename_i e;split at hc
  ·have hc:=(aA hc).symm;obtain⟨e1,b,-⟩:=pI cj;exact⟨cj,by rw[<- e];exact a.hc,by rw[<- e1,<- hc];exact hb,by rw[hc];exact b⟩
  cases hc
 exact⟨c,hc,hb,rfl⟩
def WQ (k:Nat) (w:eC) (s:eA):Prop:=∀c,w.eD[k]?=some c->c.fB=true->c.call.eO=2->Nz s c.call.eF.toNat
theorem St.wq (V:Int) (G:gd) (k:Nat):St V G (fun w s=>NR w s/\WQ k w s):=by
 have i:=St.nr V G
 refine⟨fun n b m w s g rest w' e f hp=>⟨fun s' z d=>⟨(i.mi n b m w s g rest w' e f hp.1).1 s' z d,fun c hc hb hk=>?_⟩,fun j cj z d=>⟨(i.mi n b m w s g rest w' e f hp.1).2 j cj z d,fun c hc hb hk=>?_⟩⟩,
  fun n b m w s w' j cj e f hp a z=>⟨i.ag n b m w s w' j cj e f hp.1 a z,fun c hc hb hk=>?_⟩,
  fun n b m w s w' s' e f hp a z=>⟨i.go n b m w s w' s' e f hp.1 a z,fun c hc hb hk=>?_⟩⟩
 ·exact (zo e f hp.1 d _).1.2.2 (hp.2 c (by rw[<- d.eD];exact hc) hb hk)
 ·obtain⟨c0,e1,l,h⟩:=EY d hc hb;rw[h];exact hp.2 c0 e1 l (by rw[<- h];exact hk)
 ·obtain⟨c0,e1,l,h⟩:=EZ a hc hb;rw[h];exact hp.2 c0 e1 l (by rw[<- h];exact hk)
 obtain⟨c0,e1,rfl⟩:=a.eD k c hc;exact (wg e a _).1.2.2 (hp.2 c0 e1 hb hk)
theorem E1 {n0 b0:Int} {o:Int} (a:Z V n0 b0 m G w s) (u:w.eH.l=g::rest) (v:su 2 k n o g) (hc:w.eD[k]?=some c) (hb:c.fB=true) (H:c.fE=n) (y:c.call.eF=o) (z:c.call.eO=2) :
 (∃x∈(eA.take w.eP s (w.eN.getD 0 0) g.eU).1,x.eO=2+4/\x.eI=k/\x.eK=n/\fN x.eF=true/\((2:Int)=1->x.eF=o))\/(Nz (eA.take w.eP s (w.eN.getD 0 0) g.eU).2.2 o.toNat/\¬Em s o.toNat):=by
 obtain⟨I,A,j,B,p⟩:=v;(have d:g∈w.eH.l:=by rw[u];exact aK);have f:=a.inv.eD k c hc;have q:=(f.kinds hb).2;rw[y]at q;have J:=(az.1 hc).1;have K:=a.inv.gz;have r:=a.inv.ff s a.up;have h:fX g.eU.eI=true:=(nJ _).2 ab;(have C:fN g.eU.eF=true:=by rw[p];exact q);have i:=EO a.inv.uniq r a.inv.eG (a.ex.dk s a.up) (w.eN.getD 0 0) (a.inv.eH g d) (a.ex.rt g d)
 rcases OC r a.inv.uniq a.inv.eG (a.ps.sq s a.up) a.ok (a.ex.dk s a.up) (w.eN.getD 0 0) (a.inv.eH g d) A h C (fun D o' x b=>by
  rw[j,<- f.id]at b;have:=f.top hb z D o' x b
  omega)with⟨x,t,L,E,F⟩|b
 ·left;have:=(i x t).2.1;exact⟨x,t,ab,by rw[E,j],by rw[F,B],by unfold fN fR;simp only[aF,decide_eq_true_eq];omega,fun e=>absurd e aj⟩
 right;rw[p]at b;exact b
theorem E3 (a:Z V n b m G w s) (hp:NR w s) (hc:w.eD[k]?=some c) (hb:c.fB=true):c.call.eO=2:=by
 rcases ((a.inv.eD k c hc).kinds hb).1 with e|e
 ·exact absurd e (hp.1 k c hc hb)
 exact e
variable {C:List Int}
theorem wh {c b' m':Int} {a:Nat} (h:D0 V n b m st G C w s) (d:D0 V c b' m' a G (C.map (·+1)) w' s'):w'.eD.length=w.eD.length:=by
 have:=h.len;have:=d.len;simp only[aX]at this;omega
theorem OI (h:D0 V n b m st G C w s) (hp:NR w s) (hb:b+4<1000000) (hm:m+5005<=1000000000000) (i:n+1<=1000000) :
 ∃s',D0 V (n+1) (b+4) (m+5005) st G (C.map (·+1)) w.round s'/\NR w.round s'/\∀k,WQ k w.round s':=by
 obtain⟨s',d,p,q,-⟩:=St.round (P:=NR) (R:=fun _ _=>True) (Q:=WQ) (.nr V G) (fun j=>.wq V G j) (.nG V G)
  (fun b m w s k h hp f hb hm s' l c' o r _=>by
    have hc:=ay f
    obtain⟨e1,t⟩:=zl (kd:=2) (X:=fun _ s=>Nz s (w.eD[k]).call.eF.toNat) (.nr V G) h hp f hb hm hc (fun hb=>E3 h.dr.z.1 hp hc hb)
     (zj (.inr rfl) ((St.nr V G).mi n (b+1)) ((St.nz V G _).mi n (b+1)) fun m w s g rest w' s' c u a _ v hc hb x y A _ d=>by
       rcases E1 u a v hc hb x y A with e|e
       ·exact .inl e
       right;rw[d.fj]
       exact e.1) s' l c' o r
    rw[e1.2.1]
    exact t)
  (fun _ _ _ _ _ _ _ _ _ _=>trivial) h hp hb hm i
 refine⟨s',d,p,fun k c hc=>?_⟩;have a:=(az.1 hc).1;exact q k (by rw[<- wh h d];exact a) c hc
def QE (o:Nat) (w:eC) (s:eA):Prop:=s.eQ o=[]/\(∀(k:Nat) (c:eM),w.eD[k]?=some c->c.fB=true->c.call.eO=2->c.call.eF≠o)/\∀g∈w.eH.l,g.eU.eO=2->g.eU.eF≠o
theorem St.qe (V:Int) (G:gd) (o:Nat):St V G (fun w s=>NR w s/\QE o w s):=by
 have r:=St.nr V G
 refine⟨fun n b m w s g rest w' p l hp=>⟨fun s' z d=>⟨(r.mi n b m w s g rest w' p l hp.1).1 s' z d,?_,fun k c hc=>hp.2.2.1 k c (by rw[<- d.eD];exact hc),fun x h f=>?_⟩,fun j cj z d=>⟨(r.mi n b m w s g rest w' p l hp.1).2 j cj z d,hp.2.1,fun k c hc hb f=>?_,fun x h f=>?_⟩⟩,
  fun n b m w s w' j cj p l hp a z=>⟨r.ag n b m w s w' j cj p l hp.1 a z,hp.2.1,fun k c hc hb f=>?_,fun x h f=>?_⟩,
  fun n b m w s w' s' p l hp a z=>⟨r.go n b m w s w' s' p l hp.1 a z,(wg p a o).2.1 hp.2.1,fun k c hc hb f=>?_,fun x h f=>?_⟩⟩
 ·exact (zo p l hp.1 d o).2 (fun e=>hp.2.2.2 g (by rw[l];exact aK) e.1 e.2) hp.2.1
 ·rw[d.eH]at h;rcases aN.1 h with h|h
  ·exact hp.2.2.2 x (by rw[l];exact aI _ h) f
  obtain⟨y,i,rfl⟩:=aW.1 h;have:=p.told (w.eN.getD 0 0) g.eU y i;have f:y.eO=2:=f;omega
 ·obtain⟨c0,e1,t,q⟩:=EY d hc hb;rw[q];exact hp.2.2.1 k c0 e1 t (by rw[<- q];exact f)
 ·rw[d.eH]at h;rcases aN.1 h with h|h
  ·exact hp.2.2.2 x (by rw[l];exact aI _ h) f
  obtain⟨y,i,rfl⟩:=aW.1 h;have f:y.eO=2:=f;rcases qd cj g.eU with e|⟨-,u,e,t⟩
  ·rw[e]at i;cases i
  rw[e]at i;rw[aD.1 i]at f;omega
 ·obtain⟨c0,e1,t,q⟩:=EZ a hc hb;rw[q];exact hp.2.2.1 k c0 e1 t (by rw[<- q];exact f)
 ·rw[a.eH,l]at h;obtain⟨y,i,rfl⟩:=aW.1 h;have f:y.eO=2:=f;show y.eF≠o
  have v:∀y∈cj.asks,y.eO=2->y.eF≠o:=fun y hy f=>by
   rcases nY cj with⟨-,e⟩|⟨e1,e⟩
   ·rw[e]at hy;cases hy
   rw[e]at hy;rw[aD.1 hy]at f⊢;exact hp.2.2.1 j cj a.hc e1 f
  rcases kO cj with⟨-,e,-⟩|⟨-,e⟩
  ·rw[e]at i;rcases aH.1 i with rfl|i
   ·have f:(3:Int)=2:=f;omega
   exact v y i f
  rw[e]at i;exact v y i f
 ·obtain⟨c0,e1,rfl⟩:=a.eD k c hc;exact hp.2.2.1 k c0 e1 hb f
 rw[a.eH,l]at h;obtain⟨y,i,rfl⟩:=aW.1 h;have:=tA w.eP s (w.eN.getD 0 0+1) y i;have f:y.eO=2:=f;omega
def XO (T:Int) (o:Fin 8) (w:eC) (s:eA):Prop:=(NR w s/\Wt s o T)\/(NR w s/\QE o w s)
def YO (o:Fin 8) (w:eC) (s:eA):Prop:=(NR w s/\Em s o)\/(NR w s/\QE o w s)
theorem St.xo (V:Int) (G:gd) (T:Int):St V G (fun w s=>∀o,XO T o w s):=St.all fun o=>(St.wt V G o T).or (.qe V G o)
theorem St.yo (V:Int) (G:gd):St V G (fun w s=>∀o,YO o w s):=St.all fun o=>(St.em V G o).or (.qe V G o)
theorem OJ (h:D0 V n b m st G C w s) (hp:NR w s) (j:∀k,WQ k w s):∀o,XO (C.getD 0 0+V) o w s:=by
 intro o;have f:=h.dr.z.1;have a:=f.kn.si s f.up;have l:=a.eB;rw[h.ik]at l;by_cases e:s.eQ o=[]
 ·by_cases i:Em s o
  ·exact .inl ⟨hp,.inl i⟩
  refine .inr ⟨hp,e,fun k c hc hb p q=>?_,fun g hg=>by rw[h.nil]at hg;cases hg⟩;have:=j k c hc hb p;rw[q]at this;rcases this with d|d
  ·exact d e
  exact i d
 refine .inl ⟨hp,.inr ⟨e,by have:=a.quiet;omega,fun c hc=>?_⟩⟩;have:=(a.fT c (nT.1 hc).1.1).2;omega
theorem OL (h:D0 V n b m st G C w s) (hp:NR w s) (d:∀k,WQ k w s) (hb:b+4*V+4<1000000) (hm:m+5005*V+5005<=1000000000000) (l:n+V+1<=1000000) :
 ∃s',D0 V (n+V+1) (b+4*V+4) (m+5005*V+5005) st G (C.map (·+(V+1))) (eC.iz (V.toNat+1) w) s'/\∀o,YO o (eC.iz (V.toNat+1) w) s':=by
 have hV:=h.dr.z.1.kn.hV;have e:((V.toNat:Nat):Int)=V:=ab;obtain⟨s1,d1,f⟩:=(St.xo V G (C.getD 0 0+V)).rounds V.toNat h (OJ h hp d) ab ab ab;rw[e]at d1
 obtain⟨s2,d2,-,-,g⟩:=St.round (P:=fun w s=>∀o,XO (C.getD 0 0+V) o w s) (R:=fun w s=>∀o,YO o w s) (Q:=fun _ _ _=>True) (.xo V G _) (fun j=>(St.xo V G _).and (.nG V G)) (.yo V G) (fun _ _ _ _ _ _ _ _ _ _ _ _=>trivial)
  (fun b m w s w' s' h hp a z o=>by
    rcases hp o with hp|hp
    ·(have c:0<C.length:=by have:=h.len;simp only[aX]at this;omega);refine .inl ⟨(St.nr V G).go _ _ _ _ _ _ _ h.dr.z.1 h.nil hp.1 a z,(wg h.dr.z.1 a o).2.2 (C.getD 0 0+V) ?_ o.2 hp.2⟩;rw[h.ik]
     cases C with
     |nil=>simp at c
     |cons x C=>simp;omega
    exact .inr ((St.qe V G o).go _ _ _ _ _ _ _ h.dr.z.1 h.nil hp a z)) d1 f ab ab ab
 refine⟨s2,?_,by rw[oX];exact g⟩
 have i:(C.map (·+V)).map (·+1)=C.map (·+(V+1)):=by
  rw[List.map_map];congr 1;funext x;show x+V+1=x+(V+1);omega
 rw[i]at d2;rw[oX];exact d2
def Idle (k:Nat) (w:eC) (_:eA):Prop:=∀c,w.eD[k]?=some c->c.fB=false
theorem St.idle (V:Int) (G:gd) (k:Nat):St V G (Idle k):=
 St.eI (C:=fun c=>c.fB=false) (fun c m h=>by
  cases hb:(c.take m).2.fB with
  |false=>rfl
  |true=>rw[(sr c m hb).1]at h;cases h) (fun c h=>(pI c).1.trans h) (fun c h=>h) k
theorem OM (h:D0 V n b m st G C w s) (hp:∀o,YO o w s) (hb:b+4<1000000) (hm:m+5005<=1000000000000) (t:n+1<=1000000) :
 ∃s',D0 V (n+1) (b+4) (m+5005) st G (C.map (·+1)) w.round s'/\(∀k,Idle k w.round s')/\∀o,o<8->s'.eQ o=[]:=by
 obtain⟨s',d,p,q,-⟩:=St.round (P:=fun w s=>∀o,YO o w s) (R:=fun _ _=>True) (Q:=Idle) (.yo V G) (fun j=>(St.yo V G).and (.idle V G j)) (.nG V G)
  (fun b m w s k h hp f hb hm s' u c' a=>by
    have hc:=ay f;have e:NR w s:=by rcases hp 0 with h|h<;>exact h.1
    cases hcb:(w.eD[k]).fB with
    |false =>
     obtain⟨s2,d2,v⟩:=(St.idle V G k).fh h (fun c a=>by rw[hc]at a;rw[<- aA a];exact hcb) hb hm f;exact v c' a
    |true =>
     have r:=E3 h.dr.z.1 e hc hcb;obtain⟨o1,x,y⟩:=jA ((h.dr.z.1.inv.eD k _ hc).kinds hcb).2
     have i:Em s (w.eD[k]).call.eF.toNat:=by
      rcases hp ⟨_,x⟩with hp|hp
      ·exact hp.2
      exact absurd y.symm (hp.2.2.1 k _ hc hcb r)
     cases TF:c'.fB with
     |false=>rfl
     |true =>
      exfalso
      exact (zl (kd:=2) (X:=fun _ _=>False) (St.em V G (w.eD[k]).call.eF.toNat) h ⟨e,i⟩ f hb hm hc (fun _=>r)
       (zj (.inr rfl) ((St.em V G _).mi n (b+1)) (fun m w s g rest w' _ _ h=>absurd h.2 not_false) fun m w s g rest w' s' c hz hl hp hr hc hb h1 h2 h3 _ d=>by
         rcases E1 hz hl hr hc hb h1 h2 h3 with l|l
         ·exact .inl l
         exact absurd hp.2 l.2) s' u c' a TF).2)
  (fun _ _ _ _ _ _ _ _ _ _=>trivial) h hp hb hm t
 refine⟨s',d,fun k c hc=>?_,fun o ho=>?_⟩
 ·have hl:=(az.1 hc).1;exact q k (by rw[<- wh h d];exact hl) c hc
 rcases p ⟨o,ho⟩with hp|hp
 ·exact hp.2.1
 exact hp.2.1
end fS
namespace fS
open Go.RowKit fD eY fK fc
theorem E4:∀(a:List Nat) (d:fe) (s:eA) (out:List eL) (_:∀k∈a,s.eQ k=[]),eA.gY a d s out=(out,d,s)
 | [],_,_,_,_=>rfl
 |k::a,d,s,out,h=>by
  unfold eA.gY;rw[pE (.inl (h k aK))];simp only[bG];exact E4 a d s out fun j b=>h j (aI _ b)
variable {d:fe} {s s':eA}
theorem wi (hd:s.eX=false) (a:∀o,o<8->s.eQ o=[]) (n:Int):eA.tick d s n=([],d,s.at_ n):=by
 unfold eA.tick;rw[hd];exact E4 _ _ _ _ fun k b=>a k (bP.1 b)
theorem ON (a:∀o,o<8->s.eQ o=[]) (c:Int):s.pending c=[]:=by
 unfold eA.pending;rw[df];intro k b;rw[a k (bP.1 b)];simp
def jN (s:eA) (m:eL):Prop:=m.eS=s.eS/\m.fx=s.eW.fx m.eI
theorem E5 {m:eL} (hc:fX m.eI=true):s.kF m=true↔jN s m:=by
 unfold eA.kF jN;rw[hc];simp
structure j8 (s s':eA):Prop where
 eQ:∀o,o<8->s'.eQ o=s.eQ o
 eS:s'.eS=s.eS
 jz:s'.eW.jz=s.eW.jz
 values:s'.values=s.values
theorem j8.fx (h:j8 s s') (c:Int):s'.eW.fx c=s.eW.fx c:=by
 unfold fW.fx;rw[h.jz]
theorem j8.eB (h:j8 s s') (m:eL):jN s' m↔jN s m:=by
 unfold jN;rw[h.eS,h.fx]
theorem j8.mW (s:eA) (n:Int):j8 s (s.at_ n):=⟨fun _ _=>rfl,rfl,rfl,rfl⟩
theorem j8.trans {a b c:eA} (h:j8 a b) (g:j8 b c):j8 a c:=⟨fun o d=>(g.eQ o d).trans (h.eQ o d),g.eS.trans h.eS,g.jz.trans h.jz,g.values.trans h.values⟩
theorem wj (hd:s.eX=false) (i:∀o,o<8->s.eQ o=[]) (n:Int) {m:eL} (c:m.eO≠1/\m.eO≠2/\m.eO≠4) :
 (eA.take d s n m).2.1=d/\j8 s (eA.take d s n m).2.2 /\
 (∀x∈(eA.take d s n m).1,(x.eO=7\/x.eO=8)/\x.eI=m.eI/\jN s x/\m.eO=3) /\
 (m.eO=3->fX m.eI=true->fN m.eF=true->(jN s m->∃x∈(eA.take d s n m).1,x.eO=7/\x.eI=m.eI/\x.eK=m.eK/\x.eF=0)/\(¬jN s m->∃x∈(eA.take d s n m).1,x.eO=8/\x.eI=m.eI/\x.eF=0)):=by
 unfold eA.take;by_cases hc:(s.eX||!fX m.eI||!fN m.eF)=true
 ·rw[if_pos hc];refine⟨rfl,⟨fun _ _=>rfl,rfl,rfl,rfl⟩,fun x hx=>(by cases hx),fun _ h1 h2=>?_⟩;rw[hd,h1,h2]at hc;cases hc
 rw[if_neg hc];simp only[bz,aV,not_or,bu]at hc;simp only;rw[if_neg c.1,if_neg c.2.1,if_neg c.2.2];by_cases a:m.eO=3
 ·rw[if_pos a];have h:=j8.mW s n;have f:∀o,o<8->(s.at_ n).eQ o=[]:=i;have g:=E5 (s:=s.at_ n) hc.1.2;rw[h.eB]at g;unfold eA.j9;by_cases b:jN s m
  ·rw[if_neg (by rw[g.2 b];decide)];rw[ON f];simp only[bD,List.isEmpty_nil,cT,bh,if_false];refine⟨trivial,⟨fun _ _=>rfl,rfl,(vU _ _ _).1,rfl⟩,fun x hx=>?_,fun _ _ _=>⟨fun _=>⟨_,aK,rfl,rfl,rfl,rfl⟩,fun hh=>absurd b hh⟩⟩;rw[aD.1 hx];refine⟨.inl rfl,rfl,⟨rfl,?_⟩,a⟩;show ((s.at_ n).eW.fa m.eI _).2.fx m.eI=s.eW.fx m.eI;unfold fW.fx;rw[(vU _ _ _).1];rfl
  rw[if_pos (by rw[aV,<- dj];exact fun e=>b (g.1 e))];refine⟨rfl,h,fun x hx=>?_,fun _ _ _=>⟨fun hh=>absurd hh b,fun _=>⟨_,aK,rfl,rfl,rfl⟩⟩⟩;rw[aD.1 hx];exact⟨.inr rfl,rfl,⟨rfl,rfl⟩,a⟩
 rw[if_neg a];exact⟨rfl,.mW s n,fun x hx=>(by cases hx),fun e=>absurd e a⟩
theorem wk (c:eM) (m:eL) (b:m.eO≠5) (d:m.eO≠6) (e:m.eO≠9) :
 (c.take m).1=[]/\((c.take m).2=c \/
 (m.eO=7/\m.eI=c.id/\m.eS=c.eS/\m.fx=c.fx/\c.ij≠0/\m.eK=c.ij/\(c.take m).2={c with fa:=c.ends c.iV c.eZ.fa,ij:=0}) \/
 (m.eO=8/\m.eI=c.id/\(c.eS<m.eS\/(m.eS=c.eS/\c.fx<m.fx))/\(c.take m).2={c with eS:=m.eS,fx:=m.fx,fa:=0,ij:=0,cache:=[],gW:=[]})):=by
 unfold eM.take;split
 ·exact⟨rfl,.inl rfl⟩
 rename_i hc;simp only[bz,aV,not_or,bu,decide_eq_false_iff_not,Classical.not_not]at hc;simp only;split
 ·rename_i a;split
  ·rename_i h;simp only[aF,decide_eq_true_eq]at h;exact⟨rfl,.inr (.inl ⟨a,hc.1,h.1.1.1,h.1.1.2,h.1.2,h.2,rfl⟩)⟩
  exact⟨rfl,.inl rfl⟩
 split
 ·rename_i h8;split
  ·rename_i h;simp only[bz,aF,decide_eq_true_eq]at h;exact⟨rfl,.inr (.inr ⟨h8,hc.1,h,rfl⟩)⟩
  exact⟨rfl,.inl rfl⟩
 exact⟨rfl,.inl rfl⟩
structure NQ (w:eC) (s:eA):Prop where
 idle:∀k,Idle k w s
 eQ:∀o,o<8->s.eQ o=[]
 eH:∀g∈w.eH.l,g.eU.eO=3\/(g.eU.eO=7/\jN s g.eU)\/g.eU.eO=8
variable {c:eM}
theorem E6 (h:c.fB=false):c.asks=[]:=by
 rcases nY c with⟨-,e⟩|⟨e,-⟩
 ·exact e
 rw[h]at e;cases e
theorem E7 (h:c.fB=false):∀x∈c.fh.1,x=mJ c:=fun x a=>by
 rcases kO c with⟨-,e,-⟩|⟨-,e⟩
 ·rw[e,E6 h]at a;exact aD.1 a
 rw[e,E6 h]at a;cases a
variable {V n b m:Int} {G:gd} {w w':eC} {g:fY} {rest:List fY}
theorem wu (a:Z V n b m G w s) (c:w.eH.l=g::rest) (hp:NQ w s) (d:DS w s g rest w' s'):w'.eP=w.eP/\j8 s s'/\(∀x∈(eA.take w.eP s (w.eN.getD 0 0) g.eU).1,(x.eO=7\/x.eO=8)/\x.eI=g.eU.eI/\jN s x/\g.eU.eO=3):=by
 have e:=hp.eH g (by rw[c];exact aK);obtain⟨t1,t2,t3,-⟩:=wj (d:=w.eP) (a.ps.up s a.up) hp.eQ (w.eN.getD 0 0) (m:=g.eU) ⟨ab,ab,ab⟩;exact⟨d.eP.trans t1,by rw[d.fj];exact t2,t3⟩
theorem St.nq (V:Int) (G:gd):St V G NQ:=by
 have h:=St.all (St.idle V G)
 refine⟨fun n b m w s g rest w' e c hp=>⟨fun s' z d=>?_,fun j cj z d=>⟨(h.mi n b m w s g rest w' e c hp.idle).2 j cj z d,hp.eQ,fun x hx=>?_⟩⟩,
  fun n b m w s w' j cj e c hp a z=>⟨h.ag n b m w s w' j cj e c hp.idle a z,hp.eQ,fun x hx=>?_⟩,
  fun n b m w s w' s' e c hp a z=>?_⟩
 ·obtain⟨t1,t2,t3⟩:=wu e c hp d;refine⟨(h.mi n b m w s g rest w' e c hp.idle).1 s' z d,fun o i=>(t2.eQ o i).trans (hp.eQ o i),fun x hx=>?_⟩;rw[d.eH]at hx;rcases aN.1 hx with hx|hx
  ·rw[t2.eB];exact hp.eH x (by rw[c];exact aI _ hx)
  obtain⟨y,k,rfl⟩:=aW.1 hx;obtain⟨f,-,l,-⟩:=t3 y k;rcases f with f|f
  ·exact .inr (.inl ⟨f,(t2.eB y).2 l⟩)
  exact .inr (.inr f)
 ·have p:=hp.eH g (by rw[c];exact aK);rw[d.eH,(wk cj g.eU ab ab ab).1]at hx;rw[bD,bG]at hx;exact hp.eH x (by rw[c];exact aI _ hx)
 ·rw[a.eH,c]at hx;obtain⟨y,k,rfl⟩:=aW.1 hx;have:=E7 (hp.idle j cj a.hc) y k;rw[this];exact .inl rfl
 have ht:=wi (d:=w.eP) (e.ps.up s e.up) hp.eQ (w.eN.getD 0 0+1);refine⟨h.go n b m w s w' s' e c hp.idle a z,fun o i=>?_,fun x hx=>?_⟩
 ·rw[a.fj,ht];exact hp.eQ o i
 rw[a.eH,ht,c]at hx;cases hx
def Kc (c:eM) (s:eA) (k:Nat):Prop:=c.eS=s.eS/\c.fx=s.eW.fx k
theorem j8.kc (h:j8 s s') (c:eM) (k:Nat):Kc c s' k↔Kc c s k:=by unfold Kc;rw[h.eS,h.fx]
variable {k st:Nat}
theorem tQ (a:Z V n b m G w s) (c:k<w.eD.length):s.eW.fx (k:Int)=gU s.eW k/\fX (k:Int)=true:=by
 have d:=a.inv.gz;have:fX (k:Int)=true:=(nJ _).2 ab;exact⟨by rw[vS,this];rfl,this⟩
theorem E8 (a:Z V n b m G w s) (d:g∈w.eH.l) (hc:w.eD[k]?=some c) (e:Kc c s k) (f:g.eU.eI=k) (h8:g.eU.eO=8):¬(c.eS<g.eU.eS\/(g.eU.eS=c.eS/\c.fx<g.eU.fx)):=by
 have h:=(az.1 hc).1;obtain⟨e1,j⟩:=tQ a h;obtain⟨-,-,-,hs⟩:=(a.kn.ni g d).fG ab (.inl h8);have o:=(a.kn.si s a.up).ep;obtain⟨p,q⟩:=e;rcases hs with hs|⟨r,i⟩
 ·omega
 have:=i s a.up;rw[f]at this;omega
def KN (k:Nat) (w:eC) (s:eA):Prop:=∀c,w.eD[k]?=some c->Kc c s k
def VT (k:Nat) (T:Int) (w:eC) (s:eA):Prop:=∀c,w.eD[k]?=some c->Kc c s k\/c.fa<=T
theorem zp (c:eM):c.fh.2.eS=c.eS/\c.fh.2.fx=c.fx/\c.fh.2.fa=c.fa:=by
 rcases kO c with⟨-,-,e,-⟩|⟨-,e⟩
 ·exact⟨e.eS,e.fx,e.fa⟩
 rw[e];exact⟨rfl,rfl,rfl⟩
theorem wv {j:Nat} {a:eM} (p:Z V n b m G w s) (q:w.eH.l=g::rest) (hp:NQ w s) (d:DC w g rest w' j a):(Kc a s j->Kc (a.take g.eU).2 s j)/\((a.take g.eU).2.fa=a.fa\/Kc (a.take g.eU).2 s j\/(a.take g.eU).2.fa=0) /\
 (¬Kc a s j->(a.take g.eU).2.fa=a.fa\/(a.take g.eU).2.fa=0):=by
 (have i:g∈w.eH.l:=by rw[q];exact aK);have c:=hp.eH g i;obtain⟨-,r|⟨u,-,f,t,-,-,e⟩|⟨h8,v,f,e⟩⟩:=wk a g.eU ab ab ab
 ·rw[r];exact⟨fun h=>h,.inl rfl,fun _=>.inl rfl⟩
 ·rw[e]
  have k:jN s g.eU:=by
   rcases c with c|⟨-,c⟩|c
   ·omega
   ·exact c
   omega
  have o:Kc a s j:=⟨by rw[<- f];exact k.1,by rw[<- t,k.2,d.cl]⟩;exact⟨fun h=>h,.inr (.inl o),fun hh=>absurd o hh⟩
 refine⟨fun h=>absurd f (E8 p i d.hc h d.cl h8),.inr (.inr (by rw[e])),fun _=>.inr (by rw[e])⟩
theorem St.vt (V:Int) (G:gd) (k:Nat) {T:Int} (hT:0<=T):St V G (fun w s=>NQ w s/\VT k T w s):=by
 have i:=St.nq V G
 refine⟨fun n b m w s g rest w' hz f hp=>⟨fun s' z d=>⟨(i.mi n b m w s g rest w' hz f hp.1).1 s' z d,fun c hc=>?_⟩,fun j cj z d=>⟨(i.mi n b m w s g rest w' hz f hp.1).2 j cj z d,fun c hc=>?_⟩⟩,
  fun n b m w s w' j cj hz f hp a z=>⟨i.ag n b m w s w' j cj hz f hp.1 a z,fun c hc=>?_⟩,
  fun n b m w s w' s' hz f hp a z=>⟨i.go n b m w s w' s' hz f hp.1 a z,fun c hc=>?_⟩⟩
 ·obtain⟨-,t2,-⟩:=wu hz f hp.1 d;rw[t2.kc];exact hp.2 c (by rw[<- d.eD];exact hc)
 ·rw[d.eD,bt]at hc;split at hc
  ·rename_i e;split at hc
   ·subst e;have hc:=(aA hc).symm;rw[hc];obtain⟨o,-,a3⟩:=wv hz f hp.1 d;by_cases l:Kc cj s j
    ·exact .inl (o l)
    right;have:=(hp.2 cj d.hc).resolve_left l;rcases a3 l with e|e<;>omega
   cases hc
  exact hp.2 c hc
 ·rw[a.eD,bt]at hc;split at hc
  ·rename_i e;split at hc
   ·subst e;have hc:=(aA hc).symm;rw[hc];obtain⟨e1,q,r⟩:=zp cj;unfold Kc;rw[e1,q,r];exact hp.2 cj a.hc
   cases hc
  exact hp.2 c hc
 exact abY
theorem St.kn (V:Int) (G:gd) (k:Nat):St V G (fun w s=>NQ w s/\KN k w s):=by
 have i:=St.nq V G
 refine⟨fun n b m w s g rest w' hz f hp=>⟨fun s' z d=>⟨(i.mi n b m w s g rest w' hz f hp.1).1 s' z d,fun c hc=>?_⟩,fun j cj z d=>⟨(i.mi n b m w s g rest w' hz f hp.1).2 j cj z d,fun c hc=>?_⟩⟩,
  fun n b m w s w' j cj hz f hp a z=>⟨i.ag n b m w s w' j cj hz f hp.1 a z,fun c hc=>?_⟩,
  fun n b m w s w' s' hz f hp a z=>⟨i.go n b m w s w' s' hz f hp.1 a z,fun c hc=>?_⟩⟩
 ·obtain⟨-,t2,-⟩:=wu hz f hp.1 d;rw[t2.kc];exact hp.2 c (by rw[<- d.eD];exact hc)
 ·rw[d.eD,bt]at hc;split at hc
  ·rename_i e;split at hc
   ·subst e;have hc:=(aA hc).symm;rw[hc];exact (wv hz f hp.1 d).1 (hp.2 cj d.hc)
   cases hc
  exact hp.2 c hc
 ·rw[a.eD,bt]at hc;split at hc
  ·rename_i e;split at hc
   ·subst e;have hc:=(aA hc).symm;rw[hc];obtain⟨e1,l,-⟩:=zp cj;unfold Kc;rw[e1,l];exact hp.2 cj a.hc
   cases hc
  exact hp.2 c hc
 exact abY
def RK (k:Nat) (w:eC) (s:eA):Prop:=∀c,w.eD[k]?=some c->Kc c s k \/
 (∃g∈w.eH.l,g.to<0/\g.eU.eO=3/\g.eU.eI=k/\fN g.eU.eF=true/\¬jN s g.eU) \/
 (∃g∈w.eH.l,g.to=k/\g.eU.eO=8/\g.eU.eI=k/\fN g.eU.eF=true/\jN s g.eU)
theorem OO:lR V n b G (fun w s=>NQ w s/\RK k w s):=by
 have E:=(St.nq V G).mi n b;intro m w s g rest w' f i hp;refine⟨fun s' z d=>⟨(E m w s g rest w' f i hp.1).1 s' z d,fun c hc=>?_⟩,fun j cj z d=>⟨(E m w s g rest w' f i hp.1).2 j cj z d,fun c hc=>?_⟩⟩
 ·obtain⟨-,t2,t3⟩:=wu f i hp.1 d;rw[d.eD]at hc;have v:=(az.1 hc).1;have A:=hp.1.eH g (by rw[i];exact aK);rw[t2.kc,d.eH];rcases hp.2 c hc with u|⟨x,a,t,p,o,q,r⟩|⟨x,a,t,p,o,q,r⟩
  ·exact .inl u
  ·rw[i]at a;rcases aH.1 a with rfl|a
   ·obtain⟨-,-,-,t4⟩:=wj (d:=w.eP) (f.ps.up s f.up) hp.1.eQ (w.eN.getD 0 0) (m:=x.eU) ⟨ab,ab,ab⟩;obtain⟨y,F,H,y3,y4⟩:=(t4 p (by rw[o];exact (tQ f v).2) q).2 r;refine .inr (.inr ⟨cg true y,bA _ (aW.2 ⟨y,F,rfl⟩),y3.trans o,H,y3.trans o,?_,(t2.eB y).2 (t3 y F).2.2.1⟩);show fN y.eF=true;rw[y4];rfl
   exact .inr (.inl ⟨x,bp _ a,t,p,o,q,fun e=>r ((t2.eB _).1 e)⟩)
  rw[i]at a;rcases aH.1 a with rfl|a
  ·have:=d.to;omega
  exact .inr (.inr ⟨x,bp _ a,t,p,o,q,(t2.eB _).2 r⟩)
 (have I:g∈w.eH.l:=by rw[i];exact aK);have A:=hp.1.eH g I
 have J:w'.eH.l=rest:=by
  rw[d.eH,(wk cj g.eU ab ab ab).1];simp
 rw[J]
 have key:∀c0,w.eD[k]?=some c0->(Kc c0 s k->Kc c s k)->(g.to=k->g.eU.eO=8->fN g.eU.eF=true->jN s g.eU->Kc c s k)->Kc c s k \/
  (∃g∈rest,g.to<0/\g.eU.eO=3/\g.eU.eI=k/\fN g.eU.eF=true/\¬jN s g.eU)\/(∃g∈rest,g.to=k/\g.eU.eO=8/\g.eU.eI=k/\fN g.eU.eF=true/\jN s g.eU):=fun c0 e0 e1 K=>by
  rcases hp.2 c0 e0 with u|⟨x,a,t,p,o,q,r⟩|⟨x,a,t,p,o,q,r⟩
  ·exact .inl (e1 u)
  ·rw[i]at a;rcases aH.1 a with rfl|a
   ·have:=d.to;omega
   exact .inr (.inl ⟨x,a,t,p,o,q,r⟩)
  rw[i]at a;rcases aH.1 a with rfl|a
  ·exact .inl (K t p q r)
  exact .inr (.inr ⟨x,a,t,p,o,q,r⟩)
 rw[d.eD,bt]at hc;split at hc
 ·rename_i e;split at hc
  ·subst e;have hc:=(aA hc).symm;refine key cj d.hc (fun h=>by rw[hc];exact (wv f i hp.1 d).1 h) fun u h8 L B=>?_;rw[hc];have v:=(az.1 d.hc).1;obtain⟨s1,s2⟩:=tQ f v;obtain⟨-,-,-,C⟩:=(f.kn.ci j cj d.hc).fG;have O:=(f.kn.si s f.up).ep;have hid:=(f.inv.eD j cj d.hc).id;by_cases D:cj.eS<g.eU.eS\/(g.eU.eS=cj.eS/\cj.fx<g.eU.fx)
   ·have:(cj.take g.eU).2={cj with eS:=g.eU.eS,fx:=g.eU.fx,fa:=0,ij:=0,cache:=[],gW:=[]}:=by
     unfold eM.take;rw[if_neg (by rw[d.cl,hid,L];simp)];simp only
     rw[if_neg ab,if_neg ab,if_neg ab,if_pos h8,if_pos (by
      simp only[bz,aF,decide_eq_true_eq]
      exact D)]
    rw[this];refine⟨B.1,?_⟩;show g.eU.fx=_;rw[B.2,d.cl]
   refine (wv f i hp.1 d).1 ?_;obtain⟨n1,M⟩:=B;rw[d.cl]at M
   have P:cj.eS=Ep w/\cj.fx<=gU s.eW j:=by
    rcases C with h|⟨h,N⟩
    ·exfalso;apply D;left;omega
    exact⟨h,N s f.up⟩
   refine⟨ab,?_⟩;have:¬cj.fx<g.eU.fx:=fun h=>D (.inr ⟨ab,h⟩);omega
  cases hc
 rename_i e;exact key c hc (fun h=>h) fun u _ _ _=>absurd (by have:=d.to;omega) e
variable {C:List Int}
theorem OP (h:D0 V n b m st G C w s) (hp:NQ w s) (o:k<w.eD.length) (hb:b+1<1000000) (hm:m+1001<=1000000000000)
 (hv:VT k (C.getD (k+1) 0+2) w s):∀s',(w.fh k).2.gi.ff=some s'->KN k (w.fh k).2.gi s':=by
 intro s' r c' t;have hc:=ay o
 obtain⟨s2,d,e,-,p⟩:=h.dr.jd hb hm hc (OO (k:=k)) fun w' a z=>by
  refine⟨(St.nq V G).ag n b m w s w' k _ h.dr.z.1 h.nil hp a z,fun c2 f=>?_⟩;rw[a.eD,aS o]at f;have f:=(aA f).symm;obtain⟨e1,u,-⟩:=zp (w.eD[k]);by_cases i:Kc (w.eD[k]) s k
  ·left;rw[f];exact⟨e1.trans i.1,u.trans i.2⟩
  right;left;have v:=(hv _ hc).resolve_left i;have q:=h.dr.z.1.kn.ci k _ hc;have x:=q.eB;rw[h.ik]at x;have D:=h.dr.z.1.kn.pH hc;have y:=q.fT;have hV:=h.dr.z.1.kn.hV;have E:=h.dr.z.1.kn.small;have hid:=(h.dr.z.1.inv.eD k _ hc).id;rcases kO (w.eD[k])with⟨-,j,-⟩|⟨j,-⟩
  ·refine⟨cg false (mJ (w.eD[k])),?_,by show (-1:Int)<0;decide,rfl,hid,rfl,fun A=>i ?_⟩
   ·rw[a.eH,j];exact bA _ ae
   obtain⟨n1,l⟩:=A;have l:(w.eD[k]).fx=s.eW.fx (w.eD[k]).id:=l;exact⟨n1,by rw[l,hid]⟩
  exfalso;apply j;rw[jC ab ab];omega
 have es:s2=s':=aA (d.up.symm.trans r);rw[<- es];rcases p c' t with B|⟨g,c,-⟩|⟨g,c,-⟩
 ·exact B
 ·rw[e]at c;cases c
 rw[e]at c;cases c
theorem OQ (h:D0 V n b m st G C w s) (hp:NQ w s) (hb:b+4*V+4<1000000) (hm:m+5005*V+5005<=1000000000000) (u:n+V+1<=1000000) :
 ∃s',D0 V (n+V+1) (b+4*V+4) (m+5005*V+5005) st G (C.map (·+(V+1))) (eC.iz (V.toNat+1) w) s'/\NQ (eC.iz (V.toNat+1) w) s'/\∀k,KN k (eC.iz (V.toNat+1) w) s':=by
 have hV:=h.dr.z.1.kn.hV;have i:((V.toNat:Nat):Int)=V:=ab
 have l:∀k,k+1<C.length->0<=C.getD (k+1) 0:=fun k hk=>by
  rw[aC,ay hk];exact (h.dr.z.1.kn.ik _ (by rw[h.ik];exact bO _)).1
 have hT:∀k,0<=max 0 (C.getD (k+1) 0+V):=fun k=>ab
 obtain⟨s1,d1,o⟩:=(St.all fun k=>St.vt V G k (hT k)).rounds V.toNat h (fun k=>⟨hp,fun c hc=>by
  right;have f:=h.dr.z.1.kn.ci k c hc;have:=f.eB;rw[h.ik]at this;have:=f.fT
  omega⟩) ab ab ab
 rw[i]at d1
 obtain⟨s2,d2,p,q,-⟩:=St.round (P:=fun w s=>∀k,NQ w s/\VT k (max 0 (C.getD (k+1) 0+V)) w s) (Q:=KN) (R:=fun _ _=>True) (St.all fun k=>St.vt V G k (hT k))
  (fun j=>⟨fun n b m w s g rest w' hz hl hp=>⟨fun s' z d=>⟨((St.all fun k=>St.vt V G k (hT k)).mi n b m w s g rest w' hz hl hp.1).1 s' z d,(((St.kn V G j).mi n b m w s g rest w' hz hl ⟨(hp.1 0).1,hp.2⟩).1 s' z d).2⟩,fun k c z d=>⟨((St.all fun k=>St.vt V G k (hT k)).mi n b m w s g rest w' hz hl hp.1).2 k c z d,(((St.kn V G j).mi n b m w s g rest w' hz hl ⟨(hp.1 0).1,hp.2⟩).2 k c z d).2⟩⟩,
    fun n b m w s w' k c hz hl hp a z=>⟨(St.all fun k=>St.vt V G k (hT k)).ag n b m w s w' k c hz hl hp.1 a z,((St.kn V G j).ag n b m w s w' k c hz hl ⟨(hp.1 0).1,hp.2⟩ a z).2⟩,
    fun n b m w s w' s' hz hl hp a z=>⟨(St.all fun k=>St.vt V G k (hT k)).go n b m w s w' s' hz hl hp.1 a z,((St.kn V G j).go n b m w s w' s' hz hl ⟨(hp.1 0).1,hp.2⟩ a z).2⟩⟩)
  (.nG V G) (fun b m w s k h hp hk hb hm s' r=>by
    refine OP h (hp k).1 hk hb hm (fun c hc=>((hp k).2 c hc).imp id fun hle=>?_) s' r;have hl:=h.len;simp only[aX]at hl;have v:=l k ab
    have e:(C.map (·+V)).getD (k+1) 0=C.getD (k+1) 0+V:=by
     rw[aC,br,ay ab,aC,ay ab];rfl
    rw[e]
    omega) (fun _ _ _ _ _ _ _ _ _ _=>trivial) d1 o ab ab ab
 have t:(C.map (·+V)).map (·+1)=C.map (·+(V+1)):=by
  rw[List.map_map];congr 1;funext x;show x+V+1=x+(V+1);omega
 have hlen:=wh d1 d2;rw[t]at d2;rw[oX];refine⟨s2,d2,(p 0).1,fun k c hc=>q k ?_ c hc⟩;have hl:=(az.1 hc).1;rw[<- hlen];exact hl
end fS
namespace fS
open Go.RowKit fD eY fK fc
variable {w w':eC} {k i:Nat}
theorem wB (h:∀c,w.eD[k]?=some c->w.ft.getD k (-1)<0\/c.fB=true):w.gG k=w:=by
 unfold eC.gG
 cases hc:w.eD[k]? with
 |none=>rfl
 |some c =>
  cases ho:w.ft[k]? with
  |none=>rfl
  |some e =>
   (have d:w.ft.getD k (-1)=e:=by rw[aC,ho];rfl);simp only;rw[if_neg];intro a;simp only[aF,decide_eq_true_eq,aV]at a;rcases h c hc with b|b
   ·omega
   rw[b]at a;cases a.2
def nZ (k i:Nat) (w:eC) (_:eA):Prop:=w.fg.length=i+1/\∀c,w.eD[k]?=some c->(c.fB=true/\w.ft.getD k (-1)=i)\/(c.fB=false/\w.ft.getD k (-1)<0/\∃e,w.fg[i]?=some e/\1<=e.ended/\e.call=c.call)
variable {c:eM} {s s':eA}
theorem E9 {x:eC} (hc:x.eD[k]?=some c) (e:x.fg.length=i+1) (f:1<=x.step) (b:k<x.ft.length) (d:x.ft.getD k (-1)=i):nZ k i (x.gG k) s:=by
 have e0:x.ft[k]?=some (i:Int):=by
  rw[ay b];rw[aC,ay b]at d;rw[<- d];rfl
 cases hb:c.fB with
 |true =>
  rw[wB fun c' a=>.inr (by rw[hc]at a;rw[<- aA a];exact hb)];exact⟨e,fun c' a=>.inl (by rw[hc]at a;rw[<- aA a];exact⟨hb,d⟩)⟩
 |false =>
  have hi:(i:Nat)<x.fg.length:=ab
  have e1:x.gG k={x with fg:=x.fg.set i {x.fg[i]with call:=c.call,ended:=x.step},ft:=x.ft.set k (-1)}:=by
   unfold eC.gG;rw[hc,e0];simp only;rw[if_pos (by rw[hb];simp)];simp only[bo];rw[ay hi]
  rw[e1];refine⟨by show (x.fg.set i _).length=_;rw[aU];exact e,fun c' a=>.inr ?_⟩;have a:x.eD[k]?=some c':=a;rw[hc]at a;rw[<- aA a];refine⟨hb,?_,{x.fg[i]with call:=c.call,ended:=x.step},?_,f,rfl⟩
  ·show (x.ft.set k (-1)).getD k (-1)<0;rw[lN,if_pos ⟨rfl,b⟩];decide
  show (x.fg.set i _)[i]?=_;rw[aS hi]
theorem Fa (m:eL) (h:c.fB=false):(c.take m).2.call=c.call:=by
 unfold eM.take;split
 ·rfl
 simp only;split
 ·unfold eM.lr;rw[if_pos (by rw[h];rfl)]
 split
 ·rw[if_neg (by rw[h];simp)]
 split
 ·split<;>rfl
 split
 ·split<;>rfl
 split
 ·split<;>rfl
 rfl
variable {V n b m:Int} {G:gd}
theorem Fb {P:eC->eA->Prop} (u:lR V n b G P) (hid:∀w s,P w s->∀j,j≠k->Idle j w s):lR V n b G (fun w s=>P w s/\nZ k i w s):=by
 intro m w s g rest w' o v hp;refine⟨fun s' z d=>⟨(u m w s g rest w' o v hp.1).1 s' z d,?_⟩,fun j cj z d=>⟨(u m w s g rest w' o v hp.1).2 j cj z d,?_⟩⟩
 ·unfold nZ;rw[d.ev.1,d.ev.2,d.eD];exact hp.2
 obtain⟨x,r,f,a,y,B⟩:=d.ev;have A:=(az.1 d.hc).1;by_cases e:j=k
 ·subst e;(have l:x.eD[j]?=some (cj.take g.eU).2:=by rw[y,aS A]);(have C:j<x.ft.length:=by rw[a,o.inv.no];exact A);rcases hp.2.2 cj d.hc with⟨p,q⟩|⟨p,q,e,D,E,F⟩
  ·rw[r];exact E9 l (by rw[f];exact hp.2.1) B C (by rw[a];exact q)
  have H:(cj.take g.eU).2.fB=false:=by
   cases hb:(cj.take g.eU).2.fB with
   |false=>rfl
   |true=>rw[(sr _ _ hb).1]at p;cases p
  rw[r,wB fun c' _=>.inl (by rw[a];exact q)];refine⟨by rw[f];exact hp.2.1,fun c hc=>.inr ?_⟩;rw[l]at hc;rw[<- aA hc];exact⟨H,by rw[a];exact q,e,by rw[f];exact D,E,by rw[Fa _ p];exact F⟩
 have t:=hid w s hp.1 j e cj d.hc
 have I:w.ft.getD j (-1)<0:=by
  rcases Int.lt_or_le (w.ft.getD j (-1)) 0 with h|h
  ·exact h
  have:=o.ex.op j cj d.hc h;rw[t]at this;cases this
 rw[r,wB fun c' _=>.inl (by rw[a];exact I)];refine⟨by rw[f];exact hp.2.1,fun c hc=>?_⟩;rw[f,a];exact hp.2.2 c (by rw[y,a8 e]at hc;exact hc)
theorem Fc {j:Nat} {b:eM} (h:nZ k i w s) (a:AG w w' j b):nZ k i w' s:=by
 unfold nZ;rw[a.ev.1,a.ev.2];refine⟨h.1,fun c hc=>?_⟩;rw[a.eD,bt]at hc;split at hc
 ·rename_i e;split at hc
  ·subst e;rw[<- aA hc,(pI b).1,(pI b).2.1];exact h.2 b a.hc
  cases hc
 exact h.2 c hc
theorem Fe (h:nZ k i w s) (a:GO w s w' s'):nZ k i w' s':=by
 unfold nZ;rw[a.ev.1,a.ev.2];refine⟨h.1,fun c hc=>?_⟩;obtain⟨c0,e1,rfl⟩:=a.eD k c hc;exact h.2 c0 e1
def V5 (s:eA) (m:eL):Prop:=jN s m/\m.gE=true/\m.fJ=(s.value m.eF.toNat).fq/\m.data=(s.value m.eF.toNat).data
theorem j8.value (h:j8 s s') (o:Nat):s'.value o=s.value o:=by unfold eA.value;rw[h.values]
theorem j8.v5 (h:j8 s s') (m:eL):V5 s' m↔V5 s m:=by unfold V5;rw[h.eB,h.value]
def G5 (s:eA) (m:eL):Prop:=m.eO=3\/(m.eO=7/\jN s m)\/m.eO=8\/(m.eO=1/\jN s m)\/(m.eO=5/\V5 s m)
theorem j8.g5 (h:j8 s s') (m:eL):G5 s' m↔G5 s m:=by unfold G5;rw[h.eB,h.v5]
structure NF (k:Nat) (w:eC) (s:eA):Prop where
 idle:∀j,j≠k->Idle j w s
 eQ:∀o,o<8->s.eQ o=[]
 eH:∀g∈w.eH.l,G5 s g.eU
theorem Z.OR (h:Z V n b m G w s):fR (ji (s.at_ (w.eN.getD 0 0)).eB (s.at_ (w.eN.getD 0 0)).eZ.eF) 0 jO=true:=by
 have a:=h.kn.si s h.up;have d:=sd h.kn;have hs:=h.kn.small;have e:=oT h.kn.right
 have e1:(s.at_ (w.eN.getD 0 0)).eB=w.eN.getD 0 0:=by
  show max s.eB (min (w.eN.getD 0 0) half)=_;rw[a.eB];unfold half;omega
 (have c:(s.at_ (w.eN.getD 0 0)).eZ.eF=w.eZ.eF:=by show s.eZ.eF=_;rw[a.eZ]);rw[e1,c];refine (yN ?_ ?_).2<;>(unfold fR jO;simp only[aF,decide_eq_true_eq];omega)
theorem Ff {g:fY} {rest:List fY} (a:Z V n b m G w s) (o:w.eH.l=g::rest) (hp:NF k w s) (d:DS w s g rest w' s') :
 j8 s s'/\(∀x∈(eA.take w.eP s (w.eN.getD 0 0) g.eU).1,x.eI=g.eU.eI/\G5 s x/\x.eO≠1/\x.eO≠3/\(x.eO=7->g.eU.eO=3)) /\
 (g.eU.eO=1->fX g.eU.eI=true->fN g.eU.eF=true->∃x∈(eA.take w.eP s (w.eN.getD 0 0) g.eU).1,x.eO=5/\x.eI=g.eU.eI/\x.eK=g.eU.eK/\x.eF=g.eU.eF):=by
 have i:=hp.eH g (by rw[o];exact aK);rw[d.fj];by_cases c:g.eU.eO=1
 ·have p:jN s g.eU:=by
   rcases i with h|⟨h,-⟩|h|⟨-,h⟩|⟨h,-⟩
   ·omega
   ·omega
   ·omega
   ·exact h
   omega
  have j:=a.OR;have q:=a.ps.up s a.up;unfold eA.take;by_cases hc:(s.eX||!fX g.eU.eI||!fN g.eU.eF)=true
  ·rw[if_pos hc];refine⟨⟨fun _ _=>rfl,rfl,rfl,rfl⟩,fun x hx=>(by cases hx),fun _ c h2=>?_⟩;rw[q,c,h2]at hc;cases hc
  rw[if_neg hc];simp only[bz,aV,not_or,bu]at hc;simp only;rw[if_pos c];obtain⟨o1,r,A⟩:=jA hc.2;unfold eA.reads;have t:=j8.mW s (w.eN.getD 0 0);have u:(s.at_ (w.eN.getD 0 0)).eQ g.eU.eF.toNat=[]:=hp.eQ _ r;have v:(s.at_ (w.eN.getD 0 0)).kF g.eU=true:=(E5 hc.1.2).2 ((t.eB _).2 p);simp only;rw[if_neg (by rw[v];decide),u];simp only[List.isEmpty_nil,if_true];have y:=yM (s.at_ (w.eN.getD 0 0)).eW g.eU.eI g.eU.eF (ji (s.at_ (w.eN.getD 0 0)).eB (s.at_ (w.eN.getD 0 0)).eZ.eF)
  have z:((s.at_ (w.eN.getD 0 0)).eW.eF g.eU.eI g.eU.eF (ji (s.at_ (w.eN.getD 0 0)).eB (s.at_ (w.eN.getD 0 0)).eZ.eF)).1=0:=by
   unfold fW.eF;rw[if_pos (by rw[hc.1.2,hc.2,j];rfl)]
  refine⟨⟨fun _ _=>rfl,rfl,y.1,rfl⟩,fun x hx=>?_,fun _ _ _=>⟨_,aK,rfl,rfl,rfl,rfl⟩⟩;rw[aD.1 hx];refine⟨rfl,.inr (.inr (.inr (.inr ⟨rfl,⟨rfl,rfl⟩,?_,rfl,rfl⟩))),by show (5:Int)≠1;decide,by show (5:Int)≠3;decide,fun e=>absurd e (by show ¬(5:Int)=7;decide)⟩;show decide (_=(0:Int))=true;rw[z];rfl
 obtain⟨-,t2,t3,-⟩:=wj (d:=w.eP) (a.ps.up s a.up) hp.eQ (w.eN.getD 0 0) (m:=g.eU) ⟨c,by rcases i with h|⟨h,-⟩|h|⟨h,-⟩|⟨h,-⟩<;>omega,by rcases i with h|⟨h,-⟩|h|⟨h,-⟩|⟨h,-⟩<;>omega⟩;refine⟨t2,fun x hx=>?_,fun e=>absurd e c⟩;obtain⟨f,a2,a3,a4⟩:=t3 x hx;refine⟨a2,?_,ab,ab,fun _=>a4⟩;rcases f with f|f
 ·exact .inr (.inl ⟨f,a3⟩)
 exact .inr (.inr (.inl f))
theorem Fg (c:eM) {m:eL} (h:G5 s m):(c.take m).1=[]/\((c.take m).2=c \/
 (m.eO=7/\m.eI=c.id/\m.eS=c.eS/\m.fx=c.fx/\c.ij≠0/\m.eK=c.ij/\(c.take m).2={c with fa:=c.ends c.iV c.eZ.fa,ij:=0}) \/
 (m.eO=8/\m.eI=c.id/\(c.eS<m.eS\/(m.eS=c.eS/\c.fx<m.fx))/\(c.take m).2={c with eS:=m.eS,fx:=m.fx,fa:=0,ij:=0,cache:=[],gW:=[]}) \/
 (m.eO=5/\V5 s m/\m.eI=c.id/\c.fB=true/\m.eK=c.fE/\c.call.eO=1/\c.call.eF=m.eF/\(c.take m).2=c.lr m (decide (m.eS=c.eS)&&decide (m.fx=c.fx)))):=by
 by_cases b:m.eO=5
 ·have hv:V5 s m:=by
   rcases h with h|⟨h,-⟩|h|⟨h,-⟩|⟨-,h⟩
   ·omega
   ·omega
   ·omega
   ·omega
   exact h
  by_cases f:m.eI=c.id/\fN m.eF=true/\c.fB=true/\m.eK=c.fE/\c.call.eO=1/\c.call.eF=m.eF
  ·obtain⟨c1,c2,c3,c4,c5,c6⟩:=f
   have e:c.take m=([],c.lr m (decide (m.eS=c.eS)&&decide (m.fx=c.fx))):=by
    unfold eM.take;rw[if_neg (by rw[c1,c2];simp)];simp only;rw[if_pos b]
   exact⟨by rw[e],.inr (.inr (.inr ⟨b,hv,c1,c3,c4,c5,c6,by rw[e]⟩))⟩
  have e:c.take m=([],c):=by
   unfold eM.take;split
   ·rfl
   rename_i hc;simp only[bz,aV,not_or,bu,decide_eq_false_iff_not,Classical.not_not]at hc;simp only;unfold eM.lr;rw[if_pos]
   cases hb:c.fB with
   |false=>rfl
   |true =>
    simp only[cT,Bool.false_or,bz,aV,decide_eq_false_iff_not];by_cases e1:m.eK=c.fE
    ·by_cases g:c.call.eO=1
     ·right;intro j;exact f ⟨hc.1,hc.2,hb,e1,g,j⟩
     exact .inl (.inr g)
    exact .inl (.inl e1)
  rw[e];exact⟨rfl,.inl rfl⟩
 (have i:m.eO≠6/\m.eO≠9:=by rcases h with h|⟨h,-⟩|h|⟨h,-⟩|⟨h,-⟩<;>omega);obtain⟨d,a|a|a⟩:=wk c m b i.1 i.2
 ·exact⟨d,.inl a⟩
 ·exact⟨d,.inr (.inl a)⟩
 exact⟨d,.inr (.inr (.inl a))⟩
theorem Fh:lR V n b G (NF k):=by
 intro m w s g rest w' c a hp;refine⟨fun s' z d=>?_,fun j cj z d=>⟨fun i hi=>((St.idle V G i).mi n b m w s g rest w' c a (hp.idle i hi)).2 j cj z d,hp.eQ,fun x hx=>?_⟩⟩
 ·obtain⟨t2,t3,-⟩:=Ff c a hp d;refine⟨fun i hi=>((St.idle V G i).mi n b m w s g rest w' c a (hp.idle i hi)).1 s' z d,fun o ho=>(t2.eQ o ho).trans (hp.eQ o ho),fun x hx=>?_⟩;rw[t2.g5];rw[d.eH]at hx;rcases aN.1 hx with hx|hx
  ·exact hp.eH x (by rw[a];exact aI _ hx)
  obtain⟨y,e,rfl⟩:=aW.1 hx;exact (t3 y e).2.1
 have f:=hp.eH g (by rw[a];exact aK);rw[d.eH,(Fg cj f).1,bD,bG]at hx;exact hp.eH x (by rw[a];exact aI _ hx)
end fS
namespace fS
open Go.RowKit fD eY fK fc
variable {d t u n1 n0 V n b:Int}
theorem Fi (hd:0<=d/\d<=500) (ht:0<=t):0<=short d t/\short d t<=t:=by
 unfold short;split
 ·have a:0<=t*(1000-d):=dF ht ab;refine⟨Int.ediv_nonneg a ab,?_⟩;refine Int.ediv_le_of_le_mul ab ?_;exact Int.mul_le_mul_of_nonneg_left ab ht
 omega
theorem OS (hd:0<=d/\d<=500) (ht:0<=t) (h:t<=u) (hu:u<=jO):short d t<=short d u:=by
 unfold short;rw[if_pos (by unfold fR;simp only[aF,decide_eq_true_eq];unfold jO at *;omega),if_pos (by unfold fR;simp only[aF,decide_eq_true_eq];unfold jO at *;omega)];exact Int.ediv_le_ediv ab (Int.mul_le_mul_of_nonneg_right h ab)
def Rn (k:Nat) (c:eM) (s:eA) (l:List fY):Prop:=c.ij≠0 /\
 ((∃g∈l,g.to<0/\g.eU.eO=3/\g.eU.eI=k/\g.eU.eK=c.ij/\fN g.eU.eF=true/\jN s g.eU) \/
  (∃g∈l,g.to=k/\g.eU.eO=7/\g.eU.eI=k/\g.eU.eK=c.ij/\fN g.eU.eF=true/\jN s g.eU))
def sw (c:eM) (a:Nat) (n0:Int):Prop:=∃x∈c.cache,x.eF=(a:Int)/\x.value=c.call.value/\n0+2<=x.iK/\c.ke a<=x.value.fq
structure HC (k a:Nat) (n1 n0:Int) (c:eM) (s:eA) (l:List fY):Prop where
 kc:Kc c s k
 eB:c.eB=n0
 sh:4<=short c.eZ.fH c.eZ.fa/\4<=short c.eZ.fH c.eZ.eF
 fT:n0+3<=c.fa\/(c.iV=n0/\Rn k c s l)
 lG:c.iV=n0\/∀g∈l,g.eU.eI=k->g.eU.eO≠3/\g.eU.eO≠7
 call:(c.fB=true/\c.fE=n1/\c.call.eO=1/\c.call.eF=a/\c.gL=n0/\((∃g∈l,su 1 k n1 a g)\/∃g∈l,tP 1 k n1 a g))\/(c.fB=false/\sw c a n0)
def HR (k a:Nat) (n1 n0:Int) (w:eC) (s:eA):Prop:=∀c,w.eD[k]?=some c->HC k a n1 n0 c s w.eH.l
variable {k a:Nat} {c:eM} {s:eA} {g:fY} {rest:List fY}
theorem HC.fj {t:eA} {out:List eL} (h:HC k a n1 n0 c s (g::rest)) (B:fN (a:Int)=true) (T:g.to<0) (j:j8 s t) (C:fX (k:Int)=true)
 (D:∀x∈out,x.eI=g.eU.eI/\G5 s x/\x.eO≠1/\x.eO≠3/\(x.eO=7->g.eU.eO=3))
 (F:g.eU.eO=3->fX g.eU.eI=true->fN g.eU.eF=true->jN s g.eU->∃x∈out,x.eO=7/\x.eI=g.eU.eI/\x.eK=g.eU.eK/\x.eF=0)
 (G:g.eU.eO=1->fX g.eU.eI=true->fN g.eU.eF=true->∃x∈out,x.eO=5/\x.eI=g.eU.eI/\x.eK=g.eU.eK/\x.eF=g.eU.eF) :
 HC k a n1 n0 c t (rest++out.map (cg true)):=by
 have hv:n0+3<=c.fa\/(c.iV=n0/\Rn k c t (rest++out.map (cg true))):=by
  rcases h.fT with i|⟨H,E,u⟩
  ·exact .inl i
  refine .inr ⟨H,E,?_⟩;rcases u with⟨x,b,v,l,d,m,n,o⟩|⟨x,b,v,l,d,m,n,o⟩
  ·rcases aH.1 b with rfl|b
   ·obtain⟨y,f,w,y3,y4,p⟩:=F l (by rw[d];exact C) n o;have I:=(D y f).2.1
    have q:jN s y:=by
     rcases I with e|⟨-,e⟩|e|⟨e,-⟩|⟨e,-⟩
     ·omega
     ·exact e
     ·omega
     ·omega
     omega
    exact .inr ⟨cg true y,bA _ (aW.2 ⟨y,f,rfl⟩),y3.trans d,w,y3.trans d,y4.trans m,by show fN y.eF=true;rw[p];rfl,(j.eB y).2 q⟩
   exact .inl ⟨x,bp _ b,v,l,d,m,n,(j.eB _).2 o⟩
  rcases aH.1 b with rfl|b
  ·omega
  exact .inr ⟨x,bp _ b,v,l,d,m,n,(j.eB _).2 o⟩
 have J:c.iV=n0\/∀g∈rest++out.map (cg true),g.eU.eI=k->g.eU.eO≠3/\g.eU.eO≠7:=by
  rcases h.lG with i|q
  ·exact .inl i
  refine .inr fun x b r=>?_;rcases aN.1 b with b|b
  ·exact q x (aI _ b) r
  obtain⟨y,f,rfl⟩:=aW.1 b;obtain⟨o1,-,U,K,L⟩:=D y f;refine⟨K,fun e=>?_⟩;have r:y.eI=k:=r;exact (q g aK (by rw[<- o1];exact r)).1 (L e)
 have hc:(c.fB=true/\c.fE=n1/\c.call.eO=1/\c.call.eF=a/\c.gL=n0/\((∃g∈rest++out.map (cg true),su 1 k n1 a g)\/∃g∈rest++out.map (cg true),tP 1 k n1 a g))\/(c.fB=false/\sw c a n0):=by
  rcases h.call with⟨M,N,O,P,Q,R⟩|i
  ·refine .inl ⟨M,N,O,P,Q,?_⟩;rcases R with⟨x,b,rx⟩|⟨x,b,rx⟩
   ·rcases aH.1 b with rfl|b
    ·obtain⟨E,u,z,S,A⟩:=rx;obtain⟨y,f,w,y3,y4,p⟩:=G u (by rw[z];exact C) (by rw[A];exact B);exact .inr ⟨cg true y,bA _ (aW.2 ⟨y,f,rfl⟩),y3.trans z,w,y3.trans z,y4.trans S,by show fN y.eF=true;rw[p,A];exact B,fun _=>p.trans A⟩
    exact .inl ⟨x,bp _ b,rx⟩
   rcases aH.1 b with rfl|b
   ·have:=rx.1;omega
   exact .inr ⟨x,bp _ b,rx⟩
  exact .inr i
 exact⟨(j.kc c k).2 h.kc,h.eB,h.sh,hv,J,hc⟩
theorem HC.gone (h:HC k a n1 n0 c s (g::rest)) (d:¬g.to<0)
 (t:g.to=k->g.eU.eO=7->g.eU.eI=k->g.eU.eK=c.ij->fN g.eU.eF=true->jN s g.eU->c.ij≠0->False) (u:c.fB=true->c.fE=n1->c.call.eO=1->c.call.eF=a->tP 1 k n1 a g->False):HC k a n1 n0 c s rest:=by
 have hv:n0+3<=c.fa\/(c.iV=n0/\Rn k c s rest):=by
  rcases h.fT with d|⟨v,n,w⟩
  ·exact .inl d
  refine .inr ⟨v,n,?_⟩;rcases w with⟨x,b,e,f,i,j,l,m⟩|⟨x,b,e,f,i,j,l,m⟩
  ·rcases aH.1 b with rfl|b
   ·exact absurd e d
   exact .inl ⟨x,b,e,f,i,j,l,m⟩
  rcases aH.1 b with rfl|b
  ·exact (t e f i j l m n).elim
  exact .inr ⟨x,b,e,f,i,j,l,m⟩
 have hc:(c.fB=true/\c.fE=n1/\c.call.eO=1/\c.call.eF=a/\c.gL=n0/\((∃g∈rest,su 1 k n1 a g)\/∃g∈rest,tP 1 k n1 a g))\/(c.fB=false/\sw c a n0):=by
  rcases h.call with⟨o,p,q,r,y,z⟩|d
  ·refine .inl ⟨o,p,q,r,y,?_⟩;rcases z with⟨x,b,rx⟩|⟨x,b,rx⟩
   ·rcases aH.1 b with rfl|b
    ·exact absurd rx.1 d
    exact .inl ⟨x,b,rx⟩
   rcases aH.1 b with rfl|b
   ·exact (u o p q r rx).elim
   exact .inr ⟨x,b,rx⟩
  exact .inr d
 exact⟨h.kc,h.eB,h.sh,hv,h.lG.imp id fun A x b B=>A x (aI _ b) B,hc⟩
theorem OT {m:eL} (a:m.eO=7) (hid:m.eI=c.id) (b:fN m.eF=true) (he:m.eS=c.eS) (hs:m.fx=c.fx) (d:c.ij≠0) (e:m.eK=c.ij):(c.take m).2.ij=0:=by
 unfold eM.take;rw[if_neg (by rw[hid,b];simp)];simp only;rw[if_neg ab,if_neg ab,if_pos a,if_pos (by rw[he,hs,e];simp[d])]
theorem OU {c:Cache} {o:Int} {v:ir}:(⟨o,v,u⟩:jg)∈c.put o v u:=by
 unfold Cache.put;simp
variable {G:gd}
theorem OV (W:fN (a:Int)=true):lR V n b G (fun w s=>NF k w s/\HR k a n1 n0 w s):=by
 intro m w s g rest w' f u ⟨hp,J⟩;(have X:g∈w.eH.l:=by rw[u];exact aK);have Y:=hp.eH g X;refine⟨fun s' z d=>⟨(Fh m w s g rest w' f u hp).1 s' z d,fun c hc=>?_⟩,fun j cj z d=>⟨(Fh m w s g rest w' f u hp).2 j cj z d,fun c hc=>?_⟩⟩
 ·rw[d.eD]at hc;have I:=(az.1 hc).1;have h:=J c hc;rw[u]at h;obtain⟨t2,t3,t4⟩:=Ff f u hp d;rw[d.eH];refine h.fj W d.to t2 (tQ f I).2 t3 (fun C e1 v Qa=>?_) t4;obtain⟨-,-,-,q⟩:=wj (d:=w.eP) (f.ps.up s f.up) hp.eQ (w.eN.getD 0 0) (m:=g.eU) ⟨ab,ab,ab⟩;exact (q C e1 v).1 Qa
 obtain⟨f1,f2⟩:=Fg cj Y;(have TX:w'.eH.l=rest:=by rw[d.eH,f1];simp);have I:=(az.1 d.hc).1;have hid:=(f.inv.eD j cj d.hc).id;(have K:¬g.to<0:=by have:=d.to;omega);rw[TX];rw[d.eD,bt]at hc;by_cases e:j=k
 ·subst e;rw[if_pos rfl,if_pos I]at hc;have hc:=(aA hc).symm;have h:=J cj d.hc;rw[u]at h;have A:=f.kn.ci j cj d.hc;have Ry:=oT f.kn.right;have hV:=f.kn.hV;have aa:=f.kn.vt;have Tn:=f.kn.pH d.hc;have Ql:=f.kn.small;(have hd:0<=cj.eZ.fH/\cj.eZ.fH<=500:=by rw[A.eZ];omega);have PV:=Fi hd (t:=cj.eZ.fa) (by rw[A.eZ];omega);have R3:=Fi hd (t:=cj.eZ.eF) (by rw[A.eZ];omega);(have ad:cj.eZ.fa<=1000:=by rw[A.eZ];omega);(have Vn:cj.eZ.eF<=274877906944:=by rw[A.eZ];omega);have P6:=h.eB;rcases f2 with f2|⟨f7,f3,f4,f5,f6,f8,f9⟩|⟨f8,f3,f4,f9⟩|⟨f5,fv,f3,L,fn,fk,Z,f9⟩
  ·rw[hc,f2];refine h.gone K (fun e1 v C M e5 e6 e7=>?_) fun e1 v C M r=>?_
   ·have:=OT v (by rw[hid];exact C) e5 (by rw[e6.1,h.kc.1]) (by rw[e6.2,C,h.kc.2]) e7 M;rw[f2]at this;exact e7 this
   (have:=EX (c:=cj) (m:=g.eU) (.inl rfl) (by rw[hid];exact r.2.2.1) r.2.2.2.2.1 r.2.1 e1 (by rw[v];exact r.2.2.2.1) C fun _=>by rw[M];exact (r.2.2.2.2.2 rfl).symm);rw[f2,e1]at this;cases this
  ·have D:cj.iV=n0:=by
    rcases h.lG with N|N
    ·exact N
    exact absurd f7 (N g aK (by rw[f3,hid])).2
   have O:n0+3<=(cj.take g.eU).2.fa:=by
    rw[f9];show n0+3<=wrap64 (cj.iV+short cj.eZ.fH cj.eZ.fa);have:=h.sh.1;rw[D,jC ab ab];omega
   refine⟨by rw[hc,f9];exact h.kc,by rw[hc,f9];exact h.eB,by rw[hc,f9];exact h.sh,.inl (by rw[hc];exact O),.inl (by rw[hc,f9];exact D),?_⟩;rw[hc,f9];rcases h.call with⟨B,b2,b3,P,Q,b6⟩|E
   ·refine .inl ⟨B,b2,b3,P,Q,?_⟩;rcases b6 with⟨x,o,rx⟩|⟨x,o,rx⟩
    ·rcases aH.1 o with rfl|o
     ·exact absurd rx.1 K
     exact .inl ⟨x,o,rx⟩
    rcases aH.1 o with rfl|o
    ·have:=rx.2.1;omega
    exact .inr ⟨x,o,rx⟩
   exact .inr E
  ·exact absurd f4 (E8 f X d.hc h.kc d.cl f8)
  have F:g.eU.eF=a:=by
   rcases h.call with⟨-,-,-,P,-⟩|⟨B,-⟩
   ·rw[<- Z];exact P
   rw[L]at B;cases B
  have R:cj.gL=n0:=by
   rcases h.call with⟨-,-,-,-,Q,-⟩|⟨B,-⟩
   ·exact Q
   rw[L]at B;cases B
  obtain⟨o1,o2,o3⟩:=jA W;have p:a<8:=ab;obtain⟨v1,v2,v3,v4⟩:=fv;rw[F]at v3 v4;simp only[bo]at v3 v4;have H:=(f.inv.ff s f.up).value a p;have S:g.eU.fJ=(iI w.eP.eG a).length:=by rw[v3,H];rfl
  have T:cj.kY a<=g.eU.fJ:=by
   have:=A.floor a p s f.up h.kc.1 (by rw[h.kc.2,(tQ f I).1]);unfold fl at this;rw[hp.eQ a p,if_pos rfl]at this;omega
  have Zp:cj.ke a<=g.eU.fJ:=by rw[S];exact A.seen a p
  have U:(decide (g.eU.eS=cj.eS)&&decide (g.eU.fx=cj.fx))=true:=by
   (have e1:g.eU.eS=cj.eS:=by rw[v1.1,h.kc.1]);(have v:g.eU.fx=cj.fx:=by rw[v1.2,d.cl,h.kc.2]);rw[e1,v];simp
  have i:(cj.take g.eU).2={cj with cache:=cj.cache.put g.eU.eF ⟨g.eU.data,g.eU.fJ⟩ (cj.ends cj.gL cj.eZ.eF),seen:=put g.eU.eF (max (cj.ke g.eU.eF) g.eU.fJ) cj.seen,call:={cj.call with value:=⟨g.eU.data,g.eU.fJ⟩,over:=true},fE:=0}:=by
   rw[f9,U];unfold eM.lr;rw[if_neg (by rw[L,fn,fk,Z];simp)];simp only;rw[if_pos (by rw[v2,F];simp[T])];rfl
  have o:∀x∈g::rest,x.eU.eO=3\/x.eU.eO=7->x∈rest:=fun x o Y=>by
   rcases aH.1 o with rfl|o
   ·omega
   exact o
  refine⟨by rw[hc,i];exact h.kc,by rw[hc,i];exact h.eB,by rw[hc,i];exact h.sh,?_,?_,.inr ⟨by rw[hc,i];rfl,?_⟩⟩
  ·rw[hc,i];refine h.fT.imp id fun⟨r0,r1,r2⟩=>⟨r0,r1,r2.imp (fun⟨x,y,z⟩=>⟨x,o x y (.inl z.2.1),z⟩) fun⟨x,y,z⟩=>⟨x,o x y (.inr z.2.1),z⟩⟩
  ·rw[hc,i];exact h.lG.imp id fun hn x T4 RM=>hn x (aI _ T4) RM
  rw[hc,i];refine⟨⟨g.eU.eF,⟨g.eU.data,g.eU.fJ⟩,cj.ends cj.gL cj.eZ.eF⟩,OU,F,rfl,?_,?_⟩
  ·show n0+2<=wrap64 (cj.gL+short cj.eZ.fH cj.eZ.eF);have:=h.sh.2;rw[R,jC ab ab];omega
  show (fw (a:Int) (put g.eU.eF (max (cj.ke g.eU.eF) g.eU.fJ) cj.seen)).getD 0<=g.eU.fJ;rw[ou,if_pos F,F];simp only[dp];omega
 rw[if_neg e]at hc;have h:=J c hc;rw[u]at h;exact h.gone K (fun e1=>absurd (by have:=d.to;omega) e) fun _ _ _ _ r=>absurd (by have:=d.to;have:=r.1;omega) e
theorem HC.fh {l:List fY} (j:Kc c s k) (t:c.eB=n0) (B:4<=short c.eZ.fH c.eZ.fa/\4<=short c.eZ.fH c.eZ.eF) (hid:c.id=k) (N:0<=c.eK/\c.eK+1<1000000000000) (hv:0<=c.fa/\c.fa<=2000000)
 (u:c.iV=n0\/∀g∈l,g.eU.eI=k->g.eU.eO≠3/\g.eU.eO≠7) (v:(c.fB=true/\c.fE=n1/\c.call.eO=1/\c.call.eF=a/\c.gL=n0)\/(c.fB=false/\sw c a n0)) :
 HC k a n1 n0 c.fh.2 s (l++c.fh.1.map (cg false))/\∀x∈c.fh.1,G5 s x:=by
 have n:∀m:eL,m.eS=c.eS->m.fx=c.fx->m.eI=c.id->jN s m:=fun m e1 e2 e3=>⟨by rw[e1];exact j.1,by rw[e2,e3,hid];exact j.2⟩
 have o:(c.fB=false/\c.asks=[])\/(c.fB=true/\∃y,c.asks=[y]/\y.eO=1/\y.eI=k/\y.eK=n1/\y.eF=a/\jN s y):=by
  rcases nY c with⟨e,h⟩|⟨e,h⟩
  ·exact .inl ⟨e,h⟩
  rcases v with⟨-,p,q,r,-⟩|⟨f,-⟩
  ·exact .inr ⟨e,_,h,q,hid,p,r,n _ rfl rfl rfl⟩
  rw[e]at f;cases f
 have D:wrap64 (c.eK+1)=c.eK+1:=jC ab ab;rcases kO c with⟨-,e1,b,e2,e3,-⟩|⟨e1,e2⟩
 ·(have E:∀x∈c.fh.1,x=mJ c\/x∈c.asks:=fun x hx=>by rw[e1]at hx;exact aH.1 hx);refine⟨⟨⟨b.eS.trans j.1,b.fx.trans j.2⟩,b.eB.trans t,by rw[b.eZ];exact B,.inr ⟨e3.trans t,by rw[e2];omega,.inl ⟨cg false (mJ c),?_,by show (-1:Int)<0;decide,rfl,hid,e2.symm,rfl,n _ rfl rfl rfl⟩⟩,.inl (e3.trans t),?_⟩,fun x hx=>?_⟩
  ·rw[e1];exact bA _ ae
  ·rcases v with⟨f,p,q,r,w⟩|⟨f,x,F,G,H,I,C⟩
   ·rcases o with⟨e,-⟩|⟨-,y,d,i,y3,y4,A,-⟩
    ·rw[f]at e;cases e
    refine .inl ⟨b.fB.trans f,b.fE.trans p,by rw[b.call];exact q,by rw[b.call];exact r,b.gL.trans w,.inl ⟨cg false y,?_,by show (-1:Int)<0;decide,i,y3,y4,A⟩⟩;rw[e1,d];exact bA _ ae
   exact .inr ⟨b.fB.trans f,x,by rw[b.cache];exact F,G,by rw[b.call];exact H,I,by unfold eM.ke at C⊢;rw[b.seen];exact C⟩
  rcases E x hx with rfl|hx
  ·exact .inl rfl
  rcases o with⟨-,h⟩|⟨-,y,d,i,-,-,-,y6⟩
  ·rw[h]at hx;cases hx
  rw[d]at hx;rw[aD.1 hx];exact .inr (.inr (.inr (.inl ⟨i,y6⟩)))
 rw[e2];simp only;rw[jC ab ab]at e1;refine⟨⟨j,t,B,.inl ab,u.imp id fun J x hx K=>?_,?_⟩,fun x hx=>?_⟩
 ·rcases aN.1 hx with hx|hx
  ·exact J x hx K
  obtain⟨y,d,rfl⟩:=aW.1 hx;rcases o with⟨-,h⟩|⟨-,z,L,z2,-⟩
  ·rw[h]at d;cases d
  rw[L]at d;rw[aD.1 d];exact⟨by show z.eO≠3;omega,by show z.eO≠7;omega⟩
 ·rcases v with⟨f,p,q,r,w⟩|M
  ·rcases o with⟨e,-⟩|⟨-,y,d,i,y3,y4,A,-⟩
   ·rw[f]at e;cases e
   refine .inl ⟨f,p,q,r,w,.inl ⟨cg false y,?_,by show (-1:Int)<0;decide,i,y3,y4,A⟩⟩;rw[d];exact bA _ ae
  exact .inr M
 rcases o with⟨-,h⟩|⟨-,y,d,i,-,-,-,y6⟩
 ·rw[h]at hx;cases hx
 rw[d]at hx;rw[aD.1 hx];exact .inr (.inr (.inr (.inl ⟨i,y6⟩)))
theorem OW {m:Int} {w w':eC} {j:Nat} {f:eM} (o:Z V n b m G w s) (hb:b<1000000) (hp:NF k w s) (B:HR k a n1 n0 w s) (x:AG w w' j f):NF k w' s/\HR k a n1 n0 w' s:=by
 have D:=(az.1 x.hc).1;have hid:=(o.inv.eD j f x.hc).id
 have p:∀i,i≠k->Idle i w' s:=fun i hi c hc=>by
  rw[x.eD,bt]at hc;split at hc
  ·rename_i e;rw[<- aA hc,(pI f).1];exact hp.idle i hi f (by rw[<- e];exact x.hc)
  exact hp.idle i hi c hc
 by_cases e:j=k
 ·subst e;have h:=B f x.hc;have E:=o.kn.ci j f x.hc;have hV:=o.kn.hV;have O:=o.kn.pH x.hc;have P:=o.kn.small;have F:=E.fT;obtain⟨H,I⟩:=HC.fh (l:=w.eH.l) (n1:=n1) (a:=a) h.kc h.eB h.sh hid (sf o.inv hb x.hc) ab h.lG (h.call.imp (fun⟨r,t,u,v,A,_⟩=>⟨r,t,u,v,A⟩) id);refine⟨⟨p,hp.eQ,fun g d=>?_⟩,fun c hc=>?_⟩
  ·rw[x.eH]at d;rcases aN.1 d with d|d
   ·exact hp.eH g d
   obtain⟨y,q,rfl⟩:=aW.1 d;exact I y q
  rw[x.eD,aS D]at hc;rw[<- aA hc,x.eH];exact H
 have J:=hp.idle j e f x.hc;have C:=E7 J;refine⟨⟨p,hp.eQ,fun g d=>?_⟩,fun c hc=>?_⟩
 ·rw[x.eH]at d;rcases aN.1 d with d|d
  ·exact hp.eH g d
  obtain⟨y,q,rfl⟩:=aW.1 d;rw[C y q];exact .inl rfl
 rw[x.eD,a8 e]at hc;have h:=B c hc;rw[x.eH]
 refine⟨h.kc,h.eB,h.sh,h.fT.imp id fun⟨K,L,M⟩=>⟨K,L,M.imp (fun⟨x,y,z⟩=>⟨x,bp _ y,z⟩) fun⟨x,y,z⟩=>⟨x,bp _ y,z⟩⟩,h.lG.imp id fun hn g d hk=>?_,
  h.call.imp (fun⟨r,t,u,v,A,N⟩=>⟨r,t,u,v,A,N.imp (fun⟨x,y,z⟩=>⟨x,bp _ y,z⟩) fun⟨x,y,z⟩=>⟨x,bp _ y,z⟩⟩) id⟩
 rcases aN.1 d with d|d
 ·exact hn g d hk
 obtain⟨y,q,rfl⟩:=aW.1 d;exfalso;rw[C y q]at hk;have hk:f.id=k:=hk;omega
end fS
namespace fS
open Go.RowKit fD eY fK fc
variable {c:eM}
theorem OX (hid:0<=c.id/\c.id<=3) (he:0<=c.eS/\c.eS<=200) (hs:0<=c.fx/\c.fx<=200) (g:0<=c.eK/\c.eK+1<1000000000000)
 (hb:c.fB=true->(c.call.eO=1\/c.call.eO=2)/\fN c.call.eF=true/\(0<=c.fE/\c.fE<=c.eK)/\(c.call.eO=2->c.call.value.data.length<=20)):∀y∈c.fh.1,y.right=true:=by
 have a:∀y∈c.asks,y.right=true:=fun y hy=>by
  rcases nY c with⟨-,e⟩|⟨e1,e⟩
  ·rw[e]at hy;cases hy
  rw[e]at hy;rw[aD.1 hy];obtain⟨h,b,i,d⟩:=hb e1;obtain⟨o1,j,k⟩:=jA b;refine qZ (by show 1<=c.call.eO/\c.call.eO<=9;omega) ?_ ⟨⟨by show 0<=c.fE;omega,by show c.fE<=_;omega⟩,⟨o1,by show c.call.eF<=7;omega⟩,aZ _,by show (0:Int)<=_;omega⟩ hid he hs
  show (if c.call.eO=2 then c.call.value.data else []).length<=20
  split
  ·rename_i f;exact d f
  simp
 intro y hy;rcases kO c with⟨-,e,-⟩|⟨-,e⟩
 ·rw[e]at hy;rcases aH.1 hy with rfl|hy
  ·have hw:wrap64 (c.eK+1)=c.eK+1:=jC ab ab;exact qZ (by show 1<=(3:Int)/\(3:Int)<=9;omega) (by show 0<=20;omega) ⟨⟨by show 0<=wrap64 (c.eK+1);omega,by show wrap64 (c.eK+1)<=_;omega⟩,⟨aZ _,by show (0:Int)<=_;omega⟩,aZ _,by show (0:Int)<=_;omega⟩ hid he hs
  exact a y hy
 rw[e]at hy;exact a y hy
theorem Fj {o:Int} (hb:c.fB=false) (b:fN o=true) (e:0<=c.eK/\c.eK+2<1000000000000) :
 (∃c',c.read o=(0,[],c')/\c'.fB=false/\c'.call.hit=true) \/
 (∃c1:eM,c.read o=(0,c1.fh)/\c1.fB=true/\c1.fE=c1.eK/\c1.eK=c.eK+1/\c1.call=⟨1,o,lT,false,false⟩/\c1.gL=c.eB/\c1.id=c.id/\c1.eZ=c.eZ/\c1.eS=c.eS/\c1.fx=c.fx/\c1.eB=c.eB/\c1.fa=c.fa/\c1.iV=c.iV):=by
 have hw:wrap64 (c.eK+1)=c.eK+1:=jC ab ab;have a:c.eK+1≠0:=ab;unfold eM.read;rw[if_neg (by rw[hb];decide),if_neg (by rw[b];decide)];simp only;split
 ·rename_i x d f;split
  ·exact .inl ⟨_,rfl,hb,rfl⟩
  right;refine⟨{c with call:=⟨1,o,lT,false,false⟩,cache:=d,eK:=c.eK+1,fE:=c.eK+1,gL:=c.eB},?_,?_,rfl,rfl,rfl,rfl,rfl,rfl,rfl,rfl,rfl,rfl,rfl⟩
  ·unfold eM.ask;simp only[hw]
  unfold eM.fB;simpa using a
 right;refine⟨{c with call:=⟨1,o,lT,false,false⟩,eK:=c.eK+1,fE:=c.eK+1,gL:=c.eB},?_,?_,rfl,rfl,rfl,rfl,rfl,rfl,rfl,rfl,rfl,rfl,rfl⟩
 ·unfold eM.ask;simp only[hw]
 unfold eM.fB;simpa using a
variable {a k i st:Nat} {n0 V n b n1:Int}
theorem OY (hb:c.fB=false) (i:fN (a:Int)=true) (q:c.eB=n0+1) (hv:n0+3<=c.fa) (j:sw c a n0) (b:(c.cache.map jg.eF).Nodup) :
 ∃c',c.read a=(0,[],c')/\c'.fB=false/\c'.call.hit=true/\c'.call.value=c.call.value:=by
 obtain⟨x,d,g,k,r,m⟩:=j
 have f:c.cache.find? (fun y=>decide (y.eF=(a:Int)))=some x:=by
  generalize c.cache=l at d b
  induction l with
  |nil=>cases d
  |cons y l ih =>
   simp only[aY,cE]at b;rcases aH.1 d with rfl|h
   ·rw[List.find?_cons_of_pos (by simpa using g)]
   rw[List.find?_cons_of_neg]
   ·exact ih h b.2
   simp only[decide_eq_true_eq];intro e;exact b.1 (by rw[e,<- g];exact aW.2 ⟨x,h,rfl⟩)
 have n:c.cache.get a=(some x,c.cache.drop a++[x]):=by
  unfold Cache.get;rw[f]
 unfold eM.read;rw[if_neg (by rw[hb];decide),if_neg (by rw[i];decide),n];simp only;rw[if_pos]
 ·exact⟨_,rfl,hb,rfl,k⟩
 have e1:c.eB<x.iK:=ab;have o:c.eB<c.fa:=ab;have p:c.ke a<=x.value.fq:=m;unfold eM.jT;simp only[aF,decide_eq_true_eq];exact⟨⟨e1,o⟩,p⟩
variable {w:eC}
theorem OZ (h:w.ft.length=w.eD.length) (e:k<w.eD.length) (l:List eL) (c:eM):(w.gJ k 0 l c).2.fg.length=w.fg.length+1/\∀i,i<w.fg.length->(w.gJ k 0 l c).2.fg[i]?=w.fg[i]?:=by
 unfold eC.gJ;rw[if_neg aj];simp only;obtain⟨x,a⟩:=nm (eC.gf {eC.fA {w with eD:=w.eD.set k c}with ft:=(eC.fA {w with eD:=w.eD.set k c}).ft.set k (eC.fA {w with eD:=w.eD.set k c}).fg.length,fg:=(eC.fA {w with eD:=w.eD.set k c}).fg++[iw.mk k c.call (eC.fA {w with eD:=w.eD.set k c}).step 0 ((eC.fA {w with eD:=w.eD.set k c}).fy.getD k 0)]} false l:eC);have e1:∃E,x.fg=w.fg++[E]:=⟨_,by rw[a];rfl⟩;obtain⟨E,e1⟩:=e1;(have f:x.ft=w.ft.set k w.fg.length:=by rw[a];rfl);(have g:x.eD=w.eD.set k c:=by rw[a];rfl);rw[<- a];(have b:x.ft[k]?=some (w.fg.length:Int):=by rw[f,aS ab]);(have d:x.eD[k]?=some c:=by rw[g,aS e]);(have hlen:x.fg.length=w.fg.length+1:=by rw[e1];simp);(have hold:∀i,i<w.fg.length->x.fg[i]?=w.fg[i]?:=fun i hi=>by rw[e1,ba hi]);unfold eC.gG;rw[d,b];simp only;split
 ·simp only[bo];rw[ay ab];refine⟨by simp[hlen],fun i hi=>?_⟩;simp only;rw[a8 ab];exact hold i hi
 exact⟨hlen,hold⟩
theorem Fk (b:w.ft.length=w.eD.length) (a:k<w.eD.length) (hb:c.fB=false):∃o:List Int,o.getD k (-1)<0/\(w.gJ k 0 [] c).2={w with eD:=w.eD.set k c,step:=wrap64 (w.step+1),ft:=o,fg:=w.fg++[iw.mk k c.call (wrap64 (w.step+1)) (wrap64 (w.step+1)) (w.fy.getD k 0)]}:=by
 unfold eC.gJ;rw[if_neg aj];simp only[eC.fA,eC.gf,gV];refine⟨(w.ft.set k w.fg.length).set k (-1),by rw[lN,if_pos ⟨rfl,ah⟩];decide,?_⟩;unfold eC.gG;simp only;rw[aS a,aS ab];simp only;rw[if_pos (by rw[hb];simp)];simp only[bo];rw[aR (ax _)];simp
def FF (k a:Nat) (n1 n0:Int) (i:Nat) (w:eC) (s:eA):Prop:=(NF k w s/\HR k a n1 n0 w s)/\nZ k i w s
variable {G:gd}
theorem O0 (c:fN (a:Int)=true):lR V n b G (FF k a n1 n0 i):=Fb (OV c) fun _ _ h=>h.1.idle
theorem Fl {k:Nat} {n1 n0:Int} {i:Nat} (d:fN (a:Int)=true):∀(c:List Nat) {b m:Int} {w:eC} {s:eA} (_:Dr V n b m st G w s) (_:FF k a n1 n0 i w s) (_:∀j∈c,j<w.eD.length) (_:b+c.length+1<1000000) (_:m+1001*c.length<=1000000000000),
 ∃f,Dr V n (b+c.length) (m+1001*c.length) st G (eC.iY c w) f/\FF k a n1 n0 i (eC.iY c w) f/\(c≠[]->(eC.iY c w).eH.l=[])/\(eC.iY c w).eD.length=w.eD.length
 | [],b,m,w,s,h,hp,_,_,hm=>⟨s,⟨h.hs,h.all,h.fits.gx ae,h.ex.gx ae hm,h.up,h.pow,h.wn,h.cn⟩,hp,fun e=>absurd rfl e,rfl⟩
 |j::c,b,m,w,s,h,hp,g,hb,hm=>by
  simp only[aL]at hb hm;have p:=g j aK;obtain⟨s1,d1,e1,q⟩:=h.jd ab ab (ay p) (O0 (i:=i) (n1:=n1) (n0:=n0) (k:=k) d) fun w' x z=>⟨OW h.z.1 ab hp.1.1 hp.1.2 x,Fc hp.2 x⟩
  have o:(w.fh j).2.gi.eD.length=w.eD.length:=by
   have a:=d1.z.1.kn.lens;have b:=h.z.1.kn.lens;rw[show (w.fh j).2.gi=eC.ia 1000 (w.fh j).2 from rfl,pZ,rR]at a;have:(eC.ia 1000 (w.fh j).2).eD.length=w.eD.length:=ab;exact this
  obtain⟨s2,d2,r,t,u⟩:=Fl d c d1 q (fun x hx=>by rw[o];exact g x (aI _ hx)) ab ab;refine⟨s2,?_,r,fun _=>?_,u.trans o⟩
  ·(have e1:b+1+(c.length:Int)=b+((j::c).length:Int):=by simp only[aL];omega);(have v:m+1001+1001*(c.length:Int)=m+1001*((j::c).length:Int):=by simp only[aL];omega);rw[e1,v]at d2;exact d2
  cases c with
  |nil=>exact e1
  |cons y A=>exact t ae
theorem O1 (h:w.eH.l=[]):w.gi=w:=by
 show eC.ia 1000 w=w;unfold eC.ia;rw[h];rfl
def wC (c:eM):Prop:=c.fB=false/\c.call.hit=true
theorem St.hit (V:Int) (G:gd) (k i:Nat):St V G (fun w s=>NQ w s/\nZ k i w s/\∀c,w.eD[k]?=some c->wC c):=by
 have l:=St.nq V G
 have o:St V G (fun w _=>∀c,w.eD[k]?=some c->wC c):=St.eI (C:=wC) (fun c m h=>⟨(by
  cases hb:(c.take m).2.fB with
  |false=>rfl
  |true=>exact absurd (h.1.symm.trans (sr c m hb).1) aj),by rw[Fa m h.1];exact h.2⟩) (fun c h=>⟨(pI c).1.trans h.1,by rw[(pI c).2.1];exact h.2⟩) (fun c h=>h) k
 refine⟨fun n b m w s g rest w' e f hp=>?_,fun n b m w s w' j cj e f hp a z=>⟨l.ag n b m w s w' j cj e f hp.1 a z,Fc hp.2.1 a,o.ag n b m w s w' j cj e f hp.2.2 a z⟩,fun n b m w s w' s' e f hp a z=>⟨l.go n b m w s w' s' e f hp.1 a z,Fe hp.2.1 a,o.go n b m w s w' s' e f hp.2.2 a z⟩⟩;have he:=Fb (k:=k) (i:=i) (l.mi n b) (fun w s h j _=>h.idle j) m w s g rest w' e f ⟨hp.1,hp.2.1⟩;have p:=o.mi n b m w s g rest w' e f hp.2.2;exact⟨fun s' z d=>⟨(he.1 s' z d).1,(he.1 s' z d).2,p.1 s' z d⟩,fun j cj z d=>⟨(he.2 j cj z d).1,(he.2 j cj z d).2,p.2 j cj z d⟩⟩
theorem O2 {C:List Int} {m:Int} {s:eA} (h:D0 V n b m st G C w s) (Rq:st<=61) (J:NQ w s) (Rx:∀k,KN k w s) (K:k<w.eD.length) (ha:a<8) (Tb:4<=short w.eZ.fH w.eZ.fa)
 (hb:b+20<1000000) (hm:m+10000<=1000000000000) (hn:n+1<=1000000) :
 (w.read k a).1=0/\((w.read k a).2.round.read k a).1=0/\∃(i:Nat) (x y:iw),((w.read k a).2.round.read k a).2.fg.length=i+2/\((w.read k a).2.round.read k a).2.fg[i]?=some x/\((w.read k a).2.round.read k a).2.fg[i+1]?=some y /\
   (x.call.hit=true\/(1<=x.ended/\y.ended=y.oe/\y.call.hit=true/\y.call.value=x.call.value/\((w.read k a).2.round.read k a).2.eH.l.length=(w.read k a).2.round.eH.l.length)):=by
 have f:=h.dr.z.1;have L:=yZ ha;have hc:=ay K;obtain⟨c,ad⟩:=nm (w.eD[k]);rw[<- ad]at hc;have QL:=J.idle k c hc;have an:=sf f.inv ab hc
 have aq:c.eK+2<1000000000000:=by
  have h1:=f.inv.eD k c hc;have h2:=oN f.inv hc;have:=h1.high;omega
 have Rj:=f.kn.ci k c hc;have hid:=(f.inv.eD k c hc).id;have hV:=f.kn.hV;have Ry:=oT f.kn.right;have hf:=f.inv.gz;have Qa:=f.inv.no
 have O:∀(w:eC) (c:eM),w.eD[k]?=some c->w.read k a=w.gJ k (c.read a).1 (c.read a).2.1 (c.read a).2.2:=fun w c hc=>by
  have:=(az.1 hc).1;unfold eC.read;rw[if_neg (by unfold eC.right;simp;omega)];simp only[bo,hc]
 have ar:∀(w:eC) (l:List eL) (c:eM),(w.gJ k 0 l c).1=0:=fun w l c=>by unfold eC.gJ;rw[if_neg aj]
 have WJ:∀(w:eC) (c:eM),w.eD[k]?=some c->c.fB=false->(w.read k a).1=0:=fun w c hc hb=>by
  rw[O w c hc]
  have:(c.read a).1=0:=by
   unfold eM.read;rw[if_neg (by rw[hb];decide),if_neg (by rw[L];decide)];simp only;split
   ·split<;>rfl
   rfl
  rw[this];exact ar _ _ _
 refine⟨WJ w c hc QL,?_⟩;obtain⟨U,al⟩:=h.dr.all;obtain⟨M,WD⟩:=h.dr.fits.l6 ab k a;have QS:=En f.inv f.nb f.ps k a;have hex:=h.dr.ex.l6 f.inv f.idx ab ab k a;have P:=f.kn.l6 k a;have Z8:=al.bd.grow (QS.more ab (ax _));obtain⟨q1,q2⟩:=tN f.nb h.nil;have b4:=QS.wn;rcases Fj QL L ⟨an.1,aq⟩with⟨c',e1,D,e3⟩|⟨c1,e1,D,e3,e4,N,e6,e7,e8,e9,S,au,a1,b5⟩
 ·
  obtain⟨op,a6,E⟩:=Fk Qa K D
  have p:(w.read k a).2={w with eD:=w.eD.set k c',step:=wrap64 (w.step+1),ft:=op,fg:=w.fg++[iw.mk k c'.call (wrap64 (w.step+1)) (wrap64 (w.step+1)) (w.fy.getD k 0)]}:=by
   rw[O w c hc,e1];exact E
  have F:=step1 h.dr.ex ab
  have T:D0 V n (b+2) (m+1) (st+1) M C (w.read k a).2 s:=by
   refine⟨⟨ab,⟨U,Z8,P⟩,WD,hex,by rw[p];exact h.dr.up,by rw[p];exact h.dr.pow,ab,?_⟩,by rw[p];exact h.nil,by rw[p];exact h.ik⟩;have:=tN QS.nb (by rw[p];exact h.nil);omega
  have hp:NQ (w.read k a).2 s/\nZ k w.fg.length (w.read k a).2 s/\∀c,(w.read k a).2.eD[k]?=some c->wC c:=by
   have PI:∀c2,(w.read k a).2.eD[k]?=some c2->c2=c':=fun c2 PE=>by
    rw[p]at PE;have PE:(w.eD.set k c')[k]?=some c2:=PE;rw[aS K]at PE;exact (aA PE).symm
   refine⟨⟨fun j c2 PE=>?_,J.eQ,fun g hg=>?_⟩,⟨by rw[p];simp,fun c2 PE=>.inr ?_⟩,fun c2 PE=>by rw[PI c2 PE];exact⟨D,e3⟩⟩
   ·by_cases ej:k=j
    ·subst ej;rw[PI c2 PE];exact D
    rw[p]at PE;have PE:(w.eD.set k c')[j]?=some c2:=PE;rw[a8 ej]at PE;exact J.idle j c2 PE
   ·rw[p]at hg;exact J.eH g hg
   rw[PI c2 PE,p];refine⟨D,a6,iw.mk k c'.call (wrap64 (w.step+1)) (wrap64 (w.step+1)) (w.fy.getD k 0),?_,F.1,rfl⟩;show (w.fg++[_])[w.fg.length]?=_;rw[aR (ax _)];simp
  obtain⟨s3,d3,p3,-⟩:=St.round (Q:=fun _ _ _=>True) (R:=fun _ _=>True) (St.hit V M k w.fg.length) (fun _=>(St.hit V M k _).and (.nG V M)) (.nG V M) (fun _ _ _ _ _ _ _ _ _ _ _ _=>trivial) (fun _ _ _ _ _ _ _ _ _ _=>trivial) T hp ab ab hn;have ZL:=wh T d3;(have Yv:(w.read k a).2.eD.length=w.eD.length:=by rw[p];simp);have W:k<(w.read k a).2.round.eD.length:=ab;have q:=ay W;have X6:=p3.2.2 _ q;refine⟨WJ _ _ q X6.1,w.fg.length,?_⟩
  have Ru:(w.read k a).2.round.read k a=(w.read k a).2.round.gJ k 0 ((w.read k a).2.round.eD[k].read a).2.1 ((w.read k a).2.round.eD[k].read a).2.2:=by
   rw[O _ _ q]
   have:((w.read k a).2.round.eD[k].read a).1=0:=by
    rcases Fj (o:=(a:Int)) X6.1 L (by have h1:=d3.dr.fits.inv.eD k _ q;have h2:=oN d3.dr.fits.inv q;have:=h1.low;have:=h1.high;have:=d3.dr.fits.inv.b0;omega)with⟨c2,f1,-⟩|⟨c2,f1,-⟩<;>rw[f1]
   rw[this]
  obtain⟨m1,m2⟩:=OZ d3.dr.fits.inv.no W ((w.read k a).2.round.eD[k].read a).2.1 ((w.read k a).2.round.eD[k].read a).2.2;rw[<- Ru]at m1 m2;have Qx:=p3.2.1.1;rw[Qx]at m1 m2;rcases p3.2.1.2 _ q with⟨r,-⟩|⟨-,-,x,H,x2,x3⟩
  ·rw[X6.1]at r;cases r
  refine⟨x,((w.read k a).2.round.read k a).2.fg[w.fg.length+1],m1,by rw[m2 _ ab];exact H,ay ab,.inl ?_⟩;rw[x3];exact X6.2
 (have QI:w.read k a=w.gJ k 0 c1.fh.1 c1.fh.2:=by rw[O w c hc,e1]);obtain⟨x,B⟩:=nm (eC.gf {eC.fA {w with eD:=w.eD.set k c1.fh.2}with ft:=w.ft.set k w.fg.length,fg:=w.fg++[iw.mk k c1.fh.2.call (wrap64 (w.step+1)) 0 (w.fy.getD k 0)]} false c1.fh.1:eC)
 have p:(w.read k a).2=x.gG k:=by
  rw[QI,B];unfold eC.gJ;rw[if_neg aj];rfl
 have F:=step1 h.dr.ex ab;(have H:x.eD=w.eD.set k c1.fh.2:=by rw[B];rfl);(have x2:x.ft=w.ft.set k w.fg.length:=by rw[B];rfl);(have x3:x.fg.length=w.fg.length+1:=by rw[B];show (w.fg++[_]).length=_;simp);(have x4:x.step=wrap64 (w.step+1):=by rw[B];rfl);(have x5:x.ff=w.ff:=by rw[B];rfl);have x6:x.eP=w.eP:=by rw[B];rfl
 have A:x.gG k=x:=wB fun c2 PE=>.inr (by
  rw[H,aS K]at PE;rw[<- aA PE,(pI c1).1]
  exact D)
 obtain⟨a7,bb⟩:=zi Rj.fG f.ep.2;have bg:=OX (c:=c1) (by rw[e7];omega) (by rw[e9];exact a7) (by rw[S];exact bb) (by rw[e4];omega) fun _=>⟨.inl (by rw[N]),by rw[N];exact L,by rw[e3];omega,by rw[N];intro h;exact absurd h (by show ¬(1:Int)=2;decide)⟩;obtain⟨b6,b7⟩:=tC c1 (fun _=>.inl (by rw[N]))
 have hlen:c1.fh.1.length<=13:=by
  have:=vK qT (c1.fh.1.map (cg false));rw[tM,aX]at this;omega
 have x7:x.eH.l=c1.fh.1.map (cg false):=by
  rw[B];show (gV w.eH false c1.fh.1).l=_;rw[sj _ _ _ bg (by rw[h.nil];simp;omega),h.nil,cf]
 have X:Dr V n (b+2) (m+1) (st+1) M (w.read k a).2 s:=by
  refine⟨ab,⟨U,Z8,P⟩,WD,hex,by rw[p,A,x5];exact h.dr.up,by rw[p,A,x6];exact h.dr.pow,ab,?_⟩;(have bj:iq (w.read k a).2=iq w:=by unfold iq;rw[p,A,x5]);(have:Cn w=iq w:=by unfold Cn;rw[h.nil];simp[iU]);unfold Cn;rw[bj,p,A,x7,tM];omega
 have bl:FF k a c1.eK c.eB w.fg.length (w.read k a).2 s:=by
  have b1:c1.id=k:=e7.trans hid;have Tn:=f.kn.pH hc;have Ql:=f.kn.small;have b8:=Rj.fT;(have PH:Kc c1 s k:=by have:=Rx k c hc;exact⟨e9.trans this.1,S.trans this.2⟩);have hd:0<=w.eZ.fH/\w.eZ.fH<=500:=ab
  have b2:4<=short w.eZ.fH w.eZ.eF:=by
   have:=OS hd (t:=w.eZ.fa) (u:=w.eZ.eF) ab ab (by unfold jO;omega);omega
  obtain⟨p1,Y⟩:=HC.fh (l:=([]:List fY)) (n1:=c1.eK) (a:=a) (n0:=c.eB) PH au (by rw[e8,Rj.eZ];exact⟨Tb,b2⟩) b1 (by rw[e4];omega) (by rw[a1];omega) (.inr fun g hg=>by cases hg) (.inl ⟨D,e3,by rw[N],by rw[N],e6⟩);rw[cf]at p1;rw[p];refine⟨⟨⟨fun j hj c2 PE=>?_,J.eQ,fun g hg=>?_⟩,fun c2 PE=>?_⟩,?_⟩
  ·rw[A,H,a8 (fun e=>hj e.symm)]at PE;exact J.idle j c2 PE
  ·rw[A,x7]at hg;obtain⟨y,y1,rfl⟩:=aW.1 hg;exact Y y y1
  ·rw[A,H,aS K]at PE;rw[<- aA PE,A,x7];exact p1
  exact E9 (c:=c1.fh.2) (by rw[H,aS K]) x3 (by rw[x4];exact F.1) (by rw[x2,aU];omega) (by rw[x2,lN,if_pos ⟨rfl,ab⟩])
 (have Yv:(w.read k a).2.eD.length=w.eD.length:=by rw[p,A,H];simp);(have e0:(w.read k a).2.gK.2=(w.read k a).2:=by unfold eC.gK;rw[X.up]);have b9:((List.range (w.read k a).2.eD.length).length:Int)<=4:=ah;obtain⟨s2,d2,Y,n2,l2⟩:=Fl L (List.range (w.read k a).2.eD.length) X bl (fun j hj=>bP.1 hj) ab ab;have n2:=n2 (fun e=>by have:=congrArg List.length e;rw[List.length_range,Yv,bJ]at this;omega)
 have er:(w.read k a).2.round=((eC.iY (List.range (w.read k a).2.eD.length) (w.read k a).2).fu (List.replicate (eC.iY (List.range (w.read k a).2.eD.length) (w.read k a).2).eN.length 1)).2.gi:=by
  unfold eC.round;simp only[e0]
 have Z6:m+1+1001*((List.range (w.read k a).2.eD.length).length:Int)+1<=1000000000000:=ab;obtain⟨s3,z3,g3,-⟩:=d2.z.1.iB Z6 hn;have ht:=wi (d:=(eC.iY (List.range (w.read k a).2.eD.length) (w.read k a).2).eP) (d2.z.1.ps.up _ d2.up) Y.1.1.eQ ((eC.iY (List.range (w.read k a).2.eD.length) (w.read k a).2).eN.getD 0 0+1);have v:=g3.eH;rw[ht,n2]at v;have v:_=([]:List fY):=v;rw[O1 v]at er;have I:=Fe Y.2 g3;rw[<- er]at v I z3 g3;have ZL:(w.read k a).2.round.eD.length=w.eD.length:=g3.len.trans (l2.trans Yv);have W:k<(w.read k a).2.round.eD.length:=ab;have q:=ay W;obtain⟨c2,f1,f2⟩:=g3.eD k _ q;have PE:=Y.1.2 c2 f1;rw[n2]at PE
 have b3:c.eB+3<=c2.fa:=by
  rcases PE.fT with hh|⟨-,-,⟨g,hg,-⟩|⟨g,hg,-⟩⟩
  ·exact hh
  ·cases hg
  cases hg
 obtain⟨Px,Z⟩:c2.fB=false/\sw c2 a c.eB:=by
  rcases PE.call with⟨-,-,-,-,-,⟨g,hg,-⟩|⟨g,hg,-⟩⟩|hh
  ·cases hg
  ·cases hg
  exact hh
 (have Qp:((w.read k a).2.round.eD[k]).fB=false:=by rw[f2];exact Px);have S1:=(z3.inv.eD k _ q).one;obtain⟨c3,r1,r2,r3,r4⟩:=OY (c:=(w.read k a).2.round.eD[k]) Qp L (n0:=c.eB) (by rw[f2];show c2.eB+1=_;rw[PE.eB]) (by rw[f2];exact b3) (by rw[f2];exact Z) S1;refine⟨WJ _ _ q Qp,w.fg.length,?_⟩;obtain⟨op,-,E⟩:=Fk z3.inv.no W r2;(have Ru:((w.read k a).2.round.read k a).2=((w.read k a).2.round.gJ k 0 [] c3).2:=by rw[O _ _ q,r1]);rw[E]at Ru;rw[Ru];have aa:=I.1;rcases I.2 _ q with⟨r,-⟩|⟨-,-,ev,y1,y2,y3⟩
 ·rw[Qp]at r;cases r
 refine⟨ev,iw.mk k c3.call (wrap64 ((w.read k a).2.round.step+1)) (wrap64 ((w.read k a).2.round.step+1)) ((w.read k a).2.round.fy.getD k 0),?_,?_,?_,.inr ⟨y2,rfl,r3,?_,rfl⟩⟩
 ·show ((w.read k a).2.round.fg++[_]).length=_;rw[aE,aa];rfl
 ·show ((w.read k a).2.round.fg++[_])[w.fg.length]?=_;rw[ba ab];exact y1
 ·show ((w.read k a).2.round.fg++[_])[w.fg.length+1]?=_;rw[aR ab,aa];simp
 show c3.call.value=ev.call.value;rw[r4,y3]
end fS
namespace fS
open Go.RowKit fD eY fK fc
def kx (w:eC):Prop:=(∃s,w.ff=some s)/\Pow w.eP
theorem vy {t:fU} {d:fe} {eB:Int} (ht:kz t=true) (b:fR eB 0 half=true) (h:d.eG.length<200) (hc:d.cut=false) (he:0<=j7 0 d.eG/\j7 0 d.eG<=1000):∃s,(eA.new t d eB).2.2=some s:=by
 have a:=(vQ d.eG (eA.blank t eB)).2.2.2.2.2.2;have c:(eA.blank t eB).eS=0:=rfl;rw[c]at a;unfold eA.new;rw[if_neg (by rw[ht,b];decide)];generalize (eA.blank t eB).iN d.eG=s1 at a;have hw:wrap64 (s1.eS+1)=s1.eS+1:=jC ab ab;simp only[hw];have e:(if 1<s1.eS+1 then ({s1 with eS:=s1.eS+1,quiet:=eB+t.fa}:eA) else {s1 with eS:=s1.eS+1}).eS=s1.eS+1:=by split<;>rfl
 generalize (if 1<s1.eS+1 then ({s1 with eS:=s1.eS+1,quiet:=eB+t.fa}:eA) else {s1 with eS:=s1.eS+1})=s2 at e⊢
 have f:(d.add false ⟨0,0,-1,0,[],s2.eS⟩).1=0:=by
  have g:Rec.right ⟨0,0,-1,0,[],s2.eS⟩=true:=by
   unfold Rec.right jm;simp only[if_true];simp only[aF,decide_eq_true_eq];refine⟨⟨⟨⟨ab,trivial⟩,trivial⟩,trivial⟩,trivial⟩
  unfold fe.add;rw[if_neg aj,g,if_neg aj,if_neg ab,hc];rfl
 rw[if_pos f];exact⟨s2,rfl⟩
variable {V n b m:Int} {G:gd} {w:eC}
theorem O3 (a:Kn V n w) (hi:Inv b G w) (e:Pi w<=195) (hp:Pow w.eP):kx w.gK.2:=by
 unfold eC.gK
 cases hs:w.ff with
 |some s=>exact⟨⟨s,hs⟩,hp⟩
 |none =>
  simp only;have f:=qi hi;have g:=a.ep;have h:=sd a;have i:=a.small
  obtain⟨s,c⟩:=vy (t:=w.fA.eZ) (d:=w.fA.eP.cutAt (-1)) (eB:=w.fA.eN.getD 0 0) a.right (by unfold fR half;simp only[aF,decide_eq_true_eq];show 0<=w.eN.getD 0 0/\w.eN.getD 0 0<=_;omega) (by show w.eP.eG.length<200;omega) rfl (by
   have:j7 0 (w.fA.eP.cutAt (-1)).eG=Ep w:=rfl;have:=hi.eG.len
   omega)
  have hc:=vR w.fA.eZ (w.fA.eP.cutAt (-1)) (w.fA.eN.getD 0 0);refine⟨⟨s,c⟩,fun hcut=>?_⟩;have hcut:(eA.new w.fA.eZ (w.fA.eP.cutAt (-1)) (w.fA.eN.getD 0 0)).2.1.cut=true:=hcut;exfalso;rcases hc with⟨-,-,c3⟩|⟨-,-,-,-,-,-,-,-,-,-,c3,-⟩
  ·rw[c3]at hcut;exact absurd (show decide ((0:Int) <= -1)=true from hcut) aj
  rw[c3]at hcut;exact absurd (show decide ((0:Int) <= -1)=true from hcut) aj
theorem kx.ku (h:kx w) (hi:Inv b G w) (a:NB w) (c:PS w) (k:Int):kx (w.gS k).2:=by
 obtain⟨⟨s,hs⟩,hp⟩:=h;unfold eC.gS;split
 ·exact⟨⟨s,hs⟩,hp⟩
 cases hl:w.eH.l[k.toNat]? with
 |none=>exact⟨⟨s,hs⟩,hp⟩
 |some g =>
  simp only;split
  ·have e:(eC.fA {w with eH:={w.eH with l:=w.eH.l.eraseIdx k.toNat} }).ff=some s:=hs;rw[e];simp only;obtain⟨d,f⟩:=ES (a.sb s hs).h8 hp hi.eG.len (c.up s hs) ((eC.fA {w with eH:={w.eH with l:=w.eH.l.eraseIdx k.toNat} }).eN.getD 0 0) g.eU;unfold eC.iy;simp only[eC.gf];rw[if_neg (by show ¬(eA.take w.eP s _ g.eU).2.2.eX=true;rw[d];decide)];exact⟨⟨_,rfl⟩,f⟩
  split
  ·obtain⟨m,i,j,-⟩:=qf (eC.gf {eC.fA {w with eH:={w.eH with l:=w.eH.l.eraseIdx k.toNat} }with eD:=(eC.fA {w with eH:={w.eH with l:=w.eH.l.eraseIdx k.toNat} }).eD.set g.to.toNat (eM.take _ g.eU).2} false (eM.take _ g.eU).1) g.to.toNat;refine⟨⟨s,?_⟩,?_⟩
   ·rw[i];exact hs
   rw[j];exact hp
  exact⟨⟨s,hs⟩,hp⟩
theorem kx.ki {p:Nat} (d:p<=195):∀(f:Nat) {w:eC} (_:kx w) (_:Inv b G w) (_:NB w) (_:PS w) (_:Pi w<=p),kx (eC.ia f w)
 |0,_,h,_,_,_,_=>h
 |f+1,w,h,hi,a,c,e=>by
  unfold eC.ia;split
  ·exact h
  have g:=vW hi a c ab 0;exact kx.ki d f (h.ku hi a c 0) (oO hi 0) g.nb g.ps (by have:=g.pi;omega)
theorem kx.jd (h:kx w) (k:Int):kx (w.fh k).2:=by
 unfold eC.fh;split
 ·exact h
 split
 ·exact h
 exact h
theorem kx.iB (h:kx w) (hi:Inv b G w) (a:NB w) (c:PS w) (l:List Int):kx (w.fu l).2:=by
 obtain⟨⟨s,hs⟩,hp⟩:=h;unfold eC.fu;split
 ·exact⟨⟨s,hs⟩,hp⟩
 split
 ·exact⟨⟨s,hs⟩,hp⟩
 simp only;have e:(eC.fA {w with eN:=ib w.eN l,eD:=jj w.eD (ib w.eN l).tail}).ff=some s:=hs;rw[e];simp only;obtain⟨d,f⟩:=ER (a.sb s hs).h8 hp hi.eG.len (c.up s hs) ((ib w.eN l).getD 0 0);unfold eC.iy;simp only[eC.gf];rw[if_neg (by show ¬(eA.tick w.eP s _).2.2.eX=true;rw[d];decide)];exact⟨⟨_,rfl⟩,f⟩
variable {s U st:Nat}
theorem kx.lA (hs:s<=62):∀(a:List Nat) {b:Int} {w:eC} {U:Nat} (_:kx w) (_:Bd w s U) (_:Inv b G w) (_:b+a.length<=1000000),kx (eC.iY a w)
 | [],_,_,_,h,_,_,_=>h
 |k::a,b,w,U,h,hb,hi,c=>by
  simp only[aL]at c;have e:=(hb.u1 hs).2;have g:=tD hi hb.nb hb.ps k;obtain⟨f,-,d,-⟩:=hb.jd hs hi ab k;exact kx.lA hs a (kx.ki (p:=195) ab 1000 (h.jd k) (nP hi ab k) g.nb g.ps (by have:=g.pi;omega)) d (pW 1000 (nP hi ab k)) ab
theorem O4 (h:jy V w s U n) (hs:s<=62) (hi:Inv b G w) (hb:b+4<=1000000) (hp:Pow w.eP):kx w.round:=by
 have f:=(h.bd.u1 hs).2;have u1:=O3 h.kn hi ab hp;have g1:=h.bd.fc (vX h.bd.nb h.bd.ps);have d:=qL hi;(have i:(w.gK.2.eD.length:Int)<=4:=by have:=d.gz;omega);have u2:=kx.lA hs (List.range w.gK.2.eD.length) u1 g1 d ah;obtain⟨j,-,c,-⟩:=g1.lA hs (List.range w.gK.2.eD.length) d ah;have a:=rN (List.range w.gK.2.eD.length) d ah;have e:=(c.u1 hs).2;have g:=tG a c.nb c.ps ab (List.replicate (eC.iY (List.range w.gK.2.eD.length) w.gK.2).eN.length 1);exact kx.ki (p:=195) ab 1000 (u2.iB a c.nb c.ps _) (pV a _) g.nb g.ps (by have:=g.pi;omega)
theorem Fm (h:jy V w st U n) (hs:st<=62) (a:Fits b G w) (d:Ex m w) (hp:Pow w.eP) (hb:b+4<=1000000) (e:n+1<=1000000) (hm:m+5006<=1000000000000) :
 ∃c,U<=c/\jy V w.round st c (n+1)/\Fits (b+4) G w.round/\Ex (m+5006) w.round/\kx w.round/\(c=U->w.round.eH.l=[]):=by
 obtain⟨o,u1,f⟩:=h.l7 hs a.inv hb e;obtain⟨g,u2,i,j⟩:=h.bd.l7 hs a.inv hb;have k:=a.lO 1 ab;exact⟨g,u2,⟨i,f.kn⟩,k,d.l7 a.inv a.idx hb hm,O4 h hs a.inv hb hp,j⟩
theorem Fo (hs:st<=62) (h:jy V w st U n) (c:Fits b G w) (d:Ex m w) (hu:kx w) (a:w.eH.l=[]):∃s,D0 V n b m st G w.eN w s:=by
 obtain⟨⟨s,e⟩,f⟩:=hu;obtain⟨g,i⟩:=tN h.bd.nb a;exact⟨s,⟨hs,⟨U,h⟩,c,d,e,f,ab,ab⟩,a,rfl⟩
theorem O5 (h:jy V w st U n) (hs:st<=62) (g:Fits b G w) (i:Ex m w) (hp:Pow w.eP) (hb:b+8<=1000000) (t:n+2<=1000000) (hm:m+10012<=1000000000000) :
 ∃(j:Nat) (s:eA) (C:List Int),(j=1\/j=2)/\D0 V (n+j) (b+4*j) (m+5006*j) st G C (eC.iz j w) s:=by
 obtain⟨k,u1,a,f1,c,f,n1⟩:=Fm h hs g i hp ab ab ab;by_cases e:k=U
 ·obtain⟨s,d⟩:=Fo hs a f1 c f (n1 e);exact⟨1,s,_,.inl rfl,d⟩
 obtain⟨u,u2,a2,f2,l,o,p⟩:=Fm a hs f1 c f.2 ab ab ab;have:=(a2.bd.u1 hs).1;obtain⟨s,d⟩:=Fo hs a2 f2 l o (p ab);refine⟨2,s,w.round.round.eN,.inr rfl,?_⟩;have e1:n+1+1=n+((2:Nat):Int):=ab;have q:b+4+4=b+4*((2:Nat):Int):=ab;have r:m+5006+5006=m+5006*((2:Nat):Int):=ab;rw[e1,q,r]at d;exact d
theorem St.O6 (V:Int) (G:gd):St V G (fun w s=>∀k,NQ w s/\KN k w s):=St.all fun k=>St.kn V G k
theorem O7 (h:jy V w st U n) (hs:st<=61) (e:Fits b G w) (f:Ex m w) (hp:Pow w.eP) (hb:b<=900000) (D:n<=900000) (hm:m<=100000000) :
 ∃(c b' m':Int) (s:eA) (C:List Int),D0 V c b' m' st G C (eC.iz (2*V.toNat+10) w) s/\NQ (eC.iz (2*V.toNat+10) w) s/\(∀k,KN k (eC.iz (2*V.toNat+10) w) s)/\b'+20<1000000/\m'+10000<=1000000000000/\c+1<=1000000:=by
 have hV:=h.kn.hV;obtain⟨j,E,F,H,d0⟩:=O5 h ab e f hp ab ab ab;have l:(j:Int)<=2:=ab;have o:1<=(j:Int):=ab;obtain⟨s1,d1,p⟩:=OH d0 ab ab ab;obtain⟨s2,d2,q,r⟩:=OI d1 p ab ab ab;obtain⟨I,d3,t⟩:=OL d2 q r ab ab ab;obtain⟨u,d4,v,x⟩:=OM d3 t ab ab ab;have a:NQ _ u:=⟨v,x,fun g hg=>by rw[d4.nil]at hg;cases hg⟩;obtain⟨J,d5,y,z⟩:=OQ d4 a ab ab ab;obtain⟨i,hi⟩:∃i:Nat,2*V.toNat+10=j+(1+(1+((V.toNat+1)+(1+((V.toNat+1)+i)))))/\i<=5:=⟨5-j,ab,ab⟩;obtain⟨A,d6,d⟩:=(St.O6 V G).rounds i d5 (fun k=>⟨y,z k⟩) ab ab ab
 have B:eC.iz (2*V.toNat+10) w=eC.iz i (eC.iz (V.toNat+1) (eC.round (eC.iz (V.toNat+1) (eC.round (eC.round (eC.iz j w)))))):=by
  rw[hi.1,oX,oX 1,oX 1,oX (V.toNat+1),oX 1,oX (V.toNat+1)];rfl
 rw[B];exact⟨_,_,_,A,_,d6,(d 0).1,fun k=>(d k).2,ab,ab,ab⟩
theorem O8 {C:List Int} {s:eA} (h:D0 V n b m st G C w s) (c:NQ w s):∀e∈w.fg,e.ended=0->0<=e.eI/\e.eI<w.eD.length/\e.gv≠w.fy.getD e.eI.toNat 0:=by
 intro e he d;obtain⟨i,hi,rfl⟩:=cX he;obtain⟨v1,v2,-,v3⟩:=h.dr.ex.ev i _ (ay hi) d;refine⟨v1,v2,?_⟩;rcases v3 with v3|v3
 ·omega
 exfalso;have a:(w.fg[i]).eI.toNat<w.eD.length:=ab;have:=h.dr.ex.op _ _ (ay a) (by rw[v3];omega);rw[c.idle _ _ (ay a)]at this;cases this
end fS
namespace fS
open Go.RowKit fD eY fK fc
def Sm (w w':eC):Prop:=w'.fy=w.fy/\w'.eZ=w.eZ/\w'.eD.length=w.eD.length
theorem Sm.refl (w:eC):Sm w w:=⟨rfl,rfl,rfl⟩
theorem Sm.trans {a b c:eC} (h:Sm a b) (g:Sm b c):Sm a c:=⟨g.1.trans h.1,g.2.1.trans h.2.1,g.2.2.trans h.2.2⟩
theorem Fp (w:eC) (k:Nat):Sm w (w.gG k):=by
 unfold eC.gG;split
 ·split
  ·split<;>exact .refl w
  exact .refl w
 exact .refl w
theorem tR (w:eC) (k:Nat) (c:eM):(w.eD.set k c).length=w.eD.length:=aU
theorem Fq (w:eC) (k:Nat) (e:Int) (l:List eL) (c:eM):Sm w (w.gJ k e l c).2:=by
 unfold eC.gJ;split
 ·exact⟨rfl,rfl,tR w k c⟩
 refine Sm.trans ?_ (Fp _ k);exact⟨rfl,rfl,tR w k c⟩
theorem O9 (w:eC) (k o:Int):Sm w (w.read k o).2:=by
 unfold eC.read;split
 ·exact .refl w
 split
 ·exact Fq _ _ _ _ _
 exact .refl w
theorem Pa (w:eC) (k o:Int) (d:Bytes):Sm w (w.write k o d).2:=by
 unfold eC.write;split
 ·exact .refl w
 split
 ·exact Fq _ _ _ _ _
 exact .refl w
theorem Fs (w:eC) (k:Int):Sm w (w.fh k).2:=by
 unfold eC.fh;split
 ·exact .refl w
 split
 ·exact⟨rfl,rfl,tR w _ _⟩
 exact .refl w
theorem Ft (w:eC):Sm w w.iy:=by
 unfold eC.iy;split
 ·split<;>exact .refl w
 exact .refl w
theorem Fu (w:eC) (k:Int):Sm w (w.gS k).2:=by
 unfold eC.gS;split
 ·exact .refl w
 split
 ·exact .refl w
 simp only;split
 ·split
  ·exact .refl w
  refine Sm.trans ?_ (Ft _);exact .refl w
 split
 ·refine Sm.trans ?_ (Fp _ _);exact⟨rfl,rfl,tR w _ _⟩
 exact .refl w
theorem Fv (w:eC) (k:Int):Sm w (w.jP k).2/\Sm w (w.jQ k).2:=by
 unfold eC.jP eC.jQ;refine⟨?_,?_⟩
 ·split<;>exact .refl w
 split
 ·exact .refl w
 split<;>exact .refl w
theorem Fw (w:eC) (l:List Int):Sm w (w.fu l).2:=by
 unfold eC.fu;split
 ·exact .refl w
 split
 ·exact .refl w
 simp only;split
 ·exact⟨rfl,rfl,nB _ _⟩
 refine Sm.trans ?_ (Ft _);exact⟨rfl,rfl,nB _ _⟩
theorem Fx (w:eC):Sm w w.gK.2:=by
 unfold eC.gK;split<;>exact .refl w
theorem zq:∀(f:Nat) (w:eC),Sm w (eC.ia f w)
 |0,w=>.refl w
 |f+1,w=>by
  unfold eC.ia;split
  ·exact .refl w
  exact (Fu w 0).trans (zq f _)
theorem Fy:∀(a:List Nat) (w:eC),Sm w (eC.iY a w)
 | [],w=>.refl w
 |k::a,w=>((Fs w k).trans (zq 1000 _)).trans (Fy a _)
theorem zr:∀(n:Nat) (w:eC),Sm w (eC.iz n w)
 |0,w=>.refl w
 |n+1,w=>(((Fx w).trans (Fy _ _)).trans ((Fw _ _).trans (zq 1000 _))).trans (zr n w.round)
variable {n:Int} {w:eC}
theorem Pb {V b:Int} {G:gd} (a:Kn V n w) (hi:Inv b G w) {k:Int} (h:0<=k/\k<w.eD.length) (f:w.fy.getD k.toNat 0<1000):(w.jG k).2.fy=w.fy.set k.toNat (w.fy.getD k.toNat 0+1)/\(w.jG k).2.eZ=w.eZ/\(w.jG k).2.eD.length=w.eD.length:=by
 have d:=hi.fy k.toNat (by rw[hi.nl];omega);have g:=hi.gz;have i:=oT a.right;have hw:wrap64 (w.fy.getD k.toNat 0+1)=w.fy.getD k.toNat 0+1:=jC ab ab
 have hc:0<=w.eN.getD (k.toNat+1) 0/\w.eN.getD (k.toNat+1) 0<=n:=by
  rw[aC,ay (by have:=a.lens;omega)];exact a.ik _ (bO _)
 have j:=a.small
 obtain⟨c,e⟩:∃c,eM.new k w.eZ (wrap64 (w.fy.getD k.toNat 0+1)) (w.eN.getD (k.toNat+1) 0)=some c:=by
  unfold eM.new;rw[if_pos]
  ·exact⟨_,rfl⟩
  unfold fX fR half;simp only[aF,decide_eq_true_eq];omega
 unfold eC.jG;rw[if_neg (by unfold eC.right;simp;omega),e];exact⟨by show w.fy.set _ _=_;rw[hw],rfl,tR w _ _⟩
structure TC (i:Nat) (y:jY) (L:List Int):Prop where
 fits:∃G,Fits (20*i) G y.r
 all:∃U,jy y.t.fa y.r i U (20*i)
 ex:Ex (20024*i) y.r
 fH:0<=y.t.fH/\y.t.fH<=500
 eZ:y.r.eZ=y.t
 len:(y.r.eD.length:Int)=y.n/\1<=y.n
 fy:y.r.fy=L
 low:∀k,L.getD k 0<=i
variable {i:Nat} {y:jY} {L:List Int}
theorem TC.next (h:TC i y L) (hi:i<=60) (x:Step):TC (i+1) (ie x y) (if x.fz=10 then L.set (pick x.k y.n).toNat (L.getD (pick x.k y.n).toNat 0+1) else L):=by
 obtain⟨G,c⟩:=h.fits;obtain⟨U,f⟩:=h.all;obtain⟨j,d⟩:=Dh c ab x;obtain⟨l,g⟩:=f.tL hi c.inv ab ab h.fH x;have m:=h.ex.tL c.inv c.idx ab ab x;obtain⟨e1,o⟩:=rS x y;have hlen:=h.len;have p:=c.inv.gz;have hp:=jK x.k y.n ab ab
 have key:(ie x y).r.eZ=y.r.eZ/\(ie x y).r.eD.length=y.r.eD.length/\(ie x y).r.fy=if x.fz=10 then L.set (pick x.k y.n).toNat (L.getD (pick x.k y.n).toNat 0+1) else L:=by
  have b:∀ {w':eC},Sm y.r w'->x.fz≠10->w'.eZ=y.r.eZ/\w'.eD.length=y.r.eD.length/\w'.fy=if x.fz=10 then L.set (pick x.k y.n).toNat (L.getD (pick x.k y.n).toNat 0+1) else L:=fun h' PB=>⟨h'.2.1,h'.2.2,by rw[if_neg PB,h'.1];exact h.fy⟩;unfold ie;by_cases a:x.fz=0
  ·rw[if_pos a];exact b (O9 _ _ _) ab
  rw[if_neg a];by_cases a:x.fz=1
  ·rw[if_pos a];exact b (Pa _ _ _ _) ab
  rw[if_neg a];by_cases a:x.fz=2
  ·rw[if_pos a];exact b (Fs _ _) ab
  rw[if_neg a];by_cases a:x.fz=3
  ·rw[if_pos a];exact b (Fu _ _) ab
  rw[if_neg a];by_cases a:x.fz=4
  ·rw[if_pos a];exact b (Fv _ _).1 ab
  rw[if_neg a];by_cases a:x.fz=5
  ·rw[if_pos a];exact b (Fv _ _).2 ab
  rw[if_neg a];by_cases a:x.fz=6
  ·rw[if_pos a];exact b (Fw _ _) ab
  rw[if_neg a];by_cases a:x.fz=7
  ·rw[if_pos a];exact b (.refl _) ab
  rw[if_neg a];by_cases a:x.fz=8
  ·rw[if_pos a];exact b (.refl _) ab
  rw[if_neg a];by_cases a:x.fz=9
  ·rw[if_pos a];exact b (Fx _) ab
  rw[if_neg a];by_cases a:x.fz=10
  ·rw[if_pos a,if_pos a];have e:=h.low (pick x.k y.n).toNat;rw[<- h.fy]at e⊢;obtain⟨q,s,t⟩:=Pb f.kn c.inv (k:=pick x.k y.n) ab ab;exact⟨s,t,q⟩
  rw[if_neg a];by_cases d:x.fz=11
  ·rw[if_pos d];exact b (zr _ _) a
  rw[if_neg d];exact b (.refl _) a
 refine⟨⟨j,d.gx ab⟩,⟨l,⟨g.bd,by rw[e1];exact g.kn.gx ab ab⟩⟩,m.gx ab ab,by rw[e1];exact h.fH,by rw[key.1,e1];exact h.eZ,by rw[key.2.1,o];exact h.len,key.2.2,fun k=>?_⟩;have:=h.low k;split
 ·rw[lN];split
  ·have:=h.low (pick x.k y.n).toNat;omega
  omega
 omega
theorem TC.oR {t:fU} {r:eC} (h:(eC.new t n).2=some r) (ht:1<=t.fa/\t.fa<=1000) (hd:0<=t.fH/\t.fH<=500) (a:1<=n) (wr:Int):TC 0 ⟨r,t,n,wr⟩ (List.replicate n.toNat 0):=by
 have b:=Og h ht;have c:=Om h;refine⟨⟨_,by simpa using Fits.oR h⟩,⟨0,by simpa using b⟩,by simpa using c,hd,?_,⟨?_,a⟩,?_,fun k=>?_⟩
 all_goals
  unfold eC.new at h;split at h
  ·cases h
  split at h
  ·split at h
   ·rename_i cs d;obtain rfl:=aA h
    first
     |rfl
     |(have:=(pX _ d).1;show (cs.length:Int)=n;omega)
     |(show (List.replicate n.toNat (0:Int)).getD k 0<=0;rw[aC,bC];split<;>simp)
   cases h
  cases h
theorem TC.lO (h:TC i y L) (hi:i<=60) (hw:w=eC.iz (2*y.t.fa.toNat+10) (y.r.kf 1000 (-1))) :
 (∃s,w.ff=some s)/\(∀e∈w.fg,e.ended=0->(0<=e.eI/\e.eI<y.n)/\e.gv≠L.getD e.eI.toNat 0) /\
 (4<=short y.t.fH y.t.fa->∀k a:Nat,(k:Int)<y.n->a<8->(w.read k a).1=0/\((w.read k a).2.round.read k a).1=0/\∃(i:Nat) (x z:iw),((w.read k a).2.round.read k a).2.fg.length=i+2/\((w.read k a).2.round.read k a).2.fg[i]?=some x/\((w.read k a).2.round.read k a).2.fg[i+1]?=some z /\
   (x.call.hit=true\/(1<=x.ended/\z.ended=z.oe/\z.call.hit=true/\z.call.value=x.call.value/\((w.read k a).2.round.read k a).2.eH.l.length=(w.read k a).2.round.eH.l.length))):=by
 obtain⟨G,j⟩:=h.fits;obtain⟨U,b⟩:=h.all;have A:=(b.bd.u1 ab).2;have m:=Er b.bd.nb b.bd.ps 1000 (-1);have hp:Pow (y.r.kf 1000 (-1)).eP:=fun _=>⟨by show (1000:Int)<=1000+_;omega,by show (1000:Int)<=1000;omega⟩;obtain⟨B,b',m',s,C,d,c,f,o,p,q⟩:=O7 (st:=i+1) ⟨b.bd.grow (m.more ab ab),b.kn.oB 1000 (-1)⟩ ab (j.oB 1000 (-1)) (h.ex.oB 1000 (-1)) hp ab ab ab;have g:=(show Sm y.r (y.r.kf 1000 (-1)) from ⟨rfl,rfl,rfl⟩).trans (zr (2*y.t.fa.toNat+10) _);rw[<- hw]at d c f g;clear hw;obtain⟨e1,u,D⟩:=g;have hlen:=h.len;refine⟨⟨s,d.dr.up⟩,fun e he v=>?_,fun Tb k a hk b=>?_⟩
 ·obtain⟨v1,v2,v3⟩:=O8 d c e he v;rw[e1,h.fy]at v3;exact⟨⟨v1,ab⟩,v3⟩
 exact O2 d ab c f ab b (by rw[u,h.eZ];exact Tb) o p q
end fS
end Go.Proofs.YtjhdaojclilakaaGreatDoor
