/-
  A part of the proof of the law WorldCalm: KpE, KpF, KpH.
-/
import Derived.Deep.MidRow
import Derived.Test.YtjhdaojclilakaaGreatDoorHd
import Derived.Test.YtjhdaojclilakaaGreatDoorP42
set_option maxHeartbeats 16000000
set_option maxRecDepth 1000000
namespace Go.Proofs.YtjhdaojclilakaaGreatDoor
namespace kp
open Go.RowKit heap own gC gO fD fj gj iv fc
open eY (fe eA eM iM iw fU fY Net eC)
theorem Dx {a b:eY.ir} (h:vE a b=true):a=b:=by
 unfold vE at h;rw[aF]at h;have c:=of_decide_eq_true h.1;have d:=of_decide_eq_true h.2;cases a;cases b;simp only at c d;rw[c,d]
theorem MV:qQ.1=0/\rV.1=0/\pD.1=0/\pD.2.eH.l.length=rW.eH.l.length/\∃e0 e1 a,pD.2.fg=[e0,e1,a]/\e0.call.value.fq=1/\e1.call.value=⟨[97],1⟩/\a.call.hit=true/\a.call.value=e1.call.value:=by
 have h:=vf;unfold Dw at h;simp only[aF]at h;obtain⟨⟨⟨⟨⟨-,c⟩,d⟩,e⟩,f⟩,b⟩:=h;refine⟨of_decide_eq_true c,of_decide_eq_true d,of_decide_eq_true e,of_decide_eq_true f,?_⟩;split at b
 ·rename_i e0 e1 a he;simp only[aF]at b;obtain⟨⟨⟨g,a2⟩,a3⟩,a4⟩:=b;exact⟨e0,e1,a,he,of_decide_eq_true g,Dx a2,a3,Dx a4⟩
 cases b
section
variable {P:Lib.PrintTabs}
theorem MW (w:World) (V:fF.kQ P w) (W:Handle w) :
 Calls Tryz.prog 4 #[] w fun e w'=>e=.returned (.bool true)/\BB w w':=by
 obtain⟨D,s,-⟩:=Dt ⟨30,10,0⟩ 2 aj ab ab;have E:=Fits.oR (show (eC.new ⟨30,10,0⟩ (2:Nat)).2=some D by rw[s]);(have F:D.write 0 3 [97]=qQ:=by unfold qQ;rw[show (eC.new ⟨30,10,0⟩ 2).2=some D from by rw[show (2:Int)=((2:Nat):Int) from rfl,s]]);obtain⟨G1,t⟩:=E.oP ab 0 3 [97];rw[F]at t;have v:=t.lO 30 ab;obtain⟨G3,k⟩:=v.l6 ab 1 3;have i:=k.lO 1 ab;obtain⟨G5,l⟩:=i.l6 ab 1 3;obtain⟨X,Y,Z,q4,e0,e1,x,he,v0,v1,v2,v3⟩:=MV;have H:eC.iz 30 qQ.2=vD:=rfl;have I:vD.read 1 3=rV:=rfl;have J:eC.iz 1 rV.2=rW:=rfl;have K:rW.read 1 3=pD:=rfl;rw[H]at v k i l;rw[I]at k i l;rw[J]at i l;rw[K]at l;(have m:pD.2.fg.length=3:=by rw[he];rfl);have y:=Ds w ⟨30,10,0⟩ 2 V W;rw[show (2:Int)=((2:Nat):Int) from rfl,s]at y;unfold nM at y;generalize qQ=ra at *;generalize vD=rb at *;generalize rV=rc at *;generalize rW=rd at *;generalize pD=re at *;have SF:=Hd y;have p:=Hd (And.intro X (And.intro Y (And.intro Z q4)));have HA:=Hd F;have HB:=Hd H;have HC:=Hd I;have HD:=Hd J;have HE:=Hd K;have f:=Hd E;have q:=Hd t;have z:=Hd v;have d:=Hd k;have A:=Hd i;have c:=Hd (And.intro he (And.intro v0 (And.intro v1 (And.intro v2 (And.intro v3 m)))));clear s y V W E t v k i l F H I J K X Y Z q4 he v0 v1 v2 v3 m;(go_enter Tryz.func4,Tryz.ntmps4);(go_upto_region 2 with (go_at_call 15;refine SF.o.mono ?_;rintro e w3 ⟨own1,ob,db,v1,rfl,h3⟩));have L:=Hd (vw w3 0 3 [97] f.o.inv ab f.o.idx (by have:=f.o.jM;omega) h3);rw[HA.o,p.o.1,o7]at L;clear SF h3;(go_upto_region 4 with (go_at_call 16;refine L.o.mono ?_;rintro e w4 ⟨rfl,aa,v2,B,-,-⟩));have M:=Hd (th w4 30 ab (b:=0+2) (G:=G1) ⟨q.o.inv,q.o.idx,q.o.iT,q.o.ik⟩ ab B);rw[HB.o]at M;clear L B;(go_upto_region 5 with (go_at_call 9;refine M.o.mono ?_;rintro e w5 ⟨rfl,ad,v3,h5,-,-⟩));have N:=Hd (tg w5 1 3 z.o.inv ab z.o.idx (by have:=z.o.jM;omega) h5);rw[HC.o,p.o.2.1,o7]at N;clear M h5;(go_upto_region 7 with (go_at_call 13;refine N.o.mono ?_;rintro e w6 ⟨rfl,al,v4,h6,-,-⟩));have O:=Hd (th w6 1 ab (b:=0+2+4*(30:Nat)+2) (G:=G3) ⟨d.o.inv,d.o.idx,d.o.iT,d.o.ik⟩ ab h6);rw[HD.o]at O;clear N h6;(go_upto_region 8 with (go_at_call 9;refine O.o.mono ?_;rintro e w7 ⟨rfl,an,v5,Q,-,-⟩));have K5:=Hd (rG w7 Q);have R:=Hd (tg w7 1 3 A.o.inv ab A.o.idx (by have:=A.o.jM;omega) Q);rw[HE.o,p.o.2.2.1,o7]at R;clear O Q;(go_upto_region 9 with (go_at_call 14;refine K5.o.mono ?_;rintro e w8 ⟨rfl,rfl⟩));(go_upto_region 11 with (first|(go_at_call 13;refine R.o.mono ?_;rintro e w9 ⟨rfl,Wy,v6,S,-,-⟩;have T:=Hd (rG w9 S);rw[p.o.2.2.2]at T;have C:=Hd S;clear S)|(go_at_call 14;refine T.o.mono ?_;rintro e aq ⟨rfl,rfl⟩)));have U:=Hd (yj w9 C.o (by rw[c.o.2.2.2.2.2];omega));rw[c.o.2.2.2.2.2,c.o.1]at U;clear K5 R T;(go_upto_region 12 with (go_at_call 10;refine U.o.mono ?_;rintro e h ⟨u,rfl,Ss,r⟩));have UR:=C.o.iA.trans (r.mono C.o.iA.size)
 obtain⟨g,cap,cur,hu,a⟩:∃g cap cur,u=.slice (some ⟨g,0,none⟩) 3 cap/\∀j,j<30->h.cell? ⟨g,j,none⟩=([e0,e1,x].flatMap gB)[j]?:=by
  rcases Ss.2 with⟨-,h0⟩|⟨g,cap,cur,h1,-,hg,-,-,-,B⟩
  ·cases h0
  exact⟨g,cap,cur,h1,fun j hj=>(kj (w:=h) (n:=3) (size:=10) hg B j hj).1⟩
 subst hu;(have x4:h.cell? ⟨g,4,none⟩=some (VI 1):=by rw[a 4 ab,<- c.o.2.1];rfl);(have ar:h.cell? ⟨g,13,none⟩=some (.string ⟨#[97]⟩):=by rw[a 13 ab];show some (Value.string ⟨e1.call.value.data.toArray⟩)=_;rw[c.o.2.2.1]);(have au:h.cell? ⟨g,14,none⟩=some (VI 1):=by rw[a 14 ab];show some (VI e1.call.value.fq)=_;rw[c.o.2.2.1]);(have a1:h.cell? ⟨g,26,none⟩=some (.bool true):=by rw[a 26 ab];show some (Value.bool x.call.hit)=_;rw[c.o.2.2.2.1]);(have a6:h.cell? ⟨g,23,none⟩=some (.string ⟨#[97]⟩):=by rw[a 23 ab];show some (Value.string ⟨x.call.value.data.toArray⟩)=_;rw[c.o.2.2.2.2.1,c.o.2.2.1]);(have a7:h.cell? ⟨g,24,none⟩=some (VI 1):=by rw[a 24 ab];show some (VI x.call.value.fq)=_;rw[c.o.2.2.2.2.1,c.o.2.2.1]);have RG:=Hd UR;clear Ss r a UR U C p HA HB HC HD HE f q z d A c;(go_quiet (fail));(go_wp2_with fail);go_ret;exact⟨rfl,below_drewN RG.o nq⟩
end
end kp
namespace kp
open Go.RowKit heap own gC gO fD fj gj iv fc law
open eY (fe eA eM iM iw fU fY Net eC)
section
variable {P:Lib.PrintTabs} {own own1:Nat->Nat} {w0 w wa w':World} {tb ob db:Nat} {v v':WV} {r r':eC} {y y':jY}
structure At (P:Lib.PrintTabs) (w0 w:World) (tb ob db:Nat) (i:Nat) (y:jY):Prop where
 mem:∃own v,jD P own w0 w tb ob db v y
 fits:∃G,Fits (20*i) G y.r
 fH:0<=y.t.fH/\y.t.fH<=500
 n:1<=y.n/\y.n<=4
 gp:0<=y.gp/\y.gp<=i
theorem At.next {i:Nat} (h:At P w0 w tb ob db i y) (hi:i<=70) (x:Step) (hm:∃own v,jD P own w0 w' tb ob db v (fc.ie x y)):At P w0 w' tb ob db (i+1) (fc.ie x y):=by
 obtain⟨G,a⟩:=h.fits;obtain⟨b,c⟩:=Dh a ab x;obtain⟨e1,d⟩:=rS x y;have f:=Di x y;have:=h.gp;refine⟨hm,⟨b,c.gx ab⟩,by rw[e1];exact h.fH,by rw[d];exact h.n,?_⟩;rcases f with e|e<;>rw[e]<;>omega
end
end kp
namespace kp
open Go.RowKit heap own gC gO fD fj gj iv fc law fS
open eY (fe eA eM iM iw fU fY Net eC)
theorem Fz {c:Program} {op:Oper} {a:Act} {w:World} (ty:TypeId) (x:Operand) (e:op.op=.load ty x) (b o:Nat) (f:a.eval x=VP b o) (cs:List Value) (d:TypeDesc) (hc:w.rangeAt b o cs) (hu:c.underlying ty=some d) (hd:d.isRow=true) (hi:(c.info? ty).map (·.size)=some cs.length):(execOp a.eval op).run c w=.ok (.value (.agg cs.toArray)) w:=by
 unfold execOp;simp only[e,f,Instr.loadAt,Instr.sureAddr,Sem.run_bind,Sem.run_pure,Result.andThen_ok,run_loadVar_mid w b o ty cs d hc hu hd hi]
section
variable {P:Lib.PrintTabs} {own own1:Nat->Nat} {w0 w wa w':World} {tb ob db lb N:Nat} {v v':WV} {r r':eC} {y y':jY} {L:List Int}
def Mem (P:Lib.PrintTabs) (w0 w:World) (tb ob db lb N:Nat) (y:jY) (L:List Int):Prop:=
 ∃own v,jD P own w0 w tb ob db v y/\Row own 0 w 3 1 (.slice (some ⟨lb,0,none⟩) N N) N (ints L)
theorem wD (h:Row own 0 w 3 1 (.slice (some ⟨lb,0,none⟩) N N) N (ints L)):own lb=0:=h.2 lb rfl
theorem Mem.told (a:Row own 0 w 3 1 (.slice (some ⟨lb,0,none⟩) N N) N (ints L)) (b:lb≠tb) (ht:Told P own w0 tb ob db w y' w'):Mem P w0 w' tb ob db lb N y' L:=by
 obtain⟨own1,v1,c,d,f⟩:=ht;refine⟨own1,v1,c,a.wE f d fun k g=>?_⟩;(obtain rfl:lb=k:=by simpa[Value.ownBlock]using g);rintro (e|e)
 ·exact e (wD a)
 exact b e
theorem Mem.step (h:jD P own w0 w tb ob db v y) (a:Row own 0 w 3 1 (.slice (some ⟨lb,0,none⟩) N N) N (ints L)) (hs:iv.gh P own w0 ob db w r' w'):Mem P w0 w' tb ob db lb N {y with r:=r'} L:=by
 obtain⟨own1,v1,b,c,d⟩:=h.step hs;refine⟨own1,v1,b,a.wE d c fun k f=>?_⟩;(obtain rfl:lb=k:=by simpa[Value.ownBlock]using f);exact fun e=>e (wD a)
theorem Mem.below (h:Mem P w0 w tb ob db lb N y L) (hb:BB w w'):Mem P w0 w' tb ob db lb N y L:=by
 obtain⟨own,v,a,b⟩:=h;exact⟨own,v,a.below hb,b.below hb⟩
theorem Mem.set (h:Mem P w0 w tb ob db lb N y L) (c:lb≠tb) (d:w0.heap.size<=lb) {k:Nat} (i:k<N) (x:Int):Mem P w0 (w.setCell ⟨lb,k,none⟩ (VI x)) tb ob db lb N y (L.set k x):=by
 obtain⟨own,v,a,b⟩:=h;have f:=wD b;refine⟨own,v,⟨(eJ.tj w (S:=fun g=>g=lb) lb k _ rfl).has a.t_ (fun e=>c e.symm),a.free,a.low,a.world.fc (S:=fun g=>g=lb) (eJ.tj w lb k _ rfl) (Ext.refl _ _) (fun g hg=>a.world.fr g (by simpa using hg)) a.world.low fun g _ e=>by subst e;exact⟨f,d⟩⟩,?_⟩;rw[<- ints_set];exact rH b k ab _
theorem Mem.cell (h:Mem P w0 w tb ob db lb N y L) (a:L.length=N) {k:Nat} (i:k<N):lb<w.heap.size/\CI w lb k (L.getD k 0)/\w.frozen? ⟨lb,k,none⟩=false:=by
 obtain⟨own,v,-,b⟩:=h;(have c:L[k]?=some (L.getD k 0):=by rw[aC,ay ab];rfl);subst a;obtain⟨g,cap,e1,-,d,e,f⟩:=lE b c;simp only[Value.slice.injEq,bI,Addr.mk.injEq,and_true]at e1;obtain⟨rfl,-,-⟩:=e1;exact⟨d,e,f⟩
structure qp (P:Lib.PrintTabs) (w0 w:World) (tb ob db lb N:Nat) (i:Nat) (y:jY) (L:List Int):Prop where
 mem:Mem P w0 w tb ob db lb N y L
 ne:lb≠tb
 low:w0.heap.size<=lb
 tc:TC i y L
 n:y.n=(N:Int)/\1<=N/\N<=4
 len:L.length=N
 gp:0<=y.gp/\y.gp<=i
theorem Pc (i:Nat) (hi:i<=60) (x:Step) (w:World) (h:qp P w0 w tb ob db lb N i y L) :
 Calls Tryz.prog 6 #[VP tb 0,vC x] w fun e w'=>e=.returned (.tuple #[])/\Mem P w0 w' tb ob db lb N (fc.ie x y) L:=by
 obtain⟨own,v,hm,a⟩:=h.mem;obtain⟨G,b⟩:=h.tc.fits;refine (MU w x hm h.tc.fH (by have:=h.n;omega) (by have:=h.gp;omega) b ab).mono ?_;rintro e w' ⟨rfl,ht⟩;exact⟨rfl,Mem.told a h.ne ht⟩
theorem qp.next {i:Nat} (h:qp P w0 w tb ob db lb N i y L) (hi:i<=60) (x:Step) {a:List Int} (b:a=if x.fz=10 then L.set (fc.pick x.k N).toNat (L.getD (fc.pick x.k N).toNat 0+1) else L) (hm:Mem P w0 w' tb ob db lb N (fc.ie x y) a):qp P w0 w' tb ob db lb N (i+1) (fc.ie x y) a:=by
 obtain⟨e1,c⟩:=rS x y;have d:=Di x y;have:=h.gp;refine⟨hm,h.ne,h.low,?_,by rw[c];exact h.n,?_,?_⟩
 ·have:=h.tc.next hi x;rw[h.n.1]at this;rw[b];exact this
 ·rw[b];split
  ·rw[aU];exact h.len
  exact h.len
 rcases d with e|e<;>rw[e]<;>omega
end
end kp
end Go.Proofs.YtjhdaojclilakaaGreatDoor
