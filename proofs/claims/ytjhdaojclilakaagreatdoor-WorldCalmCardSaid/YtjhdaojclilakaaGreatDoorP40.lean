/-
  A part of the proof of the law WorldCalm: WoT.
-/
import Derived.Test.YtjhdaojclilakaaGreatDoorHd
import Derived.Test.YtjhdaojclilakaaGreatDoorP39
set_option maxHeartbeats 16000000
set_option maxRecDepth 1000000
namespace Go.Proofs.YtjhdaojclilakaaGreatDoor
section
variable {p q:Prop}
theorem aaf (h:p:=by
 refine hK.out _ _ (fun _=>QK.o) ?_;clear hK K HS;have HS:=QK;clear QK;dsimp only[List.set];refine phase.gN 6 25 (.agg #[VI t.eF,VI t.fa,VI t.fH,VP db 0,.pointer none,.slice none 0 0,.slice none 0 0,.slice (some ⟨kb,0,none⟩) n1 n1,.slice none 0 0,VI 0,.slice none 0 0,.slice none 0 0,VI 0]) [] HS.o ?_;dsimp only[List.set];refine phase.g1 7 fun K hK=>?_;go_simp;obtain⟨Yo,WE⟩:=nm wf.heap.size;obtain⟨wo,hwo⟩:=nm (wf.alloc (.cells #[VI t.eF,VI t.fa,VI t.fH,VP db 0,.pointer none,.slice none 0 0,.slice none 0 0,.slice (some ⟨kb,0,none⟩) n1 n1,.slice none 0 0,VI 0,.slice none 0 0,.slice none 0 0,VI 0] 68));rw[<- hwo,<- WE];(have Zl:BB wf wo:=by rw[hwo];exact (Below.refl _ _).alloc (ax _) _);have hbb:=HBf.o.trans (Zl.mono HBf.o.size);have QK:Hy ((fun W=>CI W b2 0 t.eF/\CI W b2 1 t.fa/\CI W b2 2 t.fH) wo):=Hd ⟨(hbb.cell (p:=⟨b2,0,none⟩) RX).trans y0,(hbb.cell (p:=⟨b2,1,none⟩) RX).trans y1,(hbb.cell (p:=⟨b2,2,none⟩) RX).trans y2⟩;(have Ua:Has wo Yo (.cells #[VI t.eF,VI t.fa,VI t.fH,VP db 0,.pointer none,.slice none 0 0,.slice none 0 0,.slice (some ⟨kb,0,none⟩) n1 n1,.slice none 0 0,VI 0,.slice none 0 0,.slice none 0 0,VI 0] 68):=by rw[hwo,WE];exact Has.new wf _);have PR:w.heap.size<=W1.heap.size:=PQ.o.size;have TW:=Dq (P:=P) (n1:=n1) t HK.o HH.o (PQ.o.trans (hbb.mono PR)) (by have:=HM.o;omega) hm5 (Yp.o.below Zl Yp.o.lt) (by have:=mg (mh Vt.o.1 Zl) (bR _);have e:jX n1 0=List.replicate n1 0:=(by simp[jX]);rw[e]at this;exact this) Ua (aG Vt.o.2.1 Zl.size) (by have:=Yp.o.lt;omega) (by have:=Vt.o.2.1;omega) (Ne.symm Vt.o.2.2) (by have:=HBf.o.size;omega) (aB PR HDL.o) (aB PR UU.o);have Tl:=Hd TW;have U4:Hy (Has wo b2 (.cells #[VI t.eF,VI t.fa,VI t.fH] 29)/\b2≠Yo/\b2≠db/\b2≠kb):=Hd ⟨Qd.o.below hbb RX,by have:=HBf.o.size;omega,by have:=HDL.o;omega,by have:=UU.o;omega⟩;clear hwo WE Zl hbb Ua PR TW;refine hK.out _ _ (fun _=>QK.o) ?_;clear hK K HS;have HS:=QK;clear QK;dsimp only[List.set];refine phase.gN 8 6 (VP Yo 0) [] HS.o ?_;dsimp only[List.set];refine phase.gD ?_;(go_wp2_with fail);go_meet
 case rel =>
  obtain⟨own1,vx,h1,h2⟩:=Tl.o;exact⟨own1,Yo,db,vx,rfl,h1,U4.o.1,h2 b2 U4.o.2.1 U4.o.2.2.1 U4.o.2.2.2⟩):p:=h
theorem aaX (z:q) (h:Hy q->p:=by
 intro zz;have P5:eJ (fL own1) wc w5:=(eJ.refl _ wc).drew.trans WC fun _ _ e=>e;have PF:Hy ((fun W=>CI W b2 0 t.eF/\CI W b2 1 t.fa/\CI W b2 2 t.fH/\CP W ob 3 db 0) w5):=Hd ⟨(P5.cell (p:=⟨b2,0,none⟩) Sz QY.o.2).trans d0,(P5.cell (p:=⟨b2,1,none⟩) Sz QY.o.2).trans d1,(P5.cell (p:=⟨b2,2,none⟩) Sz QY.o.2).trans d2,(P5.cell (p:=⟨ob,3,none⟩) Qc QY.o.1).trans d3⟩;refine hK.out _ _ (fun _=>PF.o) ?_;have HS:=PF;refine last.many [(6,27,_),(7,34,_),(8,35,_),(9,7,_),(10,8,_)] HS.o ?_;refine last.done ?_;revert PF;exact zz.o):p:=h z
theorem ab1 (z:q) (h:Hy q->p:=by
 intro zz;have HBf:=Hd hbb;have QK:Hy ((fun W=>CI W b2 0 t.eF/\CI W b2 1 t.fa/\CI W b2 2 t.fH) wf):=Hd ⟨(hbb.cell (p:=⟨b2,0,none⟩) RX).trans y0,(hbb.cell (p:=⟨b2,1,none⟩) RX).trans y1,(hbb.cell (p:=⟨b2,2,none⟩) RX).trans y2⟩;revert HBf QK;exact zz.o):p:=h z
end
namespace iv
open Go.RowKit heap own gC gO fD fF fj gj
open eY (fe eA eM iM iw fU fY Net eC oc fR)
section
variable {P:Lib.PrintTabs} {own own1 own2:Nat->Nat} {w0 w w1 w2 w':World} {ob db:Nat} {v v':WV} {r r':eC}
def p8 (t:fU) (n1:Nat) (d:fe) (s:Option eA):eC:=⟨t,d,s,[],[],List.replicate n1 0,⟨[],0⟩,[],[],0⟩
theorem Dq {a n1:Nat} (t:fU) (j:kQ P w) (l:Handle w) (hb:BB w w') (f:1<=n1) (m:n1<=5) (hd:Has w' db (.cells Tryz.zeroCells79 79)) (n:w'.ownsRow 0 3 1 (.slice (some ⟨a,0,none⟩) n1 n1) n1 (ints (List.replicate n1 0)))
 (i:Has w' ob (.cells #[VI t.eF,VI t.fa,VI t.fH,VP db 0,.pointer none,.slice none 0 0,.slice none 0 0,.slice (some ⟨a,0,none⟩) n1 n1,.slice none 0 0,VI 0,.slice none 0 0,.slice none 0 0,VI 0] 68))
 (y:a<w'.heap.size) (e1:ob≠db) (o:ob≠a) (q:db≠a) (z:w.heap.size<=ob) (A:w.heap.size<=db) (B:w.heap.size<=a) :
 ∃own1 v,fp P own1 w w' ob db v (p8 t n1 ⟨[],false,0⟩ none)/\∀g,g≠ob->g≠db->g≠a->own1 g=0:=by
 obtain⟨own1,b⟩:=nm (fun g=>if g=ob then 60 else if g=db then 1 else if g=a then 63 else 0:Nat->Nat)
 (have o1:own1 ob=60:=by rw[b];simp);(have s:own1 db=1:=by rw[b];simp[Ne.symm e1]);(have u:own1 a=63:=by rw[b];simp[Ne.symm o,Ne.symm q]);(have d:∀g,g≠ob->g≠db->g≠a->own1 g=0:=fun g f h2 h3=>by rw[b];simp[f,h2,h3]);have fr:∀g,w'.heap.size<=g->own1 g=0:=fun g hg=>d g (by have:=i.lt;omega) (by have:=hd.lt;omega) ab
 have low:∀g,own1 g≠0->w.heap.size<=g:=fun g hg=>by
  rcases bk g w.heap.size with h|h
  ·exact absurd (d g ab ab ab) hg
  exact h
 have hp:jW P own1 w w' db (.pointer none) ⟨[],false,0⟩ none:=⟨rfl,List.replicate 200 ⟨#[]⟩,j,l,hb,(fun g hg=>low g (by unfold fL at hg;omega)),fr,⟨hd,cz⟩,mR.new P,s,fun r x=>by cases x⟩;refine⟨own1,⟨.pointer none,.slice none 0 0,.slice none 0 0,.slice (some ⟨a,0,none⟩) n1 n1,.slice none 0 0,.slice none 0 0,.slice none 0 0,[]⟩,⟨fr,low,i,o1,hp,Row.nil _ _ _ _ _,rfl,(fun k c hc=>by simp[p8]at hc),bR _,Row.nil _ _ _ _ _,?_,Row.nil _ _ _ _ _,Row.nil _ _ _ _ _,⟨[],rfl,Row.nil _ _ _ _ _,(fun p hp=>by cases hp),ae⟩,(fun g hg=>by cases hg),rfl,⟨?_,?_⟩,rfl⟩,d⟩
 ·show Row own1 63 w' _ 1 _ (List.replicate n1 (0:Int)).length _;rw[cz];refine⟨n,fun g hg=>?_⟩;(have e:a=g:=by simpa[Value.ownBlock]using hg);rw[<- e];exact u
 ·show 0+1<=(List.replicate n1 (0:Int)).length;rw[cz];omega
 show (List.replicate n1 (0:Int)).length<=5;rw[cz];exact m
theorem Grow.build {c l o:Value} {kc kl b:Nat} {d e xo:List Value} (h:Grow own w own1 w1 c l o kc kl b d e xo) (cs:Array Value) (t:TypeId):∃(y:World) (G:Nat),w1.alloc (.cells cs t)=y/\w1.heap.size=G/\Grow own w own1 y c l o kc kl b d e xo/\Piece own1 y G cs t/\∀(f:Nat) (a:Array Value) (g:TypeId),Piece own1 w1 f a g->Piece own1 y f a g:=by
 have hb:BB w1 (w1.alloc (.cells cs t)):=(Below.refl _ _).alloc (ax _) _;exact⟨_,_,rfl,rfl,h.below hb,Piece.new w1 h.fr cs t,fun _ _ _ hp=>hp.below hb⟩
theorem MP {t:fU} (ht:eY.kz t=true) {k:Nat} (a:k<4):∃c,eM.new k t 0 0=some c:=by
 unfold eY.kz at ht;simp only[aF,decide_eq_true_eq,fR]at ht;unfold eM.new;rw[if_pos]
 ·exact⟨_,rfl⟩
 simp only[aF,decide_eq_true_eq,fR,eY.fX,eY.half];refine⟨⟨⟨⟨⟨⟨ab,ab⟩,⟨ab,ab⟩⟩,⟨ab,aj⟩⟩,⟨ab,ab⟩⟩,⟨ab,ab⟩⟩,⟨ab,ab⟩⟩
theorem yp {t:fU} (ht:eY.kz t=true):∀(n j:Nat),j+n<=4->∃l,oc t j n=some l
 |0,_,_=>⟨[],rfl⟩
 |n+1,j,h=>by
  obtain⟨c,hc⟩:=MP ht (k:=j) ab;obtain⟨l,a⟩:=yp ht n (j+1) ab;exact⟨c::l,by unfold oc;rw[hc,a]⟩
theorem MQ {t:fU} {d:fe} {eB:Int} {s:eA} (h:(eA.new t d eB).2.2=some s):eY.kz t=true:=by
 unfold eA.new at h;split at h
 ·cases h
 rename_i a;simp only[bz,aV,not_or,bu]at a;exact a.1
def MR (P:Lib.PrintTabs) (w:World) (x:Int×Option eC) (e:Ending) (w':World):Prop:=
 match x with
 |(_,some r)=>∃own1 ob db v,e=.returned (.tuple #[VP ob 0,.nilIface])/\fp P own1 w w' ob db v r
 |(c,none)=>e=.returned (.tuple #[.pointer none,iC c])/\BB w w'
theorem Ds (w:World) (t:fU) (n:Int) (hk:kQ P w) (hh:Handle w) :
 Calls Tryz.prog 15 #[nM t,VI n] w (MR P w (eC.new t n)):=by
 obtain⟨x,hx⟩:=nm (eC.new t n);rw[<- hx];obtain⟨b2,O⟩:=nm w.heap.size;obtain⟨W1,Pz⟩:=nm (w.alloc (.cells #[VI t.eF,VI t.fa,VI t.fH] 29));have PQ:Hy (BB w W1):=Hd (by rw[Pz];exact (Below.refl _ _).alloc (ax _) _);have Qd:Hy (Has W1 b2 (.cells #[VI t.eF,VI t.fa,VI t.fH] 29)):=Hd (by rw[Pz,O];exact Has.new w _);have HX:=Hd hx;have Qk:=Hd O;have HK:=Hd hk;have HH:=Hd hh;unfold nM;by_cases X:1<=n/\n<=4
 ·obtain⟨m,rfl⟩:∃m:Nat,n=m:=⟨n.toNat,ab⟩;have d1:decide ((m:Int)<1)=false:=decide_eq_false ab;have d2:decide ((4:Int)<(m:Int))=false:=decide_eq_false ab;obtain⟨n1,SP⟩:=nm (m+1);(have dO:IntKind.i64.wrap ((m:Int)+1)=(n1:Int):=by simp only[IntKind.wrap_i64];omega);have HM:Hy (1<=m/\m<=4/\n1=m+1):=Hd ⟨ab,ab,SP⟩;have hm5:n1<=5:=ab;clear hk hh hx X SP;(go_enter Tryz.func15,Tryz.ntmps15);(go_upto_region 3 with fail);rw[<- Pz,<- O];clear Pz O;go_cut [6] (fun q6 wx=>∃own1 Yo cJ vx,q6=VP Yo 0/\fp P own1 w wx Yo cJ vx (p8 t n1 ⟨[],false,0⟩ none)/\Has wx b2 (.cells #[VI t.eF,VI t.fa,VI t.fH] 29)/\own1 b2=0)
  case first =>
   obtain⟨i0,P7,QC,PU,Qf⟩:=info_parts vA;(have hbb:i0.bytes*n1<=281474976710656:=by rw[Qf];omega);have UB:=Hd (And.intro P7 (And.intro QC (And.intro PU hbb)));clear P7 QC PU Qf hbb;have y0:CI W1 b2 0 t.eF:=Qd.o.cell 0;have y1:CI W1 b2 1 t.fa:=Qd.o.cell 1;have y2:CI W1 b2 2 t.fH:=Qd.o.cell 2;have RX:b2<W1.heap.size:=Qd.o.lt;refine phase.MK (fun W=>CI W b2 0 t.eF/\CI W b2 1 t.fa/\CI W b2 2 t.fH) (fun i=>decide (0<=i)&&decide (i<9)) 9 ⟨y0,y1,y2⟩ fun HS=>?_;obtain⟨D,an⟩:∃W,W=W1.drew:=⟨_,rfl⟩;rw[<- an]at HS⊢;have ZP:Hy (BB W1 D):=Hd (by rw[an];exact (Below.refl _ _).drew);clear an;refine phase.gN 0 19 (.agg #[VI t.eF,VI t.fa,VI t.fH]) [] HS.o ?_ (hy:=(fun W' C=>by have e0:=C.1;have e1:=C.2.1;have e2:=C.2.2;go_simp));dsimp only[List.set];refine phase.gN 1 20 (.agg Tryz.zeroCells79) [] HS.o ?_;dsimp only[List.set];refine phase.gN 3 22 (VI m) [] HS.o ?_;dsimp only[List.set];refine phase.gN 4 23 (VI n1) [] HS.o ?_;dsimp only[List.set];refine phase.rT (l:=[2,5]) af aj fun i hi=>?_;simp only[aH,bq,or_false]at hi;rcases hi with rfl|rfl
   ·refine⟨_,by simp only[aJ,aO,aM];exact rfl,fun K hK=>?_⟩;refine (if_pos ai).mpr ?_;go_simp;obtain⟨db,Y⟩:=nm D.heap.size;obtain⟨G,aa⟩:∃W,W=D.alloc (.cells Tryz.zeroCells79 79):=⟨_,rfl⟩;rw[<- aa,<- Y];(have hbb:BB W1 G:=by rw[aa];exact (ZP.o).alloc ZP.o.size _);have Yp:Hy (Has G db (.cells Tryz.zeroCells79 79)):=Hd (by rw[aa,Y];exact Has.new D _);have HDL:Hy (W1.heap.size<=db):=Hd (by rw[Y];exact ZP.o.size);have aq:=Hd hbb;have QK:Hy ((fun W=>CI W b2 0 t.eF/\CI W b2 1 t.fa/\CI W b2 2 t.fH) G):=Hd ⟨(hbb.cell (p:=⟨b2,0,none⟩) RX).trans y0,(hbb.cell (p:=⟨b2,1,none⟩) RX).trans y1,(hbb.cell (p:=⟨b2,2,none⟩) RX).trans y2⟩;clear aa Y hbb;refine hK.out _ _ (fun _=>QK.o) ?_;clear hK K HS;have HS:=QK;clear QK;dsimp only[List.set];refine phase.g1 5 fun K hK=>?_;refine Dn G (.tmp 23) (.tmp 23) 26 rfl G.heap.size 3 i0 (VI 0) 1 Tryz.underlying26 UB.o.1 UB.o.2.1 UB.o.2.2.1 .i64 .i64 n1 rfl rfl UB.o.2.2.2 ak (ax _) fun wf Q B=>?_;rw[vB]at Q;have J:BB G wf:=⟨B.os,B.tape,B.output,B.size,fun k hk=>B.block k hk ae⟩;have hbb:BB W1 wf:=(aq.o).trans (J.mono aq.o.size);obtain⟨kb,Z⟩:=nm G.heap.size
    have PG:kb<wf.heap.size:=by
     rcases Q.2 with⟨e,-⟩|⟨g,c9,cQ,e,-,ar,-⟩
     ·cases e
     simp only[Value.slice.injEq,bI,Addr.mk.injEq,and_true]at e;rw[Z,e.1];exact Has.lt (w:=wf) ar
    rw[<- Z]at Q⊢;have UU:Hy (W1.heap.size<=kb):=Hd (by rw[Z];exact aq.o.size);have Vt:Hy (wf.ownsRow W1.heap.size 3 1 (.slice (some ⟨kb,0,none⟩) n1 n1) n1 (ints (jX n1 0))/\kb<wf.heap.size/\kb≠db):=Hd ⟨mg Q UU.o,PG,fun e=>by have:=Yp.o.lt;rw[<- e,Z]at this;omega⟩;have b1:Hy (Has wf db (.cells Tryz.zeroCells79 79)):=Hd (Yp.o.below J Yp.o.lt);clear Yp;have Yp:=b1;clear b1;refine ab1 ?_;intro HBf QK;clear Q B Z PG hbb J;exact aaf
   refine⟨_,by simp only[aJ,aO,aM];exact rfl,fun K hK=>?_⟩;refine (if_pos ai).mpr ?_;refine Dn D (.tmp 23) (.tmp 23) 26 rfl D.heap.size 3 i0 (VI 0) 1 Tryz.underlying26 UB.o.1 UB.o.2.1 UB.o.2.2.1 .i64 .i64 n1 rfl rfl UB.o.2.2.2 ak (ax _) fun R Q B=>?_;rw[vB]at Q;have J:BB D R:=⟨B.os,B.tape,B.output,B.size,fun k hk=>B.block k hk ae⟩;have hbb:BB W1 R:=(ZP.o).trans (J.mono ZP.o.size);obtain⟨kb,Z⟩:=nm D.heap.size
   have PG:kb<R.heap.size:=by
    rcases Q.2 with⟨e,-⟩|⟨g,c9,cQ,e,-,ar,-⟩
    ·cases e
    simp only[Value.slice.injEq,bI,Addr.mk.injEq,and_true]at e;rw[Z,e.1];exact Has.lt (w:=R) ar
   rw[<- Z]at Q⊢;have UU:Hy (W1.heap.size<=kb):=Hd (by rw[Z];exact ZP.o.size);have Vt:Hy (R.ownsRow W1.heap.size 3 1 (.slice (some ⟨kb,0,none⟩) n1 n1) n1 (ints (jX n1 0))/\kb<R.heap.size):=Hd ⟨mg Q UU.o,PG⟩;have au:=Hd hbb;have QK:Hy ((fun W=>CI W b2 0 t.eF/\CI W b2 1 t.fa/\CI W b2 2 t.fH) R):=Hd ⟨(hbb.cell (p:=⟨b2,0,none⟩) RX).trans y0,(hbb.cell (p:=⟨b2,1,none⟩) RX).trans y1,(hbb.cell (p:=⟨b2,2,none⟩) RX).trans y2⟩;clear Q B Z PG hbb J;refine hK.out _ _ (fun _=>QK.o) ?_;clear hK K HS;have HS:=QK;clear QK;dsimp only[List.set];refine phase.g1 2 fun K hK=>?_;go_simp;obtain⟨db,Y⟩:=nm R.heap.size;obtain⟨wf,S⟩:∃W,W=R.alloc (.cells Tryz.zeroCells79 79):=⟨_,rfl⟩;rw[<- S,<- Y];(have hbb:BB W1 wf:=by rw[S];exact (au.o).alloc au.o.size _);have Yp:Hy (Has wf db (.cells Tryz.zeroCells79 79)):=Hd (by rw[S,Y];exact Has.new R _);have HDL:Hy (W1.heap.size<=db):=Hd (by rw[Y];exact au.o.size)
   have b3:Hy (wf.ownsRow W1.heap.size 3 1 (.slice (some ⟨kb,0,none⟩) n1 n1) n1 (ints (jX n1 0))/\kb<wf.heap.size/\kb≠db):=Hd (by
    have U:BB R wf:=by rw[S];exact (Below.refl _ _).alloc (ax _) _
    exact⟨mh Vt.o.1 U,aG Vt.o.2 U.size,fun e=>by have:=Vt.o.2;rw[Y]at e;omega⟩)
   clear Vt;have Vt:=b3;clear b3;refine ab1 ?_;intro HBf QK;clear S Y hbb;exact aaf
  case rest =>
   obtain⟨own1,ob,db,v,rfl,E,O,b4⟩:=hcut;have a1:=Hd E;have U4:=Hd O;have Wd:=Hd b4;have d0:CI wc b2 0 t.eF:=O.cell 0;have d1:CI wc b2 1 t.fa:=O.cell 1;have d2:CI wc b2 2 t.fH:=O.cell 2;have d3:CP wc ob 3 db 0:=E.o_.cell 3;have PV:(p8 t n1 ⟨[],false,0⟩ none).ff=none:=rfl
   have TU:v.sp=.pointer none:=by
    rcases E.vp with⟨-,e⟩|⟨s,sb,e,-⟩
    ·exact e
    cases e
   have Vr:=E.fj;rw[PV]at Vr;obtain⟨-,ps,Vr⟩:=Vr;have Qc:ob<wc.heap.size:=E.o_.lt;have Sz:b2<wc.heap.size:=O.lt
   have QY:Hy (¬fL own1 ob/\¬fL own1 b2):=Hd (by
    have h1:=E.gI;unfold fL
    omega)
   have SF:=Hd (Bq wc.drew t 0 (Vr.below (Below.refl _ _).drew))
   have V:Hy (x=match eA.new t ⟨[],false,0⟩ 0 with
    |(_,d,some s)=>match oc t 0 m with
     |some cs=>(0,some {p8 t n1 d (some s)with eD:=cs,fy:=List.replicate m 0,ft:=List.replicate m (-1)})
     |none=>(2,none)
    |(e,_,none)=>(e,none)):=Hd (by
    rw[HX.o];unfold eC.new;rw[if_neg (by have:=HM.o;simp[fR];omega)];have e:(m:Int).toNat=m:=bo m;rw[e,HM.o.2.2]
    rfl)
   obtain⟨y,hy⟩:=nm (eA.new t ⟨[],false,0⟩ 0);rw[<- hy]at V;have b5:eA.new t (p8 t n1 ⟨[],false,0⟩ none).eP 0=y:=hy.symm;rw[b5]at SF;have HY:=Hd hy;have b6:=Hd TU;have a7:=Hd (CX t ⟨[],false,0⟩ 0);rw[<- hy]at a7;clear E O b4 PV TU Vr hy b5 HX;obtain⟨c0,d,o⟩:=y
   cases o with
   |none =>
    have Tn:c0≠0:=a7.o.1 rfl;have ZZ:=Hd (o8 Tn);have ZC:Hy (x=(c0,none)):=Hd V.o;clear Tn V;(go_upto_region 4 with fail);refine last.iJ (fun W=>CI W b2 0 t.eF/\CI W b2 1 t.fa/\CI W b2 2 t.fH/\CP W ob 3 db 0) 1000 11 ⟨d0,d1,d2,d3⟩ fun HS=>?_;refine last.many [(0,28,_),(1,29,_),(2,30,_),(3,31,_),(4,32,_)] HS.o ?_ (hy:=fun W' C=>by have e0:=C.1;have e1:=C.2.1;have e2:=C.2.2.1;have f0:=C.2.2.2;repeat (first|exact .z|refine .s ?_|refine .k ?_));refine last.one 5 fun K hK=>?_;go_simp;refine SF.o.mono ?_;rintro e w5 ⟨Zj,Vs,WC,cV,rfl,b7⟩;have b8:=Hd Vs;have b9:=Hd WC;rw[ZZ.o];have ZM:=Hd b7;clear b7;refine aaX ?_;clear Vs WC hK K HS d0 d1 d2 d3;intro PF;(go_wp2_with fail);go_ret2;rw[ZC.o];exact⟨by rw[ZZ.o];rfl,ZM.o.iA⟩
   |some s =>
    have Ry:eY.kz t=true:=MQ (d:=⟨[],false,0⟩) (eB:=0) (s:=s) (by rw[<- HY.o]);obtain⟨cs,QH⟩:=yp Ry m 0 (by have:=HM.o;omega);obtain⟨PI,ca⟩:=fK.pX m QH
    have ZC:Hy (x=(0,some {p8 t n1 d (some s)with eD:=cs,fy:=List.replicate m 0,ft:=List.replicate m (-1)})):=Hd (by
     have h1:=V.o;dsimp only at h1;rw[QH]at h1
     exact h1)
    have S9:=Hd PI;have c2:=Hd ca;clear Ry QH PI ca V a7 HY;(go_upto_region 4 with fail);refine last.iJ (fun W=>CI W b2 0 t.eF/\CI W b2 1 t.fa/\CI W b2 2 t.fH/\CP W ob 3 db 0) 1000 11 ⟨d0,d1,d2,d3⟩ fun HS=>?_;refine last.many [(0,28,_),(1,29,_),(2,30,_),(3,31,_),(4,32,_)] HS.o ?_ (hy:=fun W' C=>by have e0:=C.1;have e1:=C.2.1;have e2:=C.2.2.1;have f0:=C.2.2.2;repeat (first|exact .z|refine .s ?_|refine .k ?_));refine last.one 5 fun K hK=>?_;go_simp;refine SF.o.mono ?_;rintro e w5 ⟨Zj,Vs,WC,cb,dS,dV,ea,eb,vN,cV,ec,rfl,cc⟩;have b8:=Hd Vs;have b9:=Hd WC;have c4:=Hd cc;clear cc;refine aaX ?_;clear Vs WC hK K HS d0 d1 d2 d3;intro PF;obtain⟨own2,k1,k2,k3,k4⟩:=vy (a1.o.below (Below.refl _ _).drew a1.o.fr) b6.o b8.o b9.o c4.o;(have q4:w5.cell? ⟨ob,4,none⟩=some (.pointer none):=by rw[<- b6.o];exact k1.o_.cell 4);have f4:=k1.o_.frozen 4;have h6:=k1.C3 k4;obtain⟨v6,WB⟩:=nm ({v with sp:=VP cb 0}:WV);obtain⟨w6,ad⟩:=nm (w5.setCell ⟨ob,4,none⟩ (VP cb 0));rw[<- WB,<- ad]at h6;(have c6:b2≠ob:=fun e=>by have:=a1.o.gI;rw[<- e,Wd.o]at this;cases this);have SC:Hy (Has w6 b2 (.cells #[VI t.eF,VI t.fa,VI t.fH] 29)/\own2 b2=0):=Hd ⟨by rw[ad];exact (k3.has U4.o (fun e=>e Wd.o)).jv c6 _,(k2 b2 Sz).trans Wd.o⟩;obtain⟨r0,VC⟩:=nm (p8 t n1 d (some s):eC);have H6:Hy (fp P own2 w w6 ob db v6 {r0 with eD:=cs.take 0,fy:=List.replicate 0 0,ft:=List.replicate 0 (-1)}):=Hd (by rw[VC];exact h6);have c7:=Hd VC;have ch:=Hd ad;rw[<- VC]at ZC;clear k1 k2 k3 k4 h6 WB ad VC Qc Sz;(go_wp2_with fail);rw[<- ch.o];clear ch;(go_loopw [44] (fun bb wx=>∃(k:Nat) (Zn:Nat->Nat) (j:WV),k<=m/\bb=VI k/\fp P Zn w wx ob db j {r0 with eD:=cs.take k,fy:=List.replicate k 0,ft:=List.replicate k (-1)}/\Has wx b2 (.cells #[VI t.eF,VI t.fa,VI t.fH] 29)/\Zn b2=0) (fun bb _=>m-(intOf bb).toNat));case atStart=>exact⟨0,own2,v6,ab,rfl,H6.o,SC.o.1,SC.o.2⟩
    case round =>
     clear H6 SC;obtain⟨k,Zn,j,hk,rfl,h7,RN,Te⟩:=hrel;have H7:=Hd h7;have UJ:=Hd RN;have c8:=Hd Te;obtain⟨wb,UN⟩:∃x,x=wr:=⟨_,rfl⟩;subst UN;clear h7 Te;by_cases ZV:k<m
     ·have PH:cs[k]?=some (cs[k]'(by rw[S9.o];exact ZV)):=ay _;generalize cs[k]'(by rw[S9.o];exact ZV)=c at PH;have bg:=c2.o k c PH;rw[cN]at bg;obtain⟨u,al⟩:=nm ({r0 with eD:=cs.take k,fy:=List.replicate k 0,ft:=List.replicate k (-1)}:eC);rw[<- al]at H7;(have PG:u.eD.length=k:=by rw[al];show (cs.take k).length=k;rw[bV,S9.o];omega);have cj:=Hd (BE (own:=Zn) (T:=20+4*k) (k:Int) 0 0 t wb fun g hg=>H7.o.fr g hg);rw[bg]at cj;have d0:CI wb b2 0 t.eF:=RN.cell 0;have d1:CI wb b2 1 t.fa:=RN.cell 1;have d2:CI wb b2 2 t.fH:=RN.cell 2;have Vt:=Hd al;have UU:=Hd PG;have ZW:=Hd PH;clear PH bg al PG RN;(go_upto_region 14 with (go_at_call 35;refine cj.o.mono ?_;rintro e w8 ⟨Zj,UX,da,dc,rfl,Vs,cm,cp,cq,-⟩;have dd:=Hd Vs;have de:=Hd cm;have dm:=Hd cp;have cu:=Hd cq;clear Vs cm cp cq));obtain⟨r,j1,j2,j3⟩:=C5 H7.o dd.o de.o dm.o cu.o;obtain⟨H,TP⟩:∃W,W=w8.drew:=⟨_,rfl⟩;have F:Hy (fp P r w H ob db j u):=Hd (by rw[TP];exact j1.below (Below.refl _ _).drew j1.fr);have dn:Hy (fM r (20+4*u.eD.length) H UX da dc (.slice none 0 0) c):=Hd (by rw[TP,UU.o];exact j3.drew);have UO:Hy (Has H b2 (.cells #[VI t.eF,VI t.fa,VI t.fH] 29)/\r b2=0):=Hd ⟨by rw[TP];exact (UJ.o.below cu.o UJ.o.lt).drew,(j2 b2 UJ.o.lt).trans c8.o⟩
      have SV:Hy (({u with eD:=u.eD++[c],fy:=u.fy++[0],ft:=u.ft++[-1]}:eC)={r0 with eD:=cs.take (k+1),fy:=List.replicate (k+1) 0,ft:=List.replicate (k+1) (-1)}):=Hd (by
       have e1:cs.take (k+1)=cs.take k++[c]:=by rw[bH,ZW.o];rfl
       rw[Vt.o,e1,List.replicate_succ',List.replicate_succ'])
      have VO:u.eD.length+1<=4:=by rw[UU.o];have:=HM.o;omega
      have cv:u.eD.length+2<=u.eN.length:=by
       rw[UU.o,Vt.o,c7.o];show k+2<=(List.replicate n1 (0:Int)).length;rw[cz];have:=HM.o;omega
      have V3:Hy (∀(f:Nat->Nat) (y:World) (c5 l5 o5:Value),Grow r H f y c5 l5 o5 (u.eD.length+1) (u.fy.length+1) (u.ft.length+1) ((j.ja.map fun b=>Value.pointer (some ⟨b,0,none⟩))++[VP UX 0]) (ints u.fy++[VI 0]) (ints u.ft++[VI (-1)]) ->
       fp P f w (((y.setCell ⟨ob,5,none⟩ c5).setCell ⟨ob,6,none⟩ l5).setCell ⟨ob,11,none⟩ o5) ob db {j with cl:=c5,li:=l5,op:=o5,ja:=j.ja++[UX]} {r0 with eD:=cs.take (k+1),fy:=List.replicate (k+1) 0,ft:=List.replicate (k+1) (-1)}/\Has (((y.setCell ⟨ob,5,none⟩ c5).setCell ⟨ob,6,none⟩ l5).setCell ⟨ob,11,none⟩ o5) b2 (.cells #[VI t.eF,VI t.fa,VI t.fH] 29)/\f b2=0):=Hd fun f y c5 l5 o5 hg=>by
       (have PB:b2≠ob:=fun e=>by have:=F.o.gI;rw[<- e,UO.o.2]at this;cases this);refine⟨?_,(((hg.fI.has UO.o.1 (by rw[UO.o.2];decide)).jv PB _).jv PB _).jv PB _,(hg.ext b2 UO.o.1.lt).trans UO.o.2⟩;rw[<- SV.o];refine F.o.MO ?_ dn.o VO cv;have e1:(j.ja++[UX]).map (fun b=>Value.pointer (some ⟨b,0,none⟩))=(j.ja.map fun b=>Value.pointer (some ⟨b,0,none⟩))++[VP UX 0]:=ae;(have e2:ints (u.fy++[0])=ints u.fy++[VI 0]:=by simp[ints]);(have e3:ints (u.ft++[-1])=ints u.ft++[VI (-1)]:=by simp[ints]);rw[e1,e2,e3];exact hg
      have A:Hy (Grow r H r H j.cl j.li j.op u.eD.length u.fy.length u.ft.length (j.ja.map fun b=>Value.pointer (some ⟨b,0,none⟩)) (ints u.fy) (ints u.ft)):=Hd ⟨eJ.refl _ _,Ext.refl _ _,F.o.fr,F.o.cl,F.o.li,F.o.op⟩
      have a5:CC H ob 5 j.cl:=F.o.o_.cell 5
      have a6:CC H ob 6 j.li:=F.o.o_.cell 6
      have bj:CC H ob 11 j.op:=F.o.o_.cell 11
      have XV:ob<H.heap.size:=F.o.o_.lt
      have XW:¬(r ob=61\/r ob=62\/r ob=65):=by rw[F.o.gI];decide
      have bl:Hy (u.eD.length<=1000000/\u.fy.length<=1000000/\u.ft.length<=1000000):=Hd ⟨ab,by rw[F.o.nl];omega,by rw[F.o.no];omega⟩
      clear j1 j2 j3 VO cv d0 d1 d2
      refine phase.gH (fun W=>CC W ob 5 j.cl/\CC W ob 6 j.li/\CC W ob 11 j.op) (fun i=>decide (3<=i)&&decide (i<22)) 31 ?_
      have HS:Hy ((fun W=>CC W ob 5 j.cl/\CC W ob 6 j.li/\CC W ob 11 j.op) H):=Hd ⟨a5,a6,bj⟩
      rw[<- TP]
      clear TP
      refine phase.gM 0 56 (VP ob 0) ?_
      refine phase.gM 1 57 (VP ob 0) ?_
      refine phase.gM 2 58 (VP ob 0) ?_
      refine phase.gN 3 59 (VP ob 0) [] HS.o ?_
      dsimp only[List.set]
      refine phase.gN 4 60 (VP ob 0) [] HS.o ?_
      dsimp only[List.set]
      refine phase.gN 5 61 (VP ob 5) [] HS.o ?_
      dsimp only[List.set]
      refine phase.gN 6 62 (j.cl) [] HS.o ?_ (hy:=(fun W' C=>by have e1:=C.1;go_simp))
      dsimp only[List.set]
      refine phase.gN 7 63 (VP UX 0) [] HS.o ?_
      dsimp only[List.set]
      refine phase.gN 10 66 (VP ob 0) [11,12,13] HS.o ?_
      dsimp only[List.set]
      refine phase.gN 11 67 (VP ob 0) [12,13] HS.o ?_
      dsimp only[List.set]
      refine phase.gN 12 68 (VP ob 6) [13] HS.o ?_
      dsimp only[List.set]
      refine phase.gN 13 69 (j.li) [] HS.o ?_ (hy:=(fun W' C=>by have e1:=C.2.1;go_simp))
      dsimp only[List.set]
      refine phase.gN 16 72 (VP ob 0) [17,18,19] HS.o ?_
      dsimp only[List.set]
      refine phase.gN 17 73 (VP ob 0) [18,19] HS.o ?_
      dsimp only[List.set]
      refine phase.gN 18 74 (VP ob 11) [19] HS.o ?_
      dsimp only[List.set]
      refine phase.gN 19 75 (j.op) [] HS.o ?_ (hy:=(fun W' C=>by have e1:=C.2.2;go_simp))
      dsimp only[List.set]
      have V7:Hy (∀ {f:Nat->Nat} {W:World} {c l o:Value} {kc kl ko:Nat} {xc xl xo:List Value},Grow r H f W c l o kc kl ko xc xl xo->(fun W=>CC W ob 5 j.cl/\CC W ob 6 j.li/\CC W ob 11 j.op) W):=Hd fun h=>⟨(h.fI.cell (p:=⟨ob,5,none⟩) XV XW).trans a5,(h.fI.cell (p:=⟨ob,6,none⟩) XV XW).trans a6,(h.fI.cell (p:=⟨ob,11,none⟩) XV XW).trans bj⟩
      obtain⟨ow,y,hy,A,HS⟩:∃f W,W=H/\Hy (Grow r H f W j.cl j.li j.op u.eD.length u.fy.length u.ft.length (j.ja.map fun b=>Value.pointer (some ⟨b,0,none⟩)) (ints u.fy) (ints u.ft))/\Hy ((fun W=>CC W ob 5 j.cl/\CC W ob 6 j.li/\CC W ob 11 j.op) W):=⟨r,H,rfl,A,HS⟩
      rw[<- hy]
      clear hy a5 a6 bj
      repeat' (first|(refine phase.Dp [8,9,14,15,20,21] (.cons ?_ (.cons ?_ (.cons ?_ (.cons ?_ (.cons ?_ (.cons ?_ .nil))))))<;>first
       |exact .inl (by decide +kernel)
       | (refine .inr (?_:phase.pC _ _ _ _ _ _ _ _ _ _ 8)
          refine⟨_,by simp only[aJ,aO,aM];exact rfl,fun K hK=>?_⟩;refine (if_pos ai).mpr ?_;go_simp;obtain⟨y,G8,U,hG,B,hp,a⟩:=A.o.build #[VP UX 0] 72;rw[U,hG];have A:=Hd B
          try have L:=Hd (a _ _ _ L.o)
          try have M:=Hd (a _ _ _ M.o)
          have N:=Hd hp;have HS:=Hd (V7.o A.o);clear U hG B hp a;refine hK.out _ _ (fun _=>HS.o) ?_;clear hK K
          dsimp only[List.set])
       | (refine .inr (?_:phase.pC _ _ _ _ _ _ _ _ _ _ 14)
          refine⟨_,by simp only[aJ,aO,aM];exact rfl,fun K hK=>?_⟩;refine (if_pos ai).mpr ?_;go_simp;obtain⟨y,dq,U,hG,B,hp,a⟩:=A.o.build #[VI 0] 3;rw[U,hG];have A:=Hd B
          try have N:=Hd (a _ _ _ N.o)
          try have M:=Hd (a _ _ _ M.o)
          have L:=Hd hp;have HS:=Hd (V7.o A.o);clear U hG B hp a;refine hK.out _ _ (fun _=>HS.o) ?_;clear hK K
          dsimp only[List.set])
       | (refine .inr (?_:phase.pC _ _ _ _ _ _ _ _ _ _ 20)
          refine⟨_,by simp only[aJ,aO,aM];exact rfl,fun K hK=>?_⟩;refine (if_pos ai).mpr ?_;go_simp;obtain⟨y,ds,U,hG,B,hp,a⟩:=A.o.build #[VI (-1)] 3;rw[U,hG];have A:=Hd B
          try have N:=Hd (a _ _ _ N.o)
          try have L:=Hd (a _ _ _ L.o)
          have M:=Hd hp;have HS:=Hd (V7.o A.o);clear U hG B hp a;refine hK.out _ _ (fun _=>HS.o) ?_;clear hK K
          dsimp only[List.set])
       | (refine .inr (?_:phase.pC _ _ _ _ _ _ _ _ _ _ 9)
          refine⟨_,by simp only[aJ,aO,aM];exact rfl,fun K hK=>?_⟩;refine (if_pos ai).mpr ?_;refine te (own:=ow) (.tmp 62) (.tmp 64) 63 72 61 1 8 (.pointer none) rfl Tryz.underlying63 af rfl aj j.cl u.eD.length G8 (j.ja.map fun b=>Value.pointer (some ⟨b,0,none⟩)) [VP UX 0] rfl A.o.rc rfl N.o.has rfl ao bl.o.1 aj y.heap.size rfl fun g9 cap9 y X hg h3 E=>?_
          try have L:=Hd (L.o.app aj A.o.rc.2 hg h3)
          try have M:=Hd (M.o.app aj A.o.rc.2 hg h3)
          have A:=Hd (A.o.ML X hg h3 E);obtain⟨ow,I⟩:∃f,f=jS ow g9 61:=⟨_,rfl⟩;rw[<- I]at A
          try rw[<- I]at L
          try rw[<- I]at M
          have HS:=Hd (V7.o A.o);clear I X hg h3 E N;refine hK.out _ _ (fun _=>HS.o) ?_;clear hK K
          dsimp only[List.set])
       | (refine .inr (?_:phase.pC _ _ _ _ _ _ _ _ _ _ 15)
          refine⟨_,by simp only[aJ,aO,aM];exact rfl,fun K hK=>?_⟩;refine (if_pos ai).mpr ?_;refine te (own:=ow) (.tmp 69) (.tmp 70) 26 3 62 1 8 (VI 0) rfl Tryz.underlying26 af rfl aj j.li u.fy.length dq (ints u.fy) [VI 0] rfl A.o.rl rfl L.o.has rfl ao bl.o.2.1 aj y.heap.size rfl fun g15 ee y X hg h3 E=>?_
          try have N:=Hd (N.o.app aj A.o.rl.2 hg h3)
          try have M:=Hd (M.o.app aj A.o.rl.2 hg h3)
          have A:=Hd (A.o.MM X hg h3 E);obtain⟨ow,I⟩:∃f,f=jS ow g15 62:=⟨_,rfl⟩;rw[<- I]at A
          try rw[<- I]at N
          try rw[<- I]at M
          have HS:=Hd (V7.o A.o);clear I X hg h3 E L;refine hK.out _ _ (fun _=>HS.o) ?_;clear hK K
          dsimp only[List.set])
       | (refine .inr (?_:phase.pC _ _ _ _ _ _ _ _ _ _ 21)
          refine⟨_,by simp only[aJ,aO,aM];exact rfl,fun K hK=>?_⟩;refine (if_pos ai).mpr ?_;refine te (own:=ow) (.tmp 75) (.tmp 76) 26 3 65 1 8 (VI 0) rfl Tryz.underlying26 af rfl aj j.op u.ft.length ds (ints u.ft) [VI (-1)] rfl A.o.ro rfl M.o.has rfl ao bl.o.2.2 aj y.heap.size rfl fun g21 eg y X hg h3 E=>?_
          try have N:=Hd (N.o.app aj A.o.ro.2 hg h3)
          try have L:=Hd (L.o.app aj A.o.ro.2 hg h3)
          have A:=Hd (A.o.MN X hg h3 E);obtain⟨ow,I⟩:∃f,f=jS ow g21 65:=⟨_,rfl⟩;rw[<- I]at A
          try rw[<- I]at N
          try rw[<- I]at L
          have HS:=Hd (V7.o A.o);clear I X hg h3 E M;have f5:=(A.o.fI.frozen (p:=⟨ob,5,none⟩) XV XW).trans (F.o.o_.frozen 5);have f6:=(A.o.fI.frozen (p:=⟨ob,6,none⟩) XV XW).trans (F.o.o_.frozen 6);have f11:=(A.o.fI.frozen (p:=⟨ob,11,none⟩) XV XW).trans (F.o.o_.frozen 11);have s5:=HS.o.1;have s6:=HS.o.2.1;have ei:=HS.o.2.2;refine hK.out _ _ (fun _=>HS.o) ?_;clear hK K
          dsimp only[List.set]))|fail)
      all_goals
       clear HS V7
       repeat' (first|(refine phase.Dp [22,23,24,25,26,27,28,29,30] (.cons ?_ (.cons ?_ (.cons ?_ (.cons ?_ (.cons ?_ (.cons ?_ (.cons ?_ (.cons ?_ (.cons ?_ .nil)))))))))<;>first
        |exact .inl (by decide +kernel)
        | (refine .inr ⟨_,by simp only[aJ,aO,aM];exact rfl,fun K hK=>?_⟩
           refine (if_pos ai).mpr ?_;go_simp;refine hK.out _ _ (fun h=>absurd h aj) ?_;clear hK K
           dsimp only[List.set]))|fail)
       refine phase.gD ?_;have WH:=V3.o _ _ _ _ _ A.o;have ej:=HM.o;(go_wp2_with fail);go_roundw;(case rel=>exact⟨k+1,_,_,ab,by go_num,WH.1,WH.2.1,WH.2.2⟩);case measure=>simp[intOf];omega
     (obtain rfl:k=m:=by omega);have dz:cs.take k=cs:=bB (by rw[S9.o];exact ax _);(go_wp2_with fail);go_ret2;rw[ZC.o];refine⟨Zn,ob,db,j,rfl,?_⟩;have h9:=H7.o;rw[dz]at h9;exact h9
 have HR:Hy (x=(2,none)):=Hd (by
  rw[HX.o];unfold eC.new;rw[if_pos]
  simp[fR];omega)
 clear hk hh hx;(go_enter Tryz.func15,Tryz.ntmps15);by_cases h1:n<1
 ·have d1:decide (n<1)=true:=decide_eq_true h1;(go_wp2_with fail);go_ret2;rw[HR.o];exact⟨rfl,(Below.refl _ _).alloc (ax _) _⟩
 have d1:decide (n<1)=false:=decide_eq_false h1;have d2:decide ((4:Int)<n)=true:=decide_eq_true ab;(go_wp2_with fail);go_ret2;rw[HR.o];exact⟨rfl,(Below.refl _ _).alloc (ax _) _⟩
end
end iv
end Go.Proofs.YtjhdaojclilakaaGreatDoor
