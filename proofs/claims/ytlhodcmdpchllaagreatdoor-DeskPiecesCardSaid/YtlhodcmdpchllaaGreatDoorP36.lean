/-
  A part of the proof of the law DeskPieces: WoT.
-/
import Derived.Test.YtlhodcmdpchllaaGreatDoorHd
import Derived.Test.YtlhodcmdpchllaaGreatDoorP34
set_option maxHeartbeats 16000000
set_option maxRecDepth 1000000
namespace Go.Proofs.YtlhodcmdpchllaaGreatDoor
namespace fe
open Go.RowKit heap own eO fq eK dZ dR eZ
open dI (dW dC dJ ga fB eA gL Net dB lE eG)
section
variable {P:Lib.PrintTabs} {own own1 own2:Nat->Nat} {w0 w w1 w2 w':World} {ob db:Nat} {v v':WV} {r r':dB}
def nE (t:eA) (n1:Nat) (d:dW) (s:Option dC):dB:=⟨t,d,s,[],[],List.replicate n1 0,⟨[],0⟩,[],[],0⟩
theorem Ap {kb n1:Nat} (t:eA) (hk:jr P w) (hh:Handle w) (hb:Below w.heap.size w w') (h1:1<=n1) (h5:n1<=5) (hd:Has w' db (.cells Tryz.zeroCells64 64)) (OB:w'.ownsRow 0 3 1 (.slice (some ⟨kb,0,none⟩) n1 n1) n1 (ints (List.replicate n1 0)))
 (ho:Has w' ob (.cells #[.int .i64 t.dF,.int .i64 t.ei,.int .i64 t.eS,.pointer (some ⟨db,0,none⟩),.pointer none,.slice none 0 0,.slice none 0 0,.slice (some ⟨kb,0,none⟩) n1 n1,.slice none 0 0,.int .i64 0,.slice none 0 0,.slice none 0 0,.int .i64 0] 72))
 (Od:kb<w'.heap.size) (e1:ob≠db) (e2:ob≠kb) (e3:db≠kb) (l1:w.heap.size<=ob) (l2:w.heap.size<=db) (l3:w.heap.size<=kb) :
 ∃own1 v,dP P own1 w w' ob db v (nE t n1 ⟨[],false,0⟩ none)/\∀g,g≠ob->g≠db->g≠kb->own1 g=0:=by
 obtain⟨own1,Kt⟩:∃own1:Nat->Nat,own1=fun g=>if g=ob then 60 else if g=db then 1 else if g=kb then 63 else 0:=⟨_,rfl⟩
 (have o1:own1 ob=60:=by rw[Kt];simp);(have o2:own1 db=1:=by rw[Kt];simp[Ne.symm e1]);(have o3:own1 kb=63:=by rw[Kt];simp[Ne.symm e2,Ne.symm e3]);(have oz:∀g,g≠ob->g≠db->g≠kb->own1 g=0:=fun g h1 h2 h3=>by rw[Kt];simp[h1,h2,h3]);have fr:∀g,w'.heap.size<=g->own1 g=0:=fun g hg=>oz g (by have:=ho.lt;omega) (by have:=hd.lt;omega) (by omega)
 have low:∀g,own1 g≠0->w.heap.size<=g:=fun g hg=>by
  rcases aW g w.heap.size with h|h
  ·exact absurd (oz g (by omega) (by omega) (by omega)) hg
  exact h
 have hp:gY P own1 w w' db (.pointer none) ⟨[],false,0⟩ none:=⟨rfl,List.replicate 200 ⟨#[]⟩,hk,hh,hb,(fun g hg=>low g (by unfold ey at hg;omega)),fr,⟨hd,bR⟩,kB.new P,o2,fun r hr=>by cases hr⟩;refine⟨own1,⟨.pointer none,.slice none 0 0,.slice none 0 0,.slice (some ⟨kb,0,none⟩) n1 n1,.slice none 0 0,.slice none 0 0,.slice none 0 0,[]⟩,⟨fr,low,ho,o1,hp,Row.nil _ _ _ _ _,rfl,(fun k c hc=>by simp[nE]at hc),bP _,Row.nil _ _ _ _ _,?_,Row.nil _ _ _ _ _,Row.nil _ _ _ _ _,⟨[],rfl,Row.nil _ _ _ _ _,(fun p hp=>by cases hp),by simp⟩,(fun g hg=>by cases hg),rfl,⟨?_,?_⟩,rfl⟩,oz⟩
 ·show Row own1 63 w' _ 1 _ (List.replicate n1 (0:Int)).length _;rw[bR];refine⟨OB,fun g hg=>?_⟩;(have e:kb=g:=by simpa[Value.ownBlock]using hg);rw[<- e];exact o3
 ·show 0+1<=(List.replicate n1 (0:Int)).length;rw[bR];omega
 show (List.replicate n1 (0:Int)).length<=5;rw[bR];exact h5
theorem Grow.build {c l o:Value} {kc kl ko:Nat} {xc xl xo:List Value} (h:Grow own w own1 w1 c l o kc kl ko xc xl xo) (cs:Array Value) (t:TypeId):∃(y:World) (G:Nat),w1.alloc (.cells cs t)=y/\w1.heap.size=G/\Grow own w own1 y c l o kc kl ko xc xl xo/\Piece own1 y G cs t/\∀(G':Nat) (cs':Array Value) (t':TypeId),Piece own1 w1 G' cs' t'->Piece own1 y G' cs' t':=by
 have hb:Below w1.heap.size w1 (w1.alloc (.cells cs t)):=(Below.refl _ _).alloc (aq _) _;exact⟨_,_,rfl,rfl,h.below hb,Piece.new w1 h.fr cs t,fun _ _ _ hp=>hp.below hb⟩
theorem IA {t:eA} (ht:dI.ku t=true) {k:Nat} (hk:k<4):∃c,dJ.new k t 0 0=some c:=by
 unfold dI.ku at ht;simp only[aK,decide_eq_true_eq,eG]at ht;unfold dJ.new;rw[if_pos]
 ·exact⟨_,rfl⟩
 simp only[aK,decide_eq_true_eq,eG,dI.eX,dI.half];refine⟨⟨⟨⟨⟨⟨by omega,by omega⟩,⟨by omega,by omega⟩⟩,⟨by omega,by decide⟩⟩,⟨by omega,by omega⟩⟩,⟨by omega,by omega⟩⟩,⟨by omega,by omega⟩⟩
theorem Aq {t:eA} (ht:dI.ku t=true):∀(n j:Nat),j+n<=4->∃l,lE t j n=some l
 |0,_,_=>⟨[],rfl⟩
 |n+1,j,h=>by
  obtain⟨c,hc⟩:=IA ht (k:=j) (by omega);obtain⟨l,hl⟩:=Aq ht n (j+1) (by omega);exact⟨c::l,by unfold lE;rw[hc,hl]⟩
theorem IB {t:eA} {d:dW} {dE:Int} {s:dC} (h:(dC.new t d dE).2.2=some s):dI.ku t=true:=by
 unfold dC.new at h;split at h
 ·cases h
 rename_i h0;simp only[bF,a8,not_or,bS]at h0;exact h0.1
def IC (P:Lib.PrintTabs) (w:World) (x:Int×Option dB) (e:Ending) (w':World):Prop:=
 match x with
 |(_,some r)=>∃own1 ob db v,e=.returned (.tuple #[.pointer (some ⟨ob,0,none⟩),.nilIface])/\dP P own1 w w' ob db v r
 |(c,none)=>e=.returned (.tuple #[.pointer none,fx c])/\Below w.heap.size w w'
theorem Ar (w:World) (t:eA) (n:Int) (hk:jr P w) (hh:Handle w) :
 Calls Tryz.prog 13 #[l6 t,.int .i64 n] w (IC P w (dB.new t n)):=by
 obtain⟨x,hx⟩:∃x,x=dB.new t n:=⟨_,rfl⟩;rw[<- hx];obtain⟨b2,Ke⟩:∃b2,b2=w.heap.size:=⟨_,rfl⟩;obtain⟨W1,Kh⟩:∃W1,W1=w.alloc (.cells #[.int .i64 t.dF,.int .i64 t.ei,.int .i64 t.eS] 49):=⟨_,rfl⟩;have Ki:Hy (Below w.heap.size w W1):=Hd (by rw[Kh];exact (Below.refl _ _).alloc (aq _) _);have KP:Hy (Has W1 b2 (.cells #[.int .i64 t.dF,.int .i64 t.ei,.int .i64 t.eS] 49)):=Hd (by rw[Kh,Ke];exact Has.new w _);have HX:=Hd hx;have Kn:=Hd Ke;have HK:=Hd hk;have HH:=Hd hh;unfold l6;by_cases hr:1<=n/\n<=4
 ·obtain⟨m,rfl⟩:∃m:Nat,n=m:=⟨n.toNat,by omega⟩;have d1:decide ((m:Int)<1)=false:=decide_eq_false (by omega);have d2:decide ((4:Int)<(m:Int))=false:=decide_eq_false (by omega);obtain⟨n1,NN⟩:∃n1,n1=m+1:=⟨_,rfl⟩;(have ewn:IntKind.i64.wrap ((m:Int)+1)=(n1:Int):=by simp only[IntKind.wrap_i64];omega);have HM:Hy (1<=m/\m<=4/\n1=m+1):=Hd ⟨by omega,by omega,NN⟩;(have Yf:n1<=5:=by omega);clear hk hh hx hr NN;(go_enter Tryz.func13,Tryz.ntmps13);(go_upto_region 3 with fail);rw[<- Kh,<- Ke];clear Kh Ke;go_cut [6] (fun q6 wx=>∃own1 P2 dbx vx,q6=.pointer (some ⟨P2,0,none⟩)/\dP P own1 w wx P2 dbx vx (nE t n1 ⟨[],false,0⟩ none)/\Has wx b2 (.cells #[.int .i64 t.dF,.int .i64 t.ei,.int .i64 t.eS] 49)/\own1 b2=0)
  case first =>
   obtain⟨i0,KO,La,KH,KD⟩:=info_parts zO;(have hbb:i0.bytes*n1<=281474976710656:=by rw[KD];omega);have QX:=Hd (And.intro KO (And.intro La (And.intro KH hbb)));clear KO La KH KD hbb;have y0:W1.cell? ⟨b2,0,none⟩=some (.int .i64 t.dF):=KP.o.cell 0;have y1:W1.cell? ⟨b2,1,none⟩=some (.int .i64 t.ei):=KP.o.cell 1;have y2:W1.cell? ⟨b2,2,none⟩=some (.int .i64 t.eS):=KP.o.cell 2;have Mn:b2<W1.heap.size:=KP.o.lt;refine phase.Iv (fun W=>W.cell? ⟨b2,0,none⟩=some (.int .i64 t.dF)/\W.cell? ⟨b2,1,none⟩=some (.int .i64 t.ei)/\W.cell? ⟨b2,2,none⟩=some (.int .i64 t.eS)) (fun i=>decide (0<=i)&&decide (i<9)) 9 ⟨y0,y1,y2⟩ fun HS=>?_;obtain⟨UK,Xr⟩:∃W,W=W1.drew:=⟨_,rfl⟩;rw[<- Xr]at HS⊢;have M0:Hy (Below W1.heap.size W1 UK):=Hd (by rw[Xr];exact (Below.refl _ _).drew);clear Xr;refine phase.gN 0 19 (.agg #[.int .i64 t.dF,.int .i64 t.ei,.int .i64 t.eS]) [] HS.o ?_ (hy:=(fun W' Kc=>by have e0:=Kc.1;have e1:=Kc.2.1;have e2:=Kc.2.2;go_simp));dsimp only[List.set];refine phase.gN 1 20 (.agg Tryz.zeroCells64) [] HS.o ?_;dsimp only[List.set];refine phase.gN 3 22 (.int .i64 m) [] HS.o ?_;dsimp only[List.set];refine phase.gN 4 23 (.int .i64 n1) [] HS.o ?_;dsimp only[List.set];refine phase.uI (l:=[2,5]) (by kernel_rfl) (by decide) fun i hi=>?_;simp only[aM,bc,or_false]at hi;rcases hi with rfl|rfl
   ·refine⟨_,by simp only[aC,aD,aE];exact rfl,fun K hK=>?_⟩;refine (if_pos (by rfl)).mpr ?_;go_simp;obtain⟨db,Sg⟩:∃db,db=UK.heap.size:=⟨_,rfl⟩;obtain⟨Vw,UL⟩:∃W,W=UK.alloc (.cells Tryz.zeroCells64 64):=⟨_,rfl⟩;rw[<- UL,<- Sg];(have hbb:Below W1.heap.size W1 Vw:=by rw[UL];exact (M0.o).alloc M0.o.size _);have OC:Hy (Has Vw db (.cells Tryz.zeroCells64 64)):=Hd (by rw[UL,Sg];exact Has.new UK _);have Ww:Hy (W1.heap.size<=db):=Hd (by rw[Sg];exact M0.o.size);have HBd:=Hd hbb;have Oh:Hy ((fun W=>W.cell? ⟨b2,0,none⟩=some (.int .i64 t.dF)/\W.cell? ⟨b2,1,none⟩=some (.int .i64 t.ei)/\W.cell? ⟨b2,2,none⟩=some (.int .i64 t.eS)) Vw):=Hd ⟨(hbb.cell (p:=⟨b2,0,none⟩) Mn).trans y0,(hbb.cell (p:=⟨b2,1,none⟩) Mn).trans y1,(hbb.cell (p:=⟨b2,2,none⟩) Mn).trans y2⟩;clear UL Sg hbb;refine hK.out _ _ (fun _=>Oh.o) ?_;clear hK K HS;have HS:=Oh;clear Oh;dsimp only[List.set];refine phase.g1 5 fun K hK=>?_;refine An Vw (.tmp 23) (.tmp 23) 44 rfl Vw.heap.size 3 i0 (.int .i64 0) 1 Tryz.underlying44 QX.o.1 QX.o.2.1 QX.o.2.2.1 .i64 .i64 n1 rfl rfl QX.o.2.2.2 (by unfold maxLen;omega) (aq _) fun wf Kj Mr=>?_;rw[ur]at Kj;have Yi:Below Vw.heap.size Vw wf:=⟨Mr.os,Mr.tape,Mr.output,Mr.size,fun k hk=>Mr.block k hk (by simp)⟩;have hbb:Below W1.heap.size W1 wf:=(HBd.o).trans (Yi.mono HBd.o.size);obtain⟨kb,Od⟩:∃kb,kb=Vw.heap.size:=⟨_,rfl⟩
    have Ks:kb<wf.heap.size:=by
     rcases Kj.2 with⟨e,-⟩|⟨g,c9,ae6,e,-,Uz,-⟩
     ·cases e
     simp only[Value.slice.injEq,bq,Addr.mk.injEq,and_true]at e;rw[Od,e.1];exact Has.lt (w:=wf) Uz
    rw[<- Od]at Kj⊢;have NC:Hy (W1.heap.size<=kb):=Hd (by rw[Od];exact HBd.o.size);have PG:Hy (wf.ownsRow W1.heap.size 3 1 (.slice (some ⟨kb,0,none⟩) n1 n1) n1 (ints (iA n1 0))/\kb<wf.heap.size/\kb≠db):=Hd ⟨kO Kj NC.o,Ks,fun e=>by have:=OC.o.lt;rw[<- e,Od]at this;omega⟩;have aaW:Hy (Has wf db (.cells Tryz.zeroCells64 64)):=Hd (OC.o.below Yi OC.o.lt);clear OC;have OC:=aaW;clear aaW;have UM:=Hd hbb;have Oh:Hy ((fun W=>W.cell? ⟨b2,0,none⟩=some (.int .i64 t.dF)/\W.cell? ⟨b2,1,none⟩=some (.int .i64 t.ei)/\W.cell? ⟨b2,2,none⟩=some (.int .i64 t.eS)) wf):=Hd ⟨(hbb.cell (p:=⟨b2,0,none⟩) Mn).trans y0,(hbb.cell (p:=⟨b2,1,none⟩) Mn).trans y1,(hbb.cell (p:=⟨b2,2,none⟩) Mn).trans y2⟩;clear Kj Mr Od Ks hbb Yi;refine hK.out _ _ (fun _=>Oh.o) ?_;clear hK K HS;have HS:=Oh;clear Oh;dsimp only[List.set];refine phase.gN 6 25 (.agg #[.int .i64 t.dF,.int .i64 t.ei,.int .i64 t.eS,.pointer (some ⟨db,0,none⟩),.pointer none,.slice none 0 0,.slice none 0 0,.slice (some ⟨kb,0,none⟩) n1 n1,.slice none 0 0,.int .i64 0,.slice none 0 0,.slice none 0 0,.int .i64 0]) [] HS.o ?_;dsimp only[List.set];refine phase.g1 7 fun K hK=>?_;go_simp;obtain⟨P2,QC⟩:∃P2,P2=wf.heap.size:=⟨_,rfl⟩;obtain⟨wo,UN⟩:∃wo,wo=wf.alloc (.cells #[.int .i64 t.dF,.int .i64 t.ei,.int .i64 t.eS,.pointer (some ⟨db,0,none⟩),.pointer none,.slice none 0 0,.slice none 0 0,.slice (some ⟨kb,0,none⟩) n1 n1,.slice none 0 0,.int .i64 0,.slice none 0 0,.slice none 0 0,.int .i64 0] 72):=⟨_,rfl⟩;rw[<- UN,<- QC];(have S6:Below wf.heap.size wf wo:=by rw[UN];exact (Below.refl _ _).alloc (aq _) _);have hbb:=UM.o.trans (S6.mono UM.o.size);have Oh:Hy ((fun W=>W.cell? ⟨b2,0,none⟩=some (.int .i64 t.dF)/\W.cell? ⟨b2,1,none⟩=some (.int .i64 t.ei)/\W.cell? ⟨b2,2,none⟩=some (.int .i64 t.eS)) wo):=Hd ⟨(hbb.cell (p:=⟨b2,0,none⟩) Mn).trans y0,(hbb.cell (p:=⟨b2,1,none⟩) Mn).trans y1,(hbb.cell (p:=⟨b2,2,none⟩) Mn).trans y2⟩;(have P1:Has wo P2 (.cells #[.int .i64 t.dF,.int .i64 t.ei,.int .i64 t.eS,.pointer (some ⟨db,0,none⟩),.pointer none,.slice none 0 0,.slice none 0 0,.slice (some ⟨kb,0,none⟩) n1 n1,.slice none 0 0,.int .i64 0,.slice none 0 0,.slice none 0 0,.int .i64 0] 72):=by rw[UN,QC];exact Has.new wf _);have N5:w.heap.size<=W1.heap.size:=Ki.o.size;have Oi:=Ap (P:=P) (n1:=n1) t HK.o HH.o (Ki.o.trans (hbb.mono N5)) (by have:=HM.o;omega) Yf (OC.o.below S6 OC.o.lt) (by have:=kO (jE PG.o.1 S6) (bP _);have e:iA n1 0=List.replicate n1 0:=(by simp[iA]);rw[e]at this;exact this) P1 (ay PG.o.2.1 S6.size) (by have:=OC.o.lt;omega) (by have:=PG.o.2.1;omega) (Ne.symm PG.o.2.2) (by have:=UM.o.size;omega) (az N5 Ww.o) (az N5 NC.o);have NL:=Hd Oi;have QG:Hy (Has wo b2 (.cells #[.int .i64 t.dF,.int .i64 t.ei,.int .i64 t.eS] 49)/\b2≠P2/\b2≠db/\b2≠kb):=Hd ⟨KP.o.below hbb Mn,by have:=UM.o.size;omega,by have:=Ww.o;omega,by have:=NC.o;omega⟩;clear UN QC S6 hbb P1 N5 Oi;refine hK.out _ _ (fun _=>Oh.o) ?_;clear hK K HS;have HS:=Oh;clear Oh;dsimp only[List.set];refine phase.gN 8 6 (.pointer (some ⟨P2,0,none⟩)) [] HS.o ?_;dsimp only[List.set];refine phase.gD ?_;(go_wp2_with fail);go_meet
    case rel =>
     obtain⟨own1,vx,h1,h2⟩:=NL.o;exact⟨own1,P2,db,vx,rfl,h1,QG.o.1,h2 b2 QG.o.2.1 QG.o.2.2.1 QG.o.2.2.2⟩
   refine⟨_,by simp only[aC,aD,aE];exact rfl,fun K hK=>?_⟩;refine (if_pos (by rfl)).mpr ?_;refine An UK (.tmp 23) (.tmp 23) 44 rfl UK.heap.size 3 i0 (.int .i64 0) 1 Tryz.underlying44 QX.o.1 QX.o.2.1 QX.o.2.2.1 .i64 .i64 n1 rfl rfl QX.o.2.2.2 (by unfold maxLen;omega) (aq _) fun R1 Kj Mr=>?_;rw[ur]at Kj;have Yi:Below UK.heap.size UK R1:=⟨Mr.os,Mr.tape,Mr.output,Mr.size,fun k hk=>Mr.block k hk (by simp)⟩;have hbb:Below W1.heap.size W1 R1:=(M0.o).trans (Yi.mono M0.o.size);obtain⟨kb,Od⟩:∃kb,kb=UK.heap.size:=⟨_,rfl⟩
   have Ks:kb<R1.heap.size:=by
    rcases Kj.2 with⟨e,-⟩|⟨g,c9,ae6,e,-,Uz,-⟩
    ·cases e
    simp only[Value.slice.injEq,bq,Addr.mk.injEq,and_true]at e;rw[Od,e.1];exact Has.lt (w:=R1) Uz
   rw[<- Od]at Kj⊢;have NC:Hy (W1.heap.size<=kb):=Hd (by rw[Od];exact M0.o.size);have PG:Hy (R1.ownsRow W1.heap.size 3 1 (.slice (some ⟨kb,0,none⟩) n1 n1) n1 (ints (iA n1 0))/\kb<R1.heap.size):=Hd ⟨kO Kj NC.o,Ks⟩;have HBk:=Hd hbb;have Oh:Hy ((fun W=>W.cell? ⟨b2,0,none⟩=some (.int .i64 t.dF)/\W.cell? ⟨b2,1,none⟩=some (.int .i64 t.ei)/\W.cell? ⟨b2,2,none⟩=some (.int .i64 t.eS)) R1):=Hd ⟨(hbb.cell (p:=⟨b2,0,none⟩) Mn).trans y0,(hbb.cell (p:=⟨b2,1,none⟩) Mn).trans y1,(hbb.cell (p:=⟨b2,2,none⟩) Mn).trans y2⟩;clear Kj Mr Od Ks hbb Yi;refine hK.out _ _ (fun _=>Oh.o) ?_;clear hK K HS;have HS:=Oh;clear Oh;dsimp only[List.set];refine phase.g1 2 fun K hK=>?_;go_simp;obtain⟨db,Sg⟩:∃db,db=R1.heap.size:=⟨_,rfl⟩;obtain⟨wf,hwf⟩:∃W,W=R1.alloc (.cells Tryz.zeroCells64 64):=⟨_,rfl⟩;rw[<- hwf,<- Sg];(have hbb:Below W1.heap.size W1 wf:=by rw[hwf];exact (HBk.o).alloc HBk.o.size _);have OC:Hy (Has wf db (.cells Tryz.zeroCells64 64)):=Hd (by rw[hwf,Sg];exact Has.new R1 _);have Ww:Hy (W1.heap.size<=db):=Hd (by rw[Sg];exact HBk.o.size)
   have aaY:Hy (wf.ownsRow W1.heap.size 3 1 (.slice (some ⟨kb,0,none⟩) n1 n1) n1 (ints (iA n1 0))/\kb<wf.heap.size/\kb≠db):=Hd (by
    have hz:Below R1.heap.size R1 wf:=by rw[hwf];exact (Below.refl _ _).alloc (aq _) _
    exact⟨jE PG.o.1 hz,ay PG.o.2 hz.size,fun e=>by have:=PG.o.2;rw[Sg]at e;omega⟩)
   clear PG;have PG:=aaY;clear aaY;have UM:=Hd hbb;have Oh:Hy ((fun W=>W.cell? ⟨b2,0,none⟩=some (.int .i64 t.dF)/\W.cell? ⟨b2,1,none⟩=some (.int .i64 t.ei)/\W.cell? ⟨b2,2,none⟩=some (.int .i64 t.eS)) wf):=Hd ⟨(hbb.cell (p:=⟨b2,0,none⟩) Mn).trans y0,(hbb.cell (p:=⟨b2,1,none⟩) Mn).trans y1,(hbb.cell (p:=⟨b2,2,none⟩) Mn).trans y2⟩;clear hwf Sg hbb;refine hK.out _ _ (fun _=>Oh.o) ?_;clear hK K HS;have HS:=Oh;clear Oh;dsimp only[List.set];refine phase.gN 6 25 (.agg #[.int .i64 t.dF,.int .i64 t.ei,.int .i64 t.eS,.pointer (some ⟨db,0,none⟩),.pointer none,.slice none 0 0,.slice none 0 0,.slice (some ⟨kb,0,none⟩) n1 n1,.slice none 0 0,.int .i64 0,.slice none 0 0,.slice none 0 0,.int .i64 0]) [] HS.o ?_;dsimp only[List.set];refine phase.g1 7 fun K hK=>?_;go_simp;obtain⟨P2,QC⟩:∃P2,P2=wf.heap.size:=⟨_,rfl⟩;obtain⟨wo,UN⟩:∃wo,wo=wf.alloc (.cells #[.int .i64 t.dF,.int .i64 t.ei,.int .i64 t.eS,.pointer (some ⟨db,0,none⟩),.pointer none,.slice none 0 0,.slice none 0 0,.slice (some ⟨kb,0,none⟩) n1 n1,.slice none 0 0,.int .i64 0,.slice none 0 0,.slice none 0 0,.int .i64 0] 72):=⟨_,rfl⟩;rw[<- UN,<- QC];(have S6:Below wf.heap.size wf wo:=by rw[UN];exact (Below.refl _ _).alloc (aq _) _);have hbb:=UM.o.trans (S6.mono UM.o.size);have Oh:Hy ((fun W=>W.cell? ⟨b2,0,none⟩=some (.int .i64 t.dF)/\W.cell? ⟨b2,1,none⟩=some (.int .i64 t.ei)/\W.cell? ⟨b2,2,none⟩=some (.int .i64 t.eS)) wo):=Hd ⟨(hbb.cell (p:=⟨b2,0,none⟩) Mn).trans y0,(hbb.cell (p:=⟨b2,1,none⟩) Mn).trans y1,(hbb.cell (p:=⟨b2,2,none⟩) Mn).trans y2⟩;(have P1:Has wo P2 (.cells #[.int .i64 t.dF,.int .i64 t.ei,.int .i64 t.eS,.pointer (some ⟨db,0,none⟩),.pointer none,.slice none 0 0,.slice none 0 0,.slice (some ⟨kb,0,none⟩) n1 n1,.slice none 0 0,.int .i64 0,.slice none 0 0,.slice none 0 0,.int .i64 0] 72):=by rw[UN,QC];exact Has.new wf _);have N5:w.heap.size<=W1.heap.size:=Ki.o.size;have Oi:=Ap (P:=P) (n1:=n1) t HK.o HH.o (Ki.o.trans (hbb.mono N5)) (by have:=HM.o;omega) Yf (OC.o.below S6 OC.o.lt) (by have:=kO (jE PG.o.1 S6) (bP _);have e:iA n1 0=List.replicate n1 0:=(by simp[iA]);rw[e]at this;exact this) P1 (ay PG.o.2.1 S6.size) (by have:=OC.o.lt;omega) (by have:=PG.o.2.1;omega) (Ne.symm PG.o.2.2) (by have:=UM.o.size;omega) (az N5 Ww.o) (az N5 NC.o);have NL:=Hd Oi;have QG:Hy (Has wo b2 (.cells #[.int .i64 t.dF,.int .i64 t.ei,.int .i64 t.eS] 49)/\b2≠P2/\b2≠db/\b2≠kb):=Hd ⟨KP.o.below hbb Mn,by have:=UM.o.size;omega,by have:=Ww.o;omega,by have:=NC.o;omega⟩;clear UN QC S6 hbb P1 N5 Oi;refine hK.out _ _ (fun _=>Oh.o) ?_;clear hK K HS;have HS:=Oh;clear Oh;dsimp only[List.set];refine phase.gN 8 6 (.pointer (some ⟨P2,0,none⟩)) [] HS.o ?_;dsimp only[List.set];refine phase.gD ?_;(go_wp2_with fail);go_meet
   case rel =>
    obtain⟨own1,vx,h1,h2⟩:=NL.o;exact⟨own1,P2,db,vx,rfl,h1,QG.o.1,h2 b2 QG.o.2.1 QG.o.2.2.1 QG.o.2.2.2⟩
  case rest =>
   obtain⟨own1,ob,db,v,rfl,h4,Ke,aaZ⟩:=hcut;have HW4:=Hd h4;have QG:=Hd Ke;have Qh:=Hd aaZ;have d0:wc.cell? ⟨b2,0,none⟩=some (.int .i64 t.dF):=Ke.cell 0;have d1:wc.cell? ⟨b2,1,none⟩=some (.int .i64 t.ei):=Ke.cell 1;have d2:wc.cell? ⟨b2,2,none⟩=some (.int .i64 t.eS):=Ke.cell 2;have d3:wc.cell? ⟨ob,3,none⟩=some (.pointer (some ⟨db,0,none⟩)):=h4.o_.cell 3;have KK:(nE t n1 ⟨[],false,0⟩ none).eD=none:=rfl
   have My:v.sp=.pointer none:=by
    rcases h4.oy with⟨-,e⟩|⟨s,sb,e,-⟩
    ·exact e
    cases e
   have Ns:=h4.dR;rw[KK]at Ns;obtain⟨-,ps,Ns⟩:=Ns;have KN:ob<wc.heap.size:=h4.o_.lt;have LJ:b2<wc.heap.size:=Ke.lt
   have Lz:Hy (¬ey own1 ob/\¬ey own1 b2):=Hd (by
    have h1:=h4.fh;unfold ey
    omega)
   have Oq:=Hd (xJ wc.drew t 0 (Ns.below (Below.refl _ _).drew))
   have Vf:Hy (x=match dC.new t ⟨[],false,0⟩ 0 with
    |(_,d,some s)=>match lE t 0 m with
     |some cs=>(0,some {nE t n1 d (some s)with dG:=cs,eH:=List.replicate m 0,eC:=List.replicate m (-1)})
     |none=>(2,none)
    |(e,_,none)=>(e,none)):=Hd (by
    rw[HX.o];unfold dB.new;rw[if_neg (by have:=HM.o;simp[eG];omega)];have e:(m:Int).toNat=m:=bH m;rw[e,HM.o.2.2]
    rfl)
   obtain⟨y,hy⟩:∃y,y=dC.new t ⟨[],false,0⟩ 0:=⟨_,rfl⟩;rw[<- hy]at Vf;have hy':dC.new t (nE t n1 ⟨[],false,0⟩ none).eM 0=y:=hy.symm;rw[hy']at Oq;have HY:=Hd hy;have UE:=Hd My;have Xn:=Hd (zG t ⟨[],false,0⟩ 0);rw[<- hy]at Xn;clear h4 Ke aaZ KK My Ns hy hy' HX;obtain⟨c0,d,o⟩:=y
   cases o with
   |none =>
    have RP:c0≠0:=Xn.o.1 rfl;have TB:=Hd (iE RP);have Th:Hy (x=(c0,none)):=Hd Vf.o;clear RP Vf;(go_upto_region 4 with fail);refine last.fS (fun W=>W.cell? ⟨b2,0,none⟩=some (.int .i64 t.dF)/\W.cell? ⟨b2,1,none⟩=some (.int .i64 t.ei)/\W.cell? ⟨b2,2,none⟩=some (.int .i64 t.eS)/\W.cell? ⟨ob,3,none⟩=some (.pointer (some ⟨db,0,none⟩))) 1000 11 ⟨d0,d1,d2,d3⟩ fun HS=>?_;refine last.many [(0,28,_),(1,29,_),(2,30,_),(3,31,_),(4,32,_)] HS.o ?_ (hy:=fun W' Kc=>by have e0:=Kc.1;have e1:=Kc.2.1;have e2:=Kc.2.2.1;have f0:=Kc.2.2.2;repeat (first|exact .z|refine .s ?_|refine .k ?_));refine last.one 5 fun K hK=>?_;go_simp;refine Oq.o.mono ?_;rintro e w5 ⟨S3,PF,QA,psN,rfl,hdN⟩;have Ye:=Hd PF;have T0:=Hd QA;rw[TB.o];have Tq:=Hd hdN;clear hdN;have KF:dD (ey own1) wc w5:=(dD.refl _ wc).drew.trans QA fun _ _ e=>e;have Kl:Hy ((fun W=>W.cell? ⟨b2,0,none⟩=some (.int .i64 t.dF)/\W.cell? ⟨b2,1,none⟩=some (.int .i64 t.ei)/\W.cell? ⟨b2,2,none⟩=some (.int .i64 t.eS)/\W.cell? ⟨ob,3,none⟩=some (.pointer (some ⟨db,0,none⟩))) w5):=Hd ⟨(KF.cell (p:=⟨b2,0,none⟩) LJ Lz.o.2).trans d0,(KF.cell (p:=⟨b2,1,none⟩) LJ Lz.o.2).trans d1,(KF.cell (p:=⟨b2,2,none⟩) LJ Lz.o.2).trans d2,(KF.cell (p:=⟨ob,3,none⟩) KN Lz.o.1).trans d3⟩;clear PF QA KF;refine hK.out _ _ (fun _=>Kl.o) ?_;clear hK K HS;have HS:=Kl;refine last.many [(6,27,_),(7,34,_),(8,35,_),(9,7,_),(10,8,_)] HS.o ?_;refine last.done ?_;clear d0 d1 d2 d3 HS;(go_wp2_with fail);go_ret2;rw[Th.o];exact⟨by rw[TB.o];rfl,Tq.o.fF⟩
   |some s =>
    have Px:dI.ku t=true:=IB (d:=⟨[],false,0⟩) (dE:=0) (s:=s) (by rw[<- HY.o]);obtain⟨cs,LN⟩:=Aq Px m 0 (by have:=HM.o;omega);obtain⟨KW,hcg⟩:=eU.rR m LN
    have Th:Hy (x=(0,some {nE t n1 d (some s)with dG:=cs,eH:=List.replicate m 0,eC:=List.replicate m (-1)})):=Hd (by
     have h1:=Vf.o;dsimp only at h1;rw[LN]at h1
     exact h1)
    have NW:=Hd KW;have HCG:=Hd hcg;clear Px LN KW hcg Vf Xn HY;(go_upto_region 4 with fail);refine last.fS (fun W=>W.cell? ⟨b2,0,none⟩=some (.int .i64 t.dF)/\W.cell? ⟨b2,1,none⟩=some (.int .i64 t.ei)/\W.cell? ⟨b2,2,none⟩=some (.int .i64 t.eS)/\W.cell? ⟨ob,3,none⟩=some (.pointer (some ⟨db,0,none⟩))) 1000 11 ⟨d0,d1,d2,d3⟩ fun HS=>?_;refine last.many [(0,28,_),(1,29,_),(2,30,_),(3,31,_),(4,32,_)] HS.o ?_ (hy:=fun W' Kc=>by have e0:=Kc.1;have e1:=Kc.2.1;have e2:=Kc.2.2.1;have f0:=Kc.2.2.2;repeat (first|exact .z|refine .s ?_|refine .k ?_));refine last.one 5 fun K hK=>?_;go_simp;refine Oq.o.mono ?_;rintro e w5 ⟨S3,PF,QA,sbN,wbN,dmN,tbN,tmN,vN,psN,qsN,rfl,hsN⟩;have Ye:=Hd PF;have T0:=Hd QA;have HSW:=Hd hsN;clear hsN;have KF:dD (ey own1) wc w5:=(dD.refl _ wc).drew.trans QA fun _ _ e=>e;have Kl:Hy ((fun W=>W.cell? ⟨b2,0,none⟩=some (.int .i64 t.dF)/\W.cell? ⟨b2,1,none⟩=some (.int .i64 t.ei)/\W.cell? ⟨b2,2,none⟩=some (.int .i64 t.eS)/\W.cell? ⟨ob,3,none⟩=some (.pointer (some ⟨db,0,none⟩))) w5):=Hd ⟨(KF.cell (p:=⟨b2,0,none⟩) LJ Lz.o.2).trans d0,(KF.cell (p:=⟨b2,1,none⟩) LJ Lz.o.2).trans d1,(KF.cell (p:=⟨b2,2,none⟩) LJ Lz.o.2).trans d2,(KF.cell (p:=⟨ob,3,none⟩) KN Lz.o.1).trans d3⟩;clear PF QA KF;refine hK.out _ _ (fun _=>Kl.o) ?_;clear hK K HS;have HS:=Kl;refine last.many [(6,27,_),(7,34,_),(8,35,_),(9,7,_),(10,8,_)] HS.o ?_;refine last.done ?_;clear d0 d1 d2 d3 HS;obtain⟨own2,k1,k2,k3,k4⟩:=zJ (HW4.o.below (Below.refl _ _).drew HW4.o.fr) UE.o Ye.o T0.o HSW.o;(have q4:w5.cell? ⟨ob,4,none⟩=some (.pointer none):=by rw[<- UE.o];exact k1.o_.cell 4);have f4:=k1.o_.frozen 4;have h6:=k1.zK k4;obtain⟨v6,Qy⟩:∃v6,v6=({v with sp:=.pointer (some ⟨sbN,0,none⟩)}:WV):=⟨_,rfl⟩;obtain⟨w6,hw6⟩:∃w6,w6=w5.setCell ⟨ob,4,none⟩ (.pointer (some ⟨sbN,0,none⟩)):=⟨_,rfl⟩;rw[<- Qy,<- hw6]at h6;(have hnb:b2≠ob:=fun e=>by have:=HW4.o.fh;rw[<- e,Qh.o]at this;cases this);have Lg:Hy (Has w6 b2 (.cells #[.int .i64 t.dF,.int .i64 t.ei,.int .i64 t.eS] 49)/\own2 b2=0):=Hd ⟨by rw[hw6];exact (k3.has QG.o (fun e=>e Qh.o)).far hnb _,(k2 b2 LJ).trans Qh.o⟩;obtain⟨r0,PN⟩:∃r0:dB,r0=nE t n1 d (some s):=⟨_,rfl⟩;have H6:Hy (dP P own2 w w6 ob db v6 {r0 with dG:=cs.take 0,eH:=List.replicate 0 0,eC:=List.replicate 0 (-1)}):=Hd (by rw[PN];exact h6);have XW:=Hd PN;have HW6:=Hd hw6;rw[<- PN]at Th;clear k1 k2 k3 k4 h6 Qy hw6 PN KN LJ;(go_wp2_with fail);rw[<- HW6.o];clear HW6;(go_loopw [44] (fun Wn wx=>∃(k:Nat) (S7:Nat->Nat) (vk:WV),k<=m/\Wn=.int .i64 k/\dP P S7 w wx ob db vk {r0 with dG:=cs.take k,eH:=List.replicate k 0,eC:=List.replicate k (-1)}/\Has wx b2 (.cells #[.int .i64 t.dF,.int .i64 t.ei,.int .i64 t.eS] 49)/\S7 b2=0) (fun Wn _=>m-(intOf Wn).toNat));case atStart=>exact⟨0,own2,v6,by omega,rfl,H6.o,Lg.o.1,Lg.o.2⟩
    case round =>
     clear H6 Lg;obtain⟨k,S7,vk,hk,rfl,h7,Lu,NB⟩:=hrel;have H7:=Hd h7;have MR:=Hd Lu;have HO7:=Hd NB;obtain⟨wb,Su⟩:∃x,x=wr:=⟨_,rfl⟩;subst Su;clear h7 NB;by_cases O8:k<m
     ·have KZ:cs[k]?=some (cs[k]'(by rw[NW.o];exact O8)):=ax _;generalize cs[k]'(by rw[NW.o];exact O8)=c at KZ;have hcn:=HCG.o k c KZ;rw[bW]at hcn;obtain⟨rk,hrk⟩:∃rk:dB,rk={r0 with dG:=cs.take k,eH:=List.replicate k 0,eC:=List.replicate k (-1)}:=⟨_,rfl⟩;rw[<- hrk]at H7;(have Ks:rk.dG.length=k:=by rw[hrk];show (cs.take k).length=k;rw[bG,NW.o];omega);have Uy:=Hd (xX (own:=S7) (T:=20+4*k) (k:Int) 0 0 t wb fun g hg=>H7.o.fr g hg);rw[hcn]at Uy;have d0:wb.cell? ⟨b2,0,none⟩=some (.int .i64 t.dF):=Lu.cell 0;have d1:wb.cell? ⟨b2,1,none⟩=some (.int .i64 t.ei):=Lu.cell 1;have d2:wb.cell? ⟨b2,2,none⟩=some (.int .i64 t.eS):=Lu.cell 2;have PG:=Hd hrk;have NC:=Hd Ks;have Tx:=Hd KZ;clear KZ hcn hrk Ks Lu;(go_upto_region 14 with (go_at_call 25;refine Uy.o.mono ?_;rintro e w8 ⟨S3,O4,fmN,smN,rfl,PF,hfN,hcN,UG,-⟩;have HXN:=Hd PF;have X8:=Hd hfN;have Wb:=Hd hcN;have HBN:=Hd UG;clear PF hfN hcN UG));obtain⟨own3,j1,j2,j3⟩:=zL H7.o HXN.o X8.o Wb.o HBN.o;obtain⟨wA,Oc⟩:∃W,W=w8.drew:=⟨_,rfl⟩;have HA:Hy (dP P own3 w wA ob db vk rk):=Hd (by rw[Oc];exact j1.below (Below.refl _ _).drew j1.fr);have HCA:Hy (eB own3 (20+4*rk.dG.length) wA O4 fmN smN (.slice none 0 0) c):=Hd (by rw[Oc,NC.o];exact j3.drew);have NO:Hy (Has wA b2 (.cells #[.int .i64 t.dF,.int .i64 t.ei,.int .i64 t.eS] 49)/\own3 b2=0):=Hd ⟨by rw[Oc];exact (MR.o.below HBN.o MR.o.lt).drew,(j2 b2 MR.o.lt).trans HO7.o⟩
      have N4:Hy (({rk with dG:=rk.dG++[c],eH:=rk.eH++[0],eC:=rk.eC++[-1]}:dB)={r0 with dG:=cs.take (k+1),eH:=List.replicate (k+1) 0,eC:=List.replicate (k+1) (-1)}):=Hd (by
       have e1:cs.take (k+1)=cs.take k++[c]:=by rw[bo,Tx.o];rfl
       rw[PG.o,e1,List.replicate_succ',List.replicate_succ'])
      have SO:rk.dG.length+1<=4:=by rw[NC.o];have:=HM.o;omega
      have Ud:rk.dG.length+2<=rk.ee.length:=by
       rw[NC.o,PG.o,XW.o];show k+2<=(List.replicate n1 (0:Int)).length;rw[bR];have:=HM.o;omega
      have P8:Hy (∀(f:Nat->Nat) (y:World) (c5 l5 o5:Value),Grow own3 wA f y c5 l5 o5 (rk.dG.length+1) (rk.eH.length+1) (rk.eC.length+1) ((vk.fW.map fun b=>Value.pointer (some ⟨b,0,none⟩))++[.pointer (some ⟨O4,0,none⟩)]) (ints rk.eH++[.int .i64 0]) (ints rk.eC++[.int .i64 (-1)]) ->
       dP P f w (((y.setCell ⟨ob,5,none⟩ c5).setCell ⟨ob,6,none⟩ l5).setCell ⟨ob,11,none⟩ o5) ob db {vk with cl:=c5,li:=l5,op:=o5,fW:=vk.fW++[O4]} {r0 with dG:=cs.take (k+1),eH:=List.replicate (k+1) 0,eC:=List.replicate (k+1) (-1)}/\Has (((y.setCell ⟨ob,5,none⟩ c5).setCell ⟨ob,6,none⟩ l5).setCell ⟨ob,11,none⟩ o5) b2 (.cells #[.int .i64 t.dF,.int .i64 t.ei,.int .i64 t.eS] 49)/\f b2=0):=Hd fun f y c5 l5 o5 hg=>by
       (have Km:b2≠ob:=fun e=>by have:=HA.o.fh;rw[<- e,NO.o.2]at this;cases this);refine⟨?_,(((hg.er.has NO.o.1 (by rw[NO.o.2];decide)).far Km _).far Km _).far Km _,(hg.ext b2 NO.o.1.lt).trans NO.o.2⟩;rw[<- N4.o];refine HA.o.Iz ?_ HCA.o SO Ud;(have e1:(vk.fW++[O4]).map (fun b=>Value.pointer (some ⟨b,0,none⟩))=(vk.fW.map fun b=>Value.pointer (some ⟨b,0,none⟩))++[.pointer (some ⟨O4,0,none⟩)]:=by simp);(have e2:ints (rk.eH++[0])=ints rk.eH++[.int .i64 0]:=by simp[ints]);(have e3:ints (rk.eC++[-1])=ints rk.eC++[.int .i64 (-1)]:=by simp[ints]);rw[e1,e2,e3];exact hg
      have Mg:Hy (Grow own3 wA own3 wA vk.cl vk.li vk.op rk.dG.length rk.eH.length rk.eC.length (vk.fW.map fun b=>Value.pointer (some ⟨b,0,none⟩)) (ints rk.eH) (ints rk.eC)):=Hd ⟨dD.refl _ _,Ext.refl _ _,HA.o.fr,HA.o.cl,HA.o.li,HA.o.op⟩
      have a5:wA.cell? ⟨ob,5,none⟩=some vk.cl:=HA.o.o_.cell 5
      have a6:wA.cell? ⟨ob,6,none⟩=some vk.li:=HA.o.o_.cell 6
      have a11:wA.cell? ⟨ob,11,none⟩=some vk.op:=HA.o.o_.cell 11
      have Ry:ob<wA.heap.size:=HA.o.o_.lt
      have Rz:¬(own3 ob=61\/own3 ob=62\/own3 ob=65):=by rw[HA.o.fh];decide
      have Tm:Hy (rk.dG.length<=1000000/\rk.eH.length<=1000000/\rk.eC.length<=1000000):=Hd ⟨by omega,by rw[HA.o.nl];omega,by rw[HA.o.no];omega⟩
      clear j1 j2 j3 SO Ud d0 d1 d2
      refine phase.gH (fun W=>W.cell? ⟨ob,5,none⟩=some vk.cl/\W.cell? ⟨ob,6,none⟩=some vk.li/\W.cell? ⟨ob,11,none⟩=some vk.op) (fun i=>decide (3<=i)&&decide (i<22)) 31 ?_
      have HS:Hy ((fun W=>W.cell? ⟨ob,5,none⟩=some vk.cl/\W.cell? ⟨ob,6,none⟩=some vk.li/\W.cell? ⟨ob,11,none⟩=some vk.op) wA):=Hd ⟨a5,a6,a11⟩
      rw[<- Oc]
      clear Oc
      refine phase.gM 0 56 (.pointer (some ⟨ob,0,none⟩)) ?_
      refine phase.gM 1 57 (.pointer (some ⟨ob,0,none⟩)) ?_
      refine phase.gM 2 58 (.pointer (some ⟨ob,0,none⟩)) ?_
      refine phase.gN 3 59 (.pointer (some ⟨ob,0,none⟩)) [] HS.o ?_
      dsimp only[List.set]
      refine phase.gN 4 60 (.pointer (some ⟨ob,0,none⟩)) [] HS.o ?_
      dsimp only[List.set]
      refine phase.gN 5 61 (.pointer (some ⟨ob,5,none⟩)) [] HS.o ?_
      dsimp only[List.set]
      refine phase.gN 6 62 (vk.cl) [] HS.o ?_ (hy:=(fun W' Kc=>by have e1:=Kc.1;go_simp))
      dsimp only[List.set]
      refine phase.gN 7 63 (.pointer (some ⟨O4,0,none⟩)) [] HS.o ?_
      dsimp only[List.set]
      refine phase.gN 10 66 (.pointer (some ⟨ob,0,none⟩)) [11,12,13] HS.o ?_
      dsimp only[List.set]
      refine phase.gN 11 67 (.pointer (some ⟨ob,0,none⟩)) [12,13] HS.o ?_
      dsimp only[List.set]
      refine phase.gN 12 68 (.pointer (some ⟨ob,6,none⟩)) [13] HS.o ?_
      dsimp only[List.set]
      refine phase.gN 13 69 (vk.li) [] HS.o ?_ (hy:=(fun W' Kc=>by have e1:=Kc.2.1;go_simp))
      dsimp only[List.set]
      refine phase.gN 16 72 (.pointer (some ⟨ob,0,none⟩)) [17,18,19] HS.o ?_
      dsimp only[List.set]
      refine phase.gN 17 73 (.pointer (some ⟨ob,0,none⟩)) [18,19] HS.o ?_
      dsimp only[List.set]
      refine phase.gN 18 74 (.pointer (some ⟨ob,11,none⟩)) [19] HS.o ?_
      dsimp only[List.set]
      refine phase.gN 19 75 (vk.op) [] HS.o ?_ (hy:=(fun W' Kc=>by have e1:=Kc.2.2;go_simp))
      dsimp only[List.set]
      have Qb:Hy (∀ {f:Nat->Nat} {W:World} {c l o:Value} {kc kl ko:Nat} {xc xl xo:List Value},Grow own3 wA f W c l o kc kl ko xc xl xo->(fun W=>W.cell? ⟨ob,5,none⟩=some vk.cl/\W.cell? ⟨ob,6,none⟩=some vk.li/\W.cell? ⟨ob,11,none⟩=some vk.op) W):=Hd fun h=>⟨(h.er.cell (p:=⟨ob,5,none⟩) Ry Rz).trans a5,(h.er.cell (p:=⟨ob,6,none⟩) Ry Rz).trans a6,(h.er.cell (p:=⟨ob,11,none⟩) Ry Rz).trans a11⟩
      obtain⟨ow,y,hy,Mg,HS⟩:∃f W,W=wA/\Hy (Grow own3 wA f W vk.cl vk.li vk.op rk.dG.length rk.eH.length rk.eC.length (vk.fW.map fun b=>Value.pointer (some ⟨b,0,none⟩)) (ints rk.eH) (ints rk.eC))/\Hy ((fun W=>W.cell? ⟨ob,5,none⟩=some vk.cl/\W.cell? ⟨ob,6,none⟩=some vk.li/\W.cell? ⟨ob,11,none⟩=some vk.op) W):=⟨own3,wA,rfl,Mg,HS⟩
      rw[<- hy]
      clear hy a5 a6 a11
      repeat' (first|(refine phase.Ao [8,9,14,15,20,21] (.cons ?_ (.cons ?_ (.cons ?_ (.cons ?_ (.cons ?_ (.cons ?_ .nil))))))<;>first
       |exact .inl (by decide +kernel)
       | (refine .inr (?_:phase.mS _ _ _ _ _ _ _ _ _ _ 8)
          refine⟨_,by simp only[aC,aD,aE];exact rfl,fun K hK=>?_⟩;refine (if_pos (by rfl)).mpr ?_;go_simp;obtain⟨y,G8,hz,hG,Mr,hp,hkeep⟩:=Mg.o.build #[.pointer (some ⟨O4,0,none⟩)] 75;rw[hz,hG];have Mg:=Hd Mr
          try have NS:=Hd (hkeep _ _ _ NS.o)
          try have NT:=Hd (hkeep _ _ _ NT.o)
          have R3:=Hd hp;have HS:=Hd (Qb.o Mg.o);clear hz hG Mr hp hkeep;refine hK.out _ _ (fun _=>HS.o) ?_;clear hK K
          dsimp only[List.set])
       | (refine .inr (?_:phase.mS _ _ _ _ _ _ _ _ _ _ 14)
          refine⟨_,by simp only[aC,aD,aE];exact rfl,fun K hK=>?_⟩;refine (if_pos (by rfl)).mpr ?_;go_simp;obtain⟨y,G14,hz,hG,Mr,hp,hkeep⟩:=Mg.o.build #[.int .i64 0] 3;rw[hz,hG];have Mg:=Hd Mr
          try have R3:=Hd (hkeep _ _ _ R3.o)
          try have NT:=Hd (hkeep _ _ _ NT.o)
          have NS:=Hd hp;have HS:=Hd (Qb.o Mg.o);clear hz hG Mr hp hkeep;refine hK.out _ _ (fun _=>HS.o) ?_;clear hK K
          dsimp only[List.set])
       | (refine .inr (?_:phase.mS _ _ _ _ _ _ _ _ _ _ 20)
          refine⟨_,by simp only[aC,aD,aE];exact rfl,fun K hK=>?_⟩;refine (if_pos (by rfl)).mpr ?_;go_simp;obtain⟨y,G20,hz,hG,Mr,hp,hkeep⟩:=Mg.o.build #[.int .i64 (-1)] 3;rw[hz,hG];have Mg:=Hd Mr
          try have R3:=Hd (hkeep _ _ _ R3.o)
          try have NS:=Hd (hkeep _ _ _ NS.o)
          have NT:=Hd hp;have HS:=Hd (Qb.o Mg.o);clear hz hG Mr hp hkeep;refine hK.out _ _ (fun _=>HS.o) ?_;clear hK K
          dsimp only[List.set])
       | (refine .inr (?_:phase.mS _ _ _ _ _ _ _ _ _ _ 9)
          refine⟨_,by simp only[aC,aD,aE];exact rfl,fun K hK=>?_⟩;refine (if_pos (by rfl)).mpr ?_;refine qi (own:=ow) (.tmp 62) (.tmp 64) 66 75 61 1 8 (.pointer none) rfl Tryz.underlying66 (by kernel_rfl) rfl (by decide) vk.cl rk.dG.length G8 (vk.fW.map fun b=>Value.pointer (some ⟨b,0,none⟩)) [.pointer (some ⟨O4,0,none⟩)] rfl Mg.o.rc rfl R3.o.has rfl (by simp[Value.oneCell']) Tm.o.1 (by decide) y.heap.size rfl fun g9 cap9 y hr hg h3 h4=>?_
          try have NS:=Hd (NS.o.app (by decide) Mg.o.rc.2 hg h3)
          try have NT:=Hd (NT.o.app (by decide) Mg.o.rc.2 hg h3)
          have Mg:=Hd (Mg.o.Iw hr hg h3 h4);obtain⟨ow,ho⟩:∃f,f=hJ ow g9 61:=⟨_,rfl⟩;rw[<- ho]at Mg
          try rw[<- ho]at NS
          try rw[<- ho]at NT
          have HS:=Hd (Qb.o Mg.o);clear ho hr hg h3 h4 R3;refine hK.out _ _ (fun _=>HS.o) ?_;clear hK K
          dsimp only[List.set])
       | (refine .inr (?_:phase.mS _ _ _ _ _ _ _ _ _ _ 15)
          refine⟨_,by simp only[aC,aD,aE];exact rfl,fun K hK=>?_⟩;refine (if_pos (by rfl)).mpr ?_;refine qi (own:=ow) (.tmp 69) (.tmp 70) 44 3 62 1 8 (.int .i64 0) rfl Tryz.underlying44 (by kernel_rfl) rfl (by decide) vk.li rk.eH.length G14 (ints rk.eH) [.int .i64 0] rfl Mg.o.rl rfl NS.o.has rfl (by simp[Value.oneCell']) Tm.o.2.1 (by decide) y.heap.size rfl fun g15 ag5 y hr hg h3 h4=>?_
          try have R3:=Hd (R3.o.app (by decide) Mg.o.rl.2 hg h3)
          try have NT:=Hd (NT.o.app (by decide) Mg.o.rl.2 hg h3)
          have Mg:=Hd (Mg.o.Ix hr hg h3 h4);obtain⟨ow,ho⟩:∃f,f=hJ ow g15 62:=⟨_,rfl⟩;rw[<- ho]at Mg
          try rw[<- ho]at R3
          try rw[<- ho]at NT
          have HS:=Hd (Qb.o Mg.o);clear ho hr hg h3 h4 NS;refine hK.out _ _ (fun _=>HS.o) ?_;clear hK K
          dsimp only[List.set])
       | (refine .inr (?_:phase.mS _ _ _ _ _ _ _ _ _ _ 21)
          refine⟨_,by simp only[aC,aD,aE];exact rfl,fun K hK=>?_⟩;refine (if_pos (by rfl)).mpr ?_;refine qi (own:=ow) (.tmp 75) (.tmp 76) 44 3 65 1 8 (.int .i64 0) rfl Tryz.underlying44 (by kernel_rfl) rfl (by decide) vk.op rk.eC.length G20 (ints rk.eC) [.int .i64 (-1)] rfl Mg.o.ro rfl NT.o.has rfl (by simp[Value.oneCell']) Tm.o.2.2 (by decide) y.heap.size rfl fun g21 ag6 y hr hg h3 h4=>?_
          try have R3:=Hd (R3.o.app (by decide) Mg.o.ro.2 hg h3)
          try have NS:=Hd (NS.o.app (by decide) Mg.o.ro.2 hg h3)
          have Mg:=Hd (Mg.o.Iy hr hg h3 h4);obtain⟨ow,ho⟩:∃f,f=hJ ow g21 65:=⟨_,rfl⟩;rw[<- ho]at Mg
          try rw[<- ho]at R3
          try rw[<- ho]at NS
          have HS:=Hd (Qb.o Mg.o);clear ho hr hg h3 h4 NT;have f5:=(Mg.o.er.frozen (p:=⟨ob,5,none⟩) Ry Rz).trans (HA.o.o_.frozen 5);have f6:=(Mg.o.er.frozen (p:=⟨ob,6,none⟩) Ry Rz).trans (HA.o.o_.frozen 6);have f11:=(Mg.o.er.frozen (p:=⟨ob,11,none⟩) Ry Rz).trans (HA.o.o_.frozen 11);have s5:=HS.o.1;have s6:=HS.o.2.1;have s11:=HS.o.2.2;refine hK.out _ _ (fun _=>HS.o) ?_;clear hK K
          dsimp only[List.set]))|fail)
      all_goals
       clear HS Qb
       repeat' (first|(refine phase.Ao [22,23,24,25,26,27,28,29,30] (.cons ?_ (.cons ?_ (.cons ?_ (.cons ?_ (.cons ?_ (.cons ?_ (.cons ?_ (.cons ?_ (.cons ?_ .nil)))))))))<;>first
        |exact .inl (by decide +kernel)
        | (refine .inr ⟨_,by simp only[aC,aD,aE];exact rfl,fun K hK=>?_⟩
           refine (if_pos (by rfl)).mpr ?_;go_simp;refine hK.out _ _ (fun h=>absurd h (by decide)) ?_;clear hK K
           dsimp only[List.set]))|fail)
       refine phase.gD ?_;have Xs:=P8.o _ _ _ _ _ Mg.o;have hm4:=HM.o;(go_wp2_with fail);go_roundw;(case rel=>exact⟨k+1,_,_,by omega,by go_num,Xs.1,Xs.2.1,Xs.2.2⟩);case measure=>simp[intOf];omega
     (obtain rfl:k=m:=by omega);have hte:cs.take k=cs:=ba (by rw[NW.o];exact aq _);(go_wp2_with fail);go_ret2;rw[Th.o];refine⟨S7,ob,db,vk,rfl,?_⟩;have h9:=H7.o;rw[hte]at h9;exact h9
 have HR:Hy (x=(2,none)):=Hd (by
  rw[HX.o];unfold dB.new;rw[if_pos]
  simp[eG];omega)
 clear hk hh hx;(go_enter Tryz.func13,Tryz.ntmps13);by_cases h1:n<1
 ·have d1:decide (n<1)=true:=decide_eq_true h1;(go_wp2_with fail);go_ret2;rw[HR.o];exact⟨rfl,(Below.refl _ _).alloc (aq _) _⟩
 have d1:decide (n<1)=false:=decide_eq_false h1;have d2:decide ((4:Int)<n)=true:=decide_eq_true (by omega);(go_wp2_with fail);go_ret2;rw[HR.o];exact⟨rfl,(Below.refl _ _).alloc (aq _) _⟩
end
end fe
end Go.Proofs.YtlhodcmdpchllaaGreatDoor
