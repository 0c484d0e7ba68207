/-
  A part of the proof of the law DeskPieces: SrvS, ClE.
-/
import Derived.Test.YtlhodcmdpchllaaGreatDoorHd
import Derived.Test.YtlhodcmdpchllaaGreatDoorP28
set_option maxHeartbeats 16000000
set_option maxRecDepth 1000000
namespace Go.Proofs.YtlhodcmdpchllaaGreatDoor
namespace dR
open Go.RowKit heap own dK eO fq dZ fD eK
open dI (Rec dW fE Wr dC eY eA eG ez put del)
structure iW (P:Lib.PrintTabs) (own:Nat->Nat) (w0 w:World) (db:Nat) (ps:List ByteArray) (d:dW):Prop where
 jT:jr P w0
 kh:Handle w0
 fF:Below w0.heap.size w0 w
 low:∀g,ey own g->w0.heap.size<=g
 fr:∀g,w.heap.size<=g->own g=0
 hZ:fU w db ps d.cut d.left
 jf:kB P ps d.dK
 gq:own db=1
 rc:∀r∈d.dK,0<=r.dL/\r.dL<4
section
variable {P:Lib.PrintTabs} {own own1:Nat->Nat} {w0 w w':World} {sb db wb dm tb tm:Nat} {v:Value} {ps:List ByteArray} {qs:List Value} {d:dW} {s:dC} {S:Nat->Prop}
theorem eh.eM (h:eh P own w0 w sb db wb dm tb tm v ps qs d s):iW P own w0 w db ps d:=⟨h.jT,h.kh,h.fF,h.low,h.fr,h.hZ,h.jf,h.gq,h.ok.rc⟩
theorem iW.le (h:iW P own w0 w db ps d):w0.heap.size<=w.heap.size:=h.fF.size
theorem iW.er (h:iW P own w0 w db ps d) (ht:dD S w w') (he:Ext w own own1) (hf:∀g,w'.heap.size<=g->own1 g=0) (hs:∀g,g<w.heap.size->S g->g≠db/\w0.heap.size<=g):iW P own1 w0 w' db ps d:=by
 have Kr:dD (fun g=>g<w.heap.size/\S g) w w':=ht.mono fun k hk hS=>⟨hk,hS⟩;have kg:=h.hZ.lt;refine⟨h.jT,h.kh,h.fF.trans (Kr.lU h.le fun k hk hS=>by have:=(hs k hS.1 hS.2).2;omega),fun g hg=>?_,hf,⟨ht.has h.hZ.d_ (fun hS=>(hs db kg hS).1 rfl),h.hZ.hp⟩,h.jf,by rw[he _ kg];exact h.gq,h.rc⟩;rcases aW g w.heap.size with hg'|hg'
 ·unfold ey at hg;rw[he g hg']at hg;exact h.low g hg
 exact az h.le hg'
theorem iW.below (h:iW P own w0 w db ps d) (hb:Below w.heap.size w w'):iW P own w0 w' db ps d:=
 h.er (S:=fun _=>False) (dD.fw hb (aq _)) (Ext.refl _ _) (fun g hg=>h.fr g (az hb.size hg)) (fun _ _ h=>h.elim)
theorem iW.hO (h:iW P own w0 w db ps d):kf P w0.heap.size w:=⟨w0,rfl,h.jT,h.fF⟩
structure pU (W wx:World) (sb dm tb tm wb:Nat) (t:eA) (dE:Int):Prop where
 fF:Below W.heap.size W wx
 s_:Has wx sb (.cells (iP t wb (List.replicate 8 dI.j4) (List.replicate 8 (.slice none 0 0)) dm tb 0 0 dE (-1)).toArray 103)
 done:At kC wx dm []
 fD:gy wx tb tm eY.new
 ge:W.heap.size<=sb/\W.heap.size<=dm/\W.heap.size<=tb/\W.heap.size<=tm
 ne:sb≠dm/\sb≠tb/\sb≠tm/\dm≠tb/\dm≠tm/\tb≠tm
def l7 (own:Nat->Nat) (sb dm tb tm:Nat):Nat->Nat:=fun k=>if k=sb then 4 else if k=dm then 5 else if k=tb then 6 else if k=tm then 7 else own k
theorem pV {own:Nat->Nat} {sb dm tb tm k:Nat} (h1:k≠sb) (h2:k≠dm) (h3:k≠tb) (h4:k≠tm):l7 own sb dm tb tm k=own k:=by unfold l7;rw[if_neg h1,if_neg h2,if_neg h3,if_neg h4]
theorem tB (t:eA) (dE:Int) (o:Nat):(dC.blank t dE).dX o=[]:=by
 unfold dC.dX dC.blank;rw[aB,bB];split<;>rfl
theorem pU.dR {W wx:World} {sb dm tb tm wb:Nat} {t:eA} {dE:Int} (hn:pU W wx sb dm tb tm wb t dE) (hd:iW P own w0 W db ps d) (hw:iO own 2 w0.heap.size W wb db v false d.dK) :
 eh P (l7 own sb dm tb tm) w0 wx sb db wb dm tb tm v ps (List.replicate 8 (.slice none 0 0)) d (dC.blank t dE):=by
 obtain⟨g1,g2,g3,g4⟩:=hn.ge;obtain⟨n1,n2,n3,n4,n5,n6⟩:=hn.ne;have ia:∀k,k<W.heap.size->l7 own sb dm tb tm k=own k:=fun k hk=>pV (by omega) (by omega) (by omega) (by omega);have l1:=hn.s_.lt;have l2:=hn.done.lt;have l3:=hn.fD.lt;have lw:=hw.w_.lt;have ld:=hd.hZ.lt
 have Ly:∀g,ey (l7 own sb dm tb tm) g->w0.heap.size<=g:=fun g hg=>by
  have:=hd.le;by_cases h1:g=sb
  ·omega
  by_cases h2:g=dm
  ·omega
  by_cases h3:g=tb
  ·omega
  by_cases h4:g=tm
  ·omega
  unfold ey at hg;rw[pV h1 h2 h3 h4]at hg;exact hd.low g hg
 have RC:=hw.below hn.fF (aq _);refine⟨hd.jT,hd.kh,hd.fF.trans (hn.fF.mono hd.le),Ly,fun g hg=>?_,⟨RC.w_,⟨RC.row.1,fun g hg=>?_⟩,(ia wb lw).trans RC.ow,fun g hg=>Ly g ⟨by omega,by omega⟩,RC.lw⟩,⟨hd.hZ.d_.below hn.fF ld,hd.hZ.hp⟩,hd.jf,(ia db ld).trans hd.gq,hn.s_,by unfold l7;rw[if_pos rfl],⟨by simp[dC.blank],by simp[dC.blank],fun o x hx=>?_,(fun p hp=>by cases hp),hd.rc,fun o=>by rw[tB];simp⟩,by simp,fun o ho=>?_,hn.done,by unfold l7;rw[if_neg (by omega),if_pos rfl],hn.fD,by unfold l7;rw[if_neg (by omega),if_neg (by omega),if_pos rfl],by unfold l7;rw[if_neg (by omega),if_neg (by omega),if_neg (by omega),if_pos rfl]⟩
 ·rw[pV (by omega) (by omega) (by omega) (by omega)];exact hd.fr g (az hn.fF.size hg)
 ·rw[ia g (hw.row.lt g hg)];exact hw.row.2 g hg
 ·rw[tB]at hx;cases hx
 rw[tB,aB,bB,if_pos ho];exact fH.nil _ _ _ _ _
theorem pk {w:World} {B:Nat} {e:TypeId} {size n:Nat} {u:Value} {xs:List Value} (h:w.ownsRow B e size u n xs):∃a c,u=.slice a n c:=by
 rcases h.2 with⟨e,h0⟩|⟨g,cap,cur,e,-⟩
 ·exact⟨none,0,by rw[e,h0]⟩
 exact⟨_,_,e⟩
theorem Ep {w:World} {B:Nat} {u:Value} {l:List Rec} (h:w.ownsRow B 107 6 u l.length (jG l)) {k:Nat} {x:Rec} (hk:l[k]?=some x) :
 ∃g cap,u=.slice (some ⟨g,0,none⟩) l.length cap/\g<w.heap.size/\∀j y,(lj x)[j]?=some y->w.cell? ⟨g,k*6+j,none⟩=some y:=by
 have Ks:k<l.length:=(ar.1 hk).1;rcases h.2 with⟨-,h0⟩|⟨g,cap,cur,rfl,-,h2,-,-,-,h4⟩
 ·omega
 have h3:Has w g (.cells cur 107):=h2;refine⟨g,cap,rfl,h3.lt,fun j y hj=>?_⟩;have XQ:j<6:=(ar.1 hj).1;rw[(ij h3 h4 (k*6+j) (by omega)).1];exact (flat_get (f:=lj) (size:=6) (fun _=>rfl) l k x hk j XQ).trans hj
theorem eh.xI {w:World} (h:eh P own w0 w sb db wb dm tb tm v ps qs d s) (n:Int):eh P own w0 (w.setCell ⟨sb,30,none⟩ (.int .i64 n)) sb db wb dm tb tm v ps qs d {s with dQ:=n}:=by
 have ht:dD (fun g=>g=sb) w (w.setCell ⟨sb,30,none⟩ (.int .i64 n)):=fp (dD.refl _ _) 30 _;refine h.kT ht ?_ ⟨h.ok.nv,h.ok.nq,h.ok.qc,h.ok.dk,h.ok.rc,h.ok.ql⟩ h.lq (h.pS ht) rfl rfl rfl;have:=h.s_.eu 30 (.int .i64 n);rw[aF,qU h.nv h.lq 2]at this;exact this
theorem eh.Er {w:World} (h:eh P own w0 w sb db wb dm tb tm v ps qs d s) (n:Int):eh P own w0 (w.setCell ⟨sb,31,none⟩ (.int .i64 n)) sb db wb dm tb tm v ps qs d {s with quiet:=n}:=by
 have ht:dD (fun g=>g=sb) w (w.setCell ⟨sb,31,none⟩ (.int .i64 n)):=fp (dD.refl _ _) 31 _;refine h.kT ht ?_ ⟨h.ok.nv,h.ok.nq,h.ok.qc,h.ok.dk,h.ok.rc,h.ok.ql⟩ h.lq (h.pS ht) rfl rfl rfl;have:=h.s_.eu 31 (.int .i64 n);rw[aF,qU h.nv h.lq 3]at this;exact this
theorem Es {d:dW} {r:Rec} (h:(d.add false r).1=0):(d.add false r).2.2=false:=by
 unfold dW.add at h⊢;simp only[bK,if_false]at h⊢;split at h
 ·cases h
 rename_i h1;rw[if_neg h1];split at h
 ·cases h
 rename_i h2;rw[if_neg h2];split at h
 ·cases h
 rename_i h3;rw[if_neg h3]
def Et (P:Lib.PrintTabs) (own:Nat->Nat) (w0 w:World) (db:Nat) (r:Int×dW×Option dC) (e:Ending) (w':World):Prop:=
 ∃own1,Ext w own own1/\dD (ey own) w w' /\
  match r with
  |(_,d,some s)=>∃sb wb dm tb tm v ps qs,e=.returned (.tuple #[.pointer (some ⟨sb,0,none⟩),.nilIface])/\eh P own1 w0 w' sb db wb dm tb tm v ps qs d s
  |(n,d,none)=>∃ps,e=.returned (.tuple #[.pointer none,fx n])/\iW P own1 w0 w' db ps d
theorem xJ (w:World) (t:eA) (dE:Int) (h:iW P own w0 w db ps d) :
 Calls Tryz.prog 24 #[l6 t,.pointer (some ⟨db,0,none⟩),.int .i64 dE] w (Et P own w0 w db (dC.new t d dE)):=by
 obtain⟨r,hr⟩:∃r,r=dC.new t d dE:=⟨_,rfl⟩;obtain⟨W1,Kh⟩:∃W1,W1=w.alloc (.cells #[.int .i64 t.dF,.int .i64 t.ei,.int .i64 t.eS] 49):=⟨_,rfl⟩;obtain⟨H,hH⟩:∃H,H=w.heap.size:=⟨_,rfl⟩;(have Kd:Below w.heap.size w W1:=by rw[Kh];exact (Below.refl _ _).alloc (aq _) _);(have Kf:Has W1 H (.cells #[.int .i64 t.dF,.int .i64 t.ei,.int .i64 t.eS] 49):=by rw[Kh,hH];exact Has.new w _);have Sk:=Hd (h.below Kd);have KS:=Hd Kf;have KP:Hy (dD (ey own) w W1):=Hd (dD.fw Kd (aq _));have Ri:Hy (own H=0):=Hd (h.fr H (by omega));have y0:W1.cell? ⟨H,0,none⟩=some (.int .i64 t.dF):=Kf.cell 0;have y1:W1.cell? ⟨H,1,none⟩=some (.int .i64 t.ei):=Kf.cell 1;have y2:W1.cell? ⟨H,2,none⟩=some (.int .i64 t.eS):=Kf.cell 2;obtain⟨rt,Px⟩:∃rt,rt=dI.ku t:=⟨_,rfl⟩;have ZB:Hy (Calls Tryz.prog 53 #[.agg #[.int .i64 t.dF,.int .i64 t.ei,.int .i64 t.eS]] W1 fun e w'=>e=.returned (.bool rt)/\Below W1.heap.size W1 w'):=Hd (by rw[Px];exact D7 t W1);obtain⟨n1,NN⟩:∃n1,n1=decide (dE<0):=⟨_,rfl⟩;obtain⟨n2,OM⟩:∃n2,n2=decide (549755813888<dE):=⟨_,rfl⟩;have e1:decide (dE<0)=n1:=NN.symm;have e2:decide (549755813888<dE)=n2:=OM.symm
 have L8:Hy ((!rt||n1||n2)=true->r=(2,d,none)):=Hd fun hx=>by
  rw[hr];unfold dC.new;rw[if_pos];rw[Px,NN,OM]at hx
  cases h9:dI.ku t with
  |false=>rfl
  |true =>
   rw[h9]at hx;unfold eG dI.half;simp only[dh,Bool.false_or,bF,decide_eq_true_eq,a8,br,decide_eq_false_iff_not]at hx⊢;omega
 have LW:Hy ((!rt||n1||n2)=false->(dI.ku t=true/\0<=dE/\dE<=549755813888)):=Hd fun hx=>by
  rw[Px,NN,OM]at hx;simp only[cK,Bool.not_eq_false',decide_eq_false_iff_not]at hx;exact⟨hx.1.1,by omega,by omega⟩
 have HR:=Hd hr;rw[<- hr];unfold l6;clear hr Px NN OM h Kf Kd;(go_enter Tryz.func24,Tryz.ntmps24);(go_upto_region 1 with fail);rw[<- Kh,<- hH];clear Kh hH
 cases rt with
 |false =>
  as_aux_lemma =>
   have HE:Hy (r=(2,d,none)):=Hd (L8.o (by simp));clear L8 LW;(go_wp2_with (go_at_call 53;refine ZB.o.mono ?_;rintro e W2 ⟨rfl,Ke⟩));go_ret2;rw[HE.o];exact⟨own,Ext.refl _ _,KP.o.gn Ke (aq _),_,rfl,Sk.o.below Ke⟩
 |true =>
  cases n1 with
  |true =>
   as_aux_lemma =>
    have HE:Hy (r=(2,d,none)):=Hd (L8.o (by simp));clear L8 LW;(go_wp2_with (go_at_call 53;refine ZB.o.mono ?_;rintro e W2 ⟨rfl,Ke⟩));go_ret2;rw[HE.o];exact⟨own,Ext.refl _ _,KP.o.gn Ke (aq _),_,rfl,Sk.o.below Ke⟩
  |false =>
   cases n2 with
   |true =>
    as_aux_lemma =>
     have HE:Hy (r=(2,d,none)):=Hd (L8.o (by simp));clear L8 LW;(go_wp2_with (go_at_call 53;refine ZB.o.mono ?_;rintro e W2 ⟨rfl,Ke⟩));go_ret2;rw[HE.o];exact⟨own,Ext.refl _ _,KP.o.gn Ke (aq _),_,rfl,Sk.o.below Ke⟩
   |false =>
    obtain⟨Px,RP,hnh⟩:=LW.o rfl;have ZC:=Hd Px;clear L8 LW Px;(go_upto_region 3 with (go_at_call 53;refine ZB.o.mono ?_;rintro e W2 ⟨rfl,Ke⟩));have Pn:=Hd (Sk.o.below Ke);have KV:=Hd (KS.o.below Ke KS.o.lt);have K4:=Hd (KP.o.gn Ke (aq _));have HH2:Hy (H<W2.heap.size):=Hd KV.o.lt;have HOP:=Hd (Dr P own 2 w0.heap.size W2 db ps d.cut d.left d.dK Pn.o.hO Pn.o.hZ Pn.o.jf (by rw[Pn.o.gq];decide) (fun g hg=>Pn.o.low g ⟨by omega,by omega⟩));clear Sk KS KP ZB Ke y0 y1 y2 e1 e2;(go_upto_region 6 with (go_at_call 54;refine HOP.o.mono ?_;rintro e W3 ⟨Ua,wb,v,rfl,TT,KF,Qg,Su⟩));have Wl:=KF.size;have Tq:Hy (iW P (ki Ua W3) w0 W3 db ps d):=Hd (Pn.o.er KF (ph TT Wl) (qY _ _) (fun g _ hg=>⟨fun e=>(by rw[e,Pn.o.gq]at hg;cases hg),Pn.o.low g ⟨by omega,by omega⟩⟩));have Nb:Has W3 H (.cells #[.int .i64 t.dF,.int .i64 t.ei,.int .i64 t.eS] 49):=KF.has KV.o (fun hg=>by have:=Ri.o;omega);have L7:=Hd Nb;have LQ:Hy (dD (ey own) w W3):=Hd (K4.o.trans KF fun k _ e=>⟨by omega,by omega⟩);have Sw:Hy (Ext W2 own (ki Ua W3)):=Hd (ph TT Wl)
    have Ti:Hy (iO (ki Ua W3) 2 w0.heap.size W3 wb db v false d.dK):=Hd (by
     have hl:=Qg.w_.lt;refine⟨Qg.w_,⟨Qg.row.1,fun g hg=>by rw[nR (Qg.row.lt g hg)];exact Qg.row.2 g hg⟩,by rw[nR hl];exact Qg.ow,fun g hg=>?_,Qg.lw⟩
     exact Tq.o.low g ⟨by omega,by omega⟩)
    have y0:W3.cell? ⟨H,0,none⟩=some (.int .i64 t.dF):=Nb.cell 0;have y1:W3.cell? ⟨H,1,none⟩=some (.int .i64 t.ei):=Nb.cell 1;have y2:W3.cell? ⟨H,2,none⟩=some (.int .i64 t.eS):=Nb.cell 2;have O0:H<W3.heap.size:=Nb.lt;have UU:=@run_makeMap Tryz.prog;have RQ:Below W3.heap.size W3 (W3.alloc (.map #[] 0)).drew:=((Below.refl _ _).alloc (aq _) _).drew;have NO:=Hd RQ;clear RQ;clear TT KF Qg Nb KV Pn HOP Wl Su;go_cut [10] (fun q wx=>∃sb dm tb tm,q=.pointer (some ⟨sb,0,none⟩)/\pU W3 wx sb dm tb tm wb t dE)
    case first =>
     go_region_held3 (fun W=>W.cell? ⟨H,0,none⟩=some (.int .i64 t.dF)/\W.cell? ⟨H,1,none⟩=some (.int .i64 t.ei)/\W.cell? ⟨H,2,none⟩=some (.int .i64 t.eS)) (first|exact⟨(P3.cell (p:=⟨H,0,none⟩) (by simp;omega)).trans y0,(P3.cell (p:=⟨H,1,none⟩) (by simp;omega)).trans y1,(P3.cell (p:=⟨H,2,none⟩) (by simp;omega)).trans y2⟩|exact⟨(P3.cell (p:=⟨H,0,none⟩) (by simp;omega)).trans ((NO.o.cell (p:=⟨H,0,none⟩) O0).trans y0),(P3.cell (p:=⟨H,1,none⟩) (by simp;omega)).trans ((NO.o.cell (p:=⟨H,1,none⟩) O0).trans y1),(P3.cell (p:=⟨H,2,none⟩) (by simp;omega)).trans ((NO.o.cell (p:=⟨H,2,none⟩) O0).trans y2)⟩|go_keep) ((go_at_call 55;refine (gy.new _).mono ?_;rintro e W4 ⟨rfl,Ub,P3,Tl⟩))
     rotate_left
     ·have U5:W4.heap.size=W3.heap.size+2:=Tl;have KB:Below W3.heap.size W3 W4:=(Below.refl _ W3).drew.trans P3;have Kx:Below W4.heap.size W4 (W4.alloc (.map #[] 0)):=(Below.refl _ _).alloc (aq _) _;have Uc:(W4.alloc (.map #[] 0)).heap.size=W3.heap.size+2+1:=by simp[U5]
      have HN:Hy (pU W3 ((W4.alloc (.map #[] 0)).alloc (.cells (iP t wb (List.replicate 8 dI.j4) (List.replicate 8 (.slice none 0 0)) (W3.heap.size+2) (W3.heap.size+1) 0 0 dE (-1)).toArray 103)) (W3.heap.size+2+1) (W3.heap.size+2) (W3.heap.size+1) W3.heap.size wb t dE):=Hd (by
       have hd:=At.new kC W4;rw[U5]at hd;have hh:=Has.new (W4.alloc (.map #[] 0)) (.cells (iP t wb (List.replicate 8 dI.j4) (List.replicate 8 (.slice none 0 0)) (W3.heap.size+2) (W3.heap.size+1) 0 0 dE (-1)).toArray 103);rw[Uc]at hh
       refine⟨(KB.alloc (by omega) _).alloc (by simp;omega) _,hh,hd.alloc _,(Ub.below Kx).below ((Below.refl _ _).alloc (aq _) _),by omega,by omega⟩)
      clear P3 Ub Tl U5 KB Kx Uc UU y0 y1 y2;(go_wp2_with fail);go_meet;case rel=>exact⟨_,_,_,_,rfl,HN.o⟩
     (have U5:W4.heap.size=W3.heap.size+1+2:=by have:=Tl;simpa using this);have KB:Below (W3.alloc (.map #[] 0)).drew.heap.size (W3.alloc (.map #[] 0)).drew W4:=P3;have Uc:(W3.alloc (.map #[] 0)).drew.heap.size=W3.heap.size+1:=by show (W3.alloc (.map #[] 0)).heap.size=_;simp
     have HN:Hy (pU W3 (W4.alloc (.cells (iP t wb (List.replicate 8 dI.j4) (List.replicate 8 (.slice none 0 0)) W3.heap.size (W3.heap.size+1+1) 0 0 dE (-1)).toArray 103)) (W3.heap.size+1+2) W3.heap.size (W3.heap.size+1+1) (W3.heap.size+1) wb t dE):=Hd (by
      have hd:At kC (W3.alloc (.map #[] 0)).drew W3.heap.size []:=(At.new kC W3).er (dD.refl (fun _=>False) _).drew (fun h=>h);have hd4:=hd.er (dD.fw (S:=fun _=>False) KB (aq _)) (fun h=>h);have hh:=Has.new W4 (.cells (iP t wb (List.replicate 8 dI.j4) (List.replicate 8 (.slice none 0 0)) W3.heap.size (W3.heap.size+1+1) 0 0 dE (-1)).toArray 103);rw[U5]at hh;rw[Uc]at Ub
      refine⟨(NO.o.trans (KB.mono (by rw[Uc];omega))).alloc (by omega) _,hh,hd4.alloc _,Ub.below ((Below.refl _ _).alloc (aq _) _),by omega,by omega⟩)
     clear P3 Ub Tl U5 KB Uc UU y0 y1 y2;(go_wp2_with fail);go_meet;case rel=>exact⟨_,_,_,_,rfl,HN.o⟩
    case rest =>
     obtain⟨sb,dm,tb,tm,rfl,hn⟩:=hcut;have Wm:=Hd (hn.dR Tq.o Ti.o);have RJ:=Hd (LQ.o.gn hn.fF (aq _));have LC:=Hd (L7.o.below hn.fF O0);obtain⟨own4,how⟩:∃own4,own4=l7 (ki Ua W3) sb dm tb tm:=⟨_,rfl⟩;rw[<- how]at Wm
     have ZD:Hy (Ext w own own4):=Hd fun k hk=>by
      obtain⟨g1,g2,g3,g4⟩:=hn.ge;have h1:=LQ.o.size;rw[how,pV (by omega) (by omega) (by omega) (by omega)];have Mm:k<W2.heap.size:=ay hk K4.o.size;exact Sw.o k Mm
     have ZE:Hy (own4 H=0):=Hd (by
      obtain⟨g1,g2,g3,g4⟩:=hn.ge;rw[how,pV (by omega) (by omega) (by omega) (by omega)]
      exact (Sw.o H HH2.o).trans Ri.o)
     have HRC:=Hd (Dp wc Wm.o.dZ Tq.o.jf.len);have HPR:=Hd Tq.o.jf.right;have Tm:=Hd Tq.o.jf.len;obtain⟨Ve,ZF⟩:∃Ve:List Value,Ve=List.replicate 8 (.slice none 0 0):=⟨_,rfl⟩;rw[<- ZF]at Wm;obtain⟨s0,Tc⟩:∃s0,s0=dC.blank t dE:=⟨_,rfl⟩;rw[<- Tc]at Wm;have HSB:=Hd Tc;clear hn how ZF Tc Tq Ti LQ L7 Sw NO O0 y0 y1 y2 UU;(go_upto_region 8 with (go_at_call 56;refine HRC.o.mono ?_;rintro e W5 ⟨vr,rfl,Ud,Kx⟩;obtain⟨ra,rcp,TY⟩:=pk Ud;subst TY));have OX:=Hd Ud;have Kl:=Hd (Wm.o.below Kx);have MJ:=Hd (RJ.o.gn Kx (aq _));have L6:=Hd (LC.o.below Kx LC.o.lt);have PW:Hy (∀g,(Value.slice ra d.dK.length rcp).ownBlock=some g->own4 g=0):=Hd fun g hg=>Wm.o.fr g (jF Ud g hg);clear Ud Kx Wm RJ LC HRC;(go_loopw [44] (fun Wn wr=>∃(k:Nat) (s1:dC),k<=d.dK.length/\Wn=.int .i64 k/\eh P own4 w0 wr sb db wb dm tb tm v ps Ve d s1/\s0.gX d.dK=s1.gX (d.dK.drop k)/\dD (fun g=>g=sb\/g=dm) W5 wr/\s1.dU=false) (fun Wn _=>d.dK.length-(intOf Wn).toNat));case atStart=>exact⟨0,s0,by omega,rfl,Kl.o,by rw[List.drop_zero],dD.refl _ _,by rw[HSB.o];rfl⟩
     case round =>
      obtain⟨k,s1,hk,rfl,Ol,ZG,Le,hdn⟩:=hrel;have Lj:=Hd Ol;have HRP:=Hd ZG;have KP:=Hd Le;have NM:=Hd hdn
      have nX:¬(H=sb\/H=dm):=fun e=>by
       have h0:=ZE.o;rcases e with e|e
       ·rw[e,Ol.fJ]at h0;cases h0
       rw[e,Ol.ix]at h0;cases h0
      have Vf:=Hd (Le.has L6.o nX)
      have YX:Hy (wr.ownsRow wc.heap.size 107 6 (.slice ra d.dK.length rcp) d.dK.length (jG d.dK)):=Hd (mZ OX.o fun g hg=>Le.block g (by
       rcases OX.o.2 with⟨e,-⟩|⟨g',cap,cur,e,-,h2,-⟩
       ·rw[e]at hg;cases hg
       rw[e]at hg;cases hg;exact Has.lt (w:=W5) h2) (fun e=>by
       have h0:=PW.o g hg;rcases e with e|e
       ·rw[e,Ol.fJ]at h0;cases h0
       rw[e,Ol.ix]at h0;cases h0))
      clear Ol ZG Le hdn nX;by_cases Ks:k<d.dK.length
      ·have Rc:d.dK.length<=200:=Tm.o;have hkr:d.dK[k]?=some d.dK[k]:=ax Ks;have K9:d.dK[k]∈d.dK:=cA Ks;have Mc:d.dK.drop k=d.dK[k]::d.dK.drop (k+1):=bX Ks;generalize hx:d.dK[k]=x at hkr K9 Mc;have ZH:=Hd (HPR.o x K9);have XO:=Hd (Lj.o.ok.rc x K9);have Wo:Hy (s0.gX d.dK=s1.gX (x::d.dK.drop (k+1))):=Hd (by rw[HRP.o,Mc]);obtain⟨g5,KT,e5,g5l,MZ⟩:=Ep YX.o hkr;simp only[Value.slice.injEq]at e5;obtain⟨rfl,-,rfl⟩:=e5;obtain⟨xc,xn,xo,xv,xd,xe⟩:=x;have z0:wr.cell? ⟨g5,k*6,none⟩=some (.int .i64 xc):=MZ 0 _ rfl;have z1:wr.cell? ⟨g5,k*6+1,none⟩=some (.int .i64 xn):=MZ 1 _ rfl;have z2:wr.cell? ⟨g5,k*6+2,none⟩=some (.int .i64 xo):=MZ 2 _ rfl;have z3:wr.cell? ⟨g5,k*6+3,none⟩=some (.int .i64 xv):=MZ 3 _ rfl;have z4:wr.cell? ⟨g5,k*6+4,none⟩=some (.string ⟨xd.toArray⟩):=MZ 4 _ rfl;have z5:wr.cell? ⟨g5,k*6+5,none⟩=some (.int .i64 xe):=MZ 5 _ rfl;clear hkr K9 Mc hx MZ HRP;(go_upto_region 10 with fail);obtain⟨B,hB⟩:∃B,B=wr.heap.size:=⟨_,rfl⟩;obtain⟨W6,Oo⟩:∃W6,W6=wr.alloc (.cells #[.int .i64 xc,.int .i64 xn,.int .i64 xo,.int .i64 xv,.string ⟨xd.toArray⟩,.int .i64 xe] 107):=⟨_,rfl⟩;rw[<- Oo,<- hB];(have LG:Below wr.heap.size wr W6:=by rw[Oo];exact (Below.refl _ _).alloc (aq _) _);(have Pk:Has W6 B (.cells #[.int .i64 xc,.int .i64 xn,.int .i64 xo,.int .i64 xv,.string ⟨xd.toArray⟩,.int .i64 xe] 107):=by rw[Oo,hB];exact Has.new wr _);have Rb:=Hd Pk;have MQ:=Hd (Lj.o.below LG);have Oy:Hy (dD (fun g=>g=sb\/g=dm) W5 W6):=Hd (KP.o.gn LG (aq _));have b2:W6.cell? ⟨B,2,none⟩=some (.int .i64 xo):=Pk.cell 2;have b5:W6.cell? ⟨B,5,none⟩=some (.int .i64 xe):=Pk.cell 5;clear Oo LG Pk hB z0 z1 z2 z3 z4 z5 Lj KP YX
       cases hxo:decide (xo<0)with
       |true =>
        as_aux_lemma =>
         have Wp:Hy (s0.gX d.dK=({s1 with dQ:=max s1.dQ xe}:dC).gX (d.dK.drop (k+1))):=Hd (by
          rw[Wo.o,dC.gX,if_pos (of_decide_eq_true hxo)])
         have ZI:W6.cell? ⟨sb,30,none⟩=some (.int .i64 s1.dQ):=MQ.o.gQ 2 _ rfl;have f30:=MQ.o.s_.frozen 30;(go_upto_region 11 with fail);refine last.fS (fun W=>W.cell? ⟨sb,30,none⟩=some (.int .i64 s1.dQ)/\W.frozen? ⟨sb,30,none⟩=false/\W.cell? ⟨B,5,none⟩=some (.int .i64 xe)) 10 11 ⟨ZI,f30,b5⟩ fun HS=>?_;refine last.many [(0,51,_),(1,52,_),(2,53,_),(3,54,_),(4,55,_),(5,56,_),(6,57,_),(7,58,_)] HS.o ?_ (hy:=fun W' Kc=>by have e1:=Kc.1;have f0:=Kc.2.2;repeat (first|exact .z|refine .s ?_|refine .k ?_));refine last.gp [9,8] 8 59 (.pointer (some ⟨sb,0,none⟩)) HS.o ?_;dsimp only[List.set];refine last.many [(9,60,_)] HS.o ?_;have e30:=HS.o.1;have e31:=HS.o.2.1;refine last.one 10 fun K hK=>?_;go_simp;refine hK.out _ _ (fun h=>absurd rfl h) ?_;refine last.done ?_;(go_wp2_with fail);have Vg:=(MQ.o.below (Below.refl _ _).drew).xI (max s1.dQ xe);have Rj:dD (fun g=>g=sb\/g=dm) W5 (W6.drew.setCell ⟨sb,30,none⟩ (.int .i64 (max s1.dQ xe))):=Oy.o.drew.setCell (p:=⟨sb,30,none⟩) (.inr (.inl rfl)) _;go_roundw
         case rel =>
          exact⟨k+1,_,by omega,by go_num,Vg,Wp.o,Rj,NM.o⟩
         case measure=>simp[intOf];omega
       |false =>
        as_aux_lemma =>
         have K5:¬xo<0:=of_decide_eq_false hxo;have P7:=ZH.o;unfold Rec.right at P7;dsimp only at P7;rw[if_neg (by omega)]at P7;simp only[aK]at P7;have Wq:=iN.1 P7.1.1.1.2;obtain⟨o,rfl⟩:∃o:Nat,xo=o:=⟨xo.toNat,by omega⟩
         have Wp:Hy (s0.gX d.dK=(s1.iK ⟨xc,xn,o,xv,xd,xe⟩).1.gX (d.dK.drop (k+1))):=Hd (by
          rw[Wo.o,dC.gX,if_neg K5])
         have HAP:=Hd (xg W6 ⟨xc,xn,o,xv,xd,xe⟩ o (by omega) rfl XO.o MQ.o);have Ws:Hy ((s1.iK ⟨xc,xn,o,xv,xd,xe⟩).1.dU=false):=Hd NM.o;have Ue:Hy (Below W6.heap.size W6 W6):=Hd (Below.refl _ _);clear P7 Wq ZH Wo b5
         go_wp2_with (first
          |(refine wpList_load_row rfl 107 (.tmp 12) rfl B rfl 107 _ (0,0) _ Rb.o Tryz.underlying107 rfl (by kernel_rfl) ?_)
          |(go_at_call 57;refine HAP.o.mono ?_;rintro e W7 ⟨rfl,Vg,Rj⟩))
         have K0:dD (fun g=>g=sb\/g=dm) W5 W7:=Oy.o.trans Rj fun _ _ e=>e;go_roundw;(case rel=>exact⟨k+1,_,by omega,by go_num,Vg,Wp.o,K0,Ws.o⟩);case measure=>simp[intOf];omega
      (obtain rfl:k=d.dK.length:=by omega);have Ll:Hy (s0.gX d.dK=s1):=Hd (by rw[HRP.o,bI (aq _)];rfl)
      have hvb:0<=t.ei/\t.ei<=274877906944:=by
       have h9:=ZC.o;unfold dI.ku at h9;simp only[aK,decide_eq_true_eq]at h9;omega
      have ZI:wr.cell? ⟨sb,30,none⟩=some (.int .i64 s1.dQ):=Lj.o.gQ 2 _ rfl;have f30:=Lj.o.s_.frozen 30;obtain⟨ep,Tr⟩:∃ep,ep=wrap64 (s1.dQ+1):=⟨_,rfl⟩;have HEP:=Hd Tr
      have PO:Hy (dD (ey own) w wr):=Hd (MJ.o.trans KP.o fun k hk e=>by
       have h9:=ZD.o k hk;unfold ey;rcases e with e|e
       ·rw[<- h9,e,Lj.o.fJ];decide
       rw[<- h9,e,Lj.o.ix];decide)
      clear Tr HRP YX OX Kl MJ L6;(go_upto_region 15 with fail);rw[<- HEP.o];obtain⟨W6,Oo⟩:∃W6,W6=wr.setCell ⟨sb,30,none⟩ (.int .i64 ep):=⟨_,rfl⟩;rw[<- Oo];have MQ:Hy (eh P own4 w0 W6 sb db wb dm tb tm v ps Ve d {s1 with dQ:=ep}):=Hd (by rw[Oo];exact Lj.o.xI ep)
      have Oy:Hy (dD (ey own) w W6):=Hd (by
       rw[Oo];refine PO.o.setCell (p:=⟨sb,30,none⟩) ?_ _;rcases aW sb w.heap.size with h9|h9
       ·right;have h8:=ZD.o sb h9;unfold ey;rw[<- h8,Lj.o.fJ];decide
       exact .inl h9)
      have ZJ:Hy (Has W6 H (.cells #[.int .i64 t.dF,.int .i64 t.ei,.int .i64 t.eS] 49)):=Hd (by
       rw[Oo]
       exact Vf.o.far (p:=⟨sb,30,none⟩) (fun e=>by have h9:=ZE.o;rw[show H=sb from e,Lj.o.fJ]at h9;cases h9) _)
      clear Oo Lj PO Vf ZI f30 KP;have ZI:W6.cell? ⟨sb,30,none⟩=some (.int .i64 ep):=MQ.o.gQ 2 _ rfl;have c31:W6.cell? ⟨sb,31,none⟩=some (.int .i64 s1.quiet):=MQ.o.gQ 3 _ rfl;have f31:=MQ.o.s_.frozen 31;have y1:W6.cell? ⟨H,1,none⟩=some (.int .i64 t.ei):=ZJ.o.cell 1;obtain⟨pb,V4⟩:∃pb,pb=decide (1<ep):=⟨_,rfl⟩;have epb:decide (1<ep)=pb:=V4.symm
      obtain⟨s3,NJ⟩:∃s3:dC,s3=(if pb then { ({s1 with dQ:=ep}:dC)with quiet:=dE+t.ei} else {s1 with dQ:=ep}):=⟨_,rfl⟩
      have Lp:=Hd NJ;have Zg:=Hd V4;clear V4 NJ;(go_upto_if 76 with fail);go_cut [77] (fun _ wx=>eh P own4 w0 wx sb db wb dm tb tm v ps Ve d s3/\dD (ey own) w wx)
      case first =>
       cases pb with
       |false =>
        have HE:Hy (s3={s1 with dQ:=ep}):=Hd Lp.o;(go_wp2_with fail);go_meet;case rel=>rw[HE.o];exact⟨MQ.o,Oy.o⟩
       |true =>
        have HE:Hy (s3={ ({s1 with dQ:=ep}:dC)with quiet:=dE+t.ei}):=Hd Lp.o;have HSQ:=Hd (MQ.o.Er (dE+t.ei))
        have HTQ:Hy (dD (ey own) w (W6.setCell ⟨sb,31,none⟩ (.int .i64 (dE+t.ei)))):=Hd (by
         refine Oy.o.setCell (p:=⟨sb,31,none⟩) ?_ _;rcases aW sb w.heap.size with h9|h9
         ·right;have h8:=ZD.o sb h9;unfold ey;rw[<- h8,MQ.o.fJ];decide
         exact .inl h9)
        (go_wp2_with fail);go_meet;case rel=>rw[HE.o];exact⟨HSQ.o,HTQ.o⟩
      case rest =>
       obtain⟨Vg,Rj⟩:=hcut;(have h3e:s3.dQ=ep:=by rw[Lp.o];split<;>rfl);(have h3d:s3.dU=false:=by rw[Lp.o];split<;>exact NM.o);obtain⟨p,hp⟩:∃p,p=d.add false ⟨0,0,-1,0,[],ep⟩:=⟨_,rfl⟩;obtain⟨pe,d2,dn⟩:=p;obtain⟨ev,Lw⟩:∃ev,ev=fx pe:=⟨_,rfl⟩;have Ny:=Hd Vg;have MF:=Hd Rj;have c30':wc.cell? ⟨sb,30,none⟩=some (.int .i64 ep):=by rw[<- h3e];exact Vg.gQ 2 _ rfl
       have Ov:Hy (Calls Tryz.prog 58 #[.pointer (some ⟨wb,0,none⟩),.agg #[.int .i64 0,.int .i64 0,.int .i64 (-1),.int .i64 0,.string ⟨#[]⟩,.int .i64 ep],.int .i64 (-1)] wc fun e w'=>e=.returned ev/\∃own2 v2 QN,Ext wc own4 own2/\dD (fun g=>g=wb\/g=db\/own4 g=2) wc w'/\eh P own2 w0 w' sb db wb dm tb tm v2 QN Ve d2 {s3 with dU:=dn}):=Hd (by
        have key:=xu wc ⟨0,0,-1,0,[],ep⟩ (-1) (by show (0:Nat)<=20;decide) (by show (0:Int)<=0/\(0:Int)<4;decide) Vg h3d;unfold qZ at key;rw[h3d,<- hp,<- Lw]at key
        exact key)
       have OH:Hy (r=if pe=0 then (0,d2,some s3) else (pe,d2,none)):=Hd (by
        rw[HR.o];unfold dC.new
        have h9:¬(!dI.ku t||!eG dE 0 dI.half)=true:=by
         rw[ZC.o];have:eG dE 0 dI.half=true:=iN.2 ⟨RP,hnh⟩;rw[this];decide
        rw[if_neg h9];dsimp only;(have VC:(dC.blank t dE).gX d.dK=s1:=by rw[<- HSB.o];exact Ll.o);rw[VC,<- HEP.o]
        have h11:(if 1<ep then { ({s1 with dQ:=ep}:dC)with quiet:=dE+t.ei} else ({s1 with dQ:=ep}:dC))=s3:=by
         rw[Lp.o];by_cases Yl:1<ep
         ·(have:pb=true:=by rw[Zg.o];exact decide_eq_true Yl);rw[if_pos Yl,this];rfl
         (have:pb=false:=by rw[Zg.o];exact decide_eq_false Yl);rw[if_neg Yl,this];rfl
        have h13:({s1 with dQ:=ep}:dC).dQ=ep:=rfl
        show (let s:=(if 1<ep then { ({s1 with dQ:=ep}:dC)with quiet:=dE+t.ei} else ({s1 with dQ:=ep}:dC));let p:=d.add false ⟨0,0,-1,0,[],s.dQ⟩;if p.1=0 then (0,p.2.1,some s) else (p.1,p.2.1,none))=_
        rw[h11];dsimp only
        rw[h3e,<- hp])
       have Ws:Hy (pe=0->{s3 with dU:=dn}=s3):=Hd fun h=>by
        have Tp:=Es (d:=d) (r:=⟨0,0,-1,0,[],ep⟩) (by rw[<- hp];exact h);rw[<- hp]at Tp;dsimp only at Tp;rw[Tp,<- h3d]
       have QQ:=Hd Lw;clear Vg Rj h3e h3d hp Lw MQ Oy ZJ ZI c31 f31 y1 epb;(go_upto_region 18 with (go_at_call 58;refine Ov.o.mono ?_;rintro e W9 ⟨rfl,Ox,v9,We,he9,MC,Pt⟩));have Ts:=Hd Pt;have HE9:Hy (Ext w own Ox):=Hd fun k hk=>(he9 k (ay hk MF.o.size)).trans (ZD.o k hk)
       have PR:Hy (dD (ey own) w W9):=Hd (MF.o.trans MC fun k hk e=>by
        have h8:=Ny.o.xw k (ay hk MF.o.size) e;unfold ey at h8⊢
        rwa [ZD.o k hk]at h8)
       clear Pt he9 MC Ov Ny;by_cases RO:pe=0
       ·(have hv:ev=.nilIface:=by rw[QQ.o,RO];rfl);subst hv;have HE:Hy (r=(0,d2,some s3)):=Hd (by rw[OH.o,if_pos RO]);have Sx:Hy (eh P Ox w0 W9 sb db wb dm tb tm v9 We Ve d2 s3):=Hd (by rw[<- Ws.o RO];exact Ts.o);clear RO QQ;(go_wp2_with fail);go_ret2;rw[HE.o];exact⟨Ox,HE9.o,PR.o,sb,wb,dm,tb,tm,v9,We,Ve,rfl,Sx.o⟩
       (have hv:ev=.iface 52 (.int .i64 pe):=by rw[QQ.o,iE RO]);subst hv;have HE:Hy (r=(pe,d2,none)):=Hd (by rw[OH.o,if_neg RO]);have HP0:=Hd RO;clear RO QQ;(go_wp2_with fail);go_ret2;rw[HE.o];exact⟨Ox,HE9.o,PR.o,We,by rw[iE HP0.o];rfl,Ts.o.eM⟩
end
end dR
namespace eZ
open Go.RowKit heap own eO fq eK dR cache
open dI (dJ gd fE eA ga ez put del)
section
variable {own own1:Nat->Nat} {T:Nat} {w wr w' w1:World} {cb fm sm:Nat} {cv:Value} {c c':dJ} {q q':Value} {out:List dH}
def iZ (own:Nat->Nat) (T:Nat) (w:World) (cb:Nat) (c':dJ) (l:List dH) (mk:Value->Value) (e:Ending) (w':World):Prop:=
 ∃own1 WR ZR jZ u,e=.returned (mk u)/\Ext w own own1/\(∀g,w'.heap.size<=g->own1 g=0)/\eB own1 T w' cb ZR jZ WR c'/\eE w.heap.size w' u l/\dD (fC own T) w w'
theorem CM.post {u:Value} {mk:Value->Value} (h:CM own T w w' cb fm sm cv c u out):iZ own T w cb c out mk (.returned (mk u)) w':=
 ⟨own,cv,fm,sm,u,rfl,Ext.refl _ _,fun g hg=>h.fr g (az h.er.size hg),h.eZ,h.msgs,h.er.mono fun k hk e=>by
  subst e;unfold fC;rw[h.eZ.gI]
  omega⟩
theorem iZ.ahead {l:List dH} {mk:Value->Value} {e:Ending} (he:Ext w own own1) (ht:dD (fC own T) w w1) (h:iZ own1 T w1 cb c' l mk e w'):iZ own T w cb c' l mk e w':=by
 obtain⟨own2,WR,ZR,jZ,u,h1,h2,h3,h4,h5,h6⟩:=h;exact⟨own2,WR,ZR,jZ,u,h1,fun k hk=>(h2 k (ay hk ht.size)).trans (he k hk),h3,h4,h5.base ht.size,ht.trans h6 fun k hk e=>by unfold fC at e⊢;rwa [he k hk]at e⟩
theorem eB.ry {l:List gd} (h:eB own T w cb fm sm cv c) (hp:jg own (T+1) cb 9 (jU c cv fm sm) 120 (l.map fY) w w') (hl:l.length<=6) :
 ∃own2 ZS,Ext w own own2/\(∀g,w'.heap.size<=g->own2 g=0)/\eB own2 T w' cb fm sm ZS {c with cache:=l}/\dD (fC own T) w w':=by
 obtain⟨Mp,v',he,ht,hb,hi⟩:=hp;have hx:=ph he ht.size
 have ne:∀g k,own g=T+k->1<k->¬(g=cb\/own g=T+1):=fun g k hk h4 e=>by
  rcases e with e|e
  ·rw[e,h.gI]at hk;omega
  omega
 have l1:=h.c_.lt;have l2:=h.fG.lt;have l3:=h.seen.lt;refine⟨ki Mp w',v',hx,qY _ _,⟨hb,(hx _ l1).trans h.gI,⟨hi.1,fun g hg=>by rw[nR (hi.lt g hg)];exact hi.2 g hg⟩,hl,h.fG.er ht (ne _ 2 h.kV (by decide)),(hx _ l2).trans h.kV,h.seen.er ht (ne _ 3 h.kj (by decide)),(hx _ l3).trans h.kj,h.fk,h.sk⟩,ht.mono fun k _ e=>?_⟩;unfold fC;rcases e with e|e
 ·rw[e,h.gI];omega
 omega
theorem xV (l:List gd) (o:Int):(l.map fY).find? (fun x=>decide (x.obj=o))=(l.find? fun x=>decide (x.dF=o)).map fY:=by
 rw[List.find?_map];rfl
theorem rz (l:List gd) (o:Int):jK (l.map fY) o=(dI.Cache.drop l o).map fY:=by
 unfold jK dI.Cache.drop
 induction l with
 |nil=>rfl
 |cons x l ih =>
  rw[bf,List.eraseP_cons,List.eraseP_cons];have e:decide ((fY x).obj=o)=decide (x.dF=o):=rfl;rw[e]
  cases decide (x.dF=o)with
  |true=>rfl
  |false =>
   show fY x::_=(x::_).map fY;rw[bf];exact congrArg _ ih
theorem xW (l:List gd) (o:Int):(dI.Cache.drop l o).length<=l.length:=by
 unfold dI.Cache.drop;exact (List.eraseP_sublist).length_le
theorem EP (l:List gd) (o:Int):(∃(k:Nat) (x:gd),(l.map fY)[k]?=some (fY x)/\findAt (l.map fY) o=k/\dI.Cache.get l o=(some x,dI.Cache.drop l o++[x])/\(l.map fY).eraseIdx k++[fY x]=(dI.Cache.drop l o++[x]).map fY/\(dI.Cache.drop l o++[x]).length=l.length)\/(findAt (l.map fY) o = -1/\dI.Cache.get l o=(none,l)):=by
 rcases xN (l.map fY) o with⟨k,y,h1,h2,h3,h4,h5,h6⟩|⟨h1,h2,h3⟩
 ·left;rw[xV]at h6
  cases hf:l.find? (fun x=>decide (x.dF=o))with
  |none=>rw[hf]at h6;cases h6
  |some x =>
   rw[hf]at h6;(obtain rfl:fY x=y:=by simpa using h6);refine⟨k,x,h1,h3,?_,?_,?_⟩
   ·unfold dI.Cache.get;rw[hf]
   ·rw[<- h5,rz,bN];rfl
   (have h7:((l.map fY).eraseIdx k).length=l.length-1:=by rw[bU h4,aS]);rw[<- h5,rz,aS]at h7;rw[aA,h7,aQ];rw[aS]at h4;omega
 right;refine⟨h1,?_⟩;rw[xV]at h3;unfold dI.Cache.get
 cases hf:l.find? (fun x=>decide (x.dF=o))with
 |none=>rfl
 |some x=>rw[hf]at h3;cases h3
theorem ER (o:Int) (h:eB own T w cb fm sm cv c) (hf:∀g,w.heap.size<=g->own g=0) (hT:0<T) :
 Calls Tryz.prog 123 #[.pointer (some ⟨cb,0,none⟩),.int .i64 o] w (iZ own T w cb (c.read o).2.2 (c.read o).2.1 fun u=>.tuple #[u,fx (c.read o).1]):=by
 obtain⟨r,hr⟩:∃r,r=c.read o:=⟨_,rfl⟩;rw[<- hr];have Qt:=Hd (CM.start h hf hT);have MV:=Hd (pn w h);obtain⟨b0,Ls⟩:∃b0,b0=c.fX:=⟨_,rfl⟩;obtain⟨a1,Vm⟩:∃a1,a1=decide (o<0):=⟨_,rfl⟩;obtain⟨a2,Uh⟩:∃a2,a2=decide (8<=o):=⟨_,rfl⟩;rw[<- Ls]at MV
 have HR:Hy (r=if b0 then ((6:Int),([]:List dH),c) else if a1||a2 then (2,[],c) else match c.cache.get o with
  |(some x,k)=>if decide (c.dE<x.fO)&&c.iJ&&decide (c.mX o<=x.value.dY) then (0,[],({c with cache:=k,call:=⟨1,o,x.value,true,true⟩}:dJ)) else (0,dJ.ask ({kW c 1 o []with cache:=k}:dJ))
  |(none,_)=>(0,(kW c 1 o []).ask)):=Hd (by
  have e1:(!dI.eT o)=(a1||a2):=by
   rw[Vm,Uh];unfold dI.eT dI.eG;rw[bE];simp only[a8,br,decide_eq_false_iff_not,bF,decide_eq_true_eq];omega
  rw[hr,Ls];unfold dJ.read;rw[e1];split
  ·rfl
  split
  ·rfl
  cases c.cache.get o with
  |mk a k=>cases a with
   |none=>rfl
   |some x=>rfl)
 have e1:decide (o<0)=a1:=Vm.symm;have e2:decide (8<=o)=a2:=Uh.symm
 have P6:Hy ((a1||a2)=false->0<=o/\o<8):=Hd fun h9=>by
  rw[Vm,Uh]at h9;simp only[cK,decide_eq_false_iff_not]at h9;omega
 clear hr Ls Vm Uh
 cases b0 with
 |true =>
  as_aux_lemma =>
   have HE:Hy (r=(6,[],c)):=Hd HR.o;clear h;(go_enter Tryz.func123,Tryz.ntmps123);(go_wp2_with (go_at_call 152;refine MV.o.mono ?_;rintro e w' ⟨rfl,rfl⟩));go_ret2;rw[HE.o];exact Qt.o.post (mk:=fun u=>.tuple #[u,fx 6])
 |false =>
  cases a1 with
  |true =>
   as_aux_lemma =>
    have HE:Hy (r=(2,[],c)):=Hd HR.o;clear h;(go_enter Tryz.func123,Tryz.ntmps123);(go_wp2_with (go_at_call 152;refine MV.o.mono ?_;rintro e w' ⟨rfl,rfl⟩));go_ret2;rw[HE.o];exact Qt.o.post (mk:=fun u=>.tuple #[u,fx 2])
  |false =>
   cases a2 with
   |true =>
    as_aux_lemma =>
     have HE:Hy (r=(2,[],c)):=Hd HR.o;clear h;(go_enter Tryz.func123,Tryz.ntmps123);(go_wp2_with (go_at_call 152;refine MV.o.mono ?_;rintro e w' ⟨rfl,rfl⟩));go_ret2;rw[HE.o];exact Qt.o.post (mk:=fun u=>.tuple #[u,fx 2])
   |false =>
    obtain⟨ho0,M5⟩:=P6.o rfl;have c12:w.cell? ⟨cb,12,none⟩=some (.int .i64 c.call.dT):=h.c_.cell 12;have Vj:w.cell? ⟨cb,13,none⟩=some (.int .i64 c.call.dF):=h.c_.cell 13;have Tu:w.cell? ⟨cb,14,none⟩=some (.string ⟨c.call.value.data.toArray⟩):=h.c_.cell 14;have Vk:w.cell? ⟨cb,15,none⟩=some (.int .i64 c.call.value.dY):=h.c_.cell 15;have Vl:w.cell? ⟨cb,16,none⟩=some (.bool c.call.over):=h.c_.cell 16;have XY:w.cell? ⟨cb,17,none⟩=some (.bool c.call.hit):=h.c_.cell 17;have f12:=h.c_.frozen 12;have f13:=h.c_.frozen 13;have f14:=h.c_.frozen 14;have f15:=h.c_.frozen 15;have f16:=h.c_.frozen 16;have f17:=h.c_.frozen 17;have WQ:=Hd (h.kW 1 o []);have OD:Hy (gi o):=Hd (WalkArith.wf_i64 (by omega));clear h P6;(go_enter Tryz.func123,Tryz.ntmps123);(go_upto_region 6 with (go_at_call 152;refine MV.o.mono ?_;rintro e w' ⟨rfl,rfl⟩));obtain⟨W1,Kh⟩:∃W1,W1=((((((w.setCell ⟨cb,12,none⟩ (.int .i64 1)).setCell ⟨cb,13,none⟩ (.int .i64 o)).setCell ⟨cb,14,none⟩ (.string ⟨#[]⟩)).setCell ⟨cb,15,none⟩ (.int .i64 0)).setCell ⟨cb,16,none⟩ (.bool false)).setCell ⟨cb,17,none⟩ (.bool false)):=⟨_,rfl⟩;have WS:Hy (eB own T W1 cb fm sm cv (kW c 1 o [])/\dD (fun g=>g=cb) w W1):=Hd (by rw[Kh];exact WQ.o);rw[<- Kh];have Kw:=Hd (Qt.o.step WS.o.2 WS.o.1);clear Kh WQ WS c12 Vj Tu Vk Vl XY f12 f13 f14 f15 f16 f17 Qt MV e1 e2;have Y2:c.cache.length<=6:=Kw.o.eZ.ft;(have ZT:own cb≠T+1:=by rw[Kw.o.eZ.gI];omega);have Q8:Hy (w.heap.size<=W1.heap.size):=Hd Kw.o.er.size;rcases EP c.cache o with⟨k,x,hk,ZU,Pz,hl,Lm⟩|⟨ZU,Pz⟩
    ·obtain⟨xo,⟨xd,xv⟩,xt⟩:=x;have WT:=Hd (EG own (T+1) cb 9 (jU (kW c 1 o []) cv fm sm) 120 cv (c.cache.map fY) o k (fY ⟨xo,⟨xd,xv⟩,xt⟩) W1 Kw.o.eZ.c_ rfl ZT Kw.o.eZ.items (by rw[aS];exact Y2) hk ZU);obtain⟨l2,Mn⟩:∃l2:List gd,l2=dI.Cache.drop c.cache o++[⟨xo,⟨xd,xv⟩,xt⟩]:=⟨_,rfl⟩;have QI:Hy (c.cache.get o=(some ⟨xo,⟨xd,xv⟩,xt⟩,l2)):=Hd (by rw[Pz,Mn]);have HL2:Hy ((c.cache.map fY).eraseIdx k++[fY ⟨xo,⟨xd,xv⟩,xt⟩]=l2.map fY/\l2.length<=6):=Hd ⟨by rw[hl,Mn],by rw[Mn,Lm];exact Y2⟩;clear hk ZU Pz hl Lm Y2 Mn;unfold fY at WT;dsimp only at WT;go_upto_region 7 with (go_at_call 169;refine WT.o.mono ?_;rintro e W2 ⟨rfl,RU⟩)
     obtain⟨LB,PX,hex,RV,Nc,QM⟩:=Kw.o.eZ.ry (l:=l2) (by
      have h9:=HL2.o.1;unfold fY at h9;dsimp only at h9;rw[h9]at RU
      exact RU) HL2.o.2
     obtain⟨VB,SF⟩:∃VB,VB=W2.heap.size:=⟨_,rfl⟩;obtain⟨WG,Ui⟩:∃WG,WG=W2.alloc (.cells #[.string ⟨xd.toArray⟩,.int .i64 xv] 98):=⟨_,rfl⟩;rw[<- Ui,<- SF];(have RN:Below W2.heap.size W2 WG:=by rw[Ui];exact (Below.refl _ _).alloc (aq _) _);obtain⟨c2,KL⟩:∃c2:dJ,c2={kW c 1 o []with cache:=l2}:=⟨_,rfl⟩;rw[<- KL]at Nc;have M6:=Hd (Nc.below RN);have P9:Hy (Has WG VB (.cells #[.string ⟨xd.toArray⟩,.int .i64 xv] 98)):=Hd (by rw[Ui,SF];exact Has.new W2 _);have Pm:Hy (Ext w own LB):=Hd fun g hg=>hex g (ay hg Q8.o);have Md:Hy (∀g,WG.heap.size<=g->LB g=0):=Hd fun g hg=>RV g (az RN.size hg);have Rq:Hy (dD (fC own T) w WG):=Hd (((Kw.o.er.mono fun g hg e=>by subst e;unfold fC;rw[Kw.o.eZ.gI];omega).trans QM fun _ _ e=>e).gn RN (aq _));have HVL:Hy (WG.heap.size<=WG.heap.size):=Hd (aq _);obtain⟨b1,Kd⟩:∃b1,b1=decide (c2.dE<xt):=⟨_,rfl⟩;obtain⟨b2,Ke⟩:∃b2,b2=c2.iJ:=⟨_,rfl⟩;obtain⟨sv,KK⟩:∃sv,sv=c2.mX o:=⟨_,rfl⟩;obtain⟨b3,Kk⟩:∃b3,b3=decide (sv<=xv):=⟨_,rfl⟩;have Te:Hy (Calls Tryz.prog 170 #[.pointer (some ⟨cb,0,none⟩)] WG.drew fun e w'=>e=.returned (.bool b2)/\∃n,w'=WG.drew.drewN n):=Hd (by rw[Ke];exact EH WG.drew M6.o.drew);have Uj:Hy (Value.int .i64 sv=iY.ev ((ez o c2.seen).getD iY.z)):=Hd (by rw[KK];rfl)
     have ZV:Hy (r=if (b1&&b2&&b3) then (0,[],({c2 with call:=⟨1,o,⟨xd,xv⟩,true,true⟩}:dJ)) else (0,c2.ask)):=Hd (by
      rw[HR.o,QI.o,Kd,Ke,Kk,KK,KL]
      rfl)
     have eb1:decide (c2.dE<xt)=b1:=Kd.symm;have eb3:decide (sv<=xv)=b3:=Kk.symm;have Nn:=Hd KL;clear Ui SF RN Nc hex RV QM RU Kd Ke Kk KK HR QI HL2 WT Kw KL HVL;go_cut [59] (fun t wx=>t=.bool (b1&&b2&&b3)/\∃nl,wx=WG.drewN nl)
     case first =>
      cases b1 with
      |false =>
       refine last.fS (fun W=>eB LB T W cb fm sm PX c2/\Has W VB (.cells #[.string ⟨xd.toArray⟩,.int .i64 xv] 98)) 1000 25 ⟨M6.o.drew,P9.o.drew⟩ fun HS=>?_;refine last.many [(0,35,_),(1,36,_),(2,37,_),(3,38,_),(4,39,_),(5,40,_),(6,41,_),(7,42,_),(8,43,_),(9,44,_),(10,45,_),(11,46,undef),(12,47,undef),(13,48,_),(14,49,_),(15,50,undef),(16,51,undef),(17,52,undef),(18,53,undef),(19,54,undef),(20,55,undef),(21,56,undef),(22,57,undef),(23,58,undef),(24,59,_)] HS.o ?_ (hy:=fun W' Kc=>by have e1:W'.cell? ⟨cb,7,none⟩=some (.int .i64 c2.dE):=Kc.1.c_.cell 7;have e9:=eb1;repeat (first|exact .z|refine .s ?_|refine .k ?_));refine last.done ?_;(go_wp2_with fail);go_meet;case rel=>exact⟨rfl,1,rfl⟩
      |true =>
       cases b2 with
       |false =>
        refine last.fS (fun W=>eB LB T W cb fm sm PX c2/\Has W VB (.cells #[.string ⟨xd.toArray⟩,.int .i64 xv] 98)) 1000 25 ⟨M6.o.drew,P9.o.drew⟩ fun HS=>?_;refine last.many [(0,35,_),(1,36,_),(2,37,_),(3,38,_),(4,39,_),(5,40,_),(6,41,_),(7,42,_),(8,43,_),(9,44,_),(10,45,_),(11,46,_)] HS.o ?_ (hy:=fun W' Kc=>by have e1:W'.cell? ⟨cb,7,none⟩=some (.int .i64 c2.dE):=Kc.1.c_.cell 7;have e9:=eb1;repeat (first|exact .z|refine .s ?_|refine .k ?_));refine last.one 12 fun K hK=>?_;go_simp;refine Te.o.mono ?_;rintro e WL ⟨rfl,nl,rfl⟩;have Kq:Hy ((fun W=>eB LB T W cb fm sm PX c2/\Has W VB (.cells #[.string ⟨xd.toArray⟩,.int .i64 xv] 98)) (WG.drew.drewN nl)):=Hd ⟨HS.o.1.drewN nl,HS.o.2.drewN nl⟩;refine hK.out _ _ (fun _=>Kq.o) ?_;clear hK K;refine last.many [(13,48,_),(14,49,_),(15,50,undef),(16,51,undef),(17,52,undef),(18,53,undef),(19,54,undef),(20,55,undef),(21,56,undef),(22,57,undef),(23,58,undef),(24,59,_)] Kq.o ?_;refine last.done ?_;(go_wp2_with fail);go_meet;case rel=>exact⟨rfl,1+nl,rfl⟩
       |true =>
        refine last.fS (fun W=>eB LB T W cb fm sm PX c2/\Has W VB (.cells #[.string ⟨xd.toArray⟩,.int .i64 xv] 98)) 1000 25 ⟨M6.o.drew,P9.o.drew⟩ fun HS=>?_;refine last.many [(0,35,_),(1,36,_),(2,37,_),(3,38,_),(4,39,_),(5,40,_),(6,41,_),(7,42,_),(8,43,_),(9,44,_),(10,45,_),(11,46,_)] HS.o ?_ (hy:=fun W' Kc=>by have e1:W'.cell? ⟨cb,7,none⟩=some (.int .i64 c2.dE):=Kc.1.c_.cell 7;have e9:=eb1;repeat (first|exact .z|refine .s ?_|refine .k ?_));refine last.one 12 fun K hK=>?_;go_simp;refine Te.o.mono ?_;rintro e WL ⟨rfl,nl,rfl⟩;have Kq:Hy ((fun W=>eB LB T W cb fm sm PX c2/\Has W VB (.cells #[.string ⟨xd.toArray⟩,.int .i64 xv] 98)) (WG.drew.drewN nl)):=Hd ⟨HS.o.1.drewN nl,HS.o.2.drewN nl⟩;refine hK.out _ _ (fun _=>Kq.o) ?_;clear hK K;refine last.many [(13,48,_),(14,49,_),(15,50,_),(16,51,_),(17,52,_),(18,53,_),(19,54,_),(20,55,_),(21,56,_)] Kq.o ?_ (hy:=fun W' Kc=>by have e1:W'.cell? ⟨VB,1,none⟩=some (.int .i64 xv):=Kc.2.cell 1;have f0:W'.cell? ⟨cb,11,none⟩=some (.map (some sm)):=Kc.1.c_.cell 11;repeat (first|exact .z|refine .s ?_|refine .k ?_));refine last.nL 22 57 (.int .i64 sv) rfl rfl (by kernel_rfl) (by kernel_rfl) (by kernel_rfl) (by kernel_rfl) (fun _ _ _ h=>h) Kq.o (by rfl) (fun W' Kc=>by (rw[Uj.o];exact pL iY (.tmp 55) (.tmp 56) rfl rfl Kc.1.seen OD.o rfl)) ?_;dsimp only[List.set];refine last.many [(23,58,_),(24,59,_)] Kq.o ?_ (hy:=fun W' Kc=>by have e9:=eb3;repeat (first|exact .z|refine .s ?_|refine .k ?_));refine last.done ?_;(go_wp2_with fail);go_meet;case rel=>exact⟨by cases b3<;>rfl,1+nl,rfl⟩
     case rest =>
      obtain⟨Uk,nl,Lv⟩:=hcut;obtain⟨hit,ZW⟩:∃hit,hit=(b1&&b2&&b3):=⟨_,rfl⟩;rw[<- ZW]at Uk ZV;subst Uk;have SG:Hy (eB LB T wc cb fm sm PX c2):=Hd (by rw[Lv];exact M6.o.drewN nl);have ZX:Hy (Has wc VB (.cells #[.string ⟨xd.toArray⟩,.int .i64 xv] 98)):=Hd (by rw[Lv];exact P9.o.drewN nl);have SH:Hy (∀g,wc.heap.size<=g->LB g=0):=Hd (by rw[Lv];exact Md.o);have SI:Hy (dD (fC own T) w wc):=Hd (by rw[Lv];exact Rq.o.drewN nl);clear Lv M6 P9 Md Rq ZW eb1 eb3 Te Uj;have M6:=SG;have Md:=SH;have Rq:=SI;clear SG SH SI
      cases hit with
      |true =>
       have HE:Hy (r=(0,[],({c2 with call:=⟨1,o,⟨xd,xv⟩,true,true⟩}:dJ))):=Hd ZV.o;have x0:wc.cell? ⟨VB,0,none⟩=some (.string ⟨xd.toArray⟩):=ZX.o.cell 0;have x1:wc.cell? ⟨VB,1,none⟩=some (.int .i64 xv):=ZX.o.cell 1;have Tu:wc.cell? ⟨cb,14,none⟩=some (.string ⟨c2.call.value.data.toArray⟩):=M6.o.c_.cell 14;have Vk:wc.cell? ⟨cb,15,none⟩=some (.int .i64 c2.call.value.dY):=M6.o.c_.cell 15;have Vl:wc.cell? ⟨cb,16,none⟩=some (.bool c2.call.over):=M6.o.c_.cell 16;have XY:wc.cell? ⟨cb,17,none⟩=some (.bool c2.call.hit):=M6.o.c_.cell 17;have f14:=M6.o.c_.frozen 14;have f15:=M6.o.c_.frozen 15;have f16:=M6.o.c_.frozen 16;have f17:=M6.o.c_.frozen 17;clear ZV;(go_upto_region 9 with fail);obtain⟨W8,LD⟩:∃W8,W8=(((wc.setCell ⟨cb,14,none⟩ (.string ⟨xd.toArray⟩)).setCell ⟨cb,15,none⟩ (.int .i64 xv)).setCell ⟨cb,16,none⟩ (.bool true)).setCell ⟨cb,17,none⟩ (.bool true):=⟨_,rfl⟩;have K0:dD (fun g=>g=cb) wc W8:=by rw[LD];exact dZ.fp (dZ.fp (dZ.fp (dZ.fp (dD.refl _ _) _ _) _ _) _ _) _ _
       have Ul:Hy (eB LB T W8 cb fm sm PX {c2 with call:=⟨1,o,⟨xd,xv⟩,true,true⟩}):=Hd (by
        refine M6.o.kT K0 ?_ rfl rfl rfl;rw[LD];have h9:=(((M6.o.c_.eu 14 (.string ⟨xd.toArray⟩)).eu 15 (.int .i64 xv)).eu 16 (.bool true)).eu 17 (.bool true);rw[Nn.o]at h9⊢
        exact h9)
       have ME:Hy (dD (fC own T) w W8):=Hd (Rq.o.trans K0 fun k hk e=>by
        have h9:=Pm.o k hk;unfold fC;rw[<- h9,e,M6.o.gI]
        omega)
       have Tv:Hy (∀g,W8.heap.size<=g->LB g=0):=Hd fun g hg=>Md.o g (az K0.size hg);rw[<- LD];clear LD K0 x0 x1 Tu Vk Vl XY f14 f15 f16 f17;(go_wp2_with fail);go_ret2;rw[HE.o];exact⟨LB,PX,fm,sm,.slice none 0 0,rfl,Pm.o,Tv.o,Ul.o,eE.nil _ _,ME.o⟩
      |false =>
       have HE:Hy (r=(0,c2.ask)):=Hd ZV.o;clear ZV;(go_upto_region 10 with fail);have Kw:=Hd (CM.start M6.o Md.o hT);obtain⟨n,hn⟩:∃n,n=wrap64 (c2.dN+1):=⟨_,rfl⟩;have N4:=Hd (rr wc.drew Kw.o.eZ.drew);rw[<- hn]at N4;have Py:Hy (c2.ask=dJ.eV {c2 with dN:=n,fc:=n,fL:=c2.dE}):=Hd (by unfold dJ.ask;rw[<- hn]);have c7:wc.cell? ⟨cb,7,none⟩=some (.int .i64 c2.dE):=Kw.o.eZ.c_.cell 7;clear hn;(go_region_held3 (fun W=>W.cell? ⟨cb,7,none⟩=some (.int .i64 c2.dE)) (first|exact KL.c_.cell 7|exact (KL.c_.eu 18 _).cell 7|exact ((KL.c_.eu 18 _).eu 19 _).cell 7|go_keep) ((go_at_call 150;refine N4.o.mono ?_;rintro e W2 ⟨rfl,KL,Kr,KY⟩;have c20:W2.cell? ⟨cb,18,none⟩=some (.int .i64 c2.fc):=KL.c_.cell 18;have c21:W2.cell? ⟨cb,19,none⟩=some (.int .i64 c2.fL):=KL.c_.cell 19;have f20:=KL.c_.frozen 18;have f21:=KL.c_.frozen 19)));obtain⟨W3,Kz⟩:∃W3,W3=((W2.setCell ⟨cb,18,none⟩ (.int .i64 n)).setCell ⟨cb,19,none⟩ (.int .i64 c2.dE)):=⟨_,rfl⟩
       have Mh:eB LB T W3 cb fm sm PX {c2 with dN:=n,fc:=n,fL:=c2.dE}:=by
        rw[Kz];exact ((KL.l8 {c2 with dN:=n,fc:=n} 18 (.int .i64 n) rfl rfl rfl rfl).l8 {c2 with dN:=n,fc:=n,fL:=c2.dE} 19 (.int .i64 c2.dE) rfl rfl rfl rfl)
       (have KF:dD (fun g=>g=cb) W2 W3:=by rw[Kz];exact ((l9 18 _).trans (l9 19 _) fun _ _ e=>e));rw[<- Kz];have Oz:=Hd ((Kw.o.below (Below.refl _ _).drew).step (Kr.trans KF fun _ _ e=>e) Mh);have SD:=Hd Oz.o.eV;rw[<- Py.o]at SD;clear Kz Mh KF KL Kr KY Kw N4 c7 Py;(go_wp2_with (go_at_call 107;refine SD.o.mono ?_;rintro e w4 ⟨u4,rfl,SE⟩));go_ret2;rw[HE.o];exact iZ.ahead Pm.o Rq.o (SE.post (mk:=fun u=>.tuple #[u,fx 0]))
    have WT:=Hd (EF own (T+1) cb 9 cv (c.cache.map fY) o W1 (Kw.o.eZ.c_.cell 9) Kw.o.eZ.items ZU);have QI:Hy (c.cache.get o=(none,c.cache)):=Hd Pz;clear ZU Pz Y2;(go_upto_region 7 with (go_at_call 169;refine WT.o.mono ?_;rintro e W2 ⟨rfl,Ke⟩));obtain⟨VB,SF⟩:∃VB,VB=W2.heap.size:=⟨_,rfl⟩;obtain⟨xd,V2⟩:∃xd:List UInt8,xd=[]:=⟨_,rfl⟩;obtain⟨xv,hxv⟩:∃xv:Int,xv=0:=⟨_,rfl⟩;obtain⟨WG,Ui⟩:∃WG,WG=W2.alloc (.cells #[.string ByteArray.empty,.int .i64 0] 98):=⟨_,rfl⟩;rw[<- Ui,<- SF];(have RN:Below W2.heap.size W2 WG:=by rw[Ui];exact (Below.refl _ _).alloc (aq _) _);obtain⟨c2,KL⟩:∃c2:dJ,c2=kW c 1 o []:=⟨_,rfl⟩;obtain⟨LB,hoc⟩:∃LB,LB=own:=⟨_,rfl⟩;obtain⟨PX,KC⟩:∃PX,PX=cv:=⟨_,rfl⟩;have Rr:=Hd ((Kw.o.below Ke).below RN);rw[<- KL]at Rr;have M6:Hy (eB LB T WG cb fm sm PX c2):=Hd (by rw[hoc,KC];exact Rr.o.eZ);have P9:Hy (Has WG VB (.cells #[.string ⟨xd.toArray⟩,.int .i64 xv] 98)):=Hd (by rw[Ui,SF,V2,hxv];exact Has.new W2 _);have Pm:Hy (Ext w own LB):=Hd (by rw[hoc];exact Ext.refl _ _);have Md:Hy (∀g,WG.heap.size<=g->LB g=0):=Hd (by rw[hoc];exact fun g hg=>hf g (az Rr.o.er.size hg));have Rq:Hy (dD (fC own T) w WG):=Hd (Rr.o.er.mono fun g hg e=>by subst e;unfold fC;rw[Rr.o.eZ.gI];omega);have HE:Hy (r=(0,c2.ask)):=Hd (by rw[HR.o,QI.o,KL];rfl);clear Ui SF RN hoc KC KL V2 hxv Rr HR QI WT Kw;go_cut [59] (fun t wx=>t=.bool false/\wx=WG.drew)
    case first =>
     refine last.fS (fun W=>eB LB T W cb fm sm PX c2/\Has W VB (.cells #[.string ⟨xd.toArray⟩,.int .i64 xv] 98)) 1000 25 ⟨M6.o.drew,P9.o.drew⟩ fun HS=>?_;refine last.many [(0,35,_),(1,36,_),(2,37,_),(3,38,undef),(4,39,undef),(5,40,undef),(6,41,undef),(7,42,undef),(8,43,undef),(9,44,_),(10,45,_),(11,46,undef),(12,47,undef),(13,48,_),(14,49,_),(15,50,undef),(16,51,undef),(17,52,undef),(18,53,undef),(19,54,undef),(20,55,undef),(21,56,undef),(22,57,undef),(23,58,undef),(24,59,_)] HS.o ?_;refine last.done ?_;(go_wp2_with fail);go_meet;case rel=>exact⟨rfl,rfl⟩
    case rest =>
     obtain⟨Uk,Lv⟩:=hcut;subst Uk;have SG:Hy (eB LB T wc cb fm sm PX c2):=Hd (by rw[Lv];exact M6.o.drew);have SH:Hy (∀g,wc.heap.size<=g->LB g=0):=Hd (by rw[Lv];exact Md.o);have SI:Hy (dD (fC own T) w wc):=Hd (by rw[Lv];exact Rq.o.drew);clear Lv M6 P9 Md Rq;have M6:=SG;have Md:=SH;have Rq:=SI;clear SG SH SI;(go_upto_region 10 with fail);have Kw:=Hd (CM.start M6.o Md.o hT);obtain⟨n,hn⟩:∃n,n=wrap64 (c2.dN+1):=⟨_,rfl⟩;have N4:=Hd (rr wc.drew Kw.o.eZ.drew);rw[<- hn]at N4;have Py:Hy (c2.ask=dJ.eV {c2 with dN:=n,fc:=n,fL:=c2.dE}):=Hd (by unfold dJ.ask;rw[<- hn]);have c7:wc.cell? ⟨cb,7,none⟩=some (.int .i64 c2.dE):=Kw.o.eZ.c_.cell 7;clear hn;(go_region_held3 (fun W=>W.cell? ⟨cb,7,none⟩=some (.int .i64 c2.dE)) (first|exact KL.c_.cell 7|exact (KL.c_.eu 18 _).cell 7|exact ((KL.c_.eu 18 _).eu 19 _).cell 7|go_keep) ((go_at_call 150;refine N4.o.mono ?_;rintro e W2 ⟨rfl,KL,Kr,KY⟩;have c20:W2.cell? ⟨cb,18,none⟩=some (.int .i64 c2.fc):=KL.c_.cell 18;have c21:W2.cell? ⟨cb,19,none⟩=some (.int .i64 c2.fL):=KL.c_.cell 19;have f20:=KL.c_.frozen 18;have f21:=KL.c_.frozen 19)));obtain⟨W3,Kz⟩:∃W3,W3=((W2.setCell ⟨cb,18,none⟩ (.int .i64 n)).setCell ⟨cb,19,none⟩ (.int .i64 c2.dE)):=⟨_,rfl⟩
     have Mh:eB LB T W3 cb fm sm PX {c2 with dN:=n,fc:=n,fL:=c2.dE}:=by
      rw[Kz];exact ((KL.l8 {c2 with dN:=n,fc:=n} 18 (.int .i64 n) rfl rfl rfl rfl).l8 {c2 with dN:=n,fc:=n,fL:=c2.dE} 19 (.int .i64 c2.dE) rfl rfl rfl rfl)
     (have KF:dD (fun g=>g=cb) W2 W3:=by rw[Kz];exact ((l9 18 _).trans (l9 19 _) fun _ _ e=>e));rw[<- Kz];have Oz:=Hd ((Kw.o.below (Below.refl _ _).drew).step (Kr.trans KF fun _ _ e=>e) Mh);have SD:=Hd Oz.o.eV;rw[<- Py.o]at SD;clear Kz Mh KF KL Kr KY Kw N4 c7 Py;(go_wp2_with (go_at_call 107;refine SD.o.mono ?_;rintro e w4 ⟨u4,rfl,SE⟩));go_ret2;rw[HE.o];exact iZ.ahead Pm.o Rq.o (SE.post (mk:=fun u=>.tuple #[u,fx 0]))
end
end eZ
end Go.Proofs.YtlhodcmdpchllaaGreatDoor
