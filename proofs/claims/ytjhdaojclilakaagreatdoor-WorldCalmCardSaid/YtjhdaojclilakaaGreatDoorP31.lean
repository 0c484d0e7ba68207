/-
  A part of the proof of the law WorldCalm: ClC, ClD.
-/
import Derived.Deep.DeepCutAuto
import Derived.Test.YtjhdaojclilakaaGreatDoorHd
import Derived.Test.YtjhdaojclilakaaGreatDoorP27
set_option maxHeartbeats 16000000
set_option maxRecDepth 1000000
namespace Go.Proofs.YtjhdaojclilakaaGreatDoor
section
variable {p q:Prop}
theorem aaN (z:q) (h:Hy q->p:=by
 intro zz;have TQ:CI w cb 12 c.call.eO:=h.c_.cell 12;have c13:CI w cb 13 c.call.eF:=h.c_.cell 13;have ZR:CC w cb 14 (.string ⟨c.call.value.data.toArray⟩):=h.c_.cell 14;have c15:CI w cb 15 c.call.value.fq:=h.c_.cell 15;have c16:CC w cb 16 (.bool c.call.over):=h.c_.cell 16;have c17:CC w cb 17 (.bool c.call.hit):=h.c_.cell 17;revert TQ c13 ZR c15 c16 c17;exact zz.o):p:=h z
theorem aaS (h:p:=by
 clear h;(go_enter Tryz.func37,Tryz.ntmps37);(go_wp2_with (go_at_call 52;refine Sl.o.mono ?_;rintro e w' ⟨rfl,rfl⟩));go_ret2;rw[HE.o];exact⟨_,rfl,Wp.o⟩):p:=h
theorem ab3 (z:q) (h:Hy q->p:=by
 intro zz;(have P5:eJ (fun g=>g=cb) W2 W3:=by rw[PO];exact ((oK 18 _).trans (oK 19 _) fun _ _ e=>e));rw[<- PO];have Uk:=Hd ((PM.o.below (Below.refl _ _).drew).step (PK.trans P5 fun _ _ e=>e) Q7);have YZ:=Hd Uk.o.fh;rw[<- Vm.o]at YZ;revert P5 Uk YZ;exact zz.o):p:=h z
end
namespace gj
open Go.RowKit heap own gC gO fD fj cache
open eY (eM jg ir fU iM fw put del)
section
variable {own:Nat->Nat} {T:Nat} {w wr w':World} {cb fm sm:Nat} {cv:Value} {c c':eM} {q q':Value} {out:List eL}
structure CM (own:Nat->Nat) (T:Nat) (w wr:World) (cb fm sm:Nat) (cv:Value) (c:eM) (q:Value) (out:List eL):Prop where
 gj:fM own T wr cb fm sm cv c
 msgs:fV w.heap.size wr q out
 fr:∀g,w.heap.size<=g->own g=0
 hT:0<T
 fI:eJ (fun g=>g=cb) w wr
theorem CM.start (h:fM own T w cb fm sm cv c) (a:∀g,w.heap.size<=g->own g=0) (hT:0<T):CM own T w w cb fm sm cv c (.slice none 0 0) []:=⟨h,fV.nil _ _,a,hT,eJ.refl _ _⟩
theorem CM.below (h:CM own T w wr cb fm sm cv c q out) (hb:BB wr w'):CM own T w w' cb fm sm cv c q out:=
 ⟨h.gj.below hb,h.msgs.below hb,h.fr,h.hT,h.fI.jl hb (ax _)⟩
theorem CM.jV (h:CM own T w wr cb fm sm cv c q out):cb<w.heap.size:=by
 rcases bk cb w.heap.size with a|a
 ·exact a
 have b:=h.fr cb a;have d:=h.gj.jw;have e:=h.hT;omega
theorem CM.step (h:CM own T w wr cb fm sm cv c q out) (ht:eJ (fun g=>g=cb) wr w') (hc:fM own T w' cb fm sm cv c'):CM own T w w' cb fm sm cv c' q out:=
 ⟨hc,h.msgs.fc ht fun g a e=>by have:=h.msgs.block g a;have:=h.jV;omega,h.fr,h.hT,h.fI.trans ht fun _ _ e=>e⟩
theorem CM.append {n:List eL} (h:CM own T w wr cb fm sm cv c q out) (hm:fV w.heap.size w' q' (out++n)) (hg:wr.grownBy w' q.ownBlock):CM own T w w' cb fm sm cv c q' (out++n):=by
 refine abJ ?_;intro ht;refine⟨h.gj.fI ht (Ext.refl _ _) fun g _ hg hs=>?_,hm,h.fr,h.hT,h.fI.trans ht fun k hk e=>?_⟩
 ·have a:=h.fr g (h.msgs.block g hg);have b:=h.hT;unfold hO at hs;omega
 have:=h.msgs.block k e;omega
theorem CM.J9 {H:Nat} (h:CM own T w wr cb fm sm cv c q out) (ht:eJ (fun g=>g=H) wr w') (a:w.heap.size<=H) (hc:H≠cb) (b:q.ownBlock≠some H):CM own T w w' cb fm sm cv c q out:=by
 refine⟨h.gj.fI ht (Ext.refl _ _) fun g _ e hs=>?_,h.msgs.fc ht fun g hg e=>b (by rw[hg,e]),h.fr,h.hT,h.fI.trans ht fun k hk e=>ab⟩;have d:=h.fr H a;have f:=h.hT;subst e;unfold hO at hs;omega
def j9 (c:eM):eM:={c with eK:=wrap64 (c.eK+1),ij:=wrap64 (c.eK+1),iV:=c.eB}
theorem Ka (h:wrap64 (c.fa-2)<=c.eB):c.fh=([(j9 c).fG {eY.iH with eO:=3,eK:=wrap64 (c.eK+1)}]++(j9 c).asks,j9 c):=by
 unfold eM.fh;rw[if_pos h];rfl
theorem Kb (h:¬wrap64 (c.fa-2)<=c.eB):c.fh=([]++c.asks,c):=by
 unfold eM.fh;rw[if_neg h];rfl
theorem BA (h:fM own T w cb fm sm cv c) (hf:∀g,w.heap.size<=g->own g=0) (hT:0<T) :
 Calls Tryz.prog 41 #[VP cb 0] w fun e w'=>∃u,e=.returned u/\CM own T w w' cb fm sm cv c.fh.2 u c.fh.1:=by
 obtain⟨r,hr⟩:=nm c.fh;rw[<- hr];have Wp:=Hd (CM.start h hf hT);have c7:CI w cb 7 c.eB:=h.c_.cell 7;have c8:CI w cb 8 c.fa:=h.c_.cell 8;obtain⟨S,k⟩:=nm (wrap64 (c.fa-2));obtain⟨b,hb⟩:=nm (decide (S<=c.eB))
 have HR:Hy (∃c1 f,r=(f++c1.asks,c1)/\c1=(if b then j9 c else c)/\f=(if b then [(j9 c).fG {eY.iH with eO:=3,eK:=wrap64 (c.eK+1)}] else [])):=Hd (by
  rw[hr,hb];by_cases hd:S<=c.eB
  ·rw[decide_eq_true hd];exact⟨_,_,Ka (by rw[<- k];exact hd),rfl,rfl⟩
  rw[decide_eq_false hd]
  exact⟨_,_,Kb (by rw[<- k];exact hd),rfl,rfl⟩)
 (have ew:IntKind.i64.wrap (c.fa-2)=S:=by rw[IntWalk.i64_left,k]);have eb:decide (S<=c.eB)=b:=hb.symm;obtain⟨c1,f,QI,Sp,E⟩:=HR.o;have Qj:=Hd QI;have TH:=Hd Sp;have s:=Hd E;clear hr k hb h HR QI Sp E;(go_enter Tryz.func41,Tryz.ntmps41);(go_upto_region 2 with fail);(go_quiet (fail));have a:=Hd (Wp.o.below (below_drewN (Below.refl _ w) nq));clear Wp c7 c8;(go_upto_if 14 with fail);obtain⟨W1,Pz⟩:=nm (w.drewN nq);rw[<- Pz]at a⊢;clear Pz;go_cut [3] (fun q wx=>CM own T w wx cb fm sm cv c1 q f)
 case first =>
  cases b with
  |false =>
   have p:Hy (c1=c/\f=[]):=Hd ⟨TH.o,s.o⟩;(go_wp2_with fail);go_meet;case rel=>rw[p.o.1,p.o.2];exact a.o
  |true =>
   have p:Hy (c1=j9 c/\f=[(j9 c).fG {eY.iH with eO:=3,eK:=wrap64 (c.eK+1)}]):=Hd ⟨TH.o,s.o⟩;obtain⟨n,hn⟩:=nm (wrap64 (c.eK+1));have SV:=Hd (uM W1.drew a.o.gj.drew);rw[<- hn]at SV p;have YD:Hy (j9 c={c with eK:=n,ij:=n,iV:=c.eB}):=Hd (by unfold j9;rw[<- hn]);have c7:CI W1 cb 7 c.eB:=a.o.gj.c_.cell 7;clear hn ew eb;(go_upto_region 3 with fail);(go_region_held3 (fun W=>CI W cb 7 c.eB) (first|exact PE.c_.cell 7|exact (PE.c_.fQ 20 _).cell 7|exact ((PE.c_.fQ 20 _).fQ 21 _).cell 7|go_keep) ((go_at_call 55;refine SV.o.mono ?_;rintro e U ⟨rfl,PE,PK,Qi⟩;have Tv:CI U cb 20 c.ij:=PE.c_.cell 20;have c21:CI U cb 21 c.iV:=PE.c_.cell 21;have f20:=PE.c_.frozen 20;have f21:=PE.c_.frozen 21)));obtain⟨W3,V⟩:=nm ((U.setCell ⟨cb,20,none⟩ (VI n)).setCell ⟨cb,21,none⟩ (VI c.eB))
   have Q7:fM own T W3 cb fm sm cv {c with eK:=n,ij:=n,iV:=c.eB}:=by
    rw[V];exact ((PE.oJ {c with eK:=n,ij:=n} 20 (VI n) rfl rfl rfl rfl).oJ {c with eK:=n,ij:=n,iV:=c.eB} 21 (VI c.eB) rfl rfl rfl rfl)
   (have P5:eJ (fun g=>g=cb) U W3:=by rw[V];exact ((oK 20 _).trans (oK 21 _) fun _ _ e=>e));rw[<- V];have X:=Hd ((a.o.below (Below.refl _ _).drew).step (PK.trans P5 fun _ _ e=>e) Q7);rw[YD.o]at p;obtain⟨c2,t⟩:=nm ({c with eK:=n,ij:=n,iV:=c.eB}:eM);(have v:c2.ij=n:=by rw[t]);rw[<- t]at p X;have a1:=Hd v;(have Tv:W3.cell? ⟨cb,20,none⟩=some (VI n):=by rw[<- v];exact X.o.gj.c_.cell 20);clear V Q7 P5 PE PK Qi t v a SV c7 YD
   go_wp2_with (first
    |(go_at_call 64;refine (uN _ {eY.iH with eO:=3,eK:=n} X.o.gj).mono ?_;rintro e F ⟨rfl,Qh⟩;have G:=Hd (X.o.below Qh))
    |(refine nk rfl (.tmp 34) (c2.fG {eY.iH with eO:=3,eK:=n}) rfl rfl ?_;have j:=Hd (G.o.below ((Below.refl F.heap.size F).alloc (ax _) (.cells (([c2.fG {eY.iH with eO:=3,eK:=n}]:List eL).flatMap iS).toArray 93)));have I:=Hd (fV.new (w:=F) (l:=[c2.fG {eY.iH with eO:=3,eK:=n}]) ae);obtain⟨w5,Tx⟩:=nm (F.alloc (.cells (([c2.fG {eY.iH with eO:=3,eK:=n}]:List eL).flatMap iS).toArray 93));rw[<- Tx]at j I⊢;clear Tx G)
    |(refine rC rfl (.tmp 27) (.tmp 35) j.o.fI.size (.slice none 0 0) (.slice (some ⟨F.heap.size,0,none⟩) 1 1) [] [c2.fG {eY.iH with eO:=3,eK:=n}] rfl rfl rfl j.o.msgs I.o ae ae fun v' B Uy J aa=>?_;have x:=Hd (j.o.append Uy J);clear Uy J aa))
   go_meet
   case rel =>
    rw[p.o.1,p.o.2];exact x.o
 case rest =>
  have a:=Hd hcut;clear hcut ew eb TH;have K:=Hd (rE wc a.o.gj);have ZQ:Hy (f.length<=1):=Hd (by rw[s.o];split<;>simp)
  cases hbu:c1.fB with
  |false =>
   rw[hbu]at K
   have L:Hy (r=(f,c1)):=Hd (by
    rw[Qj.o];unfold eM.asks
    rw[if_neg (by rw[hbu];decide),bG])
   clear hbu;(go_wp2_with (go_at_call 52;refine K.o.mono ?_;rintro e w' ⟨rfl,rfl⟩));go_ret;rw[L.o];exact⟨_,rfl,a.o⟩
  |true =>
   rw[hbu]at K
   have L:Hy (r=(f++[c1.fG {eY.iH with eO:=c1.call.eO,eK:=c1.fE,eF:=c1.call.eF,data:=if c1.call.eO=2 then c1.call.value.data else []}],c1)):=Hd (by
    rw[Qj.o];unfold eM.asks
    rw[if_pos hbu])
   clear hbu;have TQ:CI wc cb 12 c1.call.eO:=a.o.gj.c_.cell 12;have ad:CI wc cb 13 c1.call.eF:=a.o.gj.c_.cell 13;have al:CI wc cb 18 c1.fE:=a.o.gj.c_.cell 18;(go_upto_region 6 with (go_at_call 52;refine K.o.mono ?_;rintro e w' ⟨rfl,rfl⟩));(go_region_held3 (fun W=>CI W cb 12 c1.call.eO/\CI W cb 13 c1.call.eF/\CI W cb 18 c1.fE) (go_keep) (fail));obtain⟨ck,Um⟩:=nm c1.call.eO;obtain⟨d,M⟩:=nm c1.fE;obtain⟨co,XK⟩:=nm c1.call.eF;rw[<- Um,<- M,<- XK]at L⊢;obtain⟨H,hH⟩:=nm wc.heap.size;obtain⟨y,Y⟩:=nm ((wc.alloc (.cells #[VI ck,VI 0,VI d,VI 0,VI 0,VI co,VI 0,.bool false,.string ⟨#[]⟩] 93)).drew);rw[<- Y,<- hH];(have i:Has y H (.cells #[VI ck,VI 0,VI d,VI 0,VI 0,VI co,VI 0,.bool false,.string ⟨#[]⟩] 93):=by rw[Y,hH];exact (Has.new wc _).drew);(have PW:BB wc y:=by rw[Y];exact ((Below.refl _ _).alloc (ax _) _).drew);have j:=Hd (a.o.below PW)
   have N:Hy (w.heap.size<=H/\H≠cb):=Hd (by
    have:=a.o.fI.size;have:=a.o.jV
    omega)
   (have an:Hy (u3.ownBlock≠some H):=Hd fun e=>by have:=(a.o.msgs.lt H e).2;omega);have Rm:=Hd i;have x0:CI y H 0 ck:=i.cell 0;have x8:CC y H 8 (.string ⟨#[]⟩):=i.cell 8;have f8:=i.frozen 8;have ZR:CC y cb 14 (.string ⟨c1.call.value.data.toArray⟩):=j.o.gj.c_.cell 14;obtain⟨kb,Ws⟩:=nm (ck==2);have a6:(ck==2)=kb:=Ws.symm;have O:=Hd Ws;clear Y hH PW i Um M XK Ws a K TQ ad al
   cases kb with
   |false =>
    have Qu:Hy (r=(f++[c1.fG ⟨ck,0,d,0,0,co,0,false,[]⟩],c1)):=Hd (by
     (have h2:ck≠2:=by simpa using O.o.symm);rw[L.o,if_neg h2]
     rfl)
    clear f8 x8
    go_wp2_with (first
     |(refine wpList_load_row rfl 93 (.tmp 4) rfl H rfl 93 _ (0,0) _ Rm.o Tryz.underlying93 rfl af ?_)
     |(go_at_call 64;refine (uN _ ⟨ck,0,d,0,0,co,0,false,[]⟩ j.o.gj).mono ?_;rintro e B ⟨rfl,RU⟩;have x:=Hd (j.o.below RU))
     |(refine nk rfl (.tmp 67) (c1.fG ⟨ck,0,d,0,0,co,0,false,[]⟩) rfl rfl ?_;have z:=Hd (x.o.below ((Below.refl B.heap.size B).alloc (ax _) (.cells (([c1.fG ⟨ck,0,d,0,0,co,0,false,[]⟩]:List eL).flatMap iS).toArray 93)));have Tk:=Hd (fV.new (w:=B) (l:=[c1.fG ⟨ck,0,d,0,0,co,0,false,[]⟩]) ae);obtain⟨C,UZ⟩:=nm (B.alloc (.cells (([c1.fG ⟨ck,0,d,0,0,co,0,false,[]⟩]:List eL).flatMap iS).toArray 93));rw[<- UZ]at z Tk⊢;clear UZ x)
     |(refine rC rfl (.tmp 64) (.tmp 68) z.o.fI.size u3 (.slice (some ⟨B.heap.size,0,none⟩) 1 1) f [c1.fG ⟨ck,0,d,0,0,co,0,false,[]⟩] rfl rfl rfl z.o.msgs Tk.o ae (by have:=ZQ.o;simp;omega) fun v' w8 Ya Ui aq=>?_;have D:=Hd (z.o.append Ya Ui);clear Ya Ui aq))
    go_ret;rw[Qu.o];exact⟨_,rfl,D.o⟩
   |true =>
    obtain⟨m,A⟩:=nm c1.call.value.data;rw[<- A]at ZR
    have Qu:Hy (r=(f++[c1.fG ⟨ck,0,d,0,0,co,0,false,m⟩],c1)):=Hd (by
     (have h2:ck=2:=by simpa using O.o.symm);rw[L.o,if_pos h2,<- A]
     rfl)
    clear A;(go_upto_region 9 with fail);obtain⟨W6,Z⟩:=nm (y.setCell ⟨H,8,none⟩ (.string ⟨m.toArray⟩));(have RJ:eJ (fun g=>g=H) y W6:=by rw[Z];exact fF.gX (eJ.refl _ _) 8 _);have Xr:Hy (Has W6 H (.cells (ju ck 0 d 0 0 co 0 false ⟨m.toArray⟩) 93)):=Hd (by rw[Z];exact Rm.o.fQ 8 _);have x:Hy (CM own T w W6 cb fm sm cv c1 u3 f):=Hd (j.o.J9 RJ N.o.1 N.o.2 an.o);rw[<- Z];clear Z RJ Rm j x0 x8 f8 ZR
    go_wp2_with (first
     |(refine wpList_load_row rfl 93 (.tmp 4) rfl H rfl 93 _ (0,0) _ Xr.o Tryz.underlying93 rfl af ?_)
     |(go_at_call 64;refine (uN _ ⟨ck,0,d,0,0,co,0,false,m⟩ x.o.gj).mono ?_;rintro e C ⟨rfl,RN⟩;have z:=Hd (x.o.below RN))
     |(refine nk rfl (.tmp 67) (c1.fG ⟨ck,0,d,0,0,co,0,false,m⟩) rfl rfl ?_;have D:=Hd (z.o.below ((Below.refl C.heap.size C).alloc (ax _) (.cells (([c1.fG ⟨ck,0,d,0,0,co,0,false,m⟩]:List eL).flatMap iS).toArray 93)));have P:=Hd (fV.new (w:=C) (l:=[c1.fG ⟨ck,0,d,0,0,co,0,false,m⟩]) ae);obtain⟨w8,Q⟩:=nm (C.alloc (.cells (([c1.fG ⟨ck,0,d,0,0,co,0,false,m⟩]:List eL).flatMap iS).toArray 93));rw[<- Q]at D P⊢;clear Q z)
     |(refine rC rfl (.tmp 64) (.tmp 68) D.o.fI.size u3 (.slice (some ⟨C.heap.size,0,none⟩) 1 1) f [c1.fG ⟨ck,0,d,0,0,co,0,false,m⟩] rfl rfl rfl D.o.msgs P.o ae (by have:=ZQ.o;simp;omega) fun v' w9 ZS R ar=>?_;have au:=Hd (D.o.append ZS R);clear ZS R ar))
    go_ret;rw[Qu.o];exact⟨_,rfl,au.o⟩
end
section
variable {own:Nat->Nat} {T:Nat} {w wr w':World} {cb fm sm:Nat} {cv:Value} {c c':eM} {q q':Value} {out:List eL}
theorem CM.from (h:CM own T w wr cb fm sm cv c q out) {u:Value} {l:List eL} (a:CM own T wr w' cb fm sm cv c' u l):CM own T w w' cb fm sm cv c' u l:=
 ⟨a.gj,a.msgs.base h.fI.size,h.fr,h.hT,h.fI.trans a.fI fun _ _ e=>e⟩
theorem CM.fh (h:CM own T w wr cb fm sm cv c q out):Calls Tryz.prog 41 #[VP cb 0] wr fun e w'=>∃u,e=.returned u/\CM own T w w' cb fm sm cv c.fh.2 u c.fh.1:=by
 refine (BA h.gj (fun g a=>h.fr g (aB h.fI.size a)) h.hT).mono ?_;rintro e w' ⟨u,rfl,b⟩;exact⟨u,rfl,h.from b⟩
def nx (c:eM) (k o:Int) (data:List UInt8):eM:={c with call:=⟨k,o,⟨data,0⟩,false,false⟩}
theorem fM.nx (h:fM own T w cb fm sm cv c) (k o:Int) (data:List UInt8):fM own T ((((((w.setCell ⟨cb,12,none⟩ (VI k)).setCell ⟨cb,13,none⟩ (VI o)).setCell ⟨cb,14,none⟩ (.string ⟨data.toArray⟩)).setCell ⟨cb,15,none⟩ (VI 0)).setCell ⟨cb,16,none⟩ (.bool false)).setCell ⟨cb,17,none⟩ (.bool false)) cb fm sm cv (gj.nx c k o data)/\eJ (fun g=>g=cb) w ((((((w.setCell ⟨cb,12,none⟩ (VI k)).setCell ⟨cb,13,none⟩ (VI o)).setCell ⟨cb,14,none⟩ (.string ⟨data.toArray⟩)).setCell ⟨cb,15,none⟩ (VI 0)).setCell ⟨cb,16,none⟩ (.bool false)).setCell ⟨cb,17,none⟩ (.bool false)):=by
 have ht:eJ (fun g=>g=cb) w ((((((w.setCell ⟨cb,12,none⟩ (VI k)).setCell ⟨cb,13,none⟩ (VI o)).setCell ⟨cb,14,none⟩ (.string ⟨data.toArray⟩)).setCell ⟨cb,15,none⟩ (VI 0)).setCell ⟨cb,16,none⟩ (.bool false)).setCell ⟨cb,17,none⟩ (.bool false)):=
  fF.gX (fF.gX (fF.gX (fF.gX (fF.gX (fF.gX (eJ.refl _ _) _ _) _ _) _ _) _ _) _ _) _ _
 refine⟨h.nj ht ?_ rfl rfl rfl,ht⟩;exact (((((h.c_.fQ 12 (VI k)).fQ 13 (VI o)).fQ 14 (.string ⟨data.toArray⟩)).fQ 15 (VI 0)).fQ 16 (.bool false)).fQ 17 (.bool false)
theorem Kd (o:Int) (data:List UInt8) (h:fM own T w cb fm sm cv c) (B:∀g,w.heap.size<=g->own g=0) (hT:0<T) :
 Calls Tryz.prog 37 #[VP cb 0,VI o,.string ⟨data.toArray⟩] w fun e w'=>∃u,e=.returned (.tuple #[u,iC (c.write o data).1])/\CM own T w w' cb fm sm cv (c.write o data).2.2 u (c.write o data).2.1:=by
 obtain⟨r,i⟩:=nm (c.write o data);rw[<- i];have Wp:=Hd (CM.start h B hT);have Sl:=Hd (rE w h);obtain⟨b0,j⟩:=nm c.fB;obtain⟨d,k⟩:=nm (decide (o<0));obtain⟨f,l⟩:=nm (decide (8<=o));obtain⟨m,s⟩:=nm (decide ((20:Int)<(data.length:Int)));rw[<- j]at Sl
 have HR:Hy (r=if b0 then (6,[],c) else if d||f then (2,[],c) else if m then (4,[],c) else (0,(nx c 2 o data).ask)):=Hd (by
  have e1:(!eY.fN o)=(d||f):=by
   rw[k,l];unfold eY.fN eY.fR;rw[cr];simp only[aV,bU,decide_eq_false_iff_not,bz,decide_eq_true_eq];omega
  rw[i,j,s];unfold eM.write;rw[e1];split
  ·rfl
  split
  ·rfl
  by_cases b:20<data.length
  ·rw[if_pos b,if_pos (decide_eq_true ab)]
  rw[if_neg b,if_neg (by simp only[decide_eq_true_eq];omega)]
  rfl)
 have e1:decide (o<0)=d:=k.symm;have C:decide (8<=o)=f:=l.symm;have D:decide ((20:Int)<(data.length:Int))=m:=s.symm;clear i j k l s
 cases b0 with
 |true =>
  have HE:Hy (r=(6,[],c)):=Hd HR.o;exact aaS
 |false =>
  cases d with
  |true =>
   have HE:Hy (r=(2,[],c)):=Hd HR.o;exact aaS
  |false =>
   cases f with
   |true =>
    have HE:Hy (r=(2,[],c)):=Hd HR.o;exact aaS
   |false =>
    cases m with
    |true =>
     have HE:Hy (r=(4,[],c)):=Hd HR.o;exact aaS
    |false =>
     have HE:Hy (r=(0,(nx c 2 o data).ask)):=Hd HR.o;refine aaN ?_;intro TQ c13 ZR c15 c16 c17;have f12:=h.c_.frozen 12;have f13:=h.c_.frozen 13;have f14:=h.c_.frozen 14;have f15:=h.c_.frozen 15;have f16:=h.c_.frozen 16;have f17:=h.c_.frozen 17;have a:=Hd (h.nx 2 o data);clear h HR;(go_enter Tryz.func37,Tryz.ntmps37);(go_upto_region 8 with (go_at_call 52;refine Sl.o.mono ?_;rintro e w' ⟨rfl,rfl⟩));obtain⟨x,y⟩:=nm ((((((w.setCell ⟨cb,12,none⟩ (VI 2)).setCell ⟨cb,13,none⟩ (VI o)).setCell ⟨cb,14,none⟩ (.string ⟨data.toArray⟩)).setCell ⟨cb,15,none⟩ (VI 0)).setCell ⟨cb,16,none⟩ (.bool false)).setCell ⟨cb,17,none⟩ (.bool false));rw[<- y]at a⊢;have PM:=Hd (Wp.o.step a.o.2 a.o.1);clear y a TQ c13 ZR c15 c16 c17 f12 f13 f14 f15 f16 f17 Wp Sl e1 C D;obtain⟨c1,A⟩:=nm (nx c 2 o data);rw[<- A]at PM HE;obtain⟨n,t⟩:=nm (wrap64 (c1.eK+1));have v:=Hd (uM x.drew PM.o.gj.drew);rw[<- t]at v;have Vm:Hy (c1.ask=eM.fh {c1 with eK:=n,fE:=n,gL:=c1.eB}):=Hd (by unfold eM.ask;rw[<- t]);have c7:CI x cb 7 c1.eB:=PM.o.gj.c_.cell 7;clear t A;(go_region_held3 (fun W=>CI W cb 7 c1.eB) (first|exact PE.c_.cell 7|exact (PE.c_.fQ 18 _).cell 7|exact ((PE.c_.fQ 18 _).fQ 19 _).cell 7|go_keep) ((go_at_call 55;refine v.o.mono ?_;rintro e W2 ⟨rfl,PE,PK,E⟩;have H:CI W2 cb 18 c1.fE:=PE.c_.cell 18;have c21:CI W2 cb 19 c1.gL:=PE.c_.cell 19;have f20:=PE.c_.frozen 18;have f21:=PE.c_.frozen 19)));obtain⟨W3,PO⟩:=nm ((W2.setCell ⟨cb,18,none⟩ (VI n)).setCell ⟨cb,19,none⟩ (VI c1.eB))
     have Q7:fM own T W3 cb fm sm cv {c1 with eK:=n,fE:=n,gL:=c1.eB}:=by
      rw[PO];exact ((PE.oJ {c1 with eK:=n,fE:=n} 18 (VI n) rfl rfl rfl rfl).oJ {c1 with eK:=n,fE:=n,gL:=c1.eB} 19 (VI c1.eB) rfl rfl rfl rfl)
     refine ab3 ?_;intro P5 Uk YZ;have F:Hy (r=(0,c1.ask)):=Hd HE.o;clear PO Q7 P5 PE PK E PM v c7 Vm HE;(go_wp2_with (go_at_call 41;refine YZ.o.mono ?_;rintro e I ⟨u4,rfl,G⟩));go_ret2;rw[F.o];exact⟨_,rfl,G⟩
end
end gj
end Go.Proofs.YtjhdaojclilakaaGreatDoor
