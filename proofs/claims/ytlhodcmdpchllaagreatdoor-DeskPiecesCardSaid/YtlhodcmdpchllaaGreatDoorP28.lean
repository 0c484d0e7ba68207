/-
  A part of the proof of the law DeskPieces: SrvO, SrvP, SrvQ, SrvR, ClD.
-/
import Derived.Maps.AppendAt
import Derived.Test.YtlhodcmdpchllaaGreatDoorHd
import Derived.Test.YtlhodcmdpchllaaGreatDoorP27
set_option maxHeartbeats 16000000
set_option maxRecDepth 1000000
namespace Go.Proofs.YtlhodcmdpchllaaGreatDoor
section
namespace last
open Go
section
variable {P:Program} {ops:Array Oper} {Q:Exit->Act->World->Prop} {md:Region.Mode} {S:World->Prop} {L:Nat}
theorem eN (i d:Nat) (v:Value) {oi:Oper} {fuel:Nat} {lb:List Bool} {ts:List Value} {ds:List Deferred} {w:World} (hS:S w) (h:wpAnyL P md ops Q S L fuel (lb.set i true).toArray ⟨(ts.set d v).toArray,ds⟩ w)
 (hi:ops[i]?=some oi:=by rfl) (hd:oi.dst=some d:=by rfl) (hs:Region.noSelect ops=true:=by kernel_rfl) (hf:Region.free md ops lb.toArray i=true:=by kernel_rfl) (hr:(Region.ready md ops lb.toArray).contains i=true:=by kernel_rfl) (hl:waits md ops L i=true:=by kernel_rfl)
 (hQ:∀c a w,Q (.panic c) (a.put (some d) v) w->Q (.panic c) a w:=by exact fun _ _ _ h=>h) (hw:Region.wanted oi (yielded ops ts.toArray)=true:=by rfl) (hy:∀w,S w->(execOp (Act.eval ⟨ts.toArray,ds⟩) oi).run P w=.ok (.value v) w:=by intro _ _;go_simp):wpAnyL P md ops Q S L (fuel+1) lb.toArray ⟨ts.toArray,ds⟩ w:=
 nL i d v hi hd hs hf hr hl hQ hS hw hy h
end
end last
namespace dR
open Go.RowKit heap own dK eO fq dZ fD eK
open dI (Rec dW fE Wr dC eY eA eG ez put del)
section
variable {P:Lib.PrintTabs} {own:Nat->Nat} {w0:World} {sb db wb dm tb tm:Nat} {v:Value} {ps:List ByteArray} {qs:List Value} {d:dW} {s:dC}
theorem gj.ahead {w w1 w':World} {r:List dH×dW×dC} {e:Ending} (ht:dD (ey own) w w1) (h:gj P own w0 w1 sb db wb dm tb tm r e w'):gj P own w0 w sb db wb dm tb tm r e w':=by
 obtain⟨u,own1,v1,OL,NX,h1,h2,h3,h4,h5⟩:=h;exact⟨u,own1,v1,OL,NX,h1,fun k hk=>h2 k (ay hk ht.size),h3.base ht.size,h4,ht.trans h5 fun _ _ e=>e⟩
theorem gj.here {w w1:World} (h:eh P own w0 w1 sb db wb dm tb tm v ps qs d s) (ht:dD (ey own) w w1) {u:Value} {l:List dH} (hm:eE w.heap.size w1 u l):gj P own w0 w sb db wb dm tb tm (l,d,s) (.returned u) w1:=
 ⟨u,own,v,ps,qs,rfl,Ext.refl _ _,hm,h,ht⟩
theorem Ef (w:World) (m:dH) (o:Nat) (ho:o<8) (Pp:m.dF=o) (RL:0<=m.dL/\m.dL<4) (h:eh P own w0 w sb db wb dm tb tm v ps qs d s) :
 Calls Tryz.prog 162 #[.pointer (some ⟨sb,0,none⟩),m.val] w (gj P own w0 w sb db wb dm tb tm (dC.nF d s m)):=by
 obtain⟨mk,mc,mn,me,ms,mo,mv,ml,md⟩:=m;dsimp only at Pp RL;subst Pp;(have M5:(o:Int)<8:=by omega);obtain⟨H,hH⟩:∃H,H=w.heap.size:=⟨_,rfl⟩;obtain⟨W1,Kh⟩:∃W1,W1=w.alloc (.cells #[.int .i64 mk,.int .i64 mc,.int .i64 mn,.int .i64 me,.int .i64 ms,.int .i64 (o:Int),.int .i64 mv,.bool ml,.string ⟨md.toArray⟩] 109):=⟨_,rfl⟩;(have Kd:Below w.heap.size w W1:=by rw[Kh];exact (Below.refl _ _).alloc (aq _) _);(have Kf:Has W1 H (.cells #[.int .i64 mk,.int .i64 mc,.int .i64 mn,.int .i64 me,.int .i64 ms,.int .i64 (o:Int),.int .i64 mv,.bool ml,.string ⟨md.toArray⟩] 109):=by rw[Kh,hH];exact Has.new w _);have h1:=h.below Kd;obtain⟨qa,qc,hq,-,-⟩:=(h1.dX o ho).slice;(have c20:W1.cell? ⟨sb,20+o,none⟩=some (.slice qa (s.dX o).length qc):=by rw[h1.ik o ho,hq]);have x5:W1.cell? ⟨H,5,none⟩=some (.int .i64 o):=Kf.cell 5;obtain⟨n,hn⟩:∃n,n=(s.dX o).length:=⟨_,rfl⟩;rw[<- hn]at c20;have HN:=Hd hn;obtain⟨r,hr⟩:∃r,r=dC.nF d s ⟨mk,mc,mn,me,ms,o,mv,ml,md⟩:=⟨_,rfl⟩;obtain⟨vr,TY⟩:∃vr,vr=(s.value o).dY:=⟨_,rfl⟩;obtain⟨vv,Mk⟩:∃vv,vv=wrap64 (vr+1):=⟨_,rfl⟩;obtain⟨kn,OE⟩:∃kn,kn=s.jl ⟨mk,mc,mn,me,ms,o,mv,ml,md⟩:=⟨_,rfl⟩;obtain⟨qe,Na⟩:∃qe,qe=((n:Int)==0):=⟨_,rfl⟩;obtain⟨vn,hvn⟩:∃vn,vn=(mv !=vv):=⟨_,rfl⟩
 have HR:Hy (r=if (!kn||qe||vn) then ([],d,s) else dC.fA d {s with eo:=s.eo.drop mc o} o):=Hd (by
  rw[hr];unfold dC.nF;dsimp only
  have e1:(s.dX (Int.toNat o)).isEmpty=qe:=by
   rw[Na,hn];show (s.dX o).isEmpty=_
   cases s.dX o with
   |nil=>rfl
   |cons a l=>exact (beq_eq_false_iff_ne.2 (by simp only[aJ];omega)).symm
  have e2:(!decide (mv=wrap64 ((s.value (Int.toNat o)).dY+1)))=vn:=by
   rw[hvn,Mk,TY];show (!decide (mv=wrap64 ((s.value o).dY+1)))=_;rw[bE];simp
  rw[e1,e2,<- OE]
  rfl)
 have HTL:=Hd h.eo.lt;have H1:=Hd h1;have KS:=Hd Kf;have KP:Hy (dD (ey own) w W1):=Hd (dD.fw Kd (aq _));have Zx:=Hd OE;have HVR:=Hd TY;have eqe:((n:Int)==0)=qe:=Na.symm;have mu:(mv !=vv)=vn:=hvn.symm;(have ewv:IntKind.i64.wrap (vr+1)=vv:=by rw[IntWalk.i64_left,Mk]);rw[<- hr];unfold dH.val;dsimp only;clear hr TY Mk OE Na hvn h h1 Kf hn hq Kd;(go_enter Tryz.func162,Tryz.ntmps162);(go_upto_region 1 with fail);rw[<- Kh,<- hH];have Wc:Hy (¬(H=tb\/H=tm)):=Hd (by have:=HTL.o;omega);clear Kh hH;(go_quiet (fail));obtain⟨W2,Kv⟩:∃W2,W2=W1.drewN nq:=⟨_,rfl⟩;have H2:Hy (eh P own w0 W2 sb db wb dm tb tm v ps qs d s):=Hd (by rw[Kv];exact H1.o.below (below_drewN (Below.refl _ _) nq));have KV:Hy (Has W2 H (.cells #[.int .i64 mk,.int .i64 mc,.int .i64 mn,.int .i64 me,.int .i64 ms,.int .i64 (o:Int),.int .i64 mv,.bool ml,.string ⟨md.toArray⟩] 109)):=Hd (by rw[Kv];exact KS.o.drewN nq);have K4:Hy (dD (ey own) w W2):=Hd (by rw[Kv];exact KP.o.drewN nq);rw[<- Kv];clear Kv H1 KS KP c20 x5;(have cV:W2.cell? ⟨sb,4+o*2+1,none⟩=some (.int .i64 vr):=by rw[HVR.o];exact (H2.o.nh o ho).2);have O0:H<W2.heap.size:=KV.o.lt;have MO:sb<W2.heap.size:=H2.o.s_.lt
 have OI:Hy (Calls Tryz.prog 185 #[.pointer (some ⟨sb,0,none⟩),.agg #[.int .i64 mk,.int .i64 mc,.int .i64 mn,.int .i64 me,.int .i64 ms,.int .i64 (o:Int),.int .i64 mv,.bool ml,.string ⟨md.toArray⟩]] W2.drew fun e w'=>e=.returned (.bool kn)/\Below W2.drew.heap.size W2.drew w'):=Hd (by
  rw[Zx.o]
  exact tn W2.drew ⟨mk,mc,mn,me,ms,o,mv,ml,md⟩ (H2.o.below (Below.refl _ _).drew))
 go_upto_region 2 with fail
 cases kn with
 |false =>
  as_aux_lemma =>
   refine last.fS (fun W=>Has W H (.cells #[.int .i64 mk,.int .i64 mc,.int .i64 mn,.int .i64 me,.int .i64 ms,.int .i64 (o:Int),.int .i64 mv,.bool ml,.string ⟨md.toArray⟩] 109)/\W.cell? ⟨sb,4+o*2+1,none⟩=some (.int .i64 vr)) 1000 23 ⟨KV.o.drew,cV⟩ fun HS=>?_;refine last.eN 0 13 (.pointer (some ⟨sb,0,none⟩)) HS.o ?_;dsimp only[List.set];refine last.eN 1 14 (.agg #[.int .i64 mk,.int .i64 mc,.int .i64 mn,.int .i64 me,.int .i64 ms,.int .i64 (o:Int),.int .i64 mv,.bool ml,.string ⟨md.toArray⟩]) HS.o ?_ (hy:=(fun W' Kc=>by have e0:W'.cell? ⟨H,0,none⟩=some (.int .i64 mk):=Kc.1.cell 0;have e1:W'.cell? ⟨H,1,none⟩=some (.int .i64 mc):=Kc.1.cell 1;have e2:W'.cell? ⟨H,2,none⟩=some (.int .i64 mn):=Kc.1.cell 2;have e3:W'.cell? ⟨H,3,none⟩=some (.int .i64 me):=Kc.1.cell 3;have e4:W'.cell? ⟨H,4,none⟩=some (.int .i64 ms):=Kc.1.cell 4;have e5:W'.cell? ⟨H,5,none⟩=some (.int .i64 (o:Int)):=Kc.1.cell 5;have e6:W'.cell? ⟨H,6,none⟩=some (.int .i64 mv):=Kc.1.cell 6;have e7:W'.cell? ⟨H,7,none⟩=some (.bool ml):=Kc.1.cell 7;have e8:W'.cell? ⟨H,8,none⟩=some (.string ⟨md.toArray⟩):=Kc.1.cell 8;go_simp));dsimp only[List.set];refine last.one 2 fun K hK=>?_;go_simp;refine OI.o.mono ?_;rintro e W5 ⟨rfl,Kx⟩;have H5:=Hd (H2.o.below ((Below.refl _ W2).drew.trans Kx));have MJ:=Hd (K4.o.drew.gn Kx (aq _));have Kl:Hy ((fun W=>Has W H (.cells #[.int .i64 mk,.int .i64 mc,.int .i64 mn,.int .i64 me,.int .i64 ms,.int .i64 (o:Int),.int .i64 mv,.bool ml,.string ⟨md.toArray⟩] 109)/\W.cell? ⟨sb,4+o*2+1,none⟩=some (.int .i64 vr)) W5):=Hd ⟨HS.o.1.below Kx HS.o.1.lt,(Kx.cell (p:=⟨sb,4+o*2+1,none⟩) MO).trans cV⟩;refine hK.out _ _ (fun _=>Kl.o) ?_;clear hK K HS Kx OI H2 K4 KV cV MO;refine last.eN 3 16 (.bool true) Kl.o ?_;dsimp only[List.set];refine last.eN 4 17 (.bool true) Kl.o ?_;dsimp only[List.set];refine last.gO 5 18 rfl rfl (by kernel_rfl) (by kernel_rfl) (by kernel_rfl) (by kernel_rfl) (fun _ _ _ h=>h) Kl.o (by rfl) ?_;dsimp only[List.set];refine last.gO 6 19 rfl rfl (by kernel_rfl) (by kernel_rfl) (by kernel_rfl) (by kernel_rfl) (fun _ _ _ h=>h) Kl.o (by rfl) ?_;dsimp only[List.set];refine last.gO 7 20 rfl rfl (by kernel_rfl) (by kernel_rfl) (by kernel_rfl) (by kernel_rfl) (fun _ _ _ h=>h) Kl.o (by rfl) ?_;dsimp only[List.set];refine last.eN 8 21 (.bool true) Kl.o ?_;dsimp only[List.set];refine last.eN 9 22 (.bool true) Kl.o ?_;dsimp only[List.set];refine last.gO 10 23 rfl rfl (by kernel_rfl) (by kernel_rfl) (by kernel_rfl) (by kernel_rfl) (fun _ _ _ h=>h) Kl.o (by rfl) ?_;dsimp only[List.set];refine last.gO 11 24 rfl rfl (by kernel_rfl) (by kernel_rfl) (by kernel_rfl) (by kernel_rfl) (fun _ _ _ h=>h) Kl.o (by rfl) ?_;dsimp only[List.set];refine last.gO 12 25 rfl rfl (by kernel_rfl) (by kernel_rfl) (by kernel_rfl) (by kernel_rfl) (fun _ _ _ h=>h) Kl.o (by rfl) ?_;dsimp only[List.set];refine last.gO 13 26 rfl rfl (by kernel_rfl) (by kernel_rfl) (by kernel_rfl) (by kernel_rfl) (fun _ _ _ h=>h) Kl.o (by rfl) ?_;dsimp only[List.set];refine last.gO 14 27 rfl rfl (by kernel_rfl) (by kernel_rfl) (by kernel_rfl) (by kernel_rfl) (fun _ _ _ h=>h) Kl.o (by rfl) ?_;dsimp only[List.set];refine last.gO 15 28 rfl rfl (by kernel_rfl) (by kernel_rfl) (by kernel_rfl) (by kernel_rfl) (fun _ _ _ h=>h) Kl.o (by rfl) ?_;dsimp only[List.set];refine last.gO 16 29 rfl rfl (by kernel_rfl) (by kernel_rfl) (by kernel_rfl) (by kernel_rfl) (fun _ _ _ h=>h) Kl.o (by rfl) ?_;dsimp only[List.set];refine last.gO 17 30 rfl rfl (by kernel_rfl) (by kernel_rfl) (by kernel_rfl) (by kernel_rfl) (fun _ _ _ h=>h) Kl.o (by rfl) ?_;dsimp only[List.set];refine last.gO 18 31 rfl rfl (by kernel_rfl) (by kernel_rfl) (by kernel_rfl) (by kernel_rfl) (fun _ _ _ h=>h) Kl.o (by rfl) ?_;dsimp only[List.set];refine last.gO 19 32 rfl rfl (by kernel_rfl) (by kernel_rfl) (by kernel_rfl) (by kernel_rfl) (fun _ _ _ h=>h) Kl.o (by rfl) ?_;dsimp only[List.set];refine last.gO 20 33 rfl rfl (by kernel_rfl) (by kernel_rfl) (by kernel_rfl) (by kernel_rfl) (fun _ _ _ h=>h) Kl.o (by rfl) ?_;dsimp only[List.set];refine last.gO 21 34 rfl rfl (by kernel_rfl) (by kernel_rfl) (by kernel_rfl) (by kernel_rfl) (fun _ _ _ h=>h) Kl.o (by rfl) ?_;dsimp only[List.set];refine last.eN 22 35 (.bool true) Kl.o ?_;dsimp only[List.set];refine last.done ?_;(go_wp2_with fail);go_ret;rw[HR.o];exact gj.here H5.o MJ.o (eE.nil _ _)
 |true =>
  cases qe with
  |true =>
   as_aux_lemma =>
    refine last.fS (fun W=>Has W H (.cells #[.int .i64 mk,.int .i64 mc,.int .i64 mn,.int .i64 me,.int .i64 ms,.int .i64 (o:Int),.int .i64 mv,.bool ml,.string ⟨md.toArray⟩] 109)/\W.cell? ⟨sb,4+o*2+1,none⟩=some (.int .i64 vr)) 1000 23 ⟨KV.o.drew,cV⟩ fun HS=>?_;refine last.eN 0 13 (.pointer (some ⟨sb,0,none⟩)) HS.o ?_;dsimp only[List.set];refine last.eN 1 14 (.agg #[.int .i64 mk,.int .i64 mc,.int .i64 mn,.int .i64 me,.int .i64 ms,.int .i64 (o:Int),.int .i64 mv,.bool ml,.string ⟨md.toArray⟩]) HS.o ?_ (hy:=(fun W' Kc=>by have e0:W'.cell? ⟨H,0,none⟩=some (.int .i64 mk):=Kc.1.cell 0;have e1:W'.cell? ⟨H,1,none⟩=some (.int .i64 mc):=Kc.1.cell 1;have e2:W'.cell? ⟨H,2,none⟩=some (.int .i64 mn):=Kc.1.cell 2;have e3:W'.cell? ⟨H,3,none⟩=some (.int .i64 me):=Kc.1.cell 3;have e4:W'.cell? ⟨H,4,none⟩=some (.int .i64 ms):=Kc.1.cell 4;have e5:W'.cell? ⟨H,5,none⟩=some (.int .i64 (o:Int)):=Kc.1.cell 5;have e6:W'.cell? ⟨H,6,none⟩=some (.int .i64 mv):=Kc.1.cell 6;have e7:W'.cell? ⟨H,7,none⟩=some (.bool ml):=Kc.1.cell 7;have e8:W'.cell? ⟨H,8,none⟩=some (.string ⟨md.toArray⟩):=Kc.1.cell 8;go_simp));dsimp only[List.set];refine last.one 2 fun K hK=>?_;go_simp;refine OI.o.mono ?_;rintro e W5 ⟨rfl,Kx⟩;have H5:=Hd (H2.o.below ((Below.refl _ W2).drew.trans Kx));have MJ:=Hd (K4.o.drew.gn Kx (aq _));have Kl:Hy ((fun W=>Has W H (.cells #[.int .i64 mk,.int .i64 mc,.int .i64 mn,.int .i64 me,.int .i64 ms,.int .i64 (o:Int),.int .i64 mv,.bool ml,.string ⟨md.toArray⟩] 109)/\W.cell? ⟨sb,4+o*2+1,none⟩=some (.int .i64 vr)) W5):=Hd ⟨HS.o.1.below Kx HS.o.1.lt,(Kx.cell (p:=⟨sb,4+o*2+1,none⟩) MO).trans cV⟩;refine hK.out _ _ (fun _=>Kl.o) ?_;clear hK K HS Kx OI H2 K4 KV cV MO;refine last.eN 3 16 (.bool false) Kl.o ?_;dsimp only[List.set];refine last.eN 4 17 (.bool false) Kl.o ?_;dsimp only[List.set];refine last.eN 5 18 (.slice qa n qc) Kl.o ?_;dsimp only[List.set];refine last.eN 6 19 (.int .i64 n) Kl.o ?_;dsimp only[List.set];refine last.eN 7 20 (.bool true) Kl.o ?_ (hy:=(fun W' Kc=>by have e9:=eqe;go_simp));dsimp only[List.set];refine last.eN 8 21 (.bool true) Kl.o ?_;dsimp only[List.set];refine last.eN 9 22 (.bool true) Kl.o ?_;dsimp only[List.set];refine last.gO 10 23 rfl rfl (by kernel_rfl) (by kernel_rfl) (by kernel_rfl) (by kernel_rfl) (fun _ _ _ h=>h) Kl.o (by rfl) ?_;dsimp only[List.set];refine last.gO 11 24 rfl rfl (by kernel_rfl) (by kernel_rfl) (by kernel_rfl) (by kernel_rfl) (fun _ _ _ h=>h) Kl.o (by rfl) ?_;dsimp only[List.set];refine last.gO 12 25 rfl rfl (by kernel_rfl) (by kernel_rfl) (by kernel_rfl) (by kernel_rfl) (fun _ _ _ h=>h) Kl.o (by rfl) ?_;dsimp only[List.set];refine last.gO 13 26 rfl rfl (by kernel_rfl) (by kernel_rfl) (by kernel_rfl) (by kernel_rfl) (fun _ _ _ h=>h) Kl.o (by rfl) ?_;dsimp only[List.set];refine last.gO 14 27 rfl rfl (by kernel_rfl) (by kernel_rfl) (by kernel_rfl) (by kernel_rfl) (fun _ _ _ h=>h) Kl.o (by rfl) ?_;dsimp only[List.set];refine last.gO 15 28 rfl rfl (by kernel_rfl) (by kernel_rfl) (by kernel_rfl) (by kernel_rfl) (fun _ _ _ h=>h) Kl.o (by rfl) ?_;dsimp only[List.set];refine last.gO 16 29 rfl rfl (by kernel_rfl) (by kernel_rfl) (by kernel_rfl) (by kernel_rfl) (fun _ _ _ h=>h) Kl.o (by rfl) ?_;dsimp only[List.set];refine last.gO 17 30 rfl rfl (by kernel_rfl) (by kernel_rfl) (by kernel_rfl) (by kernel_rfl) (fun _ _ _ h=>h) Kl.o (by rfl) ?_;dsimp only[List.set];refine last.gO 18 31 rfl rfl (by kernel_rfl) (by kernel_rfl) (by kernel_rfl) (by kernel_rfl) (fun _ _ _ h=>h) Kl.o (by rfl) ?_;dsimp only[List.set];refine last.gO 19 32 rfl rfl (by kernel_rfl) (by kernel_rfl) (by kernel_rfl) (by kernel_rfl) (fun _ _ _ h=>h) Kl.o (by rfl) ?_;dsimp only[List.set];refine last.gO 20 33 rfl rfl (by kernel_rfl) (by kernel_rfl) (by kernel_rfl) (by kernel_rfl) (fun _ _ _ h=>h) Kl.o (by rfl) ?_;dsimp only[List.set];refine last.gO 21 34 rfl rfl (by kernel_rfl) (by kernel_rfl) (by kernel_rfl) (by kernel_rfl) (fun _ _ _ h=>h) Kl.o (by rfl) ?_;dsimp only[List.set];refine last.eN 22 35 (.bool true) Kl.o ?_;dsimp only[List.set];refine last.done ?_;(go_wp2_with fail);go_ret;rw[HR.o];exact gj.here H5.o MJ.o (eE.nil _ _)
  |false =>
   refine last.fS (fun W=>Has W H (.cells #[.int .i64 mk,.int .i64 mc,.int .i64 mn,.int .i64 me,.int .i64 ms,.int .i64 (o:Int),.int .i64 mv,.bool ml,.string ⟨md.toArray⟩] 109)/\W.cell? ⟨sb,4+o*2+1,none⟩=some (.int .i64 vr)) 1000 23 ⟨KV.o.drew,cV⟩ fun HS=>?_;refine last.eN 0 13 (.pointer (some ⟨sb,0,none⟩)) HS.o ?_;dsimp only[List.set];refine last.eN 1 14 (.agg #[.int .i64 mk,.int .i64 mc,.int .i64 mn,.int .i64 me,.int .i64 ms,.int .i64 (o:Int),.int .i64 mv,.bool ml,.string ⟨md.toArray⟩]) HS.o ?_ (hy:=(fun W' Kc=>by have e0:W'.cell? ⟨H,0,none⟩=some (.int .i64 mk):=Kc.1.cell 0;have e1:W'.cell? ⟨H,1,none⟩=some (.int .i64 mc):=Kc.1.cell 1;have e2:W'.cell? ⟨H,2,none⟩=some (.int .i64 mn):=Kc.1.cell 2;have e3:W'.cell? ⟨H,3,none⟩=some (.int .i64 me):=Kc.1.cell 3;have e4:W'.cell? ⟨H,4,none⟩=some (.int .i64 ms):=Kc.1.cell 4;have e5:W'.cell? ⟨H,5,none⟩=some (.int .i64 (o:Int)):=Kc.1.cell 5;have e6:W'.cell? ⟨H,6,none⟩=some (.int .i64 mv):=Kc.1.cell 6;have e7:W'.cell? ⟨H,7,none⟩=some (.bool ml):=Kc.1.cell 7;have e8:W'.cell? ⟨H,8,none⟩=some (.string ⟨md.toArray⟩):=Kc.1.cell 8;go_simp));dsimp only[List.set];refine last.one 2 fun K hK=>?_;go_simp;refine OI.o.mono ?_;rintro e W5 ⟨rfl,Kx⟩;have H5:=Hd (H2.o.below ((Below.refl _ W2).drew.trans Kx));have MJ:=Hd (K4.o.drew.gn Kx (aq _));have Kl:Hy ((fun W=>Has W H (.cells #[.int .i64 mk,.int .i64 mc,.int .i64 mn,.int .i64 me,.int .i64 ms,.int .i64 (o:Int),.int .i64 mv,.bool ml,.string ⟨md.toArray⟩] 109)/\W.cell? ⟨sb,4+o*2+1,none⟩=some (.int .i64 vr)) W5):=Hd ⟨HS.o.1.below Kx HS.o.1.lt,(Kx.cell (p:=⟨sb,4+o*2+1,none⟩) MO).trans cV⟩;refine hK.out _ _ (fun _=>Kl.o) ?_;clear hK K HS Kx OI H2 K4 KV cV MO;refine last.eN 3 16 (.bool false) Kl.o ?_;dsimp only[List.set];refine last.eN 4 17 (.bool false) Kl.o ?_;dsimp only[List.set];refine last.eN 5 18 (.slice qa n qc) Kl.o ?_;dsimp only[List.set];refine last.eN 6 19 (.int .i64 n) Kl.o ?_;dsimp only[List.set];refine last.eN 7 20 (.bool false) Kl.o ?_ (hy:=(fun W' Kc=>by have e9:=eqe;go_simp));dsimp only[List.set];refine last.eN 8 21 (.bool false) Kl.o ?_;dsimp only[List.set];refine last.eN 9 22 (.bool false) Kl.o ?_;dsimp only[List.set];refine last.eN 10 23 (.pointer (some ⟨H,6,none⟩)) Kl.o ?_;dsimp only[List.set];refine last.eN 11 24 (.int .i64 mv) Kl.o ?_ (hy:=(fun W' Kc=>by have e1:W'.cell? ⟨H,6,none⟩=some (.int .i64 mv):=Kc.1.cell 6;go_simp));dsimp only[List.set];refine last.eN 12 25 (.pointer (some ⟨sb,0,none⟩)) Kl.o ?_;dsimp only[List.set];refine last.eN 13 26 (.pointer (some ⟨H,5,none⟩)) Kl.o ?_;dsimp only[List.set];refine last.eN 14 27 (.int .i64 o) Kl.o ?_ (hy:=(fun W' Kc=>by have e1:W'.cell? ⟨H,5,none⟩=some (.int .i64 o):=Kc.1.cell 5;go_simp));dsimp only[List.set];refine last.eN 15 28 (.pointer (some ⟨sb,0,none⟩)) Kl.o ?_;dsimp only[List.set];refine last.eN 16 29 (.pointer (some ⟨sb,4,none⟩)) Kl.o ?_;dsimp only[List.set];refine last.eN 17 30 (.pointer (some ⟨sb,4+o*2,none⟩)) Kl.o ?_;dsimp only[List.set];refine last.eN 18 31 (.pointer (some ⟨sb,4+o*2+1,none⟩)) Kl.o ?_;dsimp only[List.set];refine last.eN 19 32 (.int .i64 vr) Kl.o ?_ (hy:=(fun W' Kc=>by have e1:=Kc.2;go_simp));dsimp only[List.set];refine last.eN 20 33 (.int .i64 vv) Kl.o ?_ (hy:=(fun W' Kc=>by have e9:=ewv;go_simp));dsimp only[List.set];refine last.eN 21 34 (.bool vn) Kl.o ?_ (hy:=(fun W' Kc=>by have e9:=mu;go_simp));dsimp only[List.set];refine last.eN 22 35 (.bool vn) Kl.o ?_;dsimp only[List.set];refine last.done ?_;have L6:=Hd Kl.o.1;clear Kl
   cases vn with
   |true =>
    as_aux_lemma =>
     (go_wp2_with fail);go_ret;rw[HR.o];exact gj.here H5.o MJ.o (eE.nil _ _)
   |false =>
    have Ll:Hy (r=dC.fA d {s with eo:=s.eo.drop mc o} o):=Hd HR.o;have Qf:W5.cell? ⟨sb,29,none⟩=some (.pointer (some ⟨tb,0,none⟩)):=H5.o.gQ 1 _ rfl;have z1:W5.cell? ⟨H,1,none⟩=some (.int .i64 mc):=L6.o.cell 1;have z5:W5.cell? ⟨H,5,none⟩=some (.int .i64 o):=L6.o.cell 5;have adM:sb<W5.heap.size:=H5.o.s_.lt;have Wd:H<W5.heap.size:=L6.o.lt;have U6:sb≠tb/\sb≠tm:=⟨fun e=>(by have h1:=H5.o.fJ;rw[e,H5.o.iQ]at h1;cases h1),fun e=>(by have h1:=H5.o.fJ;rw[e,H5.o.iR]at h1;cases h1)⟩;have n1:¬(sb=tb\/sb=tm):=fun e=>e.elim U6.1 U6.2;have n2:¬(H=tb\/H=tm):=Wc.o;have Zy:=Hd (Cs mc o H5.o.eo.drew (WalkArith.wf_i64 (by omega)) (WalkArith.wf_i64 (by omega)));clear mu eqe ewv;(go_upto_region 4 with fail);(go_region_held3 (fun W=>W.cell? ⟨sb,29,none⟩=some (.pointer (some ⟨tb,0,none⟩))/\W.cell? ⟨H,1,none⟩=some (.int .i64 mc)/\W.cell? ⟨H,5,none⟩=some (.int .i64 o)) (first|exact⟨(ht.cell (p:=⟨sb,29,none⟩) adM n1).trans Qf,(ht.cell (p:=⟨H,1,none⟩) Wd n2).trans z1,(ht.cell (p:=⟨H,5,none⟩) Wd n2).trans z5⟩|go_keep) ((go_at_call 195;refine Zy.o.mono ?_;rintro e W8 ⟨rfl,Sq,ht⟩)));have H8:=Hd ((H5.o.below (Below.refl _ _).drew).setTable ht _ Sq);have ME:=Hd (MJ.o.drew.trans ht fun k _ e=>H5.o.tr k (by rcases e with e|e;rw[e];exact H5.o.eo.lt.1;rw[e];exact H5.o.eo.lt.2) e);have z5':W8.cell? ⟨H,5,none⟩=some (.int .i64 o):=(ht.cell (p:=⟨H,5,none⟩) Wd n2).trans z5;have Pv:=Hd (tA W8 o ho H8.o);clear Sq ht H5 MJ L6 Zy Qf z1 z5;(go_wp2_with (go_at_call 168;refine Pv.o.mono ?_;rintro e W9 ⟨u9,Ox,v9,We,qs9,rfl,hp9⟩));go_ret;rw[Ll.o];exact gj.ahead ME.o ⟨u9,Ox,v9,We,qs9,rfl,hp9⟩
end
end dR
end
namespace dR
open Go.RowKit heap own dK eO fq dZ fD eK
open dI (Rec dW fE Wr dC eY eA eG ez put del)
theorem Eg (s:dC) (f:List Wr->Bool) (h:s.eQ.length=8):s.eQ.any f=(List.range 8).any fun j=>f (s.dX j):=by
 have e:s.eQ=(List.range 8).map fun j=>s.dX j:=by
  apply List.ext_getElem?;intro i;rw[aY];unfold dC.dX;rcases aW i 8 with hi|hi
  ·rw[List.getElem?_range hi,ax (by omega)];simp only[Option.map_some,aB];rw[ax (by omega)];rfl
  rw[bm (by omega),bm (by simp;omega)];rfl
 rw[e,List.any_map];(have e2:∀j,j<8->dC.dX {s with eQ:=(List.range 8).map fun j=>s.dX j} j=s.dX j:=fun j _=>by rw[<- e]);rfl
theorem Eh {o:Oper} {a:Act} {w:World} {K:Act->World->Prop} {Q:Exit->Act->World->Prop} {own:Nat->Nat} (x y:Operand) (T g:Nat) (v:Value) (l:List Wr) (e:Wr) (ho:o.op=.call {callee:=.builtin .append,args:=#[x,y],argTypes:=#[100,100]})
 (hx:a.eval x=v) (hy:a.eval y=.slice (some ⟨g,0,none⟩) 1 1) (hq:fH own T w 263 4 v l.length (l.flatMap iF)) (hg:Has w g (.cells (iF e).toArray 263)) (hl:l.length<=1000)
 (h:∀g' off cap w',fH (jj own w T) T w' 263 4 (.slice (some ⟨g',off,none⟩) (l.length+1) cap) (l.length+1) ((l++[e]).flatMap iF)->w.grownBy w' v.ownBlock->(v.ownBlock=some g'\/w.heap.size<=g')->K (a.put o.dst (.slice (some ⟨g',off,none⟩) (l.length+1) cap)) w'):o.wp Tryz.prog a w K Q:=by
 obtain⟨i0,KO,La,KH,KD⟩:=info_parts DG
 obtain⟨g',off,cap,w',L4,h2,h3,h4⟩:=DA (P:=Tryz.prog) 100 o.type i0 _ 40 Tryz.underlying100 KO La KH KD rfl (by decide) hq ⟨g,0,none⟩ 1 1 (iF e) rfl (fun j u hj=>by
  have e1:(⟨g,0,none⟩:Addr).add j=⟨g,j,none⟩:=by by_cases h0:j=0<;>simp[Addr.add,h0]
  rw[e1,hg.cell,aC,hj]) (DE e) (by decide) (by unfold maxLen;omega) (by omega)
 unfold Oper.wp execOp;simp only[ho,resolve,invoke,builtin,Sem.run_bind,Sem.run_pure,Result.andThen_ok,List.map_toArray,bf,bJ,hx,hy,L4];refine h g' off cap w' ?_ h3 h4;rw[bY,List.flatMap_singleton];exact h2
theorem gj.Ei {P:Lib.PrintTabs} {own own1:Nat->Nat} {w0 w w1 w':World} {sb db wb dm tb tm:Nat} {r:List dH×dW×dC} {e:Ending} (he:Ext w own own1) (ht:dD (ey own) w w1) (h:gj P own1 w0 w1 sb db wb dm tb tm r e w'):gj P own w0 w sb db wb dm tb tm r e w':=by
 obtain⟨u,own2,v1,OL,NX,h1,h2,h3,h4,h5⟩:=h;exact⟨u,own2,v1,OL,NX,h1,fun k hk=>(h2 k (ay hk ht.size)).trans (he k hk),h3.base ht.size,h4,ht.trans h5 fun k hk e=>by unfold ey at e⊢;rwa [he k hk]at e⟩
section
variable {P:Lib.PrintTabs} {own:Nat->Nat} {w0:World} {sb db wb dm tb tm:Nat} {v:Value} {ps:List ByteArray} {qs:List Value} {d:dW} {s:dC}
theorem Ej (w:World) (m:dH) (o:Nat) (ho:o<8) (Pp:m.dF=o) (RL:0<=m.dL/\m.dL<4) (h:eh P own w0 w sb db wb dm tb tm v ps qs d s) :
 Calls Tryz.prog 160 #[.pointer (some ⟨sb,0,none⟩),m.val] w (gj P own w0 w sb db wb dm tb tm (dC.j5 d s m)):=by
 obtain⟨mk,mc,mn,me,ms,mo,mv,ml,md⟩:=m;dsimp only at Pp RL;subst Pp;(have M5:(o:Int)<8:=by omega);obtain⟨H,hH⟩:∃H,H=w.heap.size:=⟨_,rfl⟩;obtain⟨W1,Kh⟩:∃W1,W1=w.alloc (.cells #[.int .i64 mk,.int .i64 mc,.int .i64 mn,.int .i64 me,.int .i64 ms,.int .i64 (o:Int),.int .i64 mv,.bool ml,.string ⟨md.toArray⟩] 109):=⟨_,rfl⟩;(have Kd:Below w.heap.size w W1:=by rw[Kh];exact (Below.refl _ _).alloc (aq _) _);(have Kf:Has W1 H (.cells #[.int .i64 mk,.int .i64 mc,.int .i64 mn,.int .i64 me,.int .i64 ms,.int .i64 (o:Int),.int .i64 mv,.bool ml,.string ⟨md.toArray⟩] 109):=by rw[Kh,hH];exact Has.new w _);have h1:=h.below Kd;have Ri:Hy (own H=0):=Hd (h.fr H (by omega));obtain⟨r,hr⟩:∃r,r=dC.j5 d s ⟨mk,mc,mn,me,ms,o,mv,ml,md⟩:=⟨_,rfl⟩;obtain⟨r2,LO⟩:∃r2,r2=dC.enqueue d s ⟨mk,mc,mn,me,ms,o,mv,ml,md⟩:=⟨_,rfl⟩;obtain⟨x,hx⟩:∃x,x=(ez mc s.done).getD tj:=⟨_,rfl⟩;obtain⟨Wf,L5⟩:∃Wf,Wf=(ez mc s.done).isSome:=⟨_,rfl⟩;have Wg:Hy (Value.tuple #[kC.ev ((ez mc s.done).getD kC.z),.bool (ez mc s.done).isSome]=.tuple #[x.val,.bool Wf]):=Hd (by rw[hx,L5];rfl)
 have HR:Hy (r=if Wf&&decide (mn<=x.dN) then (if mn<x.dN then ([],d,s) else ([s.eL x],d,s)) else r2):=Hd (by
  rw[hr,LO,hx,L5];unfold dC.j5
  cases hs:ez mc s.done with
  |none=>rfl
  |some y =>
   show (if mn<=y.dN then (if mn<y.dN then ([],d,s) else ([s.eL y],d,s)) else dC.enqueue d s _)=_
   simp only[Option.isSome_some,Bool.true_and,decide_eq_true_eq,Option.getD_some])
 obtain⟨dk,dc,dn,de,dS,dO,dV,dl,dd⟩:=x;unfold dH.val at Wg;dsimp only at Wg HR;have OD:Hy (gi mc):=Hd (WalkArith.wf_i64 (by omega));have H1:=Hd h1;have KS:=Hd Kf;have KP:Hy (dD (ey own) w W1):=Hd (dD.fw Kd (aq _));have Ld:=Hd LO;have c28:W1.cell? ⟨sb,28,none⟩=some (.map (some dm)):=h1.gQ 0 _ rfl;have x1:W1.cell? ⟨H,1,none⟩=some (.int .i64 mc):=Kf.cell 1;have MO:sb<W1.heap.size:=h1.s_.lt;have O0:H<W1.heap.size:=Kf.lt;rw[<- hr];unfold dH.val;dsimp only;clear hr LO hx L5 h h1 Kf Kd;(go_enter Tryz.func160,Tryz.ntmps160);(go_upto_region 1 with fail);rw[<- Kh,<- hH];have Q8:Hy (w.heap.size<=H):=Hd (cU hH.symm);clear Kh hH;refine last.fS (fun W=>W.cell? ⟨sb,28,none⟩=some (.map (some dm))/\W.cell? ⟨H,1,none⟩=some (.int .i64 mc)/\At kC W dm s.done) 1000 13 ⟨c28,x1,H1.o.done⟩ fun HS=>?_;refine last.many [(0,10,_),(1,11,_),(2,12,_),(3,13,_),(4,14,_),(5,15,_)] HS.o ?_ (hy:=fun W' Kc=>by have e1:=Kc.1;have f0:=Kc.2.1;repeat (first|exact .z|refine .s ?_|refine .k ?_));refine last.nL 6 16 (.tuple #[.agg #[.int .i64 dk,.int .i64 dc,.int .i64 dn,.int .i64 de,.int .i64 dS,.int .i64 dO,.int .i64 dV,.bool dl,.string ⟨dd.toArray⟩],.bool Wf]) rfl rfl (by kernel_rfl) (by kernel_rfl) (by kernel_rfl) (by kernel_rfl) (fun _ _ _ h=>h) HS.o (by rfl) (fun W' Kc=>by (rw[<- Wg.o];exact BH kC (.tmp 13) (.tmp 15) rfl rfl Kc.2.2 OD.o rfl)) ?_;dsimp only[List.set];refine last.many [(7,9,_),(8,17,_),(9,18,_)] HS.o ?_;refine last.one 10 fun K hK=>?_;go_simp;have hz:Below W1.heap.size W1 (W1.drew.alloc (.cells #[.int .i64 0,.int .i64 0,.int .i64 0,.int .i64 0,.int .i64 0,.int .i64 0,.int .i64 0,.bool false,.string ⟨#[]⟩] 109)):=((Below.refl _ W1).drew.alloc (aq _) _);have Kq:Hy ((fun W=>W.cell? ⟨sb,28,none⟩=some (.map (some dm))/\W.cell? ⟨H,1,none⟩=some (.int .i64 mc)/\At kC W dm s.done) (W1.drew.alloc (.cells #[.int .i64 0,.int .i64 0,.int .i64 0,.int .i64 0,.int .i64 0,.int .i64 0,.int .i64 0,.bool false,.string ⟨#[]⟩] 109))):=Hd ⟨(hz.cell (p:=⟨sb,28,none⟩) MO).trans c28,(hz.cell (p:=⟨H,1,none⟩) O0).trans x1,(H1.o.below hz).done⟩;refine hK.out _ _ (fun _=>Kq.o) ?_;clear hK K;refine last.one 11 fun K hK=>?_;go_simp;have KD:Below W1.heap.size W1 (W1.alloc (.cells #[.int .i64 dk,.int .i64 dc,.int .i64 dn,.int .i64 de,.int .i64 dS,.int .i64 dO,.int .i64 dV,.bool dl,.string ⟨dd.toArray⟩] 109)).drew:=((Below.refl _ W1).alloc (aq _) _).drew;have Lp:Hy ((fun W=>W.cell? ⟨sb,28,none⟩=some (.map (some dm))/\W.cell? ⟨H,1,none⟩=some (.int .i64 mc)/\At kC W dm s.done) (W1.alloc (.cells #[.int .i64 dk,.int .i64 dc,.int .i64 dn,.int .i64 de,.int .i64 dS,.int .i64 dO,.int .i64 dV,.bool dl,.string ⟨dd.toArray⟩] 109)).drew):=Hd ⟨(KD.cell (p:=⟨sb,28,none⟩) MO).trans c28,(KD.cell (p:=⟨H,1,none⟩) O0).trans x1,(H1.o.below KD).done⟩;refine hK.out _ _ (fun _=>Lp.o) ?_;clear hK K;refine last.many [(12,6,_)] Lp.o ?_;refine last.done ?_;obtain⟨D,hD⟩:∃D,D=W1.heap.size:=⟨_,rfl⟩;obtain⟨W2,Kv⟩:∃W2,W2=(W1.alloc (.cells #[.int .i64 dk,.int .i64 dc,.int .i64 dn,.int .i64 de,.int .i64 dS,.int .i64 dO,.int .i64 dV,.bool dl,.string ⟨dd.toArray⟩] 109)).drew:=⟨_,rfl⟩;rw[<- Kv,<- hD];have H2:Hy (eh P own w0 W2 sb db wb dm tb tm v ps qs d s):=Hd (by rw[Kv];exact H1.o.below KD);have KV:Hy (Has W2 H (.cells #[.int .i64 mk,.int .i64 mc,.int .i64 mn,.int .i64 me,.int .i64 ms,.int .i64 (o:Int),.int .i64 mv,.bool ml,.string ⟨md.toArray⟩] 109)):=Hd (by rw[Kv];exact KS.o.below KD KS.o.lt);have Pn:Hy (Has W2 D (.cells #[.int .i64 dk,.int .i64 dc,.int .i64 dn,.int .i64 de,.int .i64 dS,.int .i64 dO,.int .i64 dV,.bool dl,.string ⟨dd.toArray⟩] 109)):=Hd (by rw[Kv,hD];exact (Has.new W1 _).drew);have K4:Hy (dD (ey own) w W2):=Hd (by rw[Kv];exact KP.o.gn KD (aq _));clear Kv hD hz KD HS Kq Lp c28 x1 MO O0 H1 KS KP;obtain⟨le,hle⟩:∃le,le=decide (mn<=dn):=⟨_,rfl⟩;obtain⟨lb,O5⟩:∃lb,lb=(Wf&&le):=⟨_,rfl⟩;have ele:decide (mn<=dn)=le:=hle.symm;rw[<- hle,<- O5]at HR;have XP:=Hd O5;have x2:W2.cell? ⟨H,2,none⟩=some (.int .i64 mn):=KV.o.cell 2;have d2:W2.cell? ⟨D,2,none⟩=some (.int .i64 dn):=Pn.o.cell 2;clear hle O5;(go_upto_region 2 with fail);go_cut [26] (fun t wx=>wx=W2/\t=.bool lb)
 case first =>
  cases Wf with
  |false =>
   have HL0:Hy (lb=false):=Hd XP.o;(go_wp2_with fail);go_meet;case rel=>exact⟨rfl,by rw[HL0.o]⟩
  |true =>
   have HL0:Hy (lb=le):=Hd XP.o;(go_wp2_with fail);go_meet;case rel=>exact⟨rfl,by rw[HL0.o]⟩
 case rest =>
  obtain⟨Lv,rfl⟩:=hcut;subst Lv;clear XP ele Wg
  cases lb with
  |true =>
   as_aux_lemma =>
    obtain⟨lt,Kg⟩:∃lt,lt=decide (mn<dn):=⟨_,rfl⟩;have elt:decide (mn<dn)=lt:=Kg.symm;have K2:=Hd Kg;clear Kg
    cases lt with
    |true =>
     have HE:Hy (r=([],d,s)):=Hd (by rw[HR.o,if_pos rfl,if_pos (of_decide_eq_true K2.o.symm)]);(go_wp2_with fail);go_ret;rw[HE.o];exact gj.here H2.o K4.o (eE.nil _ _)
    |false =>
     have HE:Hy (r=([s.eL ⟨dk,dc,dn,de,dS,dO,dV,dl,dd⟩],d,s)):=Hd (by rw[HR.o,if_pos rfl,if_neg (of_decide_eq_false K2.o.symm)])
     go_wp2_with (first
      |(refine wpList_load_row rfl 109 (.tmp 5) rfl D rfl 109 _ (0,0) _ Pn.o Tryz.underlying109 rfl (by kernel_rfl) ?_)
      |(go_at_call 184;refine (nQ _ ⟨dk,dc,dn,de,dS,dO,dV,dl,dd⟩ H2.o).mono ?_;rintro e w3 ⟨rfl,Kk⟩)
      |(refine kU rfl (.tmp 34) (s.eL ⟨dk,dc,dn,de,dS,dO,dV,dl,dd⟩) rfl rfl ?_))
     go_ret;rw[HE.o];have L0:=Kk.alloc Kk.size (.cells (([s.eL ⟨dk,dc,dn,de,dS,dO,dV,dl,dd⟩]:List dH).flatMap fT).toArray 109);exact gj.here (H2.o.below L0) (K4.o.gn L0 (aq _)) ((eE.new (w:=w3) (l:=[s.eL ⟨dk,dc,dn,de,dS,dO,dV,dl,dd⟩]) (by simp)).base (az K4.o.size Kk.size))
  |false =>
   have HE:Hy (r=dC.enqueue d s ⟨mk,mc,mn,me,ms,o,mv,ml,md⟩):=Hd (by rw[HR.o,<- Ld.o];rfl);clear HR Ld Pn d2 x2;obtain⟨an,han⟩:∃an,an=(List.range 8).any fun j=>(s.dX j).any (kD mc mn):=⟨_,rfl⟩;obtain⟨c1,Ln⟩:∃c1,c1=decide (10<=(s.dX o).length):=⟨_,rfl⟩;obtain⟨c2,KL⟩:∃c2,c2=decide (20<md.length):=⟨_,rfl⟩
   have Wh:Hy (r=if an then ([],d,s) else if (c1||c2) then ([],d,s) else dC.fA d {s with eQ:=s.eQ.set o (s.dX o++[⟨mc,mn,md,false⟩])} o):=Hd (by
    rw[HE.o];unfold dC.enqueue;dsimp only
    have e1:(s.eQ.any fun q=>q.any fun w=>decide (w.dL=mc)&&decide (mn<=w.dN))=an:=by
     rw[han];exact Eg s (fun q=>q.any (kD mc mn)) H2.o.nq
    rw[e1];have e2:(Int.toNat (o:Int))=o:=rfl;rw[e2];split
    ·rfl
    have e3:(10<=(s.dX o).length||decide (20<md.length))=(c1||c2):=by rw[Ln,KL]
    simp only[e3])
   have HAN:=Hd han;have N6:=Hd Ln;have Nn:=Hd KL;clear HE han Ln KL;obtain⟨q0,q1,q2,q3,q4,q5,q6,q7,RE⟩:=eight H2.o.lq;subst RE;have a0:wc.cell? ⟨sb,20,none⟩=some q0:=H2.o.ik 0 (by decide);have a1:wc.cell? ⟨sb,21,none⟩=some q1:=H2.o.ik 1 (by decide);have a2:wc.cell? ⟨sb,22,none⟩=some q2:=H2.o.ik 2 (by decide);have a3:wc.cell? ⟨sb,23,none⟩=some q3:=H2.o.ik 3 (by decide);have a4:wc.cell? ⟨sb,24,none⟩=some q4:=H2.o.ik 4 (by decide);have a5:wc.cell? ⟨sb,25,none⟩=some q5:=H2.o.ik 5 (by decide);have a6:wc.cell? ⟨sb,26,none⟩=some q6:=H2.o.ik 6 (by decide);have a7:wc.cell? ⟨sb,27,none⟩=some q7:=H2.o.ik 7 (by decide);(go_upto_region 7 with fail);clear a0 a1 a2 a3 a4 a5 a6 a7;(go_loopw [40] (fun q40 wr=>∃k:Nat,k<=8/\q40=.int .i64 k/\((List.range k).any fun j=>(s.dX j).any (kD mc mn))=false/\Below wc.heap.size wc wr) (fun q40 _=>8-(intOf q40).toNat));case atStart=>exact⟨0,by omega,rfl,rfl,Below.refl _ _⟩
   case round =>
    obtain⟨k,hk,rfl,L3,hb⟩:=hrel;have HB:=Hd hb;have Lz:=Hd L3;clear hb L3;by_cases PT:k<8
    ·as_aux_lemma =>
      (have R6:(k:Int)<8:=by omega);have Y6:=xx q0 q1 q2 q3 q4 q5 q6 q7 wr k PT;obtain⟨qv,hqv⟩:∃qv,qv=[q0,q1,q2,q3,q4,q5,q6,q7].getD k undef:=⟨_,rfl⟩;rw[<- hqv]at Y6;obtain⟨wb1,Su⟩:∃wb1,wb1=(s.dX k).any (kD mc mn):=⟨_,rfl⟩
      have M6:Hy (Calls Tryz.prog 189 #[qv,.func (.func 190) #[] #[.pointer (some ⟨H,0,none⟩)]] wr fun e w'=>e=.returned (.bool wb1)/\Below wr.heap.size wr w'):=Hd (by
       rw[Su];have hq:=(H2.o.below HB.o).dX k PT;rw[<- hqv]at hq
       exact DZ own (10+k) qv (s.dX k) mk mc mn me ms o mv ml ⟨md.toArray⟩ H wr hq (KV.o.below HB.o KV.o.lt))
      have HWB:=Hd Su;clear hqv Su
      cases wb1 with
      |true =>
       have HE:Hy (r=([],d,s)):=Hd (by
        have:an=true:=by
         rw[HAN.o];exact cB.2 ⟨k,List.mem_range.2 PT,HWB.o.symm⟩
        rw[Wh.o,if_pos this])
       (go_wp2_with (go_at_call 189;refine M6.o.mono ?_;rintro e w3 ⟨rfl,Kk⟩));go_ret;rw[HE.o];exact gj.here (H2.o.below (HB.o.trans (Kk.mono HB.o.size))) (K4.o.gn (HB.o.trans (Kk.mono HB.o.size)) (aq _)) (eE.nil _ _)
      |false =>
       (go_wp2_with (go_at_call 189;refine M6.o.mono ?_;rintro e w3 ⟨rfl,Kk⟩));go_roundw
       case rel =>
        refine⟨k+1,by omega,by go_num,?_,HB.o.trans (Kk.mono HB.o.size)⟩;rw[List.range_succ,dw,Lz.o];simp[<- HWB.o]
       case measure=>simp[intOf];omega
    (obtain rfl:k=8:=by omega);have HAF:Hy (an=false):=Hd (by rw[HAN.o];exact Lz.o);have H3:=Hd (H2.o.below HB.o);have L7:=Hd (KV.o.below HB.o KV.o.lt);have LQ:=Hd (K4.o.gn HB.o (aq _));have T7:Hy (r=if (c1||c2) then ([],d,s) else dC.fA d {s with eQ:=s.eQ.set o (s.dX o++[⟨mc,mn,md,false⟩])} o):=Hd (by rw[Wh.o,if_neg (by rw[HAF.o];decide)]);clear Wh HAF HAN Lz HB H2 KV K4;obtain⟨qa,qc,hq,-,-⟩:=(H3.o.dX o ho).slice;obtain⟨qs,RE⟩:∃qs,qs=[q0,q1,q2,q3,q4,q5,q6,q7]:=⟨_,rfl⟩;rw[<- RE]at H3 hq;obtain⟨n,hn⟩:∃n,n=(s.dX o).length:=⟨_,rfl⟩;(have c20:wr.cell? ⟨sb,20+o,none⟩=some (.slice qa n qc):=by rw[H3.o.ik o ho,hq,hn]);have x5:wr.cell? ⟨H,5,none⟩=some (.int .i64 o):=L7.o.cell 5;have x8:wr.cell? ⟨H,8,none⟩=some (.string ⟨md.toArray⟩):=L7.o.cell 8;(have ec1:decide ((10:Int)<=(n:Int))=c1:=by rw[N6.o,hn];rw[bE];simp;omega);(have ec2:decide ((20:Int)<(md.length:Int))=c2:=by rw[Nn.o];rw[bE];simp;omega);have HN:=Hd hn;have HQ:=Hd hq;clear hn hq RE;go_upto_region 12 with fail
    cases c1 with
    |true =>
     as_aux_lemma =>
      (go_quiet (fail));(go_wp2_with fail);go_ret;rw[T7.o];exact gj.here (H3.o.below (below_drewN (Below.refl _ _) nq)) (LQ.o.drewN nq) (eE.nil _ _)
    |false =>
     cases c2 with
     |true =>
      as_aux_lemma =>
       (go_quiet (fail));(go_wp2_with fail);go_ret;rw[T7.o];exact gj.here (H3.o.below (below_drewN (Below.refl _ _) nq)) (LQ.o.drewN nq) (eE.nil _ _)
     |false =>
      have Ll:Hy (r=dC.fA d {s with eQ:=s.eQ.set o (s.dX o++[⟨mc,mn,md,false⟩])} o):=Hd T7.o;(have VC:(s.dX o).length<10:=by have:=of_decide_eq_false N6.o.symm;omega);(have Zz:md.length<=20:=by have:=of_decide_eq_false Nn.o.symm;omega);have H10:=Hd VC;have H20:=Hd Zz;(go_quiet (fail));obtain⟨W4,MX⟩:∃W4,W4=wr.drewN nq:=⟨_,rfl⟩;have H4:Hy (eh P own w0 W4 sb db wb dm tb tm v ps qs d s):=Hd (by rw[MX];exact H3.o.below (below_drewN (Below.refl _ _) nq));have LC:Hy (Has W4 H (.cells #[.int .i64 mk,.int .i64 mc,.int .i64 mn,.int .i64 me,.int .i64 ms,.int .i64 (o:Int),.int .i64 mv,.bool ml,.string ⟨md.toArray⟩] 109)):=Hd (by rw[MX];exact L7.o.drewN nq);have RJ:Hy (dD (ey own) w W4):=Hd (by rw[MX];exact LQ.o.drewN nq);rw[<- MX];clear MX H3 L7 LQ T7 c20 x5 x8 ec1 ec2 VC Zz hk PT N6 Nn;(have c20:W4.cell? ⟨sb,20+o,none⟩=some (.slice qa n qc):=by rw[H4.o.ik o ho,HQ.o,HN.o]);have O0:H<W4.heap.size:=LC.o.lt;have MO:sb<W4.heap.size:=H4.o.s_.lt;have f20:=H4.o.s_.frozen (20+o);(go_upto_region 14 with fail);refine last.fS (fun W=>W.cell? ⟨sb,20+o,none⟩=some (.slice qa n qc)/\W.frozen? ⟨sb,20+o,none⟩=false/\Has W H (.cells #[.int .i64 mk,.int .i64 mc,.int .i64 mn,.int .i64 me,.int .i64 ms,.int .i64 (o:Int),.int .i64 mv,.bool ml,.string ⟨md.toArray⟩] 109)) 22 23 ⟨c20,f20,LC.o.drew⟩ fun HS=>?_;refine last.many [(0,62,_),(1,63,_),(2,64,_),(3,65,_),(4,66,_),(5,67,_),(6,68,_),(7,69,_),(8,70,_),(9,71,_),(10,72,_),(11,73,_),(12,74,_),(13,75,_),(14,76,_),(15,77,_),(16,78,_)] HS.o ?_ (hy:=fun W' Kc=>by have e1:W'.cell? ⟨H,5,none⟩=some (.int .i64 o):=Kc.2.2.cell 5;have f0:=Kc.1;have f1:W'.cell? ⟨H,1,none⟩=some (.int .i64 mc):=Kc.2.2.cell 1;have f2:W'.cell? ⟨H,2,none⟩=some (.int .i64 mn):=Kc.2.2.cell 2;have f3:W'.cell? ⟨H,8,none⟩=some (.string ⟨md.toArray⟩):=Kc.2.2.cell 8;repeat (first|exact .z|refine .s ?_|refine .k ?_));refine last.gp [21,20,19] 19 81 (.pointer (some ⟨sb,0,none⟩)) HS.o ?_;dsimp only[List.set];refine last.gp [21,20] 20 82 (.pointer (some ⟨sb,20,none⟩)) HS.o ?_;dsimp only[List.set];refine last.one 17 fun K hK=>?_;go_simp;have Kx:Below W4.heap.size W4 (W4.alloc (.cells #[.int .i64 mc,.int .i64 mn,.string ⟨md.toArray⟩,.bool false] 263)).drew:=((Below.refl _ W4).alloc (aq _) _).drew;have Kl:Hy ((fun W=>W.cell? ⟨sb,20+o,none⟩=some (.slice qa n qc)/\W.frozen? ⟨sb,20+o,none⟩=false/\Has W H (.cells #[.int .i64 mk,.int .i64 mc,.int .i64 mn,.int .i64 me,.int .i64 ms,.int .i64 (o:Int),.int .i64 mv,.bool ml,.string ⟨md.toArray⟩] 109)) (W4.alloc (.cells #[.int .i64 mc,.int .i64 mn,.string ⟨md.toArray⟩,.bool false] 263)).drew):=Hd ⟨(Kx.cell (p:=⟨sb,20+o,none⟩) MO).trans c20,(Kx.frozen (p:=⟨sb,20+o,none⟩) MO).trans f20,LC.o.below Kx O0⟩;refine hK.out _ _ (fun _=>Kl.o) ?_;clear hK K HS;obtain⟨G,hG⟩:∃G,G=W4.heap.size:=⟨_,rfl⟩;obtain⟨W5,Mj⟩:∃W5,W5=(W4.alloc (.cells #[.int .i64 mc,.int .i64 mn,.string ⟨md.toArray⟩,.bool false] 263)).drew:=⟨_,rfl⟩;have OZ:Hy (Has W5 G (.cells (iF ⟨mc,mn,md,false⟩).toArray 263)):=Hd (by rw[Mj,hG];exact (Has.new W4 _).drew);have H5:Hy (eh P own w0 W5 sb db wb dm tb tm v ps qs d s):=Hd (by rw[Mj];exact H4.o.below Kx);have MJ:Hy (dD (ey own) w W5):=Hd (by rw[Mj];exact RJ.o.gn Kx (aq _));rw[<- Mj]at Kl⊢;rw[<- hG];clear Mj hG Kx;have Vd:Hy (fH own (10+o) W5 263 4 (.slice qa n qc) (s.dX o).length ((s.dX o).flatMap iF)):=Hd (by have:=H5.o.dX o ho;rw[HQ.o]at this;rw[HN.o];exact this);refine last.one 18 fun K hK=>?_;refine Eh (.tmp 71) (.tmp 79) (10+o) G (.slice qa n qc) (s.dX o) ⟨mc,mn,md,false⟩ rfl rfl rfl Vd.o OZ.o (by have:=H10.o;omega) fun g7 adU KJ w7 hq7 Pw _=>?_;(have NK:Hy (∀b,(own b=4\/own b=0)->b<W5.heap.size->(Value.slice qa n qc).ownBlock≠some b):=Hd fun b hb LJ e=>by have h9:=(Vd.o.lt b e).2;omega);have Rj:dD (fun b=>(Value.slice qa n qc).ownBlock=some b) W5 w7:=⟨Pw.os,Pw.tape,Pw.output,Pw.size,fun k hk hn=>Pw.block k hk (fun e=>hn e.symm)⟩;have T8:sb<W5.heap.size:=H5.o.s_.lt;have T9:=NK.o sb (.inl H5.o.fJ) T8;have nH7:=NK.o H (.inr (Ri.o)) Kl.o.2.2.lt;have Ny:Hy ((fun W=>W.cell? ⟨sb,20+o,none⟩=some (.slice qa n qc)/\W.frozen? ⟨sb,20+o,none⟩=false/\Has W H (.cells #[.int .i64 mk,.int .i64 mc,.int .i64 mn,.int .i64 me,.int .i64 ms,.int .i64 (o:Int),.int .i64 mv,.bool ml,.string ⟨md.toArray⟩] 109)) w7):=Hd ⟨(Rj.cell (p:=⟨sb,20+o,none⟩) T8 T9).trans Kl.o.1,(Rj.frozen (p:=⟨sb,20+o,none⟩) T8 T9).trans Kl.o.2.1,Rj.has Kl.o.2.2 nH7⟩;refine hK.out _ _ (fun _=>Ny.o) ?_;clear hK K;refine last.many [(21,83,_)] Ny.o ?_;have e20:=Ny.o.1;have e21:=Ny.o.2.1;refine last.one 22 fun K hK=>?_;go_simp;refine hK.out _ _ (fun h=>absurd rfl h) ?_;refine last.done ?_;obtain⟨u8,XF⟩:∃u8:Value,u8=.slice (some ⟨g7,adU,none⟩) ((s.dX o).length+1) KJ:=⟨_,rfl⟩;obtain⟨W8,LD⟩:∃W8,W8=w7.setCell ⟨sb,20+o,none⟩ u8:=⟨_,rfl⟩;rw[<- XF,<- LD];(have K0:dD (fun b=>b=sb) w7 W8:=by rw[LD];exact fp (dD.refl _ _) _ _);have Qo:dD (fun b=>b=sb\/own b=10+o) W5 W8:=(Rj.mono fun k _ hk=>Or.inr (Vd.o.lt k hk).2).trans K0 fun k _ e=>.inl e
      have hs8:Has W8 sb (.cells (iP s.eJ wb s.values (qs.set o u8) dm tb s.dQ s.quiet s.dE s.fa).toArray 103):=by
       rw[LD];have:=(Rj.has H5.o.s_ T9).eu (20+o) u8;rw[aF,xp H5.o.nv H5.o.lq o ho]at this;exact this
      have LH:W5.heap.size<=w7.heap.size:=Pw.size;have adW:w7.heap.size<=W8.heap.size:=K0.size
      have V1:fH (ki (jj own W5 (10+o)) W8) (10+o) W8 263 4 u8 (s.dX o++[(⟨mc,mn,md,false⟩:Wr)]).length ((s.dX o++[(⟨mc,mn,md,false⟩:Wr)]).flatMap iF):=by
       rw[aA,aQ];rw[<- XF]at hq7
       exact hq7.ej K0 (fun k hk=>nR (by omega)) fun k _ hk e=>by
        rw[e,mB T8,H5.o.fJ]at hk;omega
      have H8:=Hd (H5.o.tq o ho u8 (s.dX o++[⟨mc,mn,md,false⟩]) (w':=W8) (own1:=ki (jj own W5 (10+o)) W8) Qo (ph (Ext.new _ _ _) (by omega)) (qY _ _) hs8 V1 (fun y hy=>by
       rcases aO.1 hy with h9|h9
       ·exact H5.o.ok.qc o y h9
       rw[aH.1 h9]
       exact⟨RL,H20.o⟩) (by rw[aA,aQ];have:=H10.o;omega))
      have HE8:Hy (Ext w own (ki (jj own W5 (10+o)) W8)):=Hd fun k hk=>by
       have h9:=MJ.o.size;rw[nR (by omega),mB (by omega)]
      have ME:Hy (dD (ey own) w W8):=Hd (MJ.o.trans Qo fun k _ e=>by
       unfold ey;rcases e with e|e
       ·rw[e,H5.o.fJ];decide
       rw[e];omega)
      have x5:W8.cell? ⟨H,5,none⟩=some (.int .i64 o):=(Qo.has Kl.o.2.2 (fun e=>by
       have h9:=Ri.o;rcases e with e|e
       ·rw[e,H5.o.fJ]at h9;cases h9
       omega)).cell 5
      have Pv:=Hd (tA W8 o ho H8.o);clear LD XF K0 Qo hs8 V1 hq7 Rj Pw hK K Kl Ny e20 e21 H5 Vd OZ NK LH adW T9 nH7;(go_wp2_with (go_at_call 168;refine Pv.o.mono ?_;rintro e W9 ⟨u9,Ox,v9,We,qs9,rfl,hp9⟩));go_ret;rw[Ll.o];exact gj.Ei HE8.o ME.o ⟨u9,Ox,v9,We,qs9,rfl,hp9⟩
end
theorem Ek (w:World) {B B':Nat} (hB:B<=w.heap.size) (ty:TypeId) (v u:Value) (l n:List dH) (hl:eE B w v l) (hn:eE B' w u n) (Rc:l.length+n.length<=1000000) :
 ∃v' w',(Builtin.append_ #[183,183] ty #[v,u]).run Tryz.prog w=.ok v' w'/\eE B w' v' (l++n)/\w.grownBy w' v.ownBlock/\(∀g,v'.ownBlock=some g->v.ownBlock=some g\/g=w.heap.size):=by
 obtain⟨i0,KO,La,KH,KD⟩:=info_parts qS;rcases hn.2 with⟨rfl,h0⟩|⟨g,cap,cur,rfl,hb,hh,h1,h2,h3,h4⟩
 ·have RP:n=[]:=aP h0;refine⟨v,w,?_,by rw[RP,cw];exact hl,World.grownBy.refl w _,fun g hg=>.inl hg⟩;rcases hl.2 with⟨rfl,h5⟩|⟨g,cap,cur,rfl,-,-,hc,-⟩
  ·simp[Builtin.append_,run_underlying Tryz.underlying183,sizeOf,typeInfo,KO,Builtin.lenOf,Builtin.firstCells]
  simp[Builtin.append_,run_underlying Tryz.underlying183,sizeOf,typeInfo,KO,Builtin.lenOf,Builtin.firstCells,hc,storeCells]
 obtain⟨v',w',L4,r1,r2,-,r3⟩:=run_append_own_at (P:=Tryz.prog) w B 183 ty 109 i0 _ 9 80 Tryz.underlying183 KO La KH KD rfl (by decide) v l.length (l.flatMap fT) hl ⟨g,0,none⟩ n.length cap (n.flatMap fT) (kS pP n) (fun j u hj=>by
  (have Pl:j<n.length*9:=by rw[<- kS pP n];exact (ar.1 hj).1);have e1:(⟨g,0,none⟩:Addr).add j=⟨g,j,none⟩:=by by_cases h0:j=0<;>simp[Addr.add,h0]
  rw[e1,(ij hh h4 j Pl).1,hj]) (tf wT n) (by unfold maxLen;omega) (by omega) hB
 refine⟨v',w',L4,?_,r2,fun g' hg'=>?_⟩
 ·unfold eE;rw[aA,bY];exact r1
 rcases r3 with h5|h5
 ·exact .inl (by rw[<- h5];exact hg')
 right;rw[h5]at hg';exact (aw hg').symm
theorem El {o:Oper} {rest:List Oper} {ops:Array Oper} {a:Act} {w:World} {Q:Exit->Act->World->Prop} (hg:o.guard=none) (x y:Operand) {B B':Nat} (hB:B<=w.heap.size) (v u:Value) (l n:List dH) (ho:o.op=.call {callee:=.builtin .append,args:=#[x,y],argTypes:=#[183,183]}) (hx:a.eval x=v) (hy:a.eval y=u)
 (hl:eE B w v l) (hn:eE B' w u n) (Rc:l.length+n.length<=1000000)
 (h:∀v' w',eE B w' v' (l++n)->w.grownBy w' v.ownBlock->(∀g,v'.ownBlock=some g->v.ownBlock=some g\/g=w.heap.size)->wpList Tryz.prog ops Q rest (a.put o.dst v') w'):wpList Tryz.prog ops Q (o::rest) a w:=
 wpList_plain hg fun K hK=>by
  obtain⟨v',w',L4,h2,h3,h4⟩:=Ek w hB o.type v u l n hl hn Rc;unfold Oper.wp execOp;simp only[ho,resolve,invoke,builtin,Sem.run_bind,Sem.run_pure,Result.andThen_ok,List.map_toArray,bf,bJ,hx,hy,L4];exact hK _ _ (h v' w' h2 h3 h4)
theorem xG (o:Nat):∀(f:Nat) (d:dW) (s:dC) (out:List dH),o<s.eQ.length->(dC.jd f d s o out).1.length<=out.length+5*f/\(dC.jd f d s o out).2.2.eQ.length=s.eQ.length
 |0,d,s,out,_=>⟨by simp[dC.jd],rfl⟩
 |f+1,d,s,out,ho=>by
  cases hq:s.dX o with
  |nil=>rw[xy hq];exact⟨by simp,rfl⟩
  |cons x rest =>
   cases hd:s.dU with
   |true=>rw[xz hd];exact⟨by simp,rfl⟩
   |false =>
    rw[rf hq hd]
    have ht:(told s o x out).length<=out.length+4:=by
     unfold told;split
     ·omega
     rw[aA,aS];have:=q9 s.eo o s.dE;omega
    cases hb:(decide (s.dE<s.quiet)||(s.eo.gr o s.dE).any fun c=>s.eo.iJ c s.dE)with
    |true =>
     rw[xA hb];refine⟨?_,by show (fI s o x rest).eQ.length=_;unfold fI;rw[aN]⟩;show (told s o x out).length<=_;omega
    |false =>
     rw[xB hb];obtain⟨s2,KY⟩:∃s2,s2={fI s o x rest with eo:=dI.lY s.eo (s.eo.gr o s.dE)}:=⟨_,rfl⟩;(have Mn:s2.eQ.length=s.eQ.length:=by rw[KY];show (fI s o x rest).eQ.length=_;unfold fI;rw[aN]);rw[<- KY];by_cases Tp:(d.add s2.dU (fV s2 o x)).1=14
     ·rw[xC Tp];exact⟨by simp,Mn⟩
     rw[xD Tp];dsimp only;rw[if_pos rfl]
     have QR:((dC.answer {s2 with dU:=(d.add s2.dU (fV s2 o x)).2.2} (d.add s2.dU (fV s2 o x)).1 (fV s2 o x)).1.eQ.set o rest).length=s.eQ.length:=by
      rw[aN,xE];exact Mn
     have ih:=xG o f (d.add s2.dU (fV s2 o x)).2.1 { (dC.answer {s2 with dU:=(d.add s2.dU (fV s2 o x)).2.2} (d.add s2.dU (fV s2 o x)).1 (fV s2 o x)).1 with eQ:=(dC.answer {s2 with dU:=(d.add s2.dU (fV s2 o x)).2.2} (d.add s2.dU (fV s2 o x)).1 (fV s2 o x)).1.eQ.set o rest} (told s o x out++[(dC.answer {s2 with dU:=(d.add s2.dU (fV s2 o x)).2.2} (d.add s2.dU (fV s2 o x)).1 (fV s2 o x)).1.eL (dC.answer {s2 with dU:=(d.add s2.dU (fV s2 o x)).2.2} (d.add s2.dU (fV s2 o x)).1 (fV s2 o x)).2]) (by rw[QR];exact ho);refine⟨az ih.1 ?_,ih.2.trans QR⟩;rw[aA,aQ];omega
theorem Em {d:dW} {s:dC} {o:Nat} (ho:o<s.eQ.length) (hl:(s.dX o).length<=10):(dC.fA d s o).1.length<=55:=by
 have:=(xG o ((s.dX o).length+1) d s [] ho).1;unfold dC.fA;simp only[aZ]at this;omega
section
variable {P:Lib.PrintTabs} {own own1 own2:Nat->Nat} {w0 w wr w':World} {sb db wb dm tb tm:Nat} {v v1:Value} {ps OL:List ByteArray} {qs NX:List Value} {d d1:dW} {s s1:dC} {q q':Value} {out:List dH}
structure TM (P:Lib.PrintTabs) (own own1:Nat->Nat) (w0 w wr:World) (sb db wb dm tb tm:Nat) (v:Value) (ps:List ByteArray) (qs:List Value) (d:dW) (s:dC) (q:Value) (out:List dH):Prop where
 mM:w0.heap.size<=w.heap.size
 ext:Ext w own own1
 dR:eh P own1 w0 wr sb db wb dm tb tm v ps qs d s
 msgs:eE w.heap.size wr q out
 om:∀g,q.ownBlock=some g->own1 g=0
 er:dD (ey own) w wr
theorem TM.fA (h:TM P own own1 w0 w wr sb db wb dm tb tm v ps qs d s q out) (he:Ext wr own1 own2) (hw:eh P own2 w0 w' sb db wb dm tb tm v1 OL NX d1 s1) (ht:dD (ey own1) wr w'):TM P own own2 w0 w w' sb db wb dm tb tm v1 OL NX d1 s1 q out:=by
 have hlm:∀g,q.ownBlock=some g->g<wr.heap.size:=fun g hg=>(h.msgs.lt g hg).2;refine⟨h.mM,fun k hk=>(he k (ay hk h.er.size)).trans (h.ext k hk),hw,h.msgs.ej ht fun g hg hs=>by have:=h.om g hg;unfold ey at hs;omega,fun g hg=>(he g (hlm g hg)).trans (h.om g hg),h.er.trans ht fun k hk hs=>?_⟩;unfold ey at hs⊢;rwa [h.ext k hk]at hs
theorem TM.append {n:List dH} (h:TM P own own1 w0 w wr sb db wb dm tb tm v ps qs d s q out) (hm:eE w.heap.size w' q' (out++n)) (hg:wr.grownBy w' q.ownBlock) (hq:∀g,q'.ownBlock=some g->q.ownBlock=some g\/g=wr.heap.size):TM P own own1 w0 w w' sb db wb dm tb tm v ps qs d s q' (out++n):=by
 have ht:dD (fun g=>q.ownBlock=some g) wr w':=⟨hg.os,hg.tape,hg.output,hg.size,fun k hk hn=>hg.block k hk (fun e=>hn e.symm)⟩;refine⟨h.mM,h.ext,h.dR.nf ht fun g _ hg=>⟨h.om g hg,az h.mM (h.msgs.block g hg)⟩,hm,fun g hg=>?_,h.er.trans ht fun k hk Mm=>?_⟩
 ·rcases hq g hg with h1|h1
  ·exact h.om g h1
  exact h.dR.fr g (by omega)
 have:=h.msgs.block k Mm;omega
theorem En (w:World) (dE:Int) (h:eh P own w0 w sb db wb dm tb tm v ps qs d s) :
 Calls Tryz.prog 119 #[.pointer (some ⟨sb,0,none⟩),.int .i64 dE] w (gj P own w0 w sb db wb dm tb tm (dC.tick d s dE)):=by
 obtain⟨r,hr⟩:∃r,r=dC.tick d s dE:=⟨_,rfl⟩;rw[<- hr];have HD:=Hd (qT w h);have H:=Hd h
 cases hd:s.dU with
 |true =>
  have HR:Hy (r=([],d,s)):=Hd (by rw[hr];unfold dC.tick;rw[if_pos hd]);rw[hd]at HD;clear hr hd h;(go_enter Tryz.func119,Tryz.ntmps119);(go_wp2_with (go_at_call 157;refine HD.o.mono ?_;rintro e w' ⟨rfl,rfl⟩));go_ret;rw[HR.o];exact gj.here H.o (dD.refl _ _) (eE.nil _ _)
 |false =>
  have HR:Hy (r=dC.mW (List.range 8) d (s.at_ dE) []):=Hd (by rw[hr];unfold dC.tick;rw[if_neg (by rw[hd];decide)]);rw[hd]at HD;clear hr hd h;go_enter Tryz.func119,Tryz.ntmps119
  go_upto_region 6 with (first
   |(go_at_call 157;refine HD.o.mono ?_;rintro e w' ⟨rfl,rfl⟩)
   |(go_at_call 158;refine (wV w dE H.o).mono ?_;rintro e W1 ⟨rfl,h1,t1⟩))
  have Sv:Hy (TM P own own w0 w W1 sb db wb dm tb tm v ps qs d (s.at_ dE) (.slice none 0 0) []):=Hd ⟨H.o.le,Ext.refl _ _,h1,eE.nil _ _,fun g hg=>(by cases hg),t1.mono fun k _ e=>by subst e;unfold ey;rw[H.o.fJ];decide⟩;clear h1 t1 HD;(go_loopw [12,5] (fun q12 q5 wr=>∃(k:Nat) (own1:Nat->Nat) (v1:Value) (OL:List ByteArray) (NX:List Value) (d1:dW) (s1:dC) (out:List dH),k<=8/\q12=.int .i64 k/\out.length<=55*k/\TM P own own1 w0 w wr sb db wb dm tb tm v1 OL NX d1 s1 q5 out/\r=dC.mW (List.range' k (8-k)) d1 s1 out) (fun q12 _ _=>8-(intOf q12).toNat));case atStart=>exact⟨0,_,_,_,_,_,_,_,by omega,rfl,by simp,Sv.o,HR.o⟩
  case round =>
   clear Sv HR;obtain⟨k,own1,v1,OL,NX,d1,s1,out,hk,rfl,hlen,htm,Ze⟩:=hrel;have Sv:=Hd htm;have QP:=Hd Ze;have Te:=Hd hlen;clear htm Ze hlen;by_cases PT:k<8
   ·(have R6:(k:Int)<8:=by omega);have Pv:=Hd (tA wr k PT Sv.o.dR);have HFW:=Hd (Em (d:=d1) (o:=k) (by rw[Sv.o.dR.nq];exact PT) (Sv.o.dR.ok.ql k))
    go_wp2_with (first
     |(go_at_call 168;refine Pv.o.mono ?_;rintro e W2 ⟨u2,own2,v2,QN,qs2,rfl,RH,Sp,KY,Kr⟩;have Wi:=Hd (Sv.o.fA RH KY Kr);have Wj:=Hd Sp;clear RH Sp KY Kr)
     |(refine El rfl (.tmp 15) (.tmp 18) Wi.o.er.size u5 u2 out _ rfl rfl rfl Wi.o.msgs Wj.o (by have:=HFW.o;have:=Te.o;omega) fun v' w3 OW MH Rh=>?_;have adZ:=Hd (Wi.o.append OW MH Rh);clear OW MH Rh))
    go_roundw
    case rel =>
     refine⟨k+1,_,_,_,_,_,_,_,by omega,by go_num,?_,adZ.o,?_⟩
     ·rw[aA];have:=HFW.o;have:=Te.o;omega
     rw[QP.o,show 8-k=(8-(k+1))+1 by omega,List.range'_succ];rfl
    case measure=>simp[intOf];omega
   (obtain rfl:k=8:=by omega);have Ll:Hy (r=(out,d1,s1)):=Hd QP.o;(go_wp2_with fail);go_ret;rw[Ll.o];exact⟨_,own1,v1,OL,NX,rfl,Sv.o.ext,Sv.o.msgs,Sv.o.dR,Sv.o.er⟩
end
section
variable {P:Lib.PrintTabs} {own:Nat->Nat} {w0:World} {sb db wb dm tb tm:Nat} {v:Value} {ps:List ByteArray} {qs:List Value} {d:dW} {s:dC}
theorem xH {w w1:World} (h:eh P own w0 w sb db wb dm tb tm v ps qs d s) (ht:dD (fun g=>g=tb\/g=tm) w w1):dD (ey own) w w1:=ht.mono fun k hk e=>h.tr k hk e
theorem Eo (w:World) (dE:Int) (m:dH) (h:eh P own w0 w sb db wb dm tb tm v ps qs d s) :
 Calls Tryz.prog 112 #[.pointer (some ⟨sb,0,none⟩),.int .i64 dE,m.val] w (gj P own w0 w sb db wb dm tb tm (dC.take d s dE m)):=by
 obtain⟨mk,mc,mn,me,ms,mo,mv,ml,md⟩:=m;obtain⟨H,hH⟩:∃H,H=w.heap.size:=⟨_,rfl⟩;obtain⟨W1,Kh⟩:∃W1,W1=w.alloc (.cells #[.int .i64 mk,.int .i64 mc,.int .i64 mn,.int .i64 me,.int .i64 ms,.int .i64 mo,.int .i64 mv,.bool ml,.string ⟨md.toArray⟩] 109):=⟨_,rfl⟩;(have Kd:Below w.heap.size w W1:=by rw[Kh];exact (Below.refl _ _).alloc (aq _) _);(have Kf:Has W1 H (.cells #[.int .i64 mk,.int .i64 mc,.int .i64 mn,.int .i64 me,.int .i64 ms,.int .i64 mo,.int .i64 mv,.bool ml,.string ⟨md.toArray⟩] 109):=by rw[Kh,hH];exact Has.new w _);have h1:=h.below Kd;have MY:Hy (H≠sb):=Hd (by have:=h.s_.lt;omega);obtain⟨r,hr⟩:∃r,r=dC.take d s dE ⟨mk,mc,mn,me,ms,mo,mv,ml,md⟩:=⟨_,rfl⟩;obtain⟨b0,Ls⟩:∃b0,b0=s.dU:=⟨_,rfl⟩;obtain⟨b1,Qe⟩:∃b1,b1=decide (mc<0):=⟨_,rfl⟩;obtain⟨b2,Ke⟩:∃b2,b2=decide (4<=mc):=⟨_,rfl⟩;obtain⟨b3,Kk⟩:∃b3,b3=decide (mo<0):=⟨_,rfl⟩;obtain⟨b4,KB⟩:∃b4,b4=decide (8<=mo):=⟨_,rfl⟩
 have L8:Hy ((b0||b1||b2||b3||b4)=true->r=([],d,s)):=Hd fun hx=>by
  rw[hr];unfold dC.take
  have:(s.dU||!dI.eX mc||!dI.eT mo)=true:=by
   rw[Ls,Qe,Ke,Kk,KB]at hx;unfold dI.eX dI.eT eG
   cases hsd:s.dU with
   |true=>rfl
   |false =>
    rw[hsd]at hx;simp only[Bool.false_or,bF,decide_eq_true_eq,a8,br,decide_eq_false_iff_not]at hx⊢;omega
  dsimp only;rw[if_pos this]
 have LW:Hy ((b0||b1||b2||b3||b4)=false->(0<=mc/\mc<4)/\(0<=mo/\mo<8)/\r=(if mk=1 then (((s.at_ dE).reads ⟨mk,mc,mn,me,ms,mo,mv,ml,md⟩).1,d,((s.at_ dE).reads ⟨mk,mc,mn,me,ms,mo,mv,ml,md⟩).2) else if mk=2 then dC.j5 d (s.at_ dE) ⟨mk,mc,mn,me,ms,mo,mv,ml,md⟩ else if mk=3 then (((s.at_ dE).iq ⟨mk,mc,mn,me,ms,mo,mv,ml,md⟩).1,d,((s.at_ dE).iq ⟨mk,mc,mn,me,ms,mo,mv,ml,md⟩).2) else if mk=4 then dC.nF d (s.at_ dE) ⟨mk,mc,mn,me,ms,mo,mv,ml,md⟩ else ([],d,s.at_ dE))):=Hd fun hx=>by
  rw[Ls,Qe,Ke,Kk,KB]at hx;simp only[cK,decide_eq_false_iff_not]at hx;obtain⟨⟨⟨⟨x0,x1⟩,x2⟩,x3⟩,x4⟩:=hx;refine⟨by omega,by omega,?_⟩;rw[hr];unfold dC.take
  have:¬(s.dU||!dI.eX mc||!dI.eT mo)=true:=by
   unfold dI.eX dI.eT eG;simp only[bF,a8,br,decide_eq_false_iff_not];rw[x0];simp;omega
  dsimp only;rw[if_neg this]
 have NM:=Hd (qT W1 h1);rw[<- Ls]at NM;have H1:=Hd h1;have KS:=Hd Kf;have KP:Hy (dD (ey own) w W1):=Hd (dD.fw Kd (aq _));have e1:decide (mc<0)=b1:=Qe.symm;have e2:decide (4<=mc)=b2:=Ke.symm;have e3:decide (mo<0)=b3:=Kk.symm;have e4:decide (8<=mo)=b4:=KB.symm;have x1:W1.cell? ⟨H,1,none⟩=some (.int .i64 mc):=Kf.cell 1;have x5:W1.cell? ⟨H,5,none⟩=some (.int .i64 mo):=Kf.cell 5;rw[<- hr];unfold dH.val;dsimp only;clear hr Ls Qe Ke Kk KB h h1 Kf Kd;(go_enter Tryz.func112,Tryz.ntmps112);(go_upto_region 1 with fail);rw[<- Kh,<- hH];clear Kh hH
 cases b0 with
 |true =>
  as_aux_lemma =>
   have HE:Hy (r=([],d,s)):=Hd (L8.o (by simp));clear LW L8;(go_wp2_with (go_at_call 157;refine NM.o.mono ?_;rintro e w' ⟨rfl,rfl⟩));go_ret;rw[HE.o];exact gj.here H1.o KP.o (eE.nil _ _)
 |false =>
 cases b1 with
 |true =>
  as_aux_lemma =>
   have HE:Hy (r=([],d,s)):=Hd (L8.o (by simp));clear LW L8;(go_wp2_with (go_at_call 157;refine NM.o.mono ?_;rintro e w' ⟨rfl,rfl⟩));go_ret;rw[HE.o];exact gj.here H1.o KP.o (eE.nil _ _)
 |false =>
 cases b2 with
 |true =>
  as_aux_lemma =>
   have HE:Hy (r=([],d,s)):=Hd (L8.o (by simp));clear LW L8;(go_wp2_with (go_at_call 157;refine NM.o.mono ?_;rintro e w' ⟨rfl,rfl⟩));go_ret;rw[HE.o];exact gj.here H1.o KP.o (eE.nil _ _)
 |false =>
 cases b3 with
 |true =>
  as_aux_lemma =>
   have HE:Hy (r=([],d,s)):=Hd (L8.o (by simp));clear LW L8;(go_wp2_with (go_at_call 157;refine NM.o.mono ?_;rintro e w' ⟨rfl,rfl⟩));go_ret;rw[HE.o];exact gj.here H1.o KP.o (eE.nil _ _)
 |false =>
 cases b4 with
 |true =>
  as_aux_lemma =>
   have HE:Hy (r=([],d,s)):=Hd (L8.o (by simp));clear LW L8;(go_wp2_with (go_at_call 157;refine NM.o.mono ?_;rintro e w' ⟨rfl,rfl⟩));go_ret;rw[HE.o];exact gj.here H1.o KP.o (eE.nil _ _)
 |false =>
 obtain⟨N2,ad0,ZA⟩:=LW.o rfl;obtain⟨o,rfl⟩:∃o:Nat,mo=o:=⟨mo.toNat,by omega⟩;(have M5:o<8:=by omega);have Ll:=Hd ZA;clear LW L8 ZA ad0
 go_upto_region 4 with (first
  |(go_at_call 157;refine NM.o.mono ?_;rintro e w' ⟨rfl,rfl⟩)
  |(go_at_call 158;refine (wV W1 dE H1.o).mono ?_;rintro e W2 ⟨rfl,h2,t2⟩))
 have H2:=Hd h2;have KV:=Hd (t2.has KS.o MY.o);have K4:Hy (dD (ey own) w W2):=Hd (KP.o.trans t2 fun k _ e=>by unfold ey;rw[e,H1.o.fJ];decide);have x0:W2.cell? ⟨H,0,none⟩=some (.int .i64 mk):=KV.o.cell 0;clear h2 t2 H1 KS KP NM x1 x5 e1 e2 e3 e4;by_cases k1:mk=1
 ·as_aux_lemma =>
   have HE:Hy (r=(((s.at_ dE).reads ⟨mk,mc,mn,me,ms,o,mv,ml,md⟩).1,d,((s.at_ dE).reads ⟨mk,mc,mn,me,ms,o,mv,ml,md⟩).2)):=Hd (by rw[Ll.o,if_pos k1]);have HC:=Hd (DW W2 ⟨mk,mc,mn,me,ms,o,mv,ml,md⟩ o M5 rfl N2 H2.o);(have f1:(mk==1)=true:=by simp[k1]);have K1:=Hd k1;clear Ll k1
   go_wp2_with (first
    |(refine wpList_load_row rfl 109 (.tmp 5) rfl H rfl 109 _ (0,0) _ KV.o Tryz.underlying109 rfl (by kernel_rfl) ?_)
    |(go_at_call 159;refine HC.o.mono ?_;rintro e W3 ⟨u3,rfl,OW,NJ,KF⟩))
   go_ret;rw[HE.o];exact gj.here NJ (K4.o.trans (xH H2.o KF) fun _ _ e=>e) (OW.base K4.o.size)
 (have f1:(mk==1)=false:=by simp[k1]);by_cases k2:mk=2
 ·as_aux_lemma =>
   have HE:Hy (r=dC.j5 d (s.at_ dE) ⟨mk,mc,mn,me,ms,o,mv,ml,md⟩):=Hd (by rw[Ll.o,if_neg k1,if_pos k2]);have HC:=Hd (Ej W2 ⟨mk,mc,mn,me,ms,o,mv,ml,md⟩ o M5 rfl N2 H2.o);(have f2:(mk==2)=true:=by simp[k2]);clear Ll k1 k2
   go_wp2_with (first
    |(refine wpList_load_row rfl 109 (.tmp 5) rfl H rfl 109 _ (0,0) _ KV.o Tryz.underlying109 rfl (by kernel_rfl) ?_)
    |(go_at_call 160;refine HC.o.mono ?_;rintro e W3 ⟨u3,own3,v3,ps3,qs3,rfl,Wk⟩))
   go_ret;rw[HE.o];exact gj.ahead K4.o ⟨u3,own3,v3,ps3,qs3,rfl,Wk⟩
 (have f2:(mk==2)=false:=by simp[k2]);by_cases k3:mk=3
 ·as_aux_lemma =>
   have HE:Hy (r=(((s.at_ dE).iq ⟨mk,mc,mn,me,ms,o,mv,ml,md⟩).1,d,((s.at_ dE).iq ⟨mk,mc,mn,me,ms,o,mv,ml,md⟩).2)):=Hd (by rw[Ll.o,if_neg k1,if_neg k2,if_pos k3]);have HC:=Hd (Ec W2 ⟨mk,mc,mn,me,ms,o,mv,ml,md⟩ N2 H2.o);(have f3:(mk==3)=true:=by simp[k3]);clear Ll k1 k2 k3
   go_wp2_with (first
    |(refine wpList_load_row rfl 109 (.tmp 5) rfl H rfl 109 _ (0,0) _ KV.o Tryz.underlying109 rfl (by kernel_rfl) ?_)
    |(go_at_call 161;refine HC.o.mono ?_;rintro e W3 ⟨u3,rfl,OW,NJ,KF⟩))
   go_ret;rw[HE.o];exact gj.here NJ (K4.o.trans (xH H2.o KF) fun _ _ e=>e) (OW.base K4.o.size)
 (have f3:(mk==3)=false:=by simp[k3]);by_cases k4:mk=4
 ·as_aux_lemma =>
   have HE:Hy (r=dC.nF d (s.at_ dE) ⟨mk,mc,mn,me,ms,o,mv,ml,md⟩):=Hd (by rw[Ll.o,if_neg k1,if_neg k2,if_neg k3,if_pos k4]);have HC:=Hd (Ef W2 ⟨mk,mc,mn,me,ms,o,mv,ml,md⟩ o M5 rfl N2 H2.o);(have f4:(mk==4)=true:=by simp[k4]);clear Ll k1 k2 k3 k4
   go_wp2_with (first
    |(refine wpList_load_row rfl 109 (.tmp 5) rfl H rfl 109 _ (0,0) _ KV.o Tryz.underlying109 rfl (by kernel_rfl) ?_)
    |(go_at_call 162;refine HC.o.mono ?_;rintro e W3 ⟨u3,own3,v3,ps3,qs3,rfl,Wk⟩))
   go_ret;rw[HE.o];exact gj.ahead K4.o ⟨u3,own3,v3,ps3,qs3,rfl,Wk⟩
 as_aux_lemma =>
  have HE:Hy (r=([],d,s.at_ dE)):=Hd (by rw[Ll.o,if_neg k1,if_neg k2,if_neg k3,if_neg k4]);(have f4:(mk==4)=false:=by simp[k4]);clear Ll k1 k2 k3 k4;(go_wp2_with fail);go_ret;rw[HE.o];exact gj.here H2.o K4.o (eE.nil _ _)
end
end dR
namespace eZ
open Go.RowKit heap own eO fq eK dR cache
open dI (dJ gd fE eA ga ez put del)
section
variable {own:Nat->Nat} {T:Nat} {w wr w':World} {cb fm sm:Nat} {cv:Value} {c c':dJ} {q q':Value} {out:List dH}
theorem CM.from (h:CM own T w wr cb fm sm cv c q out) {u:Value} {l:List dH} (h2:CM own T wr w' cb fm sm cv c' u l):CM own T w w' cb fm sm cv c' u l:=
 ⟨h2.eZ,h2.msgs.base h.er.size,h.fr,h.hT,h.er.trans h2.er fun _ _ e=>e⟩
theorem CM.eV (h:CM own T w wr cb fm sm cv c q out):Calls Tryz.prog 107 #[.pointer (some ⟨cb,0,none⟩)] wr fun e w'=>∃u,e=.returned u/\CM own T w w' cb fm sm cv c.eV.2 u c.eV.1:=by
 refine (xU h.eZ (fun g hg=>h.fr g (az h.er.size hg)) h.hT).mono ?_;rintro e w' ⟨u,rfl,h2⟩;exact⟨u,rfl,h.from h2⟩
def kW (c:dJ) (k o:Int) (data:List UInt8):dJ:={c with call:=⟨k,o,⟨data,0⟩,false,false⟩}
theorem eB.kW (h:eB own T w cb fm sm cv c) (k o:Int) (data:List UInt8):eB own T ((((((w.setCell ⟨cb,12,none⟩ (.int .i64 k)).setCell ⟨cb,13,none⟩ (.int .i64 o)).setCell ⟨cb,14,none⟩ (.string ⟨data.toArray⟩)).setCell ⟨cb,15,none⟩ (.int .i64 0)).setCell ⟨cb,16,none⟩ (.bool false)).setCell ⟨cb,17,none⟩ (.bool false)) cb fm sm cv (eZ.kW c k o data)/\dD (fun g=>g=cb) w ((((((w.setCell ⟨cb,12,none⟩ (.int .i64 k)).setCell ⟨cb,13,none⟩ (.int .i64 o)).setCell ⟨cb,14,none⟩ (.string ⟨data.toArray⟩)).setCell ⟨cb,15,none⟩ (.int .i64 0)).setCell ⟨cb,16,none⟩ (.bool false)).setCell ⟨cb,17,none⟩ (.bool false)):=by
 have ht:dD (fun g=>g=cb) w ((((((w.setCell ⟨cb,12,none⟩ (.int .i64 k)).setCell ⟨cb,13,none⟩ (.int .i64 o)).setCell ⟨cb,14,none⟩ (.string ⟨data.toArray⟩)).setCell ⟨cb,15,none⟩ (.int .i64 0)).setCell ⟨cb,16,none⟩ (.bool false)).setCell ⟨cb,17,none⟩ (.bool false)):=
  dZ.fp (dZ.fp (dZ.fp (dZ.fp (dZ.fp (dZ.fp (dD.refl _ _) _ _) _ _) _ _) _ _) _ _) _ _
 refine⟨h.kT ht ?_ rfl rfl rfl,ht⟩;exact (((((h.c_.eu 12 (.int .i64 k)).eu 13 (.int .i64 o)).eu 14 (.string ⟨data.toArray⟩)).eu 15 (.int .i64 0)).eu 16 (.bool false)).eu 17 (.bool false)
theorem EO (o:Int) (data:List UInt8) (h:eB own T w cb fm sm cv c) (hf:∀g,w.heap.size<=g->own g=0) (hT:0<T) :
 Calls Tryz.prog 128 #[.pointer (some ⟨cb,0,none⟩),.int .i64 o,.string ⟨data.toArray⟩] w fun e w'=>∃u,e=.returned (.tuple #[u,fx (c.write o data).1])/\CM own T w w' cb fm sm cv (c.write o data).2.2 u (c.write o data).2.1:=by
 obtain⟨r,hr⟩:∃r,r=c.write o data:=⟨_,rfl⟩;rw[<- hr];have Qt:=Hd (CM.start h hf hT);have MV:=Hd (pn w h);obtain⟨b0,Ls⟩:∃b0,b0=c.fX:=⟨_,rfl⟩;obtain⟨b1,Kd⟩:∃b1,b1=decide (o<0):=⟨_,rfl⟩;obtain⟨b2,Ke⟩:∃b2,b2=decide (8<=o):=⟨_,rfl⟩;obtain⟨b3,Kk⟩:∃b3,b3=decide ((20:Int)<(data.length:Int)):=⟨_,rfl⟩;rw[<- Ls]at MV
 have HR:Hy (r=if b0 then (6,[],c) else if b1||b2 then (2,[],c) else if b3 then (4,[],c) else (0,(kW c 2 o data).ask)):=Hd (by
  have e1:(!dI.eT o)=(b1||b2):=by
   rw[Kd,Ke];unfold dI.eT dI.eG;rw[bE];simp only[a8,br,decide_eq_false_iff_not,bF,decide_eq_true_eq];omega
  rw[hr,Ls,Kk];unfold dJ.write;rw[e1];split
  ·rfl
  split
  ·rfl
  by_cases Zz:20<data.length
  ·rw[if_pos Zz,if_pos (decide_eq_true (by omega))]
  rw[if_neg Zz,if_neg (by simp only[decide_eq_true_eq];omega)]
  rfl)
 have e1:decide (o<0)=b1:=Kd.symm;have e2:decide (8<=o)=b2:=Ke.symm;have e3:decide ((20:Int)<(data.length:Int))=b3:=Kk.symm;clear hr Ls Kd Ke Kk
 cases b0 with
 |true =>
  have HE:Hy (r=(6,[],c)):=Hd HR.o;clear h;(go_enter Tryz.func128,Tryz.ntmps128);(go_wp2_with (go_at_call 152;refine MV.o.mono ?_;rintro e w' ⟨rfl,rfl⟩));go_ret2;rw[HE.o];exact⟨_,rfl,Qt.o⟩
 |false =>
  cases b1 with
  |true =>
   have HE:Hy (r=(2,[],c)):=Hd HR.o;clear h;(go_enter Tryz.func128,Tryz.ntmps128);(go_wp2_with (go_at_call 152;refine MV.o.mono ?_;rintro e w' ⟨rfl,rfl⟩));go_ret2;rw[HE.o];exact⟨_,rfl,Qt.o⟩
  |false =>
   cases b2 with
   |true =>
    have HE:Hy (r=(2,[],c)):=Hd HR.o;clear h;(go_enter Tryz.func128,Tryz.ntmps128);(go_wp2_with (go_at_call 152;refine MV.o.mono ?_;rintro e w' ⟨rfl,rfl⟩));go_ret2;rw[HE.o];exact⟨_,rfl,Qt.o⟩
   |false =>
    cases b3 with
    |true =>
     have HE:Hy (r=(4,[],c)):=Hd HR.o;clear h;(go_enter Tryz.func128,Tryz.ntmps128);(go_wp2_with (go_at_call 152;refine MV.o.mono ?_;rintro e w' ⟨rfl,rfl⟩));go_ret2;rw[HE.o];exact⟨_,rfl,Qt.o⟩
    |false =>
     have HE:Hy (r=(0,(kW c 2 o data).ask)):=Hd HR.o;have c12:w.cell? ⟨cb,12,none⟩=some (.int .i64 c.call.dT):=h.c_.cell 12;have Vj:w.cell? ⟨cb,13,none⟩=some (.int .i64 c.call.dF):=h.c_.cell 13;have Tu:w.cell? ⟨cb,14,none⟩=some (.string ⟨c.call.value.data.toArray⟩):=h.c_.cell 14;have Vk:w.cell? ⟨cb,15,none⟩=some (.int .i64 c.call.value.dY):=h.c_.cell 15;have Vl:w.cell? ⟨cb,16,none⟩=some (.bool c.call.over):=h.c_.cell 16;have XY:w.cell? ⟨cb,17,none⟩=some (.bool c.call.hit):=h.c_.cell 17;have f12:=h.c_.frozen 12;have f13:=h.c_.frozen 13;have f14:=h.c_.frozen 14;have f15:=h.c_.frozen 15;have f16:=h.c_.frozen 16;have f17:=h.c_.frozen 17;have WQ:=Hd (h.kW 2 o data);clear h HR;(go_enter Tryz.func128,Tryz.ntmps128);(go_upto_region 8 with (go_at_call 152;refine MV.o.mono ?_;rintro e w' ⟨rfl,rfl⟩));obtain⟨W1,Kh⟩:∃W1,W1=((((((w.setCell ⟨cb,12,none⟩ (.int .i64 2)).setCell ⟨cb,13,none⟩ (.int .i64 o)).setCell ⟨cb,14,none⟩ (.string ⟨data.toArray⟩)).setCell ⟨cb,15,none⟩ (.int .i64 0)).setCell ⟨cb,16,none⟩ (.bool false)).setCell ⟨cb,17,none⟩ (.bool false)):=⟨_,rfl⟩;rw[<- Kh]at WQ⊢;have Kw:=Hd (Qt.o.step WQ.o.2 WQ.o.1);clear Kh WQ c12 Vj Tu Vk Vl XY f12 f13 f14 f15 f16 f17 Qt MV e1 e2 e3;obtain⟨c1,Ln⟩:∃c1,c1=kW c 2 o data:=⟨_,rfl⟩;rw[<- Ln]at Kw HE;obtain⟨n,hn⟩:∃n,n=wrap64 (c1.dN+1):=⟨_,rfl⟩;have N4:=Hd (rr W1.drew Kw.o.eZ.drew);rw[<- hn]at N4;have Py:Hy (c1.ask=dJ.eV {c1 with dN:=n,fc:=n,fL:=c1.dE}):=Hd (by unfold dJ.ask;rw[<- hn]);have c7:W1.cell? ⟨cb,7,none⟩=some (.int .i64 c1.dE):=Kw.o.eZ.c_.cell 7;clear hn Ln;(go_region_held3 (fun W=>W.cell? ⟨cb,7,none⟩=some (.int .i64 c1.dE)) (first|exact KL.c_.cell 7|exact (KL.c_.eu 18 _).cell 7|exact ((KL.c_.eu 18 _).eu 19 _).cell 7|go_keep) ((go_at_call 150;refine N4.o.mono ?_;rintro e W2 ⟨rfl,KL,Kr,KY⟩;have c20:W2.cell? ⟨cb,18,none⟩=some (.int .i64 c1.fc):=KL.c_.cell 18;have c21:W2.cell? ⟨cb,19,none⟩=some (.int .i64 c1.fL):=KL.c_.cell 19;have f20:=KL.c_.frozen 18;have f21:=KL.c_.frozen 19)));obtain⟨W3,Kz⟩:∃W3,W3=((W2.setCell ⟨cb,18,none⟩ (.int .i64 n)).setCell ⟨cb,19,none⟩ (.int .i64 c1.dE)):=⟨_,rfl⟩
     have Mh:eB own T W3 cb fm sm cv {c1 with dN:=n,fc:=n,fL:=c1.dE}:=by
      rw[Kz];exact ((KL.l8 {c1 with dN:=n,fc:=n} 18 (.int .i64 n) rfl rfl rfl rfl).l8 {c1 with dN:=n,fc:=n,fL:=c1.dE} 19 (.int .i64 c1.dE) rfl rfl rfl rfl)
     (have KF:dD (fun g=>g=cb) W2 W3:=by rw[Kz];exact ((l9 18 _).trans (l9 19 _) fun _ _ e=>e));rw[<- Kz];have Oz:=Hd ((Kw.o.below (Below.refl _ _).drew).step (Kr.trans KF fun _ _ e=>e) Mh);have SD:=Hd Oz.o.eV;rw[<- Py.o]at SD;have Ll:Hy (r=(0,c1.ask)):=Hd HE.o;clear Kz Mh KF KL Kr KY Kw N4 c7 Py HE;(go_wp2_with (go_at_call 107;refine SD.o.mono ?_;rintro e w4 ⟨u4,rfl,SE⟩));go_ret2;rw[Ll.o];exact⟨_,rfl,SE⟩
end
end eZ
end Go.Proofs.YtlhodcmdpchllaaGreatDoor
