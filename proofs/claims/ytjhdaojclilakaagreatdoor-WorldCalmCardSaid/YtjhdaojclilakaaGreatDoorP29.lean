/-
  A part of the proof of the law WorldCalm: SrvO, SrvP, SrvQ.
-/
import Derived.Maps.AppendAt
import Derived.Test.YtjhdaojclilakaaGreatDoorHd
import Derived.Test.YtjhdaojclilakaaGreatDoorP28
set_option maxHeartbeats 16000000
set_option maxRecDepth 1000000
namespace Go.Proofs.YtjhdaojclilakaaGreatDoor
section
variable {p q:Prop}
theorem aah (z:q) (h:Hy q->p:=by
 intro zz;refine last.iJ (fun W=>Has W H (.cells #[VI mk,VI mc,VI mn,VI me,VI ms,VI (o:Int),VI mv,.bool ml,.string ⟨md.toArray⟩] 93)/\CI W sb (4+o*2+1) vr) 1000 23 ⟨Qg.o.drew,cV⟩ fun HS=>?_;refine last.fZ 0 13 (VP sb 0) HS.o ?_;dsimp only[List.set];refine last.fZ 1 14 (.agg #[VI mk,VI mc,VI mn,VI me,VI ms,VI (o:Int),VI mv,.bool ml,.string ⟨md.toArray⟩]) HS.o ?_ (hy:=(fun W' Pt=>by have e0:CI W' H 0 mk:=Pt.1.cell 0;have e1:CI W' H 1 mc:=Pt.1.cell 1;have e2:CI W' H 2 mn:=Pt.1.cell 2;have e3:CI W' H 3 me:=Pt.1.cell 3;have e4:CI W' H 4 ms:=Pt.1.cell 4;have e5:CI W' H 5 (o:Int):=Pt.1.cell 5;have e6:CI W' H 6 mv:=Pt.1.cell 6;have e7:CC W' H 7 (.bool ml):=Pt.1.cell 7;have e8:CC W' H 8 (.string ⟨md.toArray⟩):=Pt.1.cell 8;go_simp));dsimp only[List.set];refine last.one 2 fun K hK=>?_;go_simp;refine Ut.o.mono ?_;revert HS K hK;exact zz.o):p:=h z
theorem aak (h:p:=by
 dsimp only[List.set];refine last.fZ 8 21 (.bool true) PF.o ?_;dsimp only[List.set];refine last.fZ 9 22 (.bool true) PF.o ?_;dsimp only[List.set];refine last.jH 10 23 rfl rfl af af af af (fun _ _ _ h=>h) PF.o ai ?_;dsimp only[List.set];refine last.jH 11 24 rfl rfl af af af af (fun _ _ _ h=>h) PF.o ai ?_;dsimp only[List.set];refine last.jH 12 25 rfl rfl af af af af (fun _ _ _ h=>h) PF.o ai ?_;dsimp only[List.set];refine last.jH 13 26 rfl rfl af af af af (fun _ _ _ h=>h) PF.o ai ?_;dsimp only[List.set];refine last.jH 14 27 rfl rfl af af af af (fun _ _ _ h=>h) PF.o ai ?_;dsimp only[List.set];refine last.jH 15 28 rfl rfl af af af af (fun _ _ _ h=>h) PF.o ai ?_;dsimp only[List.set];refine last.jH 16 29 rfl rfl af af af af (fun _ _ _ h=>h) PF.o ai ?_;dsimp only[List.set];refine last.jH 17 30 rfl rfl af af af af (fun _ _ _ h=>h) PF.o ai ?_;dsimp only[List.set];refine last.jH 18 31 rfl rfl af af af af (fun _ _ _ h=>h) PF.o ai ?_;dsimp only[List.set];refine last.jH 19 32 rfl rfl af af af af (fun _ _ _ h=>h) PF.o ai ?_;dsimp only[List.set];refine last.jH 20 33 rfl rfl af af af af (fun _ _ _ h=>h) PF.o ai ?_;dsimp only[List.set];refine last.jH 21 34 rfl rfl af af af af (fun _ _ _ h=>h) PF.o ai ?_;dsimp only[List.set];refine last.fZ 22 35 (.bool true) PF.o ?_;dsimp only[List.set];refine last.done ?_;(go_wp2_with fail);go_ret;rw[HR.o];exact jf.here H5.o SD.o (fV.nil _ _)):p:=h
theorem aax (z:q) (h:Hy q->p:=by
 intro zz;have H5:=Hd (H2.o.below ((Below.refl _ W2).drew.trans PW));have SD:=Hd (Qo.o.drew.jl PW (ax _));have PF:Hy ((fun W=>Has W H (.cells #[VI mk,VI mc,VI mn,VI me,VI ms,VI (o:Int),VI mv,.bool ml,.string ⟨md.toArray⟩] 93)/\CI W sb (4+o*2+1) vr) W5):=Hd ⟨HS.o.1.below PW HS.o.1.lt,(PW.cell (p:=⟨sb,4+o*2+1,none⟩) SW).trans cV⟩;refine hK.out _ _ (fun _=>PF.o) ?_;revert H5 SD PF;exact zz.o):p:=h z
theorem aby (z:q) (h:Hy q->p:=by
 intro zz;refine last.fZ 3 16 (.bool false) PF.o ?_;dsimp only[List.set];refine last.fZ 4 17 (.bool false) PF.o ?_;dsimp only[List.set];refine last.fZ 5 18 (.slice qa n qc) PF.o ?_;dsimp only[List.set];refine last.fZ 6 19 (VI n) PF.o ?_;dsimp only[List.set];exact zz.o):p:=h z
theorem abM (h:p:=by
 as_aux_lemma =>
  (go_quiet (fail));(go_wp2_with fail);go_ret;rw[aat.o];exact jf.here (H3.o.below (below_drewN (Below.refl _ _) nq)) (QV.o.drewN nq) (fV.nil _ _)):p:=h
end
section
namespace last
open Go
section
variable {P:Program} {ops:Array Oper} {Q:Exit->Act->World->Prop} {md:Region.Mode} {S:World->Prop} {L:Nat}
theorem fZ (i d:Nat) (v:Value) {b:Oper} {fuel:Nat} {e:List Bool} {f:List Value} {g:List Deferred} {w:World} (j:S w) (h:wpAnyL P md ops Q S L fuel (e.set i true).toArray ⟨(f.set d v).toArray,g⟩ w)
 (hi:ops[i]?=some b:=by rfl) (hd:b.dst=some d:=by rfl) (hs:Region.noSelect ops=true:=by kernel_rfl) (k:Region.free md ops e.toArray i=true:=by kernel_rfl) (l:(Region.ready md ops e.toArray).contains i=true:=by kernel_rfl) (m:waits md ops L i=true:=by kernel_rfl)
 (hQ:∀c a w,Q (.panic c) (a.put (some d) v) w->Q (.panic c) a w:=by exact fun _ _ _ h=>h) (hw:Region.wanted b (yielded ops f.toArray)=true:=by rfl) (hy:∀w,S w->(execOp (Act.eval ⟨f.toArray,g⟩) b).run P w=.ok (.value v) w:=by intro _ _;go_simp):wpAnyL P md ops Q S L (fuel+1) e.toArray ⟨f.toArray,g⟩ w:=
 qw i d v hi hd hs k l m hQ j hw hy h
end
end last
namespace fj
open Go.RowKit heap own eG gC gO fF iR fD
open eY (Rec fe ir Wr eA fW fU fR fw put del)
section
variable {P:Lib.PrintTabs} {own:Nat->Nat} {w0:World} {sb db wb dm tb tm:Nat} {v:Value} {ps:List ByteArray} {qs:List Value} {d:fe} {s:eA}
theorem jf.ahead {w a w':World} {r:List eL×fe×eA} {e:Ending} (ht:eJ (fL own) w a) (h:jf P own w0 a sb db wb dm tb tm r e w'):jf P own w0 w sb db wb dm tb tm r e w':=by
 obtain⟨u,own1,v1,b,c,d,f,g,i,j⟩:=h;exact⟨u,own1,v1,b,c,d,fun k l=>f k (aG l ht.size),g.base ht.size,i,ht.trans j fun _ _ e=>e⟩
theorem jf.here {w a:World} (h:fC P own w0 a sb db wb dm tb tm v ps qs d s) (ht:eJ (fL own) w a) {u:Value} {l:List eL} (hm:fV w.heap.size a u l):jf P own w0 w sb db wb dm tb tm (l,d,s) (.returned u) a:=
 ⟨u,own,v,ps,qs,rfl,Ext.refl _ _,hm,h,ht⟩
theorem JD (w:World) (m:eL) (o:Nat) (B:o<8) (Vh:m.eF=o) (X9:0<=m.eI/\m.eI<4) (h:fC P own w0 w sb db wb dm tb tm v ps qs d s) :
 Calls Tryz.prog 73 #[VP sb 0,m.val] w (jf P own w0 w sb db wb dm tb tm (eA.qq d s m)):=by
 obtain⟨mk,mc,mn,me,ms,mo,mv,ml,md⟩:=m;dsimp only at Vh X9;subst Vh;have Sb:(o:Int)<8:=ab;obtain⟨H,G⟩:=nm w.heap.size;obtain⟨j,C⟩:=nm (w.alloc (.cells #[VI mk,VI mc,VI mn,VI me,VI ms,VI (o:Int),VI mv,.bool ml,.string ⟨md.toArray⟩] 93));(have I:BB w j:=by rw[C];exact (Below.refl _ _).alloc (ax _) _);(have J:Has j H (.cells #[VI mk,VI mc,VI mn,VI me,VI ms,VI (o:Int),VI mv,.bool ml,.string ⟨md.toArray⟩] 93):=by rw[C,G];exact Has.new w _);have b:=h.below I;obtain⟨qa,qc,hq,-,-⟩:=(b.eQ o B).slice;(have Tv:j.cell? ⟨sb,20+o,none⟩=some (.slice qa (s.eQ o).length qc):=by rw[b.kh o B,hq]);have x5:CI j H 5 o:=J.cell 5;obtain⟨n,D⟩:=nm ((s.eQ o).length);rw[<- D]at Tv;have HN:=Hd D;obtain⟨r,L⟩:=nm (eA.qq d s ⟨mk,mc,mn,me,ms,o,mv,ml,md⟩);obtain⟨vr,c⟩:=nm ((s.value o).fq);obtain⟨E,M⟩:=nm (wrap64 (vr+1));obtain⟨kn,N⟩:=nm (s.kF ⟨mk,mc,mn,me,ms,o,mv,ml,md⟩);obtain⟨qe,O⟩:=nm ((n:Int)==0);obtain⟨t,f⟩:=nm (mv !=E)
 have HR:Hy (r=if (!kn||qe||t) then ([],d,s) else eA.fu d {s with eW:=s.eW.drop mc o} o):=Hd (by
  rw[L];unfold eA.qq;dsimp only
  have e1:(s.eQ (Int.toNat o)).isEmpty=qe:=by
   rw[O,D];show (s.eQ o).isEmpty=_
   cases s.eQ o with
   |nil=>rfl
   |cons a l=>exact (beq_eq_false_iff_ne.2 (by simp only[aL];omega)).symm
  have e2:(!decide (mv=wrap64 ((s.value (Int.toNat o)).fq+1)))=t:=by
   rw[f,M,c];show (!decide (mv=wrap64 ((s.value o).fq+1)))=_;rw[cr];simp
  rw[e1,e2,<- N]
  rfl)
 have Q:=Hd h.eW.lt;have H1:=Hd b;have Qn:=Hd J;have Qd:Hy (eJ (fL own) w j):=Hd (eJ.il I (ax _));have ZK:=Hd N;have R:=Hd c;have g:((n:Int)==0)=qe:=O.symm;have u:(mv !=E)=t:=f.symm;(have x:IntKind.i64.wrap (vr+1)=E:=by rw[IntWalk.i64_left,M]);rw[<- L];unfold eL.val;dsimp only;clear L c M N O f h b J D hq I;(go_enter Tryz.func73,Tryz.ntmps73);(go_upto_region 1 with fail);rw[<- C,<- G];have S:Hy (¬(H=tb\/H=tm)):=Hd (by have:=Q.o;omega);clear C G;(go_quiet (fail));obtain⟨W2,y⟩:=nm (j.drewN nq);have H2:Hy (fC P own w0 W2 sb db wb dm tb tm v ps qs d s):=Hd (by rw[y];exact H1.o.below (below_drewN (Below.refl _ _) nq));have Qg:Hy (Has W2 H (.cells #[VI mk,VI mc,VI mn,VI me,VI ms,VI (o:Int),VI mv,.bool ml,.string ⟨md.toArray⟩] 93)):=Hd (by rw[y];exact Qn.o.drewN nq);have Qo:Hy (eJ (fL own) w W2):=Hd (by rw[y];exact Qd.o.drewN nq);rw[<- y];clear y H1 Qn Qd Tv x5;(have cV:W2.cell? ⟨sb,4+o*2+1,none⟩=some (VI vr):=by rw[R.o];exact (H2.o.rA o B).2);have UM:H<W2.heap.size:=Qg.o.lt;have SW:sb<W2.heap.size:=H2.o.s_.lt
 have Ut:Hy (Calls Tryz.prog 90 #[VP sb 0,.agg #[VI mk,VI mc,VI mn,VI me,VI ms,VI (o:Int),VI mv,.bool ml,.string ⟨md.toArray⟩]] W2.drew fun e w'=>e=.returned (.bool kn)/\Below W2.drew.heap.size W2.drew w'):=Hd (by
  rw[ZK.o]
  exact xB W2.drew ⟨mk,mc,mn,me,ms,o,mv,ml,md⟩ (H2.o.below (Below.refl _ _).drew))
 go_upto_region 2 with fail
 cases kn with
 |false =>
  as_aux_lemma =>
   refine aah ?_;intro HS K hK;rintro e W5 ⟨rfl,PW⟩;refine aax ?_;intro H5 SD PF;clear hK K HS PW Ut H2 Qo Qg cV SW;refine last.fZ 3 16 (.bool true) PF.o ?_;dsimp only[List.set];refine last.fZ 4 17 (.bool true) PF.o ?_;dsimp only[List.set];refine last.jH 5 18 rfl rfl af af af af (fun _ _ _ h=>h) PF.o ai ?_;dsimp only[List.set];refine last.jH 6 19 rfl rfl af af af af (fun _ _ _ h=>h) PF.o ai ?_;dsimp only[List.set];refine last.jH 7 20 rfl rfl af af af af (fun _ _ _ h=>h) PF.o ai ?_;exact aak
 |true =>
  cases qe with
  |true =>
   as_aux_lemma =>
    refine aah ?_;intro HS K hK;rintro e W5 ⟨rfl,PW⟩;refine aax ?_;intro H5 SD PF;clear hK K HS PW Ut H2 Qo Qg cV SW;refine aby ?_;refine last.fZ 7 20 (.bool true) PF.o ?_ (hy:=(fun W' Pt=>by have e9:=g;go_simp));exact aak
  |false =>
   refine aah ?_;intro HS K hK;rintro e W5 ⟨rfl,PW⟩;refine aax ?_;intro H5 SD PF;clear hK K HS PW Ut H2 Qo Qg cV SW;refine aby ?_;refine last.fZ 7 20 (.bool false) PF.o ?_ (hy:=(fun W' Pt=>by have e9:=g;go_simp));dsimp only[List.set];refine last.fZ 8 21 (.bool false) PF.o ?_;dsimp only[List.set];refine last.fZ 9 22 (.bool false) PF.o ?_;dsimp only[List.set];refine last.fZ 10 23 (VP H 6) PF.o ?_;dsimp only[List.set];refine last.fZ 11 24 (VI mv) PF.o ?_ (hy:=(fun W' Pt=>by have e1:CI W' H 6 mv:=Pt.1.cell 6;go_simp));dsimp only[List.set];refine last.fZ 12 25 (VP sb 0) PF.o ?_;dsimp only[List.set];refine last.fZ 13 26 (VP H 5) PF.o ?_;dsimp only[List.set];refine last.fZ 14 27 (VI o) PF.o ?_ (hy:=(fun W' Pt=>by have e1:CI W' H 5 o:=Pt.1.cell 5;go_simp));dsimp only[List.set];refine last.fZ 15 28 (VP sb 0) PF.o ?_;dsimp only[List.set];refine last.fZ 16 29 (VP sb 4) PF.o ?_;dsimp only[List.set];refine last.fZ 17 30 (VP sb (4+o*2)) PF.o ?_;dsimp only[List.set];refine last.fZ 18 31 (VP sb (4+o*2+1)) PF.o ?_;dsimp only[List.set];refine last.fZ 19 32 (VI vr) PF.o ?_ (hy:=(fun W' Pt=>by have e1:=Pt.2;go_simp));dsimp only[List.set];refine last.fZ 20 33 (VI E) PF.o ?_ (hy:=(fun W' Pt=>by have e9:=x;go_simp));dsimp only[List.set];refine last.fZ 21 34 (.bool t) PF.o ?_ (hy:=(fun W' Pt=>by have e9:=u;go_simp));dsimp only[List.set];refine last.fZ 22 35 (.bool t) PF.o ?_;dsimp only[List.set];refine last.done ?_;have F:=Hd PF.o.1;clear PF
   cases t with
   |true =>
    as_aux_lemma =>
     (go_wp2_with fail);go_ret;rw[HR.o];exact jf.here H5.o SD.o (fV.nil _ _)
   |false =>
    have QD:Hy (r=eA.fu d {s with eW:=s.eW.drop mc o} o):=Hd HR.o;have Wb:CP W5 sb 29 tb 0:=H5.o.jJ 1 _ rfl;have z1:CI W5 H 1 mc:=F.o.cell 1;have z5:CI W5 H 5 o:=F.o.cell 5;have T:sb<W5.heap.size:=H5.o.s_.lt;have i:H<W5.heap.size:=F.o.lt;have YL:sb≠tb/\sb≠tm:=⟨fun e=>(by have b:=H5.o.iL;rw[e,H5.o.kJ]at b;cases b),fun e=>(by have b:=H5.o.iL;rw[e,H5.o.kK]at b;cases b)⟩;have n1:¬(sb=tb\/sb=tm):=fun e=>e.elim YL.1 YL.2;have U:¬(H=tb\/H=tm):=S.o;have A:=Hd (Hm mc o H5.o.eW.drew (WalkArith.wf_i64 ab) (WalkArith.wf_i64 ab));clear u g x;(go_upto_region 4 with fail);(go_region_held3 (fun W=>CP W sb 29 tb 0/\CI W H 1 mc/\CI W H 5 o) (first|exact⟨(ht.cell (p:=⟨sb,29,none⟩) T n1).trans Wb,(ht.cell (p:=⟨H,1,none⟩) i U).trans z1,(ht.cell (p:=⟨H,5,none⟩) i U).trans z5⟩|go_keep) ((go_at_call 100;refine A.o.mono ?_;rintro e W8 ⟨rfl,YM,ht⟩)));have H8:=Hd ((H5.o.below (Below.refl _ _).drew).setTable ht _ YM);have RW:=Hd (SD.o.drew.trans ht fun k _ e=>H5.o.xE k (by rcases e with e|e;rw[e];exact H5.o.eW.lt.1;rw[e];exact H5.o.eW.lt.2) e);have aa:CI W8 H 5 o:=(ht.cell (p:=⟨H,5,none⟩) i U).trans z5;have V:=Hd (xH W8 o B H8.o);clear YM ht H5 SD F A Wb z1 z5;(go_wp2_with (go_at_call 78;refine V.o.mono ?_;rintro e W9 ⟨u9,Tm,v9,X,Y,rfl,Z⟩));go_ret;rw[QD.o];exact jf.ahead RW.o ⟨u9,Tm,v9,X,Y,rfl,Z⟩
end
end fj
end
namespace fj
open Go.RowKit heap own eG gC gO fF iR fD
open eY (Rec fe ir Wr eA fW fU fR fw put del)
theorem JE (s:eA) (f:List Wr->Bool) (h:s.fi.length=8):s.fi.any f=(List.range 8).any fun j=>f (s.eQ j):=by
 have e:s.fi=(List.range 8).map fun j=>s.eQ j:=by
  apply List.ext_getElem?;intro i;rw[br];unfold eA.eQ;rcases bk i 8 with hi|hi
  ·rw[List.getElem?_range hi,ay ab];simp only[Option.map_some,aC];rw[ay ab];rfl
  rw[bw ab,bw ah];rfl
 rw[e,List.any_map];(have a:∀j,j<8->eA.eQ {s with fi:=(List.range 8).map fun j=>s.eQ j} j=s.eQ j:=fun j _=>by rw[<- e]);rfl
theorem JF {o:Oper} {a:Act} {w:World} {K:Act->World->Prop} {Q:Exit->Act->World->Prop} {own:Nat->Nat} (x y:Operand) (T g:Nat) (v:Value) (l:List Wr) (e:Wr) (c:o.op=.call {callee:=.builtin .append,args:=#[x,y],argTypes:=#[100,100]})
 (d:a.eval x=v) (hy:a.eval y=.slice (some ⟨g,0,none⟩) 1 1) (f:iD own T w 162 4 v l.length (l.flatMap kA)) (i:Has w g (.cells (kA e).toArray 162)) (z:l.length<=1000)
 (h:∀b off cap w',iD (lh own w T) T w' 162 4 (.slice (some ⟨b,off,none⟩) (l.length+1) cap) (l.length+1) ((l++[e]).flatMap kA)->w.grownBy w' v.ownBlock->(v.ownBlock=some b\/w.heap.size<=b)->K (a.put o.dst (.slice (some ⟨b,off,none⟩) (l.length+1) cap)) w'):o.wp Tryz.prog a w K Q:=by
 obtain⟨i0,k,m,n,p⟩:=info_parts I4
 obtain⟨b,off,cap,w',q,r,s,t⟩:=IZ (P:=Tryz.prog) 100 o.type i0 _ 40 Tryz.underlying100 k m n p rfl aj f ⟨g,0,none⟩ 1 1 (kA e) rfl (fun j u hj=>by
  have e1:(⟨g,0,none⟩:Addr).add j=⟨g,j,none⟩:=by by_cases h0:j=0<;>simp[Addr.add,h0]
  rw[e1,i.cell,aJ,hj]) (I3 e) aj ak ab
 unfold Oper.wp execOp;simp only[c,resolve,invoke,builtin,Sem.run_bind,Sem.run_pure,Result.andThen_ok,List.map_toArray,aY,bD,d,hy,q];refine h b off cap w' ?_ s t;rw[cH,List.flatMap_singleton];exact r
theorem jf.JG {P:Lib.PrintTabs} {own own1:Nat->Nat} {w0 w c w':World} {sb db wb dm tb tm:Nat} {r:List eL×fe×eA} {e:Ending} (he:Ext w own own1) (ht:eJ (fL own) w c) (h:jf P own1 w0 c sb db wb dm tb tm r e w'):jf P own w0 w sb db wb dm tb tm r e w':=by
 obtain⟨u,a,v1,d,f,g,i,j,l,m⟩:=h;exact⟨u,a,v1,d,f,g,fun k b=>(i k (aG b ht.size)).trans (he k b),j.base ht.size,l,ht.trans m fun k b e=>by unfold fL at e⊢;rwa [he k b]at e⟩
section
variable {P:Lib.PrintTabs} {own:Nat->Nat} {w0:World} {sb db wb dm tb tm:Nat} {v:Value} {ps:List ByteArray} {qs:List Value} {d:fe} {s:eA}
theorem JH (w:World) (m:eL) (o:Nat) (ho:o<8) (Vh:m.eF=o) (X9:0<=m.eI/\m.eI<4) (h:fC P own w0 w sb db wb dm tb tm v ps qs d s) :
 Calls Tryz.prog 71 #[VP sb 0,m.val] w (jf P own w0 w sb db wb dm tb tm (eA.gp d s m)):=by
 obtain⟨mk,a,c,E,ms,mo,mv,F,md⟩:=m;dsimp only at Vh X9;subst Vh;have Sb:(o:Int)<8:=ab;obtain⟨H,hH⟩:=nm w.heap.size;obtain⟨f,Pz⟩:=nm (w.alloc (.cells #[VI mk,VI a,VI c,VI E,VI ms,VI (o:Int),VI mv,.bool F,.string ⟨md.toArray⟩] 93));(have Pu:BB w f:=by rw[Pz];exact (Below.refl _ _).alloc (ax _) _);(have PC:Has f H (.cells #[VI mk,VI a,VI c,VI E,VI ms,VI (o:Int),VI mv,.bool F,.string ⟨md.toArray⟩] 93):=by rw[Pz,hH];exact Has.new w _);have h1:=h.below Pu;have XC:Hy (own H=0):=Hd (h.fr H ab);obtain⟨r,hr⟩:=nm (eA.gp d s ⟨mk,a,c,E,ms,o,mv,F,md⟩);obtain⟨r2,Q8⟩:=nm (eA.enqueue d s ⟨mk,a,c,E,ms,o,mv,F,md⟩);obtain⟨x,hx⟩:=nm ((fw a s.done).getD xz);obtain⟨I,Rw⟩:=nm ((fw a s.done).isSome);have S:Hy (Value.tuple #[mT.ev ((fw a s.done).getD mT.z),.bool (fw a s.done).isSome]=.tuple #[x.val,.bool I]):=Hd (by rw[hx,Rw];rfl)
 have HR:Hy (r=if I&&decide (c<=x.eK) then (if c<x.eK then ([],d,s) else ([s.fG x],d,s)) else r2):=Hd (by
  rw[hr,Q8,hx,Rw];unfold eA.gp
  cases hs:fw a s.done with
  |none=>rfl
  |some y =>
   show (if c<=y.eK then (if c<y.eK then ([],d,s) else ([s.fG y],d,s)) else eA.enqueue d s _)=_
   simp only[Option.isSome_some,Bool.true_and,decide_eq_true_eq,dp])
 obtain⟨dk,J,i,L,M,N,O,dl,Q⟩:=x;unfold eL.val at S;dsimp only at S HR;have Up:Hy (je a):=Hd (WalkArith.wf_i64 ab);have H1:=Hd h1;have Qn:=Hd PC;have Qd:Hy (eJ (fL own) w f):=Hd (eJ.il Pu (ax _));have Qu:=Hd Q8;have T:CC f sb 28 (.map (some dm)):=h1.jJ 0 _ rfl;have x1:CI f H 1 a:=PC.cell 1;have SW:sb<f.heap.size:=h1.s_.lt;have UM:H<f.heap.size:=PC.lt;rw[<- hr];unfold eL.val;dsimp only;clear hr Q8 hx Rw h h1 PC Pu;(go_enter Tryz.func71,Tryz.ntmps71);(go_upto_region 1 with fail);rw[<- Pz,<- hH];have ZB:Hy (w.heap.size<=H):=Hd (cZ hH.symm);clear Pz hH;refine last.iJ (fun W=>CC W sb 28 (.map (some dm))/\CI W H 1 a/\At mT W dm s.done) 1000 13 ⟨T,x1,H1.o.done⟩ fun HS=>?_;refine last.many [(0,10,_),(1,11,_),(2,12,_),(3,13,_),(4,14,_),(5,15,_)] HS.o ?_ (hy:=fun W' R=>by have e1:=R.1;have f0:=R.2.1;repeat (first|exact .z|refine .s ?_|refine .k ?_));refine last.qw 6 16 (.tuple #[.agg #[VI dk,VI J,VI i,VI L,VI M,VI N,VI O,.bool dl,.string ⟨Q.toArray⟩],.bool I]) rfl rfl af af af af (fun _ _ _ h=>h) HS.o ai (fun W' R=>by (rw[<- S.o];exact Gt mT (.tmp 13) (.tmp 15) rfl rfl R.2.2 Up.o rfl)) ?_;dsimp only[List.set];refine last.many [(7,9,_),(8,17,_),(9,18,_)] HS.o ?_;refine last.one 10 fun K hK=>?_;go_simp;have hz:BB f (f.drew.alloc (.cells #[VI 0,VI 0,VI 0,VI 0,VI 0,VI 0,VI 0,.bool false,.string ⟨#[]⟩] 93)):=((Below.refl _ f).drew.alloc (ax _) _);have Qw:Hy ((fun W=>CC W sb 28 (.map (some dm))/\CI W H 1 a/\At mT W dm s.done) (f.drew.alloc (.cells #[VI 0,VI 0,VI 0,VI 0,VI 0,VI 0,VI 0,.bool false,.string ⟨#[]⟩] 93))):=Hd ⟨(hz.cell (p:=⟨sb,28,none⟩) SW).trans T,(hz.cell (p:=⟨H,1,none⟩) UM).trans x1,(H1.o.below hz).done⟩;refine hK.out _ _ (fun _=>Qw.o) ?_;clear hK K;refine last.one 11 fun K hK=>?_;go_simp;have Qf:BB f (f.alloc (.cells #[VI dk,VI J,VI i,VI L,VI M,VI N,VI O,.bool dl,.string ⟨Q.toArray⟩] 93)).drew:=((Below.refl _ f).alloc (ax _) _).drew;have Q9:Hy ((fun W=>CC W sb 28 (.map (some dm))/\CI W H 1 a/\At mT W dm s.done) (f.alloc (.cells #[VI dk,VI J,VI i,VI L,VI M,VI N,VI O,.bool dl,.string ⟨Q.toArray⟩] 93)).drew):=Hd ⟨(Qf.cell (p:=⟨sb,28,none⟩) SW).trans T,(Qf.cell (p:=⟨H,1,none⟩) UM).trans x1,(H1.o.below Qf).done⟩;refine hK.out _ _ (fun _=>Q9.o) ?_;clear hK K;refine last.many [(12,6,_)] Q9.o ?_;refine last.done ?_;obtain⟨D,hD⟩:=nm f.heap.size;obtain⟨W2,PT⟩:=nm ((f.alloc (.cells #[VI dk,VI J,VI i,VI L,VI M,VI N,VI O,.bool dl,.string ⟨Q.toArray⟩] 93)).drew);rw[<- PT,<- hD];have g:Hy (fC P own w0 W2 sb db wb dm tb tm v ps qs d s):=Hd (by rw[PT];exact H1.o.below Qf);have Qg:Hy (Has W2 H (.cells #[VI mk,VI a,VI c,VI E,VI ms,VI (o:Int),VI mv,.bool F,.string ⟨md.toArray⟩] 93)):=Hd (by rw[PT];exact Qn.o.below Qf Qn.o.lt);have Vf:Hy (Has W2 D (.cells #[VI dk,VI J,VI i,VI L,VI M,VI N,VI O,.bool dl,.string ⟨Q.toArray⟩] 93)):=Hd (by rw[PT,hD];exact (Has.new f _).drew);have Qo:Hy (eJ (fL own) w W2):=Hd (by rw[PT];exact Qd.o.jl Qf (ax _));clear PT hD hz Qf HS Qw Q9 T x1 SW UM H1 Qn Qd;obtain⟨le,hle⟩:=nm (decide (c<=i));obtain⟨lb,Ts⟩:=nm (I&&le);have b8:decide (c<=i)=le:=hle.symm;rw[<- hle,<- Ts]at HR;have aa:=Hd Ts;have x2:CI W2 H 2 c:=Qg.o.cell 2;have d2:CI W2 D 2 i:=Vf.o.cell 2;clear hle Ts;(go_upto_region 2 with fail);go_cut [26] (fun t wx=>wx=W2/\t=.bool lb)
 case first =>
  cases I with
  |false =>
   have ad:Hy (lb=false):=Hd aa.o;(go_wp2_with fail);go_meet;case rel=>exact⟨rfl,by rw[ad.o]⟩
  |true =>
   have ad:Hy (lb=le):=Hd aa.o;(go_wp2_with fail);go_meet;case rel=>exact⟨rfl,by rw[ad.o]⟩
 case rest =>
  obtain⟨QM,rfl⟩:=hcut;subst QM;clear aa b8 S
  cases lb with
  |true =>
   as_aux_lemma =>
    obtain⟨lt,Pw⟩:=nm (decide (c<i));have cV:decide (c<i)=lt:=Pw.symm;have WM:=Hd Pw;clear Pw
    cases lt with
    |true =>
     have HE:Hy (r=([],d,s)):=Hd (by rw[HR.o,if_pos rfl,if_pos (of_decide_eq_true WM.o.symm)]);(go_wp2_with fail);go_ret;rw[HE.o];exact jf.here g.o Qo.o (fV.nil _ _)
    |false =>
     have HE:Hy (r=([s.fG ⟨dk,J,i,L,M,N,O,dl,Q⟩],d,s)):=Hd (by rw[HR.o,if_pos rfl,if_neg (of_decide_eq_false WM.o.symm)])
     go_wp2_with (first
      |(refine wpList_load_row rfl 93 (.tmp 5) rfl D rfl 93 _ (0,0) _ Vf.o Tryz.underlying93 rfl af ?_)
      |(go_at_call 89;refine (qB _ ⟨dk,J,i,L,M,N,O,dl,Q⟩ g.o).mono ?_;rintro e w3 ⟨rfl,Qp⟩)
      |(refine nk rfl (.tmp 34) (s.fG ⟨dk,J,i,L,M,N,O,dl,Q⟩) rfl rfl ?_))
     go_ret;rw[HE.o];have QL:=Qp.alloc Qp.size (.cells (([s.fG ⟨dk,J,i,L,M,N,O,dl,Q⟩]:List eL).flatMap iS).toArray 93);exact jf.here (g.o.below QL) (Qo.o.jl QL (ax _)) ((fV.new (w:=w3) (l:=[s.fG ⟨dk,J,i,L,M,N,O,dl,Q⟩]) ae).base (aB Qo.o.size Qp.size))
  |false =>
   have HE:Hy (r=eA.enqueue d s ⟨mk,a,c,E,ms,o,mv,F,md⟩):=Hd (by rw[HR.o,<- Qu.o];rfl);clear HR Qu Vf d2 x2;obtain⟨an,al⟩:=nm ((List.range 8).any fun j=>(s.eQ j).any (mU a c));obtain⟨c1,Sp⟩:=nm (decide (10<=(s.eQ o).length));obtain⟨c2,PE⟩:=nm (decide (20<md.length))
   have aq:Hy (r=if an then ([],d,s) else if (c1||c2) then ([],d,s) else eA.fu d {s with fi:=s.fi.set o (s.eQ o++[⟨a,c,md,false⟩])} o):=Hd (by
    rw[HE.o];unfold eA.enqueue;dsimp only
    have e1:(s.fi.any fun q=>q.any fun w=>decide (w.eI=a)&&decide (c<=w.eK))=an:=by
     rw[al];exact JE s (fun q=>q.any (mU a c)) g.o.nq
    rw[e1];have e2:(Int.toNat (o:Int))=o:=rfl;rw[e2];split
    ·rfl
    have e3:(10<=(s.eQ o).length||decide (20<md.length))=(c1||c2):=by rw[Sp,PE]
    simp only[e3])
   have ar:=Hd al;have TH:=Hd Sp;have Sx:=Hd PE;clear HE al Sp PE;obtain⟨q0,q1,q2,q3,q4,q5,q6,q7,UY⟩:=eight g.o.lq;subst UY;have a0:CC wc sb 20 q0:=g.o.kh 0 aj;have a1:CC wc sb 21 q1:=g.o.kh 1 aj;have a2:CC wc sb 22 q2:=g.o.kh 2 aj;have a3:CC wc sb 23 q3:=g.o.kh 3 aj;have a4:CC wc sb 24 q4:=g.o.kh 4 aj;have a5:CC wc sb 25 q5:=g.o.kh 5 aj;have a6:CC wc sb 26 q6:=g.o.kh 6 aj;have a7:CC wc sb 27 q7:=g.o.kh 7 aj;(go_upto_region 7 with fail);clear a0 a1 a2 a3 a4 a5 a6 a7;(go_loopw [40] (fun au wr=>∃k:Nat,k<=8/\au=VI k/\((List.range k).any fun j=>(s.eQ j).any (mU a c))=false/\BB wc wr) (fun au _=>8-(intOf au).toNat));case atStart=>exact⟨0,ab,rfl,rfl,Below.refl _ _⟩
   case round =>
    obtain⟨k,U,rfl,Qa,hb⟩:=hrel;have HB:=Hd hb;have QY:=Hd Qa;clear hb Qa;by_cases RO:k<8
    ·as_aux_lemma =>
      have Yr:(k:Int)<8:=ab;have b9:=Be q0 q1 q2 q3 q4 q5 q6 q7 wr k RO;obtain⟨qv,bb⟩:=nm ([q0,q1,q2,q3,q4,q5,q6,q7].getD k undef);rw[<- bb]at b9;obtain⟨bl,UN⟩:=nm ((s.eQ k).any (mU a c))
      have SE:Hy (Calls Tryz.prog 94 #[qv,.func (.func 95) #[] #[VP H 0]] wr fun e w'=>e=.returned (.bool bl)/\BB wr w'):=Hd (by
       rw[UN];have hq:=(g.o.below HB.o).eQ k RO;rw[<- bb]at hq
       exact Jo own (10+k) qv (s.eQ k) mk a c E ms o mv F ⟨md.toArray⟩ H wr hq (Qg.o.below HB.o Qg.o.lt))
      have b1:=Hd UN;clear bb UN
      cases bl with
      |true =>
       have HE:Hy (r=([],d,s)):=Hd (by
        have:an=true:=by
         rw[ar.o];exact bW.2 ⟨k,bP.2 RO,b1.o.symm⟩
        rw[aq.o,if_pos this])
       (go_wp2_with (go_at_call 94;refine SE.o.mono ?_;rintro e w3 ⟨rfl,Qp⟩));go_ret;rw[HE.o];exact jf.here (g.o.below (HB.o.trans (Qp.mono HB.o.size))) (Qo.o.jl (HB.o.trans (Qp.mono HB.o.size)) (ax _)) (fV.nil _ _)
      |false =>
       (go_wp2_with (go_at_call 94;refine SE.o.mono ?_;rintro e w3 ⟨rfl,Qp⟩));go_roundw
       case rel =>
        refine⟨k+1,ab,by go_num,?_,HB.o.trans (Qp.mono HB.o.size)⟩;rw[List.range_succ,eh,QY.o];simp[<- b1.o]
       case measure=>simp[intOf];omega
    (obtain rfl:k=8:=by omega);have b2:Hy (an=false):=Hd (by rw[ar.o];exact QY.o);have H3:=Hd (g.o.below HB.o);have Rc:=Hd (Qg.o.below HB.o Qg.o.lt);have QV:=Hd (Qo.o.jl HB.o (ax _));have aat:Hy (r=if (c1||c2) then ([],d,s) else eA.fu d {s with fi:=s.fi.set o (s.eQ o++[⟨a,c,md,false⟩])} o):=Hd (by rw[aq.o,if_neg (by rw[b2.o];decide)]);clear aq b2 ar QY HB g Qg Qo;obtain⟨V,qc,hq,-,-⟩:=(H3.o.eQ o ho).slice;obtain⟨qs,UY⟩:=nm ([q0,q1,q2,q3,q4,q5,q6,q7]);rw[<- UY]at H3 hq;obtain⟨n,hn⟩:=nm ((s.eQ o).length);(have Tv:wr.cell? ⟨sb,20+o,none⟩=some (.slice V n qc):=by rw[H3.o.kh o ho,hq,hn]);have x5:CI wr H 5 o:=Rc.o.cell 5;have x8:CC wr H 8 (.string ⟨md.toArray⟩):=Rc.o.cell 8;(have ca:decide ((10:Int)<=(n:Int))=c1:=by rw[TH.o,hn];rw[cr];simp;omega);(have cb:decide ((20:Int)<(md.length:Int))=c2:=by rw[Sx.o];rw[cr];simp;omega);have HN:=Hd hn;have HQ:=Hd hq;clear hn hq UY;go_upto_region 12 with fail
    cases c1 with
    |true =>
     exact abM
    |false =>
     cases c2 with
     |true =>
      exact abM
     |false =>
      have QD:Hy (r=eA.fu d {s with fi:=s.fi.set o (s.eQ o++[⟨a,c,md,false⟩])} o):=Hd aat.o;(have XZ:(s.eQ o).length<10:=by have:=of_decide_eq_false TH.o.symm;omega);(have b3:md.length<=20:=by have:=of_decide_eq_false Sx.o.symm;omega);have b4:=Hd XZ;have cc:=Hd b3;(go_quiet (fail));obtain⟨u,S8⟩:=nm (wr.drewN nq);have H4:Hy (fC P own w0 u sb db wb dm tb tm v ps qs d s):=Hd (by rw[S8];exact H3.o.below (below_drewN (Below.refl _ _) nq));have Rt:Hy (Has u H (.cells #[VI mk,VI a,VI c,VI E,VI ms,VI (o:Int),VI mv,.bool F,.string ⟨md.toArray⟩] 93)):=Hd (by rw[S8];exact Rc.o.drewN nq);have X8:Hy (eJ (fL own) w u):=Hd (by rw[S8];exact QV.o.drewN nq);rw[<- S8];clear S8 H3 Rc QV aat Tv x5 x8 ca cb XZ b3 U RO TH Sx;(have Tv:u.cell? ⟨sb,20+o,none⟩=some (.slice V n qc):=by rw[H4.o.kh o ho,HQ.o,HN.o]);have UM:H<u.heap.size:=Rt.o.lt;have SW:sb<u.heap.size:=H4.o.s_.lt;have f20:=H4.o.s_.frozen (20+o);(go_upto_region 14 with fail);refine last.iJ (fun W=>CC W sb (20+o) (.slice V n qc)/\W.frozen? ⟨sb,20+o,none⟩=false/\Has W H (.cells #[VI mk,VI a,VI c,VI E,VI ms,VI (o:Int),VI mv,.bool F,.string ⟨md.toArray⟩] 93)) 22 23 ⟨Tv,f20,Rt.o.drew⟩ fun HS=>?_;refine last.many [(0,62,_),(1,63,_),(2,64,_),(3,65,_),(4,66,_),(5,67,_),(6,68,_),(7,69,_),(8,70,_),(9,71,_),(10,72,_),(11,73,_),(12,74,_),(13,75,_),(14,76,_),(15,77,_),(16,78,_)] HS.o ?_ (hy:=fun W' R=>by have e1:CI W' H 5 o:=R.2.2.cell 5;have f0:=R.1;have f1:CI W' H 1 a:=R.2.2.cell 1;have f2:CI W' H 2 c:=R.2.2.cell 2;have f3:CC W' H 8 (.string ⟨md.toArray⟩):=R.2.2.cell 8;repeat (first|exact .z|refine .s ?_|refine .k ?_));refine last.iF [21,20,19] 19 81 (VP sb 0) HS.o ?_;dsimp only[List.set];refine last.iF [21,20] 20 82 (VP sb 20) HS.o ?_;dsimp only[List.set];refine last.one 17 fun K hK=>?_;go_simp;have PW:BB u (u.alloc (.cells #[VI a,VI c,.string ⟨md.toArray⟩,.bool false] 162)).drew:=((Below.refl _ u).alloc (ax _) _).drew;have PF:Hy ((fun W=>CC W sb (20+o) (.slice V n qc)/\W.frozen? ⟨sb,20+o,none⟩=false/\Has W H (.cells #[VI mk,VI a,VI c,VI E,VI ms,VI (o:Int),VI mv,.bool F,.string ⟨md.toArray⟩] 93)) (u.alloc (.cells #[VI a,VI c,.string ⟨md.toArray⟩,.bool false] 162)).drew):=Hd ⟨(PW.cell (p:=⟨sb,20+o,none⟩) SW).trans Tv,(PW.frozen (p:=⟨sb,20+o,none⟩) SW).trans f20,Rt.o.below PW UM⟩;refine hK.out _ _ (fun _=>PF.o) ?_;clear hK K HS;obtain⟨G,hG⟩:=nm u.heap.size;obtain⟨A,Re⟩:=nm ((u.alloc (.cells #[VI a,VI c,.string ⟨md.toArray⟩,.bool false] 162)).drew);have Xx:Hy (Has A G (.cells (kA ⟨a,c,md,false⟩).toArray 162)):=Hd (by rw[Re,hG];exact (Has.new u _).drew);have B:Hy (fC P own w0 A sb db wb dm tb tm v ps qs d s):=Hd (by rw[Re];exact H4.o.below PW);have SD:Hy (eJ (fL own) w A):=Hd (by rw[Re];exact X8.o.jl PW (ax _));rw[<- Re]at PF⊢;rw[<- hG];clear Re hG PW;have X:Hy (iD own (10+o) A 162 4 (.slice V n qc) (s.eQ o).length ((s.eQ o).flatMap kA)):=Hd (by have:=B.o.eQ o ho;rw[HQ.o]at this;rw[HN.o];exact this);refine last.one 18 fun K hK=>?_;refine JF (.tmp 71) (.tmp 79) (10+o) G (.slice V n qc) (s.eQ o) ⟨a,c,md,false⟩ rfl rfl rfl X.o Xx.o (by have:=b4.o;omega) fun g7 ch P0 w7 bg Vl _=>?_;(have Tk:Hy (∀b,(own b=4\/own b=0)->b<A.heap.size->(Value.slice V n qc).ownBlock≠some b):=Hd fun b hb Sz e=>by have h9:=(X.o.lt b e).2;omega);have XD:eJ (fun b=>(Value.slice V n qc).ownBlock=some b) A w7:=⟨Vl.os,Vl.tape,Vl.output,Vl.size,fun k U hn=>Vl.block k U (fun e=>hn e.symm)⟩;have Y:sb<A.heap.size:=B.o.s_.lt;have Z:=Tk.o sb (.inl B.o.iL) Y;have b5:=Tk.o H (.inr (XC.o)) PF.o.2.2.lt;have T6:Hy ((fun W=>CC W sb (20+o) (.slice V n qc)/\W.frozen? ⟨sb,20+o,none⟩=false/\Has W H (.cells #[VI mk,VI a,VI c,VI E,VI ms,VI (o:Int),VI mv,.bool F,.string ⟨md.toArray⟩] 93)) w7):=Hd ⟨(XD.cell (p:=⟨sb,20+o,none⟩) Y Z).trans PF.o.1,(XD.frozen (p:=⟨sb,20+o,none⟩) Y Z).trans PF.o.2.1,XD.has PF.o.2.2 b5⟩;refine hK.out _ _ (fun _=>T6.o) ?_;clear hK K;refine last.many [(21,83,_)] T6.o ?_;have cj:=T6.o.1;have cm:=T6.o.2.1;refine last.one 22 fun K hK=>?_;go_simp;refine hK.out _ _ (fun h=>absurd rfl h) ?_;refine last.done ?_;obtain⟨u8,bj⟩:=nm (.slice (some ⟨g7,ch,none⟩) ((s.eQ o).length+1) P0:Value);obtain⟨C,QT⟩:=nm (w7.setCell ⟨sb,20+o,none⟩ u8);rw[<- bj,<- QT];(have Qm:eJ (fun b=>b=sb) w7 C:=by rw[QT];exact gX (eJ.refl _ _) _ _);have Wk:eJ (fun b=>b=sb\/own b=10+o) A C:=(XD.mono fun k _ U=>Or.inr (X.o.lt k U).2).trans Qm fun k _ e=>.inl e
      have b6:Has C sb (.cells (kI s.eZ wb s.values (qs.set o u8) dm tb s.eS s.quiet s.eB s.gy).toArray 105):=by
       rw[QT];have:=(XD.has B.o.s_ Z).fQ (20+o) u8;rw[aP,A9 B.o.nv B.o.lq o ho]at this;exact this
      have Q5:A.heap.size<=w7.heap.size:=Vl.size;have cp:w7.heap.size<=C.heap.size:=Qm.size
      have b7:iD (mz (lh own A (10+o)) C) (10+o) C 162 4 u8 (s.eQ o++[(⟨a,c,md,false⟩:Wr)]).length ((s.eQ o++[(⟨a,c,md,false⟩:Wr)]).flatMap kA):=by
       rw[aE,aQ];rw[<- bj]at bg
       exact bg.fc Qm (fun k U=>qC ab) fun k _ U e=>by
        rw[e,oY Y,B.o.iL]at U;omega
      have H8:=Hd (B.o.xD o ho u8 (s.eQ o++[⟨a,c,md,false⟩]) (w':=C) (own1:=mz (lh own A (10+o)) C) Wk (rB (Ext.new _ _ _) ab) (uE _ _) b6 b7 (fun y hy=>by
       rcases aN.1 hy with h9|h9
       ·exact B.o.ok.qc o y h9
       rw[aD.1 h9]
       exact⟨X9,cc.o⟩) (by rw[aE,aQ];have:=b4.o;omega))
      have cq:Hy (Ext w own (mz (lh own A (10+o)) C)):=Hd fun k U=>by
       have h9:=SD.o.size;rw[qC ab,oY ab]
      have RW:Hy (eJ (fL own) w C):=Hd (SD.o.trans Wk fun k _ e=>by
       unfold fL;rcases e with e|e
       ·rw[e,B.o.iL];decide
       rw[e];omega)
      have x5:CI C H 5 o:=(Wk.has PF.o.2.2 (fun e=>by
       have h9:=XC.o;rcases e with e|e
       ·rw[e,B.o.iL]at h9;cases h9
       omega)).cell 5
      have cu:=Hd (xH C o ho H8.o);clear QT bj Qm Wk b6 b7 bg XD Vl hK K PF T6 cj cm B X Xx Tk Q5 cp Z b5;(go_wp2_with (go_at_call 78;refine cu.o.mono ?_;rintro e W9 ⟨u9,Tm,v9,cv,cJ,rfl,cQ⟩));go_ret;rw[QD.o];exact jf.JG cq.o RW.o ⟨u9,Tm,v9,cv,cJ,rfl,cQ⟩
end
theorem JI (w:World) {B h:Nat} (i:B<=w.heap.size) (ty:TypeId) (v u:Value) (l n:List eL) (d:fV B w v l) (k:fV h w u n) (D:l.length+n.length<=1000000) :
 ∃b w',(Builtin.append_ #[73,73] ty #[v,u]).run Tryz.prog w=.ok b w'/\fV B w' b (l++n)/\w.grownBy w' v.ownBlock/\(∀g,b.ownBlock=some g->v.ownBlock=some g\/g=w.heap.size):=by
 obtain⟨i0,e,m,o,p⟩:=info_parts uy;rcases k.2 with⟨rfl,f⟩|⟨g,cap,cur,rfl,hb,q,E,F,G,r⟩
 ·have s:n=[]:=bc f;refine⟨v,w,?_,by rw[s,bG];exact d,World.grownBy.refl w _,fun g t=>.inl t⟩;rcases d.2 with⟨rfl,c⟩|⟨g,cap,cur,rfl,-,-,hc,-⟩
  ·simp[Builtin.append_,run_underlying Tryz.underlying73,sizeOf,typeInfo,e,Builtin.lenOf,Builtin.firstCells]
  simp[Builtin.append_,run_underlying Tryz.underlying73,sizeOf,typeInfo,e,Builtin.lenOf,Builtin.firstCells,hc,storeCells]
 obtain⟨b,w',x,y,z,-,A⟩:=run_append_own_at (P:=Tryz.prog) w B 73 ty 93 i0 _ 9 80 Tryz.underlying73 e m o p rfl aj v l.length (l.flatMap iS) d ⟨g,0,none⟩ n.length cap (n.flatMap iS) (nf sK n) (fun j u hj=>by
  (have C:j<n.length*9:=by rw[<- nf sK n];exact (az.1 hj).1);have e1:(⟨g,0,none⟩:Addr).add j=⟨g,j,none⟩:=by by_cases f:j=0<;>simp[Addr.add,f]
  rw[e1,(kj q r j C).1,hj]) (xu AQ n) ak ab i
 refine⟨b,w',x,?_,z,fun H a=>?_⟩
 ·unfold fV;rw[aE,cH];exact y
 rcases A with c|c
 ·exact .inl (by rw[<- c];exact a)
 right;rw[c]at a;exact (aA a).symm
theorem JJ {o:Oper} {rest:List Oper} {ops:Array Oper} {a:Act} {w:World} {Q:Exit->Act->World->Prop} (c:o.guard=none) (x y:Operand) {B d:Nat} (e:B<=w.heap.size) (v u:Value) (l n:List eL) (f:o.op=.call {callee:=.builtin .append,args:=#[x,y],argTypes:=#[73,73]}) (i:a.eval x=v) (hy:a.eval y=u)
 (j:fV B w v l) (k:fV d w u n) (m:l.length+n.length<=1000000)
 (h:∀b w',fV B w' b (l++n)->w.grownBy w' v.ownBlock->(∀g,b.ownBlock=some g->v.ownBlock=some g\/g=w.heap.size)->wpList Tryz.prog ops Q rest (a.put o.dst b) w'):wpList Tryz.prog ops Q (o::rest) a w:=
 wpList_plain c fun K hK=>by
  obtain⟨b,w',p,q,r,s⟩:=JI w e o.type v u l n j k m;unfold Oper.wp execOp;simp only[f,resolve,invoke,builtin,Sem.run_bind,Sem.run_pure,Result.andThen_ok,List.map_toArray,aY,bD,i,hy,p];exact hK _ _ (h b w' q r s)
theorem Bn (o:Nat):∀(f:Nat) (d:fe) (s:eA) (out:List eL),o<s.fi.length->(eA.iu f d s o out).1.length<=out.length+5*f/\(eA.iu f d s o out).2.2.fi.length=s.fi.length
 |0,d,s,out,_=>⟨by simp[eA.iu],rfl⟩
 |f+1,d,s,out,h=>by
  cases hq:s.eQ o with
  |nil=>rw[Bf hq];exact⟨ae,rfl⟩
  |cons x rest =>
   cases hd:s.eX with
   |true=>rw[Bg hd];exact⟨ae,rfl⟩
   |false =>
    rw[uH hq hd]
    have ht:(told s o x out).length<=out.length+4:=by
     unfold told;split
     ·omega
     rw[aE,aX];have:=uG s.eW o s.eB;omega
    cases hb:(decide (s.eB<s.quiet)||(s.eW.ga o s.eB).any fun c=>s.eW.jT c s.eB)with
    |true =>
     rw[Bh hb];refine⟨?_,by show (gJ s o x rest).fi.length=_;unfold gJ;rw[aU]⟩;show (told s o x out).length<=_;omega
    |false =>
     rw[Bi hb];obtain⟨s2,a⟩:=nm ({gJ s o x rest with eW:=eY.jr s.eW (s.eW.ga o s.eB)});(have b:s2.fi.length=s.fi.length:=by rw[a];show (gJ s o x rest).fi.length=_;unfold gJ;rw[aU]);rw[<- a];by_cases e:(d.add s2.eX (jh s2 o x)).1=14
     ·rw[Bj e];exact⟨ae,b⟩
     rw[Bk e];dsimp only;rw[if_pos rfl]
     have g:((eA.answer {s2 with eX:=(d.add s2.eX (jh s2 o x)).2.2} (d.add s2.eX (jh s2 o x)).1 (jh s2 o x)).1.fi.set o rest).length=s.fi.length:=by
      rw[aU,Bl];exact b
     have ih:=Bn o f (d.add s2.eX (jh s2 o x)).2.1 { (eA.answer {s2 with eX:=(d.add s2.eX (jh s2 o x)).2.2} (d.add s2.eX (jh s2 o x)).1 (jh s2 o x)).1 with fi:=(eA.answer {s2 with eX:=(d.add s2.eX (jh s2 o x)).2.2} (d.add s2.eX (jh s2 o x)).1 (jh s2 o x)).1.fi.set o rest} (told s o x out++[(eA.answer {s2 with eX:=(d.add s2.eX (jh s2 o x)).2.2} (d.add s2.eX (jh s2 o x)).1 (jh s2 o x)).1.fG (eA.answer {s2 with eX:=(d.add s2.eX (jh s2 o x)).2.2} (d.add s2.eX (jh s2 o x)).1 (jh s2 o x)).2]) (by rw[g];exact h);refine⟨aB ih.1 ?_,ih.2.trans g⟩;rw[aE,aQ];omega
theorem JK {d:fe} {s:eA} {o:Nat} (a:o<s.fi.length) (b:(s.eQ o).length<=10):(eA.fu d s o).1.length<=55:=by
 have:=(Bn o ((s.eQ o).length+1) d s [] a).1;unfold eA.fu;simp only[bJ]at this;omega
section
variable {P:Lib.PrintTabs} {own own1 own2:Nat->Nat} {w0 w wr w':World} {sb db wb dm tb tm:Nat} {v v1:Value} {ps Uw:List ByteArray} {qs Tt:List Value} {d d1:fe} {s s1:eA} {q q':Value} {out:List eL}
structure TM (P:Lib.PrintTabs) (own own1:Nat->Nat) (w0 w wr:World) (sb db wb dm tb tm:Nat) (v:Value) (ps:List ByteArray) (qs:List Value) (d:fe) (s:eA) (q:Value) (out:List eL):Prop where
 pj:w0.heap.size<=w.heap.size
 ext:Ext w own own1
 fj:fC P own1 w0 wr sb db wb dm tb tm v ps qs d s
 msgs:fV w.heap.size wr q out
 om:∀g,q.ownBlock=some g->own1 g=0
 fI:eJ (fL own) w wr
theorem TM.fu (h:TM P own own1 w0 w wr sb db wb dm tb tm v ps qs d s q out) (he:Ext wr own1 own2) (hw:fC P own2 w0 w' sb db wb dm tb tm v1 Uw Tt d1 s1) (ht:eJ (fL own1) wr w'):TM P own own2 w0 w w' sb db wb dm tb tm v1 Uw Tt d1 s1 q out:=by
 have b:∀g,q.ownBlock=some g->g<wr.heap.size:=fun g hg=>(h.msgs.lt g hg).2;refine⟨h.pj,fun k a=>(he k (aG a h.fI.size)).trans (h.ext k a),hw,h.msgs.fc ht fun g hg hs=>by have:=h.om g hg;unfold fL at hs;omega,fun g hg=>(he g (b g hg)).trans (h.om g hg),h.fI.trans ht fun k a hs=>?_⟩;unfold fL at hs⊢;rwa [h.ext k a]at hs
theorem TM.append {n:List eL} (h:TM P own own1 w0 w wr sb db wb dm tb tm v ps qs d s q out) (hm:fV w.heap.size w' q' (out++n)) (hg:wr.grownBy w' q.ownBlock) (b:∀g,q'.ownBlock=some g->q.ownBlock=some g\/g=wr.heap.size):TM P own own1 w0 w w' sb db wb dm tb tm v ps qs d s q' (out++n):=by
 refine abJ ?_;intro ht;refine⟨h.pj,h.ext,h.fj.pS ht fun g _ hg=>⟨h.om g hg,aB h.pj (h.msgs.block g hg)⟩,hm,fun g hg=>?_,h.fI.trans ht fun k hk QA=>?_⟩
 ·rcases b g hg with a|a
  ·exact h.om g a
  exact h.fj.fr g ab
 have:=h.msgs.block k QA;omega
theorem JL (w:World) (eB:Int) (h:fC P own w0 w sb db wb dm tb tm v ps qs d s) :
 Calls Tryz.prog 50 #[VP sb 0,VI eB] w (jf P own w0 w sb db wb dm tb tm (eA.tick d s eB)):=by
 obtain⟨r,f⟩:=nm (eA.tick d s eB);rw[<- f];have i:=Hd (uz w h);have H:=Hd h
 cases hd:s.eX with
 |true =>
  have HR:Hy (r=([],d,s)):=Hd (by rw[f];unfold eA.tick;rw[if_pos hd]);rw[hd]at i;clear f hd h;(go_enter Tryz.func50,Tryz.ntmps50);(go_wp2_with (go_at_call 68;refine i.o.mono ?_;rintro e w' ⟨rfl,rfl⟩));go_ret;rw[HR.o];exact jf.here H.o (eJ.refl _ _) (fV.nil _ _)
 |false =>
  have HR:Hy (r=eA.gY (List.range 8) d (s.at_ eB) []):=Hd (by rw[f];unfold eA.tick;rw[if_neg (by rw[hd];decide)]);rw[hd]at i;clear f hd h;go_enter Tryz.func50,Tryz.ntmps50
  go_upto_region 6 with (first
   |(go_at_call 68;refine i.o.mono ?_;rintro e w' ⟨rfl,rfl⟩)
   |(go_at_call 69;refine (AU w eB H.o).mono ?_;rintro e F ⟨rfl,t,t1⟩))
  have a:Hy (TM P own own w0 w F sb db wb dm tb tm v ps qs d (s.at_ eB) (.slice none 0 0) []):=Hd ⟨H.o.le,Ext.refl _ _,t,fV.nil _ _,fun g hg=>(by cases hg),t1.mono fun k _ e=>by subst e;unfold fL;rw[H.o.iL];decide⟩;clear t t1 i;(go_loopw [12,5] (fun b G wr=>∃(k:Nat) (own1:Nat->Nat) (v1:Value) (Uw:List ByteArray) (Tt:List Value) (d1:fe) (s1:eA) (out:List eL),k<=8/\b=VI k/\out.length<=55*k/\TM P own own1 w0 w wr sb db wb dm tb tm v1 Uw Tt d1 s1 G out/\r=eA.gY (List.range' k (8-k)) d1 s1 out) (fun b _ _=>8-(intOf b).toNat));case atStart=>exact⟨0,_,_,_,_,_,_,_,ab,rfl,ae,a.o,HR.o⟩
  case round =>
   clear a HR;obtain⟨k,own1,v1,Uw,Tt,d1,s1,out,L,rfl,hlen,j,l⟩:=hrel;have a:=Hd j;have u:=Hd l;have x:=Hd hlen;clear j l hlen;by_cases y:k<8
   ·have M:(k:Int)<8:=ab;have p:=Hd (xH wr k y a.o.fj);have m:=Hd (JK (d:=d1) (o:=k) (by rw[a.o.fj.nq];exact y) (a.o.fj.ok.ql k))
    go_wp2_with (first
     |(go_at_call 78;refine p.o.mono ?_;rintro e N ⟨u2,own2,v2,O,I,rfl,z,A,B,C⟩;have c:=Hd (a.o.fu z B C);have J:=Hd A;clear z A B C)
     |(refine JJ rfl (.tmp 15) (.tmp 18) c.o.fI.size u5 u2 out _ rfl rfl rfl c.o.msgs J.o (by have:=m.o;have:=x.o;omega) fun Q R D E n=>?_;have q:=Hd (c.o.append D E n);clear D E n))
    go_roundw
    case rel =>
     refine⟨k+1,_,_,_,_,_,_,_,ab,by go_num,?_,q.o,?_⟩
     ·rw[aE];have:=m.o;have:=x.o;omega
     rw[u.o,show 8-k=(8-(k+1))+1 by omega,List.range'_succ];rfl
    case measure=>simp[intOf];omega
   (obtain rfl:k=8:=by omega);have K:Hy (r=(out,d1,s1)):=Hd u.o;(go_wp2_with fail);go_ret;rw[K.o];exact⟨_,own1,v1,Uw,Tt,rfl,a.o.ext,a.o.msgs,a.o.fj,a.o.fI⟩
end
end fj
end Go.Proofs.YtjhdaojclilakaaGreatDoor
