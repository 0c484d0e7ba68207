/-
  A part of the proof of the law DeskPieces: ClG.
-/
import Derived.Test.YtlhodcmdpchllaaGreatDoorHd
import Derived.Test.YtlhodcmdpchllaaGreatDoorP30
set_option maxHeartbeats 16000000
set_option maxRecDepth 1000000
namespace Go.Proofs.YtlhodcmdpchllaaGreatDoor
section
namespace last
open Go
section
variable {P:Program} {ops:Array Oper} {Q:Exit->Act->World->Prop} {md:Region.Mode} {S:World->Prop} {L:Nat}
theorem ju (i d:Nat) {oi:Oper} {fuel:Nat} {lb:List Bool} {ts:List Value} {ds:List Deferred} {w:World} (hS:S w) (h:wpAnyL P md ops Q S L fuel (lb.set i true).toArray ⟨(ts.set d undef).toArray,ds⟩ w)
 (hi:ops[i]?=some oi:=by rfl) (hd:oi.dst=some d:=by rfl) (hs:Region.noSelect ops=true:=by kernel_rfl) (hf:Region.free md ops lb.toArray i=true:=by kernel_rfl) (hr:(Region.ready md ops lb.toArray).contains i=true:=by kernel_rfl) (hl:waits md ops L i=true:=by kernel_rfl)
 (hQ:∀c a w,Q (.panic c) (a.put (some d) undef) w->Q (.panic c) a w:=by exact fun _ _ _ h=>h) (hw:Region.wanted oi (yielded ops ts.toArray)=false:=by rfl):wpAnyL P md ops Q S L (fuel+1) lb.toArray ⟨ts.toArray,ds⟩ w:=
 gO i d hi hd hs hf hr hl hQ hS hw h
end
end last
namespace eZ
open Go.RowKit heap own eO fq eK dR cache
open dI (dJ gd fE eA ga ez put del)
section
variable {own own1:Nat->Nat} {T:Nat} {w wr w' w1:World} {cb fm sm:Nat} {cv:Value} {c c':dJ} {q q':Value} {out:List dH}
theorem iZ.here (h:eB own T w' cb fm sm cv c) (hf:∀g,w.heap.size<=g->own g=0) (ht:dD (fC own T) w w') {u:Value} {l:List dH} (hm:eE w.heap.size w' u l):iZ own T w cb c l (fun u=>u) (.returned u) w':=
 ⟨own,cv,fm,sm,u,rfl,Ext.refl _ _,fun g hg=>hf g (az ht.size hg),h,hm,ht⟩
theorem eB.sub (h:eB own T w cb fm sm cv c) {w2:World} (ht:dD (fun g=>g=cb) w w2):dD (fC own T) w w2:=ht.mono fun k _ e=>by subst e;unfold fC;rw[h.gI];omega
theorem Gs (m:dH) (h:eB own T w cb fm sm cv c) (hf:∀g,w.heap.size<=g->own g=0) (hT:0<T) (SQ:gi m.eI) :
 Calls Tryz.prog 114 #[.pointer (some ⟨cb,0,none⟩),m.val] w (iZ own T w cb (c.take m).2 (c.take m).1 fun u=>u):=by
 obtain⟨mk,mc,mn,me,ms,mo,mv,ml,md⟩:=m;dsimp only at SQ;obtain⟨r,hr⟩:∃r,r=c.take ⟨mk,mc,mn,me,ms,mo,mv,ml,md⟩:=⟨_,rfl⟩;obtain⟨H,hH⟩:∃H,H=w.heap.size:=⟨_,rfl⟩;obtain⟨W1,Kh⟩:∃W1,W1=w.alloc (.cells #[.int .i64 mk,.int .i64 mc,.int .i64 mn,.int .i64 me,.int .i64 ms,.int .i64 mo,.int .i64 mv,.bool ml,.string ⟨md.toArray⟩] 109):=⟨_,rfl⟩;(have Kd:Below w.heap.size w W1:=by rw[Kh];exact (Below.refl _ _).alloc (aq _) _);(have Kf:Has W1 H (.cells #[.int .i64 mk,.int .i64 mc,.int .i64 mn,.int .i64 me,.int .i64 ms,.int .i64 mo,.int .i64 mv,.bool ml,.string ⟨md.toArray⟩] 109):=by rw[Kh,hH];exact Has.new w _);have Ln:=h.below Kd;have Ri:Hy (own H=0):=Hd (hf H (by omega));obtain⟨a1,Vm⟩:∃a1,a1=(mc !=c.id):=⟨_,rfl⟩;obtain⟨a2,Uh⟩:∃a2,a2=decide (mo<0):=⟨_,rfl⟩;obtain⟨a3,ha3⟩:∃a3,a3=decide (8<=mo):=⟨_,rfl⟩;obtain⟨q1,M8⟩:∃q1,q1=(me==c.dQ):=⟨_,rfl⟩;obtain⟨q2,NF⟩:∃q2,q2=(ms==c.fj):=⟨_,rfl⟩;obtain⟨same,T5⟩:∃same,same=(q1&&q2):=⟨_,rfl⟩
 have HR:Hy (r=if (a1||a2||a3) then ([],c) else
  if mk=5 then ([],c.lD ⟨mk,mc,mn,me,ms,mo,mv,ml,md⟩ same)
  else if mk=6 then (if c.fX&&decide (mn=c.fc)&&decide (c.call.dT=2) then ([],{c with call:={c.call with value:={c.call.value with dY:=mv},over:=true},fc:=0}) else ([],c))
  else if mk=7 then (if same&&decide (c.gh≠0)&&decide (mn=c.gh) then ([],{c with ei:=c.ends c.jC c.eJ.ei,gh:=0}) else ([],c))
  else if mk=8 then (if decide (c.dQ<me)||decide (me=c.dQ)&&decide (c.fj<ms) then ([],{c with dQ:=me,fj:=ms,ei:=0,gh:=0,cache:=[],fG:=[]}) else ([],c))
  else if mk=9 then (if same then ([dJ.eL {c with cache:=c.cache.drop mo,fG:=put mo (max (c.mD mo) mv) c.fG} {dI.gg with dT:=4,dF:=mo,eI:=mv}],{c with cache:=c.cache.drop mo,fG:=put mo (max (c.mD mo) mv) c.fG}) else ([],c))
  else ([],c)):=Hd (by
  rw[hr];unfold dJ.take
  have e1:(!decide (mc=c.id)||!dI.eT mo)=(a1||a2||a3):=by
   rw[Vm,Uh,ha3];unfold dI.eT dI.eG;rw[bE];simp only[bF,a8,decide_eq_false_iff_not,br,bne_iff_ne,ne_eq,decide_eq_true_eq];omega
  have e2:(decide (me=c.dQ)&&decide (ms=c.fj))=same:=by
   rw[T5,M8,NF];rfl
  dsimp only
  rw[e1,e2])
 have Tw:Hy ((a1||a2||a3)=false->0<=mo/\mo<8):=Hd fun h9=>by
  rw[Uh,ha3]at h9;simp only[cK,decide_eq_false_iff_not]at h9;omega
 have Ki:=Hd Kd;have KS:=Hd Kf;have N6:=Hd Ln;have Qw:=Hd hf;have HMV:=Hd SQ;have HSA:=Hd T5;have ea1:(mc !=c.id)=a1:=Vm.symm;have ea2:decide (mo<0)=a2:=Uh.symm;have ea3:decide (8<=mo)=a3:=ha3.symm;have eq1:(me==c.dQ)=q1:=M8.symm;have eq2:(ms==c.fj)=q2:=NF.symm;have x1:W1.cell? ⟨H,1,none⟩=some (.int .i64 mc):=Kf.cell 1;have x5:W1.cell? ⟨H,5,none⟩=some (.int .i64 mo):=Kf.cell 5;have c0:W1.cell? ⟨cb,0,none⟩=some (.int .i64 c.id):=Ln.c_.cell 0;rw[<- hr];unfold dH.val;dsimp only;clear hr Vm Uh ha3 M8 NF T5 h Kf Ln Kd SQ hf;(go_enter Tryz.func114,Tryz.ntmps114);(go_upto_region 1 with fail);rw[<- Kh,<- hH];have Q8:Hy (w.heap.size<=H):=Hd (cU hH.symm);clear Kh hH;go_cut [22] (fun t wx=>t=.bool (a1||a2||a3)/\∃nl,wx=W1.drewN nl)
 case first =>
  cases a1 with
  |true =>
   (go_quiet (fail));(go_wp2_with fail);go_meet;case rel=>exact⟨rfl,nq,rfl⟩
  |false =>
   cases a2 with
   |true =>
    (go_quiet (fail));(go_wp2_with fail);go_meet;case rel=>exact⟨rfl,nq,rfl⟩
   |false =>
    cases a3
    all_goals
     (go_quiet (fail));(go_wp2_with fail);go_meet;case rel=>exact⟨rfl,nq,rfl⟩
 case rest =>
  obtain⟨ht,nl,Lv⟩:=hcut;obtain⟨bad,SR⟩:∃bad,bad=(a1||a2||a3):=⟨_,rfl⟩;rw[<- SR]at ht HR Tw;subst ht;have Nn:Hy (eB own T wc cb fm sm cv c):=Hd (by rw[Lv];exact N6.o.drewN nl);have KV:Hy (Has wc H (.cells #[.int .i64 mk,.int .i64 mc,.int .i64 mn,.int .i64 me,.int .i64 ms,.int .i64 mo,.int .i64 mv,.bool ml,.string ⟨md.toArray⟩] 109)):=Hd (by rw[Lv];exact KS.o.drewN nl);have Kn:Hy (Below w.heap.size w wc):=Hd (by rw[Lv];exact below_drewN Ki.o nl);clear Lv SR ea1 ea2 ea3 N6 KS Ki x1 x5 c0
  cases bad with
  |true =>
   as_aux_lemma =>
    have HE:Hy (r=([],c)):=Hd HR.o;(go_wp2_with fail);go_ret;rw[HE.o];exact iZ.here Nn.o Qw.o (dD.fw Kn.o (aq _)) (eE.nil _ _)
  |false =>
   have Pp:=Tw.o rfl;have x3:wc.cell? ⟨H,3,none⟩=some (.int .i64 me):=KV.o.cell 3;have x4:wc.cell? ⟨H,4,none⟩=some (.int .i64 ms):=KV.o.cell 4;have c5:wc.cell? ⟨cb,5,none⟩=some (.int .i64 c.dQ):=Nn.o.c_.cell 5;have c6:wc.cell? ⟨cb,6,none⟩=some (.int .i64 c.fj):=Nn.o.c_.cell 6;(go_upto_region 3 with fail);obtain⟨W2,Kv⟩:∃W2,W2=wc:=⟨_,rfl⟩;rw[<- Kv]at Nn KV Kn x3 x4 c5 c6⊢;clear Kv;go_cut [5] (fun t wx=>t=.bool same/\∃nl,wx=W2.drewN nl)
   case first =>
    cases q1 with
    |false =>
     have Kq:Hy (same=false):=Hd HSA.o;(go_quiet (fail));(go_wp2_with fail);go_meet;case rel=>exact⟨by rw[Kq.o],nq,rfl⟩
    |true =>
     have Kq:Hy (same=q2):=Hd HSA.o;cases q2
     all_goals
      (go_quiet (fail));(go_wp2_with fail);go_meet;case rel=>exact⟨by rw[Kq.o],nq,rfl⟩
   case rest =>
    obtain⟨ht,nl,Lv⟩:=hcut;subst ht;have Xd:Hy (eB own T wc cb fm sm cv c):=Hd (by rw[Lv];exact Nn.o.drewN nl);have Xe:Hy (Has wc H (.cells #[.int .i64 mk,.int .i64 mc,.int .i64 mn,.int .i64 me,.int .i64 ms,.int .i64 mo,.int .i64 mv,.bool ml,.string ⟨md.toArray⟩] 109)):=Hd (by rw[Lv];exact KV.o.drewN nl);have Xf:Hy (Below w.heap.size w wc):=Hd (by rw[Lv];exact below_drewN Kn.o nl);obtain⟨W3,Kz⟩:∃W3,W3=wc:=⟨_,rfl⟩;rw[<- Kz]at Xd Xe Xf⊢;have Mz:=Xd;have L7:=Xe;have Lf:=Xf;clear Lv Kz Nn KV Kn x3 x4 c5 c6 eq1 eq2 HSA Xd Xe Xf Tw
    have Ld:Hy (r=if mk=5 then ([],c.lD ⟨mk,mc,mn,me,ms,mo,mv,ml,md⟩ same)
     else if mk=6 then (if c.fX&&decide (mn=c.fc)&&decide (c.call.dT=2) then ([],{c with call:={c.call with value:={c.call.value with dY:=mv},over:=true},fc:=0}) else ([],c))
     else if mk=7 then (if same&&decide (c.gh≠0)&&decide (mn=c.gh) then ([],{c with ei:=c.ends c.jC c.eJ.ei,gh:=0}) else ([],c))
     else if mk=8 then (if decide (c.dQ<me)||decide (me=c.dQ)&&decide (c.fj<ms) then ([],{c with dQ:=me,fj:=ms,ei:=0,gh:=0,cache:=[],fG:=[]}) else ([],c))
     else if mk=9 then (if same then ([dJ.eL {c with cache:=c.cache.drop mo,fG:=put mo (max (c.mD mo) mv) c.fG} {dI.gg with dT:=4,dF:=mo,eI:=mv}],{c with cache:=c.cache.drop mo,fG:=put mo (max (c.mD mo) mv) c.fG}) else ([],c))
     else ([],c)):=Hd HR.o
    clear HR;have x0:W3.cell? ⟨H,0,none⟩=some (.int .i64 mk):=L7.o.cell 0;by_cases k5:mk=5
    ·
     as_aux_lemma =>
      have HE:Hy (r=([],c.lD ⟨mk,mc,mn,me,ms,mo,mv,ml,md⟩ same)):=Hd (by rw[Ld.o,if_pos k5]);have TD:=Hd (Gr (w:=W3) ⟨mk,mc,mn,me,ms,mo,mv,ml,md⟩ same Mz.o (fun g hg=>Qw.o g (az Lf.o.size hg)) hT Pp HMV.o);(have f5:(mk==5)=true:=by simp[k5]);clear k5 Ld
      go_wp2_with (first
       |(refine wpList_load_row rfl 109 (.tmp 3) rfl H rfl 109 _ (0,0) _ L7.o Tryz.underlying109 rfl (by kernel_rfl) ?_)
       |(go_at_call 163;refine TD.o.mono ?_;rintro e W4 ⟨own4,cv4,fm4,lB,u4,rfl,he4,hf4,N2,-,R0⟩))
      go_ret;rw[HE.o];exact⟨own4,cv4,fm4,lB,.slice none 0 0,rfl,fun g hg=>he4 g (ay hg Lf.o.size),hf4,N2,eE.nil _ _,(dD.fw Lf.o (aq _)).trans R0 fun _ _ e=>e⟩
    (have f5:(mk==5)=false:=by simp[k5]);by_cases k6:mk=6
    ·
     as_aux_lemma =>
      obtain⟨b0,Ls⟩:∃b0,b0=c.fX:=⟨_,rfl⟩;obtain⟨n1,NN⟩:∃n1,n1=(mn==c.fc):=⟨_,rfl⟩;obtain⟨n2,OM⟩:∃n2,n2=(c.call.dT==2):=⟨_,rfl⟩;obtain⟨gb,Mw⟩:∃gb,gb=(b0&&n1&&n2):=⟨_,rfl⟩
      have HE:Hy (r=if gb then ([],{c with call:={c.call with value:={c.call.value with dY:=mv},over:=true},fc:=0}) else ([],c)):=Hd (by
       rw[Ld.o,if_neg k5,if_pos k6,Mw,Ls,NN,OM]
       rfl)
      (have MV:Hy (∀W,eB own T W cb fm sm cv c->Calls Tryz.prog 152 #[.pointer (some ⟨cb,0,none⟩)] W fun e w'=>e=.returned (.bool b0)/\W=w'):=Hd fun W hW=>by rw[Ls];exact pn W hW);have Ni:=Hd Mw;have Vt:(mn==c.fc)=n1:=NN.symm;have X5:(c.call.dT==2)=n2:=OM.symm;(have f6:(mk==6)=true:=by simp[k6]);clear k5 k6 Ld Ls NN OM Mw;(go_upto_region 8 with fail);go_cut [67] (fun t wx=>t=.bool gb/\wx=W3.drew)
      case first =>
       cases b0 with
       |false =>
        have Lr:Hy (gb=false):=Hd Ni.o;refine last.fS (fun W=>eB own T W cb fm sm cv c/\Has W H (.cells #[.int .i64 mk,.int .i64 mc,.int .i64 mn,.int .i64 me,.int .i64 ms,.int .i64 mo,.int .i64 mv,.bool ml,.string ⟨md.toArray⟩] 109)) 1000 19 ⟨Mz.o.drew,L7.o.drew⟩ fun HS=>?_;refine last.eN 0 49 (.pointer (some ⟨cb,0,none⟩)) HS.o ?_;dsimp only[List.set];refine last.one 1 fun K hK=>?_;go_simp;refine (MV.o _ Mz.o.drew).mono ?_;rintro e w9 ⟨rfl,rfl⟩;refine hK.out _ _ (fun _=>HS.o) ?_;clear hK K;refine last.eN 2 51 (.bool false) HS.o ?_;dsimp only[List.set];refine last.ju 3 52 HS.o ?_;dsimp only[List.set];refine last.ju 4 53 HS.o ?_;dsimp only[List.set];refine last.ju 5 54 HS.o ?_;dsimp only[List.set];refine last.ju 6 55 HS.o ?_;dsimp only[List.set];refine last.ju 7 56 HS.o ?_;dsimp only[List.set];refine last.ju 8 57 HS.o ?_;dsimp only[List.set];refine last.ju 9 58 HS.o ?_;dsimp only[List.set];refine last.eN 10 59 (.bool false) HS.o ?_;dsimp only[List.set];refine last.eN 11 60 (.bool false) HS.o ?_;dsimp only[List.set];refine last.ju 12 61 HS.o ?_;dsimp only[List.set];refine last.ju 13 62 HS.o ?_;dsimp only[List.set];refine last.ju 14 63 HS.o ?_;dsimp only[List.set];refine last.ju 15 64 HS.o ?_;dsimp only[List.set];refine last.ju 16 65 HS.o ?_;dsimp only[List.set];refine last.ju 17 66 HS.o ?_;dsimp only[List.set];refine last.eN 18 67 (.bool false) HS.o ?_;dsimp only[List.set];refine last.done ?_;(go_wp2_with fail);go_meet;case rel=>exact⟨by rw[Lr.o],rfl⟩
       |true =>
        cases n1 with
        |false =>
         have Lr:Hy (gb=false):=Hd Ni.o;refine last.fS (fun W=>eB own T W cb fm sm cv c/\Has W H (.cells #[.int .i64 mk,.int .i64 mc,.int .i64 mn,.int .i64 me,.int .i64 ms,.int .i64 mo,.int .i64 mv,.bool ml,.string ⟨md.toArray⟩] 109)) 1000 19 ⟨Mz.o.drew,L7.o.drew⟩ fun HS=>?_;refine last.eN 0 49 (.pointer (some ⟨cb,0,none⟩)) HS.o ?_;dsimp only[List.set];refine last.one 1 fun K hK=>?_;go_simp;refine (MV.o _ Mz.o.drew).mono ?_;rintro e w9 ⟨rfl,rfl⟩;refine hK.out _ _ (fun _=>HS.o) ?_;clear hK K;refine last.eN 2 51 (.bool true) HS.o ?_;dsimp only[List.set];refine last.eN 3 52 (.pointer (some ⟨H,2,none⟩)) HS.o ?_;dsimp only[List.set];refine last.eN 4 53 (.int .i64 mn) HS.o ?_ (hy:=(fun W' Kc=>by have e1:W'.cell? ⟨H,2,none⟩=some (.int .i64 mn):=Kc.2.cell 2;go_simp));dsimp only[List.set];refine last.eN 5 54 (.pointer (some ⟨cb,0,none⟩)) HS.o ?_;dsimp only[List.set];refine last.eN 6 55 (.pointer (some ⟨cb,0,none⟩)) HS.o ?_;dsimp only[List.set];refine last.eN 7 56 (.pointer (some ⟨cb,18,none⟩)) HS.o ?_;dsimp only[List.set];refine last.eN 8 57 (.int .i64 c.fc) HS.o ?_ (hy:=(fun W' Kc=>by have e1:W'.cell? ⟨cb,18,none⟩=some (.int .i64 c.fc):=Kc.1.c_.cell 18;go_simp));dsimp only[List.set];refine last.eN 9 58 (.bool false) HS.o ?_ (hy:=(fun W' Kc=>by have e9:=Vt;go_simp));dsimp only[List.set];refine last.eN 10 59 (.bool false) HS.o ?_;dsimp only[List.set];refine last.eN 11 60 (.bool false) HS.o ?_;dsimp only[List.set];refine last.ju 12 61 HS.o ?_;dsimp only[List.set];refine last.ju 13 62 HS.o ?_;dsimp only[List.set];refine last.ju 14 63 HS.o ?_;dsimp only[List.set];refine last.ju 15 64 HS.o ?_;dsimp only[List.set];refine last.ju 16 65 HS.o ?_;dsimp only[List.set];refine last.ju 17 66 HS.o ?_;dsimp only[List.set];refine last.eN 18 67 (.bool false) HS.o ?_;dsimp only[List.set];refine last.done ?_;(go_wp2_with fail);go_meet;case rel=>exact⟨by rw[Lr.o],rfl⟩
        |true =>
         have Lr:Hy (gb=n2):=Hd Ni.o;refine last.fS (fun W=>eB own T W cb fm sm cv c/\Has W H (.cells #[.int .i64 mk,.int .i64 mc,.int .i64 mn,.int .i64 me,.int .i64 ms,.int .i64 mo,.int .i64 mv,.bool ml,.string ⟨md.toArray⟩] 109)) 1000 19 ⟨Mz.o.drew,L7.o.drew⟩ fun HS=>?_;refine last.eN 0 49 (.pointer (some ⟨cb,0,none⟩)) HS.o ?_;dsimp only[List.set];refine last.one 1 fun K hK=>?_;go_simp;refine (MV.o _ Mz.o.drew).mono ?_;rintro e w9 ⟨rfl,rfl⟩;refine hK.out _ _ (fun _=>HS.o) ?_;clear hK K;refine last.eN 2 51 (.bool true) HS.o ?_;dsimp only[List.set];refine last.eN 3 52 (.pointer (some ⟨H,2,none⟩)) HS.o ?_;dsimp only[List.set];refine last.eN 4 53 (.int .i64 mn) HS.o ?_ (hy:=(fun W' Kc=>by have e1:W'.cell? ⟨H,2,none⟩=some (.int .i64 mn):=Kc.2.cell 2;go_simp));dsimp only[List.set];refine last.eN 5 54 (.pointer (some ⟨cb,0,none⟩)) HS.o ?_;dsimp only[List.set];refine last.eN 6 55 (.pointer (some ⟨cb,0,none⟩)) HS.o ?_;dsimp only[List.set];refine last.eN 7 56 (.pointer (some ⟨cb,18,none⟩)) HS.o ?_;dsimp only[List.set];refine last.eN 8 57 (.int .i64 c.fc) HS.o ?_ (hy:=(fun W' Kc=>by have e1:W'.cell? ⟨cb,18,none⟩=some (.int .i64 c.fc):=Kc.1.c_.cell 18;go_simp));dsimp only[List.set];refine last.eN 9 58 (.bool true) HS.o ?_ (hy:=(fun W' Kc=>by have e9:=Vt;go_simp));dsimp only[List.set];refine last.eN 10 59 (.bool true) HS.o ?_;dsimp only[List.set];refine last.eN 11 60 (.bool true) HS.o ?_;dsimp only[List.set];refine last.eN 12 61 (.pointer (some ⟨cb,0,none⟩)) HS.o ?_;dsimp only[List.set];refine last.eN 13 62 (.pointer (some ⟨cb,0,none⟩)) HS.o ?_;dsimp only[List.set];refine last.eN 14 63 (.pointer (some ⟨cb,12,none⟩)) HS.o ?_;dsimp only[List.set];refine last.eN 15 64 (.pointer (some ⟨cb,12,none⟩)) HS.o ?_;dsimp only[List.set];refine last.eN 16 65 (.int .i64 c.call.dT) HS.o ?_ (hy:=(fun W' Kc=>by have e1:W'.cell? ⟨cb,12,none⟩=some (.int .i64 c.call.dT):=Kc.1.c_.cell 12;go_simp));dsimp only[List.set];refine last.eN 17 66 (.bool n2) HS.o ?_ (hy:=(fun W' Kc=>by have e9:=X5;go_simp));dsimp only[List.set];refine last.eN 18 67 (.bool n2) HS.o ?_;dsimp only[List.set];refine last.done ?_;(go_wp2_with fail);go_meet;case rel=>exact⟨by rw[Lr.o],rfl⟩
      case rest =>
       obtain⟨ht,Lv⟩:=hcut;subst ht;have Li:Hy (eB own T wc cb fm sm cv c):=Hd (by rw[Lv];exact Mz.o.drew);have LC:Hy (Has wc H (.cells #[.int .i64 mk,.int .i64 mc,.int .i64 mn,.int .i64 me,.int .i64 ms,.int .i64 mo,.int .i64 mv,.bool ml,.string ⟨md.toArray⟩] 109)):=Hd (by rw[Lv];exact L7.o.drew);have KG:Hy (Below w.heap.size w wc):=Hd (by rw[Lv];exact Lf.o.drew);clear Lv Mz L7 Lf Ni Vt X5 MV x0
       cases gb with
       |false =>
        have QT:Hy (r=([],c)):=Hd HE.o;(go_wp2_with fail);go_ret;rw[QT.o];exact iZ.here Li.o Qw.o (dD.fw KG.o (aq _)) (eE.nil _ _)
       |true =>
        have QT:Hy (r=([],{c with call:={c.call with value:={c.call.value with dY:=mv},over:=true},fc:=0})):=Hd HE.o;have x6:wc.cell? ⟨H,6,none⟩=some (.int .i64 mv):=LC.o.cell 6;have Vk:wc.cell? ⟨cb,15,none⟩=some (.int .i64 c.call.value.dY):=Li.o.c_.cell 15;have Vl:wc.cell? ⟨cb,16,none⟩=some (.bool c.call.over):=Li.o.c_.cell 16;have XV:wc.cell? ⟨cb,18,none⟩=some (.int .i64 c.fc):=Li.o.c_.cell 18;have f15:=Li.o.c_.frozen 15;have f16:=Li.o.c_.frozen 16;have f18:=Li.o.c_.frozen 18;obtain⟨W8,LD⟩:∃W8,W8=((wc.setCell ⟨cb,15,none⟩ (.int .i64 mv)).setCell ⟨cb,16,none⟩ (.bool true)).setCell ⟨cb,18,none⟩ (.int .i64 0):=⟨_,rfl⟩;have K0:dD (fun g=>g=cb) wc W8:=by rw[LD];exact dZ.fp (dZ.fp (dZ.fp (dD.refl _ _) _ _) _ _) _ _
        have Ul:Hy (eB own T W8 cb fm sm cv {c with call:={c.call with value:={c.call.value with dY:=mv},over:=true},fc:=0}):=Hd (by
         refine Li.o.kT K0 ?_ rfl rfl rfl;rw[LD]
         exact ((Li.o.c_.eu 15 (.int .i64 mv)).eu 16 (.bool true)).eu 18 (.int .i64 0))
        have ME:Hy (dD (fC own T) w W8):=Hd ((dD.fw KG.o (aq _)).trans (Li.o.sub K0) fun _ _ e=>e);have HW8:=Hd LD;clear LD K0;(go_wp2_with fail);rw[<- HW8.o];go_ret;rw[QT.o];exact iZ.here Ul.o Qw.o ME.o (eE.nil _ _)
    (have f6:(mk==6)=false:=by simp[k6]);by_cases k7:mk=7
    ·
     as_aux_lemma =>
      obtain⟨p1,Vo⟩:∃p1,p1=(c.gh !=0):=⟨_,rfl⟩;obtain⟨p2,TU⟩:∃p2,p2=(mn==c.gh):=⟨_,rfl⟩;obtain⟨gb,Mw⟩:∃gb,gb=(same&&p1&&p2):=⟨_,rfl⟩;obtain⟨en,Q0⟩:∃en,en=c.ends c.jC c.eJ.ei:=⟨_,rfl⟩
      have HE:Hy (r=if gb then ([],{c with ei:=en,gh:=0}) else ([],c)):=Hd (by
       rw[Ld.o,if_neg k5,if_neg k6,if_pos k7,Mw,Vo,TU,Q0];(have e9:decide (c.gh≠0)=(c.gh !=0):=by rw[bE];simp);rw[e9]
       rfl)
      (have TB:Hy (∀W,eB own T W cb fm sm cv c->Calls Tryz.prog 164 #[.pointer (some ⟨cb,0,none⟩),.int .i64 c.jC,.int .i64 c.eJ.ei] W fun e w'=>e=.returned (.int .i64 en)/\W=w'):=Hd fun W hW=>by rw[Q0];exact xT W _ _ hW);have Ni:=Hd Mw;have ep1:(c.gh !=0)=p1:=Vo.symm;have ep2:(mn==c.gh)=p2:=TU.symm;(have f7:(mk==7)=true:=by simp[k7]);have c20:W3.cell? ⟨cb,20,none⟩=some (.int .i64 c.gh):=Mz.o.c_.cell 20;have x2:W3.cell? ⟨H,2,none⟩=some (.int .i64 mn):=L7.o.cell 2;clear k5 k6 k7 Ld Vo TU Mw Q0;(go_upto_region 11 with fail);go_cut [100] (fun t wx=>t=.bool gb/\∃nl,wx=W3.drewN nl)
      case first =>
       cases same with
       |false =>
        have Lr:Hy (gb=false):=Hd Ni.o;(go_quiet (fail));(go_wp2_with fail);go_meet;case rel=>exact⟨by rw[Lr.o],nq,rfl⟩
       |true =>
        cases p1 with
        |false =>
         have Lr:Hy (gb=false):=Hd Ni.o;(go_quiet (fail));(go_wp2_with fail);go_meet;case rel=>exact⟨by rw[Lr.o],nq,rfl⟩
        |true =>
         have Lr:Hy (gb=p2):=Hd Ni.o;cases p2
         all_goals
          (go_quiet (fail));(go_wp2_with fail);go_meet;case rel=>exact⟨by rw[Lr.o],nq,rfl⟩
      case rest =>
       obtain⟨ht,nl,Lv⟩:=hcut;subst ht;have Li:Hy (eB own T wc cb fm sm cv c):=Hd (by rw[Lv];exact Mz.o.drewN nl);have KG:Hy (Below w.heap.size w wc):=Hd (by rw[Lv];exact below_drewN Lf.o nl);clear Lv Mz L7 Lf Ni ep1 ep2 x0 c20 x2
       cases gb with
       |false =>
        have QT:Hy (r=([],c)):=Hd HE.o;(go_wp2_with fail);go_ret;rw[QT.o];exact iZ.here Li.o Qw.o (dD.fw KG.o (aq _)) (eE.nil _ _)
       |true =>
        have QT:Hy (r=([],{c with ei:=en,gh:=0})):=Hd HE.o;have c21:wc.cell? ⟨cb,21,none⟩=some (.int .i64 c.jC):=Li.o.c_.cell 21;have c2:wc.cell? ⟨cb,2,none⟩=some (.int .i64 c.eJ.ei):=Li.o.c_.cell 2;have c8:wc.cell? ⟨cb,8,none⟩=some (.int .i64 c.ei):=Li.o.c_.cell 8;have c20:wc.cell? ⟨cb,20,none⟩=some (.int .i64 c.gh):=Li.o.c_.cell 20;have f8:=Li.o.c_.frozen 8;have f20:=Li.o.c_.frozen 20;have K8:Hy (∀u,((wc.setCell ⟨cb,8,none⟩ u).drew.cell? ⟨cb,21,none⟩=some (.int .i64 c.jC)/\(wc.setCell ⟨cb,8,none⟩ u).drew.cell? ⟨cb,2,none⟩=some (.int .i64 c.eJ.ei))):=Hd fun u=>⟨((Li.o.c_.eu 8 u).drew).cell 21,((Li.o.c_.eu 8 u).drew).cell 2⟩;have aao:Hy (∀u v,(((wc.setCell ⟨cb,8,none⟩ u).setCell ⟨cb,20,none⟩ v).drew.cell? ⟨cb,21,none⟩=some (.int .i64 c.jC)/\((wc.setCell ⟨cb,8,none⟩ u).setCell ⟨cb,20,none⟩ v).drew.cell? ⟨cb,2,none⟩=some (.int .i64 c.eJ.ei))):=Hd fun u v=>⟨(((Li.o.c_.eu 8 u).eu 20 v).drew).cell 21,(((Li.o.c_.eu 8 u).eu 20 v).drew).cell 2⟩;(go_upto_region 12 with fail);(go_region_held3 (fun W=>W.cell? ⟨cb,21,none⟩=some (.int .i64 c.jC)/\W.cell? ⟨cb,2,none⟩=some (.int .i64 c.eJ.ei)) (first|exact K8.o _|exact aao.o _ _|go_keep) ((go_at_call 164;refine (TB.o _ Li.o.drew).mono ?_;rintro e w9 ⟨rfl,rfl⟩)));obtain⟨W8,LD⟩:∃W8,W8=((wc.setCell ⟨cb,8,none⟩ (.int .i64 en)).setCell ⟨cb,20,none⟩ (.int .i64 0)).drew:=⟨_,rfl⟩;have K0:dD (fun g=>g=cb) wc W8:=by rw[LD];exact (dZ.fp (dZ.fp (dD.refl _ _) _ _) _ _).drew
        have Ul:Hy (eB own T W8 cb fm sm cv {c with ei:=en,gh:=0}):=Hd (by
         refine Li.o.kT K0 ?_ rfl rfl rfl;rw[LD]
         exact ((Li.o.c_.eu 8 (.int .i64 en)).eu 20 (.int .i64 0)).drew)
        have ME:Hy (dD (fC own T) w W8):=Hd ((dD.fw KG.o (aq _)).trans (Li.o.sub K0) fun _ _ e=>e);rw[<- LD];clear LD K0 c21 c2 c8 c20 f8 f20 K8 aao;(go_wp2_with fail);go_ret;rw[QT.o];exact iZ.here Ul.o Qw.o ME.o (eE.nil _ _)
    (have f7:(mk==7)=false:=by simp[k7]);by_cases k8:mk=8
    ·
     as_aux_lemma =>
      obtain⟨p1,Vo⟩:∃p1,p1=decide (c.dQ<me):=⟨_,rfl⟩;obtain⟨p2,TU⟩:∃p2,p2=(me==c.dQ):=⟨_,rfl⟩;obtain⟨p3,Wk⟩:∃p3,p3=decide (c.fj<ms):=⟨_,rfl⟩;obtain⟨gb,Mw⟩:∃gb,gb=(p1||p2&&p3):=⟨_,rfl⟩
      have HE:Hy (r=if gb then ([],{c with dQ:=me,fj:=ms,ei:=0,gh:=0,cache:=[],fG:=[]}) else ([],c)):=Hd (by
       rw[Ld.o,if_neg k5,if_neg k6,if_neg k7,if_pos k8,Mw,Vo,TU,Wk]
       rfl)
      have Ni:=Hd Mw;have ep1:decide (c.dQ<me)=p1:=Vo.symm;have ep2:(me==c.dQ)=p2:=TU.symm;have ep3:decide (c.fj<ms)=p3:=Wk.symm;(have f8:(mk==8)=true:=by simp[k8]);have c5:W3.cell? ⟨cb,5,none⟩=some (.int .i64 c.dQ):=Mz.o.c_.cell 5;have c6:W3.cell? ⟨cb,6,none⟩=some (.int .i64 c.fj):=Mz.o.c_.cell 6;have x3:W3.cell? ⟨H,3,none⟩=some (.int .i64 me):=L7.o.cell 3;have x4:W3.cell? ⟨H,4,none⟩=some (.int .i64 ms):=L7.o.cell 4;clear k5 k6 k7 k8 Ld Vo TU Wk Mw;(go_upto_region 14 with fail);go_cut [144] (fun t wx=>t=.bool gb/\∃nl,wx=W3.drewN nl)
      case first =>
       cases p1 with
       |true =>
        have Lr:Hy (gb=true):=Hd Ni.o;(go_quiet (fail));(go_wp2_with fail);go_meet;case rel=>exact⟨by rw[Lr.o],nq,rfl⟩
       |false =>
        cases p2 with
        |false =>
         have Lr:Hy (gb=false):=Hd Ni.o;(go_quiet (fail));(go_wp2_with fail);go_meet;case rel=>exact⟨by rw[Lr.o],nq,rfl⟩
        |true =>
         have Lr:Hy (gb=p3):=Hd Ni.o;cases p3
         all_goals
          (go_quiet (fail));(go_wp2_with fail);go_meet;case rel=>exact⟨by rw[Lr.o],nq,rfl⟩
      case rest =>
       obtain⟨ht,nl,Lv⟩:=hcut;subst ht;have Li:Hy (eB own T wc cb fm sm cv c):=Hd (by rw[Lv];exact Mz.o.drewN nl);have LC:Hy (Has wc H (.cells #[.int .i64 mk,.int .i64 mc,.int .i64 mn,.int .i64 me,.int .i64 ms,.int .i64 mo,.int .i64 mv,.bool ml,.string ⟨md.toArray⟩] 109)):=Hd (by rw[Lv];exact L7.o.drewN nl);have KG:Hy (Below w.heap.size w wc):=Hd (by rw[Lv];exact below_drewN Lf.o nl);clear Lv Mz L7 Lf Ni ep1 ep2 ep3 x0 c5 c6 x3 x4
       cases gb with
       |false =>
        have QT:Hy (r=([],c)):=Hd HE.o;(go_wp2_with fail);go_ret;rw[QT.o];exact iZ.here Li.o Qw.o (dD.fw KG.o (aq _)) (eE.nil _ _)
       |true =>
        have QT:Hy (r=([],{c with dQ:=me,fj:=ms,ei:=0,gh:=0,cache:=[],fG:=[]})):=Hd HE.o;have x3:wc.cell? ⟨H,3,none⟩=some (.int .i64 me):=LC.o.cell 3;have x4:wc.cell? ⟨H,4,none⟩=some (.int .i64 ms):=LC.o.cell 4;have c5:wc.cell? ⟨cb,5,none⟩=some (.int .i64 c.dQ):=Li.o.c_.cell 5;have c6:wc.cell? ⟨cb,6,none⟩=some (.int .i64 c.fj):=Li.o.c_.cell 6;have c8:wc.cell? ⟨cb,8,none⟩=some (.int .i64 c.ei):=Li.o.c_.cell 8;have c20:wc.cell? ⟨cb,20,none⟩=some (.int .i64 c.gh):=Li.o.c_.cell 20;have g5:=Li.o.c_.frozen 5;have g6:=Li.o.c_.frozen 6;have g8:=Li.o.c_.frozen 8;have g20:=Li.o.c_.frozen 20;have Km:cb≠H:=fun e=>by have h9:=Ri.o;rw[<- e,Li.o.gI]at h9;omega
        have fr:∀(W:World) (i:Nat) (u:Value),(W.cell? ⟨H,3,none⟩=some (.int .i64 me)/\W.cell? ⟨H,4,none⟩=some (.int .i64 ms))->((W.setCell ⟨cb,i,none⟩ u).cell? ⟨H,3,none⟩=some (.int .i64 me)/\(W.setCell ⟨cb,i,none⟩ u).cell? ⟨H,4,none⟩=some (.int .i64 ms)):=fun W i u hW =>
         ⟨(World.cell?_setCell_far _ _ _ _ Km).trans hW.1,(World.cell?_setCell_far _ _ _ _ Km).trans hW.2⟩
        have Md:=Hd fr;clear fr;(go_upto_region 15 with fail);(go_region_held3 (fun W=>W.cell? ⟨H,3,none⟩=some (.int .i64 me)/\W.cell? ⟨H,4,none⟩=some (.int .i64 ms)) (first|(go_keep;done)|exact Md.o _ _ _ ⟨x3,x4⟩|exact Md.o _ _ _ (Md.o _ _ _ ⟨x3,x4⟩)|exact Md.o _ _ _ (Md.o _ _ _ (Md.o _ _ _ ⟨x3,x4⟩))|exact Md.o _ _ _ (Md.o _ _ _ (Md.o _ _ _ (Md.o _ _ _ ⟨x3,x4⟩)))) (fail));obtain⟨W5,Mj⟩:∃W5,W5=((((wc.setCell ⟨cb,5,none⟩ (.int .i64 me)).setCell ⟨cb,6,none⟩ (.int .i64 ms)).setCell ⟨cb,8,none⟩ (.int .i64 0)).setCell ⟨cb,20,none⟩ (.int .i64 0)).drew:=⟨_,rfl⟩;(have Rv:dD (fun g=>g=cb) wc W5:=by rw[Mj];exact (dZ.fp (dZ.fp (dZ.fp (dZ.fp (dD.refl _ _) _ _) _ _) _ _) _ _).drew);obtain⟨c2,KL⟩:∃c2:dJ,c2={c with dQ:=me,fj:=ms,ei:=0,gh:=0}:=⟨_,rfl⟩
        have O1:Hy (eB own T W5 cb fm sm cv c2):=Hd (by
         rw[KL];refine Li.o.kT Rv ?_ rfl rfl rfl;rw[Mj]
         exact ((((Li.o.c_.eu 5 (.int .i64 me)).eu 6 (.int .i64 ms)).eu 8 (.int .i64 0)).eu 20 (.int .i64 0)).drew)
        have MJ:Hy (dD (fC own T) w W5):=Hd ((dD.fw KG.o (aq _)).trans (Li.o.sub Rv) fun _ _ e=>e);have Sw:Hy (r=([],{c2 with cache:=[],fG:=[]})):=Hd (by rw[QT.o,KL]);rw[<- Mj];clear Mj Rv x3 x4 c5 c6 c8 c20 g5 g6 g8 g20 Md Li LC KL QT;have NW:=Hd (EA own (T+1) cb 9 (jU c2 cv fm sm) 120 cv W5 O1.o.c_ rfl);(go_upto_region 17 with (go_at_call 165;refine NW.o.mono ?_;rintro e W6 ⟨rfl,RU⟩));obtain⟨Uw,cv6,he6,hf6,TC,MI⟩:=O1.o.ry (l:=[]) RU (by simp);have Mx:=Hd TC;have X7:Hy (Ext w own Uw):=Hd fun g hg=>he6 g (ay hg MJ.o.size);have Xb:=Hd hf6;have Oy:Hy (dD (fC own T) w W6):=Hd (MJ.o.trans MI fun _ _ e=>e);have M3:W6.cell? ⟨cb,10,none⟩=some (.map (some fm)):=TC.c_.cell 10;have g10:=TC.c_.frozen 10;have UU:=@run_makeMap Tryz.prog;clear RU he6 hf6 TC MI O1 MJ NW;obtain⟨FN,hFN⟩:∃FN,FN=W6.heap.size:=⟨_,rfl⟩
        obtain⟨Qx,NB⟩:∃Qx:Nat->Nat,Qx=fun k=>if k=FN then T+2 else Uw k:=⟨_,rfl⟩
        (have ho7o:∀k,k<W6.heap.size->Qx k=Uw k:=fun k hk=>by rw[NB];exact if_neg (by omega));obtain⟨W8,LD⟩:∃W8,W8=(W6.alloc (.map #[] 0)).setCell ⟨cb,10,none⟩ (.map (some FN)):=⟨_,rfl⟩;have RQ:Below W6.heap.size W6 (W6.alloc (.map #[] 0)):=(Below.refl _ _).alloc (aq _) _;have K0:dD (fun g=>g=cb) W6 W8:=by rw[LD];exact dZ.fp (dD.fw RQ (aq _)) _ _
        have Ul:Hy (eB Qx T W8 cb FN sm cv6 {c2 with cache:=[],fG:=[]}):=Hd (by
         have hA:=Mx.o.below RQ;have l1:=Mx.o.c_.lt;have l3:=Mx.o.seen.lt;(have n3:sm≠cb:=fun e=>by have h9:=Mx.o.kj;rw[e,Mx.o.gI]at h9;omega);have aap:=hA.c_.eu 10 (.map (some FN));rw[<- LD]at aap;have OV:=At.new iY W6;rw[<- hFN]at OV;(have MC:dD (fun g=>g=cb) (W6.alloc (.map #[] 0)) W8:=by rw[LD];exact dZ.fp (dD.refl _ _) _ _);refine⟨aap,(ho7o cb l1).trans Mx.o.gI,?_,by simp,OV.er MC (by omega),by rw[NB];exact if_pos rfl,hA.seen.er MC n3,(ho7o sm l3).trans Mx.o.kj,fun p hp=>(by cases hp),Mx.o.sk⟩
         exact Mx.o.items.ej K0 ho7o fun k _ ho e=>by rw[e,Mx.o.gI]at ho;omega)
        have Tv:Hy (∀g,W8.heap.size<=g->Qx g=0):=Hd fun g hg=>by
         (have h9:W6.heap.size+1<=W8.heap.size:=by rw[LD];simp[World.setCell]);rw[NB]
         show (if g=FN then T+2 else Uw g)=0
         rw[if_neg (by omega)];exact Xb.o g (by omega)
        have HE8:Hy (Ext w own Qx):=Hd fun g hg=>(ho7o g (ay hg Oy.o.size)).trans (X7.o g hg)
        have ME:Hy (dD (fC own T) w W8):=Hd (Oy.o.trans K0 fun k hk e=>by
         have h9:=X7.o k hk;unfold fC;rw[<- h9,e,Mx.o.gI]
         omega)
        have HW8:=Hd LD;have X8:=Hd hFN;have c10a:(W6.alloc (.map #[] 0)).cell? ⟨cb,10,none⟩=some (.map (some fm)):=(Mx.o.below RQ).c_.cell 10;have g10a:(W6.alloc (.map #[] 0)).frozen? ⟨cb,10,none⟩=false:=(Mx.o.below RQ).c_.frozen 10;clear LD K0 NB ho7o RQ hFN;(go_wp2_with fail);rw[<- X8.o,<- HW8.o];go_ret;rw[Sw.o];exact⟨Qx,cv6,FN,sm,.slice none 0 0,rfl,HE8.o,Tv.o,Ul.o,eE.nil _ _,ME.o⟩
    (have f8:(mk==8)=false:=by simp[k8]);by_cases k9:mk=9
    ·
     as_aux_lemma =>
      have f9:(mk==9)=true:=by simp[k9]
      cases same with
      |false =>
       have HE:Hy (r=([],c)):=Hd (by rw[Ld.o,if_neg k5,if_neg k6,if_neg k7,if_neg k8,if_pos k9];rfl);clear k5 k6 k7 k8 k9 Ld;(go_wp2_with fail);go_ret;rw[HE.o];exact iZ.here Mz.o Qw.o (dD.fw Lf.o (aq _)) (eE.nil _ _)
      |true =>
       obtain⟨sv,KK⟩:∃sv,sv=c.mD mo:=⟨_,rfl⟩;obtain⟨c5,MZ⟩:∃c5:dJ,c5={c with cache:=c.cache.drop mo}:=⟨_,rfl⟩
       have HE:Hy (r=([dJ.eL {c5 with fG:=put mo (max sv mv) c5.fG} ⟨4,0,0,0,0,mo,mv,false,[]⟩],{c5 with fG:=put mo (max sv mv) c5.fG})):=Hd (by
        rw[Ld.o,if_neg k5,if_neg k6,if_neg k7,if_neg k8,if_pos k9,KK,MZ]
        rfl)
       have Uj:Hy (Value.int .i64 sv=iY.ev ((ez mo c5.fG).getD iY.z)):=Hd (by rw[KK,MZ];rfl);(have ZT:own cb≠T+1:=by rw[Mz.o.gI];omega);have Zy:=Hd (xO own (T+1) cb 9 (jU c cv fm sm) 120 cv (c.cache.map fY) mo W3.drew Mz.o.drew.c_ rfl ZT Mz.o.drew.items);have x5:W3.cell? ⟨H,5,none⟩=some (.int .i64 mo):=L7.o.cell 5;have O0:H<W3.heap.size:=L7.o.lt
       have nH:¬(H=cb\/own H=T+1):=fun e=>by
        have h0:=Ri.o;rcases e with e|e
        ·rw[e,Mz.o.gI]at h0;omega
        omega
       have aaq:=Hd MZ;clear k5 k6 k7 k8 k9 Ld KK MZ;(go_upto_region 20 with fail);go_region_held3 (fun W=>W.cell? ⟨H,5,none⟩=some (.int .i64 mo)) (first|exact (RZ.cell (p:=⟨H,5,none⟩) O0 nH).trans x5|go_keep) ((go_at_call 166;refine Zy.o.mono ?_;rintro e W5 ⟨rfl,Xa,cvP,Tr,RZ,W0,hip⟩))
       have RU:jg own (T+1) cb 9 (jU c cv fm sm) 120 ((c.cache.drop mo).map fY) W3.drew W5:=by
        rw[<- rz];exact⟨Xa,cvP,Tr,RZ,W0,hip⟩
       obtain⟨own5,Tz,he5,hf5,MZ,Rv⟩:=Mz.o.drew.ry RU (az (xW _ _) Mz.o.ft);rw[<- aaq.o]at MZ;have O1:=Hd MZ;have L6:=Hd (RZ.has L7.o.drew nH);have Xc:Hy (Ext w own own5):=Hd fun g hg=>he5 g (ay hg Lf.o.size);have HO5:Hy (own5 H=0):=Hd ((he5 H O0).trans Ri.o);have HF5:=Hd hf5;have MJ:Hy (dD (fC own T) w W5):=Hd ((dD.fw Lf.o (aq _)).drew.trans Rv fun _ _ e=>e);have Qb:=Hd (y9 MZ.fG.nodup MZ.fk);have OD:Hy (gi mo):=Hd (WalkArith.wf_i64 (by omega))
       have HOM:Hy (gi (max sv mv)):=Hd (by
        have h9:gi sv:=by
         have h8:=MZ.fG.jD mo;have h7:=Uj.o
         have h6:sv=(ez mo c5.fG).getD 0:=by
          have:Value.int .i64 sv=Value.int .i64 ((ez mo c5.fG).getD 0):=h7;injection this
         rw[h6];exact h8
        by_cases hle:sv<=mv
        ·rw[Int.max_eq_right hle];exact HMV.o
        rw[Int.max_eq_left (by omega)];exact h9)
       clear RU Tr RZ W0 hip he5 hf5 MZ Rv x5 O0 nH Zy Mz L7;(go_upto_region 21 with fail);refine last.fS (fun W=>eB own5 T W cb fm sm Tz c5/\Has W H (.cells #[.int .i64 mk,.int .i64 mc,.int .i64 mn,.int .i64 me,.int .i64 ms,.int .i64 mo,.int .i64 mv,.bool ml,.string ⟨md.toArray⟩] 109)) 16 17 ⟨O1.o.drew,L6.o.drew⟩ fun HS=>?_;refine last.eN 0 178 (.pointer (some ⟨cb,0,none⟩)) HS.o ?_;dsimp only[List.set];refine last.eN 1 179 (.pointer (some ⟨cb,0,none⟩)) HS.o ?_;dsimp only[List.set];refine last.eN 2 180 (.pointer (some ⟨cb,10,none⟩)) HS.o ?_;dsimp only[List.set];refine last.eN 3 181 (.map (some fm)) HS.o ?_ (hy:=(fun W' Kc=>by have e1:W'.cell? ⟨cb,10,none⟩=some (.map (some fm)):=Kc.1.c_.cell 10;go_simp));dsimp only[List.set];refine last.eN 4 182 (.pointer (some ⟨H,5,none⟩)) HS.o ?_;dsimp only[List.set];refine last.eN 5 183 (.int .i64 mo) HS.o ?_ (hy:=(fun W' Kc=>by have e1:W'.cell? ⟨H,5,none⟩=some (.int .i64 mo):=Kc.2.cell 5;go_simp));dsimp only[List.set];refine last.eN 6 184 (.pointer (some ⟨cb,0,none⟩)) HS.o ?_;dsimp only[List.set];refine last.eN 7 185 (.pointer (some ⟨cb,0,none⟩)) HS.o ?_;dsimp only[List.set];refine last.eN 8 186 (.pointer (some ⟨cb,10,none⟩)) HS.o ?_;dsimp only[List.set];refine last.eN 9 187 (.map (some fm)) HS.o ?_ (hy:=(fun W' Kc=>by have e1:W'.cell? ⟨cb,10,none⟩=some (.map (some fm)):=Kc.1.c_.cell 10;go_simp));dsimp only[List.set];refine last.eN 10 188 (.pointer (some ⟨H,5,none⟩)) HS.o ?_;dsimp only[List.set];refine last.eN 11 189 (.int .i64 mo) HS.o ?_ (hy:=(fun W' Kc=>by have e1:W'.cell? ⟨H,5,none⟩=some (.int .i64 mo):=Kc.2.cell 5;go_simp));dsimp only[List.set];refine last.eN 12 190 (.int .i64 sv) HS.o ?_ (hy:=(fun W' Kc=>by (rw[Uj.o];exact pL iY (.tmp 187) (.tmp 189) rfl rfl Kc.1.fG OD.o rfl)));dsimp only[List.set];refine last.eN 13 191 (.pointer (some ⟨H,6,none⟩)) HS.o ?_;dsimp only[List.set];refine last.eN 14 192 (.int .i64 mv) HS.o ?_ (hy:=(fun W' Kc=>by have e1:W'.cell? ⟨H,6,none⟩=some (.int .i64 mv):=Kc.2.cell 6;go_simp));dsimp only[List.set];refine last.eN 15 193 (.int .i64 (max sv mv)) HS.o ?_;dsimp only[List.set];refine last.one 16 fun K hK=>?_;refine pK iY (.tmp 181) (.tmp 183) (.tmp 193) rfl rfl HS.o.1.fG (by have:=Qb.o;unfold maxLen;omega) (k:=mo) (u:=max sv mv) OD.o HOM.o rfl rfl ?_;intro w6 OP Vi;refine hK.out _ _ (fun h=>absurd rfl h) ?_;refine last.done ?_;obtain⟨TC,MI⟩:=O1.o.drew.Gq mo (max sv mv) Pp OP Vi;have Mx:=Hd TC;have Rb:=Hd (MI.has L6.o.drew (fun e=>by have h9:=HO5.o;rw[e,O1.o.kV]at h9;omega))
       have Oy:Hy (dD (fC own T) w w6):=Hd (MJ.o.drew.trans MI fun k hk e=>by
        have h9:=Xc.o k hk;unfold fC;rw[<- h9,e,O1.o.kV]
        omega)
       have Xb:Hy (∀g,w6.heap.size<=g->own5 g=0):=Hd fun g hg=>HF5.o g (az MI.size hg);obtain⟨c6,aas⟩:∃c6:dJ,c6={c5 with fG:=put mo (max sv mv) c5.fG}:=⟨_,rfl⟩;rw[<- aas]at Mx HE;have x5:w6.cell? ⟨H,5,none⟩=some (.int .i64 mo):=Rb.o.cell 5;have x6:w6.cell? ⟨H,6,none⟩=some (.int .i64 mv):=Rb.o.cell 6;clear TC MI OP Vi hK K HS O1 L6 MJ HF5 aas Uj Qb HOM aaq
       go_wp2_with (first
        |(go_at_call 151;refine (ru _ ⟨4,0,0,0,0,mo,mv,false,[]⟩ Mx.o).mono ?_;rintro e w7 ⟨rfl,Lu⟩)
        |(refine kU rfl (.tmp 200) (c6.eL ⟨4,0,0,0,0,mo,mv,false,[]⟩) rfl rfl ?_))
       go_ret;rw[HE.o];have L0:=Lu.alloc Lu.size (.cells (([c6.eL ⟨4,0,0,0,0,mo,mv,false,[]⟩]:List dH).flatMap fT).toArray 109);exact⟨own5,Tz,fm,sm,_,rfl,Xc.o,fun g hg=>Xb.o g (az L0.size hg),Mx.o.below L0,(eE.new (w:=w7) (l:=[c6.eL ⟨4,0,0,0,0,mo,mv,false,[]⟩]) (by simp)).base (az Oy.o.size Lu.size),Oy.o.gn L0 (aq _)⟩
    
    as_aux_lemma =>
     (have f9:(mk==9)=false:=by simp[k9]);have HE:Hy (r=([],c)):=Hd (by rw[Ld.o,if_neg k5,if_neg k6,if_neg k7,if_neg k8,if_neg k9]);clear k5 k6 k7 k8 k9 Ld;(go_wp2_with fail);go_ret;rw[HE.o];exact iZ.here Mz.o Qw.o (dD.fw Lf.o (aq _)) (eE.nil _ _)
end
end eZ
end
end Go.Proofs.YtlhodcmdpchllaaGreatDoor
