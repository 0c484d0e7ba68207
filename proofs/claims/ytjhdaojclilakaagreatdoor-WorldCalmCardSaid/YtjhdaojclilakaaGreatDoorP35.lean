/-
  A part of the proof of the law WorldCalm: ClG.
-/
import Derived.Test.YtjhdaojclilakaaGreatDoorHd
import Derived.Test.YtjhdaojclilakaaGreatDoorP29
import Derived.Test.YtjhdaojclilakaaGreatDoorP34
set_option maxHeartbeats 16000000
set_option maxRecDepth 1000000
namespace Go.Proofs.YtjhdaojclilakaaGreatDoor
section
variable {p q:Prop}
theorem aaz (h:p:=by
 dsimp only[List.set];refine last.fZ 10 59 (.bool false) HS.o ?_;dsimp only[List.set];refine last.fZ 11 60 (.bool false) HS.o ?_;dsimp only[List.set];refine last.lB 12 61 HS.o ?_;dsimp only[List.set];refine last.lB 13 62 HS.o ?_;dsimp only[List.set];refine last.lB 14 63 HS.o ?_;dsimp only[List.set];refine last.lB 15 64 HS.o ?_;dsimp only[List.set];refine last.lB 16 65 HS.o ?_;dsimp only[List.set];refine last.lB 17 66 HS.o ?_;dsimp only[List.set];refine last.fZ 18 67 (.bool false) HS.o ?_;dsimp only[List.set];refine last.done ?_;(go_wp2_with fail);go_meet;case rel=>exact⟨by rw[Q4.o],rfl⟩):p:=h
theorem aaF (z:q) (h:Hy q->p:=by
 intro zz;refine last.iJ (fun W=>fM own T W cb fm sm cv c/\Has W H (.cells #[VI mk,VI mc,VI mn,VI me,VI ms,VI mo,VI mv,.bool ml,.string ⟨md.toArray⟩] 93)) 1000 19 ⟨RR.o.drew,Rc.o.drew⟩ fun HS=>?_;refine last.fZ 0 49 (VP cb 0) HS.o ?_;dsimp only[List.set];refine last.one 1 fun K hK=>?_;go_simp;refine (Sl.o _ RR.o.drew).mono ?_;revert HS K hK;exact zz.o):p:=h z
theorem aaL (z:q) (h:Hy q->p:=by
 intro zz;refine hK.out _ _ (fun _=>HS.o) ?_;refine last.fZ 2 51 (.bool true) HS.o ?_;dsimp only[List.set];refine last.fZ 3 52 (VP H 2) HS.o ?_;dsimp only[List.set];refine last.fZ 4 53 (VI mn) HS.o ?_ (hy:=(fun W' Pt=>by have e1:CI W' H 2 mn:=Pt.2.cell 2;go_simp));dsimp only[List.set];refine last.fZ 5 54 (VP cb 0) HS.o ?_;dsimp only[List.set];refine last.fZ 6 55 (VP cb 0) HS.o ?_;dsimp only[List.set];refine last.fZ 7 56 (VP cb 18) HS.o ?_;dsimp only[List.set];refine last.fZ 8 57 (VI c.fE) HS.o ?_ (hy:=(fun W' Pt=>by have e1:CI W' cb 18 c.fE:=Pt.1.c_.cell 18;go_simp));dsimp only[List.set];exact zz.o):p:=h z
theorem aa1 (h:p:=by
 (go_quiet (fail));(go_wp2_with fail);go_meet;case rel=>exact⟨by rw[Q4.o],nq,rfl⟩):p:=h
theorem abh (h:p:=by
 have Xa:Hy (r=([],c)):=Hd HE.o;(go_wp2_with fail);go_ret;rw[Xa.o];exact kV.here Qz.o Wv.o (eJ.il Rb.o (ax _)) (fV.nil _ _)):p:=h
theorem ab2 (h:p:=by
 (go_quiet (fail));(go_wp2_with fail);go_meet;case rel=>exact⟨rfl,nq,rfl⟩):p:=h
end
section
namespace last
open Go
section
variable {P:Program} {ops:Array Oper} {Q:Exit->Act->World->Prop} {md:Region.Mode} {S:World->Prop} {L:Nat}
theorem lB (i d:Nat) {e:Oper} {fuel:Nat} {b:List Bool} {f:List Value} {g:List Deferred} {w:World} (j:S w) (h:wpAnyL P md ops Q S L fuel (b.set i true).toArray ⟨(f.set d undef).toArray,g⟩ w)
 (hi:ops[i]?=some e:=by rfl) (hd:e.dst=some d:=by rfl) (hs:Region.noSelect ops=true:=by kernel_rfl) (k:Region.free md ops b.toArray i=true:=by kernel_rfl) (l:(Region.ready md ops b.toArray).contains i=true:=by kernel_rfl) (m:waits md ops L i=true:=by kernel_rfl)
 (hQ:∀c a w,Q (.panic c) (a.put (some d) undef) w->Q (.panic c) a w:=by exact fun _ _ _ h=>h) (hw:Region.wanted e (yielded ops f.toArray)=false:=by rfl):wpAnyL P md ops Q S L (fuel+1) b.toArray ⟨f.toArray,g⟩ w:=
 jH i d hi hd hs k l m hQ j hw h
end
end last
namespace gj
open Go.RowKit heap own gC gO fD fj cache
open eY (eM jg ir fU iM fw put del)
section
variable {own own1:Nat->Nat} {T:Nat} {w wr w' w1:World} {cb fm sm:Nat} {cv:Value} {c c':eM} {q q':Value} {out:List eL}
theorem kV.here (h:fM own T w' cb fm sm cv c) (a:∀g,w.heap.size<=g->own g=0) (ht:eJ (hO own T) w w') {u:Value} {l:List eL} (hm:fV w.heap.size w' u l):kV own T w cb c l (fun u=>u) (.returned u) w':=
 ⟨own,cv,fm,sm,u,rfl,Ext.refl _ _,fun g b=>a g (aB ht.size b),h,hm,ht⟩
theorem fM.sub (h:fM own T w cb fm sm cv c) {a:World} (ht:eJ (fun g=>g=cb) w a):eJ (hO own T) w a:=ht.mono fun k _ e=>by subst e;unfold hO;rw[h.jw];omega
theorem LU (m:eL) (h:fM own T w cb fm sm cv c) (hf:∀g,w.heap.size<=g->own g=0) (hT:0<T) (Y8:je m.fJ) :
 Calls Tryz.prog 46 #[VP cb 0,m.val] w (kV own T w cb (c.take m).2 (c.take m).1 fun u=>u):=by
 obtain⟨mk,mc,mn,me,ms,mo,mv,ml,md⟩:=m;dsimp only at Y8;obtain⟨r,hr⟩:=nm (c.take ⟨mk,mc,mn,me,ms,mo,mv,ml,md⟩);obtain⟨H,hH⟩:=nm w.heap.size;obtain⟨W1,Pz⟩:=nm (w.alloc (.cells #[VI mk,VI mc,VI mn,VI me,VI ms,VI mo,VI mv,.bool ml,.string ⟨md.toArray⟩] 93));(have Pu:BB w W1:=by rw[Pz];exact (Below.refl _ _).alloc (ax _) _);(have PC:Has W1 H (.cells #[VI mk,VI mc,VI mn,VI me,VI ms,VI mo,VI mv,.bool ml,.string ⟨md.toArray⟩] 93):=by rw[Pz,hH];exact Has.new w _);have Sp:=h.below Pu;have XC:Hy (own H=0):=Hd (hf H ab);obtain⟨Y,Z⟩:=nm (mc !=c.id);obtain⟨a2,XM⟩:=nm (decide (mo<0));obtain⟨a3,R⟩:=nm (decide (8<=mo));obtain⟨q1,Ww⟩:=nm (me==c.eS);obtain⟨q2,Sf⟩:=nm (ms==c.fx);obtain⟨same,aa⟩:=nm (q1&&q2)
 have HR:Hy (r=if (Y||a2||a3) then ([],c) else
  if mk=5 then ([],c.lr ⟨mk,mc,mn,me,ms,mo,mv,ml,md⟩ same)
  else if mk=6 then (if c.fB&&decide (mn=c.fE)&&decide (c.call.eO=2) then ([],{c with call:={c.call with value:={c.call.value with fq:=mv},over:=true},fE:=0}) else ([],c))
  else if mk=7 then (if same&&decide (c.ij≠0)&&decide (mn=c.ij) then ([],{c with fa:=c.ends c.iV c.eZ.fa,ij:=0}) else ([],c))
  else if mk=8 then (if decide (c.eS<me)||decide (me=c.eS)&&decide (c.fx<ms) then ([],{c with eS:=me,fx:=ms,fa:=0,ij:=0,cache:=[],gW:=[]}) else ([],c))
  else if mk=9 then (if same then ([eM.fG {c with cache:=c.cache.drop mo,gW:=put mo (max (c.kY mo) mv) c.gW} {eY.iH with eO:=4,eF:=mo,fJ:=mv}],{c with cache:=c.cache.drop mo,gW:=put mo (max (c.kY mo) mv) c.gW}) else ([],c))
  else ([],c)):=Hd (by
  rw[hr];unfold eM.take
  have e1:(!decide (mc=c.id)||!eY.fN mo)=(Y||a2||a3):=by
   rw[Z,XM,R];unfold eY.fN eY.fR;rw[cr];simp only[bz,aV,decide_eq_false_iff_not,bU,bne_iff_ne,ne_eq,decide_eq_true_eq];omega
  have e2:(decide (me=c.eS)&&decide (ms=c.fx))=same:=by
   rw[aa,Ww,Sf];rfl
  dsimp only
  rw[e1,e2])
 have ZU:Hy ((Y||a2||a3)=false->0<=mo/\mo<8):=Hd fun h9=>by
  rw[XM,R]at h9;simp only[bY,decide_eq_false_iff_not]at h9;omega
 have PQ:=Hd Pu;have Qn:=Hd PC;have TH:=Hd Sp;have Wv:=Hd hf;have b1:=Hd Y8;have ad:=Hd aa;have cJ:(mc !=c.id)=Y:=Z.symm;have cQ:decide (mo<0)=a2:=XM.symm;have cV:decide (8<=mo)=a3:=R.symm;have c4:(me==c.eS)=q1:=Ww.symm;have c7:(ms==c.fx)=q2:=Sf.symm;have x1:CI W1 H 1 mc:=PC.cell 1;have x5:CI W1 H 5 mo:=PC.cell 5;have c0:CI W1 cb 0 c.id:=Sp.c_.cell 0;rw[<- hr];unfold eL.val;dsimp only;clear hr Z XM R Ww Sf aa h PC Sp Pu Y8 hf;(go_enter Tryz.func46,Tryz.ntmps46);(go_upto_region 1 with fail);rw[<- Pz,<- hH];have ZB:Hy (w.heap.size<=H):=Hd (cZ hH.symm);clear Pz hH;go_cut [22] (fun t S=>t=.bool (Y||a2||a3)/\∃nl,S=W1.drewN nl)
 case first =>
  cases Y with
  |true =>
   exact ab2
  |false =>
   cases a2 with
   |true =>
    exact ab2
   |false =>
    cases a3
    all_goals
     exact ab2
 case rest =>
  obtain⟨ht,nl,a⟩:=hcut;obtain⟨bad,Y9⟩:=nm (Y||a2||a3);rw[<- Y9]at ht HR ZU;subst ht;have Sx:Hy (fM own T wc cb fm sm cv c):=Hd (by rw[a];exact TH.o.drewN nl);have Qg:Hy (Has wc H (.cells #[VI mk,VI mc,VI mn,VI me,VI ms,VI mo,VI mv,.bool ml,.string ⟨md.toArray⟩] 93)):=Hd (by rw[a];exact Qn.o.drewN nl);have Qk:Hy (BB w wc):=Hd (by rw[a];exact below_drewN PQ.o nl);clear a Y9 cJ cQ cV TH Qn PQ x1 x5 c0
  cases bad with
  |true =>
   as_aux_lemma =>
    have HE:Hy (r=([],c)):=Hd HR.o;(go_wp2_with fail);go_ret;rw[HE.o];exact kV.here Sx.o Wv.o (eJ.il Qk.o (ax _)) (fV.nil _ _)
  |false =>
   have Vh:=ZU.o rfl;have O:CI wc H 3 me:=Qg.o.cell 3;have P:CI wc H 4 ms:=Qg.o.cell 4;have c5:CI wc cb 5 c.eS:=Sx.o.c_.cell 5;have c6:CI wc cb 6 c.fx:=Sx.o.c_.cell 6;(go_upto_region 3 with fail);obtain⟨W2,PT⟩:=nm wc;rw[<- PT]at Sx Qg Qk O P c5 c6⊢;clear PT;go_cut [5] (fun t S=>t=.bool same/\∃nl,S=W2.drewN nl)
   case first =>
    cases q1 with
    |false =>
     have Qw:Hy (same=false):=Hd ad.o;(go_quiet (fail));(go_wp2_with fail);go_meet;case rel=>exact⟨by rw[Qw.o],nq,rfl⟩
    |true =>
     have Qw:Hy (same=q2):=Hd ad.o;cases q2
     all_goals
      (go_quiet (fail));(go_wp2_with fail);go_meet;case rel=>exact⟨by rw[Qw.o],nq,rfl⟩
   case rest =>
    obtain⟨ht,nl,a⟩:=hcut;subst ht;have al:Hy (fM own T wc cb fm sm cv c):=Hd (by rw[a];exact Sx.o.drewN nl);have an:Hy (Has wc H (.cells #[VI mk,VI mc,VI mn,VI me,VI ms,VI mo,VI mv,.bool ml,.string ⟨md.toArray⟩] 93)):=Hd (by rw[a];exact Qg.o.drewN nl);have aq:Hy (BB w wc):=Hd (by rw[a];exact below_drewN Qk.o nl);obtain⟨x,PO⟩:=nm wc;rw[<- PO]at al an aq⊢;have RR:=al;have Rc:=an;have D:=aq;clear a PO Sx Qg Qk O P c5 c6 c4 c7 ad al an aq ZU
    have y:Hy (r=if mk=5 then ([],c.lr ⟨mk,mc,mn,me,ms,mo,mv,ml,md⟩ same)
     else if mk=6 then (if c.fB&&decide (mn=c.fE)&&decide (c.call.eO=2) then ([],{c with call:={c.call with value:={c.call.value with fq:=mv},over:=true},fE:=0}) else ([],c))
     else if mk=7 then (if same&&decide (c.ij≠0)&&decide (mn=c.ij) then ([],{c with fa:=c.ends c.iV c.eZ.fa,ij:=0}) else ([],c))
     else if mk=8 then (if decide (c.eS<me)||decide (me=c.eS)&&decide (c.fx<ms) then ([],{c with eS:=me,fx:=ms,fa:=0,ij:=0,cache:=[],gW:=[]}) else ([],c))
     else if mk=9 then (if same then ([eM.fG {c with cache:=c.cache.drop mo,gW:=put mo (max (c.kY mo) mv) c.gW} {eY.iH with eO:=4,eF:=mo,fJ:=mv}],{c with cache:=c.cache.drop mo,gW:=put mo (max (c.kY mo) mv) c.gW}) else ([],c))
     else ([],c)):=Hd HR.o
    clear HR;have x0:CI x H 0 mk:=Rc.o.cell 0;by_cases n:mk=5
    ·
     as_aux_lemma =>
      have HE:Hy (r=([],c.lr ⟨mk,mc,mn,me,ms,mo,mv,ml,md⟩ same)):=Hd (by rw[y.o,if_pos n]);have c9:=Hd (LS (w:=x) ⟨mk,mc,mn,me,ms,mo,mv,ml,md⟩ same RR.o (fun g hg=>Wv.o g (aB D.o.size hg)) hT Vh b1.o);(have f5:(mk==5)=true:=by simp[n]);clear n y
      go_wp2_with (first
       |(refine wpList_load_row rfl 93 (.tmp 3) rfl H rfl 93 _ (0,0) _ Rc.o Tryz.underlying93 rfl af ?_)
       |(go_at_call 74;refine c9.o.mono ?_;rintro e W4 ⟨b2,da,db,dc,u4,rfl,dd,de,TE,-,Za⟩))
      go_ret;rw[HE.o];exact⟨b2,da,db,dc,.slice none 0 0,rfl,fun g hg=>dd g (aG hg D.o.size),de,TE,fV.nil _ _,(eJ.il D.o (ax _)).trans Za fun _ _ e=>e⟩
    (have f5:(mk==5)=false:=by simp[n]);by_cases A:mk=6
    ·
     as_aux_lemma =>
      obtain⟨b0,QP⟩:=nm c.fB;obtain⟨n1,SP⟩:=nm (mn==c.fE);obtain⟨n2,Ta⟩:=nm (c.call.eO==2);obtain⟨b,I⟩:=nm (b0&&n1&&n2)
      have HE:Hy (r=if b then ([],{c with call:={c.call with value:={c.call.value with fq:=mv},over:=true},fE:=0}) else ([],c)):=Hd (by
       rw[y.o,if_neg n,if_pos A,I,QP,SP,Ta]
       rfl)
      (have Sl:Hy (∀W,fM own T W cb fm sm cv c->Calls Tryz.prog 52 #[VP cb 0] W fun e w'=>e=.returned (.bool b0)/\W=w'):=Hd fun W hW=>by rw[QP];exact rE W hW);have B:=Hd I;have ar:(mn==c.fE)=n1:=SP.symm;have b3:(c.call.eO==2)=n2:=Ta.symm;(have f6:(mk==6)=true:=by simp[A]);clear n A y QP SP Ta I;(go_upto_region 8 with fail);go_cut [67] (fun t S=>t=.bool b/\S=x.drew)
      case first =>
       cases b0 with
       |false =>
        have Q4:Hy (b=false):=Hd B.o;refine aaF ?_;intro HS K hK;rintro e w9 ⟨rfl,rfl⟩;refine hK.out _ _ (fun _=>HS.o) ?_;clear hK K;refine last.fZ 2 51 (.bool false) HS.o ?_;dsimp only[List.set];refine last.lB 3 52 HS.o ?_;dsimp only[List.set];refine last.lB 4 53 HS.o ?_;dsimp only[List.set];refine last.lB 5 54 HS.o ?_;dsimp only[List.set];refine last.lB 6 55 HS.o ?_;dsimp only[List.set];refine last.lB 7 56 HS.o ?_;dsimp only[List.set];refine last.lB 8 57 HS.o ?_;dsimp only[List.set];refine last.lB 9 58 HS.o ?_;exact aaz
       |true =>
        cases n1 with
        |false =>
         have Q4:Hy (b=false):=Hd B.o;refine aaF ?_;intro HS K hK;rintro e w9 ⟨rfl,rfl⟩;refine aaL ?_;clear hK K;refine last.fZ 9 58 (.bool false) HS.o ?_ (hy:=(fun W' Pt=>by have e9:=ar;go_simp));exact aaz
        |true =>
         have Q4:Hy (b=n2):=Hd B.o;refine aaF ?_;intro HS K hK;rintro e w9 ⟨rfl,rfl⟩;refine aaL ?_;clear hK K;refine last.fZ 9 58 (.bool true) HS.o ?_ (hy:=(fun W' Pt=>by have e9:=ar;go_simp));dsimp only[List.set];refine last.fZ 10 59 (.bool true) HS.o ?_;dsimp only[List.set];refine last.fZ 11 60 (.bool true) HS.o ?_;dsimp only[List.set];refine last.fZ 12 61 (VP cb 0) HS.o ?_;dsimp only[List.set];refine last.fZ 13 62 (VP cb 0) HS.o ?_;dsimp only[List.set];refine last.fZ 14 63 (VP cb 12) HS.o ?_;dsimp only[List.set];refine last.fZ 15 64 (VP cb 12) HS.o ?_;dsimp only[List.set];refine last.fZ 16 65 (VI c.call.eO) HS.o ?_ (hy:=(fun W' Pt=>by have e1:CI W' cb 12 c.call.eO:=Pt.1.c_.cell 12;go_simp));dsimp only[List.set];refine last.fZ 17 66 (.bool n2) HS.o ?_ (hy:=(fun W' Pt=>by have e9:=b3;go_simp));dsimp only[List.set];refine last.fZ 18 67 (.bool n2) HS.o ?_;dsimp only[List.set];refine last.done ?_;(go_wp2_with fail);go_meet;case rel=>exact⟨by rw[Q4.o],rfl⟩
      case rest =>
       obtain⟨ht,a⟩:=hcut;subst ht;have Qz:Hy (fM own T wc cb fm sm cv c):=Hd (by rw[a];exact RR.o.drew);have Rt:Hy (Has wc H (.cells #[VI mk,VI mc,VI mn,VI me,VI ms,VI mo,VI mv,.bool ml,.string ⟨md.toArray⟩] 93)):=Hd (by rw[a];exact Rc.o.drew);have Rb:Hy (BB w wc):=Hd (by rw[a];exact D.o.drew);clear a RR Rc D B ar b3 Sl x0
       cases b with
       |false =>
        exact abh
       |true =>
        have Xa:Hy (r=([],{c with call:={c.call with value:={c.call.value with fq:=mv},over:=true},fE:=0})):=Hd HE.o;have x6:CI wc H 6 mv:=Rt.o.cell 6;have eb:CI wc cb 15 c.call.value.fq:=Qz.o.c_.cell 15;have ec:CC wc cb 16 (.bool c.call.over):=Qz.o.c_.cell 16;have ee:CI wc cb 18 c.fE:=Qz.o.c_.cell 18;have f15:=Qz.o.c_.frozen 15;have f16:=Qz.o.c_.frozen 16;have f18:=Qz.o.c_.frozen 18;obtain⟨C,s⟩:=nm (((wc.setCell ⟨cb,15,none⟩ (VI mv)).setCell ⟨cb,16,none⟩ (.bool true)).setCell ⟨cb,18,none⟩ (VI 0));have J:eJ (fun g=>g=cb) wc C:=by rw[s];exact fF.gX (fF.gX (fF.gX (eJ.refl _ _) _ _) _ _) _ _
        have L:Hy (fM own T C cb fm sm cv {c with call:={c.call with value:={c.call.value with fq:=mv},over:=true},fE:=0}):=Hd (by
         refine Qz.o.nj J ?_ rfl rfl rfl;rw[s]
         exact ((Qz.o.c_.fQ 15 (VI mv)).fQ 16 (.bool true)).fQ 18 (VI 0))
        have RW:Hy (eJ (hO own T) w C):=Hd ((eJ.il Rb.o (ax _)).trans (Qz.o.sub J) fun _ _ e=>e);have au:=Hd s;clear s J;(go_wp2_with fail);rw[<- au.o];go_ret;rw[Xa.o];exact kV.here L.o Wv.o RW.o (fV.nil _ _)
    (have f6:(mk==6)=false:=by simp[A]);by_cases G:mk=7
    ·
     as_aux_lemma =>
      obtain⟨p1,U0⟩:=nm (c.ij !=0);obtain⟨V,Xv⟩:=nm (mn==c.ij);obtain⟨b,I⟩:=nm (same&&p1&&V);obtain⟨en,Xg⟩:=nm (c.ends c.iV c.eZ.fa)
      have HE:Hy (r=if b then ([],{c with fa:=en,ij:=0}) else ([],c)):=Hd (by
       rw[y.o,if_neg n,if_neg A,if_pos G,I,U0,Xv,Xg];(have e9:decide (c.ij≠0)=(c.ij !=0):=by rw[cr];simp);rw[e9]
       rfl)
      (have ZZ:Hy (∀W,fM own T W cb fm sm cv c->Calls Tryz.prog 75 #[VP cb 0,VI c.iV,VI c.eZ.fa] W fun e w'=>e=.returned (VI en)/\W=w'):=Hd fun W hW=>by rw[Xg];exact Bz W _ _ hW);have B:=Hd I;have a6:(c.ij !=0)=p1:=U0.symm;have a7:(mn==c.ij)=V:=Xv.symm;(have f7:(mk==7)=true:=by simp[G]);have Tv:CI x cb 20 c.ij:=RR.o.c_.cell 20;have x2:CI x H 2 mn:=Rc.o.cell 2;clear n A G y U0 Xv I Xg;(go_upto_region 11 with fail);go_cut [100] (fun t S=>t=.bool b/\∃nl,S=x.drewN nl)
      case first =>
       cases same with
       |false =>
        have Q4:Hy (b=false):=Hd B.o;exact aa1
       |true =>
        cases p1 with
        |false =>
         have Q4:Hy (b=false):=Hd B.o;exact aa1
        |true =>
         have Q4:Hy (b=V):=Hd B.o;cases V
         all_goals
          exact aa1
      case rest =>
       obtain⟨ht,nl,a⟩:=hcut;subst ht;have Qz:Hy (fM own T wc cb fm sm cv c):=Hd (by rw[a];exact RR.o.drewN nl);have Rb:Hy (BB w wc):=Hd (by rw[a];exact below_drewN D.o nl);clear a RR Rc D B a6 a7 x0 Tv x2
       cases b with
       |false =>
        exact abh
       |true =>
        have Xa:Hy (r=([],{c with fa:=en,ij:=0})):=Hd HE.o;have c21:CI wc cb 21 c.iV:=Qz.o.c_.cell 21;have c2:CI wc cb 2 c.eZ.fa:=Qz.o.c_.cell 2;have c8:CI wc cb 8 c.fa:=Qz.o.c_.cell 8;have Tv:CI wc cb 20 c.ij:=Qz.o.c_.cell 20;have f8:=Qz.o.c_.frozen 8;have f20:=Qz.o.c_.frozen 20;have K8:Hy (∀u,((wc.setCell ⟨cb,8,none⟩ u).drew.cell? ⟨cb,21,none⟩=some (VI c.iV)/\(wc.setCell ⟨cb,8,none⟩ u).drew.cell? ⟨cb,2,none⟩=some (VI c.eZ.fa))):=Hd fun u=>⟨((Qz.o.c_.fQ 8 u).drew).cell 21,((Qz.o.c_.fQ 8 u).drew).cell 2⟩;have b4:Hy (∀u v,(((wc.setCell ⟨cb,8,none⟩ u).setCell ⟨cb,20,none⟩ v).drew.cell? ⟨cb,21,none⟩=some (VI c.iV)/\((wc.setCell ⟨cb,8,none⟩ u).setCell ⟨cb,20,none⟩ v).drew.cell? ⟨cb,2,none⟩=some (VI c.eZ.fa))):=Hd fun u v=>⟨(((Qz.o.c_.fQ 8 u).fQ 20 v).drew).cell 21,(((Qz.o.c_.fQ 8 u).fQ 20 v).drew).cell 2⟩;(go_upto_region 12 with fail);(go_region_held3 (fun W=>CI W cb 21 c.iV/\CI W cb 2 c.eZ.fa) (first|exact K8.o _|exact b4.o _ _|go_keep) ((go_at_call 75;refine (ZZ.o _ Qz.o.drew).mono ?_;rintro e w9 ⟨rfl,rfl⟩)));obtain⟨C,s⟩:=nm (((wc.setCell ⟨cb,8,none⟩ (VI en)).setCell ⟨cb,20,none⟩ (VI 0)).drew);have J:eJ (fun g=>g=cb) wc C:=by rw[s];exact (fF.gX (fF.gX (eJ.refl _ _) _ _) _ _).drew
        have L:Hy (fM own T C cb fm sm cv {c with fa:=en,ij:=0}):=Hd (by
         refine Qz.o.nj J ?_ rfl rfl rfl;rw[s]
         exact ((Qz.o.c_.fQ 8 (VI en)).fQ 20 (VI 0)).drew)
        have RW:Hy (eJ (hO own T) w C):=Hd ((eJ.il Rb.o (ax _)).trans (Qz.o.sub J) fun _ _ e=>e);rw[<- s];clear s J c21 c2 c8 Tv f8 f20 K8 b4;(go_wp2_with fail);go_ret;rw[Xa.o];exact kV.here L.o Wv.o RW.o (fV.nil _ _)
    (have f7:(mk==7)=false:=by simp[G]);by_cases Q:mk=8
    ·
     as_aux_lemma =>
      obtain⟨p1,U0⟩:=nm (decide (c.eS<me));obtain⟨V,Xv⟩:=nm (me==c.eS);obtain⟨p3,S0⟩:=nm (decide (c.fx<ms));obtain⟨b,I⟩:=nm (p1||V&&p3)
      have HE:Hy (r=if b then ([],{c with eS:=me,fx:=ms,fa:=0,ij:=0,cache:=[],gW:=[]}) else ([],c)):=Hd (by
       rw[y.o,if_neg n,if_neg A,if_neg G,if_pos Q,I,U0,Xv,S0]
       rfl)
      have B:=Hd I;have a6:decide (c.eS<me)=p1:=U0.symm;have a7:(me==c.eS)=V:=Xv.symm;have dm:decide (c.fx<ms)=p3:=S0.symm;(have f8:(mk==8)=true:=by simp[Q]);have c5:CI x cb 5 c.eS:=RR.o.c_.cell 5;have c6:CI x cb 6 c.fx:=RR.o.c_.cell 6;have O:CI x H 3 me:=Rc.o.cell 3;have P:CI x H 4 ms:=Rc.o.cell 4;clear n A G Q y U0 Xv S0 I;(go_upto_region 14 with fail);go_cut [144] (fun t S=>t=.bool b/\∃nl,S=x.drewN nl)
      case first =>
       cases p1 with
       |true =>
        have Q4:Hy (b=true):=Hd B.o;exact aa1
       |false =>
        cases V with
        |false =>
         have Q4:Hy (b=false):=Hd B.o;exact aa1
        |true =>
         have Q4:Hy (b=p3):=Hd B.o;cases p3
         all_goals
          exact aa1
      case rest =>
       obtain⟨ht,nl,a⟩:=hcut;subst ht;have Qz:Hy (fM own T wc cb fm sm cv c):=Hd (by rw[a];exact RR.o.drewN nl);have Rt:Hy (Has wc H (.cells #[VI mk,VI mc,VI mn,VI me,VI ms,VI mo,VI mv,.bool ml,.string ⟨md.toArray⟩] 93)):=Hd (by rw[a];exact Rc.o.drewN nl);have Rb:Hy (BB w wc):=Hd (by rw[a];exact below_drewN D.o nl);clear a RR Rc D B a6 a7 dm x0 c5 c6 O P
       cases b with
       |false =>
        exact abh
       |true =>
        have Xa:Hy (r=([],{c with eS:=me,fx:=ms,fa:=0,ij:=0,cache:=[],gW:=[]})):=Hd HE.o;have O:CI wc H 3 me:=Rt.o.cell 3;have P:CI wc H 4 ms:=Rt.o.cell 4;have c5:CI wc cb 5 c.eS:=Qz.o.c_.cell 5;have c6:CI wc cb 6 c.fx:=Qz.o.c_.cell 6;have c8:CI wc cb 8 c.fa:=Qz.o.c_.cell 8;have Tv:CI wc cb 20 c.ij:=Qz.o.c_.cell 20;have g5:=Qz.o.c_.frozen 5;have g6:=Qz.o.c_.frozen 6;have g8:=Qz.o.c_.frozen 8;have g20:=Qz.o.c_.frozen 20;have PB:cb≠H:=fun e=>by have h9:=XC.o;rw[<- e,Qz.o.jw]at h9;omega
        have fr:∀(W:World) (i:Nat) (u:Value),(CI W H 3 me/\CI W H 4 ms)->((W.setCell ⟨cb,i,none⟩ u).cell? ⟨H,3,none⟩=some (VI me)/\(W.setCell ⟨cb,i,none⟩ u).cell? ⟨H,4,none⟩=some (VI ms)):=fun W i u hW =>
         ⟨(World.cell?_setCell_far _ _ _ _ PB).trans hW.1,(World.cell?_setCell_far _ _ _ _ PB).trans hW.2⟩
        have M:=Hd fr;clear fr;(go_upto_region 15 with fail);(go_region_held3 (fun W=>CI W H 3 me/\CI W H 4 ms) (first|(go_keep;done)|exact M.o _ _ _ ⟨O,P⟩|exact M.o _ _ _ (M.o _ _ _ ⟨O,P⟩)|exact M.o _ _ _ (M.o _ _ _ (M.o _ _ _ ⟨O,P⟩))|exact M.o _ _ _ (M.o _ _ _ (M.o _ _ _ (M.o _ _ _ ⟨O,P⟩)))) (fail));obtain⟨W5,Re⟩:=nm (((((wc.setCell ⟨cb,5,none⟩ (VI me)).setCell ⟨cb,6,none⟩ (VI ms)).setCell ⟨cb,8,none⟩ (VI 0)).setCell ⟨cb,20,none⟩ (VI 0)).drew);(have Wx:eJ (fun g=>g=cb) wc W5:=by rw[Re];exact (fF.gX (fF.gX (fF.gX (fF.gX (eJ.refl _ _) _ _) _ _) _ _) _ _).drew);obtain⟨c2,PE⟩:=nm ({c with eS:=me,fx:=ms,fa:=0,ij:=0}:eM)
        have U:Hy (fM own T W5 cb fm sm cv c2):=Hd (by
         rw[PE];refine Qz.o.nj Wx ?_ rfl rfl rfl;rw[Re]
         exact ((((Qz.o.c_.fQ 5 (VI me)).fQ 6 (VI ms)).fQ 8 (VI 0)).fQ 20 (VI 0)).drew)
        have SD:Hy (eJ (hO own T) w W5):=Hd ((eJ.il Rb.o (ax _)).trans (Qz.o.sub Wx) fun _ _ e=>e);have YT:Hy (r=([],{c2 with cache:=[],gW:=[]})):=Hd (by rw[Xa.o,PE]);rw[<- Re];clear Re Wx O P c5 c6 c8 Tv g5 g6 g8 g20 M Qz Rt PE Xa;have S9:=Hd (JY own (T+1) cb 9 (lX c2 cv fm sm) 113 cv W5 U.o.c_ rfl);(go_upto_region 17 with (go_at_call 76;refine S9.o.mono ?_;rintro e E ⟨rfl,Yg⟩));obtain⟨Wy,b5,b6,b7,Z1,RJ⟩:=U.o.uO (l:=[]) Yg ae;have d:=Hd Z1;have b8:Hy (Ext w own Wy):=Hd fun g hg=>b6 g (aG hg SD.o.size);have bb:=Hd b7;have Uj:Hy (eJ (hO own T) w E):=Hd (SD.o.trans RJ fun _ _ e=>e);have Rz:CC E cb 10 (.map (some fm)):=Z1.c_.cell 10;have g10:=Z1.c_.frozen 10;have Z6:=@run_makeMap Tryz.prog;clear Yg b6 b7 Z1 RJ U SD S9;obtain⟨FN,bg⟩:=nm E.heap.size
        obtain⟨Wz,Te⟩:=nm (fun k=>if k=FN then T+2 else Wy k:Nat->Nat)
        (have f:∀k,k<E.heap.size->Wz k=Wy k:=fun k hk=>by rw[Te];exact if_neg ab);obtain⟨C,s⟩:=nm ((E.alloc (.map #[] 0)).setCell ⟨cb,10,none⟩ (.map (some FN)));have Yc:BB E (E.alloc (.map #[] 0)):=(Below.refl _ _).alloc (ax _) _;have J:eJ (fun g=>g=cb) E C:=by rw[s];exact fF.gX (eJ.il Yc (ax _)) _ _
        have L:Hy (fM Wz T C cb FN sm b5 {c2 with cache:=[],gW:=[]}):=Hd (by
         have hA:=d.o.below Yc;have l1:=d.o.c_.lt;have l3:=d.o.seen.lt;(have n3:sm≠cb:=fun e=>by have h9:=d.o.mB;rw[e,d.o.jw]at h9;omega);have b9:=hA.c_.fQ 10 (.map (some FN));rw[<- s]at b9;have Rk:=At.new kU E;rw[<- bg]at Rk;(have Su:eJ (fun g=>g=cb) (E.alloc (.map #[] 0)) C:=by rw[s];exact fF.gX (eJ.refl _ _) _ _);refine⟨b9,(f cb l1).trans d.o.jw,?_,ae,Rk.fI Su ab,by rw[Te];exact if_pos rfl,hA.seen.fI Su n3,(f sm l3).trans d.o.mB,fun p hp=>(by cases hp),d.o.sk⟩
         exact d.o.items.fc J f fun k _ ho e=>by rw[e,d.o.jw]at ho;omega)
        have ZT:Hy (∀g,C.heap.size<=g->Wz g=0):=Hd fun g hg=>by
         (have h9:E.heap.size+1<=C.heap.size:=by rw[s];simp[World.setCell]);rw[Te]
         show (if g=FN then T+2 else Wy g)=0
         rw[if_neg ab];exact bb.o g ab
        have dn:Hy (Ext w own Wz):=Hd fun g hg=>(f g (aG hg Uj.o.size)).trans (b8.o g hg)
        have RW:Hy (eJ (hO own T) w C):=Hd (Uj.o.trans J fun k hk e=>by
         have h9:=b8.o k hk;unfold hO;rw[<- h9,e,d.o.jw]
         omega)
        have au:=Hd s;have dq:=Hd bg;have dV:(E.alloc (.map #[] 0)).cell? ⟨cb,10,none⟩=some (.map (some fm)):=(d.o.below Yc).c_.cell 10;have ea:(E.alloc (.map #[] 0)).frozen? ⟨cb,10,none⟩=false:=(d.o.below Yc).c_.frozen 10;clear s J Te f Yc bg;(go_wp2_with fail);rw[<- dq.o,<- au.o];go_ret;rw[YT.o];exact⟨Wz,b5,FN,sm,.slice none 0 0,rfl,dn.o,ZT.o,L.o,fV.nil _ _,RW.o⟩
    (have f8:(mk==8)=false:=by simp[Q]);by_cases X:mk=9
    ·
     as_aux_lemma =>
      have f9:(mk==9)=true:=by simp[X]
      cases same with
      |false =>
       have HE:Hy (r=([],c)):=Hd (by rw[y.o,if_neg n,if_neg A,if_neg G,if_neg Q,if_pos X];rfl);clear n A G Q X y;(go_wp2_with fail);go_ret;rw[HE.o];exact kV.here RR.o Wv.o (eJ.il D.o (ax _)) (fV.nil _ _)
      |true =>
       obtain⟨F,PV⟩:=nm (c.kY mo);obtain⟨c5,N⟩:=nm ({c with cache:=c.cache.drop mo}:eM)
       have HE:Hy (r=([eM.fG {c5 with gW:=put mo (max F mv) c5.gW} ⟨4,0,0,0,0,mo,mv,false,[]⟩],{c5 with gW:=put mo (max F mv) c5.gW})):=Hd (by
        rw[y.o,if_neg n,if_neg A,if_neg G,if_neg Q,if_pos X,PV,N]
        rfl)
       have bj:Hy (VI F=kU.ev ((fw mo c5.gW).getD kU.z)):=Hd (by rw[PV,N];rfl);(have ds:own cb≠T+1:=by rw[RR.o.jw];omega);have ca:=Hd (Bu own (T+1) cb 9 (lX c cv fm sm) 113 cv (c.cache.map jc) mo x.drew RR.o.drew.c_ rfl ds RR.o.drew.items);have x5:CI x H 5 mo:=Rc.o.cell 5;have UM:H<x.heap.size:=Rc.o.lt
       have nH:¬(H=cb\/own H=T+1):=fun e=>by
        have h0:=XC.o;rcases e with e|e
        ·rw[e,RR.o.jw]at h0;omega
        omega
       have cc:=Hd N;clear n A G Q X y PV N;(go_upto_region 20 with fail);go_region_held3 (fun W=>CI W H 5 mo) (first|exact (Yl.cell (p:=⟨H,5,none⟩) UM nH).trans x5|go_keep) ((go_at_call 77;refine ca.o.mono ?_;rintro e W5 ⟨rfl,dz,dO,UP,Yl,ch,cj⟩))
       have Yg:lf own (T+1) cb 9 (lX c cv fm sm) 113 ((c.cache.drop mo).map jc) x.drew W5:=by
        rw[<- uP];exact⟨dz,dO,UP,Yl,ch,cj⟩
       obtain⟨j,ZY,bl,Ym,N,Wx⟩:=RR.o.drew.uO Yg (aB (BD _ _) RR.o.gz);rw[<- cc.o]at N;have U:=Hd N;have Rm:=Hd (Yl.has Rc.o.drew nH);have Z0:Hy (Ext w own j):=Hd fun g hg=>bl g (aG hg D.o.size);have dS:Hy (j H=0):=Hd ((bl H UM).trans XC.o);have cm:=Hd Ym;have SD:Hy (eJ (hO own T) w W5):=Hd ((eJ.il D.o (ax _)).drew.trans Wx fun _ _ e=>e);have V7:=Hd (Cm N.gW.nodup N.fk);have Up:Hy (je mo):=Hd (WalkArith.wf_i64 ab)
       have cp:Hy (je (max F mv)):=Hd (by
        have h9:je F:=by
         have h8:=N.gW.lU mo;have h7:=bj.o
         have h6:F=(fw mo c5.gW).getD 0:=by
          have:VI F=VI ((fw mo c5.gW).getD 0):=h7;injection this
         rw[h6];exact h8
        by_cases hle:F<=mv
        ·rw[Int.max_eq_right hle];exact b1.o
        rw[Int.max_eq_left ab];exact h9)
       clear Yg UP Yl ch cj bl Ym N Wx x5 UM nH ca RR Rc;(go_upto_region 21 with fail);refine last.iJ (fun W=>fM j T W cb fm sm ZY c5/\Has W H (.cells #[VI mk,VI mc,VI mn,VI me,VI ms,VI mo,VI mv,.bool ml,.string ⟨md.toArray⟩] 93)) 16 17 ⟨U.o.drew,Rm.o.drew⟩ fun HS=>?_;refine last.fZ 0 178 (VP cb 0) HS.o ?_;dsimp only[List.set];refine last.fZ 1 179 (VP cb 0) HS.o ?_;dsimp only[List.set];refine last.fZ 2 180 (VP cb 10) HS.o ?_;dsimp only[List.set];refine last.fZ 3 181 (.map (some fm)) HS.o ?_ (hy:=(fun W' Pt=>by have e1:CC W' cb 10 (.map (some fm)):=Pt.1.c_.cell 10;go_simp));dsimp only[List.set];refine last.fZ 4 182 (VP H 5) HS.o ?_;dsimp only[List.set];refine last.fZ 5 183 (VI mo) HS.o ?_ (hy:=(fun W' Pt=>by have e1:CI W' H 5 mo:=Pt.2.cell 5;go_simp));dsimp only[List.set];refine last.fZ 6 184 (VP cb 0) HS.o ?_;dsimp only[List.set];refine last.fZ 7 185 (VP cb 0) HS.o ?_;dsimp only[List.set];refine last.fZ 8 186 (VP cb 10) HS.o ?_;dsimp only[List.set];refine last.fZ 9 187 (.map (some fm)) HS.o ?_ (hy:=(fun W' Pt=>by have e1:CC W' cb 10 (.map (some fm)):=Pt.1.c_.cell 10;go_simp));dsimp only[List.set];refine last.fZ 10 188 (VP H 5) HS.o ?_;dsimp only[List.set];refine last.fZ 11 189 (VI mo) HS.o ?_ (hy:=(fun W' Pt=>by have e1:CI W' H 5 mo:=Pt.2.cell 5;go_simp));dsimp only[List.set];refine last.fZ 12 190 (VI F) HS.o ?_ (hy:=(fun W' Pt=>by (rw[bj.o];exact sF kU (.tmp 187) (.tmp 189) rfl rfl Pt.1.gW Up.o rfl)));dsimp only[List.set];refine last.fZ 13 191 (VP H 6) HS.o ?_;dsimp only[List.set];refine last.fZ 14 192 (VI mv) HS.o ?_ (hy:=(fun W' Pt=>by have e1:CI W' H 6 mv:=Pt.2.cell 6;go_simp));dsimp only[List.set];refine last.fZ 15 193 (VI (max F mv)) HS.o ?_;dsimp only[List.set];refine last.one 16 fun K hK=>?_;refine sE kU (.tmp 181) (.tmp 183) (.tmp 193) rfl rfl HS.o.1.gW (by have:=V7.o;unfold maxLen;omega) (k:=mo) (u:=max F mv) Up.o cp.o rfl rfl ?_;intro w6 Uy cq;refine hK.out _ _ (fun h=>absurd rfl h) ?_;refine last.done ?_;obtain⟨Z1,RJ⟩:=U.o.drew.LR mo (max F mv) Vh Uy cq;have d:=Hd Z1;have Xr:=Hd (RJ.has Rm.o.drew (fun e=>by have h9:=dS.o;rw[e,U.o.np]at h9;omega))
       have Uj:Hy (eJ (hO own T) w w6):=Hd (SD.o.drew.trans RJ fun k hk e=>by
        have h9:=Z0.o k hk;unfold hO;rw[<- h9,e,U.o.np]
        omega)
       have bb:Hy (∀g,w6.heap.size<=g->j g=0):=Hd fun g hg=>cm.o g (aB RJ.size hg);obtain⟨c6,cu⟩:=nm ({c5 with gW:=put mo (max F mv) c5.gW}:eM);rw[<- cu]at d HE;have x5:CI w6 H 5 mo:=Xr.o.cell 5;have x6:CI w6 H 6 mv:=Xr.o.cell 6;clear Z1 RJ Uy cq hK K HS U Rm SD cm cu bj V7 cp cc
       go_wp2_with (first
        |(go_at_call 64;refine (uN _ ⟨4,0,0,0,0,mo,mv,false,[]⟩ d.o).mono ?_;rintro e w7 ⟨rfl,RN⟩)
        |(refine nk rfl (.tmp 200) (c6.fG ⟨4,0,0,0,0,mo,mv,false,[]⟩) rfl rfl ?_))
       go_ret;rw[HE.o];have QL:=RN.alloc RN.size (.cells (([c6.fG ⟨4,0,0,0,0,mo,mv,false,[]⟩]:List eL).flatMap iS).toArray 93);exact⟨j,ZY,fm,sm,_,rfl,Z0.o,fun g hg=>bb.o g (aB QL.size hg),d.o.below QL,(fV.new (w:=w7) (l:=[c6.fG ⟨4,0,0,0,0,mo,mv,false,[]⟩]) ae).base (aB Uj.o.size RN.size),Uj.o.jl QL (ax _)⟩
    as_aux_lemma =>
     (have f9:(mk==9)=false:=by simp[X]);have HE:Hy (r=([],c)):=Hd (by rw[y.o,if_neg n,if_neg A,if_neg G,if_neg Q,if_neg X]);clear n A G Q X y;(go_wp2_with fail);go_ret;rw[HE.o];exact kV.here RR.o Wv.o (eJ.il D.o (ax _)) (fV.nil _ _)
end
end gj
end
end Go.Proofs.YtjhdaojclilakaaGreatDoor
