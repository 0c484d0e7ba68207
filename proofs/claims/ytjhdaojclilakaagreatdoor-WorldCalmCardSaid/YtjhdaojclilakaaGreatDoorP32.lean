/-
  A part of the proof of the law WorldCalm: ClE.
-/
import Derived.Test.YtjhdaojclilakaaGreatDoorHd
import Derived.Test.YtjhdaojclilakaaGreatDoorP31
set_option maxHeartbeats 16000000
set_option maxRecDepth 1000000
namespace Go.Proofs.YtjhdaojclilakaaGreatDoor
section
variable {p q:Prop}
theorem aai (h:p:=by
 (go_upto_region 10 with fail);have PM:=Hd (CM.start SE.o RI.o hT);obtain⟨n,hn⟩:=nm (wrap64 (c2.eK+1));have SV:=Hd (uM wc.drew PM.o.gj.drew);rw[<- hn]at SV;have Vm:Hy (c2.ask=eM.fh {c2 with eK:=n,fE:=n,gL:=c2.eB}):=Hd (by unfold eM.ask;rw[<- hn]);have c7:CI wc cb 7 c2.eB:=PM.o.gj.c_.cell 7;clear hn;(go_region_held3 (fun W=>CI W cb 7 c2.eB) (first|exact PE.c_.cell 7|exact (PE.c_.fQ 18 _).cell 7|exact ((PE.c_.fQ 18 _).fQ 19 _).cell 7|go_keep) ((go_at_call 55;refine SV.o.mono ?_;rintro e W2 ⟨rfl,PE,PK,Qi⟩;have Tv:CI W2 cb 18 c2.fE:=PE.c_.cell 18;have c21:CI W2 cb 19 c2.gL:=PE.c_.cell 19;have f20:=PE.c_.frozen 18;have f21:=PE.c_.frozen 19)));obtain⟨W3,PO⟩:=nm ((W2.setCell ⟨cb,18,none⟩ (VI n)).setCell ⟨cb,19,none⟩ (VI c2.eB))
 have Q7:fM Q3 T W3 cb fm sm W0 {c2 with eK:=n,fE:=n,gL:=c2.eB}:=by
  rw[PO];exact ((PE.oJ {c2 with eK:=n,fE:=n} 18 (VI n) rfl rfl rfl rfl).oJ {c2 with eK:=n,fE:=n,gL:=c2.eB} 19 (VI c2.eB) rfl rfl rfl rfl)
 refine ab3 ?_;intro P5 Uk YZ;clear PO Q7 P5 PE PK Qi PM SV c7 Vm;(go_wp2_with (go_at_call 41;refine YZ.o.mono ?_;rintro e w4 ⟨u4,rfl,Y0⟩));go_ret2;rw[HE.o];exact kV.ahead Ve.o XN.o (Y0.post (mk:=fun u=>.tuple #[u,iC 0]))):p:=h
theorem aa9 (z:q) (h:Hy q->p:=by
 intro zz;refine last.iJ (fun W=>fM Q3 T W cb fm sm W0 c2/\Has W VB (.cells #[.string ⟨xd.toArray⟩,VI xv] 41)) 1000 25 ⟨SE.o.drew,V4.o.drew⟩ fun HS=>?_;revert HS;exact zz.o):p:=h z
theorem abg (h:p:=by
 as_aux_lemma =>
  have HE:Hy (r=(2,[],c)):=Hd HR.o;clear h;(go_enter Tryz.func32,Tryz.ntmps32);(go_wp2_with (go_at_call 52;refine Sl.o.mono ?_;rintro e w' ⟨rfl,rfl⟩));go_ret2;rw[HE.o];exact Wp.o.post (mk:=fun u=>.tuple #[u,iC 2])):p:=h
theorem abo (h:p:=by
 refine last.done ?_;(go_wp2_with fail);go_meet;case rel=>exact⟨rfl,1,rfl⟩):p:=h
theorem ab0 (h:p:=by
 refine last.done ?_;(go_wp2_with fail);go_meet;case rel=>exact⟨rfl,rfl⟩):p:=h
theorem ab9 (z:q) (h:Hy q->p:=by
 intro zz;have Qw:Hy ((fun W=>fM Q3 T W cb fm sm W0 c2/\Has W VB (.cells #[.string ⟨xd.toArray⟩,VI xv] 41)) (WG.drew.drewN nl)):=Hd ⟨HS.o.1.drewN nl,HS.o.2.drewN nl⟩;refine hK.out _ _ (fun _=>Qw.o) ?_;revert Qw;exact zz.o):p:=h z
end
namespace gj
open Go.RowKit heap own gC gO fD fj cache
open eY (eM jg ir fU iM fw put del)
section
variable {own own1:Nat->Nat} {T:Nat} {w wr w' w1:World} {cb fm sm:Nat} {cv:Value} {c c':eM} {q q':Value} {out:List eL}
def kV (own:Nat->Nat) (T:Nat) (w:World) (cb:Nat) (c':eM) (l:List eL) (mk:Value->Value) (e:Ending) (w':World):Prop:=
 ∃own1 a b c u,e=.returned (mk u)/\Ext w own own1/\(∀g,w'.heap.size<=g->own1 g=0)/\fM own1 T w' cb b c a c'/\fV w.heap.size w' u l/\eJ (hO own T) w w'
theorem CM.post {u:Value} {mk:Value->Value} (h:CM own T w w' cb fm sm cv c u out):kV own T w cb c out mk (.returned (mk u)) w':=
 ⟨own,cv,fm,sm,u,rfl,Ext.refl _ _,fun g a=>h.fr g (aB h.fI.size a),h.gj,h.msgs,h.fI.mono fun k hk e=>by
  subst e;unfold hO;rw[h.gj.jw]
  omega⟩
theorem kV.ahead {l:List eL} {mk:Value->Value} {e:Ending} (he:Ext w own own1) (ht:eJ (hO own T) w w1) (h:kV own1 T w1 cb c' l mk e w'):kV own T w cb c' l mk e w':=by
 obtain⟨a,c,d,f,u,g,i,j,m,n,o⟩:=h;exact⟨a,c,d,f,u,g,fun k b=>(i k (aG b ht.size)).trans (he k b),j,m,n.base ht.size,ht.trans o fun k b e=>by unfold hO at e⊢;rwa [he k b]at e⟩
theorem fM.cl (h:fM own T w cb fm sm cv c):∀k,k<w.heap.size->k=cb->hO own T k:=h.J5
theorem fM.uO {l:List jg} (h:fM own T w cb fm sm cv c) (hp:lf own (T+1) cb 9 (lX c cv fm sm) 113 (l.map jc) w w') (i:l.length<=6) :
 ∃a d,Ext w own a/\(∀g,w'.heap.size<=g->a g=0)/\fM a T w' cb fm sm d {c with cache:=l}/\eJ (hO own T) w w':=by
 obtain⟨j,m,he,ht,hb,hi⟩:=hp;have b:=rB he ht.size
 have ne:∀g k,own g=T+k->1<k->¬(g=cb\/own g=T+1):=fun g k hk h4 e=>by
  rcases e with e|e
  ·rw[e,h.jw]at hk;omega
  omega
 have n:=h.c_.lt;have o:=h.gW.lt;have p:=h.seen.lt;refine⟨mz j w',m,b,uE _ _,⟨hb,(b _ n).trans h.jw,⟨hi.1,fun g f=>by rw[qC (hi.lt g f)];exact hi.2 g f⟩,i,h.gW.fI ht (ne _ 2 h.np aj),(b _ o).trans h.np,h.seen.fI ht (ne _ 3 h.mB aj),(b _ p).trans h.mB,h.fk,h.sk⟩,ht.mono fun k _ e=>?_⟩;unfold hO;rcases e with e|e
 ·rw[e,h.jw];omega
 omega
theorem BC (l:List jg) (o:Int):(l.map jc).find? (fun x=>decide (x.obj=o))=(l.find? fun x=>decide (x.eF=o)).map jc:=by
 rw[List.find?_map];rfl
theorem uP (l:List jg) (o:Int):lL (l.map jc) o=(eY.Cache.drop l o).map jc:=by
 unfold lL eY.Cache.drop
 induction l with
 |nil=>rfl
 |cons x l ih =>
  rw[aY,List.eraseP_cons,List.eraseP_cons];have e:decide ((jc x).obj=o)=decide (x.eF=o):=rfl;rw[e]
  cases decide (x.eF=o)with
  |true=>rfl
  |false =>
   show jc x::_=(x::_).map jc;rw[aY];exact congrArg _ ih
theorem BD (l:List jg) (o:Int):(eY.Cache.drop l o).length<=l.length:=by
 unfold eY.Cache.drop;exact (List.eraseP_sublist).length_le
theorem Ke (l:List jg) (o:Int):(∃(k:Nat) (x:jg),(l.map jc)[k]?=some (jc x)/\findAt (l.map jc) o=k/\eY.Cache.get l o=(some x,eY.Cache.drop l o++[x])/\(l.map jc).eraseIdx k++[jc x]=(eY.Cache.drop l o++[x]).map jc/\(eY.Cache.drop l o++[x]).length=l.length)\/(findAt (l.map jc) o = -1/\eY.Cache.get l o=(none,l)):=by
 rcases Bt (l.map jc) o with⟨k,y,c,g,a,d,e,b⟩|⟨c,g,a⟩
 ·left;rw[BC]at b
  cases hf:l.find? (fun x=>decide (x.eF=o))with
  |none=>rw[hf]at b;cases b
  |some x =>
   rw[hf]at b;(obtain rfl:jc x=y:=by simpa using b);refine⟨k,x,c,a,?_,?_,?_⟩
   ·unfold eY.Cache.get;rw[hf]
   ·rw[<- e,uP,cF];rfl
   (have f:((l.map jc).eraseIdx k).length=l.length-1:=by rw[cD d,aX]);rw[<- e,uP,aX]at f;rw[aE,f,aQ];rw[aX]at d;omega
 right;refine⟨c,?_⟩;rw[BC]at a;unfold eY.Cache.get
 cases hf:l.find? (fun x=>decide (x.eF=o))with
 |none=>rfl
 |some x=>rw[hf]at a;cases a
theorem Kf (o:Int) (h:fM own T w cb fm sm cv c) (hf:∀g,w.heap.size<=g->own g=0) (hT:0<T) :
 Calls Tryz.prog 32 #[VP cb 0,VI o] w (kV own T w cb (c.read o).2.2 (c.read o).2.1 fun u=>.tuple #[u,iC (c.read o).1]):=by
 obtain⟨r,hr⟩:=nm (c.read o);rw[<- hr];have Wp:=Hd (CM.start h hf hT);have Sl:=Hd (rE w h);obtain⟨b0,QP⟩:=nm c.fB;obtain⟨L,y⟩:=nm (decide (o<0));obtain⟨a2,XM⟩:=nm (decide (8<=o));rw[<- QP]at Sl
 have HR:Hy (r=if b0 then ((6:Int),([]:List eL),c) else if L||a2 then (2,[],c) else match c.cache.get o with
  |(some x,k)=>if decide (c.eB<x.iK)&&c.jT&&decide (c.ke o<=x.value.fq) then (0,[],({c with cache:=k,call:=⟨1,o,x.value,true,true⟩}:eM)) else (0,eM.ask ({nx c 1 o []with cache:=k}:eM))
  |(none,_)=>(0,(nx c 1 o []).ask)):=Hd (by
  have e1:(!eY.fN o)=(L||a2):=by
   rw[y,XM];unfold eY.fN eY.fR;rw[cr];simp only[aV,bU,decide_eq_false_iff_not,bz,decide_eq_true_eq];omega
  rw[hr,QP];unfold eM.read;rw[e1];split
  ·rfl
  split
  ·rfl
  cases c.cache.get o with
  |mk a k=>cases a with
   |none=>rfl
   |some x=>rfl)
 have e1:decide (o<0)=L:=y.symm;have e2:decide (8<=o)=a2:=XM.symm
 have VZ:Hy ((L||a2)=false->0<=o/\o<8):=Hd fun h9=>by
  rw[y,XM]at h9;simp only[bY,decide_eq_false_iff_not]at h9;omega
 clear hr QP y XM
 cases b0 with
 |true =>
  as_aux_lemma =>
   have HE:Hy (r=(6,[],c)):=Hd HR.o;clear h;(go_enter Tryz.func32,Tryz.ntmps32);(go_wp2_with (go_at_call 52;refine Sl.o.mono ?_;rintro e w' ⟨rfl,rfl⟩));go_ret2;rw[HE.o];exact Wp.o.post (mk:=fun u=>.tuple #[u,iC 6])
 |false =>
  cases L with
  |true =>
   exact abg
  |false =>
   cases a2 with
   |true =>
    exact abg
   |false =>
    obtain⟨au,Sb⟩:=VZ.o rfl;refine aaN ?_;intro TQ c13 ZR c15 c16 c17;have f12:=h.c_.frozen 12;have f13:=h.c_.frozen 13;have f14:=h.c_.frozen 14;have f15:=h.c_.frozen 15;have f16:=h.c_.frozen 16;have f17:=h.c_.frozen 17;have M:=Hd (h.nx 1 o []);have Up:Hy (je o):=Hd (WalkArith.wf_i64 ab);clear h VZ;(go_enter Tryz.func32,Tryz.ntmps32);(go_upto_region 6 with (go_at_call 52;refine Sl.o.mono ?_;rintro e w' ⟨rfl,rfl⟩));obtain⟨N,Pz⟩:=nm ((((((w.setCell ⟨cb,12,none⟩ (VI 1)).setCell ⟨cb,13,none⟩ (VI o)).setCell ⟨cb,14,none⟩ (.string ⟨#[]⟩)).setCell ⟨cb,15,none⟩ (VI 0)).setCell ⟨cb,16,none⟩ (.bool false)).setCell ⟨cb,17,none⟩ (.bool false));have E:Hy (fM own T N cb fm sm cv (nx c 1 o [])/\eJ (fun g=>g=cb) w N):=Hd (by rw[Pz];exact M.o);rw[<- Pz];have PM:=Hd (Wp.o.step E.o.2 E.o.1);clear Pz M E TQ c13 ZR c15 c16 c17 f12 f13 f14 f15 f16 f17 Wp Sl e1 e2;have A:c.cache.length<=6:=PM.o.gj.gz;(have an:own cb≠T+1:=by rw[PM.o.gj.jw];omega);have ZB:Hy (w.heap.size<=N.heap.size):=Hd PM.o.fI.size;rcases Ke c.cache o with⟨k,x,hk,f,O,hl,Uv⟩|⟨f,O⟩
    ·obtain⟨xo,⟨xd,xv⟩,I⟩:=x;have d:=Hd (J4 own (T+1) cb 9 (lX (nx c 1 o []) cv fm sm) 113 cv (c.cache.map jc) o k (jc ⟨xo,⟨xd,xv⟩,I⟩) N PM.o.gj.c_ rfl an PM.o.gj.items (by rw[aX];exact A) hk f);obtain⟨P,RX⟩:=nm (eY.Cache.drop c.cache o++[⟨xo,⟨xd,xv⟩,I⟩]:List jg);have Q:Hy (c.cache.get o=(some ⟨xo,⟨xd,xv⟩,I⟩,P)):=Hd (by rw[O,RX]);have F:Hy ((c.cache.map jc).eraseIdx k++[jc ⟨xo,⟨xd,xv⟩,I⟩]=P.map jc/\P.length<=6):=Hd ⟨by rw[hl,RX],by rw[RX,Uv];exact A⟩;clear hk f O hl Uv A RX;unfold jc at d;dsimp only at d;go_upto_region 7 with (go_at_call 53;refine d.o.mono ?_;rintro e W2 ⟨rfl,Yg⟩)
     obtain⟨Q3,W0,hex,R,SJ,WU⟩:=PM.o.gj.uO (l:=P) (by
      have h9:=F.o.1;unfold jc at h9;dsimp only at h9;rw[h9]at Yg
      exact Yg) F.o.2
     obtain⟨VB,G⟩:=nm W2.heap.size;obtain⟨WG,b⟩:=nm (W2.alloc (.cells #[.string ⟨xd.toArray⟩,VI xv] 41));rw[<- b,<- G];(have H:BB W2 WG:=by rw[b];exact (Below.refl _ _).alloc (ax _) _);obtain⟨c2,PE⟩:=nm ({nx c 1 o []with cache:=P}:eM);rw[<- PE]at SJ;have SE:=Hd (SJ.below H);have V4:Hy (Has WG VB (.cells #[.string ⟨xd.toArray⟩,VI xv] 41)):=Hd (by rw[b,G];exact Has.new W2 _);have Ve:Hy (Ext w own Q3):=Hd fun g hg=>hex g (aG hg ZB.o);have RI:Hy (∀g,WG.heap.size<=g->Q3 g=0):=Hd fun g hg=>R g (aB H.size hg);have XN:Hy (eJ (hO own T) w WG):=Hd (((PM.o.fI.mono fun g hg e=>by subst e;unfold hO;rw[PM.o.gj.jw];omega).trans WU fun _ _ e=>e).jl H (ax _));have aq:Hy (WG.heap.size<=WG.heap.size):=Hd (ax _);obtain⟨S,Pu⟩:=nm (decide (c2.eB<I));obtain⟨U,V⟩:=nm c2.jT;obtain⟨sv,PV⟩:=nm (c2.ke o);obtain⟨X,Qp⟩:=nm (decide (sv<=xv));have Zy:Hy (Calls Tryz.prog 54 #[VP cb 0] WG.drew fun e w'=>e=.returned (.bool U)/\∃n,w'=WG.drew.drewN n):=Hd (by rw[V];exact J6 WG.drew SE.o.drew);have Y:Hy (VI sv=kU.ev ((fw o c2.seen).getD kU.z)):=Hd (by rw[PV];rfl)
     have i:Hy (r=if (S&&U&&X) then (0,[],({c2 with call:=⟨1,o,⟨xd,xv⟩,true,true⟩}:eM)) else (0,c2.ask)):=Hd (by
      rw[HR.o,Q.o,Pu,V,Qp,PV,PE]
      rfl)
     have B:decide (c2.eB<I)=S:=Pu.symm;have Z:decide (sv<=xv)=X:=Qp.symm;have Sx:=Hd PE;clear b G H SJ hex R WU Yg Pu V Qp PV HR Q F d PM PE aq;go_cut [59] (fun t wx=>t=.bool (S&&U&&X)/\∃nl,wx=WG.drewN nl)
     case first =>
      cases S with
      |false =>
       refine aa9 ?_;intro HS;refine last.many [(0,35,_),(1,36,_),(2,37,_),(3,38,_),(4,39,_),(5,40,_),(6,41,_),(7,42,_),(8,43,_),(9,44,_),(10,45,_),(11,46,undef),(12,47,undef),(13,48,_),(14,49,_),(15,50,undef),(16,51,undef),(17,52,undef),(18,53,undef),(19,54,undef),(20,55,undef),(21,56,undef),(22,57,undef),(23,58,undef),(24,59,_)] HS.o ?_ (hy:=fun m j=>by have e1:CI m cb 7 c2.eB:=j.1.c_.cell 7;have e9:=B;repeat (first|exact .z|refine .s ?_|refine .k ?_));exact abo
      |true =>
       cases U with
       |false =>
        refine aa9 ?_;intro HS;refine last.many [(0,35,_),(1,36,_),(2,37,_),(3,38,_),(4,39,_),(5,40,_),(6,41,_),(7,42,_),(8,43,_),(9,44,_),(10,45,_),(11,46,_)] HS.o ?_ (hy:=fun m j=>by have e1:CI m cb 7 c2.eB:=j.1.c_.cell 7;have e9:=B;repeat (first|exact .z|refine .s ?_|refine .k ?_));refine last.one 12 fun K hK=>?_;go_simp;refine Zy.o.mono ?_;rintro e WL ⟨rfl,nl,rfl⟩;refine ab9 ?_;intro Qw;clear hK K;refine last.many [(13,48,_),(14,49,_),(15,50,undef),(16,51,undef),(17,52,undef),(18,53,undef),(19,54,undef),(20,55,undef),(21,56,undef),(22,57,undef),(23,58,undef),(24,59,_)] Qw.o ?_;refine last.done ?_;(go_wp2_with fail);go_meet;case rel=>exact⟨rfl,1+nl,rfl⟩
       |true =>
        refine aa9 ?_;intro HS;refine last.many [(0,35,_),(1,36,_),(2,37,_),(3,38,_),(4,39,_),(5,40,_),(6,41,_),(7,42,_),(8,43,_),(9,44,_),(10,45,_),(11,46,_)] HS.o ?_ (hy:=fun m j=>by have e1:CI m cb 7 c2.eB:=j.1.c_.cell 7;have e9:=B;repeat (first|exact .z|refine .s ?_|refine .k ?_));refine last.one 12 fun K hK=>?_;go_simp;refine Zy.o.mono ?_;rintro e WL ⟨rfl,nl,rfl⟩;refine ab9 ?_;intro Qw;clear hK K;refine last.many [(13,48,_),(14,49,_),(15,50,_),(16,51,_),(17,52,_),(18,53,_),(19,54,_),(20,55,_),(21,56,_)] Qw.o ?_ (hy:=fun m j=>by have e1:CI m VB 1 xv:=j.2.cell 1;have f0:CC m cb 11 (.map (some sm)):=j.1.c_.cell 11;repeat (first|exact .z|refine .s ?_|refine .k ?_));refine last.qw 22 57 (VI sv) rfl rfl af af af af (fun _ _ _ h=>h) Qw.o ai (fun m j=>by (rw[Y.o];exact sF kU (.tmp 55) (.tmp 56) rfl rfl j.1.seen Up.o rfl)) ?_;dsimp only[List.set];refine last.many [(23,58,_),(24,59,_)] Qw.o ?_ (hy:=fun m j=>by have e9:=Z;repeat (first|exact .z|refine .s ?_|refine .k ?_));refine last.done ?_;(go_wp2_with fail);go_meet;case rel=>exact⟨by cases X<;>rfl,1+nl,rfl⟩
     case rest =>
      obtain⟨C,nl,v⟩:=hcut;obtain⟨hit,aa⟩:=nm (S&&U&&X);rw[<- aa]at C i;subst C;have Y2:Hy (fM Q3 T wc cb fm sm W0 c2):=Hd (by rw[v];exact SE.o.drewN nl);have ad:Hy (Has wc VB (.cells #[.string ⟨xd.toArray⟩,VI xv] 41)):=Hd (by rw[v];exact V4.o.drewN nl);have Y3:Hy (∀g,wc.heap.size<=g->Q3 g=0):=Hd (by rw[v];exact RI.o);have Y4:Hy (eJ (hO own T) w wc):=Hd (by rw[v];exact XN.o.drewN nl);clear v SE V4 RI XN aa B Z Zy Y;have SE:=Y2;have RI:=Y3;have XN:=Y4;clear Y2 Y3 Y4
      cases hit with
      |true =>
       have HE:Hy (r=(0,[],({c2 with call:=⟨1,o,⟨xd,xv⟩,true,true⟩}:eM))):=Hd i.o;have x0:CC wc VB 0 (.string ⟨xd.toArray⟩):=ad.o.cell 0;have x1:CI wc VB 1 xv:=ad.o.cell 1;have ZR:CC wc cb 14 (.string ⟨c2.call.value.data.toArray⟩):=SE.o.c_.cell 14;have c15:CI wc cb 15 c2.call.value.fq:=SE.o.c_.cell 15;have c16:CC wc cb 16 (.bool c2.call.over):=SE.o.c_.cell 16;have c17:CC wc cb 17 (.bool c2.call.hit):=SE.o.c_.cell 17;have f14:=SE.o.c_.frozen 14;have f15:=SE.o.c_.frozen 15;have f16:=SE.o.c_.frozen 16;have f17:=SE.o.c_.frozen 17;clear i;(go_upto_region 9 with fail);obtain⟨W8,QT⟩:=nm ((((wc.setCell ⟨cb,14,none⟩ (.string ⟨xd.toArray⟩)).setCell ⟨cb,15,none⟩ (VI xv)).setCell ⟨cb,16,none⟩ (.bool true)).setCell ⟨cb,17,none⟩ (.bool true));have Qm:eJ (fun g=>g=cb) wc W8:=by rw[QT];exact fF.gX (fF.gX (fF.gX (fF.gX (eJ.refl _ _) _ _) _ _) _ _) _ _
       have ar:Hy (fM Q3 T W8 cb fm sm W0 {c2 with call:=⟨1,o,⟨xd,xv⟩,true,true⟩}):=Hd (by
        refine SE.o.nj Qm ?_ rfl rfl rfl;rw[QT];have h9:=(((SE.o.c_.fQ 14 (.string ⟨xd.toArray⟩)).fQ 15 (VI xv)).fQ 16 (.bool true)).fQ 17 (.bool true);rw[Sx.o]at h9⊢
        exact h9)
       have RW:Hy (eJ (hO own T) w W8):=Hd (XN.o.trans Qm fun k hk e=>by
        have h9:=Ve.o k hk;unfold hO;rw[<- h9,e,SE.o.jw]
        omega)
       have ZT:Hy (∀g,W8.heap.size<=g->Q3 g=0):=Hd fun g hg=>RI.o g (aB Qm.size hg);rw[<- QT];clear QT Qm x0 x1 ZR c15 c16 c17 f14 f15 f16 f17;(go_wp2_with fail);go_ret2;rw[HE.o];exact⟨Q3,W0,fm,sm,.slice none 0 0,rfl,Ve.o,ZT.o,ar.o,fV.nil _ _,RW.o⟩
      |false =>
       have HE:Hy (r=(0,c2.ask)):=Hd i.o;clear i;exact aai
    have d:=Hd (J3 own (T+1) cb 9 cv (c.cache.map jc) o N (PM.o.gj.c_.cell 9) PM.o.gj.items f);have Q:Hy (c.cache.get o=(none,c.cache)):=Hd O;clear f O A;(go_upto_region 7 with (go_at_call 53;refine d.o.mono ?_;rintro e W2 ⟨rfl,V⟩));obtain⟨VB,G⟩:=nm W2.heap.size;obtain⟨xd,ZH⟩:=nm ([]:List UInt8);obtain⟨xv,al⟩:=nm (0:Int);obtain⟨WG,b⟩:=nm (W2.alloc (.cells #[.string ByteArray.empty,VI 0] 41));rw[<- b,<- G];(have H:BB W2 WG:=by rw[b];exact (Below.refl _ _).alloc (ax _) _);obtain⟨c2,PE⟩:=nm (nx c 1 o []:eM);obtain⟨Q3,D⟩:=nm own;obtain⟨W0,Qr⟩:=nm cv;have J:=Hd ((PM.o.below V).below H);rw[<- PE]at J;have SE:Hy (fM Q3 T WG cb fm sm W0 c2):=Hd (by rw[D,Qr];exact J.o.gj);have V4:Hy (Has WG VB (.cells #[.string ⟨xd.toArray⟩,VI xv] 41)):=Hd (by rw[b,G,ZH,al];exact Has.new W2 _);have Ve:Hy (Ext w own Q3):=Hd (by rw[D];exact Ext.refl _ _);have RI:Hy (∀g,WG.heap.size<=g->Q3 g=0):=Hd (by rw[D];exact fun g hg=>hf g (aB J.o.fI.size hg));have XN:Hy (eJ (hO own T) w WG):=Hd (J.o.fI.mono fun g hg e=>by subst e;unfold hO;rw[J.o.gj.jw];omega);have HE:Hy (r=(0,c2.ask)):=Hd (by rw[HR.o,Q.o,PE];rfl);clear b G H D Qr PE ZH al J HR Q d PM;go_cut [59] (fun t wx=>t=.bool false/\wx=WG.drew)
    case first =>
     refine aa9 ?_;intro HS;refine last.many [(0,35,_),(1,36,_),(2,37,_),(3,38,undef),(4,39,undef),(5,40,undef),(6,41,undef),(7,42,undef),(8,43,undef),(9,44,_),(10,45,_),(11,46,undef),(12,47,undef),(13,48,_),(14,49,_),(15,50,undef),(16,51,undef),(17,52,undef),(18,53,undef),(19,54,undef),(20,55,undef),(21,56,undef),(22,57,undef),(23,58,undef),(24,59,_)] HS.o ?_;exact ab0
    case rest =>
     obtain⟨C,v⟩:=hcut;subst C;have Y2:Hy (fM Q3 T wc cb fm sm W0 c2):=Hd (by rw[v];exact SE.o.drew);have Y3:Hy (∀g,wc.heap.size<=g->Q3 g=0):=Hd (by rw[v];exact RI.o);have Y4:Hy (eJ (hO own T) w wc):=Hd (by rw[v];exact XN.o.drew);clear v SE V4 RI XN;have SE:=Y2;have RI:=Y3;have XN:=Y4;clear Y2 Y3 Y4;exact aai
end
end gj
end Go.Proofs.YtjhdaojclilakaaGreatDoor
