/-
  A part of the proof of the law WorldCalm: ClF.
-/
import Derived.Test.YtjhdaojclilakaaGreatDoorHd
import Derived.Test.YtjhdaojclilakaaGreatDoorP32
set_option maxHeartbeats 16000000
set_option maxRecDepth 1000000
namespace Go.Proofs.YtjhdaojclilakaaGreatDoor
section
variable {p q:Prop}
theorem aan (z:q) (h:Hy q->p:=by
 intro zz;refine last.iJ (fun W=>fM own T W cb fm sm cv c/\Has W H (.cells #[VI mk,VI mc,VI mn,VI me,VI ms,VI mo,VI mv,.bool ml,.string ⟨md.toArray⟩] 93)) 1000 30 ⟨TH.o.drew,Qn.o.drew⟩ fun HS=>?_;refine last.many [(0,7,_)] HS.o ?_;refine last.one 1 fun K hK=>?_;go_simp;refine (Sl.o _ TH.o.drew).mono ?_;revert HS K hK;exact zz.o):p:=h z
end
namespace gj
open Go.RowKit heap own gC gO fD fj cache
open eY (eM jg ir fU iM fw put del)
section
variable {own own1:Nat->Nat} {T:Nat} {w wr w' w1:World} {cb fm sm:Nat} {cv:Value} {c c':eM} {q q':Value} {out:List eL}
theorem Cm {l:List (Int×Int)} (b:(l.map (·.1)).Nodup) (c:∀p∈l,0<=p.1/\p.1<8):l.length<=8:=by
 have:=iR.ud (l.map (·.1)) [0,1,2,3,4,5,6,7] b (fun x hx=>by
  obtain⟨p,hp,rfl⟩:=aW.1 hx;have:=c p hp;have a:p.1=0\/p.1=1\/p.1=2\/p.1=3\/p.1=4\/p.1=5\/p.1=6\/p.1=7:=ab
  rcases a with a|a|a|a|a|a|a|a<;>rw[a]<;>simp)
 simpa using this
theorem LO (l:List jg) (o u:Int) (v:ir):qD (l.map jc) (jc ⟨o,v,u⟩)=(eY.Cache.put l o v u).map jc:=by
 unfold qD eY.Cache.put;have e:lL (l.map jc) (jc ⟨o,v,u⟩).obj=(eY.Cache.drop l o).map jc:=uP l o;rw[e,aX,cF];split
 ·rw[List.map_drop];rfl
 rfl
theorem LP (l:List jg) (o u:Int) (v:ir) (h:l.length<=6):(eY.Cache.put l o v u).length<=6:=by
 have:=BD l o;unfold eY.Cache.put;rw[aE,aQ];split
 ·rw[cx];omega
 omega
theorem fM.LQ (h:fM own T w cb fm sm cv c) (o x:Int) (b:0<=o/\o<8) (hm:At kU w' sm (put o x c.seen)) (a:w.grownBy w' (some sm)):fM own T w' cb fm sm cv {c with seen:=put o x c.seen}/\eJ (fun g=>g=sm) w w':=by
 have ht:eJ (fun g=>g=sm) w w':=⟨a.os,a.tape,a.output,a.size,fun k hk hn=>a.block k hk (fun e=>hn (by simpa using e))⟩;(have ne:∀g k,own g=T+k->k≠3->g≠sm:=fun g k hk h4 e=>by rw[e,h.mB]at hk;omega);refine⟨⟨ht.has h.c_ (ne _ 0 h.jw aj),h.jw,h.items.fc ht (Ext.refl _ _) fun k _ b=>ne k 1 b aj,h.gz,h.gW.fI ht (ne _ 2 h.np aj),h.np,hm,h.mB,h.fk,fun p hp=>?_⟩,ht⟩;rcases aH.1 hp with rfl|hp
 ·exact b
 exact h.sk p ((qt _ _).mem hp)
theorem fM.LR (h:fM own T w cb fm sm cv c) (o x:Int) (b:0<=o/\o<8) (hm:At kU w' fm (put o x c.gW)) (a:w.grownBy w' (some fm)):fM own T w' cb fm sm cv {c with gW:=put o x c.gW}/\eJ (fun g=>g=fm) w w':=by
 have ht:eJ (fun g=>g=fm) w w':=⟨a.os,a.tape,a.output,a.size,fun k hk hn=>a.block k hk (fun e=>hn (by simpa using e))⟩;(have ne:∀g k,own g=T+k->k≠2->g≠fm:=fun g k hk h4 e=>by rw[e,h.np]at hk;omega);refine⟨⟨ht.has h.c_ (ne _ 0 h.jw aj),h.jw,h.items.fc ht (Ext.refl _ _) fun k _ b=>ne k 1 b aj,h.gz,hm,h.np,h.seen.fI ht (ne _ 3 h.mB aj),h.mB,fun p hp=>?_,h.sk⟩,ht⟩;rcases aH.1 hp with rfl|hp
 ·exact b
 exact h.fk p ((qt _ _).mem hp)
theorem LS (m:eL) (same:Bool) (h:fM own T w cb fm sm cv c) (hf:∀g,w.heap.size<=g->own g=0) (hT:0<T) (Vh:0<=m.eF/\m.eF<8) (Y8:je m.fJ) :
 Calls Tryz.prog 74 #[VP cb 0,m.val,.bool same] w (kV own T w cb (c.lr m same) [] fun _=>.tuple #[]):=by
 obtain⟨mk,mc,mn,me,ms,mo,mv,ml,md⟩:=m;dsimp only at Vh Y8;obtain⟨r,hr⟩:=nm (c.lr ⟨mk,mc,mn,me,ms,mo,mv,ml,md⟩ same);obtain⟨H,hH⟩:=nm w.heap.size;obtain⟨A,Pz⟩:=nm (w.alloc (.cells #[VI mk,VI mc,VI mn,VI me,VI ms,VI mo,VI mv,.bool ml,.string ⟨md.toArray⟩] 93));(have Pu:BB w A:=by rw[Pz];exact (Below.refl _ _).alloc (ax _) _);(have PC:Has A H (.cells #[VI mk,VI mc,VI mn,VI me,VI ms,VI mo,VI mv,.bool ml,.string ⟨md.toArray⟩] 93):=by rw[Pz,hH];exact Has.new w _);have Z:=h.below Pu;have XC:Hy (own H=0):=Hd (hf H ab);obtain⟨b0,QP⟩:=nm c.fB;obtain⟨n1,SP⟩:=nm (mn !=c.fE);obtain⟨Y,Ta⟩:=nm (c.call.eO !=1);obtain⟨n3,L⟩:=nm (c.call.eF !=mo);obtain⟨fb,M⟩:=nm (decide (c.kY mo<=mv))
 obtain⟨c3,Q7⟩:=nm ((if same&&ml&&fb then {c with cache:=c.cache.put mo ⟨md,mv⟩ (c.ends c.gL c.eZ.eF)} else c):eM)
 have HR:Hy (r=if (!b0||n1||Y||n3) then c else {c3 with seen:=put mo (max (c3.ke mo) mv) c3.seen,call:={c3.call with value:=⟨md,mv⟩,over:=true},fE:=0}):=Hd (by
  rw[hr];unfold eM.lr
  have e1:(!c.fB||!decide (mn=c.fE)||!decide (c.call.eO=1)||!decide (c.call.eF=mo))=(!b0||n1||Y||n3):=by
   rw[QP,SP,Ta,L];rw[cr];simp
  dsimp only;rw[e1];split
  ·rfl
  rw[Q7,M])
 have HB:Hy (BB w A):=Hd Pu;have Qn:=Hd PC;have TH:=Hd Z;have Up:Hy (je mo):=Hd (WalkArith.wf_i64 ab);have b3:=Hd Y8;have b4:=QP.symm;have B:(mn !=c.fE)=n1:=SP.symm;have N:(c.call.eO !=1)=Y:=Ta.symm;have aa:(c.call.eF !=mo)=n3:=L.symm;(have Sl:Hy (∀W,fM own T W cb fm sm cv c->Calls Tryz.prog 52 #[VP cb 0] W fun e w'=>e=.returned (.bool b0)/\W=w'):=Hd fun W hW=>by rw[QP];exact rE W hW);have RR:=Hd Q7;have ad:=Hd M;have Wv:=Hd hf;have x2:CI A H 2 mn:=PC.cell 2;have x5:CI A H 5 mo:=PC.cell 5;have al:CI A cb 18 c.fE:=Z.c_.cell 18;have TQ:CI A cb 12 c.call.eO:=Z.c_.cell 12;have b5:CI A cb 13 c.call.eF:=Z.c_.cell 13;rw[<- hr];unfold eL.val;dsimp only;clear hr QP SP Ta L M Q7 h PC Z Pu Y8 b4 hf;(go_enter Tryz.func74,Tryz.ntmps74);(go_upto_region 1 with fail);rw[<- Pz,<- hH];have ZB:Hy (w.heap.size<=H):=Hd (cZ hH.symm);clear Pz hH;go_cut [36] (fun t C=>t=.bool (!b0||n1||Y||n3)/\∃nl,C=A.drewN nl)
 case first =>
  cases b0 with
  |false =>
   refine aan ?_;intro HS K hK;rintro e w9 ⟨rfl,rfl⟩;refine hK.out _ _ (fun _=>HS.o) ?_;clear hK K;refine last.many [(2,9,_),(3,10,_),(4,11,undef),(5,12,undef),(6,13,undef),(7,14,undef),(8,15,undef),(9,16,undef),(10,17,undef),(11,18,_),(12,19,_),(13,20,undef),(14,21,undef),(15,22,undef),(16,23,undef),(17,24,undef),(18,25,undef),(19,26,_),(20,27,_),(21,28,undef),(22,29,undef),(23,30,undef),(24,31,undef),(25,32,undef),(26,33,undef),(27,34,undef),(28,35,undef),(29,36,_)] HS.o ?_;exact abo
  |true =>
   cases n1 with
   |true =>
    refine aan ?_;intro HS K hK;rintro e w9 ⟨rfl,rfl⟩;refine hK.out _ _ (fun _=>HS.o) ?_;clear hK K;refine last.many [(2,9,_),(3,10,_),(4,11,_),(5,12,_),(6,13,_),(7,14,_),(8,15,_),(9,16,_),(10,17,_),(11,18,_),(12,19,_),(13,20,undef),(14,21,undef),(15,22,undef),(16,23,undef),(17,24,undef),(18,25,undef),(19,26,_),(20,27,_),(21,28,undef),(22,29,undef),(23,30,undef),(24,31,undef),(25,32,undef),(26,33,undef),(27,34,undef),(28,35,undef),(29,36,_)] HS.o ?_ (hy:=fun d b=>by have e1:CI d H 2 mn:=b.2.cell 2;have f0:CI d cb 18 c.fE:=b.1.c_.cell 18;have e9:=B;repeat (first|exact .z|refine .s ?_|refine .k ?_));exact abo
   |false =>
    cases Y with
    |true =>
     refine aan ?_;intro HS K hK;rintro e w9 ⟨rfl,rfl⟩;refine hK.out _ _ (fun _=>HS.o) ?_;clear hK K;refine last.many [(2,9,_),(3,10,_),(4,11,_),(5,12,_),(6,13,_),(7,14,_),(8,15,_),(9,16,_),(10,17,_),(11,18,_),(12,19,_),(13,20,_),(14,21,_),(15,22,_),(16,23,_),(17,24,_),(18,25,_),(19,26,_),(20,27,_),(21,28,undef),(22,29,undef),(23,30,undef),(24,31,undef),(25,32,undef),(26,33,undef),(27,34,undef),(28,35,undef),(29,36,_)] HS.o ?_ (hy:=fun d b=>by have e1:CI d H 2 mn:=b.2.cell 2;have f0:CI d cb 18 c.fE:=b.1.c_.cell 18;have e9:=B;have f1:CI d cb 12 c.call.eO:=b.1.c_.cell 12;have f2:=N;repeat (first|exact .z|refine .s ?_|refine .k ?_));exact abo
    |false =>
     refine aan ?_;intro HS K hK;rintro e w9 ⟨rfl,rfl⟩;refine hK.out _ _ (fun _=>HS.o) ?_;clear hK K;refine last.many [(2,9,_),(3,10,_),(4,11,_),(5,12,_),(6,13,_),(7,14,_),(8,15,_),(9,16,_),(10,17,_),(11,18,_),(12,19,_),(13,20,_),(14,21,_),(15,22,_),(16,23,_),(17,24,_),(18,25,_),(19,26,_),(20,27,_),(21,28,_),(22,29,_),(23,30,_),(24,31,_),(25,32,_),(26,33,_),(27,34,_),(28,35,_),(29,36,_)] HS.o ?_ (hy:=fun d b=>by have e1:CI d H 2 mn:=b.2.cell 2;have f0:CI d cb 18 c.fE:=b.1.c_.cell 18;have e9:=B;have f1:CI d cb 12 c.call.eO:=b.1.c_.cell 12;have f2:=N;have f3:CI d cb 13 c.call.eF:=b.1.c_.cell 13;have f4:CI d H 5 mo:=b.2.cell 5;have f5:=aa;repeat (first|exact .z|refine .s ?_|refine .k ?_));refine last.done ?_;(go_wp2_with fail);go_meet;case rel=>exact⟨by cases n3<;>rfl,1,rfl⟩
 case rest =>
  obtain⟨ht,nl,x⟩:=hcut;obtain⟨bad,Y9⟩:=nm (!b0||n1||Y||n3);rw[<- Y9]at ht HR;subst ht;have O:Hy (fM own T wc cb fm sm cv c):=Hd (by rw[x];exact TH.o.drewN nl);have v:Hy (Has wc H (.cells #[VI mk,VI mc,VI mn,VI me,VI ms,VI mo,VI mv,.bool ml,.string ⟨md.toArray⟩] 93)):=Hd (by rw[x];exact Qn.o.drewN nl);have j:Hy (BB w wc):=Hd (by rw[x];exact below_drewN HB.o nl);clear x Y9 B N aa Sl TH Qn HB x2 x5 al TQ b5
  cases bad with
  |true =>
   have HE:Hy (r=c):=Hd HR.o
   go_wp2_with fail
   go_end0
   rw[HE.o];exact⟨own,cv,fm,sm,.slice none 0 0,rfl,Ext.refl _ _,fun g D=>Wv.o g (aB j.o.size D),O.o,fV.nil _ _,eJ.il j.o (ax _)⟩
  |false =>
   have HE:Hy (r={c3 with seen:=put mo (max (c3.ke mo) mv) c3.seen,call:={c3.call with value:=⟨md,mv⟩,over:=true},fE:=0}):=Hd HR.o;clear HR;have x8:CC wc H 8 (.string ⟨md.toArray⟩):=v.o.cell 8;have x6:CI wc H 6 mv:=v.o.cell 6;(go_upto_region 3 with fail);clear x8 x6;obtain⟨f,Y1⟩:=nm wc.heap.size;obtain⟨W2,PT⟩:=nm (wc.alloc (.cells #[.string ⟨md.toArray⟩,VI mv] 41));rw[<- PT,<- Y1];(have Px:BB wc W2:=by rw[PT];exact (Below.refl _ _).alloc (ax _) _);have Sx:=Hd (O.o.below Px);have Qg:=Hd (v.o.below Px v.o.lt);have an:Hy (Has W2 f (.cells #[.string ⟨md.toArray⟩,VI mv] 41)):=Hd (by rw[PT,Y1];exact Has.new wc _);have Qk:Hy (BB w W2):=Hd (j.o.trans (Px.mono j.o.size));have WN:Hy (own f=0):=Hd (Wv.o f (by have:=j.o.size;omega));obtain⟨fv,P⟩:=nm (c.kY mo);have aq:Hy (VI fv=kU.ev ((fw mo c.gW).getD kU.z)):=Hd (by rw[P];rfl);(have ar:decide (fv<=mv)=fb:=by rw[P];exact ad.o.symm);clear PT Y1 Px P O v j;go_cut [58] (fun t C=>t=.bool (same&&ml&&fb)/\C=W2.drew)
   case first =>
    cases same with
    |false =>
     refine last.iJ (fun W=>fM own T W cb fm sm cv c/\Has W H (.cells #[VI mk,VI mc,VI mn,VI me,VI ms,VI mo,VI mv,.bool ml,.string ⟨md.toArray⟩] 93)) 1000 17 ⟨Sx.o.drew,Qg.o.drew⟩ fun HS=>?_;refine last.many [(0,42,_),(1,43,_),(2,44,undef),(3,45,undef),(4,46,_),(5,47,_),(6,48,undef),(7,49,undef),(8,50,undef),(9,51,undef),(10,52,undef),(11,53,undef),(12,54,undef),(13,55,undef),(14,56,undef),(15,57,undef),(16,58,_)] HS.o ?_;exact ab0
    |true =>
     cases ml with
     |false =>
      refine last.iJ (fun W=>fM own T W cb fm sm cv c/\Has W H (.cells #[VI mk,VI mc,VI mn,VI me,VI ms,VI mo,VI mv,.bool false,.string ⟨md.toArray⟩] 93)) 1000 17 ⟨Sx.o.drew,Qg.o.drew⟩ fun HS=>?_;refine last.many [(0,42,_),(1,43,_),(2,44,_),(3,45,_),(4,46,_),(5,47,_),(6,48,undef),(7,49,undef),(8,50,undef),(9,51,undef),(10,52,undef),(11,53,undef),(12,54,undef),(13,55,undef),(14,56,undef),(15,57,undef),(16,58,_)] HS.o ?_ (hy:=fun d b=>by have e1:CC d H 7 (.bool false):=b.2.cell 7;repeat (first|exact .z|refine .s ?_|refine .k ?_));exact ab0
     |true =>
      refine last.iJ (fun W=>fM own T W cb fm sm cv c/\Has W H (.cells #[VI mk,VI mc,VI mn,VI me,VI ms,VI mo,VI mv,.bool true,.string ⟨md.toArray⟩] 93)) 1000 17 ⟨Sx.o.drew,Qg.o.drew⟩ fun HS=>?_;refine last.many [(0,42,_),(1,43,_),(2,44,_),(3,45,_),(4,46,_),(5,47,_),(6,48,_),(7,49,_),(8,50,_),(9,51,_),(10,52,_),(11,53,_),(12,54,_),(13,55,_)] HS.o ?_ (hy:=fun d b=>by have e1:CC d H 7 (.bool true):=b.2.cell 7;have f0:CI d H 6 mv:=b.2.cell 6;have f1:CC d cb 10 (.map (some fm)):=b.1.c_.cell 10;have f2:CI d H 5 mo:=b.2.cell 5;repeat (first|exact .z|refine .s ?_|refine .k ?_));refine last.qw 14 56 (VI fv) rfl rfl af af af af (fun _ _ _ h=>h) HS.o ai (fun d b=>by (rw[aq.o];exact sF kU (.tmp 53) (.tmp 55) rfl rfl b.1.gW Up.o rfl)) ?_;dsimp only[List.set];refine last.many [(15,57,_),(16,58,_)] HS.o ?_ (hy:=fun d b=>by have e9:=ar;repeat (first|exact .z|refine .s ?_|refine .k ?_));refine last.done ?_;(go_wp2_with fail);go_meet;case rel=>exact⟨by cases fb<;>rfl,rfl⟩
   case rest =>
    obtain⟨Wk,x⟩:=hcut;obtain⟨gb,Ra⟩:=nm (same&&ml&&fb);rw[<- Ra]at Wk;have Q:Hy (c3=if gb then {c with cache:=c.cache.put mo ⟨md,mv⟩ (c.ends c.gL c.eZ.eF)} else c):=Hd (by rw[Ra];exact RR.o);subst Wk;have l:Hy (fM own T wc cb fm sm cv c):=Hd (by rw[x];exact Sx.o.drew);have Rt:Hy (Has wc H (.cells #[VI mk,VI mc,VI mn,VI me,VI ms,VI mo,VI mv,.bool ml,.string ⟨md.toArray⟩] 93)):=Hd (by rw[x];exact Qg.o.drew);have n:Hy (Has wc f (.cells #[.string ⟨md.toArray⟩,VI mv] 41)):=Hd (by rw[x];exact an.o.drew);have Rb:Hy (BB w wc):=Hd (by rw[x];exact Qk.o.drew);clear x Ra Sx Qg an Qk ar aq RR ad;(go_upto_if 58 with fail);go_cut [75] (fun _ C=>∃a R,Ext w own a/\(∀g,C.heap.size<=g->a g=0)/\(a H=0/\a f=0)/\fM a T C cb fm sm R c3/\Has C H (.cells #[VI mk,VI mc,VI mn,VI me,VI ms,VI mo,VI mv,.bool ml,.string ⟨md.toArray⟩] 93)/\Has C f (.cells #[.string ⟨md.toArray⟩,VI mv] 41)/\eJ (hO own T) w C)
    case first =>
     cases gb with
     |false =>
      have YT:Hy (c3=c):=Hd Q.o;(go_wp2_with fail);go_meet
      case rel =>
       rw[YT.o];exact⟨own,cv,Ext.refl _ _,fun g D=>Wv.o g (aB Rb.o.size D),⟨XC.o,WN.o⟩,l.o,Rt.o,n.o,eJ.il Rb.o (ax _)⟩
     |true =>
      obtain⟨tu,WU⟩:=nm (c.ends c.gL c.eZ.eF);have YT:Hy (c3={c with cache:=c.cache.put mo ⟨md,mv⟩ tu}):=Hd (by rw[WU];exact Q.o);(have ZZ:Hy (∀W,fM own T W cb fm sm cv c->Calls Tryz.prog 75 #[VP cb 0,VI c.gL,VI c.eZ.eF] W fun e w'=>e=.returned (VI tu)/\W=w'):=Hd fun W hW=>by rw[WU];exact Bz W _ _ hW);(have b6:own cb≠T+1:=by rw[l.o.jw];omega);have E:=Hd (J1 own (T+1) cb 9 (lX c cv fm sm) 113 cv (c.cache.map jc) (jc ⟨mo,⟨md,mv⟩,tu⟩) wc.drew l.o.drew.c_ rfl b6 l.o.drew.items (by rw[aX];exact l.o.gz));have x5:CI wc H 5 mo:=Rt.o.cell 5;have v0:CC wc f 0 (.string ⟨md.toArray⟩):=n.o.cell 0;have v1:CI wc f 1 mv:=n.o.cell 1;have b7:CI wc cb 19 c.gL:=l.o.c_.cell 19;have c1:CI wc cb 1 c.eZ.eF:=l.o.c_.cell 1;have UM:H<wc.heap.size:=Rt.o.lt;have S:f<wc.heap.size:=n.o.lt
      have nH:¬(H=cb\/own H=T+1):=fun e=>by
       have h0:=XC.o;rcases e with e|e
       ·rw[e,l.o.jw]at h0;omega
       omega
      have nV:¬(f=cb\/own f=T+1):=fun e=>by
       have h0:=WN.o;rcases e with e|e
       ·rw[e,l.o.jw]at h0;omega
       omega
      unfold jc at E;dsimp only at E;clear WU;(go_upto_region 4 with fail);go_region_held3 (fun W=>CI W H 5 mo/\CC W f 0 (.string ⟨md.toArray⟩)/\CI W f 1 mv/\CI W cb 19 c.gL/\CI W cb 1 c.eZ.eF) (first|exact⟨(Yl.cell (p:=⟨H,5,none⟩) UM nH).trans x5,(Yl.cell (p:=⟨f,0,none⟩) S nV).trans v0,(Yl.cell (p:=⟨f,1,none⟩) S nV).trans v1,(hbp.cell 19).trans rfl,(hbp.cell 1).trans rfl⟩|go_keep) ((first|(go_at_call 75;refine (ZZ.o _ l.o.drew).mono ?_;rintro e w9 ⟨rfl,rfl⟩)|(go_at_call 101;refine E.o.mono ?_;rintro e W6 ⟨rfl,b8,b9,UP,Yl,hbp,au⟩)))
      have Yg:lf own (T+1) cb 9 (lX c cv fm sm) 113 ((c.cache.put mo ⟨md,mv⟩ tu).map jc) wc.drew W6:=by
       rw[<- LO];exact⟨b8,b9,UP,Yl,hbp,au⟩
      obtain⟨a,R,F,Ym,J,Wx⟩:=l.o.drew.uO Yg (LP _ _ _ _ l.o.gz);have Xr:=Hd (Yl.has Rt.o.drew nH);have G:=Hd (Yl.has n.o.drew nV);have i:=Hd J;have U:Hy (Ext w own a):=Hd fun g D=>F g (aG D Rb.o.size);have ca:Hy (a H=0/\a f=0):=Hd ⟨(F H UM).trans XC.o,(F f S).trans WN.o⟩;have V:=Hd Ym;have Uj:Hy (eJ (hO own T) w W6):=Hd ((eJ.il Rb.o (ax _)).drew.trans Wx fun _ _ e=>e);clear Yg UP Yl hbp au F Ym J Wx x5 v0 v1 b7 c1 nH nV E ZZ;(go_wp2_with fail);go_meet
      case rel =>
       rw[YT.o];exact⟨a,R,U.o,V.o,ca.o,i.o,Xr.o,G.o,Uj.o⟩
    case rest =>
     obtain⟨a,R,a1,a6,a7,J,bb,R1,bg⟩:=hcut;have UT:=Hd J;have Rm:=Hd bb;have bj:=Hd R1;have Ve:=Hd a1;have RI:=Hd a6;have cc:=Hd a7;have XN:=Hd bg;obtain⟨I,PV⟩:=nm (c3.ke mo);have bl:Hy (VI I=kU.ev ((fw mo c3.seen).getD kU.z)):=Hd (by rw[PV];rfl);have V7:=Hd (Cm J.seen.nodup J.sk)
     have b1:Hy (je (max I mv)):=Hd (by
      (have X:je I:=by rw[PV];exact J.seen.lU mo);by_cases hle:I<=mv
      ·rw[Int.max_eq_right hle];exact b3.o
      rw[Int.max_eq_left ab];exact X)
     have Z0:Hy (r={c3 with seen:=put mo (max I mv) c3.seen,call:={c3.call with value:=⟨md,mv⟩,over:=true},fE:=0}):=Hd (by rw[HE.o,PV]);clear J bb R1 a1 a6 a7 bg PV HE l Rt n Rb Q;(go_upto_region 5 with fail);refine last.iJ (fun W=>fM a T W cb fm sm R c3/\Has W H (.cells #[VI mk,VI mc,VI mn,VI me,VI ms,VI mo,VI mv,.bool ml,.string ⟨md.toArray⟩] 93)) 16 17 ⟨UT.o.drew,Rm.o.drew⟩ fun HS=>?_;refine last.many [(0,77,_),(1,78,_),(2,79,_),(3,80,_),(4,81,_),(5,82,_),(6,83,_),(7,84,_),(8,85,_),(9,86,_),(10,87,_),(11,88,_)] HS.o ?_ (hy:=fun d b=>by have e1:CC d cb 11 (.map (some sm)):=b.1.c_.cell 11;have f0:CI d H 5 mo:=b.2.cell 5;repeat (first|exact .z|refine .s ?_|refine .k ?_));refine last.qw 12 89 (VI I) rfl rfl af af af af (fun _ _ _ h=>h) HS.o ai (fun d b=>by (rw[bl.o];exact sF kU (.tmp 86) (.tmp 88) rfl rfl b.1.seen Up.o rfl)) ?_;dsimp only[List.set];refine last.many [(13,90,_),(14,91,_),(15,92,_)] HS.o ?_ (hy:=fun d b=>by have e1:CI d H 6 mv:=b.2.cell 6;repeat (first|exact .z|refine .s ?_|refine .k ?_));refine last.one 16 fun K hK=>?_;refine sE kU (.tmp 80) (.tmp 82) (.tmp 92) rfl rfl HS.o.1.seen (by have:=V7.o;unfold maxLen;omega) (k:=mo) (u:=max I mv) Up.o b1.o rfl rfl ?_;intro y Uy b2;refine hK.out _ _ (fun h=>absurd rfl h) ?_;refine last.done ?_;obtain⟨Z1,RJ⟩:=UT.o.drew.LQ mo (max I mv) Vh Uy b2;have i:=Hd Z1;have G:=Hd (RJ.has bj.o.drew (fun e=>by have X:=cc.o.2;rw[e,UT.o.mB]at X;omega))
     have Uj:Hy (eJ (hO own T) w y):=Hd (XN.o.drew.trans RJ fun k hk e=>by
      have X:=Ve.o k hk;unfold hO;rw[<- X,e,UT.o.mB]
      omega)
     have V:Hy (∀g,y.heap.size<=g->a g=0):=Hd fun g D=>RI.o g (aB RJ.size D);obtain⟨c4,TE⟩:=nm ({c3 with seen:=put mo (max I mv) c3.seen}:eM);rw[<- TE]at i;have U:Hy (r={c4 with call:={c4.call with value:=⟨md,mv⟩,over:=true},fE:=0}):=Hd (by rw[Z0.o,TE]);clear Z1 RJ Uy b2 hK K HS UT Rm bj XN RI Z0 TE bl V7 b1;have v0:CC y f 0 (.string ⟨md.toArray⟩):=G.o.cell 0;have v1:CI y f 1 mv:=G.o.cell 1;have ZR:CC y cb 14 (.string ⟨c4.call.value.data.toArray⟩):=i.o.c_.cell 14;have cm:CI y cb 15 c4.call.value.fq:=i.o.c_.cell 15;have cp:CC y cb 16 (.bool c4.call.over):=i.o.c_.cell 16;have al:CI y cb 18 c4.fE:=i.o.c_.cell 18;have f14:=i.o.c_.frozen 14;have f15:=i.o.c_.frozen 15;have f16:=i.o.c_.frozen 16;have f18:=i.o.c_.frozen 18;obtain⟨W8,QT⟩:=nm ((((y.setCell ⟨cb,14,none⟩ (.string ⟨md.toArray⟩)).setCell ⟨cb,15,none⟩ (VI mv)).setCell ⟨cb,16,none⟩ (.bool true)).setCell ⟨cb,18,none⟩ (VI 0));have Qm:eJ (fun g=>g=cb) y W8:=by rw[QT];exact fF.gX (fF.gX (fF.gX (fF.gX (eJ.refl _ _) _ _) _ _) _ _) _ _
     have ch:Hy (fM a T W8 cb fm sm R {c4 with call:={c4.call with value:=⟨md,mv⟩,over:=true},fE:=0}):=Hd (by
      refine i.o.nj Qm ?_ rfl rfl rfl;rw[QT]
      exact (((i.o.c_.fQ 14 (.string ⟨md.toArray⟩)).fQ 15 (VI mv)).fQ 16 (.bool true)).fQ 18 (VI 0))
     have RW:Hy (eJ (hO own T) w W8):=Hd (Uj.o.trans Qm fun k hk e=>by
      have X:=Ve.o k hk;unfold hO;rw[<- X,e,i.o.jw]
      omega)
     have ZT:Hy (∀g,W8.heap.size<=g->a g=0):=Hd fun g D=>V.o g (aB Qm.size D)
     have cj:=Hd QT
     clear QT Qm
     go_wp2_with fail
     rw[<- cj.o]
     go_end0
     rw[U.o];exact⟨a,R,fm,sm,.slice none 0 0,rfl,Ve.o,ZT.o,ch.o,fV.nil _ _,RW.o⟩
end
end gj
end Go.Proofs.YtjhdaojclilakaaGreatDoor
