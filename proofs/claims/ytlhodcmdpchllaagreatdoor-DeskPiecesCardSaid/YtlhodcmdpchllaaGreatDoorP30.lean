/-
  A part of the proof of the law DeskPieces: ClH, ClF.
-/
import Derived.Test.YtlhodcmdpchllaaGreatDoorHd
import Derived.Test.YtlhodcmdpchllaaGreatDoorP29
set_option maxHeartbeats 16000000
set_option maxRecDepth 1000000
namespace Go.Proofs.YtlhodcmdpchllaaGreatDoor
namespace eZ
open Go.RowKit heap own eO fq eK dR cache
open dI (dJ gd fE eA ga ez put del)
section
variable {own own1:Nat->Nat} {T:Nat} {w wr w' w1:World} {cb fm sm:Nat} {cv:Value} {c c':dJ}
def pW (k:ga):Value:=.agg #[.int .i64 k.dT,.int .i64 k.dF,.string ⟨k.value.data.toArray⟩,.int .i64 k.value.dY,.bool k.over,.bool k.hit]
theorem tF (w:World) (h:eB own T w cb fm sm cv c):Calls Tryz.prog 167 #[.pointer (some ⟨cb,0,none⟩)] w fun e w'=>e=.returned (pW c.call)/\Below w.heap.size w w':=by
 have c12:w.cell? ⟨cb,12,none⟩=some (.int .i64 c.call.dT):=h.c_.cell 12;have Vj:w.cell? ⟨cb,13,none⟩=some (.int .i64 c.call.dF):=h.c_.cell 13;have Tu:w.cell? ⟨cb,14,none⟩=some (.string ⟨c.call.value.data.toArray⟩):=h.c_.cell 14;have Vk:w.cell? ⟨cb,15,none⟩=some (.int .i64 c.call.value.dY):=h.c_.cell 15;have Vl:w.cell? ⟨cb,16,none⟩=some (.bool c.call.over):=h.c_.cell 16;have XY:w.cell? ⟨cb,17,none⟩=some (.bool c.call.hit):=h.c_.cell 17;have Kg:=h.lt;clear h;unfold pW;(go_enter Tryz.func167,Tryz.ntmps167);go_wp2;exact bodyPost_ret (results_cell_row Tryz.results167 _ _ w.heap.size 118 _ (0,0) _ rfl (Has.new w _) Tryz.underlying118 rfl (by kernel_rfl)) rfl ⟨rfl,(Below.refl _ _).alloc (aq _) _⟩
def nW (own:Nat->Nat) (T cb fm sm:Nat):Nat->Nat:=fun k=>if k=cb then T else if k=fm then T+2 else if k=sm then T+3 else own k
def ES (own:Nat->Nat) (T:Nat) (w:World) (r:Option dJ) (e:Ending) (w':World):Prop:=
 match r with
 |none=>e=.returned (.tuple #[.pointer none,fx 2])/\Below w.heap.size w w'
 |some c=>∃own1 cb fm sm,e=.returned (.tuple #[.pointer (some ⟨cb,0,none⟩),.nilIface])/\Ext w own own1/\(∀g,w'.heap.size<=g->own1 g=0)/\eB own1 T w' cb fm sm (.slice none 0 0) c/\Below w.heap.size w w'/\w.heap.size<=cb
theorem xX (id eW dE:Int) (t:eA) (w:World) (hf:∀g,w.heap.size<=g->own g=0) :
 Calls Tryz.prog 25 #[.int .i64 id,l6 t,.int .i64 eW,.int .i64 dE] w (ES own T w (dJ.new id t eW dE)):=by
 obtain⟨r,hr⟩:∃r,r=dJ.new id t eW dE:=⟨_,rfl⟩;obtain⟨W1,Kh⟩:∃W1,W1=w.alloc (.cells #[.int .i64 t.dF,.int .i64 t.ei,.int .i64 t.eS] 49):=⟨_,rfl⟩;(have Kd:Below w.heap.size w W1:=by rw[Kh];exact (Below.refl _ _).alloc (aq _) _);(have Kf:Has W1 w.heap.size (.cells #[.int .i64 t.dF,.int .i64 t.ei,.int .i64 t.eS] 49):=by rw[Kh];exact Has.new w _);have y0:W1.cell? ⟨w.heap.size,0,none⟩=some (.int .i64 t.dF):=Kf.cell 0;have y1:W1.cell? ⟨w.heap.size,1,none⟩=some (.int .i64 t.ei):=Kf.cell 1;have y2:W1.cell? ⟨w.heap.size,2,none⟩=some (.int .i64 t.eS):=Kf.cell 2;obtain⟨Ml,SJ⟩:∃Ml,Ml=(dI.eX id&&dI.eG eW 0 1000&&dI.eG dE 0 dI.half&&dI.eG t.eS 0 500&&dI.eG t.dF 0 274877906944&&dI.eG t.ei 0 274877906944):=⟨_,rfl⟩;obtain⟨b0,Ls⟩:∃b0,b0=decide (id<0):=⟨_,rfl⟩;have e0:decide (id<0)=b0:=Ls.symm;obtain⟨b1,Kd⟩:∃b1,b1=decide (4<=id):=⟨_,rfl⟩;have e1:decide (4<=id)=b1:=Kd.symm;obtain⟨b2,Ke⟩:∃b2,b2=decide (eW<0):=⟨_,rfl⟩;have e2:decide (eW<0)=b2:=Ke.symm;obtain⟨b3,Kk⟩:∃b3,b3=decide (1000<eW):=⟨_,rfl⟩;have e3:decide (1000<eW)=b3:=Kk.symm;obtain⟨b4,KB⟩:∃b4,b4=decide (dE<0):=⟨_,rfl⟩;have e4:decide (dE<0)=b4:=KB.symm;obtain⟨b5,Kx⟩:∃b5,b5=decide (549755813888<dE):=⟨_,rfl⟩;have e5:decide (549755813888<dE)=b5:=Kx.symm;obtain⟨b6,LG⟩:∃b6,b6=decide (t.eS<0):=⟨_,rfl⟩;have e6:decide (t.eS<0)=b6:=LG.symm;obtain⟨b7,Lu⟩:∃b7,b7=decide (500<t.eS):=⟨_,rfl⟩;have e7:decide (500<t.eS)=b7:=Lu.symm;obtain⟨b8,UY⟩:∃b8,b8=decide (t.dF<0):=⟨_,rfl⟩;have e8:decide (t.dF<0)=b8:=UY.symm;obtain⟨b9,Qk⟩:∃b9,b9=decide (t.ei<0):=⟨_,rfl⟩;have e9:decide (t.ei<0)=b9:=Qk.symm;obtain⟨ZY,MA⟩:∃ZY,ZY=decide (274877906944<t.dF):=⟨_,rfl⟩;have e10:decide (274877906944<t.dF)=ZY:=MA.symm;obtain⟨b11,Qm⟩:∃b11,b11=decide (274877906944<t.ei):=⟨_,rfl⟩;have e11:decide (274877906944<t.ei)=b11:=Qm.symm
 have hg:Ml=!(b0||b1||b2||b3||b4||b5||b6||b7||b8||b9||ZY||b11):=by
  rw[SJ,Ls,Kd,Ke,Kk,KB,Kx,LG,Lu,UY,Qk,MA,Qm];unfold dI.eX dI.eG dI.half;rw[bE];simp only[aK,decide_eq_true_eq,a8,cK,decide_eq_false_iff_not];omega
 have HG:=Hd hg;clear Ls Kd Ke Kk KB Kx LG Lu UY Qk MA Qm hg;have HR:=Hd hr;have Tw:=Hd SJ;have Ki:=Hd Kd;have KS:=Hd Kf;have Qw:=Hd hf;rw[<- hr];unfold l6;clear hr SJ Kd Kf hf;(go_enter Tryz.func25,Tryz.ntmps25);(go_upto_region 1 with fail);rw[<- Kh];clear Kh;go_cut [61] (fun tt wx=>tt=.bool (!Ml)/\wx=W1)
 case first =>
  cases b0 with
  |true =>
   have Lr:Hy (Ml=false):=Hd (by rw[HG.o];simp);(go_wp2_with fail);go_meet;case rel=>exact⟨by rw[Lr.o];rfl,rfl⟩
  |false =>
   cases b1 with
   |true =>
    have Lr:Hy (Ml=false):=Hd (by rw[HG.o];simp);(go_wp2_with fail);go_meet;case rel=>exact⟨by rw[Lr.o];rfl,rfl⟩
   |false =>
    cases b2 with
    |true =>
     have Lr:Hy (Ml=false):=Hd (by rw[HG.o];simp);(go_wp2_with fail);go_meet;case rel=>exact⟨by rw[Lr.o];rfl,rfl⟩
    |false =>
     cases b3 with
     |true =>
      have Lr:Hy (Ml=false):=Hd (by rw[HG.o];simp);(go_wp2_with fail);go_meet;case rel=>exact⟨by rw[Lr.o];rfl,rfl⟩
     |false =>
      cases b4 with
      |true =>
       have Lr:Hy (Ml=false):=Hd (by rw[HG.o];simp);(go_wp2_with fail);go_meet;case rel=>exact⟨by rw[Lr.o];rfl,rfl⟩
      |false =>
       cases b5 with
       |true =>
        have Lr:Hy (Ml=false):=Hd (by rw[HG.o];simp);(go_wp2_with fail);go_meet;case rel=>exact⟨by rw[Lr.o];rfl,rfl⟩
       |false =>
        cases b6 with
        |true =>
         have Lr:Hy (Ml=false):=Hd (by rw[HG.o];simp);(go_wp2_with fail);go_meet;case rel=>exact⟨by rw[Lr.o];rfl,rfl⟩
        |false =>
         cases b7 with
         |true =>
          have Lr:Hy (Ml=false):=Hd (by rw[HG.o];simp);(go_wp2_with fail);go_meet;case rel=>exact⟨by rw[Lr.o];rfl,rfl⟩
         |false =>
          cases b8 with
          |true =>
           have Lr:Hy (Ml=false):=Hd (by rw[HG.o];simp);(go_wp2_with fail);go_meet;case rel=>exact⟨by rw[Lr.o];rfl,rfl⟩
          |false =>
           cases b9 with
           |true =>
            have Lr:Hy (Ml=false):=Hd (by rw[HG.o];simp);(go_wp2_with fail);go_meet;case rel=>exact⟨by rw[Lr.o];rfl,rfl⟩
           |false =>
            cases ZY with
            |true =>
             have Lr:Hy (Ml=false):=Hd (by rw[HG.o];simp);(go_wp2_with fail);go_meet;case rel=>exact⟨by rw[Lr.o];rfl,rfl⟩
            |false =>
             cases b11 with
             |true =>
              have Lr:Hy (Ml=false):=Hd (by rw[HG.o];simp);(go_wp2_with fail);go_meet;case rel=>exact⟨by rw[Lr.o];rfl,rfl⟩
             |false =>
              have Lr:Hy (Ml=true):=Hd (by rw[HG.o];rfl);(go_wp2_with fail);go_meet;case rel=>exact⟨by rw[Lr.o];rfl,rfl⟩
 case rest =>
  obtain⟨ht,Lv⟩:=hcut;subst ht;subst Lv;clear HG
  cases Ml with
  |false =>
   have HE:Hy (r=none):=Hd (by rw[HR.o];unfold dJ.new;rw[<- Tw.o];rfl);(go_wp2_with fail);go_ret2;rw[HE.o];exact⟨rfl,Ki.o⟩
  |true =>
   have HE:Hy (r=some ⟨id,t,eW*1048576,0,0,dE,0,[],[],[],dI.lX,0,0,0,0⟩):=Hd (by rw[HR.o];unfold dJ.new;rw[<- Tw.o];rfl)
   have hlf:0<=eW/\eW<=1000:=by
    have h9:=Tw.o.symm;simp only[aK]at h9;exact fD.iN.1 h9.1.1.1.1.2
   have UU:=@run_makeMap Tryz.prog;(go_wp2_with fail);have RQ:Below wc.heap.size wc (wc.alloc (.map #[] 0)):=(Below.refl _ _).alloc (aq _) _;have hbb:=RQ.alloc RQ.size (.map #[] 0)
   have HN:Hy (eB (nW own T (wc.heap.size+1+1) wc.heap.size (wc.heap.size+1)) T (((wc.alloc (.map #[] 0)).alloc (.map #[] 0)).alloc (.cells (jU ⟨id,t,eW*1048576,0,0,dE,0,[],[],[],dI.lX,0,0,0,0⟩ (.slice none 0 0) wc.heap.size (wc.heap.size+1)) 120)) (wc.heap.size+1+1) wc.heap.size (wc.heap.size+1) (.slice none 0 0) ⟨id,t,eW*1048576,0,0,dE,0,[],[],[],dI.lX,0,0,0,0⟩):=Hd (by
    have h1:=((At.new iY wc).alloc (.map #[] 0)).alloc (.cells (jU ⟨id,t,eW*1048576,0,0,dE,0,[],[],[],dI.lX,0,0,0,0⟩ (.slice none 0 0) wc.heap.size (wc.heap.size+1)) 120);have h2:=(At.new iY (wc.alloc (.map #[] 0))).alloc (.cells (jU ⟨id,t,eW*1048576,0,0,dE,0,[],[],[],dI.lX,0,0,0,0⟩ (.slice none 0 0) wc.heap.size (wc.heap.size+1)) 120);have h3:=Has.new ((wc.alloc (.map #[] 0)).alloc (.map #[] 0)) (.cells (jU ⟨id,t,eW*1048576,0,0,dE,0,[],[],[],dI.lX,0,0,0,0⟩ (.slice none 0 0) wc.heap.size (wc.heap.size+1)) 120);simp only[World.size_alloc]at h2 h3
    refine⟨h3,by unfold nW;rw[if_pos rfl],Row.nil _ _ _ _ _,by simp,h1,by unfold nW;rw[if_neg (by omega),if_pos rfl],h2,by unfold nW;rw[if_neg (by omega),if_neg (by omega),if_pos rfl],fun p hp=>(by cases hp),fun p hp=>(by cases hp)⟩)
   have HBZ:Hy (Below w.heap.size w (((wc.alloc (.map #[] 0)).alloc (.map #[] 0)).alloc (.cells (jU ⟨id,t,eW*1048576,0,0,dE,0,[],[],[],dI.lX,0,0,0,0⟩ (.slice none 0 0) wc.heap.size (wc.heap.size+1)) 120))):=Hd (Ki.o.trans ((hbb.alloc hbb.size _).mono Ki.o.size));clear RQ hbb UU;go_ret2;rw[HE.o];have hs:=Ki.o.size;refine⟨nW own T (wc.heap.size+1+1) wc.heap.size (wc.heap.size+1),_,_,_,rfl,fun k hk=>?_,fun g hg=>?_,HN.o,HBZ.o,by omega⟩
   ·unfold nW;rw[if_neg (by omega),if_neg (by omega),if_neg (by omega)]
   simp only[World.size_alloc]at hg;unfold nW;rw[if_neg (by omega),if_neg (by omega),if_neg (by omega)];exact Qw.o g (by omega)
end
section
variable {own own1:Nat->Nat} {T:Nat} {w wr w' w1:World} {cb fm sm:Nat} {cv:Value} {c c':dJ} {q q':Value} {out:List dH}
theorem y9 {l:List (Int×Int)} (hn:(l.map (·.1)).Nodup) (hk:∀p∈l,0<=p.1/\p.1<8):l.length<=8:=by
 have:=fD.qE (l.map (·.1)) [0,1,2,3,4,5,6,7] hn (fun x hx=>by
  obtain⟨p,hp,rfl⟩:=bA.1 hx;have:=hk p hp;have h2:p.1=0\/p.1=1\/p.1=2\/p.1=3\/p.1=4\/p.1=5\/p.1=6\/p.1=7:=by omega
  rcases h2 with h2|h2|h2|h2|h2|h2|h2|h2<;>rw[h2]<;>simp)
 simpa using this
theorem Gm (l:List gd) (o u:Int) (v:fE):nU (l.map fY) (fY ⟨o,v,u⟩)=(dI.Cache.put l o v u).map fY:=by
 unfold nU dI.Cache.put;have e:jK (l.map fY) (fY ⟨o,v,u⟩).obj=(dI.Cache.drop l o).map fY:=rz l o;rw[e,aS,bN];split
 ·rw[List.map_drop];rfl
 rfl
theorem Gn (l:List gd) (o u:Int) (v:fE) (h:l.length<=6):(dI.Cache.put l o v u).length<=6:=by
 have:=xW l o;unfold dI.Cache.put;rw[aA,aQ];split
 ·rw[bO];omega
 omega
theorem eB.Gp (h:eB own T w cb fm sm cv c) (o x:Int) (ho:0<=o/\o<8) (hm:At iY w' sm (put o x c.seen)) (hg:w.grownBy w' (some sm)):eB own T w' cb fm sm cv {c with seen:=put o x c.seen}/\dD (fun g=>g=sm) w w':=by
 have ht:dD (fun g=>g=sm) w w':=⟨hg.os,hg.tape,hg.output,hg.size,fun k hk hn=>hg.block k hk (fun e=>hn (by simpa using e))⟩;(have ne:∀g k,own g=T+k->k≠3->g≠sm:=fun g k hk h4 e=>by rw[e,h.kj]at hk;omega);refine⟨⟨ht.has h.c_ (ne _ 0 h.gI (by decide)),h.gI,h.items.ej ht (Ext.refl _ _) fun k _ ho=>ne k 1 ho (by decide),h.ft,h.fG.er ht (ne _ 2 h.kV (by decide)),h.kV,hm,h.kj,h.fk,fun p hp=>?_⟩,ht⟩;rcases aM.1 hp with rfl|hp
 ·exact ho
 exact h.sk p ((nG _ _).mem hp)
theorem eB.Gq (h:eB own T w cb fm sm cv c) (o x:Int) (ho:0<=o/\o<8) (hm:At iY w' fm (put o x c.fG)) (hg:w.grownBy w' (some fm)):eB own T w' cb fm sm cv {c with fG:=put o x c.fG}/\dD (fun g=>g=fm) w w':=by
 have ht:dD (fun g=>g=fm) w w':=⟨hg.os,hg.tape,hg.output,hg.size,fun k hk hn=>hg.block k hk (fun e=>hn (by simpa using e))⟩;(have ne:∀g k,own g=T+k->k≠2->g≠fm:=fun g k hk h4 e=>by rw[e,h.kV]at hk;omega);refine⟨⟨ht.has h.c_ (ne _ 0 h.gI (by decide)),h.gI,h.items.ej ht (Ext.refl _ _) fun k _ ho=>ne k 1 ho (by decide),h.ft,hm,h.kV,h.seen.er ht (ne _ 3 h.kj (by decide)),h.kj,fun p hp=>?_,h.sk⟩,ht⟩;rcases aM.1 hp with rfl|hp
 ·exact ho
 exact h.fk p ((nG _ _).mem hp)
theorem Gr (m:dH) (same:Bool) (h:eB own T w cb fm sm cv c) (hf:∀g,w.heap.size<=g->own g=0) (hT:0<T) (Pp:0<=m.dF/\m.dF<8) (SQ:gi m.eI) :
 Calls Tryz.prog 163 #[.pointer (some ⟨cb,0,none⟩),m.val,.bool same] w (iZ own T w cb (c.lD m same) [] fun _=>.tuple #[]):=by
 obtain⟨mk,mc,mn,me,ms,mo,mv,ml,md⟩:=m;dsimp only at Pp SQ;obtain⟨r,hr⟩:∃r,r=c.lD ⟨mk,mc,mn,me,ms,mo,mv,ml,md⟩ same:=⟨_,rfl⟩;obtain⟨H,hH⟩:∃H,H=w.heap.size:=⟨_,rfl⟩;obtain⟨W1,Kh⟩:∃W1,W1=w.alloc (.cells #[.int .i64 mk,.int .i64 mc,.int .i64 mn,.int .i64 me,.int .i64 ms,.int .i64 mo,.int .i64 mv,.bool ml,.string ⟨md.toArray⟩] 109):=⟨_,rfl⟩;(have Kd:Below w.heap.size w W1:=by rw[Kh];exact (Below.refl _ _).alloc (aq _) _);(have Kf:Has W1 H (.cells #[.int .i64 mk,.int .i64 mc,.int .i64 mn,.int .i64 me,.int .i64 ms,.int .i64 mo,.int .i64 mv,.bool ml,.string ⟨md.toArray⟩] 109):=by rw[Kh,hH];exact Has.new w _);have Ln:=h.below Kd;have Ri:Hy (own H=0):=Hd (hf H (by omega));obtain⟨b0,Ls⟩:∃b0,b0=c.fX:=⟨_,rfl⟩;obtain⟨n1,NN⟩:∃n1,n1=(mn !=c.fc):=⟨_,rfl⟩;obtain⟨n2,OM⟩:∃n2,n2=(c.call.dT !=1):=⟨_,rfl⟩;obtain⟨n3,Uv⟩:∃n3,n3=(c.call.dF !=mo):=⟨_,rfl⟩;obtain⟨fb,hfb⟩:∃fb,fb=decide (c.mD mo<=mv):=⟨_,rfl⟩
 obtain⟨c3,Mh⟩:∃c3:dJ,c3=(if same&&ml&&fb then {c with cache:=c.cache.put mo ⟨md,mv⟩ (c.ends c.fL c.eJ.dF)} else c):=⟨_,rfl⟩
 have HR:Hy (r=if (!b0||n1||n2||n3) then c else {c3 with seen:=put mo (max (c3.mX mo) mv) c3.seen,call:={c3.call with value:=⟨md,mv⟩,over:=true},fc:=0}):=Hd (by
  rw[hr];unfold dJ.lD
  have e1:(!c.fX||!decide (mn=c.fc)||!decide (c.call.dT=1)||!decide (c.call.dF=mo))=(!b0||n1||n2||n3):=by
   rw[Ls,NN,OM,Uv];rw[bE];simp
  dsimp only;rw[e1];split
  ·rfl
  rw[Mh,hfb])
 have HB:Hy (Below w.heap.size w W1):=Hd Kd;have KS:=Hd Kf;have N6:=Hd Ln;have OD:Hy (gi mo):=Hd (WalkArith.wf_i64 (by omega));have HMV:=Hd SQ;have eb0:=Ls.symm;have Vt:(mn !=c.fc)=n1:=NN.symm;have X5:(c.call.dT !=1)=n2:=OM.symm;have en3:(c.call.dF !=mo)=n3:=Uv.symm;(have MV:Hy (∀W,eB own T W cb fm sm cv c->Calls Tryz.prog 152 #[.pointer (some ⟨cb,0,none⟩)] W fun e w'=>e=.returned (.bool b0)/\W=w'):=Hd fun W hW=>by rw[Ls];exact pn W hW);have Mz:=Hd Mh;have HFB:=Hd hfb;have Qw:=Hd hf;have x2:W1.cell? ⟨H,2,none⟩=some (.int .i64 mn):=Kf.cell 2;have x5:W1.cell? ⟨H,5,none⟩=some (.int .i64 mo):=Kf.cell 5;have XV:W1.cell? ⟨cb,18,none⟩=some (.int .i64 c.fc):=Ln.c_.cell 18;have c12:W1.cell? ⟨cb,12,none⟩=some (.int .i64 c.call.dT):=Ln.c_.cell 12;have Vj:W1.cell? ⟨cb,13,none⟩=some (.int .i64 c.call.dF):=Ln.c_.cell 13;rw[<- hr];unfold dH.val;dsimp only;clear hr Ls NN OM Uv hfb Mh h Kf Ln Kd SQ eb0 hf;(go_enter Tryz.func163,Tryz.ntmps163);(go_upto_region 1 with fail);rw[<- Kh,<- hH];have Q8:Hy (w.heap.size<=H):=Hd (cU hH.symm);clear Kh hH;go_cut [36] (fun t wx=>t=.bool (!b0||n1||n2||n3)/\∃nl,wx=W1.drewN nl)
 case first =>
  cases b0 with
  |false =>
   refine last.fS (fun W=>eB own T W cb fm sm cv c/\Has W H (.cells #[.int .i64 mk,.int .i64 mc,.int .i64 mn,.int .i64 me,.int .i64 ms,.int .i64 mo,.int .i64 mv,.bool ml,.string ⟨md.toArray⟩] 109)) 1000 30 ⟨N6.o.drew,KS.o.drew⟩ fun HS=>?_;refine last.many [(0,7,_)] HS.o ?_;refine last.one 1 fun K hK=>?_;go_simp;refine (MV.o _ N6.o.drew).mono ?_;rintro e w9 ⟨rfl,rfl⟩;refine hK.out _ _ (fun _=>HS.o) ?_;clear hK K;refine last.many [(2,9,_),(3,10,_),(4,11,undef),(5,12,undef),(6,13,undef),(7,14,undef),(8,15,undef),(9,16,undef),(10,17,undef),(11,18,_),(12,19,_),(13,20,undef),(14,21,undef),(15,22,undef),(16,23,undef),(17,24,undef),(18,25,undef),(19,26,_),(20,27,_),(21,28,undef),(22,29,undef),(23,30,undef),(24,31,undef),(25,32,undef),(26,33,undef),(27,34,undef),(28,35,undef),(29,36,_)] HS.o ?_;refine last.done ?_;(go_wp2_with fail);go_meet;case rel=>exact⟨rfl,1,rfl⟩
  |true =>
   cases n1 with
   |true =>
    refine last.fS (fun W=>eB own T W cb fm sm cv c/\Has W H (.cells #[.int .i64 mk,.int .i64 mc,.int .i64 mn,.int .i64 me,.int .i64 ms,.int .i64 mo,.int .i64 mv,.bool ml,.string ⟨md.toArray⟩] 109)) 1000 30 ⟨N6.o.drew,KS.o.drew⟩ fun HS=>?_;refine last.many [(0,7,_)] HS.o ?_;refine last.one 1 fun K hK=>?_;go_simp;refine (MV.o _ N6.o.drew).mono ?_;rintro e w9 ⟨rfl,rfl⟩;refine hK.out _ _ (fun _=>HS.o) ?_;clear hK K;refine last.many [(2,9,_),(3,10,_),(4,11,_),(5,12,_),(6,13,_),(7,14,_),(8,15,_),(9,16,_),(10,17,_),(11,18,_),(12,19,_),(13,20,undef),(14,21,undef),(15,22,undef),(16,23,undef),(17,24,undef),(18,25,undef),(19,26,_),(20,27,_),(21,28,undef),(22,29,undef),(23,30,undef),(24,31,undef),(25,32,undef),(26,33,undef),(27,34,undef),(28,35,undef),(29,36,_)] HS.o ?_ (hy:=fun W' Kc=>by have e1:W'.cell? ⟨H,2,none⟩=some (.int .i64 mn):=Kc.2.cell 2;have f0:W'.cell? ⟨cb,18,none⟩=some (.int .i64 c.fc):=Kc.1.c_.cell 18;have e9:=Vt;repeat (first|exact .z|refine .s ?_|refine .k ?_));refine last.done ?_;(go_wp2_with fail);go_meet;case rel=>exact⟨rfl,1,rfl⟩
   |false =>
    cases n2 with
    |true =>
     refine last.fS (fun W=>eB own T W cb fm sm cv c/\Has W H (.cells #[.int .i64 mk,.int .i64 mc,.int .i64 mn,.int .i64 me,.int .i64 ms,.int .i64 mo,.int .i64 mv,.bool ml,.string ⟨md.toArray⟩] 109)) 1000 30 ⟨N6.o.drew,KS.o.drew⟩ fun HS=>?_;refine last.many [(0,7,_)] HS.o ?_;refine last.one 1 fun K hK=>?_;go_simp;refine (MV.o _ N6.o.drew).mono ?_;rintro e w9 ⟨rfl,rfl⟩;refine hK.out _ _ (fun _=>HS.o) ?_;clear hK K;refine last.many [(2,9,_),(3,10,_),(4,11,_),(5,12,_),(6,13,_),(7,14,_),(8,15,_),(9,16,_),(10,17,_),(11,18,_),(12,19,_),(13,20,_),(14,21,_),(15,22,_),(16,23,_),(17,24,_),(18,25,_),(19,26,_),(20,27,_),(21,28,undef),(22,29,undef),(23,30,undef),(24,31,undef),(25,32,undef),(26,33,undef),(27,34,undef),(28,35,undef),(29,36,_)] HS.o ?_ (hy:=fun W' Kc=>by have e1:W'.cell? ⟨H,2,none⟩=some (.int .i64 mn):=Kc.2.cell 2;have f0:W'.cell? ⟨cb,18,none⟩=some (.int .i64 c.fc):=Kc.1.c_.cell 18;have e9:=Vt;have f1:W'.cell? ⟨cb,12,none⟩=some (.int .i64 c.call.dT):=Kc.1.c_.cell 12;have f2:=X5;repeat (first|exact .z|refine .s ?_|refine .k ?_));refine last.done ?_;(go_wp2_with fail);go_meet;case rel=>exact⟨rfl,1,rfl⟩
    |false =>
     refine last.fS (fun W=>eB own T W cb fm sm cv c/\Has W H (.cells #[.int .i64 mk,.int .i64 mc,.int .i64 mn,.int .i64 me,.int .i64 ms,.int .i64 mo,.int .i64 mv,.bool ml,.string ⟨md.toArray⟩] 109)) 1000 30 ⟨N6.o.drew,KS.o.drew⟩ fun HS=>?_;refine last.many [(0,7,_)] HS.o ?_;refine last.one 1 fun K hK=>?_;go_simp;refine (MV.o _ N6.o.drew).mono ?_;rintro e w9 ⟨rfl,rfl⟩;refine hK.out _ _ (fun _=>HS.o) ?_;clear hK K;refine last.many [(2,9,_),(3,10,_),(4,11,_),(5,12,_),(6,13,_),(7,14,_),(8,15,_),(9,16,_),(10,17,_),(11,18,_),(12,19,_),(13,20,_),(14,21,_),(15,22,_),(16,23,_),(17,24,_),(18,25,_),(19,26,_),(20,27,_),(21,28,_),(22,29,_),(23,30,_),(24,31,_),(25,32,_),(26,33,_),(27,34,_),(28,35,_),(29,36,_)] HS.o ?_ (hy:=fun W' Kc=>by have e1:W'.cell? ⟨H,2,none⟩=some (.int .i64 mn):=Kc.2.cell 2;have f0:W'.cell? ⟨cb,18,none⟩=some (.int .i64 c.fc):=Kc.1.c_.cell 18;have e9:=Vt;have f1:W'.cell? ⟨cb,12,none⟩=some (.int .i64 c.call.dT):=Kc.1.c_.cell 12;have f2:=X5;have f3:W'.cell? ⟨cb,13,none⟩=some (.int .i64 c.call.dF):=Kc.1.c_.cell 13;have f4:W'.cell? ⟨H,5,none⟩=some (.int .i64 mo):=Kc.2.cell 5;have f5:=en3;repeat (first|exact .z|refine .s ?_|refine .k ?_));refine last.done ?_;(go_wp2_with fail);go_meet;case rel=>exact⟨by cases n3<;>rfl,1,rfl⟩
 case rest =>
  obtain⟨ht,nl,Lv⟩:=hcut;obtain⟨bad,SR⟩:∃bad,bad=(!b0||n1||n2||n3):=⟨_,rfl⟩;rw[<- SR]at ht HR;subst ht;have HCx:Hy (eB own T wc cb fm sm cv c):=Hd (by rw[Lv];exact N6.o.drewN nl);have HXx:Hy (Has wc H (.cells #[.int .i64 mk,.int .i64 mc,.int .i64 mn,.int .i64 me,.int .i64 ms,.int .i64 mo,.int .i64 mv,.bool ml,.string ⟨md.toArray⟩] 109)):=Hd (by rw[Lv];exact KS.o.drewN nl);have X6:Hy (Below w.heap.size w wc):=Hd (by rw[Lv];exact below_drewN HB.o nl);clear Lv SR Vt X5 en3 MV N6 KS HB x2 x5 XV c12 Vj
  cases bad with
  |true =>
   have HE:Hy (r=c):=Hd HR.o
   go_wp2_with fail
   go_end0
   rw[HE.o];exact⟨own,cv,fm,sm,.slice none 0 0,rfl,Ext.refl _ _,fun g hg=>Qw.o g (az X6.o.size hg),HCx.o,eE.nil _ _,dD.fw X6.o (aq _)⟩
  |false =>
   have HE:Hy (r={c3 with seen:=put mo (max (c3.mX mo) mv) c3.seen,call:={c3.call with value:=⟨md,mv⟩,over:=true},fc:=0}):=Hd HR.o;clear HR;have x8:wc.cell? ⟨H,8,none⟩=some (.string ⟨md.toArray⟩):=HXx.o.cell 8;have x6:wc.cell? ⟨H,6,none⟩=some (.int .i64 mv):=HXx.o.cell 6;(go_upto_region 3 with fail);clear x8 x6;obtain⟨VB,SF⟩:∃VB,VB=wc.heap.size:=⟨_,rfl⟩;obtain⟨W2,Kv⟩:∃W2,W2=wc.alloc (.cells #[.string ⟨md.toArray⟩,.int .i64 mv] 98):=⟨_,rfl⟩;rw[<- Kv,<- SF];(have Ke:Below wc.heap.size wc W2:=by rw[Kv];exact (Below.refl _ _).alloc (aq _) _);have Nn:=Hd (HCx.o.below Ke);have KV:=Hd (HXx.o.below Ke HXx.o.lt);have OO:Hy (Has W2 VB (.cells #[.string ⟨md.toArray⟩,.int .i64 mv] 98)):=Hd (by rw[Kv,SF];exact Has.new wc _);have Kn:Hy (Below w.heap.size w W2):=Hd (X6.o.trans (Ke.mono X6.o.size));have QF:Hy (own VB=0):=Hd (Qw.o VB (by have:=X6.o.size;omega));obtain⟨fv,hfv⟩:∃fv,fv=c.mD mo:=⟨_,rfl⟩;have HFV:Hy (Value.int .i64 fv=iY.ev ((ez mo c.fG).getD iY.z)):=Hd (by rw[hfv];rfl);(have efb:decide (fv<=mv)=fb:=by rw[hfv];exact HFB.o.symm);clear Kv SF Ke hfv HCx HXx X6;go_cut [58] (fun t wx=>t=.bool (same&&ml&&fb)/\wx=W2.drew)
   case first =>
    cases same with
    |false =>
     refine last.fS (fun W=>eB own T W cb fm sm cv c/\Has W H (.cells #[.int .i64 mk,.int .i64 mc,.int .i64 mn,.int .i64 me,.int .i64 ms,.int .i64 mo,.int .i64 mv,.bool ml,.string ⟨md.toArray⟩] 109)) 1000 17 ⟨Nn.o.drew,KV.o.drew⟩ fun HS=>?_;refine last.many [(0,42,_),(1,43,_),(2,44,undef),(3,45,undef),(4,46,_),(5,47,_),(6,48,undef),(7,49,undef),(8,50,undef),(9,51,undef),(10,52,undef),(11,53,undef),(12,54,undef),(13,55,undef),(14,56,undef),(15,57,undef),(16,58,_)] HS.o ?_;refine last.done ?_;(go_wp2_with fail);go_meet;case rel=>exact⟨rfl,rfl⟩
    |true =>
     cases ml with
     |false =>
      refine last.fS (fun W=>eB own T W cb fm sm cv c/\Has W H (.cells #[.int .i64 mk,.int .i64 mc,.int .i64 mn,.int .i64 me,.int .i64 ms,.int .i64 mo,.int .i64 mv,.bool false,.string ⟨md.toArray⟩] 109)) 1000 17 ⟨Nn.o.drew,KV.o.drew⟩ fun HS=>?_;refine last.many [(0,42,_),(1,43,_),(2,44,_),(3,45,_),(4,46,_),(5,47,_),(6,48,undef),(7,49,undef),(8,50,undef),(9,51,undef),(10,52,undef),(11,53,undef),(12,54,undef),(13,55,undef),(14,56,undef),(15,57,undef),(16,58,_)] HS.o ?_ (hy:=fun W' Kc=>by have e1:W'.cell? ⟨H,7,none⟩=some (.bool false):=Kc.2.cell 7;repeat (first|exact .z|refine .s ?_|refine .k ?_));refine last.done ?_;(go_wp2_with fail);go_meet;case rel=>exact⟨rfl,rfl⟩
     |true =>
      refine last.fS (fun W=>eB own T W cb fm sm cv c/\Has W H (.cells #[.int .i64 mk,.int .i64 mc,.int .i64 mn,.int .i64 me,.int .i64 ms,.int .i64 mo,.int .i64 mv,.bool true,.string ⟨md.toArray⟩] 109)) 1000 17 ⟨Nn.o.drew,KV.o.drew⟩ fun HS=>?_;refine last.many [(0,42,_),(1,43,_),(2,44,_),(3,45,_),(4,46,_),(5,47,_),(6,48,_),(7,49,_),(8,50,_),(9,51,_),(10,52,_),(11,53,_),(12,54,_),(13,55,_)] HS.o ?_ (hy:=fun W' Kc=>by have e1:W'.cell? ⟨H,7,none⟩=some (.bool true):=Kc.2.cell 7;have f0:W'.cell? ⟨H,6,none⟩=some (.int .i64 mv):=Kc.2.cell 6;have f1:W'.cell? ⟨cb,10,none⟩=some (.map (some fm)):=Kc.1.c_.cell 10;have f2:W'.cell? ⟨H,5,none⟩=some (.int .i64 mo):=Kc.2.cell 5;repeat (first|exact .z|refine .s ?_|refine .k ?_));refine last.nL 14 56 (.int .i64 fv) rfl rfl (by kernel_rfl) (by kernel_rfl) (by kernel_rfl) (by kernel_rfl) (fun _ _ _ h=>h) HS.o (by rfl) (fun W' Kc=>by (rw[HFV.o];exact pL iY (.tmp 53) (.tmp 55) rfl rfl Kc.1.fG OD.o rfl)) ?_;dsimp only[List.set];refine last.many [(15,57,_),(16,58,_)] HS.o ?_ (hy:=fun W' Kc=>by have e9:=efb;repeat (first|exact .z|refine .s ?_|refine .k ?_));refine last.done ?_;(go_wp2_with fail);go_meet;case rel=>exact⟨by cases fb<;>rfl,rfl⟩
   case rest =>
    obtain⟨Qo,Lv⟩:=hcut;obtain⟨gb,Mw⟩:∃gb,gb=(same&&ml&&fb):=⟨_,rfl⟩;rw[<- Mw]at Qo;have WZ:Hy (c3=if gb then {c with cache:=c.cache.put mo ⟨md,mv⟩ (c.ends c.fL c.eJ.dF)} else c):=Hd (by rw[Mw];exact Mz.o);subst Qo;have Li:Hy (eB own T wc cb fm sm cv c):=Hd (by rw[Lv];exact Nn.o.drew);have LC:Hy (Has wc H (.cells #[.int .i64 mk,.int .i64 mc,.int .i64 mn,.int .i64 me,.int .i64 ms,.int .i64 mo,.int .i64 mv,.bool ml,.string ⟨md.toArray⟩] 109)):=Hd (by rw[Lv];exact KV.o.drew);have SS:Hy (Has wc VB (.cells #[.string ⟨md.toArray⟩,.int .i64 mv] 98)):=Hd (by rw[Lv];exact OO.o.drew);have KG:Hy (Below w.heap.size w wc):=Hd (by rw[Lv];exact Kn.o.drew);clear Lv Mw Nn KV OO Kn efb HFV Mz HFB;(go_upto_if 58 with fail);go_cut [75] (fun _ wx=>∃own5 Tz,Ext w own own5/\(∀g,wx.heap.size<=g->own5 g=0)/\(own5 H=0/\own5 VB=0)/\eB own5 T wx cb fm sm Tz c3/\Has wx H (.cells #[.int .i64 mk,.int .i64 mc,.int .i64 mn,.int .i64 me,.int .i64 ms,.int .i64 mo,.int .i64 mv,.bool ml,.string ⟨md.toArray⟩] 109)/\Has wx VB (.cells #[.string ⟨md.toArray⟩,.int .i64 mv] 98)/\dD (fC own T) w wx)
    case first =>
     cases gb with
     |false =>
      have Sw:Hy (c3=c):=Hd WZ.o;(go_wp2_with fail);go_meet
      case rel =>
       rw[Sw.o];exact⟨own,cv,Ext.refl _ _,fun g hg=>Qw.o g (az KG.o.size hg),⟨Ri.o,QF.o⟩,Li.o,LC.o,SS.o,dD.fw KG.o (aq _)⟩
     |true =>
      obtain⟨tu,QM⟩:∃tu,tu=c.ends c.fL c.eJ.dF:=⟨_,rfl⟩;have Sw:Hy (c3={c with cache:=c.cache.put mo ⟨md,mv⟩ tu}):=Hd (by rw[QM];exact WZ.o);(have TB:Hy (∀W,eB own T W cb fm sm cv c->Calls Tryz.prog 164 #[.pointer (some ⟨cb,0,none⟩),.int .i64 c.fL,.int .i64 c.eJ.dF] W fun e w'=>e=.returned (.int .i64 tu)/\W=w'):=Hd fun W hW=>by rw[QM];exact xT W _ _ hW);(have ZT:own cb≠T+1:=by rw[Li.o.gI];omega);have Vu:=Hd (ED own (T+1) cb 9 (jU c cv fm sm) 120 cv (c.cache.map fY) (fY ⟨mo,⟨md,mv⟩,tu⟩) wc.drew Li.o.drew.c_ rfl ZT Li.o.drew.items (by rw[aS];exact Li.o.ft));have x5:wc.cell? ⟨H,5,none⟩=some (.int .i64 mo):=LC.o.cell 5;have v0:wc.cell? ⟨VB,0,none⟩=some (.string ⟨md.toArray⟩):=SS.o.cell 0;have v1:wc.cell? ⟨VB,1,none⟩=some (.int .i64 mv):=SS.o.cell 1;have c19:wc.cell? ⟨cb,19,none⟩=some (.int .i64 c.fL):=Li.o.c_.cell 19;have c1:wc.cell? ⟨cb,1,none⟩=some (.int .i64 c.eJ.dF):=Li.o.c_.cell 1;have O0:H<wc.heap.size:=LC.o.lt;have hVl:VB<wc.heap.size:=SS.o.lt
      have nH:¬(H=cb\/own H=T+1):=fun e=>by
       have h0:=Ri.o;rcases e with e|e
       ·rw[e,Li.o.gI]at h0;omega
       omega
      have nV:¬(VB=cb\/own VB=T+1):=fun e=>by
       have h0:=QF.o;rcases e with e|e
       ·rw[e,Li.o.gI]at h0;omega
       omega
      unfold fY at Vu;dsimp only at Vu;clear QM;(go_upto_region 4 with fail);go_region_held3 (fun W=>W.cell? ⟨H,5,none⟩=some (.int .i64 mo)/\W.cell? ⟨VB,0,none⟩=some (.string ⟨md.toArray⟩)/\W.cell? ⟨VB,1,none⟩=some (.int .i64 mv)/\W.cell? ⟨cb,19,none⟩=some (.int .i64 c.fL)/\W.cell? ⟨cb,1,none⟩=some (.int .i64 c.eJ.dF)) (first|exact⟨(RZ.cell (p:=⟨H,5,none⟩) O0 nH).trans x5,(RZ.cell (p:=⟨VB,0,none⟩) hVl nV).trans v0,(RZ.cell (p:=⟨VB,1,none⟩) hVl nV).trans v1,(W0.cell 19).trans rfl,(W0.cell 1).trans rfl⟩|go_keep) ((first|(go_at_call 164;refine (TB.o _ Li.o.drew).mono ?_;rintro e w9 ⟨rfl,rfl⟩)|(go_at_call 196;refine Vu.o.mono ?_;rintro e W6 ⟨rfl,Xa,cvP,Tr,RZ,W0,hip⟩)))
      have RU:jg own (T+1) cb 9 (jU c cv fm sm) 120 ((c.cache.put mo ⟨md,mv⟩ tu).map fY) wc.drew W6:=by
       rw[<- Gm];exact⟨Xa,cvP,Tr,RZ,W0,hip⟩
      obtain⟨own5,Tz,he5,hf5,MZ,Rv⟩:=Li.o.drew.ry RU (Gn _ _ _ _ Li.o.ft);have Rb:=Hd (RZ.has LC.o.drew nH);have HV6:=Hd (RZ.has SS.o.drew nV);have Mx:=Hd MZ;have X7:Hy (Ext w own own5):=Hd fun g hg=>he5 g (ay hg KG.o.size);have Vv:Hy (own5 H=0/\own5 VB=0):=Hd ⟨(he5 H O0).trans Ri.o,(he5 VB hVl).trans QF.o⟩;have Xb:=Hd hf5;have Oy:Hy (dD (fC own T) w W6):=Hd ((dD.fw KG.o (aq _)).drew.trans Rv fun _ _ e=>e);clear RU Tr RZ W0 hip he5 hf5 MZ Rv x5 v0 v1 c19 c1 nH nV Vu TB;(go_wp2_with fail);go_meet
      case rel =>
       rw[Sw.o];exact⟨own5,Tz,X7.o,Xb.o,Vv.o,Mx.o,Rb.o,HV6.o,Oy.o⟩
    case rest =>
     obtain⟨own5,Tz,aah,aai,aaj,MZ,O7,MG,aak⟩:=hcut;have O1:=Hd MZ;have L6:=Hd O7;have HV5:=Hd MG;have Pm:=Hd aah;have Md:=Hd aai;have HOO:=Hd aaj;have Rq:=Hd aak;obtain⟨sv,KK⟩:∃sv,sv=c3.mX mo:=⟨_,rfl⟩;have Uj:Hy (Value.int .i64 sv=iY.ev ((ez mo c3.seen).getD iY.z)):=Hd (by rw[KK];rfl);have Qb:=Hd (y9 MZ.seen.nodup MZ.sk)
     have HOM:Hy (gi (max sv mv)):=Hd (by
      (have h9:gi sv:=by rw[KK];exact MZ.seen.jD mo);by_cases hle:sv<=mv
      ·rw[Int.max_eq_right hle];exact HMV.o
      rw[Int.max_eq_left (by omega)];exact h9)
     have Xc:Hy (r={c3 with seen:=put mo (max sv mv) c3.seen,call:={c3.call with value:=⟨md,mv⟩,over:=true},fc:=0}):=Hd (by rw[HE.o,KK]);clear MZ O7 MG aah aai aaj aak KK HE Li LC SS KG WZ;(go_upto_region 5 with fail);refine last.fS (fun W=>eB own5 T W cb fm sm Tz c3/\Has W H (.cells #[.int .i64 mk,.int .i64 mc,.int .i64 mn,.int .i64 me,.int .i64 ms,.int .i64 mo,.int .i64 mv,.bool ml,.string ⟨md.toArray⟩] 109)) 16 17 ⟨O1.o.drew,L6.o.drew⟩ fun HS=>?_;refine last.many [(0,77,_),(1,78,_),(2,79,_),(3,80,_),(4,81,_),(5,82,_),(6,83,_),(7,84,_),(8,85,_),(9,86,_),(10,87,_),(11,88,_)] HS.o ?_ (hy:=fun W' Kc=>by have e1:W'.cell? ⟨cb,11,none⟩=some (.map (some sm)):=Kc.1.c_.cell 11;have f0:W'.cell? ⟨H,5,none⟩=some (.int .i64 mo):=Kc.2.cell 5;repeat (first|exact .z|refine .s ?_|refine .k ?_));refine last.nL 12 89 (.int .i64 sv) rfl rfl (by kernel_rfl) (by kernel_rfl) (by kernel_rfl) (by kernel_rfl) (fun _ _ _ h=>h) HS.o (by rfl) (fun W' Kc=>by (rw[Uj.o];exact pL iY (.tmp 86) (.tmp 88) rfl rfl Kc.1.seen OD.o rfl)) ?_;dsimp only[List.set];refine last.many [(13,90,_),(14,91,_),(15,92,_)] HS.o ?_ (hy:=fun W' Kc=>by have e1:W'.cell? ⟨H,6,none⟩=some (.int .i64 mv):=Kc.2.cell 6;repeat (first|exact .z|refine .s ?_|refine .k ?_));refine last.one 16 fun K hK=>?_;refine pK iY (.tmp 80) (.tmp 82) (.tmp 92) rfl rfl HS.o.1.seen (by have:=Qb.o;unfold maxLen;omega) (k:=mo) (u:=max sv mv) OD.o HOM.o rfl rfl ?_;intro w6 OP Vi;refine hK.out _ _ (fun h=>absurd rfl h) ?_;refine last.done ?_;obtain⟨TC,MI⟩:=O1.o.drew.Gp mo (max sv mv) Pp OP Vi;have Mx:=Hd TC;have HV6:=Hd (MI.has HV5.o.drew (fun e=>by have h9:=HOO.o.2;rw[e,O1.o.kj]at h9;omega))
     have Oy:Hy (dD (fC own T) w w6):=Hd (Rq.o.drew.trans MI fun k hk e=>by
      have h9:=Pm.o k hk;unfold fC;rw[<- h9,e,O1.o.kj]
      omega)
     have Xb:Hy (∀g,w6.heap.size<=g->own5 g=0):=Hd fun g hg=>Md.o g (az MI.size hg);obtain⟨c4,N2⟩:∃c4:dJ,c4={c3 with seen:=put mo (max sv mv) c3.seen}:=⟨_,rfl⟩;rw[<- N2]at Mx;have X7:Hy (r={c4 with call:={c4.call with value:=⟨md,mv⟩,over:=true},fc:=0}):=Hd (by rw[Xc.o,N2]);clear TC MI OP Vi hK K HS O1 L6 HV5 Rq Md Xc N2 Uj Qb HOM;have v0:w6.cell? ⟨VB,0,none⟩=some (.string ⟨md.toArray⟩):=HV6.o.cell 0;have v1:w6.cell? ⟨VB,1,none⟩=some (.int .i64 mv):=HV6.o.cell 1;have Tu:w6.cell? ⟨cb,14,none⟩=some (.string ⟨c4.call.value.data.toArray⟩):=Mx.o.c_.cell 14;have Vk:w6.cell? ⟨cb,15,none⟩=some (.int .i64 c4.call.value.dY):=Mx.o.c_.cell 15;have Vl:w6.cell? ⟨cb,16,none⟩=some (.bool c4.call.over):=Mx.o.c_.cell 16;have XV:w6.cell? ⟨cb,18,none⟩=some (.int .i64 c4.fc):=Mx.o.c_.cell 18;have f14:=Mx.o.c_.frozen 14;have f15:=Mx.o.c_.frozen 15;have f16:=Mx.o.c_.frozen 16;have f18:=Mx.o.c_.frozen 18;obtain⟨W8,LD⟩:∃W8,W8=(((w6.setCell ⟨cb,14,none⟩ (.string ⟨md.toArray⟩)).setCell ⟨cb,15,none⟩ (.int .i64 mv)).setCell ⟨cb,16,none⟩ (.bool true)).setCell ⟨cb,18,none⟩ (.int .i64 0):=⟨_,rfl⟩;have K0:dD (fun g=>g=cb) w6 W8:=by rw[LD];exact dZ.fp (dZ.fp (dZ.fp (dZ.fp (dD.refl _ _) _ _) _ _) _ _) _ _
     have Ul:Hy (eB own5 T W8 cb fm sm Tz {c4 with call:={c4.call with value:=⟨md,mv⟩,over:=true},fc:=0}):=Hd (by
      refine Mx.o.kT K0 ?_ rfl rfl rfl;rw[LD]
      exact (((Mx.o.c_.eu 14 (.string ⟨md.toArray⟩)).eu 15 (.int .i64 mv)).eu 16 (.bool true)).eu 18 (.int .i64 0))
     have ME:Hy (dD (fC own T) w W8):=Hd (Oy.o.trans K0 fun k hk e=>by
      have h9:=Pm.o k hk;unfold fC;rw[<- h9,e,Mx.o.gI]
      omega)
     have Tv:Hy (∀g,W8.heap.size<=g->own5 g=0):=Hd fun g hg=>Xb.o g (az K0.size hg)
     have HW8:=Hd LD
     clear LD K0
     go_wp2_with fail
     rw[<- HW8.o]
     go_end0
     rw[X7.o];exact⟨own5,Tz,fm,sm,.slice none 0 0,rfl,Pm.o,Tv.o,Ul.o,eE.nil _ _,ME.o⟩
end
end eZ
end Go.Proofs.YtlhodcmdpchllaaGreatDoor
