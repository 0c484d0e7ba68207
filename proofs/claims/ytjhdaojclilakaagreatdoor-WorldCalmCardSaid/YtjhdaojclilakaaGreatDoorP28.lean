/-
  A part of the proof of the law WorldCalm: SrvN.
-/
import Derived.Deep.DeepCutAuto
import Derived.Deep.CutBlock
import Derived.Test.YtjhdaojclilakaaGreatDoorHd
import Derived.Test.YtjhdaojclilakaaGreatDoorP27
set_option maxHeartbeats 16000000
set_option maxRecDepth 1000000
namespace Go.Proofs.YtjhdaojclilakaaGreatDoor
namespace fj
open Go.RowKit heap own eG gC gO fF iR fD
open eY (Rec fe ir Wr eA fW fU fR fw put del)
section
variable {P:Lib.PrintTabs} {own:Nat->Nat} {w0:World} {sb db wb dm tb tm:Nat} {v:Value} {ps:List ByteArray} {qs:List Value} {d:fe} {s:eA}
def jf (P:Lib.PrintTabs) (own:Nat->Nat) (w0 w:World) (sb db wb dm tb tm:Nat) (r:List eL×fe×eA) (e:Ending) (w':World):Prop:=
 ∃u own1 v1 a b,e=.returned u/\Ext w own own1/\fV w.heap.size w' u r.1/\fC P own1 w0 w' sb db wb dm tb tm v1 a b r.2.1 r.2.2/\eJ (fL own) w w'
structure GL (P:Lib.PrintTabs) (own own1:Nat->Nat) (w0 w wr:World) (sb db wb dm tb tm:Nat) (v:Value) (ps:List ByteArray) (qs:List Value) (d:fe) (s:eA) (q:Value) (out:List eL) (o:Nat) (r:List eL×fe×eA):Prop where
 gm:GM P own own1 w0 w wr sb db wb dm tb tm v ps qs d s q out (.slice none 0 0) []
 gz:out.length+5*(s.eQ o).length<=100
 go:r=eA.iu ((s.eQ o).length+1) d s o out
theorem GM.post {own1:Nat->Nat} {w wr:World} {q a:Value} {out:List eL} {hs:List Int} (h:GM P own own1 w0 w wr sb db wb dm tb tm v ps qs d s q out a hs):jf P own w0 w sb db wb dm tb tm (out,d,s) (.returned q) wr:=
 ⟨q,own1,v,ps,qs,rfl,h.ext,h.msgs,h.fj,h.fI⟩
theorem GM.post_nil {own1:Nat->Nat} {w wr:World} {q a:Value} {out:List eL} {hs:List Int} (h:GM P own own1 w0 w wr sb db wb dm tb tm v ps qs d s q out a hs):jf P own w0 w sb db wb dm tb tm ([],d,s) (.returned (.slice none 0 0)) wr:=
 ⟨_,own1,v,ps,qs,rfl,h.ext,fV.nil _ _,h.fj,h.fI⟩
theorem xH (w:World) (o:Nat) (B:o<8) (h:fC P own w0 w sb db wb dm tb tm v ps qs d s) :
 Calls Tryz.prog 78 #[VP sb 0,VI o] w (jf P own w0 w sb db wb dm tb tm (eA.fu d s o)):=by
 obtain⟨r,hr⟩:=nm (eA.fu d s o);have Sb:(o:Int)<8:=ab;obtain⟨W1,Pz⟩:=nm (w.alloc (.cells #[VP sb 0] 62))
 have cJ:Hy (GL P own own w0 w W1 sb db wb dm tb tm v ps qs d s (.slice none 0 0) [] o r):=Hd (by
  rw[Pz]
  exact⟨GM.start h,by have:=h.ok.ql o;simp;omega,hr⟩)
 rw[<- hr];clear hr h;(go_enter Tryz.func78,Tryz.ntmps78);(go_upto_region 2 with fail);rw[<- Pz];clear Pz;(go_loopw [5] (fun q5 wr=>∃own1 v1 Uw Tt d1 s1 out,GL P own own1 w0 w wr sb db wb dm tb tm v1 Uw Tt d1 s1 q5 out o r) (fun _ wr=>lenOf sb o wr));case atStart=>exact⟨_,_,_,_,_,_,_,cJ.o⟩
 case round =>
  clear cJ;obtain⟨own1,v1,Uw,Tt,d1,s1,out,hL⟩:=hrel;have HL:=Hd hL;have HF:=Hd hL.gz;have VJ:=Hd hL.go;have Q:=Hd hL.gm;have b0:CP wr w.heap.size 0 sb 0:=hL.gm.box.cell 0;have gb:=Hd (hL.gm.fj.lenOf B);have Tu:=Hd (uz wr hL.gm.fj);clear hL
  cases SO:s1.eQ o with
  |nil =>
   as_aux_lemma =>
    have HE:Hy (r=(out,d1,s1)):=Hd (by rw[VJ.o];exact Bf SO);obtain⟨qa,qc,hq,-,-⟩:=(Q.o.fj.eQ o B).slice;(have Tv:wr.cell? ⟨sb,20+o,none⟩=some (.slice qa 0 qc):=by rw[Q.o.fj.kh o B,hq,SO];rfl);clear hq SO;(go_wp2_with fail);go_ret;rw[HE.o];exact Q.o.post
  |cons x rest =>
   have HQ:=Hd SO;obtain⟨g,off,cap,hq,-⟩:=Q.o.fj.first B SO;(have Tv:wr.cell? ⟨sb,20+o,none⟩=some (.slice (some ⟨g,off,none⟩) (rest.length+1) cap):=by rw[Q.o.fj.kh o B,hq]);have Z:=Hd hq;obtain⟨n,hn⟩:=nm (rest.length+1);rw[<- hn]at Tv;have n0:(0:Int)<(n:Int):=ab;have hX:decide ((0:Int)<(n:Int))=true:=decide_eq_true n0;have n1:0<n:=ab;have HN:=Hd hn;clear hq SO hn
   cases hd:s1.eX with
   |true =>
    as_aux_lemma =>
     have HE:Hy (r=(out,d1,s1)):=Hd (by rw[VJ.o];exact Bg hd);rw[hd]at Tu;clear hd;(go_wp2_with (go_at_call 68;refine Tu.o.mono ?_;rintro e w' ⟨rfl,rfl⟩));go_ret;rw[HE.o];exact Q.o.post
   |false =>
    have HD:=Hd hd;rw[hd]at Tu;clear hd;(go_upto_region 4 with (go_at_call 68;refine Tu.o.mono ?_;rintro e w' ⟨rfl,rfl⟩));clear Tv Tu;have Wb:CP wr sb 29 tb 0:=Q.o.fj.jJ 1 _ rfl;have Xt:CI wr sb 32 s1.eB:=Q.o.fj.jJ 4 _ rfl;have HH:=Hd (zU o s1.eB Q.o.fj.eW.drew);obtain⟨hs,a7⟩:=nm (s1.eW.ga o s1.eB);rw[<- a7]at HH;have S:=Hd a7;clear a7;have Pw:sb<wr.heap.size:=Q.o.fj.s_.lt;have aa:w.heap.size<wr.heap.size:=Q.o.box.lt;(go_region_held3 (fun W=>CP W w.heap.size 0 sb 0/\CP W sb 29 tb 0/\CI W sb 32 s1.eB) (first|exact⟨(UK.cell (p:=⟨w.heap.size,0,none⟩) aa).trans b0,(UK.cell (p:=⟨sb,29,none⟩) Pw).trans Wb,(UK.cell (p:=⟨sb,32,none⟩) Pw).trans Xt⟩|go_keep) ((go_at_call 97;refine HH.o.mono ?_;rintro e W4 ⟨uh,rfl,cQ,UK⟩)));have QJ:=Q.o.drew.hold UK cQ;obtain⟨hY,QB,-,-,-,z3,f3⟩:=QJ.fj.xG B HQ.o Z.o;have ZG:=Hd QJ;have c2:=Hd QJ.fj.nq;clear HH Pw aa Wb Xt b0 cQ UK QJ Q HL;obtain⟨x3,T9⟩:=nm x.gw;rw[<- T9]at z3;have Rc:=Hd T9;clear T9;(go_upto_if 50 with fail);obtain⟨y3,ad⟩:=nm (!x3);rw[<- ad];have T9:=Rc.o;go_cut [5] (fun q wx=>GM P own own1 w0 w wx sb db wb dm tb tm v1 Uw Tt d1 (gJ s1 o x rest) q (told s1 o x out) uh hs)
    case first =>
     cases y3 with
     |false =>
      (have Xw:x.gw=true:=by rw[<- T9];cases x3 with|true=>rfl|false=>cases ad);have HT:Hy (told s1 o x out=out):=Hd (by unfold told;rw[Xw];rfl);have HB:Hy (gJ s1 o x rest=s1):=Hd (JB (by rw[c2.o];exact B) HQ.o Xw);clear T9 Xw ad f3 z3;(go_wp2_with fail);go_meet;case rel=>rw[HT.o,HB.o];exact ZG.o
     |true =>
      (have Xw:x.gw=false:=by rw[<- T9];cases x3 with|false=>rfl|true=>cases ad);have HT:Hy (told s1 o x out=out++hs.map fun c=>(gJ s1 o x rest).ig c o):=Hd (by unfold told;rw[Xw,S.o];rfl);have YP:=ZG.o.fj.gw B HQ.o Z.o;have UL:=Hd (ZG.o.step YP.2 (fun k _ hk=>⟨ab,ab⟩) (Ext.refl _ _) YP.1)
      have al:∃a c,uh=.slice a hs.length c:=by
       rcases ZG.o.row.2 with⟨e,h0⟩|⟨g,cap,cur,e,-⟩
       ·exact⟨none,0,by rw[e,bc h0];rfl⟩
       exact⟨_,_,e⟩
      obtain⟨ua,uc,rfl⟩:=al;(have hZ:hs.length<=4:=by rw[S.o];exact uG _ _ _);obtain⟨Y,bb⟩:=nm (gJ s1 o x rest);rw[<- bb]at UL HT;have gk:=Hd bb;have gq:Hy (out.length<=100):=Hd (by have:=HF.o;omega);clear T9 Xw ad YP ZG bb;(go_upto_region 8 with fail);obtain⟨W5,Re⟩:=nm (W4.setCell ⟨g,off+3,none⟩ (.bool true));rw[<- Re]at UL⊢;clear Re z3 f3;(go_loopw [56,5] (fun bg q5 wx=>∃k:Nat,k<=hs.length/\bg=VI k/\GM P own own1 w0 w wx sb db wb dm tb tm v1 Uw Tt d1 Y q5 (out++(hs.take k).map fun c=>Y.ig c o) (.slice ua hs.length uc) hs) (fun bg _ _=>hs.length-(intOf bg).toNat));case atStart=>exact⟨0,ab,rfl,by rw[List.take_zero,bD,bG];exact UL.o⟩
      case round =>
       clear UL;obtain⟨k,hk,rfl,O⟩:=hrel;have E:=Hd O;by_cases PG:k<hs.length
       ·have PH:hs[k]?=some hs[k]:=ay PG;generalize hs[k]=c at PH;obtain⟨gu,cu,hu,al,zk⟩:=uD O.row PH;simp only[Value.slice.injEq]at hu;obtain⟨rfl,-,rfl⟩:=hu
        have WY:Hy (out++(hs.take (k+1)).map (fun c=>Y.ig c o)=(out++(hs.take k).map fun c=>Y.ig c o)++[Y.ig c o]):=Hd (by
         rw[bH,PH]
         simp)
        have Uv:(out++(hs.take k).map fun c=>Y.ig c o).length+1<=1000000:=by
         rw[aE,aX];have:=List.length_take_le k hs;have:=gq.o;omega
        have WX:=Hd Uv;have gr:CP wr w.heap.size 0 sb 0:=O.box.cell 0;clear O PH Uv
        go_wp2_with (first
         |(go_at_call 98;refine (AY _ c o B E.o.fj).mono ?_;rintro e w6 ⟨rfl,RU⟩;have L:=Hd (E.o.below RU))
         |(refine nk rfl (.tmp 64) (Y.ig c o) rfl rfl ?_;have I:=Hd (L.o.below ((Below.refl w6.heap.size w6).alloc (ax _) (.cells (([Y.ig c o]:List eL).flatMap iS).toArray 93)));have Tk:=Hd (fV.new (w:=w6) (l:=[Y.ig c o]) ae);obtain⟨w7,UZ⟩:=nm (w6.alloc (.cells (([Y.ig c o]:List eL).flatMap iS).toArray 93));rw[<- UZ]at I Tk⊢;clear UZ L)
         |(refine rC rfl (.tmp 60) (.tmp 65) I.o.fI.size u5 (.slice (some ⟨w6.heap.size,0,none⟩) 1 1) _ [Y.ig c o] rfl rfl rfl I.o.msgs Tk.o ae WX.o fun v' w8 Ya M c4=>?_;have N:=Hd (I.o.append Ya M c4);clear Ya M c4))
        go_roundw;(case rel=>exact⟨k+1,ab,by go_num,by rw[WY.o];exact N.o⟩);case measure=>simp[intOf];omega
       (obtain rfl:k=hs.length:=by omega);have gP:Hy (told s1 o x out=out++(hs.take hs.length).map fun c=>Y.ig c o):=Hd (by rw[HT.o,bK]);(go_wp2_with fail);go_meet;case rel=>rw[gP.o,<- gk.o];exact E.o
    case rest =>
     have Xx:=Hd hcut;have aa:w.heap.size<wc.heap.size:=hcut.box.lt;have Pw:sb<wc.heap.size:=hcut.fj.s_.lt;have b0:CP wc w.heap.size 0 sb 0:=hcut.box.cell 0;have c6:CI wc sb 31 s1.quiet:=hcut.fj.jJ 3 _ rfl;have Xt:CI wc sb 32 s1.eB:=hcut.fj.jJ 4 _ rfl;clear hcut Rc z3 f3 ZG;(go_upto_region 13 with fail);obtain⟨b1,Pu⟩:=nm (decide (s1.eB<s1.quiet));have e1:decide (s1.eB<s1.quiet)=b1:=Pu.symm;obtain⟨b2,Px⟩:=nm (hs.any fun c=>s1.eW.jT c s1.eB);have gQ:hs.length<=1000:=by rw[S.o];exact aB (uG _ _ _) aj
     have c7:Hy (Calls Tryz.prog 104 #[uh,.func (.func 102) #[] #[VP w.heap.size 0]] wc.drew fun e w'=>e=.returned (.bool b2)/\Below wc.drew.heap.size wc.drew w'):=Hd (by
      rw[Px]
      exact Jr (s:=gJ s1 o x rest) wc.drew w.heap.size uh hs gQ w.heap.size Xx.o.drew.row Xx.o.drew.box Xx.o.drew.fj)
     have HW:Hy ((b1||b2)=true->r=(told s1 o x out,d1,gJ s1 o x rest)):=Hd fun h=>by
      rw[VJ.o,uH HQ.o HD.o,Bh (by rw[<- S.o,<- Pu,<- Px];exact h)];rfl
     have c8:Hy ((b1||b2)=false->r=eA.iu ((s1.eQ o).length+1) d1 s1 o out/\s1.iE d1 o x rest out=eA.store d1 {gJ s1 o x rest with eW:=eY.jr s1.eW hs} o x rest (told s1 o x out)):=Hd fun h=>by
      refine⟨VJ.o,?_⟩;rw[Bi (by rw[<- S.o,<- Pu,<- Px];exact h),<- S.o]
     clear Pu Px VJ
     cases b1 with
     |true =>
      as_aux_lemma =>
       (go_quiet (fail));(go_wp2_with fail);go_ret;rw[HW.o rfl];exact (Xx.o.drewN nq).post
     |false =>
      (go_region_held3 (fun W=>CP W w.heap.size 0 sb 0/\CI W sb 31 s1.quiet/\CI W sb 32 s1.eB) (first|exact⟨(UK.cell (p:=⟨w.heap.size,0,none⟩) aa).trans b0,(UK.cell (p:=⟨sb,31,none⟩) Pw).trans c6,(UK.cell (p:=⟨sb,32,none⟩) Pw).trans Xt⟩|go_keep) ((go_at_call 104;refine c7.o.mono ?_;rintro e W6 ⟨rfl,UK⟩)));have L:=Hd (Xx.o.drew.below UK);clear Xx c7 UK b0 c6 Xt e1
      cases b2 with
      |true =>
       as_aux_lemma =>
        (go_wp2_with fail);go_ret;rw[HW.o rfl];exact L.o.post
      |false =>
       obtain⟨c9,Rq⟩:=c8.o rfl;have VJ:=Hd c9;have Tl:=Hd Rq;clear c9 Rq c8 HW
       have al:∃a c,uh=.slice a hs.length c:=by
        rcases L.o.row.2 with⟨e,h0⟩|⟨g,cap,cur,e,-⟩
        ·exact⟨none,0,by rw[e,bc h0];rfl⟩
        exact⟨_,_,e⟩
       obtain⟨ua,uc,rfl⟩:=al;(go_upto_region 16 with fail);(go_loopw [86] (fun bj wx=>∃k:Nat,k<=hs.length/\bj=VI k/\GM P own own1 w0 w wx sb db wb dm tb tm v1 Uw Tt d1 {gJ s1 o x rest with eW:=eY.jr s1.eW (hs.take k)} u5 (told s1 o x out) (.slice ua hs.length uc) hs) (fun bj _=>hs.length-(intOf bj).toNat));case atStart=>exact⟨0,ab,rfl,L.o⟩
       case round =>
        clear L;obtain⟨k,hk,rfl,O⟩:=hrel;have E:=Hd O;by_cases PG:k<hs.length
        ·
         as_aux_lemma =>
          have PH:hs[k]?=some hs[k]:=ay PG;generalize hs[k]=c at PH;obtain⟨gu,cu,hu,al,zk⟩:=uD O.row PH;simp only[Value.slice.injEq]at hu;obtain⟨rfl,-,rfl⟩:=hu
          have WY:Hy (eY.jr s1.eW (hs.take (k+1))=((eY.jr s1.eW (hs.take k)).flush c).2):=Hd (by
           rw[bH,PH];unfold eY.jr;rw[List.foldl_append]
           rfl)
          have gr:CP wr w.heap.size 0 sb 0:=O.box.cell 0;have hU:CP wr sb 29 tb 0:=O.fj.jJ 1 _ rfl;clear O PH;(go_wp2_with (go_at_call 105;refine (Jz _ c E.o.fj).mono ?_;rintro e w6 ⟨uf,rfl,ha,RJ⟩));have N:=Hd (E.o.step RJ E.o.fj.xE (Ext.refl _ _) ha);go_roundw;(case rel=>exact⟨k+1,ab,by go_num,by rw[WY.o];exact N.o⟩);case measure=>simp[intOf];omega
        (obtain rfl:k=hs.length:=by omega);rw[bK]at O;obtain⟨s2,Qi⟩:=nm ({gJ s1 o x rest with eW:=eY.jr s1.eW hs});rw[<- Qi]at O Tl;have Qw:=Hd Qi;have I:=Hd O;clear O E Qi;(go_upto_region 20 with fail);(have Sf:s2.eQ o={x with gw:=true}::rest:=by rw[Qw.o];exact JC (by rw[c2.o];exact B));obtain⟨-,hW,y0,y1,y2,-,-⟩:=I.o.fj.xG B Sf Z.o;have da:=Hd Sf;have b0:CP wr w.heap.size 0 sb 0:=I.o.box.cell 0;have cV:CI wr sb (4+o*2+1) (s2.value o).fq:=(I.o.fj.rA o B).2;have Pw:sb<wr.heap.size:=I.o.fj.s_.lt;have aa:w.heap.size<wr.heap.size:=I.o.box.lt;obtain⟨cl,PI⟩:=nm x.eI;obtain⟨f,T⟩:=nm x.eK;obtain⟨i,ZH⟩:=nm x.data;obtain⟨vr,bl⟩:=nm ((s2.value o).fq);obtain⟨j,ZI⟩:=nm (wrap64 (vr+1));have an:Hy (jh s2 o x=⟨cl,f,o,j,i,0⟩):=Hd (by rw[PI,T,ZH,ZI,bl];rfl);have aq:Hy (0<=cl/\cl<4):=Hd (by rw[PI];exact (I.o.fj.ok.qc o {x with gw:=true} (by rw[Sf];exact aK)).1);have hf:Hy (i.length<=20):=Hd (by rw[ZH];exact (I.o.fj.ok.qc o {x with gw:=true} (by rw[Sf];exact aK)).2);rw[<- bl]at cV;change CI wr g off x.eI at y0;change CI wr g (off+1) x.eK at y1;change CC wr g (off+2) (.string ⟨x.data.toArray⟩)at y2;rw[<- PI]at y0;rw[<- T]at y1;rw[<- ZH]at y2;have dc:=Hd ZI;clear PI T ZH bl ZI Sf;(go_region_held3 (fun W=>CP W w.heap.size 0 sb 0/\CI W g off cl/\CI W g (off+1) f/\CC W g (off+2) (.string ⟨i.toArray⟩)/\CI W sb (4+o*2+1) vr) (go_keep) (fail));rw[IntWalk.i64_left,<- dc.o];obtain⟨R,hR⟩:=nm wr.heap.size;obtain⟨C,QT⟩:=nm ((wr.alloc (.cells #[VI cl,VI f,VI (o:Int),VI j,.string ⟨i.toArray⟩,VI 0] 124)).drew);rw[<- QT,<- hR];(have Yz:BB wr C:=by rw[QT];exact ((Below.refl _ _).alloc (ax _) _).drew);(have Sj:Has C R (.cells #[VI cl,VI f,VI (o:Int),VI j,.string ⟨i.toArray⟩,VI 0] 124):=by rw[QT,hR];exact (Has.new wr _).drew);have M:=I.o.below Yz;have N:=Hd M;have VL:=Hd Sj;have b3:own1 R=0:=I.o.fj.fr R ab;(have hh:Hy (u5.ownBlock≠some R):=Hd fun e=>by have:=(I.o.msgs.lt R e).2;omega);clear QT Yz b0 cV y0 y1 y2 I dc;have b0:CP C w.heap.size 0 sb 0:=M.box.cell 0;have c3:CP C sb 3 wb 0:=M.fj.cell0 3 _ rfl;have dd:CI C sb 33 s2.gy:=M.fj.jJ 5 _ rfl;have r0:CI C R 0 cl:=Sj.cell 0;have r1:CI C R 1 f:=Sj.cell 1;have r2:CI C R 2 (o:Int):=Sj.cell 2;have r3:CI C R 3 j:=Sj.cell 3;have r4:CC C R 4 (.string ⟨i.toArray⟩):=Sj.cell 4;have r5:CI C R 5 0:=Sj.cell 5;have de:w.heap.size<C.heap.size:=M.box.lt;have b4:sb<C.heap.size:=M.fj.s_.lt;have F:R<C.heap.size:=Sj.lt
        have nA:∀b,(own1 b=0\/own1 b=4)->¬(b=wb\/b=db\/own1 b=2):=fun b hb e=>by
         rcases e with e|e|e
         ·rw[e,M.fj.fF.ow]at hb;omega
         ·rw[e,M.fj.jk]at hb;omega
         omega
        have dq:=nA w.heap.size (.inl M.ob);have b5:=nA sb (.inr M.fj.iL);have G:=nA R (.inl b3);obtain⟨p,hp⟩:=nm (d1.add s2.eX ⟨cl,f,o,j,i,0⟩);obtain⟨m,d2,t⟩:=p;obtain⟨ev,Qx⟩:=nm (iC m);have ds:s2.eX=false:=by rw[Qw.o];exact HD.o
        have Uh:Hy (Calls Tryz.prog 61 #[VP wb 0,.agg #[VI cl,VI f,VI (o:Int),VI j,.string ⟨i.toArray⟩,VI 0],VI s2.gy] C.drew fun e w'=>e=.returned ev/\∃A v2 WW,Ext C.drew own1 A/\eJ (fun g=>g=wb\/g=db\/own1 g=2) C.drew w'/\fC P A w0 w' sb db wb dm tb tm v2 WW Tt d2 {s2 with eX:=t}):=Hd (by
         have key:=Bb C.drew ⟨cl,f,o,j,i,0⟩ s2.gy hf.o aq.o M.drew.fj ds;unfold uF at key;rw[<- hp,<- Qx]at key
         exact key)
        have HP:=Hd hp;have TN:=Hd Qx;clear hp Qx nA ds M Sj hR;(go_upto_region 21 with fail);(go_region_held3 (fun W=>CP W w.heap.size 0 sb 0/\CP W sb 3 wb 0/\CI W sb 33 s2.gy/\CI W R 0 cl/\CI W R 1 f/\CI W R 2 (o:Int)/\CI W R 3 j/\CC W R 4 (.string ⟨i.toArray⟩)/\CI W R 5 0) (first|exact⟨(Su.cell (p:=⟨w.heap.size,0,none⟩) de dq).trans b0,(Su.cell (p:=⟨sb,3,none⟩) b4 b5).trans c3,(Su.cell (p:=⟨sb,33,none⟩) b4 b5).trans dd,(Su.cell (p:=⟨R,0,none⟩) F G).trans r0,(Su.cell (p:=⟨R,1,none⟩) F G).trans r1,(Su.cell (p:=⟨R,2,none⟩) F G).trans r2,(Su.cell (p:=⟨R,3,none⟩) F G).trans r3,(Su.cell (p:=⟨R,4,none⟩) F G).trans r4,(Su.cell (p:=⟨R,5,none⟩) F G).trans r5⟩|go_keep) ((go_at_call 61;refine Uh.o.mono ?_;rintro e W9 ⟨rfl,A,v2,WW,b6,Su,Vj⟩)));have b7:=Hd (N.o.drew.step Su N.o.drew.fj.Bc b6 Vj);have b8:=Hd (Su.has VL.o.drew G);have hi:Hy (A R=0):=Hd ((b6 R F).trans b3);have dz:Hy (Calls Tryz.prog 106 #[ev] W9 fun e w'=>e=.returned (VI m)/\BB W9 w'):=Hd (by rw[TN.o];exact Jy m W9 b7.o.fj.nh);clear N VL Uh b6 Su Vj dq b5 G de b4 F b0 c3 dd r0 r1 r2 r3 r4 r5 b3
        have hj:Hy (m≠14->s1.iE d1 o x rest out=(true,told s1 o x out++[(eA.answer {s2 with eX:=t} m ⟨cl,f,o,j,i,0⟩).1.fG (eA.answer {s2 with eX:=t} m ⟨cl,f,o,j,i,0⟩).2],d2,{ (eA.answer {s2 with eX:=t} m ⟨cl,f,o,j,i,0⟩).1 with fi:=(eA.answer {s2 with eX:=t} m ⟨cl,f,o,j,i,0⟩).1.fi.set o rest})):=Hd fun h=>by
         have e:=an.o;have key:=Bk (d:=d1) (s:=s2) (o:=o) (x:=x) (rest:=rest) (out:=told s1 o x out) (by rw[e,<- HP.o];exact h);rw[e,<- HP.o]at key;rw[Tl.o];exact key
        have hl:Hy (m=14->s1.iE d1 o x rest out=(false,[],d2,{s2 with eX:=t})):=Hd fun h=>by
         have e:=an.o;have key:=Bj (d:=d1) (s:=s2) (o:=o) (x:=x) (rest:=rest) (out:=told s1 o x out) (by rw[e,<- HP.o];exact h);rw[e,<- HP.o]at key;rw[Tl.o];exact key
        have dO:Hy ((told s1 o x out).length+1<=1000000/\(told s1 o x out).length<=out.length+4):=Hd (by
         have h1:(told s1 o x out).length<=out.length+4:=by
          unfold told;split
          ·omega
          rw[aE,aX];have:=uG s1.eW o s1.eB;omega
         have:=HF.o
         omega)
        have WX:Hy ((told s1 o x out).length+1<=1000000):=Hd dO.o.1;clear Tl;(go_upto_block 6 with (go_at_call 106;refine dz.o.mono ?_;rintro e ZJ ⟨rfl,RS⟩));have U:=Hd (b7.o.below RS);have dS:=Hd (b8.o.below RS b8.o.lt);have b0:CP ZJ w.heap.size 0 sb 0:=U.o.box.cell 0;clear b7 b8 dz RS;go_cut [5] (fun q wx=>m≠14/\GM P own A w0 w wx sb db wb dm tb tm v2 WW Tt d2 (eA.answer {s2 with eX:=t} m ⟨cl,f,o,j,i,0⟩).1 q (told s1 o x out++[(eA.answer {s2 with eX:=t} m ⟨cl,f,o,j,i,0⟩).1.fG (eA.answer {s2 with eX:=t} m ⟨cl,f,o,j,i,0⟩).2]) (.slice ua hs.length uc) hs)
        case first =>
         obtain⟨pb,b9⟩:=nm (m==0);have h3:(m==0)=pb:=b9.symm;have Xy:=Hd b9;clear b9
         cases pb with
         |true =>
          (obtain rfl:m=0:=by simpa using Xy.o.symm);obtain⟨H,has⟩:=nm ((eA.jB {s2 with eX:=t} ⟨cl,f,o,j,i,0⟩).1);obtain⟨am,ca⟩:=nm ((eA.jB {s2 with eX:=t} ⟨cl,f,o,j,i,0⟩).2)
          have hx:Hy (Calls Tryz.prog 60 #[VP sb 0,.agg #[VI cl,VI f,VI (o:Int),VI j,.string ⟨i.toArray⟩,VI 0]] ZJ.drew fun e w'=>e=.returned am.val/\fC P A w0 w' sb db wb dm tb tm v2 WW Tt d2 H/\eJ (fun g=>g=sb\/g=dm) ZJ.drew w'):=Hd (by
           rw[has,ca]
           exact A4 ZJ.drew ⟨cl,f,o,j,i,0⟩ o B rfl aq.o U.o.drew.fj)
          have hz:=Hd has;have hA:=Hd ca
          have hB:¬(R=sb\/R=dm):=fun e=>by
           have h0:=hi.o;rcases e with e|e
           ·rw[e,U.o.fj.iL]at h0;cases h0
           rw[e,U.o.fj.km]at h0;cases h0
          clear has ca;(go_upto_region 27 with fail);refine last.iJ (fun W=>CP W w.heap.size 0 sb 0/\Has W R (.cells #[VI cl,VI f,VI (o:Int),VI j,.string ⟨i.toArray⟩,VI 0] 124)) 1000 9 ⟨b0,dS.o⟩ fun HS=>?_;refine last.many [(0,158,_),(1,159,_),(2,160,_),(3,161,_)] HS.o ?_ (hy:=fun D y=>by have e1:=y.1;have e0:CI D R 0 cl:=y.2.cell 0;have f0:CI D R 1 f:=y.2.cell 1;have e2:CI D R 2 (o:Int):=y.2.cell 2;have e3:CI D R 3 j:=y.2.cell 3;have e4:CC D R 4 (.string ⟨i.toArray⟩):=y.2.cell 4;have e5:CI D R 5 0:=y.2.cell 5;repeat (first|exact .z|refine .s ?_|refine .k ?_));refine last.one 4 fun K hK=>?_;go_simp;refine hx.o.mono ?_;rintro e Yb ⟨rfl,dV,cb⟩;have V:=Hd (U.o.drew.step cb U.o.drew.fj.xF (Ext.refl _ _) dV);have ar:Hy ((fun W=>CP W w.heap.size 0 sb 0/\Has W R (.cells #[VI cl,VI f,VI (o:Int),VI j,.string ⟨i.toArray⟩,VI 0] 124)) Yb):=Hd ⟨V.o.box.cell 0,cb.has HS.o.2 hB⟩;refine hK.out _ _ (fun _=>ar.o) ?_;clear hK K HS dV cb;refine last.one 5 fun K hK=>?_;go_simp;refine (qB Yb am V.o.fj).mono ?_;rintro e Xz ⟨rfl,cc⟩;have XA:=Hd (V.o.below cc);have ch:Hy ((fun W=>CP W w.heap.size 0 sb 0/\Has W R (.cells #[VI cl,VI f,VI (o:Int),VI j,.string ⟨i.toArray⟩,VI 0] 124)) Xz):=Hd ⟨XA.o.box.cell 0,ar.o.2.below cc ar.o.2.lt⟩;refine hK.out _ _ (fun _=>ch.o) ?_;clear hK K ar cc;refine last.one 6 fun K hK=>?_;refine A5 (.tmp 163) (H.fG am) rfl rfl ?_;have QL:=(Below.refl Xz.heap.size Xz).alloc (ax _) (.cells (([H.fG am]:List eL).flatMap iS).toArray 93);have Vk:=Hd (XA.o.below QL);have ea:=Hd (fV.new (w:=Xz) (l:=[H.fG am]) ae);have au:Hy ((fun W=>CP W w.heap.size 0 sb 0/\Has W R (.cells #[VI cl,VI f,VI (o:Int),VI j,.string ⟨i.toArray⟩,VI 0] 124)) (Xz.alloc (.cells (([H.fG am]:List eL).flatMap iS).toArray 93))):=Hd ⟨Vk.o.box.cell 0,ch.o.2.alloc _⟩;refine hK.out _ _ (fun _=>au.o) ?_;obtain⟨YQ,eb⟩:=nm (Xz.alloc (.cells (([H.fG am]:List eL).flatMap iS).toArray 93));rw[<- eb]at Vk ea au⊢;clear eb QL hK K ch;refine last.one 7 fun K hK=>?_;refine A6 (.tmp 158) (.tmp 164) Vk.o.fI.size u5 (.slice (some ⟨Xz.heap.size,0,none⟩) 1 1) _ [H.fG am] rfl rfl rfl Vk.o.msgs ea.o ae WX.o _ rfl fun v' ec ee cj eg=>?_;have Wf:=Hd (Vk.o.append ee cj eg);have ei:Hy ((fun W=>CP W w.heap.size 0 sb 0/\Has W R (.cells #[VI cl,VI f,VI (o:Int),VI j,.string ⟨i.toArray⟩,VI 0] 124)) ec):=Hd ⟨Wf.o.box.cell 0,au.o.2.grown cj (fun e=>hh.o e.symm)⟩;refine hK.out _ _ (fun _=>ei.o) ?_;clear hK K au ee cj eg;refine last.many [(8,5,_)] ei.o ?_;refine last.done ?_;(go_wp2_with fail);go_meet
          case rel =>
           refine⟨aj,?_⟩;have e1:(eA.answer {s2 with eX:=t} 0 ⟨cl,f,o,j,i,0⟩).1=H:=hz.o.symm;have e2:(eA.answer {s2 with eX:=t} 0 ⟨cl,f,o,j,i,0⟩).2=am:=hA.o.symm;rw[e1,e2];exact Wf.o
         |false =>
          (have WZ:m≠0:=by simpa using Xy.o.symm);obtain⟨qb,cm⟩:=nm (m==14);have h4:(m==14)=qb:=cm.symm;have ej:=Hd cm;have hC:=Hd WZ;clear cm WZ
          cases qb with
          |true =>
           have HE:Hy (r=([],d2,{s2 with eX:=t})):=Hd (by
            (have VM:m=14:=by simpa using ej.o.symm);rw[VJ.o,uH HQ.o HD.o,hl.o VM]
            rfl)
           (go_wp2_with fail);go_ret;rw[HE.o];exact U.o.post_nil
          |false =>
           (have VM:m≠14:=by simpa using ej.o.symm);have ek:({s2 with eX:=t}:eA).eQ o={x with gw:=true}::rest:=da.o;obtain⟨-,hD,y0,y1,-,-,-⟩:=U.o.fj.xG B ek Z.o;have PI:x.eI=cl:=congrArg Rec.eI an.o;have T:x.eK=f:=congrArg Rec.eK an.o;change CI ZJ g off x.eI at y0;change CI ZJ g (off+1) x.eK at y1;rw[PI]at y0;rw[T]at y1
           have HA:Hy ((eA.answer {s2 with eX:=t} m ⟨cl,f,o,j,i,0⟩)=({ ({s2 with eX:=t}:eA)with done:=put cl ⟨6,cl,f,0,0,o,0,false,[]⟩ s2.done},⟨6,cl,f,0,0,o,0,false,[]⟩)):=Hd (by
            unfold eA.answer;rw[if_neg hC.o]
            rfl)
           clear PI T ek;(go_upto_region 23 with fail);(go_region_held3 (fun W=>CI W g off cl/\CI W g (off+1) f) (go_keep) (fail));obtain⟨J,SZ⟩:=nm ZJ.heap.size;obtain⟨X,a1⟩:=nm ((ZJ.alloc (.cells #[VI 6,VI cl,VI f,VI 0,VI 0,VI (o:Int),VI 0,.bool false,.string ⟨#[]⟩] 93)).drew);rw[<- a1,<- SZ];(have Wg:BB ZJ X:=by rw[a1];exact ((Below.refl _ _).alloc (ax _) _).drew);have cp:Hy (Has X J (.cells #[VI 6,VI cl,VI f,VI 0,VI 0,VI (o:Int),VI 0,.bool false,.string ⟨#[]⟩] 93)):=Hd (by rw[a1,SZ];exact (Has.new ZJ _).drew);have V:=Hd (U.o.below Wg);have hE:Hy (A J=0):=Hd (U.o.fj.fr J ab);(have h5:Hy (u5.ownBlock≠some J):=Hd fun e=>by have:=(U.o.msgs.lt J e).2;omega);clear a1 SZ;have b0:CP X w.heap.size 0 sb 0:=V.o.box.cell 0;have en:CC X sb 28 (.map (some dm)):=V.o.fj.jJ 0 _ rfl;have y0:CI X g off cl:=(Wg.cell (p:=⟨g,off,none⟩) hD).trans y0;clear y1 Wg U;have hF:=Hd (A0 V.o.fj);have Up:Hy (je cl):=Hd (WalkArith.wf_i64 (by have:=aq.o;omega));(go_upto_region 24 with fail);refine last.iJ (fun W=>CP W w.heap.size 0 sb 0/\CC W sb 28 (.map (some dm))/\CI W g off cl/\Has W J (.cells #[VI 6,VI cl,VI f,VI 0,VI 0,VI (o:Int),VI 0,.bool false,.string ⟨#[]⟩] 93)) 9 10 ⟨b0,en,y0,cp.o⟩ fun HS=>?_;refine last.many [(0,141,_),(1,142,_),(2,143,_),(3,144,_),(4,145,_),(5,146,_),(6,147,_),(7,148,_),(8,149,_)] HS.o ?_ (hy:=fun D y=>by have e1:=y.1;have f0:=y.2.1;have f1:=y.2.2.1;have e0:CI D J 0 6:=y.2.2.2.cell 0;have f2:CI D J 1 cl:=y.2.2.2.cell 1;have e2:CI D J 2 f:=y.2.2.2.cell 2;have e3:CI D J 3 0:=y.2.2.2.cell 3;have e4:CI D J 4 0:=y.2.2.2.cell 4;have e5:CI D J 5 (o:Int):=y.2.2.2.cell 5;have e6:CI D J 6 0:=y.2.2.2.cell 6;have e7:CC D J 7 (.bool false):=y.2.2.2.cell 7;have e8:CC D J 8 (.string ⟨#[]⟩):=y.2.2.2.cell 8;repeat (first|exact .z|refine .s ?_|refine .k ?_));refine last.one 9 fun K hK=>?_;refine sE mT (.tmp 144) (.tmp 148) (.tmp 149) rfl rfl V.o.drew.fj.done (by have:=hF.o;unfold maxLen;omega) (k:=cl) (u:=⟨6,cl,f,0,0,(o:Int),0,false,[]⟩) Up.o trivial rfl rfl ?_;intro Xz Wh Wi;refine hK.out _ _ (fun h=>absurd rfl h) ?_;refine last.done ?_;have er:=V.o.drew.fj.A3 cl aq.o _ Wh Wi;have cq:eJ (fun k=>k=dm) X.drew Xz:=⟨Wi.os,Wi.tape,Wi.output,Wi.size,fun k hk hn=>Wi.block k hk (fun e=>hn (by simpa using e))⟩;have XA:=Hd (V.o.drew.step cq (fun k hk e=>V.o.drew.fj.xF k hk (.inr e)) (Ext.refl _ _) er);have hG:=Hd (cq.has cp.o.drew (fun e=>by have h0:=hE.o;rw[e,V.o.fj.km]at h0;cases h0));clear er cq Wh Wi hK K HS cp V b0 en y0;have b0:CP Xz w.heap.size 0 sb 0:=XA.o.box.cell 0
           go_wp2_with (first
            |(refine wpList_load_row rfl 93 (.tmp 15) rfl J rfl 93 _ (0,0) _ hG.o Tryz.underlying93 rfl af ?_)
            |(go_at_call 89;refine (qB _ ⟨6,cl,f,0,0,o,0,false,[]⟩ XA.o.fj).mono ?_;rintro e YQ ⟨rfl,hH⟩;have Vk:=Hd (XA.o.below hH))
            |(refine nk rfl (.tmp 153) (({ ({s2 with eX:=t}:eA)with done:=put cl ⟨6,cl,f,0,0,o,0,false,[]⟩ s2.done}:eA).fG ⟨6,cl,f,0,0,o,0,false,[]⟩) rfl rfl ?_;have Wf:=Hd (Vk.o.below ((Below.refl YQ.heap.size YQ).alloc (ax _) (.cells (([({ ({s2 with eX:=t}:eA)with done:=put cl ⟨6,cl,f,0,0,o,0,false,[]⟩ s2.done}:eA).fG ⟨6,cl,f,0,0,o,0,false,[]⟩]:List eL).flatMap iS).toArray 93)));have ew:=Hd (fV.new (w:=YQ) (l:=[({ ({s2 with eX:=t}:eA)with done:=put cl ⟨6,cl,f,0,0,o,0,false,[]⟩ s2.done}:eA).fG ⟨6,cl,f,0,0,o,0,false,[]⟩]) ae);obtain⟨ec,eE⟩:=nm (YQ.alloc (.cells (([({ ({s2 with eX:=t}:eA)with done:=put cl ⟨6,cl,f,0,0,o,0,false,[]⟩ s2.done}:eA).fG ⟨6,cl,f,0,0,o,0,false,[]⟩]:List eL).flatMap iS).toArray 93));rw[<- eE]at Wf ew⊢;clear eE Vk)
            |(refine rC rfl (.tmp 150) (.tmp 154) Wf.o.fI.size u5 (.slice (some ⟨YQ.heap.size,0,none⟩) 1 1) _ [({ ({s2 with eX:=t}:eA)with done:=put cl ⟨6,cl,f,0,0,o,0,false,[]⟩ s2.done}:eA).fG ⟨6,cl,f,0,0,o,0,false,[]⟩] rfl rfl rfl Wf.o.msgs ew.o ae WX.o fun v' h6 Wj eR eT=>?_;have hI:=Hd (Wf.o.append Wj eR eT);clear Wj eR eT))
           go_meet
           case rel =>
            refine⟨VM,?_⟩;rw[HA.o];exact hI.o
        case rest =>
         obtain⟨hJ,V6⟩:=hcut;have eV:=Hd (hj.o hJ);obtain⟨H,a6⟩:=nm ((eA.answer {s2 with eX:=t} m ⟨cl,f,o,j,i,0⟩).1);obtain⟨XB,PZ⟩:=nm (told s1 o x out++[(eA.answer {s2 with eX:=t} m ⟨cl,f,o,j,i,0⟩).1.fG (eA.answer {s2 with eX:=t} m ⟨cl,f,o,j,i,0⟩).2]);rw[<- PZ,<- a6]at V6
         have fb:H.eQ o={x with gw:=true}::rest:=by
          (have:H.fi=s2.fi:=by rw[a6];exact Bl _ _ _);unfold eA.eQ;rw[this];exact da.o
         have hM:Hy (o<H.fi.length):=Hd (by rw[V6.fj.nq];exact B);have fm:Hy (Tt.getD o undef=.slice (some ⟨g,off,none⟩) n cap):=Hd (by rw[HN.o];exact Z.o);have fo:=Hd V6;have fs:=Hd (V6.drew.fj.pop B fb fm.o)
         have hN:Hy (XB.length<=out.length+5):=Hd (by
          rw[PZ,aE];have:=dO.o.2;simp
          omega)
         have hP:Hy (r=eA.iu (rest.length+1) d2 {H with fi:=H.fi.set o rest} o XB):=Hd (by
          rw[VJ.o,uH HQ.o HD.o,eV.o,HQ.o,<- PZ,<- a6]
          rfl)
         have b0:CP wc w.heap.size 0 sb 0:=V6.box.cell 0;(have Tv:wc.cell? ⟨sb,20+o,none⟩=some (.slice (some ⟨g,off,none⟩) n cap):=by rw[V6.fj.kh o B,fm.o]);have f20:=V6.fj.s_.frozen (20+o);have hS:(1:Int)<=(n:Int):=ab;clear V6 fb a6 PZ eV U dS;(go_upto_region 30 with fail);refine last.iJ (fun W=>CP W w.heap.size 0 sb 0/\CC W sb (20+o) (.slice (some ⟨g,off,none⟩) n cap)/\W.frozen? ⟨sb,20+o,none⟩=false) 12 13 ⟨b0,Tv,f20⟩ fun HS=>?_;refine last.many [(0,168,_),(1,169,_),(2,170,_),(3,171,_),(4,172,_),(5,173,_),(6,174,_),(7,175,_)] HS.o ?_ (hy:=fun D y=>by have e1:=y.1;have f0:=y.2.1;repeat (first|exact .z|refine .s ?_|refine .k ?_));refine last.qw 8 176 (nN g off n cap) rfl rfl af af af af (fun _ _ _ h=>h) HS.o ai (fun D y=>by have e9:=n1;have e8:=hS;(unfold nN;go_simp)) ?_;dsimp only[List.set];refine last.one 9 fun K hK=>?_;go_simp;refine hK.out _ _ (fun _=>HS.o) ?_;clear hK K;refine last.one 10 fun K hK=>?_;go_simp;refine hK.out _ _ (fun _=>HS.o) ?_;clear hK K;refine last.many [(11,179,_)] HS.o ?_;refine last.one 12 fun K hK=>?_;unfold nN;go_simp;refine hK.out _ _ (fun h=>absurd rfl h) ?_;refine last.done ?_;(go_wp2_with fail);have fv:=Hd (fo.o.drew.step fs.o.2 (fun k hk e=>fo.o.drew.fj.xF k hk (.inl e)) (Ext.refl _ _) fs.o.1);have cv:Hy (({H with fi:=H.fi.set o rest}:eA).eQ o=rest):=Hd (by rw[ph H o o rest hM.o,if_pos rfl]);go_roundw
         case rel =>
          refine⟨_,_,_,_,_,_,_,⟨fv.o.free,?_,?_⟩⟩
          ·rw[cv.o];have h1:=HF.o;rw[HQ.o]at h1;have h2:=hN.o;simp only[aL]at h1;omega
          rw[cv.o];exact hP.o
         case measure =>
          rw[gb.o,HQ.o];refine Nat.lt_of_le_of_lt (cZ ((fv.o.fj.lenOf B).trans (congrArg List.length cv.o))) ?_;simp
end
end fj
end Go.Proofs.YtjhdaojclilakaaGreatDoor
