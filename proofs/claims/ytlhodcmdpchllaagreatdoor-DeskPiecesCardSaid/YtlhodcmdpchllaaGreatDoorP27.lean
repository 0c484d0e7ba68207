/-
  A part of the proof of the law DeskPieces: SrvN.
-/
import Derived.Deep.DeepCutAuto
import Derived.Deep.CutBlock
import Derived.Test.YtlhodcmdpchllaaGreatDoorHd
import Derived.Test.YtlhodcmdpchllaaGreatDoorP26
set_option maxHeartbeats 16000000
set_option maxRecDepth 1000000
namespace Go.Proofs.YtlhodcmdpchllaaGreatDoor
namespace dR
open Go.RowKit heap own dK eO fq dZ fD eK
open dI (Rec dW fE Wr dC eY eA eG ez put del)
section
variable {P:Lib.PrintTabs} {own:Nat->Nat} {w0:World} {sb db wb dm tb tm:Nat} {v:Value} {ps:List ByteArray} {qs:List Value} {d:dW} {s:dC}
def gj (P:Lib.PrintTabs) (own:Nat->Nat) (w0 w:World) (sb db wb dm tb tm:Nat) (r:List dH×dW×dC) (e:Ending) (w':World):Prop:=
 ∃u own1 v1 OL NX,e=.returned u/\Ext w own own1/\eE w.heap.size w' u r.1/\eh P own1 w0 w' sb db wb dm tb tm v1 OL NX r.2.1 r.2.2/\dD (ey own) w w'
structure GL (P:Lib.PrintTabs) (own own1:Nat->Nat) (w0 w wr:World) (sb db wb dm tb tm:Nat) (v:Value) (ps:List ByteArray) (qs:List Value) (d:dW) (s:dC) (q:Value) (out:List dH) (o:Nat) (r:List dH×dW×dC):Prop where
 gm:GM P own own1 w0 w wr sb db wb dm tb tm v ps qs d s q out (.slice none 0 0) []
 ft:out.length+5*(s.dX o).length<=100
 go:r=dC.jd ((s.dX o).length+1) d s o out
theorem GM.post {own1:Nat->Nat} {w wr:World} {q uh:Value} {out:List dH} {hs:List Int} (h:GM P own own1 w0 w wr sb db wb dm tb tm v ps qs d s q out uh hs):gj P own w0 w sb db wb dm tb tm (out,d,s) (.returned q) wr:=
 ⟨q,own1,v,ps,qs,rfl,h.ext,h.msgs,h.dR,h.er⟩
theorem GM.post_nil {own1:Nat->Nat} {w wr:World} {q uh:Value} {out:List dH} {hs:List Int} (h:GM P own own1 w0 w wr sb db wb dm tb tm v ps qs d s q out uh hs):gj P own w0 w sb db wb dm tb tm ([],d,s) (.returned (.slice none 0 0)) wr:=
 ⟨_,own1,v,ps,qs,rfl,h.ext,eE.nil _ _,h.dR,h.er⟩
theorem tA (w:World) (o:Nat) (ho:o<8) (h:eh P own w0 w sb db wb dm tb tm v ps qs d s) :
 Calls Tryz.prog 168 #[.pointer (some ⟨sb,0,none⟩),.int .i64 o] w (gj P own w0 w sb db wb dm tb tm (dC.fA d s o)):=by
 obtain⟨r,hr⟩:∃r,r=dC.fA d s o:=⟨_,rfl⟩;(have M5:(o:Int)<8:=by omega);obtain⟨W1,Kh⟩:∃W1,W1=w.alloc (.cells #[.pointer (some ⟨sb,0,none⟩)] 65):=⟨_,rfl⟩
 have HL1:Hy (GL P own own w0 w W1 sb db wb dm tb tm v ps qs d s (.slice none 0 0) [] o r):=Hd (by
  rw[Kh]
  exact⟨GM.start h,by have:=h.ok.ql o;simp;omega,hr⟩)
 rw[<- hr];clear hr h;(go_enter Tryz.func168,Tryz.ntmps168);(go_upto_region 2 with fail);rw[<- Kh];clear Kh;(go_loopw [5] (fun q5 wr=>∃own1 v1 OL NX d1 s1 out,GL P own own1 w0 w wr sb db wb dm tb tm v1 OL NX d1 s1 q5 out o r) (fun _ wr=>lenOf sb o wr));case atStart=>exact⟨_,_,_,_,_,_,_,HL1.o⟩
 case round =>
  clear HL1;obtain⟨own1,v1,OL,NX,d1,s1,out,hL⟩:=hrel;have HL:=Hd hL;have HF:=Hd hL.ft;have QP:=Hd hL.go;have HG:=Hd hL.gm;have b0:wr.cell? ⟨w.heap.size,0,none⟩=some (.pointer (some ⟨sb,0,none⟩)):=hL.gm.box.cell 0;have Tm:=Hd (hL.gm.dR.lenOf ho);have NM:=Hd (qT wr hL.gm.dR);clear hL
  cases Na:s1.dX o with
  |nil =>
   as_aux_lemma =>
    have HE:Hy (r=(out,d1,s1)):=Hd (by rw[QP.o];exact xy Na);obtain⟨qa,qc,hq,-,-⟩:=(HG.o.dR.dX o ho).slice;(have c20:wr.cell? ⟨sb,20+o,none⟩=some (.slice qa 0 qc):=by rw[HG.o.dR.ik o ho,hq,Na];rfl);clear hq Na;(go_wp2_with fail);go_ret;rw[HE.o];exact HG.o.post
  |cons x rest =>
   have HQ:=Hd Na;obtain⟨g,off,cap,hq,-⟩:=HG.o.dR.first ho Na;(have c20:wr.cell? ⟨sb,20+o,none⟩=some (.slice (some ⟨g,off,none⟩) (rest.length+1) cap):=by rw[HG.o.dR.ik o ho,hq]);have Y9:=Hd hq;obtain⟨n,hn⟩:∃n,n=rest.length+1:=⟨_,rfl⟩;rw[<- hn]at c20;(have n0:(0:Int)<(n:Int):=by omega);have n0':decide ((0:Int)<(n:Int))=true:=decide_eq_true n0;(have n1:0<n:=by omega);have HN:=Hd hn;clear hq Na hn
   cases hd:s1.dU with
   |true =>
    as_aux_lemma =>
     have HE:Hy (r=(out,d1,s1)):=Hd (by rw[QP.o];exact xz hd);rw[hd]at NM;clear hd;(go_wp2_with (go_at_call 157;refine NM.o.mono ?_;rintro e w' ⟨rfl,rfl⟩));go_ret;rw[HE.o];exact HG.o.post
   |false =>
    have HD:=Hd hd;rw[hd]at NM;clear hd;(go_upto_region 4 with (go_at_call 157;refine NM.o.mono ?_;rintro e w' ⟨rfl,rfl⟩));clear c20 NM;have Qf:wr.cell? ⟨sb,29,none⟩=some (.pointer (some ⟨tb,0,none⟩)):=HG.o.dR.gQ 1 _ rfl;have Re:wr.cell? ⟨sb,32,none⟩=some (.int .i64 s1.dE):=HG.o.dR.gQ 4 _ rfl;have HH:=Hd (vI o s1.dE HG.o.dR.eo.drew);obtain⟨hs,VX⟩:∃hs,hs=s1.eo.gr o s1.dE:=⟨_,rfl⟩;rw[<- VX]at HH;have XL:=Hd VX;clear VX;have Kg:sb<wr.heap.size:=HG.o.dR.s_.lt;have Za:w.heap.size<wr.heap.size:=HG.o.box.lt;(go_region_held3 (fun W=>W.cell? ⟨w.heap.size,0,none⟩=some (.pointer (some ⟨sb,0,none⟩))/\W.cell? ⟨sb,29,none⟩=some (.pointer (some ⟨tb,0,none⟩))/\W.cell? ⟨sb,32,none⟩=some (.int .i64 s1.dE)) (first|exact⟨(OY.cell (p:=⟨w.heap.size,0,none⟩) Za).trans b0,(OY.cell (p:=⟨sb,29,none⟩) Kg).trans Qf,(OY.cell (p:=⟨sb,32,none⟩) Kg).trans Re⟩|go_keep) ((go_at_call 192;refine HH.o.mono ?_;rintro e W4 ⟨uh,rfl,Y7,OY⟩)));have Lq:=HG.o.drew.hold OY Y7;obtain⟨hog,Mi,-,-,-,z3,f3⟩:=Lq.dR.tz ho HQ.o Y9.o;have Tn:=Hd Lq;have HSQ:=Hd Lq.dR.nq;clear HH Kg Za Qf Re b0 Y7 OY Lq HG HL;obtain⟨x3,Nb⟩:∃x3,x3=x.gC:=⟨_,rfl⟩;rw[<- Nb]at z3;have L7:=Hd Nb;clear Nb;(go_upto_if 50 with fail);obtain⟨y3,Zb⟩:∃y3,y3=!x3:=⟨_,rfl⟩;rw[<- Zb];have Nb:=L7.o;go_cut [5] (fun q wx=>GM P own own1 w0 w wx sb db wb dm tb tm v1 OL NX d1 (fI s1 o x rest) q (told s1 o x out) uh hs)
    case first =>
     cases y3 with
     |false =>
      (have Ps:x.gC=true:=by rw[<- Nb];cases x3 with|true=>rfl|false=>cases Zb);have HT:Hy (told s1 o x out=out):=Hd (by unfold told;rw[Ps];rfl);have HB:Hy (fI s1 o x rest=s1):=Hd (Ed (by rw[HSQ.o];exact ho) HQ.o Ps);clear Nb Ps Zb f3 z3;(go_wp2_with fail);go_meet;case rel=>rw[HT.o,HB.o];exact Tn.o
     |true =>
      (have Ps:x.gC=false:=by rw[<- Nb];cases x3 with|false=>rfl|true=>cases Zb);have HT:Hy (told s1 o x out=out++hs.map fun c=>(fI s1 o x rest).gv c o):=Hd (by unfold told;rw[Ps,XL.o];rfl);have RN:=Tn.o.dR.gC ho HQ.o Y9.o;have Ni:=Hd (Tn.o.step RN.2 (fun k _ hk=>⟨by omega,by omega⟩) (Ext.refl _ _) RN.1)
      have UZ:∃a c,uh=.slice a hs.length c:=by
       rcases Tn.o.row.2 with⟨e,h0⟩|⟨g,cap,cur,e,-⟩
       ·exact⟨none,0,by rw[e,aP h0];rfl⟩
       exact⟨_,_,e⟩
      obtain⟨ua,uc,rfl⟩:=UZ;(have hh4:hs.length<=4:=by rw[XL.o];exact q9 _ _ _);obtain⟨sg,hsg⟩:∃sg,sg=fI s1 o x rest:=⟨_,rfl⟩;rw[<- hsg]at Ni HT;have HSG:=Hd hsg;have VZ:Hy (out.length<=100):=Hd (by have:=HF.o;omega);clear Nb Ps Zb RN Tn hsg;(go_upto_region 8 with fail);obtain⟨W5,Mj⟩:∃W5,W5=W4.setCell ⟨g,off+3,none⟩ (.bool true):=⟨_,rfl⟩;rw[<- Mj]at Ni⊢;clear Mj z3 f3;(go_loopw [56,5] (fun q56 q5 wx=>∃k:Nat,k<=hs.length/\q56=.int .i64 k/\GM P own own1 w0 w wx sb db wb dm tb tm v1 OL NX d1 sg q5 (out++(hs.take k).map fun c=>sg.gv c o) (.slice ua hs.length uc) hs) (fun q56 _ _=>hs.length-(intOf q56).toNat));case atStart=>exact⟨0,by omega,rfl,by rw[List.take_zero,bJ,cw];exact Ni.o⟩
      case round =>
       clear Ni;obtain⟨k,hk,rfl,hg⟩:=hrel;have U7:=Hd hg;by_cases Ks:k<hs.length
       ·have KZ:hs[k]?=some hs[k]:=ax Ks;generalize hs[k]=c at KZ;obtain⟨gu,cu,hu,UZ,zk⟩:=qX hg.row KZ;simp only[Value.slice.injEq]at hu;obtain⟨rfl,-,rfl⟩:=hu
        have Zc:Hy (out++(hs.take (k+1)).map (fun c=>sg.gv c o)=(out++(hs.take k).map fun c=>sg.gv c o)++[sg.gv c o]):=Hd (by
         rw[bo,KZ]
         simp)
        have Lm:(out++(hs.take k).map fun c=>sg.gv c o).length+1<=1000000:=by
         rw[aA,aS];have:=List.length_take_le k hs;have:=VZ.o;omega
        have KM:=Hd Lm;have kc0:wr.cell? ⟨w.heap.size,0,none⟩=some (.pointer (some ⟨sb,0,none⟩)):=hg.box.cell 0;clear hg KZ Lm
        go_wp2_with (first
         |(go_at_call 193;refine (wZ _ c o ho U7.o.dR).mono ?_;rintro e w6 ⟨rfl,LG⟩;have TW:=Hd (U7.o.below LG))
         |(refine kU rfl (.tmp 64) (sg.gv c o) rfl rfl ?_;have PU:=Hd (TW.o.below ((Below.refl w6.heap.size w6).alloc (aq _) (.cells (([sg.gv c o]:List dH).flatMap fT).toArray 109)));have NK:=Hd (eE.new (w:=w6) (l:=[sg.gv c o]) (by simp));obtain⟨w7,O6⟩:∃w7,w7=w6.alloc (.cells (([sg.gv c o]:List dH).flatMap fT).toArray 109):=⟨_,rfl⟩;rw[<- O6]at PU NK⊢;clear O6 TW)
         |(refine pj rfl (.tmp 60) (.tmp 65) PU.o.er.size u5 (.slice (some ⟨w6.heap.size,0,none⟩) 1 1) _ [sg.gv c o] rfl rfl rfl PU.o.msgs NK.o (by simp) KM.o fun v' w8 RM Ow V1=>?_;have TX:=Hd (PU.o.append RM Ow V1);clear RM Ow V1))
        go_roundw;(case rel=>exact⟨k+1,by omega,by go_num,by rw[Zc.o];exact TX.o⟩);case measure=>simp[intOf];omega
       (obtain rfl:k=hs.length:=by omega);have XM:Hy (told s1 o x out=out++(hs.take hs.length).map fun c=>sg.gv c o):=Hd (by rw[HT.o,bp]);(go_wp2_with fail);go_meet;case rel=>rw[XM.o,<- HSG.o];exact U7.o
    case rest =>
     have OZ:=Hd hcut;have Za:w.heap.size<wc.heap.size:=hcut.box.lt;have Kg:sb<wc.heap.size:=hcut.dR.s_.lt;have b0:wc.cell? ⟨w.heap.size,0,none⟩=some (.pointer (some ⟨sb,0,none⟩)):=hcut.box.cell 0;have c31:wc.cell? ⟨sb,31,none⟩=some (.int .i64 s1.quiet):=hcut.dR.gQ 3 _ rfl;have Re:wc.cell? ⟨sb,32,none⟩=some (.int .i64 s1.dE):=hcut.dR.gQ 4 _ rfl;clear hcut L7 z3 f3 Tn;(go_upto_region 13 with fail);obtain⟨b1,Kd⟩:∃b1,b1=decide (s1.dE<s1.quiet):=⟨_,rfl⟩;have e1:decide (s1.dE<s1.quiet)=b1:=Kd.symm;obtain⟨b2,Ke⟩:∃b2,b2=hs.any fun c=>s1.eo.iJ c s1.dE:=⟨_,rfl⟩;have hl4:hs.length<=1000:=by rw[XL.o];exact az (q9 _ _ _) (by decide)
     have HCI:Hy (Calls Tryz.prog 201 #[uh,.func (.func 199) #[] #[.pointer (some ⟨w.heap.size,0,none⟩)]] wc.drew fun e w'=>e=.returned (.bool b2)/\Below wc.drew.heap.size wc.drew w'):=Hd (by
      rw[Ke]
      exact D2 (s:=fI s1 o x rest) wc.drew w.heap.size uh hs hl4 w.heap.size OZ.o.drew.row OZ.o.drew.box OZ.o.drew.dR)
     have HW:Hy ((b1||b2)=true->r=(told s1 o x out,d1,fI s1 o x rest)):=Hd fun h=>by
      rw[QP.o,rf HQ.o HD.o,xA (by rw[<- XL.o,<- Kd,<- Ke];exact h)];rfl
     have Zd:Hy ((b1||b2)=false->r=dC.jd ((s1.dX o).length+1) d1 s1 o out/\s1.jA d1 o x rest out=dC.store d1 {fI s1 o x rest with eo:=dI.lY s1.eo hs} o x rest (told s1 o x out)):=Hd fun h=>by
      refine⟨QP.o,?_⟩;rw[xB (by rw[<- XL.o,<- Kd,<- Ke];exact h),<- XL.o]
     clear Kd Ke QP
     cases b1 with
     |true =>
      as_aux_lemma =>
       (go_quiet (fail));(go_wp2_with fail);go_ret;rw[HW.o rfl];exact (OZ.o.drewN nq).post
     |false =>
      (go_region_held3 (fun W=>W.cell? ⟨w.heap.size,0,none⟩=some (.pointer (some ⟨sb,0,none⟩))/\W.cell? ⟨sb,31,none⟩=some (.int .i64 s1.quiet)/\W.cell? ⟨sb,32,none⟩=some (.int .i64 s1.dE)) (first|exact⟨(OY.cell (p:=⟨w.heap.size,0,none⟩) Za).trans b0,(OY.cell (p:=⟨sb,31,none⟩) Kg).trans c31,(OY.cell (p:=⟨sb,32,none⟩) Kg).trans Re⟩|go_keep) ((go_at_call 201;refine HCI.o.mono ?_;rintro e W6 ⟨rfl,OY⟩)));have TW:=Hd (OZ.o.drew.below OY);clear OZ HCI OY b0 c31 Re e1
      cases b2 with
      |true =>
       as_aux_lemma =>
        (go_wp2_with fail);go_ret;rw[HW.o rfl];exact TW.o.post
      |false =>
       obtain⟨Ze,KU⟩:=Zd.o rfl;have QP:=Hd Ze;have NL:=Hd KU;clear Ze KU Zd HW
       have UZ:∃a c,uh=.slice a hs.length c:=by
        rcases TW.o.row.2 with⟨e,h0⟩|⟨g,cap,cur,e,-⟩
        ·exact⟨none,0,by rw[e,aP h0];rfl⟩
        exact⟨_,_,e⟩
       obtain⟨ua,uc,rfl⟩:=UZ;(go_upto_region 16 with fail);(go_loopw [86] (fun q86 wx=>∃k:Nat,k<=hs.length/\q86=.int .i64 k/\GM P own own1 w0 w wx sb db wb dm tb tm v1 OL NX d1 {fI s1 o x rest with eo:=dI.lY s1.eo (hs.take k)} u5 (told s1 o x out) (.slice ua hs.length uc) hs) (fun q86 _=>hs.length-(intOf q86).toNat));case atStart=>exact⟨0,by omega,rfl,TW.o⟩
       case round =>
        clear TW;obtain⟨k,hk,rfl,hg⟩:=hrel;have U7:=Hd hg;by_cases Ks:k<hs.length
        ·
         as_aux_lemma =>
          have KZ:hs[k]?=some hs[k]:=ax Ks;generalize hs[k]=c at KZ;obtain⟨gu,cu,hu,UZ,zk⟩:=qX hg.row KZ;simp only[Value.slice.injEq]at hu;obtain⟨rfl,-,rfl⟩:=hu
          have Zc:Hy (dI.lY s1.eo (hs.take (k+1))=((dI.lY s1.eo (hs.take k)).flush c).2):=Hd (by
           rw[bo,KZ];unfold dI.lY;rw[List.foldl_append]
           rfl)
          have kc0:wr.cell? ⟨w.heap.size,0,none⟩=some (.pointer (some ⟨sb,0,none⟩)):=hg.box.cell 0;have kc29:wr.cell? ⟨sb,29,none⟩=some (.pointer (some ⟨tb,0,none⟩)):=hg.dR.gQ 1 _ rfl;clear hg KZ;(go_wp2_with (go_at_call 202;refine (Eb _ c U7.o.dR).mono ?_;rintro e w6 ⟨uf,rfl,hs6,MI⟩));have TX:=Hd (U7.o.step MI U7.o.dR.tr (Ext.refl _ _) hs6);go_roundw;(case rel=>exact⟨k+1,by omega,by go_num,by rw[Zc.o];exact TX.o⟩);case measure=>simp[intOf];omega
        (obtain rfl:k=hs.length:=by omega);rw[bp]at hg;obtain⟨s2,KY⟩:∃s2,s2={fI s1 o x rest with eo:=dI.lY s1.eo hs}:=⟨_,rfl⟩;rw[<- KY]at hg NL;have Kq:=Hd KY;have PU:=Hd hg;clear hg U7 KY;(go_upto_region 20 with fail);(have NF:s2.dX o={x with gC:=true}::rest:=by rw[Kq.o];exact Ee (by rw[HSQ.o];exact ho));obtain⟨-,hgl2,y0,y1,y2,-,-⟩:=PU.o.dR.tz ho NF Y9.o;have HQ2:=Hd NF;have b0:wr.cell? ⟨w.heap.size,0,none⟩=some (.pointer (some ⟨sb,0,none⟩)):=PU.o.box.cell 0;have cV:wr.cell? ⟨sb,4+o*2+1,none⟩=some (.int .i64 (s2.value o).dY):=(PU.o.dR.nh o ho).2;have Kg:sb<wr.heap.size:=PU.o.dR.s_.lt;have Za:w.heap.size<wr.heap.size:=PU.o.box.lt;obtain⟨cl,KW⟩:∃cl,cl=x.dL:=⟨_,rfl⟩;obtain⟨nu,XN⟩:∃nu,nu=x.dN:=⟨_,rfl⟩;obtain⟨xd,V2⟩:∃xd,xd=x.data:=⟨_,rfl⟩;obtain⟨vr,TY⟩:∃vr,vr=(s2.value o).dY:=⟨_,rfl⟩;obtain⟨vv,Mk⟩:∃vv,vv=wrap64 (vr+1):=⟨_,rfl⟩;have TZ:Hy (fV s2 o x=⟨cl,nu,o,vv,xd,0⟩):=Hd (by rw[KW,XN,V2,Mk,TY];rfl);have XO:Hy (0<=cl/\cl<4):=Hd (by rw[KW];exact (PU.o.dR.ok.qc o {x with gC:=true} (by rw[NF];exact bt)).1);have HXD:Hy (xd.length<=20):=Hd (by rw[V2];exact (PU.o.dR.ok.qc o {x with gC:=true} (by rw[NF];exact bt)).2);rw[<- TY]at cV;change wr.cell? ⟨g,off,none⟩=some (.int .i64 x.dL)at y0;change wr.cell? ⟨g,off+1,none⟩=some (.int .i64 x.dN)at y1;change wr.cell? ⟨g,off+2,none⟩=some (.string ⟨x.data.toArray⟩)at y2;rw[<- KW]at y0;rw[<- XN]at y1;rw[<- V2]at y2;have HVV:=Hd Mk;clear KW XN V2 TY Mk NF;(go_region_held3 (fun W=>W.cell? ⟨w.heap.size,0,none⟩=some (.pointer (some ⟨sb,0,none⟩))/\W.cell? ⟨g,off,none⟩=some (.int .i64 cl)/\W.cell? ⟨g,off+1,none⟩=some (.int .i64 nu)/\W.cell? ⟨g,off+2,none⟩=some (.string ⟨xd.toArray⟩)/\W.cell? ⟨sb,4+o*2+1,none⟩=some (.int .i64 vr)) (go_keep) (fail));rw[IntWalk.i64_left,<- HVV.o];obtain⟨R,hR⟩:∃R,R=wr.heap.size:=⟨_,rfl⟩;obtain⟨W8,LD⟩:∃W8,W8=(wr.alloc (.cells #[.int .i64 cl,.int .i64 nu,.int .i64 (o:Int),.int .i64 vv,.string ⟨xd.toArray⟩,.int .i64 0] 107)).drew:=⟨_,rfl⟩;rw[<- LD,<- hR];(have UY:Below wr.heap.size wr W8:=by rw[LD];exact ((Below.refl _ _).alloc (aq _) _).drew);(have MS:Has W8 R (.cells #[.int .i64 cl,.int .i64 nu,.int .i64 (o:Int),.int .i64 vv,.string ⟨xd.toArray⟩,.int .i64 0] 107):=by rw[LD,hR];exact (Has.new wr _).drew);have Ow:=PU.o.below UY;have TX:=Hd Ow;have PV:=Hd MS;have hor:own1 R=0:=PU.o.dR.fr R (by omega);(have HRX:Hy (u5.ownBlock≠some R):=Hd fun e=>by have:=(PU.o.msgs.lt R e).2;omega);clear LD UY b0 cV y0 y1 y2 PU HVV;have b0:W8.cell? ⟨w.heap.size,0,none⟩=some (.pointer (some ⟨sb,0,none⟩)):=Ow.box.cell 0;have c3:W8.cell? ⟨sb,3,none⟩=some (.pointer (some ⟨wb,0,none⟩)):=Ow.dR.cell0 3 _ rfl;have c33:W8.cell? ⟨sb,33,none⟩=some (.int .i64 s2.fa):=Ow.dR.gQ 5 _ rfl;have r0:W8.cell? ⟨R,0,none⟩=some (.int .i64 cl):=MS.cell 0;have r1:W8.cell? ⟨R,1,none⟩=some (.int .i64 nu):=MS.cell 1;have r2:W8.cell? ⟨R,2,none⟩=some (.int .i64 (o:Int)):=MS.cell 2;have r3:W8.cell? ⟨R,3,none⟩=some (.int .i64 vv):=MS.cell 3;have r4:W8.cell? ⟨R,4,none⟩=some (.string ⟨xd.toArray⟩):=MS.cell 4;have r5:W8.cell? ⟨R,5,none⟩=some (.int .i64 0):=MS.cell 5;have lbx:w.heap.size<W8.heap.size:=Ow.box.lt;have lsb:sb<W8.heap.size:=Ow.dR.s_.lt;have U9:R<W8.heap.size:=MS.lt
        have nA:∀b,(own1 b=0\/own1 b=4)->¬(b=wb\/b=db\/own1 b=2):=fun b hb e=>by
         rcases e with e|e|e
         ·rw[e,Ow.dR.dZ.ow]at hb;omega
         ·rw[e,Ow.dR.gq]at hb;omega
         omega
        have nbx:=nA w.heap.size (.inl Ow.ob);have nsb:=nA sb (.inr Ow.dR.fJ);have Va:=nA R (.inl hor);obtain⟨p,hp⟩:∃p,p=d1.add s2.dU ⟨cl,nu,o,vv,xd,0⟩:=⟨_,rfl⟩;obtain⟨pe,d2,dn⟩:=p;obtain⟨ev,Lw⟩:∃ev,ev=fx pe:=⟨_,rfl⟩;have hd2:s2.dU=false:=by rw[Kq.o];exact HD.o
        have Ov:Hy (Calls Tryz.prog 58 #[.pointer (some ⟨wb,0,none⟩),.agg #[.int .i64 cl,.int .i64 nu,.int .i64 (o:Int),.int .i64 vv,.string ⟨xd.toArray⟩,.int .i64 0],.int .i64 s2.fa] W8.drew fun e w'=>e=.returned ev/\∃own2 v2 QN,Ext W8.drew own1 own2/\dD (fun g=>g=wb\/g=db\/own1 g=2) W8.drew w'/\eh P own2 w0 w' sb db wb dm tb tm v2 QN NX d2 {s2 with dU:=dn}):=Hd (by
         have key:=xu W8.drew ⟨cl,nu,o,vv,xd,0⟩ s2.fa HXD.o XO.o Ow.drew.dR hd2;unfold qZ at key;rw[<- hp,<- Lw]at key
         exact key)
        have HP:=Hd hp;have QQ:=Hd Lw;clear hp Lw nA hd2 Ow MS hR;(go_upto_region 21 with fail);(go_region_held3 (fun W=>W.cell? ⟨w.heap.size,0,none⟩=some (.pointer (some ⟨sb,0,none⟩))/\W.cell? ⟨sb,3,none⟩=some (.pointer (some ⟨wb,0,none⟩))/\W.cell? ⟨sb,33,none⟩=some (.int .i64 s2.fa)/\W.cell? ⟨R,0,none⟩=some (.int .i64 cl)/\W.cell? ⟨R,1,none⟩=some (.int .i64 nu)/\W.cell? ⟨R,2,none⟩=some (.int .i64 (o:Int))/\W.cell? ⟨R,3,none⟩=some (.int .i64 vv)/\W.cell? ⟨R,4,none⟩=some (.string ⟨xd.toArray⟩)/\W.cell? ⟨R,5,none⟩=some (.int .i64 0)) (first|exact⟨(MC.cell (p:=⟨w.heap.size,0,none⟩) lbx nbx).trans b0,(MC.cell (p:=⟨sb,3,none⟩) lsb nsb).trans c3,(MC.cell (p:=⟨sb,33,none⟩) lsb nsb).trans c33,(MC.cell (p:=⟨R,0,none⟩) U9 Va).trans r0,(MC.cell (p:=⟨R,1,none⟩) U9 Va).trans r1,(MC.cell (p:=⟨R,2,none⟩) U9 Va).trans r2,(MC.cell (p:=⟨R,3,none⟩) U9 Va).trans r3,(MC.cell (p:=⟨R,4,none⟩) U9 Va).trans r4,(MC.cell (p:=⟨R,5,none⟩) U9 Va).trans r5⟩|go_keep) ((go_at_call 58;refine Ov.o.mono ?_;rintro e W9 ⟨rfl,own2,v2,QN,he9,MC,Pt⟩)));have HG9:=Hd (TX.o.drew.step MC TX.o.drew.dR.xw he9 Pt);have V3:=Hd (MC.has PV.o.drew Va);have HOR:Hy (own2 R=0):=Hd ((he9 R U9).trans hor);have HTL:Hy (Calls Tryz.prog 26 #[ev] W9 fun e w'=>e=.returned (.int .i64 pe)/\Below W9.heap.size W9 w'):=Hd (by rw[QQ.o];exact Ea pe W9 HG9.o.dR.kg);clear TX PV Ov he9 MC Pt nbx nsb Va lbx lsb U9 b0 c3 c33 r0 r1 r2 r3 r4 r5 hor
        have ady:Hy (pe≠14->s1.jA d1 o x rest out=(true,told s1 o x out++[(dC.answer {s2 with dU:=dn} pe ⟨cl,nu,o,vv,xd,0⟩).1.eL (dC.answer {s2 with dU:=dn} pe ⟨cl,nu,o,vv,xd,0⟩).2],d2,{ (dC.answer {s2 with dU:=dn} pe ⟨cl,nu,o,vv,xd,0⟩).1 with eQ:=(dC.answer {s2 with dU:=dn} pe ⟨cl,nu,o,vv,xd,0⟩).1.eQ.set o rest})):=Hd fun h=>by
         have e:=TZ.o;have key:=xD (d:=d1) (s:=s2) (o:=o) (x:=x) (rest:=rest) (out:=told s1 o x out) (by rw[e,<- HP.o];exact h);rw[e,<- HP.o]at key;rw[NL.o];exact key
        have HSD:Hy (pe=14->s1.jA d1 o x rest out=(false,[],d2,{s2 with dU:=dn})):=Hd fun h=>by
         have e:=TZ.o;have key:=xC (d:=d1) (s:=s2) (o:=o) (x:=x) (rest:=rest) (out:=told s1 o x out) (by rw[e,<- HP.o];exact h);rw[e,<- HP.o]at key;rw[NL.o];exact key
        have T0:Hy ((told s1 o x out).length+1<=1000000/\(told s1 o x out).length<=out.length+4):=Hd (by
         have h1:(told s1 o x out).length<=out.length+4:=by
          unfold told;split
          ·omega
          rw[aA,aS];have:=q9 s1.eo o s1.dE;omega
         have:=HF.o
         omega)
        have KM:Hy ((told s1 o x out).length+1<=1000000):=Hd T0.o.1;clear NL;(go_upto_block 6 with (go_at_call 26;refine HTL.o.mono ?_;rintro e Ss ⟨rfl,MA⟩));have Nj:=Hd (HG9.o.below MA);have Zf:=Hd (V3.o.below MA V3.o.lt);have b0:Ss.cell? ⟨w.heap.size,0,none⟩=some (.pointer (some ⟨sb,0,none⟩)):=Nj.o.box.cell 0;clear HG9 V3 HTL MA;go_cut [5] (fun q wx=>pe≠14/\GM P own own2 w0 w wx sb db wb dm tb tm v2 QN NX d2 (dC.answer {s2 with dU:=dn} pe ⟨cl,nu,o,vv,xd,0⟩).1 q (told s1 o x out++[(dC.answer {s2 with dU:=dn} pe ⟨cl,nu,o,vv,xd,0⟩).1.eL (dC.answer {s2 with dU:=dn} pe ⟨cl,nu,o,vv,xd,0⟩).2]) (.slice ua hs.length uc) hs)
        case first =>
         obtain⟨pb,V4⟩:∃pb,pb=(pe==0):=⟨_,rfl⟩;have epb:(pe==0)=pb:=V4.symm;have Zg:=Hd V4;clear V4
         cases pb with
         |true =>
          (obtain rfl:pe=0:=by simpa using Zg.o.symm);obtain⟨sa,has⟩:∃sa,sa=(dC.iK {s2 with dU:=dn} ⟨cl,nu,o,vv,xd,0⟩).1:=⟨_,rfl⟩;obtain⟨am,ham⟩:∃am,am=(dC.iK {s2 with dU:=dn} ⟨cl,nu,o,vv,xd,0⟩).2:=⟨_,rfl⟩
          have HAP:Hy (Calls Tryz.prog 57 #[.pointer (some ⟨sb,0,none⟩),.agg #[.int .i64 cl,.int .i64 nu,.int .i64 (o:Int),.int .i64 vv,.string ⟨xd.toArray⟩,.int .i64 0]] Ss.drew fun e w'=>e=.returned am.val/\eh P own2 w0 w' sb db wb dm tb tm v2 QN NX d2 sa/\dD (fun g=>g=sb\/g=dm) Ss.drew w'):=Hd (by
           rw[has,ham]
           exact xg Ss.drew ⟨cl,nu,o,vv,xd,0⟩ o ho rfl XO.o Nj.o.drew.dR)
          have HAS:=Hd has;have HAM:=Hd ham
          have nRd:¬(R=sb\/R=dm):=fun e=>by
           have h0:=HOR.o;rcases e with e|e
           ·rw[e,Nj.o.dR.fJ]at h0;cases h0
           rw[e,Nj.o.dR.ix]at h0;cases h0
          clear has ham;(go_upto_region 27 with fail);refine last.fS (fun W=>W.cell? ⟨w.heap.size,0,none⟩=some (.pointer (some ⟨sb,0,none⟩))/\Has W R (.cells #[.int .i64 cl,.int .i64 nu,.int .i64 (o:Int),.int .i64 vv,.string ⟨xd.toArray⟩,.int .i64 0] 107)) 1000 9 ⟨b0,Zf.o⟩ fun HS=>?_;refine last.many [(0,158,_),(1,159,_),(2,160,_),(3,161,_)] HS.o ?_ (hy:=fun W' Kc=>by have e1:=Kc.1;have e0:W'.cell? ⟨R,0,none⟩=some (.int .i64 cl):=Kc.2.cell 0;have f0:W'.cell? ⟨R,1,none⟩=some (.int .i64 nu):=Kc.2.cell 1;have e2:W'.cell? ⟨R,2,none⟩=some (.int .i64 (o:Int)):=Kc.2.cell 2;have e3:W'.cell? ⟨R,3,none⟩=some (.int .i64 vv):=Kc.2.cell 3;have e4:W'.cell? ⟨R,4,none⟩=some (.string ⟨xd.toArray⟩):=Kc.2.cell 4;have e5:W'.cell? ⟨R,5,none⟩=some (.int .i64 0):=Kc.2.cell 5;repeat (first|exact .z|refine .s ?_|refine .k ?_));refine last.one 4 fun K hK=>?_;go_simp;refine HAP.o.mono ?_;rintro e w11 ⟨rfl,Zh,V5⟩;have Nk:=Hd (Nj.o.drew.step V5 Nj.o.drew.dR.tw (Ext.refl _ _) Zh);have T1:Hy ((fun W=>W.cell? ⟨w.heap.size,0,none⟩=some (.pointer (some ⟨sb,0,none⟩))/\Has W R (.cells #[.int .i64 cl,.int .i64 nu,.int .i64 (o:Int),.int .i64 vv,.string ⟨xd.toArray⟩,.int .i64 0] 107)) w11):=Hd ⟨Nk.o.box.cell 0,V5.has HS.o.2 nRd⟩;refine hK.out _ _ (fun _=>T1.o) ?_;clear hK K HS Zh V5;refine last.one 5 fun K hK=>?_;go_simp;refine (nQ w11 am Nk.o.dR).mono ?_;rintro e To ⟨rfl,V6⟩;have Rf:=Hd (Nk.o.below V6);have V7:Hy ((fun W=>W.cell? ⟨w.heap.size,0,none⟩=some (.pointer (some ⟨sb,0,none⟩))/\Has W R (.cells #[.int .i64 cl,.int .i64 nu,.int .i64 (o:Int),.int .i64 vv,.string ⟨xd.toArray⟩,.int .i64 0] 107)) To):=Hd ⟨Rf.o.box.cell 0,T1.o.2.below V6 T1.o.2.lt⟩;refine hK.out _ _ (fun _=>V7.o) ?_;clear hK K T1 V6;refine last.one 6 fun K hK=>?_;refine xh (.tmp 163) (sa.eL am) rfl rfl ?_;have L0:=(Below.refl To.heap.size To).alloc (aq _) (.cells (([sa.eL am]:List dH).flatMap fT).toArray 109);have Pu:=Hd (Rf.o.below L0);have Zi:=Hd (eE.new (w:=To) (l:=[sa.eL am]) (by simp));have T3:Hy ((fun W=>W.cell? ⟨w.heap.size,0,none⟩=some (.pointer (some ⟨sb,0,none⟩))/\Has W R (.cells #[.int .i64 cl,.int .i64 nu,.int .i64 (o:Int),.int .i64 vv,.string ⟨xd.toArray⟩,.int .i64 0] 107)) (To.alloc (.cells (([sa.eL am]:List dH).flatMap fT).toArray 109))):=Hd ⟨Pu.o.box.cell 0,V7.o.2.alloc _⟩;refine hK.out _ _ (fun _=>T3.o) ?_;obtain⟨Vb,Zj⟩:∃Vb,Vb=To.alloc (.cells (([sa.eL am]:List dH).flatMap fT).toArray 109):=⟨_,rfl⟩;rw[<- Zj]at Pu Zi T3⊢;clear Zj L0 hK K V7;refine last.one 7 fun K hK=>?_;refine xi (.tmp 158) (.tmp 164) Pu.o.er.size u5 (.slice (some ⟨To.heap.size,0,none⟩) 1 1) _ [sa.eL am] rfl rfl rfl Pu.o.msgs Zi.o (by simp) KM.o _ rfl fun v' w14 Zk V8 Zl=>?_;have Ql:=Hd (Pu.o.append Zk V8 Zl);have Zm:Hy ((fun W=>W.cell? ⟨w.heap.size,0,none⟩=some (.pointer (some ⟨sb,0,none⟩))/\Has W R (.cells #[.int .i64 cl,.int .i64 nu,.int .i64 (o:Int),.int .i64 vv,.string ⟨xd.toArray⟩,.int .i64 0] 107)) w14):=Hd ⟨Ql.o.box.cell 0,T3.o.2.grown V8 (fun e=>HRX.o e.symm)⟩;refine hK.out _ _ (fun _=>Zm.o) ?_;clear hK K T3 Zk V8 Zl;refine last.many [(8,5,_)] Zm.o ?_;refine last.done ?_;(go_wp2_with fail);go_meet
          case rel =>
           refine⟨by decide,?_⟩;have e1:(dC.answer {s2 with dU:=dn} 0 ⟨cl,nu,o,vv,xd,0⟩).1=sa:=HAS.o.symm;have e2:(dC.answer {s2 with dU:=dn} 0 ⟨cl,nu,o,vv,xd,0⟩).2=am:=HAM.o.symm;rw[e1,e2];exact Ql.o
         |false =>
          (have RO:pe≠0:=by simpa using Zg.o.symm);obtain⟨qb,hqb⟩:∃qb,qb=(pe==14):=⟨_,rfl⟩;have eqb:(pe==14)=qb:=hqb.symm;have HQB:=Hd hqb;have HP0:=Hd RO;clear hqb RO
          cases qb with
          |true =>
           have HE:Hy (r=([],d2,{s2 with dU:=dn})):=Hd (by
            (have Tp:pe=14:=by simpa using HQB.o.symm);rw[QP.o,rf HQ.o HD.o,HSD.o Tp]
            rfl)
           (go_wp2_with fail);go_ret;rw[HE.o];exact Nj.o.post_nil
          |false =>
           (have Tp:pe≠14:=by simpa using HQB.o.symm);have Rh:({s2 with dU:=dn}:dC).dX o={x with gC:=true}::rest:=HQ2.o;obtain⟨-,adD,y0,y1,-,-,-⟩:=Nj.o.dR.tz ho Rh Y9.o;have KW:x.dL=cl:=congrArg Rec.dL TZ.o;have XN:x.dN=nu:=congrArg Rec.dN TZ.o;change Ss.cell? ⟨g,off,none⟩=some (.int .i64 x.dL)at y0;change Ss.cell? ⟨g,off+1,none⟩=some (.int .i64 x.dN)at y1;rw[KW]at y0;rw[XN]at y1
           have HA:Hy ((dC.answer {s2 with dU:=dn} pe ⟨cl,nu,o,vv,xd,0⟩)=({ ({s2 with dU:=dn}:dC)with done:=put cl ⟨6,cl,nu,0,0,o,0,false,[]⟩ s2.done},⟨6,cl,nu,0,0,o,0,false,[]⟩)):=Hd (by
            unfold dC.answer;rw[if_neg HP0.o]
            rfl)
           clear KW XN Rh;(go_upto_region 23 with fail);(go_region_held3 (fun W=>W.cell? ⟨g,off,none⟩=some (.int .i64 cl)/\W.cell? ⟨g,off+1,none⟩=some (.int .i64 nu)) (go_keep) (fail));obtain⟨B2,Nl⟩:∃B2,B2=Ss.heap.size:=⟨_,rfl⟩;obtain⟨Vc,T4⟩:∃Vc,Vc=(Ss.alloc (.cells #[.int .i64 6,.int .i64 cl,.int .i64 nu,.int .i64 0,.int .i64 0,.int .i64 (o:Int),.int .i64 0,.bool false,.string ⟨#[]⟩] 109)).drew:=⟨_,rfl⟩;rw[<- T4,<- Nl];(have Qm:Below Ss.heap.size Ss Vc:=by rw[T4];exact ((Below.refl _ _).alloc (aq _) _).drew);have V9:Hy (Has Vc B2 (.cells #[.int .i64 6,.int .i64 cl,.int .i64 nu,.int .i64 0,.int .i64 0,.int .i64 (o:Int),.int .i64 0,.bool false,.string ⟨#[]⟩] 109)):=Hd (by rw[T4,Nl];exact (Has.new Ss _).drew);have Nk:=Hd (Nj.o.below Qm);have HBO:Hy (own2 B2=0):=Hd (Nj.o.dR.fr B2 (by omega));(have QK:Hy (u5.ownBlock≠some B2):=Hd fun e=>by have:=(Nj.o.msgs.lt B2 e).2;omega);clear T4 Nl;have b0:Vc.cell? ⟨w.heap.size,0,none⟩=some (.pointer (some ⟨sb,0,none⟩)):=Nk.o.box.cell 0;have c28:Vc.cell? ⟨sb,28,none⟩=some (.map (some dm)):=Nk.o.dR.gQ 0 _ rfl;have y0:Vc.cell? ⟨g,off,none⟩=some (.int .i64 cl):=(Qm.cell (p:=⟨g,off,none⟩) adD).trans y0;clear y1 Qm Nj;have HLD:=Hd (xb Nk.o.dR);have OD:Hy (gi cl):=Hd (WalkArith.wf_i64 (by have:=XO.o;omega));(go_upto_region 24 with fail);refine last.fS (fun W=>W.cell? ⟨w.heap.size,0,none⟩=some (.pointer (some ⟨sb,0,none⟩))/\W.cell? ⟨sb,28,none⟩=some (.map (some dm))/\W.cell? ⟨g,off,none⟩=some (.int .i64 cl)/\Has W B2 (.cells #[.int .i64 6,.int .i64 cl,.int .i64 nu,.int .i64 0,.int .i64 0,.int .i64 (o:Int),.int .i64 0,.bool false,.string ⟨#[]⟩] 109)) 9 10 ⟨b0,c28,y0,V9.o⟩ fun HS=>?_;refine last.many [(0,141,_),(1,142,_),(2,143,_),(3,144,_),(4,145,_),(5,146,_),(6,147,_),(7,148,_),(8,149,_)] HS.o ?_ (hy:=fun W' Kc=>by have e1:=Kc.1;have f0:=Kc.2.1;have f1:=Kc.2.2.1;have e0:W'.cell? ⟨B2,0,none⟩=some (.int .i64 6):=Kc.2.2.2.cell 0;have f2:W'.cell? ⟨B2,1,none⟩=some (.int .i64 cl):=Kc.2.2.2.cell 1;have e2:W'.cell? ⟨B2,2,none⟩=some (.int .i64 nu):=Kc.2.2.2.cell 2;have e3:W'.cell? ⟨B2,3,none⟩=some (.int .i64 0):=Kc.2.2.2.cell 3;have e4:W'.cell? ⟨B2,4,none⟩=some (.int .i64 0):=Kc.2.2.2.cell 4;have e5:W'.cell? ⟨B2,5,none⟩=some (.int .i64 (o:Int)):=Kc.2.2.2.cell 5;have e6:W'.cell? ⟨B2,6,none⟩=some (.int .i64 0):=Kc.2.2.2.cell 6;have e7:W'.cell? ⟨B2,7,none⟩=some (.bool false):=Kc.2.2.2.cell 7;have e8:W'.cell? ⟨B2,8,none⟩=some (.string ⟨#[]⟩):=Kc.2.2.2.cell 8;repeat (first|exact .z|refine .s ?_|refine .k ?_));refine last.one 9 fun K hK=>?_;refine pK kC (.tmp 144) (.tmp 148) (.tmp 149) rfl rfl Nk.o.drew.dR.done (by have:=HLD.o;unfold maxLen;omega) (k:=cl) (u:=⟨6,cl,nu,0,0,(o:Int),0,false,[]⟩) OD.o trivial rfl rfl ?_;intro To Zn Qn;refine hK.out _ _ (fun h=>absurd rfl h) ?_;refine last.done ?_;have hpd:=Nk.o.drew.dR.xf cl XO.o _ Zn Qn;have Wa:dD (fun k=>k=dm) Vc.drew To:=⟨Qn.os,Qn.tape,Qn.output,Qn.size,fun k hk hn=>Qn.block k hk (fun e=>hn (by simpa using e))⟩;have Rf:=Hd (Nk.o.drew.step Wa (fun k hk e=>Nk.o.drew.dR.tw k hk (.inr e)) (Ext.refl _ _) hpd);have adE:=Hd (Wa.has V9.o.drew (fun e=>by have h0:=HBO.o;rw[e,Nk.o.dR.ix]at h0;cases h0));clear hpd Wa Zn Qn hK K HS V9 Nk b0 c28 y0;have b0:To.cell? ⟨w.heap.size,0,none⟩=some (.pointer (some ⟨sb,0,none⟩)):=Rf.o.box.cell 0
           go_wp2_with (first
            |(refine wpList_load_row rfl 109 (.tmp 15) rfl B2 rfl 109 _ (0,0) _ adE.o Tryz.underlying109 rfl (by kernel_rfl) ?_)
            |(go_at_call 184;refine (nQ _ ⟨6,cl,nu,0,0,o,0,false,[]⟩ Rf.o.dR).mono ?_;rintro e Vb ⟨rfl,St⟩;have Pu:=Hd (Rf.o.below St))
            |(refine kU rfl (.tmp 153) (({ ({s2 with dU:=dn}:dC)with done:=put cl ⟨6,cl,nu,0,0,o,0,false,[]⟩ s2.done}:dC).eL ⟨6,cl,nu,0,0,o,0,false,[]⟩) rfl rfl ?_;have Ql:=Hd (Pu.o.below ((Below.refl Vb.heap.size Vb).alloc (aq _) (.cells (([({ ({s2 with dU:=dn}:dC)with done:=put cl ⟨6,cl,nu,0,0,o,0,false,[]⟩ s2.done}:dC).eL ⟨6,cl,nu,0,0,o,0,false,[]⟩]:List dH).flatMap fT).toArray 109)));have Zo:=Hd (eE.new (w:=Vb) (l:=[({ ({s2 with dU:=dn}:dC)with done:=put cl ⟨6,cl,nu,0,0,o,0,false,[]⟩ s2.done}:dC).eL ⟨6,cl,nu,0,0,o,0,false,[]⟩]) (by simp));obtain⟨w14,Zp⟩:∃w14,w14=Vb.alloc (.cells (([({ ({s2 with dU:=dn}:dC)with done:=put cl ⟨6,cl,nu,0,0,o,0,false,[]⟩ s2.done}:dC).eL ⟨6,cl,nu,0,0,o,0,false,[]⟩]:List dH).flatMap fT).toArray 109):=⟨_,rfl⟩;rw[<- Zp]at Ql Zo⊢;clear Zp Pu)
            |(refine pj rfl (.tmp 150) (.tmp 154) Ql.o.er.size u5 (.slice (some ⟨Vb.heap.size,0,none⟩) 1 1) _ [({ ({s2 with dU:=dn}:dC)with done:=put cl ⟨6,cl,nu,0,0,o,0,false,[]⟩ s2.done}:dC).eL ⟨6,cl,nu,0,0,o,0,false,[]⟩] rfl rfl rfl Ql.o.msgs Zo.o (by simp) KM.o fun v' w15 Zq Zr Zs=>?_;have adF:=Hd (Ql.o.append Zq Zr Zs);clear Zq Zr Zs))
           go_meet
           case rel =>
            refine⟨Tp,?_⟩;rw[HA.o];exact adF.o
        case rest =>
         obtain⟨adG,Qa⟩:=hcut;have Zt:=Hd (ady.o adG);obtain⟨sa,T5⟩:∃sa,sa=(dC.answer {s2 with dU:=dn} pe ⟨cl,nu,o,vv,xd,0⟩).1:=⟨_,rfl⟩;obtain⟨T6,LA⟩:∃T6,T6=told s1 o x out++[(dC.answer {s2 with dU:=dn} pe ⟨cl,nu,o,vv,xd,0⟩).1.eL (dC.answer {s2 with dU:=dn} pe ⟨cl,nu,o,vv,xd,0⟩).2]:=⟨_,rfl⟩;rw[<- LA,<- T5]at Qa
         have hq4:sa.dX o={x with gC:=true}::rest:=by
          (have:sa.eQ=s2.eQ:=by rw[T5];exact xE _ _ _);unfold dC.dX;rw[this];exact HQ2.o
         have adH:Hy (o<sa.eQ.length):=Hd (by rw[Qa.dR.nq];exact ho);have Wb:Hy (NX.getD o undef=.slice (some ⟨g,off,none⟩) n cap):=Hd (by rw[HN.o];exact Y9.o);have Zu:=Hd Qa;have Zv:=Hd (Qa.drew.dR.pop ho hq4 Wb.o)
         have adI:Hy (T6.length<=out.length+5):=Hd (by
          rw[LA,aA];have:=T0.o.2;simp
          omega)
         have adJ:Hy (r=dC.jd (rest.length+1) d2 {sa with eQ:=sa.eQ.set o rest} o T6):=Hd (by
          rw[QP.o,rf HQ.o HD.o,Zt.o,HQ.o,<- LA,<- T5]
          rfl)
         have b0:wc.cell? ⟨w.heap.size,0,none⟩=some (.pointer (some ⟨sb,0,none⟩)):=Qa.box.cell 0;(have c20:wc.cell? ⟨sb,20+o,none⟩=some (.slice (some ⟨g,off,none⟩) n cap):=by rw[Qa.dR.ik o ho,Wb.o]);have f20:=Qa.dR.s_.frozen (20+o);(have n1':(1:Int)<=(n:Int):=by omega);clear Qa hq4 T5 LA Zt Nj Zf;(go_upto_region 30 with fail);refine last.fS (fun W=>W.cell? ⟨w.heap.size,0,none⟩=some (.pointer (some ⟨sb,0,none⟩))/\W.cell? ⟨sb,20+o,none⟩=some (.slice (some ⟨g,off,none⟩) n cap)/\W.frozen? ⟨sb,20+o,none⟩=false) 12 13 ⟨b0,c20,f20⟩ fun HS=>?_;refine last.many [(0,168,_),(1,169,_),(2,170,_),(3,171,_),(4,172,_),(5,173,_),(6,174,_),(7,175,_)] HS.o ?_ (hy:=fun W' Kc=>by have e1:=Kc.1;have f0:=Kc.2.1;repeat (first|exact .z|refine .s ?_|refine .k ?_));refine last.nL 8 176 (lr g off n cap) rfl rfl (by kernel_rfl) (by kernel_rfl) (by kernel_rfl) (by kernel_rfl) (fun _ _ _ h=>h) HS.o (by rfl) (fun W' Kc=>by have e9:=n1;have e8:=n1';(unfold lr;go_simp)) ?_;dsimp only[List.set];refine last.one 9 fun K hK=>?_;go_simp;refine hK.out _ _ (fun _=>HS.o) ?_;clear hK K;refine last.one 10 fun K hK=>?_;go_simp;refine hK.out _ _ (fun _=>HS.o) ?_;clear hK K;refine last.many [(11,179,_)] HS.o ?_;refine last.one 12 fun K hK=>?_;unfold lr;go_simp;refine hK.out _ _ (fun h=>absurd rfl h) ?_;refine last.done ?_;(go_wp2_with fail);have Zw:=Hd (Zu.o.drew.step Zv.o.2 (fun k hk e=>Zu.o.drew.dR.tw k hk (.inl e)) (Ext.refl _ _) Zv.o.1);have Vd:Hy (({sa with eQ:=sa.eQ.set o rest}:dC).dX o=rest):=Hd (by rw[nT sa o o rest adH.o,if_pos rfl]);go_roundw
         case rel =>
          refine⟨_,_,_,_,_,_,_,⟨Zw.o.free,?_,?_⟩⟩
          ·rw[Vd.o];have h1:=HF.o;rw[HQ.o]at h1;have h2:=adI.o;simp only[aJ]at h1;omega
          rw[Vd.o];exact adJ.o
         case measure =>
          rw[Tm.o,HQ.o];refine Nat.lt_of_le_of_lt (cU ((Zw.o.dR.lenOf ho).trans (congrArg List.length Vd.o))) ?_;simp
end
end dR
end Go.Proofs.YtlhodcmdpchllaaGreatDoor
