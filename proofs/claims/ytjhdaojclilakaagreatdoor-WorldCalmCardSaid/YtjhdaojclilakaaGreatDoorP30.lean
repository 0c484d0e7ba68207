/-
  A part of the proof of the law WorldCalm: SrvR, SrvS.
-/
import Derived.Test.YtjhdaojclilakaaGreatDoorHd
import Derived.Test.YtjhdaojclilakaaGreatDoorP29
set_option maxHeartbeats 16000000
set_option maxRecDepth 1000000
namespace Go.Proofs.YtjhdaojclilakaaGreatDoor
section
variable {p q:Prop}
theorem aam (h:p:=by
 as_aux_lemma =>
  have HE:Hy (r=([],d,s)):=Hd (Ro.o ae);clear Rf Ro;(go_wp2_with (go_at_call 68;refine Tu.o.mono ?_;rintro e w' ⟨rfl,rfl⟩));go_ret;rw[HE.o];exact jf.here H1.o Qd.o (fV.nil _ _)):p:=h
theorem aaO (h:p:=by
 as_aux_lemma =>
  have HE:Hy (r=(2,d,none)):=Hd (Ro.o ae);clear Ro Rf;(go_wp2_with (go_at_call 56;refine HRT.o.mono ?_;rintro e W2 ⟨rfl,Px⟩));go_ret2;rw[HE.o];exact⟨own,Ext.refl _ _,Qd.o.jl Px (ax _),_,rfl,YH.o.below Px⟩):p:=h
end
namespace fj
open Go.RowKit heap own eG gC gO fF iR fD
open eY (Rec fe ir Wr eA fW fU fR fw put del)
section
variable {P:Lib.PrintTabs} {own:Nat->Nat} {w0:World} {sb db wb dm tb tm:Nat} {v:Value} {ps:List ByteArray} {qs:List Value} {d:fe} {s:eA}
theorem Bo {w a:World} (h:fC P own w0 w sb db wb dm tb tm v ps qs d s) (ht:eJ (fun g=>g=tb\/g=tm) w a):eJ (fL own) w a:=ht.mono fun k hk e=>h.xE k hk e
theorem JM (w:World) (eB:Int) (m:eL) (h:fC P own w0 w sb db wb dm tb tm v ps qs d s) :
 Calls Tryz.prog 44 #[VP sb 0,VI eB,m.val] w (jf P own w0 w sb db wb dm tb tm (eA.take d s eB m)):=by
 obtain⟨mk,a,c,f,ms,b,mv,g,md⟩:=m;obtain⟨H,T⟩:=nm w.heap.size;obtain⟨t,E⟩:=nm (w.alloc (.cells #[VI mk,VI a,VI c,VI f,VI ms,VI b,VI mv,.bool g,.string ⟨md.toArray⟩] 93));(have U:BB w t:=by rw[E];exact (Below.refl _ _).alloc (ax _) _);(have F:Has t H (.cells #[VI mk,VI a,VI c,VI f,VI ms,VI b,VI mv,.bool g,.string ⟨md.toArray⟩] 93):=by rw[E,T];exact Has.new w _);have V:=h.below U;have R8:Hy (H≠sb):=Hd (by have:=h.s_.lt;omega);obtain⟨r,G⟩:=nm (eA.take d s eB ⟨mk,a,c,f,ms,b,mv,g,md⟩);obtain⟨b0,I⟩:=nm s.eX;obtain⟨J,K⟩:=nm (decide (a<0));obtain⟨L,M⟩:=nm (decide (4<=a));obtain⟨N,O⟩:=nm (decide (b<0));obtain⟨Q,R⟩:=nm (decide (8<=b))
 have Ro:Hy ((b0||J||L||N||Q)=true->r=([],d,s)):=Hd fun hx=>by
  rw[G];unfold eA.take
  have:(s.eX||!eY.fX a||!eY.fN b)=true:=by
   rw[I,K,M,O,R]at hx;unfold eY.fX eY.fN fR
   cases hsd:s.eX with
   |true=>rfl
   |false =>
    rw[hsd]at hx;simp only[Bool.false_or,bz,decide_eq_true_eq,aV,bU,decide_eq_false_iff_not]at hx⊢;omega
  dsimp only;rw[if_pos this]
 have Rf:Hy ((b0||J||L||N||Q)=false->(0<=a/\a<4)/\(0<=b/\b<8)/\r=(if mk=1 then (((s.at_ eB).reads ⟨mk,a,c,f,ms,b,mv,g,md⟩).1,d,((s.at_ eB).reads ⟨mk,a,c,f,ms,b,mv,g,md⟩).2) else if mk=2 then eA.gp d (s.at_ eB) ⟨mk,a,c,f,ms,b,mv,g,md⟩ else if mk=3 then (((s.at_ eB).j9 ⟨mk,a,c,f,ms,b,mv,g,md⟩).1,d,((s.at_ eB).j9 ⟨mk,a,c,f,ms,b,mv,g,md⟩).2) else if mk=4 then eA.qq d (s.at_ eB) ⟨mk,a,c,f,ms,b,mv,g,md⟩ else ([],d,s.at_ eB))):=Hd fun hx=>by
  rw[I,K,M,O,R]at hx;simp only[bY,decide_eq_false_iff_not]at hx;obtain⟨⟨⟨⟨x0,x1⟩,x2⟩,x3⟩,x4⟩:=hx;refine⟨ab,ab,?_⟩;rw[G];unfold eA.take
  have:¬(s.eX||!eY.fX a||!eY.fN b)=true:=by
   unfold eY.fX eY.fN fR;simp only[bz,aV,bU,decide_eq_false_iff_not];rw[x0];simp;omega
  dsimp only;rw[if_neg this]
 have Tu:=Hd (uz t V);rw[<- I]at Tu;have H1:=Hd V;have Qn:=Hd F;have Qd:Hy (eJ (fL own) w t):=Hd (eJ.il U (ax _));have e1:decide (a<0)=J:=K.symm;have e2:decide (4<=a)=L:=M.symm;have e3:decide (b<0)=N:=O.symm;have e4:decide (8<=b)=Q:=R.symm;have x1:CI t H 1 a:=F.cell 1;have x5:CI t H 5 b:=F.cell 5;rw[<- G];unfold eL.val;dsimp only;clear G I K M O R h V F U;(go_enter Tryz.func44,Tryz.ntmps44);(go_upto_region 1 with fail);rw[<- E,<- T];clear E T
 cases b0 with
 |true =>
  exact aam
 |false =>
 cases J with
 |true =>
  exact aam
 |false =>
 cases L with
 |true =>
  exact aam
 |false =>
 cases N with
 |true =>
  exact aam
 |false =>
 cases Q with
 |true =>
  exact aam
 |false =>
 obtain⟨S,W,C⟩:=Rf.o rfl;obtain⟨o,rfl⟩:∃o:Nat,b=o:=⟨b.toNat,ab⟩;have X:o<8:=ab;have l:=Hd C;clear Rf Ro C W
 go_upto_region 4 with (first
  |(go_at_call 68;refine Tu.o.mono ?_;rintro e w' ⟨rfl,rfl⟩)
  |(go_at_call 69;refine (AU t eB H1.o).mono ?_;rintro e A ⟨rfl,h2,t2⟩))
 have u:=Hd h2;have D:=Hd (t2.has Qn.o R8.o);have x:Hy (eJ (fL own) w A):=Hd (Qd.o.trans t2 fun k _ e=>by unfold fL;rw[e,H1.o.iL];decide);have x0:CI A H 0 mk:=D.o.cell 0;clear h2 t2 H1 Qn Qd Tu x1 x5 e1 e2 e3 e4;by_cases i:mk=1
 ·as_aux_lemma =>
   have HE:Hy (r=(((s.at_ eB).reads ⟨mk,a,c,f,ms,o,mv,g,md⟩).1,d,((s.at_ eB).reads ⟨mk,a,c,f,ms,o,mv,g,md⟩).2)):=Hd (by rw[l.o,if_pos i]);have HC:=Hd (Jl A ⟨mk,a,c,f,ms,o,mv,g,md⟩ o X rfl S u.o);(have f1:(mk==1)=true:=by simp[i]);have K1:=Hd i;clear l i
   go_wp2_with (first
    |(refine wpList_load_row rfl 93 (.tmp 5) rfl H rfl 93 _ (0,0) _ D.o Tryz.underlying93 rfl af ?_)
    |(go_at_call 70;refine HC.o.mono ?_;rintro e Y ⟨u3,rfl,Z,TK,P5⟩))
   go_ret;rw[HE.o];exact jf.here TK (x.o.trans (Bo u.o P5) fun _ _ e=>e) (Z.base x.o.size)
 (have f1:(mk==1)=false:=by simp[i]);by_cases n:mk=2
 ·as_aux_lemma =>
   have HE:Hy (r=eA.gp d (s.at_ eB) ⟨mk,a,c,f,ms,o,mv,g,md⟩):=Hd (by rw[l.o,if_neg i,if_pos n]);have HC:=Hd (JH A ⟨mk,a,c,f,ms,o,mv,g,md⟩ o X rfl S u.o);(have f2:(mk==2)=true:=by simp[n]);clear l i n
   go_wp2_with (first
    |(refine wpList_load_row rfl 93 (.tmp 5) rfl H rfl 93 _ (0,0) _ D.o Tryz.underlying93 rfl af ?_)
    |(go_at_call 71;refine HC.o.mono ?_;rintro e Y ⟨u3,j,v3,y,z,rfl,S0⟩))
   go_ret;rw[HE.o];exact jf.ahead x.o ⟨u3,j,v3,y,z,rfl,S0⟩
 (have f2:(mk==2)=false:=by simp[n]);by_cases q:mk=3
 ·as_aux_lemma =>
   have HE:Hy (r=(((s.at_ eB).j9 ⟨mk,a,c,f,ms,o,mv,g,md⟩).1,d,((s.at_ eB).j9 ⟨mk,a,c,f,ms,o,mv,g,md⟩).2)):=Hd (by rw[l.o,if_neg i,if_neg n,if_pos q]);have HC:=Hd (JA A ⟨mk,a,c,f,ms,o,mv,g,md⟩ S u.o);(have f3:(mk==3)=true:=by simp[q]);clear l i n q
   go_wp2_with (first
    |(refine wpList_load_row rfl 93 (.tmp 5) rfl H rfl 93 _ (0,0) _ D.o Tryz.underlying93 rfl af ?_)
    |(go_at_call 72;refine HC.o.mono ?_;rintro e Y ⟨u3,rfl,Z,TK,P5⟩))
   go_ret;rw[HE.o];exact jf.here TK (x.o.trans (Bo u.o P5) fun _ _ e=>e) (Z.base x.o.size)
 (have f3:(mk==3)=false:=by simp[q]);by_cases B:mk=4
 ·as_aux_lemma =>
   have HE:Hy (r=eA.qq d (s.at_ eB) ⟨mk,a,c,f,ms,o,mv,g,md⟩):=Hd (by rw[l.o,if_neg i,if_neg n,if_neg q,if_pos B]);have HC:=Hd (JD A ⟨mk,a,c,f,ms,o,mv,g,md⟩ o X rfl S u.o);(have f4:(mk==4)=true:=by simp[B]);clear l i n q B
   go_wp2_with (first
    |(refine wpList_load_row rfl 93 (.tmp 5) rfl H rfl 93 _ (0,0) _ D.o Tryz.underlying93 rfl af ?_)
    |(go_at_call 73;refine HC.o.mono ?_;rintro e Y ⟨u3,j,v3,y,z,rfl,S0⟩))
   go_ret;rw[HE.o];exact jf.ahead x.o ⟨u3,j,v3,y,z,rfl,S0⟩
 as_aux_lemma =>
  have HE:Hy (r=([],d,s.at_ eB)):=Hd (by rw[l.o,if_neg i,if_neg n,if_neg q,if_neg B]);(have f4:(mk==4)=false:=by simp[B]);clear l i n q B;(go_wp2_with fail);go_ret;rw[HE.o];exact jf.here u.o x.o (fV.nil _ _)
end
structure kS (P:Lib.PrintTabs) (own:Nat->Nat) (w0 w:World) (db:Nat) (ps:List ByteArray) (d:fe):Prop where
 lW:kQ P w0
 my:Handle w0
 iA:BB w0 w
 low:∀g,fL own g->w0.heap.size<=g
 fr:∀g,w.heap.size<=g->own g=0
 jU:iZ w db ps d.cut d.left
 kZ:mR P ps d.eG
 jk:own db=1
 rc:∀r∈d.eG,0<=r.eI/\r.eI<4
section
variable {P:Lib.PrintTabs} {own own1:Nat->Nat} {w0 w w':World} {sb db wb dm tb tm:Nat} {v:Value} {ps:List ByteArray} {qs:List Value} {d:fe} {s:eA} {S:Nat->Prop}
theorem fC.eP (h:fC P own w0 w sb db wb dm tb tm v ps qs d s):kS P own w0 w db ps d:=⟨h.lW,h.my,h.iA,h.low,h.fr,h.jU,h.kZ,h.jk,h.ok.rc⟩
theorem kS.le (h:kS P own w0 w db ps d):w0.heap.size<=w.heap.size:=h.iA.size
theorem kS.fI (h:kS P own w0 w db ps d) (ht:eJ S w w') (he:Ext w own own1) (a:∀g,w'.heap.size<=g->own1 g=0) (hs:∀g,g<w.heap.size->S g->g≠db/\w0.heap.size<=g):kS P own1 w0 w' db ps d:=by
 have b:eJ (fun g=>g<w.heap.size/\S g) w w':=ht.mono fun k hk hS=>⟨hk,hS⟩;have nh:=h.jU.lt;refine⟨h.lW,h.my,h.iA.trans (b.oE h.le fun k hk hS=>by have:=(hs k hS.1 hS.2).2;omega),fun g hg=>?_,a,⟨ht.has h.jU.d_ (fun hS=>(hs db nh hS).1 rfl),h.jU.hp⟩,h.kZ,by rw[he _ nh];exact h.jk,h.rc⟩;exact abn
theorem kS.below (h:kS P own w0 w db ps d) (hb:BB w w'):kS P own w0 w' db ps d:=
 h.fI (S:=fun _=>False) (eJ.il hb (ax _)) (Ext.refl _ _) (fun g hg=>h.fr g (aB hb.size hg)) (fun _ _ h=>h.elim)
theorem kS.pR (h:kS P own w0 w db ps d):mu P w0.heap.size w:=⟨w0,rfl,h.lW,h.iA⟩
structure sP (W wx:World) (sb dm tb tm wb:Nat) (t:fU) (eB:Int):Prop where
 iA:BB W wx
 s_:Has wx sb (.cells (kI t wb (List.replicate 8 eY.lT) (List.replicate 8 (.slice none 0 0)) dm tb 0 0 eB (-1)).toArray 105)
 done:At mT wx dm []
 iR:jo wx tb tm fW.new
 ge:W.heap.size<=sb/\W.heap.size<=dm/\W.heap.size<=tb/\W.heap.size<=tm
 ne:sb≠dm/\sb≠tb/\sb≠tm/\dm≠tb/\dm≠tm/\tb≠tm
def oI (own:Nat->Nat) (sb dm tb tm:Nat):Nat->Nat:=fun k=>if k=sb then 4 else if k=dm then 5 else if k=tb then 6 else if k=tm then 7 else own k
theorem sQ {own:Nat->Nat} {sb dm tb tm k:Nat} (a:k≠sb) (b:k≠dm) (c:k≠tb) (d:k≠tm):oI own sb dm tb tm k=own k:=by unfold oI;rw[if_neg a,if_neg b,if_neg c,if_neg d]
theorem xI (t:fU) (eB:Int) (o:Nat):(eA.blank t eB).eQ o=[]:=by
 unfold eA.eQ eA.blank;rw[aC,bC];split<;>rfl
theorem sP.fj {W c:World} {sb dm tb tm wb:Nat} {t:fU} {eB:Int} (a:sP W c sb dm tb tm wb t eB) (hd:kS P own w0 W db ps d) (hw:kH own 2 w0.heap.size W wb db v false d.eG) :
 fC P (oI own sb dm tb tm) w0 c sb db wb dm tb tm v ps (List.replicate 8 (.slice none 0 0)) d (eA.blank t eB):=by
 obtain⟨g1,g2,g3,g4⟩:=a.ge;obtain⟨n1,q,n3,n4,r,n6⟩:=a.ne;have jV:∀k,k<W.heap.size->oI own sb dm tb tm k=own k:=fun k hk=>sQ ab ab ab ab;have s:=a.s_.lt;have u:=a.done.lt;have w:=a.iR.lt;have lw:=hw.w_.lt;have e:=hd.jU.lt
 have f:∀g,fL (oI own sb dm tb tm) g->w0.heap.size<=g:=fun g hg=>by
  have:=hd.le;by_cases i:g=sb
  ·omega
  by_cases j:g=dm
  ·omega
  by_cases l:g=tb
  ·omega
  by_cases m:g=tm
  ·omega
  unfold fL at hg;rw[sQ i j l m]at hg;exact hd.low g hg
 have b:=hw.below a.iA (ax _);refine⟨hd.lW,hd.my,hd.iA.trans (a.iA.mono hd.le),f,fun g hg=>?_,⟨b.w_,⟨b.row.1,fun g hg=>?_⟩,(jV wb lw).trans b.ow,fun g hg=>f g ⟨ab,ab⟩,b.lw⟩,⟨hd.jU.d_.below a.iA e,hd.jU.hp⟩,hd.kZ,(jV db e).trans hd.jk,a.s_,by unfold oI;rw[if_pos rfl],⟨by simp[eA.blank],by simp[eA.blank],fun o x h=>?_,(fun p hp=>by cases hp),hd.rc,fun o=>by rw[xI];simp⟩,ae,fun o n=>?_,a.done,by unfold oI;rw[if_neg ab,if_pos rfl],a.iR,by unfold oI;rw[if_neg ab,if_neg ab,if_pos rfl],by unfold oI;rw[if_neg ab,if_neg ab,if_neg ab,if_pos rfl]⟩
 ·rw[sQ ab ab ab ab];exact hd.fr g (aB a.iA.size hg)
 ·rw[jV g (hw.row.lt g hg)];exact hw.row.2 g hg
 ·rw[xI]at h;cases h
 rw[xI,aC,bC,if_pos n];exact iD.nil _ _ _ _ _
theorem rD {w:World} {B:Nat} {e:TypeId} {size n:Nat} {u:Value} {xs:List Value} (h:w.ownsRow B e size u n xs):∃a c,u=.slice a n c:=by
 rcases h.2 with⟨e,b⟩|⟨g,cap,cur,e,-⟩
 ·exact⟨none,0,by rw[e,b]⟩
 exact⟨_,_,e⟩
theorem JN {w:World} {B:Nat} {u:Value} {l:List Rec} (h:w.ownsRow B 124 6 u l.length (lD l)) {k:Nat} {x:Rec} (b:l[k]?=some x) :
 ∃g cap,u=.slice (some ⟨g,0,none⟩) l.length cap/\g<w.heap.size/\∀j y,(nK x)[j]?=some y->w.cell? ⟨g,k*6+j,none⟩=some y:=by
 have m:k<l.length:=(az.1 b).1;rcases h.2 with⟨-,n⟩|⟨g,cap,cur,rfl,-,e,-,-,-,i⟩
 ·omega
 have c:Has w g (.cells cur 124):=e;refine⟨g,cap,rfl,c.lt,fun j y d=>?_⟩;have a:j<6:=(az.1 d).1;rw[(kj c i (k*6+j) ab).1];exact (flat_get (f:=nK) (size:=6) (fun _=>rfl) l k x b j a).trans d
theorem fC.Bp {w:World} (h:fC P own w0 w sb db wb dm tb tm v ps qs d s) (n:Int):fC P own w0 (w.setCell ⟨sb,30,none⟩ (VI n)) sb db wb dm tb tm v ps qs d {s with eS:=n}:=by
 have ht:eJ (fun g=>g=sb) w (w.setCell ⟨sb,30,none⟩ (VI n)):=gX (eJ.refl _ _) 30 _;refine h.nj ht ?_ ⟨h.ok.nv,h.ok.nq,h.ok.qc,h.ok.dk,h.ok.rc,h.ok.ql⟩ h.lq (h.sN ht) rfl rfl rfl;have:=h.s_.fQ 30 (VI n);rw[aP,uA h.nv h.lq 2]at this;exact this
theorem fC.JP {w:World} (h:fC P own w0 w sb db wb dm tb tm v ps qs d s) (n:Int):fC P own w0 (w.setCell ⟨sb,31,none⟩ (VI n)) sb db wb dm tb tm v ps qs d {s with quiet:=n}:=by
 have ht:eJ (fun g=>g=sb) w (w.setCell ⟨sb,31,none⟩ (VI n)):=gX (eJ.refl _ _) 31 _;refine h.nj ht ?_ ⟨h.ok.nv,h.ok.nq,h.ok.qc,h.ok.dk,h.ok.rc,h.ok.ql⟩ h.lq (h.sN ht) rfl rfl rfl;have:=h.s_.fQ 31 (VI n);rw[aP,uA h.nv h.lq 3]at this;exact this
theorem JQ {d:fe} {r:Rec} (h:(d.add false r).1=0):(d.add false r).2.2=false:=by
 unfold fe.add at h⊢;simp only[bh,if_false]at h⊢;split at h
 ·cases h
 rename_i a;rw[if_neg a];split at h
 ·cases h
 rename_i b;rw[if_neg b];split at h
 ·cases h
 rename_i c;rw[if_neg c]
def JR (P:Lib.PrintTabs) (own:Nat->Nat) (w0 w:World) (db:Nat) (r:Int×fe×Option eA) (e:Ending) (w':World):Prop:=
 ∃own1,Ext w own own1/\eJ (fL own) w w' /\
  match r with
  |(_,d,some s)=>∃sb wb dm tb tm v ps qs,e=.returned (.tuple #[VP sb 0,.nilIface])/\fC P own1 w0 w' sb db wb dm tb tm v ps qs d s
  |(n,d,none)=>∃ps,e=.returned (.tuple #[.pointer none,iC n])/\kS P own1 w0 w' db ps d
theorem Bq (w:World) (t:fU) (eB:Int) (h:kS P own w0 w db ps d) :
 Calls Tryz.prog 34 #[nM t,VP db 0,VI eB] w (JR P own w0 w db (eA.new t d eB)):=by
 obtain⟨r,hr⟩:=nm (eA.new t d eB);obtain⟨I,Pz⟩:=nm (w.alloc (.cells #[VI t.eF,VI t.fa,VI t.fH] 29));obtain⟨H,hH⟩:=nm w.heap.size;(have Pu:BB w I:=by rw[Pz];exact (Below.refl _ _).alloc (ax _) _);(have PC:Has I H (.cells #[VI t.eF,VI t.fa,VI t.fH] 29):=by rw[Pz,hH];exact Has.new w _);have YH:=Hd (h.below Pu);have Qn:=Hd PC;have Qd:Hy (eJ (fL own) w I):=Hd (eJ.il Pu (ax _));have XC:Hy (own H=0):=Hd (h.fr H ab);have y0:CI I H 0 t.eF:=PC.cell 0;have J:CI I H 1 t.fa:=PC.cell 1;have y2:CI I H 2 t.fH:=PC.cell 2;obtain⟨rt,Ry⟩:=nm (eY.kz t);have HRT:Hy (Calls Tryz.prog 56 #[.agg #[VI t.eF,VI t.fa,VI t.fH]] I fun e w'=>e=.returned (.bool rt)/\BB I w'):=Hd (by rw[Ry];exact Jv t I);obtain⟨n1,SP⟩:=nm (decide (eB<0));obtain⟨n2,Ta⟩:=nm (decide (549755813888<eB));have e1:decide (eB<0)=n1:=SP.symm;have e2:decide (549755813888<eB)=n2:=Ta.symm
 have Ro:Hy ((!rt||n1||n2)=true->r=(2,d,none)):=Hd fun hx=>by
  rw[hr];unfold eA.new;rw[if_pos];rw[Ry,SP,Ta]at hx
  cases h9:eY.kz t with
  |false=>rfl
  |true =>
   rw[h9]at hx;unfold fR eY.half;simp only[cT,Bool.false_or,bz,decide_eq_true_eq,aV,bU,decide_eq_false_iff_not]at hx⊢;omega
 have Rf:Hy ((!rt||n1||n2)=false->(eY.kz t=true/\0<=eB/\eB<=549755813888)):=Hd fun hx=>by
  rw[Ry,SP,Ta]at hx;simp only[bY,Bool.not_eq_false',decide_eq_false_iff_not]at hx;exact⟨hx.1.1,ab,ab⟩
 have HR:=Hd hr;rw[<- hr];unfold nM;clear hr Ry SP Ta h PC Pu;(go_enter Tryz.func34,Tryz.ntmps34);(go_upto_region 1 with fail);rw[<- Pz,<- hH];clear Pz hH
 cases rt with
 |false =>
  exact aaO
 |true =>
  cases n1 with
  |true =>
   exact aaO
  |false =>
   cases n2 with
   |true =>
    exact aaO
   |false =>
    obtain⟨Ry,Tn,ch⟩:=Rf.o rfl;have bb:=Hd Ry;clear Ro Rf Ry;(go_upto_region 3 with (go_at_call 56;refine HRT.o.mono ?_;rintro e W2 ⟨rfl,Px⟩));have L:=Hd (YH.o.below Px);have Qg:=Hd (Qn.o.below Px Qn.o.lt);have Qo:=Hd (Qd.o.jl Px (ax _));have cj:Hy (H<W2.heap.size):=Hd Qg.o.lt;have bg:=Hd (IM P own 2 w0.heap.size W2 db ps d.cut d.left d.eG L.o.pR L.o.jU L.o.kZ (by rw[L.o.jk];decide) (fun g i=>L.o.low g ⟨ab,ab⟩));clear YH Qn Qd HRT Px y0 J y2 e1 e2;(go_upto_region 6 with (go_at_call 57;refine bg.o.mono ?_;rintro e a ⟨M,wb,v,rfl,Xu,P5,X,UN⟩));have aa:=P5.size;have ZM:Hy (kS P (mz M a) w0 a db ps d):=Hd (L.o.fI P5 (rB Xu aa) (uE _ _) (fun g _ i=>⟨fun e=>(by rw[e,L.o.jk]at i;cases i),L.o.low g ⟨ab,ab⟩⟩));have T9:Has a H (.cells #[VI t.eF,VI t.fa,VI t.fH] 29):=P5.has Qg.o (fun i=>by have:=XC.o;omega);have Rc:=Hd T9;have QV:Hy (eJ (fL own) w a):=Hd (Qo.o.trans P5 fun k _ e=>⟨ab,ab⟩);have YT:Hy (Ext W2 own (mz M a)):=Hd (rB Xu aa)
    have ZE:Hy (kH (mz M a) 2 w0.heap.size a wb db v false d.eG):=Hd (by
     have hl:=X.w_.lt;refine⟨X.w_,⟨X.row.1,fun g i=>by rw[qC (X.row.lt g i)];exact X.row.2 g i⟩,by rw[qC hl];exact X.ow,fun g i=>?_,X.lw⟩
     exact ZM.o.low g ⟨ab,ab⟩)
    have y0:CI a H 0 t.eF:=T9.cell 0;have J:CI a H 1 t.fa:=T9.cell 1;have y2:CI a H 2 t.fH:=T9.cell 2;have UM:H<a.heap.size:=T9.lt;have Z6:=@run_makeMap Tryz.prog;have Yc:BB a (a.alloc (.map #[] 0)).drew:=((Below.refl _ _).alloc (ax _) _).drew;have UO:=Hd Yc;clear Yc;clear Xu P5 X T9 Qg L bg aa UN;go_cut [10] (fun q wx=>∃sb dm tb tm,q=VP sb 0/\sP a wx sb dm tb tm wb t eB)
    case first =>
     go_region_held3 (fun W=>CI W H 0 t.eF/\CI W H 1 t.fa/\CI W H 2 t.fH) (first|exact⟨(X1.cell (p:=⟨H,0,none⟩) ah).trans y0,(X1.cell (p:=⟨H,1,none⟩) ah).trans J,(X1.cell (p:=⟨H,2,none⟩) ah).trans y2⟩|exact⟨(X1.cell (p:=⟨H,0,none⟩) ah).trans ((UO.o.cell (p:=⟨H,0,none⟩) UM).trans y0),(X1.cell (p:=⟨H,1,none⟩) ah).trans ((UO.o.cell (p:=⟨H,1,none⟩) UM).trans J),(X1.cell (p:=⟨H,2,none⟩) ah).trans ((UO.o.cell (p:=⟨H,2,none⟩) UM).trans y2)⟩|go_keep) ((go_at_call 58;refine (jo.new _).mono ?_;rintro e n ⟨rfl,A,X1,N⟩))
     rotate_left
     ·have l:n.heap.size=a.heap.size+2:=N;have Qh:BB a n:=(Below.refl _ a).drew.trans X1;have PW:BB n (n.alloc (.map #[] 0)):=(Below.refl _ _).alloc (ax _) _;have Yd:(n.alloc (.map #[] 0)).heap.size=a.heap.size+2+1:=by simp[l]
      have HN:Hy (sP a ((n.alloc (.map #[] 0)).alloc (.cells (kI t wb (List.replicate 8 eY.lT) (List.replicate 8 (.slice none 0 0)) (a.heap.size+2) (a.heap.size+1) 0 0 eB (-1)).toArray 105)) (a.heap.size+2+1) (a.heap.size+2) (a.heap.size+1) a.heap.size wb t eB):=Hd (by
       have hd:=At.new mT n;rw[l]at hd;have hh:=Has.new (n.alloc (.map #[] 0)) (.cells (kI t wb (List.replicate 8 eY.lT) (List.replicate 8 (.slice none 0 0)) (a.heap.size+2) (a.heap.size+1) 0 0 eB (-1)).toArray 105);rw[Yd]at hh
       refine⟨(Qh.alloc ab _).alloc ah _,hh,hd.alloc _,(A.below PW).below ((Below.refl _ _).alloc (ax _) _),ab,ab⟩)
      clear X1 A N l Qh PW Yd Z6 y0 J y2;(go_wp2_with fail);go_meet;case rel=>exact⟨_,_,_,_,rfl,HN.o⟩
     (have l:n.heap.size=a.heap.size+1+2:=by have:=N;simpa using this);have Qh:Below (a.alloc (.map #[] 0)).drew.heap.size (a.alloc (.map #[] 0)).drew n:=X1;have Yd:(a.alloc (.map #[] 0)).drew.heap.size=a.heap.size+1:=by show (a.alloc (.map #[] 0)).heap.size=_;simp
     have HN:Hy (sP a (n.alloc (.cells (kI t wb (List.replicate 8 eY.lT) (List.replicate 8 (.slice none 0 0)) a.heap.size (a.heap.size+1+1) 0 0 eB (-1)).toArray 105)) (a.heap.size+1+2) a.heap.size (a.heap.size+1+1) (a.heap.size+1) wb t eB):=Hd (by
      have hd:At mT (a.alloc (.map #[] 0)).drew a.heap.size []:=(At.new mT a).fI (eJ.refl (fun _=>False) _).drew (fun h=>h);have cm:=hd.fI (eJ.il (S:=fun _=>False) Qh (ax _)) (fun h=>h);have hh:=Has.new n (.cells (kI t wb (List.replicate 8 eY.lT) (List.replicate 8 (.slice none 0 0)) a.heap.size (a.heap.size+1+1) 0 0 eB (-1)).toArray 105);rw[l]at hh;rw[Yd]at A
      refine⟨(UO.o.trans (Qh.mono (by rw[Yd];omega))).alloc ab _,hh,cm.alloc _,A.below ((Below.refl _ _).alloc (ax _) _),ab,ab⟩)
     clear X1 A N l Qh Yd Z6 y0 J y2;(go_wp2_with fail);go_meet;case rel=>exact⟨_,_,_,_,rfl,HN.o⟩
    case rest =>
     obtain⟨sb,dm,tb,tm,rfl,hn⟩:=hcut;have j:=Hd (hn.fj ZM.o ZE.o);have X8:=Hd (QV.o.jl hn.iA (ax _));have Rt:=Hd (Rc.o.below hn.iA UM);obtain⟨b,O⟩:=nm (oI (mz M a) sb dm tb tm);rw[<- O]at j
     have C:Hy (Ext w own b):=Hd fun k hk=>by
      obtain⟨g1,g2,g3,g4⟩:=hn.ge;have h1:=QV.o.size;rw[O,sQ ab ab ab ab];have QA:k<W2.heap.size:=aG hk Qo.o.size;exact YT.o k QA
     have bj:Hy (b H=0):=Hd (by
      obtain⟨g1,g2,g3,g4⟩:=hn.ge;rw[O,sQ ab ab ab ab]
      exact (YT.o H cj.o).trans XC.o)
     have bl:=Hd (IK wc j.o.fF ZM.o.kZ.len);have cp:=Hd ZM.o.kZ.right;have cq:=Hd ZM.o.kZ.len;obtain⟨m,b1⟩:=nm (List.replicate 8 (.slice none 0 0):List Value);rw[<- b1]at j;obtain⟨s0,R6⟩:=nm (eA.blank t eB);rw[<- R6]at j;have b3:=Hd R6;clear hn O b1 R6 ZM ZE QV Rc YT UO UM y0 J y2 Z6;(go_upto_region 8 with (go_at_call 59;refine bl.o.mono ?_;rintro e W5 ⟨vr,rfl,Q,PW⟩;obtain⟨ra,b4,cu⟩:=rD Q;subst cu));have T5:=Hd Q;have PF:=Hd (j.o.below PW);have SD:=Hd (X8.o.jl PW (ax _));have Rm:=Hd (Rt.o.below PW Rt.o.lt);have XE:Hy (∀g,(Value.slice ra d.eG.length b4).ownBlock=some g->b g=0):=Hd fun g i=>j.o.fr g (lK Q g i);clear Q PW j X8 Rt bl;(go_loopw [44] (fun ad wr=>∃(k:Nat) (s1:eA),k<=d.eG.length/\ad=VI k/\fC P b w0 wr sb db wb dm tb tm v ps m d s1/\s0.iN d.eG=s1.iN (d.eG.drop k)/\eJ (fun g=>g=sb\/g=dm) W5 wr/\s1.eX=false) (fun ad _=>d.eG.length-(intOf ad).toNat));case atStart=>exact⟨0,s0,ab,rfl,PF.o,by rw[List.drop_zero],eJ.refl _ _,by rw[b3.o];rfl⟩
     case round =>
      obtain⟨k,s1,hk,rfl,Qt,b6,QQ,QN⟩:=hrel;have D:=Hd Qt;have R:=Hd b6;have Qd:=Hd QQ;have Tu:=Hd QN
      have nX:¬(H=sb\/H=dm):=fun e=>by
       have T:=bj.o;rcases e with e|e
       ·rw[e,Qt.iL]at T;cases T
       rw[e,Qt.km]at T;cases T
      have b7:=Hd (QQ.has Rm.o nX)
      have al:Hy (wr.ownsRow wc.heap.size 124 6 (.slice ra d.eG.length b4) d.eG.length (lD d.eG)):=Hd (pN T5.o fun g i=>QQ.block g (by
       rcases T5.o.2 with⟨e,-⟩|⟨g',cap,cur,e,-,h2,-⟩
       ·rw[e]at i;cases i
       rw[e]at i;cases i;exact Has.lt (w:=W5) h2) (fun e=>by
       have T:=XE.o g i;rcases e with e|e
       ·rw[e,Qt.iL]at T;cases T
       rw[e,Qt.km]at T;cases T))
      clear Qt b6 QQ QN nX;by_cases PG:k<d.eG.length
      ·have ZF:d.eG.length<=200:=cq.o;have an:d.eG[k]?=some d.eG[k]:=ay PG;have PX:d.eG[k]∈d.eG:=bO PG;have Rr:d.eG.drop k=d.eG[k]::d.eG.drop (k+1):=cG PG;generalize hx:d.eG[k]=x at an PX Rr;have b8:=Hd (cp.o x PX);have cv:=Hd (D.o.ok.rc x PX);have aq:Hy (s0.iN d.eG=s1.iN (x::d.eG.drop (k+1))):=Hd (by rw[R.o,Rr]);obtain⟨g5,Qe,e5,da,SR⟩:=JN al.o an;simp only[Value.slice.injEq]at e5;obtain⟨rfl,-,rfl⟩:=e5;obtain⟨xc,xn,xo,xv,xd,E⟩:=x;have z0:CI wr g5 (k*6) xc:=SR 0 _ rfl;have z1:CI wr g5 (k*6+1) xn:=SR 1 _ rfl;have z2:CI wr g5 (k*6+2) xo:=SR 2 _ rfl;have z3:CI wr g5 (k*6+3) xv:=SR 3 _ rfl;have z4:CC wr g5 (k*6+4) (.string ⟨xd.toArray⟩):=SR 4 _ rfl;have z5:CI wr g5 (k*6+5) E:=SR 5 _ rfl;clear an PX Rr hx SR R;(go_upto_region 10 with fail);obtain⟨B,hB⟩:=nm wr.heap.size;obtain⟨c,G⟩:=nm (wr.alloc (.cells #[VI xc,VI xn,VI xo,VI xv,.string ⟨xd.toArray⟩,VI E] 124));rw[<- G,<- hB];(have RU:BB wr c:=by rw[G];exact (Below.refl _ _).alloc (ax _) _);(have Ur:Has c B (.cells #[VI xc,VI xn,VI xo,VI xv,.string ⟨xd.toArray⟩,VI E] 124):=by rw[G,hB];exact Has.new wr _);have Xr:=Hd Ur;have u:=Hd (D.o.below RU);have Uj:Hy (eJ (fun g=>g=sb\/g=dm) W5 c):=Hd (Qd.o.jl RU (ax _));have b2:CI c B 2 xo:=Ur.cell 2;have b5:CI c B 5 E:=Ur.cell 5;clear G RU Ur hB z0 z1 z2 z3 z4 z5 D Qd al
       cases hxo:decide (xo<0)with
       |true =>
        as_aux_lemma =>
         have ar:Hy (s0.iN d.eG=({s1 with eS:=max s1.eS E}:eA).iN (d.eG.drop (k+1))):=Hd (by
          rw[aq.o,eA.iN,if_pos (of_decide_eq_true hxo)])
         have F:CI c sb 30 s1.eS:=u.o.jJ 2 _ rfl;have f30:=u.o.s_.frozen 30;(go_upto_region 11 with fail);refine last.iJ (fun W=>CI W sb 30 s1.eS/\W.frozen? ⟨sb,30,none⟩=false/\CI W B 5 E) 10 11 ⟨F,f30,b5⟩ fun HS=>?_;refine last.many [(0,51,_),(1,52,_),(2,53,_),(3,54,_),(4,55,_),(5,56,_),(6,57,_),(7,58,_)] HS.o ?_ (hy:=fun W' Pt=>by have e1:=Pt.1;have f0:=Pt.2.2;repeat (first|exact .z|refine .s ?_|refine .k ?_));refine last.iF [9,8] 8 59 (VP sb 0) HS.o ?_;dsimp only[List.set];refine last.many [(9,60,_)] HS.o ?_;have dc:=HS.o.1;have dd:=HS.o.2.1;refine last.one 10 fun K hK=>?_;go_simp;refine hK.out _ _ (fun h=>absurd rfl h) ?_;refine last.done ?_;(go_wp2_with fail);have f:=(u.o.below (Below.refl _ _).drew).Bp (max s1.eS E);have XD:eJ (fun g=>g=sb\/g=dm) W5 (c.drew.setCell ⟨sb,30,none⟩ (VI (max s1.eS E))):=Uj.o.drew.setCell (p:=⟨sb,30,none⟩) (.inr (.inl rfl)) _;go_roundw
         case rel =>
          exact⟨k+1,_,ab,by go_num,f,ar.o,XD,Tu.o⟩
         case measure=>simp[intOf];omega
       |false =>
        as_aux_lemma =>
         have Qq:¬xo<0:=of_decide_eq_false hxo;have V2:=b8.o;unfold Rec.right at V2;dsimp only at V2;rw[if_neg ab]at V2;simp only[aF]at V2;have cJ:=kG.1 V2.1.1.1.2;obtain⟨o,rfl⟩:∃o:Nat,xo=o:=⟨xo.toNat,ab⟩
         have ar:Hy (s0.iN d.eG=(s1.jB ⟨xc,xn,o,xv,xd,E⟩).1.iN (d.eG.drop (k+1))):=Hd (by
          rw[aq.o,eA.iN,if_neg Qq])
         have cQ:=Hd (A4 c ⟨xc,xn,o,xv,xd,E⟩ o ab rfl cv.o u.o);have au:Hy ((s1.jB ⟨xc,xn,o,xv,xd,E⟩).1.eX=false):=Hd Tu.o;have de:Hy (BB c c):=Hd (Below.refl _ _);clear V2 cJ b8 aq b5
         go_wp2_with (first
          |(refine wpList_load_row rfl 124 (.tmp 12) rfl B rfl 124 _ (0,0) _ Xr.o Tryz.underlying124 rfl af ?_)
          |(go_at_call 60;refine cQ.o.mono ?_;rintro e W7 ⟨rfl,f,XD⟩))
         have Qm:eJ (fun g=>g=sb\/g=dm) W5 W7:=Uj.o.trans XD fun _ _ e=>e;go_roundw;(case rel=>exact⟨k+1,_,ab,by go_num,f,ar.o,Qm,au.o⟩);case measure=>simp[intOf];omega
      (obtain rfl:k=d.eG.length:=by omega);have QD:Hy (s0.iN d.eG=s1):=Hd (by rw[R.o,cd (ax _)];rfl)
      have dq:0<=t.fa/\t.fa<=274877906944:=by
       have h9:=bb.o;unfold eY.kz at h9;simp only[aF,decide_eq_true_eq]at h9;omega
      have F:CI wr sb 30 s1.eS:=D.o.jJ 2 _ rfl;have f30:=D.o.s_.frozen 30;obtain⟨ep,UP⟩:=nm (wrap64 (s1.eS+1));have b9:=Hd UP
      have VD:Hy (eJ (fL own) w wr):=Hd (SD.o.trans Qd.o fun k hk e=>by
       have h9:=C.o k hk;unfold fL;rcases e with e|e
       ·rw[<- h9,e,D.o.iL];decide
       rw[<- h9,e,D.o.km];decide)
      clear UP R al T5 PF SD Rm;(go_upto_region 15 with fail);rw[<- b9.o];obtain⟨c,G⟩:=nm (wr.setCell ⟨sb,30,none⟩ (VI ep));rw[<- G];have u:Hy (fC P b w0 c sb db wb dm tb tm v ps m d {s1 with eS:=ep}):=Hd (by rw[G];exact D.o.Bp ep)
      have Uj:Hy (eJ (fL own) w c):=Hd (by
       rw[G];refine VD.o.setCell (p:=⟨sb,30,none⟩) ?_ _;rcases bk sb w.heap.size with h9|h9
       ·right;have h8:=C.o sb h9;unfold fL;rw[<- h8,D.o.iL];decide
       exact .inl h9)
      have ca:Hy (Has c H (.cells #[VI t.eF,VI t.fa,VI t.fH] 29)):=Hd (by
       rw[G]
       exact b7.o.jv (p:=⟨sb,30,none⟩) (fun e=>by have h9:=bj.o;rw[show H=sb from e,D.o.iL]at h9;cases h9) _)
      clear G D VD b7 F f30 Qd;have F:CI c sb 30 ep:=u.o.jJ 2 _ rfl;have cV:CI c sb 31 s1.quiet:=u.o.jJ 3 _ rfl;have f31:=u.o.s_.frozen 31;have J:CI c H 1 t.fa:=ca.o.cell 1;obtain⟨pb,a1⟩:=nm (decide (1<ep));have c2:decide (1<ep)=pb:=a1.symm
      obtain⟨y,TK⟩:=nm ((if pb then { ({s1 with eS:=ep}:eA)with quiet:=eB+t.fa} else {s1 with eS:=ep}):eA)
      have Q9:=Hd TK;have Xy:=Hd a1;clear a1 TK;(go_upto_if 76 with fail);go_cut [77] (fun _ wx=>fC P b w0 wx sb db wb dm tb tm v ps m d y/\eJ (fL own) w wx)
      case first =>
       cases pb with
       |false =>
        have HE:Hy (y={s1 with eS:=ep}):=Hd Q9.o;(go_wp2_with fail);go_meet;case rel=>rw[HE.o];exact⟨u.o,Uj.o⟩
       |true =>
        have HE:Hy (y={ ({s1 with eS:=ep}:eA)with quiet:=eB+t.fa}):=Hd Q9.o;have c4:=Hd (u.o.JP (eB+t.fa))
        have c6:Hy (eJ (fL own) w (c.setCell ⟨sb,31,none⟩ (VI (eB+t.fa)))):=Hd (by
         refine Uj.o.setCell (p:=⟨sb,31,none⟩) ?_ _;rcases bk sb w.heap.size with h9|h9
         ·right;have h8:=C.o sb h9;unfold fL;rw[<- h8,u.o.iL];decide
         exact .inl h9)
        (go_wp2_with fail);go_meet;case rel=>rw[HE.o];exact⟨c4.o,c6.o⟩
      case rest =>
       obtain⟨f,XD⟩:=hcut;(have a6:y.eS=ep:=by rw[Q9.o];split<;>rfl);(have U:y.eX=false:=by rw[Q9.o];split<;>exact Tu.o);obtain⟨p,hp⟩:=nm (d.add false ⟨0,0,-1,0,[],ep⟩);obtain⟨pe,d2,dn⟩:=p;obtain⟨ev,Qx⟩:=nm (iC pe);have T6:=Hd f;have RY:=Hd XD;have c9:wc.cell? ⟨sb,30,none⟩=some (VI ep):=by rw[<- a6];exact f.jJ 2 _ rfl
       have Uh:Hy (Calls Tryz.prog 61 #[VP wb 0,.agg #[VI 0,VI 0,VI (-1),VI 0,.string ⟨#[]⟩,VI ep],VI (-1)] wc fun e w'=>e=.returned ev/\∃Y v2 WW,Ext wc b Y/\eJ (fun g=>g=wb\/g=db\/b g=2) wc w'/\fC P Y w0 w' sb db wb dm tb tm v2 WW m d2 {y with eX:=dn}):=Hd (by
        have key:=Bb wc ⟨0,0,-1,0,[],ep⟩ (-1) (by show (0:Nat)<=20;decide) (by show (0:Int)<=0/\(0:Int)<4;decide) f U;unfold uF at key;rw[U,<- hp,<- Qx]at key
        exact key)
       have T3:Hy (r=if pe=0 then (0,d2,some y) else (pe,d2,none)):=Hd (by
        rw[HR.o];unfold eA.new
        have h9:¬(!eY.kz t||!fR eB 0 eY.half)=true:=by
         rw[bb.o];have:fR eB 0 eY.half=true:=kG.2 ⟨Tn,ch⟩;rw[this];decide
        rw[if_neg h9];dsimp only;(have XZ:(eA.blank t eB).iN d.eG=s1:=by rw[<- b3.o];exact QD.o);rw[XZ,<- b9.o]
        have c7:(if 1<ep then { ({s1 with eS:=ep}:eA)with quiet:=eB+t.fa} else ({s1 with eS:=ep}:eA))=y:=by
         rw[Q9.o];by_cases V:1<ep
         ·(have:pb=true:=by rw[Xy.o];exact decide_eq_true V);rw[if_pos V,this];rfl
         (have:pb=false:=by rw[Xy.o];exact decide_eq_false V);rw[if_neg V,this];rfl
        have ds:({s1 with eS:=ep}:eA).eS=ep:=rfl
        show (let s:=(if 1<ep then { ({s1 with eS:=ep}:eA)with quiet:=eB+t.fa} else ({s1 with eS:=ep}:eA));let p:=d.add false ⟨0,0,-1,0,[],s.eS⟩;if p.1=0 then (0,p.2.1,some s) else (p.1,p.2.1,none))=_
        rw[c7];dsimp only
        rw[a6,<- hp])
       have au:Hy (pe=0->{y with eX:=dn}=y):=Hd fun h=>by
        have VM:=JQ (d:=d) (r:=⟨0,0,-1,0,[],ep⟩) (by rw[<- hp];exact h);rw[<- hp]at VM;dsimp only at VM;rw[VM,<- U]
       have TN:=Hd Qx;clear f XD a6 U hp Qx u Uj ca F cV f31 J c2;(go_upto_region 18 with (go_at_call 61;refine Uh.o.mono ?_;rintro e W9 ⟨rfl,Tm,v9,a7,cb,Su,Vj⟩));have ZN:=Hd Vj;have cc:Hy (Ext w own Tm):=Hd fun k hk=>(cb k (aG hk RY.o.size)).trans (C.o k hk)
       have VG:Hy (eJ (fL own) w W9):=Hd (RY.o.trans Su fun k hk e=>by
        have h8:=T6.o.Bc k (aG hk RY.o.size) e;unfold fL at h8⊢
        rwa [C.o k hk]at h8)
       clear Vj cb Su Uh T6;by_cases Z:pe=0
       ·(have hv:ev=.nilIface:=by rw[TN.o,Z];rfl);subst hv;have HE:Hy (r=(0,d2,some y)):=Hd (by rw[T3.o,if_pos Z]);have YU:Hy (fC P Tm w0 W9 sb db wb dm tb tm v9 a7 m d2 y):=Hd (by rw[<- au.o Z];exact ZN.o);clear Z TN;(go_wp2_with fail);go_ret2;rw[HE.o];exact⟨Tm,cc.o,VG.o,sb,wb,dm,tb,tm,v9,a7,m,rfl,YU.o⟩
       (have hv:ev=.iface 70 (VI pe):=by rw[TN.o,o8 Z]);subst hv;have HE:Hy (r=(pe,d2,none)):=Hd (by rw[T3.o,if_neg Z]);have c8:=Hd Z;clear Z TN;(go_wp2_with fail);go_ret2;rw[HE.o];exact⟨Tm,cc.o,VG.o,a7,by rw[o8 c8.o];rfl,ZN.o.eP⟩
end
end fj
end Go.Proofs.YtjhdaojclilakaaGreatDoor
