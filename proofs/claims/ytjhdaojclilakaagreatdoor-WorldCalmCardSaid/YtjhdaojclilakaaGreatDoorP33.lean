/-
  A part of the proof of the law WorldCalm: ClH.
-/
import Derived.Test.YtjhdaojclilakaaGreatDoorHd
import Derived.Test.YtjhdaojclilakaaGreatDoorP32
set_option maxHeartbeats 16000000
set_option maxRecDepth 1000000
namespace Go.Proofs.YtjhdaojclilakaaGreatDoor
section
variable {p q:Prop}
theorem aal (h:p:=by
 have Q4:Hy (RZ=false):=Hd (by rw[HG.o];simp);(go_wp2_with fail);go_meet;case rel=>exact⟨by rw[Q4.o];rfl,rfl⟩):p:=h
end
namespace gj
open Go.RowKit heap own gC gO fD fj cache
open eY (eM jg ir fU iM fw put del)
section
variable {own own1:Nat->Nat} {T:Nat} {w wr w' w1:World} {cb fm sm:Nat} {cv:Value} {c c':eM}
def sR (k:iM):Value:=.agg #[VI k.eO,VI k.eF,.string ⟨k.value.data.toArray⟩,VI k.value.fq,.bool k.over,.bool k.hit]
theorem xN (w:World) (h:fM own T w cb fm sm cv c):Calls Tryz.prog 51 #[VP cb 0] w fun e w'=>e=.returned (sR c.call)/\BB w w':=by
 refine aaN ?_;intro TQ c13 ZR c15 c16 c17;have a:=h.lt;clear h;unfold sR;(go_enter Tryz.func51,Tryz.ntmps51);go_wp2;exact bodyPost_ret (results_cell_row Tryz.results51 _ _ w.heap.size 43 _ (0,0) _ rfl (Has.new w _) Tryz.underlying43 rfl af) rfl ⟨rfl,(Below.refl _ _).alloc (ax _) _⟩
def qE (own:Nat->Nat) (T cb fm sm:Nat):Nat->Nat:=fun k=>if k=cb then T else if k=fm then T+2 else if k=sm then T+3 else own k
def Kg (own:Nat->Nat) (T:Nat) (w:World) (r:Option eM) (e:Ending) (w':World):Prop:=
 match r with
 |none=>e=.returned (.tuple #[.pointer none,iC 2])/\BB w w'
 |some c=>∃own1 cb fm sm,e=.returned (.tuple #[VP cb 0,.nilIface])/\Ext w own own1/\(∀g,w'.heap.size<=g->own1 g=0)/\fM own1 T w' cb fm sm (.slice none 0 0) c/\BB w w'/\w.heap.size<=cb
theorem BE (id gv eB:Int) (t:fU) (w:World) (R:∀g,w.heap.size<=g->own g=0) :
 Calls Tryz.prog 35 #[VI id,nM t,VI gv,VI eB] w (Kg own T w (eM.new id t gv eB)):=by
 obtain⟨r,m⟩:=nm (eM.new id t gv eB);obtain⟨d,i⟩:=nm (w.alloc (.cells #[VI t.eF,VI t.fa,VI t.fH] 29));(have e:BB w d:=by rw[i];exact (Below.refl _ _).alloc (ax _) _);(have f:Has d w.heap.size (.cells #[VI t.eF,VI t.fa,VI t.fH] 29):=by rw[i];exact Has.new w _);have y0:CI d w.heap.size 0 t.eF:=f.cell 0;have y1:CI d w.heap.size 1 t.fa:=f.cell 1;have y2:CI d w.heap.size 2 t.fH:=f.cell 2;obtain⟨RZ,n⟩:=nm (eY.fX id&&eY.fR gv 0 1000&&eY.fR eB 0 eY.half&&eY.fR t.fH 0 500&&eY.fR t.eF 0 274877906944&&eY.fR t.fa 0 274877906944);obtain⟨b0,q⟩:=nm (decide (id<0));have e0:decide (id<0)=b0:=q.symm;obtain⟨s,e⟩:=nm (decide (4<=id));have e1:decide (4<=id)=s:=e.symm;obtain⟨u,v⟩:=nm (decide (gv<0));have e2:decide (gv<0)=u:=v.symm;obtain⟨x,y⟩:=nm (decide (1000<gv));have e3:decide (1000<gv)=x:=y.symm;obtain⟨z,A⟩:=nm (decide (eB<0));have e4:decide (eB<0)=z:=A.symm;obtain⟨B,C⟩:=nm (decide (549755813888<eB));have e5:decide (549755813888<eB)=B:=C.symm;obtain⟨D,E⟩:=nm (decide (t.fH<0));have e6:decide (t.fH<0)=D:=E.symm;obtain⟨F,G⟩:=nm (decide (500<t.fH));have e7:decide (500<t.fH)=F:=G.symm;obtain⟨H,I⟩:=nm (decide (t.eF<0));have e8:decide (t.eF<0)=H:=I.symm;obtain⟨J,K⟩:=nm (decide (t.fa<0));have e9:decide (t.fa<0)=J:=K.symm;obtain⟨a,L⟩:=nm (decide (274877906944<t.eF));have W:decide (274877906944<t.eF)=a:=L.symm;obtain⟨b,M⟩:=nm (decide (274877906944<t.fa));have X:decide (274877906944<t.fa)=b:=M.symm
 have j:RZ=!(b0||s||u||x||z||B||D||F||H||J||a||b):=by
  rw[n,q,e,v,y,A,C,E,G,I,K,L,M];unfold eY.fX eY.fR eY.half;rw[cr];simp only[aF,decide_eq_true_eq,aV,bY,decide_eq_false_iff_not];omega
 have HG:=Hd j;clear q e v y A C E G I K L M j;have HR:=Hd m;have N:=Hd n;have l:=Hd e;have Qn:=Hd f;have Y:=Hd R;rw[<- m];unfold nM;clear m n e f R;(go_enter Tryz.func35,Tryz.ntmps35);(go_upto_region 1 with fail);rw[<- i];clear i;go_cut [61] (fun Z wx=>Z=.bool (!RZ)/\wx=d)
 case first =>
  cases b0 with
  |true =>
   exact aal
  |false =>
   cases s with
   |true =>
    exact aal
   |false =>
    cases u with
    |true =>
     exact aal
    |false =>
     cases x with
     |true =>
      exact aal
     |false =>
      cases z with
      |true =>
       exact aal
      |false =>
       cases B with
       |true =>
        exact aal
       |false =>
        cases D with
        |true =>
         exact aal
        |false =>
         cases F with
         |true =>
          exact aal
         |false =>
          cases H with
          |true =>
           exact aal
          |false =>
           cases J with
           |true =>
            exact aal
           |false =>
            cases a with
            |true =>
             exact aal
            |false =>
             cases b with
             |true =>
              exact aal
             |false =>
              have Q4:Hy (RZ=true):=Hd (by rw[HG.o];rfl);(go_wp2_with fail);go_meet;case rel=>exact⟨by rw[Q4.o];rfl,rfl⟩
 case rest =>
  obtain⟨ht,QM⟩:=hcut;subst ht;subst QM;clear HG
  cases RZ with
  |false =>
   have O:Hy (r=none):=Hd (by rw[HR.o];unfold eM.new;rw[<- N.o];rfl);(go_wp2_with fail);go_ret2;rw[O.o];exact⟨rfl,l.o⟩
  |true =>
   have O:Hy (r=some ⟨id,t,gv*1048576,0,0,eB,0,[],[],[],eY.oG,0,0,0,0⟩):=Hd (by rw[HR.o];unfold eM.new;rw[<- N.o];rfl)
   have aa:0<=gv/\gv<=1000:=by
    have S:=N.o.symm;simp only[aF]at S;exact iR.kG.1 S.1.1.1.1.2
   have Z6:=@run_makeMap Tryz.prog;(go_wp2_with fail);have P:BB wc (wc.alloc (.map #[] 0)):=(Below.refl _ _).alloc (ax _) _;have c:=P.alloc P.size (.map #[] 0)
   have HN:Hy (fM (qE own T (wc.heap.size+1+1) wc.heap.size (wc.heap.size+1)) T (((wc.alloc (.map #[] 0)).alloc (.map #[] 0)).alloc (.cells (lX ⟨id,t,gv*1048576,0,0,eB,0,[],[],[],eY.oG,0,0,0,0⟩ (.slice none 0 0) wc.heap.size (wc.heap.size+1)) 113)) (wc.heap.size+1+1) wc.heap.size (wc.heap.size+1) (.slice none 0 0) ⟨id,t,gv*1048576,0,0,eB,0,[],[],[],eY.oG,0,0,0,0⟩):=Hd (by
    have h1:=((At.new kU wc).alloc (.map #[] 0)).alloc (.cells (lX ⟨id,t,gv*1048576,0,0,eB,0,[],[],[],eY.oG,0,0,0,0⟩ (.slice none 0 0) wc.heap.size (wc.heap.size+1)) 113);have U:=(At.new kU (wc.alloc (.map #[] 0))).alloc (.cells (lX ⟨id,t,gv*1048576,0,0,eB,0,[],[],[],eY.oG,0,0,0,0⟩ (.slice none 0 0) wc.heap.size (wc.heap.size+1)) 113);have V:=Has.new ((wc.alloc (.map #[] 0)).alloc (.map #[] 0)) (.cells (lX ⟨id,t,gv*1048576,0,0,eB,0,[],[],[],eY.oG,0,0,0,0⟩ (.slice none 0 0) wc.heap.size (wc.heap.size+1)) 113);simp only[World.size_alloc]at U V
    refine⟨V,by unfold qE;rw[if_pos rfl],Row.nil _ _ _ _ _,ae,h1,by unfold qE;rw[if_neg ab,if_pos rfl],U,by unfold qE;rw[if_neg ab,if_neg ab,if_pos rfl],fun p hp=>(by cases hp),fun p hp=>(by cases hp)⟩)
   have Q:Hy (BB w (((wc.alloc (.map #[] 0)).alloc (.map #[] 0)).alloc (.cells (lX ⟨id,t,gv*1048576,0,0,eB,0,[],[],[],eY.oG,0,0,0,0⟩ (.slice none 0 0) wc.heap.size (wc.heap.size+1)) 113))):=Hd (l.o.trans ((c.alloc c.size _).mono l.o.size));clear P c Z6;go_ret2;rw[O.o];have hs:=l.o.size;refine⟨qE own T (wc.heap.size+1+1) wc.heap.size (wc.heap.size+1),_,_,_,rfl,fun k hk=>?_,fun g j=>?_,HN.o,Q.o,ab⟩
   ·unfold qE;rw[if_neg ab,if_neg ab,if_neg ab]
   simp only[World.size_alloc]at j;unfold qE;rw[if_neg ab,if_neg ab,if_neg ab];exact Y.o g ab
end
end gj
end Go.Proofs.YtjhdaojclilakaaGreatDoor
