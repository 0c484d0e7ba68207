/-
  A part of the proof of the law DeskPieces: DkB, DkD, DkF, DkX.
-/
import Derived.Test.YtlhodcmdpchllaaGreatDoorShelfD
import Derived.Lib.SmallJoins
import Derived.Lib.ItoaLen
import Derived.Deep.Cut
import Derived.Deep.QuietTactic
import Derived.Defers
import Derived.Recover
import Derived.Laws.Pointers
import Derived.Stop.Asserts
import Derived.Test.YtlhodcmdpchllaaGreatDoorHd
import Derived.Test.YtlhodcmdpchllaaGreatDoorP05
import Derived.Test.YtlhodcmdpchllaaGreatDoorP15
import Derived.Test.YtlhodcmdpchllaaGreatDoorP21
set_option maxHeartbeats 16000000
set_option maxRecDepth 1000000
namespace Go.Proofs.YtlhodcmdpchllaaGreatDoor
namespace dk
open dI (Bytes)
open Go.RowKit heap eO dZ ff own eK
def qo (w:World):Prop:=∃ty v,w.cell? ⟨5,0,none⟩=some (.iface ty v)
theorem qo.below {w w':World} (h:qo w) (hb:Below w.heap.size w w'):qo w':=by
 obtain⟨ty,v,h⟩:=h;exact⟨ty,v,(hb.cell (p:=⟨5,0,none⟩) (l4 h)).trans h⟩
structure jY (P:Lib.PrintTabs) (w:World):Prop where
 hO:jr P w
 handle:Handle w
 range:qo w
theorem jY.below {P:Lib.PrintTabs} {w w':World} (h:jY P w) (hb:Below w.heap.size w w'):jY P w':=⟨h.hO.below hb,h.handle.below hb,h.range.below hb⟩
theorem Hn (P:Lib.PrintTabs) (s:ByteArray) (hs:s.size<=1000000) (w:World) (h:jY P w) :
 Calls Tryz.prog 23 #[.string s] w fun e w'=>∃v ev,e=.returned (.tuple #[.int .i64 v,ev])/\Below w.heap.size w w' /\ -9223372036854775808<=v/\v<=9223372036854775807 /\
  ((ev=.nilIface/\num s.data.toList=if gR v=s.data.toList then some v else none)\/(∃t p,ev=.iface t p)/\num s.data.toList=none):=by
 rcases ha:Lib.atoiAll s.data.toList with v|_|_
 ·refine (Tryz.strconv_Atoi_ok s (by omega) v ha w).mono ?_;rintro e w' ⟨rfl,hw⟩;obtain⟨b0,b1⟩:=Lib.atoiAll_bounds ha;refine⟨v,_,rfl,?_,b0,by omega,.inl ⟨rfl,by unfold num;rw[ha]⟩⟩;rcases hw with rfl|⟨t,rfl⟩
  ·exact Below.refl _ _
  exact Joins.below_bytesWorld _ w _ t (aq _)
 ·obtain⟨ty,v,hv⟩:=h.hO.err;refine (Tryz.strconv_Atoi_syntax s (by omega) ha _ w hv (.inr ⟨ty,v,rfl⟩)).mono ?_;rintro e w' ⟨n,rfl,-,-,hb⟩;exact⟨0,_,rfl,hb,by omega,by omega,.inr ⟨⟨_,_,rfl⟩,by unfold num;rw[ha]⟩⟩
 obtain⟨ty,v,hv⟩:=h.range;refine (Tryz.strconv_Atoi_range s (by omega) ha _ w hv (.inr ⟨ty,v,rfl⟩)).mono ?_;rintro e w' ⟨n,rfl,-,-,hb⟩;obtain⟨b0,b1⟩:=Lib.atoiSat_bounds s.data.toList;exact⟨_,_,rfl,hb,b0,by omega,.inr ⟨⟨_,_,rfl⟩,by unfold num;rw[ha]⟩⟩
theorem r6 {a b:Bytes} (h:a≠b):(a==b)=false:=by simpa using h
theorem ic (a b:Bytes) (h:a.length+b.length<=1000000000) (w:World):(Op.stringOp .add ⟨a.toArray⟩ ⟨b.toArray⟩).run Tryz.prog w=.ok (.string ⟨(a++b).toArray⟩) w:=by
 unfold Op.stringOp;dsimp only;rw[if_neg (by show ¬(((a.length+b.length:Nat):Int)>9223372036854775807);omega)]
 have e:(⟨a.toArray⟩:ByteArray)++⟨b.toArray⟩=⟨(a++b).toArray⟩:=by
  apply ByteArray.ext;simp
 rw[e];rfl
def gF (w:World) (g o:Nat) (ws:List Bytes):Prop:=∀(j:Nat) (x:Bytes),ws[j]?=some x->w.cell? ⟨g,o+j,none⟩=some (.string ⟨x.toArray⟩)
theorem gF.below {B:Nat} {w w':World} {g o:Nat} {ws:List Bytes} (h:gF w g o ws) (hb:Below B w w') (hg:g<B):gF w' g o ws:=fun j x hx=>(hb.cell (p:=⟨g,o+j,none⟩) hg).trans (h j x hx)
theorem uA:∀(l:List Bytes) (s:Bytes),fo (l++[s])=(match fo l with|none=>none|some vs=>match num s with|none=>none|some v=>some (vs++[v]))
 | [],s=>by simp only[bL,fo];cases num s<;>rfl
 |a::l,s=>by
  simp only[bn,fo,uA l s]
  cases num a with
  |none=>rfl
  |some v =>
   cases fo l with
   |none=>rfl
   |some vs =>
    cases num s with
    |none=>rfl
    |some u=>rfl
theorem Ho {l:List Bytes} (h:fo l=none):∀l2,fo (l++l2)=none:=by
 induction l with
 |nil=>cases h
 |cons a l ih =>
  intro l2;simp only[bn,fo]at h⊢
  cases ha:num a with
  |none=>rfl
  |some v =>
   rw[ha]at h;dsimp only at h⊢
   cases hl:fo l with
   |none=>rw[ih hl]
   |some vs=>rw[hl]at h;cases h
theorem Hp:(Tryz.prog.info? 3).map (fun i=>(i.zero,i.size,i.bytes))=some (some (.int .i64 0),1,8):=by kernel_rfl
theorem ja (P:Lib.PrintTabs) (w:World) (g o c:Nat) (ws:List Bytes) (n:Int) (hw:gF w g o ws) (hg:g<w.heap.size) (hc:ws.length<=c) (hl:ws.length<=100000) (hs:∀x∈ws,x.length<=100000) (h:jY P w) :
 Calls Tryz.prog 12 #[.slice (some ⟨g,o,none⟩) ws.length c,.int .i64 n] w fun e w'=>Below w.heap.size w w'/\match ff.numbers ws n with
  |none=>e=.panicked [{v:=oA 3,recovered:=false}]
  |some l=>∃u,e=.returned u/\w'.ownsRow w.heap.size 3 1 u l.length (l.map (Value.int .i64)):=by
 obtain⟨i0,KO,La,KH,KD⟩:=info_parts Hp;obtain⟨m,hm⟩:∃m,m=ws.length:=⟨_,rfl⟩;obtain⟨r,hr⟩:∃r,r=ff.numbers ws n:=⟨_,rfl⟩;have HR:=Hd hr;have TQ:=Hd fun (w1:World) (hb:Below w.heap.size w w1)=>jO 3 w1 (h.handle.below hb);have HW:=Hd hw;have HS:=Hd hs;have M0:=Hd h;rw[<- hr,<- hm];rw[<- hm]at hc hl;have QV:=Hd hm;clear hr hw hs h
 cases hn:decide (0<=n)&&decide ((m:Int)≠n)with
 |true =>
  simp only[aK,decide_eq_true_eq]at hn;have d0:decide (0<=n)=true:=decide_eq_true hn.1;(have d1:((m:Int) !=n)=true:=by simpa using hn.2);(have hr:r=none:=by rw[HR.o];unfold ff.numbers;rw[if_pos (by rw[<- QV.o];simp[hn.1,hn.2])]);subst hr;clear hm hn;(go_enter Tryz.func12,Tryz.ntmps12);(go_wp2_with (go_at_call 14;refine (TQ.o _ (Below.refl _ _)).mono ?_;rintro e w1 ⟨rfl,hb⟩));exact⟨rfl,hb,rfl⟩
 |false =>
  (have hnn:r=fo ws:=by rw[HR.o];unfold ff.numbers;rw[<- QV.o,hn];rfl);have HNN:=Hd hnn;have ae4:Hy (ws.length<=m):=Hd (by omega);have hfz:∀k,k<m->∃s,ws[k]?=some s:=fun k hk=>⟨_,ax (by omega)⟩;have HFZ:=Hd hfz;obtain⟨z1,hz⟩:∃z1,z1=decide (0<=n):=⟨_,rfl⟩;obtain⟨z2,Yh⟩:∃z2,z2=((m:Int) !=n):=⟨_,rfl⟩;have d0:decide (0<=n)=z1:=hz.symm;have d1:((m:Int) !=n)=z2:=Yh.symm;have HZ:Hy ((z1&&z2)=false):=Hd (by rw[hz,Yh,<- hn];cases decide (0<=n)<;>simp[bne,BEq.beq]);clear hnn hm hn hfz hz Yh HR QV;(go_enter Tryz.func12,Tryz.ntmps12);(go_upto_region 1 with fail);go_cut [17] (fun t wx=>t=.bool false/\wx=w)
  case first =>
   cases z1 with
   |false =>
    (go_wp2_with fail);go_meet;case rel=>exact⟨rfl,rfl⟩
   |true =>
    have KD:z2=false:=HZ.o;subst KD;(go_wp2_with fail);go_meet;case rel=>exact⟨rfl,rfl⟩
  case rest =>
   obtain⟨rfl,rfl⟩:=hcut;clear HZ d0 d1;(go_wp2_with fail);(go_loopw [5,7,8,9,22] (fun q5 _ _ _ Sd wx=>∃(k:Nat) (vs:List Int),k<=m/\Sd=.int .i64 k/\fo (ws.take k)=some vs/\vs.length=k/\wx.ownsRow wc.heap.size 3 1 q5 k (vs.map (Value.int .i64))/\Below wc.heap.size wc wx) (fun _ _ _ _ Sd _=>m-(intOf Sd).toNat));case atStart=>exact⟨0,[],by omega,rfl,rfl,rfl,World.ownsRow_nil wc _ 3 1,Below.refl _ _⟩
   case round =>
    obtain⟨k,vs,hk,rfl,hvs,QL,KQ,hb⟩:=hrel;have XT:=Hd hvs;have HVL:=Hd QL;have PW:=Hd KQ;have HB:=Hd hb;clear hvs QL KQ;by_cases O8:k<m
    ·have d2:decide ((k:Int)<(m:Int))=true:=decide_eq_true (by omega);have YO:decide (k<m)=true:=decide_eq_true O8;obtain⟨s,hs⟩:=HFZ.o k O8;have c1:wr.cell? ⟨g,o+k,none⟩=some (.string ⟨s.toArray⟩):=(HW.o.below hb hg) k s hs;have MO:=HS.o s (aR hs);have UT:=Hd hs;have HA:=Hd (Hn P ⟨s.toArray⟩ (by show s.length<=_;omega) wr (M0.o.below hb))
     have Lz:Hy (num s=none->r=none):=Hd fun h9=>by
      rw[HNN.o,<- cD (k+1) ws];refine Ho ?_ _;rw[bC (ar.1 hs).1,uA,XT.o];have e9:ws[k]'(ar.1 hs).1=s:=(ar.1 hs).2;rw[e9,h9]
     clear hs MO;(go_upto_region 8 with (go_at_call 23;refine HA.o.mono ?_;rintro e w1 ⟨v,ev,rfl,Kd,b0,b1,aaU⟩));have Ki:Hy (Below wc.heap.size wc w1):=Hd (hb.trans (Kd.mono hb.size));have HBR:=Hd Kd;have UJ:=Hd (kQ v b0 b1 w1 (M0.o.below Ki.o).hO.fD);clear hb Kd HA c1;rcases aaU with⟨rfl,S5⟩|⟨⟨te,pe,rfl⟩,S5⟩
     ·obtain⟨t,ht⟩:∃t,t=Lib.itoa v:=⟨_,rfl⟩
      have QY:num s=if t=s then some v else none:=by
       have h9:=S5;rw[jW v b0 b1,<- ht]at h9;exact h9
      rw[<- ht]at UJ;clear S5 ht;by_cases hse:t=s
      ·(have aaV:num s=some v:=by rw[QY,if_pos hse]);clear QY;subst hse;have HRB:=Hd (jE PW.o HBR.o);(go_upto_region 10 with (go_at_call 19;refine UJ.o.mono ?_;rintro e w2 ⟨rfl,Ke⟩));have PK:Hy ((w2.alloc (.cells #[.int .i64 v] 3)).ownsRow wc.heap.size 3 1 u5 k (vs.map (Value.int .i64))):=Hd ((jE HRB.o Ke).alloc _);have Kk:=Ki.o.trans (Ke.mono Ki.o.size);have LH:=Kk.size;have Lf:=Hd Kk;clear Ke Kk;go_wp2_with (at_builtin;refine wpList_append_own _ rfl (.tmp 41) (.tmp 43) 44 rfl wc.heap.size 3 i0 (.int .i64 0) 1 8 Tryz.underlying44 KO La KH KD rfl (by decide) _ _ _ rfl PK.o ⟨w2.heap.size,0,none⟩ 1 1 [.int .i64 v] rfl rfl ?c1 (by simp[Value.oneCell']) ?c3 ?c4 ?c5 ?_)
       case c1 =>
        intro j u hj;have hn:=Has.new w2 (.cells #[.int .i64 v] 3)
        match j,hj with
        |0,hj =>
         (obtain rfl:Value.int .i64 v=u:=by simpa using hj);exact hn.cell 0
       (case c3=>unfold maxLen;omega);(case c4=>omega);(case c5=>simp;omega);intro u2 w3 Kt KE _;(go_wp2_with fail);go_roundw
       case rel =>
        refine⟨k+1,vs++[v],by omega,by go_num,?_,by simp[HVL.o],?_,?_⟩
        ·have hs:=UT.o;rw[bC (ar.1 hs).1,uA,XT.o];have e9:ws[k]'(ar.1 hs).1=t:=(ar.1 hs).2;rw[e9,aaV]
        ·rw[bN];exact Kt
        exact (Lf.o.alloc LH _).grown KE (by simp;omega) (fun j hj=>jF PW.o j hj)
       case measure=>simp[intOf];omega
      have Vh:r=none:=Lz.o (by rw[QY,if_neg hse]);subst Vh;have d3:=r6 hse;clear QY;(go_upto_region 9 with (go_at_call 19;refine UJ.o.mono ?_;rintro e w2 ⟨rfl,Ke⟩));have Kk:=Ki.o.trans (Ke.mono Ki.o.size);(go_wp2_with (go_at_call 14;refine (TQ.o _ Kk).mono ?_;rintro e w3 ⟨rfl,KB⟩));exact⟨rfl,Kk.trans (KB.mono Kk.size),rfl⟩
     have Vh:r=none:=Lz.o S5;subst Vh;clear S5 UJ;(go_wp2_with (go_at_call 14;refine (TQ.o _ Ki.o).mono ?_;rintro e w2 ⟨rfl,Ke⟩));exact⟨rfl,Ki.o.trans (Ke.mono Ki.o.size),rfl⟩
    have d2:decide ((k:Int)<(m:Int))=false:=decide_eq_false (by omega);have YO:decide (k<m)=false:=decide_eq_false O8;(have hkk:k=m:=by omega);subst hkk;(have hrr:r=some vs:=by rw[HNN.o,<- XT.o,ba (by have:=ae4.o;omega)]);subst hrr;(go_wp2_with fail);go_ret;refine⟨hb,_,rfl,?_⟩;rw[HVL.o];exact PW.o
end dk
namespace dk
open dI (Bytes)
open Go.RowKit heap eO dZ ff own
theorem I8 (w:World):PredAt Tryz.prog 21 #[] encR (fun r=>r==32) w:=by
 intro W x _
 have hx:((x:Int)==32)=(x==32):=by
  rw[bE];simp only[beq_iff_eq];omega
 show Calls _ _ _ _ _;unfold encR;(go_enter Tryz.func21,Tryz.ntmps21);go_wp2;go_ret;exact⟨rfl,0,rfl⟩
theorem I9 (s:Bytes) (hs:s.length<=1000000) (w:World) :
 Calls Tryz.prog 20 #[.string ⟨s.toArray⟩,.func (.func 21) #[] #[]] w fun e w'=>∃A,e=.returned (.slice (some ⟨A,0,none⟩) (words s).length (words s).length)/\w.heap.size<=A /\
  ((words s).length≠0->A<w'.heap.size)/\gF w' A 0 (words s)/\Below w.heap.size w w':=by
 refine (Tryz.strings_FieldsFunc 21 #[] (fun _ _=>by kernel_rfl) (fun r=>r==32) ⟨s.toArray⟩ w (by show s.length<=_;omega) (I8 w)).mono ?_;rintro e w' ⟨A,rfl,hA,hr,hb⟩;(have hl:(words s).length=(Lib.goFieldsP (fun r=>r==32) ⟨s.toArray⟩).length:=by simp[words]);rw[hl];refine⟨A,rfl,hA,?_,?_,hb⟩
 ·intro h0;rcases hr.2 with⟨-,h9⟩|⟨g,cap,cur,h1,-,hg,-,-,-,h4⟩
  ·exact absurd h9 h0
  (obtain⟨rfl,-⟩:A=g/\_:=by simpa using h1);exact Has.lt (w:=w') hg
 intro j x hx;rcases hr.2 with⟨-,h9⟩|⟨g,cap,cur,h1,-,hg,-,-,-,h4⟩
 ·rw[<- hl]at h9;rw[aP h9]at hx;cases hx
 (obtain⟨rfl,-⟩:A=g/\_:=by simpa using h1);have hj:=(ar.1 hx).1;rw[bW,(ij (w:=w') (n:=(Lib.goFieldsP (fun r=>r==32) ⟨s.toArray⟩).length) (size:=1) hg h4 j (by omega)).1,aY];unfold words at hx;rw[aY]at hx
 cases hy:(Lib.goFieldsP (fun r=>r==32) ⟨s.toArray⟩)[j]? with
 |none=>rw[hy]at hx;cases hx
 |some y =>
  rw[hy]at hx;obtain rfl:=aw hx;rfl
theorem uM (p:Addr) (w:World) :
 CallsD Tryz.prog 18 #[.pointer (some p)] .returning w fun e u' w'=>e=.returned (.tuple #[])/\u'=.returning/\w'=w:=by
 refine callsD_of_wpS Tryz.func18 rfl fun c₀ cs hu=>?_
 apply wpS_seq
 apply wpS_region
 simp[wpOpsS,go_sem,recoverD,hu,Tryz.ntmps18,Exit.thenS]
 refine wpS_of_wp ?_
 show Code.wp _ _ _ {tmps:=#[.pointer (some p),.nilIface,undef,undef,.nilIface,undef,undef,undef,undef,undef,undef,undef,undef,undef,undef,undef,undef,undef,undef],defers:=[]} w
 go_wp2
 cases c₀
 simp_all [bodyPostS,results,Tryz.results18]
theorem uN (pb:Nat) (x:ByteArray) (n:Int) (w:World) (hc:w.cell? ⟨pb,0,none⟩=some (.string x)) (hz:w.frozen? ⟨pb,0,none⟩=false) (P:Lib.PrintTabs) (h:jY P w) (h0 : -9223372036854775808<=n) (h1:n<=9223372036854775807) :
 CallsD Tryz.prog 18 #[.pointer (some ⟨pb,0,none⟩)] (.panicking [{v:=oA n,recovered:=false}]) w fun e u' w' =>
  e=.returned (.tuple #[])/\u'=.panicking [{v:=oA n,recovered:=true}]/\∃w1,Below w.heap.size w w1/\w'=w1.setCell ⟨pb,0,none⟩ (.string ⟨(jP++Lib.itoa n).toArray⟩):=by
 refine callsD_of_wpS Tryz.func18 rfl fun c₀ cs hu=>?_;unfold oA at hu;apply wpS_seq;apply wpS_region;simp[wpOpsS,go_sem,recoverD,hu,Tryz.ntmps18,Exit.thenS];refine wpS_of_wp ?_;show Code.wp _ _ _ {tmps:=#[.pointer (some ⟨pb,0,none⟩),.iface 54 (.agg #[.int .i64 n]),undef,undef,.iface 54 (.agg #[.int .i64 n]),undef,undef,undef,undef,undef,undef,undef,undef,undef,undef,undef,undef,undef,undef],defers:=[]} w;(have hta:∀w,(Instr.typeAssert (.iface 54 (.agg #[.int .i64 n])) 20 54 true).run Tryz.prog w=.ok (.tuple #[.agg #[.int .i64 n],.bool true]) w:=fun w=>by kernel_rfl);have hpl:pb<w.heap.size:=l4 hc;have hal:Below w.heap.size w (w.alloc (.cells #[.int .i64 n] 54)):=(Below.refl _ _).alloc (aq _) _;have HI:=Hd (kQ n h0 h1 (w.alloc (.cells #[.int .i64 n] 54)) (h.below hal).hO.fD);have hl:=Lib.itoa_length_le n h0 h1;have QD:=ic jP (Lib.itoa n) (by show 6+_<=_;omega);obtain⟨z,KD⟩:∃z,z=Lib.itoa n:=⟨_,rfl⟩;rw[<- KD]at HI QD⊢;have Vy:=Hd hal;obtain⟨r,hr⟩:∃r:ByteArray,r=⟨(jP++z).toArray⟩:=⟨_,rfl⟩;rw[<- hr]at QD⊢;unfold jP at QD;clear KD hl h hal hr h0 h1;(go_upto_region 5 with fail);(go_wp2_with (go_at_call 19;refine HI.o.mono ?_;rintro e w1 ⟨rfl,Kd⟩;have Ln:w1.cell? ⟨pb,0,none⟩=some (.string x):=(Kd.cell (p:=⟨pb,0,none⟩) (by simp;omega)).trans ((Vy.o.cell (p:=⟨pb,0,none⟩) hpl).trans hc);have KH:w1.frozen? ⟨pb,0,none⟩=false:=(Kd.frozen (p:=⟨pb,0,none⟩) (by simp;omega)).trans ((Vy.o.frozen (p:=⟨pb,0,none⟩) hpl).trans hz);have Ki:=Hd Kd));have HX:∃w2,Below w.heap.size w w2/\w1.setCell ⟨pb,0,none⟩ (.string r)=w2.setCell ⟨pb,0,none⟩ (.string r):=⟨w1,Vy.o.trans (Ki.o.mono Vy.o.size),rfl⟩;simp[bodyPostS,results,Tryz.results18,oA];exact HX
end dk
namespace dk
open dI (Bytes)
open Go.RowKit heap own
theorem AJ:Go.Proofs.Lays.n166 Tryz.prog Tryz.lays156_ren:=
 let L:=Tryz.lays156
 ⟨L.mixed,L.f166,L.f240,L.f276,L.t0,L.a0,L.z0,L.v0,L.t3,L.a3,L.z3,L.v3,L.t4,L.a4,L.z4,L.v4,L.t9,L.a9,L.z9,L.v9,L.t20,L.a20,L.z20,L.v20,L.t37,L.a37,L.z37,L.v37,L.t70,L.a70,L.z70,L.v70,L.t72,L.a72,L.z72,L.v72,L.t75,L.a75,L.z75,L.v75,L.t164,L.a164,L.z164,L.v164⟩
theorem JI:Go.Proofs.Lays.n169 Tryz.prog Tryz.lays156_ren:=
 let L:=Tryz.lays156
 ⟨L.mixed,L.f169,L.t0,L.a0,L.z0,L.v0,L.t3,L.a3,L.z3,L.v3,L.t9,L.a9,L.z9,L.v9,L.t37,L.a37,L.z37,L.v37,L.t70,L.a70,L.z70,L.v70,L.t72,L.a72,L.z72,L.v72,L.t127,L.a127,L.z127,L.v127⟩
theorem JJ (b:Nat) (p v:Value) (hp:p=.pointer none\/p=.pointer (some ⟨b,0,none⟩)) (w:World) (h:Has w b (.cells #[p,v] 34)) :
 Calls Tryz.prog 17 #[.pointer (some ⟨b,0,none⟩)] w fun e w'=>e=.returned (.tuple #[])/\Has w' b (.cells #[.pointer (some ⟨b,0,none⟩),v] 34)/\dD (fun g=>g=b) w w':=by
 rcases hp with rfl|rfl
 ·refine (Any.Builder_copyCheck_fresh {AJ with} Tryz.Builder_Extra_156.toX72 b w (h.cell 0) (by have h9:w.heap[b]?=some (.cells #[.pointer none,v] 34):=h;simp[World.shape?,h9,Tryz.lays156_ren]) (h.frozen 0)).mono ?_;rintro e w' ⟨rfl,rfl⟩;exact⟨rfl,h.eu 0 _,(dD.refl (fun g=>g=b) w).setCell (p:=⟨b,0,none⟩) (.inr rfl) _⟩
 refine (Any.Builder_copyCheck_used {AJ with} Tryz.Builder_Extra_156.toX72 b w (h.cell 0)).mono ?_;rintro e w' ⟨rfl,rfl⟩;exact⟨rfl,h,dD.refl _ _⟩
theorem uQ {B b:Nat} {w w1:World} {e:TypeId} {size n:Nat} {v:Value} {xs:List Value} (h:w.ownsRow B e size v n xs) (ht:dD (fun g=>g=b) w w1) (Km:v.ownBlock≠some b):w1.ownsRow B e size v n xs:=by
 refine⟨h.1,?_⟩;rcases h.2 with h9|⟨g,cap,cur,h1,hB,hg,h5⟩
 ·exact .inl h9
 refine .inr ⟨g,cap,cur,h1,hB,?_,h5⟩;refine (ht.block g (Has.lt (w:=w) hg) (fun e9=>Km ?_)).trans hg;rw[h1,<- e9];rfl
section
variable {Pr:Program} (w:World)
theorem JK (base:Nat) (t u ty e:TypeId) (i:TypeInfo) (ht:Pr.underlying t=some (.slice e)) (hu:Pr.underlying u=some .string) (hi:Pr.info? e=some i) (hz:i.zero=some (.int .u8 0))
 (Mt:i.size=1) (NI:i.bytes=1) (v:Value) (n:Nat) (xs:List Value) (Kt:w.ownsRow base e 1 v n xs) (s:ByteArray) (U4:n+s.size<=maxLen) (Ky:n+s.size<=140737488355328)
 {v':Value} {w':World} (hr:(Builtin.append_ #[t,u] ty #[v,.string s]).run Pr w=.ok v' w'):∀g,v'.ownBlock=some g->v.ownBlock=some g\/w.heap.size<=g:=by
 (have afq:n+s.size<=9223372036854775807:=by simp only[maxLen]at U4;omega);(have LK:xs.length=n:=by simpa using Kt.1);intro g9 h9;rcases Kt.2 with⟨rfl,h0⟩|⟨g,cap,cur,rfl,RN,hg,Sy,Oa,LN,LV⟩
 ·obtain⟨v2,w2,LO,h2,-,-⟩:=Lib.run_append_own_string (P:=Pr) w w.heap.size t u ty e i ht hu hi hz Mt NI (.slice none 0 0) n xs ⟨Kt.1,.inl ⟨rfl,h0⟩⟩ s U4 Ky (aq _);rw[hr]at LO;cases LO;exact .inr (jF h2 g9 h9)
 by_cases abc:n+s.size<=cap
 ·(have hcs':cur.size=cap:=by simpa using LN);have LO:=Lib.run_append_room_string (P:=Pr) w t u ty e i ht hu hi Mt g n cap cur hg s abc (by omega);rw[hr]at LO;cases LO;exact .inl h9
 have holds:∀j u,xs[j]?=some u->w.cell? ((⟨g,0,none⟩:Addr).add j)=some u:=Kt.cells (g:=g) rfl;have LO:=Lib.run_append_grow_string (P:=Pr) w t u ty e i (.int .u8 0) ht hu hi hz ⟨g,0,none⟩ n cap xs (by rw[Mt];simpa using LK) holds s (by omega) (by omega) (by rw[NI];exact growslice_fits (by omega) (by omega));rw[hr]at LO;cases LO;(have e9:w.heap.size=g9:=by simpa[Value.ownBlock]using h9);exact .inr (by omega)
theorem JL {w:World} {ops:Array Oper} {rest:List Oper} {o:Oper} {a:Act} {Q:Exit->Act->World->Prop} (hgd:o.guard=none) (sl x:Operand) (t u:TypeId)
 (ho:o.op=.call {callee:=.builtin .append,args:=#[sl,x],argTypes:=#[t,u]})
 (base:Nat) (e:TypeId) (i:TypeInfo) (ht:Pr.underlying t=some (.slice e)) (hu:Pr.underlying u=some .string) (hi:Pr.info? e=some i) (hz:i.zero=some (.int .u8 0))
 (Mt:i.size=1) (NI:i.bytes=1)
 (v:Value) (n:Nat) (xs:List Value) (hs:a.eval sl=v) (Kt:w.ownsRow base e 1 v n xs) (s:ByteArray) (hx:a.eval x=.string s)
 (U4:n+s.size<=maxLen) (Ky:n+s.size<=140737488355328) (abd:base<=w.heap.size)
 (h:∀v' w',w'.ownsRow base e 1 v' (n+s.size) (xs++Lib.strCells s)->w.grownBy w' v.ownBlock->(∀g,v'.ownBlock=some g->v.ownBlock=some g\/w.heap.size<=g)->wpList Pr ops Q rest (a.put o.dst v') w'):wpList Pr ops Q (o::rest) a w:=by
 refine wpList_plain hgd fun K hK=>?_;obtain⟨v',w',hr,h2,h3,h4⟩:=Lib.run_append_own_string (P:=Pr) w base t u o.type e i ht hu hi hz Mt NI v n xs Kt s U4 Ky abd;have h5:=JK w base t u o.type e i ht hu hi hz Mt NI v n xs Kt s U4 Ky hr;unfold Oper.wp execOp;simp only[ho,resolve,invoke,builtin,Sem.run_bind,Sem.run_pure,Result.andThen_ok,List.map_toArray,bf,bJ,hs,hx,hr];exact hK _ _ (h v' w' h2 h3 h5)
end
theorem JM:(Tryz.prog.info? 5).map (fun i=>(i.zero,i.size,i.bytes))=some (some (.int .u8 0),1,1):=by kernel_rfl
theorem JN {B:Nat} (w:World) (b:Nat) (p v:Value) (bs:List Value) (s:Bytes) (hp:p=.pointer none\/p=.pointer (some ⟨b,0,none⟩)) (h:Has w b (.cells #[p,v] 34)) (Kt:w.ownsRow B 5 1 v bs.length bs) (Km:v.ownBlock≠some b) (hB:B<=b) (hlen:bs.length+s.length<=1000000000) :
 Calls Tryz.prog 9 #[.pointer (some ⟨b,0,none⟩),.string ⟨s.toArray⟩] w fun e w'=>(∃u,e=.returned u)/\∃v',Has w' b (.cells #[.pointer (some ⟨b,0,none⟩),v'] 34)/\w'.ownsRow B 5 1 v' (bs++Lib.strCells ⟨s.toArray⟩).length (bs++Lib.strCells ⟨s.toArray⟩)/\v'.ownBlock≠some b /\
  dD (fun g=>g=b\/v.ownBlock=some g) w w'/\∀g,v'.ownBlock=some g->v.ownBlock=some g\/w.heap.size<=g:=by
 obtain⟨i0,KO,La,KH,KD⟩:=info_parts JM;have LJ:=h.lt;have HC:=Hd (JJ b p v hp w h);have HO:=Hd Kt;have MY:=Hd Km;clear Kt h hp;(go_enter Tryz.func9,Tryz.ntmps9);(go_wp2_with (first|(go_at_call 17;refine HC.o.mono ?_;rintro e w1 ⟨rfl,h1,Le⟩;have c0:=h1.cell 0;have c1:=h1.cell 1;have H1:=Hd h1;have KP:=Hd Le;clear h1 Le)|(at_builtin;refine JL rfl _ _ 32 9 rfl B 5 i0 Tryz.underlying32 Tryz.underlying9 KO La KH KD _ _ _ rfl (uQ HO.o KP.o MY.o) ⟨s.toArray⟩ rfl ?c3 ?c4 ?c5 ?_)));(case c3=>show bs.length+s.length<=_;unfold maxLen;omega);(case c4=>show bs.length+s.length<=_;omega);(case c5=>have:=KP.o.size;omega);intro v' w2 S9 Ta hwh;have HWH:=Hd hwh;have Ke:Has w2 b (.cells #[.pointer (some ⟨b,0,none⟩),v] 34):=(Ta.block b H1.o.lt (fun e=>MY.o e.symm)).trans H1.o;have d0:=Ke.cell 0;have d1:=Ke.cell 1;have f1:=Ke.frozen 1;have Kn:=Hd Ke;have PK:=Hd S9;have Mg:=Hd Ta
 obtain⟨ao,n',cap,rfl⟩:∃ao n' cap,v'=.slice ao n' cap:=by
  rcases S9.2 with⟨hv,_⟩|⟨g,cap,cur,hv,_⟩
  ·exact⟨_,_,_,hv⟩
  exact⟨_,_,_,hv⟩
 clear S9 Ta Ke hwh;(go_wp2_with fail);go_ret2
 have hnb:(Value.slice ao n' cap).ownBlock≠some b:=fun e=>by
  rcases HWH.o b e with h9|h9
  ·exact MY.o h9
  have:=KP.o.size;omega
 (have Vq:bs.length+(⟨s.toArray⟩:ByteArray).size=(bs++Lib.strCells ⟨s.toArray⟩).length:=by rw[aA,Lib.strCells_length]);have Kr:dD (fun g=>g=b\/v.ownBlock=some g) w w2:=(KP.o.mono fun g _ e=>.inl e).grown Mg.o fun k hk=>.inr (.inr hk);have KF:dD (fun g=>g=b) w2 (w2.setCell ⟨b,1,none⟩ (.slice ao n' cap)):=(dD.refl (fun g=>g=b) w2).setCell (p:=⟨b,1,none⟩) (.inr rfl) _;refine⟨⟨_,rfl⟩,.slice ao n' cap,Kn.o.eu 1 _,?_,hnb,Kr.setCell (p:=⟨b,1,none⟩) (.inr (.inl rfl)) _,fun g hg=>(HWH.o g hg).imp id fun h9=>az KP.o.size h9⟩;rw[<- Vq];exact uQ PK.o KF hnb
end dk
end Go.Proofs.YtlhodcmdpchllaaGreatDoor
