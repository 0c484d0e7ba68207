/-
  A part of the proof of the law WorldCalm: CacheC, CacheD.
-/
import Derived.Deep.DeepCutAuto
import Derived.Deep.CutBlock
import Derived.Laws.ResultCell
import Derived.Test.YtjhdaojclilakaaGreatDoorHd
import Derived.Test.YtjhdaojclilakaaGreatDoorP07
import Derived.Test.YtjhdaojclilakaaGreatDoorP13
set_option maxHeartbeats 16000000
set_option maxRecDepth 1000000
namespace Go.Proofs.YtjhdaojclilakaaGreatDoor
section
variable {p q:Prop}
theorem aaM (h:p:=by
 (go_wp2_with fail);have hW:=(T5.o.fQ 0 (.string ⟨x.data.toArray⟩)).fQ 1 (VI x.fq);refine bodyPost_ret (xL _ _ w.heap.size (.string ⟨x.data.toArray⟩) (VI x.fq) _ _ rfl rfl rfl hW) rfl ⟨rfl,?_⟩;refine By (q:=q) (r:=w.heap.size) Wd.o HTA.o HRA.o (fun j hj=>by rw[V8.o j hj];exact XH) Pw UO.o YY.o ZG.o HGL.o (ax _) Wo.o.lt ?_;rw[<- HW5.o];exact ((eJ.refl (fun k=>k=w.heap.size) w5).drew.setCell (p:=⟨w.heap.size,0,none⟩) (.inr rfl) _).setCell (p:=⟨w.heap.size,1,none⟩) (.inr rfl) _):p:=h
end
namespace cache
open Go.RowKit heap own
attribute [local go_sem ↓] Go.wp_at_zero Go.wp_at_succ
def qD (l:List It) (x:It):List It:=(if (lL l x.obj).length=6 then List.drop 1 (lL l x.obj) else lL l x.obj)++[x]
theorem JZ (own:Nat->Nat) (T:Nat) (v:Value) (n:Nat) (xs:List Value) (w:World) (h:Row own T w 141 4 v n xs) (b:0<n) (c:∀u∈xs,u.oneCell'=true) :
 Calls Tryz.prog 80 #[v,VI 0,VI 1] w fun e w'=>∃a,e=.returned a/\a.ownBlock=v.ownBlock/\Row own T w' 141 4 a (n-1) (cut 4 0 xs)/\eJ (fun g=>v.ownBlock=some g) w w':=by
 have:=uJ own T v n 0 xs w h b c;rwa [show (((0:Nat):Int)+1)=1 from rfl,show ((0:Nat):Int)=0 from rfl]at this
variable {w w' w1 w2:World} {t:TypeId}
theorem xK {a b c d:Value}:∀(j:Nat) (x:Value),[a,b,c,d][j]?=some x->(w.alloc (.cells #[a,b,c,d] t)).drew.cell? ((⟨w.heap.size,0,none⟩:Addr).add j)=some x:=by
 intro j x f;have h:=(Has.new w (.cells #[a,b,c,d] t)).cell j;(have e:(⟨w.heap.size,0,none⟩:Addr).add j=⟨w.heap.size,j,none⟩:=by by_cases h0:j=0<;>simp[Addr.add,h0]);rw[e];refine h.trans ?_;rw[<- f];simp
theorem uL (x:It):∀u∈kL x,u.oneCell'=true:=by
 intro u hu;simp only[kL,aH,bq,or_false]at hu;rcases hu with rfl|rfl|rfl|rfl<;>rfl
theorem Bv:(Tryz.prog.info? 141).map (fun i=>(i.zero,i.size,i.bytes))=some (some (.agg #[VI 0,.string ByteArray.empty,VI 0,VI 0]),4,40):=Bs
variable {own:Nat->Nat} {T b q:Nat} {cs:Array Value} {l:List It} {ob:Obj}
theorem Bw {g f:Nat} {c:Value} {x:It} {d:World} 
 (hb:own b≠T) (i:kT own T w c l) (u:b<w.heap.size) (n:Has w b (.cells cs t)) (o:d.ownsRow 0 141 4 (.slice (some ⟨g,0,none⟩) (l.length+1) f) (l.length+1) (js l++kL x))
 (j:(w.alloc ob).drew.grownBy d c.ownBlock) (r:c.ownBlock=some g\/g=w.heap.size+1) :
 lf own T b q cs t (l++[x]) w (d.setCell ⟨b,q,none⟩ (.slice (some ⟨g,0,none⟩) (l.length+1) f)):=by
 have a:∀k,c.ownBlock=some k->k<w.heap.size/\own k=T:=fun k hk=>⟨i.lt k hk,i.2 k hk⟩;have m:own g=T/\g<w.heap.size\/g=w.heap.size+1:=r.imp (fun h=>⟨(a g h).2,(a g h).1⟩) (fun h=>h)
 have v:g≠b:=by
  rintro rfl;rcases m with h|h
  ·exact hb h.1
  omega
 refine⟨lh own w T,.slice (some ⟨g,0,none⟩) (l.length+1) f,Ext.new _ _ _,?_,?_,?_⟩
 ·exact (((eJ.refl _ w).alloc ob).drew.grown j (fun k hk=>.inr (.inr (a k hk).2))).setCell (p:=⟨b,q,none⟩) (.inr (.inl rfl)) _
 ·have s:Has d b (.cells cs t):=by
   refine (j.block b (by show b<(w.alloc ob).heap.size;simp;omega) (fun e=>hb (a b e.symm).2)).trans ?_;exact (n.alloc ob).drew
  exact s.fQ q _
 unfold kT;rw[aE,aQ];(have e:js (l++[x])=js l++kL x:=by simp[js]);rw[e]
 refine⟨oa o fun k hk=>Below.heap_setCell _ _ _ _ (by
  (have:g=k:=by simpa[Value.ownBlock]using hk);show k≠b
  omega),fun k hk=>?_⟩
 (obtain rfl:g=k:=by simpa[Value.ownBlock]using hk);rcases m with h|h
 ·rw[oY h.2];exact h.1
 exact sA ab
variable {p:Addr} {v:Value}
theorem kq (h:w.cell? p=some v):∀ob,(w.alloc ob).cell? p=some v:=fun ob=>(World.cell?_alloc_lt w ob p (by
 exact Lt h)).trans h
variable {row:Option Nat}
theorem nO (a:(w.alloc ob).drew.grownBy w' row) (h:w.cell? p=some v) (b:∀k,row=some k->k≠p.block):w'.cell? p=some v:=by
 have c:p.block<w.heap.size:=by
  exact Lt h
 exact (World.cell?_of_block (a.block _ (by show p.block<(w.alloc ob).heap.size;rw[World.size_alloc];omega) (fun e=>b _ e.symm rfl))).trans (kq h ob)
theorem Bx {i:Nat} (a:(w.alloc ob).drew.grownBy w' row) (h:Has w b (.cells cs t)) (c:∀k,row=some k->k≠b):w'.frozen? ⟨b,i,none⟩=false:=by
 have d:Has w' b (.cells cs t):=(a.block b (by show b<(w.alloc ob).heap.size;rw[World.size_alloc];have:=h.lt;omega) (fun e=>c _ e.symm rfl)).trans (h.alloc ob).drew;exact d.frozen i
theorem lf.comp {own1:Nat->Nat} {d:List It} {v1:Value} (e1:Ext w own own1) (t1:eJ (fun k=>k=b\/own k=T) w w1)
 (e:lf own1 T b q (cs.setIfInBounds q v1) t d w1 w2):lf own T b q cs t d w w2:=by
 obtain⟨a,v2,f,t2,g,i2⟩:=e;refine⟨a,v2,e1.trans f t1.size,t1.trans t2 (fun k h c=>?_),?_,i2⟩
 ·rcases c with c|c
  ·exact .inl c
  exact .inr ((e1 k h).symm.trans c)
 have:=g;rwa [Array.setIfInBounds_setIfInBounds]at this
theorem J0 {k:Nat} {a:Value} (hb:own b≠T) (i:Has w b (.cells cs t)) (h:kT own T w v l) (j:k<l.length) (m:a.ownBlock=v.ownBlock)
 (d:Row own T w2 141 4 a (l.length-1) (cut 4 k (js l))) (ht:eJ (fun g=>v.ownBlock=some g) w w2):eJ (fun k=>k=b\/own k=T) w (w2.setCell ⟨b,q,none⟩ a)/\Has (w2.setCell ⟨b,q,none⟩ a) b (.cells (cs.setIfInBounds q a) t)/\kT own T (w2.setCell ⟨b,q,none⟩ a) a (l.eraseIdx k):=by
 have c:¬(v.ownBlock=some b):=fun e=>hb (h.2 b e);refine⟨(ht.mono (fun g _ e=>.inr (h.2 g e))).setCell (p:=⟨b,q,none⟩) (.inr (.inl rfl)) _,(ht.has i c).fQ q _,?_⟩;have e1:(l.eraseIdx k).length=l.length-1:=cD j;have n:cut 4 k (js l)=js (l.eraseIdx k):=tZ 4 k _ (fun _=>rfl) l;unfold kT;rw[e1,<- n];refine⟨oa d.1 fun o f=>Below.heap_setCell _ _ _ _ ?_,d.2⟩;rw[m]at f;rintro rfl;exact c f
theorem lf.ahead {pS:Nat->Nat} {w0:World} (hb:BB w w0) (he:Ext w own pS) (h:lf pS T b q cs t l w0 w1):lf own T b q cs t l w w1:=by
 obtain⟨own1,v1,e1,t1,c,i1⟩:=h;refine⟨own1,v1,fun k a=>(e1 k (aG a hb.size)).trans (he k a),(eJ.il hb (ax _)).trans t1 (fun k a hS=>?_),c,i1⟩;rw[<- he k a];exact hS
theorem J1 (own:Nat->Nat) (T b q:Nat) (cs:Array Value) (t:TypeId) (v:Value) (l:List It) (x:It) (w:World) (hB:Has w b (.cells cs t)) (c0:cs[q]?=some v) (hb:own b≠T) (h:kT own T w v l) (hl:l.length<=6) :
 Calls Tryz.prog 101 #[VP b q,VI x.obj,.agg #[.string ⟨x.data.toArray⟩,VI x.fq],VI x.iK] w fun e w'=>e=.returned (.tuple #[])/\lf own T b q cs t (qD l x) w w':=by
 obtain⟨i0,P7,QC,PU,Qf⟩:=info_parts Bv;have Pw:=hB.lt;have O:BB w (w.alloc (.cells #[.string ⟨x.data.toArray⟩,VI x.fq] 41)):=(Below.refl _ _).alloc (ax _) _;have P:Ext w own (lh own w (T+1)):=Ext.new _ _ _;(have QP:lh own w (T+1) b≠T:=by rw[oY Pw];exact hb);have D:=Hd (Bu (lh own w (T+1)) T b q cs t v l x.obj (w.alloc (.cells #[.string ⟨x.data.toArray⟩,VI x.fq] 41)) (hB.alloc _) c0 QP (Row.fc (S:=fun _=>False) h (eJ.il O (ax _)) P (fun _ _ _ h=>h)));have aa:Hy (lh own w (T+1) w.heap.size=T+1):=sA (ax _);have hP:=Has.new w (.cells #[.string ⟨x.data.toArray⟩,VI x.fq] 41);have nh:(lL l x.obj).length<=6:=aB (List.length_eraseP_le) hl;have HP:=Hd hP;have TJ:=Hd O;have Wd:=Hd hb;have HQ:=Hd (show q<cs.size from (cM.1 c0).1);have a1:=Hd (fun k (H:v.ownBlock=some k)=>h.lt k H);clear hB c0 h hb hP O;(go_enter Tryz.func101,Tryz.ntmps101);(go_wp2_with fail);refine D.o.mono ?_;rintro e w1 ⟨rfl,own1,v1,e1,t1,Zx,B⟩;have Qt:w.heap.size+1<=w1.heap.size:=by have:=t1.size;simpa using this
 obtain⟨C,m1,E,rfl,I⟩:∃a m c,v1=.slice a m c/\m=(lL l x.obj).length:=by
  rcases B.1.2 with⟨rfl,e⟩|⟨g,cap,cur,rfl,_⟩
  ·exact⟨_,_,_,rfl,e.symm⟩
  exact⟨_,_,_,rfl,rfl⟩
 have Qd:=Hd t1;have ad:=Hd e1;have al:=(e1 b (by show b<(w.alloc _).heap.size;rw[World.size_alloc];omega));have a6:=(e1 w.heap.size (by rw[World.size_alloc];omega)).trans aa.o;(have TO:own1 b≠T:=by rw[al];exact QP);have Wm:=t1.has HP.o (fun h=>by have:=aa.o;rcases h with h|h<;>omega);have aq:=Hd nh;clear e1 t1 nh QP al;by_cases Q:(lL l x.obj).length=6
 ·(have k1:w1.cell? ⟨b,q,none⟩=some (.slice C m1 E):=by rw[Zx.cell,cL];simp[HQ.o]);(obtain rfl:m1=6:=by rw[I];exact Q);have PQ:=Hd Zx;have ar:=Hd B;have Qn:=Hd Wm;have R:=Hd TO;(have Qj:Hy (Row own1 T w1 141 4 (.slice C 6 E) 6 (js (lL l x.obj))):=by have:=B;unfold kT at this;rwa [Q]at this);clear Zx B Wm I TO;(go_wp2_with fail);refine (JZ own1 T _ 6 (js (lL l x.obj)) w1 Qj.o ab (uI _)).mono ?_;rintro e w2 ⟨v',rfl,T1,Qs,PK⟩
  obtain⟨A,m,cap,rfl⟩:∃a m c,v'=.slice a m c:=by
   exact abl
  have an:¬((Value.slice C 6 E).ownBlock=some b):=fun e=>R.o (Qj.o.2 b e)
  have SZ:=PK.has PQ.o an
  have k2:w2.cell? ⟨b,q,none⟩=some (.slice C 6 E):=by rw[SZ.cell,cL];simp[HQ.o]
  have f2:w2.frozen? ⟨b,q,none⟩=false:=SZ.frozen q
  have Ux:=PK.has Qn.o (fun e=>by have:=Qj.o.2 _ e;omega)
  have PB:b≠w.heap.size:=ab
  obtain⟨F,n⟩:=nm ((lL l x.obj).eraseIdx 0)
  have Uv:F.length<=6:=by rw[n,cD ab];omega
  have CP:=J0 (q:=q) R.o PQ.o ar.o (k:=0) ab T1 (by rw[Q];exact Qs) PK
  rw[<- n]at CP
  have WX:=Hd n
  have au:=Hd Ux
  clear n T1 Qs PK an SZ Ux
  go_upto_region 4 with fail
  obtain⟨r,Wc⟩:=nm (w2.setCell ⟨b,q,none⟩ (.slice A m cap))
  rw[<- Wc]at CP⊢
  have J:=au.o.jv (p:=⟨b,q,none⟩) (Ne.symm PB) (.slice A m cap)
  rw[<- Wc]at J
  obtain⟨t3,N,G⟩:=CP
  have QV:=Hd t3
  have U:=R.o
  have YW:own1 w.heap.size≠T:=ab
  have d:r.cell? ⟨b,q,none⟩=some (.slice A m cap):=by rw[N.cell,cL];simp[HQ.o]
  have f:CC r w.heap.size 0 (.string ⟨x.data.toArray⟩):=J.cell 0
  have j:CI r w.heap.size 1 x.fq:=J.cell 1
  have V:=Hd Q
  clear t3 J Wc k1 k2 f2 Q
  have Ti:=Hd N
  have X:=Hd G
  have Y:=Hd U
  have Z:=Hd (show b<r.heap.size from N.lt)
  have R9:Hy ((r.alloc (.cells #[VI x.obj,.string ⟨x.data.toArray⟩,VI x.fq,VI x.iK] 141)).drew.ownsRow 0 141 4 (.slice A m cap) F.length (js F)):=G.1.alloc _
  have Q9:Hy ((r.alloc (.cells #[VI x.obj,.string ⟨x.data.toArray⟩,VI x.fq,VI x.iK] 141)).drew.heap.size=r.heap.size+1):=World.size_alloc _ _
  have V8:Hy (∀k,(Value.slice A m cap).ownBlock=some k->k≠b):=fun k H e=>U (by rw[<- e];exact G.2 k H)
  have M:Hy (∀k,(Value.slice A m cap).ownBlock=some k->k≠w.heap.size):=fun k H e=>YW (by rw[<- e];exact G.2 k H)
  clear N G U YW
  refine last.q9 (S:=fun W=>CC W b q (.slice A m cap)/\CC W w.heap.size 0 (.string ⟨x.data.toArray⟩)/\CI W w.heap.size 1 x.fq) (L:=13) af ?_
  refine last.jL (i:=0) (v:=VP b q) rfl af af af af (fun _ _ _ h=>h) ⟨d,f,j⟩ ai (fun W hW=>by obtain⟨u,y,z⟩:=hW;go_simp) ?_
  dsimp only[Act.put]
  refine last.jL (i:=1) (v:=VP b q) rfl af af af af (fun _ _ _ h=>h) ⟨d,f,j⟩ ai (fun W hW=>by obtain⟨u,y,z⟩:=hW;go_simp) ?_
  dsimp only[Act.put]
  refine last.jL (i:=2) (v:=VP b q) rfl af af af af (fun _ _ _ h=>h) ⟨d,f,j⟩ ai (fun W hW=>by obtain⟨u,y,z⟩:=hW;go_simp) ?_
  dsimp only[Act.put]
  refine last.jL (i:=3) (v:=VP b q) rfl af af af af (fun _ _ _ h=>h) ⟨d,f,j⟩ ai (fun W hW=>by obtain⟨u,y,z⟩:=hW;go_simp) ?_
  dsimp only[Act.put]
  refine last.jL (i:=4) (v:=.slice A m cap) rfl af af af af (fun _ _ _ h=>h) ⟨d,f,j⟩ ai (fun W hW=>by obtain⟨u,y,z⟩:=hW;go_simp) ?_
  dsimp only[Act.put]
  refine last.jL (i:=5) (v:=VI x.obj) rfl af af af af (fun _ _ _ h=>h) ⟨d,f,j⟩ ai (fun W hW=>by obtain⟨u,y,z⟩:=hW;go_simp) ?_
  dsimp only[Act.put]
  refine last.jL (i:=6) (v:=.agg #[.string ⟨x.data.toArray⟩,VI x.fq]) rfl af af af af (fun _ _ _ h=>h) ⟨d,f,j⟩ ai (fun W hW=>by obtain⟨u,y,z⟩:=hW;go_simp) ?_
  dsimp only[Act.put]
  refine last.jL (i:=7) (v:=VI x.iK) rfl af af af af (fun _ _ _ h=>h) ⟨d,f,j⟩ ai (fun W hW=>by obtain⟨u,y,z⟩:=hW;go_simp) ?_
  dsimp only[Act.put]
  refine last.jL (i:=8) (v:=.agg #[VI x.obj,.string ⟨x.data.toArray⟩,VI x.fq,VI x.iK]) rfl af af af af (fun _ _ _ h=>h) ⟨d,f,j⟩ ai (fun W hW=>by obtain⟨u,y,z⟩:=hW;go_simp) ?_
  dsimp only[Act.put]
  refine last.ky (i:=9) af rfl fun K hK=>?_
  go_simp
  refine hK.out _ _ (fun _=>⟨kq d _,kq f _,kq j _⟩) ?_
  clear hK
  refine last.ky (i:=10) af rfl fun K hK=>?_
  refine step_append_lies _ ai (.tmp 29) (.tmp 34) 108 ai 0 141 i0 _ 4 40 Tryz.underlying108 P7 QC PU Qf ai aj (.slice A m cap) F.length (js F) ai R9.o ⟨r.heap.size,0,none⟩ 1 1 (kL x) ai rfl xK (uL x) ab ak ab ae (r.heap.size+1) Q9.o ?_
  intro g PL w4 P8 s QB YG
  refine hK.out _ _ (fun _=>⟨nO s d V8.o,nO s f M.o,nO s j M.o⟩) ?_
  have k6:=nO s d V8.o
  have k7:=nO s f M.o
  have k8:=nO s j M.o
  have D4:=Hd (Bw (q:=q) Y.o X.o Z.o Ti.o P8 s QB)
  have f6:w4.frozen? ⟨b,q,none⟩=false:=Bx s Ti.o V8.o
  clear hK P8 s QB YG
  dsimp only[Act.put]
  refine last.ky (i:=11) af rfl fun K hK=>?_
  go_simp
  refine hK.out _ _ (fun _=>⟨k6,k7,k8⟩) ?_
  clear hK
  refine last.ky (i:=12) af rfl fun K hK=>?_
  go_simp
  refine hK.out _ _ (fun _=>⟨k6,k7,k8⟩) ?_
  clear hK
  refine last.ky (i:=13) af rfl fun K hK=>?_
  go_simp
  refine hK.out _ _ (fun h=>absurd rfl h) ?_
  clear hK
  refine last.done ?_
  go_wp2_with fail
  go_end0
  refine⟨rfl,lf.ahead TJ.o P (lf.comp (v1:=.slice C 6 E) ad.o Qd.o (lf.comp (v1:=.slice A m cap) (Ext.refl _ _) QV.o ?_))⟩;(have:qD l x=F++[x]:=by unfold qD;rw[WX.o,if_pos V.o,List.eraseIdx_zero,List.drop_one]);rw[this];exact D4.o
 obtain⟨F,n⟩:=nm (lL l x.obj)
 have WX:=Hd n
 have Uv:F.length<=6:=by rw[n];exact aq.o
 have a7:((m1:Int)==6)=false:=by rw[I];exact beq_eq_false_iff_ne.2 ab
 rw[<- n]at B
 obtain⟨r,Wc⟩:=nm w1
 subst Wc
 obtain⟨A,m,cap,e3⟩:∃A m cap,Value.slice C m1 E=.slice A m cap:=⟨_,_,_,rfl⟩
 obtain⟨rfl,rfl,rfl⟩:C=A/\m1=m/\E=cap:=by simpa using e3
 have N:=Zx
 have G:=B
 have U:=TO
 have YW:own1 w.heap.size≠T:=ab
 have d:r.cell? ⟨b,q,none⟩=some (.slice C m1 E):=by rw[Zx.cell,cL];simp[HQ.o]
 have f:CC r w.heap.size 0 (.string ⟨x.data.toArray⟩):=Wm.cell 0
 have j:CI r w.heap.size 1 x.fq:=Wm.cell 1
 have V:=Hd Q
 clear e3 Zx B TO Wm Q n I
 have Ti:=Hd N
 have X:=Hd G
 have Y:=Hd U
 have Z:=Hd (show b<r.heap.size from N.lt)
 have R9:Hy ((r.alloc (.cells #[VI x.obj,.string ⟨x.data.toArray⟩,VI x.fq,VI x.iK] 141)).drew.ownsRow 0 141 4 (.slice C m1 E) F.length (js F)):=G.1.alloc _
 have Q9:Hy ((r.alloc (.cells #[VI x.obj,.string ⟨x.data.toArray⟩,VI x.fq,VI x.iK] 141)).drew.heap.size=r.heap.size+1):=World.size_alloc _ _
 have V8:Hy (∀k,(Value.slice C m1 E).ownBlock=some k->k≠b):=fun k H e=>U (by rw[<- e];exact G.2 k H)
 have M:Hy (∀k,(Value.slice C m1 E).ownBlock=some k->k≠w.heap.size):=fun k H e=>YW (by rw[<- e];exact G.2 k H)
 clear N G U YW
 go_upto_region 4 with fail
 refine last.q9 (S:=fun W=>CC W b q (.slice C m1 E)/\CC W w.heap.size 0 (.string ⟨x.data.toArray⟩)/\CI W w.heap.size 1 x.fq) (L:=13) af ?_
 refine last.jL (i:=0) (v:=VP b q) rfl af af af af (fun _ _ _ h=>h) ⟨d,f,j⟩ ai (fun W hW=>by obtain⟨u,y,z⟩:=hW;go_simp) ?_
 dsimp only[Act.put]
 refine last.jL (i:=1) (v:=VP b q) rfl af af af af (fun _ _ _ h=>h) ⟨d,f,j⟩ ai (fun W hW=>by obtain⟨u,y,z⟩:=hW;go_simp) ?_
 dsimp only[Act.put]
 refine last.jL (i:=2) (v:=VP b q) rfl af af af af (fun _ _ _ h=>h) ⟨d,f,j⟩ ai (fun W hW=>by obtain⟨u,y,z⟩:=hW;go_simp) ?_
 dsimp only[Act.put]
 refine last.jL (i:=3) (v:=VP b q) rfl af af af af (fun _ _ _ h=>h) ⟨d,f,j⟩ ai (fun W hW=>by obtain⟨u,y,z⟩:=hW;go_simp) ?_
 dsimp only[Act.put]
 refine last.jL (i:=4) (v:=.slice C m1 E) rfl af af af af (fun _ _ _ h=>h) ⟨d,f,j⟩ ai (fun W hW=>by obtain⟨u,y,z⟩:=hW;go_simp) ?_
 dsimp only[Act.put]
 refine last.jL (i:=5) (v:=VI x.obj) rfl af af af af (fun _ _ _ h=>h) ⟨d,f,j⟩ ai (fun W hW=>by obtain⟨u,y,z⟩:=hW;go_simp) ?_
 dsimp only[Act.put]
 refine last.jL (i:=6) (v:=.agg #[.string ⟨x.data.toArray⟩,VI x.fq]) rfl af af af af (fun _ _ _ h=>h) ⟨d,f,j⟩ ai (fun W hW=>by obtain⟨u,y,z⟩:=hW;go_simp) ?_
 dsimp only[Act.put]
 refine last.jL (i:=7) (v:=VI x.iK) rfl af af af af (fun _ _ _ h=>h) ⟨d,f,j⟩ ai (fun W hW=>by obtain⟨u,y,z⟩:=hW;go_simp) ?_
 dsimp only[Act.put]
 refine last.jL (i:=8) (v:=.agg #[VI x.obj,.string ⟨x.data.toArray⟩,VI x.fq,VI x.iK]) rfl af af af af (fun _ _ _ h=>h) ⟨d,f,j⟩ ai (fun W hW=>by obtain⟨u,y,z⟩:=hW;go_simp) ?_
 dsimp only[Act.put]
 refine last.ky (i:=9) af rfl fun K hK=>?_
 go_simp
 refine hK.out _ _ (fun _=>⟨kq d _,kq f _,kq j _⟩) ?_
 clear hK
 refine last.ky (i:=10) af rfl fun K hK=>?_
 refine step_append_lies _ ai (.tmp 29) (.tmp 34) 108 ai 0 141 i0 _ 4 40 Tryz.underlying108 P7 QC PU Qf ai aj (.slice C m1 E) F.length (js F) ai R9.o ⟨r.heap.size,0,none⟩ 1 1 (kL x) ai rfl xK (uL x) ab ak ab ae (r.heap.size+1) Q9.o ?_
 intro g PL w4 P8 s QB YG
 refine hK.out _ _ (fun _=>⟨nO s d V8.o,nO s f M.o,nO s j M.o⟩) ?_
 have k6:=nO s d V8.o
 have k7:=nO s f M.o
 have k8:=nO s j M.o
 have D4:=Hd (Bw (q:=q) Y.o X.o Z.o Ti.o P8 s QB)
 have f6:w4.frozen? ⟨b,q,none⟩=false:=Bx s Ti.o V8.o
 clear hK P8 s QB YG
 dsimp only[Act.put]
 refine last.ky (i:=11) af rfl fun K hK=>?_
 go_simp
 refine hK.out _ _ (fun _=>⟨k6,k7,k8⟩) ?_
 clear hK
 refine last.ky (i:=12) af rfl fun K hK=>?_
 go_simp
 refine hK.out _ _ (fun _=>⟨k6,k7,k8⟩) ?_
 clear hK
 refine last.ky (i:=13) af rfl fun K hK=>?_
 go_simp
 refine hK.out _ _ (fun h=>absurd rfl h) ?_
 clear hK
 refine last.done ?_
 go_wp2_with fail
 go_end0
 refine⟨rfl,lf.ahead TJ.o P (lf.comp (v1:=.slice C m1 E) ad.o Qd.o ?_)⟩;(have:qD l x=F++[x]:=by unfold qD;rw[WX.o,if_neg V.o]);rw[this];exact D4.o
end cache
namespace cache
open Go.RowKit heap own
attribute [local go_sem ↓] Go.wp_at_zero Go.wp_at_succ
theorem J2 {fn:Func} {p u v:Tmp} {ty:TypeId} (h:fn.results=#[.cell p ty,.tmp u,.tmp v]) (tmps:Array Value) (P:Program) (w:World) :
 (results fn tmps).run P w =
   ((asAddr (tmps.getD p undef)).run P w).andThen fun a b=>((loadVar ty a).run P b).andThen fun x w₂=>.ok (.tuple #[x,tmps.getD u undef,tmps.getD v undef]) w₂:=by
 simp only[results,h];simp[Sem.run_bind,Result.andThen]
theorem xL (tmps:Array Value) (W:World) (g:Nat) (x y iK err:Value) (a:tmps.getD 4 undef=VP g 0) (b:tmps.getD 5 undef=iK) (c:tmps.getD 6 undef=err)
 (d:Has W g (.cells #[x,y] 41)):(results Tryz.f53 tmps).run Tryz.prog W=.ok (.tuple #[.agg #[x,y],iK,err]) W:=by
 rw[J2 Tryz.results53,a,b,c];have hi:(Tryz.prog.info? 41).map (·.size)=some (#[x,y]:Array Value).size:=af;have:=run_loadVar_row (P:=Tryz.prog) W g 41 41 _ (0,0) _ d Tryz.underlying41 rfl hi;simp[asAddr,Result.andThen,this]
theorem J3 (own:Nat->Nat) (T b q:Nat) (v:Value) (l:List It) (o:Int) (w:World) (g:CC w b q v) (h:kT own T w v l) (i:findAt l o = -1) :
 Calls Tryz.prog 53 #[VP b q,VI o] w fun e w'=>e=.returned (.tuple #[.agg #[.string ByteArray.empty,VI 0],VI 0,.iface 70 (VI 7)])/\BB w w':=by
 have d:BB w (w.alloc (.cells #[.string ByteArray.empty,VI 0] 41)):=(Below.refl _ _).alloc (ax _) _;have F:=Hd (xJ own T b q v l o (w.alloc (.cells #[.string ByteArray.empty,VI 0] 41)) (kq g _) (h.below d));rw[i]at F;have j:=Hd d;clear h d;(go_enter Tryz.func53,Tryz.ntmps53);(go_wp2_with fail);refine F.o.mono ?_;rintro e c ⟨rfl,f⟩;have a:Has c w.heap.size (.cells #[.string ByteArray.empty,VI 0] 41):=(Has.new w _).below f ae;have c0:CC c w.heap.size 0 (.string ByteArray.empty):=a.cell 0;have c1:CI c w.heap.size 1 0:=a.cell 1;have f0:c.frozen? ⟨w.heap.size,0,none⟩=false:=a.frozen 0;have f1:c.frozen? ⟨w.heap.size,1,none⟩=false:=a.frozen 1;have k:=Hd a;have m:=Hd (j.o.trans (f.mono ae));clear f a;(go_wp2_with fail);have n:=(k.o.fQ 0 (.string ByteArray.empty)).fQ 1 (VI 0);refine bodyPost_ret (xL _ _ w.heap.size (.string ByteArray.empty) (VI 0) _ _ rfl rfl rfl n) rfl ⟨rfl,?_⟩;exact (m.o.setCell (p:=⟨w.heap.size,0,none⟩) (ax _) _).setCell (p:=⟨w.heap.size,1,none⟩) (ax _) _
theorem By {own:Nat->Nat} {T b q g j:Nat} {cs:Array Value} {t:TypeId} {f:Value} {l:List It} {x:It} {w c d o:World} {r:Nat}
 (hb:own b≠T) (hT:eJ (fun k=>k=b\/own k=T) w c) (y:Row own T c 141 4 f l.length (js l)) (z:∀k,f.ownBlock=some k->k<w.heap.size) (G:b<w.heap.size) (A:Has c b (.cells cs t))
 (s:d.ownsRow 0 141 4 (.slice (some ⟨g,0,none⟩) (l.length+1) j) (l.length+1) (js l++kL x))
 (u:c.grownBy d f.ownBlock) (B:f.ownBlock=some g\/g=c.heap.size)
 (H:w.heap.size<=r) (I:r<c.heap.size) (m:eJ (fun k=>k=r) (d.setCell ⟨b,q,none⟩ (.slice (some ⟨g,0,none⟩) (l.length+1) j)) o):lf own T b q cs t (l++[x]) w o:=by
 have a:∀k,f.ownBlock=some k->k<w.heap.size/\own k=T:=fun k hk=>⟨z k hk,y.2 k hk⟩;have hs:=hT.size;have v:own g=T/\g<w.heap.size\/g=c.heap.size:=B.imp (fun h=>⟨(a g h).2,(a g h).1⟩) (fun h=>h)
 have C:g≠b:=by
  rintro rfl;rcases v with h|h
  ·exact hb h.1
  omega
 refine⟨lh own w T,.slice (some ⟨g,0,none⟩) (l.length+1) j,Ext.new _ _ _,?_,?_,?_⟩
 ·exact ((hT.grown u (fun k hk=>.inr (.inr (a k hk).2))).setCell (p:=⟨b,q,none⟩) (.inr (.inl rfl)) _).trans m (fun k hk e=>ab)
 ·have i:Has d b (.cells cs t):=(u.block b ab (fun e=>hb (a b e.symm).2)).trans A;exact m.has (i.fQ q _) ab
 unfold kT;rw[aE,aQ];(have e:js (l++[x])=js l++kL x:=by simp[js]);rw[e]
 have n:g<d.heap.size:=by
  rcases s.2 with⟨h,-⟩|⟨D,c',E,h,_,F,_⟩
  ·cases h
  (have e1:g=D:=by injection h with i _ _;injection i with i;injection i);subst e1;exact Has.lt (w:=d) F
 refine⟨oa s fun k hk=>?_,fun k hk=>?_⟩
 ·(have:g=k:=by simpa[Value.ownBlock]using hk);subst this;exact (m.block g (by simpa[World.setCell]using n) ab).trans (Below.heap_setCell _ _ _ _ C)
 (obtain rfl:g=k:=by simpa[Value.ownBlock]using hk);rcases v with h|h
 ·rw[oY h.2];exact h.1
 exact sA ab
theorem J4 (own:Nat->Nat) (T b q:Nat) (cs:Array Value) (t:TypeId) (v:Value) (l:List It) (o:Int) (k:Nat) (x:It) (w:World) (hB:Has w b (.cells cs t)) (c0:cs[q]?=some v) (hb:own b≠T) (h:kT own T w v l) (hl:l.length<=6) (hk:l[k]?=some x) (hf:findAt l o=k) :
 Calls Tryz.prog 53 #[VP b q,VI o] w fun e w'=>e=.returned (.tuple #[.agg #[.string ⟨x.data.toArray⟩,VI x.fq],VI x.iK,.nilIface])/\lf own T b q cs t (l.eraseIdx k++[x]) w w':=by
 obtain⟨i0,P7,QC,PU,Qf⟩:=info_parts Bv;have Pw:=hB.lt;have PG:=(az.1 hk).1;have k0:CC w b q v:=(hB.cell q).trans c0;have QP:BB w (w.alloc (.cells #[.string ByteArray.empty,VI 0] 41)):=(Below.refl _ _).alloc (ax _) _;have F:=Hd (xJ own T b q v l o (w.alloc (.cells #[.string ByteArray.empty,VI 0] 41)) (kq k0 _) (h.below QP));rw[hf]at F;obtain⟨g,cap,cur,rfl,ho,hh,ZO,T8,QH,bg⟩:=h.shape ab;(have Ra:g≠b:=by rintro rfl;exact hb ho);have XH:=hh.lt;(have HC:Hy (∀j,j<4->w.cell? ⟨g,k*4+j,none⟩=(kL x)[j]?):=fun j hj=>by rw[(kj hh bg (k*4+j) ab).1,Br l k x hk j hj]);have ZP:=Hd QP;have HB:=Hd hB;have Ye:=Hd c0;have HI:=Hd h;have HK:=Hd hk;have Wd:=Hd hb;unfold maxLen at T8;have b8:¬((k:Int)<0):=ab;have b9:l.length<=9223372036854775807:=ab;have b6:(k:Int)<l.length:=ab;clear QP hB c0 h hk hb ho hh QH bg k0 hf;(go_enter Tryz.func53,Tryz.ntmps53);(go_wp2_with fail);refine F.o.mono ?_;rintro e d ⟨rfl,Pu⟩;change Below _ _ _ at Pu;rw[World.size_alloc]at Pu;have UR:=ZP.o.trans (Pu.mono ab);have Wm:Has d w.heap.size (.cells #[.string ByteArray.empty,VI 0] 41):=(Has.new w _).below Pu ab;have k1:CS d b q g l.length cap:=((HB.o.below UR Pw).cell q).trans Ye.o;have X:∀j,d.cell? ⟨g,k*4+j,none⟩=w.cell? ⟨g,k*4+j,none⟩:=fun j=>UR.cell (p:=⟨g,k*4+j,none⟩) XH;have g0:CI d g (k*4) x.obj:=(X 0).trans (HC.o 0 ab);have g1:CC d g (k*4+1) (.string ⟨x.data.toArray⟩):=(X 1).trans (HC.o 1 ab);have g2:CI d g (k*4+2) x.fq:=(X 2).trans (HC.o 2 ab);have g3:CI d g (k*4+3) x.iK:=(X 3).trans (HC.o 3 ab);have Qn:=Hd Wm;have RG:=Hd UR;clear Pu UR Wm X;(go_upto_region 5 with fail);obtain⟨s,G⟩:=nm (d.alloc (.cells #[VI x.obj,.string ⟨x.data.toArray⟩,VI x.fq,VI x.iK] 141));rw[<- G];have Qt:=Qn.o.lt;(have bj:s.heap.size=d.heap.size+1:=by rw[G,World.size_alloc]);(have V4:Hy (BB d s):=by rw[G];exact (Below.refl _ _).alloc (ax _) _);have H:=Hd (RG.o.trans (V4.o.mono RG.o.size));have al:=Hd (Qn.o.below V4.o Qt);(have C:Hy (Has s d.heap.size (.cells #[VI x.obj,.string ⟨x.data.toArray⟩,VI x.fq,VI x.iK] 141)):=by rw[G];exact Has.new _ _);(have P:s.cell? ⟨b,q,none⟩=some (.slice (some ⟨g,0,none⟩) l.length cap):=by rw[G];exact kq k1 _);have Q:CI s d.heap.size 0 x.obj:=C.o.cell 0;have R:CC s d.heap.size 1 (.string ⟨x.data.toArray⟩):=C.o.cell 1;have U:CI s d.heap.size 2 x.fq:=C.o.cell 2;have y3:CI s d.heap.size 3 x.iK:=C.o.cell 3;have an:=Hd (HB.o.below H.o Pw);have bl:=Hd (HI.o.below H.o);(have ca:IntKind.i64.wrap ((k:Int)+1)=(k:Int)+1:=by simp only[IntKind.wrap_i64];omega);have cb:=Hd bj;have hlen:(l.eraseIdx k).length=l.length-1:=cD PG;have hcut:cut 4 k (js l)=js (l.eraseIdx k):=tZ 4 k _ (fun _=>rfl) l;have TI:=Hd hlen;have b1:=Hd hcut;have PR:w.heap.size<d.heap.size:=Qt;clear G bj k1 g0 g1 g2 g3 hlen hcut;refine last.q9 (S:=fun W=>CS W b q g l.length cap/\CI W d.heap.size 0 x.obj/\CC W d.heap.size 1 (.string ⟨x.data.toArray⟩)/\CI W d.heap.size 2 x.fq/\CI W d.heap.size 3 x.iK) (L:=14) af ?_;refine last.jL (i:=0) (v:=VP b q) rfl af af af af (fun _ _ _ h=>h) ⟨P,Q,R,U,y3⟩ ai (fun W hW=>by obtain⟨Pz,PT,PO,S8,Re⟩:=hW;go_simp) ?_;dsimp only[Act.put];refine last.jL (i:=1) (v:=VP b q) rfl af af af af (fun _ _ _ h=>h) ⟨P,Q,R,U,y3⟩ ai (fun W hW=>by obtain⟨Pz,PT,PO,S8,Re⟩:=hW;go_simp) ?_;dsimp only[Act.put];refine last.jL (i:=2) (v:=VP b q) rfl af af af af (fun _ _ _ h=>h) ⟨P,Q,R,U,y3⟩ ai (fun W hW=>by obtain⟨Pz,PT,PO,S8,Re⟩:=hW;go_simp) ?_;dsimp only[Act.put];refine last.jL (i:=3) (v:=VP b q) rfl af af af af (fun _ _ _ h=>h) ⟨P,Q,R,U,y3⟩ ai (fun W hW=>by obtain⟨Pz,PT,PO,S8,Re⟩:=hW;go_simp) ?_;dsimp only[Act.put];refine last.jL (i:=4) (v:=.slice (some ⟨g,0,none⟩) l.length cap) rfl af af af af (fun _ _ _ h=>h) ⟨P,Q,R,U,y3⟩ ai (fun W hW=>by obtain⟨Pz,PT,PO,S8,Re⟩:=hW;go_simp) ?_;dsimp only[Act.put];refine last.jL (i:=5) (v:=VI k) rfl af af af af (fun _ _ _ h=>h) ⟨P,Q,R,U,y3⟩ ai (fun W hW=>by obtain⟨Pz,PT,PO,S8,Re⟩:=hW;go_simp) ?_;dsimp only[Act.put];refine last.jL (i:=6) (v:=VI k) rfl af af af af (fun _ _ _ h=>h) ⟨P,Q,R,U,y3⟩ ai (fun W hW=>by obtain⟨Pz,PT,PO,S8,Re⟩:=hW;go_simp) ?_;dsimp only[Act.put];refine last.jL (i:=7) (v:=VI ((k:Int)+1)) rfl af af af af (fun _ _ _ h=>h) ⟨P,Q,R,U,y3⟩ ai (fun W hW=>by obtain⟨Pz,PT,PO,S8,Re⟩:=hW;go_simp) ?_;dsimp only[Act.put];refine last.jL (i:=9) (v:=.agg #[VI x.obj,.string ⟨x.data.toArray⟩,VI x.fq,VI x.iK]) rfl af af af af (fun _ _ _ h=>h) ⟨P,Q,R,U,y3⟩ ai (fun W hW=>by obtain⟨Pz,PT,PO,S8,Re⟩:=hW;go_simp) ?_;dsimp only[Act.put];refine last.Gb (i:=8) (j:=10) af rfl rfl (fun K hK=>?_) (fun K hK=>?_)
 ·go_simp;obtain⟨A,I⟩:=nm s.drew;rw[<- I];(have aq:Hy (kT own T A (.slice (some ⟨g,0,none⟩) l.length cap) l):=by rw[I];exact bl.o);(have ar:Hy (Has A b (.cells cs t)):=by rw[I];exact an.o);(have au:Hy (Has A d.heap.size (.cells #[VI x.obj,.string ⟨x.data.toArray⟩,VI x.fq,VI x.iK] 141)):=by rw[I];exact C.o);(have a1:Hy (Has A w.heap.size (.cells #[.string ByteArray.empty,VI 0] 41)):=by rw[I];exact al.o);(have a6:Hy (BB w A):=by rw[I];exact H.o.drew);clear I P Q R U y3;refine (uJ own T _ l.length k (js l) A aq.o PG (uI l)).mono ?_;rintro e B ⟨v',rfl,T1,Qs,E⟩
  obtain⟨a2,n2,c2,rfl⟩:∃a m c,v'=.slice a m c:=by
   exact abl
  have hS:∀j,j≠g->¬((Value.slice (some ⟨g,0,none⟩) l.length cap).ownBlock=some j):=fun j hj e=>hj (by simpa[Value.ownBlock]using e.symm);have SZ:=E.has ar.o (hS _ (Ne.symm Ra));have J:=E.has au.o (hS _ ab);have Yf:=E.has a1.o (hS _ ab);have m0:CS B b q g l.length cap:=(SZ.cell q).trans Ye.o;have m1:CI B d.heap.size 0 x.obj:=J.cell 0;have m2:CC B d.heap.size 1 (.string ⟨x.data.toArray⟩):=J.cell 1;have m3:CI B d.heap.size 2 x.fq:=J.cell 2;have m4:CI B d.heap.size 3 x.iK:=J.cell 3;refine hK.out _ _ (fun _=>⟨m0,m1,m2,m3,m4⟩) ?_;have a7:=Hd T1;have QO:=Hd Qs;have Qo:=Hd E;have Qk:=Hd SZ;have Qg:=Hd J;have Qu:=Hd Yf;have Qi:=E.size;clear hK T1 Qs E SZ J Yf hS;refine last.ky (i:=10) af rfl fun K hK=>?_;go_simp;refine hK.out _ _ (fun _=>⟨kq m0 _,kq m1 _,kq m2 _,kq m3 _,kq m4 _⟩) ?_;clear hK m0 m1 m2 m3 m4;obtain⟨V,z⟩:=nm (B.alloc (.cells #[VI x.obj,.string ⟨x.data.toArray⟩,VI x.fq,VI x.iK] 141));rw[<- z];(have cc:V.heap.size=B.heap.size+1:=by rw[z,World.size_alloc]);(have UO:Hy (Has V b (.cells cs t)):=by rw[z];exact Qk.o.alloc _);(have Y:=by have:=Qg.o.alloc (.cells #[VI x.obj,.string ⟨x.data.toArray⟩,VI x.fq,VI x.iK] 141);rw[<- z]at this;exact Hd this);(have Wo:=by have:=Qu.o.alloc (.cells #[VI x.obj,.string ⟨x.data.toArray⟩,VI x.fq,VI x.iK] 141);rw[<- z]at this;exact Hd this);(have HRA:Hy (Row own T V 141 4 (.slice a2 n2 c2) (l.eraseIdx k).length (js (l.eraseIdx k))):=by rw[TI.o,<- b1.o,z];exact QO.o.below ((Below.refl _ _).alloc (ax _) _));have bb:Hy (∀(j:Nat) (u:Value),(kL x)[j]?=some u->V.cell? ((⟨B.heap.size,0,none⟩:Addr).add j)=some u):=by rw[z];exact fun j u hj=>xK j u hj
  have HTA:Hy (eJ (fun k=>k=b\/own k=T) w V):=by
   rw[z];refine (((eJ.refl _ w).jl a6.o (ax _)).trans Qo.o (fun j _ e=>.inr ?_)).alloc _;exact HI.o.2 j e
  clear z
  refine last.ky (i:=11) af rfl fun K hK=>?_
  refine step_append_lies _ ai (.tmp 31) (.tmp 33) 108 ai 0 141 i0 _ 4 40 Tryz.underlying108 P7 QC PU Qf ai aj (.slice a2 n2 c2) (l.eraseIdx k).length (js (l.eraseIdx k)) ai HRA.o.1 ⟨B.heap.size,0,none⟩ 1 1 (kL x) ai rfl bb.o (uL x) ab (by rw[TI.o];unfold maxLen;omega) (by rw[TI.o];omega) ab V.heap.size rfl ?_
  intro g' PL n P8 Z QB YG
  have f:∀j,(Value.slice a2 n2 c2).ownBlock=some j->j=g:=fun j hj=>by rw[a7.o]at hj;simpa[Value.ownBlock]using hj.symm
  have D:Has n b (.cells cs t):=(Z.block b UO.o.lt (fun e=>Ra (f b e.symm).symm)).trans UO.o
  have aa:=(Z.block d.heap.size Y.o.lt (fun e=>by have:=f _ e.symm;omega)).trans Y.o
  have ad:=(Z.block w.heap.size Wo.o.lt (fun e=>by have:=f _ e.symm;omega)).trans Wo.o
  have m0:CS n b q g l.length cap:=(D.cell q).trans Ye.o
  have mf:n.frozen? ⟨b,q,none⟩=false:=D.frozen q
  have M:Has n d.heap.size (.cells #[VI x.obj,.string ⟨x.data.toArray⟩,VI x.fq,VI x.iK] 141):=aa
  have YX:Has n w.heap.size (.cells #[.string ByteArray.empty,VI 0] 41):=ad
  have m1:CI n d.heap.size 0 x.obj:=M.cell 0
  have m2:CC n d.heap.size 1 (.string ⟨x.data.toArray⟩):=M.cell 1
  have m3:CI n d.heap.size 2 x.fq:=M.cell 2
  have m4:CI n d.heap.size 3 x.iK:=M.cell 3
  refine hK.out _ _ (fun _=>⟨m0,m1,m2,m3,m4⟩) ?_
  have YY:=Hd P8
  have ZG:=Hd Z
  have HGL:=Hd QB
  have Rt:=Hd M
  have T3:=Hd YX
  have V8:=Hd f
  clear hK P8 Z QB YG D aa ad M YX f
  dsimp only[Act.put]
  refine last.ky (i:=12) af rfl fun K hK=>?_
  go_simp
  refine hK.out _ _ (fun _=>⟨m0,m1,m2,m3,m4⟩) ?_
  clear hK
  refine last.ky (i:=13) af rfl fun K hK=>?_
  go_simp
  refine hK.out _ _ (fun _=>⟨m0,m1,m2,m3,m4⟩) ?_
  clear hK
  refine last.ky (i:=14) af rfl fun K hK=>?_
  go_simp
  refine hK.out _ _ (fun h=>absurd rfl h) ?_
  clear hK
  refine last.done ?_
  obtain⟨w5,Tx⟩:=nm (n.setCell ⟨b,q,none⟩ (.slice (some ⟨g',0,none⟩) ((l.eraseIdx k).length+1) PL))
  rw[<- Tx]
  have y:Has w5 d.heap.size (.cells #[VI x.obj,.string ⟨x.data.toArray⟩,VI x.fq,VI x.iK] 141):=by rw[Tx];exact Rt.o.jv (p:=⟨b,q,none⟩) (by show d.heap.size≠b;omega) _
  have N:Has w5 w.heap.size (.cells #[.string ByteArray.empty,VI 0] 41):=by rw[Tx];exact T3.o.jv (p:=⟨b,q,none⟩) (by show w.heap.size≠b;omega) _
  have HW5:=Hd Tx
  have n1:CC w5 d.heap.size 1 (.string ⟨x.data.toArray⟩):=y.cell 1
  have b3:CI w5 d.heap.size 2 x.fq:=y.cell 2
  have n3:CI w5 d.heap.size 3 x.iK:=y.cell 3
  have p0:CC w5 w.heap.size 0 (.string ByteArray.empty):=N.cell 0
  have p1:CI w5 w.heap.size 1 0:=N.cell 1
  have q0:w5.frozen? ⟨w.heap.size,0,none⟩=false:=N.frozen 0
  have q1:w5.frozen? ⟨w.heap.size,1,none⟩=false:=N.frozen 1
  have b4:d.heap.size≠w.heap.size:=ab
  have T5:=Hd N
  clear Tx y N m0 mf m1 m2 m3 m4
  go_wp2_with fail
  go_region
  all_goals
   exact aaM
 go_simp;refine hK.out _ _ (fun _=>⟨kq P _,kq Q _,kq R _,kq U _,kq y3 _⟩) ?_;clear hK;refine last.ky (i:=8) af rfl fun K hK=>?_;go_simp;obtain⟨A,I⟩:=nm ((s.alloc (.cells #[VI x.obj,.string ⟨x.data.toArray⟩,VI x.fq,VI x.iK] 141)).drew);rw[<- I];(have O:BB s A:=by rw[I];exact ((Below.refl _ _).alloc (ax _) _).drew);have aq:Hy (kT own T A (.slice (some ⟨g,0,none⟩) l.length cap) l):=bl.o.below O;have ar:Hy (Has A b (.cells cs t)):=an.o.below O an.o.lt;have au:Hy (Has A d.heap.size (.cells #[VI x.obj,.string ⟨x.data.toArray⟩,VI x.fq,VI x.iK] 141)):=C.o.below O C.o.lt;have a1:Hy (Has A w.heap.size (.cells #[.string ByteArray.empty,VI 0] 41)):=al.o.below O al.o.lt;have a6:Hy (BB w A):=H.o.trans (O.mono H.o.size);(have b5:Hy (Has A s.heap.size (.cells #[VI x.obj,.string ⟨x.data.toArray⟩,VI x.fq,VI x.iK] 141)):=by rw[I];exact (Has.new s _).drew);have ch:g<s.heap.size:=aG XH H.o.size;(have b7:A.heap.size=s.heap.size+1:=by rw[I];exact World.size_alloc _ _);clear I O P Q R U y3;refine (uJ own T _ l.length k (js l) A aq.o PG (uI l)).mono ?_;rintro e B ⟨v',rfl,T1,Qs,E⟩
 obtain⟨a2,n2,c2,rfl⟩:∃a m c,v'=.slice a m c:=by
  exact abl
 have hS:∀j,j≠g->¬((Value.slice (some ⟨g,0,none⟩) l.length cap).ownBlock=some j):=fun j hj e=>hj (by simpa[Value.ownBlock]using e.symm);have SZ:=E.has ar.o (hS _ (Ne.symm Ra));have J:=E.has au.o (hS _ ab);have Yf:=E.has a1.o (hS _ ab);have m0:CS B b q g l.length cap:=(SZ.cell q).trans Ye.o;have m1:CI B d.heap.size 0 x.obj:=J.cell 0;have m2:CC B d.heap.size 1 (.string ⟨x.data.toArray⟩):=J.cell 1;have m3:CI B d.heap.size 2 x.fq:=J.cell 2;have m4:CI B d.heap.size 3 x.iK:=J.cell 3;refine hK.out _ _ (fun _=>⟨m0,m1,m2,m3,m4⟩) ?_;have a7:=Hd T1;have QO:=Hd Qs;have Qo:=Hd E;have Qk:=Hd SZ;have Qg:=Hd J;have Qu:=Hd Yf;have Qi:=E.size;have b2:=E.has b5.o (hS _ ab);clear hK T1 Qs E SZ J Yf hS m0 m1 m2 m3 m4;obtain⟨V,z⟩:=nm B;(have UO:Hy (Has V b (.cells cs t)):=by rw[z];exact Qk.o);(have Y:=by have:=Qg.o;rw[<- z]at this;exact Hd this);(have Wo:=by have:=Qu.o;rw[<- z]at this;exact Hd this);have HRA:Hy (Row own T V 141 4 (.slice a2 n2 c2) (l.eraseIdx k).length (js (l.eraseIdx k))):=by rw[TI.o,<- b1.o,z];exact QO.o
 have bb:Hy (∀(j:Nat) (u:Value),(kL x)[j]?=some u->V.cell? ((⟨s.heap.size,0,none⟩:Addr).add j)=some u):=by
  rw[z];intro j u hj;rw[show (⟨s.heap.size,0,none⟩:Addr).add j=⟨s.heap.size,j,none⟩ from by by_cases h0:j=0<;>simp[Addr.add,h0]];rw[b2.cell,<- hj];simp[kL]
 have HTA:Hy (eJ (fun k=>k=b\/own k=T) w V):=by
  rw[z];refine ((eJ.refl _ w).jl a6.o (ax _)).trans Qo.o (fun j _ e=>.inr ?_);exact HI.o.2 j e
 subst z
 clear b2
 refine last.ky (i:=11) af rfl fun K hK=>?_
 refine step_append_lies _ ai (.tmp 31) (.tmp 33) 108 ai 0 141 i0 _ 4 40 Tryz.underlying108 P7 QC PU Qf ai aj (.slice a2 n2 c2) (l.eraseIdx k).length (js (l.eraseIdx k)) ai HRA.o.1 ⟨s.heap.size,0,none⟩ 1 1 (kL x) ai rfl bb.o (uL x) ab (by rw[TI.o];unfold maxLen;omega) (by rw[TI.o];omega) ab V.heap.size rfl ?_
 intro g' PL n P8 Z QB YG
 have f:∀j,(Value.slice a2 n2 c2).ownBlock=some j->j=g:=fun j hj=>by rw[a7.o]at hj;simpa[Value.ownBlock]using hj.symm
 have D:Has n b (.cells cs t):=(Z.block b UO.o.lt (fun e=>Ra (f b e.symm).symm)).trans UO.o
 have aa:=(Z.block d.heap.size Y.o.lt (fun e=>by have:=f _ e.symm;omega)).trans Y.o
 have ad:=(Z.block w.heap.size Wo.o.lt (fun e=>by have:=f _ e.symm;omega)).trans Wo.o
 have m0:CS n b q g l.length cap:=(D.cell q).trans Ye.o
 have mf:n.frozen? ⟨b,q,none⟩=false:=D.frozen q
 have M:Has n d.heap.size (.cells #[VI x.obj,.string ⟨x.data.toArray⟩,VI x.fq,VI x.iK] 141):=aa
 have YX:Has n w.heap.size (.cells #[.string ByteArray.empty,VI 0] 41):=ad
 have m1:CI n d.heap.size 0 x.obj:=M.cell 0
 have m2:CC n d.heap.size 1 (.string ⟨x.data.toArray⟩):=M.cell 1
 have m3:CI n d.heap.size 2 x.fq:=M.cell 2
 have m4:CI n d.heap.size 3 x.iK:=M.cell 3
 refine hK.out _ _ (fun _=>⟨m0,m1,m2,m3,m4⟩) ?_
 have YY:=Hd P8
 have ZG:=Hd Z
 have HGL:=Hd QB
 have Rt:=Hd M
 have T3:=Hd YX
 have V8:=Hd f
 clear hK P8 Z QB YG D aa ad M YX f
 dsimp only[Act.put]
 refine last.ky (i:=12) af rfl fun K hK=>?_
 go_simp
 refine hK.out _ _ (fun _=>⟨m0,m1,m2,m3,m4⟩) ?_
 clear hK
 refine last.ky (i:=13) af rfl fun K hK=>?_
 go_simp
 refine hK.out _ _ (fun _=>⟨m0,m1,m2,m3,m4⟩) ?_
 clear hK
 refine last.ky (i:=14) af rfl fun K hK=>?_
 go_simp
 refine hK.out _ _ (fun h=>absurd rfl h) ?_
 clear hK
 refine last.done ?_
 obtain⟨w5,Tx⟩:=nm (n.setCell ⟨b,q,none⟩ (.slice (some ⟨g',0,none⟩) ((l.eraseIdx k).length+1) PL))
 rw[<- Tx]
 have y:Has w5 d.heap.size (.cells #[VI x.obj,.string ⟨x.data.toArray⟩,VI x.fq,VI x.iK] 141):=by rw[Tx];exact Rt.o.jv (p:=⟨b,q,none⟩) (by show d.heap.size≠b;omega) _
 have N:Has w5 w.heap.size (.cells #[.string ByteArray.empty,VI 0] 41):=by rw[Tx];exact T3.o.jv (p:=⟨b,q,none⟩) (by show w.heap.size≠b;omega) _
 have HW5:=Hd Tx
 have n1:CC w5 d.heap.size 1 (.string ⟨x.data.toArray⟩):=y.cell 1
 have b3:CI w5 d.heap.size 2 x.fq:=y.cell 2
 have n3:CI w5 d.heap.size 3 x.iK:=y.cell 3
 have p0:CC w5 w.heap.size 0 (.string ByteArray.empty):=N.cell 0
 have p1:CI w5 w.heap.size 1 0:=N.cell 1
 have q0:w5.frozen? ⟨w.heap.size,0,none⟩=false:=N.frozen 0
 have q1:w5.frozen? ⟨w.heap.size,1,none⟩=false:=N.frozen 1
 have b4:d.heap.size≠w.heap.size:=ab
 have T5:=Hd N
 clear Tx y N m0 mf m1 m2 m3 m4
 go_wp2_with fail
 go_region
 all_goals
  exact aaM
end cache
end Go.Proofs.YtjhdaojclilakaaGreatDoor
