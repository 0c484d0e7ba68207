/-
  A part of the proof of the law DeskPieces: LeaseF, Tab.
-/
import Derived.Test.YtlhodcmdpchllaaGreatDoorHd
import Derived.Test.YtlhodcmdpchllaaGreatDoorP16
import Derived.Test.YtlhodcmdpchllaaGreatDoorP20
set_option maxHeartbeats 16000000
set_option maxRecDepth 1000000
namespace Go.Proofs.YtlhodcmdpchllaaGreatDoor
namespace fu
open Go.RowKit heap own dI fq vC
def j8 (o dE:Int) (e:(Int×Int)×Int):Bool:=decide (e.1.2=o)&&decide (dE<e.2)
noncomputable def met (o dE:Int) (left:Lit->Bool) (l:iM):List Int:=(l.filter fun e=>j8 o dE e&&!left (fi.kl e.1)).map (·.1.1)
theorem Cb {o dE:Int} {left:Lit->Bool} {l:iM} (h:∀p∈l,left (fi.kl p.1)=true):met o dE left l=[]:=by
 unfold met;rw[List.filter_eq_nil_iff.2 (fun p hp=>by simp[h p hp])];rfl
theorem Cc {o dE:Int} {left:Lit->Bool} {l:iM} (h:∀kl,left kl=false):met o dE left l=(l.filter (j8 o dE)).map (·.1.1):=by
 unfold met;congr 2;funext e;simp[h]
theorem Cd {o dE:Int} {left:Lit->Bool} {l:iM} {k:Int×Int} {u:Int} (hn:(l.map (·.1)).Nodup) (L5:∀p∈l,fi.fR p.1) (hk:fi.fR k) (hs:ez k l=some u) (hc:j8 o dE (k,u)=false):met o dE (fun z=>left z&&!z.sameKey (fi.kl k)) l=met o dE left l:=by
 unfold met;congr 1;refine List.filter_congr fun p hp=>?_;by_cases US:p.1=k
 ·have:p=(k,u):=by
   have h1:ez k l=some p.2:=sw _ hn (by rw[<- US];exact hp);rw[hs]at h1;rw[<- US,aw h1]
  rw[this,hc];rfl
 have hs:(fi.kl p.1).sameKey (fi.kl k)=false:=Maps.sameKey_ne fun e=>US (fi.mY (L5 p hp) hk e);simp[hs]
theorem vD {α κ:Type} [DecidableEq κ] (key:α->κ) (f f':α->Bool) (x:α) (hf:f x=false) (hf':f' x=true):∀l:List α,(l.map key).Nodup->x∈l->(∀y∈l,key y≠key x->f' y=f y)->(l.filter f').Perm (l.filter f++[x])
 | [],_,h,_=>by cases h
 |y::l,hn,h,hy=>by
  rw[bf,cY]at hn;by_cases hk:key y=key x
  ·have Tf:y=x:=by
    rcases aM.1 h with e|e
    ·exact e.symm
    exact absurd (hk▸bA.2 ⟨x,e,rfl⟩) hn.1
   subst Tf;rw[cP hf',cO (by simp[hf])];have e1:l.filter f'=l.filter f:=List.filter_congr fun z hz=>hy z (bh _ hz) (fun e=>hn.1 (e▸bA.2 ⟨z,hz,rfl⟩));rw[e1];exact (List.perm_append_singleton y _).symm
  have LK:x∈l:=by
   rcases aM.1 h with e|e
   ·exact absurd (by rw[e]) hk
   exact e
  have ih:=vD key f f' x hf hf' l hn.2 LK (fun z hz=>hy z (bh _ hz));have h1:=hy y (bt ..) hk
  cases hfy:f y with
  |false=>rw[cO (by simp[h1,hfy]),cO (by simp[hfy])];exact ih
  |true=>rw[cP (by simp[h1,hfy]),cP (by simp[hfy])];exact ih.cons y
theorem Ce {o dE:Int} {left:Lit->Bool} {l:iM} {k:Int×Int} {u:Int} (hn:(l.map (·.1)).Nodup) (L5:∀p∈l,fi.fR p.1) (hk:fi.fR k) (hs:ez k l=some u) (hl:left (fi.kl k)=true) (hc:j8 o dE (k,u)=true):(met o dE (fun z=>left z&&!z.sameKey (fi.kl k)) l).Perm (met o dE left l++[k.1]):=by
 unfold met
 have h:=vD (fun e:(Int×Int)×Int=>e.1) (fun e=>j8 o dE e&&!left (fi.kl e.1)) (fun e=>j8 o dE e&&!(left (fi.kl e.1)&&!(fi.kl e.1).sameKey (fi.kl k))) (k,u) (by simp[hl]) (by simp[hc,WideAt.sameKey_self (fi.isKey hk)]) l hn (qx _ hs) (fun p hp Km=>by
  have hs:(fi.kl p.1).sameKey (fi.kl k)=false:=Maps.sameKey_ne fun e=>Km (fi.mY (L5 p hp) hk e)
  simp[hs])
 have h2:=h.map (fun e:(Int×Int)×Int=>e.1.1);rw[bN]at h2;exact h2
def gr (l:iM) (o dE:Int):List Int:=([0,1,2,3]:List Int).filter fun c=>match ez (c,o) l with|some u=>decide (dE<u)|none=>false
theorem Cf {o dE:Int} {l:iM} {xs:List Int} (hn:(l.map (·.1)).Nodup) (hv:∀p∈l,0<=p.1.1/\p.1.1<4) (hp:xs.Perm ((l.filter (j8 o dE)).map (·.1.1))):sorted xs=gr l o dE:=by
 have P5:((l.filter (j8 o dE)).map (·.1.1)).Nodup:=by
  refine (List.pairwise_map.2 ?_);have h1:(l.filter (j8 o dE)).Pairwise (fun a b=>a.1≠b.1):=(List.pairwise_map.1 hn).sublist du;refine h1.imp_of_mem fun {a b} ha hb Km he=>Km ?_;have h2:=(cr.1 ha).2;have h3:=(cr.1 hb).2;simp only[j8,aK,decide_eq_true_eq]at h2 h3;exact Prod.ext he (by rw[h2.1,h3.1])
 have Pc:(sorted xs).Perm (gr l o dE):=by
  refine ((List.mergeSort_perm xs _).trans hp).trans ?_;refine (List.perm_ext_iff_of_nodup P5 ?_).2 fun c=>?_
  ·exact (show List.Nodup [(0:Int),1,2,3] from by decide).sublist du
  constructor
  ·intro h;obtain⟨e,he,rfl⟩:=bA.1 h;obtain⟨h1,h2⟩:=cr.1 he;simp only[j8,aK,decide_eq_true_eq]at h2;have hs:ez (e.1.1,o) l=some e.2:=sw _ hn (by rw[<- h2.1];exact h1);have hb:=hv e h1;refine cr.2 ⟨?_,by rw[hs];simpa using h2.2⟩;(have:e.1.1=0\/e.1.1=1\/e.1.1=2\/e.1.1=3:=by omega);simpa using this
  intro h;obtain⟨h1,h2⟩:=cr.1 h
  cases hs:ez (c,o) l with
  |none=>rw[hs]at h2;cases h2
  |some u =>
   rw[hs]at h2;exact bA.2 ⟨((c,o),u),cr.2 ⟨qx _ hs,by simpa[j8]using h2⟩,rfl⟩
 refine List.Perm.eq_of_pairwise (le:=fun a b=>decide (a<=b)=true) (fun a b _ _ h1 h2=>by simp at h1 h2;omega) ?_ ?_ Pc
 ·exact List.pairwise_mergeSort (fun a b c h1 h2=>by simp at h1 h2⊢;omega) (fun a b=>by simp;omega) xs
 exact (show List.Pairwise (fun a b=>decide (a<=b)=true) [(0:Int),1,2,3] from by decide).sublist du
theorem Cg (o dE:Int) (left:Lit->Bool) (l:iM):(met o dE left l).length<=l.length:=by
 unfold met;rw[aS];exact di _ _
theorem mZ {w w1:World} {base r:Nat} {e:TypeId} {size n:Nat} {v:Value} {xs:List Value} (h:w.ownsRow base e size v n xs) (hg:w.grownBy w1 (some r)) (hr:r<base):w1.ownsRow base e size v n xs:=by
 refine⟨h.1,?_⟩;rcases h.2 with h2|⟨g,cap,cur,h1,h2,h3,h4⟩
 ·exact .inl h2
 exact .inr ⟨g,cap,cur,h1,h2,(hg.block g (Has.lt (w:=w) (g:=g) h3) (fun e=>by have:=aw e;omega)).trans h3,h4⟩
theorem Ch:(Tryz.prog.info? 3).map (fun i=>(i.zero,i.size,i.bytes))=some (some (.int .i64 0),1,8):=by kernel_rfl
theorem Ci (b m:Nat) (l:iM) (vs ss:List Int) (o dE:Int) (w:World) (h:jR w b m l vs ss) (hl:l.length<1000) (hv:∀p∈l,0<=p.1.1/\p.1.1<4) :
 Calls Tryz.prog 192 #[.pointer (some ⟨b,0,none⟩),.int .i64 o,.int .i64 dE] w fun e w'=>∃v,e=.returned v/\w'.ownsRow w.heap.size 3 1 v (gr l o dE).length ((gr l o dE).map (Value.int .i64))/\Below w.heap.size w w':=by
 have k0:=h.cell0
 have OD:=Hd (show ∀p∈l,fi.fR p.1 from fun p hp=>(h.m_.ok p hp).1)
 have Yv:=Hd h.m_.nodup
 have QE:=h.m_.lt
 have H:=Hd h
 have HV:=Hd hv
 obtain⟨i0,KO,Q4,Q5,Q6⟩:=info_parts Ch
 clear h hv
 go_enter Tryz.func192,Tryz.ntmps192
 go_wp2_with (at_range;refine vj fi rfl (.tmp 13) rfl rfl H.o.m_ ?_;intro w0 R9 Sa OT Lo Tc)
 go_frame
 go_loopw [7] (fun v wr=>∃(left:Lit->Bool) (NV:Nat) (xs:List Int),wr.ownsRow (w.heap.size+1) 3 1 v xs.length (xs.map (Value.int .i64))/\xs.Perm (met o dE left l)/\Over fi wr m w.heap.size l.length l left NV/\Below w.heap.size w wr/\w.heap.size<wr.heap.size)
  (fun _ wr=>wr.rangeLeft m w.heap.size)
 case atStart=>exact⟨R9,_,[],⟨rfl,.inl ⟨rfl,rfl⟩⟩,by rw[Cb OT],Sa,⟨Lo.os,Lo.tape,Lo.output,Lo.size,fun i hi=>Lo.block i hi (by simp)⟩,by omega⟩
 case round =>
  clear Sa OT Lo Tc k0;obtain⟨left,NV,xs,Kt,Pc,TG,hb,hz⟩:=hrel;(have LK:xs.length<1000:=by have:=Cg o dE left l;rw[<- Pc.length_eq]at this;omega);have HP:=Hd Pc;have PK:=Hd Kt;have Q2:=Hd TG;have HB:=Hd hb;clear Pc Kt hb;go_wp2_with (at_next;refine vm fi rfl (.tmp 14) rfl rfl TG ?_ ?_)
  ·intro _ Q3;have HL:=Hd Q3;clear Q3 TG;(go_wp2_with (go_at_call 216;refine (Ca _ _ _ _ PK.o (by omega)).mono ?_;rintro e w2 ⟨rfl,Kp,KE⟩));go_ret;have hx:sorted xs=gr l o dE:=Cf Yv.o HV.o (by rw[<- Cc HL.o];exact HP.o);rw[hx]at Kp;(have hxn:xs.length=(gr l o dE).length:=by rw[<- hx];exact (sE xs).symm);refine⟨_,rfl,?_,?_⟩
   ·rw[<- hxn];exact kO Kp (by omega)
   exact HB.o.grown KE (by omega) (fun j hj=>by have:=jF PK.o j hj;omega)
  intro c' o' u w1 Sb hk hu Yr RB Sc Kg Q1 Ol Q0;have e1:fi.kv (c',o')=.agg #[.int .i64 c',.int .i64 o']:=rfl;have e2:fi.ev u=.int .i64 u:=rfl;rw[e1,e2]at Q0⊢;clear e1 e2;have K2:=Hd Kg;have QF:=Hd Sc;have HSK:=Hd Yr;have XD:=Hd RB;have Kd:Below w.heap.size w w1:=HB.o.grown Q1 (by omega) (fun j hj=>by cases hj;exact aq _);have Ki:=Hd Kd;have Pd:=Hd (mZ PK.o Q1 (Nat.lt_succ_self _));(have KH:w.heap.size<w1.heap.size:=by omega);clear Yr RB Kg Sc Kd Q1 Ol TG
  cases KC:j8 o dE ((c',o'),u)with
  |false =>
   have HR:Hy ((met o dE (fun z=>left z&&!z.sameKey (fi.kl (c',o'))) l)=met o dE left l):=Cd Yv.o OD.o hk HSK.o KC;by_cases TH:o'=o
   ·have hd:((o':Int)==o)=true:=by simpa using TH
    have hn:decide (dE<u)=false:=by
     simp only[j8,TH,decide_true,Bool.true_and]at KC;exact KC
    clear KC TH;go_wp2;go_roundw;(case rel=>exact⟨_,Sb,xs,Pd.o.alloc _,by rw[HR.o];exact HP.o,QF.o.alloc _,Ki.o.alloc (by omega) _,by simp;omega⟩);case measure=>rw[(QF.o.alloc _).left_eq,Q2.o.left_eq];exact K2.o
   (have hd:((o':Int)==o)=false:=by simpa using TH);clear KC TH;go_wp2;go_roundw;(case rel=>exact⟨_,Sb,xs,Pd.o.alloc _,by rw[HR.o];exact HP.o,QF.o.alloc _,Ki.o.alloc (by omega) _,by simp;omega⟩);case measure=>rw[(QF.o.alloc _).left_eq,Q2.o.left_eq];exact K2.o
  |true =>
   have HR:Hy ((met o dE (fun z=>left z&&!z.sameKey (fi.kl (c',o'))) l).Perm (xs++[c'])):=(Ce Yv.o OD.o hk HSK.o XD.o KC).trans (HP.o.symm.append_right _);(have TH:o'=o/\dE<u:=by simpa[j8]using KC);(have hd:((o':Int)==o)=true:=by simpa using TH.1);(have hn:decide (dE<u)=true:=by simpa using TH.2);clear KC TH;have acO:=Hd ((Pd.o.alloc (.cells #[.int .i64 c',.int .i64 o'] 288)).alloc (.cells #[.int .i64 c'] 3));go_wp2_with (at_builtin;refine wpList_append_own _ rfl (.tmp 29) (.tmp 32) 44 rfl (w.heap.size+1) 3 i0 (.int .i64 0) 1 8 Tryz.underlying44 KO Q4 Q5 Q6 rfl (by decide) _ _ _ rfl acO.o ⟨w1.heap.size+1,0,none⟩ 1 1 [.int .i64 c'] rfl rfl ?c1 (by simp[Value.oneCell']) ?c3 ?c4 ?c5 ?_)
   case c1 =>
    intro j u hj;have hn:=Has.new (w1.alloc (.cells #[.int .i64 c',.int .i64 o'] 288)) (.cells #[.int .i64 c'] 3);rw[World.size_alloc]at hn
    match j,hj with
    |0,hj =>
     (obtain rfl:Value.int .i64 c'=u:=by simpa using hj);exact hn.cell 0
   (case c3=>unfold maxLen;omega);(case c4=>omega);(case c5=>simp;omega);intro u2 w2 Kp KE _;(go_wp2_with fail);go_roundw
   case rel =>
    have P4:=((QF.o.alloc (.cells #[.int .i64 c',.int .i64 o'] 288)).alloc (.cells #[.int .i64 c'] 3)).kept KE (fun e=>by have:=jF Pd.o m e.symm;omega) (fun e=>by have:=jF Pd.o _ e.symm;omega);refine⟨_,Sb,xs++[c'],?_,HR.o.symm,P4,((Ki.o.alloc (by omega) _).alloc (by simp;omega) _).grown KE (by simp;omega) (fun j hj=>by have:=jF Pd.o j hj;omega),?_⟩
    ·rw[aA,aQ,bN];exact Kp
    have:=KE.size;simp at this;omega
   case measure =>
    have P4:=((QF.o.alloc (.cells #[.int .i64 c',.int .i64 o'] 288)).alloc (.cells #[.int .i64 c'] 3)).kept KE (fun e=>by have:=jF Pd.o m e.symm;omega) (fun e=>by have:=jF Pd.o _ e.symm;omega);rw[P4.left_eq,Q2.o.left_eq];exact K2.o
end fu
namespace fD
open Go.RowKit heap own eO fq fu
open dI (eY eG ez put del)
theorem iN {n a b:Int}:eG n a b=true↔a<=n/\n<=b:=by simp[eG]
theorem o9 {c:Int}:fu.eX c=eG c 0 3:=by
 rw[bE,iN];simp[fu.eX];omega
theorem vE {c:Int}:fu.eT c=eG c 0 7:=by
 rw[bE,iN];simp[fu.eT];omega
theorem Cj {x u:Int} (h:gi x) (h0:0<=u) (h1:u<=1099511627776):gi (max x u):=by
 by_cases hx:x<=u
 ·rw[Int.max_eq_right hx];exact WalkArith.wf_i64 (by omega)
 rw[Int.max_eq_left (by omega)];exact h
def vF (l:List ((Int×Int)×Int)):Prop:=∀p∈l,0<=p.1.1/\p.1.1<4/\0<=p.1.2/\p.1.2<8
theorem qE {α:Type} [DecidableEq α]:∀(l L:List α),l.Nodup->(∀x∈l,x∈L)->l.length<=L.length
 | [],_,_,_=>bP _
 |x::l,L,hn,hs=>by
  obtain⟨h1,h2⟩:=cY.1 hn;have hx:=hs x (by simp);have:=qE l (L.erase x) h2 (fun y hy=>(List.mem_erase_of_ne (fun e=>h1 (by rw[<- e];exact hy))).2 (hs y (by simp[hy])));rw[List.length_erase_of_mem hx]at this;have hp:=List.length_pos_of_mem hx;rw[aJ];omega
def vG:List (Int×Int):=([0,1,2,3]:List Int).flatMap fun c=>([0,1,2,3,4,5,6,7]:List Int).map fun o=>(c,o)
theorem Ck {c o:Int} (h:0<=c/\c<4/\0<=o/\o<8):(c,o)∈vG:=by
 refine dt.2 ⟨c,?_,bA.2 ⟨o,?_,rfl⟩⟩
 ·obtain rfl|rfl|rfl|rfl:c=0\/c=1\/c=2\/c=3:=by omega
  all_goals simp
 obtain rfl|rfl|rfl|rfl|rfl|rfl|rfl|rfl:o=0\/o=1\/o=2\/o=3\/o=4\/o=5\/o=6\/o=7:=by omega
 all_goals simp
theorem Cm {l:List ((Int×Int)×Int)} (hk:vF l) (hn:(l.map (·.1)).Nodup):l.length<=32:=by
 have:=qE (l.map (·.1)) vG hn (fun x hx=>by
  obtain⟨p,hp,rfl⟩:=bA.1 hx
  exact Ck (hk p hp))
 rw[aS]at this;exact this
structure gy (w:World) (tb tm:Nat) (t:eY):Prop where
 at_:jR w tb tm t.fN t.jo t.j7
 ok:vF t.fN
section
variable {w w':World} {tb tm:Nat} {t:eY} {S:Nat->Prop}
theorem gy.ft (h:gy w tb tm t):t.fN.length<=32:=Cm h.ok h.at_.m_.nodup
theorem gy.er (h:gy w tb tm t) (ht:dD S w w') (h1:¬S tb) (h2:¬S tm):gy w' tb tm t:=⟨⟨ht.has h.at_.t_ h1,h.at_.m_.er ht h2,h.at_.ne,h.at_.hv,h.at_.hs⟩,h.ok⟩
theorem gy.below (h:gy w tb tm t) (hb:Below w.heap.size w w'):gy w' tb tm t:=h.er (S:=fun _=>False) (dD.fw hb (aq _)) (fun h=>h) (fun h=>h)
theorem gy.drew (h:gy w tb tm t):gy w.drew tb tm t:=h.er (S:=fun _=>False) (dD.refl _ _).drew (fun h=>h) (fun h=>h)
theorem gy.lt (h:gy w tb tm t):tb<w.heap.size/\tm<w.heap.size:=⟨h.at_.t_.lt,h.at_.m_.lt⟩
theorem gy.new (w:World):Calls Tryz.prog 55 #[] w fun e w'=>e=.returned (.pointer (some ⟨w.heap.size+1,0,none⟩))/\gy w' (w.heap.size+1) w.heap.size eY.new/\Below w.heap.size w w'/\w'.heap.size=w.heap.size+2:=by
 have UU:=@run_makeMap Tryz.prog;(go_enter Tryz.func55,Tryz.ntmps55);go_wp2;go_ret;have hb:Below w.heap.size w (w.alloc (.map #[] 0)):=(Below.refl _ _).alloc (aq _) _;refine⟨rfl,⟨⟨?_,(At.new fi w).alloc _,by omega,rfl,rfl⟩,fun p hp=>by cases hp⟩,hb.alloc (by simp) _,by simp⟩;have:=Has.new (w.alloc (.map #[] 0)) (.cells #[.map (some w.heap.size),.int .i64 0,.int .i64 0,.int .i64 0,.int .i64 0,.int .i64 0,.int .i64 0,.int .i64 0,.int .i64 0] 154);rw[World.size_alloc]at this;exact this
theorem Cn (c o u:Int) (h:gy w tb tm t) (hc:gi c) (ho:gi o) :
 Calls Tryz.prog 188 #[.pointer (some ⟨tb,0,none⟩),.int .i64 c,.int .i64 o,.int .i64 u] w fun e w'=>e=.returned (fx (t.dF c o u).1)/\gy w' tb tm (t.dF c o u).2/\dD (fun k=>k=tb\/k=tm) w w':=by
 by_cases hk:(dI.eX c&&dI.eT o&&eG u 0 eK.lW)=true
 ·have Mm:=hk;simp only[aK,dI.eX,dI.eT,iN,eK.mU]at Mm;obtain⟨⟨h1,h2⟩,h3⟩:=Mm;(have e:t.dF c o u=(0,{t with fN:=put (c,o) (max ((ez (c,o) t.fN).getD 0) u) t.fN}):=by unfold eY.dF;rw[if_pos hk]);rw[e];have hf:=h.ft;refine (B0 tb tm t.fN t.jo t.j7 c o u w h.at_ (by omega) (by rw[o9,vE,aK,iN,iN];exact⟨h1,h2⟩) h3.1 h3.2 hc ho (Cj (h.at_.m_.jD (c,o)) h3.1 h3.2)).mono ?_;rintro e w' ⟨rfl,hT,hg⟩;refine⟨rfl,⟨hT,fun p hp=>?_⟩,⟨hg.os,hg.tape,hg.output,hg.size,fun k hk hn=>hg.block k hk (fun e=>hn (.inr (by simpa using e)))⟩⟩;rcases aM.1 hp with rfl|hp
  ·exact⟨h1.1,Int.lt_of_le_of_lt h1.2 (by decide),h2.1,Int.lt_of_le_of_lt h2.2 (by decide)⟩
  exact h.ok p ((nG _ _).mem hp)
 (have e:t.dF c o u=(2,t):=by unfold eY.dF;rw[if_neg hk]);rw[e];refine (BV _ c o u w ?_).mono ?_
 ·rw[o9,vE];intro hh;apply hk;have h1:=hh.1;rw[aK]at h1;simp only[aK,dI.eX,dI.eT];exact⟨h1,iN.2 (by rw[eK.mU];exact hh.2)⟩
 rintro e w' ⟨rfl,rfl⟩;exact⟨rfl,h,dD.refl _ _⟩
theorem Co (c u:Int) (h:gy w tb tm t) :
 Calls Tryz.prog 194 #[.pointer (some ⟨tb,0,none⟩),.int .i64 c,.int .i64 u] w fun e w'=>e=.returned (fx (t.ei c u).1)/\gy w' tb tm (t.ei c u).2/\dD (fun k=>k=tb\/k=tm) w w':=by
 by_cases hk:(dI.eX c&&eG u 0 eK.lW)=true
 ·have Mm:=hk;simp only[aK,dI.eX,iN,eK.mU]at Mm;obtain⟨h1,h3⟩:=Mm;(have e:t.ei c u=(0,{t with jo:=t.jo.set c.toNat (max (t.jo.getD c.toNat 0) u)}):=by unfold eY.ei;rw[if_pos hk]);rw[e];obtain⟨n,rfl⟩:∃n:Nat,c=n:=⟨c.toNat,by omega⟩;refine (Bu tb _ t.jo t.j7 n u w h.at_.t_ h.at_.hv (by omega) h3.1 h3.2).mono ?_;rintro e w' ⟨rfl,h5,h6⟩;exact⟨rfl,⟨⟨h6,h.at_.m_.er h5 h.at_.ne,h.at_.ne,by simp[h.at_.hv],h.at_.hs⟩,h.ok⟩,h5.mono fun k _ hk=>.inl hk⟩
 (have e:t.ei c u=(2,t):=by unfold eY.ei;rw[if_neg hk]);rw[e];refine (Bt _ c u w ?_).mono ?_
 ·rw[o9];intro hh;apply hk;simp only[aK,dI.eX];exact⟨hh.1,iN.2 (by rw[eK.mU];exact hh.2)⟩
 rintro e w' ⟨rfl,rfl⟩;exact⟨rfl,h,dD.refl _ _⟩
theorem Cp (c:Int) (h:gy w tb tm t) :
 Calls Tryz.prog 202 #[.pointer (some ⟨tb,0,none⟩),.int .i64 c] w fun e w'=>e=.returned (fx (t.flush c).1)/\gy w' tb tm (t.flush c).2/\dD (fun k=>k=tb\/k=tm) w w':=by
 by_cases hk:dI.eX c=true
 ·have h1:=iN.1 hk;obtain⟨n,rfl⟩:∃n:Nat,c=n:=⟨c.toNat,by omega⟩;(have e:t.flush n=(0,{fN:=t.fN.filter (fun e=>!decide (e.1.1=(n:Int))),jo:=t.jo.set n 0,j7:=t.j7.set n (wrap64 (t.j7.getD n 0+1))}):=by unfold eY.flush;rw[if_pos hk];rfl);rw[e];refine (B8 tb tm t.fN t.jo t.j7 n w h.at_ (by omega)).mono ?_;rintro e w' ⟨rfl,hT,ht⟩;exact⟨rfl,⟨hT,fun p hp=>h.ok p (cr.1 hp).1⟩,ht⟩
 (have e:t.flush c=(2,t):=by unfold eY.flush;rw[if_neg hk]);rw[e];refine (B1 _ c w (by rw[o9];simpa[dI.eX]using hk)).mono ?_;rintro e w' ⟨rfl,rfl⟩;exact⟨rfl,h,dD.refl _ _⟩
theorem Cq (c dE:Int) (h:gy w tb tm t) :
 Calls Tryz.prog 200 #[.pointer (some ⟨tb,0,none⟩),.int .i64 c,.int .i64 dE] w fun e w'=>e=.returned (.bool (t.iJ c dE))/\w=w':=by
 unfold eY.iJ;by_cases hk:dI.eX c=true
 ·have h1:=iN.1 hk;obtain⟨n,rfl⟩:∃n:Nat,c=n:=⟨c.toNat,by omega⟩;rw[hk,Bool.true_and];exact Bq tb _ t.jo t.j7 n dE w h.at_.t_ h.at_.hv (by omega)
 rw[Bool.not_eq_true]at hk;rw[hk,dA];exact Bp _ c dE w (by rw[o9];exact hk)
theorem vH (c:Int) (h:gy w tb tm t) :
 Calls Tryz.prog 212 #[.pointer (some ⟨tb,0,none⟩),.int .i64 c] w fun e w'=>e=.returned (.tuple #[.int .i64 (t.fj c),fx (if dI.eX c then 0 else 2)])/\w=w':=by
 unfold eY.fj;by_cases hk:dI.eX c=true
 ·have h1:=iN.1 hk;obtain⟨n,rfl⟩:∃n:Nat,c=n:=⟨c.toNat,by omega⟩;rw[if_pos hk,if_pos hk];exact Bs tb _ t.jo t.j7 n w h.at_.t_ h.at_.hv h.at_.hs (by omega)
 rw[if_neg hk,if_neg hk];rw[Bool.not_eq_true]at hk;exact Br _ c w (by rw[o9];exact hk)
theorem Cr (c:Int) (h:gy w tb tm t) :
 Calls Tryz.prog 212 #[.pointer (some ⟨tb,0,none⟩),.int .i64 c] w fun e w'=>∃ev,e=.returned (.tuple #[.int .i64 (t.fj c),ev])/\ev=fx (if dI.eX c then 0 else 2)/\w=w':=
 (vH c h).mono fun _ _ ⟨h1,h2⟩=>⟨_,h1,rfl,h2⟩
theorem Cs (c o:Int) (h:gy w tb tm t) (hc:gi c) (ho:gi o) :
 Calls Tryz.prog 195 #[.pointer (some ⟨tb,0,none⟩),.int .i64 c,.int .i64 o] w fun e w'=>e=.returned (.tuple #[])/\gy w' tb tm (t.drop c o)/\dD (fun k=>k=tb\/k=tm) w w':=by
 refine (BU tb tm t.fN t.jo t.j7 c o w h.at_ hc ho).mono ?_;rintro e w' ⟨rfl,hT,hg⟩;exact⟨rfl,⟨hT,fun p hp=>h.ok p ((nG _ _).mem hp)⟩,⟨hg.os,hg.tape,hg.output,hg.size,fun k hk hn=>hg.block k hk (fun e=>hn (.inr (by simpa using e)))⟩⟩
theorem vI (o dE:Int) (h:gy w tb tm t) :
 Calls Tryz.prog 192 #[.pointer (some ⟨tb,0,none⟩),.int .i64 o,.int .i64 dE] w fun e w'=>∃v,e=.returned v/\w'.ownsRow w.heap.size 3 1 v (t.gr o dE).length ((t.gr o dE).map (Value.int .i64))/\Below w.heap.size w w':=by
 have hf:=h.ft;exact Ci tb tm t.fN t.jo t.j7 o dE w h.at_ (by omega) (fun p hp=>⟨(h.ok p hp).1,(h.ok p hp).2.1⟩)
end
end fD
end Go.Proofs.YtlhodcmdpchllaaGreatDoor
