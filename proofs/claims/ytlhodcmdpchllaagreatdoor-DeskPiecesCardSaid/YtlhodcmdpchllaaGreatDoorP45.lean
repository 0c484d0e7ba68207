/-
  A part of the proof of the law DeskPieces: DkS, DkY.
-/
import Derived.Deep.MidRow
import Derived.Test.YtlhodcmdpchllaaGreatDoorHd
import Derived.Test.YtlhodcmdpchllaaGreatDoorP44
set_option maxHeartbeats 16000000
set_option maxRecDepth 1000000
namespace Go.Proofs.YtlhodcmdpchllaaGreatDoor
namespace dk
open dI (Bytes dB eA fB)
open Go.RowKit heap eO dZ ff own fe
section
variable {P:Lib.PrintTabs} {own:Nat->Nat} {w0 w w':World} {k ob db:Nat} {v:WV} {r r':dB}
def pD (l:List fB):List Value:=l.map fun e=>.string ⟨(gW e).toArray⟩
theorem IU (l:List fB) (e:fB):pD (l++[e])=pD l++[.string ⟨(gW e).toArray⟩]:=by simp[pD]
theorem IV {w:World} {B:Nat} {u:Value} {l:List fB} (h:w.ownsRow B 127 10 u l.length (l.flatMap fZ)) (h0:0<l.length) :
 ∃g cap,u=.slice (some ⟨g,0,none⟩) l.length cap/\B<=g/\g<w.heap.size/\∀j e,l[j]?=some e->w.rangeAt g (j*10) (fZ e):=by
 rcases h.2 with⟨-,h9⟩|⟨g,cap,cur,h1,hB,hg,-,-,-,h4⟩
 ·omega
 refine⟨g,cap,h1,hB,Has.lt (w:=w) hg,fun j e he i x hx=>?_⟩;have hj:j<l.length:=(ar.1 he).1;(have hi:i<10:=by rw[<- ni e];exact (ar.1 hx).1);rw[(ij (w:=w) (n:=l.length) (size:=10) hg h4 (j*10+i) (by omega)).1,flat_get ni l j e he i hi];exact hx
theorem r9 {e:fB} (h:mg e):(gW e).length<=1002000:=by
 obtain⟨hk,hc,ho,hv,hl⟩:=h;have z1:=Lib.itoa_length_le _ hc.1 hc.2;have z2:=Lib.itoa_length_le _ ho.1 ho.2;(have h0:(if e.call.dT=1 then fP else fQ).length<=5:=by split<;>decide);unfold gW;rw[jW _ hc.1 hc.2,jW _ ho.1 ho.2];dsimp only
 generalize (if e.call.dT=1 then fP else fQ)=kb at h0⊢
 by_cases h9:e.ended=0
 ·rw[if_pos h9];simp only[aA,aJ,aZ];omega
 rw[if_neg h9,jW _ (hv h9).1 (hv h9).2];have z3:=Lib.itoa_length_le _ (hv h9).1 (hv h9).2;(have hd:(i7 e.call.value.data).length<=1000000:=by unfold i7;split<;>first|exact hl h9|simp);split<;>simp only[aA,aJ,aZ]<;>omega
theorem uL (sep:Bytes):∀l:List Bytes,Lib.join l sep=kr sep l
 | []=>rfl
 | [a]=>Lib.join_one a sep
 |a::b::l=>by
  rw[Lib.join_cons,kr,<- uL sep (b::l),Lib.join_cons];simp[Lib.joinTail]
theorem qp (sep:Bytes) (M:Nat):∀l:List Bytes,(∀s∈l,s.length<=M)->(kr sep l).length<=l.length*(M+sep.length)
 | [],_=>by simp[kr]
 | [a],h=>by have:=h a (by simp);simp[kr];omega
 |a::b::l,h=>by
  have h1:=h a (by simp);have h2:=qp sep M (b::l) fun s hs=>h s (by simp at hs⊢;exact .inr hs);simp only[kr,aA,aJ]at h2⊢;rw[cI (l.length+1) 1];omega
theorem IW {w:World} {B n:Nat} {u:Value} {l:List fB} (h:w.ownsRow B 9 1 u n (pD (l.take n))) (h0:0<n) (hn:n=l.length) :
 ∃g cap,u=.slice (some ⟨g,0,none⟩) n cap/\n<=cap/\g<w.heap.size/\∀j x,(l.map fun e=>(⟨(gW e).toArray⟩:ByteArray))[j]?=some x->w.cell? ⟨g,0+j,none⟩=some (.string x):=by
 rcases h.2 with⟨-,h9⟩|⟨g,cap,cur,h1,hB,hg,h5,h6,h7,h4⟩
 ·omega
 refine⟨g,cap,h1,?_,Has.lt (w:=w) hg,fun j x hx=>?_⟩
 ·first|exact h5|exact h6|exact h7
 (have hj:j<l.length:=by simpa using (ar.1 hx).1);rw[bW,(ij (w:=w) (n:=n) (size:=1) hg h4 j (by omega)).1];unfold pD;rw[ba (by omega),aY];rw[aY]at hx;obtain⟨e,he,rfl⟩:=Option.map_eq_some_iff.1 hx;rw[he];rfl
theorem IY (w:World) (g cap:Nat) (l:List fB) (he:∀e∈l,mg e) (hl:l.length<=100000) (hc:∀j x,(l.map fun e=>(⟨(gW e).toArray⟩:ByteArray))[j]?=some x->w.cell? ⟨g,0+j,none⟩=some (.string x)) (hg:g<w.heap.size) (Uo:l.length<=cap) :
 Calls Tryz.prog 66 #[.slice (some ⟨g,0,none⟩) l.length cap,.string ⟨#[44,32]⟩] w fun e w'=>e=.returned (.string ⟨(kr [44,32] (l.map gW)).toArray⟩)/\Below w.heap.size w w':=by
 have e1:((l.map fun e=>(⟨(gW e).toArray⟩:ByteArray)).map (·.data.toList))=l.map gW:=by simp
 have:=Tryz.strings_Join g 0 cap (l.map fun e=>(⟨(gW e).toArray⟩:ByteArray)) ⟨#[44,32]⟩ w hc hg (by simp;omega) (by simp;exact Uo) (by
  rw[e1,uL]
  have:=qp [44,32] 1002000 (l.map gW) fun s hs=>by
   obtain⟨e,h1,rfl⟩:=bA.1 hs;exact r9 (he e h1)
  simp only[aS,aJ,aZ]at this;show (kr [44,32] (l.map gW)).length<=_
  omega)
 rw[e1,uL,aS]at this;exact this
theorem IZ {w:World} {B:Nat} {u:Value} {l:List Value} (h:w.ownsRow B 127 10 u ([]:List fB).length l):∃a cap,u=.slice a 0 cap:=by
 rcases h.2 with⟨h1,-⟩|⟨g,cap,cur,h1,-⟩
 ·exact⟨_,_,h1⟩
 exact⟨_,_,h1⟩
theorem I0 (h0:r.ef=[]) (h:DkW P own w0 w k ob db v r) (L2:r.ef.length<=100000) (g o c:Nat) (ws:List Bytes) (hw:gF w g o ws) (hg:g<w.heap.size) (hc:ws.length<=c) (hl:ws.length<=100000) (hs:∀x∈ws,x.length<=100000) :
 Calls Tryz.prog 34 #[.pointer (some ⟨k,0,none⟩),.slice (some ⟨g,o,none⟩) ws.length c] w fun e w'=>Ends (kH r ws).1 e/\Dk P own w0 k w (kH r ws).2 w':=by
 have HN:=Hd (ja P w g o c ws 0 hw hg hc hl hs h.gz);have H:=Hd h;obtain⟨x,hx⟩:∃x,x=kH r ws:=⟨_,rfl⟩;rw[<- hx]
 cases hn:ff.numbers ws 0 with
 |none =>
  (have Kf:x=(.no 3,r):=by rw[hx];unfold kH;rw[hn];rfl);rw[hn]at HN;subst Kf;clear hx hn hw h;(go_enter Tryz.func34,Tryz.ntmps34);(go_wp2_with (go_at_call 12;refine HN.o.mono ?_;rintro e w1 ⟨Kd,rfl⟩));exact⟨rfl,rfl,H.o.here.below Kd⟩
 |some l =>
  rw[hn]at HN;(have Kf:x=(.yes (kr [44,32] (r.ef.map gW)),r):=by rw[hx];unfold kH;rw[hn];rfl);subst Kf;clear hx hn hw h;have HC:=Hd fun (W:World) (hb:Below w.heap.size w W)=>zQ W (H.o.below hb).world L2;rw[h0]at HC⊢;clear h0 L2;(go_enter Tryz.func34,Tryz.ntmps34);(go_wp2_with (first|(go_at_call 12;refine HN.o.mono ?_;rintro e w1 ⟨Kd,u,rfl,-⟩;have hW:=H.o.below Kd;have k0:=hW.im;have KI:=Hd hW;have Ki:=Hd Kd;clear Kd hW)|(go_at_call 64;refine (HC.o w1 Ki.o).mono ?_;rintro e w2 ⟨u,rfl,KQ,Ke⟩;obtain⟨a,cap,rfl⟩:=IZ KQ;clear KQ)));(go_loopw [5,16] (fun q5 q16 wx=>q5=.slice none 0 0/\q16=.int .i64 0/\wx=w2) (fun _ _ _=>0));case atStart=>exact⟨rfl,rfl,rfl⟩
  case round =>
   obtain⟨rfl,rfl,rfl⟩:=hrel;(go_wp2_with (go_at_call 66;refine (Tryz.strings_Join_none _ _ _ _).mono ?_;rintro e w5 ⟨rfl,rfl⟩));go_ret;exact⟨rfl,(H.o.here.below (Ki.o.trans (Ke.mono Ki.o.size)))⟩
theorem I1 (hp:0<r.ef.length) (h:DkW P own w0 w k ob db v r) (he:∀e∈r.ef,mg e) (L2:r.ef.length<=100000) (g o c:Nat) (ws:List Bytes) (hw:gF w g o ws) (hg:g<w.heap.size) (hc:ws.length<=c) (hl:ws.length<=100000) (hs:∀x∈ws,x.length<=100000) :
 Calls Tryz.prog 34 #[.pointer (some ⟨k,0,none⟩),.slice (some ⟨g,o,none⟩) ws.length c] w fun e w'=>Ends (kH r ws).1 e/\Dk P own w0 k w (kH r ws).2 w':=by
 have HN:=Hd (ja P w g o c ws 0 hw hg hc hl hs h.gz);have H:=Hd h;have HE:=Hd he;obtain⟨x,hx⟩:∃x,x=kH r ws:=⟨_,rfl⟩;rw[<- hx]
 cases hn:ff.numbers ws 0 with
 |none =>
  (have Kf:x=(.no 3,r):=by rw[hx];unfold kH;rw[hn];rfl);rw[hn]at HN;subst Kf;clear hx hn hw h;(go_enter Tryz.func34,Tryz.ntmps34);(go_wp2_with (go_at_call 12;refine HN.o.mono ?_;rintro e w1 ⟨Kd,rfl⟩));exact⟨rfl,rfl,H.o.here.below Kd⟩
 |some l =>
  rw[hn]at HN;(have Kf:x=(.yes (kr [44,32] (r.ef.map gW)),r):=by rw[hx];unfold kH;rw[hn];rfl);subst Kf;clear hx hn hw h;have HC:=Hd fun (W:World) (hb:Below w.heap.size w W)=>zQ W (H.o.below hb).world L2;have HPO:=Hd hp;clear hp;(go_enter Tryz.func34,Tryz.ntmps34);(go_wp2_with (first|(go_at_call 12;refine HN.o.mono ?_;rintro e w1 ⟨Kd,u,rfl,-⟩;have hW:=H.o.below Kd;have k0:=hW.im;have KI:=Hd hW;have Ki:=Hd Kd;clear Kd hW)|(go_at_call 64;refine (HC.o w1 Ki.o).mono ?_;rintro e w2 ⟨u,rfl,KQ,Ke⟩;obtain⟨g2,cap,rfl,ND,KE,hcell⟩:=IV KQ HPO.o)));have NW:=Hd hcell;have Lr:=Hd KE;have Kn:=Hd (Ki.o.trans (Ke.mono Ki.o.size));obtain⟨n,hn⟩:∃n,n=r.ef.length:=⟨_,rfl⟩;rw[<- hn]at L2⊢;have RF:=Hd hn;clear KQ hcell KE Ke hn HC ND;obtain⟨i0,KO,La,KH,KD⟩:=info_parts Au;(go_loopw [5,16] (fun q5 q16 wx=>∃k:Nat,k<=n/\q16=.int .i64 k/\wx.ownsRow w2.heap.size 9 1 q5 k (pD (r.ef.take k))/\Below w2.heap.size w2 wx) (fun _ q16 _=>n-(intOf q16).toNat));case atStart=>exact⟨0,by omega,rfl,World.ownsRow_nil w2 _ 9 1,Below.refl _ _⟩
  case round =>
   obtain⟨k,hk,rfl,KQ,hb⟩:=hrel;have PW:=Hd KQ;have HB:=Hd hb;clear KQ;by_cases O8:k<n
   ·have d2:decide ((k:Int)<(n:Int))=true:=decide_eq_true (by omega);have YO:decide (k<n)=true:=decide_eq_true O8;obtain⟨e,Lw⟩:∃e,r.ef[k]?=some e:=⟨_,ax (by rw[<- RF.o];exact O8)⟩;have QQ:=Hd Lw;have WJ:Hy (wr.rangeAt g2 (k*10) (fZ e)):=Hd fun i x hx=>(hb.cell (p:=⟨g2,k*10+i,none⟩) Lr.o).trans (NW.o k e Lw i x hx);clear Lw hb
    go_wp2_with first
     |(refine wpList_load_mid rfl 127 (.tmp 18) rfl g2 (k*10) rfl (fZ e) _ WJ.o Tryz.underlying127 rfl (by rw[ni];kernel_rfl) ?_)
     |(refine wpList_store_row rfl 127 (.tmp 7) (.tmp 19) rfl wr.heap.size (fZ e).toArray rfl rfl 127 #[.int .i64 0,.int .i64 0,.int .i64 0,.string ⟨#[]⟩,.int .i64 0,.bool false,.bool false,.int .i64 0,.int .i64 0,.int .i64 0] (Has.new wr _) (by kernel_rfl) rfl (Array.all_eq_true_iff_forall_mem.2 fun u hu=>rV e u (by simpa using hu)) ?_;obtain⟨wS,hwS⟩:∃W,W=(wr.alloc (.cells #[.int .i64 0,.int .i64 0,.int .i64 0,.string ⟨#[]⟩,.int .i64 0,.bool false,.bool false,.int .i64 0,.int .i64 0,.int .i64 0] 127)).setRow wr.heap.size (fZ e).toArray:=⟨_,rfl⟩;have XT:Hy (Has wS wr.heap.size (.cells (fZ e).toArray 127)):=Hd (by rw[hwS];exact (Has.new wr _).setRow _);have HBS:Hy (Below wr.heap.size wr wS):=Hd (by rw[hwS];exact below_setRow ((Below.refl _ _).alloc (aq _) _) (aq _) _);rw[<- hwS];clear hwS)
     |(refine wpList_load_row rfl 127 (.tmp 7) rfl wr.heap.size rfl 127 _ (0,0) _ XT.o Tryz.underlying127 rfl (by kernel_rfl) ?_)
     |(go_at_call 65;refine (IS wS e (HE.o e (aR QQ.o)) (((H.o.gz.below Kn.o).below HB.o).below HBS.o)).mono ?_;rintro x w4 ⟨rfl,KB⟩;have KG:=Hd KB;clear KB)
     |(at_builtin;refine wpList_append_own _ rfl (.tmp 20) (.tmp 23) 30 rfl w2.heap.size 9 i0 (.string ByteArray.empty) 1 16 Tryz.underlying30 KO La KH KD rfl (by decide) _ _ _ rfl ((jE (jE PW.o HBS.o) KG.o).alloc _) ⟨w4.heap.size,0,none⟩ 1 1 [.string ⟨(gW e).toArray⟩] rfl rfl ?c1 (by simp[Value.oneCell']) ?c3 ?c4 ?c5 ?_)
    case c1 =>
     intro j u hj;have hn:=Has.new w4 (.cells #[.string ⟨(gW e).toArray⟩] 9)
     match j,hj with
     |0,hj =>
      (obtain rfl:Value.string ⟨(gW e).toArray⟩=u:=by simpa using hj);exact hn.cell 0
    (case c3=>unfold maxLen;omega);(case c4=>omega);(case c5=>have:=HB.o.size;have:=HBS.o.size;have:=KG.o.size;simp;omega);intro u2 w5 Kt hg5 _;(go_wp2_with fail);go_roundw
    case rel =>
     have KB:=HBS.o.trans (KG.o.mono HBS.o.size);refine⟨k+1,by omega,by go_num,?_,?_⟩
     ·rw[bC (ar.1 QQ.o).1,(ar.1 QQ.o).2,IU];exact Kt
     exact ((HB.o.trans (KB.mono HB.o.size)).alloc (az HB.o.size KB.size) _).grown hg5 (by have:=HB.o.size;have:=KB.size;simp;omega) (fun j hj=>jF PW.o j hj)
    case measure=>simp[intOf];omega
   have d2:decide ((k:Int)<(n:Int))=false:=decide_eq_false (by omega);have YO:decide (k<n)=false:=decide_eq_false O8;(have hkk:k=n:=by omega);subst hkk;obtain⟨g5,KT,hu5,aa8,hg5,MZ⟩:=IW PW.o (by rw[RF.o];exact HPO.o) RF.o;subst hu5;have HJ:=Hd (IY wr g5 KT r.ef HE.o (by rw[<- RF.o];exact L2) MZ hg5 (by rw[<- RF.o];exact aa8));rw[<- RF.o]at HJ;(go_wp2_with (go_at_call 66;refine HJ.o.mono ?_;rintro e w5 ⟨rfl,Kx⟩));go_ret;exact⟨rfl,(H.o.here.below (Kn.o.trans ((HB.o.trans (Kx.mono HB.o.size)).mono Kn.o.size)))⟩
theorem I2 (h:DkW P own w0 w k ob db v r) (he:∀e∈r.ef,mg e) (L2:r.ef.length<=100000) (g o c:Nat) (ws:List Bytes) (hw:gF w g o ws) (hg:g<w.heap.size) (hc:ws.length<=c) (hl:ws.length<=100000) (hs:∀x∈ws,x.length<=100000) :
 Calls Tryz.prog 34 #[.pointer (some ⟨k,0,none⟩),.slice (some ⟨g,o,none⟩) ws.length c] w fun e w'=>Ends (kH r ws).1 e/\Dk P own w0 k w (kH r ws).2 w':=by
 rcases bx r.ef.length with h0|h0
 ·exact I0 (aP h0) h L2 g o c ws hw hg hc hl hs
 exact I1 h0 h he L2 g o c ws hw hg hc hl hs
end
end dk
namespace dk
open dI (Bytes dB eA)
open Go.RowKit heap eO dZ ff own fe
theorem AH:∃r,ff.start.2=some r:=by
 have h:ff.start.2.isSome=true:=by decide +kernel
 cases hs:ff.start.2 with
 |none=>rw[hs]at h;cases h
 |some r=>exact⟨r,rfl⟩
def four:List Bytes:=[[50,48],[56],[48],[50]]
theorem JB:ff.numbers four 4=some [20,8,0,2]:=by decide +kernel
section
variable {P:Lib.PrintTabs} {w0 w w':World} {k:Nat} {r:dB}
theorem JC (Uq:Has w k (.cells #[.pointer none] 28)) (Ly:w0.heap.size<=k) (Ls:jY P w0) (L9:Below w0.heap.size w0 w) (hr:ff.start.2=some r) (g o c:Nat) (hw:gF w g o four) (hg:g<w.heap.size) (hc:4<=c) :
 Calls Tryz.prog 6 #[.pointer (some ⟨k,0,none⟩),.slice (some ⟨g,o,none⟩) 4 c] w fun e w'=>(∃u,e=.returned u)/\∃own1 MU Nd v1,DkW P own1 w0 w' k MU Nd v1 r/\(∀g,g<w.heap.size->own1 g=0)/\dD (fun g=>g=k) w w':=by
 have HN:=Hd (ja P w g o c four 4 hw hg hc (by decide) (by decide) (Ls.below L9));rw[JB]at HN;have HK:=Hd Uq;have Mb:=Hd L9;have M0:=Hd Ls;obtain⟨y,hy⟩:∃y,y=dB.new ⟨20,8,0⟩ 2:=⟨_,rfl⟩;(have hyr:y.2=some r:=by rw[hy];exact hr);obtain⟨l,hl⟩:∃l:List Int,l=[20,8,0,2]:=⟨_,rfl⟩;rw[<- hl]at HN;have HL:=Hd hl;have KM:Hy (l.length=4):=Hd (by rw[hl];rfl);clear hw hl Uq L9 Ls hr;(go_enter Tryz.func6,Tryz.ntmps6);(go_upto_region 2 with (go_at_call 12;refine HN.o.mono ?_;rintro e w1 ⟨Kd,u,rfl,KQ⟩;obtain⟨g2,cap,rfl,ND,KE,hcell⟩:=lf KQ (by rw[KM.o];decide)));have Me:=hcell 0 (by rw[KM.o];decide);have Ln:=hcell 1 (by rw[KM.o];decide);have KL:=hcell 2 (by rw[KM.o];decide);have Mh:=hcell 3 (by rw[KM.o];decide);rw[KM.o];obtain⟨q0,NP⟩:∃q,q=at_ l 0:=⟨_,rfl⟩;obtain⟨q1,M8⟩:∃q,q=at_ l 1:=⟨_,rfl⟩;obtain⟨q2,NF⟩:∃q,q=at_ l 2:=⟨_,rfl⟩;obtain⟨q3,Rh⟩:∃q,q=at_ l 3:=⟨_,rfl⟩;rw[<- NP]at Me;rw[<- M8]at Ln;rw[<- NF]at KL;rw[<- Rh]at Mh;rw[show (20:Int)=q0 by rw[NP,HL.o];rfl,show (8:Int)=q1 by rw[M8,HL.o];rfl,show (2:Int)=q3 by rw[Rh,HL.o];rfl]at hy;rw[show (0:Int)=q2 by rw[NF,HL.o];rfl]at hy;have HS:Hy ((fun W=>W.cell? ⟨g2,0,none⟩=some (.int .i64 q0)/\W.cell? ⟨g2,1,none⟩=some (.int .i64 q1)/\W.cell? ⟨g2,2,none⟩=some (.int .i64 q2)/\W.cell? ⟨g2,3,none⟩=some (.int .i64 q3)) w1.drew):=Hd ⟨Me,Ln,KL,Mh⟩;have Ke:Below w.heap.size w w1.drew:=Kd.drew;have Kn:=Hd Ke;have OC:=Hd (M0.o.below (Mb.o.trans (Ke.mono Mb.o.size)));have HK2:=Hd (HK.o.below Ke HK.o.lt);have HC:=Hd (Ar w1.drew ⟨q0,q1,q2⟩ q3 OC.o.hO OC.o.handle);rw[<- hy]at HC;unfold dR.l6 at HC;have HY:=Hd hy;have Mu:Hy (g2<w1.drew.heap.size):=Hd KE;clear KQ hcell NP M8 NF Rh Kd HN Me Ln KL Mh KE ND hy Ke;refine last.head (fun W=>W.cell? ⟨g2,0,none⟩=some (.int .i64 q0)/\W.cell? ⟨g2,1,none⟩=some (.int .i64 q1)/\W.cell? ⟨g2,2,none⟩=some (.int .i64 q2)/\W.cell? ⟨g2,3,none⟩=some (.int .i64 q3)) 1000 19 ?_;refine last.many [(0,11,_),(1,12,_),(2,13,_),(3,14,_),(4,15,_),(5,16,_),(6,17,_),(7,18,_),(8,19,_),(9,20,.agg #[.int .i64 q0,.int .i64 q1,.int .i64 q2]),(10,21,_),(11,22,_),(12,23,_)] HS.o ?_ (hy:=fun W' Kc=>by have e0:=Kc.1;have e1:=Kc.2.1;have e2:=Kc.2.2.1;have e3:=Kc.2.2.2;repeat (first|exact .z|refine .s ?_|refine .k ?_));refine last.one 13 fun K hK=>?_;go_simp;refine HC.o.mono ?_;intro e w3 OV;obtain⟨yc,yo⟩:=y;dsimp only at hyr;subst hyr;obtain⟨own1,MU,Nd,v1,rfl,h3⟩:=OV;have Kk:=h3.fF;have Kq:Hy ((fun W=>W.cell? ⟨g2,0,none⟩=some (.int .i64 q0)/\W.cell? ⟨g2,1,none⟩=some (.int .i64 q1)/\W.cell? ⟨g2,2,none⟩=some (.int .i64 q2)/\W.cell? ⟨g2,3,none⟩=some (.int .i64 q3)) w3):=Hd ⟨(Kk.cell (p:=⟨g2,0,none⟩) Mu.o).trans HS.o.1,(Kk.cell (p:=⟨g2,1,none⟩) Mu.o).trans HS.o.2.1,(Kk.cell (p:=⟨g2,2,none⟩) Mu.o).trans HS.o.2.2.1,(Kk.cell (p:=⟨g2,3,none⟩) Mu.o).trans HS.o.2.2.2⟩;have R4:=Hd h3;have hk3:Has w3 k (.cells #[.pointer none] 28):=HK2.o.below Kk HK2.o.lt;have WU:=Hd hk3;have k0:w3.cell? ⟨k,0,none⟩=some (.pointer none):=hk3.cell 0;have k1:w3.frozen? ⟨k,0,none⟩=false:=hk3.frozen 0;clear HC Kk h3 hk3;refine hK.out _ _ (fun _=>Kq.o) ?_;clear hK K HS;dsimp only[List.set];refine last.many [(14,10,_),(15,25,_),(16,26,_),(17,6,_),(18,7,_)] Kq.o ?_;refine last.done ?_;(go_wp2_with (go_at_call 14;refine (jV w3).mono ?_;rintro e w4 ⟨rfl,rfl⟩));go_ret;have Tj:=R4.o.fF.size;have hr:=As R4.o M0.o.hO M0.o.handle (Mb.o.trans ((Kn.o.mono Mb.o.size)));have Ks:=HK2.o.lt;(have Mm:∀g,g<w3.heap.size->g=k->own1 g=0/\w0.heap.size<=g:=fun g _ e=>by subst e;exact⟨gC R4.o Ks,Ly⟩);refine⟨⟨_,rfl⟩,own1,MU,Nd,v1,⟨WU.o.eu 0 _,gC R4.o Ks,Ly,?_,M0.o⟩,fun g hg=>gC R4.o (ay hg Kn.o.size),?_⟩
 ·exact hr.ej (S:=fun g=>g=k) ((dD.refl (fun g=>g=k) w3).setCell (p:=⟨k,0,none⟩) (.inr rfl) _) (Ext.refl _ _) (fun g hg=>hr.fr g (by simpa using hg)) hr.low Mm
 exact (dD.fw (S:=fun g=>g=k) (Kn.o.trans (R4.o.fF.mono Kn.o.size)) (aq _)).setCell (p:=⟨k,0,none⟩) (.inr rfl) _
end
end dk
end Go.Proofs.YtlhodcmdpchllaaGreatDoor
