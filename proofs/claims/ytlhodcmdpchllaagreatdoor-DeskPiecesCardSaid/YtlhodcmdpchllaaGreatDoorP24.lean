/-
  A part of the proof of the law DeskPieces: WalH, WalI.
-/
import Derived.Deep.LoopGhost
import Derived.Test.YtlhodcmdpchllaaGreatDoorHd
import Derived.Test.YtlhodcmdpchllaaGreatDoorP22
set_option maxHeartbeats 16000000
set_option maxRecDepth 1000000
namespace Go.Proofs.YtlhodcmdpchllaaGreatDoor
namespace dZ
open Go.RowKit heap own dK eO
open dI (Rec)
def kf (P:Lib.PrintTabs) (B:Nat) (w:World):Prop:=∃w0:World,w0.heap.size=B/\jr P w0/\Below B w0 w
theorem kf.hO {P:Lib.PrintTabs} {B:Nat} {w:World} (h:kf P B w):jr P w:=by
 obtain⟨w0,rfl,hk,hb⟩:=h;exact hk.below hb
theorem kf.le {P:Lib.PrintTabs} {B:Nat} {w:World} (h:kf P B w):B<=w.heap.size:=by
 obtain⟨w0,hB,hk,hb⟩:=h;have:=hb.size;omega
theorem kf.below {P:Lib.PrintTabs} {B:Nat} {w w':World} (h:kf P B w) (hb:Below B w w'):kf P B w':=by
 obtain⟨w0,hB,hk,Ls⟩:=h;exact⟨w0,hB,hk,Ls.trans hb⟩
theorem kf.er {P:Lib.PrintTabs} {B:Nat} {w w':World} {S:Nat->Prop} (h:kf P B w) (ht:dD S w w') (hs:∀g,S g->B<=g):kf P B w':=
 h.below (ht.lU h.le fun k hk hS=>by have:=hs k hS;omega)
theorem fU.er {w w':World} {b:Nat} {ps:List ByteArray} {cut:Bool} {left:Int} {S:Nat->Prop} (h:fU w b ps cut left) (ht:dD S w w') (hn:¬S b):fU w' b ps cut left:=⟨ht.has h.d_ hn,h.hp⟩
def AS (wb box db:Nat) (v:Value) (dU:Bool) (r:Rec) (W:World):Prop:=
 Has W wb (.cells #[.pointer (some ⟨db,0,none⟩),v,.bool dU] 148)/\Has W box (.cells #[.int .i64 r.dL,.int .i64 r.dN,.int .i64 r.dF,.int .i64 r.eI,.string ⟨r.data.toArray⟩,.int .i64 r.dQ] 107)
theorem AS.alloc {wb box db:Nat} {v:Value} {dU:Bool} {r:Rec} {W:World} (h:AS wb box db v dU r W) (o:Obj):AS wb box db v dU r (W.alloc o).drew:=⟨h.1.alloc o,h.2.alloc o⟩
theorem AS.grown {wb box db:Nat} {v:Value} {dU:Bool} {r:Rec} {W W':World} {row:Option Nat} (h:AS wb box db v dU r W) (hg:W.grownBy W' row) (hn:∀k,row=some k->k≠wb/\k≠box):AS wb box db v dU r W':=
 ⟨h.1.grown hg (fun e=>(hn wb e.symm).1 rfl),h.2.grown hg (fun e=>(hn box e.symm).2 rfl)⟩
theorem wP (r:Rec) {w:World}:∀(j:Nat) (x:Value),(lj r)[j]?=some x->(w.alloc (.cells #[.int .i64 r.dL,.int .i64 r.dN,.int .i64 r.dF,.int .i64 r.eI,.string ⟨r.data.toArray⟩,.int .i64 r.dQ] 107)).drew.cell? ((⟨w.heap.size,0,none⟩:Addr).add j)=some x:=by
 intro j x hj;have h:=(Has.new w (.cells #[.int .i64 r.dL,.int .i64 r.dN,.int .i64 r.dF,.int .i64 r.eI,.string ⟨r.data.toArray⟩,.int .i64 r.dQ] 107)).cell j;(have e:(⟨w.heap.size,0,none⟩:Addr).add j=⟨w.heap.size,j,none⟩:=by by_cases h0:j=0<;>simp[Addr.add,h0]);rw[e];refine h.trans ?_;rw[<- hj];simp[lj]
def Dq (own:Nat->Nat) (T B:Nat) (w:World) (db:Nat) (l:List Rec) (e:Ending) (w':World):Prop:=
 ∃own1 wb v,e=.returned (.tuple #[.pointer (some ⟨wb,0,none⟩),.nilIface])/\Ext w own own1/\dD (fun g=>own g=T) w w'/\iO own1 T B w' wb db v false l/\w.heap.size<=wb
theorem Dr (P:Lib.PrintTabs) (own:Nat->Nat) (T B:Nat) (w:World) (db:Nat) (ps:List ByteArray) (cut:Bool) (left:Int) (l:List Rec) (hK:kf P B w) (hD:fU w db ps cut left) (hP:kB P ps l) (YQ:own db≠T) (Ly:∀g,own g=T->B<=g) :
 Calls Tryz.prog 54 #[.pointer (some ⟨db,0,none⟩)] w (Dq own T B w db l):=by
 obtain⟨i0,KO,La,KH,KD⟩:=info_parts tc;have HI:=Hd (And.intro KO (And.intro La (And.intro KH KD)));have HK:=Hd hK;have HD:=Hd hD;have HP:=Hd hP;have YR:=Hd YQ;have VO:=Hd Ly;have Sg:=hD.lt;have YS:=hP.len;have hBl:=hK.le;clear KO La KH KD hK hD hP YQ Ly;(go_enter Tryz.func54,Tryz.ntmps54);go_wp2;go_loopw [14] (fun TK wr=>∃(k:Nat) (own1:Nat->Nat) (v:Value),k<=l.length/\TK=.int .i64 k/\Ext w own own1/\iO own1 T B wr w.heap.size db v false (l.take k)/\dD (fun g=>own g=T) w wr) (fun TK _=>200-(intOf TK).toNat)
 case atStart =>
  refine⟨0,fun k=>if k=w.heap.size then T+1 else own k,.slice none 0 0,by omega,rfl,fun k hk=>by simp;omega,⟨?_,Row.nil _ _ _ _ _,by simp,fun g hg=>?_,hBl⟩,(dD.refl _ _).alloc _⟩
  ·exact Has.new w _
  by_cases e:g=w.heap.size
  ·omega
  simp only[if_neg e]at hg;exact VO.o g hg
 case round =>
  obtain⟨k,own1,v,hk,rfl,Sh,hw,ht⟩:=hrel;have HT:=Hd ht;have Pm:=Hd Sh;have YP:=hw.w_.lt;have VQ:kf P B wr:=HK.o.er ht VO.o;have YT:=HD.o.er ht YR.o;have HKR:=Hd VQ;have hBr:=VQ.le;by_cases Ks:k<l.length
  ·obtain⟨r,hr⟩:∃r,l[k]?=some r:=⟨_,ax Ks⟩;have N8:=HP.o.right r (aR hr);obtain⟨s,hs⟩:∃s:ByteArray,s=⟨(text P k r).toArray⟩:=⟨_,rfl⟩;(have MO:s.data.toList=text P k r:=by rw[hs]);have hc:wr.cell? ⟨db,k,none⟩=some (.string s):=YT.place k (by omega) s (by rw[HP.o.there k r hr,hs]);have PA:=wL P k (by omega) r N8 s (by rw[MO];exact List.prefix_refl _) wr VQ.hO;(have Mm:(k:Int)<200:=by omega);have Qb:=Hd MO;have HR:=Hd hr;have Si:=Hd hw;obtain⟨lk,RB⟩:∃lk,lk=l.take k:=⟨_,rfl⟩;(have hlen:lk.length=k:=by rw[RB,bG];omega);have XD:=Hd RB;rw[<- RB]at hw;have KI:=Hd hw;clear hs MO hr N8 VQ YT Sh hw RB ht;(go_wp2_with (go_at_call 88;refine PA.mono ?_;rintro e w1 ⟨r',ok,rfl,Kd,L5,hr'⟩;have VR:ok=true:=(by rw[L5];exact decide_eq_true Qb.o);subst VR;obtain rfl:r=r':=(hr' rfl).symm;clear L5 hr' PA;unfold ke kd));obtain⟨W,hW⟩:∃W,W=w1.alloc (.cells #[.int .i64 r.dL,.int .i64 r.dN,.int .i64 r.dF,.int .i64 r.eI,.string ⟨r.data.toArray⟩,.int .i64 r.dQ] 107):=⟨_,rfl⟩;have QK:Hy (Has W w1.heap.size (.cells #[.int .i64 r.dL,.int .i64 r.dN,.int .i64 r.dF,.int .i64 r.eI,.string ⟨r.data.toArray⟩,.int .i64 r.dQ] 107)):=Hd (by rw[hW];exact Has.new _ _);have M4:Hy (Below wr.heap.size wr W):=Hd (by rw[hW];exact Kd.alloc Kd.size _);have HW:Hy (iO own1 T B W w.heap.size db v false lk):=Hd (KI.o.below M4.o (aq _));have Mb:Hy (B<=W.heap.size):=Hd (az hBr M4.o.size)
   have Qc:Hy (∀k,v.ownBlock=some k->k≠w.heap.size/\k≠w1.heap.size):=Hd fun k hk=>by
    have h1:=KI.o.row.lt k hk;have h2:=KI.o.row.2 k hk;have h3:=KI.o.ow;have h4:=Kd.size;refine⟨fun e=>?_,by omega⟩;rw[e,h3]at h2;omega
   rw[<- hW]
   clear hW Kd
   have HS:Hy (AS w.heap.size (w1.heap.size) db v false r W.drew):=Hd ⟨HW.o.w_,QK.o⟩
   have VT:Hy ((W.alloc (.cells #[.int .i64 r.dL,.int .i64 r.dN,.int .i64 r.dF,.int .i64 r.eI,.string ⟨r.data.toArray⟩,.int .i64 r.dQ] 107)).drew.ownsRow 0 107 6 v lk.length (jG lk)):=Hd (HW.o.row.1.alloc _)
   have Q8:Hy ((W.alloc (.cells #[.int .i64 r.dL,.int .i64 r.dN,.int .i64 r.dF,.int .i64 r.eI,.string ⟨r.data.toArray⟩,.int .i64 r.dQ] 107)).drew.heap.size=W.heap.size+1):=Hd (World.size_alloc _ _)
   refine last.head (AS w.heap.size (w1.heap.size) db v false r) 10 11 ?_
   refine last.many [(0,30,_),(1,31,_),(2,32,_),(3,33,_),(4,34,_),(5,35,_)] HS.o ?_ (hy:=fun W' Kc=>by have LP:=Kc.1.cell 1;simp only[aC,aE,aD]at LP;have e0:=Kc.2.cell 0;have e1:=Kc.2.cell 1;have e2:=Kc.2.cell 2;have e3:=Kc.2.cell 3;have e4:=Kc.2.cell 4;have e5:=Kc.2.cell 5;simp only[aC,aE,aD]at e0 e1 e2 e3 e4 e5;repeat (first|exact .z|refine .s ?_|refine .k ?_))
   refine last.one 6 fun K hK=>?_
   go_simp
   have Kq:Hy (AS w.heap.size (w1.heap.size) db v false r (W.alloc (.cells #[.int .i64 r.dL,.int .i64 r.dN,.int .i64 r.dF,.int .i64 r.eI,.string ⟨r.data.toArray⟩,.int .i64 r.dQ] 107)).drew):=Hd (AS.alloc ⟨HW.o.w_,QK.o⟩ _)
   refine hK.out _ _ (fun _=>Kq.o) ?_
   clear hK K
   refine last.sy (i:=7) (by kernel_rfl) (by simp only[aC,aD,aE];exact rfl) fun K hK=>?_
   refine step_append_lies _ (by rfl) (.tmp 34) (.tmp 36) 104 (by rfl) 0 107 i0 _ 6 56 Tryz.underlying104 HI.o.1 HI.o.2.1 HI.o.2.2.1 HI.o.2.2.2 (by rfl) (by decide) v lk.length (jG lk) (by rfl) VT.o ⟨W.heap.size,0,none⟩ 1 1 (lj r) (by rfl) rfl (wP r) (sZ r) (by omega) (by unfold maxLen;omega) (by omega) (by simp) (W.heap.size+1) Q8.o ?_
   intro g Ku w4 KR Lq Mi Sj
   have MB:Hy (AS w.heap.size (w1.heap.size) db v false r w4):=Hd (AS.grown Kq.o Lq Qc.o)
   refine hK.out _ _ (fun _=>MB.o) ?_
   have D4:=Hd (wN HW.o Mb.o KR Lq Mi)
   clear hK K KR Lq Mi Sj
   skip
   refine last.one 8 fun K hK=>?_;go_simp;refine hK.out _ _ (fun _=>MB.o) ?_;clear hK K;refine last.one 9 fun K hK=>?_;go_simp;refine hK.out _ _ (fun _=>MB.o) ?_;clear hK K;refine last.one 10 fun K hK=>?_;have LP:=MB.o.1.cell 1;simp only[aC,aE,aD]at LP;have fv1:=MB.o.1.frozen 1;go_simp;refine hK.out _ _ (fun h=>absurd rfl h) ?_;clear hK K LP fv1;refine last.done ?_;(go_wp2_with fail);go_roundw
   case rel =>
    subst hlen;obtain⟨own2,v2,RH,Kr,Nh⟩:=D4.o;have LH:=M4.o.size;have hwz:=HT.o.size;refine⟨lk.length+1,own2,v2,by omega,by go_num,Pm.o.trans (fun j hj=>RH j (by omega)) hwz,?_,?_⟩
    ·rw[bo,HR.o,<- XD.o];exact Nh
    refine (HT.o.gn M4.o (aq _)).trans Kr (fun j hj hS=>?_);rcases hS with rfl|hS
    ·omega
    rw[Pm.o j hj]at hS;exact hS
   case measure=>simp[intOf];omega
  (obtain rfl:k=l.length:=by omega);rw[bp]at hw;have Si:=Hd hw;by_cases Mm:l.length<200
  ·obtain⟨s,r,hs,N8,Qd,Km⟩:=HP.o.none l.length (aq _) Mm;have hc:wr.cell? ⟨db,l.length,none⟩=some (.string s):=YT.place _ Mm s hs;have PA:=wL P l.length (by omega) r N8 s Qd wr VQ.hO;(have ac9:(l.length:Int)<200:=by omega);have MY:=Hd Km;clear hs Qd Km N8 VQ YT Sh hw ht;(go_wp2_with (go_at_call 88;refine PA.mono ?_;rintro e w1 ⟨r',ok,rfl,Kd,L5,-⟩;have VR:ok=false:=(by rw[L5];exact decide_eq_false MY.o);subst VR;clear L5 PA;unfold ke kd));go_ret2;have hbb:∀o,Below wr.heap.size wr (w1.alloc o):=fun o=>Kd.alloc Kd.size o;exact⟨own1,w.heap.size,v,rfl,Pm.o,HT.o.gn (hbb _) (aq _),Si.o.below (hbb _) (aq _),aq _⟩
  (have ac9:¬(l.length:Int)<200:=by omega);clear VQ YT Sh hw ht;(go_wp2_with fail);go_ret2;exact⟨own1,w.heap.size,v,rfl,Pm.o,HT.o,Si.o,aq _⟩
end dZ
namespace dZ
open Go.RowKit heap own dK eO
open dI (Rec dW)
def Ds (P:Lib.PrintTabs) (own:Nat->Nat) (T B:Nat) (w:World) (wb db:Nat) (x:Int×dW×Bool) (e:Ending) (w':World):Prop:=
 e=.returned (fx x.1)/\∃own1 v ps,Ext w own own1/\dD (fun g=>g=wb\/g=db\/own g=T) w w'/\iO own1 T B w' wb db v x.2.2 x.2.1.dK/\fU w' db ps x.2.1.cut x.2.1.left/\kB P ps x.2.1.dK
theorem AS.below {wb box db:Nat} {v:Value} {dU:Bool} {r:Rec} {W W':World} (h:AS wb box db v dU r W) (hb:Below W.heap.size W W'):AS wb box db v dU r W':=⟨h.1.below hb h.1.lt,h.2.below hb h.2.lt⟩
theorem AS.er {wb box db:Nat} {v:Value} {dU:Bool} {r:Rec} {W W':World} (h:AS wb box db v dU r W) (ht:dD (fun g=>g=db) W W') (h1:wb≠db) (h2:box≠db):AS wb box db v dU r W':=⟨ht.has h.1 h1,ht.has h.2 h2⟩
theorem Dt {d:dW} {r:Rec} (h:r.right=false):d.add false r=(1,d,false):=by simp[dW.add,h]
theorem Du {d:dW} {r:Rec} (h:r.right=true) (h2:200<=d.dK.length):d.add false r=(12,d,false):=by simp[dW.add,h,h2]
theorem Dv {d:dW} {r:Rec} (h:r.right=true) (h2:d.dK.length<200) (h3:d.cut=true/\d.left=0):d.add false r=(14,d,true):=by
 (have:¬200<=d.dK.length:=by omega);simp[dW.add,h,this,h3.1,h3.2]
theorem pO {d:dW} {r:Rec} (h:r.right=true) (h2:d.dK.length<200) (h3:¬(d.cut=true/\d.left=0)):d.add false r=(0,{d with dK:=d.dK++[r],left:=wrap64 (d.left-1)},false):=by
 have:¬200<=d.dK.length:=by omega
 have h4:(d.cut&&decide (d.left=0))=false:=by
  cases hc:d.cut with
  |false=>rfl
  |true=>exact decide_eq_false (fun e=>h3 ⟨hc,e⟩)
 simp[dW.add,h,this,h4]
theorem iO.er {own:Nat->Nat} {T B:Nat} {w w1:World} {wb db:Nat} {v:Value} {dU:Bool} {l:List Rec} {S:Nat->Prop} (h:iO own T B w wb db v dU l) (ht:dD S w w1) (h1:¬S wb) (h2:∀k,own k=T->¬S k):iO own T B w1 wb db v dU l:=
 ⟨ht.has h.w_ h1,h.row.ej ht (Ext.refl _ _) (fun k _ hk=>h2 k hk),h.ow,h.low,h.lw⟩
theorem fU.far {w:World} {b wb:Nat} {ps:List ByteArray} {cut:Bool} {left:Int} (h:fU w b ps cut left) (hn:b≠wb) (o:Nat) (v:Value):fU (w.setCell ⟨wb,o,none⟩ v) b ps cut left:=⟨h.d_.far (p:=⟨wb,o,none⟩) hn v,h.hp⟩
theorem Dw {own:Nat->Nat} {T B:Nat} {w:World} {wb db:Nat} {v:Value} {dU:Bool} {l:List Rec} (h:iO own T B w wb db v dU l):∃a c,v=.slice a l.length c:=by
 rcases h.row.1.2 with⟨e,h0⟩|⟨g,cap,cur,e,-⟩
 ·exact⟨none,0,by rw[e,h0]⟩
 exact⟨some ⟨g,0,none⟩,cap,e⟩
theorem Dx (P:Lib.PrintTabs) (own:Nat->Nat) (T B:Nat) (w:World) (wb db:Nat) (v:Value) (ps:List ByteArray) (d:dW) (r:Rec) (hs:r.data.length<4611686018427387904) (fa:Int) (hK:kf P B w)
 (h:iO own T B w wb db v false d.dK) (hD:fU w db ps d.cut d.left) (hP:kB P ps d.dK) (YQ:own db≠T) (Km:wb≠db) :
 Calls Tryz.prog 58 #[.pointer (some ⟨wb,0,none⟩),ke r,.int .i64 fa] w (Ds P own T B w wb db (d.add false r)):=by
 obtain⟨i0,KO,La,KH,KD⟩:=info_parts tc;have HI:=Hd (And.intro KO (And.intro La (And.intro KH KD)));obtain⟨a,c,rfl⟩:=Dw h;obtain⟨n,hn⟩:∃n,n=d.dK.length:=⟨_,rfl⟩;rw[<- hn]at h;have Kg:=h.w_.lt;have ada:=hD.lt;have YS:=hP.len;have c1:=h.w_.cell 1;have c2:=h.w_.cell 2;simp only[aC,aE,aD]at c1 c2;have PM:Below w.heap.size w (w.alloc (.cells #[.int .i64 r.dL,.int .i64 r.dN,.int .i64 r.dF,.int .i64 r.eI,.string ⟨r.data.toArray⟩,.int .i64 r.dQ] 107)):=(Below.refl _ _).alloc (aq _) _;have RA:=jI r hs (w.alloc (.cells #[.int .i64 r.dL,.int .i64 r.dN,.int .i64 r.dF,.int .i64 r.eI,.string ⟨r.data.toArray⟩,.int .i64 r.dQ] 107));have TL:Hy (Has (w.alloc (.cells #[.int .i64 r.dL,.int .i64 r.dN,.int .i64 r.dF,.int .i64 r.eI,.string ⟨r.data.toArray⟩,.int .i64 r.dQ] 107)) w.heap.size (.cells #[.int .i64 r.dL,.int .i64 r.dN,.int .i64 r.dF,.int .i64 r.eI,.string ⟨r.data.toArray⟩,.int .i64 r.dQ] 107)):=Hd (Has.new _ _);have Si:=Hd (h.below PM (aq _));have RI:=Hd (hD.below PM ada);have HK0:=Hd (hK.below (PM.mono hK.le));have N9:=Hd PM;have HP:=Hd hP;have adb:=Hd (fun k (hk:(Value.slice a n c).ownBlock=some k)=>And.intro (h.row.lt k hk) (And.intro (h.row.2 k hk) h.ow));have VO:=Hd h.low;have HN:=Hd hn;have hBle:=hK.le;have YR:=Hd YQ;have MY:=Hd Km;unfold ke kd;unfold ke kd at RA;clear h hD hP PM hK KO La KH KD hn YQ
 cases hr:r.right with
 |false =>
  rw[hr]at RA;rw[Dt hr];clear hr;(go_enter Tryz.func58,Tryz.ntmps58);(go_wp2_with (go_at_call 89;refine RA.mono ?_;rintro e w1 ⟨rfl,Kd⟩;clear RA));go_ret;have hbb:=N9.o.trans (Kd.mono N9.o.size);exact⟨rfl,own,_,ps,Ext.refl _ _,dD.fw hbb (aq _),Si.o.below Kd (aq _),RI.o.below Kd RI.o.lt,HP.o⟩
 |true =>
  rw[hr]at RA;have HR:=Hd hr;clear hr;by_cases YU:200<=n
  ·have d200:decide ((200:Int)<=(n:Int))=true:=decide_eq_true (by omega);rw[Du HR.o (by rw[<- HN.o];exact YU)];(go_enter Tryz.func58,Tryz.ntmps58);(go_wp2_with (go_at_call 89;refine RA.mono ?_;rintro e w1 ⟨rfl,Kd⟩;clear RA;have c3:=(Si.o.below Kd (aq _)).w_.cell 1;simp only[aC,aE,aD]at c3));go_ret;have hbb:=N9.o.trans (Kd.mono N9.o.size);exact⟨rfl,own,_,ps,Ext.refl _ _,dD.fw hbb (aq _),Si.o.below Kd (aq _),RI.o.below Kd RI.o.lt,HP.o⟩
  (have OG:n<200:=by omega);have d200:decide ((200:Int)<=(n:Int))=false:=decide_eq_false (by omega);(have hnI:¬(200:Int)<=(n:Int):=by omega);by_cases KW:d.cut=true/\d.left=0
  ·rw[Dv HR.o (by rw[<- HN.o];exact OG) KW];have NW:=Hd KW;clear KW;(go_enter Tryz.func58,Tryz.ntmps58);(go_wp2_with (go_at_call 89;refine RA.mono ?_;rintro e w1 ⟨rfl,Kd⟩;clear RA;have c3:=(Si.o.below Kd (aq _)).w_.cell 1;simp only[aC,aE,aD]at c3));have KI:=Hd (Si.o.below Kd (aq _));have Sk:=Hd (RI.o.below Kd RI.o.lt);have HK1:=Hd (HK0.o.below (Kd.mono HK0.o.le));have VU:=Hd (TL.o.below Kd TL.o.lt);have Sl:=Hd (N9.o.trans (Kd.mono N9.o.size));have HS:Hy (AS wb w.heap.size db (.slice a n c) false r w1.drew):=Hd ⟨KI.o.w_,VU.o⟩;clear c3 Kd;refine last.head (AS wb w.heap.size db (.slice a n c) false r) 1000 19 ?_;refine last.many [(0,27,_),(1,28,_),(2,29,_),(3,30,_),(4,31,_),(5,32,_),(6,33,_),(7,34,_),(8,35,_),(9,36,_),(10,37,_),(11,38,_),(12,39,_),(13,40,_),(14,41,_),(16,43,_)] HS.o ?_ (hy:=fun W' Kc=>by have hv0:=Kc.1.cell 0;simp only[aC,aE]at hv0;have LP:=Kc.1.cell 1;simp only[aC,aE,aD]at LP;have e0:=Kc.2.cell 0;have e1:=Kc.2.cell 1;have e2:=Kc.2.cell 2;have e3:=Kc.2.cell 3;have e4:=Kc.2.cell 4;have e5:=Kc.2.cell 5;simp only[aC,aE,aD]at e0 e1 e2 e3 e4 e5;repeat (first|exact .z|refine .s ?_|refine .k ?_));have TA:=sQ P n (by omega) r (na HR.o) w1.drew (HK1.o.below (Below.refl _ _).drew).hO;obtain⟨tx,PL⟩:∃tx:ByteArray,tx=⟨(text P n r).toArray⟩:=⟨_,rfl⟩;rw[<- PL]at TA;have VN:=Hd PL;(have R5:tx.size<=1000:=by rw[PL];show (text P n r).toArray.size<=1000;rw[cd];exact sM P n r (by omega) (by omega) (na HR.o));clear PL;refine last.one 15 fun K hK=>?_;go_simp;refine TA.mono ?_;rintro e w2 ⟨rfl,Ke⟩;have Kq:=Hd (HS.o.below Ke);refine hK.out _ _ (fun _=>Kq.o) ?_;clear hK K TA;have NH:Below w1.heap.size w1 w2:=⟨Ke.os,Ke.tape,Ke.output,Ke.size,Ke.block⟩;have Lk:=Hd (KI.o.below NH (aq _));have Pn:=Hd (Sk.o.below NH Sk.o.lt);have Sn:=Hd (Sl.o.trans (NH.mono Sl.o.size));clear Ke NH;have WA:=wK db ps d.cut d.left n OG tx (by omega) fa w2 Pn.o;rw[if_pos NW.o]at WA;simp only[if_pos NW.o]at WA;refine last.one 17 fun K hK=>?_;go_simp;refine WA.mono ?_;rintro e w3 ⟨rfl,YV,KF⟩;have Lp:=Hd (Kq.o.er KF MY.o (by omega));refine hK.out _ _ (fun _=>Lp.o) ?_;clear hK K WA;have Ti:=Hd (Lk.o.er KF MY.o (fun k hk e=>YR.o (by rw[<- show k=db from e];exact hk)));have HD3:=Hd YV;have LQ:=Hd KF;clear YV KF;refine last.one 18 fun K hK=>?_;go_simp;refine hK.out _ _ (fun _=>Lp.o) ?_;clear hK K;refine last.done ?_;rw[iE (by decide:(14:Int)≠0)];have c3:=Ti.o.w_.cell 2;simp only[aC,aE,aD]at c3;have f3:=Ti.o.w_.frozen 2;go_wp2;go_ret;refine⟨by rw[iE (by decide:(14:Int)≠0)];rfl,own,_,_,Ext.refl _ _,?_,Ti.o.qQ true,fU.far HD3.o (Ne.symm MY.o) 2 _,?_⟩
   ·have h1:dD (fun g=>g=wb\/g=db\/own g=T) w w3:=(dD.fw Sn.o (aq _)).trans LQ.o (fun k _ hk=>.inr (.inl hk));exact h1.setCell (p:=⟨wb,2,none⟩) (.inr (.inl rfl)) _
   by_cases ht:0<=fa
   ·rw[if_pos ht];(have htz:0<tx.size:=by rw[VN.o];show 0<(text P n r).toArray.size;rw[cd];exact wi P n r);have VW:=Dh htz ht;(have he:(tx.extract 0 (kR tx.size fa)).data.toList=(text P d.dK.length r).take (kR tx.size fa):=by rw[Lib.extract_from_zero,VN.o,HN.o]);rw[HN.o];refine HP.o.Dj RI.o.hp r HR.o (by rw[<- HN.o];exact OG) _ ?_ ?_
    ·rw[he];exact List.take_prefix _ _
    intro e;(have h2:((text P d.dK.length r).take (kR tx.size fa)).length=(text P d.dK.length r).length:=by rw[<- he,e]);(have h3:tx.size=(text P d.dK.length r).length:=by rw[VN.o,HN.o];show (text P d.dK.length r).toArray.size=_;rw[cd]);rw[bG]at h2;omega
   rw[if_neg ht];exact HP.o
  rw[pO HR.o (by rw[<- HN.o];exact OG) KW];have NW:=Hd KW;clear KW;(go_enter Tryz.func58,Tryz.ntmps58);(go_wp2_with (go_at_call 89;refine RA.mono ?_;rintro e w1 ⟨rfl,Kd⟩;clear RA;have c3:=(Si.o.below Kd (aq _)).w_.cell 1;simp only[aC,aE,aD]at c3));have KI:=Hd (Si.o.below Kd (aq _));have Sk:=Hd (RI.o.below Kd RI.o.lt);have HK1:=Hd (HK0.o.below (Kd.mono HK0.o.le));have VU:=Hd (TL.o.below Kd TL.o.lt);have Sl:=Hd (N9.o.trans (Kd.mono N9.o.size));have HS:Hy (AS wb w.heap.size db (.slice a n c) false r w1.drew):=Hd ⟨KI.o.w_,VU.o⟩;clear c3 Kd;refine last.head (AS wb w.heap.size db (.slice a n c) false r) 1000 19 ?_;refine last.many [(0,27,_),(1,28,_),(2,29,_),(3,30,_),(4,31,_),(5,32,_),(6,33,_),(7,34,_),(8,35,_),(9,36,_),(10,37,_),(11,38,_),(12,39,_),(13,40,_),(14,41,_),(16,43,_)] HS.o ?_ (hy:=fun W' Kc=>by have hv0:=Kc.1.cell 0;simp only[aC,aE]at hv0;have LP:=Kc.1.cell 1;simp only[aC,aE,aD]at LP;have e0:=Kc.2.cell 0;have e1:=Kc.2.cell 1;have e2:=Kc.2.cell 2;have e3:=Kc.2.cell 3;have e4:=Kc.2.cell 4;have e5:=Kc.2.cell 5;simp only[aC,aE,aD]at e0 e1 e2 e3 e4 e5;repeat (first|exact .z|refine .s ?_|refine .k ?_));have TA:=sQ P n (by omega) r (na HR.o) w1.drew (HK1.o.below (Below.refl _ _).drew).hO;obtain⟨tx,PL⟩:∃tx:ByteArray,tx=⟨(text P n r).toArray⟩:=⟨_,rfl⟩;rw[<- PL]at TA;have VN:=Hd PL;(have R5:tx.size<=1000:=by rw[PL];show (text P n r).toArray.size<=1000;rw[cd];exact sM P n r (by omega) (by omega) (na HR.o));clear PL;refine last.one 15 fun K hK=>?_;go_simp;refine TA.mono ?_;rintro e w2 ⟨rfl,Ke⟩;have Kq:=Hd (HS.o.below Ke);refine hK.out _ _ (fun _=>Kq.o) ?_;clear hK K TA;have NH:Below w1.heap.size w1 w2:=⟨Ke.os,Ke.tape,Ke.output,Ke.size,Ke.block⟩;have Lk:=Hd (KI.o.below NH (aq _));have Pn:=Hd (Sk.o.below NH Sk.o.lt);have Sn:=Hd (Sl.o.trans (NH.mono Sl.o.size));clear Ke NH;have WA:=wK db ps d.cut d.left n OG tx (by omega) fa w2 Pn.o;rw[if_neg NW.o]at WA;simp only[if_neg NW.o]at WA;refine last.one 17 fun K hK=>?_;go_simp;refine WA.mono ?_;rintro e w3 ⟨rfl,YV,KF⟩;have Lp:=Hd (Kq.o.er KF MY.o (by omega));refine hK.out _ _ (fun _=>Lp.o) ?_;clear hK K WA;have Ti:=Hd (Lk.o.er KF MY.o (fun k hk e=>YR.o (by rw[<- show k=db from e];exact hk)));have HD3:=Hd YV;have LQ:=Hd KF;clear YV KF;refine last.one 18 fun K hK=>?_;go_simp;refine hK.out _ _ (fun _=>Lp.o) ?_;clear hK K;refine last.done ?_;rw[kx];(go_wp2_with fail);have HW:=Ti;have QK:=Hd Lp.o.2;have Mb:Hy (B<=w3.heap.size):=Hd (by have:=LQ.o.size;have:=Sn.o.size;omega)
  have Qc:Hy (∀k,(Value.slice a n c).ownBlock=some k->k≠wb/\k≠w.heap.size):=Hd fun k hk=>by
   obtain⟨h1,h2,h3⟩:=adb.o k hk;refine⟨fun e=>?_,by omega⟩;rw[e,h3]at h2;omega
  rw[HN.o]at *
  have HS:Hy (AS wb (w.heap.size) db (.slice a d.dK.length c) false r w3.drew):=Hd ⟨HW.o.w_,QK.o⟩
  have VT:Hy ((w3.alloc (.cells #[.int .i64 r.dL,.int .i64 r.dN,.int .i64 r.dF,.int .i64 r.eI,.string ⟨r.data.toArray⟩,.int .i64 r.dQ] 107)).drew.ownsRow 0 107 6 (.slice a d.dK.length c) d.dK.length (jG d.dK)):=Hd (HW.o.row.1.alloc _)
  have Q8:Hy ((w3.alloc (.cells #[.int .i64 r.dL,.int .i64 r.dN,.int .i64 r.dF,.int .i64 r.eI,.string ⟨r.data.toArray⟩,.int .i64 r.dQ] 107)).drew.heap.size=w3.heap.size+1):=Hd (World.size_alloc _ _)
  refine last.head (AS wb (w.heap.size) db (.slice a d.dK.length c) false r) 10 11 ?_
  refine last.many [(0,51,_),(1,52,_),(2,53,_),(3,54,_),(4,55,_),(5,56,_)] HS.o ?_ (hy:=fun W' Kc=>by have LP:=Kc.1.cell 1;simp only[aC,aE,aD]at LP;have e0:=Kc.2.cell 0;have e1:=Kc.2.cell 1;have e2:=Kc.2.cell 2;have e3:=Kc.2.cell 3;have e4:=Kc.2.cell 4;have e5:=Kc.2.cell 5;simp only[aC,aE,aD]at e0 e1 e2 e3 e4 e5;repeat (first|exact .z|refine .s ?_|refine .k ?_))
  refine last.one 6 fun K hK=>?_
  go_simp
  have Kq:Hy (AS wb (w.heap.size) db (.slice a d.dK.length c) false r (w3.alloc (.cells #[.int .i64 r.dL,.int .i64 r.dN,.int .i64 r.dF,.int .i64 r.eI,.string ⟨r.data.toArray⟩,.int .i64 r.dQ] 107)).drew):=Hd (AS.alloc ⟨HW.o.w_,QK.o⟩ _)
  refine hK.out _ _ (fun _=>Kq.o) ?_
  clear hK K
  refine last.sy (i:=7) (by kernel_rfl) (by simp only[aC,aD,aE];exact rfl) fun K hK=>?_
  refine step_append_lies _ (by rfl) (.tmp 55) (.tmp 57) 104 (by rfl) 0 107 i0 _ 6 56 Tryz.underlying104 HI.o.1 HI.o.2.1 HI.o.2.2.1 HI.o.2.2.2 (by rfl) (by decide) (.slice a d.dK.length c) d.dK.length (jG d.dK) (by rfl) VT.o ⟨w3.heap.size,0,none⟩ 1 1 (lj r) (by rfl) rfl (wP r) (sZ r) (by omega) (by unfold maxLen;omega) (by omega) (by simp) (w3.heap.size+1) Q8.o ?_
  intro g Ku w4 KR Lq Mi Sj
  have MB:Hy (AS wb (w.heap.size) db (.slice a d.dK.length c) false r w4):=Hd (AS.grown Kq.o Lq Qc.o)
  refine hK.out _ _ (fun _=>MB.o) ?_
  have D4:=Hd (wN HW.o Mb.o KR Lq Mi)
  clear hK K KR Lq Mi Sj
  skip
  refine last.one 8 fun K hK=>?_;go_simp;refine hK.out _ _ (fun _=>MB.o) ?_;clear hK K;refine last.one 9 fun K hK=>?_;go_simp;refine hK.out _ _ (fun _=>MB.o) ?_;clear hK K;refine last.one 10 fun K hK=>?_;have LP:=MB.o.1.cell 1;simp only[aC,aE,aD]at LP;have fv1:=MB.o.1.frozen 1;go_simp;refine hK.out _ _ (fun h=>absurd rfl h) ?_;clear hK K LP fv1;refine last.done ?_;go_wp2;go_ret;obtain⟨own2,v2,RH,Kr,Nh⟩:=D4.o;have Tj:=LQ.o.size;have KD:=Sn.o.size;refine⟨rfl,own2,v2,ps.set d.dK.length tx,fun k hk=>RH k (by omega),?_,Nh,?_,?_⟩
  ·have h1:dD (fun g=>g=wb\/g=db\/own g=T) w w3:=(dD.fw Sn.o (aq _)).trans LQ.o (fun k _ hk=>.inr (.inl hk));exact h1.trans Kr (fun k _ hk=>hk.imp (fun h=>h) (fun h=>.inr h))
  ·exact HD3.o.er Kr (fun e=>e.elim (fun h=>MY.o h.symm) YR.o)
  have e:=HP.o.add RI.o.hp r HR.o OG;rw[<- VN.o]at e;exact e
end dZ
end Go.Proofs.YtlhodcmdpchllaaGreatDoor
