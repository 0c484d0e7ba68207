/-
  A part of the proof of the law DeskPieces: UnqE, UnqF, WalE, WalF, WalG.
-/
import Derived.Deep.LoopGhost
import Derived.Laws.BytesArg
import Derived.Lib.BufferWrite
import Derived.Shelf.Unicode.DecodeSlow
import Derived.Shelf.Bytes.SlSmallAll
import Derived.Laws.ResultCell
import Derived.Lib.AtoiErrMem
import Derived.Deep.AppendLies
import Derived.Laws.AppendOwnNone
import Derived.Test.YtlhodcmdpchllaaGreatDoorHd
import Derived.Test.YtlhodcmdpchllaaGreatDoorP08
import Derived.Test.YtlhodcmdpchllaaGreatDoorP21
set_option maxHeartbeats 16000000
set_option maxRecDepth 1000000
namespace Go.Proofs.YtlhodcmdpchllaaGreatDoor
namespace jS
open Go.RowKit lG heap own
theorem sT:(Tryz.prog.info? 5).map (fun i=>(i.zero,i.size,i.bytes))=some (some (.int .u8 0),1,1):=by kernel_rfl
theorem sU {w:World} {B n:Nat} {v:Value} {l:Bytes} (h:w.ownsRow B 5 1 v n (Lib.byteCells l)) (hn:n=l.length) :
 (convert 32 9 v).run Tryz.prog w=.ok (.string ⟨l.toArray⟩) w:=by
 subst hn;rcases h.2 with⟨rfl,h0⟩|⟨g,cap,cur,rfl,hb,hg,h1,h2,h3,h4⟩
 ·have:=aP h0;subst this;exact run_convert_bytes_zero w _ _ Tryz.underlying32 Tryz.underlying5 none 0 _ Tryz.underlying9
 rcases bx l.length with h0|h0
 ·have:=aP h0;subst this;exact run_convert_bytes_zero w _ _ Tryz.underlying32 Tryz.underlying5 _ cap _ Tryz.underlying9
 refine run_convert_bytes_back w _ _ _ ⟨g,0,none⟩ cap l Tryz.underlying32 Tryz.underlying5 Tryz.underlying9 (fun j hj=>?_);rw[show (⟨g,0,none⟩:Addr).add j=⟨g,j,none⟩ from by by_cases h0:j=0<;>simp[Addr.add,h0]];rw[(ij (w:=w) (n:=l.length) (size:=1) hg h4 j (by omega)).1];simp[Lib.byteCells,List.getElem?_eq_getElem hj]
structure pN (s:ByteArray) (ts:List Tok) (T:Bytes):Prop where
 e:s.data.toList=34::(ts.flatMap Tok.bs++T)
 ok:∀t∈ts,gP t
 small:s.size<100000
theorem iV (s:ByteArray):s.size=s.data.toList.length:=rfl
theorem nO (s:ByteArray) (k:Nat) (h:k<s.size) (b:UInt8) (hb:s.data.toList[k]?=some b):s[k]'h=b:=by
 (have:s.data.toList[k]?=some (s[k]'h):=by rw[ax (by rw[<- iV];exact h)];rfl);rw[this]at hb;exact aw hb
def sV:Value->Nat
 |.string s=>s.size
 |_=>0
theorem sW {t:Tok} (h:gP t):0<=t.r/\t.r<1114112/\(t.m=false->t.r<256):=by
 cases h with
 |ascii c h0 h1 h2 h3=>exact⟨by simp,by simp;omega,fun _=>by simp;omega⟩
 |multi r h0 hv=>simp only[Lib.validRune,decide_eq_true_eq]at hv;exact⟨by simp;omega,by simp;omega,fun e=>by cases e⟩
 |short x v h=>unfold j9 at h;simp only;omega
 |hex a h=>exact⟨by simp,by simp;omega,fun _=>by simp;omega⟩
 |u4 r h0 h1 hv=>exact⟨by simp,by simp;omega,fun e=>by cases e⟩
 |u8 r h0 hv=>simp only[Lib.validRune,decide_eq_true_eq]at hv;exact⟨by simp,by simp;omega,fun e=>by cases e⟩
theorem qL {t:Tok} (h:gP t):t.val.length<=4/\t.val.length<=4*t.bs.length:=by
 have h1:t.val.length<=4:=by
  unfold Tok.val;split
  ·simp
  have:=Lib.encodeRuneZ_length t.r;simp[Lib.encodeRune];omega
 obtain⟨b,l,hb,-,-⟩:=qK h;exact⟨h1,by rw[hb];simp;omega⟩
theorem wy:∀(ts:List Tok),(∀t∈ts,gP t)->(ts.flatMap Tok.val).length<=4*(ts.flatMap Tok.bs).length
 | [],_=>by simp
 |t::ts,h=>by
  have h1:=(qL (h t (by simp))).2;have h2:=wy ts (fun x hx=>h x (by simp[hx]));simp only[aU,aA];omega
theorem take_len (ts:List Tok) (k:Nat):((ts.take k).flatMap Tok.val).length<=(ts.flatMap Tok.val).length:=by
 (have h:ts.flatMap Tok.val=(ts.take k).flatMap Tok.val++(ts.drop k).flatMap Tok.val:=by rw[<- bY,cD]);rw[h,aA];omega
theorem pf {w:World} {B k m:Nat} {ts:List Tok} {t:Tok} {v:Value} {cs:List Value} {N:Nat} {L:List Value} (hN:N=((ts.take k).flatMap Tok.val).length) (hL:L=Lib.byteCells ((ts.take k).flatMap Tok.val)) (hk:ts.take (k+1)=ts.take k++[t]) (hm:t.val.length=m) (hc:Lib.byteCells t.val=cs)
 (h:w.ownsRow B 5 1 v (N+m) (L++cs)) :
 w.ownsRow B 5 1 v ((ts.take (k+1)).flatMap Tok.val).length (Lib.byteCells ((ts.take (k+1)).flatMap Tok.val)):=by
 (have e:(ts.take (k+1)).flatMap Tok.val=(ts.take k).flatMap Tok.val++t.val:=by rw[hk];simp);rw[e,aA,Lib.byteCells_append,hm,hc,<- hN,<- hL];exact h
theorem below_grown {w wm:World} (h:w.grownBy wm none):Below w.heap.size w wm:=⟨h.os,h.tape,h.output,h.size,fun k hk=>h.block k hk (by simp)⟩
theorem U8.below {w w':World} (h:U8 w) (hb:Below w.heap.size w w'):U8 w':=Utf8Tabs_below h hb
theorem C4 {s u:ByteArray} {ts:List Tok} {T:Bytes} {o:Nat} (L5:∀t∈ts,gP t) (hT:T=[34]\/T=[]) (hu:u.data.toList=ts.flatMap Tok.bs++T) (ho:u.data.toList[o]?=some 34)
 (hs:s.data.toList=34::(ts.flatMap Tok.bs++T)) (hc:false=(Lib.indexByte (s.extract 0 (o+2)).data.toList ((92:Int).toNat.toUInt8) != -1)) :
 T=[34]/\o+2=s.size/\(s.extract 0 (o+2)).extract 1 (o+1)=⟨(ts.flatMap Tok.val).toArray⟩:=by
 have h92:(92:UInt8)∉s.data.toList.take (o+2):=by
  intro hm;obtain⟨k,hk⟩:=List.mem_iff_getElem?.1 hm
  have e:Lib.indexByte (s.data.toList.take (o+2)) 92 = -1:=by
   have Nv:=hc.symm;rw[Lib.extract_from_zero]at Nv;have:=bne_eq_false_iff_eq.1 Nv;exact this
  exact Lib.indexByte_none e k hk
 rw[hs,List.take_succ_cons]at h92;have YI:(92:UInt8)∉(ts.flatMap Tok.bs++T).take (o+1):=fun h=>h92 (bh _ h);rw[hu]at ho
 have hlen:¬o<(ts.flatMap Tok.bs).length:=by
  intro hl;rw[aV hl]at ho;have:=wv ts L5 o ho;apply YI;rw[bZ (by omega)];exact List.mem_of_mem_take (l:=(ts.flatMap Tok.bs).take (o+1)) (i:=o) (by rw[List.take_take,dv (by omega)];exact this)
 rw[aL (by omega)]at ho;rcases hT with rfl|rfl
 ·have VD:o=(ts.flatMap Tok.bs).length:=by
   cases hq:o-(ts.flatMap Tok.bs).length with
   |zero=>omega
   |succ n=>rw[hq]at ho;simp at ho
  (have LH:s.size=o+2:=by rw[iV,hs,VD];simp);refine⟨rfl,LH.symm,?_⟩;have hb:(92:UInt8)∉ts.flatMap Tok.bs:=fun h=>YI (by rw[VD,ba (by simp)];exact dr _ h);have hp:=(wu ts L5 hb).1;apply mJ;rw[Lib.extract_data,Lib.extract_from_zero,hs,hp,VD];have e1:(34::(ts.flatMap Tok.bs++[34])).take ((ts.flatMap Tok.bs).length+2)=34::(ts.flatMap Tok.bs++[34]):=ba (by rw[aJ,aA];exact aq _);rw[e1];show List.take ((ts.flatMap Tok.bs).length+1-1) (ts.flatMap Tok.bs++[34])=ts.flatMap Tok.bs;exact List.take_left' (bT _ _).symm
 simp at ho
theorem wz (s:ByteArray) (ts:List Tok) (T:Bytes) (hT:T=[34]\/T=[]) (h:pN s ts T) (ev:Value) (w:World) (hU:U8 w) (hE:w.cell? ⟨4,0,none⟩=some ev) :
 Calls Tryz.prog 175 #[.string s,.bool true] w fun e w' =>
  e=.returned (if T=[34] then .tuple #[.string ⟨(ts.flatMap Tok.val).toArray⟩,.string ⟨#[]⟩,.nilIface] else .tuple #[.string ⟨#[]⟩,.string s,ev])/\Below w.heap.size w w':=by
 (have LH:s.size=1+(ts.flatMap Tok.bs).length+T.length:=by rw[iV,h.e];simp;omega);(have Tc:0<s.size:=by omega);obtain⟨i0,KO,Q4,Q5,Q6⟩:=info_parts sT
 have VH:4<w.heap.size:=by
  exact Lt hE
 obtain⟨i0,KO,Q4,Q5,Q6⟩:=info_parts sT
 have VH:4<w.heap.size:=by
  exact Lt hE
 obtain⟨i0,KO,Q4,Q5,Q6⟩:=info_parts sT
 have VH:4<w.heap.size:=by
  exact Lt hE
 (have e0:((s[0]'Tc).toNat:Int)=34:=by rw[nO s 0 Tc 34 (by rw[h.e];rfl)];rfl);have P9:Hy ((ts.flatMap Tok.val).length<=400000):=Hd (by have:=wy ts h.ok;have:=h.small;omega);have H:=Hd h;have HT:=Hd hT;have Q8:=Hd LH;have LU:=h.small;(have XE:(0:Int)<s.size:=by omega);clear h hT LH;by_cases h2:s.size<2
 ·have b2:decide ((s.size:Int)<2)=true:=decide_eq_true (by omega)
  have hT0:¬T=[34]:=fun e=>by have LH:=Q8.o;rw[e]at LH;simp at LH;omega
  rw[if_neg hT0]
  go_enter Tryz.func175,Tryz.ntmps175
  go_wp2
  go_quiet (fail)
  go_wp2
  go_ret3
  exact⟨rfl,below_drewN (Below.refl _ _) _⟩
 have b2:decide ((s.size:Int)<2)=false:=decide_eq_false (by omega);(have h1I:(1:Int)<=s.size:=by omega);obtain⟨u,hu⟩:∃u,u=s.extract 1 s.size:=⟨_,rfl⟩;(have UZ:u.data.toList=ts.flatMap Tok.bs++T:=by rw[hu,Lib.extract_to_end,H.o.e];rfl);(have YJ:u.size=s.size-1:=by rw[hu];simp);have hu':=hu.symm;have HU:=Hd UZ;have HUZ:=Hd YJ;(have VJ:u.size<100000:=by omega);clear hu UZ YJ;have IX:=pd u 34 w;obtain⟨i,hi⟩:∃i,i=Lib.indexByte u.data.toList ((34:Int).toNat.toUInt8):=⟨_,rfl⟩;rw[<- hi]at IX;have hge:=Lib.indexByte_ge u.data.toList ((34:Int).toNat.toUInt8);rw[<- hi]at hge;have HI:=Hd hi;clear hi;by_cases h0:i<0
 ·have d0:decide (i<0)=true:=decide_eq_true h0
  have hT0:¬T=[34]:=fun e=>by
   have h5:=Lib.indexByte_none (l:=u.data.toList) (c:=34) (by have:=HI.o;have e34:(34:Int).toNat.toUInt8=(34:UInt8):=rfl;rw[e34]at this;omega) (ts.flatMap Tok.bs).length;rw[HU.o,e]at h5;simp at h5
  rw[if_neg hT0]
  go_enter Tryz.func175,Tryz.ntmps175
  go_wp2_with (go_at_call 205;refine IX.mono ?_;rintro e w1 ⟨rfl,rfl⟩)
  go_quiet (fail)
  go_wp2
  go_ret3
  exact⟨rfl,below_drewN (Below.refl _ _) _⟩
 obtain⟨o,rfl⟩:∃o:Nat,i=o:=⟨i.toNat,by omega⟩;have d0:decide ((o:Int)<0)=false:=decide_eq_false h0;have hio:=Lib.indexByte_some (l:=u.data.toList) (c:=34) (o:=o) HI.o.symm
 have hou:o<u.size:=by
  rw[iV];have:=hio.1;rcases aW o u.data.toList.length with h'|h'
  ·exact h'
  rw[bm h']at this;cases this
 (have hos:o+2<=s.size:=by have:=HUZ.o;omega);(have hosI:(o:Int)+2<=s.size:=by omega);have HIO:=Hd hio;clear hio h0 hge;obtain⟨c1,Ln⟩:∃c1,c1=(Lib.indexByte (s.extract 0 (o+2)).data.toList ((92:Int).toNat.toUInt8) != -1):=⟨_,rfl⟩;obtain⟨c2,KL⟩:∃c2,c2=(Lib.indexByte (s.extract 0 (o+2)).data.toList ((10:Int).toNat.toUInt8) != -1):=⟨_,rfl⟩;have C1:=qJ (s.extract 0 (o+2)) 92 w;rw[<- Ln]at C1;have C2:=qJ (s.extract 0 (o+2)) 10 w;rw[<- KL]at C2;have N6:=Hd Ln;clear Ln KL;have LS:(34:Int)=34:=rfl
 cases KC:c1 with
 |true =>
  subst KC;go_enter Tryz.func175,Tryz.ntmps175
  go_wp2_with (first
   |(go_at_call 205;refine IX.mono ?_;rintro e w1 ⟨rfl,rfl⟩)
   |(go_at_call 206;refine C1.mono ?_;rintro e w1 ⟨rfl,rfl⟩;clear C1)
   |(go_at_call 206;refine C2.mono ?_;rintro e w1 ⟨rfl,rfl⟩;clear C2)
   |(at_make;refine wpList_make_own _ rfl _ _ 32 rfl w.heap.size 5 i0 (.int .u8 0) 1 Tryz.underlying32 KO Q4 Q5 _ _ _ (3*(o+2)/2) rfl rfl (by omega) (by rw[Q6];omega) (by unfold maxLen;omega) (aq _) ?_;intro wm Kt Qa))
  (go_loopw [0,4,5,6,14,16,17,18,19] (fun q0 q4 q5 q6 TK _ _ _ _ wr=>∃(k:Nat) (x:ByteArray),k<=ts.length/\q0=.string x/\x.data.toList=(ts.drop k).flatMap Tok.bs++T/\q4=.string ⟨#[]⟩/\q5=.string ⟨#[]⟩/\q6=.nilIface/\wr.ownsRow w.heap.size 5 1 TK ((ts.take k).flatMap Tok.val).length (Lib.byteCells ((ts.take k).flatMap Tok.val))/\Below w.heap.size w wr/\x.size<100000) (fun q0 _ _ _ _ _ _ _ _ _=>sV q0));case atStart=>exact⟨0,u,by omega,by simp,by rw[HU.o];simp,by simp,by simp,by simp,Kt,below_grown Qa,VJ⟩
  case round =>
   obtain⟨k,x,hk,rfl,hx,rfl,rfl,rfl,Kj,hb,QH⟩:=hrel;have HX:=Hd hx;have MN:=Hd Kj;have HB:=Hd hb;have Se:=hb.size;have QI:=Hd (jF Kj);have U0:((ts.take k).flatMap Tok.val).length<=400000:=az (take_len ts k) P9.o;have YK:=Hd U0;have YL:U8 wr:=U8.below hU hb;have hE1:wr.cell? ⟨4,0,none⟩=some ev:=(hb.cell (p:=⟨4,0,none⟩) VH).trans hE;clear hx Kj hb U0;by_cases Ks:k<ts.length
   ·obtain⟨t,ht⟩:∃t,ts[k]?=some t:=⟨_,ax Ks⟩;have Ms:gP t:=H.o.ok t (aR ht);(have Mc:ts.drop k=t::ts.drop (k+1):=by rw[bX Ks];congr 1;rw[ax Ks]at ht;exact aw ht);(have LV:ts.take (k+1)=ts.take k++[t]:=by rw[bo,ht];rfl);obtain⟨bb,ll,LJ,Ph,MA⟩:=qK Ms;(have LK:x.data.toList=t.bs++((ts.drop (k+1)).flatMap Tok.bs++T):=by rw[HX.o,Mc,aU,bw]);(have K5:0<x.size:=by rw[iV,LK,LJ];simp);have Nw:x[0]'K5=bb:=nO x 0 K5 bb (by rw[LK,LJ];rfl);have g1:(((x[0]'K5).toNat:Int) !=34)=true:=bne_iff_ne.mpr (fun e=>Ph (by rw[Nw]at e;exact cG.1 (by simpa using df.1 e)));have g2:(((x[0]'K5).toNat:Int)==10)=false:=beq_eq_false_iff_ne.mpr (fun e=>MA (by rw[Nw]at e;exact cG.1 (by simpa using df.1 e)));have g0:decide ((0:Int)<x.size)=true:=decide_eq_true (by omega);(have YM:(0:Int)<x.size:=by omega);have HXB:Hy (x[0]'K5=bb):=Hd Nw;obtain⟨y,hy⟩:∃y:ByteArray,y=⟨((ts.drop (k+1)).flatMap Tok.bs++T).toArray⟩:=⟨_,rfl⟩;have CT:=sR t Ms _ x (mJ LK) QH wr YL;rw[<- hy]at CT;(have QJ:y.data.toList=(ts.drop (k+1)).flatMap Tok.bs++T:=by rw[hy]);(have Tf:y.size<x.size:=by rw[iV,iV,QJ,LK,LJ];simp;omega);have U1:=Hd QJ;have Q9:=Hd LV;obtain⟨PN,LS,LO⟩:=sW Ms;have N7:=Hd (qL Ms);obtain⟨r,hr⟩:∃r,r=t.r:=⟨_,rfl⟩;obtain⟨m,hm⟩:∃m,m=t.m:=⟨_,rfl⟩;have Pj:Hy (t.val=if r<128\/m=false then [UInt8.ofNat r.toNat] else Lib.encodeRune r):=Hd (by rw[hr,hm];rfl);rw[<- hr,<- hm]at CT;rw[<- hr]at PN LS LO;rw[<- hm]at LO;have Ld:=Hd LO;clear ht Ms Mc LV LJ Ph MA LK Nw hy QJ hr hm LO;obtain⟨N,hN⟩:∃N,N=((ts.take k).flatMap Tok.val).length:=⟨_,rfl⟩;obtain⟨L,hL⟩:∃L,L=Lib.byteCells ((ts.take k).flatMap Tok.val):=⟨_,rfl⟩;have Sf:Hy (wr.ownsRow w.heap.size 5 1 _ N L):=Hd (by rw[hN,hL];exact MN.o);(have hN9:N<=400000:=by rw[hN];exact YK.o);have HN:=Hd hN;have HL:=Hd hL;clear hN hL;by_cases LU:r<128\/m=false
    ·(have LP:t.val=[UInt8.ofNat r.toNat]:=by rw[Pj.o,if_pos LU]);(have U2:r<256:=by rcases LU with h|h;omega;exact Ld.o h);(have XF:r%256=r:=by omega);have U3:Hy (Value.int .u8 r=.int .u8 ((UInt8.ofNat r.toNat).toNat:Int)):=Hd (by congr 1;simp;omega);have NG:=Hd LP;have HG:Hy ((decide (r<128)=true)\/(decide (r<128)=false/\m=false)):=Hd (by rcases LU with h|h;exact .inl (decide_eq_true h);by_cases h':r<128;exact .inl (decide_eq_true h');exact .inr ⟨decide_eq_false h',h⟩);have HWU:Hy (IntKind.u8.wrap r=r):=Hd (by simp only[IntKind.wrap,IntKind.signed,IntKind.bits];simp;omega);clear LU LP;rcases HG.o with dd|⟨dd,rfl⟩
     all_goals
      go_wp2_with (first
       |(go_at_call 208;refine CT.mono ?_;rintro e w1 ⟨rfl,Kd⟩;clear CT;have Lx:=Hd ((jE Sf.o Kd).alloc (.cells #[.int .u8 r] 5));have N5:=Kd.size)
       |(at_builtin;refine wpList_append_own _ rfl (.tmp 186) (.tmp 189) 32 rfl w.heap.size 5 i0 (.int .u8 0) 1 1 Tryz.underlying32 KO Q4 Q5 Q6 rfl (by decide) _ _ _ rfl Lx.o ⟨w1.heap.size,0,none⟩ 1 1 [.int .u8 r] rfl rfl ?c1 (by simp[Value.oneCell']) ?c3 ?c4 ?c5 ?_))
      case c1 =>
       intro j v hj;have hn:=Has.new w1 (.cells #[.int .u8 r] 5)
       match j,hj with
       |0,hj =>
        (obtain rfl:Value.int .u8 r=v:=by simpa using hj);exact hn.cell 0
      (case c3=>unfold maxLen;omega);(case c4=>omega);(case c5=>simp;omega);intro v2 w2 Kp KE _;(go_wp2_with fail);go_roundw
      case rel =>
       exact⟨k+1,y,by omega,rfl,U1.o,rfl,rfl,rfl,pf (m:=1) (cs:=[.int .u8 r]) HN.o HL.o Q9.o (by rw[NG.o];rfl) (by rw[NG.o,U3.o];rfl) Kp,((HB.o.trans (Kd.mono Se)).alloc (by omega) _).grown KE (by simp;omega) (fun j hj=>QI.o j hj),by omega⟩
      case measure=>exact Tf
    (have LP:t.val=Lib.encodeRune r:=by rw[Pj.o,if_neg LU]);(have Oj:m=true:=by cases m with|true=>rfl|false=>exact absurd (Or.inr rfl) LU);subst Oj;have dd:decide (r<128)=false:=decide_eq_false (fun h=>LU (.inl h));have NG:=Hd LP;clear LU LP
    go_wp2_with (first
     |(go_at_call 208;refine CT.mono ?_;rintro e w1 ⟨rfl,Kd⟩;clear CT;have Lx:=Hd (jE Sf.o Kd);have N5:=Kd.size)
     |(go_at_call 209;refine (Tryz.utf8_AppendRune_plain w.heap.size _ _ _ r (by omega) (by omega) _ Lx.o (by omega) (by omega)).mono ?_;rintro e w2 ⟨v2,rfl,Kp,oo,KE⟩))
    go_roundw
    case rel =>
     exact⟨k+1,y,by omega,rfl,U1.o,rfl,rfl,rfl,pf (m:=(Lib.runeCells r).length) (cs:=Lib.runeCells r) HN.o HL.o Q9.o (by rw[NG.o,Lib.runeCells_length]) (by rw[NG.o,Lib.byteCells_encodeRune]) Kp,((HB.o.trans (Kd.mono Se)).alloc (by omega) _).grown KE (by simp;omega) (fun j hj=>QI.o j hj),by omega⟩
    case measure=>exact Tf
   (have MW:k=ts.length:=by omega);subst MW;(have OF:x.data.toList=T:=by rw[HX.o];simp);have CV:=sU MN.o (by rw[bp]);rw[bp]at CV;have HCV:=Hd CV;rcases HT.o with hT|hT
   ·have Kf:x.size=1:=by rw[iV,OF,hT];rfl
    have K5:0<x.size:=by omega
    have Nw:x[0]'K5=34:=nO x 0 K5 34 (by rw[OF,hT];rfl)
    have g1:(((x[0]'K5).toNat:Int) !=34)=false:=by rw[Nw];rfl
    have g2:(((x[0]'K5).toNat:Int)==34)=true:=by rw[Nw];rfl
    have g0:decide ((0:Int)<x.size)=true:=decide_eq_true (by omega)
    have YM:(0:Int)<x.size:=by omega
    have hxJ:(1:Int)<=x.size:=by omega
    have Ra:x.extract 1 x.size=⟨#[]⟩:=mJ (by rw[Lib.extract_to_end,OF,hT];rfl)
    have Th:=Hd Ra
    have PO:=Hd hT
    clear Kf Nw OF hT Ra
    go_wp2_with fail
    go_ret3
    try rw[if_pos PO.o]
    rw[Th.o];exact⟨rfl,HB.o⟩
   have Kf:x.size=0:=by rw[iV,OF,hT];rfl
   have g0:decide ((0:Int)<x.size)=false:=decide_eq_false (by omega)
   have PO:Hy (¬T=[34]):=Hd (by rw[hT];simp)
   clear OF hT CV
   go_wp2_with fail
   go_quiet (fail)
   go_wp2
   go_ret3
   try rw[if_neg PO.o]
   exact⟨rfl,below_drewN HB.o _⟩
 |false =>
  subst KC
  cases c2 with
  |true =>
   go_enter Tryz.func175,Tryz.ntmps175
   go_wp2_with (first
    |(go_at_call 205;refine IX.mono ?_;rintro e w1 ⟨rfl,rfl⟩)
    |(go_at_call 206;refine C1.mono ?_;rintro e w1 ⟨rfl,rfl⟩;clear C1)
    |(go_at_call 206;refine C2.mono ?_;rintro e w1 ⟨rfl,rfl⟩;clear C2)
    |(at_make;refine wpList_make_own _ rfl _ _ 32 rfl w.heap.size 5 i0 (.int .u8 0) 1 Tryz.underlying32 KO Q4 Q5 _ _ _ (3*(o+2)/2) rfl rfl (by omega) (by rw[Q6];omega) (by unfold maxLen;omega) (aq _) ?_;intro wm Kt Qa))
   (go_loopw [0,4,5,6,14,16,17,18,19] (fun q0 q4 q5 q6 TK _ _ _ _ wr=>∃(k:Nat) (x:ByteArray),k<=ts.length/\q0=.string x/\x.data.toList=(ts.drop k).flatMap Tok.bs++T/\q4=.string ⟨#[]⟩/\q5=.string ⟨#[]⟩/\q6=.nilIface/\wr.ownsRow w.heap.size 5 1 TK ((ts.take k).flatMap Tok.val).length (Lib.byteCells ((ts.take k).flatMap Tok.val))/\Below w.heap.size w wr/\x.size<100000) (fun q0 _ _ _ _ _ _ _ _ _=>sV q0));case atStart=>exact⟨0,u,by omega,by simp,by rw[HU.o];simp,by simp,by simp,by simp,Kt,below_grown Qa,VJ⟩
   case round =>
    obtain⟨k,x,hk,rfl,hx,rfl,rfl,rfl,Kj,hb,QH⟩:=hrel;have HX:=Hd hx;have MN:=Hd Kj;have HB:=Hd hb;have Se:=hb.size;have QI:=Hd (jF Kj);have U0:((ts.take k).flatMap Tok.val).length<=400000:=az (take_len ts k) P9.o;have YK:=Hd U0;have YL:U8 wr:=U8.below hU hb;have hE1:wr.cell? ⟨4,0,none⟩=some ev:=(hb.cell (p:=⟨4,0,none⟩) VH).trans hE;clear hx Kj hb U0;by_cases Ks:k<ts.length
    ·obtain⟨t,ht⟩:∃t,ts[k]?=some t:=⟨_,ax Ks⟩;have Ms:gP t:=H.o.ok t (aR ht);(have Mc:ts.drop k=t::ts.drop (k+1):=by rw[bX Ks];congr 1;rw[ax Ks]at ht;exact aw ht);(have LV:ts.take (k+1)=ts.take k++[t]:=by rw[bo,ht];rfl);obtain⟨bb,ll,LJ,Ph,MA⟩:=qK Ms;(have LK:x.data.toList=t.bs++((ts.drop (k+1)).flatMap Tok.bs++T):=by rw[HX.o,Mc,aU,bw]);(have K5:0<x.size:=by rw[iV,LK,LJ];simp);have Nw:x[0]'K5=bb:=nO x 0 K5 bb (by rw[LK,LJ];rfl);have g1:(((x[0]'K5).toNat:Int) !=34)=true:=bne_iff_ne.mpr (fun e=>Ph (by rw[Nw]at e;exact cG.1 (by simpa using df.1 e)));have g2:(((x[0]'K5).toNat:Int)==10)=false:=beq_eq_false_iff_ne.mpr (fun e=>MA (by rw[Nw]at e;exact cG.1 (by simpa using df.1 e)));have g0:decide ((0:Int)<x.size)=true:=decide_eq_true (by omega);(have YM:(0:Int)<x.size:=by omega);have HXB:Hy (x[0]'K5=bb):=Hd Nw;obtain⟨y,hy⟩:∃y:ByteArray,y=⟨((ts.drop (k+1)).flatMap Tok.bs++T).toArray⟩:=⟨_,rfl⟩;have CT:=sR t Ms _ x (mJ LK) QH wr YL;rw[<- hy]at CT;(have QJ:y.data.toList=(ts.drop (k+1)).flatMap Tok.bs++T:=by rw[hy]);(have Tf:y.size<x.size:=by rw[iV,iV,QJ,LK,LJ];simp;omega);have U1:=Hd QJ;have Q9:=Hd LV;obtain⟨PN,LS,LO⟩:=sW Ms;have N7:=Hd (qL Ms);obtain⟨r,hr⟩:∃r,r=t.r:=⟨_,rfl⟩;obtain⟨m,hm⟩:∃m,m=t.m:=⟨_,rfl⟩;have Pj:Hy (t.val=if r<128\/m=false then [UInt8.ofNat r.toNat] else Lib.encodeRune r):=Hd (by rw[hr,hm];rfl);rw[<- hr,<- hm]at CT;rw[<- hr]at PN LS LO;rw[<- hm]at LO;have Ld:=Hd LO;clear ht Ms Mc LV LJ Ph MA LK Nw hy QJ hr hm LO;obtain⟨N,hN⟩:∃N,N=((ts.take k).flatMap Tok.val).length:=⟨_,rfl⟩;obtain⟨L,hL⟩:∃L,L=Lib.byteCells ((ts.take k).flatMap Tok.val):=⟨_,rfl⟩;have Sf:Hy (wr.ownsRow w.heap.size 5 1 _ N L):=Hd (by rw[hN,hL];exact MN.o);(have hN9:N<=400000:=by rw[hN];exact YK.o);have HN:=Hd hN;have HL:=Hd hL;clear hN hL;by_cases LU:r<128\/m=false
     ·(have LP:t.val=[UInt8.ofNat r.toNat]:=by rw[Pj.o,if_pos LU]);(have U2:r<256:=by rcases LU with h|h;omega;exact Ld.o h);(have XF:r%256=r:=by omega);have U3:Hy (Value.int .u8 r=.int .u8 ((UInt8.ofNat r.toNat).toNat:Int)):=Hd (by congr 1;simp;omega);have NG:=Hd LP;have HG:Hy ((decide (r<128)=true)\/(decide (r<128)=false/\m=false)):=Hd (by rcases LU with h|h;exact .inl (decide_eq_true h);by_cases h':r<128;exact .inl (decide_eq_true h');exact .inr ⟨decide_eq_false h',h⟩);have HWU:Hy (IntKind.u8.wrap r=r):=Hd (by simp only[IntKind.wrap,IntKind.signed,IntKind.bits];simp;omega);clear LU LP;rcases HG.o with dd|⟨dd,rfl⟩
      all_goals
       go_wp2_with (first
        |(go_at_call 208;refine CT.mono ?_;rintro e w1 ⟨rfl,Kd⟩;clear CT;have Lx:=Hd ((jE Sf.o Kd).alloc (.cells #[.int .u8 r] 5));have N5:=Kd.size)
        |(at_builtin;refine wpList_append_own _ rfl (.tmp 186) (.tmp 189) 32 rfl w.heap.size 5 i0 (.int .u8 0) 1 1 Tryz.underlying32 KO Q4 Q5 Q6 rfl (by decide) _ _ _ rfl Lx.o ⟨w1.heap.size,0,none⟩ 1 1 [.int .u8 r] rfl rfl ?c1 (by simp[Value.oneCell']) ?c3 ?c4 ?c5 ?_))
       case c1 =>
        intro j v hj;have hn:=Has.new w1 (.cells #[.int .u8 r] 5)
        match j,hj with
        |0,hj =>
         (obtain rfl:Value.int .u8 r=v:=by simpa using hj);exact hn.cell 0
       (case c3=>unfold maxLen;omega);(case c4=>omega);(case c5=>simp;omega);intro v2 w2 Kp KE _;(go_wp2_with fail);go_roundw
       case rel =>
        exact⟨k+1,y,by omega,rfl,U1.o,rfl,rfl,rfl,pf (m:=1) (cs:=[.int .u8 r]) HN.o HL.o Q9.o (by rw[NG.o];rfl) (by rw[NG.o,U3.o];rfl) Kp,((HB.o.trans (Kd.mono Se)).alloc (by omega) _).grown KE (by simp;omega) (fun j hj=>QI.o j hj),by omega⟩
       case measure=>exact Tf
     (have LP:t.val=Lib.encodeRune r:=by rw[Pj.o,if_neg LU]);(have Oj:m=true:=by cases m with|true=>rfl|false=>exact absurd (Or.inr rfl) LU);subst Oj;have dd:decide (r<128)=false:=decide_eq_false (fun h=>LU (.inl h));have NG:=Hd LP;clear LU LP
     go_wp2_with (first
      |(go_at_call 208;refine CT.mono ?_;rintro e w1 ⟨rfl,Kd⟩;clear CT;have Lx:=Hd (jE Sf.o Kd);have N5:=Kd.size)
      |(go_at_call 209;refine (Tryz.utf8_AppendRune_plain w.heap.size _ _ _ r (by omega) (by omega) _ Lx.o (by omega) (by omega)).mono ?_;rintro e w2 ⟨v2,rfl,Kp,oo,KE⟩))
     go_roundw
     case rel =>
      exact⟨k+1,y,by omega,rfl,U1.o,rfl,rfl,rfl,pf (m:=(Lib.runeCells r).length) (cs:=Lib.runeCells r) HN.o HL.o Q9.o (by rw[NG.o,Lib.runeCells_length]) (by rw[NG.o,Lib.byteCells_encodeRune]) Kp,((HB.o.trans (Kd.mono Se)).alloc (by omega) _).grown KE (by simp;omega) (fun j hj=>QI.o j hj),by omega⟩
     case measure=>exact Tf
    (have MW:k=ts.length:=by omega);subst MW;(have OF:x.data.toList=T:=by rw[HX.o];simp);have CV:=sU MN.o (by rw[bp]);rw[bp]at CV;have HCV:=Hd CV;rcases HT.o with hT|hT
    ·have Kf:x.size=1:=by rw[iV,OF,hT];rfl
     have K5:0<x.size:=by omega
     have Nw:x[0]'K5=34:=nO x 0 K5 34 (by rw[OF,hT];rfl)
     have g1:(((x[0]'K5).toNat:Int) !=34)=false:=by rw[Nw];rfl
     have g2:(((x[0]'K5).toNat:Int)==34)=true:=by rw[Nw];rfl
     have g0:decide ((0:Int)<x.size)=true:=decide_eq_true (by omega)
     have YM:(0:Int)<x.size:=by omega
     have hxJ:(1:Int)<=x.size:=by omega
     have Ra:x.extract 1 x.size=⟨#[]⟩:=mJ (by rw[Lib.extract_to_end,OF,hT];rfl)
     have Th:=Hd Ra
     have PO:=Hd hT
     clear Kf Nw OF hT Ra
     go_wp2_with fail
     go_ret3
     try rw[if_pos PO.o]
     rw[Th.o];exact⟨rfl,HB.o⟩
    have Kf:x.size=0:=by rw[iV,OF,hT];rfl
    have g0:decide ((0:Int)<x.size)=false:=decide_eq_false (by omega)
    have PO:Hy (¬T=[34]):=Hd (by rw[hT];simp)
    clear OF hT CV
    go_wp2_with fail
    go_quiet (fail)
    go_wp2
    go_ret3
    try rw[if_neg PO.o]
    exact⟨rfl,below_drewN HB.o _⟩
  |false =>
   obtain⟨vd,XG⟩:∃vd,vd=Lib.validD (s.extract 1 (o+1)).data.toList:=⟨_,rfl⟩;have VS:=Tryz.utf8_ValidString (s.extract 1 (o+1)) w (by simp;omega) hU;rw[<- XG]at VS;clear XG
   cases vd with
   |false =>
    go_enter Tryz.func175,Tryz.ntmps175
    go_wp2_with (first
     |(go_at_call 205;refine IX.mono ?_;rintro e w1 ⟨rfl,rfl⟩)
     |(go_at_call 206;refine C1.mono ?_;rintro e w1 ⟨rfl,rfl⟩;clear C1)
     |(go_at_call 206;refine C2.mono ?_;rintro e w1 ⟨rfl,rfl⟩;clear C2)
     |(go_at_call 207;refine VS.mono ?_;rintro e w1 ⟨rfl,VK⟩;clear VS;have L0:=VK.size;have VL:=Hd VK;clear VK)
     |(at_make;refine wpList_make_own _ rfl _ _ 32 rfl w.heap.size 5 i0 (.int .u8 0) 1 Tryz.underlying32 KO Q4 Q5 _ _ _ (3*(o+2)/2) rfl rfl (by omega) (by rw[Q6];omega) (by unfold maxLen;omega) L0 ?_;intro wm Kt Qa))
    (go_loopw [0,4,5,6,14,16,17,18,19] (fun q0 q4 q5 q6 TK _ _ _ _ wr=>∃(k:Nat) (x:ByteArray),k<=ts.length/\q0=.string x/\x.data.toList=(ts.drop k).flatMap Tok.bs++T/\q4=.string ⟨#[]⟩/\q5=.string ⟨#[]⟩/\q6=.nilIface/\wr.ownsRow w.heap.size 5 1 TK ((ts.take k).flatMap Tok.val).length (Lib.byteCells ((ts.take k).flatMap Tok.val))/\Below w.heap.size w wr/\x.size<100000) (fun q0 _ _ _ _ _ _ _ _ _=>sV q0));case atStart=>exact⟨0,u,by omega,by simp,by rw[HU.o];simp,by simp,by simp,by simp,Kt,(VL.o.trans ((below_grown Qa).mono L0)),VJ⟩
    case round =>
     obtain⟨k,x,hk,rfl,hx,rfl,rfl,rfl,Kj,hb,QH⟩:=hrel;have HX:=Hd hx;have MN:=Hd Kj;have HB:=Hd hb;have Se:=hb.size;have QI:=Hd (jF Kj);have U0:((ts.take k).flatMap Tok.val).length<=400000:=az (take_len ts k) P9.o;have YK:=Hd U0;have YL:U8 wr:=U8.below hU hb;have hE1:wr.cell? ⟨4,0,none⟩=some ev:=(hb.cell (p:=⟨4,0,none⟩) VH).trans hE;clear hx Kj hb U0;by_cases Ks:k<ts.length
     ·obtain⟨t,ht⟩:∃t,ts[k]?=some t:=⟨_,ax Ks⟩;have Ms:gP t:=H.o.ok t (aR ht);(have Mc:ts.drop k=t::ts.drop (k+1):=by rw[bX Ks];congr 1;rw[ax Ks]at ht;exact aw ht);(have LV:ts.take (k+1)=ts.take k++[t]:=by rw[bo,ht];rfl);obtain⟨bb,ll,LJ,Ph,MA⟩:=qK Ms;(have LK:x.data.toList=t.bs++((ts.drop (k+1)).flatMap Tok.bs++T):=by rw[HX.o,Mc,aU,bw]);(have K5:0<x.size:=by rw[iV,LK,LJ];simp);have Nw:x[0]'K5=bb:=nO x 0 K5 bb (by rw[LK,LJ];rfl);have g1:(((x[0]'K5).toNat:Int) !=34)=true:=bne_iff_ne.mpr (fun e=>Ph (by rw[Nw]at e;exact cG.1 (by simpa using df.1 e)));have g2:(((x[0]'K5).toNat:Int)==10)=false:=beq_eq_false_iff_ne.mpr (fun e=>MA (by rw[Nw]at e;exact cG.1 (by simpa using df.1 e)));have g0:decide ((0:Int)<x.size)=true:=decide_eq_true (by omega);(have YM:(0:Int)<x.size:=by omega);have HXB:Hy (x[0]'K5=bb):=Hd Nw;obtain⟨y,hy⟩:∃y:ByteArray,y=⟨((ts.drop (k+1)).flatMap Tok.bs++T).toArray⟩:=⟨_,rfl⟩;have CT:=sR t Ms _ x (mJ LK) QH wr YL;rw[<- hy]at CT;(have QJ:y.data.toList=(ts.drop (k+1)).flatMap Tok.bs++T:=by rw[hy]);(have Tf:y.size<x.size:=by rw[iV,iV,QJ,LK,LJ];simp;omega);have U1:=Hd QJ;have Q9:=Hd LV;obtain⟨PN,LS,LO⟩:=sW Ms;have N7:=Hd (qL Ms);obtain⟨r,hr⟩:∃r,r=t.r:=⟨_,rfl⟩;obtain⟨m,hm⟩:∃m,m=t.m:=⟨_,rfl⟩;have Pj:Hy (t.val=if r<128\/m=false then [UInt8.ofNat r.toNat] else Lib.encodeRune r):=Hd (by rw[hr,hm];rfl);rw[<- hr,<- hm]at CT;rw[<- hr]at PN LS LO;rw[<- hm]at LO;have Ld:=Hd LO;clear ht Ms Mc LV LJ Ph MA LK Nw hy QJ hr hm LO;obtain⟨N,hN⟩:∃N,N=((ts.take k).flatMap Tok.val).length:=⟨_,rfl⟩;obtain⟨L,hL⟩:∃L,L=Lib.byteCells ((ts.take k).flatMap Tok.val):=⟨_,rfl⟩;have Sf:Hy (wr.ownsRow w.heap.size 5 1 _ N L):=Hd (by rw[hN,hL];exact MN.o);(have hN9:N<=400000:=by rw[hN];exact YK.o);have HN:=Hd hN;have HL:=Hd hL;clear hN hL;by_cases LU:r<128\/m=false
      ·(have LP:t.val=[UInt8.ofNat r.toNat]:=by rw[Pj.o,if_pos LU]);(have U2:r<256:=by rcases LU with h|h;omega;exact Ld.o h);(have XF:r%256=r:=by omega);have U3:Hy (Value.int .u8 r=.int .u8 ((UInt8.ofNat r.toNat).toNat:Int)):=Hd (by congr 1;simp;omega);have NG:=Hd LP;have HG:Hy ((decide (r<128)=true)\/(decide (r<128)=false/\m=false)):=Hd (by rcases LU with h|h;exact .inl (decide_eq_true h);by_cases h':r<128;exact .inl (decide_eq_true h');exact .inr ⟨decide_eq_false h',h⟩);have HWU:Hy (IntKind.u8.wrap r=r):=Hd (by simp only[IntKind.wrap,IntKind.signed,IntKind.bits];simp;omega);clear LU LP;rcases HG.o with dd|⟨dd,rfl⟩
       all_goals
        go_wp2_with (first
         |(go_at_call 208;refine CT.mono ?_;rintro e w1 ⟨rfl,Kd⟩;clear CT;have Lx:=Hd ((jE Sf.o Kd).alloc (.cells #[.int .u8 r] 5));have N5:=Kd.size)
         |(at_builtin;refine wpList_append_own _ rfl (.tmp 186) (.tmp 189) 32 rfl w.heap.size 5 i0 (.int .u8 0) 1 1 Tryz.underlying32 KO Q4 Q5 Q6 rfl (by decide) _ _ _ rfl Lx.o ⟨w1.heap.size,0,none⟩ 1 1 [.int .u8 r] rfl rfl ?c1 (by simp[Value.oneCell']) ?c3 ?c4 ?c5 ?_))
        case c1 =>
         intro j v hj;have hn:=Has.new w1 (.cells #[.int .u8 r] 5)
         match j,hj with
         |0,hj =>
          (obtain rfl:Value.int .u8 r=v:=by simpa using hj);exact hn.cell 0
        (case c3=>unfold maxLen;omega);(case c4=>omega);(case c5=>simp;omega);intro v2 w2 Kp KE _;(go_wp2_with fail);go_roundw
        case rel =>
         exact⟨k+1,y,by omega,rfl,U1.o,rfl,rfl,rfl,pf (m:=1) (cs:=[.int .u8 r]) HN.o HL.o Q9.o (by rw[NG.o];rfl) (by rw[NG.o,U3.o];rfl) Kp,((HB.o.trans (Kd.mono Se)).alloc (by omega) _).grown KE (by simp;omega) (fun j hj=>QI.o j hj),by omega⟩
        case measure=>exact Tf
      (have LP:t.val=Lib.encodeRune r:=by rw[Pj.o,if_neg LU]);(have Oj:m=true:=by cases m with|true=>rfl|false=>exact absurd (Or.inr rfl) LU);subst Oj;have dd:decide (r<128)=false:=decide_eq_false (fun h=>LU (.inl h));have NG:=Hd LP;clear LU LP
      go_wp2_with (first
       |(go_at_call 208;refine CT.mono ?_;rintro e w1 ⟨rfl,Kd⟩;clear CT;have Lx:=Hd (jE Sf.o Kd);have N5:=Kd.size)
       |(go_at_call 209;refine (Tryz.utf8_AppendRune_plain w.heap.size _ _ _ r (by omega) (by omega) _ Lx.o (by omega) (by omega)).mono ?_;rintro e w2 ⟨v2,rfl,Kp,oo,KE⟩))
      go_roundw
      case rel =>
       exact⟨k+1,y,by omega,rfl,U1.o,rfl,rfl,rfl,pf (m:=(Lib.runeCells r).length) (cs:=Lib.runeCells r) HN.o HL.o Q9.o (by rw[NG.o,Lib.runeCells_length]) (by rw[NG.o,Lib.byteCells_encodeRune]) Kp,((HB.o.trans (Kd.mono Se)).alloc (by omega) _).grown KE (by simp;omega) (fun j hj=>QI.o j hj),by omega⟩
      case measure=>exact Tf
     (have MW:k=ts.length:=by omega);subst MW;(have OF:x.data.toList=T:=by rw[HX.o];simp);have CV:=sU MN.o (by rw[bp]);rw[bp]at CV;have HCV:=Hd CV;rcases HT.o with hT|hT
     ·have Kf:x.size=1:=by rw[iV,OF,hT];rfl
      have K5:0<x.size:=by omega
      have Nw:x[0]'K5=34:=nO x 0 K5 34 (by rw[OF,hT];rfl)
      have g1:(((x[0]'K5).toNat:Int) !=34)=false:=by rw[Nw];rfl
      have g2:(((x[0]'K5).toNat:Int)==34)=true:=by rw[Nw];rfl
      have g0:decide ((0:Int)<x.size)=true:=decide_eq_true (by omega)
      have YM:(0:Int)<x.size:=by omega
      have hxJ:(1:Int)<=x.size:=by omega
      have Ra:x.extract 1 x.size=⟨#[]⟩:=mJ (by rw[Lib.extract_to_end,OF,hT];rfl)
      have Th:=Hd Ra
      have PO:=Hd hT
      clear Kf Nw OF hT Ra
      go_wp2_with fail
      go_ret3
      try rw[if_pos PO.o]
      rw[Th.o];exact⟨rfl,HB.o⟩
     have Kf:x.size=0:=by rw[iV,OF,hT];rfl
     have g0:decide ((0:Int)<x.size)=false:=decide_eq_false (by omega)
     have PO:Hy (¬T=[34]):=Hd (by rw[hT];simp)
     clear OF hT CV
     go_wp2_with fail
     go_quiet (fail)
     go_wp2
     go_ret3
     try rw[if_neg PO.o]
     exact⟨rfl,below_drewN HB.o _⟩
   |true =>
    have HPL:=Hd (C4 H.o.ok HT.o HU.o HIO.o.1 H.o.e N6.o);have XH:=HPL.o.1;rw[if_pos XH];clear XH;go_enter Tryz.func175,Tryz.ntmps175
    go_wp2_with (first
     |(go_at_call 205;refine IX.mono ?_;rintro e w1 ⟨rfl,rfl⟩)
     |(go_at_call 206;refine C1.mono ?_;rintro e w1 ⟨rfl,rfl⟩;clear C1)
     |(go_at_call 206;refine C2.mono ?_;rintro e w1 ⟨rfl,rfl⟩;clear C2)
     |(go_at_call 207;refine VS.mono ?_;rintro e w1 ⟨rfl,VK⟩;clear VS;have L0:=VK.size;have VL:=Hd VK;clear VK)
     |(at_make;refine wpList_make_own _ rfl _ _ 32 rfl w.heap.size 5 i0 (.int .u8 0) 1 Tryz.underlying32 KO Q4 Q5 _ _ _ (3*(o+2)/2) rfl rfl (by omega) (by rw[Q6];omega) (by unfold maxLen;omega) L0 ?_;intro wm Kt Qa))
    go_quiet (fail)
    go_wp2
    go_ret3
    have hex:s.extract (o+2) s.size=⟨#[]⟩:=mJ (by rw[Lib.extract_to_end,bI (by rw[<- iV];have:=HPL.o.2.1;omega)]);have h3:(s.extract 0 (o+2)).extract 1 (o+2-1)=⟨(ts.flatMap Tok.val).toArray⟩:=HPL.o.2.2;rw[h3,hex];exact⟨rfl,below_drewN VL.o _⟩
theorem C5 (s:ByteArray) (ts:List Tok) (h:pN s ts [34]) (ev:Value) (w:World) (hU:U8 w) (hE:w.cell? ⟨4,0,none⟩=some ev) :
 Calls Tryz.prog 134 #[.string s] w fun e w'=>e=.returned (.tuple #[.string ⟨(ts.flatMap Tok.val).toArray⟩,.nilIface])/\Below w.heap.size w w':=by
 have U:=wz s ts [34] (.inl rfl) h ev w hU hE;rw[if_pos rfl]at U;obtain⟨d,hd⟩:∃d:ByteArray,d=⟨(ts.flatMap Tok.val).toArray⟩:=⟨_,rfl⟩;rw[<- hd]at U⊢;clear hd h;(go_enter Tryz.func134,Tryz.ntmps134);(go_wp2_with (go_at_call 175;refine U.mono ?_;rintro e w1 ⟨rfl,hb⟩));go_ret2;exact⟨rfl,hb⟩
theorem C6 (s:ByteArray) (ts:List Tok) (h:pN s ts []) (ev:Value) (w:World) (hU:U8 w) (hE:w.cell? ⟨4,0,none⟩=some ev) :
 Calls Tryz.prog 134 #[.string s] w fun e w'=>e=.returned (.tuple #[.string ⟨#[]⟩,ev])/\Below w.heap.size w w':=by
 have U:=wz s ts [] (.inr rfl) h ev w hU hE;rw[if_neg (by simp)]at U;(have hs:(0:Int)<s.size:=by have:s.size=_:=iV s;rw[h.e]at this;simp at this;omega);have d0:decide ((0:Int)<s.size)=true:=decide_eq_true hs
 have VH:4<w.heap.size:=by
  exact Lt hE
 clear h;(go_enter Tryz.func134,Tryz.ntmps134);(go_wp2_with (go_at_call 175;refine U.mono ?_;rintro e w1 ⟨rfl,hb⟩;have hE1:=(hb.cell (p:=⟨4,0,none⟩) VH).trans hE));(go_quiet (fail));go_wp2;go_ret2;exact⟨rfl,below_drewN hb _⟩
end jS
namespace dZ
open Go.RowKit heap own dK
open dI (Rec)
def wB:Rec:=⟨0,0,0,0,[],0⟩
def zeroCells:Array Value:=kd 0 0 0 0 ⟨#[]⟩ 0
def qM (T:Lib.PrintTabs) (k:Nat) (r:Rec) (s:ByteArray) (w:World) (e:Ending) (w':World):Prop:=
 ∃(r':Rec) (ok:Bool),e=.returned (.tuple #[ke r',.bool ok])/\Below w.heap.size w w'/\ok=decide (s.data.toList=text T k r)/\(ok=true->r'=r)
theorem wC (s:ByteArray) (hs:s.size<4294967281) (w:World) (m:Int) (hm:w.cell? ⟨3,0,none⟩=some (.int .i64 m)) :
 Calls Tryz.prog 132 #[.string s,.string ⟨#[32]⟩,.int .i64 7] w fun e w' =>
  e=.returned (.slice (some ⟨w.heap.size,0,none⟩) (pieces s).length (min 7 (s.size+1):Nat))/\w'=w.alloc (.cells (Lib.cellsOf (pieces s) (min 7 (s.size+1))) 9):=
 Tryz.strings_SplitN s ⟨#[32]⟩ 7 m w hs hm (by decide) (by decide) (by decide)
theorem C7 (s:ByteArray) (hs:s.size<4611686018427387904) (w:World) :
 Calls Tryz.prog 133 #[.string s,.int .u8 32] w fun e w'=>e=.returned (.int .i64 (Lib.lastIndexByte s 32))/\w'=w:=Tryz.strings_LastIndexByte s 32 hs w
theorem C8 (x:Int) (h0 : -1<=x) (h1:x<=1099511627776) (s:ByteArray) (hs:s.data.toList=Lib.itoa x) (w:World) :
 Calls Tryz.prog 23 #[.string s] w fun e w'=>e=.returned (.tuple #[.int .i64 x,.nilIface])/\Below w.heap.size w w':=
 (Tryz.strconv_Atoi s x (by show s.data.size<=18;rw[<- bQ,hs];have:=nN x h0 (by omega);omega) (by rw[hs];exact Cx x) w).mono fun _ _ ⟨he,t,hw⟩=>⟨he,by rw[hw];exact Lib.bytesWorld_below w _ t⟩
theorem C9 (tmps:Array Value) (W:World) (g:Nat) (r:Rec) (ok:Bool) (h2:tmps.getD 4 undef=.pointer (some ⟨g,0,none⟩)) (h3:tmps.getD 5 undef=.bool ok)
 (hg:Has W g (.cells (kd r.dL r.dN r.dF r.eI ⟨r.data.toArray⟩ r.dQ) 107)):(results Tryz.f88 tmps).run Tryz.prog W=.ok (.tuple #[ke r,.bool ok]) W:=by
 rw[results_cell_tmp Tryz.results88,h2,h3]
 have hi:(Tryz.prog.info? 107).map (·.size)=some (kd r.dL r.dN r.dF r.eI ⟨r.data.toArray⟩ r.dQ).size:=by
  show _=some 6
  kernel_rfl
 have:=run_loadVar_row (P:=Tryz.prog) W g 107 107 _ (0,0) _ hg Tryz.underlying107 rfl hi;simp[asAddr,Result.andThen,this,ke]
theorem qN {T:Lib.PrintTabs} {k:Nat} {r r':Rec} {s:ByteArray} {w W:World} {a:Act} {g:Nat} {ok:Bool} (hd:a.defers=[]) (h2:a.tmps.getD 4 undef=.pointer (some ⟨g,0,none⟩)) (h3:a.tmps.getD 5 undef=.bool ok)
 (hg:Has W g (.cells (kd r'.dL r'.dN r'.dF r'.eI ⟨r'.data.toArray⟩ r'.dQ) 107)) (hb:Below w.heap.size w W) (L5:ok=decide (s.data.toList=text T k r)) (hr:ok=true->r'=r) :
 bodyPost Tryz.prog Tryz.f88 (qM T k r s w) Exit.ret a W:=
 bodyPost_ret (C9 a.tmps W g r' ok h2 h3 hg) hd ⟨r',ok,rfl,hb,L5,hr⟩
theorem Da (T:Lib.PrintTabs) (k:Nat) (r:Rec) (s:ByteArray) (hs:s.size<=1000) (Km:s.data.toList≠text T k r) (w:World) (hK:jr T w) (h:(pieces s).length<=6) :
 Calls Tryz.prog 88 #[.int .i64 k,.string s] w (qM T k r s w):=by
 obtain⟨m,hm⟩:=hK.mx;have hl:=l4 hm;have SN:=wC s (by omega) (w.alloc (.cells zeroCells 107)) m ((World.cell?_alloc_old _ _ _ (Nat.ne_of_lt hl)).trans hm);obtain⟨n,hn⟩:∃n,n=(pieces s).length:=⟨_,rfl⟩;rw[<- hn]at SN h;have b7:((n:Int) !=7)=true:=bne_iff_ne.mpr (by omega);have MY:=Hd Km;clear hn Km hK;unfold zeroCells kd at SN;(go_enter Tryz.func88,Tryz.ntmps88);(go_wp2_with (go_at_call 132;refine SN.mono ?_;rintro e w1 ⟨rfl,rfl⟩;clear SN));refine qN (g:=w.heap.size) (r':=wB) (ok:=false) rfl rfl rfl ((Has.new w _).alloc _) (((Below.refl _ _).alloc (aq _) _).alloc (by simp) _) ?_ (fun h=>by cases h);exact (decide_eq_false MY.o).symm
theorem Db (zc:Array Value) (h:zc.size=6) (a b c d e f:Value):(((((zc.setIfInBounds 0 a).setIfInBounds 1 b).setIfInBounds 2 c).setIfInBounds 3 d).setIfInBounds 4 e).setIfInBounds 5 f=#[a,b,c,d,e,f]:=by
 obtain⟨l⟩:=zc
 match l,h with
 | [_,_,_,_,_,_],_=>rfl
theorem wD {W:World} {g:Nat} {zc:Array Value} {t:TypeId} (h:Has W g (.cells zc t)) (hz:zc.size=6) (a b c d e f:Value) :
 Has ((((((W.setCell ⟨g,0,none⟩ a).setCell ⟨g,1,none⟩ b).setCell ⟨g,2,none⟩ c).setCell ⟨g,3,none⟩ d).setCell ⟨g,4,none⟩ e).setCell ⟨g,5,none⟩ f) g (.cells #[a,b,c,d,e,f] t):=by
 have h6:=(((((h.eu 0 a).eu 1 b).eu 2 c).eu 3 d).eu 4 e).eu 5 f;rw[Db zc hz]at h6;exact h6
theorem wF {w W:World} {B g:Nat} (h:Below B w W) (hg:B<=g) (a b c d e f:Value) :
 Below B w ((((((W.setCell ⟨g,0,none⟩ a).setCell ⟨g,1,none⟩ b).setCell ⟨g,2,none⟩ c).setCell ⟨g,3,none⟩ d).setCell ⟨g,4,none⟩ e).setCell ⟨g,5,none⟩ f):=by
 have st:∀ {W':World} (_:Below B w W') (i:Nat) (v:Value),Below B w (W'.setCell ⟨g,i,none⟩ v):=fun h i v=>h.setCell (p:=⟨g,i,none⟩) hg v;exact st (st (st (st (st (st h 0 a) 1 b) 2 c) 3 d) 4 e) 5 f
theorem sX {W:World} {g:Nat} {o:Obj} (h:Has W g o):Has W.drew g o:=h
def PS (T:Lib.PrintTabs) (w:World) (D:Nat) (r:Rec) (W:World):Prop:=
 Has W D (.cells #[.int .i64 r.dL,.int .i64 r.dN,.int .i64 r.dF,.int .i64 r.eI,.string ⟨r.data.toArray⟩,.int .i64 r.dQ] 107)/\jr T W/\(∃zc:Array Value,zc.size=6/\Has W w.heap.size (.cells zc 107))/\Below w.heap.size w W
theorem PS.below {T:Lib.PrintTabs} {w:World} {D:Nat} {r:Rec} {W W':World} (h:PS T w D r W) (hb:Below W.heap.size W W'):PS T w D r W':=by
 obtain⟨h1,h2,⟨zc,h3,h4⟩,h5⟩:=h;exact⟨h1.below hb h1.lt,h2.below hb,⟨zc,h3,h4.below hb h4.lt⟩,h5.trans (hb.mono h5.size)⟩
def nb (ns:List Int) (j:Nat):Array Value:=((ns.take j).map (Value.int .i64)++List.replicate (6-j) (Value.int .i64 0)).toArray
theorem Dc {ns:List Int} {j:Nat} {x:Int} (hn:ns.length=6) (hx:ns[j]?=some x):(nb ns j).setIfInBounds j (.int .i64 x)=nb ns (j+1):=by
 (have hj:j<6:=by rcases aW j 6 with h|h;exact h;rw[bm (by omega)]at hx;cases hx);(have hl:((ns.take j).map (Value.int .i64)).length=j:=by simp;omega);(have e:6-j=6-(j+1)+1:=by omega);unfold nb;rw[aF,bk _ _ (by omega),hl,cX,e,List.replicate_succ,aI,bo,hx];simp
theorem Dd {ns:List Int} {j:Nat} (hn:ns.length=6) (hj:j<6):(nb ns j)[j]?=some (.int .i64 0):=by
 (have hl:((ns.take j).map (Value.int .i64)).length=j:=by simp;omega);(have e:6-j=6-(j+1)+1:=by omega);unfold nb;rw[aC,aL (by omega),hl,cX,e,List.replicate_succ];rfl
theorem De {ns:List Int} (hn:ns.length=6):nb ns 6=(ns.map (Value.int .i64)).toArray:=by
 unfold nb;rw[ba (by omega)];simp
theorem sY (T:Lib.PrintTabs) (k:Nat) (r:Rec) (hr:r.right=true) (s:ByteArray) (hs:s.size<=1000) (w:World) (hK:jr T w) (hk:k<1000) (rest:ByteArray)
 (hp:(pieces s).map (·.data.toList)=fo k r++[rest.data.toList]) (h7:(pieces s).length=7) (h7':min 7 (s.size+1)=7) (hrs:rest.size<=1000)
 (hC:(s.data.toList≠text T k r/\Lib.lastIndexByte rest 32 = -1) \/
   (s.data.toList≠text T k r/\∃(q:Nat) (ts:List lG.Tok),Lib.lastIndexByte rest 32=q/\q<=rest.size/\jS.pN (rest.extract 0 q) ts []) \/
   (∃(q:Nat) (ts:List lG.Tok),Lib.lastIndexByte rest 32=q/\q<=rest.size/\jS.pN (rest.extract 0 q) ts [34]/\ts.flatMap lG.Tok.val=r.data)) :
 Calls Tryz.prog 88 #[.int .i64 k,.string s] w (qM T k r s w):=by
 obtain⟨m,hm⟩:=hK.mx;have hl:=l4 hm;have SN:=wC s (by omega) (w.alloc (.cells zeroCells 107)) m ((World.cell?_alloc_old _ _ _ (Nat.ne_of_lt hl)).trans hm);obtain⟨xs,QH⟩:∃xs,xs=pieces s:=⟨_,rfl⟩;rw[h7,h7',<- QH]at SN;rw[<- QH]at hp h7;(have LN:Lib.cellsOf xs 7=(xs.map Value.string).toArray:=by have:=Lib.cellsOf_full xs;rw[h7]at this;exact this);rw[LN]at SN;obtain⟨xc,hxc⟩:∃xc,xc=(xs.map Value.string).toArray:=⟨_,rfl⟩;rw[<- hxc]at SN;obtain⟨ns,Tg⟩:∃ns:List Int,ns=[(k:Int),r.dL,r.dN,r.dF,r.eI,r.dQ]:=⟨_,rfl⟩;have TI:ns.length=6:=by rw[Tg];rfl
 have N3:∀x∈ns,-1<=x/\x<=1099511627776:=by
  have hr:=na hr;have:=hr.c0;have:=hr.c1;have:=hr.n0;have:=hr.n1;have:=hr.o0;have:=hr.o1;have:=hr.v0;have:=hr.v1;have:=hr.e0;have:=hr.e1;intro x hx;rw[Tg]at hx;simp only[aM,bc,or_false]at hx;rcases hx with rfl|rfl|rfl|rfl|rfl|rfl<;>omega
 have hxj:∀(j:Nat) x,ns[j]?=some x->∃z:ByteArray,xc[j]?=some (.string z)/\z.data.toList=Lib.itoa x:=by
  intro j x hx;(have hj:j<6:=by rcases aW j 6 with h|h;exact h;rw[bm (by omega)]at hx;cases hx);have e:fo k r=ns.map Lib.itoa:=by rw[Tg];rfl
  have hq:(xs.map (·.data.toList))[j]?=some (Lib.itoa x):=by
   rw[hp,e,aV (by simp;omega),aY,hx];rfl
  rw[aY]at hq
  cases hz:xs[j]? with
  |none=>rw[hz]at hq;cases hq
  |some z =>
   rw[hz]at hq;exact⟨z,by rw[hxc];simp[hz],by simpa using hq⟩
 have Pk:xc[6]?=some (.string rest):=by
  (have hq:(xs.map (·.data.toList))[6]?=some rest.data.toList:=by rw[hp];rfl);rw[aY]at hq
  cases hz:xs[6]? with
  |none=>rw[hz]at hq;cases hq
  |some z =>
   rw[hz]at hq;have:z=rest:=wj (by simpa using hq);rw[hxc];simp[hz,this]
 have HR:=Hd hr;have HK:=Hd hK;have Q7:=Hd Tg;have P6:=Hd N3;have HXJ:=Hd hxj;have Rb:=Hd Pk;have HC:=Hd hC;clear hr hK Tg N3 hxj Pk hC hp h7 h7' QH LN hxc;unfold zeroCells kd at SN;(go_enter Tryz.func88,Tryz.ntmps88);(go_wp2_with (go_at_call 132;refine SN.mono ?_;rintro e w1 ⟨rfl,rfl⟩;clear SN));obtain⟨zc,hzc⟩:∃zc:Array Value,zc=#[.int .i64 0,.int .i64 0,.int .i64 0,.int .i64 0,.string ⟨#[]⟩,.int .i64 0]:=⟨_,rfl⟩;rw[<- hzc];have HZC:=Hd hzc;clear hzc;go_loopw [19] (fun q19 wr=>∃(j:Nat),j<=6/\q19=.int .i64 j/\Has wr w.heap.size (.cells zc 107)/\Has wr (w.heap.size+1) (.cells xc 9)/\Has wr (w.heap.size+1+1) (.cells (nb ns j) 205)/\Below w.heap.size w wr) (fun q19 _=>6-(intOf q19).toNat)
 case atStart =>
  have h1:=Has.new w (.cells zc 107);have h2:=Has.new (w.alloc (.cells zc 107)) (.cells xc 9);have h3:=Has.new ((w.alloc (.cells zc 107)).alloc (.cells xc 9)) (.cells #[.int .i64 0,.int .i64 0,.int .i64 0,.int .i64 0,.int .i64 0,.int .i64 0] 205);rw[World.size_alloc]at h2;rw[World.size_alloc,World.size_alloc]at h3;exact⟨0,by omega,rfl,(h1.alloc _).alloc _,h2.alloc _,h3,(((Below.refl _ _).alloc (aq _) _).alloc (by simp) _).alloc (by simp;omega) _⟩
 case round =>
  obtain⟨j,hj,rfl,Pg,RG,VM,hb⟩:=hrel;by_cases Kg:j<6
  ·obtain⟨x,hx⟩:∃x,ns[j]?=some x:=⟨_,ax (by omega)⟩;obtain⟨z,KH,KD⟩:=HXJ.o j x hx;(have hc:wr.cell? ⟨w.heap.size+1,j,none⟩=some (.string z):=by rw[RG.cell];exact KH);have P7:=P6.o x (aR hx);(have LZ:(j:Int)<6:=by omega);have AT:=C8 x P7.1 P7.2 z KD wr;have K3:=Hd Pg;have Ld:=Hd RG;have Nx:=Hd VM;have HB:=Hd hb;have HX:=Hd hx;clear hx KH KD Pg RG VM hb P7;(go_wp2_with (go_at_call 23;refine AT.mono ?_;rintro e w1 ⟨rfl,Kd⟩;clear AT;have hC1:w1.cell? ⟨w.heap.size+1+1,j,none⟩=some (.int .i64 0):=(by rw[(Nx.o.below Kd Nx.o.lt).cell];exact Dd TI Kg);have hF1:=(Nx.o.below Kd Nx.o.lt).frozen j));go_roundw
   case rel =>
    refine⟨j+1,by omega,by go_num,(K3.o.below Kd K3.o.lt).far (by show w.heap.size≠w.heap.size+1+1;omega) _,(Ld.o.below Kd Ld.o.lt).far (by show w.heap.size+1≠w.heap.size+1+1;omega) _,?_,(HB.o.trans (Kd.mono HB.o.size)).setCell (by show w.heap.size<=w.heap.size+1+1;omega) _⟩;rw[<- Dc TI HX.o];exact (Nx.o.below Kd Nx.o.lt).eu j _
   case measure=>simp[intOf];omega
  (obtain rfl:j=6:=by omega);rw[De TI]at VM;(have Pk:wr.cell? ⟨w.heap.size+1,6,none⟩=some (.string rest):=by rw[RG.cell];exact Rb.o);have LI:=C7 rest (by omega) wr;have XI:jr T wr:=HK.o.below hb;obtain⟨ty,ev,hE⟩:=XI.err;have hU:=XI.wk;have K3:=Hd Pg;have Nx:=Hd VM;have HB:=Hd hb;have HK1:=Hd XI;rcases HC.o with⟨Km,hq⟩|⟨Km,q,ts,hq,Yw,hI⟩|⟨q,ts,hq,Yw,hI,hv⟩
  ·rw[hq]at LI;have MY:=Hd Km;clear Km hq Pg RG VM hb XI hE hU;(have YN:zc.size=6:=by rw[HZC.o];rfl);(have c0:∀i,i<6->∃v,wr.cell? ⟨w.heap.size,i,none⟩=some v:=fun i hi=>by show ∃v,World.cell? _ _=some v;rw[K3.o.cell];exact⟨_,cx (by omega)⟩);obtain⟨v0,z0⟩:=c0 0 (by omega);obtain⟨v1,z1⟩:=c0 1 (by omega);obtain⟨v2,z2⟩:=c0 2 (by omega);obtain⟨v3,z3⟩:=c0 3 (by omega);obtain⟨v4,z4⟩:=c0 4 (by omega);obtain⟨v5,z5⟩:=c0 5 (by omega);have f0:=K3.o.frozen 0;have f1:=K3.o.frozen 1;have f2:=K3.o.frozen 2;have f3:=K3.o.frozen 3;have f4:=K3.o.frozen 4;have f5:=K3.o.frozen 5;clear c0
   go_wp2_with (first
    |(go_at_call 133;refine LI.mono ?_;rintro e w1 ⟨rfl,rfl⟩;clear LI))
   exact qN (g:=w.heap.size) (r':=wB) (ok:=false) rfl rfl rfl (wD K3.o YN _ _ _ _ _ _) (wF HB.o (aq _) _ _ _ _ _ _) (decide_eq_false MY.o).symm (fun h=>by cases h)
  ·rw[hq]at LI;have MY:=Hd Km;have UQ:=jS.C6 _ ts hI _ wr hU hE;have d0:decide ((q:Int)<0)=false:=decide_eq_false (by omega);(have hqI:(q:Int)<=rest.size:=by omega);clear Km hq Pg RG VM hb XI hE hU hI
   go_wp2_with (first
    |(go_at_call 133;refine LI.mono ?_;rintro e w1 ⟨rfl,rfl⟩;clear LI)
    | (go_at_call 134;refine UQ.mono ?_;rintro e w1 ⟨rfl,Kd⟩;clear UQ
       have H3:=Nx.o.below Kd Nx.o.lt;(have k1:w1.cell? ⟨w.heap.size+1+1,1,none⟩=some (.int .i64 r.dL):=by rw[H3.cell,Q7.o];rfl);(have k2:w1.cell? ⟨w.heap.size+1+1,2,none⟩=some (.int .i64 r.dN):=by rw[H3.cell,Q7.o];rfl);(have k3:w1.cell? ⟨w.heap.size+1+1,3,none⟩=some (.int .i64 r.dF):=by rw[H3.cell,Q7.o];rfl);(have k4:w1.cell? ⟨w.heap.size+1+1,4,none⟩=some (.int .i64 r.eI):=by rw[H3.cell,Q7.o];rfl);(have k5:w1.cell? ⟨w.heap.size+1+1,5,none⟩=some (.int .i64 r.dQ):=by rw[H3.cell,Q7.o];rfl);have H1:=Hd (K3.o.below Kd K3.o.lt)
       clear H3))
   have YN:zc.size=6:=by rw[HZC.o];rfl
   obtain⟨W,hW⟩:∃W,W=w1.alloc (.cells #[.int .i64 r.dL,.int .i64 r.dN,.int .i64 r.dF,.int .i64 r.eI,.string ⟨#[]⟩,.int .i64 r.dQ] 107):=⟨_,rfl⟩
   have hD:Has W w1.heap.size (.cells #[.int .i64 r.dL,.int .i64 r.dN,.int .i64 r.dF,.int .i64 r.eI,.string ⟨#[]⟩,.int .i64 r.dQ] 107):=by rw[hW];exact Has.new _ _
   have hA:Has W w.heap.size (.cells zc 107):=by rw[hW];exact H1.o.alloc _
   have PM:Below w.heap.size w W:=by rw[hW];exact (HB.o.trans (Kd.mono HB.o.size)).alloc (az HB.o.size Kd.size) _
   rw[<- hW]
   clear hW
   have c0:∀i,i<6->∃v,W.cell? ⟨w.heap.size,i,none⟩=some v:=fun i hi=>by show ∃v,World.cell? _ _=some v;rw[hA.cell];exact⟨_,cx (by omega)⟩
   obtain⟨v0,z0⟩:=c0 0 (by omega)
   obtain⟨v1,z1⟩:=c0 1 (by omega)
   obtain⟨v2,z2⟩:=c0 2 (by omega)
   obtain⟨v3,z3⟩:=c0 3 (by omega)
   obtain⟨v4,z4⟩:=c0 4 (by omega)
   obtain⟨v5,z5⟩:=c0 5 (by omega)
   have f0:=hA.frozen 0
   have f1:=hA.frozen 1
   have f2:=hA.frozen 2
   have f3:=hA.frozen 3
   have f4:=hA.frozen 4
   have f5:=hA.frozen 5
   have d0':=hD.cell 0
   have d1':=hD.cell 1
   have YO:=hD.cell 2
   have d3':=hD.cell 3
   have d4':=hD.cell 4
   have d5':=hD.cell 5
   simp only[aC,aE,aD]at d0' d1' YO d3' d4' d5'
   have HA:=Hd hA
   have Mb:=Hd PM
   clear hA PM hD c0
   go_region
   go_wp2;refine qN (g:=w.heap.size) (r':=⟨r.dL,r.dN,r.dF,r.eI,[],r.dQ⟩) (ok:=false) rfl rfl rfl ?_ ?_ (decide_eq_false MY.o).symm (fun h=>by cases h)
   ·exact sX (wD HA.o YN _ _ _ _ _ _)
   exact (wF Mb.o (aq _) _ _ _ _ _ _).drew
 
  rw[hq]at LI;have UQ:=jS.C5 _ ts hI _ wr hU hE;rw[hv]at UQ;have d0:decide ((q:Int)<0)=false:=decide_eq_false (by omega);(have hqI:(q:Int)<=rest.size:=by omega);clear hq Pg RG VM hb XI hE hU hI hv
  go_wp2_with (first
   |(go_at_call 133;refine LI.mono ?_;rintro e w1 ⟨rfl,rfl⟩;clear LI)
   | (go_at_call 134;refine UQ.mono ?_;rintro e w1 ⟨rfl,Kd⟩;clear UQ
      have H3:=Nx.o.below Kd Nx.o.lt;(have k1:w1.cell? ⟨w.heap.size+1+1,1,none⟩=some (.int .i64 r.dL):=by rw[H3.cell,Q7.o];rfl);(have k2:w1.cell? ⟨w.heap.size+1+1,2,none⟩=some (.int .i64 r.dN):=by rw[H3.cell,Q7.o];rfl);(have k3:w1.cell? ⟨w.heap.size+1+1,3,none⟩=some (.int .i64 r.dF):=by rw[H3.cell,Q7.o];rfl);(have k4:w1.cell? ⟨w.heap.size+1+1,4,none⟩=some (.int .i64 r.eI):=by rw[H3.cell,Q7.o];rfl);(have k5:w1.cell? ⟨w.heap.size+1+1,5,none⟩=some (.int .i64 r.dQ):=by rw[H3.cell,Q7.o];rfl);have H1:=Hd (K3.o.below Kd K3.o.lt)
      clear H3))
  (have YN:zc.size=6:=by rw[HZC.o];rfl);obtain⟨W,hW⟩:∃W,W=w1.alloc (.cells #[.int .i64 r.dL,.int .i64 r.dN,.int .i64 r.dF,.int .i64 r.eI,.string ⟨r.data.toArray⟩,.int .i64 r.dQ] 107):=⟨_,rfl⟩;(have hD:Has W w1.heap.size (.cells #[.int .i64 r.dL,.int .i64 r.dN,.int .i64 r.dF,.int .i64 r.eI,.string ⟨r.data.toArray⟩,.int .i64 r.dQ] 107):=by rw[hW];exact Has.new _ _);(have hA:Has W w.heap.size (.cells zc 107):=by rw[hW];exact H1.o.alloc _);(have PM:Below w.heap.size w W:=by rw[hW];exact (HB.o.trans (Kd.mono HB.o.size)).alloc (az HB.o.size Kd.size) _);rw[<- hW];clear hW;have YG:jr T W:=HK.o.below PM;have HS:Hy (PS T w w1.heap.size r W.drew):=Hd ⟨sX hD,YG.below (Below.refl _ _).drew,⟨zc,YN,sX hA⟩,PM.drew⟩;have RA:=jI r (by have:=(na HR.o).d1;omega) W.drew;rw[HR.o]at RA;clear hD YG hA PM H1 k1 k2 k3 k4 k5;refine last.head (PS T w w1.heap.size r) 15 16 ?_;refine last.many [(0,61,_),(1,62,_),(2,63,_),(3,64,_),(4,65,_)] HS.o ?_ (hy:=fun W' Kc=>by have e0:=Kc.1.cell 0;have e1:=Kc.1.cell 1;have e2:=Kc.1.cell 2;have e3:=Kc.1.cell 3;have e4:=Kc.1.cell 4;have e5:=Kc.1.cell 5;simp only[aC,aE,aD]at e0 e1 e2 e3 e4 e5;repeat (first|exact .z|refine .s ?_|refine .k ?_));refine last.one 5 fun K hK=>?_;go_simp;refine RA.mono ?_;rintro e W2 ⟨rfl,Ke⟩;have Kq:=Hd (HS.o.below Ke);refine hK.out _ _ (fun _=>Kq.o) ?_;clear hK K RA;refine last.many [(6,67,_),(7,68,_),(8,69,_),(9,70,_),(11,72,_)] Kq.o ?_ (hy:=fun W' Kc=>by have e0:=Kc.1.cell 0;have e1:=Kc.1.cell 1;have e2:=Kc.1.cell 2;have e3:=Kc.1.cell 3;have e4:=Kc.1.cell 4;have e5:=Kc.1.cell 5;simp only[aC,aE,aD]at e0 e1 e2 e3 e4 e5;repeat (first|exact .z|refine .s ?_|refine .k ?_));have TA:=sQ T k hk r (na HR.o) W2 Kq.o.2.1;obtain⟨tx,PL⟩:∃tx:ByteArray,tx=⟨(text T k r).toArray⟩:=⟨_,rfl⟩;rw[<- PL]at TA;have VN:=Hd PL;clear PL;refine last.one 10 fun K hK=>?_;go_simp;refine TA.mono ?_;rintro e W3 ⟨rfl,Kk⟩;have Lp:=Hd (Kq.o.below Kk);refine hK.out _ _ (fun _=>Lp.o) ?_;clear hK K TA;refine last.many [(12,73,_),(13,74,_)] Lp.o ?_;obtain⟨zc',hz',hA'⟩:=Lp.o.2.2.1;refine last.one 14 fun K hK=>?_;refine wp_store_row 107 (.tmp 4) (.tmp 61) rfl w.heap.size #[.int .i64 r.dL,.int .i64 r.dN,.int .i64 r.dF,.int .i64 r.eI,.string ⟨r.data.toArray⟩,.int .i64 r.dQ] rfl rfl 107 zc' hA' (by kernel_rfl) hz' (by kernel_rfl) ?_;have KB:Below w.heap.size w (W3.setRow w.heap.size #[.int .i64 r.dL,.int .i64 r.dN,.int .i64 r.dF,.int .i64 r.eI,.string ⟨r.data.toArray⟩,.int .i64 r.dQ]):=below_setRow Lp.o.2.2.2 (aq _) _;have hA4:=hA'.setRow #[.int .i64 r.dL,.int .i64 r.dN,.int .i64 r.dF,.int .i64 r.eI,.string ⟨r.data.toArray⟩,.int .i64 r.dQ];refine hK.out _ _ (fun _=>⟨Lp.o.1.AX (by have:=HB.o.size;have:=Kd.size;have:=K3.o.lt;omega) _,HK.o.below KB,⟨_,rfl,hA4⟩,KB⟩) ?_;clear hK K;refine last.one 15 fun K hK=>?_;go_simp;refine hK.out _ _ (fun h=>absurd rfl h) ?_;refine last.done ?_;go_wp2;refine qN (g:=w.heap.size) (r':=r) (ok:=tx.toList==s.toList) rfl rfl rfl hA4 KB ?_ (fun _=>rfl);(have e1:tx.toList=text T k r:=by rw[Lib.toList_data,VN.o]);have e2:s.toList=s.data.toList:=Lib.toList_data s;rw[e1,e2];by_cases he:s.data.toList=text T k r
  ·rw[he];simp
  rw[decide_eq_false he];exact beq_eq_false_iff_ne.2 (fun e=>he e.symm)
end dZ
namespace dZ
open Go.RowKit heap own dK eO
open dI (Rec)
theorem wL (T:Lib.PrintTabs) (k:Nat) (hk:k<1000) (r:Rec) (hr:r.right=true) (s:ByteArray) (hP:s.data.toList <+: text T k r) (w:World) (hK:jr T w) :
 Calls Tryz.prog 88 #[.int .i64 k,.string s] w (qM T k r s w):=by
 have MO:s.data.toList.length=s.size:=rfl
 have hs:s.size<=1000:=by
  have h1:=hP.length_le;have h2:=sM T k r (by omega) (by omega) (na hr);omega
 have small:∀rest:ByteArray,Lib.splitK [32] 0 6 s.data.toList=fo k r++[rest.data.toList]->rest.size<=1000:=fun rest h=>by
  have:=(qH 6 s.data.toList).2 rest.data.toList (by rw[h];simp);have e:rest.data.toList.length=rest.size:=rfl;omega
 have h7:∀rest:ByteArray,(fo k r++[rest.data.toList]).length=7:=fun _=>rfl
 cases CE T k r _ hP with
 |ft Km h=>exact Da T k r s hs Km w hK (CF h)
 |bare Km rest h hq =>
  obtain⟨p1,p2,p3⟩:=sN h (h7 rest);exact sY T k r hr s hs w hK hk rest p1 p2 p3 (small rest h) (.inl ⟨Km,hq⟩)
 |fa Km rest q ts h hq hl ht e =>
  obtain⟨p1,p2,p3⟩:=sN h (h7 rest);have LU:=small rest h;exact sY T k r hr s hs w hK hk rest p1 p2 p3 LU (.inr (.inl ⟨Km,q,ts,hq,hl,⟨by rw[Lib.extract_from_zero];exact e,ht,by simp;omega⟩⟩))
 |whole rest q ts h hq hl ht e hv =>
  obtain⟨p1,p2,p3⟩:=sN h (h7 rest);have LU:=small rest h;exact sY T k r hr s hs w hK hk rest p1 p2 p3 LU (.inr (.inr ⟨q,ts,hq,hl,⟨by rw[Lib.extract_from_zero];exact e,ht,by simp;omega⟩,hv⟩))
structure kB (T:Lib.PrintTabs) (ps:List ByteArray) (l:List Rec):Prop where
 len:l.length<=200
 right:∀r∈l,r.right=true
 there:∀(k:Nat) r,l[k]?=some r->ps[k]?=some ⟨(text T k r).toArray⟩
 none:∀(k:Nat),l.length<=k->k<200->∃(s:ByteArray) (r:Rec),ps[k]?=some s/\r.right=true/\s.data.toList <+: text T k r/\s.data.toList≠text T k r
theorem Di:(⟨0,0,0,0,[],0⟩:Rec).right=true:=by decide
theorem kB.new (T:Lib.PrintTabs):kB T (List.replicate 200 ⟨#[]⟩) []:=
 ⟨bP _,fun _ h=>(by cases h),fun _ _ h=>(by simp at h),fun k _ hk=>⟨⟨#[]⟩,⟨0,0,0,0,[],0⟩,by rw[bB,if_pos hk],Di,List.nil_prefix,fun e=>by
  have:=wi T k ⟨0,0,0,0,[],0⟩;rw[<- e]at this
  exact absurd this (Nat.lt_irrefl _)⟩⟩
theorem kB.add {T:Lib.PrintTabs} {ps:List ByteArray} {l:List Rec} (h:kB T ps l) (hl:ps.length=200) (r:Rec) (hr:r.right=true) (h2:l.length<200) :
 kB T (ps.set l.length ⟨(text T l.length r).toArray⟩) (l++[r]):=by
 refine⟨by simp;omega,fun x hx=>?_,fun k x hk=>?_,fun k h0 h1=>?_⟩
 ·rcases aO.1 hx with hx|hx
  ·exact h.right x hx
  rw[aH.1 hx];exact hr
 ·by_cases Ks:k<l.length
  ·rw[aV Ks]at hk;rw[aX (by omega)];exact h.there k x hk
  rw[aL (by omega)]at hk
  cases hq:k-l.length with
  |zero =>
   rw[hq]at hk;(obtain rfl:r=x:=by simpa using hk);(obtain rfl:k=l.length:=by omega);rw[aT (by omega)]
  |succ n=>rw[hq]at hk;simp at hk
 simp only[aA,aJ,aZ]at h0;rw[aX (by omega)];exact h.none k (by omega) h1
theorem kB.Dj {T:Lib.PrintTabs} {ps:List ByteArray} {l:List Rec} (h:kB T ps l) (hl:ps.length=200) (r:Rec) (hr:r.right=true) (h2:l.length<200) (s:ByteArray)
 (h3:s.data.toList <+: text T l.length r) (h4:s.data.toList≠text T l.length r):kB T (ps.set l.length s) l:=by
 refine⟨h.len,h.right,fun k x hk=>?_,fun k h0 h1=>?_⟩
 ·have Ks:k<l.length:=by
   rcases aW k l.length with h|h
   ·exact h
   rw[bm h]at hk;cases hk
  rw[aX (by omega)];exact h.there k x hk
 by_cases Ks:k=l.length
 ·subst Ks;exact⟨s,r,aT (by omega),hr,h3,h4⟩
 rw[aX (by omega)];exact h.none k h0 h1
def lj (r:Rec):List Value:=[.int .i64 r.dL,.int .i64 r.dN,.int .i64 r.dF,.int .i64 r.eI,.string ⟨r.data.toArray⟩,.int .i64 r.dQ]
def jG (l:List Rec):List Value:=l.flatMap lj
theorem sZ (x:Rec):∀u∈lj x,u.oneCell'=true:=by
 intro u hu;simp only[lj,aM,bc,or_false]at hu;rcases hu with rfl|rfl|rfl|rfl|rfl|rfl<;>rfl
theorem wM (l:List Rec):(jG l).length=l.length*6:=by
 induction l with
 |nil=>rfl
 |cons x l ih =>
  (have e:jG (x::l)=lj x++jG l:=by simp[jG]);rw[e,aA,ih,aJ];show 6+_=_;omega
theorem Dl (l:List Rec) (r:Rec):jG (l++[r])=jG l++lj r:=by simp[jG]
theorem tc:(Tryz.prog.info? 107).map (fun i=>(i.zero,i.size,i.bytes))=some (some (.agg #[.int .i64 0,.int .i64 0,.int .i64 0,.int .i64 0,.string ByteArray.empty,.int .i64 0]),6,56):=by kernel_rfl
structure iO (own:Nat->Nat) (T B:Nat) (w:World) (wb db:Nat) (v:Value) (dU:Bool) (l:List Rec):Prop where
 w_:Has w wb (.cells #[.pointer (some ⟨db,0,none⟩),v,.bool dU] 148)
 row:Row own T w 107 6 v l.length (jG l)
 ow:own wb=T+1
 low:∀g,own g=T->B<=g
 lw:B<=wb
section
variable {own own1:Nat->Nat} {T B:Nat} {w w1:World} {wb db:Nat} {v:Value} {dU:Bool} {l:List Rec}
theorem iO.below {B':Nat} (h:iO own T B w wb db v dU l) (hb:Below B' w w1) (hB:w.heap.size<=B'):iO own T B w1 wb db v dU l:=
 ⟨h.w_.below hb (ay h.w_.lt hB),h.row.below (hb.mono hB),h.ow,h.low,h.lw⟩
theorem iO.qQ (h:iO own T B w wb db v dU l) (d:Bool):iO own T B (w.setCell ⟨wb,2,none⟩ (.bool d)) wb db v d l:=by
 refine⟨h.w_.eu 2 _,?_,h.ow,h.low,h.lw⟩;refine⟨lV h.row.1 fun g hg=>Below.heap_setCell _ _ _ _ ?_,h.row.2⟩;have:=h.row.2 g hg;intro e;rw[show g=wb from e,h.ow]at this;omega
end
def Dm (own:Nat->Nat) (T B wb db:Nat) (dU:Bool) (l:List Rec) (w W:World):Prop:=
 ∃own1 v,Ext w own own1/\dD (fun g=>g=wb\/own g=T) w W/\iO own1 T B W wb db v dU l
theorem wN {own:Nat->Nat} {T B wb db g Ku:Nat} {v:Value} {dU:Bool} {l:List Rec} {r:Rec} {w w3:World} {ob:Obj} (h:iO own T B w wb db v dU l) (hBw:B<=w.heap.size)
 (On:w3.ownsRow 0 107 6 (.slice (some ⟨g,0,none⟩) (l.length+1) Ku) (l.length+1) (jG l++lj r)) (MH:(w.alloc ob).drew.grownBy w3 v.ownBlock) (hg:v.ownBlock=some g\/g=w.heap.size+1) :
 Dm own T B wb db dU (l++[r]) w (w3.setCell ⟨wb,1,none⟩ (.slice (some ⟨g,0,none⟩) (l.length+1) Ku)):=by
 have YP:=h.w_.lt;have hrb:∀k,v.ownBlock=some k->k<w.heap.size/\own k=T:=fun k hk=>⟨h.row.lt k hk,h.row.2 k hk⟩;have Mi:own g=T/\g<w.heap.size\/g=w.heap.size+1:=hg.imp (fun h=>⟨(hrb g h).2,(hrb g h).1⟩) (fun h=>h);have hnb:∀k,own k=T->k≠wb:=fun k hk e=>by rw[e,h.ow]at hk;omega
 have Mw:g≠wb:=by
  rcases Mi with h'|h'
  ·exact hnb g h'.1
  omega
 refine⟨jj own w T,.slice (some ⟨g,0,none⟩) (l.length+1) Ku,Ext.new _ _ _,?_,?_,?_,?_,fun k hk=>?_,h.lw⟩
 ·exact (((dD.refl _ w).alloc ob).drew.grown MH (fun k hk=>.inr (.inr (hrb k hk).2))).setCell (p:=⟨wb,1,none⟩) (.inr (.inl rfl)) _
 ·have h1:Has w3 wb (.cells #[.pointer (some ⟨db,0,none⟩),v,.bool dU] 148):=by
   refine (MH.block wb (by show wb<(w.alloc ob).heap.size;simp;omega) (fun e=>hnb wb (hrb wb e.symm).2 rfl)).trans ?_;exact (h.w_.alloc ob).drew
  exact h1.eu 1 _
 ·rw[aA,aQ,Dl]
  refine⟨lV On fun k hk=>Below.heap_setCell _ _ _ _ (by
   (have:g=k:=by simpa[Value.ownBlock]using hk);show k≠wb
   omega),fun k hk=>?_⟩
  (obtain rfl:g=k:=by simpa[Value.ownBlock]using hk);rcases Mi with h'|h'
  ·rw[mB h'.2];exact h'.1
  exact pF (by omega)
 ·rw[mB YP];exact h.ow
 by_cases Mm:k<w.heap.size
 ·rw[mB Mm]at hk;exact h.low k hk
 omega
theorem wO (w:World):(w.alloc (.cells #[] 107)).ownsRow w.heap.size 107 6 (.slice (some ⟨w.heap.size,0,none⟩) 0 0) 0 []:=
 qD (l:=[]) (Has.new w _) (aq _) rfl (bP _)
theorem Dn {own:Nat->Nat} {T B wb db:Nat} {v:Value} {dU:Bool} {l:List Rec} (w:World) (h:iO own T B w wb db v dU l) :
 Calls Tryz.prog 183 #[.pointer (some ⟨wb,0,none⟩)] w fun e w'=>e=.returned (.bool dU)/\w=w':=by
 have c2:=h.w_.cell 2;simp only[aC,aE,aD]at c2;clear h;(go_enter Tryz.func183,Tryz.ntmps183);go_wp2;go_ret;exact⟨rfl,rfl⟩
theorem Dp {own:Nat->Nat} {T B wb db:Nat} {v:Value} {dU:Bool} {l:List Rec} (w:World) (h:iO own T B w wb db v dU l) (hl:l.length<=200) :
 Calls Tryz.prog 56 #[.pointer (some ⟨wb,0,none⟩)] w fun e w'=>∃v',e=.returned v'/\w'.ownsRow w.heap.size 107 6 v' l.length (jG l)/\Below w.heap.size w w':=by
 obtain⟨i0,KO,La,KH,KD⟩:=info_parts tc;have HI:=Hd (And.intro KO (And.intro La (And.intro KH KD)));have c1:=h.w_.cell 1;simp only[aC,aE,aD]at c1;have Kg:=h.w_.lt;have H:=Hd h;rcases bx l.length with h0|h0
 ·have hv:v=.slice none 0 0\/∃g cap,v=.slice (some ⟨g,0,none⟩) 0 cap:=by
   rcases h.row.1.2 with⟨e,-⟩|⟨g,cap,cur,e,-⟩
   ·exact .inl e
   exact .inr ⟨g,cap,by rw[e,h0]⟩
  have OT:l=[]:=aP h0;clear h;subst OT;rcases hv with rfl|⟨g,cap,rfl⟩
  all_goals
   (go_enter Tryz.func56,Tryz.ntmps56);go_wp2;go_ret;exact⟨_,rfl,wO w,(Below.refl _ _).alloc (aq _) _⟩
 obtain⟨g,cap,cur,rfl,-,hg,Ln,KL,Mh,N2⟩:=h.row.shape h0;clear h;(go_enter Tryz.func56,Tryz.ntmps56);have HE:=Hd (wO w);have HG:=Hd hg;have H4:=Hd N2;have Mi:=Has.lt (w:=w) hg;clear hg N2 La KH KD KO;go_wp2_with (at_builtin;refine wpList_append_own _ rfl (.tmp 3) (.tmp 7) 104 rfl w.heap.size 107 i0 _ 6 56 Tryz.underlying104 HI.o.1 HI.o.2.1 HI.o.2.2.1 HI.o.2.2.2 rfl (by decide) _ _ _ rfl HE.o ⟨g,0,none⟩ l.length cap (jG l) rfl (wM l) ?c1 ?c2 ?c3 ?c4 ?c5 ?_)
 case c1 =>
  intro j u hj;(have Pl:j<l.length*6:=by rw[<- wM];rcases aW j (jG l).length with h|h;exact h;rw[bm h]at hj;cases hj);(have e:(⟨g,0,none⟩:Addr).add j=⟨g,j,none⟩:=by by_cases h0:j=0<;>simp[Addr.add,h0]);rw[e,(Has.alloc (w:=w) HG.o _).cell,<- hj,<- H4.o,cW,if_pos Pl,cC]
 case c2 =>
  intro u hu;obtain⟨x,-,hx⟩:=dt.1 hu;exact sZ x u hx
 (case c3=>unfold maxLen;omega);(case c4=>omega);(case c5=>simp);intro v2 w2 Kt KE _;go_wp2;go_ret
 exact⟨v2,rfl,Kt,((Below.refl _ _).alloc (aq _) _).grown KE (by simp) (fun k hk=>by
  have:w.heap.size=k:=by simpa[Value.ownBlock]using hk
  omega)⟩
end dZ
end Go.Proofs.YtlhodcmdpchllaaGreatDoor
