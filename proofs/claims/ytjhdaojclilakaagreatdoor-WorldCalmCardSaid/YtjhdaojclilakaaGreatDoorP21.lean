/-
  A part of the proof of the law WorldCalm: UnqE, UnqF.
-/
import Derived.Deep.LoopGhost
import Derived.Laws.BytesArg
import Derived.Lib.BufferWrite
import Derived.Shelf.Unicode.DecodeSlow
import Derived.Shelf.Bytes.SlSmallAll
import Derived.Test.YtjhdaojclilakaaGreatDoorHd
import Derived.Test.YtjhdaojclilakaaGreatDoorP20
set_option maxHeartbeats 16000000
set_option maxRecDepth 1000000
namespace Go.Proofs.YtjhdaojclilakaaGreatDoor
section
variable {p q:Prop}
theorem aab (h:p:=by
 obtain⟨t,ht⟩:∃t,ts[k]?=some t:=⟨_,ay PG⟩;have RH:jI t:=H.o.ok t (aT ht);(have Rr:ts.drop k=t::ts.drop (k+1):=by rw[cG PG];congr 1;rw[ay PG]at ht;exact aA ht);(have Rs:ts.take (k+1)=ts.take k++[t]:=by rw[bH,ht];rfl);obtain⟨bb,ll,Sz,Va,RS⟩:=um RH;(have QW:x.data.toList=t.bs++((ts.drop (k+1)).flatMap Tok.bs++T):=by rw[HX.o,Rr,bm,bx]);(have Qq:0<x.size:=by rw[kR,QW,Sz];simp);have Ri:x[0]'Qq=bb:=qz x 0 Qq bb (by rw[QW,Sz];rfl);have g1:(((x[0]'Qq).toNat:Int) !=34)=true:=bne_iff_ne.mpr (fun e=>Va (by rw[Ri]at e;exact dx.1 (by simpa using dM.1 e)));have g2:(((x[0]'Qq).toNat:Int)==10)=false:=beq_eq_false_iff_ne.mpr (fun e=>RS (by rw[Ri]at e;exact dx.1 (by simpa using dM.1 e)));have g0:decide ((0:Int)<x.size)=true:=decide_eq_true ab;have hxI:(0:Int)<x.size:=ab;have HXB:Hy (x[0]'Qq=bb):=Hd Ri;obtain⟨y,hy⟩:=nm (⟨((ts.drop (k+1)).flatMap Tok.bs++T).toArray⟩:ByteArray);have CT:=xf t RH _ x (pf QW) WO wr hU1;rw[<- hy]at CT;(have YC:y.data.toList=(ts.drop (k+1)).flatMap Tok.bs++T:=by rw[hy]);(have Zz:y.size<x.size:=by rw[kR,kR,YC,QW,Sz];simp;omega);have X5:=Hd YC;have Xp:=Hd Rs;obtain⟨VC,QI,Q8⟩:=xj RH;have TI:=Hd (uo RH);obtain⟨r,hr⟩:=nm t.r;obtain⟨m,hm⟩:=nm t.m;have Vb:Hy (t.val=if r<128\/m=false then [UInt8.ofNat r.toNat] else Lib.encodeRune r):=Hd (by rw[hr,hm];rfl);rw[<- hr,<- hm]at CT;rw[<- hr]at VC QI Q8;rw[<- hm]at Q8;have Qu:=Hd Q8;clear ht RH Rr Rs Sz Va RS QW Ri hy YC hr hm Q8;obtain⟨N,hN⟩:=nm (((ts.take k).flatMap Tok.val).length);obtain⟨L,hL⟩:=nm (Lib.byteCells ((ts.take k).flatMap Tok.val));have YD:Hy (wr.ownsRow w.heap.size 5 1 _ N L):=Hd (by rw[hN,hL];exact Sg.o);(have hN9:N<=400000:=by rw[hN];exact HK9.o);have HN:=Hd hN;have HL:=Hd hL;clear hN hL;by_cases Ql:r<128\/m=false
 ·(have Sh:t.val=[UInt8.ofNat r.toNat]:=by rw[Vb.o,if_pos Ql]);(have abi:r<256:=by rcases Ql with h|h;omega;exact Qu.o h);have hu8:r%256=r:=ab;have HSM:Hy (Value.int .u8 r=.int .u8 ((UInt8.ofNat r.toNat).toNat:Int)):=Hd (by congr 1;simp;omega);have Vc:=Hd Sh;have HG:Hy ((decide (r<128)=true)\/(decide (r<128)=false/\m=false)):=Hd (by rcases Ql with h|h;exact .inl (decide_eq_true h);by_cases h':r<128;exact .inl (decide_eq_true h');exact .inr ⟨decide_eq_false h',h⟩);have HWU:Hy (IntKind.u8.wrap r=r):=Hd (by simp only[IntKind.wrap,IntKind.signed,IntKind.bits];simp;omega);clear Ql Sh;rcases HG.o with dd|⟨dd,rfl⟩
  all_goals
   go_wp2_with (first
    |(go_at_call 154;refine CT.mono ?_;rintro e w1 ⟨rfl,Pu⟩;clear CT;have QO:=Hd ((mh YD.o Pu).alloc (.cells #[.int .u8 r] 5));have PR:=Pu.size)
    |(at_builtin;refine wpList_append_own _ rfl (.tmp 186) (.tmp 189) 58 rfl w.heap.size 5 i0 (.int .u8 0) 1 1 Tryz.underlying58 P7 Xk Xl Xm rfl aj _ _ _ rfl QO.o ⟨w1.heap.size,0,none⟩ 1 1 [.int .u8 r] rfl rfl ?c1 ao ?c3 ?c4 ?c5 ?_))
   case c1 =>
    intro j v hj;have hn:=Has.new w1 (.cells #[.int .u8 r] 5)
    match j,hj with
    |0,hj =>
     (obtain rfl:Value.int .u8 r=v:=by simpa using hj);exact hn.cell 0
   (case c3=>unfold maxLen;omega);(case c4=>omega);(case c5=>simp;omega);intro v2 w2 PJ QF _;(go_wp2_with fail);go_roundw
   case rel =>
    exact⟨k+1,y,ab,rfl,X5.o,rfl,rfl,rfl,ry (m:=1) (cs:=[.int .u8 r]) HN.o HL.o Xp.o (by rw[Vc.o];rfl) (by rw[Vc.o,HSM.o];rfl) PJ,((HB.o.trans (Pu.mono YB)).alloc ab _).grown QF ah (fun j hj=>WR.o j hj),ab⟩
   case measure=>exact Zz
 (have Sh:t.val=Lib.encodeRune r:=by rw[Vb.o,if_neg Ql]);(have Uo:m=true:=by cases m with|true=>rfl|false=>exact absurd (Or.inr rfl) Ql);subst Uo;have dd:decide (r<128)=false:=decide_eq_false (fun h=>Ql (.inl h));have Vc:=Hd Sh;clear Ql Sh
 go_wp2_with (first
  |(go_at_call 154;refine CT.mono ?_;rintro e w1 ⟨rfl,Pu⟩;clear CT;have QO:=Hd (mh YD.o Pu);have PR:=Pu.size)
  |(go_at_call 155;refine (Tryz.utf8_AppendRune_plain w.heap.size _ _ _ r ab ab _ QO.o ab ab).mono ?_;rintro e w2 ⟨v2,rfl,PJ,oo,QF⟩))
 go_roundw
 case rel =>
  exact⟨k+1,y,ab,rfl,X5.o,rfl,rfl,rfl,ry (m:=(Lib.runeCells r).length) (cs:=Lib.runeCells r) HN.o HL.o Xp.o (by rw[Vc.o,Lib.runeCells_length]) (by rw[Vc.o,Lib.byteCells_encodeRune]) PJ,((HB.o.trans (Pu.mono YB)).alloc ab _).grown QF ah (fun j hj=>WR.o j hj),ab⟩
 case measure=>exact Zz):p:=h
end
namespace lx
open Go.RowKit oq heap own
theorem xh:(Tryz.prog.info? 5).map (fun i=>(i.zero,i.size,i.bytes))=some (some (.int .u8 0),1,1):=af
variable {w:World} {B:Nat} {v:Value}
theorem ru {n:Nat} {l:Bytes} (h:w.ownsRow B 5 1 v n (Lib.byteCells l)) (b:n=l.length) :
 (convert 58 9 v).run Tryz.prog w=.ok (.string ⟨l.toArray⟩) w:=by
 subst b;rcases h.2 with⟨rfl,a⟩|⟨g,cap,cur,rfl,hb,c,f,i,k,d⟩
 ·have:=bc a;subst this;exact run_convert_bytes_zero w _ _ Tryz.underlying58 Tryz.underlying5 none 0 _ Tryz.underlying9
 rcases bQ l.length with a|a
 ·have:=bc a;subst this;exact run_convert_bytes_zero w _ _ Tryz.underlying58 Tryz.underlying5 _ cap _ Tryz.underlying9
 refine run_convert_bytes_back w _ _ _ ⟨g,0,none⟩ cap l Tryz.underlying58 Tryz.underlying5 Tryz.underlying9 (fun j e=>?_);rw[show (⟨g,0,none⟩:Addr).add j=⟨g,j,none⟩ from by by_cases a:j=0<;>simp[Addr.add,a]];rw[(kj (w:=w) (n:=l.length) (size:=1) c d j ab).1];simp[Lib.byteCells,List.getElem?_eq_getElem e]
structure sJ (s:ByteArray) (ts:List Tok) (T:Bytes):Prop where
 e:s.data.toList=34::(ts.flatMap Tok.bs++T)
 ok:∀t∈ts,jI t
 small:s.size<100000
theorem kR (s:ByteArray):s.size=s.data.toList.length:=rfl
theorem qz (s:ByteArray) (k:Nat) (h:k<s.size) (b:UInt8) (hb:s.data.toList[k]?=some b):s[k]'h=b:=by
 (have:s.data.toList[k]?=some (s[k]'h):=by rw[ay (by rw[<- kR];exact h)];rfl);rw[this]at hb;exact aA hb
def xi:Value->Nat
 |.string s=>s.size
 |_=>0
variable {t:Tok}
theorem xj (h:jI t):0<=t.r/\t.r<1114112/\(t.m=false->t.r<256):=by
 cases h with
 |ascii c b d f g=>exact⟨ae,ah,fun _=>ah⟩
 |multi r b hv=>simp only[Lib.validRune,decide_eq_true_eq]at hv;exact⟨ah,ah,fun e=>by cases e⟩
 |short x v h=>unfold mm at h;simp only;omega
 |hex a h=>exact⟨ae,ah,fun _=>ah⟩
 |u4 r b d hv=>exact⟨ae,ah,fun e=>by cases e⟩
 |u8 r b hv=>simp only[Lib.validRune,decide_eq_true_eq]at hv;exact⟨ae,ah,fun e=>by cases e⟩
theorem uo (h:jI t):t.val.length<=4/\t.val.length<=4*t.bs.length:=by
 have a:t.val.length<=4:=by
  unfold Tok.val;split
  ·simp
  have:=Lib.encodeRuneZ_length t.r;simp[Lib.encodeRune];omega
 obtain⟨b,l,hb,-,-⟩:=um h;exact⟨a,by rw[hb];simp;omega⟩
theorem Aw:∀(ts:List Tok),(∀t∈ts,jI t)->(ts.flatMap Tok.val).length<=4*(ts.flatMap Tok.bs).length
 | [],_=>ae
 |t::ts,h=>by
  have a:=(uo (h t ae)).2;have b:=Aw ts (fun x hx=>h x (by simp[hx]));simp only[bm,aE];omega
theorem take_len (ts:List Tok) (k:Nat):((ts.take k).flatMap Tok.val).length<=(ts.flatMap Tok.val).length:=by
 (have h:ts.flatMap Tok.val=(ts.take k).flatMap Tok.val++(ts.drop k).flatMap Tok.val:=by rw[<- cH,cS]);rw[h,aE];omega
variable {ts:List Tok}
theorem ry {k m:Nat} {cs:List Value} {N:Nat} {L:List Value} (a:N=((ts.take k).flatMap Tok.val).length) (b:L=Lib.byteCells ((ts.take k).flatMap Tok.val)) (c:ts.take (k+1)=ts.take k++[t]) (hm:t.val.length=m) (hc:Lib.byteCells t.val=cs)
 (h:w.ownsRow B 5 1 v (N+m) (L++cs)) :
 w.ownsRow B 5 1 v ((ts.take (k+1)).flatMap Tok.val).length (Lib.byteCells ((ts.take (k+1)).flatMap Tok.val)):=by
 (have e:(ts.take (k+1)).flatMap Tok.val=(ts.take k).flatMap Tok.val++t.val:=by rw[c];simp);rw[e,aE,Lib.byteCells_append,hm,hc,<- a,<- b];exact h
theorem xk {a:World} (h:w.grownBy a none):BB w a:=⟨h.os,h.tape,h.output,h.size,fun k b=>h.block k b ae⟩
theorem U8.below {w':World} (h:U8 w) (hb:BB w w'):U8 w':=Utf8Tabs_below h hb
theorem Ir {s u:ByteArray} {T:Bytes} {o:Nat} (f:∀t∈ts,jI t) (hT:T=[34]\/T=[]) (hu:u.data.toList=ts.flatMap Tok.bs++T) (a:u.data.toList[o]?=some 34)
 (hs:s.data.toList=34::(ts.flatMap Tok.bs++T)) (hc:false=(Lib.indexByte (s.extract 0 (o+2)).data.toList ((92:Int).toNat.toUInt8) != -1)) :
 T=[34]/\o+2=s.size/\(s.extract 0 (o+2)).extract 1 (o+1)=⟨(ts.flatMap Tok.val).toArray⟩:=by
 have b:(92:UInt8)∉s.data.toList.take (o+2):=by
  intro hm;obtain⟨k,j⟩:=List.mem_iff_getElem?.1 hm
  have e:Lib.indexByte (s.data.toList.take (o+2)) 92 = -1:=by
   have g:=hc.symm;rw[Lib.extract_from_zero]at g;have:=bne_eq_false_iff_eq.1 g;exact this
  exact Lib.indexByte_none e k j
 rw[hs,dX]at b;have c:(92:UInt8)∉(ts.flatMap Tok.bs++T).take (o+1):=fun h=>b (aI _ h);rw[hu]at a
 have hlen:¬o<(ts.flatMap Tok.bs).length:=by
  intro m;rw[ba m]at a;have:=Av ts f o a;apply c;rw[cI ab];exact List.mem_of_mem_take (l:=(ts.flatMap Tok.bs).take (o+1)) (i:=o) (by rw[List.take_take,ef ab];exact this)
 rw[aR ab]at a;rcases hT with rfl|rfl
 ·have d:o=(ts.flatMap Tok.bs).length:=by
   cases hq:o-(ts.flatMap Tok.bs).length with
   |zero=>omega
   |succ n=>rw[hq]at a;simp at a
  (have p:s.size=o+2:=by rw[kR,hs,d];simp);refine⟨rfl,p.symm,?_⟩;have hb:(92:UInt8)∉ts.flatMap Tok.bs:=fun h=>c (by rw[d,bB ae];exact bp _ h);have hp:=(Au ts f hb).1;apply pf;rw[Lib.extract_data,Lib.extract_from_zero,hs,hp,d];have e1:(34::(ts.flatMap Tok.bs++[34])).take ((ts.flatMap Tok.bs).length+2)=34::(ts.flatMap Tok.bs++[34]):=bB (by rw[aL,aE];exact ax _);rw[e1];show List.take ((ts.flatMap Tok.bs).length+1-1) (ts.flatMap Tok.bs++[34])=ts.flatMap Tok.bs;exact List.take_left' (cK _ _).symm
 simp at a
theorem Ax (s:ByteArray) (ts:List Tok) (T:Bytes) (hT:T=[34]\/T=[]) (h:sJ s ts T) (ev:Value) (w:World) (hU:U8 w) (K:CC w 0 0 ev) :
 Calls Tryz.prog 130 #[.string s,.bool true] w fun e w' =>
  e=.returned (if T=[34] then .tuple #[.string ⟨(ts.flatMap Tok.val).toArray⟩,.string ⟨#[]⟩,.nilIface] else .tuple #[.string ⟨#[]⟩,.string s,ev])/\BB w w':=by
 (have Q:s.size=1+(ts.flatMap Tok.bs).length+T.length:=by rw[kR,h.e];simp;omega);have R6:0<s.size:=ab;obtain⟨i0,P7,Xk,Xl,Xm⟩:=info_parts xh
 have f:0<w.heap.size:=by
  exact Lt K
 obtain⟨i0,P7,Xk,Xl,Xm⟩:=info_parts xh
 have f:0<w.heap.size:=by
  exact Lt K
 obtain⟨i0,P7,Xk,Xl,Xm⟩:=info_parts xh
 have f:0<w.heap.size:=by
  exact Lt K
 (have e0:((s[0]'R6).toNat:Int)=34:=by rw[qz s 0 R6 34 (by rw[h.e];rfl)];rfl);have V4:Hy ((ts.flatMap Tok.val).length<=400000):=Hd (by have:=Aw ts h.ok;have:=h.small;omega);have H:=Hd h;have HT:=Hd hT;have ZB:=Hd Q;have Ql:=h.small;have a7:(0:Int)<s.size:=ab;clear h hT Q;by_cases h2:s.size<2
 ·have b2:decide ((s.size:Int)<2)=true:=decide_eq_true ab
  have F:¬T=[34]:=fun e=>by have Q:=ZB.o;rw[e]at Q;simp at Q;omega
  rw[if_neg F]
  go_enter Tryz.func130,Tryz.ntmps130
  go_wp2
  go_quiet (fail)
  go_wp2
  go_ret3
  exact⟨rfl,below_drewN (Below.refl _ _) _⟩
 have b2:decide ((s.size:Int)<2)=false:=decide_eq_false ab;have bg:(1:Int)<=s.size:=ab;obtain⟨u,hu⟩:=nm (s.extract 1 s.size);(have R:u.data.toList=ts.flatMap Tok.bs++T:=by rw[hu,Lib.extract_to_end,H.o.e];rfl);(have S:u.size=s.size-1:=by rw[hu];simp);have bj:=hu.symm;have U:=Hd R;have ar:=Hd S;have G:u.size<100000:=ab;clear hu R S;have M:=rr u 34 w;obtain⟨i,hi⟩:=nm (Lib.indexByte u.data.toList ((34:Int).toNat.toUInt8));rw[<- hi]at M;have V:=Lib.indexByte_ge u.data.toList ((34:Int).toNat.toUInt8);rw[<- hi]at V;have HI:=Hd hi;clear hi;by_cases h0:i<0
 ·have d0:decide (i<0)=true:=decide_eq_true h0
  have F:¬T=[34]:=fun e=>by
   have h5:=Lib.indexByte_none (l:=u.data.toList) (c:=34) (by have:=HI.o;have au:(34:Int).toNat.toUInt8=(34:UInt8):=rfl;rw[au]at this;omega) (ts.flatMap Tok.bs).length;rw[U.o,e]at h5;simp at h5
  rw[if_neg F]
  go_enter Tryz.func130,Tryz.ntmps130
  go_wp2_with (go_at_call 150;refine M.mono ?_;rintro e w1 ⟨rfl,rfl⟩)
  go_quiet (fail)
  go_wp2
  go_ret3
  exact⟨rfl,below_drewN (Below.refl _ _) _⟩
 obtain⟨o,rfl⟩:∃o:Nat,i=o:=⟨i.toNat,ab⟩;have d0:decide ((o:Int)<0)=false:=decide_eq_false h0;have Z9:=Lib.indexByte_some (l:=u.data.toList) (c:=34) (o:=o) HI.o.symm
 have bl:o<u.size:=by
  rw[kR];have:=Z9.1;rcases bk o u.data.toList.length with h'|h'
  ·exact h'
  rw[bw h']at this;cases this
 (have b1:o+2<=s.size:=by have:=ar.o;omega);have a6:(o:Int)+2<=s.size:=ab;have a1:=Hd Z9;clear Z9 h0 V;obtain⟨c1,Sp⟩:=nm (Lib.indexByte (s.extract 0 (o+2)).data.toList ((92:Int).toNat.toUInt8) != -1);obtain⟨c2,PE⟩:=nm (Lib.indexByte (s.extract 0 (o+2)).data.toList ((10:Int).toNat.toUInt8) != -1);have A:=uk (s.extract 0 (o+2)) 92 w;rw[<- Sp]at A;have B:=uk (s.extract 0 (o+2)) 10 w;rw[<- PE]at B;have TH:=Hd Sp;clear Sp PE;have QI:(34:Int)=34:=rfl
 cases Qr:c1 with
 |true =>
  subst Qr;go_enter Tryz.func130,Tryz.ntmps130
  go_wp2_with (first
   |(go_at_call 150;refine M.mono ?_;rintro e w1 ⟨rfl,rfl⟩)
   |(go_at_call 151;refine A.mono ?_;rintro e w1 ⟨rfl,rfl⟩;clear A)
   |(go_at_call 151;refine B.mono ?_;rintro e w1 ⟨rfl,rfl⟩;clear B)
   |(at_make;refine wpList_make_own _ rfl _ _ 58 rfl w.heap.size 5 i0 (.int .u8 0) 1 Tryz.underlying58 P7 Xk Xl _ _ _ (3*(o+2)/2) rfl rfl ab (by rw[Xm];omega) ak (ax _) ?_;intro wm O P))
  (go_loopw [0,4,5,6,14,16,17,18,19] (fun g W X Y Z _ _ _ _ wr=>∃(k:Nat) (x:ByteArray),k<=ts.length/\g=.string x/\x.data.toList=(ts.drop k).flatMap Tok.bs++T/\W=.string ⟨#[]⟩/\X=.string ⟨#[]⟩/\Y=.nilIface/\wr.ownsRow w.heap.size 5 1 Z ((ts.take k).flatMap Tok.val).length (Lib.byteCells ((ts.take k).flatMap Tok.val))/\BB w wr/\x.size<100000) (fun g _ _ _ _ _ _ _ _ _=>xi g));case atStart=>exact⟨0,u,ab,ae,by rw[U.o];simp,ae,ae,ae,O,xk P,G⟩
  case round =>
   obtain⟨k,x,hk,rfl,C,rfl,rfl,rfl,n,hb,WO⟩:=hrel;have HX:=Hd C;have Sg:=Hd n;have HB:=Hd hb;have YB:=hb.size;have WR:=Hd (lK n);have b:((ts.take k).flatMap Tok.val).length<=400000:=aB (take_len ts k) V4.o;have HK9:=Hd b;have hU1:U8 wr:=U8.below hU hb;have aa:CC wr 0 0 ev:=(hb.cell (p:=⟨0,0,none⟩) f).trans K;clear C n hb b;by_cases PG:k<ts.length
   ·exact aab
   have RM:k=ts.length:=ab;subst RM;(have a:x.data.toList=T:=by rw[HX.o];simp);have q:=ru Sg.o (by rw[bK]);rw[bK]at q;have ad:=Hd q;rcases HT.o with hT|hT
   ·have D:x.size=1:=by rw[kR,a,hT];rfl
    have Qq:0<x.size:=ab
    have Ri:x[0]'Qq=34:=qz x 0 Qq 34 (by rw[a,hT];rfl)
    have g1:(((x[0]'Qq).toNat:Int) !=34)=false:=by rw[Ri];rfl
    have g2:(((x[0]'Qq).toNat:Int)==34)=true:=by rw[Ri];rfl
    have g0:decide ((0:Int)<x.size)=true:=decide_eq_true ab
    have hxI:(0:Int)<x.size:=ab
    have al:(1:Int)<=x.size:=ab
    have E:x.extract 1 x.size=⟨#[]⟩:=pf (by rw[Lib.extract_to_end,a,hT];rfl)
    have ZC:=Hd E
    have z:=Hd hT
    clear D Ri a hT E
    go_wp2_with fail
    go_ret3
    try rw[if_pos z.o]
    rw[ZC.o];exact⟨rfl,HB.o⟩
   have D:x.size=0:=by rw[kR,a,hT];rfl
   have g0:decide ((0:Int)<x.size)=false:=decide_eq_false ab
   have z:Hy (¬T=[34]):=Hd (by rw[hT];simp)
   clear a hT q
   go_wp2_with fail
   go_quiet (fail)
   go_wp2
   go_ret3
   try rw[if_neg z.o]
   exact⟨rfl,below_drewN HB.o _⟩
 |false =>
  subst Qr
  cases c2 with
  |true =>
   go_enter Tryz.func130,Tryz.ntmps130
   go_wp2_with (first
    |(go_at_call 150;refine M.mono ?_;rintro e w1 ⟨rfl,rfl⟩)
    |(go_at_call 151;refine A.mono ?_;rintro e w1 ⟨rfl,rfl⟩;clear A)
    |(go_at_call 151;refine B.mono ?_;rintro e w1 ⟨rfl,rfl⟩;clear B)
    |(at_make;refine wpList_make_own _ rfl _ _ 58 rfl w.heap.size 5 i0 (.int .u8 0) 1 Tryz.underlying58 P7 Xk Xl _ _ _ (3*(o+2)/2) rfl rfl ab (by rw[Xm];omega) ak (ax _) ?_;intro wm O P))
   (go_loopw [0,4,5,6,14,16,17,18,19] (fun g W X Y Z _ _ _ _ wr=>∃(k:Nat) (x:ByteArray),k<=ts.length/\g=.string x/\x.data.toList=(ts.drop k).flatMap Tok.bs++T/\W=.string ⟨#[]⟩/\X=.string ⟨#[]⟩/\Y=.nilIface/\wr.ownsRow w.heap.size 5 1 Z ((ts.take k).flatMap Tok.val).length (Lib.byteCells ((ts.take k).flatMap Tok.val))/\BB w wr/\x.size<100000) (fun g _ _ _ _ _ _ _ _ _=>xi g));case atStart=>exact⟨0,u,ab,ae,by rw[U.o];simp,ae,ae,ae,O,xk P,G⟩
   case round =>
    obtain⟨k,x,hk,rfl,C,rfl,rfl,rfl,n,hb,WO⟩:=hrel;have HX:=Hd C;have Sg:=Hd n;have HB:=Hd hb;have YB:=hb.size;have WR:=Hd (lK n);have b:((ts.take k).flatMap Tok.val).length<=400000:=aB (take_len ts k) V4.o;have HK9:=Hd b;have hU1:U8 wr:=U8.below hU hb;have aa:CC wr 0 0 ev:=(hb.cell (p:=⟨0,0,none⟩) f).trans K;clear C n hb b;by_cases PG:k<ts.length
    ·exact aab
    have RM:k=ts.length:=ab;subst RM;(have a:x.data.toList=T:=by rw[HX.o];simp);have q:=ru Sg.o (by rw[bK]);rw[bK]at q;have ad:=Hd q;rcases HT.o with hT|hT
    ·have D:x.size=1:=by rw[kR,a,hT];rfl
     have Qq:0<x.size:=ab
     have Ri:x[0]'Qq=34:=qz x 0 Qq 34 (by rw[a,hT];rfl)
     have g1:(((x[0]'Qq).toNat:Int) !=34)=false:=by rw[Ri];rfl
     have g2:(((x[0]'Qq).toNat:Int)==34)=true:=by rw[Ri];rfl
     have g0:decide ((0:Int)<x.size)=true:=decide_eq_true ab
     have hxI:(0:Int)<x.size:=ab
     have al:(1:Int)<=x.size:=ab
     have E:x.extract 1 x.size=⟨#[]⟩:=pf (by rw[Lib.extract_to_end,a,hT];rfl)
     have ZC:=Hd E
     have z:=Hd hT
     clear D Ri a hT E
     go_wp2_with fail
     go_ret3
     try rw[if_pos z.o]
     rw[ZC.o];exact⟨rfl,HB.o⟩
    have D:x.size=0:=by rw[kR,a,hT];rfl
    have g0:decide ((0:Int)<x.size)=false:=decide_eq_false ab
    have z:Hy (¬T=[34]):=Hd (by rw[hT];simp)
    clear a hT q
    go_wp2_with fail
    go_quiet (fail)
    go_wp2
    go_ret3
    try rw[if_neg z.o]
    exact⟨rfl,below_drewN HB.o _⟩
  |false =>
   obtain⟨vd,an⟩:=nm (Lib.validD (s.extract 1 (o+1)).data.toList);have VS:=Tryz.utf8_ValidString (s.extract 1 (o+1)) w ah hU;rw[<- an]at VS;clear an
   cases vd with
   |false =>
    go_enter Tryz.func130,Tryz.ntmps130
    go_wp2_with (first
     |(go_at_call 150;refine M.mono ?_;rintro e w1 ⟨rfl,rfl⟩)
     |(go_at_call 151;refine A.mono ?_;rintro e w1 ⟨rfl,rfl⟩;clear A)
     |(go_at_call 151;refine B.mono ?_;rintro e w1 ⟨rfl,rfl⟩;clear B)
     |(go_at_call 152;refine VS.mono ?_;rintro e w1 ⟨rfl,d⟩;clear VS;have QL:=d.size;have I:=Hd d;clear d)
     |(at_make;refine wpList_make_own _ rfl _ _ 58 rfl w.heap.size 5 i0 (.int .u8 0) 1 Tryz.underlying58 P7 Xk Xl _ _ _ (3*(o+2)/2) rfl rfl ab (by rw[Xm];omega) ak QL ?_;intro wm O P))
    (go_loopw [0,4,5,6,14,16,17,18,19] (fun g W X Y Z _ _ _ _ wr=>∃(k:Nat) (x:ByteArray),k<=ts.length/\g=.string x/\x.data.toList=(ts.drop k).flatMap Tok.bs++T/\W=.string ⟨#[]⟩/\X=.string ⟨#[]⟩/\Y=.nilIface/\wr.ownsRow w.heap.size 5 1 Z ((ts.take k).flatMap Tok.val).length (Lib.byteCells ((ts.take k).flatMap Tok.val))/\BB w wr/\x.size<100000) (fun g _ _ _ _ _ _ _ _ _=>xi g));case atStart=>exact⟨0,u,ab,ae,by rw[U.o];simp,ae,ae,ae,O,(I.o.trans ((xk P).mono QL)),G⟩
    case round =>
     obtain⟨k,x,hk,rfl,C,rfl,rfl,rfl,n,hb,WO⟩:=hrel;have HX:=Hd C;have Sg:=Hd n;have HB:=Hd hb;have YB:=hb.size;have WR:=Hd (lK n);have b:((ts.take k).flatMap Tok.val).length<=400000:=aB (take_len ts k) V4.o;have HK9:=Hd b;have hU1:U8 wr:=U8.below hU hb;have aa:CC wr 0 0 ev:=(hb.cell (p:=⟨0,0,none⟩) f).trans K;clear C n hb b;by_cases PG:k<ts.length
     ·exact aab
     have RM:k=ts.length:=ab;subst RM;(have a:x.data.toList=T:=by rw[HX.o];simp);have q:=ru Sg.o (by rw[bK]);rw[bK]at q;have ad:=Hd q;rcases HT.o with hT|hT
     ·have D:x.size=1:=by rw[kR,a,hT];rfl
      have Qq:0<x.size:=ab
      have Ri:x[0]'Qq=34:=qz x 0 Qq 34 (by rw[a,hT];rfl)
      have g1:(((x[0]'Qq).toNat:Int) !=34)=false:=by rw[Ri];rfl
      have g2:(((x[0]'Qq).toNat:Int)==34)=true:=by rw[Ri];rfl
      have g0:decide ((0:Int)<x.size)=true:=decide_eq_true ab
      have hxI:(0:Int)<x.size:=ab
      have al:(1:Int)<=x.size:=ab
      have E:x.extract 1 x.size=⟨#[]⟩:=pf (by rw[Lib.extract_to_end,a,hT];rfl)
      have ZC:=Hd E
      have z:=Hd hT
      clear D Ri a hT E
      go_wp2_with fail
      go_ret3
      try rw[if_pos z.o]
      rw[ZC.o];exact⟨rfl,HB.o⟩
     have D:x.size=0:=by rw[kR,a,hT];rfl
     have g0:decide ((0:Int)<x.size)=false:=decide_eq_false ab
     have z:Hy (¬T=[34]):=Hd (by rw[hT];simp)
     clear a hT q
     go_wp2_with fail
     go_quiet (fail)
     go_wp2
     go_ret3
     try rw[if_neg z.o]
     exact⟨rfl,below_drewN HB.o _⟩
   |true =>
    have J:=Hd (Ir H.o.ok HT.o U.o a1.o.1 H.o.e TH.o);have aq:=J.o.1;rw[if_pos aq];clear aq;go_enter Tryz.func130,Tryz.ntmps130
    go_wp2_with (first
     |(go_at_call 150;refine M.mono ?_;rintro e w1 ⟨rfl,rfl⟩)
     |(go_at_call 151;refine A.mono ?_;rintro e w1 ⟨rfl,rfl⟩;clear A)
     |(go_at_call 151;refine B.mono ?_;rintro e w1 ⟨rfl,rfl⟩;clear B)
     |(go_at_call 152;refine VS.mono ?_;rintro e w1 ⟨rfl,d⟩;clear VS;have QL:=d.size;have I:=Hd d;clear d)
     |(at_make;refine wpList_make_own _ rfl _ _ 58 rfl w.heap.size 5 i0 (.int .u8 0) 1 Tryz.underlying58 P7 Xk Xl _ _ _ (3*(o+2)/2) rfl rfl ab (by rw[Xm];omega) ak QL ?_;intro wm O P))
    go_quiet (fail)
    go_wp2
    go_ret3
    have hex:s.extract (o+2) s.size=⟨#[]⟩:=pf (by rw[Lib.extract_to_end,cd (by rw[<- kR];have:=J.o.2.1;omega)]);have h3:(s.extract 0 (o+2)).extract 1 (o+2-1)=⟨(ts.flatMap Tok.val).toArray⟩:=J.o.2.2;rw[h3,hex];exact⟨rfl,below_drewN I.o _⟩
end lx
namespace lx
open Go.RowKit oq heap own
theorem Is (s:ByteArray) (a:List Tok) (h:sJ s a [34]) (ev:Value) (w:World) (b:U8 w) (c:CC w 0 0 ev) :
 Calls Tryz.prog 112 #[.string s] w fun e w'=>e=.returned (.tuple #[.string ⟨(a.flatMap Tok.val).toArray⟩,.nilIface])/\BB w w':=by
 have U:=Ax s a [34] (.inl rfl) h ev w b c;rw[if_pos rfl]at U;obtain⟨d,hd⟩:=nm (⟨(a.flatMap Tok.val).toArray⟩:ByteArray);rw[<- hd]at U⊢;clear hd h;(go_enter Tryz.func112,Tryz.ntmps112);(go_wp2_with (go_at_call 130;refine U.mono ?_;rintro e f ⟨rfl,hb⟩));go_ret2;exact⟨rfl,hb⟩
theorem Iu (s:ByteArray) (c:List Tok) (h:sJ s c []) (ev:Value) (w:World) (d:U8 w) (a:CC w 0 0 ev) :
 Calls Tryz.prog 112 #[.string s] w fun e w'=>e=.returned (.tuple #[.string ⟨#[]⟩,ev])/\BB w w':=by
 have U:=Ax s c [] (.inr rfl) h ev w d a;rw[if_neg ae]at U;(have hs:(0:Int)<s.size:=by have:s.size=_:=kR s;rw[h.e]at this;simp at this;omega);have d0:decide ((0:Int)<s.size)=true:=decide_eq_true hs
 have b:0<w.heap.size:=by
  exact Lt a
 clear h;(go_enter Tryz.func112,Tryz.ntmps112);(go_wp2_with (go_at_call 130;refine U.mono ?_;rintro e g ⟨rfl,hb⟩;have f:=(hb.cell (p:=⟨0,0,none⟩) b).trans a));(go_quiet (fail));go_wp2;go_ret2;exact⟨rfl,below_drewN hb _⟩
end lx
end Go.Proofs.YtjhdaojclilakaaGreatDoor
