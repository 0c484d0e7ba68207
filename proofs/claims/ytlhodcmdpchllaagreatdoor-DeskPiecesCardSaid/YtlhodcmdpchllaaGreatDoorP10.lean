/-
  A part of the proof of the law DeskPieces: WalP.
-/
import Derived.Lib.Join
import Derived.Lib.Atoi
import Derived.Lib.ItoaNum
import Derived.Lib.IndexBytes
import Derived.Lib.Split
import Derived.Lib.LastIndexByte
import Derived.Test.YtlhodcmdpchllaaGreatDoorHd
import Derived.Test.YtlhodcmdpchllaaGreatDoorP02
import Derived.Test.YtlhodcmdpchllaaGreatDoorP09
set_option maxHeartbeats 16000000
set_option maxRecDepth 1000000
namespace Go.Proofs.YtlhodcmdpchllaaGreatDoor
namespace dK
open Go Go.Lib lG
open dI (Rec)
theorem qF (d:Nat) (h:d<10):(UInt8.ofNat (48+d)).toNat=48+d:=by
 rw[UInt8.toNat_ofNat'];omega
theorem sI (u:Nat):∀b∈decDigits u,48<=b.toNat/\b.toNat<=57:=by
 induction u using Nat.strongRecOn with
 |_ u ih =>
  intro b hb;rw[decDigits]at hb;split at hb
  ·rw[aH.1 hb,qF _ (by omega)];omega
  rcases aO.1 hb with hb|hb
  ·exact ih _ (by omega) b hb
  rw[aH.1 hb,qF _ (by omega)];omega
theorem vM:∀(a b:Bytes) (acc:Nat),decFrom acc (a++b)=(decFrom acc a).bind fun x=>decFrom x b
 | [],b,acc=>rfl
 |x::a,b,acc=>by
  rw[bn,decFrom,decFrom]
  cases digitVal x with
  |none=>rfl
  |some d=>exact vM a b _
theorem Cw (u:Nat):decFrom 0 (decDigits u)=some u:=by
 induction u using Nat.strongRecOn with
 |_ u ih =>
  rw[decDigits];split
  ·rename_i h;rw[decFrom,digitVal,qF _ h,if_pos (by omega)];simp[decFrom]
  rename_i h;rw[vM,ih _ (by omega)];have e:=qF (u%10) (by omega);rw[Option.bind_some,decFrom,digitVal,e,if_pos (by omega)];simp[decFrom];omega
theorem vO (u:Nat):decDigits u≠[]:=by
 rw[decDigits];split<;>simp
theorem vP (u:Nat):decNat (decDigits u)=some u:=by
 (have h:(decDigits u).isEmpty=false:=by simp[vO u]);rw[decNat,h];exact Cw u
theorem Cx (n:Int):atoi (itoa n)=some n:=by
 unfold itoa;split
 ·rename_i h;rw[atoi,if_pos (by rfl),vP];simp;omega
 rename_i h
 cases hd:decDigits n.toNat with
 |nil=>exact absurd hd (vO _)
 |cons b l =>
  have hb:=sI n.toNat b (by rw[hd];simp);have h1:(b==45)=false:=beq_eq_false_iff_ne.2 (fun e=>by rw[e]at hb;simp at hb);have h2:(b==43)=false:=beq_eq_false_iff_ne.2 (fun e=>by rw[e]at hb;simp at hb);rw[atoi,h1,h2];simp only[bK,if_false];rw[<- hd,vP];simp;omega
theorem vQ (n:Int):(32:UInt8)∉itoa n:=by
 intro h;unfold itoa at h;split at h
 ·rcases aM.1 h with h|h
  ·cases h
  have:=sI _ _ h;simp at this
 have:=sI _ _ h;simp at this
theorem nN (n:Int) (h0 : -1<=n) (h1:n<10000000000000000):(itoa n).length<=17:=by
 have nd:∀(k u:Nat),u<10^(k+1)->nDigits u<=k+1:=by
  intro k
  induction k with
  |zero=>intro u h;rw[nDigits_small (by simpa using h)];omega
  |succ k ih =>
   intro u h;rw[cf]at h;by_cases hu:u<10
   ·rw[nDigits_small hu];omega
   rw[nDigits_big hu];have:=ih (u/10) (by omega);omega
 unfold itoa;split
 ·rw[aJ,decDigits_length];have:=nd 0 n.natAbs (by omega);omega
 rw[decDigits_length];have:=nd 15 n.toNat (by simp;omega);omega
theorem vR:∀(x r:Bytes),(32:UInt8)∉x->indexByte (x++32::r) 32=x.length
 | [],r,_=>by simp[indexByte]
 |b::x,r,h=>by
  have hb:¬b=32:=fun e=>h (by rw[e];simp);have ih:=vR x r (fun hh=>h (by simp[hh]));rw[bn,indexByte,ih];rw[if_neg (by simpa using hb),if_neg (by rw[beq_iff_eq];omega)];simp
theorem vS:∀(x:Bytes),(32:UInt8)∉x->indexByte x 32 = -1
 | [],_=>rfl
 |b::x,h=>by
  have hb:¬b=32:=fun e=>h (by rw[e];simp);rw[indexByte,vS x (fun hh=>h (by simp[hh])),if_neg (by simpa using hb),if_pos (by rfl)]
theorem vT (k:Nat) (x:Bytes) (h:(32:UInt8)∉x):splitK [32] 0 k x=[x]:=by
 cases k with
 |zero=>rfl
 |succ k=>rw[splitK,index_one,vS x h,if_pos (by rfl)]
theorem qG (k:Nat) (x r:Bytes) (h:(32:UInt8)∉x):splitK [32] 0 (k+1) (x++32::r)=x::splitK [32] 0 k r:=by
 rw[splitK,index_one,vR x r h,if_neg (by rw[beq_iff_eq];omega)];simp
def lay (ws:List Bytes):Bytes:=ws.flatMap (·++[32])
theorem vU:∀(ws:List Bytes) (tail P:Bytes),(∀x∈ws,(32:UInt8)∉x)->P <+: lay ws++tail ->
 (splitK [32] 0 ws.length P).length<=ws.length\/∃rest,rest <+: tail/\P=lay ws++rest/\splitK [32] 0 ws.length P=ws++[rest]
 | [],tail,P,_,h=>.inr ⟨P,by simpa[lay]using h,by simp[lay],rfl⟩
 |x::ws,tail,P,hx,h=>by
  have K5:(32:UInt8)∉x:=hx x (by simp);(have e:lay (x::ws)=(x++[32])++lay ws:=by simp[lay]);rw[e,bw]at h
  have no:P <+: x->(splitK [32] 0 (x::ws).length P).length<=(x::ws).length:=fun hp=>by
   rw[vT _ P (fun hh=>K5 (hp.subset hh))];simp
  rcases List.prefix_or_prefix_of_prefix h (List.prefix_append (x++[32]) _)with hp|hp
  ·rcases List.prefix_concat_iff.1 hp with hp|hp
   ·have:P=x++32::[]:=hp
    cases ws with
    |nil =>
     refine .inr ⟨[],by simp,by rw[e,this];simp[lay],?_⟩;rw[this];exact qG 0 x [] K5
    |cons y ws =>
     refine .inl ?_;rw[this,aJ,qG _ x [] K5,vT _ [] (by simp)];simp
   exact .inl (no hp)
  obtain⟨P',rfl⟩:=hp;rw[bw]at h;rw[bw]at h
  have h':P' <+: lay ws++tail:=by
   have h2:=(List.prefix_append_right_inj x).1 h;exact (List.prefix_append_right_inj [32]).1 h2
  have es:splitK [32] 0 (x::ws).length (x++[32]++P')=x::splitK [32] 0 ws.length P':=by
   rw[bw];exact qG ws.length x P' K5
  rw[es];rcases vU ws tail P' (fun y hy=>hx y (by simp[hy])) h' with hl|⟨rest,h1,h2,h3⟩
  ·exact .inl (by simp;omega)
  exact .inr ⟨rest,h1,by rw[e,h2];simp,by rw[h3];simp⟩
theorem sJ (s:ByteArray) (j:Nat) (h:j<s.size):s.data.toList[j]?=some (s.data[j]!):=by
 have h':j<s.data.size:=h;rw[getElem!_pos s.data j h',ax (by simpa using h')];rfl
theorem sK (x:Nat) (hx:x<16):hd x≠32:=by
 (have:∀y:Fin 16,hd y.val≠32:=by decide);exact this ⟨x,hx⟩
theorem sL (r:Nat):∀n,(32:UInt8)∉ky r n
 |0,h=>by cases h
 |n+1,h=>by
  rcases aM.1 h with h|h
  ·exact sK _ (by omega) h.symm
  exact sL r n h
theorem Cy (r:Int) (h0:128<=r) (hv:validRune r=true):∀b∈encodeRune r,128<=b.toNat:=by
 have Om:(r<55296)\/(57343<r/\r<=1114111):=by
  simp only[validRune,decide_eq_true_eq]at hv;omega
 intro b hb;unfold encodeRune at hb;by_cases h1:r<=2047
 ·rw[encodeRuneZ_two (by omega) (by omega)]at hb;simp only[bf,bJ,aM,bc,or_false]at hb;rcases hb with rfl|rfl<;>(simp;omega)
 by_cases h2:r<=65535
 ·rw[encodeRuneZ_three (by omega)]at hb;simp only[bf,bJ,aM,bc,or_false]at hb;rcases hb with rfl|rfl|rfl<;>(simp;omega)
 rw[encodeRuneZ_four (by omega) (by omega)]at hb;simp only[bf,bJ,aM,bc,or_false]at hb;rcases hb with rfl|rfl|rfl|rfl<;>(simp;omega)
theorem Cz {t:Tok} (h:gP t):t.bs=[32]\/(32:UInt8)∉t.bs:=by
 cases h with
 |ascii c h0 h1 h2 h3 =>
  by_cases hc:c=32
  ·exact .inl (by rw[hc])
  exact .inr (by simp;exact fun e=>hc e.symm)
 |multi r h0 hv=>exact .inr (fun hh=>by have:=Cy r h0 hv _ hh;simp at this)
 |short x v h=>exact .inr (by unfold j9 at h;simp;rintro rfl;simp at h)
 |hex a h=>exact .inr (by simp;exact⟨fun e=>sK _ (by omega) e.symm,fun e=>sK _ (by omega) e.symm⟩)
 |u4 r h0 h1 hv=>exact .inr (by simp;exact sL _ _)
 |u8 r h0 hv=>exact .inr (by simp;exact sL _ _)
theorem vV:∀(ts:List Tok),(∀t∈ts,gP t)->∀o:Nat,(ts.flatMap Tok.bs)[o]?=some 32->∃j,(ts.flatMap Tok.bs).take o=(ts.take j).flatMap Tok.bs
 | [],_,o,h=>by simp at h
 |t::ts,ht,o,h=>by
  rw[aU]at h;by_cases ho:o<t.bs.length
  ·rw[aV ho]at h;rcases Cz (ht t (by simp))with e|e
   ·refine⟨0,?_⟩;rw[e]at ho;(have:o=0:=by simpa using ho);rw[this];simp
   exact absurd (aR h) e
  rw[aL (by omega)]at h;obtain⟨j,hj⟩:=vV ts (fun x hx=>ht x (by simp[hx])) _ h;refine⟨j+1,?_⟩;rw[aU,List.take_succ_cons,aU,<- hj,cz];congr 1;exact ba (by omega)
def fo (k:Int) (r:Rec):List Bytes:=[itoa k,itoa r.dL,itoa r.dN,itoa r.dF,itoa r.eI,itoa r.dQ]
def quoted (T:PrintTabs) (d:Bytes):Bytes:=(strOfNums (quoteZ T ⟨d.toArray⟩)).data.toList
def body (T:PrintTabs) (k:Int) (r:Rec):Bytes:=lay (fo k r)++quoted T r.data
def kP (n:Int) (c:UInt8):Int:=IntKind.u64.wrap (bits .xor .u64 n (c.toNat:Int)*1099511628211)
def kz (b:Bytes):Int:=b.foldl kP 14695981039346656037/8
def text (T:PrintTabs) (k:Int) (r:Rec):Bytes:=body T k r++32::itoa (kz (body T k r))
theorem CA (T:PrintTabs) (d:Bytes):∃ts:List Tok,(∀t∈ts,gP t)/\quoted T d=34::(ts.flatMap Tok.bs++[34])/\ts.flatMap Tok.val=d:=by
 obtain⟨ts,h1,h2,h3⟩:=Cv T ⟨d.toArray⟩;exact⟨ts,h1,h2,by rw[h3]⟩
theorem CB (T:PrintTabs) (d:Bytes):(quoted T d).length<=10*d.length+2:=by
 have h:=quoteZ_length_le T ⟨d.toArray⟩
 have e:(quoted T d).length=(quoteZ T ⟨d.toArray⟩).length:=by
  unfold quoted;rw[<- strOfNums_size];rfl
 rw[e];exact h
inductive CD (T:PrintTabs) (k:Int) (r:Rec) (P:Bytes):Prop
 |ft (Km:P≠text T k r) (h:(splitK [32] 0 6 P).length<=6)
 |bare (Km:P≠text T k r) (rest:ByteArray) (h:splitK [32] 0 6 P=fo k r++[rest.data.toList]) (hq:lastIndexByte rest 32 = -1)
 |fa (Km:P≠text T k r) (rest:ByteArray) (q:Nat) (ts:List Tok) (h:splitK [32] 0 6 P=fo k r++[rest.data.toList]) (hq:lastIndexByte rest 32=q) (hl:q<=rest.size) (ht:∀t∈ts,gP t) (e:rest.data.toList.take q=34::(ts.flatMap Tok.bs++[]))
 |whole (rest:ByteArray) (q:Nat) (ts:List Tok) (h:splitK [32] 0 6 P=fo k r++[rest.data.toList]) (hq:lastIndexByte rest 32=q) (hl:q<=rest.size) (ht:∀t∈ts,gP t) (e:rest.data.toList.take q=34::(ts.flatMap Tok.bs++[34])) (hv:ts.flatMap Tok.val=r.data)
theorem vW:∀(ws:List Bytes) (tail:Bytes),(∀x∈ws,(32:UInt8)∉x)->splitK [32] 0 ws.length (lay ws++tail)=ws++[tail]
 | [],tail,_=>by simp[lay,splitK]
 |x::ws,tail,h=>by
  (have e:lay (x::ws)++tail=x++32::(lay ws++tail):=by simp[lay]);rw[e,aJ,qG _ _ _ (h x (by simp)),vW ws tail (fun y hy=>h y (by simp[hy]))];rfl
theorem CE (T:PrintTabs) (k:Int) (r:Rec) (P:Bytes) (hP:P <+: text T k r):CD T k r P:=by
 have RC:∀x∈fo k r,(32:UInt8)∉x:=by
  intro x hx;simp only[fo,aM,bc,or_false]at hx;rcases hx with rfl|rfl|rfl|rfl|rfl|rfl<;>exact vQ _
 obtain⟨ts,ht,hq,hv⟩:=CA T r.data
 have hP':P <+: lay (fo k r)++(quoted T r.data++32::itoa (kz (body T k r))):=by
  rw[text,body,bw]at hP;exact hP
 (have PL:text T k r=lay (fo k r)++(quoted T r.data++32::itoa (kz (body T k r))):=by rw[text,body,bw]);rcases vU (fo k r) _ P RC hP' with h|⟨l,h1,h2,h3⟩
 ·refine .ft (fun e=>?_) h;have:=vW (fo k r) (quoted T r.data++32::itoa (kz (body T k r))) RC;rw[e,PL,this]at h;simp at h;omega
 have htail:P=text T k r->l[(quoted T r.data).length]?=some 32:=fun e=>by
  rw[h2,PL]at e;rw[List.append_cancel_left e,aL (aq _),cX];rfl
 obtain⟨rest,hr⟩:∃rest:ByteArray,rest.data.toList=l:=⟨⟨l.toArray⟩,rfl⟩;(have LH:rest.size=l.length:=by rw[<- hr];rfl);(have h3':splitK [32] 0 6 P=fo k r++[rest.data.toList]:=by rw[hr];exact h3);rcases lastIndexByte_spec rest 32 with⟨hn,hn'⟩|⟨q,RE,Na,hqc,hqa⟩
 ·refine .bare (fun e=>?_) rest h3' hn;have ht:=htail e
  have Kg:(quoted T r.data).length<rest.size:=by
   rcases aW (quoted T r.data).length l.length with h|h
   ·omega
   rw[bm h]at ht;cases ht
  refine hn' _ Kg ?_;rw[<- hr,sJ rest _ Kg]at ht;rw[aw ht];rfl
 have acQ:l[q]?=some 32:=by
  rw[<- hr,sJ rest q RE];congr 1;exact cG.1 (by simpa using df.1 hqc)
 have acR:∀j:Nat,q<j->l[j]?≠some 32:=by
  intro j hj he;by_cases VE:j<rest.size
  ·rw[<- hr,sJ rest j VE]at he;refine hqa j hj VE ?_;rw[aw he];rfl
  rw[bm (by omega)]at he;cases he
 have Yw:q<l.length:=by omega
 have full:∀(j:Nat) (b:UInt8),l[j]?=some b->(quoted T r.data++32::itoa (kz (body T k r)))[j]?=some b:=by
  intro j b hb;obtain⟨t,he⟩:=h1;rw[<- he,aV (by rcases aW j l.length with h|h;exact h;rw[bm h]at hb;cases hb)];exact hb
 have tk:l.take q=(quoted T r.data++32::itoa (kz (body T k r))).take q:=by
  obtain⟨t,he⟩:=h1;rw[<- he,bZ (by omega)]
 have hf:=full q 32 acQ;rcases Nat.lt_trichotomy q (quoted T r.data).length with Kg|heq|hgt
 ·rw[aV Kg,hq]at hf
  cases q with
  |zero=>simp at hf
  |succ q =>
   rw[aD]at hf
   have NF:q<(ts.flatMap Tok.bs).length:=by
    rcases aW q (ts.flatMap Tok.bs).length with h|h
    ·exact h
    rw[aL h]at hf
    cases UW:q-(ts.flatMap Tok.bs).length with
    |zero=>rw[UW]at hf;simp at hf
    |succ n=>rw[UW]at hf;simp at hf
   rw[aV NF]at hf;obtain⟨j,hj⟩:=vV ts ht q hf;refine .fa (fun e=>acR _ Kg (htail e)) rest (q+1) (ts.take j) h3' Na (by omega) (fun t h=>ht t (List.mem_of_mem_take h)) ?_;rw[hr,tk,bZ (by omega),hq,List.take_succ_cons,bZ (by omega),hj,cw]
 ·refine .whole rest q ts h3' Na (by omega) ht ?_ hv;rw[hr,tk,heq,List.take_left,hq]
 rw[aL (by omega)]at hf
 cases UW:q-(quoted T r.data).length with
 |zero=>omega
 |succ n =>
  rw[UW,aD]at hf;exact absurd (aR hf) (vQ _)
theorem vX (n:Int) (c:UInt8):0<=kP n c/\kP n c<18446744073709551616:=by
 have h:kP n c=(bits .xor .u64 n (c.toNat:Int)*1099511628211)%18446744073709551616:=rfl;rw[h];exact⟨Int.emod_nonneg _ (by decide),Int.emod_lt_of_pos _ (by decide)⟩
theorem vY (l:Bytes):∀(a:Int),0<=a->a<18446744073709551616->0<=l.foldl kP a/\l.foldl kP a<18446744073709551616:=by
 induction l with
 |nil=>intro a h0 h1;exact⟨h0,h1⟩
 |cons c l ih=>intro a h0 h1;exact ih _ (vX a c).1 (vX a c).2
theorem vZ (b:Bytes):0<=kz b/\kz b<2305843009213693952:=by
 have:=vY b 14695981039346656037 (by decide) (by decide);unfold kz;omega
structure Small (r:Rec):Prop where
 c0:0<=r.dL
 c1:r.dL<=1099511627776
 n0:0<=r.dN
 n1:r.dN<=1099511627776
 o0 : -1<=r.dF
 o1:r.dF<=7
 v0:0<=r.eI
 v1:r.eI<=1099511627776
 e0:0<=r.dQ
 e1:r.dQ<=1099511627776
 d1:r.data.length<=20
theorem na {r:Rec} (h:r.right=true):Small r:=by
 unfold Rec.right at h;split at h
 ·rename_i ho;simp only[eK.gK,aK,decide_eq_true_eq]at h;obtain⟨⟨⟨⟨h1,h2⟩,h3⟩,h4⟩,h5⟩:=h;exact⟨by omega,by omega,by omega,by omega,by omega,by omega,by omega,by omega,by omega,by omega,by rw[h5];simp⟩
 simp only[eK.gK,dI.eG,aK,decide_eq_true_eq]at h;obtain⟨⟨⟨⟨⟨h1,h2⟩,h3⟩,h4⟩,h5⟩,h6⟩:=h;exact⟨by omega,by omega,by omega,by omega,by omega,by omega,by omega,by omega,by omega,by omega,by omega⟩
theorem v7 (n:Int) (h0 : -1<=n) (h1:n<2305843009213693952):(itoa n).length<=20:=by
 have nd:∀(k u:Nat),u<10^(k+1)->nDigits u<=k+1:=by
  intro k
  induction k with
  |zero=>intro u h;rw[nDigits_small (by simpa using h)];omega
  |succ k ih =>
   intro u h;rw[cf]at h;by_cases hu:u<10
   ·rw[nDigits_small hu];omega
   rw[nDigits_big hu];have:=ih (u/10) (by omega);omega
 unfold itoa;split
 ·rw[aJ,decDigits_length];have:=nd 18 n.natAbs (by omega);omega
 rw[decDigits_length];have:=nd 18 n.toNat (by simp;omega);omega
theorem we (T:PrintTabs) (k:Int) (r:Rec) (h0:0<=k) (h1:k<1000) (hr:Small r):(body T k r).length<=400:=by
 have q:=CB T r.data;have a1:=nN k (by omega) (by omega);have a2:=nN r.dL (by have:=hr.c0;omega) (by have:=hr.c1;omega);have a3:=nN r.dN (by have:=hr.n0;omega) (by have:=hr.n1;omega);have a4:=nN r.dF (by have:=hr.o0;omega) (by have:=hr.o1;omega);have a5:=nN r.eI (by have:=hr.v0;omega) (by have:=hr.v1;omega);have a6:=nN r.dQ (by have:=hr.e0;omega) (by have:=hr.e1;omega);have d:=hr.d1;simp only[body,lay,fo,aU,List.flatMap_nil,aA,aJ,aZ];omega
theorem sM (T:PrintTabs) (k:Int) (r:Rec) (h0:0<=k) (h1:k<1000) (hr:Small r):(text T k r).length<=1000:=by
 have a:=we T k r h0 h1 hr;have b:=vZ (body T k r);have c:=v7 (kz (body T k r)) (by omega) (by omega);simp only[text,aA,aJ];omega
theorem qH:∀(k:Nat) (P:Bytes),(splitK [32] 0 k P).length<=P.length+1/\∀x∈splitK [32] 0 k P,x.length<=P.length
 |0,P=>⟨by simp[splitK],fun x hx=>by simp[splitK]at hx;rw[hx];exact aq _⟩
 |k+1,P=>by
  rw[splitK];split
  ·exact⟨by simp,fun x hx=>by simp at hx;rw[hx];exact aq _⟩
  rename_i h;(have Km:P≠[]:=fun e=>by rw[e]at h;exact h rfl);have hp:0<P.length:=List.length_pos_iff.2 Km;obtain⟨h1,h2⟩:=qH k (P.drop ((index P [32]).toNat+[32].length));simp only[aJ,aZ,bW,bO,Nat.add_zero]at h1 h2⊢;refine⟨by omega,fun x hx=>?_⟩;rcases aM.1 hx with rfl|hx
  ·rw[bG];omega
  have:=h2 x hx;omega
def pieces (s:ByteArray):List ByteArray:=splitB ⟨#[32]⟩ 0 (min 7 (s.size+1)-1) s
theorem wg (s:ByteArray):(pieces s).map (·.data.toList)=splitK [32] 0 (min 7 (s.size+1)-1) s.data.toList:=splitB_data _ _ _ _
theorem CF {s:ByteArray} (h:(splitK [32] 0 6 s.data.toList).length<=6):(pieces s).length<=6:=by
 (have e:(pieces s).length=(splitK [32] 0 (min 7 (s.size+1)-1) s.data.toList).length:=by rw[<- wg,aS]);rw[e];by_cases h6:6<=s.size
 ·rw[show min 7 (s.size+1)-1=6 by omega];exact h
 have:=(qH (min 7 (s.size+1)-1) s.data.toList).1;have hl:s.data.toList.length=s.size:=rfl;omega
theorem sN {s:ByteArray} {xs:List Bytes} (h:splitK [32] 0 6 s.data.toList=xs) (hx:xs.length=7):(pieces s).map (·.data.toList)=xs/\(pieces s).length=7/\min 7 (s.size+1)=7:=by
 have h6:6<=s.size:=by
  have:=(qH 6 s.data.toList).1;have hl:s.data.toList.length=s.size:=rfl;rw[h]at this;omega
 (have e:(pieces s).map (·.data.toList)=xs:=by rw[wg,show min 7 (s.size+1)-1=6 by omega];exact h);refine⟨e,?_,by omega⟩;rw[<- hx,<- e,aS]
theorem wh (T:PrintTabs) (k:Int) (r:Rec):body T k r=join (fo k r) [32]++[32]++quoted T r.data:=by
 simp[body,lay,fo,join,List.intercalate]
theorem wi (T:PrintTabs) (k:Int) (r:Rec):0<(text T k r).length:=by simp[text];omega
end dK
end Go.Proofs.YtlhodcmdpchllaaGreatDoor
