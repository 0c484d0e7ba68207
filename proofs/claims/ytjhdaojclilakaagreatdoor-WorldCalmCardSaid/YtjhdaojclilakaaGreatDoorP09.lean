/-
  A part of the proof of the law WorldCalm: WalP.
-/
import Derived.Lib.Join
import Derived.Lib.Atoi
import Derived.Lib.ItoaNum
import Derived.Lib.IndexBytes
import Derived.Lib.Split
import Derived.Lib.LastIndexByte
import Derived.Test.YtjhdaojclilakaaGreatDoorHd
import Derived.Test.YtjhdaojclilakaaGreatDoorP02
import Derived.Test.YtjhdaojclilakaaGreatDoorP08
set_option maxHeartbeats 16000000
set_option maxRecDepth 1000000
namespace Go.Proofs.YtjhdaojclilakaaGreatDoor
section
variable {p q:Prop}
theorem acq (h:p:=by
 intro u h;rw[cY]at h;by_cases hu:u<10
 ·rw[nDigits_small hu];omega
 rw[nDigits_big hu];have:=ih (u/10) ab;omega):p:=h
end
namespace eG
open Go Go.Lib oq
open eY (Rec)
theorem ue (d:Nat) (h:d<10):(UInt8.ofNat (48+d)).toNat=48+d:=by
 rw[UInt8.toNat_ofNat'];omega
theorem wS (u:Nat):∀b∈decDigits u,48<=b.toNat/\b.toNat<=57:=by
 induction u using Nat.strongRecOn with
 |_ u ih =>
  intro b hb;rw[decDigits]at hb;split at hb
  ·rw[aD.1 hb,ue _ ab];omega
  rcases aN.1 hb with hb|hb
  ·exact ih _ ab b hb
  rw[aD.1 hb,ue _ ab];omega
theorem zY:∀(a b:Bytes) (acc:Nat),decFrom acc (a++b)=(decFrom acc a).bind fun x=>decFrom x b
 | [],b,acc=>rfl
 |x::a,b,acc=>by
  rw[ct,decFrom,decFrom]
  cases digitVal x with
  |none=>rfl
  |some d=>exact zY a b _
theorem Hq (u:Nat):decFrom 0 (decDigits u)=some u:=by
 induction u using Nat.strongRecOn with
 |_ u ih =>
  rw[decDigits];split
  ·rename_i h;rw[decFrom,digitVal,ue _ h,if_pos ab];simp[decFrom]
  rename_i h;rw[zY,ih _ ab];have e:=ue (u%10) ab;rw[Option.bind_some,decFrom,digitVal,e,if_pos ab];simp[decFrom];omega
theorem zZ (u:Nat):decDigits u≠[]:=by
 rw[decDigits];split<;>simp
theorem Aa (u:Nat):decNat (decDigits u)=some u:=by
 (have h:(decDigits u).isEmpty=false:=by simp[zZ u]);rw[decNat,h];exact Hq u
theorem Hr (n:Int):atoi (itoa n)=some n:=by
 unfold itoa;split
 ·rename_i h;rw[atoi,if_pos ai,Aa];simp;omega
 rename_i h
 cases hd:decDigits n.toNat with
 |nil=>exact absurd hd (zZ _)
 |cons b l =>
  have hb:=wS n.toNat b (by rw[hd];simp);have a:(b==45)=false:=beq_eq_false_iff_ne.2 (fun e=>by rw[e]at hb;simp at hb);have c:(b==43)=false:=beq_eq_false_iff_ne.2 (fun e=>by rw[e]at hb;simp at hb);rw[atoi,a,c];simp only[bh,if_false];rw[<- hd,Aa];simp;omega
theorem Ab (n:Int):(32:UInt8)∉itoa n:=by
 intro h;unfold itoa at h;split at h
 ·rcases aH.1 h with h|h
  ·cases h
  have:=wS _ _ h;simp at this
 have:=wS _ _ h;simp at this
theorem qy (n:Int) (b : -1<=n) (c:n<10000000000000000):(itoa n).length<=17:=by
 have a:∀(k u:Nat),u<10^(k+1)->nDigits u<=k+1:=by
  intro k
  induction k with
  |zero=>intro u h;rw[nDigits_small (by simpa using h)];omega
  |succ k ih =>
   exact acq
 unfold itoa;split
 ·rw[aL,decDigits_length];have:=a 0 n.natAbs ab;omega
 rw[decDigits_length];have:=a 15 n.toNat ah;omega
theorem Ac:∀(x r:Bytes),(32:UInt8)∉x->indexByte (x++32::r) 32=x.length
 | [],r,_=>by simp[indexByte]
 |b::x,r,h=>by
  have hb:¬b=32:=fun e=>h (by rw[e];simp);have ih:=Ac x r (fun hh=>h (by simp[hh]));rw[ct,indexByte,ih];rw[if_neg (by simpa using hb),if_neg (by rw[beq_iff_eq];omega)];simp
theorem Ad:∀(x:Bytes),(32:UInt8)∉x->indexByte x 32 = -1
 | [],_=>rfl
 |b::x,h=>by
  have hb:¬b=32:=fun e=>h (by rw[e];simp);rw[indexByte,Ad x (fun a=>h (by simp[a])),if_neg (by simpa using hb),if_pos ai]
theorem Ae (k:Nat) (x:Bytes) (h:(32:UInt8)∉x):splitK [32] 0 k x=[x]:=by
 cases k with
 |zero=>rfl
 |succ k=>rw[splitK,index_one,Ad x h,if_pos ai]
theorem ug (k:Nat) (x r:Bytes) (h:(32:UInt8)∉x):splitK [32] 0 (k+1) (x++32::r)=x::splitK [32] 0 k r:=by
 rw[splitK,index_one,Ac x r h,if_neg (by rw[beq_iff_eq];omega)];simp
def lay (ws:List Bytes):Bytes:=ws.flatMap (·++[32])
theorem Af:∀(ws:List Bytes) (tail P:Bytes),(∀x∈ws,(32:UInt8)∉x)->P <+: lay ws++tail ->
 (splitK [32] 0 ws.length P).length<=ws.length\/∃rest,rest <+: tail/\P=lay ws++rest/\splitK [32] 0 ws.length P=ws++[rest]
 | [],tail,P,_,h=>.inr ⟨P,by simpa[lay]using h,by simp[lay],rfl⟩
 |x::ws,tail,P,d,h=>by
  have b:(32:UInt8)∉x:=d x ae;(have e:lay (x::ws)=(x++[32])++lay ws:=by simp[lay]);rw[e,bx]at h
  have no:P <+: x->(splitK [32] 0 (x::ws).length P).length<=(x::ws).length:=fun hp=>by
   rw[Ae _ P (fun f=>b (hp.subset f))];simp
  rcases List.prefix_or_prefix_of_prefix h (List.prefix_append (x++[32]) _)with hp|hp
  ·rcases List.prefix_concat_iff.1 hp with hp|hp
   ·have:P=x++32::[]:=hp
    cases ws with
    |nil =>
     refine .inr ⟨[],ae,by rw[e,this];simp[lay],?_⟩;rw[this];exact ug 0 x [] b
    |cons y ws =>
     refine .inl ?_;rw[this,aL,ug _ x [] b,Ae _ [] ae];simp
   exact .inl (no hp)
  obtain⟨a,rfl⟩:=hp;rw[bx]at h;rw[bx]at h
  have g:a <+: lay ws++tail:=by
   have c:=(List.prefix_append_right_inj x).1 h;exact (List.prefix_append_right_inj [32]).1 c
  have es:splitK [32] 0 (x::ws).length (x++[32]++a)=x::splitK [32] 0 ws.length a:=by
   rw[bx];exact ug ws.length x a b
  rw[es];rcases Af ws tail a (fun y hy=>d y (by simp[hy])) g with k|⟨rest,i,c,j⟩
  ·exact .inl ah
  exact .inr ⟨rest,i,by rw[e,c];simp,by rw[j];simp⟩
theorem wT (s:ByteArray) (j:Nat) (h:j<s.size):s.data.toList[j]?=some (s.data[j]!):=by
 have a:j<s.data.size:=h;rw[getElem!_pos s.data j a,ay (by simpa using a)];rfl
theorem wU (x:Nat) (a:x<16):hd x≠32:=by
 have:∀y:Fin 16,hd y.val≠32:=aj;exact this ⟨x,a⟩
theorem wV (r:Nat):∀n,(32:UInt8)∉mO r n
 |0,h=>by cases h
 |n+1,h=>by
  rcases aH.1 h with h|h
  ·exact wU _ ab h.symm
  exact wV r n h
theorem Hs (r:Int) (a:128<=r) (hv:validRune r=true):∀b∈encodeRune r,128<=b.toNat:=by
 have c:(r<55296)\/(57343<r/\r<=1114111):=by
  simp only[validRune,decide_eq_true_eq]at hv;omega
 intro b hb;unfold encodeRune at hb;by_cases d:r<=2047
 ·rw[encodeRuneZ_two ab ab]at hb;simp only[aY,bD,aH,bq,or_false]at hb;rcases hb with rfl|rfl<;>(simp;omega)
 by_cases e:r<=65535
 ·rw[encodeRuneZ_three ab]at hb;simp only[aY,bD,aH,bq,or_false]at hb;rcases hb with rfl|rfl|rfl<;>(simp;omega)
 rw[encodeRuneZ_four ab ab]at hb;simp only[aY,bD,aH,bq,or_false]at hb;rcases hb with rfl|rfl|rfl|rfl<;>(simp;omega)
theorem Ht {t:Tok} (h:jI t):t.bs=[32]\/(32:UInt8)∉t.bs:=by
 cases h with
 |ascii c b d g i =>
  by_cases hc:c=32
  ·exact .inl (by rw[hc])
  exact .inr (by simp;exact fun e=>hc e.symm)
 |multi r b hv=>exact .inr (fun f=>by have:=Hs r b hv _ f;simp at this)
 |short x v h=>exact .inr (by unfold mm at h;simp;rintro rfl;simp at h)
 |hex a h=>exact .inr (by simp;exact⟨fun e=>wU _ ab e.symm,fun e=>wU _ ab e.symm⟩)
 |u4 r b d hv=>exact .inr (by simp;exact wV _ _)
 |u8 r b hv=>exact .inr (by simp;exact wV _ _)
theorem Ag:∀(a:List Tok),(∀t∈a,jI t)->∀o:Nat,(a.flatMap Tok.bs)[o]?=some 32->∃j,(a.flatMap Tok.bs).take o=(a.take j).flatMap Tok.bs
 | [],_,o,h=>by simp at h
 |t::a,ht,o,h=>by
  rw[bm]at h;by_cases b:o<t.bs.length
  ·rw[ba b]at h;rcases Ht (ht t ae)with e|e
   ·refine⟨0,?_⟩;rw[e]at b;(have:o=0:=by simpa using b);rw[this];simp
   exact absurd (aT h) e
  rw[aR ab]at h;obtain⟨j,c⟩:=Ag a (fun x hx=>ht x (by simp[hx])) _ h;refine⟨j+1,?_⟩;rw[bm,dX,bm,<- c,dh];congr 1;exact bB ab
def iG (k:Int) (r:Rec):List Bytes:=[itoa k,itoa r.eI,itoa r.eK,itoa r.eF,itoa r.fJ,itoa r.eS]
def quoted (T:PrintTabs) (d:Bytes):Bytes:=(strOfNums (quoteZ T ⟨d.toArray⟩)).data.toList
def body (T:PrintTabs) (k:Int) (r:Rec):Bytes:=lay (iG k r)++quoted T r.data
def mZ (n:Int) (c:UInt8):Int:=IntKind.u64.wrap (bits .xor .u64 n (c.toNat:Int)*1099511628211)
def mP (b:Bytes):Int:=b.foldl mZ 14695981039346656037/8
def text (T:PrintTabs) (k:Int) (r:Rec):Bytes:=body T k r++32::itoa (mP (body T k r))
theorem Hu (T:PrintTabs) (d:Bytes):∃a:List Tok,(∀t∈a,jI t)/\quoted T d=34::(a.flatMap Tok.bs++[34])/\a.flatMap Tok.val=d:=by
 obtain⟨a,b,c,e⟩:=Hp T ⟨d.toArray⟩;exact⟨a,b,c,by rw[e]⟩
theorem Hv (T:PrintTabs) (d:Bytes):(quoted T d).length<=10*d.length+2:=by
 have h:=quoteZ_length_le T ⟨d.toArray⟩
 have e:(quoted T d).length=(quoteZ T ⟨d.toArray⟩).length:=by
  unfold quoted;rw[<- strOfNums_size];rfl
 rw[e];exact h
inductive Hw (T:PrintTabs) (k:Int) (r:Rec) (P:Bytes):Prop
 |gz (PB:P≠text T k r) (h:(splitK [32] 0 6 P).length<=6)
 |bare (PB:P≠text T k r) (rest:ByteArray) (h:splitK [32] 0 6 P=iG k r++[rest.data.toList]) (hq:lastIndexByte rest 32 = -1)
 |gy (PB:P≠text T k r) (rest:ByteArray) (q:Nat) (ts:List Tok) (h:splitK [32] 0 6 P=iG k r++[rest.data.toList]) (hq:lastIndexByte rest 32=q) (hl:q<=rest.size) (ht:∀t∈ts,jI t) (e:rest.data.toList.take q=34::(ts.flatMap Tok.bs++[]))
 |whole (rest:ByteArray) (q:Nat) (ts:List Tok) (h:splitK [32] 0 6 P=iG k r++[rest.data.toList]) (hq:lastIndexByte rest 32=q) (hl:q<=rest.size) (ht:∀t∈ts,jI t) (e:rest.data.toList.take q=34::(ts.flatMap Tok.bs++[34])) (hv:ts.flatMap Tok.val=r.data)
theorem Ah:∀(ws:List Bytes) (tail:Bytes),(∀x∈ws,(32:UInt8)∉x)->splitK [32] 0 ws.length (lay ws++tail)=ws++[tail]
 | [],tail,_=>by simp[lay,splitK]
 |x::ws,tail,h=>by
  (have e:lay (x::ws)++tail=x++32::(lay ws++tail):=by simp[lay]);rw[e,aL,ug _ _ _ (h x ae),Ah ws tail (fun y hy=>h y (by simp[hy]))];rfl
theorem Hx (T:PrintTabs) (k:Int) (r:Rec) (P:Bytes) (B:P <+: text T k r):Hw T k r P:=by
 have i:∀x∈iG k r,(32:UInt8)∉x:=by
  intro x C;simp only[iG,aH,bq,or_false]at C;rcases C with rfl|rfl|rfl|rfl|rfl|rfl<;>exact Ab _
 obtain⟨g,ht,p,hv⟩:=Hu T r.data
 have s:P <+: lay (iG k r)++(quoted T r.data++32::itoa (mP (body T k r))):=by
  rw[text,body,bx]at B;exact B
 (have D:text T k r=lay (iG k r)++(quoted T r.data++32::itoa (mP (body T k r))):=by rw[text,body,bx]);rcases Af (iG k r) _ P i s with h|⟨l,E,H,I⟩
 ·refine .gz (fun e=>?_) h;have:=Ah (iG k r) (quoted T r.data++32::itoa (mP (body T k r))) i;rw[e,D,this]at h;simp at h;omega
 have c:P=text T k r->l[(quoted T r.data).length]?=some 32:=fun e=>by
  rw[H,D]at e;rw[List.append_cancel_left e,aR (ax _),dA];rfl
 obtain⟨rest,d⟩:∃rest:ByteArray,rest.data.toList=l:=⟨⟨l.toArray⟩,rfl⟩;(have N:rest.size=l.length:=by rw[<- d];rfl);(have f:splitK [32] 0 6 P=iG k r++[rest.data.toList]:=by rw[d];exact I);rcases lastIndexByte_spec rest 32 with⟨J,u⟩|⟨q,K,F,v,w⟩
 ·refine .bare (fun e=>?_) rest f J;have ht:=c e
  have m:(quoted T r.data).length<rest.size:=by
   rcases bk (quoted T r.data).length l.length with h|h
   ·omega
   rw[bw h]at ht;cases ht
  refine u _ m ?_;rw[<- d,wT rest _ m]at ht;rw[aA ht];rfl
 have y:l[q]?=some 32:=by
  rw[<- d,wT rest q K];congr 1;exact dx.1 (by simpa using dM.1 v)
 have z:∀j:Nat,q<j->l[j]?≠some 32:=by
  intro j A he;by_cases o:j<rest.size
  ·rw[<- d,wT rest j o]at he;refine w j A o ?_;rw[aA he];rfl
  rw[bw ab]at he;cases he
 have O:q<l.length:=ab
 have full:∀(j:Nat) (b:UInt8),l[j]?=some b->(quoted T r.data++32::itoa (mP (body T k r)))[j]?=some b:=by
  intro j b hb;obtain⟨t,he⟩:=E;rw[<- he,ba (by rcases bk j l.length with h|h;exact h;rw[bw h]at hb;cases hb)];exact hb
 have G:l.take q=(quoted T r.data++32::itoa (mP (body T k r))).take q:=by
  obtain⟨t,he⟩:=E;rw[<- he,cI ab]
 have a:=full q 32 y;rcases Nat.lt_trichotomy q (quoted T r.data).length with m|heq|L
 ·rw[ba m,p]at a
  cases q with
  |zero=>simp at a
  |succ q =>
   rw[aO]at a
   have M:q<(g.flatMap Tok.bs).length:=by
    rcases bk q (g.flatMap Tok.bs).length with h|h
    ·exact h
    rw[aR h]at a
    cases X3:q-(g.flatMap Tok.bs).length with
    |zero=>rw[X3]at a;simp at a
    |succ n=>rw[X3]at a;simp at a
   rw[ba M]at a;obtain⟨j,A⟩:=Ag g ht q a;refine .gy (fun e=>z _ m (c e)) rest (q+1) (g.take j) f F ab (fun t h=>ht t (List.mem_of_mem_take h)) ?_;rw[d,G,cI ab,p,dX,cI ab,A,bG]
 ·refine .whole rest q g f F ab ht ?_ hv;rw[d,G,heq,List.take_left,p]
 rw[aR ab]at a
 cases X3:q-(quoted T r.data).length with
 |zero=>omega
 |succ n =>
  rw[X3,aO]at a;exact absurd (aT a) (Ab _)
theorem Ai (n:Int) (c:UInt8):0<=mZ n c/\mZ n c<18446744073709551616:=by
 have h:mZ n c=(bits .xor .u64 n (c.toNat:Int)*1099511628211)%18446744073709551616:=rfl;rw[h];exact⟨Int.emod_nonneg _ aj,Int.emod_lt_of_pos _ aj⟩
theorem Aj (l:Bytes):∀(a:Int),0<=a->a<18446744073709551616->0<=l.foldl mZ a/\l.foldl mZ a<18446744073709551616:=by
 induction l with
 |nil=>intro a b d;exact⟨b,d⟩
 |cons c l ih=>intro a b d;exact ih _ (Ai a c).1 (Ai a c).2
theorem Ak (b:Bytes):0<=mP b/\mP b<2305843009213693952:=by
 have:=Aj b 14695981039346656037 aj aj;unfold mP;omega
structure Small (r:Rec):Prop where
 c0:0<=r.eI
 c1:r.eI<=1099511627776
 n0:0<=r.eK
 n1:r.eK<=1099511627776
 o0 : -1<=r.eF
 o1:r.eF<=7
 v0:0<=r.fJ
 v1:r.fJ<=1099511627776
 e0:0<=r.eS
 e1:r.eS<=1099511627776
 d1:r.data.length<=20
theorem pO {r:Rec} (h:r.right=true):Small r:=by
 unfold Rec.right at h;split at h
 ·rename_i f;simp only[fD.jm,aF,decide_eq_true_eq]at h;obtain⟨⟨⟨⟨b,c⟩,d⟩,e⟩,a⟩:=h;exact⟨ab,ab,ab,ab,ab,ab,ab,ab,ab,ab,by rw[a];simp⟩
 simp only[fD.jm,eY.fR,aF,decide_eq_true_eq]at h;obtain⟨⟨⟨⟨⟨b,c⟩,d⟩,e⟩,a⟩,g⟩:=h;exact⟨ab,ab,ab,ab,ab,ab,ab,ab,ab,ab,ab⟩
theorem Al (n:Int) (b : -1<=n) (c:n<2305843009213693952):(itoa n).length<=20:=by
 have a:∀(k u:Nat),u<10^(k+1)->nDigits u<=k+1:=by
  intro k
  induction k with
  |zero=>intro u h;rw[nDigits_small (by simpa using h)];omega
  |succ k ih =>
   exact acq
 unfold itoa;split
 ·rw[aL,decDigits_length];have:=a 18 n.natAbs ab;omega
 rw[decDigits_length];have:=a 18 n.toNat ah;omega
theorem Am (T:PrintTabs) (k:Int) (r:Rec) (b:0<=k) (c:k<1000) (a:Small r):(body T k r).length<=400:=by
 have q:=Hv T r.data;have e:=qy k ab ab;have a2:=qy r.eI (by have:=a.c0;omega) (by have:=a.c1;omega);have a3:=qy r.eK (by have:=a.n0;omega) (by have:=a.n1;omega);have a4:=qy r.eF (by have:=a.o0;omega) (by have:=a.o1;omega);have a5:=qy r.fJ (by have:=a.v0;omega) (by have:=a.v1;omega);have f:=qy r.eS (by have:=a.e0;omega) (by have:=a.e1;omega);have d:=a.d1;simp only[body,lay,iG,bm,List.flatMap_nil,aE,aL,bJ];omega
theorem wW (T:PrintTabs) (k:Int) (r:Rec) (d:0<=k) (e:k<1000) (f:Small r):(text T k r).length<=1000:=by
 have a:=Am T k r d e f;have b:=Ak (body T k r);have c:=Al (mP (body T k r)) ab ab;simp only[text,aE,aL];omega
theorem ui:∀(k:Nat) (P:Bytes),(splitK [32] 0 k P).length<=P.length+1/\∀x∈splitK [32] 0 k P,x.length<=P.length
 |0,P=>⟨by simp[splitK],fun x a=>by simp[splitK]at a;rw[a];exact ax _⟩
 |k+1,P=>by
  rw[splitK];split
  ·exact⟨ae,fun x a=>by simp at a;rw[a];exact ax _⟩
  rename_i h;(have c:P≠[]:=fun e=>by rw[e]at h;exact h rfl);have hp:0<P.length:=List.length_pos_iff.2 c;obtain⟨d,b⟩:=ui k (P.drop ((index P [32]).toNat+[32].length));simp only[aL,bJ,cN,cx,dU]at d b⊢;refine⟨ab,fun x a=>?_⟩;rcases aH.1 a with rfl|a
  ·rw[bV];omega
  have:=b x a;omega
def pieces (s:ByteArray):List ByteArray:=splitB ⟨#[32]⟩ 0 (min 7 (s.size+1)-1) s
theorem An (s:ByteArray):(pieces s).map (·.data.toList)=splitK [32] 0 (min 7 (s.size+1)-1) s.data.toList:=splitB_data _ _ _ _
variable {s:ByteArray}
theorem Hz (h:(splitK [32] 0 6 s.data.toList).length<=6):(pieces s).length<=6:=by
 (have e:(pieces s).length=(splitK [32] 0 (min 7 (s.size+1)-1) s.data.toList).length:=by rw[<- An,aX]);rw[e];by_cases a:6<=s.size
 ·rw[show min 7 (s.size+1)-1=6 by omega];exact h
 have:=(ui (min 7 (s.size+1)-1) s.data.toList).1;have b:s.data.toList.length=s.size:=rfl;omega
theorem wX {xs:List Bytes} (h:splitK [32] 0 6 s.data.toList=xs) (a:xs.length=7):(pieces s).map (·.data.toList)=xs/\(pieces s).length=7/\min 7 (s.size+1)=7:=by
 have b:6<=s.size:=by
  have:=(ui 6 s.data.toList).1;have c:s.data.toList.length=s.size:=rfl;rw[h]at this;omega
 (have e:(pieces s).map (·.data.toList)=xs:=by rw[An,show min 7 (s.size+1)-1=6 by omega];exact h);refine⟨e,?_,ab⟩;rw[<- a,<- e,aX]
theorem Ao (T:PrintTabs) (k:Int) (r:Rec):body T k r=join (iG k r) [32]++[32]++quoted T r.data:=by
 simp[body,lay,iG,join,List.intercalate]
theorem Ap (T:PrintTabs) (k:Int) (r:Rec):0<(text T k r).length:=by simp[text];omega
end eG
end Go.Proofs.YtjhdaojclilakaaGreatDoor
