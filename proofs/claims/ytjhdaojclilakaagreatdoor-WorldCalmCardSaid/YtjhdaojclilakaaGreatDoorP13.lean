/-
  A part of the proof of the law WorldCalm: Clock, CacheA, CacheB.
-/
import Derived.Test.YtjhdaojclilakaaGreatDoorRows
import Derived.Deep.RegionLaw
import Derived.Deep.AppendLies
import Derived.Deep.DrawnRows
import Derived.Test.YtjhdaojclilakaaGreatDoorHd
import Derived.Test.YtjhdaojclilakaaGreatDoorP06
import Derived.Test.YtjhdaojclilakaaGreatDoorP12
set_option maxHeartbeats 16000000
set_option maxRecDepth 1000000
namespace Go.Proofs.YtjhdaojclilakaaGreatDoor
section
variable {p q:Prop}
theorem abl (h:p:=by
 rcases Qs.1.2 with⟨rfl,_⟩|⟨g,cap,cur,rfl,_⟩<;>exact⟨_,_,_,rfl⟩):p:=h
end
namespace clock
open Go.RowKit gC
theorem Jg (a b A B:Int) (d:0<=a) (e:a<=A) (c:0<=b) (f:b<=B):0<=a*b/\a*b<=A*B:=
 ⟨dF d c,Int.mul_le_mul e f c ab⟩
theorem Jh {x y:Int} {v:Value} (h:x=y):Ending.returned (.tuple #[VI x,v])=Ending.returned (.tuple #[VI y,v]):=by rw[h]
theorem A7 (d t:Int) (w:World) (c:0<=d) (f:d<=500) (a:0<=t) (b:t<=1099511627776) :
 Calls Tryz.prog 12 #[VI d,VI t] w fun e w'=>e=.returned (.tuple #[VI (t*(1000-d)/(1000+d)),.nilIface])/\w=w':=by
 obtain⟨m0,m1⟩:=Jg t (1000-d) 1099511627776 1000 a b ab ab;(go_enter Tryz.func12,Tryz.ntmps12);go_wp2;go_ret2;exact⟨rfl,rfl⟩
theorem Ji (d t:Int) (w:World) (h:¬(0<=d/\d<=500/\0<=t/\t<=1099511627776)) :
 Calls Tryz.prog 12 #[VI d,VI t] w fun e w'=>e=.returned (.tuple #[VI 0,.iface 70 (VI 2)])/\w=w':=by
 have a:d<0\/500<d\/t<0\/1099511627776<t:=ab;clear h;(go_enter Tryz.func12,Tryz.ntmps12);go_wp2
 all_goals
  go_ret2;exact⟨rfl,rfl⟩
theorem Jj (a b:Int) (w:World) (c:0<=a) (d:a<=1099511627776) (f:0<=b) (g:b<=1099511627776) :
 Calls Tryz.prog 92 #[VI a,VI b] w fun e w'=>e=.returned (.tuple #[VI (min (a+b) 1099511627776),.nilIface])/\w=w':=by
 have i0:∀w,(Instr.index 187 (.agg #[VI a,VI b]) (VI 0)).run Tryz.prog w=.ok (VI a) w:=fun _=>af;have i1:∀w,(Instr.index 187 (.agg #[VI a,VI b]) (VI 1)).run Tryz.prog w=.ok (VI b) w:=fun _=>af;(go_enter Tryz.func92,Tryz.ntmps92);go_wp2;refine wp_loop_rounds 3 ?_;rw[rounds_succ];go_wp2;rw[rounds_succ];go_wp2;rw[rounds_succ];go_wp2
 all_goals
  go_ret2;exact⟨Jh ab,rfl⟩
theorem Jk (a b:Int) (w:World) (h:¬(0<=a/\a<=1099511627776/\0<=b/\b<=1099511627776)) :
 Calls Tryz.prog 92 #[VI a,VI b] w fun e w'=>e=.returned (.tuple #[VI 0,.iface 70 (VI 2)])/\w=w':=by
 have i0:∀w,(Instr.index 187 (.agg #[VI a,VI b]) (VI 0)).run Tryz.prog w=.ok (VI a) w:=fun _=>af;have i1:∀w,(Instr.index 187 (.agg #[VI a,VI b]) (VI 1)).run Tryz.prog w=.ok (VI b) w:=fun _=>af;by_cases c:a<0\/1099511627776<a
 ·clear h;(go_enter Tryz.func92,Tryz.ntmps92);go_wp2;refine wp_loop_rounds 1 ?_;rw[rounds_succ];go_wp2
  all_goals
   go_ret2;exact⟨rfl,rfl⟩
 have d:0<=a:=ab;have f:a<=1099511627776:=ab;have g:b<0\/1099511627776<b:=ab;clear h c;(go_enter Tryz.func92,Tryz.ntmps92);go_wp2;refine wp_loop_rounds 2 ?_;rw[rounds_succ];go_wp2;rw[rounds_succ];go_wp2
 all_goals
  go_ret2;exact⟨rfl,rfl⟩
end clock
namespace cache
open Go.RowKit heap own
structure It where
 obj:Int
 data:List UInt8
 fq:Int
 iK:Int
def kL (x:It):List Value:=[VI x.obj,.string ⟨x.data.toArray⟩,VI x.fq,VI x.iK]
def It.val (x:It):Value:=.agg #[VI x.obj,.string ⟨x.data.toArray⟩,VI x.fq,VI x.iK]
def js (l:List It):List Value:=l.flatMap kL
def kT (own:Nat->Nat) (T:Nat) (w:World) (v:Value) (l:List It):Prop:=Row own T w 141 4 v l.length (js l)
theorem uI (l:List It):∀u∈js l,u.oneCell'=true:=by
 intro u hu;obtain⟨x,-,hu⟩:=di.1 hu;simp only[kL,aH,bq,or_false]at hu;rcases hu with rfl|rfl|rfl|rfl<;>rfl
theorem Br (l:List It) (k:Nat) (x:It) (h:l[k]?=some x) (j:Nat) (a:j<4):(js l)[k*4+j]?=(kL x)[j]?:=by
 induction l generalizing k with
 |nil=>simp at h
 |cons q l ih =>
  cases k with
  |zero =>
   (obtain rfl:q=x:=by simpa using h);simp only[js,bm,Nat.zero_mul,cN];rw[ba (by simpa[kL]using a)]
  |succ k =>
   have:=ih k (by simpa using h);simp only[js,bm]at this⊢;rw[aR (by simp[kL];omega)];rw[show (k+1)*4+j-(kL q).length=k*4+j from by simp[kL];omega];exact this
def findAt (l:List It) (o:Int):Int:=match l.findIdx? (fun x=>decide (x.obj=o))with|some k=>k|none => -1
theorem JS (x:It) (o:Int) (p:Nat) (w:World) (hp:CI w p 0 o) :
 Calls Tryz.prog 108 #[x.val,VP p 0] w fun e w'=>e=.returned (.bool (x.obj==o))/\BB w w':=by
 have a:p<w.heap.size:=by
  exact Lt hp
 unfold It.val;(go_enter Tryz.func108,Tryz.ntmps108);go_wp2;go_ret;exact⟨rfl,(Below.refl _ _).alloc (ax _) _⟩
theorem JT (l:List It) (o:Int) (k:Nat) (x:It) (h:l[k]?=some x) (a:x.obj=o) (b:∀y∈l.take k,y.obj≠o):findAt l o=k:=by
 unfold findAt
 have:l.findIdx? (fun x=>decide (x.obj=o))=some k:=by
  rw[List.findIdx?_eq_some_iff_getElem];obtain⟨c,rfl⟩:=az.1 h;refine⟨c,by simpa using a,fun j d=>?_⟩
  have:=b l[j] (by
   rw[List.mem_take_iff_getElem]
   exact⟨j,ab,rfl⟩)
  simpa using this
 rw[this]
theorem JU (l:List It) (o:Int) (a:∀y∈l,y.obj≠o):findAt l o = -1:=by
 unfold findAt
 have:l.findIdx? (fun x=>decide (x.obj=o))=none:=by
  rw[List.findIdx?_eq_none_iff];intro x b;simpa using a x b
 rw[this]
theorem rr (own:Nat->Nat) (T:Nat) (v:Value) (l:List It) (o:Int) (p:Nat) (w:World) (h:kT own T w v l) (hp:CI w p 0 o) :
 Calls Tryz.prog 107 #[v,.func (.func 108) #[] #[VP p 0]] w fun e w'=>e=.returned (VI (findAt l o))/\BB w w':=by
 have B:∃a c,v=.slice a l.length c/\l.length<=9223372036854775807/\(0<l.length->∃g,a=some ⟨g,0,none⟩/\g<w.heap.size/\∀k x,l[k]?=some x->∀j,j<4->w.cell? ⟨g,k*4+j,none⟩=(kL x)[j]?):=by
  rcases bQ l.length with r|r
  ·rcases h.1.2 with⟨rfl,e⟩|⟨g,cap,cur,rfl,_⟩
   ·exact⟨none,0,by rw[<- r],ab,fun h=>ab⟩
   exact⟨_,_,rfl,ab,fun h=>ab⟩
  obtain⟨g,cap,cur,rfl,K,z,L,C,M,b⟩:=h.shape r;refine⟨_,_,rfl,by unfold maxLen at C;omega,fun _=>⟨g,rfl,z.lt,fun k x hk j hj=>?_⟩⟩;have N:=(az.1 hk).1;rw[(kj z b (k*4+j) ab).1,Br l k x hk j hj]
 obtain⟨a,c,rfl,D,d⟩:=B
 have E:p<w.heap.size:=by
  exact Lt hp
 have HC:=Hd d;have G:=Hd hp;clear h d hp;(go_enter Tryz.func107,Tryz.ntmps107);go_wp2;(go_loopw [8,5] (fun i _ wr=>∃k:Nat,k<=l.length/\i=VI k/\(∀y∈l.take k,y.obj≠o)/\BB w wr) (fun i _ _=>l.length-(intOf i).toNat));case atStart=>exact⟨0,ab,rfl,(fun y hy=>by simp at hy),Below.refl _ _⟩
 case round =>
  obtain⟨k,hk,rfl,A,hb⟩:=hrel;have s:=Hd A;clear A;by_cases H:k<l.length
  ·obtain⟨g,rfl,I,hc⟩:=HC.o ab;have q:l[k]?=some l[k]:=ay H;have b:=hc k _ q;have f:∀j,wr.cell? ⟨g,k*4+j,none⟩=w.cell? ⟨g,k*4+j,none⟩:=fun j=>hb.cell (p:=⟨g,k*4+j,none⟩) I;generalize hx:l[k]=x at q b;have c0:CI wr g (k*4) x.obj:=(f 0).trans (b 0 ab);have c1:CC wr g (k*4+1) (.string ⟨x.data.toArray⟩):=(f 1).trans (b 1 ab);have c2:CI wr g (k*4+2) x.fq:=(f 2).trans (b 2 ab);have c3:CI wr g (k*4+3) x.iK:=(f 3).trans (b 3 ab);have F:=Hd (JS x o p wr ((hb.cell (p:=⟨p,0,none⟩) E).trans G.o));have n:=Hd q;have O:=Hd hx;unfold It.val at F;clear f b hc q hx;by_cases he:x.obj=o
   ·have heq:(x.obj==o)=true:=beq_iff_eq.2 he;have t:=Hd he;have m:=Hd heq;clear he heq;(go_wp2_with fail);refine F.o.mono ?_;rintro e J ⟨rfl,u⟩;rw[m.o];(go_wp2_with fail);go_ret;exact⟨by rw[JT l o k x n.o t.o s.o];rfl,hb.trans (u.mono hb.size)⟩
   have heq:(x.obj==o)=false:=beq_eq_false_iff_ne.2 he;have t:=Hd he;have m:=Hd heq;clear he heq;(go_wp2_with fail);refine F.o.mono ?_;rintro e J ⟨rfl,u⟩;rw[m.o];(go_wp2_with fail);go_roundw
   case rel =>
    refine⟨k+1,ab,by go_num,fun y hy=>?_,hb.trans (u.mono hb.size)⟩;rw[bH,n.o]at hy;rcases aN.1 hy with hy|hy
    ·exact s.o y hy
    (obtain rfl:y=x:=by simpa using hy);exact t.o
   case measure=>simp[intOf];omega
  (obtain rfl:k=l.length:=by omega);(go_wp2_with fail);go_ret;exact⟨by rw[JU l o (fun y hy=>s.o y (by rw[bK];exact hy))];rfl,hb⟩
theorem xJ (own:Nat->Nat) (T b q:Nat) (v:Value) (l:List It) (o:Int) (w:World) (d:CC w b q v) (h:kT own T w v l) :
 Calls Tryz.prog 79 #[VP b q,VI o] w fun e w'=>e=.returned (VI (findAt l o))/\BB w w':=by
 obtain⟨a,m,c,rfl⟩:∃a m c,v=.slice a m c:=by
  rcases h.1.2 with⟨rfl,_⟩|⟨g,cap,cur,rfl,_⟩<;>exact⟨_,_,_,rfl⟩
 have i:b<w.heap.size:=by
  exact Lt d
 have C:=Hd (rr own T (.slice a m c) l o w.heap.size (w.alloc (.cells #[VI o] 3)) (h.below ((Below.refl _ _).alloc (ax _) _)) ((Has.new w (.cells #[VI o] 3)).cell 0));clear h;(go_enter Tryz.func79,Tryz.ntmps79);(go_wp2_with fail);refine C.o.mono ?_;rintro e j ⟨rfl,f⟩;(go_wp2_with fail);go_ret;exact⟨rfl,((Below.refl _ _).alloc (ax _) _).trans (f.mono ae)⟩
def pk:List Value:=[VI 0,.string ByteArray.empty,VI 0,VI 0]
theorem JV:(Builtin.zeroCells (Value.agg #[VI 0,.string ByteArray.empty,VI 0,VI 0]).cells 1).toList=pk:=af
theorem JW:∀v∈pk,v.oneCell'=true:=by simp[pk,Value.oneCell']
theorem Bs:(Tryz.prog.info? 141).map (fun i=>(i.zero,i.size,i.bytes))=some (some (.agg #[VI 0,.string ByteArray.empty,VI 0,VI 0]),4,40):=af
theorem JX (w:World):(zeroValue 141).run Tryz.prog w=.ok (.agg #[VI 0,.string ByteArray.empty,VI 0,VI 0]) w:=af
theorem uJ (own:Nat->Nat) (T:Nat) (v:Value) (n k:Nat) (xs:List Value) (w:World) (h:Row own T w 141 4 v n xs) (B:k<n) (r:∀u∈xs,u.oneCell'=true) :
 Calls Tryz.prog 80 #[v,VI k,VI ((k:Int)+1)] w fun e w'=>∃l,e=.returned l/\l.ownBlock=v.ownBlock/\Row own T w' 141 4 l (n-1) (cut 4 k xs)/\eJ (fun g=>v.ownBlock=some g) w w':=by
 obtain⟨i0,C,J,D,K⟩:=info_parts Bs;obtain⟨g,cap,cur,rfl,s,d,E,x,f,a⟩:=h.shape ab;have i:xs.length=n*4:=h.1.1;have L:=Hd i;have HC:=Hd (zN (k:=k) (zs:=pk) s d.drew E x f a B rfl)
 have F:Hy (eJ (fun b=>(Value.slice (some ⟨g,0,none⟩) n cap).ownBlock=some b) w ((w.drew.setCells g (k*4) (xs.drop ((k+1)*4))).setCells g ((n-1)*4) pk)):=
  zL (S:=fun b=>(Value.slice (some ⟨g,0,none⟩) n cap).ownBlock=some b) rfl w _ _ _ _
 obtain⟨A,M,m⟩:∃A:Addr,(if cap=k+1 then (some ⟨g,0,none⟩:Option Addr) else some ⟨g,(k+1)*4,none⟩)=some A/\Hy (∀t u,(xs.drop ((k+1)*4))[t]?=some u->w.drew.cell? (A.add t)=some u):=by
  by_cases h:cap=k+1
  ·refine⟨⟨g,0,none⟩,by simp[h],fun t u hu=>?_⟩;have:=(az.1 hu).1;simp at this;omega
  refine⟨⟨g,(k+1)*4,none⟩,by simp[h],fun t u hu=>?_⟩;rw[eo]at hu;have N:=(az.1 hu).1;have:=(kj d a ((k+1)*4+t) ab).1;rw[show (⟨g,(k+1)*4,none⟩:Addr).add t=⟨g,(k+1)*4+t,none⟩ from by by_cases G:t=0<;>simp[Addr.add,G]];exact this.trans hu
 (have s1:Hy ((xs.drop ((k+1)*4)).length=(n-(k+1))*4):=by rw[Hy,cx,i];omega);have s2:Hy (∀u∈xs.drop ((k+1)*4),u.oneCell'=true):=fun u hu=>r u (List.mem_of_mem_drop hu)
 have H:Hy (∀t,t<(xs.drop ((k+1)*4)).length->(w.drew.cell? ⟨g,0+k*4+t,none⟩).isSome=true/\w.drew.frozen? ⟨g,0+k*4+t,none⟩=false):=by
  intro t ht;rw[cx,i]at ht;rw[cN];exact ub d.drew f _ ab
 obtain⟨c,p⟩:=nm (w.drew.setCells g (0+k*4) (xs.drop ((k+1)*4)));have q:Hy (c=w.drew.setCells g (k*4) (xs.drop ((k+1)*4))):=by rw[p,cN];rfl
 have O:∀ty,(Builtin.clear_ #[108] ty #[.slice (some ⟨g,(k+(n-(k+1)))*4,none⟩) (n-(k+(n-(k+1)))) (cap-(k+(n-(k+1))))]).run Tryz.prog c=.ok (.tuple #[]) (c.setCells g ((n-1)*4) pk):=fun ty=>by
  rw[show k+(n-(k+1))=n-1 from by omega,show n-(n-1)=1 from by omega];(have y:Has c g (.cells (lay cur (k*4) (xs.drop ((k+1)*4))) 141):=by rw[q.o];exact Has.setCells _ d.drew _);exact zM c _ _ ty _ pk Tryz.underlying108 (JX _) JV JW g _ _ (fun j z=>(ub y (by rw[rp,f]) _ (by have e:pk.length=4:=rfl;rw[e]at z;omega)).1) (fun j z=>y.frozen _)
 have I:=Hd p
 have P:k+1<=cap:=ab
 have Q:k<=cap:=ab
 have g1:(0:Int)<=(k:Int)+1:=ab
 have g2:(k:Int)+1<=(n:Int):=ab
 unfold maxLen at x
 clear p h d f a i r s
 go_enter Tryz.func80,Tryz.ntmps80
 go_wp2_with fail
 go_region_law (refine step_append_room rfl (.tmp 22) (.tmp 25) 108 rfl 141 i0 4 Tryz.underlying108 C D g 0 k cap (by simp[Act.eval,Act.put]) A (n-(k+1)) (cap-(k+1)) (xs.drop ((k+1)*4)) (by simp[Act.eval,Act.put]) s1.o m.o s2.o ab H.o ?_;rw[<- I.o])
 go_wp2;go_ret;refine⟨_,rfl,rfl,?_,?_⟩
 ·show Row own T (c.setCells g ((n-1)*4) pk) _ 4 (.slice (some ⟨g,0,none⟩) (k+(n-(k+1))) cap) _ _;rw[show k+(n-(k+1))=n-1 from by omega,q.o];exact HC.o
 rw[q.o];exact F.o
def lL (l:List It) (o:Int):List It:=l.eraseP (fun x=>decide (x.obj=o))
theorem Bt (l:List It) (o:Int):(∃(k:Nat) (x:It),l[k]?=some x/\x.obj=o/\findAt l o=k/\k<l.length/\lL l o=l.eraseIdx k/\l.find? (fun x=>decide (x.obj=o))=some x)\/(findAt l o = -1/\lL l o=l/\l.find? (fun x=>decide (x.obj=o))=none):=by
 unfold findAt lL;rw[List.eraseP_eq_eraseIdx]
 cases h:l.findIdx? (fun x=>decide (x.obj=o))with
 |none =>
  right;refine⟨rfl,rfl,?_⟩;rw[List.find?_eq_none];rw[List.findIdx?_eq_none_iff]at h;intro x c;simpa using h x c
 |some k =>
  left;obtain⟨a,b,d⟩:=List.findIdx?_eq_some_iff_getElem.1 h;refine⟨k,l[k],ay a,by simpa using b,rfl,a,rfl,?_⟩;rw[List.find?_eq_some_iff_getElem];exact⟨b,k,a,rfl,fun j e=>by simpa using d j e⟩
variable {v:Value}
theorem kT.below {own:Nat->Nat} {T:Nat} {w w':World} {l:List It} (h:kT own T w v l) (hb:BB w w'):kT own T w' v l:=Row.below h hb
def lf (own:Nat->Nat) (T b q:Nat) (cs:Array Value) (t:TypeId) (l:List It) (w w':World):Prop:=
 ∃a c,Ext w own a/\eJ (fun k=>k=b\/own k=T) w w'/\Has w' b (.cells (cs.setIfInBounds q c) t)/\kT a T w' c l
theorem uK {cs:Array Value} {o:Nat} (h:cs[o]?=some v):cs.setIfInBounds o v=cs:=by
 apply Array.ext_getElem?;intro i;rw[dL];split
 ·rename_i e;subst e;rw[if_pos (cM.1 h).1,h]
 rfl
theorem Bu (own:Nat->Nat) (T b q:Nat) (cs:Array Value) (t:TypeId) (v:Value) (l:List It) (o:Int) (w:World) (f:Has w b (.cells cs t)) (c0:cs[q]?=some v) (hb:own b≠T) (h:kT own T w v l) :
 Calls Tryz.prog 77 #[VP b q,VI o] w fun e w'=>e=.returned (.tuple #[])/\lf own T b q cs t (lL l o) w w':=by
 have G:CC w b q v:=(f.cell q).trans c0;have F:=Hd (xJ own T b q v l o w G h);have s:=f.lt;rcases Bt l o with⟨k,x,u,P,j,H,hd,-⟩|⟨j,hd,-⟩
 ·obtain⟨g,cap,cur,rfl,I,Q,ZO,R,S,y⟩:=h.shape ab;(have J:g≠b:=by rintro rfl;exact hb I);have HB:=Hd f;have z:=Hd c0;have n:=Hd h;have A:=Hd hd;have B:=Hd j;unfold maxLen at R;have U:l.length<=9223372036854775807:=ab;have V:(k:Int)+1<=l.length:=ab;have W:¬((k:Int)<0):=ab;clear f c0 h hd j u P I Q S y;(go_enter Tryz.func77,Tryz.ntmps77);(go_wp2_with fail);refine F.o.mono ?_;rintro e K ⟨rfl,i⟩;rw[B.o];have X:CS K b q g l.length cap:=(i.cell (p:=⟨b,q,none⟩) s).trans G;have d:=Hd i;clear i;(go_wp2_with fail);refine (uJ own T _ l.length k (js l) _ (n.o.below d.o) H (uI l)).mono ?_;rintro e C ⟨Y,rfl,L,Qs,D⟩
  obtain⟨ag,Z,cg,rfl⟩:∃a m c,Y=.slice a m c:=by
   exact abl
  have M:∀k,k≠g->¬((Value.slice (some ⟨g,0,none⟩) l.length cap).ownBlock=some k):=fun k u e=>u (by simpa[Value.ownBlock]using e.symm)
  have r:Has C b (.cells cs t):=D.has (HB.o.below d.o s) (M _ (Ne.symm J))
  have k2:CS C b q g l.length cap:=(r.cell q).trans z.o
  have f2:C.frozen? ⟨b,q,none⟩=false:=r.frozen q
  have HV:=Hd L
  have N:=Hd Qs
  have Qo:=Hd D
  have Qk:=Hd r
  clear L Qs D r M X
  go_wp2_with fail
  go_end0
  refine⟨rfl,own,.slice ag Z cg,Ext.refl _ _,?_,Qk.o.fQ q _,?_⟩
  ·refine ((((eJ.refl _ w).jl d.o (ax _)).trans Qo.o (fun E _ e=>.inr ?_)).setCell (p:=⟨b,q,none⟩) (.inr (.inl rfl)) _);exact n.o.2 E e
  rw[A.o];have e1:(l.eraseIdx k).length=l.length-1:=cD H;have e2:cut 4 k (js l)=js (l.eraseIdx k):=tZ 4 k _ (fun _=>rfl) l;unfold kT;rw[e1,<- e2];refine⟨oa N.o.1 fun E O=>?_,N.o.2⟩;rw[HV.o]at O;(have:g=E:=by simpa[Value.ownBlock]using O);subst this;exact Below.heap_setCell _ _ _ _ J
 have B:=Hd j
 have HB:=Hd f
 have z:=Hd c0
 have n:=Hd h
 have A:=Hd hd
 clear f c0 h hd j
 go_enter Tryz.func77,Tryz.ntmps77
 go_wp2_with fail
 refine F.o.mono ?_
 rintro e K ⟨rfl,i⟩
 rw[B.o]
 have d:=Hd i
 clear i
 go_wp2_with fail
 go_end0
 refine⟨rfl,own,v,Ext.refl _ _,(eJ.refl _ w).jl d.o (ax _),?_,?_⟩
 ·rw[uK z.o];exact HB.o.below d.o s
 rw[A.o];exact n.o.below d.o
theorem JY (own:Nat->Nat) (T b q:Nat) (cs:Array Value) (t:TypeId) (v:Value) (w:World) (a:Has w b (.cells cs t)) (c0:cs[q]?=some v) :
 Calls Tryz.prog 76 #[VP b q] w fun e w'=>e=.returned (.tuple #[])/\lf own T b q cs t [] w w':=by
 have c:CC w b q v:=(a.cell q).trans c0
 have f0:w.frozen? ⟨b,q,none⟩=false:=a.frozen q
 have HB:=Hd a
 clear a c0
 go_enter Tryz.func76,Tryz.ntmps76
 go_wp2_with fail
 go_end0
 exact⟨rfl,own,.slice none 0 0,Ext.refl _ _,(eJ.refl _ w).setCell (p:=⟨b,q,none⟩) (.inr (.inl rfl)) _,HB.o.fQ q _,Row.nil _ _ _ _ _⟩
end cache
end Go.Proofs.YtjhdaojclilakaaGreatDoor
