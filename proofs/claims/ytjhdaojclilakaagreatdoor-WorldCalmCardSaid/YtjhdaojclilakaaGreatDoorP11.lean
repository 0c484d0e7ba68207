/-
  A part of the proof of the law WorldCalm: Law, ListArg, Wire1, Wire2, StepArg.
-/
import Derived.Test.YtjhdaojclilakaaGreatDoorRows
import Derived.WalkKit
import Derived.ProofKit
import Derived.OpenShut
import Derived.Carry
import Derived.ChangeSame
import Derived.Deep.Fields
import Derived.Deep.Slices
import Derived.ChangeSlices
import Derived.RegionTactic
import Derived.ChangeAlike
import Derived.StillTailTactics
import Derived.Deep.Draws
import Derived.OwnWalk
import Derived.Lib.AppendStr
import Derived.Test.YtjhdaojclilakaaGreatDoorHd
import Derived.Test.YtjhdaojclilakaaGreatDoorP05
import Derived.Test.YtjhdaojclilakaaGreatDoorP06
set_option maxHeartbeats 16000000
set_option maxRecDepth 1000000
namespace Go.Proofs.YtjhdaojclilakaaGreatDoor
section
variable {p q:Prop}
theorem aa2 (h:p:=by
 go_ret;exact⟨rfl,(Below.refl _ _).alloc (ax _) _⟩):p:=h
theorem abz (z:q) (h:Hy q->p:=by
 intro zz;have Qp:Below (w1.heap.size+1) w' w2:=(hbel.alloc YB _).grown QF ah (uQ HO.o);(have TK:w1.heap.size+1<=w2.heap.size:=by have:=Qp.size;have:=Qw.o;omega);have d8:CC w2 w.heap.size 8 (.string ⟨s.toArray⟩):=(Qp.cell (p:=⟨w.heap.size,8,none⟩) ah).trans (H2.o.cell 8);have ZQ:=Hd PJ;revert Qp TK d8 ZQ;exact zz.o):p:=h z
theorem acd (h:p:=by
 refine cast (congrArg (fun xs=>w3.ownsRow (w1.heap.size+1) 5 1 v3 (n+2+s.length) xs) ?_) QZ;simp[lj,BI,eL.iG,oL]):p:=h
end
namespace law
open Go.ChangeShapes Go.WideShapes Go.RowKit Go.Deep
theorem own:ownKnob Tryz.prog.godebug=none:=af
theorem laidOut:laidOutB Tryz.prog=true:=af
section
variable {H:Type} {enc:TypeId×Value->H}
theorem Dy {W j:World} (hb:BB W j):∀(a:List TypeId) (vs:List Value) (c:List (DataW H)) (ps:List MemPlace),
 (∀t∈a,Tryz.prog.readableRec t=true/\t<Tryz.prog.types.size)->(∀p∈ps,p.block<W.heap.size) ->
 DataW.TrodAll enc Tryz.prog W 0 (fun _=>true) true a vs c ps->DataW.TrodAll enc Tryz.prog j 0 (fun b=>decide (b<W.heap.size)) true a vs c ps
 | [],vs,c,ps,_,_,h=>by
  obtain⟨rfl,rfl,rfl⟩:=trodAll_nil h;exact trodAll_mk0
 |t::a,vs,c,ps,e,k,h=>by
  obtain⟨v,f,d,g,p,q,rfl,rfl,rfl,l,m⟩:=trodAll_cons h
  exact trodAll_cons_mk (Below.trod laidOut (e t ae).1 (e t ae).2 l hb (fun x i=>k x (by simp[i])))
   (Dy hb a f g q (fun t ht=>e t (by simp[ht])) (fun x i=>k x (by simp[i])) m)
theorem MX {f:Func} {s:ChangeSpec} {apart fresh handsOn:Bool} {W e:World} {args:Array Value} {a gs:List (DataW H)} {before:List MemPlace}
 (c:DataW.Whole enc Tryz.prog f.params.toList s.vars apart W args.toList a gs before) (hv:s.vars=[]) (g:f.resultTypes=#[4])
 (i:∀t∈f.params.toList,Tryz.prog.readableRec t=true/\t<Tryz.prog.types.size)
 (hs:∀gs,gs=[]->(s.fn H (a++gs))={results:=[.lit (.bool true)],args:=a}) (hb:BB W e) :
 s.post enc Tryz.prog f apart fresh handsOn false W args (.bool true) e:=by
 have j:∀p∈before,p.block<W.heap.size:=fun p hp=>c.lt p hp;have k:=c;obtain⟨p,q,d,hV,rfl,l,n⟩:=c;have m:DataW.TrodAll enc Tryz.prog W 0 (fun _=>true) true f.params.toList args.toList a p:=d;rw[hv]at hV;obtain⟨rfl,rfl⟩:=trodVars_none hV;refine⟨a,[],_,[],p,[],k,?_,?_,?_,World.keptBut_mono (fun x b=>⟨b,?_⟩) (hb.frame (·∈p++[])),fun h=>by cases h⟩
 ·rw[hs [] rfl,g];exact trodAll_cons_mk (shut_bool Tryz.underlying4 _) trodAll_mk0
 ·rw[hs [] rfl];exact Dy hb _ _ _ _ i (fun x b=>j x (by simp[b])) m
 ·rw[hs [] rfl,hv];rfl
 exact Or.inr (by simpa using b)
end
end law
namespace law
open Go.ChangeShapes Go.WideShapes Go.RowKit Go.Deep heap
structure Dz (Pd:List Value->Prop) (w:World) (size:Nat) (a:Option Addr) (n:Nat) (l:List (List Value)):Prop where
 len:l.length=n
 each:∀r∈l,Pd r/\r.length=size
 cells:0<n->∃b o,a=some ⟨b,o,none⟩/\b<w.heap.size/\∀(i:Nat) r,l[i]?=some r->∀(j:Nat) u,r[j]?=some u->CC w b (o+i*size+j) u
theorem MY {H:Type} {enc:TypeId×Value->H} {w:World} {base:Nat} {spare:Nat->Bool} {held:Bool} {fuel:Nat} {cs:List Value} {x:DataW H×List MemPlace} {G e:TypeId} (size:Nat) (hu:Tryz.prog.underlying G=some (.slice e)) (he:Tryz.prog.cellsOf e=size) (hp:0<size)
 (v:List Value->Prop) (N:∀(fuel:Nat) (cs:List Value) (x:DataW H×List MemPlace),cs.length=size->DataW.trod enc Tryz.prog w base spare held fuel e cs=some x->v cs)
 (h:DataW.trod enc Tryz.prog w base spare held fuel G cs=some x):∃(a:Option Addr) (n c:Nat) (l:List (List Value)),cs=[.slice a n c]/\Dz v w size a n l/\n<=c/\c<=maxLen:=by
 rcases open_slice hu h with⟨rfl,-⟩|⟨a,len,cap,m,Q,D,R,rfl,-,q,I,hm,-,f⟩
 ·exact⟨none,0,0,[],rfl,⟨rfl,fun r d=>(by cases d),fun h=>absurd h (Nat.lt_irrefl 0)⟩,ax _,by simp[maxLen]⟩
 rw[he]at f;(have S:len<=m:=by rw[hm];split<;>omega);rcases bQ len with t|t
 ·exact⟨some a,len,cap,[],rfl,⟨by rw[t];rfl,fun r d=>(by cases d),fun h=>ab⟩,q,I⟩
 obtain⟨b,o,spot⟩:=a;obtain⟨y,J,-⟩:=f 0 ab;rw[Nat.zero_mul]at J;obtain⟨-,K,z⟩:=World.cells?_some J;have d0:=z 0 ab
 have A:spot=none:=by
  have:w.cell? (((⟨b,o,spot⟩:Addr).add 0).add 0)=some (y[0]'(by omega)):=d0.trans (ay ab);simpa[Addr.add]using World.cell?_spot this
 subst A;have L:∀i j,((⟨b,o,none⟩:Addr).add i).add j=⟨b,o+i+j,none⟩:=fun i j=>by by_cases t:i=0<;>by_cases p:j=0<;>simp[Addr.add,t,p]
 have hb:b<w.heap.size:=by
  rcases bk b w.heap.size with B|B
  ·exact B
  have e:=d0.trans (ay ab);rw[L]at e;simp[World.cell?,Array.getElem?_eq_none B]at e
 have hex:∀k,k<=len->∃l:List (List Value),l.length=k/\(∀r∈l,v r/\r.length=size)/\∀(i:Nat) r,l[i]?=some r->∀(j:Nat) u,r[j]?=some u->w.cell? ⟨b,o+i*size+j,none⟩=some u:=by
  intro k
  induction k with
  |zero=>intro _;exact⟨[],rfl,fun r d=>(by cases d),fun i r h=>by simp at h⟩
  |succ k ih =>
   intro T;obtain⟨l,p,C,E⟩:=ih ab;obtain⟨s,hc,ht⟩:=f k ab;obtain⟨-,M,g⟩:=World.cells?_some hc;refine⟨l++[s],by simp[p],fun r d=>?_,fun i r hi j u hj=>?_⟩
   ·rcases aN.1 d with d|d
    ·exact C r d
    rw[aD.1 d];exact⟨N _ _ _ M ht,M⟩
   by_cases F:i<l.length
   ·rw[ba F]at hi;exact E i r hi j u hj
   rw[aR ab]at hi
   have:i=k:=by
    have:=(az.1 hi).1;simp at this;omega
   subst this;rw[p,dA]at hi;(obtain rfl:s=r:=by simpa using hi);obtain⟨O,P⟩:=az.1 hj;have e:=g j ab;rw[L]at e;rw[e,hj]
 obtain⟨l,p,C,E⟩:=hex len (ax _);exact⟨some ⟨b,o,none⟩,len,cap,l,rfl,⟨p,C,fun _=>⟨b,o,rfl,hb,E⟩⟩,q,I⟩
end law
namespace fD
open Go.RowKit heap
abbrev ju (a b c d e f g:Int) (l:Bool) (s:ByteArray):Array Value:=#[VI a,VI b,VI c,VI d,VI e,VI f,VI g,.bool l,.string s]
def ot (b:Nat):Array Value:=#[VP b 0,VP b 1,VP b 2,VP b 3,VP b 4,VP b 5,VP b 6]
theorem xw (b:Nat) (w:World) :
 Calls Tryz.prog 66 #[VP b 0] w fun e w'=>e=.returned (.slice (some ⟨w.heap.size,0,none⟩) 7 7)/\w'=(w.alloc (.cells (ot b) 135)).drew:=by
 go_enter Tryz.func66,Tryz.ntmps66
 go_wp2
 go_region
 go_wp2;go_ret;exact⟨rfl,rfl⟩
theorem AP (n:Int) (a:Addr) (w:World) (hc:w.cell? a=some (VI n)) :
 Calls Tryz.prog 87 #[.pointer (some a)] w fun e w'=>e=.returned (.bool (!jm n))/\w=w':=by
 by_cases b:n<0
 ·(go_enter Tryz.func87,Tryz.ntmps87);go_wp2;go_ret;exact⟨by simp[jm];omega,rfl⟩
 by_cases c:1099511627776<n
 ·(go_enter Tryz.func87,Tryz.ntmps87);go_wp2;go_ret;exact⟨by simp[jm];omega,rfl⟩
 have d:decide (1099511627776<n)=false:=ah;have f:decide (n<0)=false:=ah;have g:n<=1099511627776:=ab;have h:0<=n:=ab;(go_enter Tryz.func87,Tryz.ntmps87);go_wp2;go_ret;exact⟨by simp[jm];omega,rfl⟩
theorem I1 (ns:List Int) (k:Nat) (h:(ns.take k).all jm=true) (a:jm (ns.getD k 0)=true) (b:k<ns.length):(ns.take (k+1)).all jm=true:=by
 rw[dB b,List.all_append,h];simp[List.getD,b]at a;simp[a]
theorem I2 (ns:List Int) (k:Nat) (a:jm (ns.getD k 0)=false) (b:k<ns.length):ns.all jm=false:=by
 rw[List.all_eq_false];refine⟨ns[k],bO b,?_⟩;simp[List.getD,b]at a;simp[a]
theorem rr (g b:Nat) (ns:List Int) (w:World) (h:ns.length=7)
 (hp:∀k,k<7->CP w g k b k) (d:∀k,k<7->CI w b k (ns.getD k 0)) :
 Calls Tryz.prog 118 #[.slice (some ⟨g,0,none⟩) 7 7,.func (.func 87) #[] #[]] w fun e w'=>∃r:Int,e=.returned (VI r)/\(decide (0<=r)=!(ns.all jm))/\w=w':=by
 have f:=Hd h
 clear h
 go_enter Tryz.func118,Tryz.ntmps118
 go_wp2
 go_loop [8,5] (fun i _=>∃k:Nat,k<=7/\i=VI k/\(ns.take k).all jm=true) (fun i _=>7-(intOf i).toNat)
 case atStart=>exact⟨0,ab,rfl,rfl⟩
 case round =>
  obtain⟨k,m,rfl,j⟩:=hrel;have l:=Hd j;clear j;by_cases c:k<7
  ·have c1:=hp k c;have c2:=d k c;have n:=Hd d;have p:=Hd hp;clear d hp;cases Rw:jm (ns.getD k 0)
   ·have a:=Hd Rw;clear Rw;(go_wp2_with (go_at_call 87;refine (AP _ _ _ c2).mono ?_;rintro e w' ⟨rfl,rfl⟩;rw[a.o]));go_ret;refine⟨_,rfl,?_,rfl⟩;rw[I2 ns k a.o (by rw[f.o];exact c)];simp
   have a:=Hd Rw
   clear Rw
   go_wp2_with (go_at_call 87;refine (AP _ _ _ c2).mono ?_;rintro e w' ⟨rfl,rfl⟩;rw[a.o])
   go_round
   (case rel=>exact⟨k+1,ab,by go_num,I1 ns k l.o a.o (by rw[f.o];exact c)⟩);case measure=>simp[intOf];omega
  (obtain rfl:k=7:=by omega);go_wp2;go_ret;refine⟨_,rfl,?_,rfl⟩;have:=l.o;rw[bB (by rw[f.o];exact ax _)]at this;rw[this];rfl
theorem uk (g b:Nat) (ns:List Int) (w:World) (a:ns.length=7)
 (hp:∀k,k<7->CP w g k b k) (c:∀k,k<7->CI w b k (ns.getD k 0)) :
 Calls Tryz.prog 86 #[.slice (some ⟨g,0,none⟩) 7 7,.func (.func 87) #[] #[]] w fun e w'=>e=.returned (.bool (!(ns.all jm)))/\w=w':=by
 have C:=Hd (rr g b ns w a hp c);clear a hp c;(go_enter Tryz.func86,Tryz.ntmps86);(go_wp2_with fail);refine C.o.mono ?_;rintro e w' ⟨r,rfl,d,rfl⟩;have HR:=Hd d;clear d;(go_wp2_with fail);go_ret;exact⟨by rw[<- HR.o];rfl,rfl⟩
theorem xx (g b k:Nat) (w:World) (h:Has w g (.cells (ot b) 135)) (a:k<7):w.cell? ⟨g,k,none⟩=some (VP b k):=by
 rw[h.cell]
 match k,a with
 |0,_|1,_|2,_|3,_|4,_|5,_|6,_=>rfl
theorem ux {w:World} {b:Nat} {a a2 a3 a4 a5 c d:Int} {l:Bool} {s:ByteArray} (h:Has w b (.cells (ju a a2 a3 a4 a5 c d l s) 93)) (k:Nat) (e:k<7) :
 w.cell? ⟨b,k,none⟩=some (VI ([a,a2,a3,a4,a5,c,d].getD k 0)):=by
 rw[h.cell]
 match k,e with
 |0,_|1,_|2,_|3,_|4,_|5,_|6,_=>rfl
def eL.val (m:eL):Value:=.agg (ju m.eO m.eI m.eK m.eS m.fx m.eF m.fJ m.gE ⟨m.data.toArray⟩)
theorem lH (m:eL) (w:World) (hs:m.data.length<=9223372036854775807) :
 Calls Tryz.prog 67 #[m.val] w fun e w'=>e=.returned (.bool m.right)/\BB w w':=by
 obtain⟨a,a2,a3,a4,a5,b,c,l,s⟩:=m;simp only at hs;have f:(ByteArray.mk s.toArray).size=s.length:=rfl;by_cases c1:1<=a
 ·by_cases c2:a<=9
  ·by_cases c3:s.length<=20
   ·have e:eL.right {eO:=a,eI:=a2,eK:=a3,eS:=a4,fx:=a5,eF:=b,fJ:=c,gE:=l,data:=s}=[a,a2,a3,a4,a5,b,c].all jm:=by
     simp[eL.right,c1,c2,c3,eL.iG]
    rw[e];clear e;have H1:=(((Has.new w (.cells (ju a a2 a3 a4 a5 b c l ⟨s.toArray⟩) 93)).alloc (.cells (ot w.heap.size) 135))).drew;have d:=(Has.new (w.alloc (.cells (ju a a2 a3 a4 a5 b c l ⟨s.toArray⟩) 93)) (.cells (ot w.heap.size) 135)).drew;rw[World.size_alloc]at d;have C:=Hd (uk (w.heap.size+1) w.heap.size [a,a2,a3,a4,a5,b,c] _ rfl (fun k hk=>xx _ _ k _ d hk) (fun k hk=>ux H1 k hk));clear H1 d;unfold eL.val;(go_enter Tryz.func67,Tryz.ntmps67);(go_wp2_with fail);refine (xw _ _).mono ?_;rintro e w' ⟨rfl,rfl⟩;(go_wp2_with fail);refine C.o.mono ?_;rintro e w' ⟨rfl,rfl⟩;(go_wp2_with fail);go_ret;exact⟨ae,(((Below.refl _ _).alloc (ax _) _).alloc ae _).drew⟩
   have e:eL.right {eO:=a,eI:=a2,eK:=a3,eS:=a4,fx:=a5,eF:=b,fJ:=c,gE:=l,data:=s}=false:=by
    simp[eL.right,c3]
   rw[e];clear e;have c4:(20:Int)<s.length:=ab;unfold eL.val;(go_enter Tryz.func67,Tryz.ntmps67);(go_wp2_with fail);exact aa2
  have e:eL.right {eO:=a,eI:=a2,eK:=a3,eS:=a4,fx:=a5,eF:=b,fJ:=c,gE:=l,data:=s}=false:=by
   simp[eL.right,c2]
  rw[e];clear e;have c4:9<a:=ab;unfold eL.val;(go_enter Tryz.func67,Tryz.ntmps67);(go_wp2_with fail);exact aa2
 have e:eL.right {eO:=a,eI:=a2,eK:=a3,eS:=a4,fx:=a5,eF:=b,fJ:=c,gE:=l,data:=s}=false:=by
  simp[eL.right,c1]
 rw[e];clear e;have c4:a<1:=ab;unfold eL.val;(go_enter Tryz.func67,Tryz.ntmps67);(go_wp2_with fail);go_ret;exact⟨rfl,(Below.refl _ _).alloc (ax _) _⟩
def B (c:UInt8):Value:=.int .u8 c.toNat
theorem BF:(Tryz.prog.info? 5).map (fun i=>(i.zero,i.size,i.bytes))=some (some (.int .u8 0),1,1):=af
theorem BG (l:List Int) (h:∀y∈l,0<=y/\y.toNat<128^6):(lI l).length<=6*l.length:=by
 induction l with
 |nil=>simp[lI]
 |cons y l ih =>
  have e1:=zA y.toNat (h y ae).2;have b:=ih fun z hz=>h z (by simp[hz]);(have a:lI (y::l)=kE y.toNat++lI l:=by simp[lI]);rw[a,aE,aL];omega
theorem Kh (q:Nat) (h:128<=q):2<=(kE q).length:=by
 have e:kE q=UInt8.ofNat (q%128+128)::kP 5 (q/128):=by
  simp only[kE,kP];rw[if_neg ab]
 rw[e];have:=Gj 5 (q/128);cases h2:kP 5 (q/128)
 ·exact absurd h2 this
 simp
theorem Ki:∀n:Fin 256,bits BinOp.or IntKind.u8 (n.val:Int) 128=((n.val%128+128:Nat):Int):=by decide +kernel
def qF (q:Nat):UInt8:=UInt8.ofNat (q%128+128)
def oL (q:Nat):UInt8:=UInt8.ofNat q
theorem Kj (q:Nat):bits BinOp.or IntKind.u8 ((q:Int)%256) 128=((qF q).toNat:Int):=by
 have h:=Ki ⟨q%256,Nat.mod_lt _ ab⟩;have e:((q:Int)%256)=((q%256:Nat):Int):=ab;rw[e,h];simp[qF];omega
theorem xO (q:Nat) (h:q<128):(q:Int)=((oL q).toNat:Int):=by
 simp[oL];omega
variable {w:World} {v u:Value} {t e:TypeId}
theorem one_cell (hv:v=u):∀(j:Nat) (x:Value),[u][j]?=some x->(w.alloc (.cells #[v] t)).cell? ((⟨w.heap.size,0,none⟩:Addr).add j)=some x:=by
 subst hv;intro j x a
 match j,a with
 |0,a=>simp at a;subst a;simp[Addr.add]
theorem sS (l:List UInt8):∀u∈l.map B,u.oneCell'=true:=by
 intro u hu;obtain⟨c,_,rfl⟩:=aW.1 hu;rfl
theorem xP {b:Value} {c:Value} (hv:v=u) (d:b=c):∀(j:Nat) (x:Value),[u,c][j]?=some x->(w.alloc (.cells #[v,b] t)).cell? ((⟨w.heap.size,0,none⟩:Addr).add j)=some x:=by
 subst hv;subst d;intro j x a
 match j,a with
 |0,a=>simp at a;subst a;simp[Addr.add]
 |1,a=>simp at a;subst a;simp[Addr.add]
variable {base size n:Nat} {xs:List Value}
theorem uQ (h:w.ownsRow base e size v n xs):∀g,v.ownBlock=some g->base<=g:=by
 intro g a;rcases h.2 with⟨rfl,_⟩|⟨b,_,_,rfl,h,_⟩
 ·cases a
 (have:b=g:=by simpa[Value.ownBlock]using a);omega
theorem BH {a:Nat} (h:w.ownsRow base e size v n xs) (hb:a<=base):w.ownsRow a e size v n xs:=by
 refine⟨h.1,?_⟩;rcases h.2 with b|⟨c,cap,cur,d,b,f⟩
 ·exact .inl b
 exact .inr ⟨c,cap,cur,d,ab,f⟩
theorem BI (s:List UInt8):Lib.strCells ⟨s.toArray⟩=s.map B:=by simp[Lib.strCells,B]
theorem Kk (m:eL) (w:World) (N:m.right=true) :
 Calls Tryz.prog 62 #[m.val] w fun e w'=>∃v n,e=.returned (.tuple #[v,.nilIface])/\w'.ownsRow w.heap.size 5 1 v n ((lj m).map B)/\BB w w':=by
 obtain⟨i0,u,A,C,D⟩:=info_parts BF;have nh:=wG N;have HR:=Hd N;clear N;have R:=Hd (lH m);obtain⟨a,a2,a3,a4,a5,b,c,l,s⟩:=m;simp only[eL.val]at R nh;unfold eL.val;(go_enter Tryz.func62,Tryz.ntmps62);(go_wp2_with fail);refine (R.o _ ab).mono ?_;rintro e w1 ⟨rfl,L⟩;rw[HR.o];have U:=(Has.new w (.cells (ju a a2 a3 a4 a5 b c l ⟨s.toArray⟩) 93)).below L ae;have Qt:=L.size;rw[World.size_alloc]at Qt;(go_wp2_with fail);refine (xw _ _).mono ?_;rintro e w' ⟨rfl,F⟩;have V:Has w' w.heap.size _:=F▸(U.alloc (.cells (ot w.heap.size) 135)).drew;have W:Has w' w1.heap.size (.cells (ot w.heap.size) 135):=F▸(Has.new w1 (.cells (ot w.heap.size) 135)).drew;have X:BB w w':=((Below.refl _ _).alloc (ax _) _).trans ((L.mono ae).trans (F▸((Below.refl _ w1).alloc ab _).drew));(have Y:w'.heap.size=w1.heap.size+1:=by rw[F];simp);have Qw:=Hd Y;clear Y F L U;have H2:=Hd V;have H3:=Hd W;clear V W;go_wp2_with fail
 have ok:∀k,k<7->0<=[a,a2,a3,a4,a5,b,c].getD k 0/\[a,a2,a3,a4,a5,b,c].getD k 0<=1099511627776:=by
  intro k Z;apply rf HR.o;simp[List.getD,eL.iG,Z]
 have OK:=Hd ok;clear ok;(go_loopw [4,6,7,15] (fun v _ _ i wr=>∃k n:Nat,k<=7/\i=VI k/\n<=6*k/\wr.ownsRow (w1.heap.size+1) 5 1 v n ((lI ([a,a2,a3,a4,a5,b,c].take k)).map B)/\Below (w1.heap.size+1) w' wr) (fun _ _ _ i _=>7-(intOf i).toNat));case atStart=>exact⟨0,0,ab,rfl,ab,⟨rfl,.inl ⟨rfl,rfl⟩⟩,Below.refl _ _⟩
 case round =>
  obtain⟨k,n,Z,rfl,hn,r,hbel⟩:=hrel;by_cases G:k<7
  ·have c1:=(hbel.cell (p:=⟨w1.heap.size,k,none⟩) ae).trans (xx _ _ _ _ H3.o G);have c2:=(hbel.cell (p:=⟨w.heap.size,k,none⟩) ah).trans (ux H2.o k G);have hx:=OK.o k G;generalize Xq:[a,a2,a3,a4,a5,b,c].getD k 0=x at c2 hx;have HX:=Hd Xq;clear Xq;obtain⟨x0,xM⟩:=hx;obtain⟨x,rfl⟩:=Int.eq_ofNat_of_zero_le x0;have HO:=Hd r;clear r
   have hL:(lI ([a,a2,a3,a4,a5,b,c].take k)).length+(kE x).length<=6*k+6:=by
    have h6:(128^6:Nat)=4398046511104:=aj
    have e1:=BG ([a,a2,a3,a4,a5,b,c].take k) (fun y hy=>by
     have:=rf HR.o y (List.take_subset _ _ hy);refine⟨this.1,?_⟩;rw[h6]
     omega)
    have M:=zA x ab;have e3:([a,a2,a3,a4,a5,b,c].take k).length<=k:=List.length_take_le _ _;omega
   have HL:=Hd hL;clear hL;have hd:decide ((k:Int)<7)=true:=ah;obtain⟨wo,rfl⟩:=nm (wr:World);(go_wp2_with fail);(go_loopw [4,7] (fun v y wq=>∃(q j:Nat) (pre:List UInt8),q+1<=1099511627777/\y=VI q/\j<=6*k+6/\pre++kE q=lI ([a,a2,a3,a4,a5,b,c].take k)++kE x/\wq.ownsRow (w1.heap.size+1) 5 1 v j (pre.map B)/\Below (w1.heap.size+1) w' wq) (fun _ y _=>(intOf y).toNat));case atStart=>exact⟨x,n,_,ab,rfl,ab,rfl,HO.o,hbel⟩
   case round =>
    obtain⟨q,j,pre,hq,rfl,hj,V9,r,f⟩:=hrel;have d:=Hd V9;have E:=Hd r;clear V9 r;by_cases H:128<=q
    ·(go_wp2_with (at_builtin;refine wpList_append_own _ rfl _ _ 58 rfl (w1.heap.size+1) 5 i0 (.int .u8 0) 1 1 Tryz.underlying58 u A C D rfl aj _ _ _ rfl (E.o.alloc _) ⟨wr.heap.size,0,none⟩ 1 1 [B (qF q)] rfl rfl ?c1 ?c2 ?c3 ?c4 ?c5 ?_));(case c1=>exact one_cell (by rw[Kj];rfl));(case c2=>exact sS [_]);(case c3=>unfold maxLen;omega);(case c4=>omega);(case c5=>simp;have:=f.size;have:=Qw.o;omega);intro v2 w2 PJ QF _;have QZ:w2.ownsRow (w1.heap.size+1) 5 1 v2 (j+1) ((pre++[qF q]).map B):=by rw[cF];exact PJ
     have Qp:Below (w1.heap.size+1) w' w2:=(f.alloc (by have:=f.size;have:=Qw.o;omega) _).grown QF (by simp;have:=f.size;have:=Qw.o;omega) (fun g I=>by
      rcases E.o.2 with⟨rfl,_⟩|⟨O,_,_,rfl,h,_⟩
      ·cases I
      have:O=g:=by simpa[Value.ownBlock]using I
      omega)
     have t:=Hd QZ;clear PJ QZ QF
     have hm:j+1<=6*k+6:=by
      have e1:=congrArg List.length d.o;have M:=E.o.1;have e3:=HL.o;have e4:2<=(kE q).length:=Kh q H;simp only[aE,aX]at e1 M;omega
     have J:(pre++[qF q])++kE (q/128)=lI ([a,a2,a3,a4,a5,b,c].take k)++kE x:=by
      rw[<- d.o,Gl q H (by have:(128^6:Nat)=4398046511104:=aj;omega)];simp[qF]
     have P:=Hd J;clear J;go_wp2;go_roundw;(case rel=>exact⟨q/128,j+1,pre++[qF q],ab,by go_num,hm,P.o,t.o,Qp⟩);case measure=>simp[intOf];omega
    (go_wp2_with (at_builtin;refine wpList_append_own _ rfl _ _ 58 rfl (w1.heap.size+1) 5 i0 (.int .u8 0) 1 1 Tryz.underlying58 u A C D rfl aj _ _ _ rfl (E.o.alloc _) ⟨wr.heap.size,0,none⟩ 1 1 [B (oL q)] rfl rfl ?c1 ?c2 ?c3 ?c4 ?c5 ?_));(case c1=>exact one_cell (by rw[xO q ab];rfl));(case c2=>exact sS [_]);(case c3=>unfold maxLen;omega);(case c4=>omega);(case c5=>simp;have:=f.size;have:=Qw.o;omega);intro v2 w2 PJ QF _;have QZ:w2.ownsRow (w1.heap.size+1) 5 1 v2 (j+1) ((pre++[oL q]).map B):=by rw[cF];exact PJ
    have Qp:Below (w1.heap.size+1) w' w2:=(f.alloc (by have:=f.size;have:=Qw.o;omega) _).grown QF (by simp;have:=f.size;have:=Qw.o;omega) (fun g I=>by
     rcases E.o.2 with⟨rfl,_⟩|⟨O,_,_,rfl,h,_⟩
     ·cases I
     have:O=g:=by simpa[Value.ownBlock]using I
     omega)
    have t:=Hd QZ;clear PJ QZ QF
    have R7:lI ([a,a2,a3,a4,a5,b,c].take (k+1))=pre++[oL q]:=by
     have e0:[a,a2,a3,a4,a5,b,c].take (k+1)=[a,a2,a3,a4,a5,b,c].take k++[(x:Int)]:=by
      rw[dB (by simpa using G),<- HX.o];simp[List.getD,G]
     rw[e0];have e1:=d.o;rw[zz q ab]at e1;rw[show [oL q]=[UInt8.ofNat q] from rfl,e1];simp[lI]
    have hm:j+1<=6*(k+1):=by
     have e1:=congrArg List.length d.o;have M:=E.o.1;have e3:=HL.o;(have e4:(kE q).length=1:=by rw[zz q ab];rfl);simp only[aE,aX]at e1 M;omega
    have Q:=Hd R7;clear R7;go_wp2;go_roundw;(case rel=>exact⟨k+1,j+1,ab,by go_num,hm,by rw[Q.o];exact t.o,Qp⟩);case measure=>simp[intOf];omega
  (obtain rfl:k=7:=by omega);have c7:CC wr w.heap.size 7 (.bool l):=(hbel.cell (p:=⟨w.heap.size,7,none⟩) ah).trans (H2.o.cell 7);have c8:CC wr w.heap.size 8 (.string ⟨s.toArray⟩):=(hbel.cell (p:=⟨w.heap.size,8,none⟩) ah).trans (H2.o.cell 8);have HO:=Hd r;clear r;have Q5:(ByteArray.mk s.toArray).size=s.length:=rfl;(have YB:w1.heap.size+1<=wr.heap.size:=by have:=hbel.size;have:=Qw.o;omega);cases l
  ·(go_wp2_with (at_builtin;refine wpList_append_own _ rfl (.tmp 40) (.tmp 46) 58 rfl (w1.heap.size+1) 5 i0 (.int .u8 0) 1 1 Tryz.underlying58 u A C D rfl aj _ _ _ rfl (HO.o.alloc _) ⟨wr.heap.size,0,none⟩ 2 2 [B (pK false),B (oL s.length)] rfl rfl ?c1 ?c2 ?c3 ?c4 ?c5 ?_));(case c1=>exact xP rfl (by rw[xO s.length ab];rfl));(case c2=>exact sS [_,_]);(case c3=>unfold maxLen;omega);(case c4=>omega);(case c5=>simp;omega);intro v2 w2 PJ QF _;refine abz ?_;intro Qp TK d8 ZQ;clear PJ c7 c8 QF;(go_wp2_with (at_builtin;refine Lib.wpList_append_own_string _ rfl (.tmp 48) (.tmp 50) 58 9 rfl (w1.heap.size+1) 5 i0 Tryz.underlying58 Tryz.underlying9 u A C D _ _ _ rfl ZQ.o ⟨s.toArray⟩ rfl ?c6 ?c7 ?c8 ?_));(case c6=>unfold maxLen;omega);(case c7=>omega);(case c8=>exact TK);intro v3 w3 QZ S _;have T:=Qp.grown S TK (uQ ZQ.o)
   have K:w3.ownsRow (w1.heap.size+1) 5 1 v3 (n+2+s.length) ((lj {eO:=a,eI:=a2,eK:=a3,eS:=a4,fx:=a5,eF:=b,fJ:=c,gE:=false,data:=s}).map B):=by
    exact acd
   have t:=Hd K;clear QZ K;go_wp2;go_ret2;exact⟨v3,_,rfl,BH t.o ab,X.trans (T.mono ab)⟩
  (go_wp2_with (at_builtin;refine wpList_append_own _ rfl (.tmp 40) (.tmp 46) 58 rfl (w1.heap.size+1) 5 i0 (.int .u8 0) 1 1 Tryz.underlying58 u A C D rfl aj _ _ _ rfl (HO.o.alloc _) ⟨wr.heap.size,0,none⟩ 2 2 [B (pK true),B (oL s.length)] rfl rfl ?c1 ?c2 ?c3 ?c4 ?c5 ?_));(case c1=>exact xP rfl (by rw[xO s.length ab];rfl));(case c2=>exact sS [_,_]);(case c3=>unfold maxLen;omega);(case c4=>omega);(case c5=>simp;omega);intro v2 w2 PJ QF _;refine abz ?_;intro Qp TK d8 ZQ;clear PJ c7 c8 QF;(go_wp2_with (at_builtin;refine Lib.wpList_append_own_string _ rfl (.tmp 48) (.tmp 50) 58 9 rfl (w1.heap.size+1) 5 i0 Tryz.underlying58 Tryz.underlying9 u A C D _ _ _ rfl ZQ.o ⟨s.toArray⟩ rfl ?c6 ?c7 ?c8 ?_));(case c6=>unfold maxLen;omega);(case c7=>omega);(case c8=>exact TK);intro v3 w3 QZ S _;have T:=Qp.grown S TK (uQ ZQ.o)
  have K:w3.ownsRow (w1.heap.size+1) 5 1 v3 (n+2+s.length) ((lj {eO:=a,eI:=a2,eK:=a3,eS:=a4,fx:=a5,eF:=b,fJ:=c,gE:=true,data:=s}).map B):=by
   exact acd
  have t:=Hd K;clear QZ K;go_wp2;go_ret2;exact⟨v3,_,rfl,BH t.o ab,X.trans (T.mono ab)⟩
theorem Kl (m:eL) (w:World) (a:m.right=false) (hs:m.data.length<=9223372036854775807) :
 Calls Tryz.prog 62 #[m.val] w fun e w'=>e=.returned (.tuple #[.slice none 0 0,.iface 70 (VI 1)])/\BB w w':=by
 have HR:=Hd a;clear a;have R:=Hd (lH m);obtain⟨c,a2,a3,a4,a5,d,f,l,s⟩:=m;simp only[eL.val]at R hs;unfold eL.val;(go_enter Tryz.func62,Tryz.ntmps62);(go_wp2_with fail);refine (R.o _ hs).mono ?_;rintro e g ⟨rfl,b⟩;rw[HR.o];(go_wp2_with fail);go_ret2;exact⟨rfl,((Below.refl _ _).alloc (ax _) _).trans (b.mono ae)⟩
end fD
namespace fc
open Go.ChangeShapes Go.WideShapes Go.RowKit Go.Deep heap
def Step.cells (x:Step):List Value:=[.int .i64 x.fz,.int .i64 x.k,.int .i64 x.a,.int .i64 x.b]
def yq (cs:List Value):Prop:=∃x:Step,cs=x.cells
theorem MZ {H:Type} {enc:TypeId×Value->H} {w:World} {base:Nat} {spare:Nat->Bool} {held:Bool} {fuel:Nat} {cs:List Value} {x:DataW H×List MemPlace}
 (b:cs.length=4) (h:DataW.trod enc Tryz.prog w base spare held fuel 34 cs=some x):yq cs:=by
 obtain⟨xs,n,-,-,j,hlen,a⟩:=DataW.trod_struct Tryz.underlying34 h
 match cs,b with
 | [c0,c1,c2,c3],_ =>
  have c:xs.length=4:=hlen
  match xs,c with
  | [d,e,f,g],_ =>
   have e1:Tryz.prog.cellsOf 3=1:=af;have g0:DataW.trod enc Tryz.prog w base spare held n 3 (([c0,c1,c2,c3].drop 0).take (Tryz.prog.cellsOf 3))=some d:=a 0 _ rfl;have g1:DataW.trod enc Tryz.prog w base spare held n 3 (([c0,c1,c2,c3].drop 1).take (Tryz.prog.cellsOf 3))=some e:=a 1 _ rfl;have g2:DataW.trod enc Tryz.prog w base spare held n 3 (([c0,c1,c2,c3].drop 2).take (Tryz.prog.cellsOf 3))=some f:=a 2 _ rfl;have g3:DataW.trod enc Tryz.prog w base spare held n 3 (([c0,c1,c2,c3].drop 3).take (Tryz.prog.cellsOf 3))=some g:=a 3 _ rfl;rw[e1]at g0 g1 g2 g3;obtain⟨a0,f0,-,-⟩:=DataW.trod_int Tryz.underlying3 g0;obtain⟨i,f1,-,-⟩:=DataW.trod_int Tryz.underlying3 g1;obtain⟨a2,f2,-,-⟩:=DataW.trod_int Tryz.underlying3 g2;obtain⟨a3,f3,-,-⟩:=DataW.trod_int Tryz.underlying3 g3;simp only[List.drop_zero,List.drop_succ_cons,dX,List.take_zero,List.cons.injEq,and_true]at f0 f1 f2 f3;subst f0 f1 f2 f3;exact⟨⟨a0,i,a2,a3⟩,rfl⟩
end fc
end Go.Proofs.YtjhdaojclilakaaGreatDoor
