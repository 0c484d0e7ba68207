/-
  A part of the proof of the law WorldCalm: MapOf.
-/
import Derived.WideKeyPair
import Derived.Maps.OwnOps
import Derived.Maps.OwnSet
import Derived.Maps.RangeWalk
import Derived.Test.YtjhdaojclilakaaGreatDoorHd
import Derived.Test.YtjhdaojclilakaaGreatDoorP02
import Derived.Test.YtjhdaojclilakaaGreatDoorP06
set_option maxHeartbeats 16000000
set_option maxRecDepth 1000000
namespace Go.Proofs.YtjhdaojclilakaaGreatDoor
namespace gO
open Go.RowKit Go.WideMaps heap own eY
structure lJ (P:Program) (κ ε:Type) where
 K:TypeId
 e:TypeId
 t:TypeId
 kv:κ->Value
 kl:κ->Lit
 jb:κ->Prop
 ev:ε->Value
 ed:ε->DataW Unit
 lU:ε->Prop
 z:ε
 R:Value->Option (DataW Unit×List MemPlace)
 keyed:Maps.Keyed P K
 ht:P.underlying t=some (.map K e)
 key:∀k,jb k->keyOf P K (kv k)=some (kl k)
 pM:∀v l,keyOf P K v=some l->∃k,v=kv k/\l=kl k/\jb k
 elem:∀x,lU x->R (ev x)=some (ed x,[])
 rh:∀v y,R v=some y->∃x,v=ev x/\y=(ed x,[])/\lU x
 rm:∀k k',kv k=kv k'->k=k'
 sH:∀x x',ed x=ed x'->x=x'
 zero:∀w,(zeroValue e).run P w=.ok (ev z) w
 sI:lU z
section
variable {κ ε:Type} [DecidableEq κ]
theorem sC {k:κ}:∀(l:List (κ×ε)),fw k (del k l)=none
 | []=>rfl
 |(x,v)::l=>by
  unfold del;by_cases h:x=k
  ·rw[if_pos h];exact sC l
  rw[if_neg h];unfold fw;rw[if_neg h];exact sC l
theorem sD {k a:κ} (c:a≠k):∀(l:List (κ×ε)),fw a (del k l)=fw a l
 | []=>rfl
 |(x,v)::l=>by
  unfold del;by_cases h:x=k
  ·rw[if_pos h]
   conv=>rhs;unfold fw
   rw[if_neg (fun e=>c (by rw[<- e,h]))];exact sD c l
  rw[if_neg h];unfold fw;by_cases b:x=a
  ·rw[if_pos b,if_pos b]
  rw[if_neg b,if_neg b];exact sD c l
theorem tU (k:κ):∀(l:List (κ×ε)),del k l=l.filter fun p=>decide (p.1≠k)
 | []=>rfl
 |(x,v)::l=>by
  unfold del;by_cases h:x=k
  ·rw[if_pos h,cB (by simp[h])];exact tU k l
  rw[if_neg h,cC (by simp[h]),tU k l]
theorem qt (k:κ) (l:List (κ×ε)):(del k l).Sublist l:=by rw[tU];exact dE
theorem qu {k:κ}:∀(l:List (κ×ε)),(fw k l).isSome=true↔k∈l.map (·.1)
 | []=>by simp[fw]
 |(x,v)::l=>by
  unfold fw;rw[aY,aH];by_cases h:x=k
  ·rw[if_pos h];simp[h]
  rw[if_neg h,qu l];constructor
  ·exact .inr
  rintro (e|e)
  ·exact absurd e.symm h
  exact e
theorem tV {k:κ} {v:ε}:∀(l:List (κ×ε)),fw k l=some v->(k,v)∈l
 | [],h=>by cases h
 |(x,u)::l,h=>by
  unfold fw at h;by_cases a:x=k
  ·rw[if_pos a]at h;rw[<- a,<- aA h];exact aK ..
  rw[if_neg a]at h;exact aI _ (tV l h)
theorem wH {k:κ} {v:ε}:∀(l:List (κ×ε)),(l.map (·.1)).Nodup->(k,v)∈l->fw k l=some v
 | [],_,h=>by cases h
 |(x,u)::l,a,h=>by
  rw[aY,cE]at a;unfold fw;rcases aH.1 h with e|h
  ·obtain⟨rfl,rfl⟩:=Prod.mk.inj e;rw[if_pos rfl]
  have:x≠k:=fun e=>a.1 (e▸aW.2 ⟨(k,v),h,rfl⟩);rw[if_neg this];exact wH l a.2 h
theorem wI (k:κ):∀(l:List (κ×ε)),(l.map (·.1)).Nodup->(del k l).length+(if (fw k l).isSome then 1 else 0)=l.length
 | [],_=>rfl
 |(x,v)::l,a=>by
  rw[aY,cE]at a;have ih:=wI k l a.2;unfold del fw;by_cases h:x=k
  ·rw[if_pos h,if_pos h]
   have b:fw k l=none:=by
    cases hs:fw k l with
    |none=>rfl
    |some y=>exact absurd (h▸(qu l).1 (by rw[hs];rfl)) a.1
   rw[b]at ih;simp at ih⊢;exact ih
  rw[if_neg h,if_neg h];simp only[aL];omega
theorem zB {k:κ} {v:ε} {l:List (κ×ε)}:fw k (put k v l)=some v:=by simp[put,fw]
theorem zC {k a:κ} {v:ε} {l:List (κ×ε)} (h:a≠k):fw a (put k v l)=fw a l:=by
 unfold put
 conv=>lhs;unfold fw
 rw[if_neg (fun e=>h e.symm),sD h]
end
section
variable {P:Program} {κ ε:Type} (S:lJ P κ ε)
theorem lJ.pL {k a:κ} (h:S.jb k) (b:S.jb a) (e:S.kl k=S.kl a):k=a:=
 S.rm _ _ (S.keyed.inj (S.key k h) (e▸S.key a b))
theorem lJ.isKey {k:κ} (h:S.jb k):WideAt.IsKeyLit (S.kl k):=S.keyed.key (S.key k h)
end
section
variable {P:Program} {κ ε:Type} [DecidableEq κ] (S:lJ P κ ε)
structure Reads (D:DataW Unit) (l:List (κ×ε)):Prop where
 tidy:Maps.Tidy D
 ok:∀p∈l,S.jb p.1/\S.lU p.2
 nodup:(l.map (·.1)).Nodup
 size:Maps.size D=l.length
 at_:∀k,S.jb k->D.atKey (S.kl k) (S.ed S.z)=S.ed ((fw k l).getD S.z)
 has:∀k,S.jb k->Maps.has D (S.kl k)=(fw k l).isSome
variable {S}
theorem Reads.empty:Reads S (.map []) []:=⟨Maps.tidy_empty,(fun _ h=>by cases h),List.Pairwise.nil,rfl,fun _ _=>rfl,fun _ _=>rfl⟩
theorem Reads.del {D:DataW Unit} {l:List (κ×ε)} (h:Reads S D l) {k:κ} (a:S.jb k):Reads S (D.del (S.kl k)) (eY.del k l):=by
 refine⟨h.tidy.del _,fun p hp=>h.ok p ((qt _ _).subset hp),h.nodup.sublist ((qt _ _).map _),?_,fun k' RM=>?_,fun k' RM=>?_⟩
 ·have b:=Maps.size_del (k:=S.kl k) h.tidy;have c:=wI k l h.nodup;rw[h.has k a,h.size]at b;omega
 ·by_cases he:k'=k
  ·subst he;rw[Maps.atKey_del_same,sC];rfl
  rw[Maps.atKey_del_other (fun e=>he (S.pL RM a e)),sD he];exact h.at_ k' RM
 by_cases he:k'=k
 ·subst he;rw[Maps.has_del_same,sC];rfl
 rw[Maps.has_del_other (fun e=>he (S.pL RM a e)),sD he];exact h.has k' RM
theorem Reads.put {D:DataW Unit} {l:List (κ×ε)} (h:Reads S D l) {k:κ} {u:ε} (a:S.jb k) (hu:S.lU u):Reads S (D.put (S.kl k) (S.ed u)) (eY.put k u l):=by
 have hd:=h.del a;have d:=S.isKey a;have b:=h.tidy.isMap;refine⟨h.tidy.put d _,fun p hp=>?_,?_,?_,fun k' RM=>?_,fun k' RM=>?_⟩
 ·rcases aH.1 hp with rfl|hp
  ·exact⟨a,hu⟩
  exact hd.ok p hp
 ·show (k::(eY.del k l).map (·.1)).Nodup;refine cE.2 ⟨fun hm=>?_,hd.nodup⟩;have:=(qu _).2 hm;rw[sC]at this;cases this
 ·have f:=Maps.size_put (k:=S.kl k) h.tidy (S.ed u);have c:=wI k l h.nodup;show _=(eY.del k l).length+1;rw[f,h.has k a,h.size];split<;>rename_i hs
  ·rw[hs]at c;simp at c;omega
  simp only[hs]at c;simp at c;omega
 ·by_cases he:k'=k
  ·subst he;rw[Maps.atKey_put_same b d,zB];rfl
  rw[Maps.atKey_put_other (fun e=>he (S.pL RM a e)),h.at_ k' RM,zC he]
 by_cases he:k'=k
 ·subst he;rw[Maps.has_put_same b d,zB];rfl
 rw[Maps.has_put_other (fun e=>he (S.pL RM a e)),h.has k' RM,zC he]
theorem Reads.found {D:DataW Unit} {l:List (κ×ε)} (h:Reads S D l) {k:κ} {u:ε} (c:S.jb k) (d:∀e,D.atKey (S.kl k) e=S.ed u):fw k l=some u:=by
 have a:=Maps.has_true_of_atKey d;rw[h.has k c]at a;have b:=h.at_ k c;rw[d]at b
 cases hs:fw k l with
 |none=>rw[hs]at a;cases a
 |some x=>rw[hs]at b;rw[S.sH _ _ b];rfl
theorem tight {P:Program} {k:TypeId} {R:Value->Option (DataW Unit×List MemPlace)} {w:World} {b n:Nat} {D:DataW Unit} (h:w.ownsMap P k R b n D):w.ownsMap P k R b (Maps.size D) D:=by
 obtain⟨es,clock,hb,F,_,rfl⟩:=h;exact⟨es,clock,hb,F,cZ (by show es.size=List.length _;rw[length_read]),rfl⟩
variable (S)
def At (w:World) (b:Nat) (l:List (κ×ε)):Prop:=∃D:DataW Unit,w.ownsMap P S.K S.R b l.length D/\Reads S D l
def Over (w:World) (b r n:Nat) (l:List (κ×ε)) (left:Lit->Bool) (Tg:Nat):Prop:=∃D:DataW Unit,w.ranges P S.K S.R b r n D left Tg/\Reads S D l
variable {S}
section
variable {w w':World} {b r n Tg:Nat} {l:List (κ×ε)} {left:Lit->Bool}
theorem At.lt (h:At S w b l):b<w.heap.size:=by
 obtain⟨D,a,-⟩:=h;exact a.lt
theorem At.nodup (h:At S w b l):(l.map (·.1)).Nodup:=by
 obtain⟨D,-,a⟩:=h;exact a.nodup
theorem At.ok (h:At S w b l):∀p∈l,S.jb p.1/\S.lU p.2:=by
 obtain⟨D,-,a⟩:=h;exact a.ok
theorem At.lU (h:At S w b l) (k:κ):S.lU ((fw k l).getD S.z):=by
 cases hs:fw k l with
 |none=>exact S.sI
 |some u=>exact (h.ok _ (tV _ hs)).2
theorem At.same (h:At S w b l) (he:w'.heap[b]?=w.heap[b]?):At S w' b l:=by
 obtain⟨D,⟨es,clock,hb,F,hs,a⟩,c⟩:=h;exact⟨D,⟨es,clock,he.trans hb,F,hs,a⟩,c⟩
theorem At.fI {T:Nat->Prop} (h:At S w b l) (ht:eJ T w w') (a:¬T b):At S w' b l:=h.same (ht.block b h.lt a)
theorem At.below (h:At S w b l) (hb:BB w w'):At S w' b l:=h.same (hb.block b h.lt)
theorem At.drew (h:At S w b l):At S w.drew b l:=h.same rfl
theorem At.alloc (h:At S w b l) (o:Obj):At S (w.alloc o) b l:=h.same (Below.heap_alloc w o b h.lt)
theorem At.jv (h:At S w b l) {p:Addr} (hp:b≠p.block) (u:Value):At S (w.setCell p u) b l:=h.same (Below.heap_setCell w p u b hp)
theorem At.grown {row:Option Nat} (h:At S w b l) (a:w.grownBy w' row) (hb:some b≠row):At S w' b l:=h.same (a.block b h.lt hb)
theorem At.new (S:lJ P κ ε) (w:World):At S (w.alloc (.map #[] 0)) w.heap.size []:=⟨_,World.ownsMap_made w _ _ _,Reads.empty⟩
theorem At.look (h:At S w b l) {k:κ} (a:S.jb k):(Instr.lookup S.t (.map (some b)) (S.kv k) false).run P w=.ok (S.ev ((fw k l).getD S.z)) w:=by
 obtain⟨D,d,e⟩:=h;obtain⟨v,ps,f,c⟩:=d.lookup S.keyed S.ht (S.zero w) (S.elem _ S.sI) (S.key k a);rw[e.at_ k a]at c;obtain⟨x,rfl,hy,-⟩:=S.rh _ _ c;rw[f,S.sH _ _ (Prod.mk.inj hy).1]
theorem At.look_ok (h:At S w b l) {k:κ} (a:S.jb k):(Instr.lookup S.t (.map (some b)) (S.kv k) true).run P w=.ok (.tuple #[S.ev ((fw k l).getD S.z),.bool (fw k l).isSome]) w:=by
 obtain⟨D,e,c⟩:=h;obtain⟨v,ps,f,d⟩:=e.look_ok S.keyed S.ht (S.zero w) (S.elem _ S.sI) (S.key k a);rw[c.at_ k a]at d;obtain⟨x,rfl,hy,-⟩:=S.rh _ _ d;rw[f,c.has k a,S.sH _ _ (Prod.mk.inj hy).1]
theorem At.store (h:At S w b l) (d:l.length<maxLen) {k:κ} {u:ε} (a:S.jb k) (hu:S.lU u) :
 ∃w',(Instr.mapUpdate S.t (.map (some b)) (S.kv k) (S.ev u)).run P w=.ok () w'/\At S w' b (eY.put k u l)/\w.grownBy w' (some b):=by
 obtain⟨D,e,f⟩:=h;obtain⟨w',g,i,j⟩:=e.update S.keyed S.ht d (S.key k a) (S.elem u hu);have c:=f.put a hu;refine⟨w',g,⟨_,?_,c⟩,j⟩;have:=tight i;rwa [c.size]at this
theorem At.drop (h:At S w b l) {k:κ} (a:S.jb k) (ty:TypeId) :
 ∃w',(Builtin.delete_ #[S.t,S.K] ty #[.map (some b),S.kv k]).run P w=.ok (.tuple #[]) w'/\At S w' b (eY.del k l)/\w.grownBy w' (some b):=by
 obtain⟨D,d,e⟩:=h;obtain⟨w',f,g,i⟩:=d.drop S.keyed S.ht (S.key k a) ty;have c:=e.del a;refine⟨w',f,⟨_,?_,c⟩,i.grown⟩;have:=tight g;rwa [c.size]at this
theorem At.len (h:At S w b l) (ty:TypeId):(Builtin.len_ #[S.t] ty #[.map (some b)]).run P w=.ok (.int .i64 l.length) w:=by
 obtain⟨D,a,c⟩:=h;rw[a.len S.ht ty,c.size]
theorem Over.at_ (h:Over S w b r n l left Tg):At S w b l:=by
 obtain⟨D,c,a⟩:=h;have:=tight c.owns;rw[a.size]at this;exact⟨D,this,a⟩
theorem Over.left_eq (h:Over S w b r n l left Tg):w.rangeLeft b r=Tg:=by
 obtain⟨D,a,-⟩:=h;exact a.left_eq
theorem Over.lt (h:Over S w b r n l left Tg):r<w.heap.size:=by
 obtain⟨D,a,-⟩:=h;exact a.lt
theorem Over.kept {row:Option Nat} (h:Over S w b r n l left Tg) (c:w.grownBy w' row) (d:some b≠row) (a:some r≠row):Over S w' b r n l left Tg:=by
 obtain⟨D,e,f⟩:=h;exact⟨D,e.kept c d a,f⟩
theorem Over.alloc (h:Over S w b r n l left Tg) (o:Obj):Over S (w.alloc o) b r n l left Tg:=h.kept (World.grownBy_alloc w o none) ae ae
theorem Over.drew (h:Over S w b r n l left Tg):Over S w.drew b r n l left Tg:=by
 obtain⟨D,a,c⟩:=h;exact⟨D,a,c⟩
end
section
variable {w:World} {ops:Array Oper} {rest:List Oper} {o:Oper} {a:Act} {Q:Exit->Act->World->Prop} {b r n Tg:Nat} {l:List (κ×ε)} {left:Lit->Bool}
theorem Gr (S:lJ P κ ε) {c:Act->World->Prop} (m x:Operand) (d:o.op=Op.call {callee:=Callee.builtin Builtin.delete,args:=#[m,x],argTypes:=#[S.t,S.K]})
 (hm:a.eval m=.map (some b)) (h:At S w b l) {k:κ} (e:S.jb k) (f:a.eval x=S.kv k)
 (hK:∀w',At S w' b (eY.del k l)->w.grownBy w' (some b)->c (a.put o.dst (.tuple #[])) w'):o.wp P a w c Q:=by
 obtain⟨w',g,i,j⟩:=h.drop e o.type;unfold Oper.wp;simp[execOp,d,resolve,invoke,builtin,hm,f,g,Result.andThen];exact hK w' i j
theorem Gs (S:lJ P κ ε) (d:o.guard=none) (m x:Operand) (e:o.op=Op.call {callee:=Callee.builtin Builtin.delete,args:=#[m,x],argTypes:=#[S.t,S.K]})
 (hm:a.eval m=.map (some b)) (h:At S w b l) {k:κ} (f:S.jb k) (g:a.eval x=S.kv k)
 (hK:∀w',At S w' b (eY.del k l)->w.grownBy w' (some b)->wpList P ops Q rest (a.put o.dst (.tuple #[])) w'):wpList P ops Q (o::rest) a w:=
 wpList_plain d fun _ c=>Gr S m x e hm h f g fun w' r1 r2=>c _ _ (hK w' r1 r2)
theorem sE (S:lJ P κ ε) {c:Act->World->Prop} {u:ε} (m x v:Operand) (d:o.op=Op.mapUpdate S.t m x v)
 (hm:a.eval m=.map (some b)) (h:At S w b l) (e:l.length<maxLen) {k:κ} (f:S.jb k) (hu:S.lU u) (g:a.eval x=S.kv k) (hv:a.eval v=S.ev u)
 (hK:∀w',At S w' b (eY.put k u l)->w.grownBy w' (some b)->c (a.put o.dst undef) w'):o.wp P a w c Q:=by
 obtain⟨w',i,j,n⟩:=h.store e f hu;unfold Oper.wp;simp[execOp,d,hm,g,hv,i,Result.andThen];exact hK w' j n
theorem sF (S:lJ P κ ε) (m x:Operand) (c:o.op=Op.lookup S.t m x false) (hm:a.eval m=.map (some b)) (h:At S w b l) {k:κ} (d:S.jb k) (e:a.eval x=S.kv k) :
 (execOp a.eval o).run P w=.ok (.value (S.ev ((fw k l).getD S.z))) w:=by
 simp[execOp,c,hm,e,h.look d,Result.andThen]
theorem Gt (S:lJ P κ ε) (m x:Operand) (c:o.op=Op.lookup S.t m x true) (hm:a.eval m=.map (some b)) (h:At S w b l) {k:κ} (d:S.jb k) (e:a.eval x=S.kv k) :
 (execOp a.eval o).run P w=.ok (.value (.tuple #[S.ev ((fw k l).getD S.z),.bool (fw k l).isSome])) w:=by
 simp[execOp,c,hm,e,h.look_ok d,Result.andThen]
theorem zD (S:lJ P κ ε) (g:o.guard=none) (m:Operand) (i:o.op=Op.range S.t m) (hm:a.eval m=.map (some b)) (h:At S w b l)
 (hK:∀w' left,Over S w' b w.heap.size l.length l left l.length->(∀p∈l,left (S.kl p.1)=true)->w.grownBy w' none->w'.heap.size=w.heap.size+1->wpList P ops Q rest (a.put o.dst (.pointer (some ⟨w.heap.size,0,none⟩))) w') :
 wpList P ops Q (o::rest) a w:=by
 obtain⟨D,j,c⟩:=h;refine wpList_range_own w g m S.t i S.K S.e S.keyed S.ht S.R b l.length D hm j ?_;intro w' f d k;rw[c.size]at f;refine hK w' _ ⟨D,f,c⟩ (fun p hp=>?_) d k;rw[c.has p.1 (c.ok p hp).1];exact (qu l).2 (aW.2 ⟨p,hp,rfl⟩)
theorem zE (S:lJ P κ ε) (s:o.guard=none) (it:Operand) (t:o.op=Op.next it false) (hit:a.eval it=.pointer (some ⟨r,0,none⟩)) (h:Over S w b r n l left Tg)
 (e:Tg=0->(∀kl,left kl=false)->wpList P ops Q rest (a.put o.dst (.tuple #[.bool false])) w)
 (f:∀(k:κ) (u:ε) (w':World) (d:Nat),S.jb k->S.lU u->fw k l=some u->left (S.kl k)=true->Over S w' b r n l (fun z=>left z&&!z.sameKey (S.kl k)) d->d<Tg ->
   w.grownBy w' (some r)->w'.heap.size=w.heap.size->(Instr.entry (.pointer (some ⟨r,0,none⟩))).run P w'=.ok (.tuple #[S.kv k,S.ev u]) w'->wpList P ops Q rest (a.put o.dst (.tuple #[.bool true,S.kv k,S.ev u])) w') :
 wpList P ops Q (o::rest) a w:=by
 obtain⟨D,A,m⟩:=h;refine wpList_next_ranges (α:=κ) (β:=ε) w s it t S.K S.keyed S.R S.kv S.ev (fun v l hv=>?_) (fun v y hv=>?_) b r n D left Tg hit A e ?_
 ·obtain⟨k,B,-⟩:=S.pM v l hv;exact⟨k,B⟩
 ·obtain⟨x,C,-⟩:=S.rh v y hv;exact⟨x,C⟩
 intro x c kl y w' d g E hv F i G H I p;obtain⟨k,e1,rfl,q⟩:=S.pM _ _ g;obtain rfl:=S.rm _ _ e1;obtain⟨u,J,L,j⟩:=S.rh _ _ hv;rw[J]at p⊢;refine f x u w' d q j (m.found q (fun M=>by rw[F,L])) E ⟨D,i,m⟩ G H I p
theorem Gu (S:lJ P κ ε) {c:Act->World->Prop} (m x:Operand) (g:o.op=Op.call {callee:=Callee.builtin Builtin.delete,args:=#[m,x],argTypes:=#[S.t,S.K]})
 (hm:a.eval m=.map (some b)) (h:Over S w b r n l left Tg) {k:κ} (e:S.jb k) (i:a.eval x=S.kv k)
 (hK:∀w' d,Over S w' b r n (eY.del k l) (fun z=>left z&&!z.sameKey (S.kl k)) d->d<=Tg->w.grownBy w' (some b)->w'.heap.size=w.heap.size->c (a.put o.dst (.tuple #[])) w'):o.wp P a w c Q:=by
 obtain⟨D,j,p⟩:=h;obtain⟨w',d,q,s,u,f⟩:=j.drop S.keyed S.ht (S.key k e) o.type;unfold Oper.wp;simp[execOp,g,resolve,invoke,builtin,hm,i,q,Result.andThen];refine hK w' d ⟨_,s,p.del e⟩ u f.grown ?_;obtain⟨es,clock,v,y,hb,rfl⟩:=f;simp[ChangeMaps.setBlock]
end
end
def je (n:Int):Prop:=(Lit.int .i64 n).wf=true
def sG (k:Int×Int):Value:=.agg #[.int .i64 k.1,.int .i64 k.2]
def tW (k:Int×Int):Lit:=.string (keyBytes [.int .i64 k.1,.int .i64 k.2])
def zF (k:Int×Int):Prop:=je k.1/\je k.2
theorem Gv (k e:Int×Int) (h:sG k=sG e):k=e:=by
 obtain⟨a,b⟩:=k;obtain⟨c,d⟩:=e;simpa[sG]using h
section
variable {P:Program} {κ:Type}
def zG (K e t:TypeId) (he:P.underlying e=some (.int .i64)) (b:∀w,(zeroValue e).run P w=.ok (.int .i64 0) w) (ht:P.underlying t=some (.map K e)) (keyed:Maps.Keyed P K)
 (kv:κ->Value) (kl:κ->Lit) (jb:κ->Prop) (key:∀k,jb k->keyOf P K (kv k)=some (kl k)) (pM:∀v l,keyOf P K v=some l->∃k,v=kv k/\l=kl k/\jb k) (rm:∀k a,kv k=kv a->k=a):lJ P κ Int where
 K:=K
 e:=e
 t:=t
 kv:=kv
 kl:=kl
 jb:=jb
 ev:=Value.int .i64
 ed:=fun n=>.lit (.int .i64 n)
 lU:=je
 z:=0
 R:=plainElem P e
 keyed:=keyed
 ht:=ht
 key:=key
 pM:=pM
 elem:=fun _ h=>plainElem_int he h
 rh:=fun v y h=>plainElem_int_inv he h
 rm:=rm
 sH:=fun _ _ h=>by simpa using h
 zero:=b
 sI:=by unfold je;decide
end
end gO
end Go.Proofs.YtjhdaojclilakaaGreatDoor
