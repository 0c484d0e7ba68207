/-
  A part of the proof of the law DeskPieces: MapOf.
-/
import Derived.WideKeyPair
import Derived.Maps.OwnOps
import Derived.Maps.OwnSet
import Derived.Maps.RangeWalk
import Derived.Test.YtlhodcmdpchllaaGreatDoorHd
import Derived.Test.YtlhodcmdpchllaaGreatDoorP02
import Derived.Test.YtlhodcmdpchllaaGreatDoorP07
set_option maxHeartbeats 16000000
set_option maxRecDepth 1000000
namespace Go.Proofs.YtlhodcmdpchllaaGreatDoor
namespace fq
open Go.RowKit Go.WideMaps heap own dI
structure je (P:Program) (κ ε:Type) where
 K:TypeId
 e:TypeId
 t:TypeId
 kv:κ->Value
 kl:κ->Lit
 fR:κ->Prop
 ev:ε->Value
 ed:ε->DataW Unit
 jD:ε->Prop
 z:ε
 R:Value->Option (DataW Unit×List MemPlace)
 keyed:Maps.Keyed P K
 ht:P.underlying t=some (.map K e)
 key:∀k,fR k->keyOf P K (kv k)=some (kl k)
 mG:∀v l,keyOf P K v=some l->∃k,v=kv k/\l=kl k/\fR k
 elem:∀x,jD x->R (ev x)=some (ed x,[])
 nJ:∀v y,R v=some y->∃x,v=ev x/\y=(ed x,[])/\jD x
 nK:∀k k',kv k=kv k'->k=k'
 o6:∀x x',ed x=ed x'->x=x'
 zero:∀w,(zeroValue e).run P w=.ok (ev z) w
 o7:jD z
section
variable {κ ε:Type} [DecidableEq κ]
theorem pI {k:κ}:∀(l:List (κ×ε)),ez k (del k l)=none
 | []=>rfl
 |(x,v)::l=>by
  unfold del;by_cases h:x=k
  ·rw[if_pos h];exact pI l
  rw[if_neg h];unfold ez;rw[if_neg h];exact pI l
theorem pJ {k k':κ} (hk:k'≠k):∀(l:List (κ×ε)),ez k' (del k l)=ez k' l
 | []=>rfl
 |(x,v)::l=>by
  unfold del;by_cases h:x=k
  ·rw[if_pos h]
   conv=>rhs;unfold ez
   rw[if_neg (fun e=>hk (by rw[<- e,h]))];exact pJ hk l
  rw[if_neg h];unfold ez;by_cases h':x=k'
  ·rw[if_pos h',if_pos h']
  rw[if_neg h',if_neg h'];exact pJ hk l
theorem qw (k:κ):∀(l:List (κ×ε)),del k l=l.filter fun p=>decide (p.1≠k)
 | []=>rfl
 |(x,v)::l=>by
  unfold del;by_cases h:x=k
  ·rw[if_pos h,cO (by simp[h])];exact qw k l
  rw[if_neg h,cP (by simp[h]),qw k l]
theorem nG (k:κ) (l:List (κ×ε)):(del k l).Sublist l:=by rw[qw];exact du
theorem nI {k:κ}:∀(l:List (κ×ε)),(ez k l).isSome=true↔k∈l.map (·.1)
 | []=>by simp[ez]
 |(x,v)::l=>by
  unfold ez;rw[bf,aM];by_cases h:x=k
  ·rw[if_pos h];simp[h]
  rw[if_neg h,nI l];constructor
  ·exact .inr
  rintro (e|e)
  ·exact absurd e.symm h
  exact e
theorem qx {k:κ} {v:ε}:∀(l:List (κ×ε)),ez k l=some v->(k,v)∈l
 | [],h=>by cases h
 |(x,u)::l,h=>by
  unfold ez at h;by_cases hx:x=k
  ·rw[if_pos hx]at h;rw[<- hx,<- aw h];exact bt ..
  rw[if_neg hx]at h;exact bh _ (qx l h)
theorem sw {k:κ} {v:ε}:∀(l:List (κ×ε)),(l.map (·.1)).Nodup->(k,v)∈l->ez k l=some v
 | [],_,h=>by cases h
 |(x,u)::l,hn,h=>by
  rw[bf,cY]at hn;unfold ez;rcases aM.1 h with e|h
  ·obtain⟨rfl,rfl⟩:=Prod.mk.inj e;rw[if_pos rfl]
  have:x≠k:=fun e=>hn.1 (e▸bA.2 ⟨(k,v),h,rfl⟩);rw[if_neg this];exact sw l hn.2 h
theorem sx (k:κ):∀(l:List (κ×ε)),(l.map (·.1)).Nodup->(del k l).length+(if (ez k l).isSome then 1 else 0)=l.length
 | [],_=>rfl
 |(x,v)::l,hn=>by
  rw[bf,cY]at hn;have ih:=sx k l hn.2;unfold del ez;by_cases h:x=k
  ·rw[if_pos h,if_pos h]
   have L3:ez k l=none:=by
    cases hs:ez k l with
    |none=>rfl
    |some y=>exact absurd (h▸(nI l).1 (by rw[hs];rfl)) hn.1
   rw[L3]at ih;simp at ih⊢;exact ih
  rw[if_neg h,if_neg h];simp only[aJ];omega
theorem vh {k:κ} {v:ε} {l:List (κ×ε)}:ez k (put k v l)=some v:=by simp[put,ez]
theorem vi {k k':κ} {v:ε} {l:List (κ×ε)} (h:k'≠k):ez k' (put k v l)=ez k' l:=by
 unfold put
 conv=>lhs;unfold ez
 rw[if_neg (fun e=>h e.symm),pJ h]
end
section
variable {P:Program} {κ ε:Type} (S:je P κ ε)
theorem je.mY {k k':κ} (h:S.fR k) (h':S.fR k') (e:S.kl k=S.kl k'):k=k':=
 S.nK _ _ (S.keyed.inj (S.key k h) (e▸S.key k' h'))
theorem je.isKey {k:κ} (h:S.fR k):WideAt.IsKeyLit (S.kl k):=S.keyed.key (S.key k h)
end
section
variable {P:Program} {κ ε:Type} [DecidableEq κ] (S:je P κ ε)
structure Reads (D:DataW Unit) (l:List (κ×ε)):Prop where
 tidy:Maps.Tidy D
 ok:∀p∈l,S.fR p.1/\S.jD p.2
 nodup:(l.map (·.1)).Nodup
 size:Maps.size D=l.length
 at_:∀k,S.fR k->D.atKey (S.kl k) (S.ed S.z)=S.ed ((ez k l).getD S.z)
 has:∀k,S.fR k->Maps.has D (S.kl k)=(ez k l).isSome
variable {S}
theorem Reads.empty:Reads S (.map []) []:=⟨Maps.tidy_empty,(fun _ h=>by cases h),List.Pairwise.nil,rfl,fun _ _=>rfl,fun _ _=>rfl⟩
theorem Reads.del {D:DataW Unit} {l:List (κ×ε)} (h:Reads S D l) {k:κ} (hk:S.fR k):Reads S (D.del (S.kl k)) (dI.del k l):=by
 refine⟨h.tidy.del _,fun p hp=>h.ok p ((nG _ _).subset hp),h.nodup.sublist ((nG _ _).map _),?_,fun k' MW=>?_,fun k' MW=>?_⟩
 ·have h1:=Maps.size_del (k:=S.kl k) h.tidy;have h2:=sx k l h.nodup;rw[h.has k hk,h.size]at h1;omega
 ·by_cases he:k'=k
  ·subst he;rw[Maps.atKey_del_same,pI];rfl
  rw[Maps.atKey_del_other (fun e=>he (S.mY MW hk e)),pJ he];exact h.at_ k' MW
 by_cases he:k'=k
 ·subst he;rw[Maps.has_del_same,pI];rfl
 rw[Maps.has_del_other (fun e=>he (S.mY MW hk e)),pJ he];exact h.has k' MW
theorem Reads.put {D:DataW Unit} {l:List (κ×ε)} (h:Reads S D l) {k:κ} {u:ε} (hk:S.fR k) (hu:S.jD u):Reads S (D.put (S.kl k) (S.ed u)) (dI.put k u l):=by
 have hd:=h.del hk;have Ks:=S.isKey hk;have him:=h.tidy.isMap;refine⟨h.tidy.put Ks _,fun p hp=>?_,?_,?_,fun k' MW=>?_,fun k' MW=>?_⟩
 ·rcases aM.1 hp with rfl|hp
  ·exact⟨hk,hu⟩
  exact hd.ok p hp
 ·show (k::(dI.del k l).map (·.1)).Nodup;refine cY.2 ⟨fun hm=>?_,hd.nodup⟩;have:=(nI _).2 hm;rw[pI]at this;cases this
 ·have h1:=Maps.size_put (k:=S.kl k) h.tidy (S.ed u);have h2:=sx k l h.nodup;show _=(dI.del k l).length+1;rw[h1,h.has k hk,h.size];split<;>rename_i hs
  ·rw[hs]at h2;simp at h2;omega
  simp only[hs]at h2;simp at h2;omega
 ·by_cases he:k'=k
  ·subst he;rw[Maps.atKey_put_same him Ks,vh];rfl
  rw[Maps.atKey_put_other (fun e=>he (S.mY MW hk e)),h.at_ k' MW,vi he]
 by_cases he:k'=k
 ·subst he;rw[Maps.has_put_same him Ks,vh];rfl
 rw[Maps.has_put_other (fun e=>he (S.mY MW hk e)),h.has k' MW,vi he]
theorem Reads.found {D:DataW Unit} {l:List (κ×ε)} (h:Reads S D l) {k:κ} {u:ε} (hk:S.fR k) (ha:∀zd,D.atKey (S.kl k) zd=S.ed u):ez k l=some u:=by
 have h1:=Maps.has_true_of_atKey ha;rw[h.has k hk]at h1;have h2:=h.at_ k hk;rw[ha]at h2
 cases hs:ez k l with
 |none=>rw[hs]at h1;cases h1
 |some x=>rw[hs]at h2;rw[S.o6 _ _ h2];rfl
theorem tight {P:Program} {k:TypeId} {R:Value->Option (DataW Unit×List MemPlace)} {w:World} {b n:Nat} {D:DataW Unit} (h:w.ownsMap P k R b n D):w.ownsMap P k R b (Maps.size D) D:=by
 obtain⟨es,clock,hb,F,_,rfl⟩:=h;exact⟨es,clock,hb,F,cU (by show es.size=List.length _;rw[length_read]),rfl⟩
variable (S)
def At (w:World) (b:Nat) (l:List (κ×ε)):Prop:=∃D:DataW Unit,w.ownsMap P S.K S.R b l.length D/\Reads S D l
def Over (w:World) (b r n:Nat) (l:List (κ×ε)) (left:Lit->Bool) (NV:Nat):Prop:=∃D:DataW Unit,w.ranges P S.K S.R b r n D left NV/\Reads S D l
variable {S}
section
variable {w w':World} {b r n NV:Nat} {l:List (κ×ε)} {left:Lit->Bool}
theorem At.lt (h:At S w b l):b<w.heap.size:=by
 obtain⟨D,h1,-⟩:=h;exact h1.lt
theorem At.nodup (h:At S w b l):(l.map (·.1)).Nodup:=by
 obtain⟨D,-,h2⟩:=h;exact h2.nodup
theorem At.ok (h:At S w b l):∀p∈l,S.fR p.1/\S.jD p.2:=by
 obtain⟨D,-,h2⟩:=h;exact h2.ok
theorem At.jD (h:At S w b l) (k:κ):S.jD ((ez k l).getD S.z):=by
 cases hs:ez k l with
 |none=>exact S.o7
 |some u=>exact (h.ok _ (qx _ hs)).2
theorem At.same (h:At S w b l) (he:w'.heap[b]?=w.heap[b]?):At S w' b l:=by
 obtain⟨D,⟨es,clock,hb,F,hs,hD⟩,h2⟩:=h;exact⟨D,⟨es,clock,he.trans hb,F,hs,hD⟩,h2⟩
theorem At.er {T:Nat->Prop} (h:At S w b l) (ht:dD T w w') (hS:¬T b):At S w' b l:=h.same (ht.block b h.lt hS)
theorem At.below (h:At S w b l) (hb:Below w.heap.size w w'):At S w' b l:=h.same (hb.block b h.lt)
theorem At.drew (h:At S w b l):At S w.drew b l:=h.same rfl
theorem At.alloc (h:At S w b l) (o:Obj):At S (w.alloc o) b l:=h.same (Below.heap_alloc w o b h.lt)
theorem At.far (h:At S w b l) {p:Addr} (hp:b≠p.block) (u:Value):At S (w.setCell p u) b l:=h.same (Below.heap_setCell w p u b hp)
theorem At.grown {row:Option Nat} (h:At S w b l) (hg:w.grownBy w' row) (hb:some b≠row):At S w' b l:=h.same (hg.block b h.lt hb)
theorem At.new (S:je P κ ε) (w:World):At S (w.alloc (.map #[] 0)) w.heap.size []:=⟨_,World.ownsMap_made w _ _ _,Reads.empty⟩
theorem At.look (h:At S w b l) {k:κ} (hk:S.fR k):(Instr.lookup S.t (.map (some b)) (S.kv k) false).run P w=.ok (S.ev ((ez k l).getD S.z)) w:=by
 obtain⟨D,h1,h2⟩:=h;obtain⟨v,ps,hr,hx⟩:=h1.lookup S.keyed S.ht (S.zero w) (S.elem _ S.o7) (S.key k hk);rw[h2.at_ k hk]at hx;obtain⟨x,rfl,hy,-⟩:=S.nJ _ _ hx;rw[hr,S.o6 _ _ (Prod.mk.inj hy).1]
theorem At.look_ok (h:At S w b l) {k:κ} (hk:S.fR k):(Instr.lookup S.t (.map (some b)) (S.kv k) true).run P w=.ok (.tuple #[S.ev ((ez k l).getD S.z),.bool (ez k l).isSome]) w:=by
 obtain⟨D,h1,h2⟩:=h;obtain⟨v,ps,hr,hx⟩:=h1.look_ok S.keyed S.ht (S.zero w) (S.elem _ S.o7) (S.key k hk);rw[h2.at_ k hk]at hx;obtain⟨x,rfl,hy,-⟩:=S.nJ _ _ hx;rw[hr,h2.has k hk,S.o6 _ _ (Prod.mk.inj hy).1]
theorem At.store (h:At S w b l) (hn:l.length<maxLen) {k:κ} {u:ε} (hk:S.fR k) (hu:S.jD u) :
 ∃w',(Instr.mapUpdate S.t (.map (some b)) (S.kv k) (S.ev u)).run P w=.ok () w'/\At S w' b (dI.put k u l)/\w.grownBy w' (some b):=by
 obtain⟨D,h1,h2⟩:=h;obtain⟨w',hr,h3,h4⟩:=h1.update S.keyed S.ht hn (S.key k hk) (S.elem u hu);have h5:=h2.put hk hu;refine⟨w',hr,⟨_,?_,h5⟩,h4⟩;have:=tight h3;rwa [h5.size]at this
theorem At.drop (h:At S w b l) {k:κ} (hk:S.fR k) (ty:TypeId) :
 ∃w',(Builtin.delete_ #[S.t,S.K] ty #[.map (some b),S.kv k]).run P w=.ok (.tuple #[]) w'/\At S w' b (dI.del k l)/\w.grownBy w' (some b):=by
 obtain⟨D,h1,h2⟩:=h;obtain⟨w',hr,h3,h4⟩:=h1.drop S.keyed S.ht (S.key k hk) ty;have h5:=h2.del hk;refine⟨w',hr,⟨_,?_,h5⟩,h4.grown⟩;have:=tight h3;rwa [h5.size]at this
theorem Over.at_ (h:Over S w b r n l left NV):At S w b l:=by
 obtain⟨D,h1,h2⟩:=h;have:=tight h1.owns;rw[h2.size]at this;exact⟨D,this,h2⟩
theorem Over.left_eq (h:Over S w b r n l left NV):w.rangeLeft b r=NV:=by
 obtain⟨D,h1,-⟩:=h;exact h1.left_eq
theorem Over.kept {row:Option Nat} (h:Over S w b r n l left NV) (hg:w.grownBy w' row) (hb':some b≠row) (hr':some r≠row):Over S w' b r n l left NV:=by
 obtain⟨D,h1,h2⟩:=h;exact⟨D,h1.kept hg hb' hr',h2⟩
theorem Over.alloc (h:Over S w b r n l left NV) (o:Obj):Over S (w.alloc o) b r n l left NV:=h.kept (World.grownBy_alloc w o none) (by simp) (by simp)
theorem Over.drew (h:Over S w b r n l left NV):Over S w.drew b r n l left NV:=by
 obtain⟨D,h1,h2⟩:=h;exact⟨D,h1,h2⟩
end
section
variable {w:World} {ops:Array Oper} {rest:List Oper} {o:Oper} {a:Act} {Q:Exit->Act->World->Prop} {b r n NV:Nat} {l:List (κ×ε)} {left:Lit->Bool}
theorem BF (S:je P κ ε) {UR:Act->World->Prop} (m x:Operand) (Ou:o.op=Op.call {callee:=Callee.builtin Builtin.delete,args:=#[m,x],argTypes:=#[S.t,S.K]})
 (hm:a.eval m=.map (some b)) (h:At S w b l) {k:κ} (hk:S.fR k) (hx:a.eval x=S.kv k)
 (hK:∀w',At S w' b (dI.del k l)->w.grownBy w' (some b)->UR (a.put o.dst (.tuple #[])) w'):o.wp P a w UR Q:=by
 obtain⟨w',L4,r1,r2⟩:=h.drop hk o.type;unfold Oper.wp;simp[execOp,Ou,resolve,invoke,builtin,hm,hx,L4,Result.andThen];exact hK w' r1 r2
theorem BG (S:je P κ ε) (hg:o.guard=none) (m x:Operand) (Ou:o.op=Op.call {callee:=Callee.builtin Builtin.delete,args:=#[m,x],argTypes:=#[S.t,S.K]})
 (hm:a.eval m=.map (some b)) (h:At S w b l) {k:κ} (hk:S.fR k) (hx:a.eval x=S.kv k)
 (hK:∀w',At S w' b (dI.del k l)->w.grownBy w' (some b)->wpList P ops Q rest (a.put o.dst (.tuple #[])) w'):wpList P ops Q (o::rest) a w:=
 wpList_plain hg fun _ Yn=>BF S m x Ou hm h hk hx fun w' r1 r2=>Yn _ _ (hK w' r1 r2)
theorem pK (S:je P κ ε) {UR:Act->World->Prop} {u:ε} (m x v:Operand) (Ou:o.op=Op.mapUpdate S.t m x v)
 (hm:a.eval m=.map (some b)) (h:At S w b l) (hn:l.length<maxLen) {k:κ} (hk:S.fR k) (hu:S.jD u) (hx:a.eval x=S.kv k) (hv:a.eval v=S.ev u)
 (hK:∀w',At S w' b (dI.put k u l)->w.grownBy w' (some b)->UR (a.put o.dst undef) w'):o.wp P a w UR Q:=by
 obtain⟨w',L4,r1,r2⟩:=h.store hn hk hu;unfold Oper.wp;simp[execOp,Ou,hm,hx,hv,L4,Result.andThen];exact hK w' r1 r2
theorem pL (S:je P κ ε) (m x:Operand) (Ou:o.op=Op.lookup S.t m x false) (hm:a.eval m=.map (some b)) (h:At S w b l) {k:κ} (hk:S.fR k) (hx:a.eval x=S.kv k) :
 (execOp a.eval o).run P w=.ok (.value (S.ev ((ez k l).getD S.z))) w:=by
 simp[execOp,Ou,hm,hx,h.look hk,Result.andThen]
theorem BH (S:je P κ ε) (m x:Operand) (Ou:o.op=Op.lookup S.t m x true) (hm:a.eval m=.map (some b)) (h:At S w b l) {k:κ} (hk:S.fR k) (hx:a.eval x=S.kv k) :
 (execOp a.eval o).run P w=.ok (.value (.tuple #[S.ev ((ez k l).getD S.z),.bool (ez k l).isSome])) w:=by
 simp[execOp,Ou,hm,hx,h.look_ok hk,Result.andThen]
theorem BI (S:je P κ ε) (hg:o.guard=none) (m x:Operand) (Ou:o.op=Op.lookup S.t m x false) (hm:a.eval m=.map (some b)) (h:At S w b l) {k:κ} (hk:S.fR k) (hx:a.eval x=S.kv k)
 (hK:wpList P ops Q rest (a.put o.dst (S.ev ((ez k l).getD S.z))) w):wpList P ops Q (o::rest) a w:=by
 refine wpList_plain hg fun K' Yn=>?_;unfold Oper.wp;simp[execOp,Ou,hm,hx,h.look hk,Result.andThen];exact Yn _ _ hK
theorem vj (S:je P κ ε) (hg:o.guard=none) (m:Operand) (Ou:o.op=Op.range S.t m) (hm:a.eval m=.map (some b)) (h:At S w b l)
 (hK:∀w' left,Over S w' b w.heap.size l.length l left l.length->(∀p∈l,left (S.kl p.1)=true)->w.grownBy w' none->w'.heap.size=w.heap.size+1->wpList P ops Q rest (a.put o.dst (.pointer (some ⟨w.heap.size,0,none⟩))) w') :
 wpList P ops Q (o::rest) a w:=by
 obtain⟨D,h1,h2⟩:=h;refine wpList_range_own w hg m S.t Ou S.K S.e S.keyed S.ht S.R b l.length D hm h1 ?_;intro w' hr hg' R7;rw[h2.size]at hr;refine hK w' _ ⟨D,hr,h2⟩ (fun p hp=>?_) hg' R7;rw[h2.has p.1 (h2.ok p hp).1];exact (nI l).2 (bA.2 ⟨p,hp,rfl⟩)
theorem vm (S:je P κ ε) (hg:o.guard=none) (it:Operand) (Ou:o.op=Op.next it false) (hit:a.eval it=.pointer (some ⟨r,0,none⟩)) (h:Over S w b r n l left NV)
 (Yo:NV=0->(∀kl,left kl=false)->wpList P ops Q rest (a.put o.dst (.tuple #[.bool false])) w)
 (Yp:∀(k:κ) (u:ε) (w':World) (OS:Nat),S.fR k->S.jD u->ez k l=some u->left (S.kl k)=true->Over S w' b r n l (fun z=>left z&&!z.sameKey (S.kl k)) OS->OS<NV ->
   w.grownBy w' (some r)->w'.heap.size=w.heap.size->(Instr.entry (.pointer (some ⟨r,0,none⟩))).run P w'=.ok (.tuple #[S.kv k,S.ev u]) w'->wpList P ops Q rest (a.put o.dst (.tuple #[.bool true,S.kv k,S.ev u])) w') :
 wpList P ops Q (o::rest) a w:=by
 obtain⟨D,h1,h2⟩:=h;refine wpList_next_ranges (α:=κ) (β:=ε) w hg it Ou S.K S.keyed S.R S.kv S.ev (fun v l hv=>?_) (fun v y hv=>?_) b r n D left NV hit h1 Yo ?_
 ·obtain⟨k,hk,-⟩:=S.mG v l hv;exact⟨k,hk⟩
 ·obtain⟨x,hx,-⟩:=S.nJ v y hv;exact⟨x,hx⟩
 intro x c kl y w' OS acI RB hv hat hrg Kg Mr LH Q0;obtain⟨k,e1,rfl,L5⟩:=S.mG _ _ acI;obtain rfl:=S.nK _ _ e1;obtain⟨u,e2,e3,hou⟩:=S.nJ _ _ hv;rw[e2]at Q0⊢;refine Yp x u w' OS L5 hou (h2.found L5 (fun zd=>by rw[hat,e3])) RB ⟨D,hrg,h2⟩ Kg Mr LH Q0
theorem BJ (S:je P κ ε) {UR:Act->World->Prop} (m x:Operand) (Ou:o.op=Op.call {callee:=Callee.builtin Builtin.delete,args:=#[m,x],argTypes:=#[S.t,S.K]})
 (hm:a.eval m=.map (some b)) (h:Over S w b r n l left NV) {k:κ} (hk:S.fR k) (hx:a.eval x=S.kv k)
 (hK:∀w' OS,Over S w' b r n (dI.del k l) (fun z=>left z&&!z.sameKey (S.kl k)) OS->OS<=NV->w.grownBy w' (some b)->w'.heap.size=w.heap.size->UR (a.put o.dst (.tuple #[])) w'):o.wp P a w UR Q:=by
 obtain⟨D,h1,h2⟩:=h;obtain⟨w',OS,L4,r1,r2,r3⟩:=h1.drop S.keyed S.ht (S.key k hk) o.type;unfold Oper.wp;simp[execOp,Ou,resolve,invoke,builtin,hm,hx,L4,Result.andThen];refine hK w' OS ⟨_,r1,h2.del hk⟩ r2 r3.grown ?_;obtain⟨es,clock,es',acJ,hb,rfl⟩:=r3;simp[ChangeMaps.setBlock]
end
end
def gi (n:Int):Prop:=(Lit.int .i64 n).wf=true
def pM (k:Int×Int):Value:=.agg #[.int .i64 k.1,.int .i64 k.2]
def qy (k:Int×Int):Lit:=.string (keyBytes [.int .i64 k.1,.int .i64 k.2])
def vo (k:Int×Int):Prop:=gi k.1/\gi k.2
theorem BK (k k':Int×Int) (h:pM k=pM k'):k=k':=by
 obtain⟨a,b⟩:=k;obtain⟨c,d⟩:=k';simpa[pM]using h
section
variable {P:Program} {κ:Type}
def vp (K e t:TypeId) (he:P.underlying e=some (.int .i64)) (hz:∀w,(zeroValue e).run P w=.ok (.int .i64 0) w) (ht:P.underlying t=some (.map K e)) (keyed:Maps.Keyed P K)
 (kv:κ->Value) (kl:κ->Lit) (fR:κ->Prop) (key:∀k,fR k->keyOf P K (kv k)=some (kl k)) (mG:∀v l,keyOf P K v=some l->∃k,v=kv k/\l=kl k/\fR k) (nK:∀k k',kv k=kv k'->k=k'):je P κ Int where
 K:=K
 e:=e
 t:=t
 kv:=kv
 kl:=kl
 fR:=fR
 ev:=Value.int .i64
 ed:=fun n=>.lit (.int .i64 n)
 jD:=gi
 z:=0
 R:=plainElem P e
 keyed:=keyed
 ht:=ht
 key:=key
 mG:=mG
 elem:=fun _ h=>plainElem_int he h
 nJ:=fun v y h=>plainElem_int_inv he h
 nK:=nK
 o6:=fun _ _ h=>by simpa using h
 zero:=hz
 o7:=by unfold gi;decide
end
end fq
end Go.Proofs.YtlhodcmdpchllaaGreatDoor
