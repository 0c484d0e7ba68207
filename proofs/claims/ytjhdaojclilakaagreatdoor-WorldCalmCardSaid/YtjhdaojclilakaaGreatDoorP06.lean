/-
  A part of the proof of the law WorldCalm: Heap, Own, Row, Queue, Flat, RowPart, AppRow.
-/
import Derived.Below
import Derived.Laws.OwnMore
import Derived.Laws.CopyOwn
import Derived.Laws.Rows
import Derived.Deep.Draws
import Derived.Lib.Hide
import Derived.Laws.IdiomCopy
import Derived.Lib.SliceRun
import Derived.ArgAppend
import Derived.Deep.AppendLies
import Derived.Test.YtjhdaojclilakaaGreatDoorHd
set_option maxHeartbeats 16000000
set_option maxRecDepth 1000000
namespace Go.Proofs.YtjhdaojclilakaaGreatDoor
section
variable {p q:Prop}
theorem abP (h:p:=by
 refine⟨h.1,?_⟩;rcases h.2 with h2|⟨g,cap,cur,h1,h2,h3,h4⟩
 ·exact .inl h2
 exact .inr ⟨g,cap,cur,h1,h2,(hb g (by rw[h1];rfl)).trans h3,h4⟩):p:=h
end
namespace heap
open Go.RowKit
def Has (w:World) (g:Nat) (o:Obj):Prop:=w.heap[g]?=some o
section
variable {w w':World} {g:Nat} {o:Obj} {t:TypeId} {cs:Array Value}
theorem Has.lt (h:Has w g o):g<w.heap.size:=by
 rcases bk g w.heap.size with b|a
 ·exact b
 unfold Has at h;rw[bZ a]at h;cases h
theorem Has.cell (h:Has w g (.cells cs t)) (i:Nat):w.cell? ⟨g,i,none⟩=cs[i]?:=cell_of_row w g i cs t (0,0) h
theorem Has.frozen (h:Has w g (.cells cs t)) (i:Nat):w.frozen? ⟨g,i,none⟩=false:=by
 unfold Has at h;simp[World.frozen?,h]
theorem Has.new (w:World) (o:Obj):Has (w.alloc o) w.heap.size o:=heap_alloc_new w o
theorem Has.drew (h:Has w g o):Has w.drew g o:=h
theorem Has.drewN (h:Has w g o) (n:Nat):Has (w.drewN n) g o:=h
theorem Has.alloc (h:Has w g o) (o':Obj):Has (w.alloc o') g o:=(Below.heap_alloc w o' g h.lt).trans h
theorem Has.fQ (h:Has w g (.cells cs t)) (i:Nat) (u:Value):Has (w.setCell ⟨g,i,none⟩ u) g (.cells (cs.setIfInBounds i u) t):=by
 unfold Has at h⊢;simp[World.setCell,Array.getElem?_modify,h]
theorem Has.jv (h:Has w g o) {p:Addr} (hp:g≠p.block) (u:Value):Has (w.setCell p u) g o:=(Below.heap_setCell w p u g hp).trans h
theorem Has.below {B:Nat} (h:Has w g o) (hb:Below B w w') (a:g<B):Has w' g o:=(hb.block g a).trans h
theorem Has.grown {row:Option Nat} (h:Has w g o) (hb:w.grownBy w' row) (a:some g≠row):Has w' g o:=(hb.block g h.lt a).trans h
theorem Has.setRow {jV:Array Value} (h:Has w g (.cells jV t)) (cs:Array Value):Has (w.setRow g cs) g (.cells cs t):=setRow_heap w g jV cs t (0,0) h
theorem Has.sy {a:Nat} (h:Has w g o) (b:g≠a) (cs:Array Value):Has (w.setRow a cs) g o:=(setRow_other w a g cs b).trans h
theorem Has.same {o':Obj} (h:Has w g o) (a:Has w g o'):o=o':=aA (h.symm.trans a)
end
theorem below_drewN {B:Nat} {a w:World} (h:Below B a w) (n:Nat):Below B a (w.drewN n):=⟨h.os,h.tape,h.output,h.size,h.block⟩
end heap
namespace own
open Go.RowKit heap
def Ext (w:World) (own a:Nat->Nat):Prop:=∀k,k<w.heap.size->a k=own k
def lh (own:Nat->Nat) (w:World) (T:Nat):Nat->Nat:=fun k=>if k<w.heap.size then own k else T
theorem Ext.refl (w:World) (own:Nat->Nat):Ext w own own:=fun _ _=>rfl
theorem Ext.new (w:World) (own:Nat->Nat) (T:Nat):Ext w own (lh own w T):=fun k a=>by simp[lh,a]
theorem Ext.trans {w w1:World} {o o1 a:Nat->Nat} (h:Ext w o o1) (b:Ext w1 o1 a) (hs:w.heap.size<=w1.heap.size):Ext w o a:=
 fun k c=>(b k ab).trans (h k c)
theorem oY {w:World} {own:Nat->Nat} {T k:Nat} (h:k<w.heap.size):lh own w T k=own k:=by simp[lh,h]
theorem sA {w:World} {own:Nat->Nat} {T k:Nat} (h:w.heap.size<=k):lh own w T k=T:=by simp[lh];omega
structure eJ (S:Nat->Prop) (w w':World):Prop where
 os:w'.os=w.os
 tape:w'.tape=w.tape
 output:w'.output=w.output
 size:w.heap.size<=w'.heap.size
 block:∀k,k<w.heap.size->¬S k->w'.heap[k]?=w.heap[k]?
section
variable {S S':Nat->Prop} {w w1 w2:World}
theorem eJ.refl (S:Nat->Prop) (w:World):eJ S w w:=⟨rfl,rfl,rfl,ax _,fun _ _ _=>rfl⟩
theorem eJ.trans (h:eJ S w w1) (a:eJ S' w1 w2) (hs:∀k,k<w.heap.size->S' k->S k):eJ S w w2:=
 ⟨a.os.trans h.os,a.tape.trans h.tape,a.output.trans h.output,aB h.size a.size,
  fun k b c=>(a.block k (aG b h.size) fun h=>c (hs k b h)).trans (h.block k b c)⟩
theorem eJ.mono (h:eJ S w w1) (hs:∀k,k<w.heap.size->S k->S' k):eJ S' w w1:=
 ⟨h.os,h.tape,h.output,h.size,fun k a b=>h.block k a fun h=>b (hs k a h)⟩
theorem eJ.drew (h:eJ S w w1):eJ S w w1.drew:=⟨h.os,h.tape,h.output,h.size,h.block⟩
theorem eJ.drewN (h:eJ S w w1) (n:Nat):eJ S w (w1.drewN n):=⟨h.os,h.tape,h.output,h.size,h.block⟩
theorem eJ.alloc (h:eJ S w w1) (o:Obj):eJ S w (w1.alloc o):=
 h.trans (S':=S) ⟨rfl,rfl,rfl,ae,fun k a _=>Below.heap_alloc _ _ _ a⟩ (fun _ _ h=>h)
theorem eJ.setCell (h:eJ S w w1) {p:Addr} (hp:w.heap.size<=p.block\/S p.block) (u:Value):eJ S w (w1.setCell p u):=
 ⟨h.os,h.tape,h.output,by have:=h.size;simpa[World.setCell]using this,fun k b a=>(Below.heap_setCell _ _ _ _ (by rintro rfl;rcases hp with hp|hp;omega;exact a hp)).trans (h.block k b a)⟩
theorem eJ.setRow (h:eJ S w w1) {g:Nat} (hp:w.heap.size<=g\/S g) (cs:Array Value):eJ S w (w1.setRow g cs):=
 ⟨h.os,h.tape,h.output,by have:=h.size;simpa[World.setRow]using this,fun k b a=>(setRow_other _ _ _ _ (by rintro rfl;rcases hp with hp|hp;omega;exact a hp)).trans (h.block k b a)⟩
theorem eJ.grown (h:eJ S w w1) {row:Option Nat} (a:w1.grownBy w2 row) (d:∀k,row=some k->w.heap.size<=k\/S k):eJ S w w2:=
 ⟨a.os.trans h.os,a.tape.trans h.tape,a.output.trans h.output,aB h.size a.size,
  fun k b c=>(a.block k (aG b h.size) (by rintro rfl;rcases d k rfl with h|h;omega;exact c h)).trans (h.block k b c)⟩
theorem eJ.below (h:eJ S w w1) {B:Nat} (hb:Below B w1 w2) (c:∀k,k<w.heap.size->¬S k->k<B):eJ S w w2:=
 ⟨hb.os.trans h.os,hb.tape.trans h.tape,hb.output.trans h.output,aB h.size hb.size,fun k a b=>(hb.block k (c k a b)).trans (h.block k a b)⟩
theorem eJ.il {B:Nat} (hb:Below B w w1) (a:w.heap.size<=B):eJ S w w1:=
 (eJ.refl _ _).below hb (fun _ b _=>aG b a)
theorem eJ.jl (h:eJ S w w1) {B:Nat} (hb:Below B w1 w2) (a:w1.heap.size<=B):eJ S w w2:=
 h.below hb (fun _ b _=>aG (aG b h.size) a)
theorem eJ.oE (h:eJ S w w1) {B:Nat} (c:B<=w.heap.size) (a:∀k,k<B->¬S k):Below B w w1:=
 ⟨h.os,h.tape,h.output,h.size,fun k b=>h.block k ab (a k b)⟩
theorem eJ.has (h:eJ S w w1) {g:Nat} {o:Obj} (a:Has w g o) (b:¬S g):Has w1 g o:=(h.block g a.lt b).trans a
theorem eJ.cell (h:eJ S w w1) {p:Addr} (hp:p.block<w.heap.size) (a:¬S p.block):w1.cell? p=w.cell? p:=World.cell?_of_block (h.block _ hp a)
theorem eJ.frozen (h:eJ S w w1) {p:Addr} (hp:p.block<w.heap.size) (a:¬S p.block):w1.frozen? p=w.frozen? p:=World.frozen?_of_block (h.block _ hp a)
end
def Row (own:Nat->Nat) (T:Nat) (w:World) (e:TypeId) (size:Nat) (v:Value) (n:Nat) (xs:List Value):Prop:=
 w.ownsRow 0 e size v n xs/\∀g,v.ownBlock=some g->own g=T
section
variable {own own1:Nat->Nat} {S:Nat->Prop} {w w1 w2:World} {T:Nat} {e:TypeId} {size n:Nat} {v:Value} {xs:List Value}
theorem Row.lt (h:Row own T w e size v n xs):∀g,v.ownBlock=some g->g<w.heap.size:=by
 intro g a;rcases h.1.2 with⟨rfl,_⟩|⟨b,cap,cur,rfl,_,c,_⟩
 ·cases a
 (have:b=g:=by simpa[Value.ownBlock]using a);subst this;exact Has.lt (w:=w) c
theorem oa (h:w.ownsRow 0 e size v n xs) (hb:∀g,v.ownBlock=some g->w1.heap[g]?=w.heap[g]?):w1.ownsRow 0 e size v n xs:=by
 exact abP
theorem Row.fc (h:Row own T w e size v n xs) (ht:eJ S w w1) (he:Ext w own own1) (b:∀k,k<w.heap.size->own k=T->¬S k):Row own1 T w1 e size v n xs:=
 ⟨oa h.1 fun g a=>ht.block g (h.lt g a) (b g (h.lt g a) (h.2 g a)),fun g a=>by rw[he g (h.lt g a)];exact h.2 g a⟩
theorem Row.wE (h:Row own T w e size v n xs) (ht:eJ S w w1) (he:Ext w own own1) (b:∀k,v.ownBlock=some k->¬S k):Row own1 T w1 e size v n xs:=
 ⟨oa h.1 fun g a=>ht.block g (h.lt g a) (b g a),fun g a=>by rw[he g (h.lt g a)];exact h.2 g a⟩
theorem Row.nil (own:Nat->Nat) (T:Nat) (w:World) (e:TypeId) (size:Nat):Row own T w e size (.slice none 0 0) 0 []:=
 ⟨⟨ae,.inl ⟨rfl,rfl⟩⟩,fun g a=>by cases a⟩
end
def lay (cs:Array Value):Nat->List Value->Array Value
 |_,[]=>cs
 |o,v::r=>lay (cs.setIfInBounds o v) (o+1) r
theorem rp (vs:List Value):∀(cs:Array Value) (o:Nat),(lay cs o vs).size=cs.size:=by
 induction vs with
 |nil=>intro cs o;rfl
 |cons v r ih=>intro cs o;simp[lay,ih]
theorem wN (vs:List Value):∀(cs:Array Value) (o:Nat),o+vs.length<=cs.size->(lay cs o vs).toList=cs.toList.take o++vs++cs.toList.drop (o+vs.length):=by
 induction vs with
 |nil=>intro cs o _;simp[lay]
 |cons v r ih =>
  intro cs o h;simp only[aL]at h;simp only[lay];rw[ih _ _ ah];have a:o<cs.toList.length:=ah
  have e1:(cs.setIfInBounds o v).toList=cs.toList.take o++v::cs.toList.drop (o+1):=by
   rw[dP,dv,if_pos a]
  (have ht:(cs.toList.take o).length=o:=by rw[bV];omega);rw[e1]
  have b:(cs.toList.take o++v::cs.toList.drop (o+1)).take (o+1)=cs.toList.take o++[v]:=by
   rw[dh,ht,cW,bB (by rw[ht];omega)];simp
  have c:(cs.toList.take o++v::cs.toList.drop (o+1)).drop (o+1+r.length)=cs.toList.drop (o+(r.length+1)):=by
   rw[List.drop_append,ht,cd (by rw[ht];omega),cf,show o+1+r.length-o=r.length+1 from by omega,List.drop_succ_cons,List.drop_drop];congr 1;omega
  rw[b,c];simp
theorem Has.setCells {t:TypeId} {g:Nat} (vs:List Value):∀ {w:World} {cs:Array Value} (_:Has w g (.cells cs t)) (o:Nat),Has (w.setCells g o vs) g (.cells (lay cs o vs) t):=by
 induction vs with
 |nil=>intro w cs h o;exact h
 |cons v r ih=>intro w cs h o;exact ih (h.fQ o v) (o+1)
section
variable {S:Nat->Prop} {w:World}
theorem eJ.setCells {g:Nat} (vs:List Value):∀ {a:World} (_:eJ S w a) (_:w.heap.size<=g\/S g) (o:Nat),eJ S w (a.setCells g o vs):=by
 induction vs with
 |nil=>intro a h _ o;exact h
 |cons v r ih=>intro a h hp o;exact ih (h.setCell (p:=⟨g,o,none⟩) hp v) hp (o+1)
end
theorem zL {S:Nat->Prop} {g:Nat} (c:S g) (w:World) (a b:Nat) (xs d:List Value):eJ S w ((w.drew.setCells g a xs).setCells g b d):=
 eJ.setCells d (eJ.setCells xs (eJ.refl S w).drew (.inr c) a) (.inr c) b
variable {P:Program}
theorem zM (w:World) (t e ty:TypeId) (z:Value) (zs:List Value) (ht:P.underlying t=some (.slice e)) (hv:(zeroValue e).run P w=.ok z w) (d:(Builtin.zeroCells z.cells 1).toList=zs) (f:∀v∈zs,v.oneCell'=true) (b o c:Nat)
 (hc:∀j,j<zs.length->(w.cell? ⟨b,o+j,none⟩).isSome=true) (g:∀j,j<zs.length->w.frozen? ⟨b,o+j,none⟩=false) :
 (Builtin.clear_ #[t] ty #[.slice (some ⟨b,o,none⟩) 1 c]).run P w=.ok (.tuple #[]) (w.setCells b o zs):=by
 have a:=run_storeCells_cells (P:=P) b o zs 0 w (by simpa using hc) (by simpa using g) f;simp only[dU]at a;simp[Builtin.clear_,run_underlying ht,hv,d,a]
def cut (size k:Nat) (xs:List Value):List Value:=xs.take (k*size)++xs.drop ((k+1)*size)
theorem tZ {α:Type} (size k:Nat) (f:α->List Value) (a:∀x,(f x).length=size) (l:List α):cut size k (l.flatMap f)=(l.eraseIdx k).flatMap f:=by
 have ht:∀(l:List α) (k:Nat),(l.flatMap f).take (k*size)=(l.take k).flatMap f:=by
  intro l
  induction l with
  |nil=>intro k;simp
  |cons x l ih =>
   intro k
   cases k with
   |zero=>simp
   |succ k =>
    rw[bm,dh,a,Nat.succ_mul,cK,ih,bB (by rw[a];omega)];simp
 have hd:∀(l:List α) (k:Nat),(l.flatMap f).drop (k*size)=(l.drop k).flatMap f:=by
  intro l
  induction l with
  |nil=>intro k;simp
  |cons x l ih =>
   intro k
   cases k with
   |zero=>simp
   |succ k =>
    rw[bm,List.drop_append,a,Nat.succ_mul,cK,ih,cd (by rw[a];omega)];simp
 unfold cut;rw[ht,hd,<- cH,cO]
section
variable {own:Nat->Nat} {w:World} {T:Nat} {e:TypeId} {size n:Nat} {v:Value} {xs:List Value}
theorem Row.shape (h:Row own T w e size v n xs) (j:0<n):∃g cap cur,v=.slice (some ⟨g,0,none⟩) n cap/\own g=T/\Has w g (.cells cur e)/\n<=cap/\cap<=maxLen/\cur.size=cap*size/\cur.toList.take (n*size)=xs:=by
 rcases h.1.2 with⟨_,k⟩|⟨g,cap,cur,a,_,b,c,d,f,i⟩
 ·omega
 exact⟨g,cap,cur,a,h.2 g (by rw[a];rfl),b,c,d,f,i⟩
theorem Row.mk {g cap:Nat} {cur:Array Value} (d:own g=T) (h:Has w g (.cells cur e)) (a:n<=cap) (f:cap<=maxLen) (b:cur.size=cap*size) (c:cur.toList.take (n*size)=xs):Row own T w e size (.slice (some ⟨g,0,none⟩) n cap) n xs:=by
 refine⟨⟨?_,.inr ⟨g,cap,cur,rfl,bR _,h,a,f,b,c⟩⟩,fun k i=>?_⟩
 ·rw[<- c,bV,cy,b];exact ef (bM _ a)
 (have:g=k:=by simpa[Value.ownBlock]using i);rw[<- this];exact d
theorem kj {g:Nat} {cur:Array Value} (h:Has w g (.cells cur e)) (a:cur.toList.take (n*size)=xs) (j:Nat) (b:j<n*size):w.cell? ⟨g,j,none⟩=xs[j]?/\w.frozen? ⟨g,j,none⟩=false:=by
 refine⟨?_,h.frozen j⟩;rw[h.cell,<- a,dI,if_pos b,du]
theorem ub {g cap:Nat} {cur:Array Value} (h:Has w g (.cells cur e)) (a:cur.size=cap*size) (j:Nat) (b:j<cap*size):(w.cell? ⟨g,j,none⟩).isSome=true/\w.frozen? ⟨g,j,none⟩=false:=by
 refine⟨?_,h.frozen j⟩;rw[h.cell,dw ab];rfl
theorem rq {w:World} {g:Nat} {t:TypeId} {l:List Value} {base size n:Nat} (h:Has w g (.cells l.toArray t)) (hb:base<=g) (a:l.length=n*size) (b:n<=maxLen) :
 w.ownsRow base t size (.slice (some ⟨g,0,none⟩) n n) n l:=
 ⟨a,.inr ⟨g,n,l.toArray,rfl,hb,h,ax _,b,by simp[a],by simp[<- a]⟩⟩
theorem mg {w:World} {base a:Nat} (h:w.ownsRow base e size v n xs) (hb:a<=base):w.ownsRow a e size v n xs:=by
 refine⟨h.1,?_⟩;rcases h.2 with b|⟨c,cap,cur,d,b,f⟩
 ·exact .inl b
 exact .inr ⟨c,cap,cur,d,ab,f⟩
theorem mh {w w':World} {base:Nat} (h:w.ownsRow base e size v n xs) (hb:BB w w'):w'.ownsRow base e size v n xs:=by
 refine⟨h.1,?_⟩;rcases h.2 with a|⟨g,cap,cur,c,a,b,d⟩
 ·exact .inl a
 exact .inr ⟨g,cap,cur,c,a,(hb.block g (Has.lt (w:=w) (g:=g) b)).trans b,d⟩
theorem lK {w:World} {base:Nat} (h:w.ownsRow base e size v n xs):∀g,v.ownBlock=some g->base<=g:=by
 intro g a;rcases h.2 with⟨rfl,_⟩|⟨b,_,_,rfl,h,_⟩
 ·cases a
 (have:b=g:=by simpa[Value.ownBlock]using a);omega
theorem Row.below {own:Nat->Nat} {T:Nat} {w w':World} (h:Row own T w e size v n xs) (hb:BB w w'):Row own T w' e size v n xs:=⟨mh h.1 hb,h.2⟩
theorem Row.of {own:Nat->Nat} {T base:Nat} (h:w.ownsRow base e size v n xs) (a:∀g,base<=g->own g=T):Row own T w e size v n xs:=
 ⟨mg h (bR _),fun g b=>a g (lK h g b)⟩
theorem zN {g cap k:Nat} {cur:Array Value} {zs:List Value} (i:own g=T) (h:Has w g (.cells cur e)) (c:n<=cap) (j:cap<=maxLen) (a:cur.size=cap*size) (d:cur.toList.take (n*size)=xs) (s:k<n) (l:zs.length=size) :
 Row own T ((w.setCells g (k*size) (xs.drop ((k+1)*size))).setCells g ((n-1)*size) zs) e size (.slice (some ⟨g,0,none⟩) (n-1) cap) (n-1) (cut size k xs):=by
 have f:xs.length=n*size:=by
  rw[<- d,bV,cy,a];exact ef (bM _ c)
 have t:n*size<=cap*size:=bM _ c;obtain⟨m,rfl⟩:∃m,n=m+1:=⟨n-1,ab⟩;have u:(k+1)*size<=(m+1)*size:=bM _ ab;have v:k*size<=m*size:=bM _ ab;simp only[cK];have x:(m+1)*size=m*size+size:=Nat.succ_mul _ _;have o:(k+1)*size=k*size+size:=Nat.succ_mul _ _;have p:=wN (xs.drop ((k+1)*size)) cur (k*size) (by rw[cx,f,a];omega);have q:=wN zs (lay cur (k*size) (xs.drop ((k+1)*size))) (m*size) (by rw[rp,l,a];omega);refine Row.mk i (Has.setCells zs (Has.setCells _ h _) _) ab j (by rw[rp,rp,a]) ?_;rw[q,p];(have b:(cur.toList.take (k*size)).length=k*size:=by rw[bV,cy,a];omega);have hd:(xs.drop ((k+1)*size)).length=m*size-k*size:=by rw[cx,f];omega
 have e1:(cur.toList.take (k*size)++xs.drop ((k+1)*size)++cur.toList.drop (k*size+(xs.drop ((k+1)*size)).length)).take (m*size)=cur.toList.take (k*size)++xs.drop ((k+1)*size):=by
  rw[dh,bB (by rw[aE,b,hd];omega),aE,b,hd,show m*size-(k*size+(m*size-k*size))=0 from by omega];simp
 have r:cur.toList.take (k*size)=xs.take (k*size):=by
  rw[<- d,List.take_take,ef ab]
 rw[e1,bx,dh,bB (by rw[aE,b,hd];omega),aE,b,hd,show m*size-(k*size+(m*size-k*size))=0 from by omega,List.take_zero,bG,r];rfl
end
end own
namespace own
open Go.RowKit heap
def iD (own:Nat->Nat) (T:Nat) (w:World) (e:TypeId) (size:Nat) (v:Value) (n:Nat) (xs:List Value):Prop:=
 xs.length=n*size/\((v=.slice none 0 0/\n=0)\/∃g off cap cur,v=.slice (some ⟨g,off,none⟩) n cap/\own g=T/\Has w g (.cells cur e)/\n<=cap/\off+cap*size<=cur.size/\cap<=maxLen/\(cur.toList.drop off).take (n*size)=xs)
section
variable {own own1:Nat->Nat} {S:Nat->Prop} {w w1 w2:World} {T:Nat} {e:TypeId} {size n:Nat} {v:Value} {xs:List Value}
theorem iD.IW (h:Row own T w e size v n xs):iD own T w e size v n xs:=by
 refine⟨h.1.1,?_⟩;rcases h.1.2 with a|⟨g,cap,cur,rfl,-,b,c,d,i,f⟩
 ·exact .inl a
 exact .inr ⟨g,0,cap,cur,rfl,h.2 g rfl,b,c,ab,d,by simpa using f⟩
theorem iD.lt (h:iD own T w e size v n xs):∀g,v.ownBlock=some g->g<w.heap.size/\own g=T:=by
 intro g a;rcases h.2 with⟨rfl,_⟩|⟨b,off,cap,cur,rfl,c,d,_⟩
 ·cases a
 (obtain rfl:b=g:=by simpa[Value.ownBlock]using a);exact⟨d.lt,c⟩
theorem iD.nil (own:Nat->Nat) (T:Nat) (w:World) (e:TypeId) (size:Nat):iD own T w e size (.slice none 0 0) 0 []:=⟨ae,.inl ⟨rfl,rfl⟩⟩
theorem iD.fc (h:iD own T w e size v n xs) (ht:eJ S w w1) (he:Ext w own own1) (c:∀k,k<w.heap.size->own k=T->¬S k):iD own1 T w1 e size v n xs:=by
 refine⟨h.1,?_⟩;rcases h.2 with d|⟨g,off,cap,cur,rfl,b,a,f⟩
 ·exact .inl d
 exact .inr ⟨g,off,cap,cur,rfl,by rw[he g a.lt];exact b,ht.has a (c g a.lt b),f⟩
theorem iD.below (h:iD own T w e size v n xs) (hb:BB w w1):iD own T w1 e size v n xs:=
 h.fc (S:=fun _=>False) (eJ.il hb (ax _)) (Ext.refl _ _) (fun _ _ _ h=>h)
theorem iD.slice (h:iD own T w e size v n xs):∃a c,v=.slice a n c/\n<=c/\c<=maxLen:=by
 rcases h.2 with⟨rfl,rfl⟩|⟨g,off,cap,cur,rfl,-,-,b,-,d,-⟩
 ·exact⟨none,0,rfl,ax _,by simp[maxLen]⟩
 exact⟨_,cap,rfl,b,d⟩
theorem iD.shape (h:iD own T w e size v n xs) (a:0<n):∃g off cap cur,v=.slice (some ⟨g,off,none⟩) n cap/\own g=T/\Has w g (.cells cur e)/\n<=cap/\off+cap*size<=cur.size/\cap<=maxLen/\(cur.toList.drop off).take (n*size)=xs:=by
 rcases h.2 with⟨-,b⟩|h
 ·omega
 exact h
theorem iD.mk {g off cap:Nat} {cur:Array Value} (c:own g=T) (h:Has w g (.cells cur e)) (a:n<=cap) (d:off+cap*size<=cur.size) (f:cap<=maxLen) (b:(cur.toList.drop off).take (n*size)=xs):iD own T w e size (.slice (some ⟨g,off,none⟩) n cap) n xs:=by
 refine⟨?_,.inr ⟨g,off,cap,cur,rfl,c,h,a,d,f,b⟩⟩;have:n*size<=cap*size:=bM _ a;rw[<- b,bV,cx,cy];omega
theorem AO {g off:Nat} {cur:Array Value} (h:Has w g (.cells cur e)) (a:(cur.toList.drop off).take (n*size)=xs) (j:Nat) (b:j<n*size):w.cell? ⟨g,off+j,none⟩=xs[j]?/\w.frozen? ⟨g,off+j,none⟩=false:=by
 refine⟨?_,h.frozen _⟩;rw[h.cell,<- a,dI,if_pos b,eo,du]
theorem iD.tail {g off cap:Nat} (h:iD own T w e size (.slice (some ⟨g,off,none⟩) n cap) n xs) (a:0<n):iD own T w e size (.slice (some ⟨g,off+size,none⟩) (n-1) (cap-1)) (n-1) (xs.drop size):=by
 obtain⟨k,b,l,cur,e1,d,f,m,o,p,i⟩:=h.shape a;injection e1 with e1 e2 e3;injection e1 with e1;injection e1 with e1 e4;subst e1 e3 e4
 have hm:cap*size=(cap-1)*size+size:=by
  obtain⟨c,rfl⟩:∃c,cap=c+1:=⟨cap-1,ab⟩;rw[cK,dQ,eu]
 have j:n*size=(n-1)*size+size:=by
  obtain⟨c,rfl⟩:∃c,n=c+1:=⟨n-1,ab⟩;rw[cK,dQ,eu]
 refine iD.mk d f ab ab ab ?_;rw[<- i,j,dT ((n-1)*size) size,List.drop_take,List.drop_drop,show size+(n-1)*size-size=(n-1)*size by omega]
theorem IY {g:Nat} (cs:Array Value) (w:World) (row:Option Nat) (h:row=some g):w.grownBy (w.setRow g cs) row:=
 ⟨rfl,rfl,rfl,by simp[World.setRow],fun k _ a=>setRow_other _ _ _ _ fun e=>a (by rw[h,e])⟩
variable {P:Program}
theorem IZ (t ty:TypeId) (i:TypeInfo) (z:Value) (bytes:Nat) (ht:P.underlying t=some (.slice e)) (hi:P.info? e=some i) (H:i.zero=some z)
 (q:i.size=size) (I:i.bytes=bytes) (f:z.cells.size=size) (J:0<size) (h:iD own T w e size v n xs)
 (a:Addr) (m c:Nat) (news:List Value) (r:news.length=m*size) (A:∀j u,news[j]?=some u->w.cell? (a.add j)=some u) (l:∀u∈news,u.oneCell'=true)
 (hm:0<m) (o:n+m<=maxLen) (K:(n+m)*bytes<=140737488355328) :
 ∃g off cap w',(Builtin.append_ #[t,t] ty #[v,.slice (some a) m c]).run P w=.ok (.slice (some ⟨g,off,none⟩) (n+m) cap) w'/\iD (lh own w T) T w' e size (.slice (some ⟨g,off,none⟩) (n+m) cap) (n+m) (xs++news)/\w.grownBy w' v.ownBlock/\(v.ownBlock=some g\/w.heap.size<=g):=by
 have other:∀b w',w'.ownsRow w.heap.size e size b (n+m) (xs++news)->w.grownBy w' none->(∃g cap,b=.slice (some ⟨g,0,none⟩) (n+m) cap/\iD (lh own w T) T w' e size b (n+m) (xs++news)/\w.grownBy w' v.ownBlock/\w.heap.size<=g):=fun b w' l h2=>by
  rcases l.2 with⟨-,L⟩|⟨g,cap,cur,rfl,hb,p,s,x,y,X⟩
  ·omega
  exact⟨g,cap,rfl,iD.IW ⟨mg l (bR _),fun B O=>by
   obtain rfl:g=B:=by simpa[Value.ownBlock]using O
   exact sA hb⟩,⟨h2.os,h2.tape,h2.output,h2.size,fun k C _=>h2.block k C ae⟩,hb⟩
 rcases h.2 with⟨rfl,rfl⟩|⟨g,off,cap,cur,rfl,Q,p,h2,Y,R,M⟩
 ·obtain rfl:xs=[]:=bc (by simpa using h.1);obtain⟨b,w',D,E,d,-⟩:=run_append_own (P:=P) w w.heap.size t ty e i z size bytes ht hi H q I f J (.slice none 0 0) 0 [] (World.ownsRow_nil w _ e size) a m c news r A l o K (ax _);obtain⟨g,cap,rfl,s,x,y⟩:=other b w' E ⟨d.os,d.tape,d.output,d.size,fun k C _=>d.block k C (by simp[Value.ownBlock])⟩;exact⟨g,0,cap,w',D,s,x,.inr y⟩
 rcases bk cap (n+m)with hc|hc
 ·have F:n*size<=cap*size:=bM _ h2
  obtain⟨b,w',D,E,d⟩:=run_append_arg_grows (P:=P) w t ty e i z size bytes ht hi H q I f J ⟨g,off,none⟩ n cap xs h.1 (fun j u hj=>by
   (have S:j<n*size:=by rw[<- h.1];exact (az.1 hj).1);have e1:(⟨g,off,none⟩:Addr).add j=⟨g,off+j,none⟩:=by by_cases L:j=0<;>simp[Addr.add,L]
   rw[e1,(AO p M j S).1,hj]) a m c news r A hc o K
  obtain⟨B,U,rfl,s,x,y⟩:=other b w' E d;exact⟨B,0,U,w',D,s,x,.inr y⟩
 have F:(n+m)*size<=cap*size:=bM _ hc;have G:(n+m)*size=n*size+m*size:=dQ _ _ _;have V:=run_firstCells_some (P:=P) w i.size m a m c news (by rw[q];exact r) A;have N:=run_storeCells_at P g (off+n*size) e news 0 cur w p ab l;simp only[dU]at N;refine⟨g,off,cap,w.setRow g (cur.toList.take (off+n*size)++news++cur.toList.drop (off+n*size+news.length)).toArray,?_,?_,IY _ _ _ rfl,.inl rfl⟩
 ·subst q;simp[Builtin.append_,run_underlying ht,sizeOf,typeInfo,hi,Builtin.lenOf,hc,V,Addr.add_lit,N]
 have W:=p.lt;have Z:cur.toList.length=cur.size:=ae;refine iD.mk (by rw[oY W];exact Q) (p.setRow _) hc ?_ R ?_
 ·simp;omega
 simp only[bx];rw[dH ah,List.drop_take,show off+n*size-off=n*size by omega,M,dh,h.1];rw[bB (by rw[h.1];omega),G,cW,<- r,List.take_left'];rfl
end
section
variable {α:Type} {f:α->List Value} {size:Nat}
theorem nf (a:∀x,(f x).length=size):∀(l:List α),(l.flatMap f).length=l.length*size
 | []=>ae
 |x::l=>by rw[bm,aE,nf a l,a,aL,dQ,eu,dT]
theorem flat_get (a:∀x,(f x).length=size):∀(l:List α) (k:Nat) (x:α),l[k]?=some x->∀j,j<size->(l.flatMap f)[k*size+j]?=(f x)[j]?
 | [],k,x,h=>by simp at h
 |y::l,0,x,h=>fun j b=>by
  (obtain rfl:y=x:=by simpa using h);rw[bm,Nat.zero_mul,cN,ba (by rw[a];exact b)]
 |y::l,k+1,x,h=>fun j b=>by
  rw[bm,dQ,eu,aR (by rw[a];omega),a,show k*size+size+j-size=k*size+j by omega];exact flat_get a l k x (by simpa using h) j b
theorem I0 (a:∀x,(f x).length=size) (x:α) (l:List α):((x::l).flatMap f).drop size=l.flatMap f:=by
 rw[bm,dH (by rw[a];exact ax _),cd (by rw[a];exact ax _),cf]
theorem xu (a:∀x,∀u∈f x,u.oneCell'=true) (l:List α):∀u∈l.flatMap f,u.oneCell'=true:=fun u hu=>by
 obtain⟨x,-,b⟩:=di.1 hu;exact a x u b
variable {own:Nat->Nat} {T n:Nat} {w:World} {e:TypeId} {v:Value} {l:List α}
theorem Row.elem (a:∀x,(f x).length=size) (h:Row own T w e size v l.length (l.flatMap f)) {k:Nat} {x:α} (b:l[k]?=some x) :
 ∃g cap,v=.slice (some ⟨g,0,none⟩) l.length cap/\own g=T/\g<w.heap.size/\l.length<=cap/\cap<=maxLen/\∀j u,(f x)[j]?=some u->CC w g (k*size+j) u/\w.frozen? ⟨g,k*size+j,none⟩=false:=by
 have i:k<l.length:=(az.1 b).1;obtain⟨g,cap,cur,rfl,m,c,n,o,r,p⟩:=h.shape ab;refine⟨g,cap,rfl,m,c.lt,n,o,fun j u d=>?_⟩;have q:j<size:=by rw[<- a x];exact (az.1 d).1
 have hm:k*size+size<=l.length*size:=by
  have:=bM size (show k+1<=l.length from i);rwa [dQ,eu]at this
 have:=kj c p (k*size+j) ab;exact⟨this.1.trans ((flat_get a l k x b j q).trans d),this.2⟩
theorem iD.elem (a:∀x,(f x).length=size) (h:iD own T w e size v l.length (l.flatMap f)) {k:Nat} {x:α} (b:l[k]?=some x) :
 ∃g off cap,v=.slice (some ⟨g,off,none⟩) l.length cap/\own g=T/\g<w.heap.size/\l.length<=cap/\cap<=maxLen/\∀j u,(f x)[j]?=some u->CC w g (off+(k*size+j)) u/\w.frozen? ⟨g,off+(k*size+j),none⟩=false:=by
 have i:k<l.length:=(az.1 b).1;obtain⟨g,off,cap,cur,rfl,m,c,n,r,o,p⟩:=h.shape ab;refine⟨g,off,cap,rfl,m,c.lt,n,o,fun j u d=>?_⟩;have q:j<size:=by rw[<- a x];exact (az.1 d).1
 have hm:k*size+size<=l.length*size:=by
  have:=bM size (show k+1<=l.length from i);rwa [dQ,eu]at this
 have:=AO c p (k*size+j) ab;exact⟨this.1.trans ((flat_get a l k x b j q).trans d),this.2⟩
end
section
variable {P:Program}
theorem LD (w:World) (g o:Nat) (ty:TypeId) (cells:Array Value) (hi:(P.info? ty).map (·.size)=some cells.size) (hc:∀j,j<cells.size->(w.cell? ⟨g,o+j,none⟩).isSome=true) (a:∀j,j<cells.size->w.frozen? ⟨g,o+j,none⟩=false) (b:cells.all (·.oneCell')=true) :
 (storeVar ty ⟨g,o,none⟩ (.agg cells)).run P w=.ok () (w.setCells g o cells.toList):=by
 have:=run_storeCells_cells (P:=P) g o cells.toList 0 w (fun j hj=>hc j (by simpa using hj)) (fun j hj=>a j (by simpa using hj)) (fun v hv=>(cA.1 b) v (by simpa using hv))
 cases hq:P.info? ty with
 |none=>simp[hq]at hi
 |some i =>
  (have hs:cells.size=i.size:=by simp[hq]at hi;omega);rw[dU]at this;simp[storeVar,sizeOf,typeInfo,hq,Value.cells,hs,this]
theorem LF {o:Oper} {a:Act} {w:World} {K:Act->World->Prop} {Q:Exit->Act->World->Prop} (ty:TypeId) (x y:Operand) (b:o.op=.store ty x y) (g i:Nat) (cells:Array Value) (c:a.eval x=VP g i) (hy:a.eval y=.agg cells)
 (hi:(P.info? ty).map (·.size)=some cells.size) (hc:∀j,j<cells.size->(w.cell? ⟨g,i+j,none⟩).isSome=true) (d:∀j,j<cells.size->w.frozen? ⟨g,i+j,none⟩=false) (e:cells.all (·.oneCell')=true)
 (h:K (a.put o.dst undef) (w.setCells g i cells.toList)):o.wp P a w K Q:=by
 unfold Oper.wp execOp;simp only[b,c,hy,Instr.storeAt,Instr.sureAddr,Sem.run_bind,Sem.run_pure,Result.andThen_ok,LD w g i ty cells hi hc d e];exact h
end
section
variable {own:Nat->Nat} {w:World} {T:Nat} {e:TypeId} {size n:Nat}
theorem Cf {g cap:Nat} {a jV b vs:List Value} (h:Row own T w e size (.slice (some ⟨g,0,none⟩) n cap) n (a++jV++b)) (i:jV.length=vs.length) (t:0<vs.length):Row own T (w.setCells g a.length vs) e size (.slice (some ⟨g,0,none⟩) n cap) n (a++vs++b):=by
 have c:(a++jV++b).length=n*size:=h.1.1
 have j:0<n:=by
  rcases bQ n with e|e
  ·rw[e,Nat.zero_mul]at c;simp only[aE]at c;omega
  exact e
 obtain⟨k,u,cur,e1,l,m,f,o,d,p⟩:=h.shape j;simp only[Value.slice.injEq]at e1;obtain⟨e1,-,rfl⟩:=e1;(obtain rfl:g=k:=by simpa using e1);(have hc:cur.toList=a++jV++b++cur.toList.drop (n*size):=by rw[<- p,cS]);(have v:cur.toList.length=cap*size:=by simpa using d);have x:n*size<=cap*size:=bM _ f;(have hlen:a.length+jV.length+b.length=n*size:=by simpa[Nat.add_assoc]using c);have q:=wN vs cur a.length (by rw[d];omega);refine Row.mk l (Has.setCells vs m a.length) f o (by rw[rp,d]) ?_;rw[q,hc];generalize cur.toList.drop (n*size)=rest;have r:List.take a.length (a++jV++b++rest)=a:=ae
 have s:List.drop (a.length+vs.length) (a++jV++b++rest)=b++rest:=by
  rw[<- i,show a++jV++b++rest=(a++jV)++(b++rest) by simp,dH ae,cd ae,cf]
 rw[r,s,show a++vs++(b++rest)=(a++vs++b)++rest by simp,cI ah,bB ah]
end
def jS (own:Nat->Nat) (g T:Nat):Nat->Nat:=fun k=>if k=g then T else own k
section
variable {P:Program}
theorem L0 {et:TypeId} {z:Value} {size bytes:Nat} (hi:(P.info? et).map (fun i=>(i.zero,i.size,i.bytes))=some (some z,size,bytes)):∃i,P.info? et=some i/\i.zero=some z/\i.size=size/\i.bytes=bytes:=by
 cases h:P.info? et with
 |none=>rw[h]at hi;cases hi
 |some i =>
  rw[h]at hi;simp only[Option.map_some,bI,dD]at hi;exact⟨i,rfl,hi.1,hi.2.1,hi.2.2⟩
theorem te {o:Oper} {a:Act} {w:World} {K:Act->World->Prop} {Q:Exit->Act->World->Prop} {own:Nat->Nat} (x y:Operand) (st et:TypeId) (T size bytes:Nat) (z:Value) (c:o.op=.call {callee:=.builtin .append,args:=#[x,y],argTypes:=#[st,st]})
 (hu:P.underlying st=some (.slice et)) (hi:(P.info? et).map (fun i=>(i.zero,i.size,i.bytes))=some (some z,size,bytes)) (b:z.cells.size=size) (d:0<size)
 (v:Value) (n g:Nat) (xs news:List Value) (f:a.eval x=v) (l:Row own T w et size v n xs) (hy:a.eval y=.slice (some ⟨g,0,none⟩) 1 1) (m:Has w g (.cells news.toArray et)) (D:news.length=size) (p:∀u∈news,u.oneCell'=true)
 (E:n<=1000000) (q:bytes<=1000) (H:Nat) (r:w.heap.size=H)
 (h:∀g' cap w',Row (jS own g' T) T w' et size (.slice (some ⟨g',0,none⟩) (n+1) cap) (n+1) (xs++news)->w.grownBy w' v.ownBlock->(v.ownBlock=some g'\/g'=H)->g'<w'.heap.size->K (a.put o.dst (.slice (some ⟨g',0,none⟩) (n+1) cap)) w'):o.wp P a w K Q:=by
 obtain⟨i,s,t,A,B⟩:=L0 hi;have hb:(n+1)*bytes<=1000001*1000:=Nat.mul_le_mul ab q;refine wp_append_lies w x y st c 0 et i z size bytes hu s t A B b d v n xs f (mg l.1 (bR _)) ⟨g,0,none⟩ 1 1 news hy ab (fun j u C=>?_) p aj ak ab (bR _) H r fun g' PL w' r1 r2 r3 r4=>h g' PL w' ⟨r1,fun k hk=>?_⟩ r2 r3 r4
 ·(have e1:(⟨g,0,none⟩:Addr).add j=⟨g,j,none⟩:=by by_cases h0:j=0<;>simp[Addr.add,h0]);rw[e1,m.cell,aJ,C]
 (have e:g'=k:=by simpa[Value.ownBlock]using hk);unfold jS;rw[if_pos e.symm]
end
section
variable {own:Nat->Nat} {w w':World} {T g':Nat} {v:Value}
theorem rQ (b:∀k,v.ownBlock=some k->own k=T) (a:v.ownBlock=some g'\/g'=w.heap.size):Ext w own (jS own g' T):=fun k c=>by
 unfold jS;split
 ·rename_i e;subst e;rcases a with a|a
  ·exact (b _ a).symm
  omega
 rfl
theorem vj (a:∀g,w.heap.size<=g->own g=0) (hs:w.heap.size<=w'.heap.size) (c:g'<w'.heap.size):∀g,w'.heap.size<=g->jS own g' T g=0:=fun g b=>by
 unfold jS;rw[if_neg ab];exact a g (aB hs b)
theorem qM (a:w.grownBy w' v.ownBlock) (b:∀k,v.ownBlock=some k->own k=T):eJ (fun k=>own k=T) w w':=(eJ.refl _ w).grown a fun k hk=>.inr (b k hk)
end
end own
end Go.Proofs.YtjhdaojclilakaaGreatDoor
