/-
  A part of the proof of the law DeskPieces: Heap, Own, Row, Queue, Flat, RowPart, AppRow.
-/
import Derived.Below
import Derived.Laws.OwnMore
import Derived.Laws.CopyOwn
import Derived.Laws.Rows
import Derived.Deep.Draws
import Derived.Lib.Hide
import Derived.Laws.IdiomCopy
import Derived.Lib.SliceRun
import Derived.ArgAppend
import Derived.Deep.AppendLies
import Derived.Test.YtlhodcmdpchllaaGreatDoorHd
set_option maxHeartbeats 16000000
set_option maxRecDepth 1000000
namespace Go.Proofs.YtlhodcmdpchllaaGreatDoor
namespace heap
open Go.RowKit
def Has (w:World) (g:Nat) (o:Obj):Prop:=w.heap[g]?=some o
section
variable {w w':World} {g:Nat} {o:Obj} {t:TypeId} {cs:Array Value}
theorem Has.lt (h:Has w g o):g<w.heap.size:=by
 rcases aW g w.heap.size with Kg|hge
 ·exact Kg
 unfold Has at h;rw[bV hge]at h;cases h
theorem Has.cell (h:Has w g (.cells cs t)) (i:Nat):w.cell? ⟨g,i,none⟩=cs[i]?:=cell_of_row w g i cs t (0,0) h
theorem Has.frozen (h:Has w g (.cells cs t)) (i:Nat):w.frozen? ⟨g,i,none⟩=false:=by
 unfold Has at h;simp[World.frozen?,h]
theorem Has.new (w:World) (o:Obj):Has (w.alloc o) w.heap.size o:=heap_alloc_new w o
theorem Has.drew (h:Has w g o):Has w.drew g o:=h
theorem Has.drewN (h:Has w g o) (n:Nat):Has (w.drewN n) g o:=h
theorem Has.alloc (h:Has w g o) (o':Obj):Has (w.alloc o') g o:=(Below.heap_alloc w o' g h.lt).trans h
theorem Has.eu (h:Has w g (.cells cs t)) (i:Nat) (u:Value):Has (w.setCell ⟨g,i,none⟩ u) g (.cells (cs.setIfInBounds i u) t):=by
 unfold Has at h⊢;simp[World.setCell,Array.getElem?_modify,h]
theorem Has.far (h:Has w g o) {p:Addr} (hp:g≠p.block) (u:Value):Has (w.setCell p u) g o:=(Below.heap_setCell w p u g hp).trans h
theorem Has.below {B:Nat} (h:Has w g o) (hb:Below B w w') (hg:g<B):Has w' g o:=(hb.block g hg).trans h
theorem Has.grown {row:Option Nat} (h:Has w g o) (hb:w.grownBy w' row) (hg:some g≠row):Has w' g o:=(hb.block g h.lt hg).trans h
theorem Has.setRow {ia:Array Value} (h:Has w g (.cells ia t)) (cs:Array Value):Has (w.setRow g cs) g (.cells cs t):=setRow_heap w g ia cs t (0,0) h
theorem Has.AX {g':Nat} (h:Has w g o) (Km:g≠g') (cs:Array Value):Has (w.setRow g' cs) g o:=(setRow_other w g' g cs Km).trans h
theorem Has.same {o':Obj} (h:Has w g o) (h':Has w g o'):o=o':=aw (h.symm.trans h')
end
theorem below_drewN {B:Nat} {a w:World} (h:Below B a w) (n:Nat):Below B a (w.drewN n):=⟨h.os,h.tape,h.output,h.size,h.block⟩
end heap
namespace own
open Go.RowKit heap
def Ext (w:World) (own Mp:Nat->Nat):Prop:=∀k,k<w.heap.size->Mp k=own k
def jj (own:Nat->Nat) (w:World) (T:Nat):Nat->Nat:=fun k=>if k<w.heap.size then own k else T
theorem Ext.refl (w:World) (own:Nat->Nat):Ext w own own:=fun _ _=>rfl
theorem Ext.new (w:World) (own:Nat->Nat) (T:Nat):Ext w own (jj own w T):=fun k hk=>by simp[jj,hk]
theorem Ext.trans {w w1:World} {o o1 o2:Nat->Nat} (h:Ext w o o1) (h1:Ext w1 o1 o2) (hs:w.heap.size<=w1.heap.size):Ext w o o2:=
 fun k hk=>(h1 k (by omega)).trans (h k hk)
theorem mB {w:World} {own:Nat->Nat} {T k:Nat} (h:k<w.heap.size):jj own w T k=own k:=by simp[jj,h]
theorem pF {w:World} {own:Nat->Nat} {T k:Nat} (h:w.heap.size<=k):jj own w T k=T:=by simp[jj];omega
structure dD (S:Nat->Prop) (w w':World):Prop where
 os:w'.os=w.os
 tape:w'.tape=w.tape
 output:w'.output=w.output
 size:w.heap.size<=w'.heap.size
 block:∀k,k<w.heap.size->¬S k->w'.heap[k]?=w.heap[k]?
section
variable {S S':Nat->Prop} {w w1 w2:World}
theorem dD.refl (S:Nat->Prop) (w:World):dD S w w:=⟨rfl,rfl,rfl,aq _,fun _ _ _=>rfl⟩
theorem dD.trans (h:dD S w w1) (h1:dD S' w1 w2) (hs:∀k,k<w.heap.size->S' k->S k):dD S w w2:=
 ⟨h1.os.trans h.os,h1.tape.trans h.tape,h1.output.trans h.output,az h.size h1.size,
  fun k hk hn=>(h1.block k (ay hk h.size) fun h=>hn (hs k hk h)).trans (h.block k hk hn)⟩
theorem dD.mono (h:dD S w w1) (hs:∀k,k<w.heap.size->S k->S' k):dD S' w w1:=
 ⟨h.os,h.tape,h.output,h.size,fun k hk hn=>h.block k hk fun h=>hn (hs k hk h)⟩
theorem dD.drew (h:dD S w w1):dD S w w1.drew:=⟨h.os,h.tape,h.output,h.size,h.block⟩
theorem dD.drewN (h:dD S w w1) (n:Nat):dD S w (w1.drewN n):=⟨h.os,h.tape,h.output,h.size,h.block⟩
theorem dD.alloc (h:dD S w w1) (o:Obj):dD S w (w1.alloc o):=
 h.trans (S':=S) ⟨rfl,rfl,rfl,by simp,fun k hk _=>Below.heap_alloc _ _ _ hk⟩ (fun _ _ h=>h)
theorem dD.setCell (h:dD S w w1) {p:Addr} (hp:w.heap.size<=p.block\/S p.block) (u:Value):dD S w (w1.setCell p u):=
 ⟨h.os,h.tape,h.output,by have:=h.size;simpa[World.setCell]using this,fun k hk hn=>(Below.heap_setCell _ _ _ _ (by rintro rfl;rcases hp with hp|hp;omega;exact hn hp)).trans (h.block k hk hn)⟩
theorem dD.setRow (h:dD S w w1) {g:Nat} (hp:w.heap.size<=g\/S g) (cs:Array Value):dD S w (w1.setRow g cs):=
 ⟨h.os,h.tape,h.output,by have:=h.size;simpa[World.setRow]using this,fun k hk hn=>(setRow_other _ _ _ _ (by rintro rfl;rcases hp with hp|hp;omega;exact hn hp)).trans (h.block k hk hn)⟩
theorem dD.grown (h:dD S w w1) {row:Option Nat} (hg:w1.grownBy w2 row) (hr:∀k,row=some k->w.heap.size<=k\/S k):dD S w w2:=
 ⟨hg.os.trans h.os,hg.tape.trans h.tape,hg.output.trans h.output,az h.size hg.size,
  fun k hk hn=>(hg.block k (ay hk h.size) (by rintro rfl;rcases hr k rfl with h|h;omega;exact hn h)).trans (h.block k hk hn)⟩
theorem dD.below (h:dD S w w1) {B:Nat} (hb:Below B w1 w2) (hB:∀k,k<w.heap.size->¬S k->k<B):dD S w w2:=
 ⟨hb.os.trans h.os,hb.tape.trans h.tape,hb.output.trans h.output,az h.size hb.size,fun k hk hn=>(hb.block k (hB k hk hn)).trans (h.block k hk hn)⟩
theorem dD.fw {B:Nat} (hb:Below B w w1) (hB:w.heap.size<=B):dD S w w1:=
 (dD.refl _ _).below hb (fun _ hk _=>ay hk hB)
theorem dD.gn (h:dD S w w1) {B:Nat} (hb:Below B w1 w2) (hB:w1.heap.size<=B):dD S w w2:=
 h.below hb (fun _ hk _=>ay (ay hk h.size) hB)
theorem dD.lU (h:dD S w w1) {B:Nat} (hB:B<=w.heap.size) (hn:∀k,k<B->¬S k):Below B w w1:=
 ⟨h.os,h.tape,h.output,h.size,fun k hk=>h.block k (by omega) (hn k hk)⟩
theorem dD.has (h:dD S w w1) {g:Nat} {o:Obj} (hh:Has w g o) (hn:¬S g):Has w1 g o:=(h.block g hh.lt hn).trans hh
theorem dD.cell (h:dD S w w1) {p:Addr} (hp:p.block<w.heap.size) (hn:¬S p.block):w1.cell? p=w.cell? p:=World.cell?_of_block (h.block _ hp hn)
theorem dD.frozen (h:dD S w w1) {p:Addr} (hp:p.block<w.heap.size) (hn:¬S p.block):w1.frozen? p=w.frozen? p:=World.frozen?_of_block (h.block _ hp hn)
end
def Row (own:Nat->Nat) (T:Nat) (w:World) (e:TypeId) (size:Nat) (v:Value) (n:Nat) (xs:List Value):Prop:=
 w.ownsRow 0 e size v n xs/\∀g,v.ownBlock=some g->own g=T
section
variable {own own1:Nat->Nat} {S:Nat->Prop} {w w1 w2:World} {T:Nat} {e:TypeId} {size n:Nat} {v:Value} {xs:List Value}
theorem Row.lt (h:Row own T w e size v n xs):∀g,v.ownBlock=some g->g<w.heap.size:=by
 intro g hg;rcases h.1.2 with⟨rfl,_⟩|⟨g',cap,cur,rfl,_,h2,_⟩
 ·cases hg
 (have:g'=g:=by simpa[Value.ownBlock]using hg);subst this;exact Has.lt (w:=w) h2
theorem lV (h:w.ownsRow 0 e size v n xs) (hb:∀g,v.ownBlock=some g->w1.heap[g]?=w.heap[g]?):w1.ownsRow 0 e size v n xs:=by
 refine⟨h.1,?_⟩;rcases h.2 with h2|⟨g,cap,cur,h1,h2,h3,h4⟩
 ·exact .inl h2
 exact .inr ⟨g,cap,cur,h1,h2,(hb g (by rw[h1];rfl)).trans h3,h4⟩
theorem Row.ej (h:Row own T w e size v n xs) (ht:dD S w w1) (he:Ext w own own1) (hn:∀k,k<w.heap.size->own k=T->¬S k):Row own1 T w1 e size v n xs:=
 ⟨lV h.1 fun g hg=>ht.block g (h.lt g hg) (hn g (h.lt g hg) (h.2 g hg)),fun g hg=>by rw[he g (h.lt g hg)];exact h.2 g hg⟩
theorem Row.nil (own:Nat->Nat) (T:Nat) (w:World) (e:TypeId) (size:Nat):Row own T w e size (.slice none 0 0) 0 []:=
 ⟨⟨by simp,.inl ⟨rfl,rfl⟩⟩,fun g hg=>by cases hg⟩
end
def lay (cs:Array Value):Nat->List Value->Array Value
 |_,[]=>cs
 |o,v::r=>lay (cs.setIfInBounds o v) (o+1) r
theorem o8 (vs:List Value):∀(cs:Array Value) (o:Nat),(lay cs o vs).size=cs.size:=by
 induction vs with
 |nil=>intro cs o;rfl
 |cons v r ih=>intro cs o;simp[lay,ih]
theorem sD (vs:List Value):∀(cs:Array Value) (o:Nat),o+vs.length<=cs.size->(lay cs o vs).toList=cs.toList.take o++vs++cs.toList.drop (o+vs.length):=by
 induction vs with
 |nil=>intro cs o _;simp[lay]
 |cons v r ih =>
  intro cs o h;simp only[aJ]at h;simp only[lay];rw[ih _ _ (by simp;omega)];have hl:o<cs.toList.length:=by simp;omega
  have e1:(cs.setIfInBounds o v).toList=cs.toList.take o++v::cs.toList.drop (o+1):=by
   rw[dp,List.set_eq_take_append_cons_drop,if_pos hl]
  (have ht:(cs.toList.take o).length=o:=by rw[bG];omega);rw[e1]
  have e2:(cs.toList.take o++v::cs.toList.drop (o+1)).take (o+1)=cs.toList.take o++[v]:=by
   rw[cz,ht,cy,ba (by rw[ht];omega)];simp
  have e3:(cs.toList.take o++v::cs.toList.drop (o+1)).drop (o+1+r.length)=cs.toList.drop (o+(r.length+1)):=by
   rw[List.drop_append,ht,bI (by rw[ht];omega),bL,show o+1+r.length-o=r.length+1 from by omega,List.drop_succ_cons,List.drop_drop];congr 1;omega
  rw[e2,e3];simp
theorem Has.setCells {t:TypeId} {g:Nat} (vs:List Value):∀ {w:World} {cs:Array Value} (_:Has w g (.cells cs t)) (o:Nat),Has (w.setCells g o vs) g (.cells (lay cs o vs) t):=by
 induction vs with
 |nil=>intro w cs h o;exact h
 |cons v r ih=>intro w cs h o;exact ih (h.eu o v) (o+1)
section
variable {S:Nat->Prop} {w:World}
theorem dD.setCells {g:Nat} (vs:List Value):∀ {w1:World} (_:dD S w w1) (_:w.heap.size<=g\/S g) (o:Nat),dD S w (w1.setCells g o vs):=by
 induction vs with
 |nil=>intro w1 h _ o;exact h
 |cons v r ih=>intro w1 h hp o;exact ih (h.setCell (p:=⟨g,o,none⟩) hp v) hp (o+1)
end
theorem vy {S:Nat->Prop} {g:Nat} (hg:S g) (w:World) (a b:Nat) (xs ys:List Value):dD S w ((w.drew.setCells g a xs).setCells g b ys):=
 dD.setCells ys (dD.setCells xs (dD.refl S w).drew (.inr hg) a) (.inr hg) b
variable {P:Program}
theorem vA (w:World) (t e ty:TypeId) (z:Value) (zs:List Value) (ht:P.underlying t=some (.slice e)) (hv:(zeroValue e).run P w=.ok z w) (hz:(Builtin.zeroCells z.cells 1).toList=zs) (h1:∀v∈zs,v.oneCell'=true) (b o c:Nat)
 (hc:∀j,j<zs.length->(w.cell? ⟨b,o+j,none⟩).isSome=true) (hf:∀j,j<zs.length->w.frozen? ⟨b,o+j,none⟩=false) :
 (Builtin.clear_ #[t] ty #[.slice (some ⟨b,o,none⟩) 1 c]).run P w=.ok (.tuple #[]) (w.setCells b o zs):=by
 have KU:=run_storeCells_cells (P:=P) b o zs 0 w (by simpa using hc) (by simpa using hf) h1;simp only[Nat.add_zero]at KU;simp[Builtin.clear_,run_underlying ht,hv,hz,KU]
def cut (size k:Nat) (xs:List Value):List Value:=xs.take (k*size)++xs.drop ((k+1)*size)
theorem qB {α:Type} (size k:Nat) (f:α->List Value) (hf:∀x,(f x).length=size) (l:List α):cut size k (l.flatMap f)=(l.eraseIdx k).flatMap f:=by
 have ht:∀(l:List α) (k:Nat),(l.flatMap f).take (k*size)=(l.take k).flatMap f:=by
  intro l
  induction l with
  |nil=>intro k;simp
  |cons x l ih =>
   intro k
   cases k with
   |zero=>simp
   |succ k =>
    rw[aU,cz,hf,Nat.succ_mul,bT,ih,ba (by rw[hf];omega)];simp
 have hd:∀(l:List α) (k:Nat),(l.flatMap f).drop (k*size)=(l.drop k).flatMap f:=by
  intro l
  induction l with
  |nil=>intro k;simp
  |cons x l ih =>
   intro k
   cases k with
   |zero=>simp
   |succ k =>
    rw[aU,List.drop_append,hf,Nat.succ_mul,bT,ih,bI (by rw[hf];omega)];simp
 unfold cut;rw[ht,hd,<- bY,cN]
section
variable {own:Nat->Nat} {w:World} {T:Nat} {e:TypeId} {size n:Nat} {v:Value} {xs:List Value}
theorem Row.shape (h:Row own T w e size v n xs) (hn:0<n):∃g cap cur,v=.slice (some ⟨g,0,none⟩) n cap/\own g=T/\Has w g (.cells cur e)/\n<=cap/\cap<=maxLen/\cur.size=cap*size/\cur.toList.take (n*size)=xs:=by
 rcases h.1.2 with⟨_,h0⟩|⟨g,cap,cur,h1,_,h3,h4,h5,h6,h7⟩
 ·omega
 exact⟨g,cap,cur,h1,h.2 g (by rw[h1];rfl),h3,h4,h5,h6,h7⟩
theorem Row.mk {g cap:Nat} {cur:Array Value} (ho:own g=T) (h:Has w g (.cells cur e)) (h1:n<=cap) (h2:cap<=maxLen) (h3:cur.size=cap*size) (h4:cur.toList.take (n*size)=xs):Row own T w e size (.slice (some ⟨g,0,none⟩) n cap) n xs:=by
 refine⟨⟨?_,.inr ⟨g,cap,cur,rfl,bP _,h,h1,h2,h3,h4⟩⟩,fun k hk=>?_⟩
 ·rw[<- h4,bG,bQ,h3];exact dv (bu _ h1)
 (have:g=k:=by simpa[Value.ownBlock]using hk);rw[<- this];exact ho
theorem ij {g:Nat} {cur:Array Value} (h:Has w g (.cells cur e)) (h4:cur.toList.take (n*size)=xs) (j:Nat) (hj:j<n*size):w.cell? ⟨g,j,none⟩=xs[j]?/\w.frozen? ⟨g,j,none⟩=false:=by
 refine⟨?_,h.frozen j⟩;rw[h.cell,<- h4,cW,if_pos hj,cC]
theorem qC {g cap:Nat} {cur:Array Value} (h:Has w g (.cells cur e)) (h3:cur.size=cap*size) (j:Nat) (hj:j<cap*size):(w.cell? ⟨g,j,none⟩).isSome=true/\w.frozen? ⟨g,j,none⟩=false:=by
 refine⟨?_,h.frozen j⟩;rw[h.cell,cx (by omega)];rfl
theorem qD {w:World} {g:Nat} {t:TypeId} {l:List Value} {base size n:Nat} (h:Has w g (.cells l.toArray t)) (hb:base<=g) (hl:l.length=n*size) (hn:n<=maxLen) :
 w.ownsRow base t size (.slice (some ⟨g,0,none⟩) n n) n l:=
 ⟨hl,.inr ⟨g,n,l.toArray,rfl,hb,h,aq _,hn,by simp[hl],by simp[<- hl]⟩⟩
theorem kO {w:World} {base Pb:Nat} (h:w.ownsRow base e size v n xs) (hb:Pb<=base):w.ownsRow Pb e size v n xs:=by
 refine⟨h.1,?_⟩;rcases h.2 with h2|⟨g',cap,cur,h1,h2,h3⟩
 ·exact .inl h2
 exact .inr ⟨g',cap,cur,h1,by omega,h3⟩
theorem jE {w w':World} {base:Nat} (h:w.ownsRow base e size v n xs) (hb:Below w.heap.size w w'):w'.ownsRow base e size v n xs:=by
 refine⟨h.1,?_⟩;rcases h.2 with h2|⟨g,cap,cur,h1,h2,h3,h4⟩
 ·exact .inl h2
 exact .inr ⟨g,cap,cur,h1,h2,(hb.block g (Has.lt (w:=w) (g:=g) h3)).trans h3,h4⟩
theorem jF {w:World} {base:Nat} (h:w.ownsRow base e size v n xs):∀g,v.ownBlock=some g->base<=g:=by
 intro g hg;rcases h.2 with⟨rfl,_⟩|⟨g',_,_,rfl,h,_⟩
 ·cases hg
 (have:g'=g:=by simpa[Value.ownBlock]using hg);omega
theorem Row.below {own:Nat->Nat} {T:Nat} {w w':World} (h:Row own T w e size v n xs) (hb:Below w.heap.size w w'):Row own T w' e size v n xs:=⟨jE h.1 hb,h.2⟩
theorem vB {g cap k:Nat} {cur:Array Value} {zs:List Value} (ho:own g=T) (h:Has w g (.cells cur e)) (h1:n<=cap) (h2:cap<=maxLen) (h3:cur.size=cap*size) (h4:cur.toList.take (n*size)=xs) (hk:k<n) (hz:zs.length=size) :
 Row own T ((w.setCells g (k*size) (xs.drop ((k+1)*size))).setCells g ((n-1)*size) zs) e size (.slice (some ⟨g,0,none⟩) (n-1) cap) (n-1) (cut size k xs):=by
 have LK:xs.length=n*size:=by
  rw[<- h4,bG,bQ,h3];exact dv (bu _ h1)
 have LN:n*size<=cap*size:=bu _ h1;obtain⟨m,rfl⟩:∃m,n=m+1:=⟨n-1,by omega⟩;have hk1:(k+1)*size<=(m+1)*size:=bu _ (by omega);have Mm:k*size<=m*size:=bu _ (by omega);simp only[bT];have Oj:(m+1)*size=m*size+size:=Nat.succ_mul _ _;have hkk:(k+1)*size=k*size+size:=Nat.succ_mul _ _;have hA:=sD (xs.drop ((k+1)*size)) cur (k*size) (by rw[bO,LK,h3];omega);have hB:=sD zs (lay cur (k*size) (xs.drop ((k+1)*size))) (m*size) (by rw[o8,hz,h3];omega);refine Row.mk ho (Has.setCells zs (Has.setCells _ h _) _) (by omega) h2 (by rw[o8,o8,h3]) ?_;rw[hB,hA];(have hl:(cur.toList.take (k*size)).length=k*size:=by rw[bG,bQ,h3];omega);have hd:(xs.drop ((k+1)*size)).length=m*size-k*size:=by rw[bO,LK];omega
 have e1:(cur.toList.take (k*size)++xs.drop ((k+1)*size)++cur.toList.drop (k*size+(xs.drop ((k+1)*size)).length)).take (m*size)=cur.toList.take (k*size)++xs.drop ((k+1)*size):=by
  rw[cz,ba (by rw[aA,hl,hd];omega),aA,hl,hd,show m*size-(k*size+(m*size-k*size))=0 from by omega];simp
 have e2:cur.toList.take (k*size)=xs.take (k*size):=by
  rw[<- h4,List.take_take,dv (by omega)]
 rw[e1,bw,cz,ba (by rw[aA,hl,hd];omega),aA,hl,hd,show m*size-(k*size+(m*size-k*size))=0 from by omega,List.take_zero,cw,e2];rfl
end
end own
namespace own
open Go.RowKit heap
def fH (own:Nat->Nat) (T:Nat) (w:World) (e:TypeId) (size:Nat) (v:Value) (n:Nat) (xs:List Value):Prop:=
 xs.length=n*size/\((v=.slice none 0 0/\n=0)\/∃g off cap cur,v=.slice (some ⟨g,off,none⟩) n cap/\own g=T/\Has w g (.cells cur e)/\n<=cap/\off+cap*size<=cur.size/\cap<=maxLen/\(cur.toList.drop off).take (n*size)=xs)
section
variable {own own1:Nat->Nat} {S:Nat->Prop} {w w1 w2:World} {T:Nat} {e:TypeId} {size n:Nat} {v:Value} {xs:List Value}
theorem fH.Dy (h:Row own T w e size v n xs):fH own T w e size v n xs:=by
 refine⟨h.1.1,?_⟩;rcases h.1.2 with h0|⟨g,cap,cur,rfl,-,h2,h3,h4,h5,h6⟩
 ·exact .inl h0
 exact .inr ⟨g,0,cap,cur,rfl,h.2 g rfl,h2,h3,by omega,h4,by simpa using h6⟩
theorem fH.lt (h:fH own T w e size v n xs):∀g,v.ownBlock=some g->g<w.heap.size/\own g=T:=by
 intro g hg;rcases h.2 with⟨rfl,_⟩|⟨g',off,cap,cur,rfl,h1,h2,_⟩
 ·cases hg
 (obtain rfl:g'=g:=by simpa[Value.ownBlock]using hg);exact⟨h2.lt,h1⟩
theorem fH.nil (own:Nat->Nat) (T:Nat) (w:World) (e:TypeId) (size:Nat):fH own T w e size (.slice none 0 0) 0 []:=⟨by simp,.inl ⟨rfl,rfl⟩⟩
theorem fH.ej (h:fH own T w e size v n xs) (ht:dD S w w1) (he:Ext w own own1) (hn:∀k,k<w.heap.size->own k=T->¬S k):fH own1 T w1 e size v n xs:=by
 refine⟨h.1,?_⟩;rcases h.2 with h0|⟨g,off,cap,cur,rfl,h1,h2,h3⟩
 ·exact .inl h0
 exact .inr ⟨g,off,cap,cur,rfl,by rw[he g h2.lt];exact h1,ht.has h2 (hn g h2.lt h1),h3⟩
theorem fH.below (h:fH own T w e size v n xs) (hb:Below w.heap.size w w1):fH own T w1 e size v n xs:=
 h.ej (S:=fun _=>False) (dD.fw hb (aq _)) (Ext.refl _ _) (fun _ _ _ h=>h)
theorem fH.slice (h:fH own T w e size v n xs):∃a c,v=.slice a n c/\n<=c/\c<=maxLen:=by
 rcases h.2 with⟨rfl,rfl⟩|⟨g,off,cap,cur,rfl,-,-,h3,-,h5,-⟩
 ·exact⟨none,0,rfl,aq _,by simp[maxLen]⟩
 exact⟨_,cap,rfl,h3,h5⟩
theorem fH.shape (h:fH own T w e size v n xs) (hn:0<n):∃g off cap cur,v=.slice (some ⟨g,off,none⟩) n cap/\own g=T/\Has w g (.cells cur e)/\n<=cap/\off+cap*size<=cur.size/\cap<=maxLen/\(cur.toList.drop off).take (n*size)=xs:=by
 rcases h.2 with⟨-,h0⟩|h
 ·omega
 exact h
theorem fH.mk {g off cap:Nat} {cur:Array Value} (ho:own g=T) (h:Has w g (.cells cur e)) (h1:n<=cap) (h2:off+cap*size<=cur.size) (h3:cap<=maxLen) (h4:(cur.toList.drop off).take (n*size)=xs):fH own T w e size (.slice (some ⟨g,off,none⟩) n cap) n xs:=by
 refine⟨?_,.inr ⟨g,off,cap,cur,rfl,ho,h,h1,h2,h3,h4⟩⟩;have:n*size<=cap*size:=bu _ h1;rw[<- h4,bG,bO,bQ];omega
theorem wQ {g off:Nat} {cur:Array Value} (h:Has w g (.cells cur e)) (h4:(cur.toList.drop off).take (n*size)=xs) (j:Nat) (hj:j<n*size):w.cell? ⟨g,off+j,none⟩=xs[j]?/\w.frozen? ⟨g,off+j,none⟩=false:=by
 refine⟨?_,h.frozen _⟩;rw[h.cell,<- h4,cW,if_pos hj,dx,cC]
theorem fH.tail {g off cap:Nat} (h:fH own T w e size (.slice (some ⟨g,off,none⟩) n cap) n xs) (hn:0<n):fH own T w e size (.slice (some ⟨g,off+size,none⟩) (n-1) (cap-1)) (n-1) (xs.drop size):=by
 obtain⟨g',TN,Ku,cur,e1,ho,hh,h1,h2,h3,h4⟩:=h.shape hn;injection e1 with e1 e2 e3;injection e1 with e1;injection e1 with e1 e4;subst e1 e3 e4
 have hm:cap*size=(cap-1)*size+size:=by
  obtain⟨c,rfl⟩:∃c,cap=c+1:=⟨cap-1,by omega⟩;rw[bT,cI,dz]
 have Sp:n*size=(n-1)*size+size:=by
  obtain⟨c,rfl⟩:∃c,n=c+1:=⟨n-1,by omega⟩;rw[bT,cI,dz]
 refine fH.mk ho hh (by omega) (by omega) (by omega) ?_;rw[<- h4,Sp,cT ((n-1)*size) size,List.drop_take,List.drop_drop,show size+(n-1)*size-size=(n-1)*size by omega]
theorem Dz {g:Nat} (cs:Array Value) (w:World) (row:Option Nat) (h:row=some g):w.grownBy (w.setRow g cs) row:=
 ⟨rfl,rfl,rfl,by simp[World.setRow],fun k _ hk=>setRow_other _ _ _ _ fun e=>hk (by rw[h,e])⟩
variable {P:Program}
theorem DA (t ty:TypeId) (i:TypeInfo) (z:Value) (bytes:Nat) (ht:P.underlying t=some (.slice e)) (hi:P.info? e=some i) (hz:i.zero=some z)
 (Mt:i.size=size) (NI:i.bytes=bytes) (hzs:z.cells.size=size) (LH:0<size) (h:fH own T w e size v n xs)
 (a:Addr) (m c:Nat) (news:List Value) (hl:news.length=m*size) (Po:∀j u,news[j]?=some u->w.cell? (a.add j)=some u) (h1:∀u∈news,u.oneCell'=true)
 (hm:0<m) (U4:n+m<=maxLen) (Ky:(n+m)*bytes<=140737488355328) :
 ∃g off cap w',(Builtin.append_ #[t,t] ty #[v,.slice (some a) m c]).run P w=.ok (.slice (some ⟨g,off,none⟩) (n+m) cap) w'/\fH (jj own w T) T w' e size (.slice (some ⟨g,off,none⟩) (n+m) cap) (n+m) (xs++news)/\w.grownBy w' v.ownBlock/\(v.ownBlock=some g\/w.heap.size<=g):=by
 have other:∀v' w',w'.ownsRow w.heap.size e size v' (n+m) (xs++news)->w.grownBy w' none->(∃g cap,v'=.slice (some ⟨g,0,none⟩) (n+m) cap/\fH (jj own w T) T w' e size v' (n+m) (xs++news)/\w.grownBy w' v.ownBlock/\w.heap.size<=g):=fun v' w' h1 h2=>by
  rcases h1.2 with⟨-,h0⟩|⟨g,cap,cur,rfl,hb,hh,q1,q2,q3,q4⟩
  ·omega
  exact⟨g,cap,rfl,fH.Dy ⟨kO h1 (bP _),fun g' hg=>by
   obtain rfl:g=g':=by simpa[Value.ownBlock]using hg
   exact pF hb⟩,⟨h2.os,h2.tape,h2.output,h2.size,fun k hk _=>h2.block k hk (by simp)⟩,hb⟩
 rcases h.2 with⟨rfl,rfl⟩|⟨g,off,cap,cur,rfl,ho,hh,h2,h3,h4,h5⟩
 ·obtain rfl:xs=[]:=aP (by simpa using h.1);obtain⟨v',w',L4,r1,r2,-⟩:=run_append_own (P:=P) w w.heap.size t ty e i z size bytes ht hi hz Mt NI hzs LH (.slice none 0 0) 0 [] (World.ownsRow_nil w _ e size) a m c news hl Po h1 U4 Ky (aq _);obtain⟨g,cap,rfl,q1,q2,q3⟩:=other v' w' r1 ⟨r2.os,r2.tape,r2.output,r2.size,fun k hk _=>r2.block k hk (by simp[Value.ownBlock])⟩;exact⟨g,0,cap,w',L4,q1,q2,.inr q3⟩
 rcases aW cap (n+m)with hc|hc
 ·have hmn:n*size<=cap*size:=bu _ h2
  obtain⟨v',w',L4,r1,r2⟩:=run_append_arg_grows (P:=P) w t ty e i z size bytes ht hi hz Mt NI hzs LH ⟨g,off,none⟩ n cap xs h.1 (fun j u hj=>by
   (have OU:j<n*size:=by rw[<- h.1];exact (ar.1 hj).1);have e1:(⟨g,off,none⟩:Addr).add j=⟨g,off+j,none⟩:=by by_cases h0:j=0<;>simp[Addr.add,h0]
   rw[e1,(wQ hh h5 j OU).1,hj]) a m c news hl Po hc U4 Ky
  obtain⟨g',Ku,rfl,q1,q2,q3⟩:=other v' w' r1 r2;exact⟨g',0,Ku,w',L4,q1,q2,.inr q3⟩
 have hmn:(n+m)*size<=cap*size:=bu _ hc;have TO:(n+m)*size=n*size+m*size:=cI _ _ _;have hf:=run_firstCells_some (P:=P) w i.size m a m c news (by rw[Mt];exact hl) Po;have KU:=run_storeCells_at P g (off+n*size) e news 0 cur w hh (by omega) h1;simp only[Nat.add_zero]at KU;refine⟨g,off,cap,w.setRow g (cur.toList.take (off+n*size)++news++cur.toList.drop (off+n*size+news.length)).toArray,?_,?_,Dz _ _ _ rfl,.inl rfl⟩
 ·subst Mt;simp[Builtin.append_,run_underlying ht,sizeOf,typeInfo,hi,Builtin.lenOf,hc,hf,Addr.add_lit,KU]
 have KE:=hh.lt;(have KW:cur.toList.length=cur.size:=by simp);refine fH.mk (by rw[mB KE];exact ho) (hh.setRow _) hc ?_ h4 ?_
 ·simp;omega
 simp only[bw];rw[cS (by simp;omega),List.drop_take,show off+n*size-off=n*size by omega,h5,cz,h.1];rw[ba (by rw[h.1];omega),TO,cy,<- hl,List.take_left'];rfl
end
section
variable {α:Type} {f:α->List Value} {size:Nat}
theorem kS (hf:∀x,(f x).length=size):∀(l:List α),(l.flatMap f).length=l.length*size
 | []=>by simp
 |x::l=>by rw[aU,aA,kS hf l,hf,aJ,cI,dz,cT]
theorem flat_get (hf:∀x,(f x).length=size):∀(l:List α) (k:Nat) (x:α),l[k]?=some x->∀j,j<size->(l.flatMap f)[k*size+j]?=(f x)[j]?
 | [],k,x,h=>by simp at h
 |y::l,0,x,h=>fun j hj=>by
  (obtain rfl:y=x:=by simpa using h);rw[aU,Nat.zero_mul,bW,aV (by rw[hf];exact hj)]
 |y::l,k+1,x,h=>fun j hj=>by
  rw[aU,cI,dz,aL (by rw[hf];omega),hf,show k*size+size+j-size=k*size+j by omega];exact flat_get hf l k x (by simpa using h) j hj
theorem DB (hf:∀x,(f x).length=size) (x:α) (l:List α):((x::l).flatMap f).drop size=l.flatMap f:=by
 rw[aU,cS (by rw[hf];exact aq _),bI (by rw[hf];exact aq _),bL]
theorem tf (h1:∀x,∀u∈f x,u.oneCell'=true) (l:List α):∀u∈l.flatMap f,u.oneCell'=true:=fun u hu=>by
 obtain⟨x,-,hx⟩:=dt.1 hu;exact h1 x u hx
variable {own:Nat->Nat} {T n:Nat} {w:World} {e:TypeId} {v:Value} {l:List α}
theorem Row.elem (hf:∀x,(f x).length=size) (h:Row own T w e size v l.length (l.flatMap f)) {k:Nat} {x:α} (hk:l[k]?=some x) :
 ∃g cap,v=.slice (some ⟨g,0,none⟩) l.length cap/\own g=T/\g<w.heap.size/\l.length<=cap/\cap<=maxLen/\∀j u,(f x)[j]?=some u->w.cell? ⟨g,k*size+j,none⟩=some u/\w.frozen? ⟨g,k*size+j,none⟩=false:=by
 have Ks:k<l.length:=(ar.1 hk).1;obtain⟨g,cap,cur,rfl,ho,hh,h1,h2,h3,h4⟩:=h.shape (by omega);refine⟨g,cap,rfl,ho,hh.lt,h1,h2,fun j u hj=>?_⟩;have OU:j<size:=by rw[<- hf x];exact (ar.1 hj).1
 have hm:k*size+size<=l.length*size:=by
  have:=bu size (show k+1<=l.length from Ks);rwa [cI,dz]at this
 have:=ij hh h4 (k*size+j) (by omega);exact⟨this.1.trans ((flat_get hf l k x hk j OU).trans hj),this.2⟩
theorem fH.elem (hf:∀x,(f x).length=size) (h:fH own T w e size v l.length (l.flatMap f)) {k:Nat} {x:α} (hk:l[k]?=some x) :
 ∃g off cap,v=.slice (some ⟨g,off,none⟩) l.length cap/\own g=T/\g<w.heap.size/\l.length<=cap/\cap<=maxLen/\∀j u,(f x)[j]?=some u->w.cell? ⟨g,off+(k*size+j),none⟩=some u/\w.frozen? ⟨g,off+(k*size+j),none⟩=false:=by
 have Ks:k<l.length:=(ar.1 hk).1;obtain⟨g,off,cap,cur,rfl,ho,hh,h1,h2,h3,h4⟩:=h.shape (by omega);refine⟨g,off,cap,rfl,ho,hh.lt,h1,h3,fun j u hj=>?_⟩;have OU:j<size:=by rw[<- hf x];exact (ar.1 hj).1
 have hm:k*size+size<=l.length*size:=by
  have:=bu size (show k+1<=l.length from Ks);rwa [cI,dz]at this
 have:=wQ hh h4 (k*size+j) (by omega);exact⟨this.1.trans ((flat_get hf l k x hk j OU).trans hj),this.2⟩
end
section
variable {P:Program}
theorem Gd (w:World) (g o:Nat) (ty:TypeId) (cells:Array Value) (hi:(P.info? ty).map (·.size)=some cells.size) (hc:∀j,j<cells.size->(w.cell? ⟨g,o+j,none⟩).isSome=true) (hf:∀j,j<cells.size->w.frozen? ⟨g,o+j,none⟩=false) (h1:cells.all (·.oneCell')=true) :
 (storeVar ty ⟨g,o,none⟩ (.agg cells)).run P w=.ok () (w.setCells g o cells.toList):=by
 have:=run_storeCells_cells (P:=P) g o cells.toList 0 w (fun j hj=>hc j (by simpa using hj)) (fun j hj=>hf j (by simpa using hj)) (fun v hv=>(Array.all_eq_true_iff_forall_mem.1 h1) v (by simpa using hv))
 cases hq:P.info? ty with
 |none=>simp[hq]at hi
 |some i =>
  (have hs:cells.size=i.size:=by simp[hq]at hi;omega);rw[Nat.add_zero]at this;simp[storeVar,sizeOf,typeInfo,hq,Value.cells,hs,this]
theorem Ge {o:Oper} {a:Act} {w:World} {K:Act->World->Prop} {Q:Exit->Act->World->Prop} (ty:TypeId) (x y:Operand) (ho:o.op=.store ty x y) (g i:Nat) (cells:Array Value) (hx:a.eval x=.pointer (some ⟨g,i,none⟩)) (hy:a.eval y=.agg cells)
 (hi:(P.info? ty).map (·.size)=some cells.size) (hc:∀j,j<cells.size->(w.cell? ⟨g,i+j,none⟩).isSome=true) (hf:∀j,j<cells.size->w.frozen? ⟨g,i+j,none⟩=false) (h1:cells.all (·.oneCell')=true)
 (h:K (a.put o.dst undef) (w.setCells g i cells.toList)):o.wp P a w K Q:=by
 unfold Oper.wp execOp;simp only[ho,hx,hy,Instr.storeAt,Instr.sureAddr,Sem.run_bind,Sem.run_pure,Result.andThen_ok,Gd w g i ty cells hi hc hf h1];exact h
end
section
variable {own:Nat->Nat} {w:World} {T:Nat} {e:TypeId} {size n:Nat}
theorem yV {g cap:Nat} {a ia b vs:List Value} (h:Row own T w e size (.slice (some ⟨g,0,none⟩) n cap) n (a++ia++b)) (hl:ia.length=vs.length) (hn:0<vs.length):Row own T (w.setCells g a.length vs) e size (.slice (some ⟨g,0,none⟩) n cap) n (a++vs++b):=by
 have LK:(a++ia++b).length=n*size:=h.1.1
 have RP:0<n:=by
  rcases bx n with e|e
  ·rw[e,Nat.zero_mul]at LK;simp only[aA]at LK;omega
  exact e
 obtain⟨g',Ku,cur,e1,ho,hh,h1,h2,h3,h4⟩:=h.shape RP;simp only[Value.slice.injEq]at e1;obtain⟨e1,-,rfl⟩:=e1;(obtain rfl:g=g':=by simpa using e1);(have hc:cur.toList=a++ia++b++cur.toList.drop (n*size):=by rw[<- h4,cD]);(have KW:cur.toList.length=cap*size:=by simpa using h3);have LN:n*size<=cap*size:=bu _ h1;(have hlen:a.length+ia.length+b.length=n*size:=by simpa[Nat.add_assoc]using LK);have hL:=sD vs cur a.length (by rw[h3];omega);refine Row.mk ho (Has.setCells vs hh a.length) h1 h2 (by rw[o8,h3]) ?_;rw[hL,hc];generalize cur.toList.drop (n*size)=rest;have e2:List.take a.length (a++ia++b++rest)=a:=by simp
 have e3:List.drop (a.length+vs.length) (a++ia++b++rest)=b++rest:=by
  rw[<- hl,show a++ia++b++rest=(a++ia)++(b++rest) by simp,cS (by simp),bI (by simp),bL]
 rw[e2,e3,show a++vs++(b++rest)=(a++vs++b)++rest by simp,bZ (by simp;omega),ba (by simp;omega)]
end
def hJ (own:Nat->Nat) (g T:Nat):Nat->Nat:=fun k=>if k=g then T else own k
section
variable {P:Program}
theorem Gy {et:TypeId} {z:Value} {size bytes:Nat} (hi:(P.info? et).map (fun i=>(i.zero,i.size,i.bytes))=some (some z,size,bytes)):∃i,P.info? et=some i/\i.zero=some z/\i.size=size/\i.bytes=bytes:=by
 cases h:P.info? et with
 |none=>rw[h]at hi;cases hi
 |some i =>
  rw[h]at hi;simp only[Option.map_some,bq,cM]at hi;exact⟨i,rfl,hi.1,hi.2.1,hi.2.2⟩
theorem qi {o:Oper} {a:Act} {w:World} {K:Act->World->Prop} {Q:Exit->Act->World->Prop} {own:Nat->Nat} (x y:Operand) (st et:TypeId) (T size bytes:Nat) (z:Value) (ho:o.op=.call {callee:=.builtin .append,args:=#[x,y],argTypes:=#[st,st]})
 (hu:P.underlying st=some (.slice et)) (hi:(P.info? et).map (fun i=>(i.zero,i.size,i.bytes))=some (some z,size,bytes)) (hzs:z.cells.size=size) (LH:0<size)
 (v:Value) (n g:Nat) (xs news:List Value) (hx:a.eval x=v) (hr:Row own T w et size v n xs) (hy:a.eval y=.slice (some ⟨g,0,none⟩) 1 1) (hg:Has w g (.cells news.toArray et)) (hl:news.length=size) (h1:∀u∈news,u.oneCell'=true)
 (hn:n<=1000000) (NI:bytes<=1000) (H:Nat) (hH:w.heap.size=H)
 (h:∀g' cap w',Row (hJ own g' T) T w' et size (.slice (some ⟨g',0,none⟩) (n+1) cap) (n+1) (xs++news)->w.grownBy w' v.ownBlock->(v.ownBlock=some g'\/g'=H)->g'<w'.heap.size->K (a.put o.dst (.slice (some ⟨g',0,none⟩) (n+1) cap)) w'):o.wp P a w K Q:=by
 obtain⟨i,KO,La,KH,KD⟩:=Gy hi;have hb:(n+1)*bytes<=1000001*1000:=Nat.mul_le_mul (by omega) NI;refine wp_append_lies w x y st ho 0 et i z size bytes hu KO La KH KD hzs LH v n xs hx (kO hr.1 (bP _)) ⟨g,0,none⟩ 1 1 news hy (by omega) (fun j u hj=>?_) h1 (by decide) (by unfold maxLen;omega) (by omega) (bP _) H hH fun g' Ku w' r1 r2 r3 r4=>h g' Ku w' ⟨r1,fun k hk=>?_⟩ r2 r3 r4
 ·(have e1:(⟨g,0,none⟩:Addr).add j=⟨g,j,none⟩:=by by_cases h0:j=0<;>simp[Addr.add,h0]);rw[e1,hg.cell,aC,hj]
 (have e:g'=k:=by simpa[Value.ownBlock]using hk);unfold hJ;rw[if_pos e.symm]
end
section
variable {own:Nat->Nat} {w w':World} {T g':Nat} {v:Value}
theorem pz (hr:∀k,v.ownBlock=some k->own k=T) (h3:v.ownBlock=some g'\/g'=w.heap.size):Ext w own (hJ own g' T):=fun k hk=>by
 unfold hJ;split
 ·rename_i e;subst e;rcases h3 with h3|h3
  ·exact (hr _ h3).symm
  omega
 rfl
theorem rU (hf:∀g,w.heap.size<=g->own g=0) (hs:w.heap.size<=w'.heap.size) (h4:g'<w'.heap.size):∀g,w'.heap.size<=g->hJ own g' T g=0:=fun g hg=>by
 unfold hJ;rw[if_neg (by omega)];exact hf g (az hs hg)
theorem ox (hg:w.grownBy w' v.ownBlock) (hr:∀k,v.ownBlock=some k->own k=T):dD (fun k=>own k=T) w w':=(dD.refl _ w).grown hg fun k hk=>.inr (hr k hk)
end
end own
end Go.Proofs.YtlhodcmdpchllaaGreatDoor
