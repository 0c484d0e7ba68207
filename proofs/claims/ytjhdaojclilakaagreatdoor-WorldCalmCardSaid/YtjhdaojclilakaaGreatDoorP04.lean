/-
  A part of the proof of the law WorldCalm: RegionLast, RegionGo, RegionSkip, RegionPhase, RegionEach.
-/
import Derived.OrdersHeld
import Derived.Deep.RegionHeld3
import Derived.Test.YtjhdaojclilakaaGreatDoorHd
set_option maxHeartbeats 16000000
set_option maxRecDepth 1000000
namespace Go.Proofs.YtjhdaojclilakaaGreatDoor
namespace last
open Go
section
variable {P:Program} {ops:Array Oper} {Q:Exit->Act->World->Prop} {md:Region.Mode} {S:World->Prop} {L:Nat}
def wpAnyL (P:Program) (md:Region.Mode) (ops:Array Oper) (Q:Exit->Act->World->Prop) (S:World->Prop) (L:Nat):Nat->Array Bool->Act->World->Prop
 |0,listed,a,w=>Region.ready md ops listed=[]/\Q .normal a w
 |fuel+1,listed,a,w =>
  (Region.ready md ops listed=[]->Q .normal a w) /\
  ∀i∈Region.ready md ops listed,wpOp P ops Q i (fun b w'=>(i≠L->S w')/\wpAnyL P md ops Q S L fuel (listed.setIfInBounds i true) b w') a w
theorem zv:∀(fuel:Nat) (listed:Array Bool) (a:Act) (w:World),wpAnyL P md ops Q S L fuel listed a w->wpAny P md ops Q fuel listed a w
 |0,_,_,_,h=>h
 |fuel+1,_,_,_,h=>⟨h.1,fun i hi=>wpOp_mono (fun b w' h'=>zv fuel _ b w' h'.2) (h.2 i hi)⟩
def waits (md:Region.Mode) (ops:Array Oper) (L i:Nat):Bool:=i !=L&&(match ops[L]? with|some o=>o.after.any (fun e=>Region.binds md e&&e.on==i)|none=>true)
theorem sB {i:Nat} (h:waits md ops L i=true):i≠L/\∀o,ops[L]?=some o->∃e∈o.after,Region.binds md e=true/\e.on=i:=by
 unfold waits at h;rw[aF]at h;refine⟨by simpa using h.1,fun o b=>?_⟩;have a:=h.2;rw[b]at a;obtain⟨e,he,hb⟩:=Array.any_eq_true'.1 a;rw[aF]at hb;exact⟨e,he,hb.1,by simpa using hb.2⟩
theorem wpAnyL_first {i:Nat} {l:Oper} {v:Value} (hi:ops[i]?=some l) (y:∀(j:Nat) (o:Oper) cs b,ops[j]?=some o->o.op≠.select cs b)
 (D:∀o,ops[L]?=some o->∃e∈o.after,Region.binds md e=true/\e.on=i)
 (hQ:∀c a w,Q (.panic c) (a.put l.dst v) w->Q (.panic c) a w) :
 ∀(fuel:Nat) (listed:Array Bool) (a:Act) (w:World),
  (∀j f,ops[j]?=some f->j≠i->listed.getD j true=false->(∀e∈f.after,Region.binds md e=true->e.on≠i)->l.apart ops f=true) ->
  i∈Region.ready md ops listed->YieldsIf P ops S l v a->S w ->
  wpAnyL P md ops Q S L fuel (listed.setIfInBounds i true) (a.put l.dst v) w->wpAnyL P md ops Q S L (fuel+1) listed a w:=by
 intro fuel
 induction fuel with
 |zero =>
  intro listed a w _ m hy p H;refine⟨fun h=>(by rw[h]at m;cases m),fun j r=>?_⟩;by_cases g:j=i
  ·subst g;exact hy.wpOp hi p ⟨fun _=>p,H⟩
  have:=ready_mono r g;rw[H.1]at this;cases this
 |succ fuel ih =>
  intro listed a w d m hy p H;refine⟨fun h=>(by rw[h]at m;cases m),fun j r=>?_⟩;by_cases g:j=i
  ·subst g;exact hy.wpOp hi p ⟨fun _=>p,H⟩
  have n:=H.2 j (ready_mono r g);obtain⟨z,f,s,E⟩:=mem_ready.1 r
  have A:∀e∈f.after,Region.binds md e=true->e.on≠i:=fun e he hb heq=>by
   have n:=E e he hb;have B:=(mem_ready.1 m).1;rw[heq]at n;rcases bk i listed.size with u|u
   ·simp[u]at B n;rw[B]at n;cases n
   simp[Array.getElem?_eq_none u]at n
  have x:j≠L:=by
   rintro rfl;obtain⟨e,he,hb,heq⟩:=D f s;exact A e he hb heq
  have F:=wpOp_putIf s (d j f s g z A) (fun cs b=>y i l cs b hi) (fun cs b=>y j f cs b s) hQ hy n
  have G:∀k ok,ops[k]?=some ok->k≠i->(listed.setIfInBounds j true).getD k true=false ->
   (∀e∈ok.after,Region.binds md e=true->e.on≠i)->l.apart ops ok=true:=fun k ok I J q K=>by
   refine d k ok I J ?_ K;by_cases C:j=k
   ·subst C;exact z
   rw[getD_set_ne true C]at q;exact q
  refine wpOp_mono (fun M w' t=>⟨t.2.1,ih (listed.setIfInBounds j true) M w' G (ready_mono m (Ne.symm g)) t.1 (t.2.1 x) ?_⟩) F;rw[dC _ _ g];exact t.2.2
theorem jL {i:Nat} {b:Oper} {v:Value} {fuel:Nat} {listed:Array Bool} {a:Act} {w:World} (hi:ops[i]?=some b)
 (hs:Region.noSelect ops=true) (d:Region.free md ops listed i=true) (e:(Region.ready md ops listed).contains i=true) (f:waits md ops L i=true)
 (hQ:∀c a w,Q (.panic c) (a.put b.dst v) w->Q (.panic c) a w) (g:S w) (hw:Region.wanted b (yielded ops a.tmps)=true) (hy:∀w,S w->(execOp a.eval b).run P w=.ok (.value v) w)
 (h:wpAnyL P md ops Q S L fuel (listed.setIfInBounds i true) (a.put b.dst v) w):wpAnyL P md ops Q S L (fuel+1) listed a w:=
 wpAnyL_first hi (Region.noSelect_spec hs) (sB f).2 hQ fuel listed a w (Region.free_spec hi d) (by simpa using e) (.inl ⟨hw,hy⟩) g h
theorem ky {i:Nat} {o:Oper} {fuel:Nat} {listed:Array Bool} {a:Act} {w:World} (c:Region.ready md ops listed=[i]) (f:ops[i]?=some o)
 (h:∀b:Act->World->Prop,Shut (∀a w,(i≠L->S w)->wpAnyL P md ops Q S L fuel (listed.setIfInBounds i true) a w->b a w)->if Region.wanted o (yielded ops a.tmps)=true then Oper.wp P o a w b Q else b (a.put o.dst undef) w) :
 wpAnyL P md ops Q S L (fuel+1) listed a w:=
 ⟨fun d=>by (rw[c]at d;cases d),fun j e=>by
  rw[c]at e;obtain rfl:=aD.1 e
  exact wpOp_step f (fun b hK=>h b (fun a w g hW=>hK a w ⟨g,hW⟩))⟩
theorem Gb {i j:Nat} {o o':Oper} {fuel:Nat} {listed:Array Bool} {a:Act} {w:World} (e:Region.ready md ops listed=[i,j]) (g:ops[i]?=some o) (l:ops[j]?=some o')
 (h:∀b:Act->World->Prop,Shut (∀a w,(i≠L->S w)->wpAnyL P md ops Q S L fuel (listed.setIfInBounds i true) a w->b a w)->if Region.wanted o (yielded ops a.tmps)=true then Oper.wp P o a w b Q else b (a.put o.dst undef) w)
 (m:∀b:Act->World->Prop,Shut (∀a w,(j≠L->S w)->wpAnyL P md ops Q S L fuel (listed.setIfInBounds j true) a w->b a w)->if Region.wanted o' (yielded ops a.tmps)=true then Oper.wp P o' a w b Q else b (a.put o'.dst undef) w) :
 wpAnyL P md ops Q S L (fuel+1) listed a w:=
 ⟨fun f=>by (rw[e]at f;cases f),fun k c=>by
  rw[e]at c;rcases aH.1 c with rfl|c
  ·exact wpOp_step g (fun b hK=>h b (fun a w d hW=>hK a w ⟨d,hW⟩))
  obtain rfl:=aD.1 c
  exact wpOp_step l (fun b hK=>m b (fun a w d hW=>hK a w ⟨d,hW⟩))⟩
theorem Gc {listed:Array Bool} {a:Act} {w:World} (b:Region.ready md ops listed=[]) (h:Q .normal a w):∀fuel,wpAnyL P md ops Q S L fuel listed a w
 |0=>⟨b,h⟩
 |_+1=>⟨fun _=>h,by rw[b];simp⟩
theorem q9 {id:Nat} {a:Act} {w:World} (hm:P.follows .mixedOrders=true)
 (h:wpAnyL P .any ops Q S L ops.size (Array.replicate ops.size false) a w.drew):(Code.region id ops true).wp P Q a w:=
 wp_region_any hm (zv _ _ _ _ h)
end
section
variable {P:Program} {ops:Array Oper} {Q:Exit->Act->World->Prop} {md:Region.Mode} {S:World->Prop} {L:Nat}
theorem lu (i d:Nat) (v:Value) {b:Oper} {fuel:Nat} {listed:Array Bool} {e:Array Value} {f:List Deferred} {w:World} (hi:ops[i]?=some b) (hd:b.dst=some d)
 (hs:Region.noSelect ops=true) (g:Region.free md ops listed i=true) (j:(Region.ready md ops listed).contains i=true) (k:waits md ops L i=true)
 (hQ:∀c a w,Q (.panic c) (a.put (some d) v) w->Q (.panic c) a w) (l:S w) (hw:Region.wanted b (yielded ops e)=true) (hy:∀w,S w->(execOp (Act.eval ⟨e,f⟩) b).run P w=.ok (.value v) w)
 (h:wpAnyL P md ops Q S L fuel (listed.setIfInBounds i true) ⟨e.setIfInBounds d v,f⟩ w):wpAnyL P md ops Q S L (fuel+1) listed ⟨e,f⟩ w:=
 jL hi hs g j k (by rw[hd];exact hQ) l hw hy (by rw[hd];exact h)
theorem set_toArray {α:Type} (l:List α) (i:Nat) (v:α):l.toArray.setIfInBounds i v=(l.set i v).toArray:=ae
theorem qw (i d:Nat) (v:Value) {b:Oper} {fuel:Nat} {e:List Bool} {f:List Value} {g:List Deferred} {w:World} (hi:ops[i]?=some b) (hd:b.dst=some d)
 (hs:Region.noSelect ops=true) (j:Region.free md ops e.toArray i=true) (k:(Region.ready md ops e.toArray).contains i=true) (l:waits md ops L i=true)
 (hQ:∀c a w,Q (.panic c) (a.put (some d) v) w->Q (.panic c) a w) (m:S w) (hw:Region.wanted b (yielded ops f.toArray)=true) (hy:∀w,S w->(execOp (Act.eval ⟨f.toArray,g⟩) b).run P w=.ok (.value v) w)
 (h:wpAnyL P md ops Q S L fuel (e.set i true).toArray ⟨(f.set d v).toArray,g⟩ w):wpAnyL P md ops Q S L (fuel+1) e.toArray ⟨f.toArray,g⟩ w:=by
 refine lu i d v hi hd hs j k l hQ m hw hy ?_;rw[set_toArray,set_toArray];exact h
theorem wJ {i:Nat} {o:Oper} {fuel:Nat} {c:List Bool} {a:Act} {w:World} (d:Region.ready md ops c.toArray=[i]) (e:ops[i]?=some o)
 (h:∀b:Act->World->Prop,Shut (∀a w,(i≠L->S w)->wpAnyL P md ops Q S L fuel (c.set i true).toArray a w->b a w)->if Region.wanted o (yielded ops a.tmps)=true then Oper.wp P o a w b Q else b (a.put o.dst undef) w) :
 wpAnyL P md ops Q S L (fuel+1) c.toArray a w:=by
 refine ky d e fun b hK=>h b ?_;rw[<- set_toArray];exact hK
theorem zJ {id:Nat} {a:Act} {w:World} {n:Nat} {b:List Bool} (c:ops.size=n) (d:List.replicate n false=b) (hm:P.follows .mixedOrders=true)
 (h:wpAnyL P .any ops Q S L n b.toArray a w.drew):(Code.region id ops true).wp P Q a w:=by
 refine q9 (S:=S) (L:=L) hm ?_;(have e:Array.replicate ops.size false=b.toArray:=by rw[c,<- d];simp);rw[e,c];exact h
end
section
variable {P:Program} {ops:Array Oper} {Q:Exit->Act->World->Prop} {md:Region.Mode} {S:World->Prop} {L:Nat}
theorem jH (i d:Nat) {g:Oper} {fuel:Nat} {b:List Bool} {e:List Value} {f:List Deferred} {w:World} (hi:ops[i]?=some g) (hd:g.dst=some d)
 (hs:Region.noSelect ops=true) (j:Region.free md ops b.toArray i=true) (k:(Region.ready md ops b.toArray).contains i=true) (l:waits md ops L i=true)
 (hQ:∀c a w,Q (.panic c) (a.put (some d) undef) w->Q (.panic c) a w) (m:S w) (hw:Region.wanted g (yielded ops e.toArray)=false)
 (h:wpAnyL P md ops Q S L fuel (b.set i true).toArray ⟨(e.set d undef).toArray,f⟩ w):wpAnyL P md ops Q S L (fuel+1) b.toArray ⟨e.toArray,f⟩ w:=by
 refine wpAnyL_first hi (Region.noSelect_spec hs) (sB l).2 (by rw[hd];exact hQ) fuel b.toArray ⟨e.toArray,f⟩ w (Region.free_spec hi j) (by simpa using k) (.inr ⟨hw,rfl⟩) m ?_;rw[hd,set_toArray];show wpAnyL P md ops Q S L fuel _ ⟨e.toArray.setIfInBounds d undef,f⟩ w;rw[set_toArray];exact h
def o6 (md:Region.Mode) (ops:Array Oper) (listed:Array Bool):Prop:=∀j a,ops[j]?=some a->listed.getD j false=true->∀e∈a.after,Region.binds md e=true->listed.getD e.on false=true
def qx (md:Region.Mode) (ops:Array Oper) (listed:Array Bool):Bool:=(List.range ops.size).all fun j=>!(listed.getD j false)||(match ops[j]? with|some oj=>oj.after.all fun e=>!(Region.binds md e)||listed.getD e.on false|none=>true)
theorem wK {listed:Array Bool} (h:qx md ops listed=true):o6 md ops listed:=by
 intro j f b g e he hb;have a:j<ops.size:=(cM.1 b).1;have c:=List.all_eq_true.1 h j (bP.2 a);rw[g,b]at c;(have i:(f.after.all fun e=>!(Region.binds md e)||listed.getD e.on false)=true:=by simpa using c);have d:=Array.all_eq_true'.1 i e he;rw[hb]at d;simpa using d
theorem o6.step {listed:Array Bool} {j:Nat} (h:o6 md ops listed) (d:j∈Region.ready md ops listed):o6 md ops (listed.setIfInBounds j true):=by
 intro k ok a b e he hb;obtain⟨-,i,f,g⟩:=mem_ready.1 d;refine getD_set_true ?_;by_cases c:j=k
 ·subst c;rw[f]at a;obtain rfl:=aA a;exact g e he hb
 exact h k ok a (by rw[getD_set_ne false c]at b;exact b) e he hb
def chain (md:Region.Mode) (ops:Array Oper):Nat->List Nat->Bool
 |_,[]=>true
 |a,b::l=>(match ops[a]? with|some o=>o.after.any fun e=>Region.binds md e&&e.on==b|none=>false)&&chain md ops b l
theorem zK {listed:Array Bool} (hc:o6 md ops listed):∀(l:List Nat) (a:Nat),chain md ops a l=true->(∀o,ops[a]?=some o->∀e∈o.after,Region.binds md e=true->listed.getD e.on false=true)->∀x∈l,listed.getD x false=true
 | [],_,_,_,x,c=>by cases c
 |b::l,a,h,f,x,c=>by
  unfold chain at h;rw[aF]at h
  have hb:listed.getD b false=true:=by
   cases ho:ops[a]? with
   |none=>rw[ho]at h;simp at h
   |some o =>
    rw[ho]at h;obtain⟨e,he,d⟩:=Array.any_eq_true'.1 h.1;rw[aF]at d;have:=f o ho e he d.1;rwa [show e.on=b by simpa using d.2]at this
  rcases aH.1 c with rfl|c
  ·exact hb
  exact zK hc l b h.2 (fun o ho e he g=>hc b o ho hb e he g) x c
theorem GH {i:Nat} {l:Oper} {v:Value} (u:List Nat) (x:chain md ops L u=true) (y:i∈u) (J:i≠L) (hi:ops[i]?=some l) (C:∀(j:Nat) (o:Oper) cs b,ops[j]?=some o->o.op≠.select cs b)
 (hQ:∀c a w,Q (.panic c) (a.put l.dst v) w->Q (.panic c) a w) :
 ∀(fuel:Nat) (listed:Array Bool) (a:Act) (w:World),o6 md ops listed ->
  (∀j m,ops[j]?=some m->j≠i->listed.getD j true=false->(∀e∈m.after,Region.binds md e=true->e.on≠i)->l.apart ops m=true) ->
  i∈Region.ready md ops listed->YieldsIf P ops S l v a->S w ->
  wpAnyL P md ops Q S L fuel (listed.setIfInBounds i true) (a.put l.dst v) w->wpAnyL P md ops Q S L (fuel+1) listed a w:=by
 intro fuel
 induction fuel with
 |zero =>
  intro listed a w _ _ n hy p H;refine⟨fun h=>(by rw[h]at n;cases n),fun j q=>?_⟩;by_cases g:j=i
  ·subst g;exact hy.wpOp hi p ⟨fun _=>p,H⟩
  have:=ready_mono q g;rw[H.1]at this;cases this
 |succ fuel ih =>
  intro listed a w D d n hy p H;refine⟨fun h=>(by rw[h]at n;cases n),fun j q=>?_⟩;by_cases g:j=i
  ·subst g;exact hy.wpOp hi p ⟨fun _=>p,H⟩
  have r:=H.2 j (ready_mono q g);obtain⟨E,m,s,F⟩:=mem_ready.1 q;have z:=(mem_ready.1 n).1
  have f:listed.getD i false=false:=by
   rcases bk i listed.size with A|A
   ·simp[A]at z⊢;exact z
   simp[Array.getElem?_eq_none A]at z
  have K:∀e∈m.after,Region.binds md e=true->e.on≠i:=fun e he hb heq=>by
   have r:=F e he hb;rw[heq,f]at r;cases r
  have B:j≠L:=by
   rintro rfl;have:=zK D u j x (fun o G e he hb=>by rw[s]at G;obtain rfl:=aA G;exact F e he hb) i y;rw[f]at this;cases this
  have M:=wpOp_putIf s (d j m s g E K) (fun cs b=>C i l cs b hi) (fun cs b=>C j m cs b s) hQ hy r
  have N:∀k ok,ops[k]?=some ok->k≠i->(listed.setIfInBounds j true).getD k true=false ->
   (∀e∈ok.after,Region.binds md e=true->e.on≠i)->l.apart ops ok=true:=fun k ok O R f T=>by
   refine d k ok O R ?_ T;by_cases I:j=k
   ·subst I;exact E
   rw[getD_set_ne true I]at f;exact f
  refine wpOp_mono (fun U w' t=>⟨t.2.1,ih (listed.setIfInBounds j true) U w' (D.step q) N (ready_mono n (Ne.symm g)) t.1 (t.2.1 B) ?_⟩) M;rw[dC _ _ g];exact t.2.2
theorem GI (j:List Nat) (i d:Nat) (v:Value) {g:Oper} {fuel:Nat} {b:List Bool} {e:List Value} {f:List Deferred} {w:World} (hi:ops[i]?=some g) (hd:g.dst=some d)
 (hs:Region.noSelect ops=true) (l:Region.free md ops b.toArray i=true) (m:(Region.ready md ops b.toArray).contains i=true) (k:(chain md ops L j&&j.contains i&&i !=L&&qx md ops b.toArray)=true)
 (hQ:∀c a w,Q (.panic c) (a.put (some d) v) w->Q (.panic c) a w) (n:S w) (hw:Region.wanted g (yielded ops e.toArray)=true) (hy:∀w,S w->(execOp (Act.eval ⟨e.toArray,f⟩) g).run P w=.ok (.value v) w)
 (h:wpAnyL P md ops Q S L fuel (b.set i true).toArray ⟨(e.set d v).toArray,f⟩ w):wpAnyL P md ops Q S L (fuel+1) b.toArray ⟨e.toArray,f⟩ w:=by
 simp only[aF,bne_iff_ne,ne_eq,List.contains_iff_mem]at k;obtain⟨⟨⟨o,p⟩,q⟩,r⟩:=k;refine GH j o p q hi (Region.noSelect_spec hs) (by rw[hd];exact hQ) fuel b.toArray ⟨e.toArray,f⟩ w (wK r) (Region.free_spec hi l) (by simpa using m) (.inl ⟨hw,hy⟩) n ?_;rw[hd,set_toArray];show wpAnyL P md ops Q S L fuel _ ⟨e.toArray.setIfInBounds d v,f⟩ w;rw[set_toArray];exact h
end
end last
namespace phase
open Go
open last (o6 qx wK)
section
variable {P:Program} {ops:Array Oper} {Q:Exit->Act->World->Prop} {md:Region.Mode} {S:World->Prop} {F:Nat->Bool}
def jZ (P:Program) (md:Region.Mode) (ops:Array Oper) (Q:Exit->Act->World->Prop) (S:World->Prop) (F:Nat->Bool):Nat->Array Bool->Act->World->Prop
 |0,listed,a,w=>Region.ready md ops listed=[]/\Q .normal a w
 |fuel+1,listed,a,w =>
  (Region.ready md ops listed=[]->Q .normal a w) /\
  ∀i∈Region.ready md ops listed,wpOp P ops Q i (fun b w'=>(F i=true->S w')/\jZ P md ops Q S F fuel (listed.setIfInBounds i true) b w') a w
theorem Dj:∀(fuel:Nat) (listed:Array Bool) (a:Act) (w:World),jZ P md ops Q S F fuel listed a w->wpAny P md ops Q fuel listed a w
 |0,_,_,_,h=>h
 |fuel+1,_,_,_,h=>⟨h.1,fun i hi=>wpOp_mono (fun b w' h'=>Dj fuel _ b w' h'.2) (h.2 i hi)⟩
def qP (md:Region.Mode) (ops:Array Oper) (acc:List Nat) (j:Nat):Bool:=match ops[j]? with|some o=>o.after.any (fun e=>Region.binds md e&&acc.contains e.on)|none=>false
def reach (md:Region.Mode) (ops:Array Oper):List Nat->List Nat->Bool
 |_,[]=>true
 |acc,b::B=>qP md ops acc b&&reach md ops (b::acc) B
def waits (md:Region.Mode) (ops:Array Oper) (F:Nat->Bool) (listed:Array Bool) (i:Nat) (B:List Nat):Bool:=
 reach md ops [i] B&&(List.range ops.size).all fun j=>F j||listed.getD j true||qP md ops (i::B) j
theorem Dk {acc:List Nat} {j:Nat} (h:qP md ops acc j=true):∃o,ops[j]?=some o/\∃e∈o.after,Region.binds md e=true/\e.on∈acc:=by
 unfold qP at h;split at h
 ·rename_i o a;obtain⟨e,he,hb⟩:=Array.any_eq_true'.1 h;rw[aF]at hb;exact⟨o,a,e,he,hb.1,by simpa using hb.2⟩
 cases h
theorem Dl {listed:Array Bool} (hc:o6 md ops listed):∀(B acc:List Nat),reach md ops acc B=true->(∀x∈acc,listed.getD x false=true->False)->∀x∈B,listed.getD x false=true->False
 | [],_,_,_,x,a=>by cases a
 |b::B,acc,h,c,x,a=>by
  unfold reach at h;rw[aF]at h;obtain⟨o,f,e,he,hb,hm⟩:=Dk h.1;have d:listed.getD b false=true->False:=fun hl=>c _ hm (hc b o f hl e he hb);rcases aH.1 a with rfl|a
  ·exact d
  exact Dl hc B (b::acc) h.2 (fun y hy=>by
   rcases aH.1 hy with rfl|hy
   ·exact d
   exact c y hy) x a
theorem MF {l:Array Bool} {i:Nat} (h:l.getD i true=false):l.getD i false=true->False:=by
 intro a;rcases bk i l.size with b|b
 ·simp[b]at h a;rw[h]at a;cases a
 simp[b]at h
theorem sB {listed:Array Bool} {i:Nat} {B:List Nat} (h:waits md ops F listed i B=true):reach md ops [i] B=true/\∀(j:Nat),j<ops.size->F j=false->listed.getD j true=false->qP md ops (i::B) j=true:=by
 unfold waits at h;rw[aF]at h;refine⟨h.1,fun j a b c=>?_⟩;have d:=List.all_eq_true.1 h.2 j (bP.2 a);rwa [b,c,Bool.or_false,Bool.false_or]at d
theorem MG {i:Nat} {B:List Nat} (M:reach md ops [i] B=true) {m:Oper} {v:Value} (hi:ops[i]?=some m) (G:∀(j:Nat) (o:Oper) cs b,ops[j]?=some o->o.op≠.select cs b)
 (hQ:∀c a w,Q (.panic c) (a.put m.dst v) w->Q (.panic c) a w) :
 ∀(fuel:Nat) (listed:Array Bool) (a:Act) (w:World),o6 md ops listed ->
  (∀j n,ops[j]?=some n->j≠i->listed.getD j true=false->(∀e∈n.after,Region.binds md e=true->e.on≠i)->m.apart ops n=true) ->
  (∀(j:Nat),j<ops.size->F j=false->listed.getD j true=false->qP md ops (i::B) j=true) ->
  i∈Region.ready md ops listed->YieldsIf P ops S m v a->S w ->
  jZ P md ops Q S F fuel (listed.setIfInBounds i true) (a.put m.dst v) w->jZ P md ops Q S F (fuel+1) listed a w:=by
 intro fuel
 induction fuel with
 |zero =>
  intro listed a w _ _ _ g hy q H;refine⟨fun h=>(by rw[h]at g;cases g),fun j r=>?_⟩;by_cases l:j=i
  ·subst l;exact hy.wpOp hi q ⟨fun _=>q,H⟩
  have:=ready_mono r l;rw[H.1]at this;cases this
 |succ fuel ih =>
  intro listed a w hc f I g hy q H;refine⟨fun h=>(by rw[h]at g;cases g),fun j r=>?_⟩;by_cases l:j=i
  ·subst l;exact hy.wpOp hi q ⟨fun _=>q,H⟩
  have p:=H.2 j (ready_mono r l);obtain⟨u,n,s,J⟩:=mem_ready.1 r
  have N:∀e∈n.after,Region.binds md e=true->e.on≠i:=fun e he hb heq=>by
   have p:=J e he hb;have K:=(mem_ready.1 g).1;rw[heq]at p;rcases bk i listed.size with z|z
   ·simp[z]at K p;rw[K]at p;cases p
   simp[Array.getElem?_eq_none z]at p
  have A:F j=true:=by
   cases h:F j
   ·obtain⟨o,L,e,he,hb,hm⟩:=Dk (I j (cM.1 s).1 h u);rw[s]at L;obtain rfl:=aA L;have d:=MF (mem_ready.1 g).1;have C:=J e he hb;rcases aH.1 hm with hm|hm
    ·rw[hm]at C;exact (d C).elim
    exact (Dl hc B [i] M (fun x O=>by rw[aD.1 O];exact d) _ hm C).elim
   rfl
  have R:=wpOp_putIf s (f j n s l u N) (fun cs b=>G i m cs b hi) (fun cs b=>G j n cs b s) hQ hy p
  have T:∀k ok,ops[k]?=some ok->k≠i->(listed.setIfInBounds j true).getD k true=false ->
   (∀e∈ok.after,Region.binds md e=true->e.on≠i)->m.apart ops ok=true:=fun k ok D U d V=>by
   refine f k ok D U ?_ V;by_cases t:j=k
   ·subst t;exact u
   rw[getD_set_ne true t]at d;exact d
  have E:∀(k:Nat),k<ops.size->F k=false->(listed.setIfInBounds j true).getD k true=false->qP md ops (i::B) k=true:=fun k D hF d=>by
   refine I k D hF ?_;by_cases t:j=k
   ·subst t;exact u
   rw[getD_set_ne true t]at d;exact d
  refine wpOp_mono (fun W w' y=>⟨y.2.1,ih (listed.setIfInBounds j true) W w' (hc.step r) T E (ready_mono g (Ne.symm l)) y.1 (y.2.1 A) ?_⟩) R;rw[dC _ _ l];exact y.2.2
theorem MH {i:Nat} {g:Oper} {v:Value} (hi:ops[i]?=some g) (u:∀(j:Nat) (o:Oper) cs b,ops[j]?=some o->o.op≠.select cs b)
 (x:F i=false) (hQ:∀c a w,Q (.panic c) (a.put g.dst v) w->Q (.panic c) a w) :
 ∀(fuel:Nat) (listed:Array Bool) (a:Act) (w:World),
  (∀j l,ops[j]?=some l->j≠i->listed.getD j true=false->(∀e∈l.after,Region.binds md e=true->e.on≠i)->g.apart ops l=true) ->
  i∈Region.ready md ops listed->YieldsIf P ops (fun _=>True) g v a ->
  jZ P md ops Q S F fuel (listed.setIfInBounds i true) (a.put g.dst v) w->jZ P md ops Q S F (fuel+1) listed a w:=by
 intro fuel
 induction fuel with
 |zero =>
  intro listed a w _ m hy H;refine⟨fun h=>(by rw[h]at m;cases m),fun j q=>?_⟩;by_cases f:j=i
  ·subst f;exact hy.wpOp hi trivial ⟨fun h=>(by rw[x]at h;cases h),H⟩
  have:=ready_mono q f;rw[H.1]at this;cases this
 |succ fuel ih =>
  intro listed a w d m hy H;refine⟨fun h=>(by rw[h]at m;cases m),fun j q=>?_⟩;by_cases f:j=i
  ·subst f;exact hy.wpOp hi trivial ⟨fun h=>(by rw[x]at h;cases h),H⟩
  have n:=H.2 j (ready_mono q f);obtain⟨y,l,r,B⟩:=mem_ready.1 q
  have C:∀e∈l.after,Region.binds md e=true->e.on≠i:=fun e he hb heq=>by
   have n:=B e he hb;have z:=(mem_ready.1 m).1;rw[heq]at n;rcases bk i listed.size with s|s
   ·simp[s]at z n;rw[z]at n;cases n
   simp[Array.getElem?_eq_none s]at n
  have D:=wpOp_putIf r (d j l r f y C) (fun cs b=>u i g cs b hi) (fun cs b=>u j l cs b r) hQ hy n
  have E:∀k ok,ops[k]?=some ok->k≠i->(listed.setIfInBounds j true).getD k true=false ->
   (∀e∈ok.after,Region.binds md e=true->e.on≠i)->g.apart ops ok=true:=fun k ok G I p J=>by
   refine d k ok G I ?_ J;by_cases A:j=k
   ·subst A;exact y
   rw[getD_set_ne true A]at p;exact p
  refine wpOp_mono (fun K w' t=>⟨t.2.1,ih (listed.setIfInBounds j true) K w' E (ready_mono m (Ne.symm f)) t.1 ?_⟩) D;rw[dC _ _ f];exact t.2.2
theorem set_toArray {α:Type} (l:List α) (i:Nat) (v:α):l.toArray.setIfInBounds i v=(l.set i v).toArray:=ae
theorem goN (i d:Nat) (v:Value) (B:List Nat) {g:Oper} {fuel:Nat} {b:List Bool} {e:List Value} {f:List Deferred} {w:World} (hi:ops[i]?=some g) (hd:g.dst=some d)
 (hs:Region.noSelect ops=true) (k:Region.free md ops b.toArray i=true) (l:(Region.ready md ops b.toArray).contains i=true) (j:waits md ops F b.toArray i B=true) (hc:qx md ops b.toArray=true)
 (hQ:∀c a w,Q (.panic c) (a.put (some d) v) w->Q (.panic c) a w) (m:S w) (hw:Region.wanted g (yielded ops e.toArray)=true) (hy:∀w,S w->(execOp (Act.eval ⟨e.toArray,f⟩) g).run P w=.ok (.value v) w)
 (h:jZ P md ops Q S F fuel (b.set i true).toArray ⟨(e.set d v).toArray,f⟩ w):jZ P md ops Q S F (fuel+1) b.toArray ⟨e.toArray,f⟩ w:=by
 refine MG (sB j).1 hi (Region.noSelect_spec hs) (by rw[hd];exact hQ) fuel b.toArray ⟨e.toArray,f⟩ w (wK hc) (Region.free_spec hi k) (sB j).2 (by simpa using l) (.inl ⟨hw,hy⟩) m ?_;rw[hd,set_toArray];show jZ P md ops Q S F fuel _ ⟨e.toArray.setIfInBounds d v,f⟩ w;rw[set_toArray];exact h
theorem MI (i d:Nat) (v:Value) {g:Oper} {fuel:Nat} {e:List Bool} {b:List Value} {f:List Deferred} {w:World} (hi:ops[i]?=some g) (hd:g.dst=some d)
 (hs:Region.noSelect ops=true) (j:Region.free md ops e.toArray i=true) (k:(Region.ready md ops e.toArray).contains i=true) (l:F i=false)
 (hQ:∀c a w,Q (.panic c) (a.put (some d) v) w->Q (.panic c) a w) (hw:Region.wanted g (yielded ops b.toArray)=true) (hy:∀w,(execOp (Act.eval ⟨b.toArray,f⟩) g).run P w=.ok (.value v) w)
 (h:jZ P md ops Q S F fuel (e.set i true).toArray ⟨(b.set d v).toArray,f⟩ w):jZ P md ops Q S F (fuel+1) e.toArray ⟨b.toArray,f⟩ w:=by
 refine MH hi (Region.noSelect_spec hs) l (by rw[hd];exact hQ) fuel e.toArray ⟨b.toArray,f⟩ w (Region.free_spec hi j) (by simpa using k) (.inl ⟨hw,fun w _=>hy w⟩) ?_;rw[hd,set_toArray];show jZ P md ops Q S F fuel _ ⟨b.toArray.setIfInBounds d v,f⟩ w;rw[set_toArray];exact h
def pC (P:Program) (md:Region.Mode) (ops:Array Oper) (Q:Exit->Act->World->Prop) (S:World->Prop) (F:Nat->Bool) (fuel:Nat) (c:List Bool) (a:Act) (w:World) (i:Nat):Prop:=
 ∃o,ops[i]?=some o/\∀b:Act->World->Prop,Shut (∀a w,(F i=true->S w)->jZ P md ops Q S F fuel (c.set i true).toArray a w->b a w)->if Region.wanted o (yielded ops a.tmps)=true then Oper.wp P o a w b Q else b (a.put o.dst undef) w
theorem rT {l:List Nat} {fuel:Nat} {b:List Bool} {a:Act} {w:World} (c:Region.ready md ops b.toArray=l) (d:l≠[]) (h:∀i∈l,pC P md ops Q S F fuel b a w i):jZ P md ops Q S F (fuel+1) b.toArray a w:=
 ⟨fun e=>absurd (c.symm.trans e) d,fun i hi=>by
  rw[c]at hi;obtain⟨o,f,g⟩:=h i hi
  exact wpOp_step f fun j hK=>g j (fun a w k hW=>hK a w ⟨k,by rw[set_toArray];exact hW⟩)⟩
theorem MJ {b:List Bool} {a:Act} {w:World} (c:Region.ready md ops b.toArray=[]) (h:Q .normal a w):∀fuel,jZ P md ops Q S F fuel b.toArray a w
 |0=>⟨c,h⟩
 |_+1=>⟨fun _=>h,by rw[c];simp⟩
theorem Dm {id:Nat} {a:Act} {w:World} {n:Nat} {b:List Bool} (c:ops.size=n) (d:List.replicate n false=b) (hm:P.follows .mixedOrders=true)
 (h:jZ P .any ops Q S F n b.toArray a w.drew):(Code.region id ops true).wp P Q a w:=by
 refine wp_region_any hm (Dj (S:=S) (F:=F) _ _ _ _ ?_);(have e:Array.replicate ops.size false=b.toArray:=by rw[c,<- d];simp);rw[e,c];exact h
end
end phase
namespace phase
open Go
section
variable {P:Program} {ops:Array Oper} {Q:Exit->Act->World->Prop} {md:Region.Mode} {S:World->Prop} {F:Nat->Bool}
inductive rU (P:Program) (md:Region.Mode) (ops:Array Oper) (Q:Exit->Act->World->Prop) (S:World->Prop) (F:Nat->Bool) (fuel:Nat) (lb:List Bool) (a:Act) (w:World):List Nat->Prop
 |nil:rU P md ops Q S F fuel lb a w []
 |cons {i:Nat} {l:List Nat}:(Region.ready md ops lb.toArray).contains i=false\/pC P md ops Q S F fuel lb a w i->rU P md ops Q S F fuel lb a w l->rU P md ops Q S F fuel lb a w (i::l)
theorem rU.get {fuel:Nat} {c:List Bool} {a:Act} {w:World} {l:List Nat} (h:rU P md ops Q S F fuel c a w l):∀i∈l,i∈Region.ready md ops c.toArray->pC P md ops Q S F fuel c a w i:=by
 induction h with
 |nil=>intro i hi;cases hi
 |cons b _ ih =>
  intro i hi d;rcases aH.1 hi with rfl|hi
  ·rcases b with b|b
   ·(have:(Region.ready md ops c.toArray).contains i=true:=by simpa using d);rw[b]at this;cases this
   exact b
  exact ih i hi d
theorem Dp (l:List Nat) {fuel:Nat} {b:List Bool} {a:Act} {w:World} (h:rU P md ops Q S F fuel b a w l) (d:(Region.ready md ops b.toArray).all (fun i=>l.contains i)=true:=by decide +kernel) (c:(Region.ready md ops b.toArray).isEmpty=false:=by decide +kernel):jZ P md ops Q S F (fuel+1) b.toArray a w:=by
 refine rT (l:=Region.ready md ops b.toArray) rfl (fun e=>by rw[e]at c;cases c) fun i hi=>h.get i ?_ hi;have:=List.all_eq_true.1 d i hi;simpa using this
end
end phase
end Go.Proofs.YtjhdaojclilakaaGreatDoor
