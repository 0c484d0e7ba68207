/-
  A part of the proof of the law DeskPieces: RegionLast, RegionGo, RegionSkip, RegionPhase, RegionEach.
-/
import Derived.OrdersHeld
import Derived.Deep.RegionHeld3
import Derived.Test.YtlhodcmdpchllaaGreatDoorHd
set_option maxHeartbeats 16000000
set_option maxRecDepth 1000000
namespace Go.Proofs.YtlhodcmdpchllaaGreatDoor
namespace last
open Go
section
variable {P:Program} {ops:Array Oper} {Q:Exit->Act->World->Prop} {md:Region.Mode} {S:World->Prop} {L:Nat}
def wpAnyL (P:Program) (md:Region.Mode) (ops:Array Oper) (Q:Exit->Act->World->Prop) (S:World->Prop) (L:Nat):Nat->Array Bool->Act->World->Prop
 |0,listed,a,w=>Region.ready md ops listed=[]/\Q .normal a w
 |fuel+1,listed,a,w =>
  (Region.ready md ops listed=[]->Q .normal a w) /\
  ∀i∈Region.ready md ops listed,wpOp P ops Q i (fun a' w'=>(i≠L->S w')/\wpAnyL P md ops Q S L fuel (listed.setIfInBounds i true) a' w') a w
theorem uY:∀(fuel:Nat) (listed:Array Bool) (a:Act) (w:World),wpAnyL P md ops Q S L fuel listed a w->wpAny P md ops Q fuel listed a w
 |0,_,_,_,h=>h
 |fuel+1,_,_,_,h=>⟨h.1,fun i hi=>wpOp_mono (fun a' w' h'=>uY fuel _ a' w' h'.2) (h.2 i hi)⟩
def waits (md:Region.Mode) (ops:Array Oper) (L i:Nat):Bool:=i !=L&&(match ops[L]? with|some o=>o.after.any (fun e=>Region.binds md e&&e.on==i)|none=>true)
theorem pG {i:Nat} (h:waits md ops L i=true):i≠L/\∀o,ops[L]?=some o->∃e∈o.after,Region.binds md e=true/\e.on=i:=by
 unfold waits at h;rw[aK]at h;refine⟨by simpa using h.1,fun o ho=>?_⟩;have h2:=h.2;rw[ho]at h2;obtain⟨e,he,hb⟩:=Array.any_eq_true'.1 h2;rw[aK]at hb;exact⟨e,he,hb.1,by simpa using hb.2⟩
theorem wpAnyL_first {i:Nat} {oi:Oper} {v:Value} (hi:ops[i]?=some oi) (N1:∀(j:Nat) (o:Oper) cs b,ops[j]?=some o->o.op≠.select cs b)
 (hL:∀o,ops[L]?=some o->∃e∈o.after,Region.binds md e=true/\e.on=i)
 (hQ:∀c a w,Q (.panic c) (a.put oi.dst v) w->Q (.panic c) a w) :
 ∀(fuel:Nat) (listed:Array Bool) (a:Act) (w:World),
  (∀j oj,ops[j]?=some oj->j≠i->listed.getD j true=false->(∀e∈oj.after,Region.binds md e=true->e.on≠i)->oi.apart ops oj=true) ->
  i∈Region.ready md ops listed->YieldsIf P ops S oi v a->S w ->
  wpAnyL P md ops Q S L fuel (listed.setIfInBounds i true) (a.put oi.dst v) w->wpAnyL P md ops Q S L (fuel+1) listed a w:=by
 intro fuel
 induction fuel with
 |zero =>
  intro listed a w _ hr hy hS H;refine⟨fun h=>(by rw[h]at hr;cases hr),fun j hj=>?_⟩;by_cases LZ:j=i
  ·subst LZ;exact hy.wpOp hi hS ⟨fun _=>hS,H⟩
  have:=ready_mono hj LZ;rw[H.1]at this;cases this
 |succ fuel ih =>
  intro listed a w hfree hr hy hS H;refine⟨fun h=>(by rw[h]at hr;cases hr),fun j hj=>?_⟩;by_cases LZ:j=i
  ·subst LZ;exact hy.wpOp hi hS ⟨fun _=>hS,H⟩
  have h1:=H.2 j (ready_mono hj LZ);obtain⟨Ng,oj,Ot,M1⟩:=mem_ready.1 hj
  have O9:∀e∈oj.after,Region.binds md e=true->e.on≠i:=fun e he hb heq=>by
   have h1:=M1 e he hb;have h0:=(mem_ready.1 hr).1;rw[heq]at h1;rcases aW i listed.size with h'|h'
   ·simp[h']at h0 h1;rw[h0]at h1;cases h1
   simp[Array.getElem?_eq_none h']at h1
  have Ym:j≠L:=by
   rintro rfl;obtain⟨e,he,hb,heq⟩:=hL oj Ot;exact O9 e he hb heq
  have h2:=wpOp_putIf Ot (hfree j oj Ot LZ Ng O9) (fun cs b=>N1 i oi cs b hi) (fun cs b=>N1 j oj cs b Ot) hQ hy h1
  have ML:∀k ok,ops[k]?=some ok->k≠i->(listed.setIfInBounds j true).getD k true=false ->
   (∀e∈ok.after,Region.binds md e=true->e.on≠i)->oi.apart ops ok=true:=fun k ok hk R6 hun L3=>by
   refine hfree k ok hk R6 ?_ L3;by_cases NU:j=k
   ·subst NU;exact Ng
   rw[getD_set_ne true NU]at hun;exact hun
  refine wpOp_mono (fun a' w' h3=>⟨h3.2.1,ih (listed.setIfInBounds j true) a' w' ML (ready_mono hr (Ne.symm LZ)) h3.1 (h3.2.1 Ym) ?_⟩) h2;rw[cL _ _ LZ];exact h3.2.2
theorem gS {i:Nat} {oi:Oper} {v:Value} {fuel:Nat} {listed:Array Bool} {a:Act} {w:World} (hi:ops[i]?=some oi)
 (hs:Region.noSelect ops=true) (hf:Region.free md ops listed i=true) (hr:(Region.ready md ops listed).contains i=true) (hl:waits md ops L i=true)
 (hQ:∀c a w,Q (.panic c) (a.put oi.dst v) w->Q (.panic c) a w) (hS:S w) (hw:Region.wanted oi (yielded ops a.tmps)=true) (hy:∀w,S w->(execOp a.eval oi).run P w=.ok (.value v) w)
 (h:wpAnyL P md ops Q S L fuel (listed.setIfInBounds i true) (a.put oi.dst v) w):wpAnyL P md ops Q S L (fuel+1) listed a w:=
 wpAnyL_first hi (Region.noSelect_spec hs) (pG hl).2 hQ fuel listed a w (Region.free_spec hi hf) (by simpa using hr) (.inl ⟨hw,hy⟩) hS h
theorem iC {i:Nat} {o:Oper} {fuel:Nat} {listed:Array Bool} {a:Act} {w:World} (hr:Region.ready md ops listed=[i]) (ho:ops[i]?=some o)
 (h:∀K':Act->World->Prop,Shut (∀a w,(i≠L->S w)->wpAnyL P md ops Q S L fuel (listed.setIfInBounds i true) a w->K' a w)->if Region.wanted o (yielded ops a.tmps)=true then Oper.wp P o a w K' Q else K' (a.put o.dst undef) w) :
 wpAnyL P md ops Q S L (fuel+1) listed a w:=
 ⟨fun h0=>by (rw[hr]at h0;cases h0),fun j hj=>by
  rw[hr]at hj;obtain rfl:=aH.1 hj
  exact wpOp_step ho (fun K' hK=>h K' (fun a w hS hW=>hK a w ⟨hS,hW⟩))⟩
theorem oX {i j:Nat} {o o':Oper} {fuel:Nat} {listed:Array Bool} {a:Act} {w:World} (hr:Region.ready md ops listed=[i,j]) (ho:ops[i]?=some o) (VD:ops[j]?=some o')
 (h:∀K':Act->World->Prop,Shut (∀a w,(i≠L->S w)->wpAnyL P md ops Q S L fuel (listed.setIfInBounds i true) a w->K' a w)->if Region.wanted o (yielded ops a.tmps)=true then Oper.wp P o a w K' Q else K' (a.put o.dst undef) w)
 (h':∀K':Act->World->Prop,Shut (∀a w,(j≠L->S w)->wpAnyL P md ops Q S L fuel (listed.setIfInBounds j true) a w->K' a w)->if Region.wanted o' (yielded ops a.tmps)=true then Oper.wp P o' a w K' Q else K' (a.put o'.dst undef) w) :
 wpAnyL P md ops Q S L (fuel+1) listed a w:=
 ⟨fun h0=>by (rw[hr]at h0;cases h0),fun k hk=>by
  rw[hr]at hk;rcases aM.1 hk with rfl|hk
  ·exact wpOp_step ho (fun K' hK=>h K' (fun a w hS hW=>hK a w ⟨hS,hW⟩))
  obtain rfl:=aH.1 hk
  exact wpOp_step VD (fun K' hK=>h' K' (fun a w hS hW=>hK a w ⟨hS,hW⟩))⟩
theorem Bo {listed:Array Bool} {a:Act} {w:World} (hr:Region.ready md ops listed=[]) (h:Q .normal a w):∀fuel,wpAnyL P md ops Q S L fuel listed a w
 |0=>⟨hr,h⟩
 |_+1=>⟨fun _=>h,by rw[hr];simp⟩
theorem oY {id:Nat} {a:Act} {w:World} (hm:P.follows .mixedOrders=true)
 (h:wpAnyL P .any ops Q S L ops.size (Array.replicate ops.size false) a w.drew):(Code.region id ops true).wp P Q a w:=
 wp_region_any hm (uY _ _ _ _ h)
end
section
variable {P:Program} {ops:Array Oper} {Q:Exit->Act->World->Prop} {md:Region.Mode} {S:World->Prop} {L:Nat}
theorem jq (i d:Nat) (v:Value) {oi:Oper} {fuel:Nat} {listed:Array Bool} {ts:Array Value} {ds:List Deferred} {w:World} (hi:ops[i]?=some oi) (hd:oi.dst=some d)
 (hs:Region.noSelect ops=true) (hf:Region.free md ops listed i=true) (hr:(Region.ready md ops listed).contains i=true) (hl:waits md ops L i=true)
 (hQ:∀c a w,Q (.panic c) (a.put (some d) v) w->Q (.panic c) a w) (hS:S w) (hw:Region.wanted oi (yielded ops ts)=true) (hy:∀w,S w->(execOp (Act.eval ⟨ts,ds⟩) oi).run P w=.ok (.value v) w)
 (h:wpAnyL P md ops Q S L fuel (listed.setIfInBounds i true) ⟨ts.setIfInBounds d v,ds⟩ w):wpAnyL P md ops Q S L (fuel+1) listed ⟨ts,ds⟩ w:=
 gS hi hs hf hr hl (by rw[hd];exact hQ) hS hw hy (by rw[hd];exact h)
theorem set_toArray {α:Type} (l:List α) (i:Nat) (v:α):l.toArray.setIfInBounds i v=(l.set i v).toArray:=by simp
theorem nL (i d:Nat) (v:Value) {oi:Oper} {fuel:Nat} {lb:List Bool} {ts:List Value} {ds:List Deferred} {w:World} (hi:ops[i]?=some oi) (hd:oi.dst=some d)
 (hs:Region.noSelect ops=true) (hf:Region.free md ops lb.toArray i=true) (hr:(Region.ready md ops lb.toArray).contains i=true) (hl:waits md ops L i=true)
 (hQ:∀c a w,Q (.panic c) (a.put (some d) v) w->Q (.panic c) a w) (hS:S w) (hw:Region.wanted oi (yielded ops ts.toArray)=true) (hy:∀w,S w->(execOp (Act.eval ⟨ts.toArray,ds⟩) oi).run P w=.ok (.value v) w)
 (h:wpAnyL P md ops Q S L fuel (lb.set i true).toArray ⟨(ts.set d v).toArray,ds⟩ w):wpAnyL P md ops Q S L (fuel+1) lb.toArray ⟨ts.toArray,ds⟩ w:=by
 refine jq i d v hi hd hs hf hr hl hQ hS hw hy ?_;rw[set_toArray,set_toArray];exact h
theorem sy {i:Nat} {o:Oper} {fuel:Nat} {lb:List Bool} {a:Act} {w:World} (hr:Region.ready md ops lb.toArray=[i]) (ho:ops[i]?=some o)
 (h:∀K':Act->World->Prop,Shut (∀a w,(i≠L->S w)->wpAnyL P md ops Q S L fuel (lb.set i true).toArray a w->K' a w)->if Region.wanted o (yielded ops a.tmps)=true then Oper.wp P o a w K' Q else K' (a.put o.dst undef) w) :
 wpAnyL P md ops Q S L (fuel+1) lb.toArray a w:=by
 refine iC hr ho fun K' hK=>h K' ?_;rw[<- set_toArray];exact hK
theorem vu {id:Nat} {a:Act} {w:World} {n:Nat} {lb:List Bool} (hn:ops.size=n) (O5:List.replicate n false=lb) (hm:P.follows .mixedOrders=true)
 (h:wpAnyL P .any ops Q S L n lb.toArray a w.drew):(Code.region id ops true).wp P Q a w:=by
 refine oY (S:=S) (L:=L) hm ?_;(have e:Array.replicate ops.size false=lb.toArray:=by rw[hn,<- O5];simp);rw[e,hn];exact h
end
section
variable {P:Program} {ops:Array Oper} {Q:Exit->Act->World->Prop} {md:Region.Mode} {S:World->Prop} {L:Nat}
theorem gO (i d:Nat) {oi:Oper} {fuel:Nat} {lb:List Bool} {ts:List Value} {ds:List Deferred} {w:World} (hi:ops[i]?=some oi) (hd:oi.dst=some d)
 (hs:Region.noSelect ops=true) (hf:Region.free md ops lb.toArray i=true) (hr:(Region.ready md ops lb.toArray).contains i=true) (hl:waits md ops L i=true)
 (hQ:∀c a w,Q (.panic c) (a.put (some d) undef) w->Q (.panic c) a w) (hS:S w) (hw:Region.wanted oi (yielded ops ts.toArray)=false)
 (h:wpAnyL P md ops Q S L fuel (lb.set i true).toArray ⟨(ts.set d undef).toArray,ds⟩ w):wpAnyL P md ops Q S L (fuel+1) lb.toArray ⟨ts.toArray,ds⟩ w:=by
 refine wpAnyL_first hi (Region.noSelect_spec hs) (pG hl).2 (by rw[hd];exact hQ) fuel lb.toArray ⟨ts.toArray,ds⟩ w (Region.free_spec hi hf) (by simpa using hr) (.inr ⟨hw,rfl⟩) hS ?_;rw[hd,set_toArray];show wpAnyL P md ops Q S L fuel _ ⟨ts.toArray.setIfInBounds d undef,ds⟩ w;rw[set_toArray];exact h
def mH (md:Region.Mode) (ops:Array Oper) (listed:Array Bool):Prop:=∀j oj,ops[j]?=some oj->listed.getD j false=true->∀e∈oj.after,Region.binds md e=true->listed.getD e.on false=true
def nM (md:Region.Mode) (ops:Array Oper) (listed:Array Bool):Bool:=(List.range ops.size).all fun j=>!(listed.getD j false)||(match ops[j]? with|some oj=>oj.after.all fun e=>!(Region.binds md e)||listed.getD e.on false|none=>true)
theorem sz {listed:Array Bool} (h:nM md ops listed=true):mH md ops listed:=by
 intro j oj hj hl e he hb;have VE:j<ops.size:=(bz.1 hj).1;have h1:=List.all_eq_true.1 h j (List.mem_range.2 VE);rw[hl,hj]at h1;(have h2:(oj.after.all fun e=>!(Region.binds md e)||listed.getD e.on false)=true:=by simpa using h1);have h3:=Array.all_eq_true'.1 h2 e he;rw[hb]at h3;simpa using h3
theorem mH.step {listed:Array Bool} {j:Nat} (h:mH md ops listed) (hj:j∈Region.ready md ops listed):mH md ops (listed.setIfInBounds j true):=by
 intro k ok hk hl e he hb;obtain⟨-,oj,Ot,M1⟩:=mem_ready.1 hj;refine getD_set_true ?_;by_cases NU:j=k
 ·subst NU;rw[Ot]at hk;obtain rfl:=aw hk;exact M1 e he hb
 exact h k ok hk (by rw[getD_set_ne false NU]at hl;exact hl) e he hb
def chain (md:Region.Mode) (ops:Array Oper):Nat->List Nat->Bool
 |_,[]=>true
 |a,b::l=>(match ops[a]? with|some o=>o.after.any fun e=>Region.binds md e&&e.on==b|none=>false)&&chain md ops b l
theorem vw {listed:Array Bool} (hc:mH md ops listed):∀(l:List Nat) (a:Nat),chain md ops a l=true->(∀o,ops[a]?=some o->∀e∈o.after,Region.binds md e=true->listed.getD e.on false=true)->∀x∈l,listed.getD x false=true
 | [],_,_,_,x,hx=>by cases hx
 |b::l,a,h,ha,x,hx=>by
  unfold chain at h;rw[aK]at h
  have hb:listed.getD b false=true:=by
   cases ho:ops[a]? with
   |none=>rw[ho]at h;simp at h
   |some o =>
    rw[ho]at h;obtain⟨e,he,h1⟩:=Array.any_eq_true'.1 h.1;rw[aK]at h1;have:=ha o ho e he h1.1;rwa [show e.on=b by simpa using h1.2]at this
  rcases aM.1 hx with rfl|hx
  ·exact hb
  exact vw hc l b h.2 (fun o ho e he P3=>hc b o ho hb e he P3) x hx
theorem BW {i:Nat} {oi:Oper} {v:Value} (ch:List Nat) (hch:chain md ops L ch=true) (hic:i∈ch) (hiL:i≠L) (hi:ops[i]?=some oi) (N1:∀(j:Nat) (o:Oper) cs b,ops[j]?=some o->o.op≠.select cs b)
 (hQ:∀c a w,Q (.panic c) (a.put oi.dst v) w->Q (.panic c) a w) :
 ∀(fuel:Nat) (listed:Array Bool) (a:Act) (w:World),mH md ops listed ->
  (∀j oj,ops[j]?=some oj->j≠i->listed.getD j true=false->(∀e∈oj.after,Region.binds md e=true->e.on≠i)->oi.apart ops oj=true) ->
  i∈Region.ready md ops listed->YieldsIf P ops S oi v a->S w ->
  wpAnyL P md ops Q S L fuel (listed.setIfInBounds i true) (a.put oi.dst v) w->wpAnyL P md ops Q S L (fuel+1) listed a w:=by
 intro fuel
 induction fuel with
 |zero =>
  intro listed a w _ _ hr hy hS H;refine⟨fun h=>(by rw[h]at hr;cases hr),fun j hj=>?_⟩;by_cases LZ:j=i
  ·subst LZ;exact hy.wpOp hi hS ⟨fun _=>hS,H⟩
  have:=ready_mono hj LZ;rw[H.1]at this;cases this
 |succ fuel ih =>
  intro listed a w KW hfree hr hy hS H;refine⟨fun h=>(by rw[h]at hr;cases hr),fun j hj=>?_⟩;by_cases LZ:j=i
  ·subst LZ;exact hy.wpOp hi hS ⟨fun _=>hS,H⟩
  have h1:=H.2 j (ready_mono hj LZ);obtain⟨Ng,oj,Ot,M1⟩:=mem_ready.1 hj;have h0:=(mem_ready.1 hr).1
  have hun:listed.getD i false=false:=by
   rcases aW i listed.size with h'|h'
   ·simp[h']at h0⊢;exact h0
   simp[Array.getElem?_eq_none h']at h0
  have O9:∀e∈oj.after,Region.binds md e=true->e.on≠i:=fun e he hb heq=>by
   have h1:=M1 e he hb;rw[heq,hun]at h1;cases h1
  have Ym:j≠L:=by
   rintro rfl;have:=vw KW ch j hch (fun o ho e he hb=>by rw[Ot]at ho;obtain rfl:=aw ho;exact M1 e he hb) i hic;rw[hun]at this;cases this
  have h2:=wpOp_putIf Ot (hfree j oj Ot LZ Ng O9) (fun cs b=>N1 i oi cs b hi) (fun cs b=>N1 j oj cs b Ot) hQ hy h1
  have ML:∀k ok,ops[k]?=some ok->k≠i->(listed.setIfInBounds j true).getD k true=false ->
   (∀e∈ok.after,Region.binds md e=true->e.on≠i)->oi.apart ops ok=true:=fun k ok hk R6 hun L3=>by
   refine hfree k ok hk R6 ?_ L3;by_cases NU:j=k
   ·subst NU;exact Ng
   rw[getD_set_ne true NU]at hun;exact hun
  refine wpOp_mono (fun a' w' h3=>⟨h3.2.1,ih (listed.setIfInBounds j true) a' w' (KW.step hj) ML (ready_mono hr (Ne.symm LZ)) h3.1 (h3.2.1 Ym) ?_⟩) h2;rw[cL _ _ LZ];exact h3.2.2
theorem BX (ch:List Nat) (i d:Nat) (v:Value) {oi:Oper} {fuel:Nat} {lb:List Bool} {ts:List Value} {ds:List Deferred} {w:World} (hi:ops[i]?=some oi) (hd:oi.dst=some d)
 (hs:Region.noSelect ops=true) (hf:Region.free md ops lb.toArray i=true) (hr:(Region.ready md ops lb.toArray).contains i=true) (hl:(chain md ops L ch&&ch.contains i&&i !=L&&nM md ops lb.toArray)=true)
 (hQ:∀c a w,Q (.panic c) (a.put (some d) v) w->Q (.panic c) a w) (hS:S w) (hw:Region.wanted oi (yielded ops ts.toArray)=true) (hy:∀w,S w->(execOp (Act.eval ⟨ts.toArray,ds⟩) oi).run P w=.ok (.value v) w)
 (h:wpAnyL P md ops Q S L fuel (lb.set i true).toArray ⟨(ts.set d v).toArray,ds⟩ w):wpAnyL P md ops Q S L (fuel+1) lb.toArray ⟨ts.toArray,ds⟩ w:=by
 simp only[aK,bne_iff_ne,ne_eq,List.contains_iff_mem]at hl;obtain⟨⟨⟨h1,h2⟩,h3⟩,h4⟩:=hl;refine BW ch h1 h2 h3 hi (Region.noSelect_spec hs) (by rw[hd];exact hQ) fuel lb.toArray ⟨ts.toArray,ds⟩ w (sz h4) (Region.free_spec hi hf) (by simpa using hr) (.inl ⟨hw,hy⟩) hS ?_;rw[hd,set_toArray];show wpAnyL P md ops Q S L fuel _ ⟨ts.toArray.setIfInBounds d v,ds⟩ w;rw[set_toArray];exact h
end
end last
namespace phase
open Go
open last (mH nM sz)
section
variable {P:Program} {ops:Array Oper} {Q:Exit->Act->World->Prop} {md:Region.Mode} {S:World->Prop} {F:Nat->Bool}
def ie (P:Program) (md:Region.Mode) (ops:Array Oper) (Q:Exit->Act->World->Prop) (S:World->Prop) (F:Nat->Bool):Nat->Array Bool->Act->World->Prop
 |0,listed,a,w=>Region.ready md ops listed=[]/\Q .normal a w
 |fuel+1,listed,a,w =>
  (Region.ready md ops listed=[]->Q .normal a w) /\
  ∀i∈Region.ready md ops listed,wpOp P ops Q i (fun a' w'=>(F i=true->S w')/\ie P md ops Q S F fuel (listed.setIfInBounds i true) a' w') a w
theorem Aj:∀(fuel:Nat) (listed:Array Bool) (a:Act) (w:World),ie P md ops Q S F fuel listed a w->wpAny P md ops Q fuel listed a w
 |0,_,_,_,h=>h
 |fuel+1,_,_,_,h=>⟨h.1,fun i hi=>wpOp_mono (fun a' w' h'=>Aj fuel _ a' w' h'.2) (h.2 i hi)⟩
def oT (md:Region.Mode) (ops:Array Oper) (acc:List Nat) (j:Nat):Bool:=match ops[j]? with|some o=>o.after.any (fun e=>Region.binds md e&&acc.contains e.on)|none=>false
def reach (md:Region.Mode) (ops:Array Oper):List Nat->List Nat->Bool
 |_,[]=>true
 |acc,b::B=>oT md ops acc b&&reach md ops (b::acc) B
def waits (md:Region.Mode) (ops:Array Oper) (F:Nat->Bool) (listed:Array Bool) (i:Nat) (B:List Nat):Bool:=
 reach md ops [i] B&&(List.range ops.size).all fun j=>F j||listed.getD j true||oT md ops (i::B) j
theorem Ak {acc:List Nat} {j:Nat} (h:oT md ops acc j=true):∃o,ops[j]?=some o/\∃e∈o.after,Region.binds md e=true/\e.on∈acc:=by
 unfold oT at h;split at h
 ·rename_i o ho;obtain⟨e,he,hb⟩:=Array.any_eq_true'.1 h;rw[aK]at hb;exact⟨o,ho,e,he,hb.1,by simpa using hb.2⟩
 cases h
theorem Al {listed:Array Bool} (hc:mH md ops listed):∀(B acc:List Nat),reach md ops acc B=true->(∀x∈acc,listed.getD x false=true->False)->∀x∈B,listed.getD x false=true->False
 | [],_,_,_,x,hx=>by cases hx
 |b::B,acc,h,ha,x,hx=>by
  unfold reach at h;rw[aK]at h;obtain⟨o,ho,e,he,hb,hm⟩:=Ak h.1;have h1:listed.getD b false=true->False:=fun hl=>ha _ hm (hc b o ho hl e he hb);rcases aM.1 hx with rfl|hx
  ·exact h1
  exact Al hc B (b::acc) h.2 (fun y hy=>by
   rcases aM.1 hy with rfl|hy
   ·exact h1
   exact ha y hy) x hx
theorem Ip {l:Array Bool} {i:Nat} (h:l.getD i true=false):l.getD i false=true->False:=by
 intro h1;rcases aW i l.size with h'|h'
 ·simp[h']at h h1;rw[h]at h1;cases h1
 simp[h']at h
theorem pG {listed:Array Bool} {i:Nat} {B:List Nat} (h:waits md ops F listed i B=true):reach md ops [i] B=true/\∀(j:Nat),j<ops.size->F j=false->listed.getD j true=false->oT md ops (i::B) j=true:=by
 unfold waits at h;rw[aK]at h;refine⟨h.1,fun j VE hj hl=>?_⟩;have h1:=List.all_eq_true.1 h.2 j (List.mem_range.2 VE);rwa [hj,hl,Bool.or_false,Bool.false_or]at h1
theorem Iq {i:Nat} {B:List Nat} (hB:reach md ops [i] B=true) {oi:Oper} {v:Value} (hi:ops[i]?=some oi) (N1:∀(j:Nat) (o:Oper) cs b,ops[j]?=some o->o.op≠.select cs b)
 (hQ:∀c a w,Q (.panic c) (a.put oi.dst v) w->Q (.panic c) a w) :
 ∀(fuel:Nat) (listed:Array Bool) (a:Act) (w:World),mH md ops listed ->
  (∀j oj,ops[j]?=some oj->j≠i->listed.getD j true=false->(∀e∈oj.after,Region.binds md e=true->e.on≠i)->oi.apart ops oj=true) ->
  (∀(j:Nat),j<ops.size->F j=false->listed.getD j true=false->oT md ops (i::B) j=true) ->
  i∈Region.ready md ops listed->YieldsIf P ops S oi v a->S w ->
  ie P md ops Q S F fuel (listed.setIfInBounds i true) (a.put oi.dst v) w->ie P md ops Q S F (fuel+1) listed a w:=by
 intro fuel
 induction fuel with
 |zero =>
  intro listed a w _ _ _ hr hy hS H;refine⟨fun h=>(by rw[h]at hr;cases hr),fun j hj=>?_⟩;by_cases LZ:j=i
  ·subst LZ;exact hy.wpOp hi hS ⟨fun _=>hS,H⟩
  have:=ready_mono hj LZ;rw[H.1]at this;cases this
 |succ fuel ih =>
  intro listed a w hc hfree hL hr hy hS H;refine⟨fun h=>(by rw[h]at hr;cases hr),fun j hj=>?_⟩;by_cases LZ:j=i
  ·subst LZ;exact hy.wpOp hi hS ⟨fun _=>hS,H⟩
  have h1:=H.2 j (ready_mono hj LZ);obtain⟨Ng,oj,Ot,M1⟩:=mem_ready.1 hj
  have O9:∀e∈oj.after,Region.binds md e=true->e.on≠i:=fun e he hb heq=>by
   have h1:=M1 e he hb;have h0:=(mem_ready.1 hr).1;rw[heq]at h1;rcases aW i listed.size with h'|h'
   ·simp[h']at h0 h1;rw[h0]at h1;cases h1
   simp[Array.getElem?_eq_none h']at h1
  have Ym:F j=true:=by
   cases h:F j
   ·obtain⟨o,ho,e,he,hb,hm⟩:=Ak (hL j (bz.1 Ot).1 h Ng);rw[Ot]at ho;obtain rfl:=aw ho;have hun:=Ip (mem_ready.1 hr).1;have hl:=M1 e he hb;rcases aM.1 hm with hm|hm
    ·rw[hm]at hl;exact (hun hl).elim
    exact (Al hc B [i] hB (fun x hx=>by rw[aH.1 hx];exact hun) _ hm hl).elim
   rfl
  have h2:=wpOp_putIf Ot (hfree j oj Ot LZ Ng O9) (fun cs b=>N1 i oi cs b hi) (fun cs b=>N1 j oj cs b Ot) hQ hy h1
  have ML:∀k ok,ops[k]?=some ok->k≠i->(listed.setIfInBounds j true).getD k true=false ->
   (∀e∈ok.after,Region.binds md e=true->e.on≠i)->oi.apart ops ok=true:=fun k ok hk R6 hun L3=>by
   refine hfree k ok hk R6 ?_ L3;by_cases NU:j=k
   ·subst NU;exact Ng
   rw[getD_set_ne true NU]at hun;exact hun
  have hL':∀(k:Nat),k<ops.size->F k=false->(listed.setIfInBounds j true).getD k true=false->oT md ops (i::B) k=true:=fun k hk hF hun=>by
   refine hL k hk hF ?_;by_cases NU:j=k
   ·subst NU;exact Ng
   rw[getD_set_ne true NU]at hun;exact hun
  refine wpOp_mono (fun a' w' h3=>⟨h3.2.1,ih (listed.setIfInBounds j true) a' w' (hc.step hj) ML hL' (ready_mono hr (Ne.symm LZ)) h3.1 (h3.2.1 Ym) ?_⟩) h2;rw[cL _ _ LZ];exact h3.2.2
theorem Ir {i:Nat} {oi:Oper} {v:Value} (hi:ops[i]?=some oi) (N1:∀(j:Nat) (o:Oper) cs b,ops[j]?=some o->o.op≠.select cs b)
 (hF:F i=false) (hQ:∀c a w,Q (.panic c) (a.put oi.dst v) w->Q (.panic c) a w) :
 ∀(fuel:Nat) (listed:Array Bool) (a:Act) (w:World),
  (∀j oj,ops[j]?=some oj->j≠i->listed.getD j true=false->(∀e∈oj.after,Region.binds md e=true->e.on≠i)->oi.apart ops oj=true) ->
  i∈Region.ready md ops listed->YieldsIf P ops (fun _=>True) oi v a ->
  ie P md ops Q S F fuel (listed.setIfInBounds i true) (a.put oi.dst v) w->ie P md ops Q S F (fuel+1) listed a w:=by
 intro fuel
 induction fuel with
 |zero =>
  intro listed a w _ hr hy H;refine⟨fun h=>(by rw[h]at hr;cases hr),fun j hj=>?_⟩;by_cases LZ:j=i
  ·subst LZ;exact hy.wpOp hi trivial ⟨fun h=>(by rw[hF]at h;cases h),H⟩
  have:=ready_mono hj LZ;rw[H.1]at this;cases this
 |succ fuel ih =>
  intro listed a w hfree hr hy H;refine⟨fun h=>(by rw[h]at hr;cases hr),fun j hj=>?_⟩;by_cases LZ:j=i
  ·subst LZ;exact hy.wpOp hi trivial ⟨fun h=>(by rw[hF]at h;cases h),H⟩
  have h1:=H.2 j (ready_mono hj LZ);obtain⟨Ng,oj,Ot,M1⟩:=mem_ready.1 hj
  have O9:∀e∈oj.after,Region.binds md e=true->e.on≠i:=fun e he hb heq=>by
   have h1:=M1 e he hb;have h0:=(mem_ready.1 hr).1;rw[heq]at h1;rcases aW i listed.size with h'|h'
   ·simp[h']at h0 h1;rw[h0]at h1;cases h1
   simp[Array.getElem?_eq_none h']at h1
  have h2:=wpOp_putIf Ot (hfree j oj Ot LZ Ng O9) (fun cs b=>N1 i oi cs b hi) (fun cs b=>N1 j oj cs b Ot) hQ hy h1
  have ML:∀k ok,ops[k]?=some ok->k≠i->(listed.setIfInBounds j true).getD k true=false ->
   (∀e∈ok.after,Region.binds md e=true->e.on≠i)->oi.apart ops ok=true:=fun k ok hk R6 hun L3=>by
   refine hfree k ok hk R6 ?_ L3;by_cases NU:j=k
   ·subst NU;exact Ng
   rw[getD_set_ne true NU]at hun;exact hun
  refine wpOp_mono (fun a' w' h3=>⟨h3.2.1,ih (listed.setIfInBounds j true) a' w' ML (ready_mono hr (Ne.symm LZ)) h3.1 ?_⟩) h2;rw[cL _ _ LZ];exact h3.2.2
theorem set_toArray {α:Type} (l:List α) (i:Nat) (v:α):l.toArray.setIfInBounds i v=(l.set i v).toArray:=by simp
theorem goN (i d:Nat) (v:Value) (B:List Nat) {oi:Oper} {fuel:Nat} {lb:List Bool} {ts:List Value} {ds:List Deferred} {w:World} (hi:ops[i]?=some oi) (hd:oi.dst=some d)
 (hs:Region.noSelect ops=true) (hf:Region.free md ops lb.toArray i=true) (hr:(Region.ready md ops lb.toArray).contains i=true) (hl:waits md ops F lb.toArray i B=true) (hc:nM md ops lb.toArray=true)
 (hQ:∀c a w,Q (.panic c) (a.put (some d) v) w->Q (.panic c) a w) (hS:S w) (hw:Region.wanted oi (yielded ops ts.toArray)=true) (hy:∀w,S w->(execOp (Act.eval ⟨ts.toArray,ds⟩) oi).run P w=.ok (.value v) w)
 (h:ie P md ops Q S F fuel (lb.set i true).toArray ⟨(ts.set d v).toArray,ds⟩ w):ie P md ops Q S F (fuel+1) lb.toArray ⟨ts.toArray,ds⟩ w:=by
 refine Iq (pG hl).1 hi (Region.noSelect_spec hs) (by rw[hd];exact hQ) fuel lb.toArray ⟨ts.toArray,ds⟩ w (sz hc) (Region.free_spec hi hf) (pG hl).2 (by simpa using hr) (.inl ⟨hw,hy⟩) hS ?_;rw[hd,set_toArray];show ie P md ops Q S F fuel _ ⟨ts.toArray.setIfInBounds d v,ds⟩ w;rw[set_toArray];exact h
theorem Is (i d:Nat) (v:Value) {oi:Oper} {fuel:Nat} {lb:List Bool} {ts:List Value} {ds:List Deferred} {w:World} (hi:ops[i]?=some oi) (hd:oi.dst=some d)
 (hs:Region.noSelect ops=true) (hf:Region.free md ops lb.toArray i=true) (hr:(Region.ready md ops lb.toArray).contains i=true) (hF:F i=false)
 (hQ:∀c a w,Q (.panic c) (a.put (some d) v) w->Q (.panic c) a w) (hw:Region.wanted oi (yielded ops ts.toArray)=true) (hy:∀w,(execOp (Act.eval ⟨ts.toArray,ds⟩) oi).run P w=.ok (.value v) w)
 (h:ie P md ops Q S F fuel (lb.set i true).toArray ⟨(ts.set d v).toArray,ds⟩ w):ie P md ops Q S F (fuel+1) lb.toArray ⟨ts.toArray,ds⟩ w:=by
 refine Ir hi (Region.noSelect_spec hs) hF (by rw[hd];exact hQ) fuel lb.toArray ⟨ts.toArray,ds⟩ w (Region.free_spec hi hf) (by simpa using hr) (.inl ⟨hw,fun w _=>hy w⟩) ?_;rw[hd,set_toArray];show ie P md ops Q S F fuel _ ⟨ts.toArray.setIfInBounds d v,ds⟩ w;rw[set_toArray];exact h
def mS (P:Program) (md:Region.Mode) (ops:Array Oper) (Q:Exit->Act->World->Prop) (S:World->Prop) (F:Nat->Bool) (fuel:Nat) (lb:List Bool) (a:Act) (w:World) (i:Nat):Prop:=
 ∃o,ops[i]?=some o/\∀K':Act->World->Prop,Shut (∀a w,(F i=true->S w)->ie P md ops Q S F fuel (lb.set i true).toArray a w->K' a w)->if Region.wanted o (yielded ops a.tmps)=true then Oper.wp P o a w K' Q else K' (a.put o.dst undef) w
theorem uI {l:List Nat} {fuel:Nat} {lb:List Bool} {a:Act} {w:World} (hr:Region.ready md ops lb.toArray=l) (Km:l≠[]) (h:∀i∈l,mS P md ops Q S F fuel lb a w i):ie P md ops Q S F (fuel+1) lb.toArray a w:=
 ⟨fun h0=>absurd (hr.symm.trans h0) Km,fun i hi=>by
  rw[hr]at hi;obtain⟨o,ho,h1⟩:=h i hi
  exact wpOp_step ho fun K' hK=>h1 K' (fun a w hS hW=>hK a w ⟨hS,by rw[set_toArray];exact hW⟩)⟩
theorem Iu {lb:List Bool} {a:Act} {w:World} (hr:Region.ready md ops lb.toArray=[]) (h:Q .normal a w):∀fuel,ie P md ops Q S F fuel lb.toArray a w
 |0=>⟨hr,h⟩
 |_+1=>⟨fun _=>h,by rw[hr];simp⟩
theorem Am {id:Nat} {a:Act} {w:World} {n:Nat} {lb:List Bool} (hn:ops.size=n) (O5:List.replicate n false=lb) (hm:P.follows .mixedOrders=true)
 (h:ie P .any ops Q S F n lb.toArray a w.drew):(Code.region id ops true).wp P Q a w:=by
 refine wp_region_any hm (Aj (S:=S) (F:=F) _ _ _ _ ?_);(have e:Array.replicate ops.size false=lb.toArray:=by rw[hn,<- O5];simp);rw[e,hn];exact h
end
end phase
namespace phase
open Go
section
variable {P:Program} {ops:Array Oper} {Q:Exit->Act->World->Prop} {md:Region.Mode} {S:World->Prop} {F:Nat->Bool}
inductive pB (P:Program) (md:Region.Mode) (ops:Array Oper) (Q:Exit->Act->World->Prop) (S:World->Prop) (F:Nat->Bool) (fuel:Nat) (lb:List Bool) (a:Act) (w:World):List Nat->Prop
 |nil:pB P md ops Q S F fuel lb a w []
 |cons {i:Nat} {l:List Nat}:(Region.ready md ops lb.toArray).contains i=false\/mS P md ops Q S F fuel lb a w i->pB P md ops Q S F fuel lb a w l->pB P md ops Q S F fuel lb a w (i::l)
theorem pB.get {fuel:Nat} {lb:List Bool} {a:Act} {w:World} {l:List Nat} (h:pB P md ops Q S F fuel lb a w l):∀i∈l,i∈Region.ready md ops lb.toArray->mS P md ops Q S F fuel lb a w i:=by
 induction h with
 |nil=>intro i hi;cases hi
 |cons h1 _ ih =>
  intro i hi hr;rcases aM.1 hi with rfl|hi
  ·rcases h1 with h1|h1
   ·(have:(Region.ready md ops lb.toArray).contains i=true:=by simpa using hr);rw[h1]at this;cases this
   exact h1
  exact ih i hi hr
theorem Ao (l:List Nat) {fuel:Nat} {lb:List Bool} {a:Act} {w:World} (h:pB P md ops Q S F fuel lb a w l) (hr:(Region.ready md ops lb.toArray).all (fun i=>l.contains i)=true:=by decide +kernel) (Km:(Region.ready md ops lb.toArray).isEmpty=false:=by decide +kernel):ie P md ops Q S F (fuel+1) lb.toArray a w:=by
 refine uI (l:=Region.ready md ops lb.toArray) rfl (fun e=>by rw[e]at Km;cases Km) fun i hi=>h.get i ?_ hi;have:=List.all_eq_true.1 hr i hi;simpa using this
end
end phase
end Go.Proofs.YtlhodcmdpchllaaGreatDoor
