/-
  A part of the proof of the law DeskPieces: DkM, DkV, DkL.
-/
import Derived.RangeFuncNested
import Derived.RangeFuncBound
import Derived.RangeFuncCalls
import Derived.RangeFuncLeaves
import Derived.Shelf.Abstract
import Derived.Shelf.RegionOpen
import Derived.WalkKit
import Derived.OwnWalkIn
import Derived.TacticsInMore
import Derived.LoopNIn
import Derived.LoopIn
import Derived.WalkSpells
import Derived.Deep.RegionHeld
import Derived.RangeFuncRecord
import Derived.Test.YtlhodcmdpchllaaGreatDoorHd
import Derived.Test.YtlhodcmdpchllaaGreatDoorP38
set_option maxHeartbeats 16000000
set_option maxRecDepth 1000000
namespace Go.Proofs.YtlhodcmdpchllaaGreatDoor
namespace dk
open dI (Bytes)
open Go.RowKit Go.Shelf heap eO dZ ff own
attribute [local go_sem] Oper.semAt_some
theorem JD (c:UInt8) (l:Bytes):pieces (c::l)=if c=10 then []::pieces l else match pieces l with
 |p::ps=>(c::p)::ps
 | []=>[[c]]:=rfl
theorem JE (b:UInt8) (l:Bytes) (c:UInt8):Lib.indexByte (b::l) c=if b==c then 0 else if Lib.indexByte l c == -1 then -1 else Lib.indexByte l c+1:=rfl
theorem AI:∀(s:Bytes),(Lib.indexByte s 10 = -1/\pieces s=[s])\/∃i:Nat,Lib.indexByte s 10=i/\i<s.length/\pieces s=s.take i::pieces (s.drop (i+1))
 | []=>.inl ⟨rfl,rfl⟩
 |c::l=>by
  rw[JE,JD];by_cases hc:c=10
  ·subst hc;exact .inr ⟨0,by simp,by simp,by simp⟩
  rw[if_neg (by simpa using hc),if_neg hc];rcases AI l with⟨h1,h2⟩|⟨i,h1,h2,h3⟩
  ·refine .inl ⟨by rw[h1];rfl,by rw[h2]⟩
  refine .inr ⟨i+1,?_,by simp;omega,?_⟩
  ·rw[h1,if_neg (by simp)];omega
  rw[h3];simp
def oV (W:World) (pb sb vb:Nat) (s:Bytes):Prop:=
 W.cell? ⟨pb,0,none⟩=some (.string ⟨#[10]⟩)/\W.cell? ⟨sb,0,none⟩=some (.string ⟨s.toArray⟩)/\W.cell? ⟨vb,0,none⟩=some (.int .i64 0)/\W.frozen? ⟨sb,0,none⟩=false
def lg (pb sb vb:Nat) (W W':World):Prop:=
 W'.cell? ⟨pb,0,none⟩=W.cell? ⟨pb,0,none⟩/\W'.cell? ⟨sb,0,none⟩=W.cell? ⟨sb,0,none⟩/\W'.cell? ⟨vb,0,none⟩=W.cell? ⟨vb,0,none⟩/\W'.frozen? ⟨sb,0,none⟩=W.frozen? ⟨sb,0,none⟩
theorem oV.ej {W W':World} {pb sb vb:Nat} {s:Bytes} (h:oV W pb sb vb s) (hk:lg pb sb vb W W'):oV W' pb sb vb s:=
 ⟨hk.1.trans h.1,hk.2.1.trans h.2.1,hk.2.2.1.trans h.2.2.1,hk.2.2.2.trans h.2.2.2⟩
theorem JF (n:Nat) (l pb sb vb:Nat) (OQ:pb≠sb) (hvs:vb≠sb) (t:Bytes) (ht:t.length<=1000000) (J:List Bytes->World->Prop) (hJs:∀pre W v,J pre W->J pre (W.setCell ⟨sb,0,none⟩ v))
 (hR:∀pre x rest W,pieces t=pre++x::rest->J pre W->YieldAt Fence.wide (n-1) Tryz.prog l #[.string ⟨x.toArray⟩] W fun e W'=>e=.returned (.bool true)/\J (pre++[x]) W'/\lg pb sb vb W W')
 (W:World) (hB:oV W pb sb vb t) (h0:J [] W) :
 CallsIn Fence.wide n Tryz.prog 27 #[.func (.yield l) #[] #[],.pointer (some ⟨pb,0,none⟩),.pointer (some ⟨sb,0,none⟩),.pointer (some ⟨vb,0,none⟩)] W fun e W'=>(∃v,e=.returned v)/\J (pieces t) W':=by
 obtain⟨c1,c2,c3,c4⟩:=hB
 refine callsIn_of_wp Tryz.func27 rfl trivial ?_ rfl
 simp only[Tryz.ntmps27,cd,aJ,aZ,Nat.reduceAdd,Nat.reduceSub,Array.replicate_succ,Array.replicate_zero,List.push_toArray,List.append_toArray,bL,bn]
 gi_wp2_with fail
 gi_loopw [7,8] (fun _ _ wx=>∃(pre:List Bytes) (s:Bytes),pieces t=pre++pieces s/\s.length<=t.length/\oV wx pb sb vb s/\J pre wx) (fun _ _ wx=>match wx.cell? ⟨sb,0,none⟩with|some (.string s)=>s.size|_=>0)
 case atStart=>exact⟨[],t,rfl,aq _,⟨c1,c2,c3,c4⟩,h0⟩
 case round =>
  obtain⟨pre,s,Mo,MO,hb,hj⟩:=hrel;have Ke:=hb;obtain⟨b1,b2,b3,b4⟩:=Ke;have HI:=Hd (Tryz.strings_Index_one ⟨s.toArray⟩ 10 wr);rcases AI s with⟨hi,hp⟩|⟨i,hi,S4,hp⟩
  ·have hi':Lib.indexByte (⟨s.toArray⟩:ByteArray).data.toList 10 = -1:=hi
   rw[hi']at HI
   obtain⟨yf,yt,ya,yb,hy,hRR⟩:=hR pre s [] wr (by rw[Mo,hp]) hj
   gi_wp2_with (refine⟨trivial,fun h=>(by cases h),?_⟩;refine (callsIn_wide.2 HI.o).mono ?_;rintro e w' ⟨rfl,rfl⟩)
   refine⟨fun h=>(by cases h),hRR.mono ?_⟩
   rintro e W2 ⟨rfl,WX,Mm⟩
   have HJ:Hy (J (pieces t) W2):=Hd (by rw[Mo,hp];exact WX)
   clear hy hRR hj WX hR
   gi_wp2_with fail
   go_end0
   exact⟨⟨_,rfl⟩,HJ.o⟩
  have hi':Lib.indexByte (⟨s.toArray⟩:ByteArray).data.toList 10=i:=hi;rw[hi']at HI;have d0:decide ((i:Int)<0)=false:=decide_eq_false (by omega)
  have S0:(⟨s.toArray⟩:ByteArray).extract 0 i=⟨(s.take i).toArray⟩:=by
   apply ByteArray.ext;simp
  have hed:(⟨s.toArray⟩:ByteArray).extract (i+1) s.length=⟨(s.drop (i+1)).toArray⟩:=by
   apply ByteArray.ext;simp;rw[ba (by simp)]
  obtain⟨yf,yt,ya,yb,hy,hRR⟩:=hR pre (s.take i) (pieces (s.drop (i+1))) wr (by rw[Mo,hp]) hj
  gi_wp2_with (refine⟨trivial,fun h=>(by cases h),?_⟩;refine (callsIn_wide.2 HI.o).mono ?_;rintro e w' ⟨rfl,rfl⟩)
  refine⟨fun h=>(by cases h),hRR.mono ?_⟩
  rintro e W2 ⟨rfl,WX,Mm⟩
  obtain⟨e1,e2,e3,e4⟩:=hb.ej Mm
  have HJ:Hy (J (pre++[s.take i]) W2):=Hd WX
  clear hy hRR hj WX hR
  gi_wp2_with fail
  have s2:(W2.setCell ⟨sb,0,none⟩ (.string ⟨(s.drop (i+1)).toArray⟩)).cell? ⟨sb,0,none⟩=some (.string ⟨(s.drop (i+1)).toArray⟩):=World.cell?_setCell_same' _ _ _ (by rw[e2];rfl);refine⟨⟨pre++[s.take i],s.drop (i+1),by rw[Mo,hp];simp,by simp;omega,⟨?_,s2,?_,?_⟩,hJs _ _ _ HJ.o⟩,?_⟩
  ·exact (World.cell?_setCell_far _ _ _ _ (Ne.symm OQ)).trans e1
  ·exact (World.cell?_setCell_far _ _ _ _ (Ne.symm hvs)).trans e3
  ·rw[World.frozen?_setCell];exact e4
  rw[s2,b2];show (s.drop (i+1)).toArray.size<s.toArray.size;simp;omega
end dk
namespace dk
open dI (Bytes)
open Go.RowKit heap eO dZ ff own
theorem JG (t:Bytes) (w:World) :
 Calls Tryz.prog 15 #[.string ⟨t.toArray⟩,.string ⟨#[10]⟩,.int .i64 0] w fun e w'=>∃pb sb vb,e=.returned (.func (.func 27) #[] #[.pointer (some ⟨pb,0,none⟩),.pointer (some ⟨sb,0,none⟩),.pointer (some ⟨vb,0,none⟩)]) /\
  w.heap.size<=pb/\w.heap.size<=sb/\w.heap.size<=vb/\pb≠sb/\vb≠sb/\pb<w'.heap.size/\sb<w'.heap.size/\vb<w'.heap.size/\oV w' pb sb vb t/\Below w.heap.size w w':=by
 have hmf:∀(fn:Fn) (first cap:Array Value) (w:World),(Instr.makeFunc fn first cap).run Tryz.prog w=.ok (.func fn first cap) w:=fun _ _ _ _=>rfl;(go_enter Tryz.func15,Tryz.ntmps15);(go_wp2_with fail);go_ret;have h0:=((Has.new w (.cells #[.string ⟨t.toArray⟩] 9)).alloc (.cells #[.string ⟨#[10]⟩] 9)).alloc (.cells #[.int .i64 0] 3);have h1:=(Has.new (w.alloc (.cells #[.string ⟨t.toArray⟩] 9)) (.cells #[.string ⟨#[10]⟩] 9)).alloc (.cells #[.int .i64 0] 3);have h2:=Has.new ((w.alloc (.cells #[.string ⟨t.toArray⟩] 9)).alloc (.cells #[.string ⟨#[10]⟩] 9)) (.cells #[.int .i64 0] 3);simp only[World.size_alloc]at h1 h2;refine⟨w.heap.size+1,w.heap.size,w.heap.size+1+1,rfl,by omega,by omega,by omega,by omega,by omega,h1.lt,h0.lt,h2.lt,⟨h1.cell 0,h0.cell 0,h2.cell 0,h0.frozen 0⟩,(((Below.refl _ _).alloc (aq _) _).alloc (by simp) _).alloc (by simp;omega) _⟩
theorem JH (t:Bytes) (w:World) :
 Calls Tryz.prog 7 #[.string ⟨t.toArray⟩,.string ⟨#[10]⟩] w fun e w'=>∃pb sb vb,e=.returned (.func (.func 27) #[] #[.pointer (some ⟨pb,0,none⟩),.pointer (some ⟨sb,0,none⟩),.pointer (some ⟨vb,0,none⟩)]) /\
  w.heap.size<=pb/\w.heap.size<=sb/\w.heap.size<=vb/\pb≠sb/\vb≠sb/\pb<w'.heap.size/\sb<w'.heap.size/\vb<w'.heap.size/\oV w' pb sb vb t/\Below w.heap.size w w':=by
 (go_enter Tryz.func7,Tryz.ntmps7);(go_wp2_with (go_at_call 15;refine (JG t w).mono ?_;rintro e w1 ⟨pb,sb,vb,rfl,h1,h2,h3,h4,h5,h6,h7,h8,h9,VC⟩));go_ret;exact⟨pb,sb,vb,rfl,h1,h2,h3,h4,h5,h6,h7,h8,h9,VC⟩
end dk
namespace dk
open dI (Bytes)
open Go.RowKit Go.Shelf heap
theorem uR {W:World} {l:Nat} {o:Obj} {p:Addr} (h:p.block≠l):(W.putObj l o).cell? p=W.cell? p:=World.cell?_of_block (World.putObj_heap_other h)
theorem JP {W:World} {l:Nat} {o:Obj} {p:Addr} (h:p.block≠l):(W.putObj l o).frozen? p=W.frozen? p:=World.frozen?_of_block (World.putObj_heap_other h)
theorem lg.put {pb sb vb l:Nat} {W:World} {o:Obj} (h1:pb≠l) (h2:sb≠l) (h3:vb≠l):lg pb sb vb W (W.putObj l o):=⟨uR h1,uR h2,uR h3,JP h2⟩
theorem lg.trans {pb sb vb:Nat} {A B C:World} (h:lg pb sb vb A B) (k:lg pb sb vb B C):lg pb sb vb A C:=
 ⟨k.1.trans h.1,k.2.1.trans h.2.1,k.2.2.1.trans h.2.2.1,k.2.2.2.trans h.2.2.2⟩
theorem rD {W:World} {sb l:Nat} {v:Value} (h:l≠sb):(W.setCell ⟨sb,0,none⟩ v).heap[l]?=W.heap[l]?:=Below.heap_setCell W _ v l h
def fV (fn:FuncId) (tmps:Array Value) (ps:Array Tmp) (assign body:Code) (D:Nat) (st:LoopState):Loop:={state:=st,pending:=none,fn:=fn,tmps:=tmps,params:=ps,assign:=assign,body:=body,defers:=D}
theorem JQ {P:Program} {n:Nat} {g:Operand} {ps:Array Tmp} {assign body:Code} {Q:Exit->Act->World->Prop} {a:Act} {w:World} {gf:Nat} {lb:Array Value} {pb sb vb:Nat} {L:List Bytes}
 (hg:a.eval g=.func (.func gf) #[] lb) (eg:∀args w,(callFunc gf args).run P w=.ok (.enter gf args) w) (OQ:ps.size=1) (hpl:pb<w.heap.size) (MO:sb<w.heap.size) (QL:vb<w.heap.size)
 (I:List Bytes->World->Prop) (h0:∀r,I [] ((w.alloc (.deferred (some []))).alloc (.loop r))) (hI:∀pre W o,I pre W->I pre (W.putObj (w.heap.size+1) o)) (hIs:∀pre W v,I pre W->I pre (W.setCell ⟨sb,0,none⟩ v))
 (act:Bytes->Act)
 (UO:∀(x:Bytes) (W:World) (K:Act->World->Prop),K (act x) W ->
   assign.wpIn (Fence.wide.inRound (w.heap.size+1)) (n-1-1) P (Exit.then K (fun _ _ _=>False)) {tmps:=(ps.zip #[.string ⟨x.toArray⟩]).foldl (fun t (p,v)=>t.setIfInBounds p v) a.tmps,defers:=[]} W)
 (abe:∀(pre:List Bytes) (x:Bytes) (rest:List Bytes) (W:World),L=pre++x::rest->I pre W->w.heap.size+1<W.heap.size ->
   body.wpIn (Fence.wide.inRound (w.heap.size+1)) (n-1-1) P (fun e _ W'=>e=.normal/\I (pre++[x]) W'/\lg pb sb vb W W'/\W'.heap[w.heap.size]?=W.heap[w.heap.size]?/\W'.heap[w.heap.size+1]?=W.heap[w.heap.size+1]?) (act x) W)
 (hit:∀(J:List Bytes->World->Prop) (W:World),(∀pre W v,J pre W->J pre (W.setCell ⟨sb,0,none⟩ v)) ->
   (∀pre x rest W,L=pre++x::rest->J pre W->YieldAt Fence.wide (n-1-1) P (w.heap.size+1) #[.string ⟨x.toArray⟩] W fun e W'=>e=.returned (.bool true)/\J (pre++[x]) W'/\lg pb sb vb W W') ->
   (∃r,W=(w.alloc (.deferred (some []))).alloc (.loop r))->J [] W ->
   CallsIn Fence.wide (n-1) P gf (#[.func (.yield (w.heap.size+1)) #[] #[]]++lb) W fun e W'=>(∃v,e=.returned v)/\J L W')
 (abf:∀W,I L W->W.heap[w.heap.size]?=some (.deferred (some []))->Q .normal {a with defers:={target:=.collected w.heap.size,args:=#[]}::a.defers} W) :
 (Code.rangeFunc g ps assign body).wpIn Fence.wide n P Q a w:=by
 refine wpIn_rangeFunc fun fn _=>?_;obtain⟨R,hR⟩:∃R,R=fV fn a.tmps ps assign body w.heap.size:=⟨_,rfl⟩;obtain⟨W1,Kh⟩:∃W1,W1=(w.alloc (.deferred (some []))).alloc (.loop (R .ready)):=⟨_,rfl⟩
 have hL1:W1.heap[w.heap.size+1]?=some (.loop (R .ready)):=by
  rw[Kh];have:=World.alloc_heap_new (w.alloc (.deferred (some []))) (.loop (R .ready));rwa [World.size_alloc]at this
 have hD1:W1.heap[w.heap.size]?=some (.deferred (some [])):=by
  rw[Kh];exact (Below.heap_alloc _ _ _ (by simp)).trans (World.alloc_heap_new w _)
 have J1:I [] W1:=by rw[Kh];exact h0 _
 refine⟨w.heap.size+1,[{target:=.collected w.heap.size,args:=#[]}],W1,{target:=.fn (.func gf) lb,args:=#[.func (.yield (w.heap.size+1)) #[] #[]]},W1,gf,
  #[.func (.yield (w.heap.size+1)) #[] #[]]++lb,W1,?_,?_,fun _ _=>trivial,?_,fun h=>(by cases h),?_⟩
 ·rw[Kh,hR];exact run_enterLoop_outer _ _ _ _ _
 ·simp only[resolve,hg];simp[go_sem]
 ·simp[invoke,go_sem,eg]
 refine (hit (fun pre W=>I pre W/\W.heap[w.heap.size+1]?=some (.loop (R .ready))/\W.heap[w.heap.size]?=some (.deferred (some []))) W1 ?_ ?_ ⟨_,Kh⟩ ⟨J1,hL1,hD1⟩).mono ?_
 ·rintro pre W v ⟨i1,i2,i3⟩;exact⟨hIs _ _ _ i1,(rD (by omega)).trans i2,(rD (by omega)).trans i3⟩
 ·rintro pre x rest W hx ⟨i1,i2,i3⟩;have Kg:w.heap.size+1<W.heap.size:=(bz.1 i2).1;have hy:=run_yield (P:=P) (args:=#[.string ⟨x.toArray⟩]) i2 (by rw[hR];exact OQ.symm);rw[hR]at hy;refine⟨_,_,_,_,hy,roundIn_of_wpIn trivial (UO x W _ ⟨_,run_beginRound i2 (by rw[hR];rfl),?_⟩)⟩;obtain⟨W2,Kv⟩:∃W2,W2=W.putObj (w.heap.size+1) (.loop {R .ready with state:=.busy}):=⟨_,rfl⟩;rw[<- Kv];(have l2:W2.heap[w.heap.size+1]?=some (.loop {R .ready with state:=.busy}):=by rw[Kv];exact World.putObj_heap_same Kg);(have d2:W2.heap[w.heap.size]?=some (.deferred (some [])):=by rw[Kv];exact (World.putObj_heap_other (by omega)).trans i3);(have k2:lg pb sb vb W W2:=by rw[Kv];exact lg.put (by omega) (by omega) (by omega));(have j2:I pre W2:=by rw[Kv];exact hI _ _ _ i1);have s2:w.heap.size+1<W2.heap.size:=(bz.1 l2).1;refine wpIn_mono (abe pre x rest W2 hx j2 s2) ?_;rintro e a3 W3 ⟨rfl,j3,k3,d3,l3⟩;have l3':W3.heap[w.heap.size+1]?=some (.loop {R .ready with state:=.busy}):=l3.trans l2;have he:=run_endRound (P:=P) (none:Option Code) l3';refine⟨_,_,he,rfl,⟨hI _ _ _ j3,?_,?_⟩,(k2.trans k3).trans (lg.put (by omega) (by omega) (by omega))⟩
  ·rw[World.putObj_heap_same (bz.1 l3').1,hR];rfl
  exact (World.putObj_heap_other (by omega)).trans (d3.trans d2)
 rintro e W2 ⟨⟨v,rfl⟩,i1,i2,i3⟩;have he:=run_endLoop (P:=P) i2 (by rw[hR];simp[fV]);refine⟨none,W2.putObj (w.heap.size+1) (.loop {R .ready with state:=.exhausted}),?_,abf _ (hI _ _ _ i1) ((World.putObj_heap_other (by omega)).trans i3)⟩;rw[he,hR];rfl
end dk
end Go.Proofs.YtlhodcmdpchllaaGreatDoor
