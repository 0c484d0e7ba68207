/-
  A part of the proof of the law DeskPieces: DeskFits, DeskOK, DeskLen.
-/
import Derived.Test.YtlhodcmdpchllaaGreatDoorHd
import Derived.Test.YtlhodcmdpchllaaGreatDoorP04
import Derived.Test.YtlhodcmdpchllaaGreatDoorP05
set_option maxHeartbeats 16000000
set_option maxRecDepth 1000000
namespace Go.Proofs.YtlhodcmdpchllaaGreatDoor
namespace ff
open Go.RowKit eK dI eU ej
structure DF (b:Int) (n:Nat) (r:dB):Prop where
 fits:∃G,Fits b G r
 kK:fg r
 mu:r.ef.length<=n
section
variable {b b':Int} {n n':Nat} {r r':dB}
theorem DF.jt (h:DF b n r) (hb:b<=b') (hn:n<=n'):DF b' n' r:=by
 obtain⟨G,h1⟩:=h.fits;exact⟨⟨G,h1.jt hb⟩,h.kK,az h.mu hn⟩
theorem mR (name:Bytes) (x:Int×dB):(told name x).2=x.2:=by unfold told;split<;>rfl
theorem jv {P:dB->Prop} {o:Option (List Int)} {f:List Int->gl×dB} (h0:P r) (h1:∀l,P (f l).2):P (ib r o f).2:=by
 unfold ib;split
 ·exact h0
 exact h1 _
theorem Ag {s w:Bytes} (h:w∈words s):w.length<=s.length:=by
 unfold words Lib.goFieldsP at h;simp only[List.map_map,bA]at h;obtain⟨x,-,rfl⟩:=h;show ((ByteArray.mk s.toArray).extract x.1 x.2).data.toList.length<=_;(have:((ByteArray.mk s.toArray).extract x.1 x.2).size<=(ByteArray.mk s.toArray).size:=by rw[ByteArray.size_extract];omega);exact this
theorem Ah {t:eA} {k:Int} (h:(dB.new t k).2=some r):DF 0 0 r:=
 ⟨⟨[],Fits.mh h⟩,fg.mh h,by
  have:=(Fits.mh h).kJ
  omega⟩
theorem Hw (h:DF b n r) (m:Nat) (hb:b+4*m<=1000000):DF (b+4*m) n (dB.iw m r):=by
 obtain⟨G,h1⟩:=h.fits;exact⟨⟨G,h1.Hr m hb⟩,h.kK.kZ m,by rw[uG];exact h.mu⟩
theorem Hx (h:DF b n r) (hb:b<=900000) {name:Bytes} {c:dB->List Bytes->gl×dB} (hc:cmd name=some c) (ws:List Bytes) (k:Int) (hk:2<=k) (Ut:4<=name.length->800<=k):DF (b+k) (n+1) (c r ws).2:=by
 have h0:DF (b+k) (n+1) r:=h.jt (by omega) (by omega);obtain⟨G,hf⟩:=h.fits;have hl:∀ {r':dB} {G':eF} {b':Int},Fits b' G' r'->b'<=b+k->fg r'->r'.ef.length<=n+1->DF (b+k) (n+1) r':=fun f1 f2 f3 f4=>⟨⟨_,f1.jt f2⟩,f3,f4⟩;have hn:=h.mu;unfold cmd at hc;by_cases e:name=lK
 ·rw[if_pos e]at hc;obtain rfl:=aw hc;exact jv h0 fun l=>by rw[mR];exact hl (hf.kE (by omega) _) (by omega) (h.kK.kE _) (by rw[uB];omega)
 rw[if_neg e]at hc;clear e;by_cases e:name=mj
 ·rw[if_pos e]at hc;obtain rfl:=aw hc;refine jv h0 fun l=>?_;split
  ·rename_i x hx;exact (Ah (by rw[hx])).jt (by have:=hf.inv.b0;omega) (by omega)
  exact h0
 rw[if_neg e]at hc;clear e;by_cases e:name=nt
 ·rw[if_pos e]at hc;obtain rfl:=aw hc;exact jv h0 fun l=>h0
 rw[if_neg e]at hc;clear e;by_cases e:name=lR
 ·rw[if_pos e]at hc;obtain rfl:=aw hc;have h8:=Ut (by rw[e];decide);refine jv h0 fun l=>?_;split
  ·exact h0
  rename_i h9;simp only[bF,decide_eq_true_eq,not_or]at h9;exact (Hw h (at_ l 0).toNat (by omega)).jt (by omega) (by omega)
 rw[if_neg e]at hc;clear e;by_cases e:name=mq
 ·rw[if_pos e]at hc;obtain rfl:=aw hc;exact jv h0 fun l=>hl hf.uk (by omega) (h.kK.same rfl rfl rfl) (by show r.ef.length<=_;omega)
 rw[if_neg e]at hc;clear e;by_cases e:name=lL
 ·rw[if_pos e]at hc;obtain rfl:=aw hc;exact jv h0 fun l=>by rw[mR];exact hl (hf.ly _) (by omega) (h.kK.ly _) (by rw[uC];omega)
 rw[if_neg e]at hc;clear e;by_cases e:name=mm
 ·rw[if_pos e]at hc;obtain rfl:=aw hc;exact jv h0 fun l=>hl (hf.uj _ _) (by omega) (h.kK.same rfl rfl rfl) (by show r.ef.length<=_;omega)
 rw[if_neg e]at hc;clear e;by_cases e:name=lO
 ·rw[if_pos e]at hc;obtain rfl:=aw hc;exact jv h0 fun l=>by rw[mR];exact hl (hf.jh _) (by omega) (h.kK.jh _) (by rw[uD];omega)
 rw[if_neg e]at hc;clear e;by_cases e:name=nD
 ·rw[if_pos e]at hc;obtain rfl:=aw hc;exact jv h0 fun l=>h0
 rw[if_neg e]at hc;clear e;by_cases e:name=lM
 ·rw[if_pos e]at hc;obtain rfl:=aw hc;exact jv h0 fun l=>by rw[mR];exact hl (hf.oq _) (by omega) (h.kK.oq _) (by rw[zZ];omega)
 rw[if_neg e]at hc;clear e;by_cases e:name=nx
 ·rw[if_pos e]at hc;obtain rfl:=aw hc;exact jv h0 fun l=>h0
 rw[if_neg e]at hc;clear e;by_cases e:name=fP
 ·rw[if_pos e]at hc;obtain rfl:=aw hc;refine jv h0 fun l=>?_;rw[mR];obtain⟨G',f1⟩:=hf.oe (by omega) (at_ l 0) (at_ l 1);exact hl f1 (by omega) (h.kK.oe _ _) (az (zW _ _ _) (by omega))
 rw[if_neg e]at hc;clear e;by_cases e:name=lQ
 ·rw[if_pos e]at hc;obtain rfl:=aw hc;exact jv h0 fun l=>by rw[mR];exact hl (hf.ou (by omega) _) (by omega) (h.kK.ou _) (by rw[Ab];omega)
 rw[if_neg e]at hc;clear e;by_cases e:name=lP
 ·rw[if_pos e]at hc;obtain rfl:=aw hc;exact jv h0 fun l=>by rw[mR];exact hl hf.kF (by omega) h.kK.kF (by rw[uE];omega)
 rw[if_neg e]at hc;clear e;by_cases e:name=nB
 ·rw[if_pos e]at hc;obtain rfl:=aw hc;exact jv h0 fun l=>by split<;>exact h0
 rw[if_neg e]at hc;clear e;by_cases e:name=lN
 ·rw[if_pos e]at hc;obtain rfl:=aw hc;exact jv h0 fun l=>by rw[mR];exact hl (hf.ot _) (by omega) (h.kK.ot _) (by rw[Aa];omega)
 rw[if_neg e]at hc;clear e;by_cases e:name=ny
 ·rw[if_pos e]at hc;obtain rfl:=aw hc;exact jv h0 fun l=>h0
 rw[if_neg e]at hc;clear e;by_cases e:name=nz
 ·rw[if_pos e]at hc;obtain rfl:=aw hc;exact jv h0 fun l=>by split<;>exact h0
 rw[if_neg e]at hc;clear e;by_cases e:name=fQ
 ·rw[if_pos e]at hc;obtain rfl:=aw hc;unfold jX;split
  ·rename_i x y d;refine jv h0 fun l=>?_;rw[mR];obtain⟨G',f1⟩:=hf.og (by omega) (at_ l 0) (at_ l 1) d;exact hl f1 (by omega) (h.kK.og _ _ _) (az (zX _ _ _ _) (by omega))
  exact h0
 rw[if_neg e]at hc;cases hc
theorem Ai (h:DF b n r) (hb:b<=900000) (s:Bytes):DF (b+160*(s.length+1)) (n+1) (ji r s).2:=by
 have h0:DF (b+160*(s.length+1)) (n+1) r:=h.jt (by omega) (by omega);unfold ji qn;dsimp only;split
 ·exact h0
 rename_i w ws hw;have hl:w.length<=s.length:=Ag (by rw[hw];exact bt);split
 ·exact h0
 rename_i c hc;exact Hx h hb hc ws _ (by omega) (fun h4=>by omega)
end
section
variable {b b':Int} {n n':Nat} {r r':dB}
theorem Ax {G:eF} {l:List Rec} (h:iT G l) {o v:Int} {d:Bytes} (hk:kq l o v d):0<=v/\v<=200/\d.length<=20:=by
 rcases hk with⟨rfl,rfl⟩|⟨h1,h2⟩
 ·exact⟨by omega,by omega,by simp⟩
 have e1:=(ar.1 h2).1;have e2:=yD l o;have e3:=h.len;refine⟨by omega,by omega,?_⟩;have hm:=aR h2;unfold iz at hm;obtain⟨x,h3,h4⟩:=dy.1 hm;split at h4
 ·rw[<- aw h4];exact h.short x h3
 cases h4
structure si (e:fB):Prop where
 dT:e.call.dT=1\/e.call.dT=2
 dL:0<=e.dL/\e.dL<=3
 dF:0<=e.call.dF/\e.call.dF<=7
 dY:e.ended≠0->0<=e.call.value.dY/\e.call.value.dY<=200
 len:e.ended≠0->e.call.value.data.length<=20
theorem Ay (h:DF b n r):∀e∈r.ef,si e:=by
 intro e he;obtain⟨G,hf⟩:=h.fits;have h1:=h.kK.ev e he;have h2:=hf.inv.ef e he;have ho:=h2.dF;unfold eT eG at ho
 have hk:e.ended≠0->0<=e.call.value.dY/\e.call.value.dY<=200/\e.call.value.data.length<=20:=fun h0=>by
  rcases h2.known h0 with h3|h3
  ·exact⟨by omega,by omega,h3.2⟩
  exact Ax hf.inv.dK h3
 exact⟨h1.1,h1.2,by simp at ho;omega,fun h0=>⟨(hk h0).1,(hk h0).2.1⟩,fun h0=>(hk h0).2.2⟩
theorem Az (h:DF b n r) (o:Int):0<=(r.valueOf o).2.dY/\(r.valueOf o).2.dY<=200/\(r.valueOf o).2.data.length<=20:=by
 obtain⟨G,hf⟩:=h.fits;unfold dB.valueOf;split
 ·exact⟨by decide,by decide,by decide⟩
 next s hs =>
 split
 ·next ho =>
  (have h0:o.toNat<8:=by unfold eT eG at ho;simp at ho;omega);dsimp only;rw[(hf.inv.eD s hs).value _ h0];exact Ax hf.inv.dK (tK _ _)
 exact⟨by decide,by decide,by decide⟩
end
def Sm (e:Int):Prop:=0<=e/\e<=1000
section
variable {r:dB} {ws:List Bytes} {k:Int}
theorem jx {o:Option (List Int)} {f:List Int->gl×dB} (h:∀l n,(f l).1=.no n->Sm n) {n:Int} (e:(ib r o f).1=.no n):Sm n:=by
 unfold ib at e;split at e
 ·cases e;exact⟨by decide,by decide⟩
 exact h _ _ e
theorem mT {name:Bytes} {x:Int×dB} (h:Sm x.1) {n:Int} (e:(told name x).1=.no n):Sm n:=by
 unfold told at e;split at e
 ·cases e
 cases e;exact h
theorem iI:Sm 2:=⟨by decide,by decide⟩
theorem kL:Sm 0:=⟨by decide,by decide⟩
theorem lT:Sm 6:=⟨by decide,by decide⟩
theorem lB:Sm 4:=⟨by decide,by decide⟩
theorem jZ:Sm 1:=⟨by decide,by decide⟩
theorem my:Sm 12:=⟨by decide,by decide⟩
theorem mz:Sm 14:=⟨by decide,by decide⟩
theorem AA (k:Nat) {e:Int} (l:List dH) (c:dJ) (h:Sm e):Sm (r.fI k e l c).1:=by
 unfold dB.fI;split
 ·exact h
 exact kL
theorem Ji (c:dJ) (o:Int):Sm (c.read o).1:=by
 unfold dJ.read
 dsimp only
 repeat' split
 all_goals first|exact kL|exact iI|exact lT|exact lB|exact jZ|exact my|exact mz
theorem Jj (c:dJ) (o:Int) (d:Bytes):Sm (c.write o d).1:=by
 unfold dJ.write
 repeat' split
 all_goals first|exact kL|exact iI|exact lT|exact lB|exact jZ|exact my|exact mz
theorem Jk (k o:Int):Sm (r.read k o).1:=by
 unfold dB.read;split
 ·exact iI
 split
 ·exact AA _ _ _ (Ji _ _)
 exact iI
theorem Jl (k o:Int) (d:Bytes):Sm (r.write k o d).1:=by
 unfold dB.write;split
 ·exact iI
 split
 ·exact AA _ _ _ (Jj _ _ _)
 exact iI
theorem Jm (k:Int):Sm (r.eV k).1:=by
 unfold dB.eV
 repeat' split
 all_goals first|exact kL|exact iI|exact lT|exact lB|exact jZ|exact my|exact mz
theorem Jn (k:Int):Sm (r.gw k).1:=by
 unfold dB.gw
 dsimp only
 repeat' split
 all_goals first|exact kL|exact iI|exact lT|exact lB|exact jZ|exact my|exact mz
theorem Jo (k:Int):Sm (r.gT k).1:=by
 unfold dB.gT
 repeat' split
 all_goals first|exact kL|exact iI|exact lT|exact lB|exact jZ|exact my|exact mz
theorem Jp (k:Int):Sm (r.gU k).1:=by
 unfold dB.gU
 repeat' split
 all_goals first|exact kL|exact iI|exact lT|exact lB|exact jZ|exact my|exact mz
theorem Jq (l:List Int):Sm (r.fA l).1:=by
 unfold dB.fA
 dsimp only
 repeat' split
 all_goals first|exact kL|exact iI|exact lT|exact lB|exact jZ|exact my|exact mz
theorem Jr (k:Int):Sm (r.gV k).1:=by
 unfold dB.gV
 repeat' split
 all_goals first|exact kL|exact iI|exact lT|exact lB|exact jZ|exact my|exact mz
theorem Js (d:dW) (dU:Bool) (x:Rec):Sm (d.add dU x).1:=by
 unfold dW.add
 repeat' split
 all_goals first|exact kL|exact iI|exact lT|exact lB|exact jZ|exact my|exact mz
theorem AB (t:eA) (d:dW) (dE:Int):Sm (dC.new t d dE).1:=by
 unfold dC.new;split
 ·exact iI
 dsimp only
 repeat' split
 all_goals first|exact kL|exact Js _ _ _
theorem Jt (t:eA) (n:Int):Sm (dB.new t n).1:=by
 unfold dB.new;split
 ·exact iI
 have h:=AB t ⟨[],false,0⟩ 0;split
 ·split
  ·exact kL
  exact iI
 next e _ hs=>rw[hs]at h;exact h
theorem Ju:Sm (r.gx).1:=by
 unfold dB.gx;split
 ·exact lT
 exact AB _ _ _
theorem Jv (o:Int):Sm (r.valueOf o).1:=by
 unfold dB.valueOf
 repeat' split
 all_goals first|exact kL|exact iI|exact lT|exact lB|exact jZ|exact my|exact mz
theorem Jw {name:Bytes} {c:dB->List Bytes->gl×dB} {n:Int} (hc:cmd name=some c) (h:(c r ws).1=.no n):Sm n:=by
 unfold cmd at hc;by_cases e:name=lK
 ·rw[if_pos e]at hc;obtain rfl:=aw hc;clear e;exact jx (fun l n e=>mT (Jm _) e) h
 rw[if_neg e]at hc;clear e;by_cases e:name=mj
 ·rw[if_pos e]at hc;obtain rfl:=aw hc;clear e;refine jx (fun l n e=>?_) h;have h1:=Jt ⟨at_ l 0,at_ l 1,at_ l 2⟩ (at_ l 3);split at e
  ·cases e
  next e1 hs=>rw[hs]at h1;cases e;exact h1
 rw[if_neg e]at hc;clear e;by_cases e:name=nt
 ·rw[if_pos e]at hc;obtain rfl:=aw hc;clear e;exact jx (fun l n e=>by cases e) h
 rw[if_neg e]at hc;clear e;by_cases e:name=lR
 ·rw[if_pos e]at hc;obtain rfl:=aw hc;clear e;refine jx (fun l n e=>?_) h;split at e
  ·cases e;exact iI
  cases e
 rw[if_neg e]at hc;clear e;by_cases e:name=mq
 ·rw[if_pos e]at hc;obtain rfl:=aw hc;clear e;exact jx (fun l n e=>by cases e) h
 rw[if_neg e]at hc;clear e;by_cases e:name=lL
 ·rw[if_pos e]at hc;obtain rfl:=aw hc;clear e;exact jx (fun l n e=>mT (Jn _) e) h
 rw[if_neg e]at hc;clear e;by_cases e:name=mm
 ·rw[if_pos e]at hc;obtain rfl:=aw hc;clear e;exact jx (fun l n e=>by cases e) h
 rw[if_neg e]at hc;clear e;by_cases e:name=lO
 ·rw[if_pos e]at hc;obtain rfl:=aw hc;clear e;exact jx (fun l n e=>mT (Jq _) e) h
 rw[if_neg e]at hc;clear e;by_cases e:name=nD
 ·rw[if_pos e]at hc;obtain rfl:=aw hc;clear e;exact jx (fun l n e=>by cases e) h
 rw[if_neg e]at hc;clear e;by_cases e:name=lM
 ·rw[if_pos e]at hc;obtain rfl:=aw hc;clear e;exact jx (fun l n e=>mT (Jo _) e) h
 rw[if_neg e]at hc;clear e;by_cases e:name=nx
 ·rw[if_pos e]at hc;obtain rfl:=aw hc;clear e;exact jx (fun l n e=>by cases e) h
 rw[if_neg e]at hc;clear e;by_cases e:name=fP
 ·rw[if_pos e]at hc;obtain rfl:=aw hc;clear e;exact jx (fun l n e=>mT (Jk _ _) e) h
 rw[if_neg e]at hc;clear e;by_cases e:name=lQ
 ·rw[if_pos e]at hc;obtain rfl:=aw hc;clear e;exact jx (fun l n e=>mT (Jr _) e) h
 rw[if_neg e]at hc;clear e;by_cases e:name=lP
 ·rw[if_pos e]at hc;obtain rfl:=aw hc;clear e;exact jx (fun l n e=>mT Ju e) h
 rw[if_neg e]at hc;clear e;by_cases e:name=nB
 ·rw[if_pos e]at hc;obtain rfl:=aw hc;clear e;refine jx (fun l n e=>?_) h;split at e
  ·cases e
  cases e;exact iI
 rw[if_neg e]at hc;clear e;by_cases e:name=lN
 ·rw[if_pos e]at hc;obtain rfl:=aw hc;clear e;exact jx (fun l n e=>mT (Jp _) e) h
 rw[if_neg e]at hc;clear e;by_cases e:name=ny
 ·rw[if_pos e]at hc;obtain rfl:=aw hc;clear e;exact jx (fun l n e=>by cases e) h
 rw[if_neg e]at hc;clear e;by_cases e:name=nz
 ·rw[if_pos e]at hc;obtain rfl:=aw hc;clear e;refine jx (fun l n e=>?_) h;split at e
  ·cases e
  cases e;exact Jv _
 rw[if_neg e]at hc;clear e;by_cases e:name=fQ
 ·rw[if_pos e]at hc;obtain rfl:=aw hc;clear e;unfold jX at h;split at h
  ·exact jx (fun l n e=>mT (Jl _ _ _) e) h
  cases h;exact⟨by decide,by decide⟩
 rw[if_neg e]at hc;clear e;cases hc
end
def lens:List Bytes->Nat
 | []=>0
 |s::l=>s.length+1+lens l
theorem AD:∀(a b:List Bytes),lens (a++b)=lens a+lens b
 | [],b=>by simp[lens]
 |s::a,b=>by simp only[bn,lens,AD a b];omega
theorem AE:∀t:Bytes,lens (pieces t)=t.length+1
 | []=>rfl
 |c::l=>by
  have h:=AE l;unfold pieces;split
  ·simp only[lens,aZ,aJ];omega
  split
  ·next p ps e=>rw[e]at h;simp only[lens,aJ]at h⊢;omega
  next e=>exact absurd e (ux l)
theorem AF:∀(l:List Bytes) {b:Int} {n:Nat} {r:dB},DF b n r->b+160*(lens l:Nat)<=900000->0<=b->DF (b+160*(lens l:Nat)) (n+l.length) (kI r l)
 | [],b,n,r,h,_,_=>by simpa[lens,kI]using h
 |s::l,b,n,r,h,hb,h0=>by
  have e:(lens (s::l):Nat)=s.length+1+lens l:=rfl;have h1:=Ai h (by omega) s;have h2:=AF l h1 (by omega) (by omega);simp only[kI,aJ];(have e1:b+160*((s.length:Int)+1)+160*((lens l:Nat):Int)=b+160*((lens (s::l):Nat):Int):=by omega);(have e2:n+1+l.length=n+(l.length+1):=by omega);rw[e1,e2]at h2;exact h2
section
end
theorem uS:∀f u:Nat,(oB f u).length<=f
 |0,_=>aq _
 |f+1,u=>by
  unfold oB;split
  ·simp
  have:=uS f (u/10);simp only[aA,aJ,aZ];omega
theorem pE (n:Int):(gR n).length<=21:=by
 unfold gR;have h1:=uS 20 n.natAbs;have h2:=uS 20 n.toNat;split
 ·simp only[aJ];omega
 omega
theorem sj (e:Int):(lz (.no e)).length<=27:=by
 have:=pE e;show (jP++gR e).length<=27;simp only[aA,jP,aJ,aZ];omega
section
variable {b:Int} {n m:Nat} {r:dB} {ws:List Bytes}
theorem JR {o:Option (List Int)} {f:List Int->gl×dB} (h0:27<=m) (h:∀l,(lz (f l).1).length<=m):(lz (ib r o f).1).length<=m:=by
 unfold ib;split
 ·exact az (sj 3) h0
 exact h _
theorem JS {name:Bytes} {x:Int×dB} (h0:27<=m) (h:name.length<=m):(lz (told name x).1).length<=m:=by
 unfold told;split
 ·exact h
 exact az (sj _) h0
theorem r9 {e:fB} (h:si e):(gW e).length<=150:=by
 have h1:=pE e.dL;have h2:=pE e.call.dF;have h3:=pE e.call.value.dY;(have h4:(if e.call.dT=1 then fP else fQ).length<=5:=by split<;>decide);unfold gW;dsimp only;split
 ·simp only[aA,aJ,aZ];omega
 next h0 =>
 have h5:=h.len h0
 have h6:(i7 e.call.value.data).length<=20:=by
  unfold i7;split
  ·decide
  exact h5
 split<;>(simp only[aA,aJ,aZ];omega)
theorem qp:∀l:List fB,(∀e∈l,si e)->(kr [44,32] (l.map gW)).length<=152*l.length
 | [],_=>aq _
 | [a],h=>by
  have:=r9 (h a (by simp));show (gW a).length<=_;simp only[aJ,aZ];omega
 |a::c::l,h=>by
  have h1:=r9 (h a (by simp));have h2:=qp (c::l) (fun e he=>h e (bh _ he));show (gW a++[44,32]++kr [44,32] ((c::l).map gW)).length<=_;simp only[aA,aJ,aZ]at h2⊢;omega
theorem JT (h:DF b n r) {name:Bytes} {c:dB->List Bytes->gl×dB} (hc:cmd name=some c):(lz (c r ws).1).length<=200*n+1000:=by
 have hv:∀(o:Int),(lz (.yes (i7 (r.valueOf o).2.data++[32]++gR (r.valueOf o).2.dY))).length<=200*n+1000:=fun o=>by
  have h1:=(Az h o).2.2;have h2:=pE (r.valueOf o).2.dY
  have h6:(i7 (r.valueOf o).2.data).length<=20:=by
   unfold i7;split
   ·decide
   exact h1
  show (i7 (r.valueOf o).2.data++[32]++gR (r.valueOf o).2.dY).length<=_;simp only[aA,aJ,aZ];omega
 have hn:∀e:Int,(lz (.no e)).length<=200*n+1000:=fun e=>az (sj e) (by omega);have hi:∀e:Int,(gR e).length<=200*n+1000:=fun e=>az (pE e) (by omega)
 have hl:(kr [44,32] (r.ef.map gW)).length<=200*n+1000:=by
  have h1:=qp r.ef (Ay h);have h2:=h.mu;omega
 have hw:∀(o:Option (List Int)) (f:List Int->gl×dB),(∀l,(lz (f l).1).length<=200*n+1000)->(lz (ib r o f).1).length<=200*n+1000:=fun o f=>JR (by omega);have ht:∀(name:Bytes) (x:Int×dB),name.length<=200->(lz (told name x).1).length<=200*n+1000:=fun name x e=>JS (by omega) (by omega)
 have hk:∀ {p:Prop} [Decidable p] {f g:dB->List Bytes->gl×dB} {o:Option (dB->List Bytes->gl×dB)},(if p then some g else o)=some f->g=f\/o=some f:=fun {p} _ f g o e=>by
  split at e
  ·exact .inl (aw e)
  exact .inr e
 (have hy:∀x:Bytes,x.length<=200->(lz (.yes x)).length<=200*n+1000:=fun x e=>by show x.length<=_;omega);unfold cmd at hc;rcases hk hc with rfl|hc
 ·exact hw _ _ fun l=>ht _ _ (by decide)
 rcases hk hc with rfl|hc
 ·refine hw _ _ fun l=>?_;split
  ·exact hy _ (by decide)
  exact hn _
 rcases hk hc with rfl|hc
 ·exact hw _ _ fun l=>hl
 rcases hk hc with rfl|hc
 ·refine hw _ _ fun l=>?_;split
  ·exact hn _
  exact hy _ (by decide)
 rcases hk hc with rfl|hc
 ·exact hw _ _ fun l=>hy _ (by decide)
 rcases hk hc with rfl|hc
 ·exact hw _ _ fun l=>ht _ _ (by decide)
 rcases hk hc with rfl|hc
 ·exact hw _ _ fun l=>hy _ (by decide)
 rcases hk hc with rfl|hc
 ·exact hw _ _ fun l=>ht _ _ (by decide)
 rcases hk hc with rfl|hc
 ·exact hw _ _ fun l=>hy _ (by decide)
 rcases hk hc with rfl|hc
 ·exact hw _ _ fun l=>ht _ _ (by decide)
 rcases hk hc with rfl|hc
 ·exact hw _ _ fun l=>hi _
 rcases hk hc with rfl|hc
 ·exact hw _ _ fun l=>ht _ _ (by decide)
 rcases hk hc with rfl|hc
 ·exact hw _ _ fun l=>ht _ _ (by decide)
 rcases hk hc with rfl|hc
 ·exact hw _ _ fun l=>ht _ _ (by decide)
 rcases hk hc with rfl|hc
 ·refine hw _ _ fun l=>?_;split
  ·exact hi _
  exact hn _
 rcases hk hc with rfl|hc
 ·exact hw _ _ fun l=>ht _ _ (by decide)
 rcases hk hc with rfl|hc
 ·refine hw _ _ fun l=>?_;split<;>exact hy _ (by decide)
 rcases hk hc with rfl|hc
 ·refine hw _ _ fun l=>?_;split
  ·exact hv _
  exact hn _
 rcases hk hc with rfl|hc
 ·unfold jX;split
  ·exact hw _ _ fun l=>ht _ _ (by decide)
  exact hn _
 cases hc
theorem AL (h:DF b n r) (s:Bytes):(ji r s).1.length<=200*n+1000:=by
 unfold ji qn;dsimp only;split
 ·show 2<=_;omega
 split
 ·exact az (sj 3) (by omega)
 next hc=>exact JT h hc
theorem AM:∀(l:List Bytes) {b:Int} {n:Nat} {r:dB},DF b n r->b+160*(lens l:Nat)<=900000->0<=b->(il r l).length<=l.length*(200*(n+l.length)+1001)
 | [],_,_,_,_,_,_=>bP _
 |s::l,b,n,r,h,hb,h0=>by
  have e:(lens (s::l):Nat)=s.length+1+lens l:=rfl;have h1:=Ai h (by omega) s;have h2:=AM l h1 (by omega) (by omega);have h3:=AL h s;show ((ji r s).1++[10]++il (ji r s).2 l).length<=_;simp only[aA,aJ,aZ];(have e2:n+1+l.length=n+(l.length+1):=by omega);rw[e2]at h2;rw[cI];omega
end
end ff
end Go.Proofs.YtlhodcmdpchllaaGreatDoor
