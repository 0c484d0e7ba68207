/-
  A part of the proof of the law DeskPieces: DkW, DkZ, DpA.
-/
import Derived.Test.YtlhodcmdpchllaaGreatDoorHd
import Derived.Test.YtlhodcmdpchllaaGreatDoorP40
import Derived.Test.YtlhodcmdpchllaaGreatDoorP47
set_option maxHeartbeats 16000000
set_option maxRecDepth 1000000
namespace Go.Proofs.YtlhodcmdpchllaaGreatDoor
namespace dk
open dI (Bytes dB eA)
open Go.RowKit heap eO dZ ff own fe
structure jH (P:Lib.PrintTabs) (own:Nat->Nat) (w0:World) (k bb ob db:Nat) (M:List Nat) (v:WV) (p u:Value) (r:dB) (out:Bytes) (W:World):Prop where
 dk:DkW P own w0 W k ob db v r
 oW:Has W bb (.cells #[p,u] 34)
 ptr:p=.pointer none\/p=.pointer (some ⟨bb,0,none⟩)
 row:W.ownsRow w0.heap.size 5 1 u (Lib.strCells ⟨out.toArray⟩).length (Lib.strCells ⟨out.toArray⟩)
 free:∀g∈M,own g=0/\g<W.heap.size/\w0.heap.size<=g
 kM:k∉M
 bM:bb∈M
 buf:∀g,u.ownBlock=some g->own g=0/\g∉M/\g≠k
section
variable {P:Lib.PrintTabs} {own:Nat->Nat} {w0 W W':World} {k bb ob db:Nat} {M:List Nat} {v:WV} {p u:Value} {r r':dB} {out:Bytes}
theorem jH.line (h:jH P own w0 k bb ob db M v p u r out W) (hd:Dk P own w0 k W r' W'):(∃own1 MU Nd v1,jH P own1 w0 k bb MU Nd M v1 p u r' out W')/\∀g∈M,W'.heap[g]?=W.heap[g]?:=by
 obtain⟨own1,MU,Nd,v1,h1,h2,h3⟩:=hd;have hk:∀g,own g=0->g<W.heap.size->g≠k->W'.heap[g]?=W.heap[g]?:=fun g e1 e2 e3=>h3.block g e2 fun e=>e.elim (fun e=>e e1) e3;have hM:∀g∈M,W'.heap[g]?=W.heap[g]?:=fun g hg=>hk g (h.free g hg).1 (h.free g hg).2.1 (fun e=>h.kM (e▸hg));refine⟨⟨own1,MU,Nd,v1,h1,(hM bb h.bM).trans h.oW,h.ptr,⟨h.row.1,?_⟩,fun g hg=>⟨h2 g (h.free g hg).2.1 (h.free g hg).1,ay (h.free g hg).2.1 h3.size,(h.free g hg).2.2⟩,h.kM,h.bM,?_⟩,hM⟩
 ·rcases h.row.2 with h9|⟨g,cap,cur,e1,e2,e3,e4⟩
  ·exact .inl h9
  have hb:=h.buf g (by rw[e1];rfl);exact .inr ⟨g,cap,cur,e1,e2,(hk g hb.1 (Has.lt (w:=W) e3) hb.2.2).trans e3,e4⟩
 intro g hg;have hb:=h.buf g hg;refine⟨h2 g ?_ hb.1,hb.2⟩;rcases h.row.2 with⟨h9,-⟩|⟨g2,cap,cur,e1,e2,e3,e4⟩
 ·rw[h9]at hg;cases hg
 (have e9:g2=g:=by rw[e1]at hg;simpa[Value.ownBlock]using hg);rw[<- e9];exact Has.lt (w:=W) e3
theorem jH.put (h:jH P own w0 k bb ob db M v p u r out W) {u':Value} {s:Bytes} (h1:Has W' bb (.cells #[.pointer (some ⟨bb,0,none⟩),u'] 34))
 (h2:W'.ownsRow w0.heap.size 5 1 u' (Lib.strCells ⟨out.toArray⟩++Lib.strCells ⟨s.toArray⟩).length (Lib.strCells ⟨out.toArray⟩++Lib.strCells ⟨s.toArray⟩)) (ht:dD (fun g=>g=bb\/u.ownBlock=some g) W W') (hw:∀g,u'.ownBlock=some g->u.ownBlock=some g\/W.heap.size<=g) :
 jH P own w0 k bb ob db M v (.pointer (some ⟨bb,0,none⟩)) u' r (out++s) W'/\∀g∈M,g≠bb->W'.heap[g]?=W.heap[g]?:=by
 have hc:Lib.strCells ⟨(out++s).toArray⟩=Lib.strCells ⟨out.toArray⟩++Lib.strCells ⟨s.toArray⟩:=by simp[Lib.strCells]
 have hS:∀g,g<W.heap.size->(g=bb\/u.ownBlock=some g)->own g=0/\w0.heap.size<=g:=fun g _ e=>by
  rcases e with rfl|e
  ·exact⟨(h.free g h.bM).1,(h.free g h.bM).2.2⟩
  exact⟨(h.buf g e).1,jF h.row g e⟩
 have hkS:¬(k=bb\/u.ownBlock=some k):=fun e=>by
  rcases e with e|e
  ·exact h.kM (e▸h.bM)
  exact (h.buf k e).2.2 rfl
 refine⟨⟨⟨ht.has h.dk.t_ hkS,h.dk.free,h.dk.low,h.dk.world.ej (S:=fun g=>g=bb\/u.ownBlock=some g) ht (Ext.refl _ _) (fun g hg=>h.dk.world.fr g (az ht.size hg)) h.dk.world.low hS,h.dk.base⟩,h1,.inr rfl,by rw[hc];exact h2,fun g hg=>⟨(h.free g hg).1,ay (h.free g hg).2.1 ht.size,(h.free g hg).2.2⟩,h.kM,h.bM,?_⟩,?_⟩
 ·intro g hg;rcases hw g hg with h9|h9
  ·exact h.buf g h9
  exact⟨h.dk.world.fr g h9,fun hm=>by have:=(h.free g hm).2.1;omega,fun e=>by have:=h.dk.t_.lt;omega⟩
 intro g hg Km
 exact ht.block g (h.free g hg).2.1 fun e=>by
  rcases e with e|e
  ·exact Km e
  exact (h.buf g e).2.1 hg
theorem jH.other (h:jH P own w0 k bb ob db M v p u r out W) {g0:Nat} (Lo:g0∈M) (Km:g0≠bb) (ht:dD (fun g=>g=g0) W W'):jH P own w0 k bb ob db M v p u r out W':=by
 have Uq:k≠g0:=fun e=>h.kM (e▸Lo);(have hS:∀g,g<W.heap.size->g=g0->own g=0/\w0.heap.size<=g:=fun g _ e=>by subst e;exact⟨(h.free g Lo).1,(h.free g Lo).2.2⟩);refine⟨⟨ht.has h.dk.t_ Uq,h.dk.free,h.dk.low,h.dk.world.ej (S:=fun g=>g=g0) ht (Ext.refl _ _) (fun g hg=>h.dk.world.fr g (az ht.size hg)) h.dk.world.low hS,h.dk.base⟩,ht.has h.oW (fun e=>Km e.symm),h.ptr,uQ h.row ht (fun e=>(h.buf g0 e).2.1 Lo),fun g hg=>⟨(h.free g hg).1,ay (h.free g hg).2.1 ht.size,(h.free g hg).2.2⟩,h.kM,h.bM,h.buf⟩
theorem jH.below (h:jH P own w0 k bb ob db M v p u r out W) (hb:Below W.heap.size W W'):jH P own w0 k bb ob db M v p u r out W':=
 ⟨h.dk.below hb,h.oW.below hb h.oW.lt,h.ptr,jE h.row hb,fun g hg=>⟨(h.free g hg).1,ay (h.free g hg).2.1 hb.size,(h.free g hg).2.2⟩,h.kM,h.bM,h.buf⟩
theorem jH.more (h:jH P own w0 k bb ob db M v p u r out W) (hb:Below W.heap.size W W') {N:List Nat} (hN:∀g∈N,W.heap.size<=g/\g<W'.heap.size):jH P own w0 k bb ob db (M++N) v p u r out W':=by
 have h1:=h.below hb;have hz:=h.dk.world.fF.size;refine⟨h1.dk,h1.oW,h1.ptr,h1.row,fun g hg=>?_,fun hk=>?_,dr _ h.bM,fun g hg=>⟨(h.buf g hg).1,fun hm=>?_,(h.buf g hg).2.2⟩⟩
 ·rcases aO.1 hg with h9|h9
  ·exact h1.free g h9
  exact⟨h.dk.world.fr g (hN g h9).1,(hN g h9).2,by have:=(hN g h9).1;omega⟩
 ·rcases aO.1 hk with h9|h9
  ·exact h.kM h9
  have:=(hN k h9).1;have:=h.dk.t_.lt;omega
 rcases aO.1 hm with h9|h9
 ·exact (h.buf g hg).2.1 h9
 have h8:=(hN g h9).1;rcases h.row.2 with⟨h7,-⟩|⟨g2,cap,cur,e1,e2,e3,e4⟩
 ·rw[h7]at hg;cases hg
 (have e9:g2=g:=by rw[e1]at hg;simpa[Value.ownBlock]using hg);have:=Has.lt (w:=W) e3;omega
theorem AK (W:World) (g:Nat) (o:Obj):dD (fun x=>x=g) W (W.putObj g o):=
 ⟨rfl,rfl,rfl,by simp[World.putObj],fun _ _ hn=>World.putObj_heap_other (fun e=>hn e)⟩
end
end dk
namespace dk
attribute [local go_sem] Oper.semAt_some
open dI (Bytes dB eA)
open Go.RowKit Go.Shelf heap eO dZ ff own
theorem AN:∀l:List Bytes,l.length<=lens l
 | []=>aq _
 |s::l=>by have:=AN l;simp only[aJ,lens];omega
theorem AO:∀(l:List Bytes) (r:dB) (x:Bytes),kI r (l++[x])=(ji (kI r l) x).2
 | [],_,_=>rfl
 |_::l,_,x=>AO l _ x
theorem JU {B g:Nat} {w w':World} (h:Below B w w') (hg:B<=g) (o:Obj):Below B w (w'.putObj g o):=
 ⟨h.os,h.tape,h.output,by simpa[World.putObj]using h.size,fun k hk=>(World.putObj_heap_other (by omega)).trans (h.block k hk)⟩
theorem JV (r:dB) {l:List Bytes} (h:l≠[]):il r l≠[]:=by
 cases l with
 |nil=>exact absurd rfl h
 |cons s l=>simp[il]
theorem AP (t:Bytes):(trimB t).length<=t.length:=by
 unfold trimB Lib.trimSuffix;split
 ·simp
 exact aq _
section
variable {P:Lib.PrintTabs}
theorem uT (w:World) (hb:jY P w) (t:Bytes) (ht20:t.length<=2000) (r:dB) (hr:ff.start.2=some r) :
 Calls Tryz.prog 5 #[.string ⟨t.toArray⟩] w fun e w'=>e=.returned (.string ⟨(mr r t).toArray⟩)/\Below w.heap.size w w':=by
 have d0:decide ((20000:Int)<(t.length:Int))=false:=decide_eq_false (by omega);(have e0:mr r t=il r (pieces (trimB t)):=by unfold mr;rw[if_neg (by omega)]);rw[e0];have HT:=Hd fun (W:World)=>Tryz.strings_TrimSuffix ⟨t.toArray⟩ ⟨#[10]⟩ W (by show t.length<=_;omega);have UE:=Hd fun (W:World)=>JH (trimB t) W
 have abg:Hy (Calls Tryz.prog 6 #[.pointer (some ⟨w.heap.size,0,none⟩),.slice (some ⟨w.heap.size+1+1,0,none⟩) 4 4] (((w.alloc (.cells #[.pointer none] 28)).alloc (.cells #[.pointer (some ⟨w.heap.size,0,none⟩)] 25)).alloc (.cells #[.string ⟨#[50,48]⟩,.string ⟨#[56]⟩,.string ⟨#[48]⟩,.string ⟨#[50]⟩] 9)) fun e w'=>(∃u,e=.returned u)/\∃own1 MU Nd v1,DkW P own1 w w' w.heap.size MU Nd v1 r/\(∀g,g<(((w.alloc (.cells #[.pointer none] 28)).alloc (.cells #[.pointer (some ⟨w.heap.size,0,none⟩)] 25)).alloc (.cells #[.string ⟨#[50,48]⟩,.string ⟨#[56]⟩,.string ⟨#[48]⟩,.string ⟨#[50]⟩] 9)).heap.size->own1 g=0)/\dD (fun g=>g=w.heap.size) (((w.alloc (.cells #[.pointer none] 28)).alloc (.cells #[.pointer (some ⟨w.heap.size,0,none⟩)] 25)).alloc (.cells #[.string ⟨#[50,48]⟩,.string ⟨#[56]⟩,.string ⟨#[48]⟩,.string ⟨#[50]⟩] 9)) w'):=by
  refine Hd (JC (((Has.new w _).alloc _).alloc _) (aq _) hb ((((Below.refl _ _).alloc (aq _) _).alloc (by simp) _).alloc (by simp;omega) _) hr (w.heap.size+1+1) 0 4 ?_ (by simp) (aq _));have h9:=Has.new ((w.alloc (.cells #[.pointer none] 28)).alloc (.cells #[.pointer (some ⟨w.heap.size,0,none⟩)] 25)) (.cells #[.string ⟨#[50,48]⟩,.string ⟨#[56]⟩,.string ⟨#[48]⟩,.string ⟨#[50]⟩] 9);simp only[World.size_alloc]at h9;intro j x hx
  match j,hx with
  |0,hx=>cases hx;exact h9.cell 0
  |1,hx=>cases hx;exact h9.cell 1
  |2,hx=>cases hx;exact h9.cell 2
  |3,hx=>cases hx;exact h9.cell 3
  |j+4,hx=>simp[four]at hx
 have abh:Has (((w.alloc (.cells #[.pointer none] 28)).alloc (.cells #[.pointer (some ⟨w.heap.size,0,none⟩)] 25)).alloc (.cells #[.string ⟨#[50,48]⟩,.string ⟨#[56]⟩,.string ⟨#[48]⟩,.string ⟨#[50]⟩] 9)) (w.heap.size+1) (.cells #[.pointer (some ⟨w.heap.size,0,none⟩)] 25):=by
  have h9:=(Has.new (w.alloc (.cells #[.pointer none] 28)) (.cells #[.pointer (some ⟨w.heap.size,0,none⟩)] 25)).alloc (.cells #[.string ⟨#[50,48]⟩,.string ⟨#[56]⟩,.string ⟨#[48]⟩,.string ⟨#[50]⟩] 9);simpa only[World.size_alloc]using h9
 have abi:=Hd abh
 have Xx:Hy (DF 0 0 r):=Hd (Ah (t:=⟨20,8,0⟩) (k:=2) hr)
 clear e0 hr abh
 refine callsIn_wide (n:=10).1 ?_
 refine callsIn_of_wp_marks Tryz.func5 rfl trivial ?_
 simp only[Tryz.ntmps5,cd,aJ,aZ,Nat.reduceAdd,Nat.reduceSub,Array.replicate_succ,Array.replicate_zero,List.push_toArray,List.append_toArray,bL,bn]
 gi_wp2_with (refine⟨trivial,?_⟩;first
  |(refine (callsIn_wide.2 abg.o).mono ?_;rintro e w1 ⟨⟨u,rfl⟩,own1,MU,Nd,v1,Ns,RV,Ub⟩;have Md:=Hd RV;have QZ:=Hd Ns;have QO:=Ub.has abi.o (show ¬(w.heap.size+1=w.heap.size) by omega);have QK:=Hd QO;have Q8:=Hd Ub.size;have cb:=QO.cell 0;clear Ns RV Ub QO)
  |(refine (callsIn_wide.2 (HT.o _)).mono ?_;rintro e w2 ⟨rfl,rfl⟩)
  |(refine (callsIn_wide.2 (UE.o _)).mono ?_;rintro e w3 ⟨pb,sb,vb,rfl,s1,s2,s3,s4,s5,s6,s7,s8,s9,s10⟩))
 (have Xy:w.heap.size+3<=w1.heap.size:=by have:=Q8.o;simp at this;omega);have sA:(w1.alloc (.cells #[.pointer none,.slice none 0 0] 34)).heap.size=w1.heap.size+1:=World.size_alloc _ _;have hbA:Below w1.heap.size w1 (w1.alloc (.cells #[.pointer none,.slice none 0 0] 34)):=(Below.refl _ _).alloc (aq _) _;have St:Below w1.heap.size w1 w3:=hbA.trans (s10.mono (by omega));(have Tj:w1.heap.size+1<=w3.heap.size:=by have:=s10.size;omega);rw[sA]at s1 s2 s3
 have abj:jH P own1 w w.heap.size w1.heap.size MU Nd [w.heap.size+1,w1.heap.size,pb,sb,vb] v1 (.pointer none) (.slice none 0 0) r [] w3:=by
  refine⟨QZ.o.below St,(Has.new w1 _).below s10 (by omega),.inl rfl,World.ownsRow_nil w3 _ _ 1,fun g hg=>?_,fun hk=>?_,by simp,fun g hg=>by cases hg⟩
  ·simp only[aM,bc,or_false]at hg;rcases hg with rfl|rfl|rfl|rfl|rfl
   ·exact⟨Md.o _ (by simp),by omega,by omega⟩
   ·exact⟨QZ.o.world.fr _ (aq _),by omega,by omega⟩
   ·exact⟨QZ.o.world.fr _ (by omega),s6,by omega⟩
   ·exact⟨QZ.o.world.fr _ (by omega),s7,by omega⟩
   exact⟨QZ.o.world.fr _ (by omega),s8,by omega⟩
  simp only[aM,bc,or_false]at hk;omega
 have Xz:=QK.o.below St QK.o.lt;have abk:=fun (J:List Bytes->World->Prop)=>JF 9 (w3.heap.size+1) pb sb vb s4 s5 (trimB t) (az (AP t) (by omega)) J
 refine JQ (gf:=27) (L:=pieces (trimB t)) rfl (fun _ _=>by kernel_rfl) rfl s6 s7 s8
  (fun pre W=>∃own ob db v p u,jH P own w w.heap.size w1.heap.size ob db ([w.heap.size+1,w1.heap.size,pb,sb,vb]++[w3.heap.size,w3.heap.size+1]) v p u (kI r pre) (il r pre) W/\Has W (w.heap.size+1) (.cells #[.pointer (some ⟨w.heap.size,0,none⟩)] 25))
  ?h0 ?hI ?hIs
  (fun x=>{tmps:=#[.string ⟨t.toArray⟩,undef,.string ⟨#[]⟩,.pointer (some ⟨w.heap.size+1,0,none⟩),.pointer (some ⟨w1.heap.size,0,none⟩),.string ⟨x.toArray⟩,.string ⟨t.toArray⟩,.int .i64 t.length,.bool false,.agg #[.pointer none],.pointer (some ⟨w.heap.size,0,none⟩),.pointer (some ⟨w.heap.size,0,none⟩),.slice (some ⟨w.heap.size+1+1,0,none⟩) 4 4,u,.string ⟨t.toArray⟩,.string ⟨(Lib.trimSuffix t [10]).toArray⟩,.func (.func 27) #[] #[.pointer (some ⟨pb,0,none⟩),.pointer (some ⟨sb,0,none⟩),.pointer (some ⟨vb,0,none⟩)],.string ⟨x.toArray⟩,undef,undef,undef,undef,undef,undef],defers:=[]})
  ?assign ?body ?hit ?done
 case assign =>
  intro x W K hK
  gi_wp2_with fail
  exact hK
 case hI =>
  rintro pre W o ⟨own,ob,db,v,p,u,hs,QO⟩;exact⟨own,ob,db,v,p,u,hs.other (by simp) (by omega) (AK _ _ _),(AK _ _ _).has QO (by omega)⟩
 case hIs =>
  rintro pre W z ⟨own,ob,db,v,p,u,hs,QO⟩;have MC:dD (fun g=>g=sb) W (W.setCell ⟨sb,0,none⟩ z):=(dD.refl (fun g=>g=sb) W).setCell (p:=⟨sb,0,none⟩) (.inr rfl) _;exact⟨own,ob,db,v,p,u,hs.other (by simp) (by omega) MC,MC.has QO (by omega)⟩
 case h0 =>
  intro R;have Qk:Below w3.heap.size w3 ((w3.alloc (.deferred (some []))).alloc (.loop R)):=((Below.refl _ _).alloc (aq _) _).alloc (by simp) _;exact⟨own1,MU,Nd,v1,_,_,abj.more Qk (fun g hg=>by simp at hg⊢;omega),Xz.below Qk Xz.lt⟩
 case hit =>
  rintro J W hJs hR ⟨R,rfl⟩ h0;have Qk:Below w3.heap.size w3 ((w3.alloc (.deferred (some []))).alloc (.loop R)):=((Below.refl _ _).alloc (aq _) _).alloc (by simp) _;exact abk J hJs hR _ (s9.ej ⟨Qk.cell (p:=⟨pb,0,none⟩) s6,Qk.cell (p:=⟨sb,0,none⟩) s7,Qk.cell (p:=⟨vb,0,none⟩) s8,Qk.frozen (p:=⟨sb,0,none⟩) s7⟩) h0
 case body =>
  rintro pre x rest W hx ⟨own,ob,db,v,p,u',hs,QO⟩ Kg;have Rc:=AE (trimB t);rw[hx,AD]at Rc;have afr:lens (x::rest)=x.length+1+lens rest:=rfl;have R5:=AP t;have hpl:pre.length<=lens pre:=AN pre;have hdf:=AF pre Xx.o (by omega) (by omega);have hzl:=AL hdf x;have Ux:=AM pre Xx.o (by omega) (by omega);have Tm:=Hd (Jy hs.dk hdf (by omega) (by omega) x (by omega));have hrs:kI r (pre++[x])=(ji (kI r pre) x).2:=AO pre r x;(have KQ:il r (pre++[x])=il r pre++((ji (kI r pre) x).1++[10]):=by rw[uy];simp[il]);obtain⟨z,hz⟩:∃z,z=(ji (kI r pre) x).1:=⟨_,rfl⟩;rw[<- hz]at Tm KQ hzl;have QD:=ic z [10] (by simp;omega);obtain⟨z2,KD⟩:∃z2,z2=z++[10]:=⟨_,rfl⟩;rw[<- KD]at QD KQ;have aft:z2.length=z.length+1:=by rw[KD];simp
  have TO:(il r pre).length+z2.length<=1000000000:=by
   have h7:pre.length*(200*(0+pre.length)+1001)<=2000*(200*(0+2000)+1001):=Nat.mul_le_mul (by omega) (by omega);omega
  have HS:=Hd hs
  have afu:=Hd QO
  have cb:=QO.cell 0
  have Ks:=hs.dk.t_.lt
  have afv:=Hd fun (W2:World) (own2:Nat->Nat) (ob2 db2:Nat) (v2:fe.WV) (KY:jH P own2 w w.heap.size w1.heap.size ob2 db2 ([w.heap.size+1,w1.heap.size,pb,sb,vb]++[w3.heap.size,w3.heap.size+1]) v2 p u' (ji (kI r pre) x).2 (il r pre) W2)=>JN W2 w1.heap.size p u' (Lib.strCells ⟨(il r pre).toArray⟩) z2 KY.ptr KY.oW KY.row (fun e=>(KY.buf _ e).2.1 (by simp)) (by omega) (by rw[Lib.strCells_length];show (il r pre).length+z2.length<=_;exact TO)
  have HRS:=Hd hrs
  have PW:=Hd KQ
  have UT:=Hd (And.intro s1 (And.intro s2 s3))
  have HZ:=Hd (And.intro Xy Tj)
  clear hs QO hdf hzl Ux Rc afr R5 hpl TO hrs KQ hz KD aft hx abk abj Xz St hbA sA s1 s2 s3 s4 s5 s6 s7 s8 s9 s10 Xy Tj Ks d0 abg abi HT UE QZ Md QK Q8 Xx
  gi_wp2_with (refine⟨trivial,?_⟩;first
   |(gi_at_call 10;refine (CallsIn.inRound _ (callsIn_wide.2 Tm.o)).mono ?_;rintro e W2 ⟨rfl,Ns⟩;obtain⟨⟨own2,ob2,db2,v2,KY⟩,X0⟩:=HS.o.line Ns;have Kq:=Hd KY;have Wj:=Hd X0;have Lk:=Hd (afv.o W2 own2 ob2 db2 v2 KY);clear Ns KY X0)
   |(gi_at_call 9;refine (CallsIn.inRound _ (callsIn_wide.2 Lk.o)).mono ?_;rintro e W3 ⟨⟨u3,rfl⟩,v3,k1,k2,k3,k4,k5⟩))
  obtain⟨NJ,hk3⟩:=Kq.o.put k1 k2 k4 k5;have Xy:=HZ.o.1;have Tj:=HZ.o.2;have s1:=UT.o.1;have s2:=UT.o.2.1;have s3:=UT.o.2.2;have hkk:∀g,g∈([w.heap.size+1,w1.heap.size,pb,sb,vb]++[w3.heap.size,w3.heap.size+1])->g≠w1.heap.size->W3.heap[g]?=W.heap[g]?:=fun g hg Km=>(hk3 g hg Km).trans (Wj.o g hg);have es:=hkk sb (by simp) (by omega)
  exact⟨⟨⟨own2,ob2,db2,v2,_,v3,by rw[HRS.o,PW.o];exact NJ⟩,(hkk (w.heap.size+1) (by simp) (by omega)).trans afu.o⟩,
   ⟨World.cell?_of_block (hkk pb (by simp) (by omega)),World.cell?_of_block es,World.cell?_of_block (hkk vb (by simp) (by omega)),World.frozen?_of_block es⟩,hkk w3.heap.size (by simp) (by omega),(hkk (w3.heap.size+1) (by simp) (by omega)).trans (cx Kg)⟩
 case done =>
  rintro W ⟨own,ob,db,v,p,u',hs,QO⟩ hD;(have hcell:Lib.strCells ⟨(il r (pieces (trimB t))).toArray⟩=Lib.byteCells (il r (pieces (trimB t))):=by simp[Lib.strCells,Lib.byteCells]);have Kj:=hs.row;have P3:u'.ownBlock≠some w1.heap.size:=fun e=>(hs.buf _ e).2.1 (by simp);rw[hcell]at Kj;have hB:Lib.BuilderAt 34 5 w.heap.size w1.heap.size p (Lib.byteCells (il r (pieces (trimB t)))) W:=⟨by omega,u',hs.oW,Kj,P3⟩
  have hIB:Lib.IsBuilder 34 5 w.heap.size w1.heap.size (Lib.byteCells (il r (pieces (trimB t)))) W:=by
   rcases hs.ptr with rfl|rfl
   ·exact .inl hB
   exact .inr hB
  have NL:Hy (Calls Tryz.prog 11 #[.pointer (some ⟨w1.heap.size,0,none⟩)] W fun e w'=>e=.returned (.string ⟨(il r (pieces (trimB t))).toArray⟩)/\(Lib.IsBuilderF 34 5 w.heap.size w1.heap.size (Lib.byteCells (il r (pieces (trimB t)))) w'/\Below w.heap.size W w'/\Lib.OthersKept 5 (some w1.heap.size) W w')):=Hd (Any.Builder_String_k JI Tryz.Builder_Extra_156 w.heap.size w1.heap.size _ W (Lib.IsBuilderF.of hIB) (JV r (ux _)))
  have HWB:=Hd hs.dk.world.fF
  have HDD:=Hd hD
  clear hB hIB P3 Kj hcell hs QO hD
  gi_wp2_with (refine⟨trivial,?_⟩;refine (callsIn_wide.2 NL.o).mono ?_;rintro e w5 ⟨rfl,-,Kx,L5⟩)
  have hK:w5.heap[w3.heap.size]?=some (.deferred (some [])):=L5 _ _ HDD.o (fun e=>by have:=aw e;omega) (fun c fz e=>by cases e);refine⟨by simp,.inl ⟨_,_,rfl,run_takeDeferred hK,?_⟩⟩;have L0:Below w.heap.size w (w5.putObj w3.heap.size (.deferred none)):=JU (HWB.o.trans Kx) (by omega) _;simp[LeavesInM,LeavesIn,results,Tryz.results5];exact L0
end
end dk
namespace dk
open dI (Bytes dB eA)
open Go.RowKit heap eO dZ ff own fe
section
variable {P:Lib.PrintTabs}
theorem JW (w:World) (hb:jY P w):Calls Tryz.prog 4 #[] w fun e w'=>e=.returned (.bool true)/\Below w.heap.size w w':=by
 obtain⟨r,hr⟩:=AH;have hs:=uT w hb uO (by decide) r hr;rw[JA hr]at hs;have HS:=Hd hs;clear hs hr;(go_enter Tryz.func4,Tryz.ntmps4);(go_wp2_with (go_at_call 5;refine HS.o.mono ?_;rintro e w1 ⟨rfl,Kd⟩;unfold uP));go_ret;exact⟨rfl,Kd⟩
theorem JX (w:World) (hb:jY P w) (a b:Bytes) (ha:a.length<=reachBytes) (LJ:b.length<=reachBytes):Calls Tryz.prog 3 #[.string ⟨a.toArray⟩,.string ⟨b.toArray⟩] w fun e w'=>e=.returned (.bool true)/\Below w.heap.size w w':=by
 have T5:(⟨a.toArray⟩:ByteArray).size=a.length:=rfl;have hsb:(⟨b.toArray⟩:ByteArray).size=b.length:=rfl;(have hwr:wrap64 ((a.length:Int)+(b.length:Int))=(a.length:Int)+(b.length:Int):=by unfold reachBytes at ha LJ;unfold wrap64;omega);by_cases h:1500<a.length+b.length
 ·have d0:decide ((1500:Int)<(a.length:Int)+(b.length:Int))=true:=decide_eq_true (by omega);(go_enter Tryz.func3,Tryz.ntmps3);(go_wp2_with fail);go_ret;exact⟨rfl,Below.refl _ _⟩
 have d0:decide ((1500:Int)<(a.length:Int)+(b.length:Int))=false:=decide_eq_false (by omega);obtain⟨r,hr⟩:=AH;have HC:=Hd (JW w hb);obtain⟨c,hc⟩:=Hm r a b (by omega);have abl:=ic a [10] (by simp;omega);obtain⟨z1,KH⟩:∃z,z=a++[10]:=⟨_,rfl⟩;(have Q3:z1.length<=1501:=by rw[KH];simp;omega);obtain⟨z2,KD⟩:∃z,z=a++10::b:=⟨_,rfl⟩;(have Mn:z2.length<=1501:=by rw[KD];simp;omega);have abm:=ic z1 b (by omega);rw[show z1++b=z2 by rw[KH,KD];simp]at abm;rw[<- KH]at abl hc;rw[<- KD]at hc;have HX:=Hd fun (W:World) (h9:jY P W)=>uT W h9 z1 (by omega) r hr;have HY:=Hd fun (W:World) (h9:jY P W)=>uT W h9 z2 (by omega) r hr;obtain⟨X,hX⟩:∃X,X=mr r z1:=⟨_,rfl⟩;obtain⟨Y,hY⟩:∃Y,Y=mr r z2:=⟨_,rfl⟩;rw[<- hX,<- hY]at hc;rw[<- hX]at HX;rw[<- hY]at HY;have HB:=Hd hb;have Wg:=Hd hc;clear hX hY KH KD hr hb hc Q3 Mn;go_enter Tryz.func3,Tryz.ntmps3
 go_upto_region 6 with (first
  |(go_at_call 4;refine HC.o.mono ?_;rintro e w1 ⟨rfl,Kd⟩;have Ki:=Hd Kd;clear Kd)
  |(go_at_call 5;refine (HX.o _ (HB.o.below Ki.o)).mono ?_;rintro e w2 ⟨rfl,Ke⟩;have Kn:=Hd (Ki.o.trans (Ke.mono Ki.o.size));clear Ke))
 (go_upto_region 7 with (go_at_call 5;refine (HY.o _ (HB.o.below Kn.o)).mono ?_;rintro e w3 ⟨rfl,Kk⟩;have Lf:=Hd (Kn.o.trans (Kk.mono Kn.o.size));clear Kk));have hle:X.length<=Y.length:=by rw[Wg.o,aA];omega
 have Sh:(⟨Y.toArray⟩:ByteArray).extract 0 X.length=⟨X.toArray⟩:=by
  rw[Wg.o];apply ByteArray.ext;simp
 (go_wp2_with fail);go_ret;exact⟨rfl,Lf.o⟩
end
end dk
end Go.Proofs.YtlhodcmdpchllaaGreatDoor
