/-
  A part of the proof of the law DeskPieces: DkT, DkU.
-/
import Derived.Test.YtlhodcmdpchllaaGreatDoorHd
import Derived.Test.YtlhodcmdpchllaaGreatDoorP39
import Derived.Test.YtlhodcmdpchllaaGreatDoorP45
import Derived.Test.YtlhodcmdpchllaaGreatDoorP46
set_option maxHeartbeats 16000000
set_option maxRecDepth 1000000
namespace Go.Proofs.YtlhodcmdpchllaaGreatDoor
namespace dk
open dI (Bytes dB eA fB)
open Go.RowKit heap eO dZ ff own fe
section
variable {P:Lib.PrintTabs} {own:Nat->Nat} {w0 w w':World} {k ob db:Nat} {v:WV} {r r':dB}
def so (x:Option Nat):Nat:=match x with|some _=>1|none=>0
theorem qq (p:Nat->Bool) (s:ByteArray):∀(f pos:Nat) (st:Option Nat) (acc:List (Nat×Nat)),(Lib.spansFromP p s f pos st acc).1.length+so (Lib.spansFromP p s f pos st acc).2<=acc.length+so st+f
 |0,_,_,_=>aq _
 |f+1,pos,st,acc=>by
  unfold Lib.spansFromP;split
  ·split
   ·cases st with
    |some a=>have:=qq p s f (pos+(Utf8.decode s pos).2) none (acc++[(a,pos)]);simp[so]at this⊢;omega
    |none=>have:=qq p s f (pos+(Utf8.decode s pos).2) none acc;simp[so]at this⊢;omega
   cases st with
   |some a=>have:=qq p s f (pos+(Utf8.decode s pos).2) (some a) acc;simp[so]at this⊢;omega
   |none=>have:=qq p s f (pos+(Utf8.decode s pos).2) (some pos) acc;simp[so]at this⊢;omega
  dsimp only;omega
theorem Je (s:Bytes):(words s).length<=s.length:=by
 unfold words Lib.goFieldsP Lib.spansOfP Lib.closeSpans;have h:=qq (fun r=>r==32) ⟨s.toArray⟩ (⟨s.toArray⟩:ByteArray).size 0 none [];have hs:(⟨s.toArray⟩:ByteArray).size=s.length:=rfl;rw[hs]at h⊢;generalize Lib.spansFromP (fun r=>r==32) ⟨s.toArray⟩ s.length 0 none []=x at h⊢;obtain⟨l,st⟩:=x;cases st<;>simp[so]at h⊢<;>omega
def Aw (r:dB):Prop:=∀o,-9223372036854775808<=(r.valueOf o).2.dY/\(r.valueOf o).2.dY<=9223372036854775807/\(r.valueOf o).2.data.length<=1000000
theorem Dk.has {w0 w w':World} (h:Dk P own w0 k w r w') {g:Nat} {o:Obj} (hg:Has w g o) (h0:own g=0) (hk:g≠k):Has w' g o:=by
 obtain⟨own1,MU,Nd,v1,-,-,h3⟩:=h;exact h3.has hg fun e=>e.elim (fun e=>e h0) hk
theorem Dk.sf {w0 w w2 w3:World} (hb:Below w.heap.size w w2) (h:Dk P own w0 k w2 r w3) (hB:w.heap.size<w2.heap.size) (h0:own w.heap.size=0) (Ly:w0.heap.size<=w.heap.size) (hk:w.heap.size≠k) (u:Value):Dk P own w0 k w r (w3.setCell ⟨w.heap.size,0,none⟩ u):=by
 obtain⟨own1,MU,Nd,v1,h1,h2,h3⟩:=h;have e0:=h2 _ hB h0;(have Mm:∀g,g<w3.heap.size->g=w.heap.size->own1 g=0/\w0.heap.size<=g:=fun g _ e=>by subst e;exact⟨e0,Ly⟩);have ht:dD (fun g=>g=w.heap.size) w3 (w3.setCell ⟨w.heap.size,0,none⟩ u):=(dD.refl (fun g=>g=w.heap.size) w3).setCell (p:=⟨w.heap.size,0,none⟩) (.inr rfl) _;exact⟨own1,MU,Nd,v1,⟨ht.has h1.t_ (fun e=>hk e.symm),h1.free,h1.low,h1.world.ej (S:=fun g=>g=w.heap.size) ht (Ext.refl _ _) (fun g hg=>h1.world.fr g (by simpa using hg)) h1.world.low Mm,h1.base⟩,fun g hg e=>h2 g (Nat.lt_trans hg hB) e,((dD.fw hb (aq _)).trans h3 fun _ _ e=>e).setCell (p:=⟨w.heap.size,0,none⟩) (.inl (aq _)) _⟩
theorem Jf {name:Bytes} {cm:dB->List Bytes->gl×dB} (Oa:cmd name=some cm) :
 ∃f,iB name=some f/\(∀args w,(callFunc f args).run Tryz.prog w=.ok (.enter f args) w)/\∀ {P:Lib.PrintTabs} {own:Nat->Nat} {w0 w:World} {k ob db:Nat} {v:WV} {r:dB} (_:DkW P own w0 w k ob db v r) {b:Int} {n:Nat} (_:DF b n r) (_:b<=890000) (_:n<=100000) (_:∀e∈r.ef,mg e) (_:Aw r) (g o c:Nat) (ws:List Bytes) (_:gF w g o ws) (_:g<w.heap.size) (_:own g=0) (_:ws.length<=c) (_:ws.length<=100000) (_:∀x∈ws,x.length<=100000),
  Calls Tryz.prog f #[.pointer (some ⟨k,0,none⟩),.slice (some ⟨g,o,none⟩) ws.length c] w fun e w'=>Ends (cm r ws).1 e/\Dk P own w0 k w (cm r ws).2 w':=by
 rcases Av name with⟨rfl,KX,KC⟩|⟨rfl,KX,KC⟩|⟨rfl,KX,KC⟩|⟨rfl,KX,KC⟩|⟨rfl,KX,KC⟩|⟨rfl,KX,KC⟩|⟨rfl,KX,KC⟩|⟨rfl,KX,KC⟩|⟨rfl,KX,KC⟩|⟨rfl,KX,KC⟩|⟨rfl,KX,KC⟩|⟨rfl,KX,KC⟩|⟨rfl,KX,KC⟩|⟨rfl,KX,KC⟩|⟨rfl,KX,KC⟩|⟨rfl,KX,KC⟩|⟨rfl,KX,KC⟩|⟨rfl,KX,KC⟩|⟨rfl,KX,KC⟩|⟨KX,KC⟩
 all_goals first|obtain rfl:=aw (KC.symm.trans Oa)|exact absurd (KC.symm.trans Oa) (by simp)
 ·exact⟨_,KX,fun _ _=>by kernel_rfl,fun h b n hf hb L2 he Mk g o c ws hw hg Lo hc hl hs=>I3 h hf (by omega) g o c ws hw hg hc hl hs⟩
 ·exact⟨_,KX,fun _ _=>by kernel_rfl,fun h b n hf hb L2 he Mk g o c ws hw hg Lo hc hl hs=>IE h g o c ws hw hg hc hl hs⟩
 ·exact⟨_,KX,fun _ _=>by kernel_rfl,fun h b n hf hb L2 he Mk g o c ws hw hg Lo hc hl hs=>I2 h he (az hf.mu L2) g o c ws hw hg hc hl hs⟩
 ·exact⟨_,KX,fun _ _=>by kernel_rfl,fun h b n hf hb L2 he Mk g o c ws hw hg Lo hc hl hs=>Im h hf hb g o c ws hw hg hc hl hs⟩
 ·exact⟨_,KX,fun _ _=>by kernel_rfl,fun h b n hf hb L2 he Mk g o c ws hw hg Lo hc hl hs=>Ih h g o c ws hw hg hc hl hs⟩
 ·exact⟨_,KX,fun _ _=>by kernel_rfl,fun h b n hf hb L2 he Mk g o c ws hw hg Lo hc hl hs=>I4 h hf (by omega) g o c ws hw hg hc hl hs⟩
 ·exact⟨_,KX,fun _ _=>by kernel_rfl,fun h b n hf hb L2 he Mk g o c ws hw hg Lo hc hl hs=>Ig h hf (by omega) L2 g o c ws hw hg hc hl hs⟩
 ·exact⟨_,KX,fun _ _=>by kernel_rfl,fun h b n hf hb L2 he Mk g o c ws hw hg Lo hc hl hs=>Io h hf g o c ws hw hg hc hl hs⟩
 ·exact⟨_,KX,fun _ _=>by kernel_rfl,fun h b n hf hb L2 he Mk g o c ws hw hg Lo hc hl hs=>Ik h g o c ws hw hg hc hl hs⟩
 ·exact⟨_,KX,fun _ _=>by kernel_rfl,fun h b n hf hb L2 he Mk g o c ws hw hg Lo hc hl hs=>I5 h hf (by omega) g o c ws hw hg hc hl hs⟩
 ·exact⟨_,KX,fun _ _=>by kernel_rfl,fun h b n hf hb L2 he Mk g o c ws hw hg Lo hc hl hs=>Ii h g o c ws hw hg hc hl hs⟩
 ·exact⟨_,KX,fun _ _=>by kernel_rfl,fun h b n hf hb L2 he Mk g o c ws hw hg Lo hc hl hs=>Ib h hf (by omega) L2 g o c ws hw hg hc hl hs⟩
 ·exact⟨_,KX,fun _ _=>by kernel_rfl,fun h b n hf hb L2 he Mk g o c ws hw hg Lo hc hl hs=>I7 h hf (by omega) g o c ws hw hg hc hl hs⟩
 ·exact⟨_,KX,fun _ _=>by kernel_rfl,fun h b n hf hb L2 he Mk g o c ws hw hg Lo hc hl hs=>Il h g o c ws hw hg hc hl hs⟩
 ·exact⟨_,KX,fun _ _=>by kernel_rfl,fun h b n hf hb L2 he Mk g o c ws hw hg Lo hc hl hs=>IM h g o c ws hw hg hc hl hs⟩
 ·exact⟨_,KX,fun _ _=>by kernel_rfl,fun h b n hf hb L2 he Mk g o c ws hw hg Lo hc hl hs=>I6 h hf (by omega) g o c ws hw hg hc hl hs⟩
 ·exact⟨_,KX,fun _ _=>by kernel_rfl,fun h b n hf hb L2 he Mk g o c ws hw hg Lo hc hl hs=>Ij h g o c ws hw hg hc hl hs⟩
 ·exact⟨_,KX,fun _ _=>by kernel_rfl,fun h b n hf hb L2 he Mk g o c ws hw hg Lo hc hl hs=>IP h Mk g o c ws hw hg hc hl hs⟩
 exact⟨_,KX,fun _ _=>by kernel_rfl,fun h b n hf hb L2 he Mk g o c ws hw hg Lo hc hl hs=>IK h hf (by omega) L2 g o c ws hw hg Lo hc hs⟩
theorem Jg {name:Bytes} (h:cmd name=none):iB name=none:=by
 rcases Av name with⟨rfl,KX,KC⟩|⟨rfl,KX,KC⟩|⟨rfl,KX,KC⟩|⟨rfl,KX,KC⟩|⟨rfl,KX,KC⟩|⟨rfl,KX,KC⟩|⟨rfl,KX,KC⟩|⟨rfl,KX,KC⟩|⟨rfl,KX,KC⟩|⟨rfl,KX,KC⟩|⟨rfl,KX,KC⟩|⟨rfl,KX,KC⟩|⟨rfl,KX,KC⟩|⟨rfl,KX,KC⟩|⟨rfl,KX,KC⟩|⟨rfl,KX,KC⟩|⟨rfl,KX,KC⟩|⟨rfl,KX,KC⟩|⟨rfl,KX,KC⟩|⟨KX,KC⟩
 all_goals first|exact KX|exact absurd (KC.symm.trans h) (by simp)
theorem Jh (h:DkW P own w0 w k ob db v r) {b:Int} {n:Nat} (hf:DF b n r) (hb:b<=890000) (L2:n<=100000) (he:∀e∈r.ef,mg e) (Mk:Aw r) (LU:∀(name:Bytes) (cm:dB->List Bytes->gl×dB) (ws:List Bytes) (n:Int),cmd name=some cm->(cm r ws).1=gl.no n->0<=n/\n<=1000) (s:Bytes) (hs:s.length<=100000) :
 Calls Tryz.prog 10 #[.pointer (some ⟨k,0,none⟩),.string ⟨s.toArray⟩] w fun e w'=>e=.returned (.string ⟨(ji r s).1.toArray⟩)/\Dk P own w0 k w (ji r s).2 w':=by
 have hmf:∀(fn:Fn) (first cap:Array Value) (w:World),(Instr.makeFunc fn first cap).run Tryz.prog w=.ok (.func fn first cap) w:=fun _ _ _ _=>rfl;have H:=Hd h;have HW:=Hd fun (W:World)=>I9 s (by omega) W;have Tk:(words s).length<=100000/\∀x∈words s,x.length<=100000:=⟨az (Je s) hs,fun x hx=>az (Ag hx) hs⟩;obtain⟨x,hx⟩:∃x,x=ji r s:=⟨_,rfl⟩;rw[<- hx];unfold ji qn at hx
 cases RC:words s with
 |nil =>
  rw[RC]at HW hx
  dsimp only at hx
  subst hx
  simp only[aZ]at HW
  clear h Tk RC
  go_enter_defers Tryz.func10,Tryz.ntmps10
  (go_wp2_with (go_at_call 20;refine (HW.o _).mono ?_;rintro e w1 ⟨A,rfl,hA,-,KU,Kd⟩;have LP:=(Has.new w (.cells #[.string ⟨#[]⟩] 9)).below Kd (by simp);have v1:=LP.cell 0;have vf:=LP.frozen 0;have vl:=LP.lt;have Ki:=Hd (((Below.refl w.heap.size w).alloc (aq _) _).trans (Kd.mono (by simp)));have NG:=Hd LP;clear Kd LP));refine leaves_cons (f:=18) (args:=#[.pointer (some ⟨w.heap.size,0,none⟩)]) (by simp) (by simp[go_sem]) ?_;refine (uM ⟨w.heap.size,0,none⟩ _).mono ?_;rintro e u' TJ ⟨rfl,rfl,rfl⟩;have HX:(w1.setCell ⟨w.heap.size,0,none⟩ (.string ⟨#[111,107]⟩)).cell? ⟨w.heap.size,0,none⟩=some (.string ⟨#[111,107]⟩):=(NG.o.eu 0 _).cell 0;simp[Leaves,settle,results,Tryz.results10,go_sem];rw[HX];exact⟨_,rfl,rfl,H.o.here.below (Ki.o.setCell (aq _) _)⟩
 |cons nm ws =>
  rw[RC]at HW hx Tk;dsimp only at hx;have hwl1:nm.length<=100000:=Tk.2 nm (by simp);have HWL:=Hd Tk;obtain⟨m,hm⟩:∃m,m=(nm::ws).length:=⟨_,rfl⟩;rw[<- hm]at HW;(have Oj:m=ws.length+1:=by rw[hm];rfl);(have d0:((m:Int)==0)=false:=by simp only[beq_eq_false_iff_ne];omega);have HM:=Hd Oj;have HDO:=Hd fun (W:World)=>Jd W k nm (by omega);clear h Tk RC hm
  cases hc:cmd nm with
  |none =>
   rw[hc]at hx
   dsimp only at hx
   subst hx
   have afm:∀w,(Go.binOp .eql 29 .nilFunc .nilFunc).run Tryz.prog w=.ok (.bool true) w:=fun w=>by kernel_rfl
   rw[Jg hc,show lS k none=.nilFunc from rfl]at HDO
   clear hc
   go_enter_defers Tryz.func10,Tryz.ntmps10
   (go_wp2_with (first|(go_at_call 20;refine (HW.o _).mono ?_;rintro e w1 ⟨A,rfl,hA,-,KU,Kd⟩;have u0:=KU 0 nm rfl;have LP:=(Has.new w (.cells #[.string ⟨#[]⟩] 9)).below Kd (by simp);have Ki:=Hd (((Below.refl w.heap.size w).alloc (aq _) _).trans (Kd.mono (by simp)));have NG:=Hd LP;clear Kd LP KU)|(go_at_call 22;refine (HDO.o _).mono ?_;rintro e w2 ⟨rfl,Ke⟩;have TR:=NG.o.below Ke NG.o.lt;have Kn:=Hd (Ki.o.trans (Ke.mono Ki.o.size));have OO:=Hd TR;clear Ke TR)|(go_at_call 14;refine (jO 3 w2 (H.o.gz.below Kn.o).handle).mono ?_;rintro e w4 ⟨rfl,KB⟩)));have KG:=Hd (Kn.o.trans (KB.mono Kn.o.size));have SS:=Hd (OO.o.below KB OO.o.lt);have OC:=Hd (H.o.gz.below KG.o);clear KB;refine leaves_cons (f:=18) (args:=#[.pointer (some ⟨w.heap.size,0,none⟩)]) (by simp) (by simp[go_sem]) ?_;refine (uN w.heap.size _ 3 _ (SS.o.cell 0) (SS.o.frozen 0) P OC.o (by decide) (by decide)).mono ?_;rintro e u' TJ ⟨rfl,rfl,w5,Kx,rfl⟩;have HX:(w5.setCell ⟨w.heap.size,0,none⟩ (.string ⟨(jP++Lib.itoa 3).toArray⟩)).cell? ⟨w.heap.size,0,none⟩=some (.string ⟨(jP++Lib.itoa 3).toArray⟩):=((SS.o.below Kx SS.o.lt).eu 0 _).cell 0;simp[Leaves,settle,results,Tryz.results10,go_sem];rw[HX];exact⟨_,rfl,by show _=Value.string ⟨(jP++gR 3).toArray⟩;rw[jW 3 (by decide) (by decide)],H.o.here.below ((KG.o.trans (Kx.mono KG.o.size)).setCell (aq _) _)⟩
  |some cm =>
   rw[hc]at hx
   dsimp only at hx
   obtain⟨f,KX,heg,Vz⟩:=Jf hc
   rw[KX,show lS k (some f)=.func (.func f) #[.pointer (some ⟨k,0,none⟩)] #[] from rfl]at HDO
   have afm:∀w,(Go.binOp .eql 29 (.func (.func f) #[.pointer (some ⟨k,0,none⟩)] #[]) .nilFunc).run Tryz.prog w=.ok (.bool false) w:=fun w=>rfl
   have U3:=Hd fun (n:Int)=>LU nm cm ws n hc
   have VA:=Hd fun (W:World) (h9:DkW P own w0 W k ob db v r) (A o c:Nat) (KU:gF W A o ws) (hA:A<W.heap.size) (h0:own A=0) (hc:ws.length<=c)=>Vz h9 hf hb L2 he Mk A o c ws KU hA h0 hc (by have:=HWL.o.1;simp at this;omega) (fun x hx=>HWL.o.2 x (by simp[hx]))
   clear hc Vz KX hf he Mk
   go_enter_defers Tryz.func10,Tryz.ntmps10
   go_wp2_with (first|(go_at_call 20;refine (HW.o _).mono ?_;rintro e w1 ⟨A,rfl,hA,hAl,KU,Kd⟩;have u0:=KU 0 nm rfl;have LP:=(Has.new w (.cells #[.string ⟨#[]⟩] 9)).below Kd (by simp);have Ki:=Hd (((Below.refl w.heap.size w).alloc (aq _) _).trans (Kd.mono (by simp)));have NG:=Hd LP;have NL:=Hd KU;have Vy:=Hd hAl;have HA:=Hd hA;clear Kd LP KU hAl hA)|(go_at_call 22;refine (HDO.o _).mono ?_;rintro e w2 ⟨rfl,Ke⟩;have QK:=Hd Ke;have TR:=NG.o.below Ke NG.o.lt;have Kn:=Hd (Ki.o.trans (Ke.mono Ki.o.size));have OO:=Hd TR;clear Ke TR))
   case inl =>
    subst h;refine (VA.o w2 (H.o.below Kn.o) A 0 0 (fun j x hx=>by simp at hx) (ay (Vy.o (by rw[HM.o];simp)) QK.o.size) (H.o.world.fr A (by have:=HA.o;simp at this;omega)) (by simp)).mono ?_;intro e w3 Nu;obtain⟨y,hy⟩:∃y,y=cm r []:=⟨_,rfl⟩;have hsy:=U3.o;rw[<- hy]at Nu hsy hx;obtain⟨ya,yr⟩:=y;subst hx;obtain⟨Nu,Ns⟩:=Nu;dsimp only at Nu Ns;have Kg:w.heap.size<w2.heap.size:=OO.o.lt;(have Km:w.heap.size≠k:=fun e9=>by have:=H.o.t_.lt;omega);have v3:w3.cell? ⟨w.heap.size,0,none⟩=some (.string ⟨#[]⟩):=(Ns.cell (p:=⟨w.heap.size,0,none⟩) Kg (H.o.world.fr _ (aq _)) Km).trans (OO.o.cell 0);have Xv:=Ns.has OO.o (H.o.world.fr _ (aq _)) Km;have Xw:=Hd Xv;have QZ:=Hd Ns;have vf:=Xv.frozen 0;have vl:=Xv.lt
    cases ya with
    |yes b =>
     obtain rfl:=Nu;dsimp only;(go_wp2_with fail);refine leaves_cons (f:=18) (args:=#[.pointer (some ⟨w.heap.size,0,none⟩)]) (by simp) (by simp[go_sem]) ?_;refine (uM ⟨w.heap.size,0,none⟩ _).mono ?_;rintro e u' TJ ⟨rfl,rfl,rfl⟩;have HX:(w3.setCell ⟨w.heap.size,0,none⟩ (.string ⟨b.toArray⟩)).cell? ⟨w.heap.size,0,none⟩=some (.string ⟨b.toArray⟩):=(Xw.o.eu 0 _).cell 0;simp[Leaves,settle,results,Tryz.results10,go_sem];rw[HX];exact⟨_,rfl,rfl,Dk.sf Kn.o QZ.o OO.o.lt (H.o.world.fr _ (aq _)) H.o.world.fF.size Km _⟩
    |no n =>
     obtain rfl:=Nu;dsimp only;have Tl:=hsy n rfl;have OC:=Hd QZ.o.base;refine leaves_cons (f:=18) (args:=#[.pointer (some ⟨w.heap.size,0,none⟩)]) (by simp) (by simp[go_sem]) ?_;refine (uN w.heap.size _ n _ v3 vf P OC.o (by omega) (by omega)).mono ?_;rintro e u' TJ ⟨rfl,rfl,w5,Kx,rfl⟩;have HX:(w5.setCell ⟨w.heap.size,0,none⟩ (.string ⟨(jP++Lib.itoa n).toArray⟩)).cell? ⟨w.heap.size,0,none⟩=some (.string ⟨(jP++Lib.itoa n).toArray⟩):=((Xw.o.below Kx Xw.o.lt).eu 0 _).cell 0;simp[Leaves,settle,results,Tryz.results10,go_sem];rw[HX];exact⟨_,rfl,by show _=Value.string ⟨(jP++gR n).toArray⟩;rw[jW n (by omega) (by omega)],Dk.sf Kn.o (QZ.o.below Kx) OO.o.lt (H.o.world.fr _ (aq _)) H.o.world.fF.size Km _⟩
   case inr =>
    refine (VA.o w2 (H.o.below Kn.o) A 1 ws.length (fun j x hx=>((gF.below NL.o QK.o (Vy.o (by rw[HM.o];omega))) (j+1) x (by simpa using hx)).symm▸(by rw[bW,cT])) (ay (Vy.o (by rw[HM.o];omega)) QK.o.size) (H.o.world.fr A (by have:=HA.o;simp at this;omega)) (aq _)).mono ?_;intro e w3 Nu;obtain⟨y,hy⟩:∃y,y=cm r ws:=⟨_,rfl⟩;have hsy:=U3.o;rw[<- hy]at Nu hsy hx;obtain⟨ya,yr⟩:=y;subst hx;obtain⟨Nu,Ns⟩:=Nu;dsimp only at Nu Ns;have Kg:w.heap.size<w2.heap.size:=OO.o.lt;(have Km:w.heap.size≠k:=fun e9=>by have:=H.o.t_.lt;omega);have v3:w3.cell? ⟨w.heap.size,0,none⟩=some (.string ⟨#[]⟩):=(Ns.cell (p:=⟨w.heap.size,0,none⟩) Kg (H.o.world.fr _ (aq _)) Km).trans (OO.o.cell 0);have Xv:=Ns.has OO.o (H.o.world.fr _ (aq _)) Km;have Xw:=Hd Xv;have QZ:=Hd Ns;have vf:=Xv.frozen 0;have vl:=Xv.lt
    cases ya with
    |yes b =>
     obtain rfl:=Nu;dsimp only;(go_wp2_with fail);refine leaves_cons (f:=18) (args:=#[.pointer (some ⟨w.heap.size,0,none⟩)]) (by simp) (by simp[go_sem]) ?_;refine (uM ⟨w.heap.size,0,none⟩ _).mono ?_;rintro e u' TJ ⟨rfl,rfl,rfl⟩;have HX:(w3.setCell ⟨w.heap.size,0,none⟩ (.string ⟨b.toArray⟩)).cell? ⟨w.heap.size,0,none⟩=some (.string ⟨b.toArray⟩):=(Xw.o.eu 0 _).cell 0;simp[Leaves,settle,results,Tryz.results10,go_sem];rw[HX];exact⟨_,rfl,rfl,Dk.sf Kn.o QZ.o OO.o.lt (H.o.world.fr _ (aq _)) H.o.world.fF.size Km _⟩
    |no n =>
     obtain rfl:=Nu;dsimp only;have Tl:=hsy n rfl;have OC:=Hd QZ.o.base;refine leaves_cons (f:=18) (args:=#[.pointer (some ⟨w.heap.size,0,none⟩)]) (by simp) (by simp[go_sem]) ?_;refine (uN w.heap.size _ n _ v3 vf P OC.o (by omega) (by omega)).mono ?_;rintro e u' TJ ⟨rfl,rfl,w5,Kx,rfl⟩;have HX:(w5.setCell ⟨w.heap.size,0,none⟩ (.string ⟨(jP++Lib.itoa n).toArray⟩)).cell? ⟨w.heap.size,0,none⟩=some (.string ⟨(jP++Lib.itoa n).toArray⟩):=((Xw.o.below Kx Xw.o.lt).eu 0 _).cell 0;simp[Leaves,settle,results,Tryz.results10,go_sem];rw[HX];exact⟨_,rfl,by show _=Value.string ⟨(jP++gR n).toArray⟩;rw[jW n (by omega) (by omega)],Dk.sf Kn.o (QZ.o.below Kx) OO.o.lt (H.o.world.fr _ (aq _)) H.o.world.fF.size Km _⟩
end
section
variable {P:Lib.PrintTabs} {own:Nat->Nat} {w0 w w':World} {k ob db:Nat} {v:WV} {r r':dB}
theorem Jx {e:fB} (h:si e):mg e:=
 ⟨h.dT,⟨by have:=h.dL;omega,by have:=h.dL;omega⟩,⟨by have:=h.dF;omega,by have:=h.dF;omega⟩,fun h0=>⟨by have:=h.dY h0;omega,by have:=h.dY h0;omega⟩,fun h0=>by have:=h.len h0;omega⟩
theorem Jy (h:DkW P own w0 w k ob db v r) {b:Int} {n:Nat} (hf:DF b n r) (hb:b<=890000) (L2:n<=100000) (s:Bytes) (hs:s.length<=100000) :
 Calls Tryz.prog 10 #[.pointer (some ⟨k,0,none⟩),.string ⟨s.toArray⟩] w fun e w'=>e=.returned (.string ⟨(ji r s).1.toArray⟩)/\Dk P own w0 k w (ji r s).2 w':=
 Jh h hf hb L2 (fun e he=>Jx (Ay hf e he)) (fun o=>by have:=Az hf o;exact⟨by omega,by omega,by omega⟩) (fun _ _ _ _ hc e=>Jw hc e) s hs
end
end dk
end Go.Proofs.YtlhodcmdpchllaaGreatDoor
