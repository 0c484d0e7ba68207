/-
  A part of the proof of the law DeskPieces: DkC, DkH, DkI.
-/
import Derived.Test.YtlhodcmdpchllaaGreatDoorHd
import Derived.Test.YtlhodcmdpchllaaGreatDoorP06
import Derived.Test.YtlhodcmdpchllaaGreatDoorP34
import Derived.Test.YtlhodcmdpchllaaGreatDoorP38
set_option maxHeartbeats 16000000
set_option maxRecDepth 1000000
namespace Go.Proofs.YtlhodcmdpchllaaGreatDoor
namespace dk
open dI (Bytes dB eA)
open Go.RowKit heap eO dZ ff own fe
structure DkW (P:Lib.PrintTabs) (own:Nat->Nat) (w0 w:World) (k ob db:Nat) (v:WV) (r:dB):Prop where
 t_:Has w k (.cells #[.pointer (some ⟨ob,0,none⟩)] 28)
 free:own k=0
 low:w0.heap.size<=k
 world:dP P own w0 w ob db v r
 base:jY P w0
def Dk (P:Lib.PrintTabs) (own:Nat->Nat) (w0:World) (k:Nat) (w:World) (r:dB) (w':World):Prop:=
 ∃own1 MU Nd v1,DkW P own1 w0 w' k MU Nd v1 r/\(∀g,g<w.heap.size->own g=0->own1 g=0)/\dD (fun g=>own g≠0\/g=k) w w'
section
variable {P:Lib.PrintTabs} {own:Nat->Nat} {w0 w w1 w':World} {k ob db:Nat} {v:WV} {r r':dB}
theorem DkW.gz (h:DkW P own w0 w k ob db v r):jY P w:=h.base.below h.world.fF
theorem DkW.below (h:DkW P own w0 w k ob db v r) (hb:Below w.heap.size w w'):DkW P own w0 w' k ob db v r:=
 ⟨h.t_.below hb h.t_.lt,h.free,h.low,h.world.below hb fun g hg=>h.world.fr g (az hb.size hg),h.base⟩
theorem DkW.here (h:DkW P own w0 w k ob db v r):Dk P own w0 k w r w:=⟨own,ob,db,v,h,fun _ _ e=>e,dD.refl _ _⟩
theorem DkW.step (h:DkW P own w0 w k ob db v r) (hs:fe.eP P own w0 ob db w r' w'):Dk P own w0 k w r' w':=by
 obtain⟨own1,v1,h1,h2,h3⟩:=hs;exact⟨own1,ob,db,v1,⟨h3.has h.t_ (fun e=>e h.free),(h2 k h.t_.lt).trans h.free,h.low,h1,h.base⟩,fun g hg e=>(h2 g hg).trans e,h3.mono fun _ _ e=>.inl e⟩
theorem Dk.below (h:Dk P own w0 k w r w1) (hb:Below w1.heap.size w1 w'):Dk P own w0 k w r w':=by
 obtain⟨own1,MU,Nd,v1,h1,h2,h3⟩:=h;exact⟨own1,MU,Nd,v1,h1.below hb,h2,h3.gn hb (aq _)⟩
theorem Dk.ahead (hb:Below w.heap.size w w1) (h:Dk P own w0 k w1 r w'):Dk P own w0 k w r w':=by
 obtain⟨own1,MU,Nd,v1,h1,h2,h3⟩:=h;exact⟨own1,MU,Nd,v1,h1,fun g hg e=>h2 g (ay hg hb.size) e,(dD.fw hb (aq _)).trans h3 fun _ _ e=>e⟩
theorem Dk.trans {own1:Nat->Nat} (h2:∀g,g<w.heap.size->own g=0->own1 g=0) (h3:dD (fun g=>own g≠0\/g=k) w w1) (h:Dk P own1 w0 k w1 r w'):Dk P own w0 k w r w':=by
 obtain⟨own2,MU,Nd,v1,h1,h4,h5⟩:=h;refine⟨own2,MU,Nd,v1,h1,fun g hg e=>h4 g (ay hg h3.size) (h2 g hg e),h3.trans h5 fun g hg e=>?_⟩;rcases e with e|e
 ·exact .inl fun e0=>e (h2 g hg e0)
 exact .inr e
theorem Dk.size (h:Dk P own w0 k w r w'):w.heap.size<=w'.heap.size:=by
 obtain⟨own1,MU,Nd,v1,h1,h2,h3⟩:=h;exact h3.size
theorem Dk.cell (h:Dk P own w0 k w r w') {p:Addr} (hp:p.block<w.heap.size) (h0:own p.block=0) (hk:p.block≠k):w'.cell? p=w.cell? p:=by
 obtain⟨own1,MU,Nd,v1,h1,h2,h3⟩:=h;exact h3.cell hp fun e=>e.elim (fun e=>e h0) hk
theorem DkW.im (h:DkW P own w0 w k ob db v r):w.cell? ⟨k,0,none⟩=some (.pointer (some ⟨ob,0,none⟩)):=h.t_.cell 0
end
theorem Dk.base {P:Lib.PrintTabs} {own:Nat->Nat} {w0 w w':World} {k:Nat} {r:dB} (h:Dk P own w0 k w r w'):jY P w':=by
 obtain⟨own1,MU,Nd,v1,h1,-⟩:=h;exact h1.gz
end dk
namespace fe
open dI (Bytes dB eA)
open Go.RowKit heap eO dZ ff own
theorem eP.mw {P:Lib.PrintTabs} {own:Nat->Nat} {w0 w w':World} {k ob db:Nat} {v:WV} {r r':dB} (hs:eP P own w0 ob db w r' w') (h:dk.DkW P own w0 w k ob db v r):w'.cell? ⟨k,0,none⟩=w.cell? ⟨k,0,none⟩:=by
 obtain⟨own1,v1,h1,h2,h3⟩:=hs;exact h3.cell (p:=⟨k,0,none⟩) h.t_.lt fun e=>e h.free
theorem eP.free {P:Lib.PrintTabs} {own:Nat->Nat} {w0 w w':World} {ob db:Nat} {r':dB} (hs:eP P own w0 ob db w r' w') {p:Addr} (hp:p.block<w.heap.size) (h0:own p.block=0):w'.cell? p=w.cell? p:=by
 obtain⟨own1,v1,h1,h2,h3⟩:=hs;exact h3.cell hp fun e=>e h0
end fe
namespace dk
open dI (Bytes dB eA)
open Go.RowKit heap eO dZ ff own fe
def Ends:gl->Ending->Prop
 |.yes b,e=>e=.returned (.string ⟨b.toArray⟩)
 |.no n,e=>e=.panicked [{v:=oA n,recovered:=false}]
theorem Ia {ws:List Bytes}:∀ {l:List Int},fo ws=some l->l.length=ws.length:=by
 induction ws with
 |nil=>intro l h;obtain rfl:=aw h;rfl
 |cons s ws ih =>
  intro l h;unfold fo at h;split at h
  ·cases h
  split at h
  ·cases h
  rename_i vs hv;obtain rfl:=aw h;simp[ih hv]
theorem lA {ws:List Bytes} {n:Nat} {l:List Int} (h:ff.numbers ws n=some l):l.length=n:=by
 unfold ff.numbers at h;split at h
 ·cases h
 rename_i hn;rw[Ia h];simp only[aK,decide_eq_true_eq,not_and,Decidable.not_not]at hn;have:=hn (by omega);omega
theorem lf {w:World} {B:Nat} {u:Value} {l:List Int} (h:w.ownsRow B 3 1 u l.length (l.map (Value.int .i64))) (h0:0<l.length) :
 ∃g cap,u=.slice (some ⟨g,0,none⟩) l.length cap/\B<=g/\g<w.heap.size/\∀j,j<l.length->w.cell? ⟨g,j,none⟩=some (.int .i64 (at_ l j)):=by
 rcases h.2 with⟨-,h9⟩|⟨g,cap,cur,h1,hB,hg,-,-,-,h4⟩
 ·omega
 refine⟨g,cap,h1,hB,Has.lt (w:=w) hg,fun j hj=>?_⟩;rw[(ij (w:=w) (n:=l.length) (size:=1) hg h4 j (by omega)).1,aY,ax hj];unfold at_;rw[aB,ax hj];rfl
end dk
namespace dk
open dI (Bytes dB eA)
open Go.RowKit heap eO dZ ff own fe
section
variable {P:Lib.PrintTabs} {own:Nat->Nat} {w0 w w':World} {k ob db:Nat} {v:WV} {r r':dB}
theorem Ib (h:DkW P own w0 w k ob db v r) {b:Int} {n:Nat} (hf:DF b n r) (hb:b<=900000) (L2:n<=100000) (g o c:Nat) (ws:List Bytes) (hw:gF w g o ws) (hg:g<w.heap.size) (hc:ws.length<=c) (hl:ws.length<=100000) (hs:∀x∈ws,x.length<=100000) :
 Calls Tryz.prog 43 #[.pointer (some ⟨k,0,none⟩),.slice (some ⟨g,o,none⟩) ws.length c] w fun e w'=>Ends (oD r ws).1 e/\Dk P own w0 k w (oD r ws).2 w':=by
 have HN:=Hd (ja P w g o c ws 2 hw hg hc hl hs h.gz);have H:=Hd h;have HF:=Hd hf;obtain⟨x,hx⟩:∃x,x=oD r ws:=⟨_,rfl⟩;rw[<- hx]
 cases hn:ff.numbers ws 2 with
 |none =>
  (have Kf:x=(.no 3,r):=by rw[hx];unfold oD;rw[hn];rfl);rw[hn]at HN;subst Kf;clear hx hn hw h hf;(go_enter Tryz.func43,Tryz.ntmps43);(go_wp2_with (go_at_call 12;refine HN.o.mono ?_;rintro e w1 ⟨Kd,rfl⟩));exact⟨rfl,rfl,H.o.here.below Kd⟩
 |some l =>
  have Lm:=lA (n:=2) hn;(have Kf:x=told fP (r.read (at_ l 0) (at_ l 1)):=by rw[hx];unfold oD;rw[hn];rfl);rw[hn]at HN;have HX:=Hd Kf;have KM:=Hd Lm;clear hx Kf hn hw h hf Lm;(go_enter Tryz.func43,Tryz.ntmps43);(go_upto_region 2 with (go_at_call 12;refine HN.o.mono ?_;rintro e w1 ⟨Kd,u,rfl,KQ⟩;obtain⟨g2,cap,rfl,ND,KE,hcell⟩:=lf KQ (by rw[KM.o];decide)));have Me:=hcell 0 (by rw[KM.o];decide);have Ln:=hcell 1 (by rw[KM.o];decide);rw[KM.o];have KI:=Hd (H.o.below Kd);have Ki:=Hd Kd;have TF:Hy (own g2=0):=Hd (H.o.world.fr g2 ND);obtain⟨q0,NP⟩:∃q,q=at_ l 0:=⟨_,rfl⟩;obtain⟨q1,M8⟩:∃q,q=at_ l 1:=⟨_,rfl⟩;rw[<- NP]at Me HX;rw[<- M8]at Ln HX;have HS:Hy ((fun W=>W.cell? ⟨k,0,none⟩=some (.pointer (some ⟨ob,0,none⟩))/\W.cell? ⟨g2,0,none⟩=some (.int .i64 q0)/\W.cell? ⟨g2,1,none⟩=some (.int .i64 q1)) w1.drew):=Hd ⟨KI.o.im,Me,Ln⟩;have Lk:=Hd (KI.o.below (Below.refl _ _).drew);have HC:=Hd (by obtain⟨G,f1⟩:=HF.o.fits;exact GZ w1.drew q0 q1 f1.inv (by omega) f1.idx (by have:=HF.o.mu;omega) Lk.o.world);have Mu:Hy (g2<w1.drew.heap.size):=Hd KE;clear KQ hcell NP M8 Kd HN H Me Ln KI KE ND;refine last.head (fun W=>W.cell? ⟨k,0,none⟩=some (.pointer (some ⟨ob,0,none⟩))/\W.cell? ⟨g2,0,none⟩=some (.int .i64 q0)/\W.cell? ⟨g2,1,none⟩=some (.int .i64 q1)) 1000 12 ?_;refine last.many [(0,8,_),(1,9,_),(2,10,_),(3,11,_),(4,12,_),(5,13,_),(6,14,_),(7,15,_),(8,16,_),(9,17,_)] HS.o ?_ (hy:=fun W' Kc=>by have e0:=Kc.1;have e1:=Kc.2.1;have e2:=Kc.2.2;repeat (first|exact .z|refine .s ?_|refine .k ?_));refine last.one 10 fun K hK=>?_;go_simp;refine HC.o.mono ?_;rintro e w2 ⟨rfl,KU⟩;have LF:Hy (Dk P own w0 k w (r.read q0 q1).2 w2):=Hd (((Lk.o.step KU).ahead (Below.refl _ _).drew).ahead Ki.o);have Kq:Hy ((fun W=>W.cell? ⟨k,0,none⟩=some (.pointer (some ⟨ob,0,none⟩))/\W.cell? ⟨g2,0,none⟩=some (.int .i64 q0)/\W.cell? ⟨g2,1,none⟩=some (.int .i64 q1)) w2):=Hd ⟨(KU.mw Lk.o).trans HS.o.1,(KU.free Mu.o TF.o).trans HS.o.2.1,(KU.free Mu.o TF.o).trans HS.o.2.2⟩;have QB:Hy (Handle w2):=Hd LF.o.base.handle;clear KU HC;refine hK.out _ _ (fun _=>Kq.o) ?_;clear hK K HS;dsimp only[List.set];refine last.one 11 fun K hK=>?_;go_simp;obtain⟨z,hz⟩:∃z,z=(r.read q0 q1).1:=⟨_,rfl⟩;rw[<- hz];by_cases h0:z=0
  ·(have KA:x=(.yes fP,(r.read q0 q1).2):=by rw[HX.o];unfold told;rw[if_pos (by rw[<- hz];exact h0)]);subst h0;subst KA;rw[kx];refine (jV w2).mono ?_;rintro e w3 ⟨rfl,rfl⟩;refine hK.out _ _ (fun _=>Kq.o) ?_;clear hK K;dsimp only[List.set];refine last.done ?_;(go_wp2_with fail);go_ret;exact⟨rfl,LF.o⟩
  (have KA:x=(.no z,(r.read q0 q1).2):=by rw[HX.o];unfold told;rw[if_neg (by rw[<- hz];exact h0),hz]);subst KA;rw[iE h0];refine (jO z w2 QB.o).mono ?_;rintro e w3 ⟨rfl,Kk⟩;exact⟨rfl,rfl,LF.o.below Kk⟩
end
theorem Ic {own:Nat->Nat} {g:Nat} (h:dR.ey own g):own g≠0:=by
 unfold dR.ey at h;omega
theorem Ie {P:Lib.PrintTabs} {own:Nat->Nat} {w0 w:World} {ob db:Nat} {v:WV} {r:dB} (h:dP P own w0 w ob db v r):r.dM.l.length<=9223372036854775807:=by
 obtain⟨ps,-,⟨hr,-⟩,-⟩:=h.dM;rcases hr.2 with⟨-,h0⟩|⟨g,cap,cur,-,-,-,h1,h2,-⟩
 ·simp only[aS]at h0;omega
 unfold maxLen at h2;simp only[aS]at h1;omega
section
variable {P:Lib.PrintTabs} {own:Nat->Nat} {w0 w w':World} {k ob db:Nat} {v:WV} {r r':dB}
theorem Ig (h:DkW P own w0 w k ob db v r) {b:Int} {n:Nat} (_:DF b n r) (_:b<=900000) (_:n<=100000) (g o c:Nat) (ws:List Bytes) (hw:gF w g o ws) (hg:g<w.heap.size) (hc:ws.length<=c) (hl:ws.length<=100000) (hs:∀x∈ws,x.length<=100000) :
 Calls Tryz.prog 38 #[.pointer (some ⟨k,0,none⟩),.slice (some ⟨g,o,none⟩) ws.length c] w fun e w'=>Ends (oJ r ws).1 e/\Dk P own w0 k w (oJ r ws).2 w':=by
 have HN:=Hd (ja P w g o c ws 2 hw hg hc hl hs h.gz);have H:=Hd h;obtain⟨x,hx⟩:∃x,x=oJ r ws:=⟨_,rfl⟩;rw[<- hx]
 cases hn:ff.numbers ws 2 with
 |none =>
  (have Kf:x=(.no 3,r):=by rw[hx];unfold oJ;rw[hn];rfl);rw[hn]at HN;subst Kf;clear hx hn hw h;(go_enter Tryz.func38,Tryz.ntmps38);(go_wp2_with (go_at_call 12;refine HN.o.mono ?_;rintro e w1 ⟨Kd,rfl⟩));exact⟨rfl,rfl,H.o.here.below Kd⟩
 |some l =>
  have Lm:=lA (n:=2) hn;(have Kf:x=(.yes mm,r.kN (at_ l 0) (at_ l 1)):=by rw[hx];unfold oJ;rw[hn];rfl);rw[hn]at HN;have HX:=Hd Kf;have KM:=Hd Lm;clear hx Kf hn hw h Lm;(go_enter Tryz.func38,Tryz.ntmps38);(go_upto_region 2 with (go_at_call 12;refine HN.o.mono ?_;rintro e w1 ⟨Kd,u,rfl,KQ⟩;obtain⟨g2,cap,rfl,ND,KE,hcell⟩:=lf KQ (by rw[KM.o];decide)));have Me:=hcell 0 (by rw[KM.o];decide);have Ln:=hcell 1 (by rw[KM.o];decide);rw[KM.o];have KI:=Hd (H.o.below Kd);have Ki:=Hd Kd;have TF:Hy (own g2=0):=Hd (H.o.world.fr g2 ND);obtain⟨q0,NP⟩:∃q,q=at_ l 0:=⟨_,rfl⟩;obtain⟨q1,M8⟩:∃q,q=at_ l 1:=⟨_,rfl⟩;rw[<- NP]at Me HX;rw[<- M8]at Ln HX;have HS:Hy ((fun W=>W.cell? ⟨k,0,none⟩=some (.pointer (some ⟨ob,0,none⟩))/\W.cell? ⟨g2,0,none⟩=some (.int .i64 q0)/\W.cell? ⟨g2,1,none⟩=some (.int .i64 q1)) w1.drew):=Hd ⟨KI.o.im,Me,Ln⟩;have Lk:=Hd (KI.o.below (Below.refl _ _).drew);have HC:=Hd (Gj w1.drew q0 q1 Lk.o.world);have Mu:Hy (g2<w1.drew.heap.size):=Hd KE;clear KQ hcell NP M8 Kd HN H Me Ln KI KE ND;refine last.head (fun W=>W.cell? ⟨k,0,none⟩=some (.pointer (some ⟨ob,0,none⟩))/\W.cell? ⟨g2,0,none⟩=some (.int .i64 q0)/\W.cell? ⟨g2,1,none⟩=some (.int .i64 q1)) 1000 11 ?_;refine last.many [(0,8,_),(1,9,_),(2,10,_),(3,11,_),(4,12,_),(5,13,_),(6,14,_),(7,15,_),(8,16,_),(9,17,_)] HS.o ?_ (hy:=fun W' Kc=>by have e0:=Kc.1;have e1:=Kc.2.1;have e2:=Kc.2.2;repeat (first|exact .z|refine .s ?_|refine .k ?_));refine last.one 10 fun K hK=>?_;go_simp;refine HC.o.mono ?_;rintro e w2 ⟨rfl,Nh,Uu⟩;have KU:fe.eP P own w0 ob db w1.drew (r.kN q0 q1) w2:=⟨own,v,Nh,Ext.refl _ _,Uu.mono fun g _ e=>Ic e⟩;have LF:Hy (Dk P own w0 k w (r.kN q0 q1) w2):=Hd (((Lk.o.step KU).ahead (Below.refl _ _).drew).ahead Ki.o);have Kq:Hy ((fun W=>W.cell? ⟨k,0,none⟩=some (.pointer (some ⟨ob,0,none⟩))/\W.cell? ⟨g2,0,none⟩=some (.int .i64 q0)/\W.cell? ⟨g2,1,none⟩=some (.int .i64 q1)) w2):=Hd ⟨(KU.mw Lk.o).trans HS.o.1,(KU.free Mu.o TF.o).trans HS.o.2.1,(KU.free Mu.o TF.o).trans HS.o.2.2⟩;have KA:=HX.o;subst KA;clear KU HC Nh Uu;refine hK.out _ _ (fun _=>Kq.o) ?_;clear hK K HS;dsimp only[List.set];refine last.done ?_;(go_wp2_with fail);go_ret;exact⟨rfl,LF.o⟩
theorem Ih (h:DkW P own w0 w k ob db v r) (g o c:Nat) (ws:List Bytes) (hw:gF w g o ws) (hg:g<w.heap.size) (hc:ws.length<=c) (hl:ws.length<=100000) (hs:∀x∈ws,x.length<=100000) :
 Calls Tryz.prog 36 #[.pointer (some ⟨k,0,none⟩),.slice (some ⟨g,o,none⟩) ws.length c] w fun e w'=>Ends (oK r ws).1 e/\Dk P own w0 k w (oK r ws).2 w':=by
 have HN:=Hd (ja P w g o c ws 0 hw hg hc hl hs h.gz);have H:=Hd h;obtain⟨x,hx⟩:∃x,x=oK r ws:=⟨_,rfl⟩;rw[<- hx]
 cases hn:ff.numbers ws 0 with
 |none =>
  (have Kf:x=(.no 3,r):=by rw[hx];unfold oK;rw[hn];rfl);rw[hn]at HN;subst Kf;clear hx hn hw h;(go_enter Tryz.func36,Tryz.ntmps36);(go_wp2_with (go_at_call 12;refine HN.o.mono ?_;rintro e w1 ⟨Kd,rfl⟩));exact⟨rfl,rfl,H.o.here.below Kd⟩
 |some l =>
  rw[hn]at HN;(have Kf:x=(.yes mq,r.oZ):=by rw[hx];unfold oK;rw[hn];rfl);subst Kf;clear hx hn hw h;(go_enter Tryz.func36,Tryz.ntmps36);(go_wp2_with (first|(go_at_call 12;refine HN.o.mono ?_;rintro e w1 ⟨Kd,u,rfl,-⟩;have hW:=H.o.below Kd;have k0:=hW.im;have KI:=Hd hW;have Ki:=Hd Kd;clear Kd hW)|(go_at_call 68;refine (FD w1 KI.o.world).mono ?_;rintro e w2 ⟨rfl,⟨v',Nh⟩,Uu⟩)));go_ret;exact⟨rfl,(KI.o.step ⟨own,v',Nh,Ext.refl _ _,KI.o.world.nj Uu⟩).ahead Ki.o⟩
theorem Ii (h:DkW P own w0 w k ob db v r) (g o c:Nat) (ws:List Bytes) (hw:gF w g o ws) (hg:g<w.heap.size) (hc:ws.length<=c) (hl:ws.length<=100000) (hs:∀x∈ws,x.length<=100000) :
 Calls Tryz.prog 42 #[.pointer (some ⟨k,0,none⟩),.slice (some ⟨g,o,none⟩) ws.length c] w fun e w'=>Ends (oO r ws).1 e/\Dk P own w0 k w (oO r ws).2 w':=by
 have HN:=Hd (ja P w g o c ws 0 hw hg hc hl hs h.gz);have H:=Hd h;obtain⟨x,hx⟩:∃x,x=oO r ws:=⟨_,rfl⟩;rw[<- hx]
 cases hn:ff.numbers ws 0 with
 |none =>
  (have Kf:x=(.no 3,r):=by rw[hx];unfold oO;rw[hn];rfl);rw[hn]at HN;subst Kf;clear hx hn hw h;(go_enter Tryz.func42,Tryz.ntmps42);(go_wp2_with (go_at_call 12;refine HN.o.mono ?_;rintro e w1 ⟨Kd,rfl⟩));exact⟨rfl,rfl,H.o.here.below Kd⟩
 |some l =>
  rw[hn]at HN;(have Kf:x=(.yes (gR r.dM.l.length),r):=by rw[hx];unfold oO;rw[hn];rfl);have MM:=Ie h.world;subst Kf;have HI:=Hd fun (w1:World) (hb:Below w.heap.size w w1)=>kQ (r.dM.l.length:Int) (by omega) (by omega) w1 (h.below hb).gz.hO.fD;have PY:=Hd (jW (r.dM.l.length:Int) (by omega) (by omega));clear hx hn hw h MM;(go_enter Tryz.func42,Tryz.ntmps42);(go_wp2_with (first|(go_at_call 12;refine HN.o.mono ?_;rintro e w1 ⟨Kd,u,rfl,-⟩;have hW:=H.o.below Kd;have k0:=hW.im;have KI:=Hd hW;have Ki:=Hd Kd;clear Kd hW)|(go_at_call 73;refine (FC w1 KI.o.world).mono ?_;rintro e w2 ⟨rfl,rfl⟩)|(go_at_call 19;refine (HI.o w1 Ki.o).mono ?_;rintro e w3 ⟨rfl,Kk⟩)));go_ret;refine⟨by rw[PY.o];rfl,(KI.o.here.below Kk).ahead Ki.o⟩
theorem Ij (h:DkW P own w0 w k ob db v r) (g o c:Nat) (ws:List Bytes) (hw:gF w g o ws) (hg:g<w.heap.size) (hc:ws.length<=c) (hl:ws.length<=100000) (hs:∀x∈ws,x.length<=100000) :
 Calls Tryz.prog 48 #[.pointer (some ⟨k,0,none⟩),.slice (some ⟨g,o,none⟩) ws.length c] w fun e w'=>Ends (oP r ws).1 e/\Dk P own w0 k w (oP r ws).2 w':=by
 have HN:=Hd (ja P w g o c ws 0 hw hg hc hl hs h.gz);have H:=Hd h;obtain⟨x,hx⟩:∃x,x=oP r ws:=⟨_,rfl⟩;rw[<- hx]
 cases hn:ff.numbers ws 0 with
 |none =>
  (have Kf:x=(.no 3,r):=by rw[hx];unfold oP;rw[hn];rfl);rw[hn]at HN;subst Kf;clear hx hn hw h;(go_enter Tryz.func48,Tryz.ntmps48);(go_wp2_with (go_at_call 12;refine HN.o.mono ?_;rintro e w1 ⟨Kd,rfl⟩));exact⟨rfl,rfl,H.o.here.below Kd⟩
 |some l =>
  rw[hn]at HN;(have Kf:x=(.yes (if r.eD.isSome then [116,114,117,101] else [102,97,108,115,101]),r):=by rw[hx];unfold oP;rw[hn];rfl);subst Kf;obtain⟨z,hz⟩:∃z,z=r.eD.isSome:=⟨_,rfl⟩;have HZ:=Hd hz;rw[<- hz];clear hx hn hw h hz;(go_enter Tryz.func48,Tryz.ntmps48);go_wp2_with (first|(go_at_call 12;refine HN.o.mono ?_;rintro e w1 ⟨Kd,u,rfl,-⟩;have hW:=H.o.below Kd;have k0:=hW.im;have KI:=Hd hW;have Ki:=Hd Kd;clear Kd hW)|(go_at_call 80;refine (FB w1 KI.o.world).mono ?_;rintro e w2 ⟨he,rfl⟩;rw[<- HZ.o]at he;subst he)|(go_at_call 79;refine (Tryz.strconv_FormatBool z w1).mono ?_;rintro e w3 ⟨rfl,rfl⟩))
  all_goals
   go_ret;exact⟨rfl,KI.o.here.ahead Ki.o⟩
theorem Ik (h:DkW P own w0 w k ob db v r) (g o c:Nat) (ws:List Bytes) (hw:gF w g o ws) (hg:g<w.heap.size) (hc:ws.length<=c) (hl:ws.length<=100000) (hs:∀x∈ws,x.length<=100000) :
 Calls Tryz.prog 40 #[.pointer (some ⟨k,0,none⟩),.slice (some ⟨g,o,none⟩) ws.length c] w fun e w'=>Ends (oS r ws).1 e/\Dk P own w0 k w (oS r ws).2 w':=by
 have HN:=Hd (ja P w g o c ws 0 hw hg hc hl hs h.gz);have H:=Hd h;obtain⟨x,hx⟩:∃x,x=oS r ws:=⟨_,rfl⟩;rw[<- hx]
 cases hn:ff.numbers ws 0 with
 |none =>
  (have Kf:x=(.no 3,r):=by rw[hx];unfold oS;rw[hn];rfl);rw[hn]at HN;subst Kf;clear hx hn hw h;(go_enter Tryz.func40,Tryz.ntmps40);(go_wp2_with (go_at_call 12;refine HN.o.mono ?_;rintro e w1 ⟨Kd,rfl⟩));exact⟨rfl,rfl,H.o.here.below Kd⟩
 |some l =>
  rw[hn]at HN;(have Kf:x=(.yes zR,r):=by rw[hx];unfold oS;rw[hn];rfl);subst Kf;clear hx hn hw h;(go_enter Tryz.func40,Tryz.ntmps40);(go_wp2_with (go_at_call 12;refine HN.o.mono ?_;rintro e w1 ⟨Kd,u,rfl,-⟩;have hW:=H.o.below Kd;have k0:=hW.im;have KI:=Hd hW;have Ki:=Hd Kd;clear Kd hW));go_ret;exact⟨rfl,KI.o.here.ahead Ki.o⟩
theorem Il (h:DkW P own w0 w k ob db v r) (g o c:Nat) (ws:List Bytes) (hw:gF w g o ws) (hg:g<w.heap.size) (hc:ws.length<=c) (hl:ws.length<=100000) (hs:∀x∈ws,x.length<=100000) :
 Calls Tryz.prog 45 #[.pointer (some ⟨k,0,none⟩),.slice (some ⟨g,o,none⟩) ws.length c] w fun e w'=>Ends (oL r ws).1 e/\Dk P own w0 k w (oL r ws).2 w':=by
 have HN:=Hd (ja P w g o c ws 0 hw hg hc hl hs h.gz);have H:=Hd h;obtain⟨x,hx⟩:∃x,x=oL r ws:=⟨_,rfl⟩;rw[<- hx]
 cases hn:ff.numbers ws 0 with
 |none =>
  (have Kf:x=(.no 3,r):=by rw[hx];unfold oL;rw[hn];rfl);rw[hn]at HN;subst Kf;clear hx hn hw h;(go_enter Tryz.func45,Tryz.ntmps45);(go_wp2_with (go_at_call 12;refine HN.o.mono ?_;rintro e w1 ⟨Kd,rfl⟩));exact⟨rfl,rfl,H.o.here.below Kd⟩
 |some l =>
  rw[hn]at HN;(have Kf:x=told lP r.gx:=by rw[hx];unfold oL;rw[hn];rfl);have HX:=Hd Kf;clear hx Kf hn hw h;(go_enter Tryz.func45,Tryz.ntmps45);obtain⟨z,hz⟩:∃z,z=r.gx.1:=⟨_,rfl⟩;by_cases h0:z=0
  ·(have KA:x=(.yes lP,r.gx.2):=by rw[HX.o];unfold told;rw[if_pos (by rw[<- hz];exact h0)]);have HZ:Hy (fx r.gx.1=.nilIface):=Hd (by rw[<- hz,h0];rfl);subst KA;clear h0 hz;(go_wp2_with (first|(go_at_call 12;refine HN.o.mono ?_;rintro e w1 ⟨Kd,u,rfl,-⟩;have hW:=H.o.below Kd;have k0:=hW.im;have KI:=Hd hW;have Ki:=Hd Kd;clear Kd hW)|(go_at_call 76;refine (uq w1 KI.o.world).mono ?_;rintro e w2 ⟨rfl,KU⟩;rw[HZ.o];have LF:=Hd ((KI.o.step KU).ahead Ki.o))|(go_at_call 14;refine (jV w2).mono ?_;rintro e w3 ⟨rfl,rfl⟩)));go_ret;exact⟨rfl,LF.o⟩
  (have KA:x=(.no z,r.gx.2):=by rw[HX.o];unfold told;rw[if_neg (by rw[<- hz];exact h0),hz]);have HZ:Hy (fx r.gx.1=.iface 52 (.int .i64 z)):=Hd (by rw[<- hz];exact iE h0);subst KA;clear h0 hz;(go_wp2_with (first|(go_at_call 12;refine HN.o.mono ?_;rintro e w1 ⟨Kd,u,rfl,-⟩;have hW:=H.o.below Kd;have k0:=hW.im;have KI:=Hd hW;have Ki:=Hd Kd;clear Kd hW)|(go_at_call 76;refine (uq w1 KI.o.world).mono ?_;rintro e w2 ⟨rfl,KU⟩;rw[HZ.o];have LF:=Hd ((KI.o.step KU).ahead Ki.o))|(go_at_call 14;refine (jO z w2 LF.o.base.handle).mono ?_;rintro e w3 ⟨rfl,Kk⟩)));exact⟨rfl,rfl,LF.o.below Kk⟩
end
end dk
end Go.Proofs.YtlhodcmdpchllaaGreatDoor
