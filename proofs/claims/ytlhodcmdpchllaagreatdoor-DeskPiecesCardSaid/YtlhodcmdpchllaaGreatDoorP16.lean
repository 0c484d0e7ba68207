/-
  A part of the proof of the law DeskPieces: LeaseA, LeaseB, LeaseK, LeaseC, LeaseD, LeaseD2, LeaseE.
-/
import Derived.Deep.RegionLaw
import Derived.WalkSpells
import Derived.WideKeyPair
import Derived.DeepKeys4
import Derived.Deep.LoopGhost
import Derived.Test.YtlhodcmdpchllaaGreatDoorHd
import Derived.Test.YtlhodcmdpchllaaGreatDoorP08
import Derived.Test.YtlhodcmdpchllaaGreatDoorP11
import Derived.Test.YtlhodcmdpchllaaGreatDoorP12
set_option maxHeartbeats 16000000
set_option maxRecDepth 1000000
namespace Go.Proofs.YtlhodcmdpchllaaGreatDoor
namespace fu
open Go.RowKit heap own
def eX (c:Int):Bool:=decide (0<=c)&&decide (c<4)
def eT (o:Int):Bool:=decide (0<=o)&&decide (o<8)
theorem jI (c o:Int) (w:World) :
 Calls Tryz.prog 213 #[.int .i64 c,.int .i64 o] w fun e w'=>e=.returned (.bool (eX c&&eT o))/\w=w':=by
 by_cases h1:0<=c
 ·by_cases h2:c<4
  ·by_cases h3:0<=o
   ·by_cases h4:o<8
    ·have d1:=decide_eq_true h1;have d2:=decide_eq_true h2;have d3:=decide_eq_true h3;have d4:=decide_eq_true h4;(have e:(eX c&&eT o)=true:=by simp[eX,eT,h1,h2,h3,h4]);rw[e];(go_enter Tryz.func213,Tryz.ntmps213);go_wp2;go_ret;exact⟨rfl,rfl⟩
    have d1:=decide_eq_true h1;have d2:=decide_eq_true h2;have d3:=decide_eq_true h3;have d4:=decide_eq_false h4;(have e:(eX c&&eT o)=false:=by simp[eX,eT,h1,h2,h3,h4]);rw[e];(go_enter Tryz.func213,Tryz.ntmps213);go_wp2;go_ret;exact⟨rfl,rfl⟩
   have d1:=decide_eq_true h1;have d2:=decide_eq_true h2;have d3:=decide_eq_false h3;(have e:(eX c&&eT o)=false:=by simp[eX,eT,h1,h2,h3]);rw[e];(go_enter Tryz.func213,Tryz.ntmps213);go_wp2;go_ret;exact⟨rfl,rfl⟩
  have d1:=decide_eq_true h1;have d2:=decide_eq_false h2;(have e:(eX c&&eT o)=false:=by simp[eX,eT,h1,h2]);rw[e];(go_enter Tryz.func213,Tryz.ntmps213);go_wp2;go_ret;exact⟨rfl,rfl⟩
 have d1:=decide_eq_false h1;(have e:(eX c&&eT o)=false:=by simp[eX,eT,h1]);rw[e];(go_enter Tryz.func213,Tryz.ntmps213);go_wp2;go_ret;exact⟨rfl,rfl⟩
def jy (m:Value) (vs ss:List Int):List Value:=m::(vs.map (Value.int .i64)++ss.map (Value.int .i64))
theorem sq {m:Value} {vs ss:List Int} {c:Nat} (hc:c<vs.length):(jy m vs ss)[1+c]?=some (.int .i64 (vs.getD c 0)):=by
 rw[cT];simp only[jy,aD];rw[aV (by simpa using hc),aY,ax hc];simp[List.getD,hc]
theorem uZ {m:Value} {vs ss:List Int} {c:Nat} (hv:vs.length=4) (hc:c<ss.length):(jy m vs ss)[5+c]?=some (.int .i64 (ss.getD c 0)):=by
 rw[show 5+c=(4+c)+1 from by omega];simp only[jy,aD];rw[aL (by simp;omega),aS,hv,cy,aY,ax hc];simp[List.getD,hc]
theorem Bp (p:Value) (c dE:Int) (w:World) (h:eX c=false) :
 Calls Tryz.prog 200 #[p,.int .i64 c,.int .i64 dE] w fun e w'=>e=.returned (.bool false)/\w=w':=by
 have R:=jI c 0 w;rw[h,dA]at R;(go_enter Tryz.func200,Tryz.ntmps200);(go_wp2_with (go_at_call 213;refine R.mono ?_;rintro e w' ⟨rfl,rfl⟩));go_ret;exact⟨rfl,rfl⟩
theorem Bq (b:Nat) (m:Value) (vs ss:List Int) (c:Nat) (dE:Int) (w:World) (hB:Has w b (.cells (jy m vs ss).toArray 154)) (hv:vs.length=4) (hc:c<4) :
 Calls Tryz.prog 200 #[.pointer (some ⟨b,0,none⟩),.int .i64 c,.int .i64 dE] w fun e w'=>e=.returned (.bool (decide (dE<vs.getD c 0)))/\w=w':=by
 have R:=jI c 0 w;(have e0:(eX c&&eT 0)=true:=by simp[eX,eT];omega);rw[e0]at R;(have k0:w.cell? ⟨b,1+c,none⟩=some (.int .i64 (vs.getD c 0)):=by rw[hB.cell,<- sq (m:=m) (ss:=ss) (c:=c) (by omega)];simp);(have k1:w.cell? ⟨b,c+1,none⟩=some (.int .i64 (vs.getD c 0)):=by rw[cT];exact k0);(have N2:(c:Int)<4:=by omega);generalize vs.getD c 0=x at k0 k1;clear hB;(go_enter Tryz.func200,Tryz.ntmps200);(go_wp2_with (go_at_call 213;refine R.mono ?_;rintro e w' ⟨rfl,rfl⟩));go_ret;exact⟨rfl,rfl⟩
theorem Br (p:Value) (c:Int) (w:World) (h:eX c=false) :
 Calls Tryz.prog 212 #[p,.int .i64 c] w fun e w'=>e=.returned (.tuple #[.int .i64 0,.iface 52 (.int .i64 2)])/\w=w':=by
 have R:=jI c 0 w;rw[h,dA]at R;(go_enter Tryz.func212,Tryz.ntmps212);(go_wp2_with (go_at_call 213;refine R.mono ?_;rintro e w' ⟨rfl,rfl⟩));exact bodyPost_ret (v:=.tuple #[.int .i64 0,.iface 52 (.int .i64 2)]) (by simp[results,Tryz.results212,go_sem]) rfl ⟨rfl,rfl⟩
theorem Bs (b:Nat) (m:Value) (vs ss:List Int) (c:Nat) (w:World) (hB:Has w b (.cells (jy m vs ss).toArray 154)) (hv:vs.length=4) (hs:ss.length=4) (hc:c<4) :
 Calls Tryz.prog 212 #[.pointer (some ⟨b,0,none⟩),.int .i64 c] w fun e w'=>e=.returned (.tuple #[.int .i64 (ss.getD c 0),.nilIface])/\w=w':=by
 have R:=jI c 0 w;(have e0:(eX c&&eT 0)=true:=by simp[eX,eT];omega);rw[e0]at R;(have k0:w.cell? ⟨b,5+c,none⟩=some (.int .i64 (ss.getD c 0)):=by rw[hB.cell,<- uZ (m:=m) (vs:=vs) (c:=c) hv (by omega)];simp);(have k1:w.cell? ⟨b,c+5,none⟩=some (.int .i64 (ss.getD c 0)):=by rw[cT];exact k0);(have N2:(c:Int)<4:=by omega);generalize ss.getD c 0=x at k0 k1;clear hB;(go_enter Tryz.func212,Tryz.ntmps212);(go_wp2_with (go_at_call 213;refine R.mono ?_;rintro e w' ⟨rfl,rfl⟩));exact bodyPost_ret (v:=.tuple #[.int .i64 x,.nilIface]) (by simp[results,Tryz.results212,go_sem]) rfl ⟨rfl,rfl⟩
theorem Bt (p:Value) (c u:Int) (w:World) (h:¬(eX c=true/\0<=u/\u<=1099511627776)) :
 Calls Tryz.prog 194 #[p,.int .i64 c,.int .i64 u] w fun e w'=>e=.returned (.iface 52 (.int .i64 2))/\w=w':=by
 have R:=jI c 0 w;have e1:eT 0=true:=rfl;rw[e1,Bool.and_true]at R
 cases hc:eX c with
 |false =>
  rw[hc]at R;(go_enter Tryz.func194,Tryz.ntmps194);(go_wp2_with (go_at_call 213;refine R.mono ?_;rintro e w' ⟨rfl,rfl⟩));go_ret;exact⟨rfl,rfl⟩
 |true =>
  rw[hc]at R h;by_cases h0:u<0
  ·have d0:=decide_eq_true h0;(go_enter Tryz.func194,Tryz.ntmps194);(go_wp2_with (go_at_call 213;refine R.mono ?_;rintro e w' ⟨rfl,rfl⟩));go_ret;exact⟨rfl,rfl⟩
  have d0:=decide_eq_false h0
  have h1:(1099511627776:Int)<u:=by
   have:¬(0<=u/\u<=1099511627776):=fun hh=>h ⟨rfl,hh⟩;omega
  have d1:=decide_eq_true h1;(go_enter Tryz.func194,Tryz.ntmps194);(go_wp2_with (go_at_call 213;refine R.mono ?_;rintro e w' ⟨rfl,rfl⟩));go_ret;exact⟨rfl,rfl⟩
theorem u7 {m:Value} {vs ss:List Int} {c:Nat} (x:Int) (hc:c<vs.length):(jy m vs ss).toArray.setIfInBounds (1+c) (.int .i64 x)=(jy m (vs.set c x) ss).toArray:=by
 rw[cT];simp only[jy,aF,aG];rw[cH _ _ (by simpa using hc),List.map_set]
theorem Bu (b:Nat) (m:Value) (vs ss:List Int) (c:Nat) (u:Int) (w:World) (hB:Has w b (.cells (jy m vs ss).toArray 154)) (hv:vs.length=4) (hc:c<4) (h0:0<=u) (h1:u<=1099511627776) :
 Calls Tryz.prog 194 #[.pointer (some ⟨b,0,none⟩),.int .i64 c,.int .i64 u] w fun e w'=>e=.returned .nilIface/\dD (fun k=>k=b) w w'/\Has w' b (.cells (jy m (vs.set c (max (vs.getD c 0) u)) ss).toArray 154):=by
 have R:=jI c 0 w
 have e0:(eX c&&eT 0)=true:=by simp[eX,eT];omega
 rw[e0]at R
 have k0:w.cell? ⟨b,1+c,none⟩=some (.int .i64 (vs.getD c 0)):=by rw[hB.cell,<- sq (m:=m) (ss:=ss) (c:=c) (by omega)];simp
 have f0:w.frozen? ⟨b,1+c,none⟩=false:=hB.frozen _
 have N2:(c:Int)<4:=by omega
 have d0:decide (u<0)=false:=by simpa using h0
 have d1:decide ((1099511627776:Int)<u)=false:=by simpa using h1
 have HB:=Hd hB
 generalize hx:vs.getD c 0=x at k0
 clear hB
 go_enter Tryz.func194,Tryz.ntmps194
 go_wp2_with (go_at_call 213;refine R.mono ?_;rintro e w' ⟨rfl,rfl⟩)
 go_region
 all_goals go_wp2
 all_goals go_ret
 all_goals
  refine⟨rfl,((dD.refl (fun k=>k=b) w).drew).setCell (p:=⟨b,1+c,none⟩) (.inr rfl) _,?_⟩;rw[<- u7 _ (by omega)]
  first
   |(rw[show max x u=x from by omega];exact HB.o.drew.eu (1+c) (.int .i64 x))
   |(rw[show max x u=u from by omega];exact HB.o.drew.eu (1+c) (.int .i64 u))
end fu
namespace fu
open Go.RowKit Go.WideMaps fq
theorem laidOut:laidOutB Tryz.prog=true:=by kernel_rfl
theorem BL:(match Tryz.prog.underlying 288 with|some (.array _ _)|some (.struct _)=>true|_=>false)=true:=by rw[Tryz.underlying288]
theorem BM:(288:TypeId)<Tryz.prog.types.size:=of_decide_eq_true (by kernel_rfl)
theorem BN:Tryz.prog.keyTypeAt 2 288=true:=by kernel_rfl
theorem BO:KeyLaw Tryz.prog 288:=deep_law_laid laidOut (m:=2) (by omega) BM BN BL
theorem BP:Maps.Keyed Tryz.prog 288:=Maps.Keyed.of_law BO
theorem vq:∃m,Tryz.prog.types.size=m+1:=⟨346-1,by kernel_rfl⟩
theorem BQ (w:World):(zeroValue 3).run Tryz.prog w=.ok (.int .i64 0) w:=by kernel_rfl
theorem BR {c o:Int} (hc:gi c) (ho:gi o):keyOf Tryz.prog 288 (.agg #[.int .i64 c,.int .i64 o])=some (qy (c,o)):=by
 (have hkt:Tryz.prog.keyType 288=true:=by kernel_rfl);(have KW:Tryz.prog.cellsOf 288=2:=by kernel_rfl);(have XB:Tryz.prog.cellsOf 3=1:=by kernel_rfl);unfold gi at hc ho;obtain⟨m,hm⟩:=vq;unfold keyOf;simp only[Tryz.underlying288];rw[if_pos (by simp[hkt,Value.formed,Tryz.underlying288,KW]),hm];unfold Program.keyLits;simp only[Tryz.underlying288,Value.cells];rw[if_pos (by rw[KW];exact⟨rfl,by simp⟩)];simp[XB,Program.keyLits,Tryz.underlying3,hc,ho,qy]
theorem vt {m:Nat} {x:Value} {ls:List Lit} (h:Tryz.prog.keyLits (m+1) 3 [x]=some ls):∃c,x=.int .i64 c/\gi c/\ls=[.int .i64 c]:=by
 unfold Program.keyLits at h;simp only[Tryz.underlying3]at h;cases x<;>simp at h;obtain⟨⟨rfl,hw⟩,rfl⟩:=h;exact⟨_,rfl,hw,rfl⟩
theorem BS {P:Program} {K:TypeId} {fs:Array Field} (hu:P.underlying K=some (.struct fs)) {v:Value} (h:v.formed P K=true):∃cs,v=.agg cs/\cs.size=P.cellsOf K:=by
 cases v<;>simp[Value.formed,hu]at h;exact⟨_,rfl,h⟩
theorem mG (v:Value) (l:Lit) (h:keyOf Tryz.prog 288 v=some l):∃k,v=pM k/\l=qy k/\vo k:=by
 (have hkt:Tryz.prog.keyType 288=true:=by kernel_rfl);(have KW:Tryz.prog.cellsOf 288=2:=by kernel_rfl);(have XB:Tryz.prog.cellsOf 3=1:=by kernel_rfl);obtain⟨m,hm⟩:=vq;unfold keyOf at h;simp only[Tryz.underlying288]at h;split at h
 ·rename_i hf;obtain⟨cs,rfl,hs⟩:=BS Tryz.underlying288 ((aK _ _).mp hf).2;rw[KW]at hs;obtain⟨ls⟩:=cs;(have h2:ls.length=2:=by simpa using hs);clear hs hf
  have e2:∃a b,ls=[a,b]:=by
   clear h
   match ls,h2 with
   | [a,b],_=>exact⟨a,b,rfl⟩
  obtain⟨a,b,rfl⟩:=e2;rw[hm]at h;unfold Program.keyLits at h;simp only[Tryz.underlying288,Value.cells]at h;rw[if_pos (by rw[KW];exact⟨rfl,by simp⟩)]at h;simp[XB]at h
  cases hA:Tryz.prog.keyLits (m+1) 3 [a]with
  |none=>rw[hA]at h;cases h
  |some la =>
   cases hB:Tryz.prog.keyLits (m+1) 3 [b]with
   |none=>rw[hA,hB]at h;cases h
   |some lb =>
    obtain⟨c,rfl,hc,rfl⟩:=vt hA;obtain⟨o,rfl,ho,rfl⟩:=vt hB;rw[hA,hB]at h;exact⟨(c,o),rfl,(aw h).symm,hc,ho⟩
 cases h
noncomputable def fi:je Tryz.prog (Int×Int) Int:=
 vp 288 3 151 Tryz.underlying3 BQ Tryz.underlying151 BP pM qy vo (fun _ h=>BR h.1 h.2) mG BK
end fu
namespace fu
open Go.RowKit Go.WideMaps heap own dI fq
abbrev iM:=List ((Int×Int)×Int)
structure jR (w:World) (b m:Nat) (l:iM) (vs ss:List Int):Prop where
 t_:Has w b (.cells (jy (.map (some m)) vs ss).toArray 154)
 m_:At fi w m l
 ne:m≠b
 hv:vs.length=4
 hs:ss.length=4
theorem jR.cell0 {w:World} {b m:Nat} {l:iM} {vs ss:List Int} (h:jR w b m l vs ss):w.cell? ⟨b,0,none⟩=some (.map (some m)):=by
 rw[h.t_.cell];simp[jy]
theorem jR.grown {w w':World} {b m:Nat} {l l':iM} {vs ss:List Int} (h:jR w b m l vs ss) (hg:w.grownBy w' (some m)) (hm:At fi w' m l'):jR w' b m l' vs ss:=
 ⟨h.t_.grown hg (fun e=>h.ne (aw e).symm),hm,h.ne,h.hv,h.hs⟩
theorem BU (b m:Nat) (l:iM) (vs ss:List Int) (c o:Int) (w:World) (h:jR w b m l vs ss) (hc:gi c) (ho:gi o) :
 Calls Tryz.prog 195 #[.pointer (some ⟨b,0,none⟩),.int .i64 c,.int .i64 o] w fun e w'=>e=.returned (.tuple #[])/\jR w' b m (del (c,o) l) vs ss/\w.grownBy w' (some m):=by
 have k0:=h.cell0
 have H:=Hd h
 clear h
 go_enter Tryz.func195,Tryz.ntmps195
 go_wp2_with (at_delete;refine BG fi rfl (.tmp 9) (.tmp 12) rfl rfl H.o.m_ (k:=(c,o)) ⟨hc,ho⟩ rfl ?_;intro w1 Oj Q1)
 go_end0
 exact⟨rfl,H.o.grown Q1 Oj,Q1⟩
end fu
namespace fu
open Go.RowKit heap own dI fq
theorem BV (p:Value) (c o u:Int) (w:World) (h:¬((fu.eX c&&fu.eT o)=true/\0<=u/\u<=1099511627776)) :
 Calls Tryz.prog 188 #[p,.int .i64 c,.int .i64 o,.int .i64 u] w fun e w'=>e=.returned (.iface 52 (.int .i64 2))/\w=w':=by
 have R:=jI c o w
 cases hc:(fu.eX c&&fu.eT o)with
 |false =>
  rw[hc]at R;(go_enter Tryz.func188,Tryz.ntmps188);(go_wp2_with (go_at_call 213;refine R.mono ?_;rintro e w' ⟨rfl,rfl⟩));go_ret;exact⟨rfl,rfl⟩
 |true =>
  rw[hc]at R h;by_cases h0:u<0
  ·have d0:=decide_eq_true h0;(go_enter Tryz.func188,Tryz.ntmps188);(go_wp2_with (go_at_call 213;refine R.mono ?_;rintro e w' ⟨rfl,rfl⟩));go_ret;exact⟨rfl,rfl⟩
  have d0:=decide_eq_false h0
  have h1:(1099511627776:Int)<u:=by
   have:¬(0<=u/\u<=1099511627776):=fun hh=>h ⟨rfl,hh⟩;omega
  have d1:=decide_eq_true h1;(go_enter Tryz.func188,Tryz.ntmps188);(go_wp2_with (go_at_call 213;refine R.mono ?_;rintro e w' ⟨rfl,rfl⟩));go_ret;exact⟨rfl,rfl⟩
theorem BY {w w1:World} {o:Obj} {row:Option Nat} (h:(w.alloc o).drew.grownBy w1 row):w.grownBy w1 row:=
 ⟨h.os,h.tape,h.output,az (by simp) h.size,fun k hk hr=>(h.block k (by simp;omega) hr).trans (Below.heap_alloc _ _ _ hk)⟩
theorem BZ (b m:Nat) (l:iM) (vs ss:List Int) (c o u x y:Int) (w:World) (HY:Hy ((if u>x then u else x)=y)) (HX:Hy ((ez (c,o) l).getD 0=x)) (h:jR w b m l vs ss) (hl:l.length<1000) (hr:(fu.eX c&&fu.eT o)=true) (h0:0<=u) (h1:u<=1099511627776) (hc:gi c) (ho:gi o) (hu:gi y) :
 Calls Tryz.prog 188 #[.pointer (some ⟨b,0,none⟩),.int .i64 c,.int .i64 o,.int .i64 u] w fun e w'=>e=.returned .nilIface/\jR w' b m (put (c,o) y l) vs ss/\w.grownBy w' (some m):=by
 have R:=jI c o w;rw[hr]at R;(have d0:decide (u<0)=false:=by simpa using h0);(have d1:decide ((1099511627776:Int)<u)=false:=by simpa using h1);have H:=Hd h;have Kg:=h.t_.lt;obtain⟨V,hV⟩:∃V,V=w.alloc (.cells #[.int .i64 c,.int .i64 o] 288):=⟨_,rfl⟩
 have HS:Hy (V.cell? ⟨b,0,none⟩=some (.map (some m))/\V.cell? ⟨w.heap.size,0,none⟩=some (.int .i64 c)/\V.cell? ⟨w.heap.size,1,none⟩=some (.int .i64 o)/\At fi V m l):=by
  rw[hV];exact⟨(World.cell?_alloc_lt _ _ _ Kg).trans h.cell0,(Has.new w _).cell 0,(Has.new w _).cell 1,h.m_.below ((Below.refl _ _).alloc (aq _) _)⟩
 have HV:=Hd hV;clear h;(go_enter Tryz.func188,Tryz.ntmps188);(go_wp2_with (go_at_call 213;refine R.mono ?_;rintro e w' ⟨rfl,rfl⟩));rw[<- hV];refine last.oY (S:=fun W=>W.cell? ⟨b,0,none⟩=some (.map (some m))/\W.cell? ⟨w.heap.size,0,none⟩=some (.int .i64 c)/\W.cell? ⟨w.heap.size,1,none⟩=some (.int .i64 o)/\At fi W m l) (L:=13) (by kernel_rfl) ?_;refine last.jq 0 26 (.pointer (some ⟨b,0,none⟩)) rfl rfl (by kernel_rfl) (by kernel_rfl) (by kernel_rfl) (by kernel_rfl) (fun _ _ _ h=>h) HS.o (by rfl) (fun W hW=>by obtain⟨Kh,Kv,Kz,-⟩:=hW;go_simp) ?_;simp only[aF,aG,aI];refine last.jq 1 27 (.pointer (some ⟨b,0,none⟩)) rfl rfl (by kernel_rfl) (by kernel_rfl) (by kernel_rfl) (by kernel_rfl) (fun _ _ _ h=>h) HS.o (by rfl) (fun W hW=>by obtain⟨Kh,Kv,Kz,-⟩:=hW;go_simp) ?_;simp only[aF,aG,aI];refine last.jq 2 28 (.pointer (some ⟨b,0,none⟩)) rfl rfl (by kernel_rfl) (by kernel_rfl) (by kernel_rfl) (by kernel_rfl) (fun _ _ _ h=>h) HS.o (by rfl) (fun W hW=>by obtain⟨Kh,Kv,Kz,-⟩:=hW;go_simp) ?_;simp only[aF,aG,aI];refine last.jq 3 29 (.map (some m)) rfl rfl (by kernel_rfl) (by kernel_rfl) (by kernel_rfl) (by kernel_rfl) (fun _ _ _ h=>h) HS.o (by rfl) (fun W hW=>by obtain⟨Kh,Kv,Kz,-⟩:=hW;go_simp) ?_;simp only[aF,aG,aI];refine last.jq 4 30 (.agg #[.int .i64 c,.int .i64 o]) rfl rfl (by kernel_rfl) (by kernel_rfl) (by kernel_rfl) (by kernel_rfl) (fun _ _ _ h=>h) HS.o (by rfl) (fun W hW=>by obtain⟨Kh,Kv,Kz,-⟩:=hW;go_simp) ?_;simp only[aF,aG,aI];refine last.jq 5 31 (.pointer (some ⟨b,0,none⟩)) rfl rfl (by kernel_rfl) (by kernel_rfl) (by kernel_rfl) (by kernel_rfl) (fun _ _ _ h=>h) HS.o (by rfl) (fun W hW=>by obtain⟨Kh,Kv,Kz,-⟩:=hW;go_simp) ?_;simp only[aF,aG,aI];refine last.jq 6 32 (.pointer (some ⟨b,0,none⟩)) rfl rfl (by kernel_rfl) (by kernel_rfl) (by kernel_rfl) (by kernel_rfl) (fun _ _ _ h=>h) HS.o (by rfl) (fun W hW=>by obtain⟨Kh,Kv,Kz,-⟩:=hW;go_simp) ?_;simp only[aF,aG,aI];refine last.jq 7 33 (.pointer (some ⟨b,0,none⟩)) rfl rfl (by kernel_rfl) (by kernel_rfl) (by kernel_rfl) (by kernel_rfl) (fun _ _ _ h=>h) HS.o (by rfl) (fun W hW=>by obtain⟨Kh,Kv,Kz,-⟩:=hW;go_simp) ?_;simp only[aF,aG,aI];refine last.jq 8 34 (.map (some m)) rfl rfl (by kernel_rfl) (by kernel_rfl) (by kernel_rfl) (by kernel_rfl) (fun _ _ _ h=>h) HS.o (by rfl) (fun W hW=>by obtain⟨Kh,Kv,Kz,-⟩:=hW;go_simp) ?_;simp only[aF,aG,aI];refine last.jq 9 35 (.agg #[.int .i64 c,.int .i64 o]) rfl rfl (by kernel_rfl) (by kernel_rfl) (by kernel_rfl) (by kernel_rfl) (fun _ _ _ h=>h) HS.o (by rfl) (fun W hW=>by obtain⟨Kh,Kv,Kz,-⟩:=hW;go_simp) ?_;simp only[aF,aG,aI];refine last.jq 10 36 (.int .i64 x) rfl rfl (by kernel_rfl) (by kernel_rfl) (by kernel_rfl) (by kernel_rfl) (fun _ _ _ h=>h) HS.o (by rfl) (fun W hW=>by obtain⟨Kh,Kv,Kz,MX⟩:=hW;rw[<- HX.o];exact pL fi (.tmp 34) (.tmp 35) rfl (by go_simp) MX (k:=(c,o)) ⟨hc,ho⟩ (by go_simp;rfl)) ?_;simp only[aF,aG,aI];refine last.jq 11 37 (.int .i64 u) rfl rfl (by kernel_rfl) (by kernel_rfl) (by kernel_rfl) (by kernel_rfl) (fun _ _ _ h=>h) HS.o (by rfl) (fun W hW=>by obtain⟨Kh,Kv,Kz,-⟩:=hW;go_simp) ?_;simp only[aF,aG,aI];refine last.jq 12 38 (.int .i64 y) rfl rfl (by kernel_rfl) (by kernel_rfl) (by kernel_rfl) (by kernel_rfl) (fun _ _ _ h=>h) HS.o (by rfl) (fun W hW=>by obtain⟨Kh,Kv,Kz,-⟩:=hW;go_simp;exact HY.o) ?_;simp only[aF,aG,aI];refine last.iC (i:=13) (by kernel_rfl) rfl fun K hK=>?_;refine (if_pos (by rfl)).mpr ?_;refine pK fi (.tmp 29) (.tmp 30) (.tmp 38) rfl rfl HS.o.2.2.2 (by unfold maxLen;omega) (k:=(c,o)) ⟨hc,ho⟩ hu rfl rfl ?_;intro w1 Oj Q1;refine hK.out _ _ (fun h=>absurd rfl h) ?_;refine last.done ?_;go_wp2;go_ret;obtain rfl:=HV.o;have hb:jR (w.alloc (.cells #[.int .i64 c,.int .i64 o] 288)).drew b m l vs ss:=⟨(H.o.t_.alloc _).drew,H.o.m_.below (((Below.refl _ _).alloc (aq _) _).drew),H.o.ne,H.o.hv,H.o.hs⟩;exact⟨rfl,hb.grown Q1 Oj,BY Q1⟩
theorem B0 (b m:Nat) (l:iM) (vs ss:List Int) (c o u:Int) (w:World) (h:jR w b m l vs ss) (hl:l.length<1000) (hr:(fu.eX c&&fu.eT o)=true) (h0:0<=u) (h1:u<=1099511627776) (hc:gi c) (ho:gi o) (hu:gi (max ((ez (c,o) l).getD 0) u)) :
 Calls Tryz.prog 188 #[.pointer (some ⟨b,0,none⟩),.int .i64 c,.int .i64 o,.int .i64 u] w fun e w'=>e=.returned .nilIface/\jR w' b m (put (c,o) (max ((ez (c,o) l).getD 0) u) l) vs ss/\w.grownBy w' (some m):=
 BZ b m l vs ss c o u _ _ w (Hd (by split<;>omega)) (Hd rfl) h hl hr h0 h1 hc ho hu
theorem B1 (p:Value) (c:Int) (w:World) (h:fu.eX c=false) :
 Calls Tryz.prog 202 #[p,.int .i64 c] w fun e w'=>e=.returned (.iface 52 (.int .i64 2))/\w=w':=by
 have R:=jI c 0 w;rw[h,dA]at R;(go_enter Tryz.func202,Tryz.ntmps202);(go_wp2_with (go_at_call 213;refine R.mono ?_;rintro e w' ⟨rfl,rfl⟩));go_ret;exact⟨rfl,rfl⟩
noncomputable def lF (c:Nat) (left:Lit->Bool) (l:iM):iM:=l.filter fun e=>!decide (e.1.1=(c:Int))||left (fi.kl e.1)
theorem B3 {c:Nat} {left:Lit->Bool} {l:iM} (h:∀p∈l,left (fi.kl p.1)=true):lF c left l=l:=
 List.filter_eq_self.2 fun p hp=>by simp[h p hp]
theorem B4 {c:Nat} {left:Lit->Bool} {l:iM} (h:∀kl,left kl=false):lF c left l=l.filter (fun e=>!decide (e.1.1=(c:Int))):=by
 unfold lF;congr 1;funext e;simp[h]
theorem B5 {c:Nat} {left:Lit->Bool} {l:iM} {k:Int×Int} (L5:∀p∈l,fi.fR p.1) (hk:fi.fR k) (hc:k.1≠(c:Int)):lF c (fun z=>left z&&!z.sameKey (fi.kl k)) l=lF c left l:=by
 unfold lF;refine List.filter_congr fun p hp=>?_;by_cases hpc:p.1.1=(c:Int)
 ·have:p.1≠k:=fun e=>hc (e▸hpc);have hs:(fi.kl p.1).sameKey (fi.kl k)=false:=Maps.sameKey_ne fun e=>this (fi.mY (L5 p hp) hk e);simp[hpc,hs]
 simp[hpc]
theorem B6 {c:Nat} {left:Lit->Bool} {l:iM} {k:Int×Int} (L5:∀p∈l,fi.fR p.1) (hk:fi.fR k) (hc:k.1=(c:Int)):lF c (fun z=>left z&&!z.sameKey (fi.kl k)) l=del k (lF c left l):=by
 unfold lF;rw[qw,List.filter_filter];refine List.filter_congr fun p hp=>?_;by_cases US:p.1=k
 ·(have hs:(fi.kl p.1).sameKey (fi.kl k)=true:=by rw[US];exact WideAt.sameKey_self (fi.isKey hk));rw[US]at hs⊢;simp[hc,hs]
 have hs:(fi.kl p.1).sameKey (fi.kl k)=false:=Maps.sameKey_ne fun e=>US (fi.mY (L5 p hp) hk e);simp[US,hs]
theorem B7 {m:Value} {vs ss:List Int} {c:Nat} (x:Int) (hv:vs.length=4):(jy m vs ss).toArray.setIfInBounds (5+c) (.int .i64 x)=(jy m vs (ss.set c x)).toArray:=by
 rw[show 5+c=(4+c)+1 from by omega];simp only[jy,aF,aG];rw[bk _ _ (by simp;omega),aS,hv,cy,List.map_set]
theorem B8 (b m:Nat) (l:iM) (vs ss:List Int) (c:Nat) (w:World) (h:jR w b m l vs ss) (hc:c<4) :
 Calls Tryz.prog 202 #[.pointer (some ⟨b,0,none⟩),.int .i64 c] w fun e w'=>e=.returned .nilIface /\
  jR w' b m (l.filter (fun e=>!decide (e.1.1=(c:Int)))) (vs.set c 0) (ss.set c (wrap64 (ss.getD c 0+1)))/\dD (fun k=>k=b\/k=m) w w':=by
 have R:=jI c 0 w;(have e0:(eX c&&eT 0)=true:=by simp[eX,eT];omega);rw[e0]at R;have k0:=h.cell0;have L5:∀p∈l,fi.fR p.1:=fun p hp=>(h.m_.ok p hp).1;have OD:=Hd L5;have LJ:=h.t_.lt;have QE:=h.m_.lt;have HN:=Hd h.ne;have HV:=Hd h.hv;have UT:=Hd h.hs;have H:=Hd h;clear h L5;go_enter Tryz.func202,Tryz.ntmps202
 go_wp2_with (first
  |(go_at_call 213;refine R.mono ?_;rintro e w' ⟨rfl,rfl⟩)
  |(at_range;refine vj fi rfl (.tmp 13) rfl rfl H.o.m_ ?_;intro w0 R9 Sa OT Lo Tc))
 go_frame
 go_loopw [5] (fun _ wr=>∃(left:Lit->Bool) (NV:Nat),Over fi wr m w.heap.size l.length (lF c left l) left NV/\Has wr b (.cells (jy (.map (some m)) vs ss).toArray 154)/\dD (fun k=>k=b\/k=m) w wr/\w.heap.size<wr.heap.size)
  (fun _ wr=>wr.rangeLeft m w.heap.size)
 case atStart=>exact⟨R9,_,by rw[B3 OT];exact Sa,H.o.t_.grown Lo (by simp),(dD.refl _ _).grown Lo (by simp),by omega⟩
 case round =>
  clear Sa OT Lo Tc k0;obtain⟨left,NV,TG,hB,ht,hz⟩:=hrel;have HB:=Hd hB;have Q2:=Hd TG;clear hB;go_wp2_with (at_next;refine vm fi rfl (.tmp 14) rfl rfl TG ?_ ?_)
  ·intro _ Q3
   have k1:wr.cell? ⟨b,1+c,none⟩=some (.int .i64 (vs.getD c 0)):=by rw[HB.o.cell,<- sq (m:=.map (some m)) (ss:=ss) (c:=c) (by rw[HV.o];omega)];simp
   have f1:wr.frozen? ⟨b,1+c,none⟩=false:=HB.o.frozen _
   have k2:wr.cell? ⟨b,5+c,none⟩=some (.int .i64 (ss.getD c 0)):=by rw[HB.o.cell,<- uZ (m:=.map (some m)) (vs:=vs) (c:=c) HV.o (by rw[UT.o];omega)];simp
   have f2:wr.frozen? ⟨b,5+c,none⟩=false:=HB.o.frozen _
   have N2:(c:Int)<4:=by omega
   obtain⟨y,hy⟩:∃y,y=ss.getD c 0:=⟨_,rfl⟩
   rw[<- hy]at k2
   have HY:=Hd hy
   have HL:=Hd Q3
   clear hy Q3
   go_wp2
   go_region
   all_goals
    go_wp2;go_ret;refine⟨rfl,⟨?_,?_,HN.o,by simp[HV.o],by simp[UT.o]⟩,?_⟩
    ·rw[<- B7 _ (by simp[HV.o]),<- u7 _ (by rw[HV.o];omega),<- HY.o];exact ((HB.o.eu (1+c) _).eu (5+c) _).drew
    ·rw[<- B4 HL.o];exact (((TG.at_).far (p:=⟨b,1+c,none⟩) HN.o _).far (p:=⟨b,5+c,none⟩) HN.o _).drew
    exact ((ht.setCell (p:=⟨b,1+c,none⟩) (.inr (.inl rfl)) _).setCell (p:=⟨b,5+c,none⟩) (.inr (.inl rfl)) _).drew
  intro c' o' u w1 Sb hk hu Yr RB Sc Kg Q1 Ol Q0;have e1:fi.kv (c',o')=.agg #[.int .i64 c',.int .i64 o']:=rfl;have e2:fi.ev u=.int .i64 u:=rfl;rw[e1,e2]at Q0⊢;clear e1 e2;have HE:=Hd Yr;have XD:=Hd RB;have K2:=Hd Kg;have QF:=Hd Sc;have Td:=HB.o.grown Q1 (by simp;omega);(have k1:w1.cell? ⟨b,0,none⟩=some (.map (some m)):=by rw[Td.cell];simp[jy]);have Ki:=Hd Td;have KP:=Hd (ht.grown Q1 (fun k hk=>by cases hk;exact .inl (aq _)));(have KH:w.heap.size<w1.heap.size:=by omega);have Lj:=Hd Ol;(have acL:b<w1.heap.size:=by omega);clear Yr RB Kg Sc Td Q1 Ol TG ht;by_cases KC:c'=(c:Int)
  ·(have hd:((c':Int)==(c:Int))=true:=by simpa using KC);have HC:=Hd KC;clear KC;go_wp2
   have HS:Hy ((w1.alloc (.cells #[.int .i64 c',.int .i64 o'] 288)).drew.cell? ⟨b,0,none⟩=some (.map (some m))/\(w1.alloc (.cells #[.int .i64 c',.int .i64 o'] 288)).drew.cell? ⟨w1.heap.size,0,none⟩=some (.int .i64 c')/\(w1.alloc (.cells #[.int .i64 c',.int .i64 o'] 288)).drew.cell? ⟨w1.heap.size,1,none⟩=some (.int .i64 o')):=
    ⟨(World.cell?_alloc_lt _ _ _ acL).trans k1,(Has.new w1 _).cell 0,(Has.new w1 _).cell 1⟩
   refine last.oY (S:=fun W=>W.cell? ⟨b,0,none⟩=some (.map (some m))/\W.cell? ⟨w1.heap.size,0,none⟩=some (.int .i64 c')/\W.cell? ⟨w1.heap.size,1,none⟩=some (.int .i64 o')) (L:=6) (by kernel_rfl) ?_;refine last.jq 0 23 (.pointer (some ⟨b,0,none⟩)) rfl rfl (by kernel_rfl) (by kernel_rfl) (by kernel_rfl) (by kernel_rfl) (fun _ _ _ h=>h) HS.o (by rfl) (fun W hW=>by obtain⟨Kh,Kv,Kz⟩:=hW;go_simp) ?_;simp only[aF,aG,aI];refine last.jq 1 24 (.pointer (some ⟨b,0,none⟩)) rfl rfl (by kernel_rfl) (by kernel_rfl) (by kernel_rfl) (by kernel_rfl) (fun _ _ _ h=>h) HS.o (by rfl) (fun W hW=>by obtain⟨Kh,Kv,Kz⟩:=hW;go_simp) ?_;simp only[aF,aG,aI];refine last.jq 2 25 (.pointer (some ⟨b,0,none⟩)) rfl rfl (by kernel_rfl) (by kernel_rfl) (by kernel_rfl) (by kernel_rfl) (fun _ _ _ h=>h) HS.o (by rfl) (fun W hW=>by obtain⟨Kh,Kv,Kz⟩:=hW;go_simp) ?_;simp only[aF,aG,aI];refine last.jq 3 26 (.map (some m)) rfl rfl (by kernel_rfl) (by kernel_rfl) (by kernel_rfl) (by kernel_rfl) (fun _ _ _ h=>h) HS.o (by rfl) (fun W hW=>by obtain⟨Kh,Kv,Kz⟩:=hW;go_simp) ?_;simp only[aF,aG,aI];refine last.jq 4 27 (.agg #[.int .i64 c',.int .i64 o']) rfl rfl (by kernel_rfl) (by kernel_rfl) (by kernel_rfl) (by kernel_rfl) (fun _ _ _ h=>h) HS.o (by rfl) (fun W hW=>by obtain⟨Kh,Kv,Kz⟩:=hW;go_simp) ?_;simp only[aF,aG,aI];refine last.iC (i:=5) (by kernel_rfl) (by simp only[aC,aD,aE];exact rfl) fun K hK=>?_;refine (if_pos (by rfl)).mpr ?_;refine BJ fi (.tmp 26) (.tmp 27) rfl rfl (QF.o.alloc _).drew (k:=(c',o')) hk rfl ?_;intro w2 acM P4 Ys KE KY;simp only[Act.put]
   have Mz:w2.cell? ⟨b,0,none⟩=some (.map (some m))/\w2.cell? ⟨w1.heap.size,0,none⟩=some (.int .i64 c')/\w2.cell? ⟨w1.heap.size,1,none⟩=some (.int .i64 o'):=
    ⟨(World.cell?_of_block (KE.block b (by simp;omega) (fun e=>HN.o (aw e).symm))).trans HS.o.1,(World.cell?_of_block (KE.block w1.heap.size (by simp) (fun e=>by have:=aw e;omega))).trans HS.o.2.1,(World.cell?_of_block (KE.block w1.heap.size (by simp) (fun e=>by have:=aw e;omega))).trans HS.o.2.2⟩
   refine hK.out _ _ (fun _=>Mz) ?_;clear Mz;refine last.done ?_;have K4:=(((KP.o.alloc (.cells #[.int .i64 c',.int .i64 o'] 288)).drew).grown KE (fun k hk=>by cases hk;exact .inr (.inr rfl)));have Kn:=((Ki.o.alloc (.cells #[.int .i64 c',.int .i64 o'] 288)).drew).grown KE (fun e=>HN.o (aw e).symm);have KD:w.heap.size<w2.heap.size:=by rw[KY];simp;omega
   have Yt:Over fi w2 m w.heap.size l.length (lF c (fun z=>left z&&!z.sameKey (fi.kl (c',o'))) l) (fun z=>left z&&!z.sameKey (fi.kl (c',o'))) acM:=by
    rw[B6 OD.o hk HC.o];rw[Maps.strike_twice]at P4;exact P4
   have Yu:=Hd Yt;have QG:=Hd (And.intro K4 Kn);have Te:=Hd Ys;clear P4 Yt K4 Kn KE Ys KY;go_wp2;go_roundw;(case rel=>exact⟨_,_,Yu.o,QG.o.2,QG.o.1,KD⟩);case measure=>rw[Yu.o.left_eq,Q2.o.left_eq];exact Nat.lt_of_le_of_lt Te.o K2.o
  (have hd:((c':Int)==(c:Int))=false:=by simpa using KC);have HC:=Hd KC;clear KC;go_wp2;go_roundw;(case rel=>exact⟨_,Sb,by rw[B5 OD.o hk HC.o];exact QF.o.alloc _,Ki.o.alloc _,KP.o.alloc _,by simp;omega⟩);case measure=>rw[(QF.o.alloc _).left_eq,Q2.o.left_eq];exact K2.o
end fu
end Go.Proofs.YtlhodcmdpchllaaGreatDoor
