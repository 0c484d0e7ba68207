/-
  The law WorldCalm holds of the given program, for every input; the card ties the listed variables to the program's text.
-/
import Derived.Test.YtjhdaojclilakaaGreatDoorHd
import Derived.Test.YtjhdaojclilakaaGreatDoorP44
import Derived.Test.YtjhdaojclilakaaGreatDoorP45
set_option maxHeartbeats 16000000
set_option maxRecDepth 1000000
namespace Go.Proofs.YtjhdaojclilakaaGreatDoor
section
variable {p q:Prop}
theorem abx (h:p:=by
 (obtain rfl:3=t:=by simpa using ht);exact sx):p:=h
end
namespace Pp
open Go.ChangeShapes Go.WideShapes Go.RowKit gC tS law fF kp fc
theorem lifted (os:Os) (started:os.Started) (H:Type) (enc:TypeId×Value->H) :
 ReturnsInHanded {} Tryz.checked os 3 .any (fun w args=>(Rows.worldCalmSpec.pre enc Tryz.prog Tryz.f3 [] false w args/\laidMetH Tryz.prog tS.laid w)/\sizedMet enc Tryz.prog Tryz.f3 (OpenSpec.ofChange Rows.worldCalmSpec) false w args)
  (Rows.worldCalmSpec.post enc Tryz.prog Tryz.f3 false true false false):=by
 refine Po (C:=Tryz.checked) (X:=fun w _=>laidMetH Tryz.prog tS.laid w) (fun _ _ _ r h=>h.of_heap r) tS.own started af Tryz.func3
  ⟨tT os,fun _ _=>0,⟨#[],#[VI 0,VI 0,VI 0,VI 0,.slice none 0 0,VI 0,VI 0],[]⟩,Pk os,Pn os _,rfl,(Input.okWide_of_okWideB af).2,⟨⟨ChangeSpec.pre_of_preB (fuel:=8) af,Pm os _⟩,sizedMet_of_sizedB (fuel:=8) af⟩,by
   simp only[Assume.holds]
   exact⟨ae,ae,fun _=>Modest.zero,ae,ae⟩⟩ ?_
 intro W base args s gs before d k u x;have a:∀(j:Nat) t v,Tryz.f3.params[j]?=some t->args[j]?=some v->Value.okWide Tryz.prog W .any base t v:=d;have y:=k;obtain⟨p,q,f,hV,rfl,z,Q6⟩:=k;have m:DataW.TrodAll enc Tryz.prog W 0 (fun _=>true) true Tryz.f3.params.toList args.toList s p:=f;rw[Tryz.params3]at m a;obtain⟨v0,B,d0,D,p0,q0,E,rfl,rfl,F,G⟩:=trodAll_cons m;obtain⟨v1,I,d1,J,p1,q1,rfl,rfl,rfl,K,L⟩:=trodAll_cons G;obtain⟨v2,M,d2,N,p2,q2,rfl,rfl,rfl,O,Q⟩:=trodAll_cons L;obtain⟨v3,R,d3,S,p3,q3,rfl,rfl,rfl,T,U⟩:=trodAll_cons Q;obtain⟨v4,V,d4,Y,p4,q4,rfl,rfl,rfl,g,Z⟩:=trodAll_cons U;obtain⟨v5,aa,d5,ad,p5,q5,rfl,rfl,rfl,h5,r5⟩:=trodAll_cons Z;obtain⟨v6,al,d6,an,p6,q6,rfl,rfl,rfl,h6,r6⟩:=trodAll_cons r5;obtain⟨rfl,rfl,rfl⟩:=trodAll_nil r6;(obtain rfl:args=#[v0,v1,v2,v3,v4,v5,v6]:=by cases args;simp_all);obtain⟨z0,rfl,-,-,-⟩:=open_int Tryz.underlying3 (a 0 3 v0 rfl rfl) F;obtain⟨z1,rfl,-,-,-⟩:=open_int Tryz.underlying3 (a 1 3 v1 rfl rfl) K;obtain⟨z2,rfl,-,-,-⟩:=open_int Tryz.underlying3 (a 2 3 v2 rfl rfl) O;obtain⟨z3,rfl,-,-,-⟩:=open_int Tryz.underlying3 (a 3 3 v3 rfl rfl) T;obtain⟨z5,rfl,-,-,-⟩:=open_int Tryz.underlying3 (a 5 3 v5 rfl rfl) h5;obtain⟨z6,rfl,-,-,-⟩:=open_int Tryz.underlying3 (a 6 3 v6 rfl rfl) h6;obtain⟨fuel,g⟩:=g;obtain⟨A,n,cap,l,e0,Rq,aq,o⟩:=MY 4 Tryz.underlying22 af aj yq (fun _ _ _ hl ht=>MZ hl ht) g;obtain⟨a0,b,c,rfl⟩:=okWide_slice Tryz.underlying22 (a 4 22 v4 rfl rfl);(obtain⟨rfl,rfl,rfl⟩:a0=A/\b=n/\c=cap:=by simpa[Value.cells]using e0);obtain⟨hk,i⟩:=Pj x u;refine (Pe (P:=Lib.goPrintTabs) W z0 z1 z2 z3 a0 b c l z5 z6 Rq hk i).mono fun e W' ⟨he,hb⟩=>?_;subst he;exact⟨_,rfl,MX y rfl rfl (fun t ht=>by rw[Tryz.params3]at ht;simp only[aH,bq,or_false]at ht;rcases ht with rfl|rfl|rfl|rfl|rfl|rfl|rfl<;>exact⟨af,of_decide_eq_true af⟩) (fun gs i=>by subst i;rfl) hb⟩
theorem Pq:Rows.WorldCalmSaid:=
 OpenClaim.holds_of_wide 3 Tryz.f3 rfl rfl rfl rfl rfl rfl rfl ⟨rfl,rfl,rfl,rfl,rfl⟩ rfl rfl rfl rfl rfl af Tryz.func3 af
  (of_decide_eq_true af) (by unfold Func.isWrapper;rw[if_neg (of_decide_eq_false af)];exact⟨rfl,rfl⟩)
  (fun os started H enc _=>lifted os started H enc)
theorem named:Tryz.prog.funcNamed "tenure/tenurekeep.WorldCalm" = some 3:=af
theorem Ps:Tryz.prog.wantsStandIn 22=false:=af
theorem sx:Tryz.prog.wantsStandIn 3=false:=af
theorem proved:Rows.WorldCalmCardSaid:=
 Claim7.holds_tied_plain_at .later [] [.data,.data,.data,.data,.handle,.sentinel,.sentinel,.pinned,.pinned,.pinned,.pinned,.pinned,.pinned] true (true,"0d9b6dadb58e7af5e64c141c1a66f8d6cf106b964046f04849e09e2a444518c9") true
  Pq (fun _ h=>by cases h) af (fun _ h=>by cases h) worldCalm_row_tie rfl ⟨rfl,rfl⟩ af rfl
  (fun f fn b a=>by
    obtain rfl:f=3:=aA (named.symm.trans b) |>.symm;obtain rfl:fn=Tryz.f3:=(aA (Tryz.func3.symm.trans a)).symm
    exact⟨af,fun j t ht=>by
     rw[Tryz.params3]at ht
     match j,ht with
     |0,ht =>
      exact abx
     |1,ht =>
      exact abx
     |2,ht =>
      exact abx
     |3,ht =>
      exact abx
     |4,ht =>
      (obtain rfl:22=t:=by simpa using ht);exact Ps
     |5,ht =>
      exact abx
     |6,ht =>
      exact abx
     |j+7,ht=>simp at ht⟩)
  af
#print axioms proved
end Pp
end Go.Proofs.YtjhdaojclilakaaGreatDoor
