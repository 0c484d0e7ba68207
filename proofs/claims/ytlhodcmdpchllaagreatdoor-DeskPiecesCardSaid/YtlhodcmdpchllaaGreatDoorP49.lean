/-
  The law DeskPieces holds of the given program, for every input; the card ties the listed variables to the program's text.
-/
import Derived.Test.YtlhodcmdpchllaaGreatDoorHd
import Derived.Test.YtlhodcmdpchllaaGreatDoorP37
import Derived.Test.YtlhodcmdpchllaaGreatDoorP48
set_option maxHeartbeats 16000000
set_option maxRecDepth 1000000
namespace Go.Proofs.YtlhodcmdpchllaaGreatDoor
namespace J6
open Go.ChangeShapes Go.WideShapes Go.RowKit eO qt law dZ
theorem J7 {W:World} (h:laidMetH Tryz.prog laid W):dk.qo W:=by
 obtain⟨h1,-⟩:=laidMetH_iff.1 h;rw[uU]at h1;have hL:laidMet Tryz.prog j0 W:=h1;obtain⟨a,s,hv,-⟩:=laid_sentinel (g:=5) hL.tail.tail.tail.tail (by kernel_rfl) (by kernel_rfl) Tryz.underlying40 AU Tryz.underlying246 Tryz.underlying248 rfl rfl Tryz.underlying9 (by kernel_rfl) (by kernel_rfl);exact⟨_,_,by simpa using World.var?_cell (show Tryz.prog.globalNamed "strconv.ErrRange" = some 5 by kernel_rfl) hv 0⟩
section
variable {H:Type} {enc:TypeId×Value->H}
theorem J8 {C:Checked} {os:Os} {f:FuncId} {fn:Func} {s:ChangeSpec} {conds:List PathCond} {apart fresh handsOn eV:Bool} {X:World->Array Value->Prop} {a:Assume}
 (hX:∀(w w':World) (args:Array Value),w.heap=w'.heap->X w args->X w' args)
 (own:ownKnob C.prog.godebug=none) (started:os.Started) (XA:C.prog.inits.idxOf? f=none) (KX:C.prog.funcs[f]?=some fn)
 (witness:∃(w:World) (tape:Tape) (i:Input),w.os=os/\(w.forCall tape i).Shaped C.prog/\i.vars=[]/\Input.okWide C.prog (w.forCall tape i) .any w.heap.size f i /\
   ((s.pre enc C.prog fn conds apart (w.forCall tape i).memory i.args/\X (w.forCall tape i).memory i.args)/\sizedMet enc C.prog fn (OpenSpec.ofChange s) apart (w.forCall tape i).memory i.args)/\a.holds C.prog (lone (Frame.enter C.prog f i.args .normal) [] (w.forCall tape i)))
 (Tb:∀(W:World) (base:Nat) (args:Array Value) (ds gs:List (DataW H)) (before:List MemPlace),
   (∀(j:Nat) t v,fn.params[j]?=some t->args[j]?=some v->Value.okWide C.prog W .any base t v) ->
   DataW.Whole enc C.prog fn.params.toList s.vars apart W args.toList ds gs before ->
   (DataW.weightsEach C.prog (fn.params.toList++s.plain.varTypes C.prog) (ds++gs)).all (·<=reachBytes)=true ->
   W.ShapedOpen C.prog->X W args ->
   Calls C.prog f args W fun e W'=>∃v,e=.returned v/\s.post enc C.prog fn apart fresh handsOn eV W args v W') :
 ReturnsInHanded a C os f .any (fun w args=>(s.pre enc C.prog fn conds apart w args/\X w args)/\sizedMet enc C.prog fn (OpenSpec.ofChange s) apart w args) (s.post enc C.prog fn apart fresh handsOn eV):=by
 refine returnsInHanded_of_calls own started XA witness ?_;intro w tape i _ QS _ L5 Qd _;obtain⟨_,_,_,fn',afx,_,_,_,_,hval⟩:=L5;have e:fn'=fn:=aw (afx.symm.trans KX);subst e;obtain⟨⟨⟨ds,gs,before,hw,hc⟩,hx⟩,hz⟩:=Qd;have hw':=DataW.Whole.of_heap (w':=w.forCall tape i) (by rfl) hw;refine (Tb (w.forCall tape i) w.heap.size i.args ds gs before hval hw' (hz.weights hw) QS (hX _ _ _ (by rfl) hx)).mono fun e W' ⟨v,he,hp⟩=>?_;subst he;exact ChangeSpec.post_blind hp
end
theorem lifted (os:Os) (started:os.Started) (H:Type) (enc:TypeId×Value->H) :
 ReturnsInHanded {} Tryz.checked os 3 .any (fun w args=>(Rows.deskPiecesSpec.pre enc Tryz.prog Tryz.f3 [] false w args/\laidMetH Tryz.prog qt.laid w)/\sizedMet enc Tryz.prog Tryz.f3 (OpenSpec.ofChange Rows.deskPiecesSpec) false w args)
  (Rows.deskPiecesSpec.post enc Tryz.prog Tryz.f3 false true false false):=by
 refine J8 (C:=Tryz.checked) (X:=fun w _=>laidMetH Tryz.prog qt.laid w) (fun _ _ _ hh h=>h.of_heap hh) qt.own started (by kernel_rfl) Tryz.func3
  ⟨qu os,fun _ _=>0,⟨#[],#[.string ⟨#[]⟩,.string ⟨#[]⟩],[]⟩,J3 os,J5 os _,rfl,(Input.okWide_of_okWideB (by kernel_rfl)).2,⟨⟨ChangeSpec.pre_of_preB (fuel:=8) (by kernel_rfl),J4 os _⟩,sizedMet_of_sizedB (fuel:=8) (by kernel_rfl)⟩,by
   simp only[Assume.holds]
   exact⟨by simp,by simp,fun _=>Modest.zero,by simp,by simp⟩⟩ ?_
 intro W base args ds gs before abn hW hz QS hL;have hval:∀(j:Nat) t v,Tryz.f3.params[j]?=some t->args[j]?=some v->Value.okWide Tryz.prog W .any base t v:=abn;have Kc:=hW;obtain⟨p,q,hA0,hV,rfl,hfz,P5⟩:=hW;have hA:DataW.TrodAll enc Tryz.prog W 0 (fun _=>true) true Tryz.f3.params.toList args.toList ds p:=hA0;rw[Tryz.params3]at hA hval;obtain⟨v0,vs0,d0,ds0,p0,q0,aho,rfl,rfl,h0,r0⟩:=trodAll_cons hA;obtain⟨v1,vs1,d1,ds1,p1,q1,rfl,rfl,rfl,h1,r1⟩:=trodAll_cons r0;obtain⟨rfl,rfl,rfl⟩:=trodAll_nil r1;(obtain rfl:args=#[v0,v1]:=by cases args;simp_all);obtain⟨s0,rfl,rfl,-,-⟩:=Go.ChangeMaps.open_string Tryz.underlying9 (hval 0 9 v0 rfl rfl) h0;obtain⟨s1,rfl,rfl,-,-⟩:=Go.ChangeMaps.open_string Tryz.underlying9 (hval 1 9 v1 rfl rfl) h1;obtain⟨a,rfl⟩:∃a:List UInt8,s0=⟨a.toArray⟩:=⟨s0.data.toList,by simp⟩;obtain⟨b,rfl⟩:∃b:List UInt8,s1=⟨b.toArray⟩:=⟨s1.data.toList,by simp⟩;obtain⟨hk,hg⟩:=J2 hL QS
 have hz:a.length<=reachBytes/\b.length<=reachBytes:=by
  rw[Tryz.params3]at hz;simp[DataW.weightsEach,DataW.weights]at hz;exact⟨hz.1,hz.2.1⟩
 refine (dk.JX (P:=Lib.goPrintTabs) W ⟨hk,hg,J7 hL⟩ a b hz.1 hz.2).mono fun e W' ⟨he,hb⟩=>?_;subst he;exact⟨_,rfl,JY Kc rfl rfl (fun t ht=>by rw[Tryz.params3]at ht;simp only[aM,bc,or_false]at ht;rcases ht with rfl|rfl<;>exact⟨by kernel_rfl,of_decide_eq_true (by kernel_rfl)⟩) (fun gs hg=>by subst hg;rfl) hb⟩
theorem J9:Rows.DeskPiecesSaid:=
 OpenClaim.holds_of_wide 3 Tryz.f3 rfl rfl rfl rfl rfl rfl rfl ⟨rfl,rfl,rfl,rfl,rfl⟩ rfl rfl rfl rfl rfl (by kernel_rfl) Tryz.func3 (by kernel_rfl)
  (of_decide_eq_true (by kernel_rfl)) (by unfold Func.isWrapper;rw[if_neg (of_decide_eq_false (by kernel_rfl))];exact⟨rfl,rfl⟩)
  (fun os started H enc _=>lifted os started H enc)
theorem named:Tryz.prog.funcNamed "tenure/tenurekeep.DeskPieces" = some 3:=by kernel_rfl
theorem AW:Tryz.prog.wantsStandIn 9=false:=by kernel_rfl
theorem proved:Rows.DeskPiecesCardSaid:=
 Claim7.holds_tied_plain_at .later [] [.data,.data,.data,.data,.handle,.sentinel,.sentinel,.pinned,.pinned,.pinned,.pinned,.pinned,.pinned] true (true,"8d2d490364b00a0e8ab6516af6fb7907ac16693ac36534e5c2576feb81d85bfa") true
  J9 (fun _ h=>by cases h) (by kernel_rfl) (fun _ h=>by cases h) deskPieces_row_tie rfl ⟨rfl,rfl⟩ (by kernel_rfl) rfl
  (fun f fn hf KX=>by
    obtain rfl:f=3:=aw (named.symm.trans hf) |>.symm;obtain rfl:fn=Tryz.f3:=(aw (Tryz.func3.symm.trans KX)).symm
    exact⟨by kernel_rfl,fun j t ht=>by
     rw[Tryz.params3]at ht
     match j,ht with
     |0,ht =>
      (obtain rfl:9=t:=by simpa using ht);exact AW
     |1,ht =>
      (obtain rfl:9=t:=by simpa using ht);exact AW
     |j+2,ht=>simp at ht⟩)
  (by kernel_rfl)
#print axioms proved
end J6
end Go.Proofs.YtlhodcmdpchllaaGreatDoor
