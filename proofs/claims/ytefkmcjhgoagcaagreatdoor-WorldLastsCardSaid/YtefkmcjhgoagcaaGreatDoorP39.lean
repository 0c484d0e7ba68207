/-
  A part of the proof of the law WorldLasts: LaidZ.
-/
import Derived.Test.YtefkmcjhgoagcaaGreatDoorCards
import Derived.Test.YtefkmcjhgoagcaaGreatDoorTie
import Derived.ChangeSame
import Derived.ChangeVars
import Derived.JoinedOf
import Derived.RowKit
import Derived.RowKitTokens
import Derived.LaidLaws
import Derived.LaidHandle
import Derived.LaidSub
import Derived.Stop.Joined
import Derived.SevenTiedAt
import Derived.PinnedBridge
import Derived.Lay
import Derived.Handed
import Derived.Stop.LaidErr
import Derived.Shelf.Vars
import Derived.Lib.LaidU8
import Derived.Lib.LaidPrint
import Derived.Lib.LaidTab
import Derived.Test.YtefkmcjhgoagcaaGreatDoorP19
namespace Go.Proofs.YtefkmcjhgoagcaaGreatDoor
namespace laidz
open Go.ChangeShapes Go.WideShapes Go.RowKit Go.Lib errs wal
def great : List (String × DataW Unit):=[("math/bits.deBruijn32tab",Rows.laid_math_bits_deBruijn32tab),("math/bits.deBruijn64tab",Rows.laid_math_bits_deBruijn64tab),("internal/strconv.uint64pow10",Rows.laid_internal_strconv_uint64pow10),("unicode/utf8.acceptRanges",Rows.laid_unicode_utf8_acceptRanges),("strconv.ErrRange",Rows.laid_strconv_ErrRange),("strconv.ErrSyntax",Rows.laid_strconv_ErrSyntax),("strconv.isGraphic",Rows.laid_strconv_isGraphic),("strconv.isNotPrint16",Rows.laid_strconv_isNotPrint16),("strconv.isNotPrint32",Rows.laid_strconv_isNotPrint32),("strconv.isPrint16",Rows.laid_strconv_isPrint16),("strconv.isPrint32",Rows.laid_strconv_isPrint32),("unicode/utf8.first",Rows.laid_unicode_utf8_first)]
def laid : List (String × DataW Unit):=[("math/bits.deBruijn32tab",Rows.laid_math_bits_deBruijn32tab),("math/bits.deBruijn64tab",Rows.laid_math_bits_deBruijn64tab),("internal/strconv.uint64pow10",Rows.laid_internal_strconv_uint64pow10),("unicode/utf8.acceptRanges",Rows.laid_unicode_utf8_acceptRanges),("errors.errorType",Rows.laid_errors_errorType),("strconv.ErrRange",Rows.laid_strconv_ErrRange),("strconv.ErrSyntax",Rows.laid_strconv_ErrSyntax),("strconv.isGraphic",Rows.laid_strconv_isGraphic),("strconv.isNotPrint16",Rows.laid_strconv_isNotPrint16),("strconv.isNotPrint32",Rows.laid_strconv_isNotPrint32),("strconv.isPrint16",Rows.laid_strconv_isPrint16),("strconv.isPrint32",Rows.laid_strconv_isPrint32),("unicode/utf8.first",Rows.laid_unicode_utf8_first)]
set_option maxRecDepth 100000 in
theorem plain_eq : (laid.filter fun x => x.2.handleName?.isNone) = great:=by kernel_rfl
set_option maxRecDepth 100000 in
theorem handle_eq : (laid.filter fun x => x.2.handleName?.isSome) = [("errors.errorType",Rows.laid_errors_errorType)]:=by kernel_rfl
theorem own : ownKnob Tryz.prog.godebug = none:=by kernel_rfl
theorem et : Tryz.prog.globalNamed "errors.errorType" = some 2:=by kernel_rfl
theorem rt : (Tryz.prog.cutTypes.find? (·.1 == "internal/reflectlite.rtype")).map (·.2) = some 272:=by kernel_rfl
theorem oneRow : ((List.range 333).filter fun t => Tryz.prog.rowNamed t [101,114,114,111,114]) = [39]:=by kernel_rfl
theorem size : Tryz.prog.types.size = 333:=by kernel_rfl
theorem handle_of {W : World} (h : handlesMet Tryz.prog [("errors.errorType",Rows.laid_errors_errorType)] W) : Handle W:=by
 obtain ⟨name,u,ty,e1,e2,e3,e4,e5⟩:=h _ (List.mem_singleton.2 rfl);have en : name = [101,114,114,111,114]:=(Option.some.inj e1).symm;subst en;obtain rfl:=Option.some.inj (rt.symm.trans e2);have hm : ty ∈ (List.range 333).filter fun t => Tryz.prog.rowNamed t [101,114,114,111,114]:=List.mem_filter.2 ⟨List.mem_range.2 (by rw [← size];exact e3),e4⟩;rw [oneRow] at hm;obtain rfl:=List.mem_singleton.1 hm;(have hh : typeHandle Tryz.prog 39 = .pointer (some ⟨14,39,none⟩):=by kernel_rfl);rw [hh] at e5;show W.cell? _ = _;simpa using World.var?_cell et e5 0
theorem star : "*" ++ "errors.errorString" = "*errors.errorString":=by decide
theorem rowE (u : TypeId) (h : Tryz.prog.typeName? 3 u = some "*errors.errorString") : u = 290:=
 typeName_ptr_named (nm:= "errors.errorString") (by rw [star];kernel_rfl) (by kernel_rfl) (by decide) u (by rw [star];exact h)
set_option maxRecDepth 100000 in
theorem kit_of {W : World} (h : laidMetH Tryz.prog laid W) (hsh : W.ShapedOpen Tryz.prog) : Kit goPrintTabs W ∧ Handle W:=by
 obtain ⟨h1,h2⟩:=laidMetH_iff.1 h;rw [plain_eq] at h1;rw [handle_eq] at h2;have hL : laidMet Tryz.prog great W:=h1;have t1:=hL.tail;have t2:=t1.tail;have t4:=t2.tail.tail;have t5:=t4.tail;refine ⟨⟨?_,?_,?_,?_,?_⟩,handle_of h2⟩
 ·exact tabIs_of_head (g:=6) (t:=294) (e:=204) (n:=20) (by kernel_rfl) (by kernel_rfl) (by kernel_rfl) (by kernel_rfl) (by kernel_rfl) (by kernel_rfl) t2
 ·exact printTabs_of_reads (ρ:=Tryz.lays177_ren) { Tryz.lays177 with } ⟨by kernel_rfl,by kernel_rfl,by kernel_rfl,by kernel_rfl,by kernel_rfl,by kernel_rfl,by kernel_rfl,by kernel_rfl,by kernel_rfl,by kernel_rfl⟩
   (Pinned.isPrint16_eq ▸ Lib.laidMet.reads hL (by unfold great;simp [Rows.laid_strconv_isPrint16])) (Pinned.isNotPrint16_eq ▸ Lib.laidMet.reads hL (by unfold great;simp [Rows.laid_strconv_isNotPrint16]))
   (Pinned.isPrint32_eq ▸ Lib.laidMet.reads hL (by unfold great;simp [Rows.laid_strconv_isPrint32])) (Pinned.isNotPrint32_eq ▸ Lib.laidMet.reads hL (by unfold great;simp [Rows.laid_strconv_isNotPrint32]))
 ·exact utf8Tabs_of_reads (ρ:=Tryz.lays177_ren) { Tryz.lays177 with } ⟨by kernel_rfl,by kernel_rfl,by kernel_rfl,by kernel_rfl,by kernel_rfl,by kernel_rfl,by kernel_rfl⟩
   (Pinned.utf8First_eq ▸ Lib.laidMet.reads hL (by unfold great;simp [Rows.laid_unicode_utf8_first])) (Lib.laidMet.reads hL (.tail _ (.tail _ (.tail _ (.head _)))))
 ·obtain ⟨a,s,hv,-⟩:=laid_sentinel (g:=0) t5 (by kernel_rfl) (by kernel_rfl) Tryz.underlying39 rowE Tryz.underlying290 Tryz.underlying292 rfl rfl Tryz.underlying9 (by kernel_rfl) (by kernel_rfl);exact ⟨_,_,by simpa using World.var?_cell (show Tryz.prog.globalNamed "strconv.ErrSyntax" = some 0 by kernel_rfl) hv 0⟩
 ·exact cell_of_shapedOpen_int (t:=3) (zero:=#[.int .i64 0]) hsh (of_decide_eq_true (by kernel_rfl)) (by kernel_rfl) (by kernel_rfl) (by kernel_rfl) (by kernel_rfl) Tryz.underlying3
noncomputable def handleWorld (os : Os) : World:=
 let w0:=World.holding Tryz.prog os ⟨#[],#[],[]⟩
 { w0 with heap:=w0.heap.modify 2 fun
  | .cells _ t frozen => .cells #[.iface 272 (.agg #[.pointer (some ⟨14,39,none⟩)])] t frozen
  | o => o }
noncomputable def laidWorld (os : Os) : World:=(handleWorld os).layVars Tryz.prog great
theorem laidWorld_os (os : Os) : (laidWorld os).os = os:=World.layVars_os _ _ _
set_option maxRecDepth 100000 in
theorem laidWorld_met (os : Os) (args : Array Value) : laidMetH Tryz.prog laid ((laidWorld os).forCall (fun _ _ => 0) ⟨#[],args,[]⟩).memory:=by
 have e1 : (great.filter fun x => (great.map (·.1)).contains x.1) = great:=List.filter_eq_self.2 fun x hx => List.contains_iff_mem.2 (List.mem_map.2 ⟨x,hx,rfl⟩);(have e2 : (great.filter fun x => !(great.map (·.1)).contains x.1) = []:=List.filter_eq_nil_iff.2 fun x hx => by rw [List.contains_iff_mem.2 (List.mem_map.2 ⟨x,hx,rfl⟩)];simp);have h : laidMet Tryz.prog great (laidWorld os):=laidMet_layVars (w0:=handleWorld os) (great.map (·.1)) [] (by rw [e1];rfl) (by rw [e1];kernel_rfl) (by rw [e1];kernel_rfl) (by rw [e2];exact LaidIn.none);refine laidMetH_of_parts ?_ ?_
 ·rw [plain_eq];exact h.of_heap (by simp [World.memory,World.forCall,Input.heap])
 ·rw [handle_eq]
  kernel_rfl
set_option maxRecDepth 100000 in
theorem laidWorld_shaped (os : Os) (args : Array Value) : ((laidWorld os).forCall (fun _ _ => 0) ⟨#[],args,[]⟩).Shaped Tryz.prog:=
 World.shaped_of_ZipB (by kernel_rfl) (by kernel_rfl)
section
variable {H : Type} {enc : TypeId × Value → H}
theorem handed_shaped {C : Checked} {os : Os} {f : FuncId} {fn : Func} {s : ChangeSpec} {conds : List PathCond} {apart fresh handsOn again : Bool} {X : World → Array Value → Prop} {a : Assume}
 (hX : ∀ (w w' : World) (args : Array Value),w.heap = w'.heap → X w args → X w' args)
 (own : ownKnob C.prog.godebug = none) (started : os.Started) (noInit : C.prog.inits.idxOf? f = none) (hfn : C.prog.funcs[f]? = some fn)
 (witness : ∃ (w : World) (tape : Tape) (i : Input),w.os = os ∧ (w.forCall tape i).Shaped C.prog ∧ i.vars = [] ∧ Input.okWide C.prog (w.forCall tape i) .any w.heap.size f i ∧
   ((s.pre enc C.prog fn conds apart (w.forCall tape i).memory i.args ∧ X (w.forCall tape i).memory i.args) ∧ sizedMet enc C.prog fn (OpenSpec.ofChange s) apart (w.forCall tape i).memory i.args) ∧ a.holds C.prog (lone (Frame.enter C.prog f i.args .normal) [] (w.forCall tape i)))
 (contract : ∀ (W : World) (base : Nat) (args : Array Value) (ds gs : List (DataW H)) (before : List MemPlace),
   (∀ (j : Nat) t v,fn.params[j]? = some t → args[j]? = some v → Value.okWide C.prog W .any base t v) →
   DataW.Whole enc C.prog fn.params.toList s.vars apart W args.toList ds gs before →
   W.ShapedOpen C.prog → X W args →
   Calls C.prog f args W fun e W' => ∃ v,e = .returned v ∧ s.post enc C.prog fn apart fresh handsOn again W args v W') :
 ReturnsInHanded a C os f .any (fun w args => (s.pre enc C.prog fn conds apart w args ∧ X w args) ∧ sizedMet enc C.prog fn (OpenSpec.ofChange s) apart w args) (s.post enc C.prog fn apart fresh handsOn again):=by
 refine returnsInHanded_of_calls own started noInit witness ?_;intro w tape i _ hsh _ hok hpre _;obtain ⟨_,_,_,fn',hfn',_,_,_,_,hval⟩:=hok;have e : fn' = fn:=Option.some.inj (hfn'.symm.trans hfn);subst e;obtain ⟨⟨⟨ds,gs,before,hw,hc⟩,hx⟩,hz⟩:=hpre;have hw':=DataW.Whole.of_heap (w':=w.forCall tape i) (by rfl) hw;refine (contract (w.forCall tape i) w.heap.size i.args ds gs before hval hw' hsh (hX _ _ _ (by rfl) hx)).mono fun e W' ⟨v,he,hp⟩ => ?_;subst he;exact ChangeSpec.post_blind hp
end
end laidz
end Go.Proofs.YtefkmcjhgoagcaaGreatDoor
