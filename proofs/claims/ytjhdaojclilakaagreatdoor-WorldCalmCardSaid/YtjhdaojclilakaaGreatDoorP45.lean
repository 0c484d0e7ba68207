/-
  A part of the proof of the law WorldCalm: LaidZ.
-/
import Derived.Test.YtjhdaojclilakaaGreatDoorCards
import Derived.Test.YtjhdaojclilakaaGreatDoorTie
import Derived.ChangeSame
import Derived.ChangeVars
import Derived.JoinedOf
import Derived.RowKit
import Derived.RowKitTokens
import Derived.LaidLaws
import Derived.LaidHandle
import Derived.LaidSub
import Derived.Stop.Joined
import Derived.SevenTiedAt
import Derived.PinnedBridge
import Derived.Lay
import Derived.Handed
import Derived.Stop.LaidErr
import Derived.Shelf.Vars
import Derived.Lib.LaidU8
import Derived.Lib.LaidPrint
import Derived.Lib.LaidTab
import Derived.Test.YtjhdaojclilakaaGreatDoorHd
import Derived.Test.YtjhdaojclilakaaGreatDoorP20
set_option maxHeartbeats 16000000
set_option maxRecDepth 1000000
namespace Go.Proofs.YtjhdaojclilakaaGreatDoor
namespace tS
open Go.ChangeShapes Go.WideShapes Go.RowKit Go.Lib gC fF
def mL:List (String×DataW Unit):=[("math/bits.deBruijn32tab",Rows.laid_math_bits_deBruijn32tab),("math/bits.deBruijn64tab",Rows.laid_math_bits_deBruijn64tab),("internal/strconv.uint64pow10",Rows.laid_internal_strconv_uint64pow10),("unicode/utf8.acceptRanges",Rows.laid_unicode_utf8_acceptRanges),("strconv.ErrRange",Rows.laid_strconv_ErrRange),("strconv.ErrSyntax",Rows.laid_strconv_ErrSyntax),("strconv.isGraphic",Rows.laid_strconv_isGraphic),("strconv.isNotPrint16",Rows.laid_strconv_isNotPrint16),("strconv.isNotPrint32",Rows.laid_strconv_isNotPrint32),("strconv.isPrint16",Rows.laid_strconv_isPrint16),("strconv.isPrint32",Rows.laid_strconv_isPrint32),("unicode/utf8.first",Rows.laid_unicode_utf8_first)]
def laid:List (String×DataW Unit):=[("math/bits.deBruijn32tab",Rows.laid_math_bits_deBruijn32tab),("math/bits.deBruijn64tab",Rows.laid_math_bits_deBruijn64tab),("internal/strconv.uint64pow10",Rows.laid_internal_strconv_uint64pow10),("unicode/utf8.acceptRanges",Rows.laid_unicode_utf8_acceptRanges),("errors.errorType",Rows.laid_errors_errorType),("strconv.ErrRange",Rows.laid_strconv_ErrRange),("strconv.ErrSyntax",Rows.laid_strconv_ErrSyntax),("strconv.isGraphic",Rows.laid_strconv_isGraphic),("strconv.isNotPrint16",Rows.laid_strconv_isNotPrint16),("strconv.isNotPrint32",Rows.laid_strconv_isNotPrint32),("strconv.isPrint16",Rows.laid_strconv_isPrint16),("strconv.isPrint32",Rows.laid_strconv_isPrint32),("unicode/utf8.first",Rows.laid_unicode_utf8_first)]
theorem FA:(laid.filter fun x=>x.2.handleName?.isNone)=mL:=af
theorem FB:(laid.filter fun x=>x.2.handleName?.isSome)=[("errors.errorType",Rows.laid_errors_errorType)]:=af
theorem own:ownKnob Tryz.prog.godebug=none:=af
theorem et:Tryz.prog.globalNamed "errors.errorType" = some 1:=af
theorem rt:(Tryz.prog.cutTypes.find? (·.1 == "internal/reflectlite.rtype")).map (·.2)=some 250:=af
theorem Pf:((List.range 331).filter fun t=>Tryz.prog.rowNamed t [101,114,114,111,114])=[47]:=af
theorem size:Tryz.prog.types.size=331:=af
theorem Pg {W:World} (h:handlesMet Tryz.prog [("errors.errorType",Rows.laid_errors_errorType)] W):Handle W:=by
 obtain⟨name,u,ty,e1,b,c,d,a⟩:=h _ (aD.2 rfl);have e:name=[101,114,114,111,114]:=(aA e1).symm;subst e;obtain rfl:=aA (rt.symm.trans b);have hm:ty∈(List.range 331).filter fun t=>Tryz.prog.rowNamed t [101,114,114,111,114]:=bL.2 ⟨bP.2 (by rw[<- size];exact c),d⟩;rw[Pf]at hm;obtain rfl:=aD.1 hm;have f:typeHandle Tryz.prog 47=.pointer (some ⟨14,47,none⟩):=af;rw[f]at a;show W.cell? _=_;simpa using World.var?_cell et a 0
theorem star : "*" ++ "errors.errorString" = "*errors.errorString":=aj
theorem Ph (u:TypeId) (h:Tryz.prog.typeName? 3 u=some "*errors.errorString"):u=288:=
 typeName_ptr_named (nm:= "errors.errorString") (by rw[star];kernel_rfl) af aj u (by rw[star];exact h)
theorem Pj {W:World} (h:laidMetH Tryz.prog laid W) (f:W.ShapedOpen Tryz.prog):kQ goPrintTabs W/\Handle W:=by
 obtain⟨c,d⟩:=laidMetH_iff.1 h;rw[FA]at c;rw[FB]at d;have b:laidMet Tryz.prog mL W:=c;have t1:=b.tail;have t2:=t1.tail;have t4:=t2.tail.tail;have t5:=t4.tail;refine⟨⟨?_,?_,?_,?_,?_⟩,Pg d⟩
 ·exact tabIs_of_head (g:=6) (t:=292) (e:=205) (n:=20) af af af af af af t2
 ·exact printTabs_of_reads (ρ:=Tryz.lays177_ren) {Tryz.lays177 with} ⟨af,af,af,af,af,af,af,af,af,af⟩
   (Pinned.isPrint16_eq▸Lib.laidMet.reads b (by unfold mL;simp[Rows.laid_strconv_isPrint16])) (Pinned.isNotPrint16_eq▸Lib.laidMet.reads b (by unfold mL;simp[Rows.laid_strconv_isNotPrint16]))
   (Pinned.isPrint32_eq▸Lib.laidMet.reads b (by unfold mL;simp[Rows.laid_strconv_isPrint32])) (Pinned.isNotPrint32_eq▸Lib.laidMet.reads b (by unfold mL;simp[Rows.laid_strconv_isNotPrint32]))
 ·exact utf8Tabs_of_reads (ρ:=Tryz.lays177_ren) {Tryz.lays177 with} ⟨af,af,af,af,af,af,af⟩
   (Pinned.utf8First_eq▸Lib.laidMet.reads b (by unfold mL;simp[Rows.laid_unicode_utf8_first])) (Lib.laidMet.reads b (.tail _ (.tail _ (.tail _ (.head _)))))
 ·obtain⟨a,s,hv,-⟩:=laid_sentinel (g:=0) t5 af af Tryz.underlying47 Ph Tryz.underlying288 Tryz.underlying290 rfl rfl Tryz.underlying9 af af;exact⟨_,_,by simpa using World.var?_cell (show Tryz.prog.globalNamed "strconv.ErrSyntax" = some 0 by kernel_rfl) hv 0⟩
 exact cell_of_shapedOpen_int (t:=3) (zero:=#[.int .i64 0]) f (of_decide_eq_true af) af af af af Tryz.underlying3
noncomputable def FC (os:Os):World:=
 let w0:=World.holding Tryz.prog os ⟨#[],#[],[]⟩
 {w0 with heap:=w0.heap.modify 1 fun
  |.cells _ t frozen=>.cells #[.iface 250 (.agg #[.pointer (some ⟨14,47,none⟩)])] t frozen
  |o=>o}
noncomputable def tT (os:Os):World:=(FC os).layVars Tryz.prog mL
theorem Pk (os:Os):(tT os).os=os:=World.layVars_os _ _ _
theorem Pm (os:Os) (args:Array Value):laidMetH Tryz.prog laid ((tT os).forCall (fun _ _=>0) ⟨#[],args,[]⟩).memory:=by
 have e1:(mL.filter fun x=>(mL.map (·.1)).contains x.1)=mL:=List.filter_eq_self.2 fun x hx=>List.contains_iff_mem.2 (aW.2 ⟨x,hx,rfl⟩);(have a:(mL.filter fun x=>!(mL.map (·.1)).contains x.1)=[]:=df.2 fun x hx=>by rw[List.contains_iff_mem.2 (aW.2 ⟨x,hx,rfl⟩)];simp);have h:laidMet Tryz.prog mL (tT os):=laidMet_layVars (w0:=FC os) (mL.map (·.1)) [] (by rw[e1];rfl) (by rw[e1];kernel_rfl) (by rw[e1];kernel_rfl) (by rw[a];exact LaidIn.none);refine laidMetH_of_parts ?_ ?_
 ·rw[FA];exact h.of_heap (by simp[World.memory,World.forCall,Input.heap])
 rw[FB]
 kernel_rfl
theorem Pn (os:Os) (args:Array Value):((tT os).forCall (fun _ _=>0) ⟨#[],args,[]⟩).Shaped Tryz.prog:=
 World.shaped_of_ZipB af af
section
variable {H:Type} {enc:TypeId×Value->H}
theorem Po {C:Checked} {os:Os} {f:FuncId} {fn:Func} {s:ChangeSpec} {conds:List PathCond} {apart fresh handsOn fh:Bool} {X:World->Array Value->Prop} {a:Assume}
 (n:∀(w w':World) (args:Array Value),w.heap=w'.heap->X w args->X w' args)
 (own:ownKnob C.prog.godebug=none) (started:os.Started) (c:C.prog.inits.idxOf? f=none) (d:C.prog.funcs[f]?=some fn)
 (witness:∃(w:World) (tape:Tape) (i:Input),w.os=os/\(w.forCall tape i).Shaped C.prog/\i.vars=[]/\Input.okWide C.prog (w.forCall tape i) .any w.heap.size f i /\
   ((s.pre enc C.prog fn conds apart (w.forCall tape i).memory i.args/\X (w.forCall tape i).memory i.args)/\sizedMet enc C.prog fn (OpenSpec.ofChange s) apart (w.forCall tape i).memory i.args)/\a.holds C.prog (lone (Frame.enter C.prog f i.args .normal) [] (w.forCall tape i)))
 (o:∀(W:World) (base:Nat) (args:Array Value) (g gs:List (DataW H)) (before:List MemPlace),
   (∀(j:Nat) t v,fn.params[j]?=some t->args[j]?=some v->Value.okWide C.prog W .any base t v) ->
   DataW.Whole enc C.prog fn.params.toList s.vars apart W args.toList g gs before ->
   W.ShapedOpen C.prog->X W args ->
   Calls C.prog f args W fun e m=>∃v,e=.returned v/\s.post enc C.prog fn apart fresh handsOn fh W args v m) :
 ReturnsInHanded a C os f .any (fun w args=>(s.pre enc C.prog fn conds apart w args/\X w args)/\sizedMet enc C.prog fn (OpenSpec.ofChange s) apart w args) (s.post enc C.prog fn apart fresh handsOn fh):=by
 refine returnsInHanded_of_calls own started c witness ?_;intro w tape i _ p _ q r _;obtain⟨_,_,_,h,k,_,_,_,_,b⟩:=q;have e:h=fn:=aA (k.symm.trans d);subst e;obtain⟨⟨⟨g,gs,before,hw,hc⟩,u⟩,x⟩:=r;have l:=DataW.Whole.of_heap (w':=w.forCall tape i) ai hw;refine (o (w.forCall tape i) w.heap.size i.args g gs before b l p (n _ _ _ ai u)).mono fun e m ⟨v,he,hp⟩=>?_;subst he;exact ChangeSpec.post_blind hp
end
end tS
end Go.Proofs.YtjhdaojclilakaaGreatDoor
