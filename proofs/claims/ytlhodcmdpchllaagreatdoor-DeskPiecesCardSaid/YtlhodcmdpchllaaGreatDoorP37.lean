/-
  A part of the proof of the law DeskPieces: LaidZ.
-/
import Derived.Test.YtlhodcmdpchllaaGreatDoorCards
import Derived.Test.YtlhodcmdpchllaaGreatDoorTie
import Derived.ChangeSame
import Derived.ChangeVars
import Derived.JoinedOf
import Derived.RowKit
import Derived.RowKitTokens
import Derived.LaidLaws
import Derived.LaidHandle
import Derived.LaidSub
import Derived.Stop.Joined
import Derived.SevenTiedAt
import Derived.PinnedBridge
import Derived.Lay
import Derived.Handed
import Derived.Stop.LaidErr
import Derived.Shelf.Vars
import Derived.Lib.LaidU8
import Derived.Lib.LaidPrint
import Derived.Lib.LaidTab
import Derived.Test.YtlhodcmdpchllaaGreatDoorHd
import Derived.Test.YtlhodcmdpchllaaGreatDoorP21
set_option maxHeartbeats 16000000
set_option maxRecDepth 1000000
namespace Go.Proofs.YtlhodcmdpchllaaGreatDoor
namespace qt
open Go.ChangeShapes Go.WideShapes Go.RowKit Go.Lib eO dZ
def j0:List (String×DataW Unit):=[("math/bits.deBruijn32tab",Rows.laid_math_bits_deBruijn32tab),("math/bits.deBruijn64tab",Rows.laid_math_bits_deBruijn64tab),("internal/strconv.uint64pow10",Rows.laid_internal_strconv_uint64pow10),("unicode/utf8.acceptRanges",Rows.laid_unicode_utf8_acceptRanges),("strconv.ErrRange",Rows.laid_strconv_ErrRange),("strconv.ErrSyntax",Rows.laid_strconv_ErrSyntax),("strconv.isGraphic",Rows.laid_strconv_isGraphic),("strconv.isNotPrint16",Rows.laid_strconv_isNotPrint16),("strconv.isNotPrint32",Rows.laid_strconv_isNotPrint32),("strconv.isPrint16",Rows.laid_strconv_isPrint16),("strconv.isPrint32",Rows.laid_strconv_isPrint32),("unicode/utf8.first",Rows.laid_unicode_utf8_first)]
def laid:List (String×DataW Unit):=[("math/bits.deBruijn32tab",Rows.laid_math_bits_deBruijn32tab),("math/bits.deBruijn64tab",Rows.laid_math_bits_deBruijn64tab),("internal/strconv.uint64pow10",Rows.laid_internal_strconv_uint64pow10),("unicode/utf8.acceptRanges",Rows.laid_unicode_utf8_acceptRanges),("errors.errorType",Rows.laid_errors_errorType),("strconv.ErrRange",Rows.laid_strconv_ErrRange),("strconv.ErrSyntax",Rows.laid_strconv_ErrSyntax),("strconv.isGraphic",Rows.laid_strconv_isGraphic),("strconv.isNotPrint16",Rows.laid_strconv_isNotPrint16),("strconv.isNotPrint32",Rows.laid_strconv_isNotPrint32),("strconv.isPrint16",Rows.laid_strconv_isPrint16),("strconv.isPrint32",Rows.laid_strconv_isPrint32),("unicode/utf8.first",Rows.laid_unicode_utf8_first)]
theorem uU:(laid.filter fun x=>x.2.handleName?.isNone)=j0:=by kernel_rfl
theorem AR:(laid.filter fun x=>x.2.handleName?.isSome)=[("errors.errorType",Rows.laid_errors_errorType)]:=by kernel_rfl
theorem own:ownKnob Tryz.prog.godebug=none:=by kernel_rfl
theorem et:Tryz.prog.globalNamed "errors.errorType" = some 0:=by kernel_rfl
theorem rt:(Tryz.prog.cutTypes.find? (·.1 == "internal/reflectlite.rtype")).map (·.2)=some 210:=by kernel_rfl
theorem JZ:((List.range 346).filter fun t=>Tryz.prog.rowNamed t [101,114,114,111,114])=[40]:=by kernel_rfl
theorem size:Tryz.prog.types.size=346:=by kernel_rfl
theorem J0 {W:World} (h:handlesMet Tryz.prog [("errors.errorType",Rows.laid_errors_errorType)] W):Handle W:=by
 obtain⟨name,u,ty,e1,e2,e3,e4,e5⟩:=h _ (aH.2 rfl);have en:name=[101,114,114,111,114]:=(aw e1).symm;subst en;obtain rfl:=aw (rt.symm.trans e2);have hm:ty∈(List.range 346).filter fun t=>Tryz.prog.rowNamed t [101,114,114,111,114]:=cr.2 ⟨List.mem_range.2 (by rw[<- size];exact e3),e4⟩;rw[JZ]at hm;obtain rfl:=aH.1 hm;(have hh:typeHandle Tryz.prog 40=.pointer (some ⟨14,40,none⟩):=by kernel_rfl);rw[hh]at e5;show W.cell? _=_;simpa using World.var?_cell et e5 0
theorem star : "*" ++ "errors.errorString" = "*errors.errorString":=by decide
theorem AU (u:TypeId) (h:Tryz.prog.typeName? 3 u=some "*errors.errorString"):u=246:=
 typeName_ptr_named (nm:= "errors.errorString") (by rw[star];kernel_rfl) (by kernel_rfl) (by decide) u (by rw[star];exact h)
theorem J2 {W:World} (h:laidMetH Tryz.prog laid W) (QS:W.ShapedOpen Tryz.prog):jr goPrintTabs W/\Handle W:=by
 obtain⟨h1,h2⟩:=laidMetH_iff.1 h;rw[uU]at h1;rw[AR]at h2;have hL:laidMet Tryz.prog j0 W:=h1;have t1:=hL.tail;have t2:=t1.tail;have t4:=t2.tail.tail;have t5:=t4.tail;refine⟨⟨?_,?_,?_,?_,?_⟩,J0 h2⟩
 ·exact tabIs_of_head (g:=6) (t:=226) (e:=176) (n:=20) (by kernel_rfl) (by kernel_rfl) (by kernel_rfl) (by kernel_rfl) (by kernel_rfl) (by kernel_rfl) t2
 ·exact printTabs_of_reads (ρ:=Tryz.lays177_ren) {Tryz.lays177 with} ⟨by kernel_rfl,by kernel_rfl,by kernel_rfl,by kernel_rfl,by kernel_rfl,by kernel_rfl,by kernel_rfl,by kernel_rfl,by kernel_rfl,by kernel_rfl⟩
   (Pinned.isPrint16_eq▸Lib.laidMet.reads hL (by unfold j0;simp[Rows.laid_strconv_isPrint16])) (Pinned.isNotPrint16_eq▸Lib.laidMet.reads hL (by unfold j0;simp[Rows.laid_strconv_isNotPrint16]))
   (Pinned.isPrint32_eq▸Lib.laidMet.reads hL (by unfold j0;simp[Rows.laid_strconv_isPrint32])) (Pinned.isNotPrint32_eq▸Lib.laidMet.reads hL (by unfold j0;simp[Rows.laid_strconv_isNotPrint32]))
 ·exact utf8Tabs_of_reads (ρ:=Tryz.lays177_ren) {Tryz.lays177 with} ⟨by kernel_rfl,by kernel_rfl,by kernel_rfl,by kernel_rfl,by kernel_rfl,by kernel_rfl,by kernel_rfl⟩
   (Pinned.utf8First_eq▸Lib.laidMet.reads hL (by unfold j0;simp[Rows.laid_unicode_utf8_first])) (Lib.laidMet.reads hL (.tail _ (.tail _ (.tail _ (.head _)))))
 ·obtain⟨a,s,hv,-⟩:=laid_sentinel (g:=4) t5 (by kernel_rfl) (by kernel_rfl) Tryz.underlying40 AU Tryz.underlying246 Tryz.underlying248 rfl rfl Tryz.underlying9 (by kernel_rfl) (by kernel_rfl);exact⟨_,_,by simpa using World.var?_cell (show Tryz.prog.globalNamed "strconv.ErrSyntax" = some 4 by kernel_rfl) hv 0⟩
 exact cell_of_shapedOpen_int (t:=3) (zero:=#[.int .i64 0]) QS (of_decide_eq_true (by kernel_rfl)) (by kernel_rfl) (by kernel_rfl) (by kernel_rfl) (by kernel_rfl) Tryz.underlying3
noncomputable def AV (os:Os):World:=
 let w0:=World.holding Tryz.prog os ⟨#[],#[],[]⟩
 {w0 with heap:=w0.heap.modify 0 fun
  |.cells _ t frozen=>.cells #[.iface 210 (.agg #[.pointer (some ⟨14,40,none⟩)])] t frozen
  |o=>o}
noncomputable def qu (os:Os):World:=(AV os).layVars Tryz.prog j0
theorem J3 (os:Os):(qu os).os=os:=World.layVars_os _ _ _
theorem J4 (os:Os) (args:Array Value):laidMetH Tryz.prog laid ((qu os).forCall (fun _ _=>0) ⟨#[],args,[]⟩).memory:=by
 have e1:(j0.filter fun x=>(j0.map (·.1)).contains x.1)=j0:=List.filter_eq_self.2 fun x hx=>List.contains_iff_mem.2 (bA.2 ⟨x,hx,rfl⟩);(have e2:(j0.filter fun x=>!(j0.map (·.1)).contains x.1)=[]:=List.filter_eq_nil_iff.2 fun x hx=>by rw[List.contains_iff_mem.2 (bA.2 ⟨x,hx,rfl⟩)];simp);have h:laidMet Tryz.prog j0 (qu os):=laidMet_layVars (w0:=AV os) (j0.map (·.1)) [] (by rw[e1];rfl) (by rw[e1];kernel_rfl) (by rw[e1];kernel_rfl) (by rw[e2];exact LaidIn.none);refine laidMetH_of_parts ?_ ?_
 ·rw[uU];exact h.of_heap (by simp[World.memory,World.forCall,Input.heap])
 rw[AR]
 kernel_rfl
theorem J5 (os:Os) (args:Array Value):((qu os).forCall (fun _ _=>0) ⟨#[],args,[]⟩).Shaped Tryz.prog:=
 World.shaped_of_ZipB (by kernel_rfl) (by kernel_rfl)
section
variable {H:Type} {enc:TypeId×Value->H}
end
end qt
end Go.Proofs.YtlhodcmdpchllaaGreatDoor
