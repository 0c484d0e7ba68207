/-
  A part of the proof of the law WorldLasts: Errs, ErrV.
-/
import Derived.Test.YtefkmcjhgoagcaaGreatDoorRows
import Derived.WalkKit
import Derived.ProofKit
import Derived.OpenShut
import Derived.Lib.Hide
import Derived.LaidEql
import Derived.Stop.Asserts
import Derived.RowKitTokens
namespace Go.Proofs.YtefkmcjhgoagcaaGreatDoor
namespace errs
open Go.RowKit Go.Extern.Stop Go.Stop Go.Extern
theorem valueOfP (t : Addr) (w : World) : (ReflectliteValue.unpack (.iface 207 (.pointer (some t)))).run Tryz.prog w
 = .ok (.agg #[.pointer (some ⟨14,207,none⟩),.pointer (some ⟨w.heap.size,0,none⟩),.int .u64 150]) (w.alloc (.cells #[.pointer (some t)] 207)):=by kernel_rfl
theorem typeP (a : Addr) (w : World) : (ReflectliteValue.methodAny (ReflectliteValue.valueError "reflectlite.Value.Type" 0) (fun t _ _ _ => ReflectliteType.toType t) #[.agg #[.pointer (some ⟨14,207,none⟩),.pointer (some a),.int .u64 150]]).run Tryz.prog w
 = .ok (.iface 272 (.agg #[.pointer (some ⟨14,207,none⟩)])) w:=by kernel_rfl
theorem methodKind (h : Value) (w : World) : (Go.method (333 + 100) 272 (.agg #[h]) "Kind").run Tryz.prog w = .ok (233,h) w:=by kernel_rfl
theorem kindP (w : World) : ((ReflectliteType.abiMethod fun t => (fun a : Nat => Value.int IntKind.u8 (a : Int)) <$> Rtype.kind t) #[.pointer (some ⟨14,207,none⟩)]).run Tryz.prog w = .ok (.int .u8 22) w:=by kernel_rfl
theorem kindE (w : World) : ((ReflectliteType.abiMethod fun t => (fun a : Nat => Value.int IntKind.u8 (a : Int)) <$> Rtype.kind t) #[.pointer (some ⟨14,69,none⟩)]).run Tryz.prog w = .ok (.int .u8 2) w:=by kernel_rfl
theorem rlm (z : Sem Value) (f : TypeId → Addr → Nat → Nat → Sem Value) (v : Value) :
 ReflectliteValue.method z f #[v] = (do match ← ReflectliteValue.parts v with | none => z | some (t,a,fl) => f t a fl (fl % 32)):=rfl
theorem partsP (a : Addr) (w : World) : (ReflectliteValue.parts (.agg #[.pointer (some ⟨14,207,none⟩),.pointer (some a),.int .u64 150])).run Tryz.prog w = .ok (some (207,a,150)) w:=by kernel_rfl
theorem isNilP (a p : Addr) (W : World) (ha : W.cell? a = some (.pointer (some p))) :
 (ReflectliteValue.method (ReflectliteValue.valueError "reflectlite.Value.IsNil" 0) ReflectliteValue.isNil #[.agg #[.pointer (some ⟨14,207,none⟩),.pointer (some a),.int .u64 150]]).run Tryz.prog W = .ok (.bool false) W:=by
 rw [rlm];simp only [Sem.run_bind,partsP,Result.andThen];simp [ReflectliteValue.isNil,loadVar,isAgg,underlying,Tryz.underlying207,ha,Result.andThen]
theorem methodElem (h : Value) (w : World) : (Go.method (333 + 100) 272 (.agg #[h]) "Elem").run Tryz.prog w = .ok (249,.agg #[h]) w:=by kernel_rfl
theorem methodImplements (h : Value) (w : World) : (Go.method (333 + 100) 272 (.agg #[h]) "Implements").run Tryz.prog w = .ok (250,.agg #[h]) w:=by kernel_rfl
theorem methodAssignableTo (h : Value) (w : World) : (Go.method (333 + 100) 272 (.agg #[h]) "AssignableTo").run Tryz.prog w = .ok (247,.agg #[h]) w:=by kernel_rfl
theorem elemP (w : World) : (ReflectliteType.method ReflectliteType.elem #[.agg #[.pointer (some ⟨14,207,none⟩)]]).run Tryz.prog w = .ok (.iface 272 (.agg #[.pointer (some ⟨14,69,none⟩)])) w:=by kernel_rfl
theorem implementsE (w : World) : (ReflectliteType.relation "Implements" ReflectliteType.implements_ #[.agg #[.pointer (some ⟨14,69,none⟩)],.iface 272 (.agg #[.pointer (some ⟨14,39,none⟩)])]).run Tryz.prog w = .ok (.bool true) w:=by kernel_rfl
theorem typeOfE (v : Value) (w : World) : (ReflectliteType.typeOf #[.iface 69 v]).run Tryz.prog w = .ok (.iface 272 (.agg #[.pointer (some ⟨14,69,none⟩)])) w:=by kernel_rfl
theorem assignableE (w : World) : (ReflectliteType.relation "AssignableTo" ReflectliteType.assignableTo #[.agg #[.pointer (some ⟨14,69,none⟩)],.iface 272 (.agg #[.pointer (some ⟨14,69,none⟩)])]).run Tryz.prog w = .ok (.bool true) w:=by kernel_rfl
theorem valueOfE (n : Int) (w : World) : (ReflectliteValue.unpack (.iface 69 (.int .i64 n))).run Tryz.prog w
 = .ok (.agg #[.pointer (some ⟨14,69,none⟩),.pointer (some ⟨w.heap.size,0,none⟩),.int .u64 130]) (w.alloc (.cells #[.int .i64 n] 69)):=by kernel_rfl
theorem elemOfP (w : World) : (Rtype.elem? 207).run Tryz.prog w = .ok (some 69) w:=by kernel_rfl
theorem mkE (p : Addr) (w : World) : (ReflectliteValue.mk 69 p ReflectliteValue.flagAddr).run Tryz.prog w = .ok (.agg #[.pointer (some ⟨14,69,none⟩),.pointer (some p),.int .u64 386]) w:=by kernel_rfl
theorem elemVP (a p : Addr) (W : World) (ha : W.cell? a = some (.pointer (some p))) :
 (ReflectliteValue.method (ReflectliteValue.valueError "reflectlite.Value.Elem" 0) ReflectliteValue.elem #[.agg #[.pointer (some ⟨14,207,none⟩),.pointer (some a),.int .u64 150]]).run Tryz.prog W
   = .ok (.agg #[.pointer (some ⟨14,69,none⟩),.pointer (some p),.int .u64 386]) W:=by
 rw [rlm];simp only [Sem.run_bind,partsP,Result.andThen];simp [ReflectliteValue.elem,loadVar,isAgg,underlying,Tryz.underlying207,ha,Result.andThen,elemOfP,mkE]
theorem rls (v x : Value) : ReflectliteValue.set #[v,x] = (do
 let (some (dst,a,fl),some (src,b,_)):=(← ReflectliteValue.parts v,← ReflectliteValue.parts x)
  | unsupported (.noEntry "extern/(internal/reflectlite.Value).Set.zeroValue")
 if fl / ReflectliteValue.flagAddr % 2 == 0 then unsupported (.noEntry "extern/(internal/reflectlite.Value).Set.unaddressable")
 let val ← loadVar src b
 if ← Rtype.directlyAssignable dst src then storeVar dst a val
 else if ← Rtype.implements dst src then
  if (← Rtype.kind src) == 20 then
   match val with
   | .nilIface => unsupported (.noEntry "extern/reflectlite: a nil value of one interface type handed on as a value of another")
   | _ => storeVar dst a val
  else storeVar dst a (.iface src val)
 else panicString ("reflectlite.Set: value of type " ++ (← Rtype.spelt src) ++ " is not assignable to type " ++ (← Rtype.spelt dst))
 pure (.tuple #[])):=rfl
theorem partsEa (a : Addr) (w : World) : (ReflectliteValue.parts (.agg #[.pointer (some ⟨14,69,none⟩),.pointer (some a),.int .u64 386])).run Tryz.prog w = .ok (some (69,a,386)) w:=by kernel_rfl
theorem partsE (a : Addr) (w : World) : (ReflectliteValue.parts (.agg #[.pointer (some ⟨14,69,none⟩),.pointer (some a),.int .u64 130])).run Tryz.prog w = .ok (some (69,a,130)) w:=by kernel_rfl
theorem directE (w : World) : (Rtype.directlyAssignable 69 69).run Tryz.prog w = .ok true w:=by kernel_rfl
theorem setE (ta b : Addr) (n : Int) (old : Value) (W : World) (hb : W.cell? b = some (.int .i64 n)) (ht : W.cell? ta = some old) (hf : W.frozen? ta = false) :
 (ReflectliteValue.set #[.agg #[.pointer (some ⟨14,69,none⟩),.pointer (some ta),.int .u64 386],.agg #[.pointer (some ⟨14,69,none⟩),.pointer (some b),.int .u64 130]]).run Tryz.prog W
   = .ok (.tuple #[]) (W.setCell ta (.int .i64 n)):=by
 rw [rls];simp only [Sem.run_bind,partsEa,partsE,Result.andThen];simp [ReflectliteValue.flagAddr,loadVar,isAgg,underlying,Tryz.underlying69,hb,Result.andThen,directE,storeVar,Value.cells,storeCells,Addr.add];rw [run_store Tryz.prog W ta _ _ (by rfl)];simp [ht,hf]
def Handle (w : World) : Prop:=w.cell? ⟨2,0,none⟩ = some (.iface 272 (.agg #[.pointer (some ⟨14,39,none⟩)]))
theorem Handle.lt {w : World} (h : Handle w) : 2 < w.heap.size:=by
 rcases Nat.lt_or_ge 2 w.heap.size with h0 | h0
 ·exact h0
 ·unfold Handle at h;simp [World.cell?,Array.getElem?_eq_none h0] at h
theorem Handle.below {w w' : World} (h : Handle w) (hb : Below w.heap.size w w') : Handle w':=(hb.cell (p:=⟨2,0,none⟩) h.lt).trans h
theorem Handle.alloc {w : World} (h : Handle w) (o : Obj) : Handle (w.alloc o):=h.below ((Below.refl _ _).alloc (Nat.le_refl _) o)
set_option maxHeartbeats 4000000 in
theorem as_hit (n : Int) (t : Addr) (old : Value) (w : World) (hg0 : Handle w) (ht0 : w.cell? t = some old) (hf0 : w.frozen? t = false) :
 Calls Tryz.prog 137 #[.iface 69 (.int .i64 n),.iface 207 (.pointer (some t))] w fun ev w' => ev = .returned (.bool true) ∧ w' = ((((w.alloc (.cells #[.pointer (some t)] 207)).alloc (.cells #[.pointer (some ⟨14,207,none⟩),.pointer (some ⟨w.heap.size,0,none⟩),.int .u64 150] 231)).alloc (.cells #[.pointer (some ⟨14,207,none⟩),.pointer (some ⟨w.heap.size,0,none⟩),.int .u64 150] 231)).alloc (.cells #[.int .i64 n] 69)).setCell t (.int .i64 n):=by
 have h6:=@run_callFunc_extern Tryz.prog 158 _ (fun args => ReflectliteValue.unpack (args.getD 0 (.tuple #[]))) Tryz.func158 (by kernel_rfl) (by kernel_rfl) (by kernel_rfl) (by kernel_rfl);have h7:=@run_callFunc_extern Tryz.prog 159 _ (ReflectliteValue.methodAny (ReflectliteValue.valueError "reflectlite.Value.Type" 0) (fun t _ _ _ => ReflectliteType.toType t)) Tryz.func159 (by kernel_rfl) (by kernel_rfl) (by kernel_rfl) (by kernel_rfl);have h8:=@run_callFunc_extern Tryz.prog 160 _ (ReflectliteValue.method (ReflectliteValue.valueError "reflectlite.Value.IsNil" 0) ReflectliteValue.isNil) Tryz.func160 (by kernel_rfl) (by kernel_rfl) (by kernel_rfl) (by kernel_rfl);have h27:=@run_callFunc_extern Tryz.prog 233 _ (ReflectliteType.abiMethod fun t => do pure (.int .u8 (← Rtype.kind t))) Tryz.func233 (by kernel_rfl) (by kernel_rfl) (by kernel_rfl) (by kernel_rfl);have h37:=@run_callFunc_extern Tryz.prog 249 _ (ReflectliteType.method ReflectliteType.elem) Tryz.func249 (by kernel_rfl) (by kernel_rfl) (by kernel_rfl) (by kernel_rfl);have h38:=@run_callFunc_extern Tryz.prog 250 _ (ReflectliteType.relation "Implements" ReflectliteType.implements_) Tryz.func250 (by kernel_rfl) (by kernel_rfl) (by kernel_rfl) (by kernel_rfl);have h10:=@run_callFunc_extern Tryz.prog 192 _ ReflectliteType.typeOf Tryz.func192 (by kernel_rfl) (by kernel_rfl) (by kernel_rfl) (by kernel_rfl);have h35:=@run_callFunc_extern Tryz.prog 247 _ (ReflectliteType.relation "AssignableTo" ReflectliteType.assignableTo) Tryz.func247 (by kernel_rfl) (by kernel_rfl) (by kernel_rfl) (by kernel_rfl);have h11:=@run_callFunc_extern Tryz.prog 193 _ (ReflectliteValue.method (ReflectliteValue.valueError "reflectlite.Value.Elem" 0) ReflectliteValue.elem) Tryz.func193 (by kernel_rfl) (by kernel_rfl) (by kernel_rfl) (by kernel_rfl);have h12:=@run_callFunc_extern Tryz.prog 194 _ ReflectliteValue.set Tryz.func194 (by kernel_rfl) (by kernel_rfl) (by kernel_rfl) (by kernel_rfl);have tO:=typeOfE;have mA:=methodAssignableTo;have a25:=assignableE;have v25:=valueOfE;have f6:=valueOfP;have f7:=typeP;have mK:=methodKind;have mE:=methodElem;have mI:=methodImplements;have k27:=kindP;have k25:=kindE;have e27:=elemP;have i25:=implementsE;have n8:=isNilP ⟨w.heap.size,0,none⟩ t ((w.alloc (.cells #[.pointer (some t)] 207)).alloc (.cells #[.pointer (some ⟨14,207,none⟩),.pointer (some ⟨w.heap.size,0,none⟩),.int .u64 150] 231)) (by simp);have hlt:=hg0.lt
 have hg2 : ((w.alloc (.cells #[.pointer (some t)] 207)).alloc (.cells #[.pointer (some ⟨14,207,none⟩),.pointer (some ⟨w.heap.size,0,none⟩),.int .u64 150] 231)).cell? ⟨2,0,none⟩ = some (.iface 272 (.agg #[.pointer (some ⟨14,39,none⟩)])):=
  (hg0.alloc _).alloc _
 clear hg0
 have htl : t.block < w.heap.size:=by
  rcases Nat.lt_or_ge t.block w.heap.size with h | h
  ·exact h
  ·simp [World.cell?,Array.getElem?_eq_none h] at ht0
 have el:=elemVP ⟨w.heap.size,0,none⟩ t (((w.alloc (.cells #[.pointer (some t)] 207)).alloc (.cells #[.pointer (some ⟨14,207,none⟩),.pointer (some ⟨w.heap.size,0,none⟩),.int .u64 150] 231)).alloc (.cells #[.pointer (some ⟨14,207,none⟩),.pointer (some ⟨w.heap.size,0,none⟩),.int .u64 150] 231)) (by rw [World.cell?_alloc_lt _ _ ⟨w.heap.size,0,none⟩ (by simp;omega)];simp)
 have st:=setE t ⟨w.heap.size + 1 + 1 + 1,0,none⟩ n old ((((w.alloc (.cells #[.pointer (some t)] 207)).alloc (.cells #[.pointer (some ⟨14,207,none⟩),.pointer (some ⟨w.heap.size,0,none⟩),.int .u64 150] 231)).alloc (.cells #[.pointer (some ⟨14,207,none⟩),.pointer (some ⟨w.heap.size,0,none⟩),.int .u64 150] 231)).alloc (.cells #[.int .i64 n] 69))
  (by rw [World.cell?_alloc_at _ _ _ _ (by simp)];rfl)
  (by rw [World.cell?_alloc_lt _ _ t (by simp;omega),World.cell?_alloc_lt _ _ t (by simp;omega),World.cell?_alloc_lt _ _ t (by simp;omega),World.cell?_alloc_lt _ _ t htl];exact ht0)
  (by rw [World.frozen?_alloc_old _ _ t (by simp;omega),World.frozen?_alloc_old _ _ t (by simp;omega),World.frozen?_alloc_old _ _ t (by simp;omega),World.frozen?_alloc_old _ _ t (Nat.ne_of_lt htl)];exact hf0)
 (go_enter Tryz.func137,Tryz.ntmps137);go_wp2;refine wp_loop_rounds 1 ?_;rw [rounds_succ];go_wp2;go_ret;exact ⟨rfl,rfl⟩
theorem tell_nil (w : World) : Calls Tryz.prog 117 #[.nilIface] w fun e w' => e = .returned (.int .i64 0) ∧ w = w':=by
 (go_enter Tryz.func117,Tryz.ntmps117);go_wp2;go_ret;exact ⟨rfl,rfl⟩
theorem tell_errno (n : Int) (w : World) (hg : Handle w) : Calls Tryz.prog 117 #[.iface 69 (.int .i64 n)] w fun e w' => e = .returned (.int .i64 n) ∧ Below w.heap.size w w':=by
 have h1 : Handle (w.alloc (.cells #[.int .i64 0] 69)):=hg.alloc _;(go_enter Tryz.func117,Tryz.ntmps117);(go_wp2_with fail);refine (as_hit n ⟨w.heap.size,0,none⟩ (.int .i64 0) _ h1 (by simp) (by simp)).mono ?_;rintro e w' ⟨rfl,rfl⟩;go_wp2;go_ret;exact ⟨rfl,(((((Below.refl _ _).alloc (Nat.le_refl _) _).alloc (by simp) _).alloc (by simp;omega) _).alloc (by simp;omega) _).alloc (by simp;omega) _⟩
end errs
namespace errs
open Go.RowKit
def errV (n : Int) : Value:=if n = 0 then .nilIface else .iface 69 (.int .i64 n)
theorem errV_zero : errV 0 = .nilIface:=rfl
theorem errV_of {n : Int} (h : n ≠ 0) : errV n = .iface 69 (.int .i64 n):=by simp [errV,h]
end errs
end Go.Proofs.YtefkmcjhgoagcaaGreatDoor
