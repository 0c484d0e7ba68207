/-
  A part of the proof of the law WorldCalm: Errs, ErrV.
-/
import Derived.Test.YtjhdaojclilakaaGreatDoorRows
import Derived.WalkKit
import Derived.ProofKit
import Derived.OpenShut
import Derived.Lib.Hide
import Derived.LaidEql
import Derived.Stop.Asserts
import Derived.RowKitTokens
import Derived.Test.YtjhdaojclilakaaGreatDoorHd
set_option maxHeartbeats 16000000
set_option maxRecDepth 1000000
namespace Go.Proofs.YtjhdaojclilakaaGreatDoor
namespace gC
open Go.RowKit Go.Extern.Stop Go.Stop Go.Extern
theorem FD (t:Addr) (w:World):(ReflectliteValue.unpack (.iface 195 (.pointer (some t)))).run Tryz.prog w
 = .ok (.agg #[VP 14 195,VP w.heap.size 0,.int .u64 150]) (w.alloc (.cells #[.pointer (some t)] 195)):=af
theorem FE (a:Addr) (w:World):(ReflectliteValue.methodAny (ReflectliteValue.valueError "reflectlite.Value.Type" 0) (fun t _ _ _=>ReflectliteType.toType t) #[.agg #[VP 14 195,.pointer (some a),.int .u64 150]]).run Tryz.prog w
 = .ok (.iface 250 (.agg #[VP 14 195])) w:=af
theorem FG (h:Value) (w:World):(Go.method (331+100) 250 (.agg #[h]) "Kind").run Tryz.prog w=.ok (231,h) w:=af
theorem FH (w:World):((ReflectliteType.abiMethod fun t=>(fun a:Nat=>Value.int IntKind.u8 (a:Int)) <$> Rtype.kind t) #[VP 14 195]).run Tryz.prog w=.ok (.int .u8 22) w:=af
theorem FI (w:World):((ReflectliteType.abiMethod fun t=>(fun a:Nat=>Value.int IntKind.u8 (a:Int)) <$> Rtype.kind t) #[VP 14 70]).run Tryz.prog w=.ok (.int .u8 2) w:=af
theorem zt (z:Sem Value) (f:TypeId->Addr->Nat->Nat->Sem Value) (v:Value) :
 ReflectliteValue.method z f #[v]=(do match <- ReflectliteValue.parts v with|none=>z|some (t,a,fl)=>f t a fl (fl%32)):=rfl
theorem zu (a:Addr) (w:World):(ReflectliteValue.parts (.agg #[VP 14 195,.pointer (some a),.int .u64 150])).run Tryz.prog w=.ok (some (195,a,150)) w:=af
theorem FJ (a p:Addr) (W:World) (b:W.cell? a=some (.pointer (some p))) :
 (ReflectliteValue.method (ReflectliteValue.valueError "reflectlite.Value.IsNil" 0) ReflectliteValue.isNil #[.agg #[VP 14 195,.pointer (some a),.int .u64 150]]).run Tryz.prog W=.ok (.bool false) W:=by
 rw[zt];simp only[Sem.run_bind,zu,Result.andThen];simp[ReflectliteValue.isNil,loadVar,isAgg,underlying,Tryz.underlying195,b,Result.andThen]
theorem FK (h:Value) (w:World):(Go.method (331+100) 250 (.agg #[h]) "Elem").run Tryz.prog w=.ok (247,.agg #[h]) w:=af
theorem FL (h:Value) (w:World):(Go.method (331+100) 250 (.agg #[h]) "Implements").run Tryz.prog w=.ok (248,.agg #[h]) w:=af
theorem FM (h:Value) (w:World):(Go.method (331+100) 250 (.agg #[h]) "AssignableTo").run Tryz.prog w=.ok (245,.agg #[h]) w:=af
theorem FO (w:World):(ReflectliteType.method ReflectliteType.elem #[.agg #[VP 14 195]]).run Tryz.prog w=.ok (.iface 250 (.agg #[VP 14 70])) w:=af
theorem FP (w:World):(ReflectliteType.relation "Implements" ReflectliteType.implements_ #[.agg #[VP 14 70],.iface 250 (.agg #[VP 14 47])]).run Tryz.prog w=.ok (.bool true) w:=af
theorem FQ (v:Value) (w:World):(ReflectliteType.typeOf #[.iface 70 v]).run Tryz.prog w=.ok (.iface 250 (.agg #[VP 14 70])) w:=af
theorem FR (w:World):(ReflectliteType.relation "AssignableTo" ReflectliteType.assignableTo #[.agg #[VP 14 70],.iface 250 (.agg #[VP 14 70])]).run Tryz.prog w=.ok (.bool true) w:=af
theorem FT (n:Int) (w:World):(ReflectliteValue.unpack (.iface 70 (VI n))).run Tryz.prog w
 = .ok (.agg #[VP 14 70,VP w.heap.size 0,.int .u64 130]) (w.alloc (.cells #[VI n] 70)):=af
theorem FU (w:World):(Rtype.elem? 195).run Tryz.prog w=.ok (some 70) w:=af
theorem FV (p:Addr) (w:World):(ReflectliteValue.mk 70 p ReflectliteValue.flagAddr).run Tryz.prog w=.ok (.agg #[VP 14 70,.pointer (some p),.int .u64 386]) w:=af
theorem FW (a p:Addr) (W:World) (b:W.cell? a=some (.pointer (some p))) :
 (ReflectliteValue.method (ReflectliteValue.valueError "reflectlite.Value.Elem" 0) ReflectliteValue.elem #[.agg #[VP 14 195,.pointer (some a),.int .u64 150]]).run Tryz.prog W
   = .ok (.agg #[VP 14 70,.pointer (some p),.int .u64 386]) W:=by
 rw[zt];simp only[Sem.run_bind,zu,Result.andThen];simp[ReflectliteValue.elem,loadVar,isAgg,underlying,Tryz.underlying195,b,Result.andThen,FU,FV]
theorem FX (v x:Value):ReflectliteValue.set #[v,x]=(do
 let (some (dst,a,fl),some (src,b,_)):=(<- ReflectliteValue.parts v,<- ReflectliteValue.parts x)
  |unsupported (.noEntry "extern/(internal/reflectlite.Value).Set.zeroValue")
 if fl/ReflectliteValue.flagAddr%2==0 then unsupported (.noEntry "extern/(internal/reflectlite.Value).Set.unaddressable")
 let val <- loadVar src b
 if <- Rtype.directlyAssignable dst src then storeVar dst a val
 else if <- Rtype.implements dst src then
  if (<- Rtype.kind src)==20 then
   match val with
   |.nilIface=>unsupported (.noEntry "extern/reflectlite: a nil value of one interface type handed on as a value of another")
   |_=>storeVar dst a val
  else storeVar dst a (.iface src val)
 else panicString ("reflectlite.Set: value of type " ++ (<- Rtype.spelt src) ++ " is not assignable to type " ++ (<- Rtype.spelt dst))
 pure (.tuple #[])):=rfl
theorem FY (a:Addr) (w:World):(ReflectliteValue.parts (.agg #[VP 14 70,.pointer (some a),.int .u64 386])).run Tryz.prog w=.ok (some (70,a,386)) w:=af
theorem FZ (a:Addr) (w:World):(ReflectliteValue.parts (.agg #[VP 14 70,.pointer (some a),.int .u64 130])).run Tryz.prog w=.ok (some (70,a,130)) w:=af
theorem F6 (w:World):(Rtype.directlyAssignable 70 70).run Tryz.prog w=.ok true w:=af
theorem F7 (a b:Addr) (n:Int) (jV:Value) (W:World) (hb:W.cell? b=some (VI n)) (ht:W.cell? a=some jV) (c:W.frozen? a=false) :
 (ReflectliteValue.set #[.agg #[VP 14 70,.pointer (some a),.int .u64 386],.agg #[VP 14 70,.pointer (some b),.int .u64 130]]).run Tryz.prog W
   = .ok (.tuple #[]) (W.setCell a (VI n)):=by
 rw[FX];simp only[Sem.run_bind,FY,FZ,Result.andThen];simp[ReflectliteValue.flagAddr,loadVar,isAgg,underlying,Tryz.underlying70,hb,Result.andThen,F6,storeVar,Value.cells,storeCells,Addr.add];rw[run_store Tryz.prog W a _ _ ai];simp[ht,c]
def Handle (w:World):Prop:=w.cell? ⟨1,0,none⟩=some (.iface 250 (.agg #[VP 14 47]))
variable {w:World}
theorem Handle.lt (h:Handle w):1<w.heap.size:=by
 rcases bk 1 w.heap.size with a|a
 ·exact a
 unfold Handle at h;simp[World.cell?,Array.getElem?_eq_none a]at h
theorem Handle.below {w':World} (h:Handle w) (hb:BB w w'):Handle w':=(hb.cell (p:=⟨1,0,none⟩) h.lt).trans h
theorem Handle.alloc (h:Handle w) (o:Obj):Handle (w.alloc o):=h.below ((Below.refl _ _).alloc (ax _) o)
theorem F8 (n:Int) (t:Addr) (jV:Value) (w:World) (b:Handle w) (a:w.cell? t=some jV) (c:w.frozen? t=false) :
 Calls Tryz.prog 125 #[.iface 70 (VI n),.iface 195 (.pointer (some t))] w fun ev w'=>ev=.returned (.bool true)/\w'=((((w.alloc (.cells #[.pointer (some t)] 195)).alloc (.cells #[VP 14 195,VP w.heap.size 0,.int .u64 150] 211)).alloc (.cells #[VP 14 195,VP w.heap.size 0,.int .u64 150] 211)).alloc (.cells #[VI n] 70)).setCell t (VI n):=by
 have q:=@run_callFunc_extern Tryz.prog 138 _ (fun args=>ReflectliteValue.unpack (args.getD 0 (.tuple #[]))) Tryz.func138 af af af af;have r:=@run_callFunc_extern Tryz.prog 139 _ (ReflectliteValue.methodAny (ReflectliteValue.valueError "reflectlite.Value.Type" 0) (fun t _ _ _=>ReflectliteType.toType t)) Tryz.func139 af af af af;have h8:=@run_callFunc_extern Tryz.prog 140 _ (ReflectliteValue.method (ReflectliteValue.valueError "reflectlite.Value.IsNil" 0) ReflectliteValue.isNil) Tryz.func140 af af af af;have e:=@run_callFunc_extern Tryz.prog 231 _ (ReflectliteType.abiMethod fun t=>do pure (.int .u8 (<- Rtype.kind t))) Tryz.func231 af af af af;have f:=@run_callFunc_extern Tryz.prog 247 _ (ReflectliteType.method ReflectliteType.elem) Tryz.func247 af af af af;have g:=@run_callFunc_extern Tryz.prog 248 _ (ReflectliteType.relation "Implements" ReflectliteType.implements_) Tryz.func248 af af af af;have s:=@run_callFunc_extern Tryz.prog 171 _ ReflectliteType.typeOf Tryz.func171 af af af af;have h:=@run_callFunc_extern Tryz.prog 245 _ (ReflectliteType.relation "AssignableTo" ReflectliteType.assignableTo) Tryz.func245 af af af af;have i:=@run_callFunc_extern Tryz.prog 172 _ (ReflectliteValue.method (ReflectliteValue.valueError "reflectlite.Value.Elem" 0) ReflectliteValue.elem) Tryz.func172 af af af af;have j:=@run_callFunc_extern Tryz.prog 173 _ ReflectliteValue.set Tryz.func173 af af af af;have u:=FQ;have v:=FM;have k:=FR;have l:=FT;have f6:=FD;have f7:=FE;have x:=FG;have y:=FK;have z:=FL;have m:=FH;have o:=FI;have p:=FO;have i25:=FP;have A:=FJ ⟨w.heap.size,0,none⟩ t ((w.alloc (.cells #[.pointer (some t)] 195)).alloc (.cells #[VP 14 195,VP w.heap.size 0,.int .u64 150] 211)) ae;have B:=b.lt
 have C:((w.alloc (.cells #[.pointer (some t)] 195)).alloc (.cells #[VP 14 195,VP w.heap.size 0,.int .u64 150] 211)).cell? ⟨1,0,none⟩=some (.iface 250 (.agg #[VP 14 47])):=
  (b.alloc _).alloc _
 clear b
 have d:t.block<w.heap.size:=by
  exact Lt a
 have el:=FW ⟨w.heap.size,0,none⟩ t (((w.alloc (.cells #[.pointer (some t)] 195)).alloc (.cells #[VP 14 195,VP w.heap.size 0,.int .u64 150] 211)).alloc (.cells #[VP 14 195,VP w.heap.size 0,.int .u64 150] 211)) (by rw[World.cell?_alloc_lt _ _ ⟨w.heap.size,0,none⟩ ah];simp)
 have st:=F7 t ⟨w.heap.size+1+1+1,0,none⟩ n jV ((((w.alloc (.cells #[.pointer (some t)] 195)).alloc (.cells #[VP 14 195,VP w.heap.size 0,.int .u64 150] 211)).alloc (.cells #[VP 14 195,VP w.heap.size 0,.int .u64 150] 211)).alloc (.cells #[VI n] 70))
  (by rw[World.cell?_alloc_at _ _ _ _ ae];rfl)
  (by rw[World.cell?_alloc_lt _ _ t ah,World.cell?_alloc_lt _ _ t ah,World.cell?_alloc_lt _ _ t ah,World.cell?_alloc_lt _ _ t d];exact a)
  (by rw[World.frozen?_alloc_old _ _ t ah,World.frozen?_alloc_old _ _ t ah,World.frozen?_alloc_old _ _ t ah,World.frozen?_alloc_old _ _ t (Nat.ne_of_lt d)];exact c)
 (go_enter Tryz.func125,Tryz.ntmps125);go_wp2;refine wp_loop_rounds 1 ?_;rw[rounds_succ];go_wp2;go_ret;exact⟨rfl,rfl⟩
theorem F9 (w:World):Calls Tryz.prog 106 #[.nilIface] w fun e w'=>e=.returned (VI 0)/\w=w':=by
 (go_enter Tryz.func106,Tryz.ntmps106);go_wp2;go_ret;exact⟨rfl,rfl⟩
theorem Ga (n:Int) (w:World) (a:Handle w):Calls Tryz.prog 106 #[.iface 70 (VI n)] w fun e w'=>e=.returned (VI n)/\BB w w':=by
 have b:Handle (w.alloc (.cells #[VI 0] 70)):=a.alloc _;(go_enter Tryz.func106,Tryz.ntmps106);(go_wp2_with fail);refine (F8 n ⟨w.heap.size,0,none⟩ (VI 0) _ b ae ae).mono ?_;rintro e w' ⟨rfl,rfl⟩;go_wp2;go_ret;exact⟨rfl,(((((Below.refl _ _).alloc (ax _) _).alloc ae _).alloc ah _).alloc ah _).alloc ah _⟩
end gC
namespace gC
open Go.RowKit
def iC (n:Int):Value:=if n=0 then .nilIface else .iface 70 (VI n)
theorem o7:iC 0=.nilIface:=rfl
theorem o8 {n:Int} (h:n≠0):iC n=.iface 70 (VI n):=by simp[iC,h]
end gC
end Go.Proofs.YtjhdaojclilakaaGreatDoor
