/-
  A part of the proof of the law DeskPieces: Law, Errs, ErrV, Clock.
-/
import Derived.Test.YtlhodcmdpchllaaGreatDoorRows
import Derived.WalkKit
import Derived.ProofKit
import Derived.OpenShut
import Derived.Carry
import Derived.ChangeSame
import Derived.Deep.Fields
import Derived.Deep.Slices
import Derived.Lib.Hide
import Derived.LaidEql
import Derived.Stop.Asserts
import Derived.RowKitTokens
import Derived.Test.YtlhodcmdpchllaaGreatDoorHd
set_option maxHeartbeats 16000000
set_option maxRecDepth 1000000
namespace Go.Proofs.YtlhodcmdpchllaaGreatDoor
namespace law
open Go.ChangeShapes Go.WideShapes Go.RowKit Go.Deep
theorem laidOut:laidOutB Tryz.prog=true:=by kernel_rfl
section
variable {H:Type} {enc:TypeId×Value->H}
theorem AQ {W W':World} (hb:Below W.heap.size W W'):∀(ts:List TypeId) (vs:List Value) (ds:List (DataW H)) (ps:List MemPlace),
 (∀t∈ts,Tryz.prog.readableRec t=true/\t<Tryz.prog.types.size)->(∀p∈ps,p.block<W.heap.size) ->
 DataW.TrodAll enc Tryz.prog W 0 (fun _=>true) true ts vs ds ps->DataW.TrodAll enc Tryz.prog W' 0 (fun b=>decide (b<W.heap.size)) true ts vs ds ps
 | [],vs,ds,ps,_,_,h=>by
  obtain⟨rfl,rfl,rfl⟩:=trodAll_nil h;exact trodAll_mk0
 |t::ts,vs,ds,ps,hr,Kg,h=>by
  obtain⟨v,vs',d,ds',p,q,rfl,rfl,rfl,h1,h2⟩:=trodAll_cons h
  exact trodAll_cons_mk (Below.trod laidOut (hr t (by simp)).1 (hr t (by simp)).2 h1 hb (fun x hx=>Kg x (by simp[hx])))
   (AQ hb ts vs' ds' q (fun t ht=>hr t (by simp[ht])) (fun x hx=>Kg x (by simp[hx])) h2)
theorem JY {f:Func} {s:ChangeSpec} {apart fresh handsOn:Bool} {W W':World} {args:Array Value} {ds gs:List (DataW H)} {before:List MemPlace}
 (hW:DataW.Whole enc Tryz.prog f.params.toList s.vars apart W args.toList ds gs before) (hv:s.vars=[]) (Px:f.resultTypes=#[4])
 (hr:∀t∈f.params.toList,Tryz.prog.readableRec t=true/\t<Tryz.prog.types.size)
 (hs:∀gs,gs=[]->(s.fn H (ds++gs))={results:=[.lit (.bool true)],args:=ds}) (hb:Below W.heap.size W W') :
 s.post enc Tryz.prog f apart fresh handsOn false W args (.bool true) W':=by
 have Kg:∀p∈before,p.block<W.heap.size:=fun p hp=>hW.lt p hp;have Kc:=hW;obtain⟨p,q,hA0,hV,rfl,hfz,P5⟩:=hW;have hA:DataW.TrodAll enc Tryz.prog W 0 (fun _=>true) true f.params.toList args.toList ds p:=hA0;rw[hv]at hV;obtain⟨rfl,rfl⟩:=trodVars_none hV;refine⟨ds,[],_,[],p,[],Kc,?_,?_,?_,World.keptBut_mono (fun x hx=>⟨hx,?_⟩) (hb.frame (·∈p++[])),fun h=>by cases h⟩
 ·rw[hs [] rfl,Px];exact trodAll_cons_mk (shut_bool Tryz.underlying4 _) trodAll_mk0
 ·rw[hs [] rfl];exact AQ hb _ _ _ _ hr (fun x hx=>Kg x (by simp[hx])) hA
 ·rw[hs [] rfl,hv];rfl
 exact Or.inr (by simpa using hx)
end
end law
namespace eO
open Go.RowKit Go.Extern.Stop Go.Stop Go.Extern
theorem AY (t:Addr) (w:World):(ReflectliteValue.unpack (.iface 122 (.pointer (some t)))).run Tryz.prog w
 = .ok (.agg #[.pointer (some ⟨14,122,none⟩),.pointer (some ⟨w.heap.size,0,none⟩),.int .u64 150]) (w.alloc (.cells #[.pointer (some t)] 122)):=by kernel_rfl
theorem AZ (a:Addr) (w:World):(ReflectliteValue.methodAny (ReflectliteValue.valueError "reflectlite.Value.Type" 0) (fun t _ _ _=>ReflectliteType.toType t) #[.agg #[.pointer (some ⟨14,122,none⟩),.pointer (some a),.int .u64 150]]).run Tryz.prog w
 = .ok (.iface 210 (.agg #[.pointer (some ⟨14,122,none⟩)])) w:=by kernel_rfl
theorem A0 (h:Value) (w:World):(Go.method (346+100) 210 (.agg #[h]) "Kind").run Tryz.prog w=.ok (264,h) w:=by kernel_rfl
theorem A3 (w:World):((ReflectliteType.abiMethod fun t=>(fun a:Nat=>Value.int IntKind.u8 (a:Int)) <$> Rtype.kind t) #[.pointer (some ⟨14,122,none⟩)]).run Tryz.prog w=.ok (.int .u8 22) w:=by kernel_rfl
theorem A4 (w:World):((ReflectliteType.abiMethod fun t=>(fun a:Nat=>Value.int IntKind.u8 (a:Int)) <$> Rtype.kind t) #[.pointer (some ⟨14,52,none⟩)]).run Tryz.prog w=.ok (.int .u8 2) w:=by kernel_rfl
theorem uV (z:Sem Value) (f:TypeId->Addr->Nat->Nat->Sem Value) (v:Value) :
 ReflectliteValue.method z f #[v]=(do match <- ReflectliteValue.parts v with|none=>z|some (t,a,fl)=>f t a fl (fl%32)):=rfl
theorem uW (a:Addr) (w:World):(ReflectliteValue.parts (.agg #[.pointer (some ⟨14,122,none⟩),.pointer (some a),.int .u64 150])).run Tryz.prog w=.ok (some (122,a,150)) w:=by kernel_rfl
theorem A5 (a p:Addr) (W:World) (ha:W.cell? a=some (.pointer (some p))) :
 (ReflectliteValue.method (ReflectliteValue.valueError "reflectlite.Value.IsNil" 0) ReflectliteValue.isNil #[.agg #[.pointer (some ⟨14,122,none⟩),.pointer (some a),.int .u64 150]]).run Tryz.prog W=.ok (.bool false) W:=by
 rw[uV];simp only[Sem.run_bind,uW,Result.andThen];simp[ReflectliteValue.isNil,loadVar,isAgg,underlying,Tryz.underlying122,ha,Result.andThen]
theorem A6 (h:Value) (w:World):(Go.method (346+100) 210 (.agg #[h]) "Elem").run Tryz.prog w=.ok (279,.agg #[h]) w:=by kernel_rfl
theorem A7 (h:Value) (w:World):(Go.method (346+100) 210 (.agg #[h]) "Implements").run Tryz.prog w=.ok (280,.agg #[h]) w:=by kernel_rfl
theorem A8 (h:Value) (w:World):(Go.method (346+100) 210 (.agg #[h]) "AssignableTo").run Tryz.prog w=.ok (277,.agg #[h]) w:=by kernel_rfl
theorem A9 (w:World):(ReflectliteType.method ReflectliteType.elem #[.agg #[.pointer (some ⟨14,122,none⟩)]]).run Tryz.prog w=.ok (.iface 210 (.agg #[.pointer (some ⟨14,52,none⟩)])) w:=by kernel_rfl
theorem Ba (w:World):(ReflectliteType.relation "Implements" ReflectliteType.implements_ #[.agg #[.pointer (some ⟨14,52,none⟩)],.iface 210 (.agg #[.pointer (some ⟨14,40,none⟩)])]).run Tryz.prog w=.ok (.bool true) w:=by kernel_rfl
theorem Bb (v:Value) (w:World):(ReflectliteType.typeOf #[.iface 52 v]).run Tryz.prog w=.ok (.iface 210 (.agg #[.pointer (some ⟨14,52,none⟩)])) w:=by kernel_rfl
theorem Bc (w:World):(ReflectliteType.relation "AssignableTo" ReflectliteType.assignableTo #[.agg #[.pointer (some ⟨14,52,none⟩)],.iface 210 (.agg #[.pointer (some ⟨14,52,none⟩)])]).run Tryz.prog w=.ok (.bool true) w:=by kernel_rfl
theorem Bd (n:Int) (w:World):(ReflectliteValue.unpack (.iface 52 (.int .i64 n))).run Tryz.prog w
 = .ok (.agg #[.pointer (some ⟨14,52,none⟩),.pointer (some ⟨w.heap.size,0,none⟩),.int .u64 130]) (w.alloc (.cells #[.int .i64 n] 52)):=by kernel_rfl
theorem Be (w:World):(Rtype.elem? 122).run Tryz.prog w=.ok (some 52) w:=by kernel_rfl
theorem Bf (p:Addr) (w:World):(ReflectliteValue.mk 52 p ReflectliteValue.flagAddr).run Tryz.prog w=.ok (.agg #[.pointer (some ⟨14,52,none⟩),.pointer (some p),.int .u64 386]) w:=by kernel_rfl
theorem Bg (a p:Addr) (W:World) (ha:W.cell? a=some (.pointer (some p))) :
 (ReflectliteValue.method (ReflectliteValue.valueError "reflectlite.Value.Elem" 0) ReflectliteValue.elem #[.agg #[.pointer (some ⟨14,122,none⟩),.pointer (some a),.int .u64 150]]).run Tryz.prog W
   = .ok (.agg #[.pointer (some ⟨14,52,none⟩),.pointer (some p),.int .u64 386]) W:=by
 rw[uV];simp only[Sem.run_bind,uW,Result.andThen];simp[ReflectliteValue.elem,loadVar,isAgg,underlying,Tryz.underlying122,ha,Result.andThen,Be,Bf]
theorem Bh (v x:Value):ReflectliteValue.set #[v,x]=(do
 let (some (dst,a,fl),some (src,b,_)):=(<- ReflectliteValue.parts v,<- ReflectliteValue.parts x)
  |unsupported (.noEntry "extern/(internal/reflectlite.Value).Set.zeroValue")
 if fl/ReflectliteValue.flagAddr%2==0 then unsupported (.noEntry "extern/(internal/reflectlite.Value).Set.unaddressable")
 let val <- loadVar src b
 if <- Rtype.directlyAssignable dst src then storeVar dst a val
 else if <- Rtype.implements dst src then
  if (<- Rtype.kind src)==20 then
   match val with
   |.nilIface=>unsupported (.noEntry "extern/reflectlite: a nil value of one interface type handed on as a value of another")
   |_=>storeVar dst a val
  else storeVar dst a (.iface src val)
 else panicString ("reflectlite.Set: value of type " ++ (<- Rtype.spelt src) ++ " is not assignable to type " ++ (<- Rtype.spelt dst))
 pure (.tuple #[])):=rfl
theorem Bi (a:Addr) (w:World):(ReflectliteValue.parts (.agg #[.pointer (some ⟨14,52,none⟩),.pointer (some a),.int .u64 386])).run Tryz.prog w=.ok (some (52,a,386)) w:=by kernel_rfl
theorem Bj (a:Addr) (w:World):(ReflectliteValue.parts (.agg #[.pointer (some ⟨14,52,none⟩),.pointer (some a),.int .u64 130])).run Tryz.prog w=.ok (some (52,a,130)) w:=by kernel_rfl
theorem Bk (w:World):(Rtype.directlyAssignable 52 52).run Tryz.prog w=.ok true w:=by kernel_rfl
theorem Bl (ta b:Addr) (n:Int) (ia:Value) (W:World) (hb:W.cell? b=some (.int .i64 n)) (ht:W.cell? ta=some ia) (hf:W.frozen? ta=false) :
 (ReflectliteValue.set #[.agg #[.pointer (some ⟨14,52,none⟩),.pointer (some ta),.int .u64 386],.agg #[.pointer (some ⟨14,52,none⟩),.pointer (some b),.int .u64 130]]).run Tryz.prog W
   = .ok (.tuple #[]) (W.setCell ta (.int .i64 n)):=by
 rw[Bh];simp only[Sem.run_bind,Bi,Bj,Result.andThen];simp[ReflectliteValue.flagAddr,loadVar,isAgg,underlying,Tryz.underlying52,hb,Result.andThen,Bk,storeVar,Value.cells,storeCells,Addr.add];rw[run_store Tryz.prog W ta _ _ (by rfl)];simp[ht,hf]
def Handle (w:World):Prop:=w.cell? ⟨0,0,none⟩=some (.iface 210 (.agg #[.pointer (some ⟨14,40,none⟩)]))
theorem Handle.lt {w:World} (h:Handle w):0<w.heap.size:=by
 rcases aW 0 w.heap.size with h0|h0
 ·exact h0
 unfold Handle at h;simp[World.cell?,Array.getElem?_eq_none h0]at h
theorem Handle.below {w w':World} (h:Handle w) (hb:Below w.heap.size w w'):Handle w':=(hb.cell (p:=⟨0,0,none⟩) h.lt).trans h
theorem Handle.alloc {w:World} (h:Handle w) (o:Obj):Handle (w.alloc o):=h.below ((Below.refl _ _).alloc (aq _) o)
theorem Bm (n:Int) (t:Addr) (ia:Value) (w:World) (Lo:Handle w) (ht0:w.cell? t=some ia) (hf0:w.frozen? t=false) :
 Calls Tryz.prog 59 #[.iface 52 (.int .i64 n),.iface 122 (.pointer (some t))] w fun ev w'=>ev=.returned (.bool true)/\w'=((((w.alloc (.cells #[.pointer (some t)] 122)).alloc (.cells #[.pointer (some ⟨14,122,none⟩),.pointer (some ⟨w.heap.size,0,none⟩),.int .u64 150] 160)).alloc (.cells #[.pointer (some ⟨14,122,none⟩),.pointer (some ⟨w.heap.size,0,none⟩),.int .u64 150] 160)).alloc (.cells #[.int .i64 n] 52)).setCell t (.int .i64 n):=by
 have h6:=@run_callFunc_extern Tryz.prog 92 _ (fun args=>ReflectliteValue.unpack (args.getD 0 (.tuple #[]))) Tryz.func92 (by kernel_rfl) (by kernel_rfl) (by kernel_rfl) (by kernel_rfl);have h7:=@run_callFunc_extern Tryz.prog 93 _ (ReflectliteValue.methodAny (ReflectliteValue.valueError "reflectlite.Value.Type" 0) (fun t _ _ _=>ReflectliteType.toType t)) Tryz.func93 (by kernel_rfl) (by kernel_rfl) (by kernel_rfl) (by kernel_rfl);have h8:=@run_callFunc_extern Tryz.prog 94 _ (ReflectliteValue.method (ReflectliteValue.valueError "reflectlite.Value.IsNil" 0) ReflectliteValue.isNil) Tryz.func94 (by kernel_rfl) (by kernel_rfl) (by kernel_rfl) (by kernel_rfl);have h27:=@run_callFunc_extern Tryz.prog 264 _ (ReflectliteType.abiMethod fun t=>do pure (.int .u8 (<- Rtype.kind t))) Tryz.func264 (by kernel_rfl) (by kernel_rfl) (by kernel_rfl) (by kernel_rfl);have UP:=@run_callFunc_extern Tryz.prog 279 _ (ReflectliteType.method ReflectliteType.elem) Tryz.func279 (by kernel_rfl) (by kernel_rfl) (by kernel_rfl) (by kernel_rfl);have h38:=@run_callFunc_extern Tryz.prog 280 _ (ReflectliteType.relation "Implements" ReflectliteType.implements_) Tryz.func280 (by kernel_rfl) (by kernel_rfl) (by kernel_rfl) (by kernel_rfl);have VC:=@run_callFunc_extern Tryz.prog 138 _ ReflectliteType.typeOf Tryz.func138 (by kernel_rfl) (by kernel_rfl) (by kernel_rfl) (by kernel_rfl);have h35:=@run_callFunc_extern Tryz.prog 277 _ (ReflectliteType.relation "AssignableTo" ReflectliteType.assignableTo) Tryz.func277 (by kernel_rfl) (by kernel_rfl) (by kernel_rfl) (by kernel_rfl);have h11:=@run_callFunc_extern Tryz.prog 139 _ (ReflectliteValue.method (ReflectliteValue.valueError "reflectlite.Value.Elem" 0) ReflectliteValue.elem) Tryz.func139 (by kernel_rfl) (by kernel_rfl) (by kernel_rfl) (by kernel_rfl);have Yl:=@run_callFunc_extern Tryz.prog 140 _ ReflectliteValue.set Tryz.func140 (by kernel_rfl) (by kernel_rfl) (by kernel_rfl) (by kernel_rfl);have tO:=Bb;have mA:=A8;have a25:=Bc;have v25:=Bd;have f6:=AY;have f7:=AZ;have mK:=A0;have mE:=A6;have mI:=A7;have k27:=A3;have k25:=A4;have e27:=A9;have i25:=Ba;have n8:=A5 ⟨w.heap.size,0,none⟩ t ((w.alloc (.cells #[.pointer (some t)] 122)).alloc (.cells #[.pointer (some ⟨14,122,none⟩),.pointer (some ⟨w.heap.size,0,none⟩),.int .u64 150] 160)) (by simp);have Kg:=Lo.lt
 have KE:((w.alloc (.cells #[.pointer (some t)] 122)).alloc (.cells #[.pointer (some ⟨14,122,none⟩),.pointer (some ⟨w.heap.size,0,none⟩),.int .u64 150] 160)).cell? ⟨0,0,none⟩=some (.iface 210 (.agg #[.pointer (some ⟨14,40,none⟩)])):=
  (Lo.alloc _).alloc _
 clear Lo
 have R5:t.block<w.heap.size:=by
  exact Lt ht0
 have el:=Bg ⟨w.heap.size,0,none⟩ t (((w.alloc (.cells #[.pointer (some t)] 122)).alloc (.cells #[.pointer (some ⟨14,122,none⟩),.pointer (some ⟨w.heap.size,0,none⟩),.int .u64 150] 160)).alloc (.cells #[.pointer (some ⟨14,122,none⟩),.pointer (some ⟨w.heap.size,0,none⟩),.int .u64 150] 160)) (by rw[World.cell?_alloc_lt _ _ ⟨w.heap.size,0,none⟩ (by simp;omega)];simp)
 have st:=Bl t ⟨w.heap.size+1+1+1,0,none⟩ n ia ((((w.alloc (.cells #[.pointer (some t)] 122)).alloc (.cells #[.pointer (some ⟨14,122,none⟩),.pointer (some ⟨w.heap.size,0,none⟩),.int .u64 150] 160)).alloc (.cells #[.pointer (some ⟨14,122,none⟩),.pointer (some ⟨w.heap.size,0,none⟩),.int .u64 150] 160)).alloc (.cells #[.int .i64 n] 52))
  (by rw[World.cell?_alloc_at _ _ _ _ (by simp)];rfl)
  (by rw[World.cell?_alloc_lt _ _ t (by simp;omega),World.cell?_alloc_lt _ _ t (by simp;omega),World.cell?_alloc_lt _ _ t (by simp;omega),World.cell?_alloc_lt _ _ t R5];exact ht0)
  (by rw[World.frozen?_alloc_old _ _ t (by simp;omega),World.frozen?_alloc_old _ _ t (by simp;omega),World.frozen?_alloc_old _ _ t (by simp;omega),World.frozen?_alloc_old _ _ t (Nat.ne_of_lt R5)];exact hf0)
 (go_enter Tryz.func59,Tryz.ntmps59);go_wp2;refine wp_loop_rounds 1 ?_;rw[rounds_succ];go_wp2;go_ret;exact⟨rfl,rfl⟩
theorem Bn (w:World):Calls Tryz.prog 26 #[.nilIface] w fun e w'=>e=.returned (.int .i64 0)/\w=w':=by
 (go_enter Tryz.func26,Tryz.ntmps26);go_wp2;go_ret;exact⟨rfl,rfl⟩
theorem uX (n:Int) (w:World) (hg:Handle w):Calls Tryz.prog 26 #[.iface 52 (.int .i64 n)] w fun e w'=>e=.returned (.int .i64 n)/\Below w.heap.size w w':=by
 have h1:Handle (w.alloc (.cells #[.int .i64 0] 52)):=hg.alloc _;(go_enter Tryz.func26,Tryz.ntmps26);(go_wp2_with fail);refine (Bm n ⟨w.heap.size,0,none⟩ (.int .i64 0) _ h1 (by simp) (by simp)).mono ?_;rintro e w' ⟨rfl,rfl⟩;go_wp2;go_ret;exact⟨rfl,(((((Below.refl _ _).alloc (aq _) _).alloc (by simp) _).alloc (by simp;omega) _).alloc (by simp;omega) _).alloc (by simp;omega) _⟩
end eO
namespace eO
open Go.RowKit
def fx (n:Int):Value:=if n=0 then .nilIface else .iface 52 (.int .i64 n)
theorem kx:fx 0=.nilIface:=rfl
theorem iE {n:Int} (h:n≠0):fx n=.iface 52 (.int .i64 n):=by simp[fx,h]
end eO
namespace clock
open Go.RowKit eO
theorem DS (a b A B:Int) (h0:0<=a) (h1:a<=A) (h2:0<=b) (h3:b<=B):0<=a*b/\a*b<=A*B:=
 ⟨Int.mul_nonneg h0 h2,Int.mul_le_mul h1 h3 h2 (by omega)⟩
theorem DT {x y:Int} {v:Value} (h:x=y):Ending.returned (.tuple #[.int .i64 x,v])=Ending.returned (.tuple #[.int .i64 y,v]):=by rw[h]
theorem xj (d t:Int) (w:World) (h1:0<=d) (h2:d<=500) (h3:0<=t) (h4:t<=1099511627776) :
 Calls Tryz.prog 77 #[.int .i64 d,.int .i64 t] w fun e w'=>e=.returned (.tuple #[.int .i64 (t*(1000-d)/(1000+d)),.nilIface])/\w=w':=by
 obtain⟨m0,m1⟩:=DS t (1000-d) 1099511627776 1000 h3 h4 (by omega) (by omega);(go_enter Tryz.func77,Tryz.ntmps77);go_wp2;go_ret2;exact⟨rfl,rfl⟩
theorem xk (d t:Int) (w:World) (h:¬(0<=d/\d<=500/\0<=t/\t<=1099511627776)) :
 Calls Tryz.prog 77 #[.int .i64 d,.int .i64 t] w fun e w'=>e=.returned (.tuple #[.int .i64 0,.iface 52 (.int .i64 2)])/\w=w':=by
 (have h':d<0\/500<d\/t<0\/1099511627776<t:=by omega);clear h;(go_enter Tryz.func77,Tryz.ntmps77);go_wp2
 all_goals
  go_ret2;exact⟨rfl,rfl⟩
theorem DU (a b:Int) (w:World) (h1:0<=a) (h2:a<=1099511627776) (h3:0<=b) (h4:b<=1099511627776) :
 Calls Tryz.prog 187 #[.int .i64 a,.int .i64 b] w fun e w'=>e=.returned (.tuple #[.int .i64 (min (a+b) 1099511627776),.nilIface])/\w=w':=by
 (have i0:∀w,(Instr.index 286 (.agg #[.int .i64 a,.int .i64 b]) (.int .i64 0)).run Tryz.prog w=.ok (.int .i64 a) w:=fun _=>by kernel_rfl);(have i1:∀w,(Instr.index 286 (.agg #[.int .i64 a,.int .i64 b]) (.int .i64 1)).run Tryz.prog w=.ok (.int .i64 b) w:=fun _=>by kernel_rfl);(go_enter Tryz.func187,Tryz.ntmps187);go_wp2;refine wp_loop_rounds 3 ?_;rw[rounds_succ];go_wp2;rw[rounds_succ];go_wp2;rw[rounds_succ];go_wp2
 all_goals
  go_ret2;exact⟨DT (by omega),rfl⟩
theorem DV (a b:Int) (w:World) (h:¬(0<=a/\a<=1099511627776/\0<=b/\b<=1099511627776)) :
 Calls Tryz.prog 187 #[.int .i64 a,.int .i64 b] w fun e w'=>e=.returned (.tuple #[.int .i64 0,.iface 52 (.int .i64 2)])/\w=w':=by
 (have i0:∀w,(Instr.index 286 (.agg #[.int .i64 a,.int .i64 b]) (.int .i64 0)).run Tryz.prog w=.ok (.int .i64 a) w:=fun _=>by kernel_rfl);(have i1:∀w,(Instr.index 286 (.agg #[.int .i64 a,.int .i64 b]) (.int .i64 1)).run Tryz.prog w=.ok (.int .i64 b) w:=fun _=>by kernel_rfl);by_cases ha:a<0\/1099511627776<a
 ·clear h;(go_enter Tryz.func187,Tryz.ntmps187);go_wp2;refine wp_loop_rounds 1 ?_;rw[rounds_succ];go_wp2
  all_goals
   go_ret2;exact⟨rfl,rfl⟩
 (have h0:0<=a:=by omega);(have h1:a<=1099511627776:=by omega);(have h2:b<0\/1099511627776<b:=by omega);clear h ha;(go_enter Tryz.func187,Tryz.ntmps187);go_wp2;refine wp_loop_rounds 2 ?_;rw[rounds_succ];go_wp2;rw[rounds_succ];go_wp2
 all_goals
  go_ret2;exact⟨rfl,rfl⟩
end clock
end Go.Proofs.YtlhodcmdpchllaaGreatDoor
