/-
  A part of the proof of the law DeskPieces: DkA.
-/
import Derived.WalkSmall
import Derived.Test.YtlhodcmdpchllaaGreatDoorHd
import Derived.Test.YtlhodcmdpchllaaGreatDoorP07
import Derived.Test.YtlhodcmdpchllaaGreatDoorP12
set_option maxHeartbeats 16000000
set_option maxRecDepth 1000000
namespace Go.Proofs.YtlhodcmdpchllaaGreatDoor
namespace dk
open Go.RowKit heap eO
def oA (n:Int):Value:=.iface 54 (.agg #[.int .i64 n])
theorem jV (w:World):Calls Tryz.prog 14 #[.nilIface] w fun e w'=>e=.returned (.tuple #[])/\w=w':=by
 go_enter Tryz.func14,Tryz.ntmps14
 go_wp2
 go_end0
 exact⟨rfl,rfl⟩
theorem jO (n:Int) (w:World) (hg:Handle w):Calls Tryz.prog 14 #[.iface 52 (.int .i64 n)] w fun e w'=>e=.panicked [{v:=oA n,recovered:=false}]/\Below w.heap.size w w':=by
 have HT:=Hd (uX n w hg);clear hg;(go_enter Tryz.func14,Tryz.ntmps14);(go_wp2_with (go_at_call 26;refine HT.o.mono ?_;rintro e w1 ⟨rfl,hb⟩));go_wp2;exact⟨rfl,rfl,hb⟩
end dk
end Go.Proofs.YtlhodcmdpchllaaGreatDoor
