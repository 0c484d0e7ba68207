/-
  A part of the proof of the law DeskPieces: DkP.
-/
import Derived.Test.YtlhodcmdpchllaaGreatDoorHd
import Derived.Test.YtlhodcmdpchllaaGreatDoorP34
set_option maxHeartbeats 16000000
set_option maxRecDepth 1000000
namespace Go.Proofs.YtlhodcmdpchllaaGreatDoor
namespace fe
open Go.RowKit heap own eO fq eK dR eZ
open dI (dW dC dJ ga fB eA gL Net dB)
section
variable {P:Lib.PrintTabs} {own own1:Nat->Nat} {w0 w w':World} {ob db:Nat} {v v':WV} {r r':dB}
def pA:Value:=.agg #[.string ByteArray.empty,.int .i64 0]
theorem Hi (w:World) (sb:Nat) (o:Int) (ho:o<0\/8<=o) :
 Calls Tryz.prog 126 #[.pointer (some ⟨sb,0,none⟩),.int .i64 o] w fun e w'=>e=.returned (.tuple #[pA,fx 2])/\Below w.heap.size w w':=by
 unfold pA;rw[iE (by decide)];have hg:=Has.new w (.cells #[.string ByteArray.empty,.int .i64 0] 98);rcases Int.lt_or_le o 0 with h|h
 ·have d0:decide (o<0)=true:=decide_eq_true h;clear ho;(go_enter Tryz.func126,Tryz.ntmps126);go_wp2;exact bodyPost_ret (uu _ _ w.heap.size _ _ rfl rfl hg rfl) rfl ⟨rfl,(Below.refl _ _).alloc (aq _) _⟩
 have d0:decide (o<0)=false:=decide_eq_false (by omega);have d1:decide (8<=o)=true:=decide_eq_true (by omega);clear ho;(go_enter Tryz.func126,Tryz.ntmps126);go_wp2;exact bodyPost_ret (uu _ _ w.heap.size _ _ rfl rfl hg rfl) rfl ⟨rfl,(Below.refl _ _).alloc (aq _) _⟩
theorem Hj (w:World) (o:Int) (h:dP P own w0 w ob db v r) (hs:r.eD=none) :
 Calls Tryz.prog 81 #[.pointer (some ⟨ob,0,none⟩),.int .i64 o] w fun e w'=>e=.returned (.tuple #[pA,fx 6])/\Below w.heap.size w w':=by
 rcases h.oy with⟨KK,My⟩|⟨s2,sb,KK,My⟩
 ·(have c4:w.cell? ⟨ob,4,none⟩=some (.pointer none):=by rw[<- My];exact h.o_.cell 4);have KN:=h.o_.lt;have hg:=Has.new w (.cells #[.string ByteArray.empty,.int .i64 0] 98);clear h hs KK My;unfold pA;rw[iE (by decide)];(go_enter Tryz.func81,Tryz.ntmps81);go_wp2;exact bodyPost_ret (uv _ _ w.heap.size _ _ rfl rfl hg rfl) rfl ⟨rfl,(Below.refl _ _).alloc (aq _) _⟩
 rw[hs]at KK;cases KK
theorem Hk (w:World) (o:Int) (ho:o<0\/8<=o) (h:dP P own w0 w ob db v r) {s:dC} (hs:r.eD=some s) :
 Calls Tryz.prog 81 #[.pointer (some ⟨ob,0,none⟩),.int .i64 o] w fun e w'=>e=.returned (.tuple #[pA,fx 2])/\Below w.heap.size w w':=by
 rcases h.oy with⟨KK,-⟩|⟨s2,sb,KK,My⟩
 ·rw[hs]at KK;cases KK
 (have c4:w.cell? ⟨ob,4,none⟩=some (.pointer (some ⟨sb,0,none⟩)):=by rw[<- My];exact h.o_.cell 4);have KN:=h.o_.lt;have Kd:Below w.heap.size w (w.alloc (.cells #[.string ByteArray.empty,.int .i64 0] 98)):=(Below.refl _ _).alloc (aq _) _;have HV:=Hd (Hi (w.alloc (.cells #[.string ByteArray.empty,.int .i64 0] 98)) sb o ho);have Ki:=Hd Kd;unfold pA at HV⊢;clear h hs KK My Kd ho;go_enter Tryz.func81,Tryz.ntmps81
 go_wp2_with first
  |(go_at_call 126;refine HV.o.mono ?_;rintro e w2 ⟨rfl,Ke⟩;have HG:=Hd ((Has.new w (.cells #[.string ByteArray.empty,.int .i64 0] 98)).below Ke (by simp));have Kn:=Hd (Ki.o.trans (Ke.mono Ki.o.size));clear Ke)
  |(refine wpList_store_row rfl 98 (.tmp 4) (.tmp 19) rfl w.heap.size #[.string ByteArray.empty,.int .i64 0] rfl rfl 98 _ HG.o (by kernel_rfl) rfl (by simp[Value.oneCell']) ?_)
 exact bodyPost_ret (uv _ _ w.heap.size _ _ rfl rfl (HG.o.setRow _) rfl) rfl ⟨rfl,below_setRow Kn.o (aq _) _⟩
end
end fe
end Go.Proofs.YtlhodcmdpchllaaGreatDoor
