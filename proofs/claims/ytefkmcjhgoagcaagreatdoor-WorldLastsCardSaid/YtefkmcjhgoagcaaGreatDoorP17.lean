/-
  A part of the proof of the law WorldLasts: Wire3, NetS.
-/
import Derived.Laws.ResultCell
import Derived.Test.YtefkmcjhgoagcaaGreatDoorHd
import Derived.Test.YtefkmcjhgoagcaaGreatDoorP16
namespace Go.Proofs.YtefkmcjhgoagcaaGreatDoor
namespace wire
open Go.RowKit heap
theorem msg_cell_n {w : World} {b : Nat} {l : List Int} (h : Has w b (.cells (nCells l) 93)) (k : Nat) (hk : k < 7) :
 w.cell? ⟨b,k,none⟩ = some (.int .i64 (l.getD k 0)):=by
 rw [h.cell]
 match k,hk with
 | 0,_ | 1,_ | 2,_ | 3,_ | 4,_ | 5,_ | 6,_ => rfl
def decV (bs : List UInt8) : Value:=match decB bs with
 | some m => .tuple #[m.val,.nilIface]
 | none => .tuple #[.agg (nCells []),.iface 69 (.int .i64 3)]
theorem decV_none {bs : List UInt8} (h : decB bs = none) : decV bs = .tuple #[.agg (nCells []),.iface 69 (.int .i64 3)]:=by simp [decV,h]
theorem decV_some {bs : List UInt8} {m : Msg} (h : decB bs = some m) : decV bs = .tuple #[m.val,.nilIface]:=by simp [decV,h]
theorem msgCells_one (a b c d e f g : Int) (l : Bool) (s : ByteArray) : (msgCells a b c d e f g l s).all (·.oneCell') = true:=by simp [Value.oneCell']
theorem tailB_short (l : List Int) (r : List UInt8) (h : r.length < 2) : tailB l r = none:=by
 unfold tailB;split
 ·simp at h;omega
 ·rfl
theorem dec_results (tmps : Array Value) (W : World) (g : Nat) (cs : Array Value) (e : Value) (h2 : tmps.getD 2 undef = .pointer (some ⟨g,0,none⟩)) (h3 : tmps.getD 3 undef = e)
 (hg : Has W g (.cells cs 93)) (hs : cs.size = 9) : (results Tryz.f42 tmps).run Tryz.prog W = .ok (.tuple #[.agg cs,e]) W:=by
 rw [results_cell_tmp Tryz.results42,h2,h3];(have hi : (Tryz.prog.info? 93).map (·.size) = some cs.size:=by rw [hs];kernel_rfl);have:=run_loadVar_row (P:=Tryz.prog) W g 93 93 cs (0,0) _ hg Tryz.underlying93 rfl hi;simp [asAddr,Result.andThen,this]
theorem fail_end (R : Ending → World → Prop) (tmps : Array Value) (wr : World) (S : Nat) (old : Array Value) (h2 : tmps.getD 2 undef = .pointer (some ⟨S,0,none⟩)) (h3 : tmps.getD 3 undef = .iface 69 (.int .i64 3))
 (hg : Has wr S (.cells old 93)) (hR : R (.returned (.tuple #[.agg (nCells []),.iface 69 (.int .i64 3)])) (wr.setRow S (nCells []))) :
 bodyPost Tryz.prog Tryz.f42 R .ret { tmps:=tmps,defers:=[] } (wr.setRow S (nCells [])):=
 bodyPost_ret (dec_results _ _ S _ _ h2 h3 (hg.setRow _) rfl) rfl hR
set_option maxHeartbeats 1000000 in
set_option maxRecDepth 100000 in
theorem Decode_any (A : Option Addr) (n cap : Nat) (bs : List UInt8) (w : World) (hrd : RD w w.heap.size A n bs) (hcap : n ≤ cap) (hn : n ≤ 9223372036854775807) :
 Calls Tryz.prog 42 #[.slice A n cap] w fun e w' => e = .returned (decV bs) ∧ Below w.heap.size w w':=by
 have HRD:=Hd hrd;clear hrd;(go_enter Tryz.func42,Tryz.ntmps42);(go_wp2_with fail);refine (numbers_any _ _).mono ?_;rintro e w2 ⟨rfl,hw2⟩;have h1 : Has w2 w.heap.size (.cells (nCells []) 93):=hw2 ▸ (((Has.new w _).alloc _).alloc _).drew
 have h2 : Has w2 (w.heap.size + 1) (.cells (nCells []) 93):=by
  have:=((Has.new (w.alloc (.cells (nCells []) 93)) (.cells (nCells []) 93)).alloc (.cells (ptrs (w.heap.size + 1)) 135)).drew;rw [World.size_alloc] at this;exact hw2 ▸ this
 have h3 : Has w2 (w.heap.size + 2) (.cells (ptrs (w.heap.size + 1)) 135):=by
  have:=(Has.new ((w.alloc (.cells (nCells []) 93)).alloc (.cells (nCells []) 93)) (.cells (ptrs (w.heap.size + 1)) 135)).drew;rw [World.size_alloc,World.size_alloc] at this;exact hw2 ▸ this
 (have hs2 : w2.heap.size = w.heap.size + 3:=by rw [hw2];simp);have hb2 : Below w.heap.size w w2:=hw2 ▸ ((((Below.refl _ _).alloc (Nat.le_refl _) _).alloc (by simp) _).alloc (by simp;omega) _).drew;clear hw2;have HS2:=Hd hs2;have H1:=Hd h1;have H2:=Hd h2;have H3:=Hd h3;clear hs2 h1 h2 h3;have R2:=Hd (HRD.out.below hb2 (Nat.le_refl _));(go_wp2_with fail);(go_loopw [0,6,7,8,9,10,13] (fun v _ _ _ _ _ i wr => ∃ (k : Nat) (A' : Option Addr) (n' cap' : Nat) (bs' : List UInt8) (l : List Int),k ≤ 7 ∧ i = .int .i64 k ∧ v = .slice A' n' cap' ∧ n' ≤ n ∧ n' ≤ cap' ∧ RD wr w.heap.size A' n' bs' ∧ l.length = k ∧ ReadsTo bs l k bs' ∧ Below (w.heap.size + 1) w2 wr ∧ Has wr (w.heap.size + 1) (.cells (nCells l) 93) ∧ Has wr (w.heap.size + 2) (.cells (ptrs (w.heap.size + 1)) 135)) (fun _ _ _ _ _ _ i _ => 7 - (intOf i).toNat));case atStart => exact ⟨0,A,n,cap,bs,[],by omega,rfl,rfl,Nat.le_refl _,hcap,R2.out,rfl,ReadsTo.zero bs,Below.refl _ _,H2.out,H3.out⟩
 case round =>
  obtain ⟨k,A',n',cap',bs',l,hk,rfl,rfl,hnn,hcc,hrd,hl,hre,hbel,hm,hp⟩:=hrel;have HL:=Hd hl;have HRE:=Hd hre;have HM:=Hd hm;have HP:=Hd hp;have HR:=Hd hrd;clear hl hre hm hp hrd;(have HS : Hid (wr.heap.size ≥ w.heap.size + 3):=by have:=hbel.size;have:=HS2.out;unfold Hid;omega);have HR1 : Hid (Has wr w.heap.size (.cells (nCells []) 93)):=H1.out.below hbel (by omega);have HBW : Hid (Below w.heap.size w wr):=hb2.trans (hbel.mono (by omega));by_cases hlt : k < 7
  ·have c1:=ptrs_cell _ _ _ _ HP.out hlt
   have hd : decide ((k : Int) < 7) = true:=by simp;omega
   go_wp2_with fail
   go_loop [0,7,8,9,10] (fun v x ok i _ => (∃ j acc : Nat,j ≤ 6 ∧ j ≤ n' ∧ acc < 128 ^ j ∧ v = .slice A' n' cap' ∧ x = .int .i64 acc ∧ ok = .bool false ∧ i = .int .i64 j ∧ Part bs' j acc) ∨
    (∃ (j acc : Nat) (A2 : Option Addr) (n2 cap2 : Nat) (bs2 : List UInt8),j ≤ 7 ∧ v = .slice A2 n2 cap2 ∧ n2 ≤ n' ∧ n2 ≤ cap2 ∧ x = .int .i64 acc ∧ ok = .bool true ∧ i = .int .i64 j ∧ RD wr w.heap.size A2 n2 bs2 ∧ readN bs' = some (acc,bs2))) (fun _ _ _ i _ => 8 - (intOf i).toNat)
   case atStart => exact .inl ⟨0,0,by omega,by omega,by simp,rfl,rfl,rfl,rfl,Part.zero bs'⟩
   case round =>
    rcases hrel with ⟨j,acc,hj,hjn,hacc,rfl,rfl,rfl,rfl,hpart⟩ | ⟨j,acc,A2,n2,cap2,bs2,hj,rfl,hn2,hc2,rfl,rfl,rfl,hr2,hre2⟩
    ·have HPA:=Hd hpart;have HAC:=Hd hacc;clear hpart hacc;by_cases hj6 : j < 6
     ·by_cases hjn' : j < n'
      ·obtain ⟨b,off,rfl,hb,hcell⟩:=HR.out.at_ (by omega);have hlen:=HR.out.1;have HGET : Hid (bs'[j]? = some (bs'[j]'(by omega))):=List.getElem?_eq_getElem (by omega : j < bs'.length);have cj:=hcell j _ HGET.out;generalize bs'[j] = c at cj HGET;unfold B at cj;clear hcell;have HLEN:=Hd hlen;clear hlen;have hc256:=c.toNat_lt;have HACC:=Hd (acc_step acc j c hj6 HAC.out)
       have HACC0 : Hid (c.toNat = 0 → bits BinOp.or IntKind.i64 (acc : Int) (wrap64 (wrap64 (bits BinOp.and IntKind.u8 0 127) * 2 ^ (7 * j))) = ((acc + 128 ^ j * (c.toNat % 128) : Nat) : Int)):=by
        intro h;have:=HACC.out;rw [h] at this ⊢;exact this
       (have hji : decide ((j : Int) < 6) = true:=by simp;omega);(have hjn2 : decide (j < n') = true:=by simp;omega);by_cases hc : c.toNat < 128
       ·by_cases h0 : c.toNat = 0 ∧ 0 < j
        ·obtain ⟨h0,hj0⟩:=h0;have HB:=Hd (HRE.out.none_ hlt (HPA.out.bad hj6 HGET.out h0 hj0));(have hc0 : ((c.toNat : Int) == 0) = true:=by rw [h0];rfl);have HC0:=Hd h0;clear h0;(go_wp2_with (refine wpList_store_row rfl 93 (.tmp 2) (.tmp 51) rfl w.heap.size _ rfl rfl 93 _ HR1.out (by kernel_rfl) (by kernel_rfl) (by kernel_rfl) ?_));exact fail_end _ _ wr w.heap.size _ rfl rfl HR1.out ⟨by rw [decV_none HB.out],below_setRow HBW.out (Nat.le_refl _) _⟩
        ·have HDN:=Hd (HPA.out.done hj6 HGET.out hc h0)
         have hc0 : ((c.toNat : Int) == 0) = false ∨ (decide (0 < j) = false ∧ decide ((0 : Int) < j) = false):=by
          by_cases hz : c.toNat = 0
          ·right;constructor <;> simp <;> omega
          ·left;simp;omega
         have hRD:=HR.out.drop (k:=j + 1) (by omega) hcc;(have e2 : (Option.map (fun x : Addr => x.add (j + 1)) (some ⟨b,off,none⟩)) = some ⟨b,off + (j + 1),none⟩:=by simp [Addr.add]);rw [e2] at hRD;have HRD2:=Hd hRD;clear hRD e2 h0;rcases hc0 with hc0 | ⟨hc0,hc1⟩
         ·go_wp2
          go_round
          (case rel => exact .inr ⟨j + 1,_,_,_,_,_,by omega,rfl,by omega,by omega,by rw [HACC.out],rfl,by go_num,HRD2.out,HDN.out⟩);case measure => simp [intOf];omega
         ·go_wp2
          all_goals
           go_round
           (case rel => exact .inr ⟨j + 1,_,_,_,_,_,by omega,rfl,by omega,by omega,by first | rw [HACC.out] | rw [HACC0.out (by assumption)],rfl,by go_num,HRD2.out,HDN.out⟩);case measure => simp [intOf];omega
       ·have HMO:=Hd (HPA.out.more hj6 HGET.out hc)
        have HLT:=Hd (acc_lt acc j c HAC.out)
        go_wp2
        go_round
        (case rel => exact .inl ⟨j + 1,_,by omega,by omega,HLT.out,rfl,by rw [HACC.out],rfl,by go_num,HMO.out⟩);case measure => simp [intOf];omega
      ·have HSH:=Hd (HRE.out.none_ hlt (HPA.out.short (.inr (by have:=HR.out.1;omega))));(have hjn2 : decide (j < n') = false:=by simp;omega);(have hji : decide ((j : Int) < 6) = true:=by simp;omega);(go_wp2_with (refine wpList_store_row rfl 93 (.tmp 2) (.tmp 59) rfl w.heap.size _ rfl rfl 93 _ HR1.out (by kernel_rfl) (by kernel_rfl) (by kernel_rfl) ?_));exact fail_end _ _ wr w.heap.size _ rfl rfl HR1.out ⟨by rw [decV_none HSH.out],below_setRow HBW.out (Nat.le_refl _) _⟩
     ·have HSH:=Hd (HRE.out.none_ hlt (HPA.out.short (.inl (by omega))));(have hji : decide ((j : Int) < 6) = false:=by simp;omega);go_wp2_with (refine wpList_store_row rfl 93 (.tmp 2) (.tmp 59) rfl w.heap.size _ rfl rfl 93 _ HR1.out (by kernel_rfl) (by kernel_rfl) (by kernel_rfl) ?_)
      all_goals
       exact fail_end _ _ wr w.heap.size _ rfl rfl HR1.out ⟨by rw [decV_none HSH.out],below_setRow HBW.out (Nat.le_refl _) _⟩
    ·have HRE2:=Hd hre2;have HR2:=Hd hr2;clear hre2 hr2;have cm : wr.cell? ⟨w.heap.size + 1,k,none⟩ = some (.int .i64 (l.getD k 0)):=msg_cell_n HM.out k hlt;have fm : wr.frozen? ⟨w.heap.size + 1,k,none⟩ = false:=HM.out.frozen k;have hM2:=HM.out.set_ k (.int .i64 acc);rw [nCells_set l k acc hlt HL.out] at hM2;have HM2:=Hd hM2;clear hM2;go_wp2
     all_goals
      go_roundw;(case rel => exact ⟨k + 1,A2,n2,cap2,bs2,l ++ [(acc : Int)],by omega,by go_num,rfl,by omega,hc2,HR2.out.setCell (by simp) _,by simp [HL.out],HRE.out.step hlt HRE2.out,hbel.setCell (by simp) _,HM2.out,HP.out.far (by simp) _⟩);case measure => simp [intOf];omega
  ·(obtain rfl : k = 7:=by omega);have HE:=Hd HRE.out.end_
   match l,HL.out with
   | [a1,a2,a3,a4,a5,a6,a7],_ =>
   by_cases h2 : n' < 2
   ·(have HT : Hid (decB bs = none):=by rw [Hid,HE.out];exact tailB_short _ _ (by have:=HR.out.1;omega));(go_wp2_with (refine wpList_store_row rfl 93 (.tmp 2) (.tmp 84) rfl w.heap.size _ rfl rfl 93 _ HR1.out (by kernel_rfl) (by kernel_rfl) (by kernel_rfl) ?_));exact fail_end _ _ wr w.heap.size _ rfl rfl HR1.out ⟨by rw [decV_none HT.out],below_setRow HBW.out (Nat.le_refl _) _⟩
   ·obtain ⟨b,off,rfl,hb,hcell⟩:=HR.out.at_ (by omega);have hlen:=HR.out.1
    obtain ⟨x,y,r,rfl⟩ : ∃ x y r,bs' = x :: y :: r:=by
     match bs',hlen with
     | [],hlen => simp at hlen;omega
     | [_],hlen => simp at hlen;omega
     | x :: y :: r,_ => exact ⟨x,y,r,rfl⟩
    have c0 : wr.cell? ⟨b,off,none⟩ = some (.int .u8 x.toNat):=hcell 0 x rfl;have c1 : wr.cell? ⟨b,off + 1,none⟩ = some (.int .u8 y.toNat):=hcell 1 y rfl;have hx256:=x.toNat_lt;have hy256:=y.toNat_lt;have HLEN:=Hd hlen;(have hrn : r.length + 2 = n':=by simpa using hlen);clear hcell hlen;(have hn2 : decide (n' < 2) = false:=by simp;omega);by_cases hx : x.toNat ≤ 1
    ·by_cases hy : y.toNat = r.length
     ·have HRD:=Hd (HR.out.drop (k:=2) (by omega) hcc);(have hyn : ((y.toNat : Int) != (n' : Int) - 2) = false:=by simp;omega);have HY:=Hd hy;clear hy;have e2 : (Option.map (fun x : Addr => x.add 2) (some ⟨b,off,none⟩)) = some ⟨b,off + 2,none⟩:=by simp [Addr.add]
      have cv0 : (convert 56 9 (.slice (if cap' = 2 then some ⟨b,off,none⟩ else some ⟨b,off + 2,none⟩) (n' - 2) (cap' - 2))).run Tryz.prog wr = .ok (.string ⟨r.toArray⟩) wr:=by
       rw [← e2];exact convert_RD HRD.out
      have cv1 : (convert 56 9 (.slice (if cap' = 2 then some ⟨b,off,none⟩ else some ⟨b,off + 2,none⟩) (n' - 2) (cap' - 2))).run Tryz.prog wr.drew = .ok (.string ⟨r.toArray⟩) wr.drew:=by
       rw [← e2];exact convert_RD (w:=wr.drew) HRD.out
      clear e2;have f7 : wr.frozen? ⟨w.heap.size + 1,7,none⟩ = false:=HM.out.frozen 7;have f8 : wr.frozen? ⟨w.heap.size + 1,8,none⟩ = false:=HM.out.frozen 8;have m7 : wr.cell? ⟨w.heap.size + 1,7,none⟩ = some (.bool false):=HM.out.cell 7;have m8 : wr.cell? ⟨w.heap.size + 1,8,none⟩ = some (.string ByteArray.empty):=HM.out.cell 8
      obtain ⟨lb,hlb,hle⟩ : ∃ lb : Bool,decide (x.toNat = 1) = lb ∧ ((x.toNat : Int) == 1) = lb:=⟨_,rfl,by
       by_cases h1 : x.toNat = 1
       ·simp [h1]
       ·simp [h1];omega⟩
      have HLB:=Hd hlb;clear hlb
      have HX : Hid (Has (((wr.setCell ⟨w.heap.size + 1,7,none⟩ (.bool lb)).setCell ⟨w.heap.size + 1,8,none⟩ (.string ⟨r.toArray⟩))).drew (w.heap.size + 1) (.cells (msgCells a1 a2 a3 a4 a5 a6 a7 lb ⟨r.toArray⟩) 93)):=
       ((HM.out.set_ 7 (.bool lb)).set_ 8 (.string ⟨r.toArray⟩)).drew
      have HX2 : Hid (Below (w.heap.size + 1) wr (((wr.setCell ⟨w.heap.size + 1,7,none⟩ (.bool lb)).setCell ⟨w.heap.size + 1,8,none⟩ (.string ⟨r.toArray⟩))).drew):=
       (((Below.refl _ _).setCell (by simp) _).setCell (by simp) _).drew
      have hrl : r.length ≤ 9223372036854775807:=by omega
      go_wp2_with fail
      go_region
      all_goals
       generalize (((wr.setCell ⟨w.heap.size + 1,7,none⟩ (.bool lb)).setCell ⟨w.heap.size + 1,8,none⟩ (.string ⟨r.toArray⟩))).drew = W at HX HX2 ⊢;clear f7 f8 m7 m8 cv0 cv1 c0 c1;have hWs : wr.heap.size ≤ W.heap.size:=HX2.out.size;have HWS:=Hd hWs;clear hWs;have R:=Hd (right_any { kind:=a1,client:=a2,number:=a3,epoch:=a4,session:=a5,object:=a6,version:=a7,lease:=lb,data:=r } W hrl);go_wp2_with (refine wpList_load_row rfl 93 (.tmp 4) rfl (w.heap.size + 1) rfl 93 (msgCells a1 a2 a3 a4 a5 a6 a7 lb ⟨r.toArray⟩) (0,0) _ HX.out Tryz.underlying93 rfl (by kernel_rfl) ?_)
       all_goals
        refine R.out.mono ?_;rintro e w4 ⟨rfl,hb4⟩;have H4 : Hid (Has w4 (w.heap.size + 1) (.cells (msgCells a1 a2 a3 a4 a5 a6 a7 lb ⟨r.toArray⟩) 93)):=HX.out.below hb4 HX.out.lt;have H4r : Hid (Has w4 w.heap.size (.cells (nCells []) 93)):=(HR1.out.below HX2.out (by omega)).below hb4 (HR1.out.below HX2.out (by omega)).lt;have HB4 : Hid (Below w.heap.size w w4):=(HBW.out.trans (HX2.out.mono (by omega))).trans (hb4.mono (by have:=HWS.out;have:=HS;unfold Hid at this;omega));clear hb4;cases hrt : Msg.right { kind:=a1,client:=a2,number:=a3,epoch:=a4,session:=a5,object:=a6,version:=a7,lease:=lb,data:=r }
        ·(have HT : Hid (decB bs = none):=by rw [Hid,HE.out];simp [tailB,HY.out,hx,HLB.out,hrt]);clear hrt;(go_wp2_with (refine wpList_store_row rfl 93 (.tmp 2) (.tmp 98) rfl w.heap.size _ rfl rfl 93 _ H4r.out (by kernel_rfl) (by kernel_rfl) (by kernel_rfl) ?_));exact fail_end _ _ w4 w.heap.size _ rfl rfl H4r.out ⟨by rw [decV_none HT.out],below_setRow HB4.out (Nat.le_refl _) _⟩
        ·(have HT : Hid (decB bs = some { kind:=a1,client:=a2,number:=a3,epoch:=a4,session:=a5,object:=a6,version:=a7,lease:=lb,data:=r }):=by rw [Hid,HE.out];simp [tailB,HY.out,hx,HLB.out,hrt]);clear hrt;(go_wp2_with (first | refine wpList_load_row rfl 93 (.tmp 4) rfl (w.heap.size + 1) rfl 93 (msgCells a1 a2 a3 a4 a5 a6 a7 lb ⟨r.toArray⟩) (0,0) _ H4.out Tryz.underlying93 rfl (by kernel_rfl) ?_ | refine wpList_store_row rfl 93 (.tmp 2) (.tmp 100) rfl w.heap.size (msgCells a1 a2 a3 a4 a5 a6 a7 lb ⟨r.toArray⟩) rfl rfl 93 _ H4r.out (by kernel_rfl) rfl (msgCells_one _ _ _ _ _ _ _ _ _) ?_));exact bodyPost_ret (dec_results _ _ w.heap.size _ _ rfl rfl (H4r.out.setRow _) rfl) rfl ⟨by rw [decV_some HT.out];rfl,below_setRow HB4.out (Nat.le_refl _) _⟩
     ·(have HT : Hid (decB bs = none):=by rw [Hid,HE.out];simp [tailB,hy]);(have hyn : ((y.toNat : Int) != (n' : Int) - 2) = true:=by rw [bne_iff_ne];omega);(go_wp2_with (refine wpList_store_row rfl 93 (.tmp 2) (.tmp 84) rfl w.heap.size _ rfl rfl 93 _ HR1.out (by kernel_rfl) (by kernel_rfl) (by kernel_rfl) ?_));exact fail_end _ _ wr w.heap.size _ rfl rfl HR1.out ⟨by rw [decV_none HT.out],below_setRow HBW.out (Nat.le_refl _) _⟩
    ·(have HT : Hid (decB bs = none):=by rw [Hid,HE.out];simp [tailB,hx]);(have hx2 : decide ((1 : Int) < x.toNat) = true:=by simp;omega);(go_wp2_with (refine wpList_store_row rfl 93 (.tmp 2) (.tmp 84) rfl w.heap.size _ rfl rfl 93 _ HR1.out (by kernel_rfl) (by kernel_rfl) (by kernel_rfl) ?_));exact fail_end _ _ wr w.heap.size _ rfl rfl HR1.out ⟨by rw [decV_none HT.out],below_setRow HBW.out (Nat.le_refl _) _⟩
end wire
namespace net
open Go.RowKit heap own wire
theorem rd_of_owns {base n m c : Nat} {a : Option Addr} {w : World} {bs : List UInt8} (h : w.ownsRow base 5 1 (.slice a m c) n (bs.map B)) : m = n ∧ m ≤ c ∧ c ≤ maxLen ∧ RD w w.heap.size a m bs:=by
 have hl:=h.1;rw [List.length_map,Nat.mul_one] at hl;rcases h.2 with ⟨e,rfl⟩ | ⟨g,cap,cur,e,_,hh,hn,hc,hs,hx⟩
 ·injection e with e1 e2 e3;subst e1 e2 e3;exact ⟨rfl,Nat.le_refl _,by simp [maxLen],hl,fun h => absurd h (Nat.lt_irrefl 0)⟩
 ·injection e with e1 e2 e3;subst e1 e2 e3;refine ⟨rfl,hn,hc,hl,fun h0 => ⟨g,0,rfl,Has.lt (w:=w) hh,fun j x hj => ?_⟩⟩;rw [Nat.zero_add];have hj':=(List.getElem?_eq_some_iff.1 hj).1;rw [(row_cell (size:=1) (n:=m) (xs:=bs.map B) (w:=w) hh hx j (by omega)).1,List.getElem?_map,hj];rfl
theorem Twice_no (b o : Nat) (a : Option Addr) (n c : Nat) (k : Int) (w : World) (h : w.cell? ⟨b,o,none⟩ = some (.slice a n c)) (hk : ¬ (0 ≤ k ∧ k < n)) :
 Calls Tryz.prog 47 #[.pointer (some ⟨b,o,none⟩),.int .i64 k] w fun e w' => e = .returned (.iface 69 (.int .i64 2)) ∧ w = w':=by
 by_cases h0 : k < 0
 ·(have d0 : decide (k < 0) = true:=by simpa using h0);(go_enter Tryz.func47,Tryz.ntmps47);go_wp2;go_ret;exact ⟨rfl,rfl⟩
 ·(have d0 : decide (k < 0) = false:=by simpa using h0);(have d1 : (n : Int) ≤ k:=by omega);(go_enter Tryz.func47,Tryz.ntmps47);go_wp2;go_ret;exact ⟨rfl,rfl⟩
theorem sent_full {l : List Dg} {lost : Int} {g : Dg} (h : 200 ≤ l.length) : sent l lost g = (l,wrap64 (lost + 1)):=by simp [sent,h]
theorem sent_room {l : List Dg} {lost : Int} {g : Dg} (h : l.length < 200) : sent l lost g = (l ++ [g],lost):=by simp [sent];omega
theorem set_same {cs : Array Value} {o : Nat} {v : Value} (h : cs[o]? = some v) : cs.setIfInBounds o v = cs:=by
 apply Array.ext_getElem?;intro i;rw [Array.getElem?_setIfInBounds];split
 ·rename_i e;subst e;rw [if_pos (Array.getElem?_eq_some_iff.1 h).1,h]
 ·rfl
theorem set_other {cs : Array Value} {o p : Nat} {v : Value} (h : o ≠ p) : (cs.setIfInBounds o v)[p]? = cs[p]?:=by
 rw [Array.getElem?_setIfInBounds,if_neg h]
def SendPost (own : Nat → Nat) (T b o : Nat) (cs : Array Value) (t : TypeId) (l : List Dg) (lost : Int) (g : Dg) (w w' : World) : Prop:=
 ∃ own' v',Ext w own own' ∧ Turn (fun k => k = b ∨ own k = T) w w' ∧ Has w' b (.cells ((cs.setIfInBounds o v').setIfInBounds (o + 1) (.int .i64 (sent l lost g).2)) t) ∧ Grams own' T w' v' (sent l lost g).1
theorem Send_any (own : Nat → Nat) (T b o : Nat) (cs : Array Value) (t : TypeId) (v : Value) (l : List Dg) (lost : Int) (a : Option Addr) (n c : Nat) (bs : List UInt8) (to : Int) (w : World)
 (hB : Has w b (.cells cs t)) (c0 : cs[o]? = some v) (c1 : cs[o + 1]? = some (.int .i64 lost)) (hb : own b ≠ T) (hb1 : own b ≠ T + 1) (hg : Grams own T w v l) (hrd : RD w w.heap.size a n bs) (hc : n ≤ c) (hn : n ≤ 140737488355328) :
 Calls Tryz.prog 64 #[.pointer (some ⟨b,o,none⟩),.agg #[.int .i64 to,.slice a n c]] w fun e w' => e = .returned (.tuple #[]) ∧ SendPost own T b o cs t l lost (to,bs) w w':=by
 by_cases hl : l.length < 200
 ·refine (Send_room own T b o cs t v l a n c bs to w hB c0 hb hb1 hg hl hrd hc hn).mono fun e w' ⟨he,own',v',h1,h2,h3,h4⟩ => ⟨he,own',v',h1,h2,?_,?_⟩
  ·rw [sent_room hl,set_same (by rw [set_other (by omega)];exact c1)];exact h3
  ·rw [sent_room hl];exact h4
 ·(have hl' : 200 ≤ l.length:=by omega);have hg':=hg;obtain ⟨ps,hps,hrow,hbytes,hnd⟩:=hg
  obtain ⟨A,m,cap,rfl,hm⟩ : ∃ A m cap,v = .slice A m cap ∧ m = l.length:=by
   rcases hrow.1.2 with ⟨rfl,h0⟩ | ⟨g,cap,cur,rfl,_⟩
   ·exact ⟨_,_,_,rfl,h0.symm⟩
   ·exact ⟨_,_,_,rfl,rfl⟩
  refine (Send_full b o cs t m cap A lost (.slice a n c) to w hB c0 c1 (by omega)).mono fun e w' ⟨he,hw⟩ => ⟨he,own,.slice A m cap,Ext.refl _ _,?_,?_,?_⟩
  ·rw [hw];exact ((Turn.refl _ w).setCell (p:=⟨b,o + 1,none⟩) (.inr (.inl rfl)) _).alloc _
  ·rw [sent_full hl',set_same c0,hw];exact (hB.set_ (o + 1) _).alloc _
  ·rw [sent_full hl',hw];refine hg'.keep (S:=fun k => k = b) (((Turn.refl (fun k => k = b) w).setCell (p:=⟨b,o + 1,none⟩) (.inr rfl) _).alloc _) (Ext.refl _ _) (fun k _ e h => ?_);subst h;rcases e with e | e
   ·exact hb e
   ·exact hb1 e
theorem Twice_yes (own : Nat → Nat) (T b o : Nat) (cs : Array Value) (t : TypeId) (v : Value) (l : List Dg) (lost : Int) (k : Nat) (to : Int) (bs : List UInt8) (w : World)
 (hB : Has w b (.cells cs t)) (c0 : cs[o]? = some v) (c1 : cs[o + 1]? = some (.int .i64 lost)) (hb : own b ≠ T) (hb1 : own b ≠ T + 1) (hg : Grams own T w v l) (hk : l[k]? = some (to,bs)) (hn : bs.length ≤ 140737488355328) :
 Calls Tryz.prog 47 #[.pointer (some ⟨b,o,none⟩),.int .i64 k] w fun e w' => e = .returned .nilIface ∧ SendPost own T b o cs t l lost (to,bs) w w':=by
 have hg':=hg;have hkl:=(List.getElem?_eq_some_iff.1 hk).1;obtain ⟨ps,hps,hrow,hbytes,hnd⟩:=hg;obtain ⟨g,cap,cur,rfl,ho,hh,hnc,hcm,hcs,hcx⟩:=hrow.shape (by omega);have k0 : w.cell? ⟨b,o,none⟩ = some _:=(hB.cell o).trans c0;obtain ⟨p,hp⟩ : ∃ p,ps[k]? = some p:=⟨_,List.getElem?_eq_getElem (by rw [← hps] at hkl;simpa using hkl)⟩
 have hpe : p.1 = (to,bs):=by
  rw [← hps,List.getElem?_map,hp] at hk;exact Option.some.inj hk
 obtain ⟨q0,q1⟩:=gcells_get ps k p hp;have r0:=(row_cell hh hcx (k * 2) (by omega)).1.trans q0;have r1:=(row_cell hh hcx (k * 2 + 1) (by omega)).1.trans q1;have hpr:=hbytes p (List.mem_of_getElem? hp);rw [hpe] at r0 hpr;obtain ⟨_,u⟩:=p;simp only at r0 r1 hpr;obtain ⟨au,nu,cu,rfl⟩:=owns_any hpr.1;obtain ⟨e1,e2,e3,e4⟩:=rd_of_owns hpr.1;have C:=Hd (Send_any own T b o cs t (.slice (some ⟨g,0,none⟩) l.length cap) l lost au nu cu bs to w hB c0 c1 hb hb1 hg' e4 e2 (by omega));(have hl0 : (k : Int) < l.length:=by omega);unfold maxLen at hcm;(have hl9 : l.length ≤ 9223372036854775807:=by omega);clear c0 c1 hB hps hrow hbytes hnd hp hpr ho hh hcs hcx q0 q1 hcm hnc hpe e1 e2 e3 e4 hg' hk;(go_enter Tryz.func47,Tryz.ntmps47);(go_wp2_with fail);refine C.out.mono ?_;rintro e w2 ⟨rfl,hp⟩;have HP:=Hd hp;clear hp;(go_wp2_with fail);go_ret;exact ⟨rfl,HP.out⟩
end net
end Go.Proofs.YtefkmcjhgoagcaaGreatDoor
