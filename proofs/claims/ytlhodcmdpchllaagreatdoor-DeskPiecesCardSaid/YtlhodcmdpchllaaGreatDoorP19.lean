/-
  A part of the proof of the law DeskPieces: Wire3.
-/
import Derived.Laws.ResultCell
import Derived.Test.YtlhodcmdpchllaaGreatDoorHd
import Derived.Test.YtlhodcmdpchllaaGreatDoorP18
set_option maxHeartbeats 16000000
set_option maxRecDepth 1000000
namespace Go.Proofs.YtlhodcmdpchllaaGreatDoor
namespace eK
open Go.RowKit heap
theorem Fu {w:World} {b:Nat} {l:List Int} (h:Has w b (.cells (jL l) 109)) (k:Nat) (hk:k<7) :
 w.cell? ⟨b,k,none⟩=some (.int .i64 (l.getD k 0)):=by
 rw[h.cell]
 match k,hk with
 |0,_|1,_|2,_|3,_|4,_|5,_|6,_=>rfl
def po (bs:List UInt8):Value:=match kt bs with
 |some m=>.tuple #[m.val,.nilIface]
 |none=>.tuple #[.agg (jL []),.iface 52 (.int .i64 3)]
theorem nZ {bs:List UInt8} (h:kt bs=none):po bs=.tuple #[.agg (jL []),.iface 52 (.int .i64 3)]:=by simp[po,h]
theorem yp {bs:List UInt8} {m:dH} (h:kt bs=some m):po bs=.tuple #[m.val,.nilIface]:=by simp[po,h]
theorem Fv (a b c d e f g:Int) (l:Bool) (s:ByteArray):(gE a b c d e f g l s).all (·.oneCell')=true:=by simp[Value.oneCell']
theorem Fw (l:List Int) (r:List UInt8) (h:r.length<2):mC l r=none:=by
 unfold mC;split
 ·simp at h;omega
 rfl
theorem yq (tmps:Array Value) (W:World) (g:Nat) (cs:Array Value) (e:Value) (h2:tmps.getD 2 undef=.pointer (some ⟨g,0,none⟩)) (h3:tmps.getD 3 undef=e)
 (hg:Has W g (.cells cs 109)) (hs:cs.size=9):(results Tryz.f111 tmps).run Tryz.prog W=.ok (.tuple #[.agg cs,e]) W:=by
 rw[results_cell_tmp Tryz.results111,h2,h3];(have hi:(Tryz.prog.info? 109).map (·.size)=some cs.size:=by rw[hs];kernel_rfl);have:=run_loadVar_row (P:=Tryz.prog) W g 109 109 cs (0,0) _ hg Tryz.underlying109 rfl hi;simp[asAddr,Result.andThen,this]
theorem n9 (R:Ending->World->Prop) (tmps:Array Value) (wr:World) (S:Nat) (ia:Array Value) (h2:tmps.getD 2 undef=.pointer (some ⟨S,0,none⟩)) (h3:tmps.getD 3 undef=.iface 52 (.int .i64 3))
 (hg:Has wr S (.cells ia 109)) (hR:R (.returned (.tuple #[.agg (jL []),.iface 52 (.int .i64 3)])) (wr.setRow S (jL []))) :
 bodyPost Tryz.prog Tryz.f111 R .ret {tmps:=tmps,defers:=[]} (wr.setRow S (jL [])):=
 bodyPost_ret (yq _ _ S _ _ h2 h3 (hg.setRow _) rfl) rfl hR
theorem yu (A:Option Addr) (n cap:Nat) (bs:List UInt8) (w:World) (NA:RD w w.heap.size A n bs) (Uo:n<=cap) (hn:n<=9223372036854775807) :
 Calls Tryz.prog 111 #[.slice A n cap] w fun e w'=>e=.returned (po bs)/\Below w.heap.size w w':=by
 have Oe:=Hd NA;clear NA;(go_enter Tryz.func111,Tryz.ntmps111);(go_wp2_with fail);refine (tg _ _).mono ?_;rintro e w2 ⟨rfl,Nh⟩;have h1:Has w2 w.heap.size (.cells (jL []) 109):=Nh▸(((Has.new w _).alloc _).alloc _).drew
 have h2:Has w2 (w.heap.size+1) (.cells (jL []) 109):=by
  have:=((Has.new (w.alloc (.cells (jL []) 109)) (.cells (jL []) 109)).alloc (.cells (lH (w.heap.size+1)) 238)).drew;rw[World.size_alloc]at this;exact Nh▸this
 have h3:Has w2 (w.heap.size+2) (.cells (lH (w.heap.size+1)) 238):=by
  have:=(Has.new ((w.alloc (.cells (jL []) 109)).alloc (.cells (jL []) 109)) (.cells (lH (w.heap.size+1)) 238)).drew;rw[World.size_alloc,World.size_alloc]at this;exact Nh▸this
 (have KY:w2.heap.size=w.heap.size+3:=by rw[Nh];simp);have Ke:Below w.heap.size w w2:=Nh▸((((Below.refl _ _).alloc (aq _) _).alloc (by simp) _).alloc (by simp;omega) _).drew;clear Nh;have Kq:=Hd KY;have H1:=Hd h1;have H2:=Hd h2;have H3:=Hd h3;clear KY h1 h2 h3;have R2:=Hd (Oe.o.below Ke (aq _));(go_wp2_with fail);(go_loopw [0,6,7,8,9,10,13] (fun v _ _ _ _ _ i wr=>∃(k:Nat) (A':Option Addr) (n' Ku:Nat) (RX:List UInt8) (l:List Int),k<=7/\i=.int .i64 k/\v=.slice A' n' Ku/\n'<=n/\n'<=Ku/\RD wr w.heap.size A' n' RX/\l.length=k/\km bs l k RX/\Below (w.heap.size+1) w2 wr/\Has wr (w.heap.size+1) (.cells (jL l) 109)/\Has wr (w.heap.size+2) (.cells (lH (w.heap.size+1)) 238)) (fun _ _ _ _ _ _ i _=>7-(intOf i).toNat));case atStart=>exact⟨0,A,n,cap,bs,[],by omega,rfl,rfl,aq _,Uo,R2.o,rfl,km.zero bs,Below.refl _ _,H2.o,H3.o⟩
 case round =>
  obtain⟨k,A',n',Ku,RX,l,hk,rfl,rfl,hnn,KC,NA,hl,ZA,Np,hm,hp⟩:=hrel;have HL:=Hd hl;have Ll:=Hd ZA;have HM:=Hd hm;have HP:=Hd hp;have HR:=Hd NA;clear hl ZA hm hp NA;(have HS:Hy (wr.heap.size>=w.heap.size+3):=by have:=Np.size;have:=Kq.o;unfold Hy;omega);have K3:Hy (Has wr w.heap.size (.cells (jL []) 109)):=H1.o.below Np (by omega);have Mb:Hy (Below w.heap.size w wr):=Ke.trans (Np.mono (by omega));by_cases Kg:k<7
  ·have c1:=th _ _ _ _ HP.o Kg
   have hd:decide ((k:Int)<7)=true:=by simp;omega
   go_wp2_with fail
   go_loop [0,7,8,9,10] (fun v x ok i _=>(∃j acc:Nat,j<=6/\j<=n'/\acc<128^j/\v=.slice A' n' Ku/\x=.int .i64 acc/\ok=.bool false/\i=.int .i64 j/\Part RX j acc) \/
    (∃(j acc:Nat) (A2:Option Addr) (n2 Ur:Nat) (bs2:List UInt8),j<=7/\v=.slice A2 n2 Ur/\n2<=n'/\n2<=Ur/\x=.int .i64 acc/\ok=.bool true/\i=.int .i64 j/\RD wr w.heap.size A2 n2 bs2/\lC RX=some (acc,bs2))) (fun _ _ _ i _=>8-(intOf i).toNat)
   case atStart=>exact .inl ⟨0,0,by omega,by omega,by simp,rfl,rfl,rfl,rfl,Part.zero RX⟩
   case round =>
    rcases hrel with⟨j,acc,hj,YF,Z1,rfl,rfl,rfl,rfl,Vp⟩|⟨j,acc,A2,n2,Ur,bs2,hj,rfl,OM,KL,rfl,rfl,rfl,LO,Z2⟩
    ·have Z3:=Hd Vp;have HAC:=Hd Z1;clear Vp Z1;by_cases XQ:j<6
     ·by_cases hjn':j<n'
      ·obtain⟨b,off,rfl,hb,hcell⟩:=HR.o.at_ (by omega);have hlen:=HR.o.1;have SM:Hy (RX[j]?=some (RX[j]'(by omega))):=ax (by omega:j<RX.length);have cj:=hcell j _ SM.o;generalize RX[j]=c at cj SM;unfold B at cj;clear hcell;have N7:=Hd hlen;clear hlen;have agE:=c.toNat_lt;have Us:=Hd (E6 acc j c XQ HAC.o)
       have Z4:Hy (c.toNat=0->bits BinOp.or IntKind.i64 (acc:Int) (wrap64 (wrap64 (bits BinOp.and IntKind.u8 0 127)*2^(7*j)))=((acc+128^j*(c.toNat%128):Nat):Int)):=by
        intro h;have:=Us.o;rw[h]at this⊢;exact this
       (have LZ:decide ((j:Int)<6)=true:=by simp;omega);(have aem:decide (j<n')=true:=by simp;omega);by_cases hc:c.toNat<128
       ·by_cases h0:c.toNat=0/\0<j
        ·obtain⟨h0,hj0⟩:=h0;have HB:=Hd (Ll.o.none_ Kg (Z3.o.bad XQ SM.o h0 hj0));(have Me:((c.toNat:Int)==0)=true:=by rw[h0];rfl);have RR:=Hd h0;clear h0;(go_wp2_with (refine wpList_store_row rfl 109 (.tmp 2) (.tmp 51) rfl w.heap.size _ rfl rfl 109 _ K3.o (by kernel_rfl) (by kernel_rfl) (by kernel_rfl) ?_));exact n9 _ _ wr w.heap.size _ rfl rfl K3.o ⟨by rw[nZ HB.o],below_setRow Mb.o (aq _) _⟩
        have NM:=Hd (Z3.o.done XQ SM.o hc h0)
        have Me:((c.toNat:Int)==0)=false\/(decide (0<j)=false/\decide ((0:Int)<j)=false):=by
         by_cases hz:c.toNat=0
         ·right;constructor<;>simp<;>omega
         left;simp;omega
        have hRD:=HR.o.drop (k:=j+1) (by omega) KC;(have e2:(Option.map (fun x:Addr=>x.add (j+1)) (some ⟨b,off,none⟩))=some ⟨b,off+(j+1),none⟩:=by simp[Addr.add]);rw[e2]at hRD;have Z5:=Hd hRD;clear hRD e2 h0;rcases Me with Me|⟨Me,Ln⟩
        ·go_wp2
         go_round
         (case rel=>exact .inr ⟨j+1,_,_,_,_,_,by omega,rfl,by omega,by omega,by rw[Us.o],rfl,by go_num,Z5.o,NM.o⟩);case measure=>simp[intOf];omega
        go_wp2
        all_goals
         go_round
         (case rel=>exact .inr ⟨j+1,_,_,_,_,_,by omega,rfl,by omega,by omega,by first|rw[Us.o]|rw[Z4.o (by assumption)],rfl,by go_num,Z5.o,NM.o⟩);case measure=>simp[intOf];omega
       have XZ:=Hd (Z3.o.more XQ SM.o hc)
       have K2:=Hd (E7 acc j c HAC.o)
       go_wp2
       go_round
       (case rel=>exact .inl ⟨j+1,_,by omega,by omega,K2.o,rfl,by rw[Us.o],rfl,by go_num,XZ.o⟩);case measure=>simp[intOf];omega
      have OR:=Hd (Ll.o.none_ Kg (Z3.o.short (.inr (by have:=HR.o.1;omega))));(have aem:decide (j<n')=false:=by simp;omega);(have LZ:decide ((j:Int)<6)=true:=by simp;omega);(go_wp2_with (refine wpList_store_row rfl 109 (.tmp 2) (.tmp 59) rfl w.heap.size _ rfl rfl 109 _ K3.o (by kernel_rfl) (by kernel_rfl) (by kernel_rfl) ?_));exact n9 _ _ wr w.heap.size _ rfl rfl K3.o ⟨by rw[nZ OR.o],below_setRow Mb.o (aq _) _⟩
     have OR:=Hd (Ll.o.none_ Kg (Z3.o.short (.inl (by omega))));(have LZ:decide ((j:Int)<6)=false:=by simp;omega);go_wp2_with (refine wpList_store_row rfl 109 (.tmp 2) (.tmp 59) rfl w.heap.size _ rfl rfl 109 _ K3.o (by kernel_rfl) (by kernel_rfl) (by kernel_rfl) ?_)
     all_goals
      exact n9 _ _ wr w.heap.size _ rfl rfl K3.o ⟨by rw[nZ OR.o],below_setRow Mb.o (aq _) _⟩
    have VY:=Hd Z2;have Ld:=Hd LO;clear Z2 LO;have cm:wr.cell? ⟨w.heap.size+1,k,none⟩=some (.int .i64 (l.getD k 0)):=Fu HM.o k Kg;have fm:wr.frozen? ⟨w.heap.size+1,k,none⟩=false:=HM.o.frozen k;have X0:=HM.o.eu k (.int .i64 acc);rw[EY l k acc Kg HL.o]at X0;have Wj:=Hd X0;clear X0;go_wp2
    all_goals
     go_roundw;(case rel=>exact⟨k+1,A2,n2,Ur,bs2,l++[(acc:Int)],by omega,by go_num,rfl,by omega,KL,Ld.o.setCell (by simp) _,by simp[HL.o],Ll.o.step Kg VY.o,Np.setCell (by simp) _,Wj.o,HP.o.far (by simp) _⟩);case measure=>simp[intOf];omega
  (obtain rfl:k=7:=by omega);have HE:=Hd Ll.o.end_
  match l,HL.o with
  | [a1,a2,a3,a4,a5,a6,a7],_ =>
  by_cases h2:n'<2
  ·(have HT:Hy (kt bs=none):=by rw[Hy,HE.o];exact Fw _ _ (by have:=HR.o.1;omega));(go_wp2_with (refine wpList_store_row rfl 109 (.tmp 2) (.tmp 84) rfl w.heap.size _ rfl rfl 109 _ K3.o (by kernel_rfl) (by kernel_rfl) (by kernel_rfl) ?_));exact n9 _ _ wr w.heap.size _ rfl rfl K3.o ⟨by rw[nZ HT.o],below_setRow Mb.o (aq _) _⟩
  obtain⟨b,off,rfl,hb,hcell⟩:=HR.o.at_ (by omega);have hlen:=HR.o.1
  obtain⟨x,y,r,rfl⟩:∃x y r,RX=x::y::r:=by
   match RX,hlen with
   | [],hlen=>simp at hlen;omega
   | [_],hlen=>simp at hlen;omega
   |x::y::r,_=>exact⟨x,y,r,rfl⟩
  have c0:wr.cell? ⟨b,off,none⟩=some (.int .u8 x.toNat):=hcell 0 x rfl;have c1:wr.cell? ⟨b,off+1,none⟩=some (.int .u8 y.toNat):=hcell 1 y rfl;have agF:=x.toNat_lt;have agG:=y.toNat_lt;have N7:=Hd hlen;(have Vh:r.length+2=n':=by simpa using hlen);clear hcell hlen;(have OM:decide (n'<2)=false:=by simp;omega);by_cases hx:x.toNat<=1
  ·by_cases hy:y.toNat=r.length
   ·have Oe:=Hd (HR.o.drop (k:=2) (by omega) KC);(have hyn:((y.toNat:Int) !=(n':Int)-2)=false:=by simp;omega);have HY:=Hd hy;clear hy;have e2:(Option.map (fun x:Addr=>x.add 2) (some ⟨b,off,none⟩))=some ⟨b,off+2,none⟩:=by simp[Addr.add]
    have cv0:(convert 32 9 (.slice (if Ku=2 then some ⟨b,off,none⟩ else some ⟨b,off+2,none⟩) (n'-2) (Ku-2))).run Tryz.prog wr=.ok (.string ⟨r.toArray⟩) wr:=by
     rw[<- e2];exact yd Oe.o
    have WR:(convert 32 9 (.slice (if Ku=2 then some ⟨b,off,none⟩ else some ⟨b,off+2,none⟩) (n'-2) (Ku-2))).run Tryz.prog wr.drew=.ok (.string ⟨r.toArray⟩) wr.drew:=by
     rw[<- e2];exact yd (w:=wr.drew) Oe.o
    clear e2;have f7:wr.frozen? ⟨w.heap.size+1,7,none⟩=false:=HM.o.frozen 7;have f8:wr.frozen? ⟨w.heap.size+1,8,none⟩=false:=HM.o.frozen 8;have m7:wr.cell? ⟨w.heap.size+1,7,none⟩=some (.bool false):=HM.o.cell 7;have m8:wr.cell? ⟨w.heap.size+1,8,none⟩=some (.string ByteArray.empty):=HM.o.cell 8
    obtain⟨lb,O5,hle⟩:∃lb:Bool,decide (x.toNat=1)=lb/\((x.toNat:Int)==1)=lb:=⟨_,rfl,by
     by_cases h1:x.toNat=1
     ·simp[h1]
     simp[h1];omega⟩
    have XP:=Hd O5;clear O5
    have HX:Hy (Has (((wr.setCell ⟨w.heap.size+1,7,none⟩ (.bool lb)).setCell ⟨w.heap.size+1,8,none⟩ (.string ⟨r.toArray⟩))).drew (w.heap.size+1) (.cells (gE a1 a2 a3 a4 a5 a6 a7 lb ⟨r.toArray⟩) 109)):=
     ((HM.o.eu 7 (.bool lb)).eu 8 (.string ⟨r.toArray⟩)).drew
    have KV:Hy (Below (w.heap.size+1) wr (((wr.setCell ⟨w.heap.size+1,7,none⟩ (.bool lb)).setCell ⟨w.heap.size+1,8,none⟩ (.string ⟨r.toArray⟩))).drew):=
     (((Below.refl _ _).setCell (by simp) _).setCell (by simp) _).drew
    have hrl:r.length<=9223372036854775807:=by omega
    go_wp2_with fail
    go_region
    all_goals
     generalize (((wr.setCell ⟨w.heap.size+1,7,none⟩ (.bool lb)).setCell ⟨w.heap.size+1,8,none⟩ (.string ⟨r.toArray⟩))).drew=W at HX KV⊢;clear f7 f8 m7 m8 cv0 WR c0 c1;have hWs:wr.heap.size<=W.heap.size:=KV.o.size;have HWS:=Hd hWs;clear hWs;have R:=Hd (jI {dT:=a1,dL:=a2,dN:=a3,dQ:=a4,fj:=a5,dF:=a6,eI:=a7,fu:=lb,data:=r} W hrl);go_wp2_with (refine wpList_load_row rfl 109 (.tmp 4) rfl (w.heap.size+1) rfl 109 (gE a1 a2 a3 a4 a5 a6 a7 lb ⟨r.toArray⟩) (0,0) _ HX.o Tryz.underlying109 rfl (by kernel_rfl) ?_)
     all_goals
      refine R.o.mono ?_;rintro e w4 ⟨rfl,KB⟩;have H4:Hy (Has w4 (w.heap.size+1) (.cells (gE a1 a2 a3 a4 a5 a6 a7 lb ⟨r.toArray⟩) 109)):=HX.o.below KB HX.o.lt;have H4r:Hy (Has w4 w.heap.size (.cells (jL []) 109)):=(K3.o.below KV.o (by omega)).below KB (K3.o.below KV.o (by omega)).lt;have KG:Hy (Below w.heap.size w w4):=(Mb.o.trans (KV.o.mono (by omega))).trans (KB.mono (by have:=HWS.o;have:=HS;unfold Hy at this;omega));clear KB;cases Px:dH.right {dT:=a1,dL:=a2,dN:=a3,dQ:=a4,fj:=a5,dF:=a6,eI:=a7,fu:=lb,data:=r}
      ·(have HT:Hy (kt bs=none):=by rw[Hy,HE.o];simp[mC,HY.o,hx,XP.o,Px]);clear Px;(go_wp2_with (refine wpList_store_row rfl 109 (.tmp 2) (.tmp 98) rfl w.heap.size _ rfl rfl 109 _ H4r.o (by kernel_rfl) (by kernel_rfl) (by kernel_rfl) ?_));exact n9 _ _ w4 w.heap.size _ rfl rfl H4r.o ⟨by rw[nZ HT.o],below_setRow KG.o (aq _) _⟩
      (have HT:Hy (kt bs=some {dT:=a1,dL:=a2,dN:=a3,dQ:=a4,fj:=a5,dF:=a6,eI:=a7,fu:=lb,data:=r}):=by rw[Hy,HE.o];simp[mC,HY.o,hx,XP.o,Px]);clear Px;(go_wp2_with (first|refine wpList_load_row rfl 109 (.tmp 4) rfl (w.heap.size+1) rfl 109 (gE a1 a2 a3 a4 a5 a6 a7 lb ⟨r.toArray⟩) (0,0) _ H4.o Tryz.underlying109 rfl (by kernel_rfl) ?_|refine wpList_store_row rfl 109 (.tmp 2) (.tmp 100) rfl w.heap.size (gE a1 a2 a3 a4 a5 a6 a7 lb ⟨r.toArray⟩) rfl rfl 109 _ H4r.o (by kernel_rfl) rfl (Fv _ _ _ _ _ _ _ _ _) ?_));exact bodyPost_ret (yq _ _ w.heap.size _ _ rfl rfl (H4r.o.setRow _) rfl) rfl ⟨by rw[yp HT.o];rfl,below_setRow KG.o (aq _) _⟩
   (have HT:Hy (kt bs=none):=by rw[Hy,HE.o];simp[mC,hy]);(have hyn:((y.toNat:Int) !=(n':Int)-2)=true:=by rw[bne_iff_ne];omega);(go_wp2_with (refine wpList_store_row rfl 109 (.tmp 2) (.tmp 84) rfl w.heap.size _ rfl rfl 109 _ K3.o (by kernel_rfl) (by kernel_rfl) (by kernel_rfl) ?_));exact n9 _ _ wr w.heap.size _ rfl rfl K3.o ⟨by rw[nZ HT.o],below_setRow Mb.o (aq _) _⟩
  (have HT:Hy (kt bs=none):=by rw[Hy,HE.o];simp[mC,hx]);(have KA:decide ((1:Int)<x.toNat)=true:=by simp;omega);(go_wp2_with (refine wpList_store_row rfl 109 (.tmp 2) (.tmp 84) rfl w.heap.size _ rfl rfl 109 _ K3.o (by kernel_rfl) (by kernel_rfl) (by kernel_rfl) ?_));exact n9 _ _ wr w.heap.size _ rfl rfl K3.o ⟨by rw[nZ HT.o],below_setRow Mb.o (aq _) _⟩
end eK
end Go.Proofs.YtlhodcmdpchllaaGreatDoor
