/-
  A part of the proof of the law WorldCalm: Wire3.
-/
import Derived.Laws.ResultCell
import Derived.Test.YtjhdaojclilakaaGreatDoorHd
import Derived.Test.YtjhdaojclilakaaGreatDoorP17
set_option maxHeartbeats 16000000
set_option maxRecDepth 1000000
namespace Go.Proofs.YtjhdaojclilakaaGreatDoor
section
variable {p q:Prop}
theorem aaZ (h:p:=by
 (go_wp2_with (refine wpList_store_row rfl 93 (.tmp 2) (.tmp 84) rfl w.heap.size _ rfl rfl 93 _ Qj.o af af af ?_));exact qH _ _ wr w.heap.size _ rfl rfl Qj.o ⟨by rw[qG HT.o],below_setRow RG.o (ax _) _⟩):p:=h
end
namespace fD
open Go.RowKit heap
theorem KS {w:World} {b:Nat} {l:List Int} (h:Has w b (.cells (lM l) 93)) (k:Nat) (a:k<7) :
 w.cell? ⟨b,k,none⟩=some (VI (l.getD k 0)):=by
 rw[h.cell]
 match k,a with
 |0,_|1,_|2,_|3,_|4,_|5,_|6,_=>rfl
def rF (bs:List UInt8):Value:=match mN bs with
 |some m=>.tuple #[m.val,.nilIface]
 |none=>.tuple #[.agg (lM []),.iface 70 (VI 3)]
variable {bs:List UInt8}
theorem qG (h:mN bs=none):rF bs=.tuple #[.agg (lM []),.iface 70 (VI 3)]:=by simp[rF,h]
theorem BT {m:eL} (h:mN bs=some m):rF bs=.tuple #[m.val,.nilIface]:=by simp[rF,h]
theorem KT (a b c d e f g:Int) (l:Bool) (s:ByteArray):(ju a b c d e f g l s).all (·.oneCell')=true:=ao
theorem KU (l:List Int) (r:List UInt8) (h:r.length<2):oZ l r=none:=by
 unfold oZ;split
 ·simp at h;omega
 rfl
theorem BU (tmps:Array Value) (W:World) (g:Nat) (cs:Array Value) (e:Value) (a:tmps.getD 2 undef=VP g 0) (b:tmps.getD 3 undef=e)
 (c:Has W g (.cells cs 93)) (hs:cs.size=9):(results Tryz.f43 tmps).run Tryz.prog W=.ok (.tuple #[.agg cs,e]) W:=by
 rw[results_cell_tmp Tryz.results43,a,b];(have hi:(Tryz.prog.info? 93).map (·.size)=some cs.size:=by rw[hs];kernel_rfl);have:=run_loadVar_row (P:=Tryz.prog) W g 93 93 cs (0,0) _ c Tryz.underlying93 rfl hi;simp[asAddr,Result.andThen,this]
theorem qH (R:Ending->World->Prop) (tmps:Array Value) (wr:World) (S:Nat) (jV:Array Value) (a:tmps.getD 2 undef=VP S 0) (b:tmps.getD 3 undef=.iface 70 (VI 3))
 (c:Has wr S (.cells jV 93)) (d:R (.returned (.tuple #[.agg (lM []),.iface 70 (VI 3)])) (wr.setRow S (lM []))) :
 bodyPost Tryz.prog Tryz.f43 R .ret {tmps:=tmps,defers:=[]} (wr.setRow S (lM [])):=
 bodyPost_ret (BU _ _ S _ _ a b (c.setRow _) rfl) rfl d
theorem BV (A:Option Addr) (n cap:Nat) (bs:List UInt8) (w:World) (P:RD w w.heap.size A n bs) (an:n<=cap) (hn:n<=9223372036854775807) :
 Calls Tryz.prog 43 #[.slice A n cap] w fun e w'=>e=.returned (rF bs)/\BB w w':=by
 have Td:=Hd P;clear P;(go_enter Tryz.func43,Tryz.ntmps43);(go_wp2_with fail);refine (xw _ _).mono ?_;rintro e L ⟨rfl,M⟩;have Q:Has L w.heap.size (.cells (lM []) 93):=M▸(((Has.new w _).alloc _).alloc _).drew
 have h2:Has L (w.heap.size+1) (.cells (lM []) 93):=by
  have:=((Has.new (w.alloc (.cells (lM []) 93)) (.cells (lM []) 93)).alloc (.cells (ot (w.heap.size+1)) 135)).drew;rw[World.size_alloc]at this;exact M▸this
 have h3:Has L (w.heap.size+2) (.cells (ot (w.heap.size+1)) 135):=by
  have:=(Has.new ((w.alloc (.cells (lM []) 93)).alloc (.cells (lM []) 93)) (.cells (ot (w.heap.size+1)) 135)).drew;rw[World.size_alloc,World.size_alloc]at this;exact M▸this
 (have Qi:L.heap.size=w.heap.size+3:=by rw[M];simp);have Px:BB w L:=M▸((((Below.refl _ _).alloc (ax _) _).alloc ae _).alloc ah _).drew;clear M;have Qw:=Hd Qi;have H1:=Hd Q;have H2:=Hd h2;have H3:=Hd h3;clear Qi Q h2 h3;have R2:=Hd (Td.o.below Px (ax _));(go_wp2_with fail);(go_loopw [0,6,7,8,9,10,13] (fun v _ _ _ _ _ i wr=>∃(k:Nat) (A':Option Addr) (d C:Nat) (m:List UInt8) (l:List Int),k<=7/\i=VI k/\v=.slice A' d C/\d<=n/\d<=C/\RD wr w.heap.size A' d m/\l.length=k/\mC bs l k m/\Below (w.heap.size+1) L wr/\Has wr (w.heap.size+1) (.cells (lM l) 93)/\Has wr (w.heap.size+2) (.cells (ot (w.heap.size+1)) 135)) (fun _ _ _ _ _ _ i _=>7-(intOf i).toNat));case atStart=>exact⟨0,A,n,cap,bs,[],ab,rfl,rfl,ax _,an,R2.o,rfl,mC.zero bs,Below.refl _ _,H2.o,H3.o⟩
 case round =>
  obtain⟨k,A',d,C,m,l,hk,rfl,rfl,b5,Qr,P,hl,S,g,hm,hp⟩:=hrel;have HL:=Hd hl;have T:=Hd S;have D:=Hd hm;have HP:=Hd hp;have HR:=Hd P;clear hl S hm hp P;(have HS:Hy (wr.heap.size>=w.heap.size+3):=by have:=g.size;have:=Qw.o;unfold Hy;omega);have Qj:Hy (Has wr w.heap.size (.cells (lM []) 93)):=H1.o.below g ab;have RG:Hy (BB w wr):=Px.trans (g.mono ab);by_cases I:k<7
  ·have c1:=xx _ _ _ _ HP.o I
   have hd:decide ((k:Int)<7)=true:=ah
   go_wp2_with fail
   go_loop [0,7,8,9,10] (fun v x ok i _=>(∃j acc:Nat,j<=6/\j<=d/\acc<128^j/\v=.slice A' d C/\x=VI acc/\ok=.bool false/\i=VI j/\Part m j acc) \/
    (∃(j acc:Nat) (A2:Option Addr) (N q:Nat) (s:List UInt8),j<=7/\v=.slice A2 N q/\N<=d/\N<=q/\x=VI acc/\ok=.bool true/\i=VI j/\RD wr w.heap.size A2 N s/\oF m=some (acc,s))) (fun _ _ _ i _=>8-(intOf i).toNat)
   case atStart=>exact .inl ⟨0,0,ab,ab,ae,rfl,rfl,rfl,rfl,Part.zero m⟩
   case round =>
    rcases hrel with⟨j,acc,hj,b6,U,rfl,rfl,rfl,rfl,V⟩|⟨j,acc,A2,N,q,s,hj,rfl,Ta,PE,rfl,rfl,rfl,Q8,X⟩
    ·have Y:=Hd V;have Z:=Hd U;clear V U;by_cases t:j<6
     ·by_cases b4:j<d
      ·obtain⟨b,off,rfl,hb,a⟩:=HR.o.at_ ab;have hlen:=HR.o.1;have Y7:Hy (m[j]?=some (m[j]'(by omega))):=ay (by omega:j<m.length);have cj:=a j _ Y7.o;generalize m[j]=c at cj Y7;unfold B at cj;clear a;have TI:=Hd hlen;clear hlen;have b7:=c.toNat_lt;have u:=Hd (Kv acc j c t Z.o)
       have aq:Hy (c.toNat=0->bits BinOp.or IntKind.i64 (acc:Int) (wrap64 (wrap64 (bits BinOp.and IntKind.u8 0 127)*2^(7*j)))=((acc+128^j*(c.toNat%128):Nat):Int)):=by
        intro h;have:=u.o;rw[h]at this⊢;exact this
       have Rh:decide ((j:Int)<6)=true:=ah;have ar:decide (j<d)=true:=ah;by_cases hc:c.toNat<128
       ·by_cases E:c.toNat=0/\0<j
        ·obtain⟨E,au⟩:=E;have HB:=Hd (T.o.none_ I (Y.o.bad t Y7.o E au));(have VN:((c.toNat:Int)==0)=true:=by rw[E];rfl);have Ye:=Hd E;clear E;(go_wp2_with (refine wpList_store_row rfl 93 (.tmp 2) (.tmp 51) rfl w.heap.size _ rfl rfl 93 _ Qj.o af af af ?_));exact qH _ _ wr w.heap.size _ rfl rfl Qj.o ⟨by rw[qG HB.o],below_setRow RG.o (ax _) _⟩
        have Tu:=Hd (Y.o.done t Y7.o hc E)
        have VN:((c.toNat:Int)==0)=false\/(decide (0<j)=false/\decide ((0:Int)<j)=false):=by
         by_cases hz:c.toNat=0
         ·right;constructor<;>simp<;>omega
         left;simp;omega
        have J:=HR.o.drop (k:=j+1) ab Qr;(have O:(Option.map (fun x:Addr=>x.add (j+1)) (some ⟨b,off,none⟩))=some ⟨b,off+(j+1),none⟩:=by simp[Addr.add]);rw[O]at J;have aa:=Hd J;clear J O E;rcases VN with VN|⟨VN,Sp⟩
        ·go_wp2
         go_round
         (case rel=>exact .inr ⟨j+1,_,_,_,_,_,ab,rfl,ab,ab,by rw[u.o],rfl,by go_num,aa.o,Tu.o⟩);case measure=>simp[intOf];omega
        go_wp2
        all_goals
         go_round
         (case rel=>exact .inr ⟨j+1,_,_,_,_,_,ab,rfl,ab,ab,by first|rw[u.o]|rw[aq.o (by assumption)],rfl,by go_num,aa.o,Tu.o⟩);case measure=>simp[intOf];omega
       have bb:=Hd (Y.o.more t Y7.o hc)
       have WM:=Hd (Kw acc j c Z.o)
       go_wp2
       go_round
       (case rel=>exact .inl ⟨j+1,_,ab,ab,WM.o,rfl,by rw[u.o],rfl,by go_num,bb.o⟩);case measure=>simp[intOf];omega
      have Ty:=Hd (T.o.none_ I (Y.o.short (.inr (by have:=HR.o.1;omega))));have ar:decide (j<d)=false:=ah;have Rh:decide ((j:Int)<6)=true:=ah;(go_wp2_with (refine wpList_store_row rfl 93 (.tmp 2) (.tmp 59) rfl w.heap.size _ rfl rfl 93 _ Qj.o af af af ?_));exact qH _ _ wr w.heap.size _ rfl rfl Qj.o ⟨by rw[qG Ty.o],below_setRow RG.o (ax _) _⟩
     have Ty:=Hd (T.o.none_ I (Y.o.short (.inl ab)));have Rh:decide ((j:Int)<6)=false:=ah;go_wp2_with (refine wpList_store_row rfl 93 (.tmp 2) (.tmp 59) rfl w.heap.size _ rfl rfl 93 _ Qj.o af af af ?_)
     all_goals
      exact qH _ _ wr w.heap.size _ rfl rfl Qj.o ⟨by rw[qG Ty.o],below_setRow RG.o (ax _) _⟩
    have bg:=Hd X;have Qu:=Hd Q8;clear X Q8;have cm:CI wr (w.heap.size+1) k (l.getD k 0):=KS D.o k I;have fm:wr.frozen? ⟨w.heap.size+1,k,none⟩=false:=D.o.frozen k;have K:=D.o.fQ k (VI acc);rw[Km l k acc I HL.o]at K;have YS:=Hd K;clear K;go_wp2
    all_goals
     go_roundw;(case rel=>exact⟨k+1,A2,N,q,s,l++[(acc:Int)],ab,by go_num,rfl,ab,PE,Qu.o.setCell ae _,by simp[HL.o],T.o.step I bg.o,g.setCell ae _,YS.o,HP.o.jv ae _⟩);case measure=>simp[intOf];omega
  (obtain rfl:k=7:=by omega);have HE:=Hd T.o.end_
  match l,HL.o with
  | [F,a2,a3,a4,a5,G,H],_ =>
  by_cases h2:d<2
  ·(have HT:Hy (mN bs=none):=by rw[Hy,HE.o];exact KU _ _ (by have:=HR.o.1;omega));exact aaZ
  obtain⟨b,off,rfl,hb,a⟩:=HR.o.at_ ab;have hlen:=HR.o.1
  obtain⟨x,y,r,rfl⟩:∃x y r,m=x::y::r:=by
   match m,hlen with
   | [],hlen=>simp at hlen;omega
   | [_],hlen=>simp at hlen;omega
   |x::y::r,_=>exact⟨x,y,r,rfl⟩
  have c0:CC wr b off (.int .u8 x.toNat):=a 0 x rfl;have c1:CC wr b (off+1) (.int .u8 y.toNat):=a 1 y rfl;have b8:=x.toNat_lt;have b9:=y.toNat_lt;have TI:=Hd hlen;(have ca:r.length+2=d:=by simpa using hlen);clear a hlen;have Ta:decide (d<2)=false:=ah;by_cases hx:x.toNat<=1
  ·by_cases hy:y.toNat=r.length
   ·have Td:=Hd (HR.o.drop (k:=2) ab Qr);have bj:((y.toNat:Int) !=(d:Int)-2)=false:=ah;have HY:=Hd hy;clear hy;have O:(Option.map (fun x:Addr=>x.add 2) (some ⟨b,off,none⟩))=some ⟨b,off+2,none⟩:=by simp[Addr.add]
    have bl:(convert 58 9 (.slice (if C=2 then some ⟨b,off,none⟩ else some ⟨b,off+2,none⟩) (d-2) (C-2))).run Tryz.prog wr=.ok (.string ⟨r.toArray⟩) wr:=by
     rw[<- O];exact BJ Td.o
    have b1:(convert 58 9 (.slice (if C=2 then some ⟨b,off,none⟩ else some ⟨b,off+2,none⟩) (d-2) (C-2))).run Tryz.prog wr.drew=.ok (.string ⟨r.toArray⟩) wr.drew:=by
     rw[<- O];exact BJ (w:=wr.drew) Td.o
    clear O;have f7:wr.frozen? ⟨w.heap.size+1,7,none⟩=false:=D.o.frozen 7;have f8:wr.frozen? ⟨w.heap.size+1,8,none⟩=false:=D.o.frozen 8;have m7:CC wr (w.heap.size+1) 7 (.bool false):=D.o.cell 7;have m8:CC wr (w.heap.size+1) 8 (.string ByteArray.empty):=D.o.cell 8
    obtain⟨f,Ts,hle⟩:∃f:Bool,decide (x.toNat=1)=f/\((x.toNat:Int)==1)=f:=⟨_,rfl,by
     by_cases Q:x.toNat=1
     ·simp[Q]
     simp[Q];omega⟩
    have ad:=Hd Ts;clear Ts
    have HX:Hy (Has (((wr.setCell ⟨w.heap.size+1,7,none⟩ (.bool f)).setCell ⟨w.heap.size+1,8,none⟩ (.string ⟨r.toArray⟩))).drew (w.heap.size+1) (.cells (ju F a2 a3 a4 a5 G H f ⟨r.toArray⟩) 93)):=
     ((D.o.fQ 7 (.bool f)).fQ 8 (.string ⟨r.toArray⟩)).drew
    have Qg:Hy (Below (w.heap.size+1) wr (((wr.setCell ⟨w.heap.size+1,7,none⟩ (.bool f)).setCell ⟨w.heap.size+1,8,none⟩ (.string ⟨r.toArray⟩))).drew):=
     (((Below.refl _ _).setCell ae _).setCell ae _).drew
    have b2:r.length<=9223372036854775807:=ab
    go_wp2_with fail
    go_region
    all_goals
     generalize (((wr.setCell ⟨w.heap.size+1,7,none⟩ (.bool f)).setCell ⟨w.heap.size+1,8,none⟩ (.string ⟨r.toArray⟩))).drew=W at HX Qg⊢;clear f7 f8 m7 m8 bl b1 c0 c1;have al:wr.heap.size<=W.heap.size:=Qg.o.size;have b3:=Hd al;clear al;have R:=Hd (lH {eO:=F,eI:=a2,eK:=a3,eS:=a4,fx:=a5,eF:=G,fJ:=H,gE:=f,data:=r} W b2);go_wp2_with (refine wpList_load_row rfl 93 (.tmp 4) rfl (w.heap.size+1) rfl 93 (ju F a2 a3 a4 a5 G H f ⟨r.toArray⟩) (0,0) _ HX.o Tryz.underlying93 rfl af ?_)
     all_goals
      refine R.o.mono ?_;rintro e w4 ⟨rfl,Qh⟩;have H4:Hy (Has w4 (w.heap.size+1) (.cells (ju F a2 a3 a4 a5 G H f ⟨r.toArray⟩) 93)):=HX.o.below Qh HX.o.lt;have z:Hy (Has w4 w.heap.size (.cells (lM []) 93)):=(Qj.o.below Qg.o ab).below Qh (Qj.o.below Qg.o ab).lt;have Rb:Hy (BB w w4):=(RG.o.trans (Qg.o.mono ab)).trans (Qh.mono (by have:=b3.o;have:=HS;unfold Hy at this;omega));clear Qh;cases Ry:eL.right {eO:=F,eI:=a2,eK:=a3,eS:=a4,fx:=a5,eF:=G,fJ:=H,gE:=f,data:=r}
      ·(have HT:Hy (mN bs=none):=by rw[Hy,HE.o];simp[oZ,HY.o,hx,ad.o,Ry]);clear Ry;(go_wp2_with (refine wpList_store_row rfl 93 (.tmp 2) (.tmp 98) rfl w.heap.size _ rfl rfl 93 _ z.o af af af ?_));exact qH _ _ w4 w.heap.size _ rfl rfl z.o ⟨by rw[qG HT.o],below_setRow Rb.o (ax _) _⟩
      (have HT:Hy (mN bs=some {eO:=F,eI:=a2,eK:=a3,eS:=a4,fx:=a5,eF:=G,fJ:=H,gE:=f,data:=r}):=by rw[Hy,HE.o];simp[oZ,HY.o,hx,ad.o,Ry]);clear Ry;(go_wp2_with (first|refine wpList_load_row rfl 93 (.tmp 4) rfl (w.heap.size+1) rfl 93 (ju F a2 a3 a4 a5 G H f ⟨r.toArray⟩) (0,0) _ H4.o Tryz.underlying93 rfl af ?_|refine wpList_store_row rfl 93 (.tmp 2) (.tmp 100) rfl w.heap.size (ju F a2 a3 a4 a5 G H f ⟨r.toArray⟩) rfl rfl 93 _ z.o af rfl (KT _ _ _ _ _ _ _ _ _) ?_));exact bodyPost_ret (BU _ _ w.heap.size _ _ rfl rfl (z.o.setRow _) rfl) rfl ⟨by rw[BT HT.o];rfl,below_setRow Rb.o (ax _) _⟩
   (have HT:Hy (mN bs=none):=by rw[Hy,HE.o];simp[oZ,hy]);(have bj:((y.toNat:Int) !=(d:Int)-2)=true:=by rw[bne_iff_ne];omega);exact aaZ
  (have HT:Hy (mN bs=none):=by rw[Hy,HE.o];simp[oZ,hx]);have Si:decide ((1:Int)<x.toNat)=true:=ah;exact aaZ
end fD
end Go.Proofs.YtjhdaojclilakaaGreatDoor
