/-
  A part of the proof of the law DeskPieces: CacheC, CacheD.
-/
import Derived.Deep.DeepCutAuto
import Derived.Deep.CutBlock
import Derived.Laws.ResultCell
import Derived.Test.YtlhodcmdpchllaaGreatDoorHd
import Derived.Test.YtlhodcmdpchllaaGreatDoorP08
import Derived.Test.YtlhodcmdpchllaaGreatDoorP13
set_option maxHeartbeats 16000000
set_option maxRecDepth 1000000
namespace Go.Proofs.YtlhodcmdpchllaaGreatDoor
namespace cache
open Go.RowKit heap own
attribute [local go_sem ↓] Go.wp_at_zero Go.wp_at_succ
def nU (l:List It) (x:It):List It:=(if (jK l x.obj).length=6 then List.drop 1 (jK l x.obj) else jK l x.obj)++[x]
theorem EB (own:Nat->Nat) (T:Nat) (v:Value) (n:Nat) (xs:List Value) (w:World) (h:Row own T w 272 4 v n xs) (hk:0<n) (Qp:∀u∈xs,u.oneCell'=true) :
 Calls Tryz.prog 198 #[v,.int .i64 0,.int .i64 1] w fun e w'=>∃v',e=.returned v'/\v'.ownBlock=v.ownBlock/\Row own T w' 272 4 v' (n-1) (cut 4 0 xs)/\dD (fun g=>v.ownBlock=some g) w w':=by
 have:=rm own T v n 0 xs w h hk Qp;rwa [show (((0:Nat):Int)+1)=1 from rfl,show ((0:Nat):Int)=0 from rfl]at this
theorem tD {w:World} {a b c d:Value} {t:TypeId}:∀(j:Nat) (x:Value),[a,b,c,d][j]?=some x->(w.alloc (.cells #[a,b,c,d] t)).drew.cell? ((⟨w.heap.size,0,none⟩:Addr).add j)=some x:=by
 intro j x hj;have h:=(Has.new w (.cells #[a,b,c,d] t)).cell j;(have e:(⟨w.heap.size,0,none⟩:Addr).add j=⟨w.heap.size,j,none⟩:=by by_cases h0:j=0<;>simp[Addr.add,h0]);rw[e];refine h.trans ?_;rw[<- hj];simp
theorem rq (x:It):∀u∈iS x,u.oneCell'=true:=by
 intro u hu;simp only[iS,aM,bc,or_false]at hu;rcases hu with rfl|rfl|rfl|rfl<;>rfl
theorem xP:(Tryz.prog.info? 272).map (fun i=>(i.zero,i.size,i.bytes))=some (some (.agg #[.int .i64 0,.string ByteArray.empty,.int .i64 0,.int .i64 0]),4,40):=xL
theorem xQ {own:Nat->Nat} {T b q g Ku:Nat} {cs:Array Value} {t:TypeId} {sl:Value} {l:List It} {x:It} {w w3:World} {ob:Obj}
 (hb:own b≠T) (hI:iX own T w sl l) (Kg:b<w.heap.size) (hB:Has w b (.cells cs t)) (On:w3.ownsRow 0 272 4 (.slice (some ⟨g,0,none⟩) (l.length+1) Ku) (l.length+1) (gA l++iS x))
 (MH:(w.alloc ob).drew.grownBy w3 sl.ownBlock) (hg:sl.ownBlock=some g\/g=w.heap.size+1) :
 jg own T b q cs t (l++[x]) w (w3.setCell ⟨b,q,none⟩ (.slice (some ⟨g,0,none⟩) (l.length+1) Ku)):=by
 have hrb:∀k,sl.ownBlock=some k->k<w.heap.size/\own k=T:=fun k hk=>⟨hI.lt k hk,hI.2 k hk⟩;have Mi:own g=T/\g<w.heap.size\/g=w.heap.size+1:=hg.imp (fun h=>⟨(hrb g h).2,(hrb g h).1⟩) (fun h=>h)
 have Mw:g≠b:=by
  rintro rfl;rcases Mi with h|h
  ·exact hb h.1
  omega
 refine⟨jj own w T,.slice (some ⟨g,0,none⟩) (l.length+1) Ku,Ext.new _ _ _,?_,?_,?_⟩
 ·exact (((dD.refl _ w).alloc ob).drew.grown MH (fun k hk=>.inr (.inr (hrb k hk).2))).setCell (p:=⟨b,q,none⟩) (.inr (.inl rfl)) _
 ·have h1:Has w3 b (.cells cs t):=by
   refine (MH.block b (by show b<(w.alloc ob).heap.size;simp;omega) (fun e=>hb (hrb b e.symm).2)).trans ?_;exact (hB.alloc ob).drew
  exact h1.eu q _
 unfold iX;rw[aA,aQ];(have e:gA (l++[x])=gA l++iS x:=by simp[gA]);rw[e]
 refine⟨lV On fun k hk=>Below.heap_setCell _ _ _ _ (by
  (have:g=k:=by simpa[Value.ownBlock]using hk);show k≠b
  omega),fun k hk=>?_⟩
 (obtain rfl:g=k:=by simpa[Value.ownBlock]using hk);rcases Mi with h|h
 ·rw[mB h.2];exact h.1
 exact pF (by omega)
theorem iy {w:World} {p:Addr} {v:Value} (h:w.cell? p=some v):∀ob,(w.alloc ob).cell? p=some v:=fun ob=>(World.cell?_alloc_lt w ob p (by
 exact Lt h)).trans h
theorem lu {w w':World} {ob:Obj} {row:Option Nat} {p:Addr} {v:Value} (hg:(w.alloc ob).drew.grownBy w' row) (h:w.cell? p=some v) (hr:∀k,row=some k->k≠p.block):w'.cell? p=some v:=by
 have Kg:p.block<w.heap.size:=by
  exact Lt h
 exact (World.cell?_of_block (hg.block _ (by show p.block<(w.alloc ob).heap.size;rw[World.size_alloc];omega) (fun e=>hr _ e.symm rfl))).trans (iy h ob)
theorem xR {w w':World} {ob:Obj} {row:Option Nat} {b i:Nat} {cs:Array Value} {t:TypeId} (hg:(w.alloc ob).drew.grownBy w' row) (h:Has w b (.cells cs t)) (hr:∀k,row=some k->k≠b):w'.frozen? ⟨b,i,none⟩=false:=by
 have h1:Has w' b (.cells cs t):=(hg.block b (by show b<(w.alloc ob).heap.size;rw[World.size_alloc];have:=h.lt;omega) (fun e=>hr _ e.symm rfl)).trans (h.alloc ob).drew;exact h1.frozen i
theorem jg.comp {own own1:Nat->Nat} {T b q:Nat} {cs:Array Value} {t:TypeId} {l2:List It} {v1:Value} {w w1 w2:World} (e1:Ext w own own1) (t1:dD (fun k=>k=b\/own k=T) w w1)
 (h2:jg own1 T b q (cs.setIfInBounds q v1) t l2 w1 w2):jg own T b q cs t l2 w w2:=by
 obtain⟨own2,v2,e2,t2,b2,i2⟩:=h2;refine⟨own2,v2,e1.trans e2 t1.size,t1.trans t2 (fun k hk hS=>?_),?_,i2⟩
 ·rcases hS with hS|hS
  ·exact .inl hS
  exact .inr ((e1 k hk).symm.trans hS)
 have:=b2;rwa [Array.setIfInBounds_setIfInBounds]at this
theorem EC {own:Nat->Nat} {T b q k:Nat} {cs:Array Value} {t:TypeId} {v v':Value} {l:List It} {w w2:World} (hb:own b≠T) (hB:Has w b (.cells cs t)) (h:iX own T w v l) (hk:k<l.length) (Om:v'.ownBlock=v.ownBlock)
 (Kj:Row own T w2 272 4 v' (l.length-1) (cut 4 k (gA l))) (ht:dD (fun g=>v.ownBlock=some g) w w2):dD (fun k=>k=b\/own k=T) w (w2.setCell ⟨b,q,none⟩ v')/\Has (w2.setCell ⟨b,q,none⟩ v') b (.cells (cs.setIfInBounds q v') t)/\iX own T (w2.setCell ⟨b,q,none⟩ v') v' (l.eraseIdx k):=by
 have hnb:¬(v.ownBlock=some b):=fun e=>hb (h.2 b e);refine⟨(ht.mono (fun g _ e=>.inr (h.2 g e))).setCell (p:=⟨b,q,none⟩) (.inr (.inl rfl)) _,(ht.has hB hnb).eu q _,?_⟩;have e1:(l.eraseIdx k).length=l.length-1:=bU hk;have e2:cut 4 k (gA l)=gA (l.eraseIdx k):=qB 4 k _ (fun _=>rfl) l;unfold iX;rw[e1,<- e2];refine⟨lV Kj.1 fun k' MW=>Below.heap_setCell _ _ _ _ ?_,Kj.2⟩;rw[Om]at MW;rintro rfl;exact hnb MW
theorem jg.ahead {own nf:Nat->Nat} {T b q:Nat} {cs:Array Value} {t:TypeId} {l:List It} {w w0 w1:World} (hb:Below w.heap.size w w0) (he:Ext w own nf) (h:jg nf T b q cs t l w0 w1):jg own T b q cs t l w w1:=by
 obtain⟨own1,v1,e1,t1,b1,i1⟩:=h;refine⟨own1,v1,fun k hk=>(e1 k (ay hk hb.size)).trans (he k hk),(dD.fw hb (aq _)).trans t1 (fun k hk hS=>?_),b1,i1⟩;rw[<- he k hk];exact hS
theorem ED (own:Nat->Nat) (T b q:Nat) (cs:Array Value) (t:TypeId) (v:Value) (l:List It) (x:It) (w:World) (hB:Has w b (.cells cs t)) (c0:cs[q]?=some v) (hb:own b≠T) (h:iX own T w v l) (hl:l.length<=6) :
 Calls Tryz.prog 196 #[.pointer (some ⟨b,q,none⟩),.int .i64 x.obj,.agg #[.string ⟨x.data.toArray⟩,.int .i64 x.dY],.int .i64 x.fO] w fun e w'=>e=.returned (.tuple #[])/\jg own T b q cs t (nU l x) w w':=by
 obtain⟨i0,KO,La,KH,KD⟩:=info_parts xP;have Kg:=hB.lt;have Wu:Below w.heap.size w (w.alloc (.cells #[.string ⟨x.data.toArray⟩,.int .i64 x.dY] 98)):=(Below.refl _ _).alloc (aq _) _;have hE0:Ext w own (jj own w (T+1)):=Ext.new _ _ _;(have Ls:jj own w (T+1) b≠T:=by rw[mB Kg];exact hb);have D:=Hd (xO (jj own w (T+1)) T b q cs t v l x.obj (w.alloc (.cells #[.string ⟨x.data.toArray⟩,.int .i64 x.dY] 98)) (hB.alloc _) c0 Ls (Row.ej (S:=fun _=>False) h (dD.fw Wu (aq _)) hE0 (fun _ _ _ h=>h)));have ZH:Hy (jj own w (T+1) w.heap.size=T+1):=pF (aq _);have hP:=Has.new w (.cells #[.string ⟨x.data.toArray⟩,.int .i64 x.dY] 98);have kg:(jK l x.obj).length<=6:=az (List.length_eraseP_le) hl;have HP:=Hd hP;have N9:=Hd Wu;have Qh:=Hd hb;have HQ:=Hd (show q<cs.size from (bz.1 c0).1);have HIL:=Hd (fun k (hk:v.ownBlock=some k)=>h.lt k hk);clear hB c0 h hb hP Wu;(go_enter Tryz.func196,Tryz.ntmps196);(go_wp2_with fail);refine D.o.mono ?_;rintro e w1 ⟨rfl,own1,v1,e1,t1,Td,Wv⟩;have Ol:w.heap.size+1<=w1.heap.size:=by have:=t1.size;simpa using this
 obtain⟨A1,m1,MT,rfl,hM1⟩:∃a m c,v1=.slice a m c/\m=(jK l x.obj).length:=by
  rcases Wv.1.2 with⟨rfl,e⟩|⟨g,cap,cur,rfl,_⟩
  ·exact⟨_,_,_,rfl,e.symm⟩
  exact⟨_,_,_,rfl,rfl⟩
 have KP:=Hd t1;have HE1:=Hd e1;have MU:=(e1 b (by show b<(w.alloc _).heap.size;rw[World.size_alloc];omega));have ow1:=(e1 w.heap.size (by rw[World.size_alloc];omega)).trans ZH.o;(have Ob:own1 b≠T:=by rw[MU];exact Ls);have Qr:=t1.has HP.o (fun h=>by have:=ZH.o;rcases h with h|h<;>omega);have Ww:=Hd kg;clear e1 t1 kg Ls MU;by_cases h6:(jK l x.obj).length=6
 ·(have k1:w1.cell? ⟨b,q,none⟩=some (.slice A1 m1 MT):=by rw[Td.cell,ct];simp[HQ.o]);(obtain rfl:m1=6:=by rw[hM1];exact h6);have Ki:=Hd Td;have RS:=Hd Wv;have KS:=Hd Qr;have Wx:=Hd Ob;(have K3:Hy (Row own1 T w1 272 4 (.slice A1 6 MT) 6 (gA (jK l x.obj))):=by have:=Wv;unfold iX at this;rwa [h6]at this);clear Td Wv Qr hM1 Ob;(go_wp2_with fail);refine (EB own1 T _ 6 (gA (jK l x.obj)) w1 K3.o (by omega) (rh _)).mono ?_;rintro e w2 ⟨v',rfl,Om,K7,Kr⟩
  obtain⟨A,m,cap,rfl⟩:∃a m c,v'=.slice a m c:=by
   rcases K7.1.2 with⟨rfl,_⟩|⟨g,cap,cur,rfl,_⟩<;>exact⟨_,_,_,rfl⟩
  have hnb:¬((Value.slice A1 6 MT).ownBlock=some b):=fun e=>Wx.o (K3.o.2 b e)
  have Nl:=Kr.has Ki.o hnb
  have k2:w2.cell? ⟨b,q,none⟩=some (.slice A1 6 MT):=by rw[Nl.cell,ct];simp[HQ.o]
  have f2:w2.frozen? ⟨b,q,none⟩=false:=Nl.frozen q
  have ON:=Kr.has KS.o (fun e=>by have:=K3.o.2 _ e;omega)
  have Km:b≠w.heap.size:=by omega
  obtain⟨LL,Uf⟩:∃LL,LL=(jK l x.obj).eraseIdx 0:=⟨_,rfl⟩
  have Lm:LL.length<=6:=by rw[Uf,bU (by omega)];omega
  have CP:=EC (q:=q) Wx.o Ki.o RS.o (k:=0) (by omega) Om (by rw[h6];exact K7) Kr
  rw[<- Uf]at CP
  have KM:=Hd Uf
  have Lk:=Hd ON
  clear Uf Om K7 Kr hnb Nl ON
  go_upto_region 4 with fail
  obtain⟨w3,Qg⟩:∃w3,w3=w2.setCell ⟨b,q,none⟩ (.slice A m cap):=⟨_,rfl⟩
  rw[<- Qg]at CP⊢
  have hX3:=Lk.o.far (p:=⟨b,q,none⟩) (Ne.symm Km) (.slice A m cap)
  rw[<- Qg]at hX3
  obtain⟨t3,Rl,Sz⟩:=CP
  have LQ:=Hd t3
  have Lh:=Wx.o
  have SA:own1 w.heap.size≠T:=by omega
  have k3:w3.cell? ⟨b,q,none⟩=some (.slice A m cap):=by rw[Rl.cell,ct];simp[HQ.o]
  have k4:w3.cell? ⟨w.heap.size,0,none⟩=some (.string ⟨x.data.toArray⟩):=hX3.cell 0
  have k5:w3.cell? ⟨w.heap.size,1,none⟩=some (.int .i64 x.dY):=hX3.cell 1
  have HH6:=Hd h6
  clear t3 hX3 Qg k1 k2 f2 h6
  have Lf:=Hd Rl
  have ZK:=Hd Sz
  have Wy:=Hd Lh
  have Wz:=Hd (show b<w3.heap.size from Rl.lt)
  have Nx:Hy ((w3.alloc (.cells #[.int .i64 x.obj,.string ⟨x.data.toArray⟩,.int .i64 x.dY,.int .i64 x.fO] 272)).drew.ownsRow 0 272 4 (.slice A m cap) LL.length (gA LL)):=Sz.1.alloc _
  have Lp:Hy ((w3.alloc (.cells #[.int .i64 x.obj,.string ⟨x.data.toArray⟩,.int .i64 x.dY,.int .i64 x.fO] 272)).drew.heap.size=w3.heap.size+1):=World.size_alloc _ _
  have Qc:Hy (∀k,(Value.slice A m cap).ownBlock=some k->k≠b):=fun k hk e=>Lh (by rw[<- e];exact Sz.2 k hk)
  have Oq:Hy (∀k,(Value.slice A m cap).ownBlock=some k->k≠w.heap.size):=fun k hk e=>SA (by rw[<- e];exact Sz.2 k hk)
  clear Rl Sz Lh SA
  refine last.oY (S:=fun W=>W.cell? ⟨b,q,none⟩=some (.slice A m cap)/\W.cell? ⟨w.heap.size,0,none⟩=some (.string ⟨x.data.toArray⟩)/\W.cell? ⟨w.heap.size,1,none⟩=some (.int .i64 x.dY)) (L:=13) (by kernel_rfl) ?_
  refine last.gS (i:=0) (v:=.pointer (some ⟨b,q,none⟩)) rfl (by kernel_rfl) (by kernel_rfl) (by kernel_rfl) (by kernel_rfl) (fun _ _ _ h=>h) ⟨k3,k4,k5⟩ (by rfl) (fun W hW=>by obtain⟨Kh,Kv,Kz⟩:=hW;go_simp) ?_
  dsimp only[Act.put]
  refine last.gS (i:=1) (v:=.pointer (some ⟨b,q,none⟩)) rfl (by kernel_rfl) (by kernel_rfl) (by kernel_rfl) (by kernel_rfl) (fun _ _ _ h=>h) ⟨k3,k4,k5⟩ (by rfl) (fun W hW=>by obtain⟨Kh,Kv,Kz⟩:=hW;go_simp) ?_
  dsimp only[Act.put]
  refine last.gS (i:=2) (v:=.pointer (some ⟨b,q,none⟩)) rfl (by kernel_rfl) (by kernel_rfl) (by kernel_rfl) (by kernel_rfl) (fun _ _ _ h=>h) ⟨k3,k4,k5⟩ (by rfl) (fun W hW=>by obtain⟨Kh,Kv,Kz⟩:=hW;go_simp) ?_
  dsimp only[Act.put]
  refine last.gS (i:=3) (v:=.pointer (some ⟨b,q,none⟩)) rfl (by kernel_rfl) (by kernel_rfl) (by kernel_rfl) (by kernel_rfl) (fun _ _ _ h=>h) ⟨k3,k4,k5⟩ (by rfl) (fun W hW=>by obtain⟨Kh,Kv,Kz⟩:=hW;go_simp) ?_
  dsimp only[Act.put]
  refine last.gS (i:=4) (v:=.slice A m cap) rfl (by kernel_rfl) (by kernel_rfl) (by kernel_rfl) (by kernel_rfl) (fun _ _ _ h=>h) ⟨k3,k4,k5⟩ (by rfl) (fun W hW=>by obtain⟨Kh,Kv,Kz⟩:=hW;go_simp) ?_
  dsimp only[Act.put]
  refine last.gS (i:=5) (v:=.int .i64 x.obj) rfl (by kernel_rfl) (by kernel_rfl) (by kernel_rfl) (by kernel_rfl) (fun _ _ _ h=>h) ⟨k3,k4,k5⟩ (by rfl) (fun W hW=>by obtain⟨Kh,Kv,Kz⟩:=hW;go_simp) ?_
  dsimp only[Act.put]
  refine last.gS (i:=6) (v:=.agg #[.string ⟨x.data.toArray⟩,.int .i64 x.dY]) rfl (by kernel_rfl) (by kernel_rfl) (by kernel_rfl) (by kernel_rfl) (fun _ _ _ h=>h) ⟨k3,k4,k5⟩ (by rfl) (fun W hW=>by obtain⟨Kh,Kv,Kz⟩:=hW;go_simp) ?_
  dsimp only[Act.put]
  refine last.gS (i:=7) (v:=.int .i64 x.fO) rfl (by kernel_rfl) (by kernel_rfl) (by kernel_rfl) (by kernel_rfl) (fun _ _ _ h=>h) ⟨k3,k4,k5⟩ (by rfl) (fun W hW=>by obtain⟨Kh,Kv,Kz⟩:=hW;go_simp) ?_
  dsimp only[Act.put]
  refine last.gS (i:=8) (v:=.agg #[.int .i64 x.obj,.string ⟨x.data.toArray⟩,.int .i64 x.dY,.int .i64 x.fO]) rfl (by kernel_rfl) (by kernel_rfl) (by kernel_rfl) (by kernel_rfl) (fun _ _ _ h=>h) ⟨k3,k4,k5⟩ (by rfl) (fun W hW=>by obtain⟨Kh,Kv,Kz⟩:=hW;go_simp) ?_
  dsimp only[Act.put]
  refine last.iC (i:=9) (by kernel_rfl) rfl fun K hK=>?_
  go_simp
  refine hK.out _ _ (fun _=>⟨iy k3 _,iy k4 _,iy k5 _⟩) ?_
  clear hK
  refine last.iC (i:=10) (by kernel_rfl) rfl fun K hK=>?_
  refine step_append_lies _ (by rfl) (.tmp 29) (.tmp 34) 114 (by rfl) 0 272 i0 _ 4 40 Tryz.underlying114 KO La KH KD (by rfl) (by decide) (.slice A m cap) LL.length (gA LL) (by rfl) Nx.o ⟨w3.heap.size,0,none⟩ 1 1 (iS x) (by rfl) rfl tD (rq x) (by omega) (by unfold maxLen;omega) (by omega) (by simp) (w3.heap.size+1) Lp.o ?_
  intro g Ku w4 KR Lq Mi Sj
  refine hK.out _ _ (fun _=>⟨lu Lq k3 Qc.o,lu Lq k4 Oq.o,lu Lq k5 Oq.o⟩) ?_
  have k6:=lu Lq k3 Qc.o
  have k7:=lu Lq k4 Oq.o
  have k8:=lu Lq k5 Oq.o
  have D4:=Hd (xQ (q:=q) Wy.o ZK.o Wz.o Lf.o KR Lq Mi)
  have f6:w4.frozen? ⟨b,q,none⟩=false:=xR Lq Lf.o Qc.o
  clear hK KR Lq Mi Sj
  dsimp only[Act.put]
  refine last.iC (i:=11) (by kernel_rfl) rfl fun K hK=>?_
  go_simp
  refine hK.out _ _ (fun _=>⟨k6,k7,k8⟩) ?_
  clear hK
  refine last.iC (i:=12) (by kernel_rfl) rfl fun K hK=>?_
  go_simp
  refine hK.out _ _ (fun _=>⟨k6,k7,k8⟩) ?_
  clear hK
  refine last.iC (i:=13) (by kernel_rfl) rfl fun K hK=>?_
  go_simp
  refine hK.out _ _ (fun h=>absurd rfl h) ?_
  clear hK
  refine last.done ?_
  go_wp2_with fail
  go_end0
  refine⟨rfl,jg.ahead N9.o hE0 (jg.comp (v1:=.slice A1 6 MT) HE1.o KP.o (jg.comp (v1:=.slice A m cap) (Ext.refl _ _) LQ.o ?_))⟩;(have:nU l x=LL++[x]:=by unfold nU;rw[KM.o,if_pos HH6.o,List.eraseIdx_zero,List.drop_one]);rw[this];exact D4.o
 obtain⟨LL,Uf⟩:∃LL,LL=jK l x.obj:=⟨_,rfl⟩
 have KM:=Hd Uf
 have Lm:LL.length<=6:=by rw[Uf];exact Ww.o
 have h6':((m1:Int)==6)=false:=by rw[hM1];exact beq_eq_false_iff_ne.2 (by omega)
 rw[<- Uf]at Wv
 obtain⟨w3,Qg⟩:∃w3,w3=w1:=⟨_,rfl⟩
 subst Qg
 obtain⟨A,m,cap,e3⟩:∃A m cap,Value.slice A1 m1 MT=.slice A m cap:=⟨_,_,_,rfl⟩
 obtain⟨rfl,rfl,rfl⟩:A1=A/\m1=m/\MT=cap:=by simpa using e3
 have Rl:=Td
 have Sz:=Wv
 have Lh:=Ob
 have SA:own1 w.heap.size≠T:=by omega
 have k3:w3.cell? ⟨b,q,none⟩=some (.slice A1 m1 MT):=by rw[Td.cell,ct];simp[HQ.o]
 have k4:w3.cell? ⟨w.heap.size,0,none⟩=some (.string ⟨x.data.toArray⟩):=Qr.cell 0
 have k5:w3.cell? ⟨w.heap.size,1,none⟩=some (.int .i64 x.dY):=Qr.cell 1
 have HH6:=Hd h6
 clear e3 Td Wv Ob Qr h6 Uf hM1
 have Lf:=Hd Rl
 have ZK:=Hd Sz
 have Wy:=Hd Lh
 have Wz:=Hd (show b<w3.heap.size from Rl.lt)
 have Nx:Hy ((w3.alloc (.cells #[.int .i64 x.obj,.string ⟨x.data.toArray⟩,.int .i64 x.dY,.int .i64 x.fO] 272)).drew.ownsRow 0 272 4 (.slice A1 m1 MT) LL.length (gA LL)):=Sz.1.alloc _
 have Lp:Hy ((w3.alloc (.cells #[.int .i64 x.obj,.string ⟨x.data.toArray⟩,.int .i64 x.dY,.int .i64 x.fO] 272)).drew.heap.size=w3.heap.size+1):=World.size_alloc _ _
 have Qc:Hy (∀k,(Value.slice A1 m1 MT).ownBlock=some k->k≠b):=fun k hk e=>Lh (by rw[<- e];exact Sz.2 k hk)
 have Oq:Hy (∀k,(Value.slice A1 m1 MT).ownBlock=some k->k≠w.heap.size):=fun k hk e=>SA (by rw[<- e];exact Sz.2 k hk)
 clear Rl Sz Lh SA
 go_upto_region 4 with fail
 refine last.oY (S:=fun W=>W.cell? ⟨b,q,none⟩=some (.slice A1 m1 MT)/\W.cell? ⟨w.heap.size,0,none⟩=some (.string ⟨x.data.toArray⟩)/\W.cell? ⟨w.heap.size,1,none⟩=some (.int .i64 x.dY)) (L:=13) (by kernel_rfl) ?_
 refine last.gS (i:=0) (v:=.pointer (some ⟨b,q,none⟩)) rfl (by kernel_rfl) (by kernel_rfl) (by kernel_rfl) (by kernel_rfl) (fun _ _ _ h=>h) ⟨k3,k4,k5⟩ (by rfl) (fun W hW=>by obtain⟨Kh,Kv,Kz⟩:=hW;go_simp) ?_
 dsimp only[Act.put]
 refine last.gS (i:=1) (v:=.pointer (some ⟨b,q,none⟩)) rfl (by kernel_rfl) (by kernel_rfl) (by kernel_rfl) (by kernel_rfl) (fun _ _ _ h=>h) ⟨k3,k4,k5⟩ (by rfl) (fun W hW=>by obtain⟨Kh,Kv,Kz⟩:=hW;go_simp) ?_
 dsimp only[Act.put]
 refine last.gS (i:=2) (v:=.pointer (some ⟨b,q,none⟩)) rfl (by kernel_rfl) (by kernel_rfl) (by kernel_rfl) (by kernel_rfl) (fun _ _ _ h=>h) ⟨k3,k4,k5⟩ (by rfl) (fun W hW=>by obtain⟨Kh,Kv,Kz⟩:=hW;go_simp) ?_
 dsimp only[Act.put]
 refine last.gS (i:=3) (v:=.pointer (some ⟨b,q,none⟩)) rfl (by kernel_rfl) (by kernel_rfl) (by kernel_rfl) (by kernel_rfl) (fun _ _ _ h=>h) ⟨k3,k4,k5⟩ (by rfl) (fun W hW=>by obtain⟨Kh,Kv,Kz⟩:=hW;go_simp) ?_
 dsimp only[Act.put]
 refine last.gS (i:=4) (v:=.slice A1 m1 MT) rfl (by kernel_rfl) (by kernel_rfl) (by kernel_rfl) (by kernel_rfl) (fun _ _ _ h=>h) ⟨k3,k4,k5⟩ (by rfl) (fun W hW=>by obtain⟨Kh,Kv,Kz⟩:=hW;go_simp) ?_
 dsimp only[Act.put]
 refine last.gS (i:=5) (v:=.int .i64 x.obj) rfl (by kernel_rfl) (by kernel_rfl) (by kernel_rfl) (by kernel_rfl) (fun _ _ _ h=>h) ⟨k3,k4,k5⟩ (by rfl) (fun W hW=>by obtain⟨Kh,Kv,Kz⟩:=hW;go_simp) ?_
 dsimp only[Act.put]
 refine last.gS (i:=6) (v:=.agg #[.string ⟨x.data.toArray⟩,.int .i64 x.dY]) rfl (by kernel_rfl) (by kernel_rfl) (by kernel_rfl) (by kernel_rfl) (fun _ _ _ h=>h) ⟨k3,k4,k5⟩ (by rfl) (fun W hW=>by obtain⟨Kh,Kv,Kz⟩:=hW;go_simp) ?_
 dsimp only[Act.put]
 refine last.gS (i:=7) (v:=.int .i64 x.fO) rfl (by kernel_rfl) (by kernel_rfl) (by kernel_rfl) (by kernel_rfl) (fun _ _ _ h=>h) ⟨k3,k4,k5⟩ (by rfl) (fun W hW=>by obtain⟨Kh,Kv,Kz⟩:=hW;go_simp) ?_
 dsimp only[Act.put]
 refine last.gS (i:=8) (v:=.agg #[.int .i64 x.obj,.string ⟨x.data.toArray⟩,.int .i64 x.dY,.int .i64 x.fO]) rfl (by kernel_rfl) (by kernel_rfl) (by kernel_rfl) (by kernel_rfl) (fun _ _ _ h=>h) ⟨k3,k4,k5⟩ (by rfl) (fun W hW=>by obtain⟨Kh,Kv,Kz⟩:=hW;go_simp) ?_
 dsimp only[Act.put]
 refine last.iC (i:=9) (by kernel_rfl) rfl fun K hK=>?_
 go_simp
 refine hK.out _ _ (fun _=>⟨iy k3 _,iy k4 _,iy k5 _⟩) ?_
 clear hK
 refine last.iC (i:=10) (by kernel_rfl) rfl fun K hK=>?_
 refine step_append_lies _ (by rfl) (.tmp 29) (.tmp 34) 114 (by rfl) 0 272 i0 _ 4 40 Tryz.underlying114 KO La KH KD (by rfl) (by decide) (.slice A1 m1 MT) LL.length (gA LL) (by rfl) Nx.o ⟨w3.heap.size,0,none⟩ 1 1 (iS x) (by rfl) rfl tD (rq x) (by omega) (by unfold maxLen;omega) (by omega) (by simp) (w3.heap.size+1) Lp.o ?_
 intro g Ku w4 KR Lq Mi Sj
 refine hK.out _ _ (fun _=>⟨lu Lq k3 Qc.o,lu Lq k4 Oq.o,lu Lq k5 Oq.o⟩) ?_
 have k6:=lu Lq k3 Qc.o
 have k7:=lu Lq k4 Oq.o
 have k8:=lu Lq k5 Oq.o
 have D4:=Hd (xQ (q:=q) Wy.o ZK.o Wz.o Lf.o KR Lq Mi)
 have f6:w4.frozen? ⟨b,q,none⟩=false:=xR Lq Lf.o Qc.o
 clear hK KR Lq Mi Sj
 dsimp only[Act.put]
 refine last.iC (i:=11) (by kernel_rfl) rfl fun K hK=>?_
 go_simp
 refine hK.out _ _ (fun _=>⟨k6,k7,k8⟩) ?_
 clear hK
 refine last.iC (i:=12) (by kernel_rfl) rfl fun K hK=>?_
 go_simp
 refine hK.out _ _ (fun _=>⟨k6,k7,k8⟩) ?_
 clear hK
 refine last.iC (i:=13) (by kernel_rfl) rfl fun K hK=>?_
 go_simp
 refine hK.out _ _ (fun h=>absurd rfl h) ?_
 clear hK
 refine last.done ?_
 go_wp2_with fail
 go_end0
 refine⟨rfl,jg.ahead N9.o hE0 (jg.comp (v1:=.slice A1 m1 MT) HE1.o KP.o ?_)⟩;(have:nU l x=LL++[x]:=by unfold nU;rw[KM.o,if_neg HH6.o]);rw[this];exact D4.o
attribute [local go_sem ↓] Go.wp_at_zero Go.wp_at_succ
theorem EE {fn:Func} {p u v:Tmp} {ty:TypeId} (h:fn.results=#[.cell p ty,.tmp u,.tmp v]) (tmps:Array Value) (P:Program) (w:World) :
 (results fn tmps).run P w =
   ((asAddr (tmps.getD p undef)).run P w).andThen fun a w₁=>((loadVar ty a).run P w₁).andThen fun x w₂=>.ok (.tuple #[x,tmps.getD u undef,tmps.getD v undef]) w₂:=by
 simp only[results,h];simp[Sem.run_bind,Result.andThen]
theorem tE (tmps:Array Value) (W:World) (g:Nat) (x y fO err:Value) (h2:tmps.getD 4 undef=.pointer (some ⟨g,0,none⟩)) (h3:tmps.getD 5 undef=fO) (h4:tmps.getD 6 undef=err)
 (hg:Has W g (.cells #[x,y] 98)):(results Tryz.f169 tmps).run Tryz.prog W=.ok (.tuple #[.agg #[x,y],fO,err]) W:=by
 rw[EE Tryz.results169,h2,h3,h4];(have hi:(Tryz.prog.info? 98).map (·.size)=some (#[x,y]:Array Value).size:=by kernel_rfl);have:=run_loadVar_row (P:=Tryz.prog) W g 98 98 _ (0,0) _ hg Tryz.underlying98 rfl hi;simp[asAddr,Result.andThen,this]
theorem EF (own:Nat->Nat) (T b q:Nat) (v:Value) (l:List It) (o:Int) (w:World) (k0:w.cell? ⟨b,q,none⟩=some v) (h:iX own T w v l) (hf:findAt l o = -1) :
 Calls Tryz.prog 169 #[.pointer (some ⟨b,q,none⟩),.int .i64 o] w fun e w'=>e=.returned (.tuple #[.agg #[.string ByteArray.empty,.int .i64 0],.int .i64 0,.iface 52 (.int .i64 7)])/\Below w.heap.size w w':=by
 have Ls:Below w.heap.size w (w.alloc (.cells #[.string ByteArray.empty,.int .i64 0] 98)):=(Below.refl _ _).alloc (aq _) _;have F:=Hd (tC own T b q v l o (w.alloc (.cells #[.string ByteArray.empty,.int .i64 0] 98)) (iy k0 _) (h.below Ls));rw[hf]at F;have M0:=Hd Ls;clear h Ls;(go_enter Tryz.func169,Tryz.ntmps169);(go_wp2_with fail);refine F.o.mono ?_;rintro e w1 ⟨rfl,Kd⟩;have Qr:Has w1 w.heap.size (.cells #[.string ByteArray.empty,.int .i64 0] 98):=(Has.new w _).below Kd (by simp);have c0:w1.cell? ⟨w.heap.size,0,none⟩=some (.string ByteArray.empty):=Qr.cell 0;have c1:w1.cell? ⟨w.heap.size,1,none⟩=some (.int .i64 0):=Qr.cell 1;have f0:w1.frozen? ⟨w.heap.size,0,none⟩=false:=Qr.frozen 0;have f1:w1.frozen? ⟨w.heap.size,1,none⟩=false:=Qr.frozen 1;have KS:=Hd Qr;have Ki:=Hd (M0.o.trans (Kd.mono (by simp)));clear Kd Qr;(go_wp2_with fail);have hW:=(KS.o.eu 0 (.string ByteArray.empty)).eu 1 (.int .i64 0);refine bodyPost_ret (tE _ _ w.heap.size (.string ByteArray.empty) (.int .i64 0) _ _ rfl rfl rfl hW) rfl ⟨rfl,?_⟩;exact (Ki.o.setCell (p:=⟨w.heap.size,0,none⟩) (aq _) _).setCell (p:=⟨w.heap.size,1,none⟩) (aq _) _
theorem xS {own:Nat->Nat} {T b q g Ku:Nat} {cs:Array Value} {t:TypeId} {sl:Value} {l:List It} {x:It} {w wA w3 w5:World} {r:Nat}
 (hb:own b≠T) (hT:dD (fun k=>k=b\/own k=T) w wA) (hI:Row own T wA 272 4 sl l.length (gA l)) (MO:∀k,sl.ownBlock=some k->k<w.heap.size) (Kg:b<w.heap.size) (hB:Has wA b (.cells cs t))
 (On:w3.ownsRow 0 272 4 (.slice (some ⟨g,0,none⟩) (l.length+1) Ku) (l.length+1) (gA l++iS x))
 (MH:wA.grownBy w3 sl.ownBlock) (hg:sl.ownBlock=some g\/g=wA.heap.size)
 (LS:w.heap.size<=r) (LO:r<wA.heap.size) (h5:dD (fun k=>k=r) (w3.setCell ⟨b,q,none⟩ (.slice (some ⟨g,0,none⟩) (l.length+1) Ku)) w5):jg own T b q cs t (l++[x]) w w5:=by
 have hrb:∀k,sl.ownBlock=some k->k<w.heap.size/\own k=T:=fun k hk=>⟨MO k hk,hI.2 k hk⟩;have hs:=hT.size;have Mi:own g=T/\g<w.heap.size\/g=wA.heap.size:=hg.imp (fun h=>⟨(hrb g h).2,(hrb g h).1⟩) (fun h=>h)
 have Mw:g≠b:=by
  rintro rfl;rcases Mi with h|h
  ·exact hb h.1
  omega
 refine⟨jj own w T,.slice (some ⟨g,0,none⟩) (l.length+1) Ku,Ext.new _ _ _,?_,?_,?_⟩
 ·exact ((hT.grown MH (fun k hk=>.inr (.inr (hrb k hk).2))).setCell (p:=⟨b,q,none⟩) (.inr (.inl rfl)) _).trans h5 (fun k hk e=>by omega)
 ·have h1:Has w3 b (.cells cs t):=(MH.block b (by omega) (fun e=>hb (hrb b e.symm).2)).trans hB;exact h5.has (h1.eu q _) (by omega)
 unfold iX;rw[aA,aQ];(have e:gA (l++[x])=gA l++iS x:=by simp[gA]);rw[e]
 have hg9:g<w3.heap.size:=by
  rcases On.2 with⟨h,-⟩|⟨g',c',cu',h,_,hh,_⟩
  ·cases h
  (have e1:g=g':=by injection h with h1 _ _;injection h1 with h1;injection h1);subst e1;exact Has.lt (w:=w3) hh
 refine⟨lV On fun k hk=>?_,fun k hk=>?_⟩
 ·(have:g=k:=by simpa[Value.ownBlock]using hk);subst this;exact (h5.block g (by simpa[World.setCell]using hg9) (by omega)).trans (Below.heap_setCell _ _ _ _ Mw)
 (obtain rfl:g=k:=by simpa[Value.ownBlock]using hk);rcases Mi with h|h
 ·rw[mB h.2];exact h.1
 exact pF (by omega)
theorem EG (own:Nat->Nat) (T b q:Nat) (cs:Array Value) (t:TypeId) (v:Value) (l:List It) (o:Int) (k:Nat) (x:It) (w:World) (hB:Has w b (.cells cs t)) (c0:cs[q]?=some v) (hb:own b≠T) (h:iX own T w v l) (hl:l.length<=6) (hk:l[k]?=some x) (hf:findAt l o=k) :
 Calls Tryz.prog 169 #[.pointer (some ⟨b,q,none⟩),.int .i64 o] w fun e w'=>e=.returned (.tuple #[.agg #[.string ⟨x.data.toArray⟩,.int .i64 x.dY],.int .i64 x.fO,.nilIface])/\jg own T b q cs t (l.eraseIdx k++[x]) w w':=by
 obtain⟨i0,KO,La,KH,KD⟩:=info_parts xP;have Kg:=hB.lt;have Ks:=(ar.1 hk).1;have k0:w.cell? ⟨b,q,none⟩=some v:=(hB.cell q).trans c0;have Ls:Below w.heap.size w (w.alloc (.cells #[.string ByteArray.empty,.int .i64 0] 98)):=(Below.refl _ _).alloc (aq _) _;have F:=Hd (tC own T b q v l o (w.alloc (.cells #[.string ByteArray.empty,.int .i64 0] 98)) (iy k0 _) (h.below Ls));rw[hf]at F;obtain⟨g,cap,cur,rfl,ho,hh,Sy,Oa,LN,hcx⟩:=h.shape (by omega);(have Mw:g≠b:=by rintro rfl;exact hb ho);have Rm:=hh.lt;(have HC:Hy (∀j,j<4->w.cell? ⟨g,k*4+j,none⟩=(iS x)[j]?):=fun j hj=>by rw[(ij hh hcx (k*4+j) (by omega)).1,xK l k x hk j hj]);have M0:=Hd Ls;have HB:=Hd hB;have RR:=Hd c0;have HI:=Hd h;have HK:=Hd hk;have Qh:=Hd hb;unfold maxLen at Oa;(have hk9:¬((k:Int)<0):=by omega);(have Y3:l.length<=9223372036854775807:=by omega);(have hkl9:(k:Int)<l.length:=by omega);clear Ls hB c0 h hk hb ho hh LN hcx k0 hf;(go_enter Tryz.func169,Tryz.ntmps169);(go_wp2_with fail);refine F.o.mono ?_;rintro e w1 ⟨rfl,Kd⟩;change Below _ _ _ at Kd;rw[World.size_alloc]at Kd;have L9:=M0.o.trans (Kd.mono (by omega));have Qr:Has w1 w.heap.size (.cells #[.string ByteArray.empty,.int .i64 0] 98):=(Has.new w _).below Kd (by omega);have k1:w1.cell? ⟨b,q,none⟩=some (.slice (some ⟨g,0,none⟩) l.length cap):=((HB.o.below L9 Kg).cell q).trans RR.o;have hbc:∀j,w1.cell? ⟨g,k*4+j,none⟩=w.cell? ⟨g,k*4+j,none⟩:=fun j=>L9.cell (p:=⟨g,k*4+j,none⟩) Rm;have g0:w1.cell? ⟨g,k*4,none⟩=some (.int .i64 x.obj):=(hbc 0).trans (HC.o 0 (by omega));have g1:w1.cell? ⟨g,k*4+1,none⟩=some (.string ⟨x.data.toArray⟩):=(hbc 1).trans (HC.o 1 (by omega));have g2:w1.cell? ⟨g,k*4+2,none⟩=some (.int .i64 x.dY):=(hbc 2).trans (HC.o 2 (by omega));have g3:w1.cell? ⟨g,k*4+3,none⟩=some (.int .i64 x.fO):=(hbc 3).trans (HC.o 3 (by omega));have KS:=Hd Qr;have Mb:=Hd L9;clear Kd L9 Qr hbc;(go_upto_region 5 with fail);obtain⟨V0,XR⟩:∃V0,V0=w1.alloc (.cells #[.int .i64 x.obj,.string ⟨x.data.toArray⟩,.int .i64 x.dY,.int .i64 x.fO] 272):=⟨_,rfl⟩;rw[<- XR];have Ol:=KS.o.lt;(have hVs:V0.heap.size=w1.heap.size+1:=by rw[XR,World.size_alloc]);(have P9:Hy (Below w1.heap.size w1 V0):=by rw[XR];exact (Below.refl _ _).alloc (aq _) _);have XS:=Hd (Mb.o.trans (P9.o.mono Mb.o.size));have HXV:=Hd (KS.o.below P9.o Ol);(have WB:Hy (Has V0 w1.heap.size (.cells #[.int .i64 x.obj,.string ⟨x.data.toArray⟩,.int .i64 x.dY,.int .i64 x.fO] 272)):=by rw[XR];exact Has.new _ _);(have k3:V0.cell? ⟨b,q,none⟩=some (.slice (some ⟨g,0,none⟩) l.length cap):=by rw[XR];exact iy k1 _);have y0:V0.cell? ⟨w1.heap.size,0,none⟩=some (.int .i64 x.obj):=WB.o.cell 0;have y1:V0.cell? ⟨w1.heap.size,1,none⟩=some (.string ⟨x.data.toArray⟩):=WB.o.cell 1;have y2:V0.cell? ⟨w1.heap.size,2,none⟩=some (.int .i64 x.dY):=WB.o.cell 2;have y3:V0.cell? ⟨w1.heap.size,3,none⟩=some (.int .i64 x.fO):=WB.o.cell 3;have VL:=Hd (HB.o.below XS.o Kg);have HIV:=Hd (HI.o.below XS.o);(have agr:IntKind.i64.wrap ((k:Int)+1)=(k:Int)+1:=by simp only[IntKind.wrap_i64];omega);have XT:=Hd hVs;have hlen:(l.eraseIdx k).length=l.length-1:=bU Ks;have hcut:cut 4 k (gA l)=gA (l.eraseIdx k):=qB 4 k _ (fun _=>rfl) l;have N7:=Hd hlen;have ZL:=Hd hcut;have N5:w.heap.size<w1.heap.size:=Ol;clear XR hVs k1 g0 g1 g2 g3 hlen hcut;refine last.oY (S:=fun W=>W.cell? ⟨b,q,none⟩=some (.slice (some ⟨g,0,none⟩) l.length cap)/\W.cell? ⟨w1.heap.size,0,none⟩=some (.int .i64 x.obj)/\W.cell? ⟨w1.heap.size,1,none⟩=some (.string ⟨x.data.toArray⟩)/\W.cell? ⟨w1.heap.size,2,none⟩=some (.int .i64 x.dY)/\W.cell? ⟨w1.heap.size,3,none⟩=some (.int .i64 x.fO)) (L:=14) (by kernel_rfl) ?_;refine last.gS (i:=0) (v:=.pointer (some ⟨b,q,none⟩)) rfl (by kernel_rfl) (by kernel_rfl) (by kernel_rfl) (by kernel_rfl) (fun _ _ _ h=>h) ⟨k3,y0,y1,y2,y3⟩ (by rfl) (fun W hW=>by obtain⟨Kh,Kv,Kz,MX,Mj⟩:=hW;go_simp) ?_;dsimp only[Act.put];refine last.gS (i:=1) (v:=.pointer (some ⟨b,q,none⟩)) rfl (by kernel_rfl) (by kernel_rfl) (by kernel_rfl) (by kernel_rfl) (fun _ _ _ h=>h) ⟨k3,y0,y1,y2,y3⟩ (by rfl) (fun W hW=>by obtain⟨Kh,Kv,Kz,MX,Mj⟩:=hW;go_simp) ?_;dsimp only[Act.put];refine last.gS (i:=2) (v:=.pointer (some ⟨b,q,none⟩)) rfl (by kernel_rfl) (by kernel_rfl) (by kernel_rfl) (by kernel_rfl) (fun _ _ _ h=>h) ⟨k3,y0,y1,y2,y3⟩ (by rfl) (fun W hW=>by obtain⟨Kh,Kv,Kz,MX,Mj⟩:=hW;go_simp) ?_;dsimp only[Act.put];refine last.gS (i:=3) (v:=.pointer (some ⟨b,q,none⟩)) rfl (by kernel_rfl) (by kernel_rfl) (by kernel_rfl) (by kernel_rfl) (fun _ _ _ h=>h) ⟨k3,y0,y1,y2,y3⟩ (by rfl) (fun W hW=>by obtain⟨Kh,Kv,Kz,MX,Mj⟩:=hW;go_simp) ?_;dsimp only[Act.put];refine last.gS (i:=4) (v:=.slice (some ⟨g,0,none⟩) l.length cap) rfl (by kernel_rfl) (by kernel_rfl) (by kernel_rfl) (by kernel_rfl) (fun _ _ _ h=>h) ⟨k3,y0,y1,y2,y3⟩ (by rfl) (fun W hW=>by obtain⟨Kh,Kv,Kz,MX,Mj⟩:=hW;go_simp) ?_;dsimp only[Act.put];refine last.gS (i:=5) (v:=.int .i64 k) rfl (by kernel_rfl) (by kernel_rfl) (by kernel_rfl) (by kernel_rfl) (fun _ _ _ h=>h) ⟨k3,y0,y1,y2,y3⟩ (by rfl) (fun W hW=>by obtain⟨Kh,Kv,Kz,MX,Mj⟩:=hW;go_simp) ?_;dsimp only[Act.put];refine last.gS (i:=6) (v:=.int .i64 k) rfl (by kernel_rfl) (by kernel_rfl) (by kernel_rfl) (by kernel_rfl) (fun _ _ _ h=>h) ⟨k3,y0,y1,y2,y3⟩ (by rfl) (fun W hW=>by obtain⟨Kh,Kv,Kz,MX,Mj⟩:=hW;go_simp) ?_;dsimp only[Act.put];refine last.gS (i:=7) (v:=.int .i64 ((k:Int)+1)) rfl (by kernel_rfl) (by kernel_rfl) (by kernel_rfl) (by kernel_rfl) (fun _ _ _ h=>h) ⟨k3,y0,y1,y2,y3⟩ (by rfl) (fun W hW=>by obtain⟨Kh,Kv,Kz,MX,Mj⟩:=hW;go_simp) ?_;dsimp only[Act.put];refine last.gS (i:=9) (v:=.agg #[.int .i64 x.obj,.string ⟨x.data.toArray⟩,.int .i64 x.dY,.int .i64 x.fO]) rfl (by kernel_rfl) (by kernel_rfl) (by kernel_rfl) (by kernel_rfl) (fun _ _ _ h=>h) ⟨k3,y0,y1,y2,y3⟩ (by rfl) (fun W hW=>by obtain⟨Kh,Kv,Kz,MX,Mj⟩:=hW;go_simp) ?_;dsimp only[Act.put];refine last.oX (i:=8) (j:=10) (by kernel_rfl) rfl rfl (fun K hK=>?_) (fun K hK=>?_)
 ·go_simp;obtain⟨VV,Rn⟩:∃VV,VV=V0.drew:=⟨_,rfl⟩;rw[<- Rn];(have WC:Hy (iX own T VV (.slice (some ⟨g,0,none⟩) l.length cap) l):=by rw[Rn];exact HIV.o);(have WD:Hy (Has VV b (.cells cs t)):=by rw[Rn];exact VL.o);(have WE:Hy (Has VV w1.heap.size (.cells #[.int .i64 x.obj,.string ⟨x.data.toArray⟩,.int .i64 x.dY,.int .i64 x.fO] 272)):=by rw[Rn];exact WB.o);(have WH:Hy (Has VV w.heap.size (.cells #[.string ByteArray.empty,.int .i64 0] 98)):=by rw[Rn];exact HXV.o);(have WI:Hy (Below w.heap.size w VV):=by rw[Rn];exact XS.o.drew);clear Rn k3 y0 y1 y2 y3;refine (rm own T _ l.length k (gA l) VV WC.o Ks (rh l)).mono ?_;rintro e w2 ⟨v',rfl,Om,K7,Kr⟩
  obtain⟨a2,n2,c2,rfl⟩:∃a m c,v'=.slice a m c:=by
   rcases K7.1.2 with⟨rfl,_⟩|⟨g,cap,cur,rfl,_⟩<;>exact⟨_,_,_,rfl⟩
  have hS:∀j,j≠g->¬((Value.slice (some ⟨g,0,none⟩) l.length cap).ownBlock=some j):=fun j hj e=>hj (by simpa[Value.ownBlock]using e.symm);have Nl:=Kr.has WD.o (hS _ (Ne.symm Mw));have ON:=Kr.has WE.o (hS _ (by omega));have RT:=Kr.has WH.o (hS _ (by omega));have m0:w2.cell? ⟨b,q,none⟩=some (.slice (some ⟨g,0,none⟩) l.length cap):=(Nl.cell q).trans RR.o;have m1:w2.cell? ⟨w1.heap.size,0,none⟩=some (.int .i64 x.obj):=ON.cell 0;have m2:w2.cell? ⟨w1.heap.size,1,none⟩=some (.string ⟨x.data.toArray⟩):=ON.cell 1;have m3:w2.cell? ⟨w1.heap.size,2,none⟩=some (.int .i64 x.dY):=ON.cell 2;have m4:w2.cell? ⟨w1.heap.size,3,none⟩=some (.int .i64 x.fO):=ON.cell 3;refine hK.out _ _ (fun _=>⟨m0,m1,m2,m3,m4⟩) ?_;have OO:=Hd Om;have Lx:=Hd K7;have K4:=Hd Kr;have Kn:=Hd Nl;have KV:=Hd ON;have Ld:=Hd RT;have KY:=Kr.size;clear hK Om K7 Kr Nl ON RT hS;refine last.iC (i:=10) (by kernel_rfl) rfl fun K hK=>?_;go_simp;refine hK.out _ _ (fun _=>⟨iy m0 _,iy m1 _,iy m2 _,iy m3 _,iy m4 _⟩) ?_;clear hK m0 m1 m2 m3 m4;obtain⟨wA,Oc⟩:∃wA,wA=w2.alloc (.cells #[.int .i64 x.obj,.string ⟨x.data.toArray⟩,.int .i64 x.dY,.int .i64 x.fO] 272):=⟨_,rfl⟩;rw[<- Oc];(have hsA:wA.heap.size=w2.heap.size+1:=by rw[Oc,World.size_alloc]);(have NO:Hy (Has wA b (.cells cs t)):=by rw[Oc];exact Kn.o.alloc _);(have ZM:=by have:=KV.o.alloc (.cells #[.int .i64 x.obj,.string ⟨x.data.toArray⟩,.int .i64 x.dY,.int .i64 x.fO] 272);rw[<- Oc]at this;exact Hd this);(have Qs:=by have:=Ld.o.alloc (.cells #[.int .i64 x.obj,.string ⟨x.data.toArray⟩,.int .i64 x.dY,.int .i64 x.fO] 272);rw[<- Oc]at this;exact Hd this);(have WJ:Hy (Row own T wA 272 4 (.slice a2 n2 c2) (l.eraseIdx k).length (gA (l.eraseIdx k))):=by rw[N7.o,<- ZL.o,Oc];exact Lx.o.below ((Below.refl _ _).alloc (aq _) _));have WK:Hy (∀(j:Nat) (u:Value),(iS x)[j]?=some u->wA.cell? ((⟨w2.heap.size,0,none⟩:Addr).add j)=some u):=by rw[Oc];exact fun j u hj=>tD j u hj
  have HTA:Hy (dD (fun k=>k=b\/own k=T) w wA):=by
   rw[Oc];refine (((dD.refl _ w).gn WI.o (aq _)).trans K4.o (fun j _ e=>.inr ?_)).alloc _;exact HI.o.2 j e
  clear Oc
  refine last.iC (i:=11) (by kernel_rfl) rfl fun K hK=>?_
  refine step_append_lies _ (by rfl) (.tmp 31) (.tmp 33) 114 (by rfl) 0 272 i0 _ 4 40 Tryz.underlying114 KO La KH KD (by rfl) (by decide) (.slice a2 n2 c2) (l.eraseIdx k).length (gA (l.eraseIdx k)) (by rfl) WJ.o.1 ⟨w2.heap.size,0,none⟩ 1 1 (iS x) (by rfl) rfl WK.o (rq x) (by omega) (by rw[N7.o];unfold maxLen;omega) (by rw[N7.o];omega) (by omega) wA.heap.size rfl ?_
  intro g' Ku w4 KR Lq Mi Sj
  have hnb:∀j,(Value.slice a2 n2 c2).ownBlock=some j->j=g:=fun j hj=>by rw[OO.o]at hj;simpa[Value.ownBlock]using hj.symm
  have WM:Has w4 b (.cells cs t):=(Lq.block b NO.o.lt (fun e=>Mw (hnb b e.symm).symm)).trans NO.o
  have ZN:=(Lq.block w1.heap.size ZM.o.lt (fun e=>by have:=hnb _ e.symm;omega)).trans ZM.o
  have ZO:=(Lq.block w.heap.size Qs.o.lt (fun e=>by have:=hnb _ e.symm;omega)).trans Qs.o
  have m0:w4.cell? ⟨b,q,none⟩=some (.slice (some ⟨g,0,none⟩) l.length cap):=(WM.cell q).trans RR.o
  have mf:w4.frozen? ⟨b,q,none⟩=false:=WM.frozen q
  have No:Has w4 w1.heap.size (.cells #[.int .i64 x.obj,.string ⟨x.data.toArray⟩,.int .i64 x.dY,.int .i64 x.fO] 272):=ZN
  have SB:Has w4 w.heap.size (.cells #[.string ByteArray.empty,.int .i64 0] 98):=ZO
  have m1:w4.cell? ⟨w1.heap.size,0,none⟩=some (.int .i64 x.obj):=No.cell 0
  have m2:w4.cell? ⟨w1.heap.size,1,none⟩=some (.string ⟨x.data.toArray⟩):=No.cell 1
  have m3:w4.cell? ⟨w1.heap.size,2,none⟩=some (.int .i64 x.dY):=No.cell 2
  have m4:w4.cell? ⟨w1.heap.size,3,none⟩=some (.int .i64 x.fO):=No.cell 3
  refine hK.out _ _ (fun _=>⟨m0,m1,m2,m3,m4⟩) ?_
  have SC:=Hd KR
  have Tn:=Hd Lq
  have Mu:=Hd Mi
  have LC:=Hd No
  have OH:=Hd SB
  have Qc:=Hd hnb
  clear hK KR Lq Mi Sj WM ZN ZO No SB hnb
  dsimp only[Act.put]
  refine last.iC (i:=12) (by kernel_rfl) rfl fun K hK=>?_
  go_simp
  refine hK.out _ _ (fun _=>⟨m0,m1,m2,m3,m4⟩) ?_
  clear hK
  refine last.iC (i:=13) (by kernel_rfl) rfl fun K hK=>?_
  go_simp
  refine hK.out _ _ (fun _=>⟨m0,m1,m2,m3,m4⟩) ?_
  clear hK
  refine last.iC (i:=14) (by kernel_rfl) rfl fun K hK=>?_
  go_simp
  refine hK.out _ _ (fun h=>absurd rfl h) ?_
  clear hK
  refine last.done ?_
  obtain⟨w5,NY⟩:∃w5,w5=w4.setCell ⟨b,q,none⟩ (.slice (some ⟨g',0,none⟩) ((l.eraseIdx k).length+1) Ku):=⟨_,rfl⟩
  rw[<- NY]
  have Ug:Has w5 w1.heap.size (.cells #[.int .i64 x.obj,.string ⟨x.data.toArray⟩,.int .i64 x.dY,.int .i64 x.fO] 272):=by rw[NY];exact LC.o.far (p:=⟨b,q,none⟩) (by show w1.heap.size≠b;omega) _
  have Ro:Has w5 w.heap.size (.cells #[.string ByteArray.empty,.int .i64 0] 98):=by rw[NY];exact OH.o.far (p:=⟨b,q,none⟩) (by show w.heap.size≠b;omega) _
  have HW5:=Hd NY
  have n1:w5.cell? ⟨w1.heap.size,1,none⟩=some (.string ⟨x.data.toArray⟩):=Ug.cell 1
  have n2':w5.cell? ⟨w1.heap.size,2,none⟩=some (.int .i64 x.dY):=Ug.cell 2
  have n3:w5.cell? ⟨w1.heap.size,3,none⟩=some (.int .i64 x.fO):=Ug.cell 3
  have p0:w5.cell? ⟨w.heap.size,0,none⟩=some (.string ByteArray.empty):=Ro.cell 0
  have p1:w5.cell? ⟨w.heap.size,1,none⟩=some (.int .i64 0):=Ro.cell 1
  have q0:w5.frozen? ⟨w.heap.size,0,none⟩=false:=Ro.frozen 0
  have q1:w5.frozen? ⟨w.heap.size,1,none⟩=false:=Ro.frozen 1
  have aeb:w1.heap.size≠w.heap.size:=by omega
  have OX:=Hd Ro
  clear NY Ug Ro m0 mf m1 m2 m3 m4
  go_wp2_with fail
  go_region
  all_goals
   (go_wp2_with fail);have hW:=(OX.o.eu 0 (.string ⟨x.data.toArray⟩)).eu 1 (.int .i64 x.dY);refine bodyPost_ret (tE _ _ w.heap.size (.string ⟨x.data.toArray⟩) (.int .i64 x.dY) _ _ rfl rfl rfl hW) rfl ⟨rfl,?_⟩;refine xS (q:=q) (r:=w.heap.size) Qh.o HTA.o WJ.o (fun j hj=>by rw[Qc.o j hj];exact Rm) Kg NO.o SC.o Tn.o Mu.o (aq _) Qs.o.lt ?_;rw[<- HW5.o];exact ((dD.refl (fun k=>k=w.heap.size) w5).drew.setCell (p:=⟨w.heap.size,0,none⟩) (.inr rfl) _).setCell (p:=⟨w.heap.size,1,none⟩) (.inr rfl) _
 go_simp;refine hK.out _ _ (fun _=>⟨iy k3 _,iy y0 _,iy y1 _,iy y2 _,iy y3 _⟩) ?_;clear hK;refine last.iC (i:=8) (by kernel_rfl) rfl fun K hK=>?_;go_simp;obtain⟨VV,Rn⟩:∃VV,VV=(V0.alloc (.cells #[.int .i64 x.obj,.string ⟨x.data.toArray⟩,.int .i64 x.dY,.int .i64 x.fO] 272)).drew:=⟨_,rfl⟩;rw[<- Rn];(have XU:Below V0.heap.size V0 VV:=by rw[Rn];exact ((Below.refl _ _).alloc (aq _) _).drew);have WC:Hy (iX own T VV (.slice (some ⟨g,0,none⟩) l.length cap) l):=HIV.o.below XU;have WD:Hy (Has VV b (.cells cs t)):=VL.o.below XU VL.o.lt;have WE:Hy (Has VV w1.heap.size (.cells #[.int .i64 x.obj,.string ⟨x.data.toArray⟩,.int .i64 x.dY,.int .i64 x.fO] 272)):=WB.o.below XU WB.o.lt;have WH:Hy (Has VV w.heap.size (.cells #[.string ByteArray.empty,.int .i64 0] 98)):=HXV.o.below XU HXV.o.lt;have WI:Hy (Below w.heap.size w VV):=XS.o.trans (XU.mono XS.o.size);(have aec:Hy (Has VV V0.heap.size (.cells #[.int .i64 x.obj,.string ⟨x.data.toArray⟩,.int .i64 x.dY,.int .i64 x.fO] 272)):=by rw[Rn];exact (Has.new V0 _).drew);have hgV:g<V0.heap.size:=ay Rm XS.o.size;(have hsVV:VV.heap.size=V0.heap.size+1:=by rw[Rn];exact World.size_alloc _ _);clear Rn XU k3 y0 y1 y2 y3;refine (rm own T _ l.length k (gA l) VV WC.o Ks (rh l)).mono ?_;rintro e w2 ⟨v',rfl,Om,K7,Kr⟩
 obtain⟨a2,n2,c2,rfl⟩:∃a m c,v'=.slice a m c:=by
  rcases K7.1.2 with⟨rfl,_⟩|⟨g,cap,cur,rfl,_⟩<;>exact⟨_,_,_,rfl⟩
 have hS:∀j,j≠g->¬((Value.slice (some ⟨g,0,none⟩) l.length cap).ownBlock=some j):=fun j hj e=>hj (by simpa[Value.ownBlock]using e.symm);have Nl:=Kr.has WD.o (hS _ (Ne.symm Mw));have ON:=Kr.has WE.o (hS _ (by omega));have RT:=Kr.has WH.o (hS _ (by omega));have m0:w2.cell? ⟨b,q,none⟩=some (.slice (some ⟨g,0,none⟩) l.length cap):=(Nl.cell q).trans RR.o;have m1:w2.cell? ⟨w1.heap.size,0,none⟩=some (.int .i64 x.obj):=ON.cell 0;have m2:w2.cell? ⟨w1.heap.size,1,none⟩=some (.string ⟨x.data.toArray⟩):=ON.cell 1;have m3:w2.cell? ⟨w1.heap.size,2,none⟩=some (.int .i64 x.dY):=ON.cell 2;have m4:w2.cell? ⟨w1.heap.size,3,none⟩=some (.int .i64 x.fO):=ON.cell 3;refine hK.out _ _ (fun _=>⟨m0,m1,m2,m3,m4⟩) ?_;have OO:=Hd Om;have Lx:=Hd K7;have K4:=Hd Kr;have Kn:=Hd Nl;have KV:=Hd ON;have Ld:=Hd RT;have KY:=Kr.size;have hL2:=Kr.has aec.o (hS _ (by omega));clear hK Om K7 Kr Nl ON RT hS m0 m1 m2 m3 m4;obtain⟨wA,Oc⟩:∃wA,wA=w2:=⟨_,rfl⟩;(have NO:Hy (Has wA b (.cells cs t)):=by rw[Oc];exact Kn.o);(have ZM:=by have:=KV.o;rw[<- Oc]at this;exact Hd this);(have Qs:=by have:=Ld.o;rw[<- Oc]at this;exact Hd this);have WJ:Hy (Row own T wA 272 4 (.slice a2 n2 c2) (l.eraseIdx k).length (gA (l.eraseIdx k))):=by rw[N7.o,<- ZL.o,Oc];exact Lx.o
 have WK:Hy (∀(j:Nat) (u:Value),(iS x)[j]?=some u->wA.cell? ((⟨V0.heap.size,0,none⟩:Addr).add j)=some u):=by
  rw[Oc];intro j u hj;rw[show (⟨V0.heap.size,0,none⟩:Addr).add j=⟨V0.heap.size,j,none⟩ from by by_cases h0:j=0<;>simp[Addr.add,h0]];rw[hL2.cell,<- hj];simp[iS]
 have HTA:Hy (dD (fun k=>k=b\/own k=T) w wA):=by
  rw[Oc];refine ((dD.refl _ w).gn WI.o (aq _)).trans K4.o (fun j _ e=>.inr ?_);exact HI.o.2 j e
 subst Oc
 clear hL2
 refine last.iC (i:=11) (by kernel_rfl) rfl fun K hK=>?_
 refine step_append_lies _ (by rfl) (.tmp 31) (.tmp 33) 114 (by rfl) 0 272 i0 _ 4 40 Tryz.underlying114 KO La KH KD (by rfl) (by decide) (.slice a2 n2 c2) (l.eraseIdx k).length (gA (l.eraseIdx k)) (by rfl) WJ.o.1 ⟨V0.heap.size,0,none⟩ 1 1 (iS x) (by rfl) rfl WK.o (rq x) (by omega) (by rw[N7.o];unfold maxLen;omega) (by rw[N7.o];omega) (by omega) wA.heap.size rfl ?_
 intro g' Ku w4 KR Lq Mi Sj
 have hnb:∀j,(Value.slice a2 n2 c2).ownBlock=some j->j=g:=fun j hj=>by rw[OO.o]at hj;simpa[Value.ownBlock]using hj.symm
 have WM:Has w4 b (.cells cs t):=(Lq.block b NO.o.lt (fun e=>Mw (hnb b e.symm).symm)).trans NO.o
 have ZN:=(Lq.block w1.heap.size ZM.o.lt (fun e=>by have:=hnb _ e.symm;omega)).trans ZM.o
 have ZO:=(Lq.block w.heap.size Qs.o.lt (fun e=>by have:=hnb _ e.symm;omega)).trans Qs.o
 have m0:w4.cell? ⟨b,q,none⟩=some (.slice (some ⟨g,0,none⟩) l.length cap):=(WM.cell q).trans RR.o
 have mf:w4.frozen? ⟨b,q,none⟩=false:=WM.frozen q
 have No:Has w4 w1.heap.size (.cells #[.int .i64 x.obj,.string ⟨x.data.toArray⟩,.int .i64 x.dY,.int .i64 x.fO] 272):=ZN
 have SB:Has w4 w.heap.size (.cells #[.string ByteArray.empty,.int .i64 0] 98):=ZO
 have m1:w4.cell? ⟨w1.heap.size,0,none⟩=some (.int .i64 x.obj):=No.cell 0
 have m2:w4.cell? ⟨w1.heap.size,1,none⟩=some (.string ⟨x.data.toArray⟩):=No.cell 1
 have m3:w4.cell? ⟨w1.heap.size,2,none⟩=some (.int .i64 x.dY):=No.cell 2
 have m4:w4.cell? ⟨w1.heap.size,3,none⟩=some (.int .i64 x.fO):=No.cell 3
 refine hK.out _ _ (fun _=>⟨m0,m1,m2,m3,m4⟩) ?_
 have SC:=Hd KR
 have Tn:=Hd Lq
 have Mu:=Hd Mi
 have LC:=Hd No
 have OH:=Hd SB
 have Qc:=Hd hnb
 clear hK KR Lq Mi Sj WM ZN ZO No SB hnb
 dsimp only[Act.put]
 refine last.iC (i:=12) (by kernel_rfl) rfl fun K hK=>?_
 go_simp
 refine hK.out _ _ (fun _=>⟨m0,m1,m2,m3,m4⟩) ?_
 clear hK
 refine last.iC (i:=13) (by kernel_rfl) rfl fun K hK=>?_
 go_simp
 refine hK.out _ _ (fun _=>⟨m0,m1,m2,m3,m4⟩) ?_
 clear hK
 refine last.iC (i:=14) (by kernel_rfl) rfl fun K hK=>?_
 go_simp
 refine hK.out _ _ (fun h=>absurd rfl h) ?_
 clear hK
 refine last.done ?_
 obtain⟨w5,NY⟩:∃w5,w5=w4.setCell ⟨b,q,none⟩ (.slice (some ⟨g',0,none⟩) ((l.eraseIdx k).length+1) Ku):=⟨_,rfl⟩
 rw[<- NY]
 have Ug:Has w5 w1.heap.size (.cells #[.int .i64 x.obj,.string ⟨x.data.toArray⟩,.int .i64 x.dY,.int .i64 x.fO] 272):=by rw[NY];exact LC.o.far (p:=⟨b,q,none⟩) (by show w1.heap.size≠b;omega) _
 have Ro:Has w5 w.heap.size (.cells #[.string ByteArray.empty,.int .i64 0] 98):=by rw[NY];exact OH.o.far (p:=⟨b,q,none⟩) (by show w.heap.size≠b;omega) _
 have HW5:=Hd NY
 have n1:w5.cell? ⟨w1.heap.size,1,none⟩=some (.string ⟨x.data.toArray⟩):=Ug.cell 1
 have n2':w5.cell? ⟨w1.heap.size,2,none⟩=some (.int .i64 x.dY):=Ug.cell 2
 have n3:w5.cell? ⟨w1.heap.size,3,none⟩=some (.int .i64 x.fO):=Ug.cell 3
 have p0:w5.cell? ⟨w.heap.size,0,none⟩=some (.string ByteArray.empty):=Ro.cell 0
 have p1:w5.cell? ⟨w.heap.size,1,none⟩=some (.int .i64 0):=Ro.cell 1
 have q0:w5.frozen? ⟨w.heap.size,0,none⟩=false:=Ro.frozen 0
 have q1:w5.frozen? ⟨w.heap.size,1,none⟩=false:=Ro.frozen 1
 have aeb:w1.heap.size≠w.heap.size:=by omega
 have OX:=Hd Ro
 clear NY Ug Ro m0 mf m1 m2 m3 m4
 go_wp2_with fail
 go_region
 all_goals
  (go_wp2_with fail);have hW:=(OX.o.eu 0 (.string ⟨x.data.toArray⟩)).eu 1 (.int .i64 x.dY);refine bodyPost_ret (tE _ _ w.heap.size (.string ⟨x.data.toArray⟩) (.int .i64 x.dY) _ _ rfl rfl rfl hW) rfl ⟨rfl,?_⟩;refine xS (q:=q) (r:=w.heap.size) Qh.o HTA.o WJ.o (fun j hj=>by rw[Qc.o j hj];exact Rm) Kg NO.o SC.o Tn.o Mu.o (aq _) Qs.o.lt ?_;rw[<- HW5.o];exact ((dD.refl (fun k=>k=w.heap.size) w5).drew.setCell (p:=⟨w.heap.size,0,none⟩) (.inr rfl) _).setCell (p:=⟨w.heap.size,1,none⟩) (.inr rfl) _
end cache
end Go.Proofs.YtlhodcmdpchllaaGreatDoor
