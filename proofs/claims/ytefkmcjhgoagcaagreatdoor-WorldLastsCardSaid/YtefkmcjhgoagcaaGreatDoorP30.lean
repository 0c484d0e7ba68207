/-
  A part of the proof of the law WorldLasts: ClE, ClH.
-/
import Derived.Test.YtefkmcjhgoagcaaGreatDoorHd
import Derived.Test.YtefkmcjhgoagcaaGreatDoorP29
namespace Go.Proofs.YtefkmcjhgoagcaaGreatDoor
namespace cli
open Go.RowKit heap own errs mapof wire srv cache
open model (Client MItem Val Terms MCall seek put del)
section
variable {own own1 : Nat → Nat} {T : Nat} {w wr w' w1 : World} {cb fm sm : Nat} {cv : Value} {c c' : Client} {q q' : Value} {out : List Msg}
def CPost (own : Nat → Nat) (T : Nat) (w : World) (cb : Nat) (c' : Client) (l : List Msg) (mk : Value → Value) (e : Ending) (w' : World) : Prop:=
 ∃ own1 cv1 fm1 sm1 u,e = .returned (mk u) ∧ Ext w own own1 ∧ (∀ g,w'.heap.size ≤ g → own1 g = 0) ∧ CliW own1 T w' cb fm1 sm1 cv1 c' ∧ MsgsAt w.heap.size w' u l ∧ Turn (CliSet own T) w w'
theorem CM.post {u : Value} {mk : Value → Value} (h : CM own T w w' cb fm sm cv c u out) : CPost own T w cb c out mk (.returned (mk u)) w':=
 ⟨own,cv,fm,sm,u,rfl,Ext.refl _ _,fun g hg => h.fr g (Nat.le_trans h.turn.size hg),h.cli,h.msgs,h.turn.mono fun k hk e => by
  subst e;unfold CliSet;rw [h.cli.ocb]
  omega⟩
theorem CPost.ahead {l : List Msg} {mk : Value → Value} {e : Ending} (he : Ext w own own1) (ht : Turn (CliSet own T) w w1) (h : CPost own1 T w1 cb c' l mk e w') : CPost own T w cb c' l mk e w':=by
 obtain ⟨own2,cv1,fm1,sm1,u,h1,h2,h3,h4,h5,h6⟩:=h;exact ⟨own2,cv1,fm1,sm1,u,h1,fun k hk => (h2 k (Nat.lt_of_lt_of_le hk ht.size)).trans (he k hk),h3,h4,h5.base ht.size,ht.trans h6 fun k hk e => by unfold CliSet at e ⊢;rwa [he k hk] at e⟩
theorem CliW.cached {l : List MItem} (h : CliW own T w cb fm sm cv c) (hp : CachePost own (T + 1) cb 9 (ccells c cv fm sm) 121 (l.map itOf) w w') (hl : l.length ≤ 6) :
 ∃ own2 cv2,Ext w own own2 ∧ (∀ g,w'.heap.size ≤ g → own2 g = 0) ∧ CliW own2 T w' cb fm sm cv2 { c with cache:=l } ∧ Turn (CliSet own T) w w':=by
 obtain ⟨own',v',he,ht,hb,hi⟩:=hp;have hx:=cut_ext he ht.size
 have ne : ∀ g k,own g = T + k → 1 < k → ¬ (g = cb ∨ own g = T + 1):=fun g k hk h4 e => by
  rcases e with e | e
  ·rw [e,h.ocb] at hk;omega
  ·omega
 have l1:=h.c_.lt;have l2:=h.floors.lt;have l3:=h.seen.lt;refine ⟨cutOwn own' w',v',hx,cut_fresh _ _,⟨hb,(hx _ l1).trans h.ocb,⟨hi.1,fun g hg => by rw [cut_old (hi.lt g hg)];exact hi.2 g hg⟩,hl,h.floors.turn ht (ne _ 2 h.ofm (by decide)),(hx _ l2).trans h.ofm,h.seen.turn ht (ne _ 3 h.osm (by decide)),(hx _ l3).trans h.osm,h.fk,h.sk⟩,ht.mono fun k _ e => ?_⟩;unfold CliSet;rcases e with e | e
 ·rw [e,h.ocb];omega
 ·omega
theorem find_map (l : List MItem) (o : Int) : (l.map itOf).find? (fun x => decide (x.obj = o)) = (l.find? fun x => decide (x.object = o)).map itOf:=by
 rw [List.find?_map];rfl
theorem drop_map (l : List MItem) (o : Int) : dropI (l.map itOf) o = (model.Cache.drop l o).map itOf:=by
 unfold dropI model.Cache.drop
 induction l with
 | nil => rfl
 | cons x l ih =>
  rw [List.map_cons,List.eraseP_cons,List.eraseP_cons];have e : decide ((itOf x).obj = o) = decide (x.object = o):=rfl;rw [e]
  cases decide (x.object = o) with
  | true => rfl
  | false =>
   show itOf x :: _ = (x :: _).map itOf;rw [List.map_cons];exact congrArg _ ih
theorem drop_len (l : List MItem) (o : Int) : (model.Cache.drop l o).length ≤ l.length:=by
 unfold model.Cache.drop;exact (List.eraseP_sublist).length_le
theorem get_cases (l : List MItem) (o : Int) : (∃ (k : Nat) (x : MItem),(l.map itOf)[k]? = some (itOf x) ∧ findAt (l.map itOf) o = k ∧ model.Cache.get l o = (some x,model.Cache.drop l o ++ [x]) ∧ (l.map itOf).eraseIdx k ++ [itOf x] = (model.Cache.drop l o ++ [x]).map itOf ∧ (model.Cache.drop l o ++ [x]).length = l.length) ∨ (findAt (l.map itOf) o = -1 ∧ model.Cache.get l o = (none,l)):=by
 rcases find_cases (l.map itOf) o with ⟨k,y,h1,h2,h3,h4,h5,h6⟩ | ⟨h1,h2,h3⟩
 ·left;rw [find_map] at h6
  cases hf : l.find? (fun x => decide (x.object = o)) with
  | none => rw [hf] at h6;cases h6
  | some x =>
   rw [hf] at h6;(obtain rfl : itOf x = y:=by simpa using h6);refine ⟨k,x,h1,h3,?_,?_,?_⟩
   ·unfold model.Cache.get;rw [hf]
   ·rw [← h5,drop_map,List.map_append];rfl
   ·(have h7 : ((l.map itOf).eraseIdx k).length = l.length - 1:=by rw [List.length_eraseIdx_of_lt h4,List.length_map]);rw [← h5,drop_map,List.length_map] at h7;rw [List.length_append,h7,List.length_singleton];rw [List.length_map] at h4;omega
 ·right;refine ⟨h1,?_⟩;rw [find_map] at h3;unfold model.Cache.get
  cases hf : l.find? (fun x => decide (x.object = o)) with
  | none => rfl
  | some x => rw [hf] at h3;cases h3
set_option maxHeartbeats 4000000 in
set_option maxRecDepth 1000000 in
theorem Read_c (o : Int) (h : CliW own T w cb fm sm cv c) (hf : ∀ g,w.heap.size ≤ g → own g = 0) (hT : 0 < T) :
 Calls Tryz.prog 35 #[.pointer (some ⟨cb,0,none⟩),.int .i64 o] w (CPost own T w cb (c.read o).2.2 (c.read o).2.1 fun u => .tuple #[u,errV (c.read o).1]):=by
 obtain ⟨r,hr⟩ : ∃ r,r = c.read o:=⟨_,rfl⟩;rw [← hr];have HCM:=Hd (CM.start h hf hT);have HBU:=Hd (Busy_c w h);obtain ⟨b0,hb0⟩ : ∃ b0,b0 = c.busy:=⟨_,rfl⟩;obtain ⟨a1,ha1⟩ : ∃ a1,a1 = decide (o < 0):=⟨_,rfl⟩;obtain ⟨a2,ha2⟩ : ∃ a2,a2 = decide (8 ≤ o):=⟨_,rfl⟩;rw [← hb0] at HBU
 have HR : Hid (r = if b0 then ((6 : Int),([] : List Msg),c) else if a1 || a2 then (2,[],c) else match c.cache.get o with
  | (some x,k) => if decide (c.now < x.till) && c.leans && decide (c.seenOf o ≤ x.value.ver) then (0,[],({ c with cache:=k,call:=⟨1,o,x.value,true,true⟩ } : Client)) else (0,Client.ask ({ setCall c 1 o [] with cache:=k } : Client))
  | (none,_) => (0,(setCall c 1 o []).ask)):=Hd (by
  have e1 : (!model.isObject o) = (a1 || a2):=by
   rw [ha1,ha2];unfold model.isObject model.inR;rw [Bool.eq_iff_iff];simp only [Bool.not_eq_true',Bool.and_eq_false_iff,decide_eq_false_iff_not,Bool.or_eq_true,decide_eq_true_eq];omega
  rw [hr,hb0];unfold Client.read;rw [e1];split
  ·rfl
  ·split
   ·rfl
   ·cases c.cache.get o with
    | mk a k => cases a with
     | none => rfl
     | some x => rfl)
 have e1 : decide (o < 0) = a1:=ha1.symm;have e2 : decide (8 ≤ o) = a2:=ha2.symm
 have HRG : Hid ((a1 || a2) = false → 0 ≤ o ∧ o < 8):=Hd fun h9 => by
  rw [ha1,ha2] at h9;simp only [Bool.or_eq_false_iff,decide_eq_false_iff_not] at h9;omega
 clear hr hb0 ha1 ha2
 cases b0 with
 | true =>
  as_aux_lemma =>
   have HE : Hid (r = (6,[],c)):=Hd HR.out;clear h;(go_enter Tryz.func35,Tryz.ntmps35);(go_wp2_with (go_at_call 57;refine HBU.out.mono ?_;rintro e w' ⟨rfl,rfl⟩));go_ret2;rw [HE.out];exact HCM.out.post (mk:=fun u => .tuple #[u,errV 6])
 | false =>
  cases a1 with
  | true =>
   as_aux_lemma =>
    have HE : Hid (r = (2,[],c)):=Hd HR.out;clear h;(go_enter Tryz.func35,Tryz.ntmps35);(go_wp2_with (go_at_call 57;refine HBU.out.mono ?_;rintro e w' ⟨rfl,rfl⟩));go_ret2;rw [HE.out];exact HCM.out.post (mk:=fun u => .tuple #[u,errV 2])
  | false =>
   cases a2 with
   | true =>
    as_aux_lemma =>
     have HE : Hid (r = (2,[],c)):=Hd HR.out;clear h;(go_enter Tryz.func35,Tryz.ntmps35);(go_wp2_with (go_at_call 57;refine HBU.out.mono ?_;rintro e w' ⟨rfl,rfl⟩));go_ret2;rw [HE.out];exact HCM.out.post (mk:=fun u => .tuple #[u,errV 2])
   | false =>
    obtain ⟨ho0,ho8⟩:=HRG.out rfl;have c12 : w.cell? ⟨cb,12,none⟩ = some (.int .i64 c.call.kind):=h.c_.cell 12;have c13 : w.cell? ⟨cb,13,none⟩ = some (.int .i64 c.call.object):=h.c_.cell 13;have c14 : w.cell? ⟨cb,14,none⟩ = some (.string ⟨c.call.value.data.toArray⟩):=h.c_.cell 14;have c15 : w.cell? ⟨cb,15,none⟩ = some (.int .i64 c.call.value.ver):=h.c_.cell 15;have c16 : w.cell? ⟨cb,16,none⟩ = some (.bool c.call.over):=h.c_.cell 16;have c17 : w.cell? ⟨cb,17,none⟩ = some (.bool c.call.hit):=h.c_.cell 17;have f12:=h.c_.frozen 12;have f13:=h.c_.frozen 13;have f14:=h.c_.frozen 14;have f15:=h.c_.frozen 15;have f16:=h.c_.frozen 16;have f17:=h.c_.frozen 17;have HSC:=Hd (h.setCall 1 o []);have HOK : Hid (i64ok o):=Hd (WalkArith.wf_i64 (by omega));clear h HRG;(go_enter Tryz.func35,Tryz.ntmps35);(go_upto_region 6 with (go_at_call 57;refine HBU.out.mono ?_;rintro e w' ⟨rfl,rfl⟩));obtain ⟨W1,hW1⟩ : ∃ W1,W1 = ((((((w.setCell ⟨cb,12,none⟩ (.int .i64 1)).setCell ⟨cb,13,none⟩ (.int .i64 o)).setCell ⟨cb,14,none⟩ (.string ⟨#[]⟩)).setCell ⟨cb,15,none⟩ (.int .i64 0)).setCell ⟨cb,16,none⟩ (.bool false)).setCell ⟨cb,17,none⟩ (.bool false)):=⟨_,rfl⟩;have HSC2 : Hid (CliW own T W1 cb fm sm cv (setCall c 1 o []) ∧ Turn (fun g => g = cb) w W1):=Hd (by rw [hW1];exact HSC.out);rw [← hW1];have HCM1:=Hd (HCM.out.step HSC2.out.2 HSC2.out.1);clear hW1 HSC HSC2 c12 c13 c14 c15 c16 c17 f12 f13 f14 f15 f16 f17 HCM HBU e1 e2;have hlc : c.cache.length ≤ 6:=HCM1.out.cli.few;(have hTb : own cb ≠ T + 1:=by rw [HCM1.out.cli.ocb];omega);have HSZ : Hid (w.heap.size ≤ W1.heap.size):=Hd HCM1.out.turn.size;rcases get_cases c.cache o with ⟨k,x,hk,hfa,hget,hl,hll⟩ | ⟨hfa,hget⟩
    ·obtain ⟨xo,⟨xd,xv⟩,xt⟩:=x;have HGY:=Hd (Get_yes own (T + 1) cb 9 (ccells (setCall c 1 o []) cv fm sm) 121 cv (c.cache.map itOf) o k (itOf ⟨xo,⟨xd,xv⟩,xt⟩) W1 HCM1.out.cli.c_ rfl hTb HCM1.out.cli.items (by rw [List.length_map];exact hlc) hk hfa);obtain ⟨l2,hl2⟩ : ∃ l2 : List MItem,l2 = model.Cache.drop c.cache o ++ [⟨xo,⟨xd,xv⟩,xt⟩]:=⟨_,rfl⟩;have HGE : Hid (c.cache.get o = (some ⟨xo,⟨xd,xv⟩,xt⟩,l2)):=Hd (by rw [hget,hl2]);have HL2 : Hid ((c.cache.map itOf).eraseIdx k ++ [itOf ⟨xo,⟨xd,xv⟩,xt⟩] = l2.map itOf ∧ l2.length ≤ 6):=Hd ⟨by rw [hl,hl2],by rw [hl2,hll];exact hlc⟩;clear hk hfa hget hl hll hlc hl2;unfold itOf at HGY;dsimp only at HGY;go_upto_region 7 with (go_at_call 61;refine HGY.out.mono ?_;rintro e W2 ⟨rfl,hcp⟩)
     obtain ⟨ownC,cvC,hex,hfr,hcw,htu⟩:=HCM1.out.cli.cached (l:=l2) (by
      have h9:=HL2.out.1;unfold itOf at h9;dsimp only at h9;rw [h9] at hcp
      exact hcp) HL2.out.2
     obtain ⟨VB,hVB⟩ : ∃ VB,VB = W2.heap.size:=⟨_,rfl⟩;obtain ⟨WG,hWG⟩ : ∃ WG,WG = W2.alloc (.cells #[.string ⟨xd.toArray⟩,.int .i64 xv] 37):=⟨_,rfl⟩;rw [← hWG,← hVB];(have hbg : Below W2.heap.size W2 WG:=by rw [hWG];exact (Below.refl _ _).alloc (Nat.le_refl _) _);obtain ⟨c2,hc2⟩ : ∃ c2 : Client,c2 = { setCall c 1 o [] with cache:=l2 }:=⟨_,rfl⟩;rw [← hc2] at hcw;have HCW:=Hd (hcw.below hbg);have HVB : Hid (Has WG VB (.cells #[.string ⟨xd.toArray⟩,.int .i64 xv] 37)):=Hd (by rw [hWG,hVB];exact Has.new W2 _);have HEX : Hid (Ext w own ownC):=Hd fun g hg => hex g (Nat.lt_of_lt_of_le hg HSZ.out);have HFR : Hid (∀ g,WG.heap.size ≤ g → ownC g = 0):=Hd fun g hg => hfr g (Nat.le_trans hbg.size hg);have HTU : Hid (Turn (CliSet own T) w WG):=Hd (((HCM1.out.turn.mono fun g hg e => by subst e;unfold CliSet;rw [HCM1.out.cli.ocb];omega).trans htu fun _ _ e => e).then_below hbg (Nat.le_refl _));have HVL : Hid (WG.heap.size ≤ WG.heap.size):=Hd (Nat.le_refl _);obtain ⟨b1,hb1⟩ : ∃ b1,b1 = decide (c2.now < xt):=⟨_,rfl⟩;obtain ⟨b2,hb2⟩ : ∃ b2,b2 = c2.leans:=⟨_,rfl⟩;obtain ⟨sv,hsv⟩ : ∃ sv,sv = c2.seenOf o:=⟨_,rfl⟩;obtain ⟨b3,hb3⟩ : ∃ b3,b3 = decide (sv ≤ xv):=⟨_,rfl⟩;have HLE : Hid (Calls Tryz.prog 62 #[.pointer (some ⟨cb,0,none⟩)] WG.drew fun e w' => e = .returned (.bool b2) ∧ ∃ n,w' = WG.drew.drewN n):=Hd (by rw [hb2];exact Leans_c WG.drew HCW.out.drew);have HSV : Hid (Value.int .i64 sv = numS.ev ((seek o c2.seen).getD numS.z)):=Hd (by rw [hsv];rfl)
     have HRH : Hid (r = if (b1 && b2 && b3) then (0,[],({ c2 with call:=⟨1,o,⟨xd,xv⟩,true,true⟩ } : Client)) else (0,c2.ask)):=Hd (by
      rw [HR.out,HGE.out,hb1,hb2,hb3,hsv,hc2]
      rfl)
     have eb1 : decide (c2.now < xt) = b1:=hb1.symm;have eb3 : decide (sv ≤ xv) = b3:=hb3.symm;have HC2:=Hd hc2;clear hWG hVB hbg hcw hex hfr htu hcp hb1 hb2 hb3 hsv HR HGE HL2 HGY HCM1 hc2 HVL;go_cut [59] (fun t wx => t = .bool (b1 && b2 && b3) ∧ ∃ nl,wx = WG.drewN nl)
     case first =>
      cases b1 with
      | false =>
       refine last.headH (fun W => CliW ownC T W cb fm sm cvC c2 ∧ Has W VB (.cells #[.string ⟨xd.toArray⟩,.int .i64 xv] 37)) 1000 25 ⟨HCW.out.drew,HVB.out.drew⟩ fun HS => ?_;refine last.many [(0,35,_),(1,36,_),(2,37,_),(3,38,_),(4,39,_),(5,40,_),(6,41,_),(7,42,_),(8,43,_),(9,44,_),(10,45,_),(11,46,undef),(12,47,undef),(13,48,_),(14,49,_),(15,50,undef),(16,51,undef),(17,52,undef),(18,53,undef),(19,54,undef),(20,55,undef),(21,56,undef),(22,57,undef),(23,58,undef),(24,59,_)] HS.out ?_ (hy:=fun W' hW' => by have e1 : W'.cell? ⟨cb,7,none⟩ = some (.int .i64 c2.now):=hW'.1.c_.cell 7;have e9:=eb1;repeat (first | exact .z | refine .s ?_ | refine .k ?_));refine last.done ?_;(go_wp2_with fail);go_meet;case rel => exact ⟨rfl,1,rfl⟩
      | true =>
       cases b2 with
       | false =>
        refine last.headH (fun W => CliW ownC T W cb fm sm cvC c2 ∧ Has W VB (.cells #[.string ⟨xd.toArray⟩,.int .i64 xv] 37)) 1000 25 ⟨HCW.out.drew,HVB.out.drew⟩ fun HS => ?_;refine last.many [(0,35,_),(1,36,_),(2,37,_),(3,38,_),(4,39,_),(5,40,_),(6,41,_),(7,42,_),(8,43,_),(9,44,_),(10,45,_),(11,46,_)] HS.out ?_ (hy:=fun W' hW' => by have e1 : W'.cell? ⟨cb,7,none⟩ = some (.int .i64 c2.now):=hW'.1.c_.cell 7;have e9:=eb1;repeat (first | exact .z | refine .s ?_ | refine .k ?_));refine last.one 12 fun K hK => ?_;go_simp;refine HLE.out.mono ?_;rintro e WL ⟨rfl,nl,rfl⟩;have HS2 : Hid ((fun W => CliW ownC T W cb fm sm cvC c2 ∧ Has W VB (.cells #[.string ⟨xd.toArray⟩,.int .i64 xv] 37)) (WG.drew.drewN nl)):=Hd ⟨HS.out.1.drewN nl,HS.out.2.drewN nl⟩;refine hK.out _ _ (fun _ => HS2.out) ?_;clear hK K;refine last.many [(13,48,_),(14,49,_),(15,50,undef),(16,51,undef),(17,52,undef),(18,53,undef),(19,54,undef),(20,55,undef),(21,56,undef),(22,57,undef),(23,58,undef),(24,59,_)] HS2.out ?_;refine last.done ?_;(go_wp2_with fail);go_meet;case rel => exact ⟨rfl,1 + nl,rfl⟩
       | true =>
        refine last.headH (fun W => CliW ownC T W cb fm sm cvC c2 ∧ Has W VB (.cells #[.string ⟨xd.toArray⟩,.int .i64 xv] 37)) 1000 25 ⟨HCW.out.drew,HVB.out.drew⟩ fun HS => ?_;refine last.many [(0,35,_),(1,36,_),(2,37,_),(3,38,_),(4,39,_),(5,40,_),(6,41,_),(7,42,_),(8,43,_),(9,44,_),(10,45,_),(11,46,_)] HS.out ?_ (hy:=fun W' hW' => by have e1 : W'.cell? ⟨cb,7,none⟩ = some (.int .i64 c2.now):=hW'.1.c_.cell 7;have e9:=eb1;repeat (first | exact .z | refine .s ?_ | refine .k ?_));refine last.one 12 fun K hK => ?_;go_simp;refine HLE.out.mono ?_;rintro e WL ⟨rfl,nl,rfl⟩;have HS2 : Hid ((fun W => CliW ownC T W cb fm sm cvC c2 ∧ Has W VB (.cells #[.string ⟨xd.toArray⟩,.int .i64 xv] 37)) (WG.drew.drewN nl)):=Hd ⟨HS.out.1.drewN nl,HS.out.2.drewN nl⟩;refine hK.out _ _ (fun _ => HS2.out) ?_;clear hK K;refine last.many [(13,48,_),(14,49,_),(15,50,_),(16,51,_),(17,52,_),(18,53,_),(19,54,_),(20,55,_),(21,56,_)] HS2.out ?_ (hy:=fun W' hW' => by have e1 : W'.cell? ⟨VB,1,none⟩ = some (.int .i64 xv):=hW'.2.cell 1;have f0 : W'.cell? ⟨cb,11,none⟩ = some (.map (some sm)):=hW'.1.c_.cell 11;repeat (first | exact .z | refine .s ?_ | refine .k ?_));refine last.wpAnyL_goL 22 57 (.int .i64 sv) rfl rfl (by kernel_rfl) (by kernel_rfl) (by kernel_rfl) (by kernel_rfl) (fun _ _ _ h => h) HS2.out (by rfl) (fun W' hW' => by (rw [HSV.out];exact exec_mlook numS (.tmp 55) (.tmp 56) rfl rfl hW'.1.seen HOK.out rfl)) ?_;dsimp only [List.set];refine last.many [(23,58,_),(24,59,_)] HS2.out ?_ (hy:=fun W' hW' => by have e9:=eb3;repeat (first | exact .z | refine .s ?_ | refine .k ?_));refine last.done ?_;(go_wp2_with fail);go_meet;case rel => exact ⟨by cases b3 <;> rfl,1 + nl,rfl⟩
     case rest =>
      obtain ⟨ht59,nl,hwx⟩:=hcut;obtain ⟨hit,hhit⟩ : ∃ hit,hit = (b1 && b2 && b3):=⟨_,rfl⟩;rw [← hhit] at ht59 HRH;subst ht59;have HCWx : Hid (CliW ownC T wc cb fm sm cvC c2):=Hd (by rw [hwx];exact HCW.out.drewN nl);have HVBx : Hid (Has wc VB (.cells #[.string ⟨xd.toArray⟩,.int .i64 xv] 37)):=Hd (by rw [hwx];exact HVB.out.drewN nl);have HFRx : Hid (∀ g,wc.heap.size ≤ g → ownC g = 0):=Hd (by rw [hwx];exact HFR.out);have HTUx : Hid (Turn (CliSet own T) w wc):=Hd (by rw [hwx];exact HTU.out.drewN nl);clear hwx HCW HVB HFR HTU hhit eb1 eb3 HLE HSV;have HCW:=HCWx;have HFR:=HFRx;have HTU:=HTUx;clear HCWx HFRx HTUx
      cases hit with
      | true =>
       have HE : Hid (r = (0,[],({ c2 with call:=⟨1,o,⟨xd,xv⟩,true,true⟩ } : Client))):=Hd HRH.out;have x0 : wc.cell? ⟨VB,0,none⟩ = some (.string ⟨xd.toArray⟩):=HVBx.out.cell 0;have x1 : wc.cell? ⟨VB,1,none⟩ = some (.int .i64 xv):=HVBx.out.cell 1;have c14 : wc.cell? ⟨cb,14,none⟩ = some (.string ⟨c2.call.value.data.toArray⟩):=HCW.out.c_.cell 14;have c15 : wc.cell? ⟨cb,15,none⟩ = some (.int .i64 c2.call.value.ver):=HCW.out.c_.cell 15;have c16 : wc.cell? ⟨cb,16,none⟩ = some (.bool c2.call.over):=HCW.out.c_.cell 16;have c17 : wc.cell? ⟨cb,17,none⟩ = some (.bool c2.call.hit):=HCW.out.c_.cell 17;have f14:=HCW.out.c_.frozen 14;have f15:=HCW.out.c_.frozen 15;have f16:=HCW.out.c_.frozen 16;have f17:=HCW.out.c_.frozen 17;clear HRH;(go_upto_region 9 with fail);obtain ⟨W8,hW8⟩ : ∃ W8,W8 = (((wc.setCell ⟨cb,14,none⟩ (.string ⟨xd.toArray⟩)).setCell ⟨cb,15,none⟩ (.int .i64 xv)).setCell ⟨cb,16,none⟩ (.bool true)).setCell ⟨cb,17,none⟩ (.bool true):=⟨_,rfl⟩;have ht8 : Turn (fun g => g = cb) wc W8:=by rw [hW8];exact wal.turn_set (wal.turn_set (wal.turn_set (wal.turn_set (Turn.refl _ _) _ _) _ _) _ _) _ _
       have HC8 : Hid (CliW ownC T W8 cb fm sm cvC { c2 with call:=⟨1,o,⟨xd,xv⟩,true,true⟩ }):=Hd (by
        refine HCW.out.upd ht8 ?_ rfl rfl rfl;rw [hW8];have h9:=(((HCW.out.c_.set_ 14 (.string ⟨xd.toArray⟩)).set_ 15 (.int .i64 xv)).set_ 16 (.bool true)).set_ 17 (.bool true);rw [HC2.out] at h9 ⊢
        exact h9)
       have HT8 : Hid (Turn (CliSet own T) w W8):=Hd (HTU.out.trans ht8 fun k hk e => by
        have h9:=HEX.out k hk;unfold CliSet;rw [← h9,e,HCW.out.ocb]
        omega)
       have HF8 : Hid (∀ g,W8.heap.size ≤ g → ownC g = 0):=Hd fun g hg => HFR.out g (Nat.le_trans ht8.size hg);rw [← hW8];clear hW8 ht8 x0 x1 c14 c15 c16 c17 f14 f15 f16 f17;(go_wp2_with fail);go_ret2;rw [HE.out];exact ⟨ownC,cvC,fm,sm,.slice none 0 0,rfl,HEX.out,HF8.out,HC8.out,MsgsAt.nil _ _,HT8.out⟩
      | false =>
       have HE : Hid (r = (0,c2.ask)):=Hd HRH.out;clear HRH;(go_upto_region 10 with fail);have HCM1:=Hd (CM.start HCW.out HFR.out hT);obtain ⟨n,hn⟩ : ∃ n,n = wrap64 (c2.number + 1):=⟨_,rfl⟩;have HNX:=Hd (next_c wc.drew HCM1.out.cli.drew);rw [← hn] at HNX;have HASK : Hid (c2.ask = Client.again { c2 with number:=n,asked:=n,sent:=c2.now }):=Hd (by unfold Client.ask;rw [← hn]);have c7 : wc.cell? ⟨cb,7,none⟩ = some (.int .i64 c2.now):=HCM1.out.cli.c_.cell 7;clear hn;(go_region_held3 (fun W => W.cell? ⟨cb,7,none⟩ = some (.int .i64 c2.now)) (first | go_keep | exact hc2.c_.cell 7 | exact (hc2.c_.set_ 18 _).cell 7 | exact ((hc2.c_.set_ 18 _).set_ 19 _).cell 7) ((go_at_call 58;refine HNX.out.mono ?_;rintro e W2 ⟨rfl,hc2,ht2,hs2⟩;have c20 : W2.cell? ⟨cb,18,none⟩ = some (.int .i64 c2.asked):=hc2.c_.cell 18;have c21 : W2.cell? ⟨cb,19,none⟩ = some (.int .i64 c2.sent):=hc2.c_.cell 19;have f20:=hc2.c_.frozen 18;have f21:=hc2.c_.frozen 19)));obtain ⟨W3,hW3⟩ : ∃ W3,W3 = ((W2.setCell ⟨cb,18,none⟩ (.int .i64 n)).setCell ⟨cb,19,none⟩ (.int .i64 c2.now)):=⟨_,rfl⟩
       have hc3 : CliW ownC T W3 cb fm sm cvC { c2 with number:=n,asked:=n,sent:=c2.now }:=by
        rw [hW3];exact ((hc2.set1 { c2 with number:=n,asked:=n } 18 (.int .i64 n) rfl rfl rfl rfl).set1 { c2 with number:=n,asked:=n,sent:=c2.now } 19 (.int .i64 c2.now) rfl rfl rfl rfl)
       (have ht3 : Turn (fun g => g = cb) W2 W3:=by rw [hW3];exact ((turn_cb 18 _).trans (turn_cb 19 _) fun _ _ e => e));rw [← hW3];have HCM3:=Hd ((HCM1.out.below (Below.refl _ _).drew).step (ht2.trans ht3 fun _ _ e => e) hc3);have HAG:=Hd HCM3.out.again;rw [← HASK.out] at HAG;clear hW3 hc3 ht3 hc2 ht2 hs2 HCM1 HNX c7 HASK;(go_wp2_with (go_at_call 40;refine HAG.out.mono ?_;rintro e w4 ⟨u4,rfl,hcm4⟩));go_ret2;rw [HE.out];exact CPost.ahead HEX.out HTU.out (hcm4.post (mk:=fun u => .tuple #[u,errV 0]))
    ·have HGY:=Hd (Get_no own (T + 1) cb 9 cv (c.cache.map itOf) o W1 (HCM1.out.cli.c_.cell 9) HCM1.out.cli.items hfa);have HGE : Hid (c.cache.get o = (none,c.cache)):=Hd hget;clear hfa hget hlc;(go_upto_region 7 with (go_at_call 61;refine HGY.out.mono ?_;rintro e W2 ⟨rfl,hb2⟩));obtain ⟨VB,hVB⟩ : ∃ VB,VB = W2.heap.size:=⟨_,rfl⟩;obtain ⟨xd,hxd⟩ : ∃ xd : List UInt8,xd = []:=⟨_,rfl⟩;obtain ⟨xv,hxv⟩ : ∃ xv : Int,xv = 0:=⟨_,rfl⟩;obtain ⟨WG,hWG⟩ : ∃ WG,WG = W2.alloc (.cells #[.string ByteArray.empty,.int .i64 0] 37):=⟨_,rfl⟩;rw [← hWG,← hVB];(have hbg : Below W2.heap.size W2 WG:=by rw [hWG];exact (Below.refl _ _).alloc (Nat.le_refl _) _);obtain ⟨c2,hc2⟩ : ∃ c2 : Client,c2 = setCall c 1 o []:=⟨_,rfl⟩;obtain ⟨ownC,hoc⟩ : ∃ ownC,ownC = own:=⟨_,rfl⟩;obtain ⟨cvC,hcc⟩ : ∃ cvC,cvC = cv:=⟨_,rfl⟩;have HCM2:=Hd ((HCM1.out.below hb2).below hbg);rw [← hc2] at HCM2;have HCW : Hid (CliW ownC T WG cb fm sm cvC c2):=Hd (by rw [hoc,hcc];exact HCM2.out.cli);have HVB : Hid (Has WG VB (.cells #[.string ⟨xd.toArray⟩,.int .i64 xv] 37)):=Hd (by rw [hWG,hVB,hxd,hxv];exact Has.new W2 _);have HEX : Hid (Ext w own ownC):=Hd (by rw [hoc];exact Ext.refl _ _);have HFR : Hid (∀ g,WG.heap.size ≤ g → ownC g = 0):=Hd (by rw [hoc];exact fun g hg => hf g (Nat.le_trans HCM2.out.turn.size hg));have HTU : Hid (Turn (CliSet own T) w WG):=Hd (HCM2.out.turn.mono fun g hg e => by subst e;unfold CliSet;rw [HCM2.out.cli.ocb];omega);have HE : Hid (r = (0,c2.ask)):=Hd (by rw [HR.out,HGE.out,hc2];rfl);clear hWG hVB hbg hoc hcc hc2 hxd hxv HCM2 HR HGE HGY HCM1;go_cut [59] (fun t wx => t = .bool false ∧ wx = WG.drew)
     case first =>
      refine last.headH (fun W => CliW ownC T W cb fm sm cvC c2 ∧ Has W VB (.cells #[.string ⟨xd.toArray⟩,.int .i64 xv] 37)) 1000 25 ⟨HCW.out.drew,HVB.out.drew⟩ fun HS => ?_;refine last.many [(0,35,_),(1,36,_),(2,37,_),(3,38,undef),(4,39,undef),(5,40,undef),(6,41,undef),(7,42,undef),(8,43,undef),(9,44,_),(10,45,_),(11,46,undef),(12,47,undef),(13,48,_),(14,49,_),(15,50,undef),(16,51,undef),(17,52,undef),(18,53,undef),(19,54,undef),(20,55,undef),(21,56,undef),(22,57,undef),(23,58,undef),(24,59,_)] HS.out ?_;refine last.done ?_;(go_wp2_with fail);go_meet;case rel => exact ⟨rfl,rfl⟩
     case rest =>
      obtain ⟨ht59,hwx⟩:=hcut;subst ht59;have HCWx : Hid (CliW ownC T wc cb fm sm cvC c2):=Hd (by rw [hwx];exact HCW.out.drew);have HFRx : Hid (∀ g,wc.heap.size ≤ g → ownC g = 0):=Hd (by rw [hwx];exact HFR.out);have HTUx : Hid (Turn (CliSet own T) w wc):=Hd (by rw [hwx];exact HTU.out.drew);clear hwx HCW HVB HFR HTU;have HCW:=HCWx;have HFR:=HFRx;have HTU:=HTUx;clear HCWx HFRx HTUx;(go_upto_region 10 with fail);have HCM1:=Hd (CM.start HCW.out HFR.out hT);obtain ⟨n,hn⟩ : ∃ n,n = wrap64 (c2.number + 1):=⟨_,rfl⟩;have HNX:=Hd (next_c wc.drew HCM1.out.cli.drew);rw [← hn] at HNX;have HASK : Hid (c2.ask = Client.again { c2 with number:=n,asked:=n,sent:=c2.now }):=Hd (by unfold Client.ask;rw [← hn]);have c7 : wc.cell? ⟨cb,7,none⟩ = some (.int .i64 c2.now):=HCM1.out.cli.c_.cell 7;clear hn;(go_region_held3 (fun W => W.cell? ⟨cb,7,none⟩ = some (.int .i64 c2.now)) (first | go_keep | exact hc2.c_.cell 7 | exact (hc2.c_.set_ 18 _).cell 7 | exact ((hc2.c_.set_ 18 _).set_ 19 _).cell 7) ((go_at_call 58;refine HNX.out.mono ?_;rintro e W2 ⟨rfl,hc2,ht2,hs2⟩;have c20 : W2.cell? ⟨cb,18,none⟩ = some (.int .i64 c2.asked):=hc2.c_.cell 18;have c21 : W2.cell? ⟨cb,19,none⟩ = some (.int .i64 c2.sent):=hc2.c_.cell 19;have f20:=hc2.c_.frozen 18;have f21:=hc2.c_.frozen 19)));obtain ⟨W3,hW3⟩ : ∃ W3,W3 = ((W2.setCell ⟨cb,18,none⟩ (.int .i64 n)).setCell ⟨cb,19,none⟩ (.int .i64 c2.now)):=⟨_,rfl⟩
      have hc3 : CliW ownC T W3 cb fm sm cvC { c2 with number:=n,asked:=n,sent:=c2.now }:=by
       rw [hW3];exact ((hc2.set1 { c2 with number:=n,asked:=n } 18 (.int .i64 n) rfl rfl rfl rfl).set1 { c2 with number:=n,asked:=n,sent:=c2.now } 19 (.int .i64 c2.now) rfl rfl rfl rfl)
      (have ht3 : Turn (fun g => g = cb) W2 W3:=by rw [hW3];exact ((turn_cb 18 _).trans (turn_cb 19 _) fun _ _ e => e));rw [← hW3];have HCM3:=Hd ((HCM1.out.below (Below.refl _ _).drew).step (ht2.trans ht3 fun _ _ e => e) hc3);have HAG:=Hd HCM3.out.again;rw [← HASK.out] at HAG;clear hW3 hc3 ht3 hc2 ht2 hs2 HCM1 HNX c7 HASK;(go_wp2_with (go_at_call 40;refine HAG.out.mono ?_;rintro e w4 ⟨u4,rfl,hcm4⟩));go_ret2;rw [HE.out];exact CPost.ahead HEX.out HTU.out (hcm4.post (mk:=fun u => .tuple #[u,errV 0]))
end
section
variable {own own1 : Nat → Nat} {T : Nat} {w wr w' w1 : World} {cb fm sm : Nat} {cv : Value} {c c' : Client}
def callV (k : MCall) : Value:=.agg #[.int .i64 k.kind,.int .i64 k.object,.string ⟨k.value.data.toArray⟩,.int .i64 k.value.ver,.bool k.over,.bool k.hit]
set_option maxRecDepth 100000 in
theorem Call_c (w : World) (h : CliW own T w cb fm sm cv c) : Calls Tryz.prog 56 #[.pointer (some ⟨cb,0,none⟩)] w fun e w' => e = .returned (callV c.call) ∧ Below w.heap.size w w':=by
 have c12 : w.cell? ⟨cb,12,none⟩ = some (.int .i64 c.call.kind):=h.c_.cell 12;have c13 : w.cell? ⟨cb,13,none⟩ = some (.int .i64 c.call.object):=h.c_.cell 13;have c14 : w.cell? ⟨cb,14,none⟩ = some (.string ⟨c.call.value.data.toArray⟩):=h.c_.cell 14;have c15 : w.cell? ⟨cb,15,none⟩ = some (.int .i64 c.call.value.ver):=h.c_.cell 15;have c16 : w.cell? ⟨cb,16,none⟩ = some (.bool c.call.over):=h.c_.cell 16;have c17 : w.cell? ⟨cb,17,none⟩ = some (.bool c.call.hit):=h.c_.cell 17;have hlt:=h.lt;clear h;unfold callV;(go_enter Tryz.func56,Tryz.ntmps56);go_wp2;exact bodyPost_ret (results_cell_row Tryz.results56 _ _ w.heap.size 43 _ (0,0) _ rfl (Has.new w _) Tryz.underlying43 rfl (by kernel_rfl)) rfl ⟨rfl,(Below.refl _ _).alloc (Nat.le_refl _) _⟩
def cliOwner (own : Nat → Nat) (T cb fm sm : Nat) : Nat → Nat:=fun k => if k = cb then T else if k = fm then T + 2 else if k = sm then T + 3 else own k
def NewC (own : Nat → Nat) (T : Nat) (w : World) (r : Option Client) (e : Ending) (w' : World) : Prop:=
 match r with
 | none => e = .returned (.tuple #[.pointer none,errV 2]) ∧ Below w.heap.size w w'
 | some c => ∃ own1 cb fm sm,e = .returned (.tuple #[.pointer (some ⟨cb,0,none⟩),.nilIface]) ∧ Ext w own own1 ∧ (∀ g,w'.heap.size ≤ g → own1 g = 0) ∧ CliW own1 T w' cb fm sm (.slice none 0 0) c ∧ Below w.heap.size w w' ∧ w.heap.size ≤ cb
set_option maxHeartbeats 2000000 in
set_option maxRecDepth 1000000 in
theorem New_c (id life now : Int) (t : Terms) (w : World) (hf : ∀ g,w.heap.size ≤ g → own g = 0) :
 Calls Tryz.prog 28 #[.int .i64 id,termsV t,.int .i64 life,.int .i64 now] w (NewC own T w (Client.new id t life now)):=by
 obtain ⟨r,hr⟩ : ∃ r,r = Client.new id t life now:=⟨_,rfl⟩;obtain ⟨W1,hW1⟩ : ∃ W1,W1 = w.alloc (.cells #[.int .i64 t.object,.int .i64 t.volume,.int .i64 t.drift] 31):=⟨_,rfl⟩;(have hb1 : Below w.heap.size w W1:=by rw [hW1];exact (Below.refl _ _).alloc (Nat.le_refl _) _);(have hx1 : Has W1 w.heap.size (.cells #[.int .i64 t.object,.int .i64 t.volume,.int .i64 t.drift] 31):=by rw [hW1];exact Has.new w _);have y0 : W1.cell? ⟨w.heap.size,0,none⟩ = some (.int .i64 t.object):=hx1.cell 0;have y1 : W1.cell? ⟨w.heap.size,1,none⟩ = some (.int .i64 t.volume):=hx1.cell 1;have y2 : W1.cell? ⟨w.heap.size,2,none⟩ = some (.int .i64 t.drift):=hx1.cell 2;obtain ⟨good,hgood⟩ : ∃ good,good = (model.isClient id && model.inR life 0 1000 && model.inR now 0 model.half && model.inR t.drift 0 500 && model.inR t.object 0 274877906944 && model.inR t.volume 0 274877906944):=⟨_,rfl⟩;obtain ⟨b0,hb0⟩ : ∃ b0,b0 = decide (id < 0):=⟨_,rfl⟩;have e0 : decide (id < 0) = b0:=hb0.symm;obtain ⟨b1,hb1⟩ : ∃ b1,b1 = decide (4 ≤ id):=⟨_,rfl⟩;have e1 : decide (4 ≤ id) = b1:=hb1.symm;obtain ⟨b2,hb2⟩ : ∃ b2,b2 = decide (life < 0):=⟨_,rfl⟩;have e2 : decide (life < 0) = b2:=hb2.symm;obtain ⟨b3,hb3⟩ : ∃ b3,b3 = decide (1000 < life):=⟨_,rfl⟩;have e3 : decide (1000 < life) = b3:=hb3.symm;obtain ⟨b4,hb4⟩ : ∃ b4,b4 = decide (now < 0):=⟨_,rfl⟩;have e4 : decide (now < 0) = b4:=hb4.symm;obtain ⟨b5,hb5⟩ : ∃ b5,b5 = decide (549755813888 < now):=⟨_,rfl⟩;have e5 : decide (549755813888 < now) = b5:=hb5.symm;obtain ⟨b6,hb6⟩ : ∃ b6,b6 = decide (t.drift < 0):=⟨_,rfl⟩;have e6 : decide (t.drift < 0) = b6:=hb6.symm;obtain ⟨b7,hb7⟩ : ∃ b7,b7 = decide (500 < t.drift):=⟨_,rfl⟩;have e7 : decide (500 < t.drift) = b7:=hb7.symm;obtain ⟨b8,hb8⟩ : ∃ b8,b8 = decide (t.object < 0):=⟨_,rfl⟩;have e8 : decide (t.object < 0) = b8:=hb8.symm;obtain ⟨b9,hb9⟩ : ∃ b9,b9 = decide (t.volume < 0):=⟨_,rfl⟩;have e9 : decide (t.volume < 0) = b9:=hb9.symm;obtain ⟨b10,hb10⟩ : ∃ b10,b10 = decide (274877906944 < t.object):=⟨_,rfl⟩;have e10 : decide (274877906944 < t.object) = b10:=hb10.symm;obtain ⟨b11,hb11⟩ : ∃ b11,b11 = decide (274877906944 < t.volume):=⟨_,rfl⟩;have e11 : decide (274877906944 < t.volume) = b11:=hb11.symm
 have hg : good = !(b0 || b1 || b2 || b3 || b4 || b5 || b6 || b7 || b8 || b9 || b10 || b11):=by
  rw [hgood,hb0,hb1,hb2,hb3,hb4,hb5,hb6,hb7,hb8,hb9,hb10,hb11];unfold model.isClient model.inR model.half;rw [Bool.eq_iff_iff];simp only [Bool.and_eq_true,decide_eq_true_eq,Bool.not_eq_true',Bool.or_eq_false_iff,decide_eq_false_iff_not];omega
 have HG:=Hd hg;clear hb0 hb1 hb2 hb3 hb4 hb5 hb6 hb7 hb8 hb9 hb10 hb11 hg;have HR:=Hd hr;have HGD:=Hd hgood;have HB1:=Hd hb1;have HX1:=Hd hx1;have HFF:=Hd hf;rw [← hr];unfold termsV;clear hr hgood hb1 hx1 hf;(go_enter Tryz.func28,Tryz.ntmps28);(go_upto_region 1 with fail);rw [← hW1];clear hW1;go_cut [61] (fun tt wx => tt = .bool (!good) ∧ wx = W1)
 case first =>
  cases b0 with
  | true =>
   have HG2 : Hid (good = false):=Hd (by rw [HG.out];simp);(go_wp2_with fail);go_meet;case rel => exact ⟨by rw [HG2.out];rfl,rfl⟩
  | false =>
   cases b1 with
   | true =>
    have HG2 : Hid (good = false):=Hd (by rw [HG.out];simp);(go_wp2_with fail);go_meet;case rel => exact ⟨by rw [HG2.out];rfl,rfl⟩
   | false =>
    cases b2 with
    | true =>
     have HG2 : Hid (good = false):=Hd (by rw [HG.out];simp);(go_wp2_with fail);go_meet;case rel => exact ⟨by rw [HG2.out];rfl,rfl⟩
    | false =>
     cases b3 with
     | true =>
      have HG2 : Hid (good = false):=Hd (by rw [HG.out];simp);(go_wp2_with fail);go_meet;case rel => exact ⟨by rw [HG2.out];rfl,rfl⟩
     | false =>
      cases b4 with
      | true =>
       have HG2 : Hid (good = false):=Hd (by rw [HG.out];simp);(go_wp2_with fail);go_meet;case rel => exact ⟨by rw [HG2.out];rfl,rfl⟩
      | false =>
       cases b5 with
       | true =>
        have HG2 : Hid (good = false):=Hd (by rw [HG.out];simp);(go_wp2_with fail);go_meet;case rel => exact ⟨by rw [HG2.out];rfl,rfl⟩
       | false =>
        cases b6 with
        | true =>
         have HG2 : Hid (good = false):=Hd (by rw [HG.out];simp);(go_wp2_with fail);go_meet;case rel => exact ⟨by rw [HG2.out];rfl,rfl⟩
        | false =>
         cases b7 with
         | true =>
          have HG2 : Hid (good = false):=Hd (by rw [HG.out];simp);(go_wp2_with fail);go_meet;case rel => exact ⟨by rw [HG2.out];rfl,rfl⟩
         | false =>
          cases b8 with
          | true =>
           have HG2 : Hid (good = false):=Hd (by rw [HG.out];simp);(go_wp2_with fail);go_meet;case rel => exact ⟨by rw [HG2.out];rfl,rfl⟩
          | false =>
           cases b9 with
           | true =>
            have HG2 : Hid (good = false):=Hd (by rw [HG.out];simp);(go_wp2_with fail);go_meet;case rel => exact ⟨by rw [HG2.out];rfl,rfl⟩
           | false =>
            cases b10 with
            | true =>
             have HG2 : Hid (good = false):=Hd (by rw [HG.out];simp);(go_wp2_with fail);go_meet;case rel => exact ⟨by rw [HG2.out];rfl,rfl⟩
            | false =>
             cases b11 with
             | true =>
              have HG2 : Hid (good = false):=Hd (by rw [HG.out];simp);(go_wp2_with fail);go_meet;case rel => exact ⟨by rw [HG2.out];rfl,rfl⟩
             | false =>
              have HG2 : Hid (good = true):=Hd (by rw [HG.out];rfl);(go_wp2_with fail);go_meet;case rel => exact ⟨by rw [HG2.out];rfl,rfl⟩
 case rest =>
  obtain ⟨ht,hwx⟩:=hcut;subst ht;subst hwx;clear HG
  cases good with
  | false =>
   have HE : Hid (r = none):=Hd (by rw [HR.out];unfold Client.new;rw [← HGD.out];rfl);(go_wp2_with fail);go_ret2;rw [HE.out];exact ⟨rfl,HB1.out⟩
  | true =>
   have HE : Hid (r = some ⟨id,t,life * 1048576,0,0,now,0,[],[],[],model.noCall,0,0,0,0⟩):=Hd (by rw [HR.out];unfold Client.new;rw [← HGD.out];rfl)
   have hlf : 0 ≤ life ∧ life ≤ 1000:=by
    have h9:=HGD.out.symm;simp only [Bool.and_eq_true] at h9;exact tab.inR_iff.1 h9.1.1.1.1.2
   have hmm:=@run_makeMap Tryz.prog;(go_wp2_with fail);have hba : Below wc.heap.size wc (wc.alloc (.map #[] 0)):=(Below.refl _ _).alloc (Nat.le_refl _) _;have hbb:=hba.alloc hba.size (.map #[] 0)
   have HN : Hid (CliW (cliOwner own T (wc.heap.size + 1 + 1) wc.heap.size (wc.heap.size + 1)) T (((wc.alloc (.map #[] 0)).alloc (.map #[] 0)).alloc (.cells (ccells ⟨id,t,life * 1048576,0,0,now,0,[],[],[],model.noCall,0,0,0,0⟩ (.slice none 0 0) wc.heap.size (wc.heap.size + 1)) 121)) (wc.heap.size + 1 + 1) wc.heap.size (wc.heap.size + 1) (.slice none 0 0) ⟨id,t,life * 1048576,0,0,now,0,[],[],[],model.noCall,0,0,0,0⟩):=Hd (by
    have h1:=((At.new numS wc).alloc (.map #[] 0)).alloc (.cells (ccells ⟨id,t,life * 1048576,0,0,now,0,[],[],[],model.noCall,0,0,0,0⟩ (.slice none 0 0) wc.heap.size (wc.heap.size + 1)) 121);have h2:=(At.new numS (wc.alloc (.map #[] 0))).alloc (.cells (ccells ⟨id,t,life * 1048576,0,0,now,0,[],[],[],model.noCall,0,0,0,0⟩ (.slice none 0 0) wc.heap.size (wc.heap.size + 1)) 121);have h3:=Has.new ((wc.alloc (.map #[] 0)).alloc (.map #[] 0)) (.cells (ccells ⟨id,t,life * 1048576,0,0,now,0,[],[],[],model.noCall,0,0,0,0⟩ (.slice none 0 0) wc.heap.size (wc.heap.size + 1)) 121);simp only [World.size_alloc] at h2 h3
    refine ⟨h3,by unfold cliOwner;rw [if_pos rfl],Row.nil _ _ _ _ _,by simp,h1,by unfold cliOwner;rw [if_neg (by omega),if_pos rfl],h2,by unfold cliOwner;rw [if_neg (by omega),if_neg (by omega),if_pos rfl],fun p hp => (by cases hp),fun p hp => (by cases hp)⟩)
   have HBZ : Hid (Below w.heap.size w (((wc.alloc (.map #[] 0)).alloc (.map #[] 0)).alloc (.cells (ccells ⟨id,t,life * 1048576,0,0,now,0,[],[],[],model.noCall,0,0,0,0⟩ (.slice none 0 0) wc.heap.size (wc.heap.size + 1)) 121))):=Hd (HB1.out.trans ((hbb.alloc hbb.size _).mono HB1.out.size));clear hba hbb hmm;go_ret2;rw [HE.out];have hs:=HB1.out.size;refine ⟨cliOwner own T (wc.heap.size + 1 + 1) wc.heap.size (wc.heap.size + 1),_,_,_,rfl,fun k hk => ?_,fun g hg => ?_,HN.out,HBZ.out,by omega⟩
   ·unfold cliOwner;rw [if_neg (by omega),if_neg (by omega),if_neg (by omega)]
   ·simp only [World.size_alloc] at hg;unfold cliOwner;rw [if_neg (by omega),if_neg (by omega),if_neg (by omega)];exact HFF.out g (by omega)
end
end cli
end Go.Proofs.YtefkmcjhgoagcaaGreatDoor
