/-
  A part of the proof of the law WorldLasts: ClF.
-/
import Derived.Test.YtefkmcjhgoagcaaGreatDoorHd
import Derived.Test.YtefkmcjhgoagcaaGreatDoorP30
namespace Go.Proofs.YtefkmcjhgoagcaaGreatDoor
namespace cli
open Go.RowKit heap own errs mapof wire srv cache
open model (Client MItem Val Terms MCall seek put del)
section
variable {own own1 : Nat → Nat} {T : Nat} {w wr w' w1 : World} {cb fm sm : Nat} {cv : Value} {c c' : Client} {q q' : Value} {out : List Msg}
theorem keys8 {l : List (Int × Int)} (hn : (l.map (·.1)).Nodup) (hk : ∀ p ∈ l,0 ≤ p.1 ∧ p.1 < 8) : l.length ≤ 8:=by
 have:=tab.nodup_le (l.map (·.1)) [0,1,2,3,4,5,6,7] hn (fun x hx => by
  obtain ⟨p,hp,rfl⟩:=List.mem_map.1 hx;have:=hk p hp;have h2 : p.1 = 0 ∨ p.1 = 1 ∨ p.1 = 2 ∨ p.1 = 3 ∨ p.1 = 4 ∨ p.1 = 5 ∨ p.1 = 6 ∨ p.1 = 7:=by omega
  rcases h2 with h2 | h2 | h2 | h2 | h2 | h2 | h2 | h2 <;> rw [h2] <;> simp)
 simpa using this
theorem put_map (l : List MItem) (o u : Int) (v : Val) : putI (l.map itOf) (itOf ⟨o,v,u⟩) = (model.Cache.put l o v u).map itOf:=by
 unfold putI model.Cache.put;have e : dropI (l.map itOf) (itOf ⟨o,v,u⟩).obj = (model.Cache.drop l o).map itOf:=drop_map l o;rw [e,List.length_map,List.map_append];split
 ·rw [List.map_drop];rfl
 ·rfl
theorem put_len (l : List MItem) (o u : Int) (v : Val) (h : l.length ≤ 6) : (model.Cache.put l o v u).length ≤ 6:=by
 have:=drop_len l o;unfold model.Cache.put;rw [List.length_append,List.length_singleton];split
 ·rw [List.length_drop];omega
 ·omega
theorem CliW.putSeen (h : CliW own T w cb fm sm cv c) (o x : Int) (ho : 0 ≤ o ∧ o < 8) (hm : At numS w' sm (put o x c.seen)) (hg : w.grownBy w' (some sm)) : CliW own T w' cb fm sm cv { c with seen:=put o x c.seen } ∧ Turn (fun g => g = sm) w w':=by
 have ht : Turn (fun g => g = sm) w w':=⟨hg.os,hg.tape,hg.output,hg.size,fun k hk hn => hg.block k hk (fun e => hn (by simpa using e))⟩;(have ne : ∀ g k,own g = T + k → k ≠ 3 → g ≠ sm:=fun g k hk h4 e => by rw [e,h.osm] at hk;omega);refine ⟨⟨ht.has h.c_ (ne _ 0 h.ocb (by decide)),h.ocb,h.items.keep ht (Ext.refl _ _) fun k _ ho => ne k 1 ho (by decide),h.few,h.floors.turn ht (ne _ 2 h.ofm (by decide)),h.ofm,hm,h.osm,h.fk,fun p hp => ?_⟩,ht⟩;rcases List.mem_cons.1 hp with rfl | hp
 ·exact ho
 ·exact h.sk p ((del_sublist _ _).mem hp)
theorem CliW.putFloor (h : CliW own T w cb fm sm cv c) (o x : Int) (ho : 0 ≤ o ∧ o < 8) (hm : At numS w' fm (put o x c.floors)) (hg : w.grownBy w' (some fm)) : CliW own T w' cb fm sm cv { c with floors:=put o x c.floors } ∧ Turn (fun g => g = fm) w w':=by
 have ht : Turn (fun g => g = fm) w w':=⟨hg.os,hg.tape,hg.output,hg.size,fun k hk hn => hg.block k hk (fun e => hn (by simpa using e))⟩;(have ne : ∀ g k,own g = T + k → k ≠ 2 → g ≠ fm:=fun g k hk h4 e => by rw [e,h.ofm] at hk;omega);refine ⟨⟨ht.has h.c_ (ne _ 0 h.ocb (by decide)),h.ocb,h.items.keep ht (Ext.refl _ _) fun k _ ho => ne k 1 ho (by decide),h.few,hm,h.ofm,h.seen.turn ht (ne _ 3 h.osm (by decide)),h.osm,fun p hp => ?_,h.sk⟩,ht⟩;rcases List.mem_cons.1 hp with rfl | hp
 ·exact ho
 ·exact h.fk p ((del_sublist _ _).mem hp)
set_option maxHeartbeats 4000000 in
set_option maxRecDepth 1000000 in
theorem value_c (m : Msg) (same : Bool) (h : CliW own T w cb fm sm cv c) (hf : ∀ g,w.heap.size ≤ g → own g = 0) (hT : 0 < T) (hmo : 0 ≤ m.object ∧ m.object < 8) (hmv : i64ok m.version) :
 Calls Tryz.prog 75 #[.pointer (some ⟨cb,0,none⟩),m.val,.bool same] w (CPost own T w cb (c.takesValue m same) [] fun _ => .tuple #[]):=by
 obtain ⟨mk,mc,mn,me,ms,mo,mv,ml,md⟩:=m;dsimp only at hmo hmv;obtain ⟨r,hr⟩ : ∃ r,r = c.takesValue ⟨mk,mc,mn,me,ms,mo,mv,ml,md⟩ same:=⟨_,rfl⟩;obtain ⟨H,hH⟩ : ∃ H,H = w.heap.size:=⟨_,rfl⟩;obtain ⟨W1,hW1⟩ : ∃ W1,W1 = w.alloc (.cells #[.int .i64 mk,.int .i64 mc,.int .i64 mn,.int .i64 me,.int .i64 ms,.int .i64 mo,.int .i64 mv,.bool ml,.string ⟨md.toArray⟩] 93):=⟨_,rfl⟩;(have hb1 : Below w.heap.size w W1:=by rw [hW1];exact (Below.refl _ _).alloc (Nat.le_refl _) _);(have hx1 : Has W1 H (.cells #[.int .i64 mk,.int .i64 mc,.int .i64 mn,.int .i64 me,.int .i64 ms,.int .i64 mo,.int .i64 mv,.bool ml,.string ⟨md.toArray⟩] 93):=by rw [hW1,hH];exact Has.new w _);have hc1:=h.below hb1;have HOH : Hid (own H = 0):=Hd (hf H (by omega));obtain ⟨b0,hb0⟩ : ∃ b0,b0 = c.busy:=⟨_,rfl⟩;obtain ⟨n1,hn1⟩ : ∃ n1,n1 = (mn != c.asked):=⟨_,rfl⟩;obtain ⟨n2,hn2⟩ : ∃ n2,n2 = (c.call.kind != 1):=⟨_,rfl⟩;obtain ⟨n3,hn3⟩ : ∃ n3,n3 = (c.call.object != mo):=⟨_,rfl⟩;obtain ⟨fb,hfb⟩ : ∃ fb,fb = decide (c.floorOf mo ≤ mv):=⟨_,rfl⟩
 obtain ⟨c3,hc3⟩ : ∃ c3 : Client,c3 = (if same && ml && fb then { c with cache:=c.cache.put mo ⟨md,mv⟩ (c.ends c.sent c.terms.object) } else c):=⟨_,rfl⟩
 have HR : Hid (r = if (!b0 || n1 || n2 || n3) then c else { c3 with seen:=put mo (max (c3.seenOf mo) mv) c3.seen,call:={ c3.call with value:=⟨md,mv⟩,over:=true },asked:=0 }):=Hd (by
  rw [hr];unfold Client.takesValue
  have e1 : (!c.busy || !decide (mn = c.asked) || !decide (c.call.kind = 1) || !decide (c.call.object = mo)) = (!b0 || n1 || n2 || n3):=by
   rw [hb0,hn1,hn2,hn3];rw [Bool.eq_iff_iff];simp
  dsimp only;rw [e1];split
  ·rfl
  ·rw [hc3,hfb])
 have HB : Hid (Below w.heap.size w W1):=Hd hb1;have HX1:=Hd hx1;have HC1:=Hd hc1;have HOK : Hid (i64ok mo):=Hd (WalkArith.wf_i64 (by omega));have HMV:=Hd hmv;have eb0:=hb0.symm;have en1 : (mn != c.asked) = n1:=hn1.symm;have en2 : (c.call.kind != 1) = n2:=hn2.symm;have en3 : (c.call.object != mo) = n3:=hn3.symm;(have HBU : Hid (∀ W,CliW own T W cb fm sm cv c → Calls Tryz.prog 57 #[.pointer (some ⟨cb,0,none⟩)] W fun e w' => e = .returned (.bool b0) ∧ W = w'):=Hd fun W hW => by rw [hb0];exact Busy_c W hW);have HC3:=Hd hc3;have HFB:=Hd hfb;have HFF:=Hd hf;have x2 : W1.cell? ⟨H,2,none⟩ = some (.int .i64 mn):=hx1.cell 2;have x5 : W1.cell? ⟨H,5,none⟩ = some (.int .i64 mo):=hx1.cell 5;have c18 : W1.cell? ⟨cb,18,none⟩ = some (.int .i64 c.asked):=hc1.c_.cell 18;have c12 : W1.cell? ⟨cb,12,none⟩ = some (.int .i64 c.call.kind):=hc1.c_.cell 12;have c13 : W1.cell? ⟨cb,13,none⟩ = some (.int .i64 c.call.object):=hc1.c_.cell 13;rw [← hr];unfold Msg.val;dsimp only;clear hr hb0 hn1 hn2 hn3 hfb hc3 h hx1 hc1 hb1 hmv eb0 hf;(go_enter Tryz.func75,Tryz.ntmps75);(go_upto_region 1 with fail);rw [← hW1,← hH];have HSZ : Hid (w.heap.size ≤ H):=Hd (Nat.le_of_eq hH.symm);clear hW1 hH;go_cut [36] (fun t wx => t = .bool (!b0 || n1 || n2 || n3) ∧ ∃ nl,wx = W1.drewN nl)
 case first =>
  cases b0 with
  | false =>
   refine last.headH (fun W => CliW own T W cb fm sm cv c ∧ Has W H (.cells #[.int .i64 mk,.int .i64 mc,.int .i64 mn,.int .i64 me,.int .i64 ms,.int .i64 mo,.int .i64 mv,.bool ml,.string ⟨md.toArray⟩] 93)) 1000 30 ⟨HC1.out.drew,HX1.out.drew⟩ fun HS => ?_;refine last.many [(0,7,_)] HS.out ?_;refine last.one 1 fun K hK => ?_;go_simp;refine (HBU.out _ HC1.out.drew).mono ?_;rintro e w9 ⟨rfl,rfl⟩;refine hK.out _ _ (fun _ => HS.out) ?_;clear hK K;refine last.many [(2,9,_),(3,10,_),(4,11,undef),(5,12,undef),(6,13,undef),(7,14,undef),(8,15,undef),(9,16,undef),(10,17,undef),(11,18,_),(12,19,_),(13,20,undef),(14,21,undef),(15,22,undef),(16,23,undef),(17,24,undef),(18,25,undef),(19,26,_),(20,27,_),(21,28,undef),(22,29,undef),(23,30,undef),(24,31,undef),(25,32,undef),(26,33,undef),(27,34,undef),(28,35,undef),(29,36,_)] HS.out ?_;refine last.done ?_;(go_wp2_with fail);go_meet;case rel => exact ⟨rfl,1,rfl⟩
  | true =>
   cases n1 with
   | true =>
    refine last.headH (fun W => CliW own T W cb fm sm cv c ∧ Has W H (.cells #[.int .i64 mk,.int .i64 mc,.int .i64 mn,.int .i64 me,.int .i64 ms,.int .i64 mo,.int .i64 mv,.bool ml,.string ⟨md.toArray⟩] 93)) 1000 30 ⟨HC1.out.drew,HX1.out.drew⟩ fun HS => ?_;refine last.many [(0,7,_)] HS.out ?_;refine last.one 1 fun K hK => ?_;go_simp;refine (HBU.out _ HC1.out.drew).mono ?_;rintro e w9 ⟨rfl,rfl⟩;refine hK.out _ _ (fun _ => HS.out) ?_;clear hK K;refine last.many [(2,9,_),(3,10,_),(4,11,_),(5,12,_),(6,13,_),(7,14,_),(8,15,_),(9,16,_),(10,17,_),(11,18,_),(12,19,_),(13,20,undef),(14,21,undef),(15,22,undef),(16,23,undef),(17,24,undef),(18,25,undef),(19,26,_),(20,27,_),(21,28,undef),(22,29,undef),(23,30,undef),(24,31,undef),(25,32,undef),(26,33,undef),(27,34,undef),(28,35,undef),(29,36,_)] HS.out ?_ (hy:=fun W' hW' => by have e1 : W'.cell? ⟨H,2,none⟩ = some (.int .i64 mn):=hW'.2.cell 2;have f0 : W'.cell? ⟨cb,18,none⟩ = some (.int .i64 c.asked):=hW'.1.c_.cell 18;have e9:=en1;repeat (first | exact .z | refine .s ?_ | refine .k ?_));refine last.done ?_;(go_wp2_with fail);go_meet;case rel => exact ⟨rfl,1,rfl⟩
   | false =>
    cases n2 with
    | true =>
     refine last.headH (fun W => CliW own T W cb fm sm cv c ∧ Has W H (.cells #[.int .i64 mk,.int .i64 mc,.int .i64 mn,.int .i64 me,.int .i64 ms,.int .i64 mo,.int .i64 mv,.bool ml,.string ⟨md.toArray⟩] 93)) 1000 30 ⟨HC1.out.drew,HX1.out.drew⟩ fun HS => ?_;refine last.many [(0,7,_)] HS.out ?_;refine last.one 1 fun K hK => ?_;go_simp;refine (HBU.out _ HC1.out.drew).mono ?_;rintro e w9 ⟨rfl,rfl⟩;refine hK.out _ _ (fun _ => HS.out) ?_;clear hK K;refine last.many [(2,9,_),(3,10,_),(4,11,_),(5,12,_),(6,13,_),(7,14,_),(8,15,_),(9,16,_),(10,17,_),(11,18,_),(12,19,_),(13,20,_),(14,21,_),(15,22,_),(16,23,_),(17,24,_),(18,25,_),(19,26,_),(20,27,_),(21,28,undef),(22,29,undef),(23,30,undef),(24,31,undef),(25,32,undef),(26,33,undef),(27,34,undef),(28,35,undef),(29,36,_)] HS.out ?_ (hy:=fun W' hW' => by have e1 : W'.cell? ⟨H,2,none⟩ = some (.int .i64 mn):=hW'.2.cell 2;have f0 : W'.cell? ⟨cb,18,none⟩ = some (.int .i64 c.asked):=hW'.1.c_.cell 18;have e9:=en1;have f1 : W'.cell? ⟨cb,12,none⟩ = some (.int .i64 c.call.kind):=hW'.1.c_.cell 12;have f2:=en2;repeat (first | exact .z | refine .s ?_ | refine .k ?_));refine last.done ?_;(go_wp2_with fail);go_meet;case rel => exact ⟨rfl,1,rfl⟩
    | false =>
     refine last.headH (fun W => CliW own T W cb fm sm cv c ∧ Has W H (.cells #[.int .i64 mk,.int .i64 mc,.int .i64 mn,.int .i64 me,.int .i64 ms,.int .i64 mo,.int .i64 mv,.bool ml,.string ⟨md.toArray⟩] 93)) 1000 30 ⟨HC1.out.drew,HX1.out.drew⟩ fun HS => ?_;refine last.many [(0,7,_)] HS.out ?_;refine last.one 1 fun K hK => ?_;go_simp;refine (HBU.out _ HC1.out.drew).mono ?_;rintro e w9 ⟨rfl,rfl⟩;refine hK.out _ _ (fun _ => HS.out) ?_;clear hK K;refine last.many [(2,9,_),(3,10,_),(4,11,_),(5,12,_),(6,13,_),(7,14,_),(8,15,_),(9,16,_),(10,17,_),(11,18,_),(12,19,_),(13,20,_),(14,21,_),(15,22,_),(16,23,_),(17,24,_),(18,25,_),(19,26,_),(20,27,_),(21,28,_),(22,29,_),(23,30,_),(24,31,_),(25,32,_),(26,33,_),(27,34,_),(28,35,_),(29,36,_)] HS.out ?_ (hy:=fun W' hW' => by have e1 : W'.cell? ⟨H,2,none⟩ = some (.int .i64 mn):=hW'.2.cell 2;have f0 : W'.cell? ⟨cb,18,none⟩ = some (.int .i64 c.asked):=hW'.1.c_.cell 18;have e9:=en1;have f1 : W'.cell? ⟨cb,12,none⟩ = some (.int .i64 c.call.kind):=hW'.1.c_.cell 12;have f2:=en2;have f3 : W'.cell? ⟨cb,13,none⟩ = some (.int .i64 c.call.object):=hW'.1.c_.cell 13;have f4 : W'.cell? ⟨H,5,none⟩ = some (.int .i64 mo):=hW'.2.cell 5;have f5:=en3;repeat (first | exact .z | refine .s ?_ | refine .k ?_));refine last.done ?_;(go_wp2_with fail);go_meet;case rel => exact ⟨by cases n3 <;> rfl,1,rfl⟩
 case rest =>
  obtain ⟨ht,nl,hwx⟩:=hcut;obtain ⟨bad,hbad⟩ : ∃ bad,bad = (!b0 || n1 || n2 || n3):=⟨_,rfl⟩;rw [← hbad] at ht HR;subst ht;have HCx : Hid (CliW own T wc cb fm sm cv c):=Hd (by rw [hwx];exact HC1.out.drewN nl);have HXx : Hid (Has wc H (.cells #[.int .i64 mk,.int .i64 mc,.int .i64 mn,.int .i64 me,.int .i64 ms,.int .i64 mo,.int .i64 mv,.bool ml,.string ⟨md.toArray⟩] 93)):=Hd (by rw [hwx];exact HX1.out.drewN nl);have HBx : Hid (Below w.heap.size w wc):=Hd (by rw [hwx];exact below_drewN HB.out nl);clear hwx hbad en1 en2 en3 HBU HC1 HX1 HB x2 x5 c18 c12 c13
  cases bad with
  | true =>
   have HE : Hid (r = c):=Hd HR.out
   go_wp2_with fail
   go_end0
   rw [HE.out];exact ⟨own,cv,fm,sm,.slice none 0 0,rfl,Ext.refl _ _,fun g hg => HFF.out g (Nat.le_trans HBx.out.size hg),HCx.out,MsgsAt.nil _ _,Turn.of_below HBx.out (Nat.le_refl _)⟩
  | false =>
   have HE : Hid (r = { c3 with seen:=put mo (max (c3.seenOf mo) mv) c3.seen,call:={ c3.call with value:=⟨md,mv⟩,over:=true },asked:=0 }):=Hd HR.out;clear HR;have x8 : wc.cell? ⟨H,8,none⟩ = some (.string ⟨md.toArray⟩):=HXx.out.cell 8;have x6 : wc.cell? ⟨H,6,none⟩ = some (.int .i64 mv):=HXx.out.cell 6;(go_upto_region 3 with fail);clear x8 x6;obtain ⟨VB,hVB⟩ : ∃ VB,VB = wc.heap.size:=⟨_,rfl⟩;obtain ⟨W2,hW2⟩ : ∃ W2,W2 = wc.alloc (.cells #[.string ⟨md.toArray⟩,.int .i64 mv] 37):=⟨_,rfl⟩;rw [← hW2,← hVB];(have hb2 : Below wc.heap.size wc W2:=by rw [hW2];exact (Below.refl _ _).alloc (Nat.le_refl _) _);have HC2:=Hd (HCx.out.below hb2);have HX2:=Hd (HXx.out.below hb2 HXx.out.lt);have HV2 : Hid (Has W2 VB (.cells #[.string ⟨md.toArray⟩,.int .i64 mv] 37)):=Hd (by rw [hW2,hVB];exact Has.new wc _);have HB2 : Hid (Below w.heap.size w W2):=Hd (HBx.out.trans (hb2.mono HBx.out.size));have HOV : Hid (own VB = 0):=Hd (HFF.out VB (by have:=HBx.out.size;omega));obtain ⟨fv,hfv⟩ : ∃ fv,fv = c.floorOf mo:=⟨_,rfl⟩;have HFV : Hid (Value.int .i64 fv = numS.ev ((seek mo c.floors).getD numS.z)):=Hd (by rw [hfv];rfl);(have efb : decide (fv ≤ mv) = fb:=by rw [hfv];exact HFB.out.symm);clear hW2 hVB hb2 hfv HCx HXx HBx;go_cut [58] (fun t wx => t = .bool (same && ml && fb) ∧ wx = W2.drew)
   case first =>
    cases same with
    | false =>
     refine last.headH (fun W => CliW own T W cb fm sm cv c ∧ Has W H (.cells #[.int .i64 mk,.int .i64 mc,.int .i64 mn,.int .i64 me,.int .i64 ms,.int .i64 mo,.int .i64 mv,.bool ml,.string ⟨md.toArray⟩] 93)) 1000 17 ⟨HC2.out.drew,HX2.out.drew⟩ fun HS => ?_;refine last.many [(0,42,_),(1,43,_),(2,44,undef),(3,45,undef),(4,46,_),(5,47,_),(6,48,undef),(7,49,undef),(8,50,undef),(9,51,undef),(10,52,undef),(11,53,undef),(12,54,undef),(13,55,undef),(14,56,undef),(15,57,undef),(16,58,_)] HS.out ?_;refine last.done ?_;(go_wp2_with fail);go_meet;case rel => exact ⟨rfl,rfl⟩
    | true =>
     cases ml with
     | false =>
      refine last.headH (fun W => CliW own T W cb fm sm cv c ∧ Has W H (.cells #[.int .i64 mk,.int .i64 mc,.int .i64 mn,.int .i64 me,.int .i64 ms,.int .i64 mo,.int .i64 mv,.bool false,.string ⟨md.toArray⟩] 93)) 1000 17 ⟨HC2.out.drew,HX2.out.drew⟩ fun HS => ?_;refine last.many [(0,42,_),(1,43,_),(2,44,_),(3,45,_),(4,46,_),(5,47,_),(6,48,undef),(7,49,undef),(8,50,undef),(9,51,undef),(10,52,undef),(11,53,undef),(12,54,undef),(13,55,undef),(14,56,undef),(15,57,undef),(16,58,_)] HS.out ?_ (hy:=fun W' hW' => by have e1 : W'.cell? ⟨H,7,none⟩ = some (.bool false):=hW'.2.cell 7;repeat (first | exact .z | refine .s ?_ | refine .k ?_));refine last.done ?_;(go_wp2_with fail);go_meet;case rel => exact ⟨rfl,rfl⟩
     | true =>
      refine last.headH (fun W => CliW own T W cb fm sm cv c ∧ Has W H (.cells #[.int .i64 mk,.int .i64 mc,.int .i64 mn,.int .i64 me,.int .i64 ms,.int .i64 mo,.int .i64 mv,.bool true,.string ⟨md.toArray⟩] 93)) 1000 17 ⟨HC2.out.drew,HX2.out.drew⟩ fun HS => ?_;refine last.many [(0,42,_),(1,43,_),(2,44,_),(3,45,_),(4,46,_),(5,47,_),(6,48,_),(7,49,_),(8,50,_),(9,51,_),(10,52,_),(11,53,_),(12,54,_),(13,55,_)] HS.out ?_ (hy:=fun W' hW' => by have e1 : W'.cell? ⟨H,7,none⟩ = some (.bool true):=hW'.2.cell 7;have f0 : W'.cell? ⟨H,6,none⟩ = some (.int .i64 mv):=hW'.2.cell 6;have f1 : W'.cell? ⟨cb,10,none⟩ = some (.map (some fm)):=hW'.1.c_.cell 10;have f2 : W'.cell? ⟨H,5,none⟩ = some (.int .i64 mo):=hW'.2.cell 5;repeat (first | exact .z | refine .s ?_ | refine .k ?_));refine last.wpAnyL_goL 14 56 (.int .i64 fv) rfl rfl (by kernel_rfl) (by kernel_rfl) (by kernel_rfl) (by kernel_rfl) (fun _ _ _ h => h) HS.out (by rfl) (fun W' hW' => by (rw [HFV.out];exact exec_mlook numS (.tmp 53) (.tmp 55) rfl rfl hW'.1.floors HOK.out rfl)) ?_;dsimp only [List.set];refine last.many [(15,57,_),(16,58,_)] HS.out ?_ (hy:=fun W' hW' => by have e9:=efb;repeat (first | exact .z | refine .s ?_ | refine .k ?_));refine last.done ?_;(go_wp2_with fail);go_meet;case rel => exact ⟨by cases fb <;> rfl,rfl⟩
   case rest =>
    obtain ⟨ht58,hwx⟩:=hcut;obtain ⟨gb,hgb⟩ : ∃ gb,gb = (same && ml && fb):=⟨_,rfl⟩;rw [← hgb] at ht58;have HC3b : Hid (c3 = if gb then { c with cache:=c.cache.put mo ⟨md,mv⟩ (c.ends c.sent c.terms.object) } else c):=Hd (by rw [hgb];exact HC3.out);subst ht58;have HC4 : Hid (CliW own T wc cb fm sm cv c):=Hd (by rw [hwx];exact HC2.out.drew);have HX4 : Hid (Has wc H (.cells #[.int .i64 mk,.int .i64 mc,.int .i64 mn,.int .i64 me,.int .i64 ms,.int .i64 mo,.int .i64 mv,.bool ml,.string ⟨md.toArray⟩] 93)):=Hd (by rw [hwx];exact HX2.out.drew);have HV4 : Hid (Has wc VB (.cells #[.string ⟨md.toArray⟩,.int .i64 mv] 37)):=Hd (by rw [hwx];exact HV2.out.drew);have HB4 : Hid (Below w.heap.size w wc):=Hd (by rw [hwx];exact HB2.out.drew);clear hwx hgb HC2 HX2 HV2 HB2 efb HFV HC3 HFB;(go_upto_if 58 with fail);go_cut [75] (fun _ wx => ∃ own5 cv5,Ext w own own5 ∧ (∀ g,wx.heap.size ≤ g → own5 g = 0) ∧ (own5 H = 0 ∧ own5 VB = 0) ∧ CliW own5 T wx cb fm sm cv5 c3 ∧ Has wx H (.cells #[.int .i64 mk,.int .i64 mc,.int .i64 mn,.int .i64 me,.int .i64 ms,.int .i64 mo,.int .i64 mv,.bool ml,.string ⟨md.toArray⟩] 93) ∧ Has wx VB (.cells #[.string ⟨md.toArray⟩,.int .i64 mv] 37) ∧ Turn (CliSet own T) w wx)
    case first =>
     cases gb with
     | false =>
      have HE3 : Hid (c3 = c):=Hd HC3b.out;(go_wp2_with fail);go_meet
      case rel =>
       rw [HE3.out];exact ⟨own,cv,Ext.refl _ _,fun g hg => HFF.out g (Nat.le_trans HB4.out.size hg),⟨HOH.out,HOV.out⟩,HC4.out,HX4.out,HV4.out,Turn.of_below HB4.out (Nat.le_refl _)⟩
     | true =>
      obtain ⟨tu,htu⟩ : ∃ tu,tu = c.ends c.sent c.terms.object:=⟨_,rfl⟩;have HE3 : Hid (c3 = { c with cache:=c.cache.put mo ⟨md,mv⟩ tu }):=Hd (by rw [htu];exact HC3b.out);(have HEN : Hid (∀ W,CliW own T W cb fm sm cv c → Calls Tryz.prog 76 #[.pointer (some ⟨cb,0,none⟩),.int .i64 c.sent,.int .i64 c.terms.object] W fun e w' => e = .returned (.int .i64 tu) ∧ W = w'):=Hd fun W hW => by rw [htu];exact ends_c W _ _ hW);(have hTb : own cb ≠ T + 1:=by rw [HC4.out.ocb];omega);have HPT:=Hd (Put_any own (T + 1) cb 9 (ccells c cv fm sm) 121 cv (c.cache.map itOf) (itOf ⟨mo,⟨md,mv⟩,tu⟩) wc.drew HC4.out.drew.c_ rfl hTb HC4.out.drew.items (by rw [List.length_map];exact HC4.out.few));have x5 : wc.cell? ⟨H,5,none⟩ = some (.int .i64 mo):=HX4.out.cell 5;have v0 : wc.cell? ⟨VB,0,none⟩ = some (.string ⟨md.toArray⟩):=HV4.out.cell 0;have v1 : wc.cell? ⟨VB,1,none⟩ = some (.int .i64 mv):=HV4.out.cell 1;have c19 : wc.cell? ⟨cb,19,none⟩ = some (.int .i64 c.sent):=HC4.out.c_.cell 19;have c1 : wc.cell? ⟨cb,1,none⟩ = some (.int .i64 c.terms.object):=HC4.out.c_.cell 1;have hHl : H < wc.heap.size:=HX4.out.lt;have hVl : VB < wc.heap.size:=HV4.out.lt
      have nH : ¬ (H = cb ∨ own H = T + 1):=fun e => by
       have h0:=HOH.out;rcases e with e | e
       ·rw [e,HC4.out.ocb] at h0;omega
       ·omega
      have nV : ¬ (VB = cb ∨ own VB = T + 1):=fun e => by
       have h0:=HOV.out;rcases e with e | e
       ·rw [e,HC4.out.ocb] at h0;omega
       ·omega
      unfold itOf at HPT;dsimp only at HPT;clear htu;(go_upto_region 4 with fail);go_region_held3 (fun W => W.cell? ⟨H,5,none⟩ = some (.int .i64 mo) ∧ W.cell? ⟨VB,0,none⟩ = some (.string ⟨md.toArray⟩) ∧ W.cell? ⟨VB,1,none⟩ = some (.int .i64 mv) ∧ W.cell? ⟨cb,19,none⟩ = some (.int .i64 c.sent) ∧ W.cell? ⟨cb,1,none⟩ = some (.int .i64 c.terms.object)) (first | go_keep | exact ⟨(htp.cell (p:=⟨H,5,none⟩) hHl nH).trans x5,(htp.cell (p:=⟨VB,0,none⟩) hVl nV).trans v0,(htp.cell (p:=⟨VB,1,none⟩) hVl nV).trans v1,(hbp.cell 19).trans rfl,(hbp.cell 1).trans rfl⟩) ((first | (go_at_call 76;refine (HEN.out _ HC4.out.drew).mono ?_;rintro e w9 ⟨rfl,rfl⟩) | (go_at_call 102;refine HPT.out.mono ?_;rintro e W6 ⟨rfl,ownP,cvP,hep,htp,hbp,hip⟩)))
      have hcp : CachePost own (T + 1) cb 9 (ccells c cv fm sm) 121 ((c.cache.put mo ⟨md,mv⟩ tu).map itOf) wc.drew W6:=by
       rw [← put_map];exact ⟨ownP,cvP,hep,htp,hbp,hip⟩
      obtain ⟨own5,cv5,he5,hf5,hc5,ht5⟩:=HC4.out.drew.cached hcp (put_len _ _ _ _ HC4.out.few);have HX6:=Hd (htp.has HX4.out.drew nH);have HV6:=Hd (htp.has HV4.out.drew nV);have HC6:=Hd hc5;have HE6 : Hid (Ext w own own5):=Hd fun g hg => he5 g (Nat.lt_of_lt_of_le hg HB4.out.size);have HO6 : Hid (own5 H = 0 ∧ own5 VB = 0):=Hd ⟨(he5 H hHl).trans HOH.out,(he5 VB hVl).trans HOV.out⟩;have HF6:=Hd hf5;have HT6 : Hid (Turn (CliSet own T) w W6):=Hd ((Turn.of_below HB4.out (Nat.le_refl _)).drew.trans ht5 fun _ _ e => e);clear hcp hep htp hbp hip he5 hf5 hc5 ht5 x5 v0 v1 c19 c1 nH nV HPT HEN;(go_wp2_with fail);go_meet
      case rel =>
       rw [HE3.out];exact ⟨own5,cv5,HE6.out,HF6.out,HO6.out,HC6.out,HX6.out,HV6.out,HT6.out⟩
    case rest =>
     obtain ⟨own5,cv5,hex5,hfr5,hoo5,hc5,hx5,hv5,htu5⟩:=hcut;have HC5:=Hd hc5;have HX5:=Hd hx5;have HV5:=Hd hv5;have HEX:=Hd hex5;have HFR:=Hd hfr5;have HOO:=Hd hoo5;have HTU:=Hd htu5;obtain ⟨sv,hsv⟩ : ∃ sv,sv = c3.seenOf mo:=⟨_,rfl⟩;have HSV : Hid (Value.int .i64 sv = numS.ev ((seek mo c3.seen).getD numS.z)):=Hd (by rw [hsv];rfl);have HSL:=Hd (keys8 hc5.seen.nodup hc5.sk)
     have HOM : Hid (i64ok (max sv mv)):=Hd (by
      (have h9 : i64ok sv:=by rw [hsv];exact hc5.seen.okE mo);by_cases hle : sv ≤ mv
      ·rw [Int.max_eq_right hle];exact HMV.out
      ·rw [Int.max_eq_left (by omega)];exact h9)
     have HE5 : Hid (r = { c3 with seen:=put mo (max sv mv) c3.seen,call:={ c3.call with value:=⟨md,mv⟩,over:=true },asked:=0 }):=Hd (by rw [HE.out,hsv]);clear hc5 hx5 hv5 hex5 hfr5 hoo5 htu5 hsv HE HC4 HX4 HV4 HB4 HC3b;(go_upto_region 5 with fail);refine last.headH (fun W => CliW own5 T W cb fm sm cv5 c3 ∧ Has W H (.cells #[.int .i64 mk,.int .i64 mc,.int .i64 mn,.int .i64 me,.int .i64 ms,.int .i64 mo,.int .i64 mv,.bool ml,.string ⟨md.toArray⟩] 93)) 16 17 ⟨HC5.out.drew,HX5.out.drew⟩ fun HS => ?_;refine last.many [(0,77,_),(1,78,_),(2,79,_),(3,80,_),(4,81,_),(5,82,_),(6,83,_),(7,84,_),(8,85,_),(9,86,_),(10,87,_),(11,88,_)] HS.out ?_ (hy:=fun W' hW' => by have e1 : W'.cell? ⟨cb,11,none⟩ = some (.map (some sm)):=hW'.1.c_.cell 11;have f0 : W'.cell? ⟨H,5,none⟩ = some (.int .i64 mo):=hW'.2.cell 5;repeat (first | exact .z | refine .s ?_ | refine .k ?_));refine last.wpAnyL_goL 12 89 (.int .i64 sv) rfl rfl (by kernel_rfl) (by kernel_rfl) (by kernel_rfl) (by kernel_rfl) (fun _ _ _ h => h) HS.out (by rfl) (fun W' hW' => by (rw [HSV.out];exact exec_mlook numS (.tmp 86) (.tmp 88) rfl rfl hW'.1.seen HOK.out rfl)) ?_;dsimp only [List.set];refine last.many [(13,90,_),(14,91,_),(15,92,_)] HS.out ?_ (hy:=fun W' hW' => by have e1 : W'.cell? ⟨H,6,none⟩ = some (.int .i64 mv):=hW'.2.cell 6;repeat (first | exact .z | refine .s ?_ | refine .k ?_));refine last.one 16 fun K hK => ?_;refine wp_mstore numS (.tmp 80) (.tmp 82) (.tmp 92) rfl rfl HS.out.1.seen (by have:=HSL.out;unfold maxLen;omega) (k:=mo) (u:=max sv mv) HOK.out HOM.out rfl rfl ?_;intro w6 hm6 hg6;refine hK.out _ _ (fun h => absurd rfl h) ?_;refine last.done ?_;obtain ⟨hc6,ht6⟩:=HC5.out.drew.putSeen mo (max sv mv) hmo hm6 hg6;have HC6:=Hd hc6;have HV6:=Hd (ht6.has HV5.out.drew (fun e => by have h9:=HOO.out.2;rw [e,HC5.out.osm] at h9;omega))
     have HT6 : Hid (Turn (CliSet own T) w w6):=Hd (HTU.out.drew.trans ht6 fun k hk e => by
      have h9:=HEX.out k hk;unfold CliSet;rw [← h9,e,HC5.out.osm]
      omega)
     have HF6 : Hid (∀ g,w6.heap.size ≤ g → own5 g = 0):=Hd fun g hg => HFR.out g (Nat.le_trans ht6.size hg);obtain ⟨c4,hc4⟩ : ∃ c4 : Client,c4 = { c3 with seen:=put mo (max sv mv) c3.seen }:=⟨_,rfl⟩;rw [← hc4] at HC6;have HE6 : Hid (r = { c4 with call:={ c4.call with value:=⟨md,mv⟩,over:=true },asked:=0 }):=Hd (by rw [HE5.out,hc4]);clear hc6 ht6 hm6 hg6 hK K HS HC5 HX5 HV5 HTU HFR HE5 hc4 HSV HSL HOM;have v0 : w6.cell? ⟨VB,0,none⟩ = some (.string ⟨md.toArray⟩):=HV6.out.cell 0;have v1 : w6.cell? ⟨VB,1,none⟩ = some (.int .i64 mv):=HV6.out.cell 1;have c14 : w6.cell? ⟨cb,14,none⟩ = some (.string ⟨c4.call.value.data.toArray⟩):=HC6.out.c_.cell 14;have c15 : w6.cell? ⟨cb,15,none⟩ = some (.int .i64 c4.call.value.ver):=HC6.out.c_.cell 15;have c16 : w6.cell? ⟨cb,16,none⟩ = some (.bool c4.call.over):=HC6.out.c_.cell 16;have c18 : w6.cell? ⟨cb,18,none⟩ = some (.int .i64 c4.asked):=HC6.out.c_.cell 18;have f14:=HC6.out.c_.frozen 14;have f15:=HC6.out.c_.frozen 15;have f16:=HC6.out.c_.frozen 16;have f18:=HC6.out.c_.frozen 18;obtain ⟨W8,hW8⟩ : ∃ W8,W8 = (((w6.setCell ⟨cb,14,none⟩ (.string ⟨md.toArray⟩)).setCell ⟨cb,15,none⟩ (.int .i64 mv)).setCell ⟨cb,16,none⟩ (.bool true)).setCell ⟨cb,18,none⟩ (.int .i64 0):=⟨_,rfl⟩;have ht8 : Turn (fun g => g = cb) w6 W8:=by rw [hW8];exact wal.turn_set (wal.turn_set (wal.turn_set (wal.turn_set (Turn.refl _ _) _ _) _ _) _ _) _ _
     have HC8 : Hid (CliW own5 T W8 cb fm sm cv5 { c4 with call:={ c4.call with value:=⟨md,mv⟩,over:=true },asked:=0 }):=Hd (by
      refine HC6.out.upd ht8 ?_ rfl rfl rfl;rw [hW8]
      exact (((HC6.out.c_.set_ 14 (.string ⟨md.toArray⟩)).set_ 15 (.int .i64 mv)).set_ 16 (.bool true)).set_ 18 (.int .i64 0))
     have HT8 : Hid (Turn (CliSet own T) w W8):=Hd (HT6.out.trans ht8 fun k hk e => by
      have h9:=HEX.out k hk;unfold CliSet;rw [← h9,e,HC6.out.ocb]
      omega)
     have HF8 : Hid (∀ g,W8.heap.size ≤ g → own5 g = 0):=Hd fun g hg => HF6.out g (Nat.le_trans ht8.size hg)
     have HW8:=Hd hW8
     clear hW8 ht8
     go_wp2_with fail
     rw [← HW8.out]
     go_end0
     rw [HE6.out];exact ⟨own5,cv5,fm,sm,.slice none 0 0,rfl,HEX.out,HF8.out,HC8.out,MsgsAt.nil _ _,HT8.out⟩
end
end cli
end Go.Proofs.YtefkmcjhgoagcaaGreatDoor
