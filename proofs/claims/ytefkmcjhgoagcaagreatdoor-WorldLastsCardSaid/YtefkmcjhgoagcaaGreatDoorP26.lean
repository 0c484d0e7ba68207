/-
  A part of the proof of the law WorldLasts: SrvN.
-/
import Derived.Deep.DeepCutAuto
import Derived.Deep.CutBlock
import Derived.Test.YtefkmcjhgoagcaaGreatDoorHd
import Derived.Test.YtefkmcjhgoagcaaGreatDoorP25
namespace Go.Proofs.YtefkmcjhgoagcaaGreatDoor
namespace srv
open Go.RowKit heap own recs errs mapof wal tab wire
open model (Rec Disk Val Wr Server Table Terms inR seek put del)
section
variable {P : Lib.PrintTabs} {own : Nat → Nat} {w0 : World} {sb db wb dm tb tm : Nat} {v : Value} {ps : List ByteArray} {qs : List Value} {d : Disk} {s : Server}
def GoesPost (P : Lib.PrintTabs) (own : Nat → Nat) (w0 w : World) (sb db wb dm tb tm : Nat) (r : List Msg × Disk × Server) (e : Ending) (w' : World) : Prop:=
 ∃ u own1 v1 ps1 qs1,e = .returned u ∧ Ext w own own1 ∧ MsgsAt w.heap.size w' u r.1 ∧ SrvW P own1 w0 w' sb db wb dm tb tm v1 ps1 qs1 r.2.1 r.2.2 ∧ Turn (SrvSet own) w w'
structure GL (P : Lib.PrintTabs) (own own1 : Nat → Nat) (w0 w wr : World) (sb db wb dm tb tm : Nat) (v : Value) (ps : List ByteArray) (qs : List Value) (d : Disk) (s : Server) (q : Value) (out : List Msg) (o : Nat) (r : List Msg × Disk × Server) : Prop where
 gm : GM P own own1 w0 w wr sb db wb dm tb tm v ps qs d s q out (.slice none 0 0) []
 few : out.length + 5 * (s.queue o).length ≤ 100
 go : r = Server.goesF ((s.queue o).length + 1) d s o out
theorem GM.post {own1 : Nat → Nat} {w wr : World} {q uh : Value} {out : List Msg} {hs : List Int} (h : GM P own own1 w0 w wr sb db wb dm tb tm v ps qs d s q out uh hs) : GoesPost P own w0 w sb db wb dm tb tm (out,d,s) (.returned q) wr:=
 ⟨q,own1,v,ps,qs,rfl,h.ext,h.msgs,h.srv,h.turn⟩
theorem GM.post_nil {own1 : Nat → Nat} {w wr : World} {q uh : Value} {out : List Msg} {hs : List Int} (h : GM P own own1 w0 w wr sb db wb dm tb tm v ps qs d s q out uh hs) : GoesPost P own w0 w sb db wb dm tb tm ([],d,s) (.returned (.slice none 0 0)) wr:=
 ⟨_,own1,v,ps,qs,rfl,h.ext,MsgsAt.nil _ _,h.srv,h.turn⟩
set_option maxHeartbeats 4000000 in
set_option maxRecDepth 1000000 in
theorem goes_s (w : World) (o : Nat) (ho : o < 8) (h : SrvW P own w0 w sb db wb dm tb tm v ps qs d s) :
 Calls Tryz.prog 83 #[.pointer (some ⟨sb,0,none⟩),.int .i64 o] w (GoesPost P own w0 w sb db wb dm tb tm (Server.goes d s o)):=by
 obtain ⟨r,hr⟩ : ∃ r,r = Server.goes d s o:=⟨_,rfl⟩;(have ho8 : (o : Int) < 8:=by omega);obtain ⟨W1,hW1⟩ : ∃ W1,W1 = w.alloc (.cells #[.pointer (some ⟨sb,0,none⟩)] 61):=⟨_,rfl⟩
 have HL1 : Hid (GL P own own w0 w W1 sb db wb dm tb tm v ps qs d s (.slice none 0 0) [] o r):=Hd (by
  rw [hW1]
  exact ⟨GM.start h,by have:=h.ok.ql o;simp;omega,hr⟩)
 rw [← hr];clear hr h;(go_enter Tryz.func83,Tryz.ntmps83);(go_upto_region 2 with fail);rw [← hW1];clear hW1;(go_loopw [5] (fun q5 wr => ∃ own1 v1 ps1 qs1 d1 s1 out,GL P own own1 w0 w wr sb db wb dm tb tm v1 ps1 qs1 d1 s1 q5 out o r) (fun _ wr => lenOf sb o wr));case atStart => exact ⟨_,_,_,_,_,_,_,HL1.out⟩
 case round =>
  clear HL1;obtain ⟨own1,v1,ps1,qs1,d1,s1,out,hL⟩:=hrel;have HL:=Hd hL;have HF:=Hd hL.few;have HGO:=Hd hL.go;have HG:=Hd hL.gm;have b0 : wr.cell? ⟨w.heap.size,0,none⟩ = some (.pointer (some ⟨sb,0,none⟩)):=hL.gm.box.cell 0;have HLN:=Hd (hL.gm.srv.lenOf ho);have HDN:=Hd (Down_s wr hL.gm.srv);clear hL
  cases hqe : s1.queue o with
  | nil =>
   as_aux_lemma =>
    have HE : Hid (r = (out,d1,s1)):=Hd (by rw [HGO.out];exact goes_empty hqe);obtain ⟨qa,qc,hq,-,-⟩:=(HG.out.srv.queue o ho).slice;(have c20 : wr.cell? ⟨sb,20 + o,none⟩ = some (.slice qa 0 qc):=by rw [HG.out.srv.cellQ o ho,hq,hqe];rfl);clear hq hqe;(go_wp2_with fail);go_ret;rw [HE.out];exact HG.out.post
  | cons x rest =>
   have HQ:=Hd hqe;obtain ⟨g,off,cap,hq,-⟩:=HG.out.srv.first ho hqe;(have c20 : wr.cell? ⟨sb,20 + o,none⟩ = some (.slice (some ⟨g,off,none⟩) (rest.length + 1) cap):=by rw [HG.out.srv.cellQ o ho,hq]);have HCQ:=Hd hq;obtain ⟨n,hn⟩ : ∃ n,n = rest.length + 1:=⟨_,rfl⟩;rw [← hn] at c20;(have n0 : (0 : Int) < (n : Int):=by omega);have n0' : decide ((0 : Int) < (n : Int)) = true:=decide_eq_true n0;(have n1 : 0 < n:=by omega);have HN:=Hd hn;clear hq hqe hn
   cases hd : s1.down with
   | true =>
    as_aux_lemma =>
     have HE : Hid (r = (out,d1,s1)):=Hd (by rw [HGO.out];exact goes_down hd);rw [hd] at HDN;clear hd;(go_wp2_with (go_at_call 69;refine HDN.out.mono ?_;rintro e w' ⟨rfl,rfl⟩));go_ret;rw [HE.out];exact HG.out.post
   | false =>
    have HD:=Hd hd;rw [hd] at HDN;clear hd;(go_upto_region 4 with (go_at_call 69;refine HDN.out.mono ?_;rintro e w' ⟨rfl,rfl⟩));clear c20 HDN;have c29 : wr.cell? ⟨sb,29,none⟩ = some (.pointer (some ⟨tb,0,none⟩)):=HG.out.srv.cellT 1 _ rfl;have c32 : wr.cell? ⟨sb,32,none⟩ = some (.int .i64 s1.now):=HG.out.srv.cellT 4 _ rfl;have HH:=Hd (Holders_m o s1.now HG.out.srv.table.drew);obtain ⟨hs,hhs⟩ : ∃ hs,hs = s1.table.holders o s1.now:=⟨_,rfl⟩;rw [← hhs] at HH;have HHS:=Hd hhs;clear hhs;have hlt : sb < wr.heap.size:=HG.out.srv.s_.lt;have hlw : w.heap.size < wr.heap.size:=HG.out.box.lt;(go_region_held3 (fun W => W.cell? ⟨w.heap.size,0,none⟩ = some (.pointer (some ⟨sb,0,none⟩)) ∧ W.cell? ⟨sb,29,none⟩ = some (.pointer (some ⟨tb,0,none⟩)) ∧ W.cell? ⟨sb,32,none⟩ = some (.int .i64 s1.now)) (first | go_keep | exact ⟨(hbh.cell (p:=⟨w.heap.size,0,none⟩) hlw).trans b0,(hbh.cell (p:=⟨sb,29,none⟩) hlt).trans c29,(hbh.cell (p:=⟨sb,32,none⟩) hlt).trans c32⟩) ((go_at_call 98;refine HH.out.mono ?_;rintro e W4 ⟨uh,rfl,huh,hbh⟩)));have hg4:=HG.out.drew.hold hbh huh;obtain ⟨hog,hgl,-,-,-,z3,f3⟩:=hg4.srv.firstAt ho HQ.out HCQ.out;have HG4:=Hd hg4;have HSQ:=Hd hg4.srv.nq;clear HH hlt hlw c29 c32 b0 huh hbh hg4 HG HL;obtain ⟨x3,hx3⟩ : ∃ x3,x3 = x.begun:=⟨_,rfl⟩;rw [← hx3] at z3;have HX3:=Hd hx3;clear hx3;(go_upto_if 50 with fail);obtain ⟨y3,hy3⟩ : ∃ y3,y3 = !x3:=⟨_,rfl⟩;rw [← hy3];have hx3:=HX3.out;go_cut [5] (fun q wx => GM P own own1 w0 w wx sb db wb dm tb tm v1 ps1 qs1 d1 (begins s1 o x rest) q (told s1 o x out) uh hs)
    case first =>
     cases y3 with
     | false =>
      (have hx4 : x.begun = true:=by rw [← hx3];cases x3 with | true => rfl | false => cases hy3);have HT : Hid (told s1 o x out = out):=Hd (by unfold told;rw [hx4];rfl);have HB : Hid (begins s1 o x rest = s1):=Hd (begins_same (by rw [HSQ.out];exact ho) HQ.out hx4);clear hx3 hx4 hy3 f3 z3;(go_wp2_with fail);go_meet;case rel => rw [HT.out,HB.out];exact HG4.out
     | true =>
      (have hx4 : x.begun = false:=by rw [← hx3];cases x3 with | false => rfl | true => cases hy3);have HT : Hid (told s1 o x out = out ++ hs.map fun c => (begins s1 o x rest).inval c o):=Hd (by unfold told;rw [hx4,HHS.out];rfl);have hbg:=HG4.out.srv.begun ho HQ.out HCQ.out;have HGB:=Hd (HG4.out.step hbg.2 (fun k _ hk => ⟨by omega,by omega⟩) (Ext.refl _ _) hbg.1)
      have hul : ∃ a c,uh = .slice a hs.length c:=by
       rcases HG4.out.row.2 with ⟨e,h0⟩ | ⟨g,cap,cur,e,-⟩
       ·exact ⟨none,0,by rw [e,List.eq_nil_of_length_eq_zero h0];rfl⟩
       ·exact ⟨_,_,e⟩
      obtain ⟨ua,uc,rfl⟩:=hul;(have hh4 : hs.length ≤ 4:=by rw [HHS.out];exact holders_few _ _ _);obtain ⟨sg,hsg⟩ : ∃ sg,sg = begins s1 o x rest:=⟨_,rfl⟩;rw [← hsg] at HGB HT;have HSG:=Hd hsg;have HOL : Hid (out.length ≤ 100):=Hd (by have:=HF.out;omega);clear hx3 hx4 hy3 hbg HG4 hsg;(go_upto_region 8 with fail);obtain ⟨W5,hW5⟩ : ∃ W5,W5 = W4.setCell ⟨g,off + 3,none⟩ (.bool true):=⟨_,rfl⟩;rw [← hW5] at HGB ⊢;clear hW5 z3 f3;(go_loopw [56,5] (fun q56 q5 wx => ∃ k : Nat,k ≤ hs.length ∧ q56 = .int .i64 k ∧ GM P own own1 w0 w wx sb db wb dm tb tm v1 ps1 qs1 d1 sg q5 (out ++ (hs.take k).map fun c => sg.inval c o) (.slice ua hs.length uc) hs) (fun q56 _ _ => hs.length - (intOf q56).toNat));case atStart => exact ⟨0,by omega,rfl,by rw [List.take_zero,List.map_nil,List.append_nil];exact HGB.out⟩
      case round =>
       clear HGB;obtain ⟨k,hk,rfl,hg⟩:=hrel;have HGK:=Hd hg;by_cases hkl : k < hs.length
       ·have hkc : hs[k]? = some hs[k]:=List.getElem?_eq_getElem hkl;generalize hs[k] = c at hkc;obtain ⟨gu,cu,hu,hul,zk⟩:=ints_cell hg.row hkc;simp only [Value.slice.injEq] at hu;obtain ⟨rfl,-,rfl⟩:=hu
        have HF1 : Hid (out ++ (hs.take (k + 1)).map (fun c => sg.inval c o) = (out ++ (hs.take k).map fun c => sg.inval c o) ++ [sg.inval c o]):=Hd (by
         rw [List.take_add_one,hkc]
         simp)
        have hll : (out ++ (hs.take k).map fun c => sg.inval c o).length + 1 ≤ 1000000:=by
         rw [List.length_append,List.length_map];have:=List.length_take_le k hs;have:=HOL.out;omega
        have HLL:=Hd hll;have kc0 : wr.cell? ⟨w.heap.size,0,none⟩ = some (.pointer (some ⟨sb,0,none⟩)):=hg.box.cell 0;clear hg hkc hll
        go_wp2_with (first
         | (go_at_call 99;refine (inval_s _ c o ho HGK.out.srv).mono ?_;rintro e w6 ⟨rfl,hb6⟩;have HG6:=Hd (HGK.out.below hb6))
         | (refine wpList_build1 rfl (.tmp 64) (sg.inval c o) rfl rfl ?_;have HG7:=Hd (HG6.out.below ((Below.refl w6.heap.size w6).alloc (Nat.le_refl _) (.cells (([sg.inval c o] : List Msg).flatMap msgRow).toArray 93)));have HN7:=Hd (MsgsAt.new (w:=w6) (l:=[sg.inval c o]) (by simp));obtain ⟨w7,hw7⟩ : ∃ w7,w7 = w6.alloc (.cells (([sg.inval c o] : List Msg).flatMap msgRow).toArray 93):=⟨_,rfl⟩;rw [← hw7] at HG7 HN7 ⊢;clear hw7 HG6)
         | (refine wpList_appendMsgs rfl (.tmp 60) (.tmp 65) HG7.out.turn.size u5 (.slice (some ⟨w6.heap.size,0,none⟩) 1 1) _ [sg.inval c o] rfl rfl rfl HG7.out.msgs HN7.out (by simp) HLL.out fun v' w8 hm8 hg8 hq8 => ?_;have HG8:=Hd (HG7.out.append hm8 hg8 hq8);clear hm8 hg8 hq8))
        go_roundw;(case rel => exact ⟨k + 1,by omega,by go_num,by rw [HF1.out];exact HG8.out⟩);case measure => simp [intOf];omega
       ·(obtain rfl : k = hs.length:=by omega);have HTE : Hid (told s1 o x out = out ++ (hs.take hs.length).map fun c => sg.inval c o):=Hd (by rw [HT.out,List.take_length]);(go_wp2_with fail);go_meet;case rel => rw [HTE.out,← HSG.out];exact HGK.out
    case rest =>
     have HG5:=Hd hcut;have hlw : w.heap.size < wc.heap.size:=hcut.box.lt;have hlt : sb < wc.heap.size:=hcut.srv.s_.lt;have b0 : wc.cell? ⟨w.heap.size,0,none⟩ = some (.pointer (some ⟨sb,0,none⟩)):=hcut.box.cell 0;have c31 : wc.cell? ⟨sb,31,none⟩ = some (.int .i64 s1.quiet):=hcut.srv.cellT 3 _ rfl;have c32 : wc.cell? ⟨sb,32,none⟩ = some (.int .i64 s1.now):=hcut.srv.cellT 4 _ rfl;clear hcut HX3 z3 f3 HG4;(go_upto_region 13 with fail);obtain ⟨b1,hb1⟩ : ∃ b1,b1 = decide (s1.now < s1.quiet):=⟨_,rfl⟩;have e1 : decide (s1.now < s1.quiet) = b1:=hb1.symm;obtain ⟨b2,hb2⟩ : ∃ b2,b2 = hs.any fun c => s1.table.leans c s1.now:=⟨_,rfl⟩;have hl4 : hs.length ≤ 1000:=by rw [HHS.out];exact Nat.le_trans (holders_few _ _ _) (by decide)
     have HCI : Hid (Calls Tryz.prog 115 #[uh,.func (.func 113) #[] #[.pointer (some ⟨w.heap.size,0,none⟩)]] wc.drew fun e w' => e = .returned (.bool b2) ∧ Below wc.drew.heap.size wc.drew w'):=Hd (by
      rw [hb2]
      exact contains_i (s:=begins s1 o x rest) wc.drew w.heap.size uh hs hl4 w.heap.size HG5.out.drew.row HG5.out.drew.box HG5.out.drew.srv)
     have HW : Hid ((b1 || b2) = true → r = (told s1 o x out,d1,begins s1 o x rest)):=Hd fun h => by
      rw [HGO.out,goes_round HQ.out HD.out,goOne_waits (by rw [← HHS.out,← hb1,← hb2];exact h)];rfl
     have HGO2 : Hid ((b1 || b2) = false → r = Server.goesF ((s1.queue o).length + 1) d1 s1 o out ∧ s1.goOne d1 o x rest out = Server.store d1 { begins s1 o x rest with table:=model.flushAll s1.table hs } o x rest (told s1 o x out)):=Hd fun h => by
      refine ⟨HGO.out,?_⟩;rw [goOne_goes (by rw [← HHS.out,← hb1,← hb2];exact h),← HHS.out]
     clear hb1 hb2 HGO
     cases b1 with
     | true =>
      as_aux_lemma =>
       (go_quiet (fail));(go_wp2_with fail);go_ret;rw [HW.out rfl];exact (HG5.out.drewN nq).post
     | false =>
      (go_region_held3 (fun W => W.cell? ⟨w.heap.size,0,none⟩ = some (.pointer (some ⟨sb,0,none⟩)) ∧ W.cell? ⟨sb,31,none⟩ = some (.int .i64 s1.quiet) ∧ W.cell? ⟨sb,32,none⟩ = some (.int .i64 s1.now)) (first | go_keep | exact ⟨(hbh.cell (p:=⟨w.heap.size,0,none⟩) hlw).trans b0,(hbh.cell (p:=⟨sb,31,none⟩) hlt).trans c31,(hbh.cell (p:=⟨sb,32,none⟩) hlt).trans c32⟩) ((go_at_call 115;refine HCI.out.mono ?_;rintro e W6 ⟨rfl,hbh⟩)));have HG6:=Hd (HG5.out.drew.below hbh);clear HG5 HCI hbh b0 c31 c32 e1
      cases b2 with
      | true =>
       as_aux_lemma =>
        (go_wp2_with fail);go_ret;rw [HW.out rfl];exact HG6.out.post
      | false =>
       obtain ⟨hgo,hst⟩:=HGO2.out rfl;have HGO:=Hd hgo;have HST:=Hd hst;clear hgo hst HGO2 HW
       have hul : ∃ a c,uh = .slice a hs.length c:=by
        rcases HG6.out.row.2 with ⟨e,h0⟩ | ⟨g,cap,cur,e,-⟩
        ·exact ⟨none,0,by rw [e,List.eq_nil_of_length_eq_zero h0];rfl⟩
        ·exact ⟨_,_,e⟩
       obtain ⟨ua,uc,rfl⟩:=hul;(go_upto_region 16 with fail);(go_loopw [86] (fun q86 wx => ∃ k : Nat,k ≤ hs.length ∧ q86 = .int .i64 k ∧ GM P own own1 w0 w wx sb db wb dm tb tm v1 ps1 qs1 d1 { begins s1 o x rest with table:=model.flushAll s1.table (hs.take k) } u5 (told s1 o x out) (.slice ua hs.length uc) hs) (fun q86 _ => hs.length - (intOf q86).toNat));case atStart => exact ⟨0,by omega,rfl,HG6.out⟩
       case round =>
        clear HG6;obtain ⟨k,hk,rfl,hg⟩:=hrel;have HGK:=Hd hg;by_cases hkl : k < hs.length
        ·
         as_aux_lemma =>
          have hkc : hs[k]? = some hs[k]:=List.getElem?_eq_getElem hkl;generalize hs[k] = c at hkc;obtain ⟨gu,cu,hu,hul,zk⟩:=ints_cell hg.row hkc;simp only [Value.slice.injEq] at hu;obtain ⟨rfl,-,rfl⟩:=hu
          have HF1 : Hid (model.flushAll s1.table (hs.take (k + 1)) = ((model.flushAll s1.table (hs.take k)).flush c).2):=Hd (by
           rw [List.take_add_one,hkc];unfold model.flushAll;rw [List.foldl_append]
           rfl)
          have kc0 : wr.cell? ⟨w.heap.size,0,none⟩ = some (.pointer (some ⟨sb,0,none⟩)):=hg.box.cell 0;have kc29 : wr.cell? ⟨sb,29,none⟩ = some (.pointer (some ⟨tb,0,none⟩)):=hg.srv.cellT 1 _ rfl;clear hg hkc;(go_wp2_with (go_at_call 116;refine (Flush_s _ c HGK.out.srv).mono ?_;rintro e w6 ⟨uf,rfl,hs6,ht6⟩));have HG8:=Hd (HGK.out.step ht6 HGK.out.srv.setT (Ext.refl _ _) hs6);go_roundw;(case rel => exact ⟨k + 1,by omega,by go_num,by rw [HF1.out];exact HG8.out⟩);case measure => simp [intOf];omega
        ·(obtain rfl : k = hs.length:=by omega);rw [List.take_length] at hg;obtain ⟨s2,hs2⟩ : ∃ s2,s2 = { begins s1 o x rest with table:=model.flushAll s1.table hs }:=⟨_,rfl⟩;rw [← hs2] at hg HST;have HS2:=Hd hs2;have HG7:=Hd hg;clear hg HGK hs2;(go_upto_region 20 with fail);(have hq2 : s2.queue o = { x with begun:=true } :: rest:=by rw [HS2.out];exact begins_queue (by rw [HSQ.out];exact ho));obtain ⟨-,hgl2,y0,y1,y2,-,-⟩:=HG7.out.srv.firstAt ho hq2 HCQ.out;have HQ2:=Hd hq2;have b0 : wr.cell? ⟨w.heap.size,0,none⟩ = some (.pointer (some ⟨sb,0,none⟩)):=HG7.out.box.cell 0;have cV : wr.cell? ⟨sb,4 + o * 2 + 1,none⟩ = some (.int .i64 (s2.value o).ver):=(HG7.out.srv.cellV o ho).2;have hlt : sb < wr.heap.size:=HG7.out.srv.s_.lt;have hlw : w.heap.size < wr.heap.size:=HG7.out.box.lt;obtain ⟨cl,hcl⟩ : ∃ cl,cl = x.client:=⟨_,rfl⟩;obtain ⟨nu,hnu⟩ : ∃ nu,nu = x.number:=⟨_,rfl⟩;obtain ⟨xd,hxd⟩ : ∃ xd,xd = x.data:=⟨_,rfl⟩;obtain ⟨vr,hvr⟩ : ∃ vr,vr = (s2.value o).ver:=⟨_,rfl⟩;obtain ⟨vv,hvv⟩ : ∃ vv,vv = wrap64 (vr + 1):=⟨_,rfl⟩;have HREC : Hid (recOf s2 o x = ⟨cl,nu,o,vv,xd,0⟩):=Hd (by rw [hcl,hnu,hxd,hvv,hvr];rfl);have HXC : Hid (0 ≤ cl ∧ cl < 4):=Hd (by rw [hcl];exact (HG7.out.srv.ok.qc o { x with begun:=true } (by rw [hq2];exact List.mem_cons_self)).1);have HXD : Hid (xd.length ≤ 20):=Hd (by rw [hxd];exact (HG7.out.srv.ok.qc o { x with begun:=true } (by rw [hq2];exact List.mem_cons_self)).2);rw [← hvr] at cV;change wr.cell? ⟨g,off,none⟩ = some (.int .i64 x.client) at y0;change wr.cell? ⟨g,off + 1,none⟩ = some (.int .i64 x.number) at y1;change wr.cell? ⟨g,off + 2,none⟩ = some (.string ⟨x.data.toArray⟩) at y2;rw [← hcl] at y0;rw [← hnu] at y1;rw [← hxd] at y2;have HVV:=Hd hvv;clear hcl hnu hxd hvr hvv hq2;(go_region_held3 (fun W => W.cell? ⟨w.heap.size,0,none⟩ = some (.pointer (some ⟨sb,0,none⟩)) ∧ W.cell? ⟨g,off,none⟩ = some (.int .i64 cl) ∧ W.cell? ⟨g,off + 1,none⟩ = some (.int .i64 nu) ∧ W.cell? ⟨g,off + 2,none⟩ = some (.string ⟨xd.toArray⟩) ∧ W.cell? ⟨sb,4 + o * 2 + 1,none⟩ = some (.int .i64 vr)) (go_keep) (fail));rw [IntWalk.i64_left,← HVV.out];obtain ⟨R,hR⟩ : ∃ R,R = wr.heap.size:=⟨_,rfl⟩;obtain ⟨W8,hW8⟩ : ∃ W8,W8 = (wr.alloc (.cells #[.int .i64 cl,.int .i64 nu,.int .i64 (o : Int),.int .i64 vv,.string ⟨xd.toArray⟩,.int .i64 0] 113)).drew:=⟨_,rfl⟩;rw [← hW8,← hR];(have hb8 : Below wr.heap.size wr W8:=by rw [hW8];exact ((Below.refl _ _).alloc (Nat.le_refl _) _).drew);(have hx8 : Has W8 R (.cells #[.int .i64 cl,.int .i64 nu,.int .i64 (o : Int),.int .i64 vv,.string ⟨xd.toArray⟩,.int .i64 0] 113):=by rw [hW8,hR];exact (Has.new wr _).drew);have hg8:=HG7.out.below hb8;have HG8:=Hd hg8;have HX8:=Hd hx8;have hor : own1 R = 0:=HG7.out.srv.fr R (by omega);(have HRX : Hid (u5.ownBlock ≠ some R):=Hd fun e => by have:=(HG7.out.msgs.lt R e).2;omega);clear hW8 hb8 b0 cV y0 y1 y2 HG7 HVV;have b0 : W8.cell? ⟨w.heap.size,0,none⟩ = some (.pointer (some ⟨sb,0,none⟩)):=hg8.box.cell 0;have c3 : W8.cell? ⟨sb,3,none⟩ = some (.pointer (some ⟨wb,0,none⟩)):=hg8.srv.cell0 3 _ rfl;have c33 : W8.cell? ⟨sb,33,none⟩ = some (.int .i64 s2.torn):=hg8.srv.cellT 5 _ rfl;have r0 : W8.cell? ⟨R,0,none⟩ = some (.int .i64 cl):=hx8.cell 0;have r1 : W8.cell? ⟨R,1,none⟩ = some (.int .i64 nu):=hx8.cell 1;have r2 : W8.cell? ⟨R,2,none⟩ = some (.int .i64 (o : Int)):=hx8.cell 2;have r3 : W8.cell? ⟨R,3,none⟩ = some (.int .i64 vv):=hx8.cell 3;have r4 : W8.cell? ⟨R,4,none⟩ = some (.string ⟨xd.toArray⟩):=hx8.cell 4;have r5 : W8.cell? ⟨R,5,none⟩ = some (.int .i64 0):=hx8.cell 5;have lbx : w.heap.size < W8.heap.size:=hg8.box.lt;have lsb : sb < W8.heap.size:=hg8.srv.s_.lt;have lrc : R < W8.heap.size:=hx8.lt
         have nA : ∀ b,(own1 b = 0 ∨ own1 b = 4) → ¬ (b = wb ∨ b = db ∨ own1 b = 2):=fun b hb e => by
          rcases e with e | e | e
          ·rw [e,hg8.srv.wal.ow] at hb;omega
          ·rw [e,hg8.srv.odb] at hb;omega
          ·omega
         have nbx:=nA w.heap.size (.inl hg8.ob);have nsb:=nA sb (.inr hg8.srv.osb);have nrc:=nA R (.inl hor);obtain ⟨p,hp⟩ : ∃ p,p = d1.add s2.down ⟨cl,nu,o,vv,xd,0⟩:=⟨_,rfl⟩;obtain ⟨pe,d2,dn⟩:=p;obtain ⟨ev,hev⟩ : ∃ ev,ev = errV pe:=⟨_,rfl⟩;have hd2 : s2.down = false:=by rw [HS2.out];exact HD.out
         have HADD : Hid (Calls Tryz.prog 55 #[.pointer (some ⟨wb,0,none⟩),.agg #[.int .i64 cl,.int .i64 nu,.int .i64 (o : Int),.int .i64 vv,.string ⟨xd.toArray⟩,.int .i64 0],.int .i64 s2.torn] W8.drew fun e w' => e = .returned ev ∧ ∃ own2 v2 ps2,Ext W8.drew own1 own2 ∧ Turn (fun g => g = wb ∨ g = db ∨ own1 g = 2) W8.drew w' ∧ SrvW P own2 w0 w' sb db wb dm tb tm v2 ps2 qs1 d2 { s2 with down:=dn }):=Hd (by
          have key:=Add_s W8.drew ⟨cl,nu,o,vv,xd,0⟩ s2.torn HXD.out HXC.out hg8.drew.srv hd2;unfold AddS at key;rw [← hp,← hev] at key
          exact key)
         have HP:=Hd hp;have HEV:=Hd hev;clear hp hev nA hd2 hg8 hx8 hR;(go_upto_region 21 with fail);(go_region_held3 (fun W => W.cell? ⟨w.heap.size,0,none⟩ = some (.pointer (some ⟨sb,0,none⟩)) ∧ W.cell? ⟨sb,3,none⟩ = some (.pointer (some ⟨wb,0,none⟩)) ∧ W.cell? ⟨sb,33,none⟩ = some (.int .i64 s2.torn) ∧ W.cell? ⟨R,0,none⟩ = some (.int .i64 cl) ∧ W.cell? ⟨R,1,none⟩ = some (.int .i64 nu) ∧ W.cell? ⟨R,2,none⟩ = some (.int .i64 (o : Int)) ∧ W.cell? ⟨R,3,none⟩ = some (.int .i64 vv) ∧ W.cell? ⟨R,4,none⟩ = some (.string ⟨xd.toArray⟩) ∧ W.cell? ⟨R,5,none⟩ = some (.int .i64 0)) (first | go_keep | exact ⟨(ht9.cell (p:=⟨w.heap.size,0,none⟩) lbx nbx).trans b0,(ht9.cell (p:=⟨sb,3,none⟩) lsb nsb).trans c3,(ht9.cell (p:=⟨sb,33,none⟩) lsb nsb).trans c33,(ht9.cell (p:=⟨R,0,none⟩) lrc nrc).trans r0,(ht9.cell (p:=⟨R,1,none⟩) lrc nrc).trans r1,(ht9.cell (p:=⟨R,2,none⟩) lrc nrc).trans r2,(ht9.cell (p:=⟨R,3,none⟩) lrc nrc).trans r3,(ht9.cell (p:=⟨R,4,none⟩) lrc nrc).trans r4,(ht9.cell (p:=⟨R,5,none⟩) lrc nrc).trans r5⟩) ((go_at_call 55;refine HADD.out.mono ?_;rintro e W9 ⟨rfl,own2,v2,ps2,he9,ht9,hs9⟩)));have HG9:=Hd (HG8.out.drew.step ht9 HG8.out.drew.srv.setA he9 hs9);have HX9:=Hd (ht9.has HX8.out.drew nrc);have HOR : Hid (own2 R = 0):=Hd ((he9 R lrc).trans hor);have HTL : Hid (Calls Tryz.prog 117 #[ev] W9 fun e w' => e = .returned (.int .i64 pe) ∧ Below W9.heap.size W9 w'):=Hd (by rw [HEV.out];exact Tell_s pe W9 HG9.out.srv.hdl);clear HG8 HX8 HADD he9 ht9 hs9 nbx nsb nrc lbx lsb lrc b0 c3 c33 r0 r1 r2 r3 r4 r5 hor
         have HST2 : Hid (pe ≠ 14 → s1.goOne d1 o x rest out = (true,told s1 o x out ++ [(Server.answer { s2 with down:=dn } pe ⟨cl,nu,o,vv,xd,0⟩).1.stamp (Server.answer { s2 with down:=dn } pe ⟨cl,nu,o,vv,xd,0⟩).2],d2,{ (Server.answer { s2 with down:=dn } pe ⟨cl,nu,o,vv,xd,0⟩).1 with queues:=(Server.answer { s2 with down:=dn } pe ⟨cl,nu,o,vv,xd,0⟩).1.queues.set o rest })):=Hd fun h => by
          have e:=HREC.out;have key:=store_goes (d:=d1) (s:=s2) (o:=o) (x:=x) (rest:=rest) (out:=told s1 o x out) (by rw [e,← HP.out];exact h);rw [e,← HP.out] at key;rw [HST.out];exact key
         have HSD : Hid (pe = 14 → s1.goOne d1 o x rest out = (false,[],d2,{ s2 with down:=dn })):=Hd fun h => by
          have e:=HREC.out;have key:=store_dev (d:=d1) (s:=s2) (o:=o) (x:=x) (rest:=rest) (out:=told s1 o x out) (by rw [e,← HP.out];exact h);rw [e,← HP.out] at key;rw [HST.out];exact key
         have HTN : Hid ((told s1 o x out).length + 1 ≤ 1000000 ∧ (told s1 o x out).length ≤ out.length + 4):=Hd (by
          have h1 : (told s1 o x out).length ≤ out.length + 4:=by
           unfold told;split
           ·omega
           ·rw [List.length_append,List.length_map];have:=holders_few s1.table o s1.now;omega
          have:=HF.out
          omega)
         have HLL : Hid ((told s1 o x out).length + 1 ≤ 1000000):=Hd HTN.out.1;clear HST;(go_upto_block 6 with (go_at_call 117;refine HTL.out.mono ?_;rintro e W10 ⟨rfl,hb10⟩));have HG10:=Hd (HG9.out.below hb10);have HX10:=Hd (HX9.out.below hb10 HX9.out.lt);have b0 : W10.cell? ⟨w.heap.size,0,none⟩ = some (.pointer (some ⟨sb,0,none⟩)):=HG10.out.box.cell 0;clear HG9 HX9 HTL hb10;go_cut [5] (fun q wx => pe ≠ 14 ∧ GM P own own2 w0 w wx sb db wb dm tb tm v2 ps2 qs1 d2 (Server.answer { s2 with down:=dn } pe ⟨cl,nu,o,vv,xd,0⟩).1 q (told s1 o x out ++ [(Server.answer { s2 with down:=dn } pe ⟨cl,nu,o,vv,xd,0⟩).1.stamp (Server.answer { s2 with down:=dn } pe ⟨cl,nu,o,vv,xd,0⟩).2]) (.slice ua hs.length uc) hs)
         case first =>
          obtain ⟨pb,hpb⟩ : ∃ pb,pb = (pe == 0):=⟨_,rfl⟩;have epb : (pe == 0) = pb:=hpb.symm;have HPB:=Hd hpb;clear hpb
          cases pb with
          | true =>
           (obtain rfl : pe = 0:=by simpa using HPB.out.symm);obtain ⟨sa,has⟩ : ∃ sa,sa = (Server.applies { s2 with down:=dn } ⟨cl,nu,o,vv,xd,0⟩).1:=⟨_,rfl⟩;obtain ⟨am,ham⟩ : ∃ am,am = (Server.applies { s2 with down:=dn } ⟨cl,nu,o,vv,xd,0⟩).2:=⟨_,rfl⟩
           have HAP : Hid (Calls Tryz.prog 54 #[.pointer (some ⟨sb,0,none⟩),.agg #[.int .i64 cl,.int .i64 nu,.int .i64 (o : Int),.int .i64 vv,.string ⟨xd.toArray⟩,.int .i64 0]] W10.drew fun e w' => e = .returned am.val ∧ SrvW P own2 w0 w' sb db wb dm tb tm v2 ps2 qs1 d2 sa ∧ Turn (fun g => g = sb ∨ g = dm) W10.drew w'):=Hd (by
            rw [has,ham]
            exact applies_s W10.drew ⟨cl,nu,o,vv,xd,0⟩ o ho rfl HXC.out HG10.out.drew.srv)
           have HAS:=Hd has;have HAM:=Hd ham
           have nRd : ¬ (R = sb ∨ R = dm):=fun e => by
            have h0:=HOR.out;rcases e with e | e
            ·rw [e,HG10.out.srv.osb] at h0;cases h0
            ·rw [e,HG10.out.srv.odm] at h0;cases h0
           clear has ham;(go_upto_region 27 with fail);refine last.headH (fun W => W.cell? ⟨w.heap.size,0,none⟩ = some (.pointer (some ⟨sb,0,none⟩)) ∧ Has W R (.cells #[.int .i64 cl,.int .i64 nu,.int .i64 (o : Int),.int .i64 vv,.string ⟨xd.toArray⟩,.int .i64 0] 113)) 1000 9 ⟨b0,HX10.out⟩ fun HS => ?_;refine last.many [(0,158,_),(1,159,_),(2,160,_),(3,161,_)] HS.out ?_ (hy:=fun W' hW' => by have e1:=hW'.1;have e0 : W'.cell? ⟨R,0,none⟩ = some (.int .i64 cl):=hW'.2.cell 0;have f0 : W'.cell? ⟨R,1,none⟩ = some (.int .i64 nu):=hW'.2.cell 1;have e2 : W'.cell? ⟨R,2,none⟩ = some (.int .i64 (o : Int)):=hW'.2.cell 2;have e3 : W'.cell? ⟨R,3,none⟩ = some (.int .i64 vv):=hW'.2.cell 3;have e4 : W'.cell? ⟨R,4,none⟩ = some (.string ⟨xd.toArray⟩):=hW'.2.cell 4;have e5 : W'.cell? ⟨R,5,none⟩ = some (.int .i64 0):=hW'.2.cell 5;repeat (first | exact .z | refine .s ?_ | refine .k ?_));refine last.one 4 fun K hK => ?_;go_simp;refine HAP.out.mono ?_;rintro e w11 ⟨rfl,hs11,ht11⟩;have HG11:=Hd (HG10.out.drew.step ht11 HG10.out.drew.srv.setD (Ext.refl _ _) hs11);have HS11 : Hid ((fun W => W.cell? ⟨w.heap.size,0,none⟩ = some (.pointer (some ⟨sb,0,none⟩)) ∧ Has W R (.cells #[.int .i64 cl,.int .i64 nu,.int .i64 (o : Int),.int .i64 vv,.string ⟨xd.toArray⟩,.int .i64 0] 113)) w11):=Hd ⟨HG11.out.box.cell 0,ht11.has HS.out.2 nRd⟩;refine hK.out _ _ (fun _ => HS11.out) ?_;clear hK K HS hs11 ht11;refine last.one 5 fun K hK => ?_;go_simp;refine (stamp_s w11 am HG11.out.srv).mono ?_;rintro e w12 ⟨rfl,hb12⟩;have HG12:=Hd (HG11.out.below hb12);have HS12 : Hid ((fun W => W.cell? ⟨w.heap.size,0,none⟩ = some (.pointer (some ⟨sb,0,none⟩)) ∧ Has W R (.cells #[.int .i64 cl,.int .i64 nu,.int .i64 (o : Int),.int .i64 vv,.string ⟨xd.toArray⟩,.int .i64 0] 113)) w12):=Hd ⟨HG12.out.box.cell 0,HS11.out.2.below hb12 HS11.out.2.lt⟩;refine hK.out _ _ (fun _ => HS12.out) ?_;clear hK K HS11 hb12;refine last.one 6 fun K hK => ?_;refine wp_build1 (.tmp 163) (sa.stamp am) rfl rfl ?_;have hbz:=(Below.refl w12.heap.size w12).alloc (Nat.le_refl _) (.cells (([sa.stamp am] : List Msg).flatMap msgRow).toArray 93);have HG13:=Hd (HG12.out.below hbz);have HN13:=Hd (MsgsAt.new (w:=w12) (l:=[sa.stamp am]) (by simp));have HS13 : Hid ((fun W => W.cell? ⟨w.heap.size,0,none⟩ = some (.pointer (some ⟨sb,0,none⟩)) ∧ Has W R (.cells #[.int .i64 cl,.int .i64 nu,.int .i64 (o : Int),.int .i64 vv,.string ⟨xd.toArray⟩,.int .i64 0] 113)) (w12.alloc (.cells (([sa.stamp am] : List Msg).flatMap msgRow).toArray 93))):=Hd ⟨HG13.out.box.cell 0,HS12.out.2.alloc _⟩;refine hK.out _ _ (fun _ => HS13.out) ?_;obtain ⟨w13,hw13⟩ : ∃ w13,w13 = w12.alloc (.cells (([sa.stamp am] : List Msg).flatMap msgRow).toArray 93):=⟨_,rfl⟩;rw [← hw13] at HG13 HN13 HS13 ⊢;clear hw13 hbz hK K HS12;refine last.one 7 fun K hK => ?_;refine wp_appendMsgs (.tmp 158) (.tmp 164) HG13.out.turn.size u5 (.slice (some ⟨w12.heap.size,0,none⟩) 1 1) _ [sa.stamp am] rfl rfl rfl HG13.out.msgs HN13.out (by simp) HLL.out _ rfl fun v' w14 hm14 hg14 hq14 => ?_;have HG14:=Hd (HG13.out.append hm14 hg14 hq14);have HS14 : Hid ((fun W => W.cell? ⟨w.heap.size,0,none⟩ = some (.pointer (some ⟨sb,0,none⟩)) ∧ Has W R (.cells #[.int .i64 cl,.int .i64 nu,.int .i64 (o : Int),.int .i64 vv,.string ⟨xd.toArray⟩,.int .i64 0] 113)) w14):=Hd ⟨HG14.out.box.cell 0,HS13.out.2.grown hg14 (fun e => HRX.out e.symm)⟩;refine hK.out _ _ (fun _ => HS14.out) ?_;clear hK K HS13 hm14 hg14 hq14;refine last.many [(8,5,_)] HS14.out ?_;refine last.done ?_;(go_wp2_with fail);go_meet
           case rel =>
            refine ⟨by decide,?_⟩;have e1 : (Server.answer { s2 with down:=dn } 0 ⟨cl,nu,o,vv,xd,0⟩).1 = sa:=HAS.out.symm;have e2 : (Server.answer { s2 with down:=dn } 0 ⟨cl,nu,o,vv,xd,0⟩).2 = am:=HAM.out.symm;rw [e1,e2];exact HG14.out
          | false =>
           (have hp0 : pe ≠ 0:=by simpa using HPB.out.symm);obtain ⟨qb,hqb⟩ : ∃ qb,qb = (pe == 14):=⟨_,rfl⟩;have eqb : (pe == 14) = qb:=hqb.symm;have HQB:=Hd hqb;have HP0:=Hd hp0;clear hqb hp0
           cases qb with
           | true =>
            have HE : Hid (r = ([],d2,{ s2 with down:=dn })):=Hd (by
             (have h14 : pe = 14:=by simpa using HQB.out.symm);rw [HGO.out,goes_round HQ.out HD.out,HSD.out h14]
             rfl)
            (go_wp2_with fail);go_ret;rw [HE.out];exact HG10.out.post_nil
           | false =>
            (have h14 : pe ≠ 14:=by simpa using HQB.out.symm);have hq3 : ({ s2 with down:=dn } : Server).queue o = { x with begun:=true } :: rest:=HQ2.out;obtain ⟨-,hgl3,y0,y1,-,-,-⟩:=HG10.out.srv.firstAt ho hq3 HCQ.out;have hcl : x.client = cl:=congrArg Rec.client HREC.out;have hnu : x.number = nu:=congrArg Rec.number HREC.out;change W10.cell? ⟨g,off,none⟩ = some (.int .i64 x.client) at y0;change W10.cell? ⟨g,off + 1,none⟩ = some (.int .i64 x.number) at y1;rw [hcl] at y0;rw [hnu] at y1
            have HA : Hid ((Server.answer { s2 with down:=dn } pe ⟨cl,nu,o,vv,xd,0⟩) = ({ ({ s2 with down:=dn } : Server) with done:=put cl ⟨6,cl,nu,0,0,o,0,false,[]⟩ s2.done },⟨6,cl,nu,0,0,o,0,false,[]⟩)):=Hd (by
             unfold Server.answer;rw [if_neg HP0.out]
             rfl)
            clear hcl hnu hq3;(go_upto_region 23 with fail);(go_region_held3 (fun W => W.cell? ⟨g,off,none⟩ = some (.int .i64 cl) ∧ W.cell? ⟨g,off + 1,none⟩ = some (.int .i64 nu)) (go_keep) (fail));obtain ⟨B2,hB2⟩ : ∃ B2,B2 = W10.heap.size:=⟨_,rfl⟩;obtain ⟨W11,hW11⟩ : ∃ W11,W11 = (W10.alloc (.cells #[.int .i64 6,.int .i64 cl,.int .i64 nu,.int .i64 0,.int .i64 0,.int .i64 (o : Int),.int .i64 0,.bool false,.string ⟨#[]⟩] 93)).drew:=⟨_,rfl⟩;rw [← hW11,← hB2];(have hb11 : Below W10.heap.size W10 W11:=by rw [hW11];exact ((Below.refl _ _).alloc (Nat.le_refl _) _).drew);have HX11 : Hid (Has W11 B2 (.cells #[.int .i64 6,.int .i64 cl,.int .i64 nu,.int .i64 0,.int .i64 0,.int .i64 (o : Int),.int .i64 0,.bool false,.string ⟨#[]⟩] 93)):=Hd (by rw [hW11,hB2];exact (Has.new W10 _).drew);have HG11:=Hd (HG10.out.below hb11);have HBO : Hid (own2 B2 = 0):=Hd (HG10.out.srv.fr B2 (by omega));(have HBX : Hid (u5.ownBlock ≠ some B2):=Hd fun e => by have:=(HG10.out.msgs.lt B2 e).2;omega);clear hW11 hB2;have b0 : W11.cell? ⟨w.heap.size,0,none⟩ = some (.pointer (some ⟨sb,0,none⟩)):=HG11.out.box.cell 0;have c28 : W11.cell? ⟨sb,28,none⟩ = some (.map (some dm)):=HG11.out.srv.cellT 0 _ rfl;have y0 : W11.cell? ⟨g,off,none⟩ = some (.int .i64 cl):=(hb11.cell (p:=⟨g,off,none⟩) hgl3).trans y0;clear y1 hb11 HG10;have HLD:=Hd (done_few HG11.out.srv);have HOK : Hid (i64ok cl):=Hd (WalkArith.wf_i64 (by have:=HXC.out;omega));(go_upto_region 24 with fail);refine last.headH (fun W => W.cell? ⟨w.heap.size,0,none⟩ = some (.pointer (some ⟨sb,0,none⟩)) ∧ W.cell? ⟨sb,28,none⟩ = some (.map (some dm)) ∧ W.cell? ⟨g,off,none⟩ = some (.int .i64 cl) ∧ Has W B2 (.cells #[.int .i64 6,.int .i64 cl,.int .i64 nu,.int .i64 0,.int .i64 0,.int .i64 (o : Int),.int .i64 0,.bool false,.string ⟨#[]⟩] 93)) 9 10 ⟨b0,c28,y0,HX11.out⟩ fun HS => ?_;refine last.many [(0,141,_),(1,142,_),(2,143,_),(3,144,_),(4,145,_),(5,146,_),(6,147,_),(7,148,_),(8,149,_)] HS.out ?_ (hy:=fun W' hW' => by have e1:=hW'.1;have f0:=hW'.2.1;have f1:=hW'.2.2.1;have e0 : W'.cell? ⟨B2,0,none⟩ = some (.int .i64 6):=hW'.2.2.2.cell 0;have f2 : W'.cell? ⟨B2,1,none⟩ = some (.int .i64 cl):=hW'.2.2.2.cell 1;have e2 : W'.cell? ⟨B2,2,none⟩ = some (.int .i64 nu):=hW'.2.2.2.cell 2;have e3 : W'.cell? ⟨B2,3,none⟩ = some (.int .i64 0):=hW'.2.2.2.cell 3;have e4 : W'.cell? ⟨B2,4,none⟩ = some (.int .i64 0):=hW'.2.2.2.cell 4;have e5 : W'.cell? ⟨B2,5,none⟩ = some (.int .i64 (o : Int)):=hW'.2.2.2.cell 5;have e6 : W'.cell? ⟨B2,6,none⟩ = some (.int .i64 0):=hW'.2.2.2.cell 6;have e7 : W'.cell? ⟨B2,7,none⟩ = some (.bool false):=hW'.2.2.2.cell 7;have e8 : W'.cell? ⟨B2,8,none⟩ = some (.string ⟨#[]⟩):=hW'.2.2.2.cell 8;repeat (first | exact .z | refine .s ?_ | refine .k ?_));refine last.one 9 fun K hK => ?_;refine wp_mstore doneS (.tmp 144) (.tmp 148) (.tmp 149) rfl rfl HG11.out.drew.srv.done (by have:=HLD.out;unfold maxLen;omega) (k:=cl) (u:=⟨6,cl,nu,0,0,(o : Int),0,false,[]⟩) HOK.out trivial rfl rfl ?_;intro w12 hm12 hg12;refine hK.out _ _ (fun h => absurd rfl h) ?_;refine last.done ?_;have hpd:=HG11.out.drew.srv.putDone cl HXC.out _ hm12 hg12;have ht12 : Turn (fun k => k = dm) W11.drew w12:=⟨hg12.os,hg12.tape,hg12.output,hg12.size,fun k hk hn => hg12.block k hk (fun e => hn (by simpa using e))⟩;have HG12:=Hd (HG11.out.drew.step ht12 (fun k hk e => HG11.out.drew.srv.setD k hk (.inr e)) (Ext.refl _ _) hpd);have HX12:=Hd (ht12.has HX11.out.drew (fun e => by have h0:=HBO.out;rw [e,HG11.out.srv.odm] at h0;cases h0));clear hpd ht12 hm12 hg12 hK K HS HX11 HG11 b0 c28 y0;have b0 : w12.cell? ⟨w.heap.size,0,none⟩ = some (.pointer (some ⟨sb,0,none⟩)):=HG12.out.box.cell 0
            go_wp2_with (first
             | (refine wpList_load_row rfl 93 (.tmp 15) rfl B2 rfl 93 _ (0,0) _ HX12.out Tryz.underlying93 rfl (by kernel_rfl) ?_)
             | (go_at_call 90;refine (stamp_s _ ⟨6,cl,nu,0,0,o,0,false,[]⟩ HG12.out.srv).mono ?_;rintro e w13 ⟨rfl,hb13⟩;have HG13:=Hd (HG12.out.below hb13))
             | (refine wpList_build1 rfl (.tmp 153) (({ ({ s2 with down:=dn } : Server) with done:=put cl ⟨6,cl,nu,0,0,o,0,false,[]⟩ s2.done } : Server).stamp ⟨6,cl,nu,0,0,o,0,false,[]⟩) rfl rfl ?_;have HG14:=Hd (HG13.out.below ((Below.refl w13.heap.size w13).alloc (Nat.le_refl _) (.cells (([({ ({ s2 with down:=dn } : Server) with done:=put cl ⟨6,cl,nu,0,0,o,0,false,[]⟩ s2.done } : Server).stamp ⟨6,cl,nu,0,0,o,0,false,[]⟩] : List Msg).flatMap msgRow).toArray 93)));have HN14:=Hd (MsgsAt.new (w:=w13) (l:=[({ ({ s2 with down:=dn } : Server) with done:=put cl ⟨6,cl,nu,0,0,o,0,false,[]⟩ s2.done } : Server).stamp ⟨6,cl,nu,0,0,o,0,false,[]⟩]) (by simp));obtain ⟨w14,hw14⟩ : ∃ w14,w14 = w13.alloc (.cells (([({ ({ s2 with down:=dn } : Server) with done:=put cl ⟨6,cl,nu,0,0,o,0,false,[]⟩ s2.done } : Server).stamp ⟨6,cl,nu,0,0,o,0,false,[]⟩] : List Msg).flatMap msgRow).toArray 93):=⟨_,rfl⟩;rw [← hw14] at HG14 HN14 ⊢;clear hw14 HG13)
             | (refine wpList_appendMsgs rfl (.tmp 150) (.tmp 154) HG14.out.turn.size u5 (.slice (some ⟨w13.heap.size,0,none⟩) 1 1) _ [({ ({ s2 with down:=dn } : Server) with done:=put cl ⟨6,cl,nu,0,0,o,0,false,[]⟩ s2.done } : Server).stamp ⟨6,cl,nu,0,0,o,0,false,[]⟩] rfl rfl rfl HG14.out.msgs HN14.out (by simp) HLL.out fun v' w15 hm15 hg15 hq15 => ?_;have HG15:=Hd (HG14.out.append hm15 hg15 hq15);clear hm15 hg15 hq15))
            go_meet
            case rel =>
             refine ⟨h14,?_⟩;rw [HA.out];exact HG15.out
         case rest =>
          obtain ⟨hp14,hgm⟩:=hcut;have HST3:=Hd (HST2.out hp14);obtain ⟨sa,hsa⟩ : ∃ sa,sa = (Server.answer { s2 with down:=dn } pe ⟨cl,nu,o,vv,xd,0⟩).1:=⟨_,rfl⟩;obtain ⟨out2,hout⟩ : ∃ out2,out2 = told s1 o x out ++ [(Server.answer { s2 with down:=dn } pe ⟨cl,nu,o,vv,xd,0⟩).1.stamp (Server.answer { s2 with down:=dn } pe ⟨cl,nu,o,vv,xd,0⟩).2]:=⟨_,rfl⟩;rw [← hout,← hsa] at hgm
          have hq4 : sa.queue o = { x with begun:=true } :: rest:=by
           (have : sa.queues = s2.queues:=by rw [hsa];exact answer_queues _ _ _);unfold Server.queue;rw [this];exact HQ2.out
          have HSQ4 : Hid (o < sa.queues.length):=Hd (by rw [hgm.srv.nq];exact ho);have HCN : Hid (qs1.getD o undef = .slice (some ⟨g,off,none⟩) n cap):=Hd (by rw [HN.out];exact HCQ.out);have HG16:=Hd hgm;have HPOP:=Hd (hgm.drew.srv.pop ho hq4 HCN.out)
          have HFEW : Hid (out2.length ≤ out.length + 5):=Hd (by
           rw [hout,List.length_append];have:=HTN.out.2;simp
           omega)
          have HGO4 : Hid (r = Server.goesF (rest.length + 1) d2 { sa with queues:=sa.queues.set o rest } o out2):=Hd (by
           rw [HGO.out,goes_round HQ.out HD.out,HST3.out,HQ.out,← hout,← hsa]
           rfl)
          have b0 : wc.cell? ⟨w.heap.size,0,none⟩ = some (.pointer (some ⟨sb,0,none⟩)):=hgm.box.cell 0;(have c20 : wc.cell? ⟨sb,20 + o,none⟩ = some (.slice (some ⟨g,off,none⟩) n cap):=by rw [hgm.srv.cellQ o ho,HCN.out]);have f20:=hgm.srv.s_.frozen (20 + o);(have n1' : (1 : Int) ≤ (n : Int):=by omega);clear hgm hq4 hsa hout HST3 HG10 HX10;(go_upto_region 30 with fail);refine last.headH (fun W => W.cell? ⟨w.heap.size,0,none⟩ = some (.pointer (some ⟨sb,0,none⟩)) ∧ W.cell? ⟨sb,20 + o,none⟩ = some (.slice (some ⟨g,off,none⟩) n cap) ∧ W.frozen? ⟨sb,20 + o,none⟩ = false) 12 13 ⟨b0,c20,f20⟩ fun HS => ?_;refine last.many [(0,168,_),(1,169,_),(2,170,_),(3,171,_),(4,172,_),(5,173,_),(6,174,_),(7,175,_)] HS.out ?_ (hy:=fun W' hW' => by have e1:=hW'.1;have f0:=hW'.2.1;repeat (first | exact .z | refine .s ?_ | refine .k ?_));refine last.wpAnyL_goL 8 176 (tailV g off n cap) rfl rfl (by kernel_rfl) (by kernel_rfl) (by kernel_rfl) (by kernel_rfl) (fun _ _ _ h => h) HS.out (by rfl) (fun W' hW' => by have e9:=n1;have e8:=n1';(unfold tailV;go_simp)) ?_;dsimp only [List.set];refine last.one 9 fun K hK => ?_;go_simp;refine hK.out _ _ (fun _ => HS.out) ?_;clear hK K;refine last.one 10 fun K hK => ?_;go_simp;refine hK.out _ _ (fun _ => HS.out) ?_;clear hK K;refine last.many [(11,179,_)] HS.out ?_;refine last.one 12 fun K hK => ?_;unfold tailV;go_simp;refine hK.out _ _ (fun h => absurd rfl h) ?_;refine last.done ?_;(go_wp2_with fail);have HG17:=Hd (HG16.out.drew.step HPOP.out.2 (fun k hk e => HG16.out.drew.srv.setD k hk (.inl e)) (Ext.refl _ _) HPOP.out.1);have HQ5 : Hid (({ sa with queues:=sa.queues.set o rest } : Server).queue o = rest):=Hd (by rw [queue_set sa o o rest HSQ4.out,if_pos rfl]);go_roundw
          case rel =>
           refine ⟨_,_,_,_,_,_,_,⟨HG17.out.free,?_,?_⟩⟩
           ·rw [HQ5.out];have h1:=HF.out;rw [HQ.out] at h1;have h2:=HFEW.out;simp only [List.length_cons] at h1;omega
           ·rw [HQ5.out];exact HGO4.out
          case measure =>
           rw [HLN.out,HQ.out];refine Nat.lt_of_le_of_lt (Nat.le_of_eq ((HG17.out.srv.lenOf ho).trans (congrArg List.length HQ5.out))) ?_;simp
end
end srv
end Go.Proofs.YtefkmcjhgoagcaaGreatDoor
