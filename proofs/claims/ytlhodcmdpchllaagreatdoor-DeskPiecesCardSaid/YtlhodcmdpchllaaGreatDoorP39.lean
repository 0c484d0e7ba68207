/-
  A part of the proof of the law DeskPieces: DkE.
-/
import Derived.Test.YtlhodcmdpchllaaGreatDoorHd
import Derived.Test.YtlhodcmdpchllaaGreatDoorP11
import Derived.Test.YtlhodcmdpchllaaGreatDoorP38
set_option maxHeartbeats 16000000
set_option maxRecDepth 1000000
namespace Go.Proofs.YtlhodcmdpchllaaGreatDoor
namespace dk
open dI (Bytes ez put)
open Go.RowKit heap eO dZ ff own fq
def lS (kb:Nat):Option Nat->Value
 |none=>.nilFunc
 |some f=>.func (.func f) #[.pointer (some ⟨kb,0,none⟩)] #[]
def sc:Option Nat->DataW Unit
 |none=>.nil
 |some f=>.lit (.int .i64 f)
theorem Ja {kb:Nat} {x y:Option Nat} (h:lS kb x=lS kb y):x=y:=by
 cases x<;>cases y<;>simp[lS]at h⊢;exact h
open Classical in
noncomputable def se (kb:Nat) (v:Value):Option (DataW Unit×List MemPlace):=if h:∃x,v=lS kb x then some (sc h.choose,[]) else none
theorem Jb (kb:Nat) (x:Option Nat):se kb (lS kb x)=some (sc x,[]):=by
 have h:∃y,lS kb x=lS kb y:=⟨x,rfl⟩;unfold se;rw[dif_pos h,<- Ja h.choose_spec]
noncomputable def jb (kb:Nat):je Tryz.prog Bytes (Option Nat) where
 K:=9
 e:=29
 t:=88
 kv:=fun s=>.string ⟨s.toArray⟩
 kl:=fun s=>.string s
 fR:=fun s=>s.length<=maxLen
 ev:=lS kb
 ed:=sc
 jD:=fun _=>True
 z:=none
 R:=se kb
 keyed:=Maps.string_keyed Tryz.underlying9
 ht:=Tryz.underlying88
 key:=fun s h=>WideMaps.keyOf_string_mk (s:=⟨s.toArray⟩) Tryz.underlying9 h
 mG:=fun v l h=>by
  obtain⟨s,rfl,rfl,hs⟩:=WideMaps.string_of_keyOf Tryz.underlying9 h;exact⟨s.data.toList,rfl,rfl,hs⟩
 elem:=fun x _=>Jb kb x
 nJ:=fun v y h=>by
  unfold se at h;split at h
  ·rename_i hx;exact⟨_,hx.choose_spec,(aw h).symm,trivial⟩
  cases h
 nK:=fun k k' h=>by simpa using h
 o6:=fun x x' h=>by
  cases x<;>cases x'<;>simp[sc]at h⊢;omega
 zero:=fun w=>Tryz.zeroValue29 w
 o7:=trivial
section
variable {κ ε:Type} [DecidableEq κ] {P:Program} {ops:Array Oper} {Q:Exit->Act->World->Prop} {rest:List Oper} {a:Act} {w:World} {o:Oper} {b:Nat} {l:List (κ×ε)}
theorem jw (S:je P κ ε) (hg:o.guard=none) {u:ε} (m x v:Operand) (Ou:o.op=Op.insert S.t m x v)
 (hm:a.eval m=.map (some b)) (h:At S w b l) (hn:l.length<maxLen) {k:κ} (hk:S.fR k) (hu:S.jD u) (hx:a.eval x=S.kv k) (hv:a.eval v=S.ev u)
 (hK:∀w',At S w' b (dI.put k u l)->w.grownBy w' (some b)->wpList P ops Q rest (a.put o.dst undef) w'):wpList P ops Q (o::rest) a w:=
 wpList_plain hg fun _ Yn=>by
  obtain⟨w',L4,r1,r2⟩:=h.store hn hk hu;unfold Oper.wp;simp[execOp,Ou,hm,hx,hv,L4,Result.andThen];exact Yn _ _ (hK w' r1 r2)
end
def eo:List (Bytes×Option Nat):=(put fQ (some 50) (put nz (some 49) (put ny (some 48) (put lN (some 47) (put nB (some 46) (put lP (some 45) (put lQ (some 44) (put fP (some 43) (put nx (some 42) (put lM (some 41) (put nD (some 40) (put lO (some 39) (put mm (some 38) (put lL (some 37) (put mq (some 36) (put lR (some 35) (put nt (some 34) (put mj (some 6) (put lK (some 33) [])))))))))))))))))))
theorem Jc:eo=[(fQ,some 50),(nz,some 49),(ny,some 48),(lN,some 47),(nB,some 46),(lP,some 45),(lQ,some 44),(fP,some 43),(nx,some 42),(lM,some 41),(nD,some 40),(lO,some 39),(mm,some 38),(lL,some 37),(mq,some 36),(lR,some 35),(nt,some 34),(mj,some 6),(lK,some 33)]:=by decide +kernel
def iB (name:Bytes):Option Nat:=(ez name eo).getD none
theorem Av (name:Bytes):(name=lK/\iB name=some 33/\cmd name=some oE)\/(name=mj/\iB name=some 6/\cmd name=some oC)\/(name=nt/\iB name=some 34/\cmd name=some kH)\/(name=lR/\iB name=some 35/\cmd name=some oN)\/(name=mq/\iB name=some 36/\cmd name=some oK)\/(name=lL/\iB name=some 37/\cmd name=some oF)\/(name=mm/\iB name=some 38/\cmd name=some oJ)\/(name=lO/\iB name=some 39/\cmd name=some oI)\/(name=nD/\iB name=some 40/\cmd name=some oS)\/(name=lM/\iB name=some 41/\cmd name=some oG)\/(name=nx/\iB name=some 42/\cmd name=some oO)\/(name=fP/\iB name=some 43/\cmd name=some oD)\/(name=lQ/\iB name=some 44/\cmd name=some oM)\/(name=lP/\iB name=some 45/\cmd name=some oL)\/(name=nB/\iB name=some 46/\cmd name=some oR)\/(name=lN/\iB name=some 47/\cmd name=some oH)\/(name=ny/\iB name=some 48/\cmd name=some oP)\/(name=nz/\iB name=some 49/\cmd name=some oQ)\/(name=fQ/\iB name=some 50/\cmd name=some jX)\/(iB name=none/\cmd name=none):=by
 by_cases e0:name=lK
 ·subst e0;exact (.inl ⟨rfl,by decide +kernel,rfl⟩)
 by_cases e1:name=mj
 ·subst e1;exact (.inr (.inl ⟨rfl,by decide +kernel,rfl⟩))
 by_cases e2:name=nt
 ·subst e2;exact (.inr (.inr (.inl ⟨rfl,by decide +kernel,rfl⟩)))
 by_cases e3:name=lR
 ·subst e3;exact (.inr (.inr (.inr (.inl ⟨rfl,by decide +kernel,rfl⟩))))
 by_cases e4:name=mq
 ·subst e4;exact (.inr (.inr (.inr (.inr (.inl ⟨rfl,by decide +kernel,rfl⟩)))))
 by_cases e5:name=lL
 ·subst e5;exact (.inr (.inr (.inr (.inr (.inr (.inl ⟨rfl,by decide +kernel,rfl⟩))))))
 by_cases e6:name=mm
 ·subst e6;exact (.inr (.inr (.inr (.inr (.inr (.inr (.inl ⟨rfl,by decide +kernel,rfl⟩)))))))
 by_cases e7:name=lO
 ·subst e7;exact (.inr (.inr (.inr (.inr (.inr (.inr (.inr (.inl ⟨rfl,by decide +kernel,rfl⟩))))))))
 by_cases e8:name=nD
 ·subst e8;exact (.inr (.inr (.inr (.inr (.inr (.inr (.inr (.inr (.inl ⟨rfl,by decide +kernel,rfl⟩)))))))))
 by_cases e9:name=lM
 ·subst e9;exact (.inr (.inr (.inr (.inr (.inr (.inr (.inr (.inr (.inr (.inl ⟨rfl,by decide +kernel,rfl⟩))))))))))
 by_cases e10:name=nx
 ·subst e10;exact (.inr (.inr (.inr (.inr (.inr (.inr (.inr (.inr (.inr (.inr (.inl ⟨rfl,by decide +kernel,rfl⟩)))))))))))
 by_cases e11:name=fP
 ·subst e11;exact (.inr (.inr (.inr (.inr (.inr (.inr (.inr (.inr (.inr (.inr (.inr (.inl ⟨rfl,by decide +kernel,rfl⟩))))))))))))
 by_cases e12:name=lQ
 ·subst e12;exact (.inr (.inr (.inr (.inr (.inr (.inr (.inr (.inr (.inr (.inr (.inr (.inr (.inl ⟨rfl,by decide +kernel,rfl⟩)))))))))))))
 by_cases e13:name=lP
 ·subst e13;exact (.inr (.inr (.inr (.inr (.inr (.inr (.inr (.inr (.inr (.inr (.inr (.inr (.inr (.inl ⟨rfl,by decide +kernel,rfl⟩))))))))))))))
 by_cases e14:name=nB
 ·subst e14;exact (.inr (.inr (.inr (.inr (.inr (.inr (.inr (.inr (.inr (.inr (.inr (.inr (.inr (.inr (.inl ⟨rfl,by decide +kernel,rfl⟩)))))))))))))))
 by_cases e15:name=lN
 ·subst e15;exact (.inr (.inr (.inr (.inr (.inr (.inr (.inr (.inr (.inr (.inr (.inr (.inr (.inr (.inr (.inr (.inl ⟨rfl,by decide +kernel,rfl⟩))))))))))))))))
 by_cases e16:name=ny
 ·subst e16;exact (.inr (.inr (.inr (.inr (.inr (.inr (.inr (.inr (.inr (.inr (.inr (.inr (.inr (.inr (.inr (.inr (.inl ⟨rfl,by decide +kernel,rfl⟩)))))))))))))))))
 by_cases e17:name=nz
 ·subst e17;exact (.inr (.inr (.inr (.inr (.inr (.inr (.inr (.inr (.inr (.inr (.inr (.inr (.inr (.inr (.inr (.inr (.inr (.inl ⟨rfl,by decide +kernel,rfl⟩))))))))))))))))))
 by_cases e18:name=fQ
 ·subst e18;exact (.inr (.inr (.inr (.inr (.inr (.inr (.inr (.inr (.inr (.inr (.inr (.inr (.inr (.inr (.inr (.inr (.inr (.inr (.inl ⟨rfl,by decide +kernel,rfl⟩)))))))))))))))))))
 refine .inr (.inr (.inr (.inr (.inr (.inr (.inr (.inr (.inr (.inr (.inr (.inr (.inr (.inr (.inr (.inr (.inr (.inr (.inr ⟨?_,?_⟩))))))))))))))))))
 ·unfold iB;rw[Jc];simp only[ez];rw[if_neg (Ne.symm e18),if_neg (Ne.symm e17),if_neg (Ne.symm e16),if_neg (Ne.symm e15),if_neg (Ne.symm e14),if_neg (Ne.symm e13),if_neg (Ne.symm e12),if_neg (Ne.symm e11),if_neg (Ne.symm e10),if_neg (Ne.symm e9),if_neg (Ne.symm e8),if_neg (Ne.symm e7),if_neg (Ne.symm e6),if_neg (Ne.symm e5),if_neg (Ne.symm e4),if_neg (Ne.symm e3),if_neg (Ne.symm e2),if_neg (Ne.symm e1),if_neg (Ne.symm e0)];rfl
 unfold cmd;rw[if_neg e0,if_neg e1,if_neg e2,if_neg e3,if_neg e4,if_neg e5,if_neg e6,if_neg e7,if_neg e8,if_neg e9,if_neg e10,if_neg e11,if_neg e12,if_neg e13,if_neg e14,if_neg e15,if_neg e16,if_neg e17,if_neg e18]
theorem Jd (w:World) (kb:Nat) (name:Bytes) (hn:name.length<=1000000):Calls Tryz.prog 22 #[.pointer (some ⟨kb,0,none⟩),.string ⟨name.toArray⟩] w fun e w'=>e=.returned (lS kb (iB name))/\Below w.heap.size w w':=by
 have hmf:∀(fn:Fn) (first cap:Array Value) (w:World),(Instr.makeFunc fn first cap).run Tryz.prog w=.ok (.func fn first cap) w:=fun _ _ _ _=>rfl;have HB:Hy (Below w.heap.size w (w.alloc (.map #[] 0))):=Hd ((Below.refl _ _).alloc (aq _) _);have K6:=Hd (At.new (jb kb) w);have M4:Hy (w.heap.size<=w.heap.size):=Hd (aq _);(go_enter Tryz.func22,Tryz.ntmps22);have UU:=@run_makeMap Tryz.prog
 go_wp2_with (first
  |(refine jw (jb kb) rfl _ _ _ rfl rfl K6.o (by decide +kernel) (k:=lK) (u:=some 33) (by show _<=maxLen;unfold maxLen;decide) trivial rfl rfl ?_;clear K6;intro wm Ko hg;have K6:=Hd Ko;have Lc:=Hd (HB.o.grown hg HB.o.size (fun j e=>by cases e;exact M4.o));clear HB Ko hg;have HB:=Lc;clear Lc)
  |(refine jw (jb kb) rfl _ _ _ rfl rfl K6.o (by decide +kernel) (k:=mj) (u:=some 6) (by show _<=maxLen;unfold maxLen;decide) trivial rfl rfl ?_;clear K6;intro wm Ko hg;have K6:=Hd Ko;have Lc:=Hd (HB.o.grown hg HB.o.size (fun j e=>by cases e;exact M4.o));clear HB Ko hg;have HB:=Lc;clear Lc)
  |(refine jw (jb kb) rfl _ _ _ rfl rfl K6.o (by decide +kernel) (k:=nt) (u:=some 34) (by show _<=maxLen;unfold maxLen;decide) trivial rfl rfl ?_;clear K6;intro wm Ko hg;have K6:=Hd Ko;have Lc:=Hd (HB.o.grown hg HB.o.size (fun j e=>by cases e;exact M4.o));clear HB Ko hg;have HB:=Lc;clear Lc)
  |(refine jw (jb kb) rfl _ _ _ rfl rfl K6.o (by decide +kernel) (k:=lR) (u:=some 35) (by show _<=maxLen;unfold maxLen;decide) trivial rfl rfl ?_;clear K6;intro wm Ko hg;have K6:=Hd Ko;have Lc:=Hd (HB.o.grown hg HB.o.size (fun j e=>by cases e;exact M4.o));clear HB Ko hg;have HB:=Lc;clear Lc)
  |(refine jw (jb kb) rfl _ _ _ rfl rfl K6.o (by decide +kernel) (k:=mq) (u:=some 36) (by show _<=maxLen;unfold maxLen;decide) trivial rfl rfl ?_;clear K6;intro wm Ko hg;have K6:=Hd Ko;have Lc:=Hd (HB.o.grown hg HB.o.size (fun j e=>by cases e;exact M4.o));clear HB Ko hg;have HB:=Lc;clear Lc)
  |(refine jw (jb kb) rfl _ _ _ rfl rfl K6.o (by decide +kernel) (k:=lL) (u:=some 37) (by show _<=maxLen;unfold maxLen;decide) trivial rfl rfl ?_;clear K6;intro wm Ko hg;have K6:=Hd Ko;have Lc:=Hd (HB.o.grown hg HB.o.size (fun j e=>by cases e;exact M4.o));clear HB Ko hg;have HB:=Lc;clear Lc)
  |(refine jw (jb kb) rfl _ _ _ rfl rfl K6.o (by decide +kernel) (k:=mm) (u:=some 38) (by show _<=maxLen;unfold maxLen;decide) trivial rfl rfl ?_;clear K6;intro wm Ko hg;have K6:=Hd Ko;have Lc:=Hd (HB.o.grown hg HB.o.size (fun j e=>by cases e;exact M4.o));clear HB Ko hg;have HB:=Lc;clear Lc)
  |(refine jw (jb kb) rfl _ _ _ rfl rfl K6.o (by decide +kernel) (k:=lO) (u:=some 39) (by show _<=maxLen;unfold maxLen;decide) trivial rfl rfl ?_;clear K6;intro wm Ko hg;have K6:=Hd Ko;have Lc:=Hd (HB.o.grown hg HB.o.size (fun j e=>by cases e;exact M4.o));clear HB Ko hg;have HB:=Lc;clear Lc)
  |(refine jw (jb kb) rfl _ _ _ rfl rfl K6.o (by decide +kernel) (k:=nD) (u:=some 40) (by show _<=maxLen;unfold maxLen;decide) trivial rfl rfl ?_;clear K6;intro wm Ko hg;have K6:=Hd Ko;have Lc:=Hd (HB.o.grown hg HB.o.size (fun j e=>by cases e;exact M4.o));clear HB Ko hg;have HB:=Lc;clear Lc)
  |(refine jw (jb kb) rfl _ _ _ rfl rfl K6.o (by decide +kernel) (k:=lM) (u:=some 41) (by show _<=maxLen;unfold maxLen;decide) trivial rfl rfl ?_;clear K6;intro wm Ko hg;have K6:=Hd Ko;have Lc:=Hd (HB.o.grown hg HB.o.size (fun j e=>by cases e;exact M4.o));clear HB Ko hg;have HB:=Lc;clear Lc)
  |(refine jw (jb kb) rfl _ _ _ rfl rfl K6.o (by decide +kernel) (k:=nx) (u:=some 42) (by show _<=maxLen;unfold maxLen;decide) trivial rfl rfl ?_;clear K6;intro wm Ko hg;have K6:=Hd Ko;have Lc:=Hd (HB.o.grown hg HB.o.size (fun j e=>by cases e;exact M4.o));clear HB Ko hg;have HB:=Lc;clear Lc)
  |(refine jw (jb kb) rfl _ _ _ rfl rfl K6.o (by decide +kernel) (k:=fP) (u:=some 43) (by show _<=maxLen;unfold maxLen;decide) trivial rfl rfl ?_;clear K6;intro wm Ko hg;have K6:=Hd Ko;have Lc:=Hd (HB.o.grown hg HB.o.size (fun j e=>by cases e;exact M4.o));clear HB Ko hg;have HB:=Lc;clear Lc)
  |(refine jw (jb kb) rfl _ _ _ rfl rfl K6.o (by decide +kernel) (k:=lQ) (u:=some 44) (by show _<=maxLen;unfold maxLen;decide) trivial rfl rfl ?_;clear K6;intro wm Ko hg;have K6:=Hd Ko;have Lc:=Hd (HB.o.grown hg HB.o.size (fun j e=>by cases e;exact M4.o));clear HB Ko hg;have HB:=Lc;clear Lc)
  |(refine jw (jb kb) rfl _ _ _ rfl rfl K6.o (by decide +kernel) (k:=lP) (u:=some 45) (by show _<=maxLen;unfold maxLen;decide) trivial rfl rfl ?_;clear K6;intro wm Ko hg;have K6:=Hd Ko;have Lc:=Hd (HB.o.grown hg HB.o.size (fun j e=>by cases e;exact M4.o));clear HB Ko hg;have HB:=Lc;clear Lc)
  |(refine jw (jb kb) rfl _ _ _ rfl rfl K6.o (by decide +kernel) (k:=nB) (u:=some 46) (by show _<=maxLen;unfold maxLen;decide) trivial rfl rfl ?_;clear K6;intro wm Ko hg;have K6:=Hd Ko;have Lc:=Hd (HB.o.grown hg HB.o.size (fun j e=>by cases e;exact M4.o));clear HB Ko hg;have HB:=Lc;clear Lc)
  |(refine jw (jb kb) rfl _ _ _ rfl rfl K6.o (by decide +kernel) (k:=lN) (u:=some 47) (by show _<=maxLen;unfold maxLen;decide) trivial rfl rfl ?_;clear K6;intro wm Ko hg;have K6:=Hd Ko;have Lc:=Hd (HB.o.grown hg HB.o.size (fun j e=>by cases e;exact M4.o));clear HB Ko hg;have HB:=Lc;clear Lc)
  |(refine jw (jb kb) rfl _ _ _ rfl rfl K6.o (by decide +kernel) (k:=ny) (u:=some 48) (by show _<=maxLen;unfold maxLen;decide) trivial rfl rfl ?_;clear K6;intro wm Ko hg;have K6:=Hd Ko;have Lc:=Hd (HB.o.grown hg HB.o.size (fun j e=>by cases e;exact M4.o));clear HB Ko hg;have HB:=Lc;clear Lc)
  |(refine jw (jb kb) rfl _ _ _ rfl rfl K6.o (by decide +kernel) (k:=nz) (u:=some 49) (by show _<=maxLen;unfold maxLen;decide) trivial rfl rfl ?_;clear K6;intro wm Ko hg;have K6:=Hd Ko;have Lc:=Hd (HB.o.grown hg HB.o.size (fun j e=>by cases e;exact M4.o));clear HB Ko hg;have HB:=Lc;clear Lc)
  |(refine jw (jb kb) rfl _ _ _ rfl rfl K6.o (by decide +kernel) (k:=fQ) (u:=some 50) (by show _<=maxLen;unfold maxLen;decide) trivial rfl rfl ?_;clear K6;intro wm Ko hg;have K6:=Hd Ko;have Lc:=Hd (HB.o.grown hg HB.o.size (fun j e=>by cases e;exact M4.o));clear HB Ko hg;have HB:=Lc;clear Lc)
  |(refine BI (jb kb) rfl _ _ rfl rfl K6.o (k:=name) (by show name.length<=maxLen;unfold maxLen;omega) rfl ?_))
 go_ret;exact⟨rfl,HB.o⟩
end dk
end Go.Proofs.YtlhodcmdpchllaaGreatDoor
