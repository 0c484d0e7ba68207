/-
  A part of the proof of the law DeskPieces: Desk, DeskCalm.
-/
import Derived.Lib.FieldsP
import Derived.Lib.AtoiAll
import Derived.Lib.ItoaNum
import Derived.Lib.Strings
import Derived.Test.YtlhodcmdpchllaaGreatDoorHd
import Derived.Test.YtlhodcmdpchllaaGreatDoorP02
set_option maxHeartbeats 16000000
set_option maxRecDepth 1000000
namespace Go.Proofs.YtlhodcmdpchllaaGreatDoor
namespace ff
open Go.RowKit eK dI
def words (s:Bytes):List Bytes:=(Lib.goFieldsP (fun r=>r==32) ⟨s.toArray⟩).map (·.data.toList)
def oB:Nat->Nat->Bytes
 |0,_=>[]
 |f+1,u=>if u<10 then [UInt8.ofNat (48+u)] else oB f (u/10)++[UInt8.ofNat (48+u%10)]
def gR (n:Int):Bytes:=if n<0 then 45::oB 20 n.natAbs else oB 20 n.toNat
theorem uw:∀(f u:Nat),u<10^f->0<f->oB f u=Lib.decDigits u
 |0,_,_,h=>by omega
 |f+1,u,h,_=>by
  unfold oB;rw[Lib.decDigits];by_cases hu:u<10
  ·rw[if_pos hu,dif_pos hu]
  rw[if_neg hu,dif_neg hu];have h1:u/10<10^f:=by rw[cf]at h;omega
  have h2:0<f:=by
   cases f with
   |zero=>simp at h;omega
   |succ f=>omega
  rw[uw f (u/10) h1 h2]
theorem jW (n:Int) (h1 : -9223372036854775808<=n) (h2:n<=9223372036854775807):gR n=Lib.itoa n:=by
 unfold gR Lib.itoa;rw[uw 20 _ (by omega) (by omega),uw 20 _ (by omega) (by omega)]
def num (s:Bytes):Option Int:=match Lib.atoiAll s with
 |.ok v=>if gR v=s then some v else none
 |_=>none
def fo:List Bytes->Option (List Int)
 | []=>some []
 |s::l=>match num s with
  |none=>none
  |some v=>match fo l with
   |none=>none
   |some vs=>some (v::vs)
def numbers (ws:List Bytes) (n:Int):Option (List Int):=if decide (0<=n)&&decide ((ws.length:Int)≠n) then none else fo ws
inductive gl
 |yes (b:Bytes)
 |no (e:Int)
def mj:Bytes:=[98,101,103,105,110]
def fP:Bytes:=[114,101,97,100]
def fQ:Bytes:=[119,114,105,116,101]
def lK:Bytes:=[97,103,97,105,110]
def lL:Bytes:=[100,101,108,105,118,101,114]
def lM:Bytes:=[108,111,115,101]
def lN:Bytes:=[116,119,105,99,101]
def lO:Bytes:=[103,111,101,115]
def mm:Bytes:=[102,97,105,108,115]
def mq:Bytes:=[99,114,97,115,104]
def lP:Bytes:=[114,101,115,116,97,114,116]
def lQ:Bytes:=[114,101,98,111,114,110]
def lR:Bytes:=[99,97,108,109]
def nt:Bytes:=[99,97,108,108,115]
def nx:Bytes:=[109,97,110,121]
def ny:Bytes:=[117,112]
def nz:Bytes:=[118,97,108,117,101]
def nB:Bytes:=[115,104,111,114,116]
def nD:Bytes:=[104,101,108,112]
def jP:Bytes:=[101,114,114,111,114,32]
def ib (r:dB) (o:Option (List Int)) (f:List Int->gl×dB):gl×dB:=match o with
 |none=>(.no 3,r)
 |some l=>f l
def told (name:Bytes) (x:Int×dB):gl×dB:=if x.1=0 then (.yes name,x.2) else (.no x.1,x.2)
def at_ (l:List Int) (k:Nat):Int:=l.getD k 0
def oC (r:dB) (ws:List Bytes):gl×dB:=ib r (numbers ws 4) fun n =>
 match dB.new ⟨at_ n 0,at_ n 1,at_ n 2⟩ (at_ n 3)with
 |(_,some x)=>(.yes mj,x)
 |(e,none)=>(.no e,r)
def oD (r:dB) (ws:List Bytes):gl×dB:=ib r (numbers ws 2) fun n=>told fP (r.read (at_ n 0) (at_ n 1))
def jX (r:dB) (ws:List Bytes):gl×dB:=match ws with
 | [a,b,d]=>ib r (numbers [a,b] 2) fun n=>told fQ (r.write (at_ n 0) (at_ n 1) d)
 |_=>(.no 3,r)
def oE (r:dB) (ws:List Bytes):gl×dB:=ib r (numbers ws 1) fun n=>told lK (r.eV (at_ n 0))
def oF (r:dB) (ws:List Bytes):gl×dB:=ib r (numbers ws 1) fun n=>told lL (r.gw (at_ n 0))
def oG (r:dB) (ws:List Bytes):gl×dB:=ib r (numbers ws 1) fun n=>told lM (r.gT (at_ n 0))
def oH (r:dB) (ws:List Bytes):gl×dB:=ib r (numbers ws 1) fun n=>told lN (r.gU (at_ n 0))
def oI (r:dB) (ws:List Bytes):gl×dB:=ib r (numbers ws (-1)) fun n=>told lO (r.fA n)
def oJ (r:dB) (ws:List Bytes):gl×dB:=ib r (numbers ws 2) fun n=>(.yes mm,r.kN (at_ n 0) (at_ n 1))
def oK (r:dB) (ws:List Bytes):gl×dB:=ib r (numbers ws 0) fun _=>(.yes mq,r.oZ)
def oL (r:dB) (ws:List Bytes):gl×dB:=ib r (numbers ws 0) fun _=>told lP r.gx
def oM (r:dB) (ws:List Bytes):gl×dB:=ib r (numbers ws 1) fun n=>told lQ (r.gV (at_ n 0))
def oN (r:dB) (ws:List Bytes):gl×dB:=ib r (numbers ws 1) fun n =>
 if decide (at_ n 0<0)||decide (200<at_ n 0) then (.no 2,r) else (.yes lR,r.vg (at_ n 0))
def i7 (d:Bytes):Bytes:=if d=[] then [95] else d
def gW (e:fB):Bytes:=
 let s:=(if e.call.dT=1 then fP else fQ)++[32]++gR e.dL++[32]++gR e.call.dF
 if e.ended=0 then s++[32,111,112,101,110]
 else
  let s:=s++([32]++i7 e.call.value.data++[32]++gR e.call.value.dY)
  if e.call.hit then s++[32,104,105,116] else s
def kr (sep:Bytes):List Bytes->Bytes
 | []=>[]
 | [a]=>a
 |a::b::l=>a++sep++kr sep (b::l)
def kH (r:dB) (ws:List Bytes):gl×dB:=ib r (numbers ws 0) fun _=>(.yes (kr [44,32] (r.ef.map gW)),r)
def oO (r:dB) (ws:List Bytes):gl×dB:=ib r (numbers ws 0) fun _=>(.yes (gR r.dM.l.length),r)
def oP (r:dB) (ws:List Bytes):gl×dB:=ib r (numbers ws 0) fun _=>(.yes (if r.eD.isSome then [116,114,117,101] else [102,97,108,115,101]),r)
def oQ (r:dB) (ws:List Bytes):gl×dB:=ib r (numbers ws 1) fun n =>
 if (r.valueOf (at_ n 0)).1=0 then (.yes (i7 (r.valueOf (at_ n 0)).2.data++[32]++gR (r.valueOf (at_ n 0)).2.dY),r) else (.no (r.valueOf (at_ n 0)).1,r)
def oR (r:dB) (ws:List Bytes):gl×dB:=ib r (numbers ws 2) fun n =>
 if eG (at_ n 0) 0 500&&eG (at_ n 1) 0 1099511627776 then (.yes (gR (short (at_ n 0) (at_ n 1))),r) else (.no 2,r)
def zR:Bytes:=[97,103,97,105,110,32,98,101,103,105,110,32,99,97,108,108,115,32,99,97,108,109,32,99,114,97,115,104,32,100,101,108,105,118,101,114,32,102,97,105,108,115,32,103,111,101,115,32,104,101,108,112,32,108,111,115,101,32,109,97,110,121,32,114,101,97,100,32,114,101,98,111,114,110,32,114,101,115,116,97,114,116,32,115,104,111,114,116,32,116,119,105,99,101,32,117,112,32,118,97,108,117,101,32,119,114,105,116,101]
def oS (r:dB) (ws:List Bytes):gl×dB:=ib r (numbers ws 0) fun _=>(.yes zR,r)
def cmd (name:Bytes):Option (dB->List Bytes->gl×dB):=
 if name=lK then some oE else if name=mj then some oC else if name=nt then some kH else if name=lR then some oN
 else if name=mq then some oK else if name=lL then some oF else if name=mm then some oJ else if name=lO then some oI
 else if name=nD then some oS else if name=lM then some oG else if name=nx then some oO else if name=fP then some oD
 else if name=lQ then some oM else if name=lP then some oL else if name=nB then some oR else if name=lN then some oH
 else if name=ny then some oP else if name=nz then some oQ else if name=fQ then some jX else none
def lz:gl->Bytes
 |.yes b=>b
 |.no e=>jP++gR e
def qn (r:dB) (s:Bytes):gl×dB:=match words s with
 | []=>(.yes [111,107],r)
 |w::ws=>match cmd w with
  |none=>(.no 3,r)
  |some c=>c r ws
def ji (r:dB) (s:Bytes):Bytes×dB:=(lz (qn r s).1,(qn r s).2)
def pieces:Bytes->List Bytes
 | []=>[[]]
 |c::l=>if c=10 then []::pieces l else match pieces l with
  |p::ps=>(c::p)::ps
  | []=>[[c]]
def il (r:dB):List Bytes->Bytes
 | []=>[]
 |s::l=>(ji r s).1++[10]++il (ji r s).2 l
def kI (r:dB):List Bytes->dB
 | []=>r
 |s::l=>kI (ji r s).2 l
def trimB (t:Bytes):Bytes:=Lib.trimSuffix t [10]
def mr (r:dB) (t:Bytes):Bytes:=if 20000<t.length then jP++[52,10] else il r (pieces (trimB t))
theorem ux (t:Bytes):pieces t≠[]:=by
 cases t with
 |nil=>simp[pieces]
 |cons c l =>
  unfold pieces;split
  ·simp
  split<;>simp
theorem zS:∀(a b:Bytes),pieces (a++10::b)=pieces a++pieces b
 | [],b=>by simp[pieces]
 |c::a,b=>by
  have h:=zS a b;simp only[bn,pieces,h];by_cases hc:c=10
  ·simp[hc]
  rw[if_neg hc,if_neg hc]
  cases hp:pieces a with
  |nil=>exact absurd hp (ux a)
  |cons p ps=>rfl
theorem uy:∀(a b:List Bytes) (r:dB),il r (a++b)=il r a++il (kI r a) b
 | [],b,r=>rfl
 |s::a,b,r=>by
  simp only[bn,il,kI,uy a b];simp
theorem zT (t:Bytes):Lib.hasSuffix t [10]=true↔∃a,t=a++[10]:=by
 unfold Lib.hasSuffix;rw[List.isSuffixOf_iff_suffix];exact⟨fun⟨a,h⟩=>⟨a,h.symm⟩,fun⟨a,h⟩=>⟨a,h.symm⟩⟩
theorem uz (a:Bytes):trimB (a++[10])=a:=by
 unfold trimB Lib.trimSuffix;rw[if_pos ((zT _).2 ⟨a,rfl⟩)];simp
theorem Hl (a b:Bytes):∃c,(trimB (a++10::b)=a/\b=[])\/trimB (a++10::b)=a++10::c:=by
 rcases List.eq_nil_or_concat b with rfl|⟨b',y,hb⟩
 ·exact⟨[],.inl ⟨uz a,rfl⟩⟩
 rw[List.concat_eq_append]at hb;subst hb;by_cases hy:y=10
 ·subst hy;refine⟨b',.inr ?_⟩;rw[show a++10::(b'++[10])=(a++10::b')++[10] from by simp];exact uz _
 refine⟨b'++[y],.inr ?_⟩;unfold trimB Lib.trimSuffix;rw[if_neg];rw[zT];rintro⟨x,hx⟩;rw[show a++10::(b'++[y])=(a++10::b')++[y] from by simp]at hx;exact hy (by simpa using (List.append_inj_right' hx rfl))
theorem Hm (r:dB) (a b:Bytes) (h:a.length+b.length<=1500):∃c,mr r (a++10::b)=mr r (a++[10])++c:=by
 unfold mr;rw[if_neg (by simp;omega),if_neg (by simp;omega),uz];obtain⟨c,⟨h1,-⟩|h1⟩:=Hl a b
 ·exact⟨[],by rw[h1];simp⟩
 rw[h1,zS,uy];exact⟨_,rfl⟩
def uO:Bytes:=[119,114,105,116,101,32,48,32,49,32,97,10,99,97,108,109,32,51,48,10,114,101,97,100,32,49,32,49,10,99,97,108,109,32,49,10,99,97,108,108,115,10,120,10]
def uP:Bytes:=[119,114,105,116,101,10,99,97,108,109,10,114,101,97,100,10,99,97,108,109,10,119,114,105,116,101,32,48,32,49,32,97,32,49,44,32,114,101,97,100,32,49,32,49,32,97,32,49,10,101,114,114,111,114,32,51,10]
def start:Int×Option dB:=dB.new ⟨20,8,0⟩ 2
def AG:Bool:=match start.2 with
 |some r=>decide (mr r uO=uP)
 |none=>false
theorem Jz:AG=true:=by decide +kernel
theorem JA {r:dB} (h:start.2=some r):mr r uO=uP:=by
 have h1:=Jz;unfold AG at h1;rw[h]at h1;exact of_decide_eq_true h1
end ff
end Go.Proofs.YtlhodcmdpchllaaGreatDoor
