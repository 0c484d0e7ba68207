/-
  A part of the proof of the law WorldLasts: Model, Lasts, Idx, Tos, Clk.
-/
import Derived.RowKit
import Derived.Test.YtefkmcjhgoagcaaGreatDoorP01
namespace Go.Proofs.YtefkmcjhgoagcaaGreatDoor
namespace model
open Go.RowKit wire
abbrev Bytes:=List UInt8
def seek {K V : Type} [DecidableEq K] (k : K) : List (K × V) → Option V
 | [] => none
 | (x,v) :: l => if x = k then some v else seek k l
def del {K V : Type} [DecidableEq K] (k : K) : List (K × V) → List (K × V)
 | [] => []
 | (x,v) :: l => if x = k then del k l else (x,v) :: del k l
def put {K V : Type} [DecidableEq K] (k : K) (v : V) (l : List (K × V)) : List (K × V):=(k,v) :: del k l
def inR (n low high : Int) : Bool:=decide (low ≤ n) && decide (n ≤ high)
def short (drift term : Int) : Int:=if inR drift 0 500 && inR term 0 maxTime then term * (1000 - drift) / (1000 + drift) else 0
def addT (a b : Int) : Int:=if inR a 0 maxTime && inR b 0 maxTime then min (a + b) maxTime else 0
structure Val where
 data : Bytes
 ver : Int
deriving DecidableEq
def noVal : Val:=⟨[],0⟩
structure Terms where
 object : Int
 volume : Int
 drift : Int
structure MCall where
 kind : Int
 object : Int
 value : Val
 over : Bool
 hit : Bool
deriving DecidableEq
def noCall : MCall:=⟨0,0,noVal,false,false⟩
structure Rec where
 client : Int
 number : Int
 object : Int
 version : Int
 data : Bytes
 epoch : Int
deriving DecidableEq
def Rec.right (r : Rec) : Bool:=
 if r.object = -1 then okN r.epoch && decide (r.client = 0) && decide (r.number = 0) && decide (r.version = 0) && decide (r.data = [])
 else okN r.client && okN r.number && inR r.object 0 7 && okN r.version && decide (r.data.length ≤ 20) && decide (r.epoch = 0)
structure Disk where
 recs : List Rec
 cut : Bool
 left : Int
def Disk.cutAt (d : Disk) (n : Int) : Disk:={ d with cut:=decide (0 ≤ n),left:=max n 0 }
def Disk.add (d : Disk) (down : Bool) (r : Rec) : Int × Disk × Bool:=
 if down then (6,d,down)
 else if !r.right then (1,d,down)
 else if 200 ≤ d.recs.length then (12,d,down)
 else if d.cut && decide (d.left = 0) then (14,d,true)
 else (0,{ d with recs:=d.recs ++ [r],left:=wrap64 (d.left - 1) },down)
structure Table where
 objs : List ((Int × Int) × Int)
 vols : List Int
 sess : List Int
def Table.new : Table:=⟨[],[0,0,0,0],[0,0,0,0]⟩
def isClient (c : Int) : Bool:=inR c 0 3
def isObject (o : Int) : Bool:=inR o 0 7
def Table.object (t : Table) (c o u : Int) : Int × Table:=
 if isClient c && isObject o && inR u 0 maxTime then (0,{ t with objs:=put (c,o) (max ((seek (c,o) t.objs).getD 0) u) t.objs }) else (2,t)
def Table.volume (t : Table) (c u : Int) : Int × Table:=
 if isClient c && inR u 0 maxTime then (0,{ t with vols:=t.vols.set c.toNat (max (t.vols.getD c.toNat 0) u) }) else (2,t)
def Table.holds (t : Table) (o now c : Int) : Bool:=match seek (c,o) t.objs with | some u => decide (now < u) | none => false
def Table.holders (t : Table) (o now : Int) : List Int:=[0,1,2,3].filter (t.holds o now)
def Table.leans (t : Table) (c now : Int) : Bool:=isClient c && decide (now < t.vols.getD c.toNat 0)
def Table.drop (t : Table) (c o : Int) : Table:={ t with objs:=del (c,o) t.objs }
def Table.flush (t : Table) (c : Int) : Int × Table:=
 if isClient c then (0,{ objs:=t.objs.filter (fun e => !decide (e.1.1 = c)),vols:=t.vols.set c.toNat 0,sess:=t.sess.set c.toNat (wrap64 (t.sess.getD c.toNat 0 + 1)) }) else (2,t)
def Table.session (t : Table) (c : Int) : Int:=if isClient c then t.sess.getD c.toNat 0 else 0
structure MItem where
 object : Int
 value : Val
 till : Int
abbrev Cache:=List MItem
def Cache.drop (c : Cache) (o : Int) : Cache:=c.eraseP (fun x => decide (x.object = o))
def Cache.put (c : Cache) (o : Int) (v : Val) (u : Int) : Cache:=
 let l:=c.drop o
 (if l.length = 6 then List.drop 1 l else l) ++ [⟨o,v,u⟩]
def Cache.get (c : Cache) (o : Int) : Option MItem × Cache:=
 match c.find? (fun x => decide (x.object = o)) with
 | some x => (some x,c.drop o ++ [x])
 | none => (none,c)
structure Gram where
 to : Int
 msg : Msg
structure Net where
 l : List Gram
 lost : Int
def Net.send (n : Net) (g : Gram) : Net:=if 200 ≤ n.l.length then { n with lost:=wrap64 (n.lost + 1) } else { n with l:=n.l ++ [g] }
def noMsg : Msg:=⟨0,0,0,0,0,0,0,false,[]⟩
structure Wr where
 client : Int
 number : Int
 data : Bytes
 begun : Bool
structure Server where
 terms : Terms
 down : Bool
 values : List Val
 queues : List (List Wr)
 done : List (Int × Msg)
 table : Table
 epoch : Int
 quiet : Int
 now : Int
 torn : Int
def Server.value (s : Server) (o : Nat) : Val:=s.values.getD o noVal
def Server.queue (s : Server) (o : Nat) : List Wr:=s.queues.getD o []
def Server.stamp (s : Server) (m : Msg) : Msg:={ m with epoch:=s.epoch,session:=s.table.session m.client }
def Server.knows (s : Server) (m : Msg) : Bool:=isClient m.client && decide (m.epoch = s.epoch) && decide (m.session = s.table.session m.client)
def half : Int:=549755813888
def Server.at_ (s : Server) (now : Int) : Server:={ s with now:=max s.now (min now half) }
def Server.applies (s : Server) (r : Rec) : Server × Msg:=
 let m : Msg:={ noMsg with kind:=6,client:=r.client,number:=r.number,object:=r.object,version:=r.version }
 ({ s with values:=s.values.set r.object.toNat ⟨r.data,r.version⟩,done:=put r.client m s.done },m)
def Server.inval (s : Server) (c : Int) (o : Nat) : Msg:=s.stamp { noMsg with kind:=9,client:=c,object:=o,version:=wrap64 ((s.value o).ver + 1) }
def Server.flushMsg (s : Server) (c : Int) : Msg:=s.stamp { noMsg with kind:=8,client:=c }
def flushAll (t : Table) (l : List Int) : Table:=l.foldl (fun t c => (t.flush c).2) t
def Server.answer (s : Server) (e : Int) (r : Rec) : Server × Msg:=
 if e = 0 then s.applies r
 else
  let m : Msg:={ noMsg with kind:=6,client:=r.client,number:=r.number,object:=r.object }
  ({ s with done:=put r.client m s.done },m)
def Server.store (d : Disk) (s : Server) (o : Nat) (w : Wr) (rest : List Wr) (out : List Msg) : Bool × List Msg × Disk × Server:=
 let r : Rec:=⟨w.client,w.number,o,wrap64 ((s.value o).ver + 1),w.data,0⟩
 let p:=d.add s.down r
 if p.1 = 14 then (false,[],p.2.1,{ s with down:=p.2.2 })
 else
  let a:=Server.answer { s with down:=p.2.2 } p.1 r
  (true,out ++ [a.1.stamp a.2],p.2.1,{ a.1 with queues:=a.1.queues.set o rest })
def Server.goOne (d : Disk) (s : Server) (o : Nat) (w : Wr) (rest : List Wr) (out : List Msg) : Bool × List Msg × Disk × Server:=
 let holders:=s.table.holders o s.now
 let out:=if w.begun then out else out ++ holders.map fun c => s.inval c o
 let s:={ s with queues:=s.queues.set o ({ w with begun:=true } :: rest) }
 if decide (s.now < s.quiet) || holders.any (fun c => s.table.leans c s.now) then (false,out,d,s)
 else Server.store d { s with table:=flushAll s.table holders } o w rest out
def Server.goesF : Nat → Disk → Server → Nat → List Msg → List Msg × Disk × Server
 | 0,d,s,_,out => (out,d,s)
 | f + 1,d,s,o,out =>
  match s.queue o with
  | [] => (out,d,s)
  | w :: rest =>
   if s.down then (out,d,s)
   else
    let r:=s.goOne d o w rest out
    if r.1 then Server.goesF f r.2.2.1 r.2.2.2 o r.2.1 else r.2
def Server.goes (d : Disk) (s : Server) (o : Nat) : List Msg × Disk × Server:=Server.goesF ((s.queue o).length + 1) d s o []
def Server.reads (s : Server) (m : Msg) : List Msg × Server:=
 let o:=m.object.toNat
 let v:=s.value o
 let r:=s.stamp { noMsg with kind:=5,client:=m.client,number:=m.number,object:=m.object,version:=v.ver,data:=v.data }
 if !s.knows m then ([r,s.flushMsg m.client],s)
 else if (s.queue o).isEmpty then
  let p:=s.table.object m.client m.object (addT s.now s.terms.object)
  ([{ r with lease:=decide (p.1 = 0) }],{ s with table:=p.2 })
 else ([r],s)
def Server.pending (s : Server) (c : Int) : List Nat:=(List.range 8).filter fun k => !(s.queue k).isEmpty && (s.table.holders k s.now).contains c
def Server.renews (s : Server) (m : Msg) : List Msg × Server:=
 if !s.knows m then ([s.flushMsg m.client],s)
 else
  let out:=(s.pending m.client).map fun k => s.inval m.client k
  if !out.isEmpty then (out,s)
  else
   let s:={ s with table:=(s.table.volume m.client (addT s.now s.terms.volume)).2 }
   ([s.stamp { noMsg with kind:=7,client:=m.client,number:=m.number }],s)
def Server.acked (d : Disk) (s : Server) (m : Msg) : List Msg × Disk × Server:=
 let o:=m.object.toNat
 if !s.knows m || (s.queue o).isEmpty || !decide (m.version = wrap64 ((s.value o).ver + 1)) then ([],d,s)
 else Server.goes d { s with table:=s.table.drop m.client m.object } o
def Server.enqueue (d : Disk) (s : Server) (m : Msg) : List Msg × Disk × Server:=
 let o:=m.object.toNat
 if s.queues.any (fun q => q.any fun w => decide (w.client = m.client) && decide (m.number ≤ w.number)) then ([],d,s)
 else if 10 ≤ (s.queue o).length || decide (20 < m.data.length) then ([],d,s)
 else Server.goes d { s with queues:=s.queues.set o (s.queue o ++ [⟨m.client,m.number,m.data,false⟩]) } o
def Server.writes (d : Disk) (s : Server) (m : Msg) : List Msg × Disk × Server:=
 match seek m.client s.done with
 | some x => if m.number ≤ x.number then (if m.number < x.number then ([],d,s) else ([s.stamp x],d,s)) else Server.enqueue d s m
 | none => Server.enqueue d s m
def Server.take (d : Disk) (s : Server) (now : Int) (m : Msg) : List Msg × Disk × Server:=
 if s.down || !isClient m.client || !isObject m.object then ([],d,s)
 else
  let s:=s.at_ now
  if m.kind = 1 then ((s.reads m).1,d,(s.reads m).2)
  else if m.kind = 2 then Server.writes d s m
  else if m.kind = 3 then ((s.renews m).1,d,(s.renews m).2)
  else if m.kind = 4 then Server.acked d s m
  else ([],d,s)
def Server.tickF : List Nat → Disk → Server → List Msg → List Msg × Disk × Server
 | [],d,s,out => (out,d,s)
 | k :: ks,d,s,out =>
  let r:=Server.goes d s k
  Server.tickF ks r.2.1 r.2.2 (out ++ r.1)
def Server.tick (d : Disk) (s : Server) (now : Int) : List Msg × Disk × Server:=
 if s.down then ([],d,s) else Server.tickF (List.range 8) d (s.at_ now) []
def rightTerms (t : Terms) : Bool:=decide (1 ≤ t.volume) && decide (t.volume ≤ t.object) && decide (t.object ≤ 274877906944) && inR t.drift 0 500
def Server.replay (s : Server) : List Rec → Server
 | [] => s
 | r :: l => if r.object < 0 then Server.replay { s with epoch:=max s.epoch r.epoch } l else Server.replay (s.applies r).1 l
def Server.blank (t : Terms) (now : Int) : Server:=⟨t,false,List.replicate 8 noVal,List.replicate 8 [],[],Table.new,0,0,now,-1⟩
def Server.new (t : Terms) (d : Disk) (now : Int) : Int × Disk × Option Server:=
 if !rightTerms t || !inR now 0 half then (2,d,none)
 else
  let s:=(Server.blank t now).replay d.recs;let s:={ s with epoch:=wrap64 (s.epoch + 1) }
  let s:=if 1 < s.epoch then { s with quiet:=now + t.volume } else s
  let p:=d.add false ⟨0,0,-1,0,[],s.epoch⟩
  if p.1 = 0 then (0,p.2.1,some s) else (p.1,p.2.1,none)
structure Client where
 id : Int
 terms : Terms
 number : Int
 epoch : Int
 session : Int
 now : Int
 volume : Int
 cache : Cache
 floors : List (Int × Int)
 seen : List (Int × Int)
 call : MCall
 asked : Int
 sent : Int
 renewal : Int
 renewed : Int
def Client.new (id : Int) (t : Terms) (life now : Int) : Option Client:=
 if isClient id && inR life 0 1000 && inR now 0 half && inR t.drift 0 500 && inR t.object 0 274877906944 && inR t.volume 0 274877906944 then
  some ⟨id,t,life * 1048576,0,0,now,0,[],[],[],noCall,0,0,0,0⟩
 else none
def Client.at_ (c : Client) (now : Int) : Client:={ c with now:=max c.now (min now half) }
def Client.leans (c : Client) : Bool:=decide (c.now < c.volume)
def Client.busy (c : Client) : Bool:=decide (c.asked ≠ 0)
def Client.stamp (c : Client) (m : Msg) : Msg:={ m with client:=c.id,epoch:=c.epoch,session:=c.session }
def Client.asks (c : Client) : List Msg:=
 if c.busy then [c.stamp { noMsg with kind:=c.call.kind,number:=c.asked,object:=c.call.object,data:=if c.call.kind = 2 then c.call.value.data else [] }] else []
def Client.again (c : Client) : List Msg × Client:=
 if wrap64 (c.volume - 2) ≤ c.now then
  let n:=wrap64 (c.number + 1);let c:={ c with number:=n,renewal:=n,renewed:=c.now }
  ([c.stamp { noMsg with kind:=3,number:=n }] ++ c.asks,c)
 else (c.asks,c)
def Client.seenOf (c : Client) (o : Int) : Int:=(seek o c.seen).getD 0
def Client.floorOf (c : Client) (o : Int) : Int:=(seek o c.floors).getD 0
def Client.ask (c : Client) : List Msg × Client:=
 let n:=wrap64 (c.number + 1)
 Client.again { c with number:=n,asked:=n,sent:=c.now }
def Client.read (c : Client) (o : Int) : Int × List Msg × Client:=
 if c.busy then (6,[],c)
 else if !isObject o then (2,[],c)
 else
  let call : MCall:=⟨1,o,noVal,false,false⟩
  match c.cache.get o with
  | (some x,k) =>
   let c:={ c with call:=call,cache:=k }
   if decide (c.now < x.till) && c.leans && decide (c.seenOf o ≤ x.value.ver) then
    (0,[],{ c with call:={ call with value:=x.value,over:=true,hit:=true } })
   else (0,c.ask)
  | (none,_) => (0,Client.ask { c with call:=call })
def Client.write (c : Client) (o : Int) (data : Bytes) : Int × List Msg × Client:=
 if c.busy then (6,[],c)
 else if !isObject o then (2,[],c)
 else if 20 < data.length then (4,[],c)
 else (0,Client.ask { c with call:=⟨2,o,⟨data,0⟩,false,false⟩ })
def Client.ends (c : Client) (sent term : Int) : Int:=wrap64 (sent + short c.terms.drift term)
def Client.takesValue (c : Client) (m : Msg) (same : Bool) : Client:=
 if !c.busy || !decide (m.number = c.asked) || !decide (c.call.kind = 1) || !decide (c.call.object = m.object) then c
 else
  let v : Val:=⟨m.data,m.version⟩
  let c:=if same && m.lease && decide (c.floorOf m.object ≤ m.version) then { c with cache:=c.cache.put m.object v (c.ends c.sent c.terms.object) } else c
  { c with seen:=put m.object (max (c.seenOf m.object) m.version) c.seen,call:={ c.call with value:=v,over:=true },asked:=0 }
def Client.take (c : Client) (m : Msg) : List Msg × Client:=
 if !decide (m.client = c.id) || !isObject m.object then ([],c)
 else
  let same:=decide (m.epoch = c.epoch) && decide (m.session = c.session)
  if m.kind = 5 then ([],c.takesValue m same)
  else if m.kind = 6 then
   if c.busy && decide (m.number = c.asked) && decide (c.call.kind = 2) then
    ([],{ c with call:={ c.call with value:={ c.call.value with ver:=m.version },over:=true },asked:=0 })
   else ([],c)
  else if m.kind = 7 then
   if same && decide (c.renewal ≠ 0) && decide (m.number = c.renewal) then ([],{ c with volume:=c.ends c.renewed c.terms.volume,renewal:=0 }) else ([],c)
  else if m.kind = 8 then
   if decide (c.epoch < m.epoch) || decide (m.epoch = c.epoch) && decide (c.session < m.session) then
    ([],{ c with epoch:=m.epoch,session:=m.session,volume:=0,renewal:=0,cache:=[],floors:=[] })
   else ([],c)
  else if m.kind = 9 then
   if same then
    let c:={ c with cache:=c.cache.drop m.object,floors:=put m.object (max (c.floorOf m.object) m.version) c.floors }
    ([c.stamp { noMsg with kind:=4,object:=m.object,version:=m.version }],c)
   else ([],c)
  else ([],c)
structure MEvent where
 client : Int
 call : MCall
 began : Int
 ended : Int
 life : Int
structure Realm where
 terms : Terms
 disk : Disk
 server : Option Server
 clients : List Client
 lives : List Int
 clocks : List Int
 net : Net
 events : List MEvent
 opens : List Int
 step : Int
def newClients (t : Terms) : Nat → Nat → Option (List Client)
 | _,0 => some []
 | k,n + 1 => match Client.new k t 0 0,newClients t (k + 1) n with
  | some c,some l => some (c :: l)
  | _,_ => none
def Realm.new (t : Terms) (n : Int) : Int × Option Realm:=
 if !inR n 1 4 then (2,none)
 else match Server.new t ⟨[],false,0⟩ 0 with
  | (_,d,some s) =>
   match newClients t 0 n.toNat with
   | some cs => (0,some ⟨t,d,some s,cs,List.replicate n.toNat 0,List.replicate (n.toNat + 1) 0,⟨[],0⟩,[],List.replicate n.toNat (-1),0⟩)
   | none => (2,none)
  | (e,_,none) => (e,none)
def Realm.begin (w : Realm) : Realm:={ w with step:=wrap64 (w.step + 1) }
def sendAll (n : Net) (toClient : Bool) : List Msg → Net
 | [] => n
 | m :: l => if m.right then sendAll (n.send ⟨if toClient then m.client else -1,m⟩) toClient l else sendAll n toClient l
def Realm.sends (w : Realm) (toClient : Bool) (l : List Msg) : Realm:={ w with net:=sendAll w.net toClient l }
def Realm.looks (w : Realm) (k : Nat) : Realm:=
 match w.clients[k]?,w.opens[k]? with
 | some c,some e =>
  if decide (0 ≤ e) && !c.busy then
   match w.events[e.toNat]? with
   | some x => { w with events:=w.events.set e.toNat { x with call:=c.call,ended:=w.step },opens:=w.opens.set k (-1) }
   | none => w
  else w
 | _,_ => w
def Realm.right (w : Realm) (k : Int) : Bool:=decide (0 ≤ k) && decide (k < w.clients.length)
def Realm.begins (w : Realm) (k : Nat) (e : Int) (l : List Msg) (c : Client) : Int × Realm:=
 if e ≠ 0 then (e,{ w with clients:=w.clients.set k c })
 else
  let w:={ w with clients:=w.clients.set k c }.begin;let w:={ w with opens:=w.opens.set k w.events.length,events:=w.events ++ [MEvent.mk k c.call w.step 0 (w.lives.getD k 0)] }
  (0,(w.sends false l).looks k)
def Realm.read (w : Realm) (k o : Int) : Int × Realm:=
 if !w.right k then (2,w)
 else match w.clients[k.toNat]? with
  | some c => w.begins k.toNat (c.read o).1 (c.read o).2.1 (c.read o).2.2
  | none => (2,w)
def Realm.write (w : Realm) (k o : Int) (data : Bytes) : Int × Realm:=
 if !w.right k then (2,w)
 else match w.clients[k.toNat]? with
  | some c => w.begins k.toNat (c.write o data).1 (c.write o data).2.1 (c.write o data).2.2
  | none => (2,w)
def Realm.again (w : Realm) (k : Int) : Int × Realm:=
 if !w.right k then (2,w)
 else match w.clients[k.toNat]? with
  | some c => (0,{ w with clients:=w.clients.set k.toNat c.again.2 }.begin.sends false c.again.1)
  | none => (2,w)
def Realm.falls (w : Realm) : Realm:=match w.server with | some s => if s.down then { w with server:=none } else w | none => w
def Realm.deliver (w : Realm) (k : Int) : Int × Realm:=
 if !(decide (0 ≤ k) && decide (k < w.net.l.length)) then (2,w)
 else match w.net.l[k.toNat]? with
  | none => (2,w)
  | some g =>
   let w:={ w with net:={ w.net with l:=w.net.l.eraseIdx k.toNat } }.begin
   if g.to < 0 then
    match w.server with
    | none => (0,w)
    | some s =>
     let r:=Server.take w.disk s (w.clocks.getD 0 0) g.msg
     (0,({ w with disk:=r.2.1,server:=some r.2.2 }.sends true r.1).falls)
   else match w.clients[g.to.toNat]? with
    | some c => (0,({ w with clients:=w.clients.set g.to.toNat (c.take g.msg).2 }.sends false (c.take g.msg).1).looks g.to.toNat)
    | none => (0,w)
def Realm.lose (w : Realm) (k : Int) : Int × Realm:=
 if !(decide (0 ≤ k) && decide (k < w.net.l.length)) then (2,w) else (0,{ w with net:={ w.net with l:=w.net.l.eraseIdx k.toNat } })
def Realm.twice (w : Realm) (k : Int) : Int × Realm:=
 if !(decide (0 ≤ k) && decide (k < w.net.l.length)) then (2,w) else
  match w.net.l[k.toNat]? with
  | some g => (0,{ w with net:=w.net.send g })
  | none => (2,w)
def moveAll : List Int → List Int → List Int
 | c :: cs,n :: ns => min (c + n) half :: moveAll cs ns
 | _,_ => []
def atAll : List Client → List Int → List Client
 | c :: cs,n :: ns => c.at_ n :: atAll cs ns
 | cs,[] => cs
 | [],_ => []
def Realm.goes (w : Realm) (by_ : List Int) : Int × Realm:=
 if by_.length ≠ w.clocks.length then (2,w)
 else if by_.any (fun n => !inR n 0 137438953472) then (2,w)
 else
  let clocks:=moveAll w.clocks by_;let w:={ w with clocks:=clocks,clients:=atAll w.clients clocks.tail }.begin
  match w.server with
  | none => (0,w)
  | some s =>
   let r:=Server.tick w.disk s (clocks.getD 0 0)
   (0,({ w with disk:=r.2.1,server:=some r.2.2 }.sends true r.1).falls)
def Realm.fails (w : Realm) (writes torn : Int) : Realm:=
 { w with disk:=w.disk.cutAt (max writes 0),server:=w.server.map fun s => { s with torn:=torn } }
def Realm.crash (w : Realm) : Realm:={ w.begin with server:=none }
def Realm.restart (w : Realm) : Int × Realm:=
 match w.server with
 | some _ => (6,w)
 | none =>
  let w:=w.begin;let r:=Server.new w.terms (w.disk.cutAt (-1)) (w.clocks.getD 0 0)
  (r.1,{ w with disk:=r.2.1,server:=r.2.2 })
def Realm.reborn (w : Realm) (k : Int) : Int × Realm:=
 if !w.right k then (2,w)
 else match Client.new k w.terms (wrap64 (w.lives.getD k.toNat 0 + 1)) (w.clocks.getD (k.toNat + 1) 0) with
  | none => (2,w)
  | some c => (0,{ w with lives:=w.lives.set k.toNat (wrap64 (w.lives.getD k.toNat 0 + 1)),clients:=w.clients.set k.toNat c,opens:=w.opens.set k.toNat (-1) }.begin)
def Realm.flowsF : Nat → Realm → Realm
 | 0,w => w
 | f + 1,w => if w.net.l.isEmpty then w else Realm.flowsF f (w.deliver 0).2
def Realm.flows (w : Realm) : Realm:=Realm.flowsF 1000 w
def Realm.eachAgain : List Nat → Realm → Realm
 | [],w => w
 | k :: ks,w => Realm.eachAgain ks (w.again k).2.flows
def Realm.round (w : Realm) : Realm:=
 let w:=w.restart.2;let w:=Realm.eachAgain (List.range w.clients.length) w
 (w.goes (List.replicate w.clocks.length 1)).2.flows
def Realm.calmN : Nat → Realm → Realm
 | 0,w => w
 | n + 1,w => Realm.calmN n w.round
end model
namespace lasts
open Go.RowKit wire model
theorem w64 {n : Int} (h1 : -9223372036854775808 ≤ n) (h2 : n ≤ 9223372036854775807) : wrap64 n = n:=by unfold wrap64;omega
def hist (l : List Rec) (o : Int) : List Bytes:=l.filterMap fun r => if r.object = o then some r.data else none
theorem hist_append (a b : List Rec) (o : Int) : hist (a ++ b) o = hist a o ++ hist b o:=by simp [hist]
theorem hist_same (l : List Rec) (r : Rec) : hist (l ++ [r]) r.object = hist l r.object ++ [r.data]:=by simp [hist]
theorem hist_other (l : List Rec) (r : Rec) (o : Int) (h : r.object ≠ o) : hist (l ++ [r]) o = hist l o:=by simp [hist,h]
theorem hist_le (l : List Rec) (o : Int) : (hist l o).length ≤ l.length:=List.length_filterMap_le _ _
def Known (l : List Rec) (o v : Int) (d : Bytes) : Prop:=(v = 0 ∧ d = []) ∨ (1 ≤ v ∧ (hist l o)[v.toNat - 1]? = some d)
theorem Known.more {l : List Rec} {o v : Int} {d : Bytes} (h : Known l o v d) (r : List Rec) : Known (l ++ r) o v d:=by
 rcases h with h | ⟨h1,h2⟩
 ·exact .inl h
 ·refine .inr ⟨h1,?_⟩;rw [hist_append,List.getElem?_append_left (List.getElem?_eq_some_iff.1 h2).1];exact h2
theorem Known.le {l : List Rec} {o v : Int} {d : Bytes} (h : Known l o v d) : v ≤ (hist l o).length:=by
 rcases h with ⟨rfl,_⟩ | ⟨h1,h2⟩
 ·omega
 ·have:=(List.getElem?_eq_some_iff.1 h2).1;omega
theorem Known.same {l : List Rec} {o v : Int} {d d' : Bytes} (h : Known l o v d) (h' : Known l o v d') : d = d':=by
 rcases h with ⟨h1,h2⟩ | ⟨h1,h2⟩ <;> rcases h' with ⟨h3,h4⟩ | ⟨h3,h4⟩
 ·rw [h2,h4]
 ·omega
 ·omega
 ·exact Option.some.inj (h2.symm.trans h4)
def valIn (l : List Rec) (o : Int) : Val:=⟨(hist l o).getLastD [],(hist l o).length⟩
theorem valIn_known (l : List Rec) (o : Int) : Known l o (valIn l o).ver (valIn l o).data:=by
 unfold valIn
 cases h : hist l o with
 | nil => left;simp
 | cons a t =>
  right;simp only [List.length_cons];refine ⟨by omega,?_⟩;rw [h,show ((t.length + 1 : Nat) : Int).toNat - 1 = t.length from by omega];rw [List.getLastD_cons,List.getElem?_cons]
  cases t with
  | nil => simp
  | cons b t => simp [List.getLastD_eq_getLast?,List.getLast?_eq_getElem?]
theorem valIn_mem (l : List Rec) (o : Int) : (valIn l o).data = [] ∨ ∃ r ∈ l,r.data = (valIn l o).data:=by
 unfold valIn
 cases h : hist l o with
 | nil => left;rfl
 | cons a t =>
  right
  have h1 : (a :: t).getLastD [] ∈ hist l o:=by
   rw [h,List.getLastD_cons,List.getLastD_eq_getLast?]
   cases t with
   | nil => simp
   | cons b t => simp [List.getLast?_eq_getElem?]
  unfold hist at h1;obtain ⟨r,h2,h3⟩:=List.mem_filterMap.1 h1;split at h3
  ·exact ⟨r,h2,Option.some.inj h3⟩
  ·cases h3
def Vers (l : List Rec) : Prop:=∀ (a : List Rec) (r : Rec) (b : List Rec),l = a ++ r :: b → 0 ≤ r.object → r.version = ((hist a r.object).length : Int) + 1
theorem Vers.add {l : List Rec} (h : Vers l) {r : Rec} (hr : 0 ≤ r.object → r.version = ((hist l r.object).length : Int) + 1) : Vers (l ++ [r]):=by
 intro a x b e ho;rcases List.eq_nil_or_concat b with rfl | ⟨b',y,rfl⟩
 ·obtain ⟨rfl,e2⟩:=List.append_inj' e rfl;(obtain rfl : r = x:=by simpa using e2);exact hr ho
 ·(have e' : l ++ [r] = (a ++ x :: b') ++ [y]:=by rw [e];simp);obtain ⟨rfl,_⟩:=List.append_inj' e' rfl;exact h a x b' rfl ho
theorem Vers.known {l : List Rec} (h : Vers l) {r : Rec} (hr : r ∈ l) (ho : 0 ≤ r.object) : Known l r.object r.version r.data:=by
 obtain ⟨a,b,rfl⟩:=List.append_of_mem hr;have hv:=h a r b rfl ho;right;refine ⟨by omega,?_⟩;rw [hv,show ((hist a r.object).length + 1 : Int).toNat - 1 = (hist a r.object).length from by omega,hist_append];rw [List.getElem?_append_right (Nat.le_refl _),Nat.sub_self];simp [hist]
abbrev Asked:=List (Int × Int × Int × Bytes)
structure Uniq (G : Asked) : Prop where
 same : ∀ c n o d o' d',(c,n,o,d) ∈ G → (c,n,o',d') ∈ G → o = o' ∧ d = d'
 small : ∀ c n o d,(c,n,o,d) ∈ G → (0 ≤ c ∧ c ≤ 3) ∧ (1 ≤ n ∧ n ≤ 1099511627776) ∧ (0 ≤ o ∧ o ≤ 7) ∧ d.length ≤ 20
structure RecsOK (G : Asked) (l : List Rec) : Prop where
 len : l.length ≤ 200
 vers : Vers l
 asked : ∀ r ∈ l,0 ≤ r.object → (r.client,r.number,r.object,r.data) ∈ G
 high : ∀ r ∈ l,-1 ≤ r.object ∧ r.object ≤ 7
 short : ∀ r ∈ l,r.data.length ≤ 20
theorem valIn_short {G : Asked} {l : List Rec} (h : RecsOK G l) (o : Int) : (valIn l o).data.length ≤ 20:=by
 rcases valIn_mem l o with h1 | ⟨r,h1,h2⟩
 ·rw [h1];simp
 ·rw [← h2];exact h.short r h1
structure MsgOK (G : Asked) (l : List Rec) (m : Msg) : Prop where
 write : m.kind = 2 → (m.client,m.number,m.object,m.data) ∈ G
 value : m.kind = 5 → Known l m.object m.version m.data
 done : m.kind = 6 → m.version = 0 ∨ ∃ r ∈ l,0 ≤ r.object ∧ r.client = m.client ∧ r.number = m.number ∧ r.version = m.version
 short : m.data.length ≤ 20
theorem MsgOK.more {G : Asked} {l : List Rec} {m : Msg} (h : MsgOK G l m) (r : List Rec) (g : Asked) : MsgOK (g ++ G) (l ++ r) m:=
 ⟨fun e => List.mem_append_right _ (h.write e),fun e => (h.value e).more _,fun e => by
  rcases h.done e with h | ⟨x,h1,h2⟩
  ·exact .inl h
  ·exact .inr ⟨x,List.mem_append_left _ h1,h2⟩,h.short⟩
theorem MsgOK.stamp {G : Asked} {l : List Rec} {m : Msg} (h : MsgOK G l m) (e s : Int) : MsgOK G l { m with epoch:=e,session:=s }:=⟨h.write,h.value,h.done,h.short⟩
theorem msg_plain {G : Asked} {l : List Rec} {m : Msg} (h2 : m.kind ≠ 2) (h5 : m.kind ≠ 5) (h6 : m.kind ≠ 6) (hd : m.data = []) : MsgOK G l m:=⟨fun h => absurd h h2,fun h => absurd h h5,fun h => absurd h h6,by simp [hd]⟩
structure SrvOK (G : Asked) (l : List Rec) (s : Server) : Prop where
 nv : s.values.length = 8
 nq : s.queues.length = 8
 value : ∀ o,o < 8 → s.value o = valIn l o
 queue : ∀ o,o < 8 → ∀ x ∈ s.queue o,(x.client,x.number,(o : Int),x.data) ∈ G
 done : ∀ k m,seek k s.done = some m → m.kind = 6 ∧ MsgOK G l m
structure CallOK (l : List Rec) (c : MCall) : Prop where
 object : isObject c.object = true
 known : c.value.ver = 0 ∨ Known l c.object c.value.ver c.value.data
structure CliOK (G : Asked) (l : List Rec) (b life : Int) (k : Nat) (c : Client) : Prop where
 id : c.id = k
 low : life * 1048576 ≤ c.number
 high : c.number ≤ life * 1048576 + b
 cache : ∀ x ∈ c.cache,Known l x.object x.value.ver x.value.data
 asks : c.busy = true → c.call.kind = 2 → (c.id,c.asked,c.call.object,c.call.value.data) ∈ G
 elder : ∀ n o d,(c.id,n,o,d) ∈ G → n ≤ c.number
 kinds : c.busy = true → (c.call.kind = 1 ∨ c.call.kind = 2) ∧ isObject c.call.object = true
 over : c.busy = false → c.call.kind ≠ 0 → CallOK l c.call
 short : c.call.kind = 2 → c.call.value.data.length ≤ 20
structure EvOK (l : List Rec) (e : MEvent) : Prop where
 object : isObject e.call.object = true
 known : e.ended ≠ 0 → e.call.value.ver = 0 ∨ Known l e.call.object e.call.value.ver e.call.value.data
structure Inv (b : Int) (G : Asked) (w : Realm) : Prop where
 b0 : 0 ≤ b
 few : w.clients.length ≤ 4
 uniq : Uniq G
 recs : RecsOK G w.disk.recs
 net : ∀ g ∈ w.net.l,MsgOK G w.disk.recs g.msg
 server : ∀ s,w.server = some s → SrvOK G w.disk.recs s
 nl : w.lives.length = w.clients.length
 no : w.opens.length = w.clients.length
 lives : ∀ k,k < w.lives.length → 0 ≤ w.lives.getD k 0 ∧ w.lives.getD k 0 ≤ 1000
 clients : ∀ k c,w.clients[k]? = some c → CliOK G w.disk.recs b (w.lives.getD k 0) k c
 events : ∀ e ∈ w.events,EvOK w.disk.recs e
 opens : ∀ k c,w.clients[k]? = some c → 0 ≤ w.opens.getD k (-1) → c.call.kind ≠ 0
theorem seek_put {K V : Type} [DecidableEq K] (k k' : K) (v : V) (l : List (K × V)) : seek k' (put k v l) = if k = k' then some v else seek k' l:=by
 have hd : ∀ l : List (K × V),k ≠ k' → seek k' (del k l) = seek k' l:=by
  intro l hne
  induction l with
  | nil => rfl
  | cons e l ih =>
   obtain ⟨x,u⟩:=e;by_cases h : x = k
   ·subst h;simp [del,seek,ih,hne]
   ·by_cases h2 : x = k'
    ·subst h2;simp [del,seek,h]
    ·simp [del,seek,ih,h,h2]
 by_cases h : k = k'
 ·subst h;simp [put,seek]
 ·simp [put,seek,h,hd l h]
theorem queue_set {s : Server} {o o' : Nat} {q : List Wr} (h : s.queues.length = 8) (ho : o < 8) : Server.queue { s with queues:=s.queues.set o q } o' = if o = o' then q else s.queue o':=by
 simp only [Server.queue,List.getD_eq_getElem?_getD];by_cases e : o = o'
 ·subst e;rw [List.getElem?_set_self (by omega)];simp
 ·rw [List.getElem?_set_ne e];simp [e]
def Good (G : Asked) (d : Disk) (r : List Msg × Disk × Server) : Prop:=
 (∃ x,r.2.1.recs = d.recs ++ x) ∧ RecsOK G r.2.1.recs ∧ SrvOK G r.2.1.recs r.2.2 ∧ ∀ m ∈ r.1,MsgOK G r.2.1.recs m
theorem SrvOK.queues_ {G : Asked} {l : List Rec} {s : Server} (h : SrvOK G l s) {o : Nat} (ho : o < 8) {q : List Wr} (hq : ∀ x ∈ q,(x.client,x.number,(o : Int),x.data) ∈ G) : SrvOK G l { s with queues:=s.queues.set o q }:=by
 refine ⟨h.nv,by simpa using h.nq,h.value,fun o' ho' x hx => ?_,h.done⟩;rw [queue_set h.nq ho] at hx;split at hx
 ·rename_i e;subst e;exact hq x hx
 ·exact h.queue o' ho' x hx
theorem SrvOK.table_ {G : Asked} {l : List Rec} {s : Server} (h : SrvOK G l s) (t : Table) : SrvOK G l { s with table:=t }:=⟨h.nv,h.nq,h.value,h.queue,h.done⟩
theorem SrvOK.now_ {G : Asked} {l : List Rec} {s : Server} (h : SrvOK G l s) (n : Int) : SrvOK G l (s.at_ n):=⟨h.nv,h.nq,h.value,h.queue,h.done⟩
theorem SrvOK.torn_ {G : Asked} {l : List Rec} {s : Server} (h : SrvOK G l s) (n : Int) : SrvOK G l { s with torn:=n }:=⟨h.nv,h.nq,h.value,h.queue,h.done⟩
theorem SrvOK.down_ {G : Asked} {l : List Rec} {s : Server} (h : SrvOK G l s) (n : Bool) : SrvOK G l { s with down:=n }:=⟨h.nv,h.nq,h.value,h.queue,h.done⟩
theorem SrvOK.done_ {G : Asked} {l : List Rec} {s : Server} (h : SrvOK G l s) (k : Int) {m : Msg} (hm : m.kind = 6 ∧ MsgOK G l m) : SrvOK G l { s with done:=put k m s.done }:=
 ⟨h.nv,h.nq,h.value,h.queue,fun k' m' hk => by
  simp only [seek_put] at hk;split at hk
  ·obtain rfl:=Option.some.inj hk;exact hm
  ·exact h.done k' m' hk⟩
theorem SrvOK.applies_ {G : Asked} {l : List Rec} {s : Server} (h : SrvOK G l s) (hr : RecsOK G l) {r : Rec} (h0 : 0 ≤ r.object) (h7 : r.object ≤ 7) (hg : (r.client,r.number,r.object,r.data) ∈ G) (hv : r.version = (valIn l r.object).ver + 1) (hl : l.length < 200) (hsh : r.data.length ≤ 20) :
 RecsOK G (l ++ [r]) ∧ SrvOK G (l ++ [r]) (s.applies r).1 ∧ MsgOK G (l ++ [r]) (s.applies r).2 ∧ (s.applies r).2.kind = 6:=by
 have hm : MsgOK G (l ++ [r]) (s.applies r).2:=⟨fun h => by simp [Server.applies] at h,fun h => by simp [Server.applies] at h,fun _ => .inr ⟨r,by simp,h0,rfl,rfl,rfl⟩,by simp [Server.applies,noMsg]⟩;refine ⟨⟨by simp;omega,hr.vers.add fun _ => hv,?_,?_,?_⟩,⟨by simpa [Server.applies] using h.nv,h.nq,?_,h.queue,?_⟩,hm,rfl⟩
 ·intro x hx hx0;rcases List.mem_append.1 hx with hx | hx
  ·exact hr.asked x hx hx0
  ·obtain rfl:=List.mem_singleton.1 hx;exact hg
 ·intro x hx;rcases List.mem_append.1 hx with hx | hx
  ·exact hr.high x hx
  ·obtain rfl:=List.mem_singleton.1 hx;exact ⟨by omega,h7⟩
 ·intro x hx;rcases List.mem_append.1 hx with hx | hx
  ·exact hr.short x hx
  ·obtain rfl:=List.mem_singleton.1 hx;exact hsh
 ·intro o ho;simp only [Server.applies,Server.value,List.getD_eq_getElem?_getD];by_cases e : r.object.toNat = o
  ·subst e;rw [List.getElem?_set_self (by rw [h.nv];omega)];(have e2 : ((r.object.toNat : Nat) : Int) = r.object:=by omega);simp only [Option.getD_some,e2,valIn,hist_same,List.length_append,List.length_singleton];simp [hv,valIn]
  ·rw [List.getElem?_set_ne e];have:=h.value o ho;simp only [Server.value,List.getD_eq_getElem?_getD] at this;rw [this];simp only [valIn];rw [hist_other _ _ _ (by omega)]
 ·intro k m hk;simp only [Server.applies,seek_put] at hk;split at hk
  ·obtain rfl:=Option.some.inj hk;exact ⟨rfl,hm⟩
  ·obtain ⟨h1,h2⟩:=h.done k m hk;exact ⟨h1,h2.more [r] []⟩
theorem add_ok {d d' : Disk} {down down' : Bool} {r : Rec} {e : Int} (h : d.add down r = (e,d',down')) :
 (e = 0 ∧ d'.recs = d.recs ++ [r] ∧ d.recs.length < 200 ∧ r.right = true ∧ down = false ∧ down' = false) ∨ (e ≠ 0 ∧ d'.recs = d.recs ∧ (e ≠ 14 → down' = down)):=by
 unfold Disk.add at h;split at h
 ·(obtain ⟨rfl,rfl,rfl⟩ : 6 = e ∧ d = d' ∧ down = down':=by simpa using h);exact .inr ⟨by decide,rfl,fun _ => rfl⟩
 ·rename_i hd;split at h
  ·(obtain ⟨rfl,rfl,rfl⟩ : 1 = e ∧ d = d' ∧ down = down':=by simpa using h);exact .inr ⟨by decide,rfl,fun _ => rfl⟩
  ·rename_i hr;split at h
   ·(obtain ⟨rfl,rfl,rfl⟩ : 12 = e ∧ d = d' ∧ down = down':=by simpa using h);exact .inr ⟨by decide,rfl,fun _ => rfl⟩
   ·split at h
    ·(obtain ⟨rfl,rfl,rfl⟩ : 14 = e ∧ d = d' ∧ true = down':=by simpa using h);exact .inr ⟨by decide,rfl,fun h => absurd rfl h⟩
    ·(obtain ⟨rfl,rfl,rfl⟩ : 0 = e ∧ { d with recs:=d.recs ++ [r],left:=wrap64 (d.left - 1) } = d' ∧ down = down':=by simpa using h);exact .inl ⟨rfl,rfl,by omega,by simpa using hr,by simpa using hd,by simpa using hd⟩
theorem right_short {r : Rec} (h : r.right = true) (ho : r.object ≠ -1) : r.data.length ≤ 20:=by
 unfold Rec.right at h;rw [if_neg ho] at h;simp only [Bool.and_eq_true,decide_eq_true_eq] at h;exact h.1.2
theorem answer_ok {G : Asked} {l : List Rec} {s : Server} (h : SrvOK G l s) (hr : RecsOK G l) {r : Rec} (h0 : 0 ≤ r.object) (h7 : r.object ≤ 7) (hg : (r.client,r.number,r.object,r.data) ∈ G) (hv : r.version = (valIn l r.object).ver + 1) {e : Int} {l' : List Rec}
 (he : (e = 0 ∧ l' = l ++ [r] ∧ l.length < 200 ∧ r.data.length ≤ 20) ∨ (e ≠ 0 ∧ l' = l)) : RecsOK G l' ∧ SrvOK G l' (s.answer e r).1 ∧ MsgOK G l' (s.answer e r).2:=by
 unfold Server.answer;rcases he with ⟨rfl,rfl,hl,hsh⟩ | ⟨he,rfl⟩
 ·obtain ⟨k1,k2,k3,_⟩:=h.applies_ hr h0 h7 hg hv hl hsh;exact ⟨k1,k2,k3⟩
 ·rw [if_neg he];have hm6 : MsgOK G l' { noMsg with kind:=6,client:=r.client,number:=r.number,object:=r.object }:=⟨fun h => by simp at h,fun h => by simp at h,fun _ => .inl rfl,by simp [noMsg]⟩;exact ⟨hr,h.done_ r.client ⟨rfl,hm6⟩,hm6⟩
theorem inval_ok {G : Asked} {l : List Rec} (s : Server) (c : Int) (o : Nat) : MsgOK G l (s.inval c o):=msg_plain (by simp [Server.inval,Server.stamp]) (by simp [Server.inval,Server.stamp]) (by simp [Server.inval,Server.stamp]) rfl
theorem flushMsg_ok {G : Asked} {l : List Rec} (s : Server) (c : Int) : MsgOK G l (s.flushMsg c):=msg_plain (by simp [Server.flushMsg,Server.stamp]) (by simp [Server.flushMsg,Server.stamp]) (by simp [Server.flushMsg,Server.stamp]) rfl
theorem store_ok {G : Asked} {d : Disk} {s : Server} (h : SrvOK G d.recs s) (hr : RecsOK G d.recs) {o : Nat} (ho : o < 8) {x : Wr} {rest : List Wr} (hq : ∀ y ∈ x :: rest,(y.client,y.number,(o : Int),y.data) ∈ G) {out : List Msg} (hout : ∀ m ∈ out,MsgOK G d.recs m) :
 Good G d (s.store d o x rest out).2:=by
 have hval : s.value o = valIn d.recs o:=h.value o ho;have hlen:=hist_le d.recs o;have hlen2:=hr.len
 have hv : wrap64 ((s.value o).ver + 1) = (valIn d.recs o).ver + 1:=by
  rw [hval,w64]
  ·simp only [valIn];omega
  ·simp only [valIn];omega
 unfold Server.store;simp only [hv];generalize hp : d.add s.down ⟨x.client,x.number,o,(valIn d.recs o).ver + 1,x.data,0⟩ = p;obtain ⟨e,d',down'⟩:=p;have ha:=add_ok hp;have h3:=h.down_ down';simp only;generalize ({ s with down:=down' } : Server) = s3 at h3 ⊢;split
 ·rename_i he;rcases ha with ⟨h0,_⟩ | ⟨_,hrecs,_⟩
  ·rw [h0] at he;cases he
  ·exact ⟨⟨[],by simp [hrecs]⟩,by simpa [hrecs] using hr,by simpa [hrecs] using h3,fun m hm => by cases hm⟩
 ·obtain ⟨k1,k2,k3⟩:=answer_ok h3 hr (r:=⟨x.client,x.number,o,(valIn d.recs o).ver + 1,x.data,0⟩) (by simp) (by simp;omega) (hq x (by simp)) rfl (e:=e) (l':=d'.recs) (by
   rcases ha with ⟨h1,h2,h3,h4,_⟩ | ⟨h1,h2,_⟩
   ·exact .inl ⟨h1,h2,h3,right_short h4 (show ((o : Nat) : Int) ≠ -1 by omega)⟩
   ·exact .inr ⟨h1,h2⟩)
  have hx : ∃ y,d'.recs = d.recs ++ y:=by
   rcases ha with ⟨_,h2,_⟩ | ⟨_,h2,_⟩
   ·exact ⟨_,h2⟩
   ·exact ⟨[],by simp [h2]⟩
  generalize s3.answer e ⟨x.client,x.number,o,(valIn d.recs o).ver + 1,x.data,0⟩ = a at k2 k3 ⊢;refine ⟨hx,k1,k2.queues_ ho fun y hy => hq y (by simp [hy]),?_⟩;intro m hm;rcases List.mem_append.1 hm with hm | hm
  ·obtain ⟨y,hy⟩:=hx;rw [hy];exact (hout m hm).more _ []
  ·obtain rfl:=List.mem_singleton.1 hm;exact k3.stamp _ _
theorem goOne_ok {G : Asked} {d : Disk} {s : Server} (h : SrvOK G d.recs s) (hr : RecsOK G d.recs) {o : Nat} (ho : o < 8) {x : Wr} {rest : List Wr} (hq : s.queue o = x :: rest) {out : List Msg} (hout : ∀ m ∈ out,MsgOK G d.recs m) :
 Good G d (s.goOne d o x rest out).2:=by
 have hq' : ∀ y ∈ x :: rest,(y.client,y.number,(o : Int),y.data) ∈ G:=fun y hy => h.queue o ho y (by rw [hq];exact hy)
 have hout2 : ∀ m ∈ (if x.begun then out else out ++ (s.table.holders o s.now).map fun c => s.inval c o),MsgOK G d.recs m:=by
  split
  ·exact hout
  ·intro m hm;rcases List.mem_append.1 hm with hm | hm
   ·exact hout m hm
   ·obtain ⟨c,_,rfl⟩:=List.mem_map.1 hm;exact inval_ok _ _ _
 have h1 : SrvOK G d.recs { s with queues:=s.queues.set o ({ x with begun:=true } :: rest) }:=h.queues_ ho fun y hy => by
  rcases List.mem_cons.1 hy with rfl | hy
  ·exact hq' x (by simp)
  ·exact hq' y (by simp [hy])
 unfold Server.goOne;simp only;split
 ·exact ⟨⟨[],by simp⟩,hr,h1,hout2⟩
 ·exact store_ok (h1.table_ _) hr ho hq' hout2
theorem goesF_ok {G : Asked} {o : Nat} (ho : o < 8) : ∀ (f : Nat) {d : Disk} {s : Server} (_ : SrvOK G d.recs s) (_ : RecsOK G d.recs) {out : List Msg} (_ : ∀ m ∈ out,MsgOK G d.recs m),Good G d (Server.goesF f d s o out)
 | 0,d,s,h,hr,out,hout => ⟨⟨[],by simp [Server.goesF]⟩,hr,h,hout⟩
 | f + 1,d,s,h,hr,out,hout => by
  unfold Server.goesF
  cases hq : s.queue o with
  | nil => exact ⟨⟨[],by simp⟩,hr,h,hout⟩
  | cons x rest =>
   simp only;split
   ·exact ⟨⟨[],by simp⟩,hr,h,hout⟩
   ·have g:=goOne_ok h hr ho hq hout;split
    ·obtain ⟨⟨y,hy⟩,g2,g3,g4⟩:=g;obtain ⟨⟨z,hz⟩,k2,k3,k4⟩:=goesF_ok ho f g3 g2 g4;exact ⟨⟨y ++ z,by rw [hz,hy,List.append_assoc]⟩,k2,k3,k4⟩
    ·exact g
theorem goes_ok {G : Asked} {o : Nat} (ho : o < 8) {d : Disk} {s : Server} (h : SrvOK G d.recs s) (hr : RecsOK G d.recs) : Good G d (Server.goes d s o):=
 goesF_ok ho _ h hr (fun m hm => by cases hm)
theorem Good.here {G : Asked} {d : Disk} {s : Server} (h : SrvOK G d.recs s) (hr : RecsOK G d.recs) {l : List Msg} (hl : ∀ m ∈ l,MsgOK G d.recs m) : Good G d (l,d,s):=⟨⟨[],by simp⟩,hr,h,hl⟩
theorem isObject_lt {o : Int} (h : isObject o = true) : 0 ≤ o ∧ o.toNat < 8 ∧ ((o.toNat : Nat) : Int) = o:=by
 simp only [isObject,inR,Bool.and_eq_true,decide_eq_true_eq] at h;omega
theorem take_ok {G : Asked} {d : Disk} {s : Server} (h : SrvOK G d.recs s) (hr : RecsOK G d.recs) (now : Int) {m : Msg} (hm : MsgOK G d.recs m) : Good G d (Server.take d s now m):=by
 unfold Server.take;split
 ·exact .here h hr (fun m hm => by cases hm)
 ·rename_i hc;simp only [Bool.or_eq_true,Bool.not_eq_true',not_or,Bool.not_eq_false] at hc;obtain ⟨ho1,ho2,ho3⟩:=isObject_lt hc.2;have h1:=h.now_ now;generalize s.at_ now = s1 at h1;simp only;split
  ·
   have hv : MsgOK G d.recs (s1.stamp { noMsg with kind:=5,client:=m.client,number:=m.number,object:=m.object,version:=(s1.value m.object.toNat).ver,data:=(s1.value m.object.toNat).data }):=by
    refine ⟨fun h => by simp [Server.stamp] at h,fun _ => ?_,fun h => by simp [Server.stamp] at h,?_⟩
    ·simp only [Server.stamp];rw [h1.value _ ho2,ho3];exact valIn_known _ _
    ·simp only [Server.stamp];rw [h1.value _ ho2];exact valIn_short hr _
   unfold Server.reads;simp only;split
   ·exact .here h1 hr (by
     intro x hx;rcases List.mem_cons.1 hx with rfl | hx
     ·exact hv
     ·obtain rfl:=List.mem_singleton.1 hx;exact flushMsg_ok _ _)
   ·split
    ·exact .here (h1.table_ _) hr (by
      intro x hx;obtain rfl:=List.mem_singleton.1 hx
      exact ⟨hv.write,hv.value,hv.done,hv.short⟩)
    ·exact .here h1 hr (by
      intro x hx;obtain rfl:=List.mem_singleton.1 hx
      exact hv)
  ·split
   ·
    rename_i hk
    have hen : Good G d (Server.enqueue d s1 m):=by
     unfold Server.enqueue;simp only;split
     ·exact .here h1 hr (fun m hm => by cases hm)
     ·split
      ·exact .here h1 hr (fun m hm => by cases hm)
      ·refine goes_ok ho2 (h1.queues_ ho2 fun y hy => ?_) hr;rcases List.mem_append.1 hy with hy | hy
       ·exact h1.queue _ ho2 y hy
       ·obtain rfl:=List.mem_singleton.1 hy;rw [ho3];exact hm.write hk
    unfold Server.writes;split
    ·rename_i x hx;split
     ·split
      ·exact .here h1 hr (fun m hm => by cases hm)
      ·exact .here h1 hr (by
        intro y hy;obtain rfl:=List.mem_singleton.1 hy
        exact (h1.done _ _ hx).2.stamp _ _)
     ·exact hen
    ·exact hen
   ·split
    ·
     unfold Server.renews;split
     ·exact .here h1 hr (by
       intro y hy;obtain rfl:=List.mem_singleton.1 hy
       exact flushMsg_ok _ _)
     ·simp only;split
      ·exact .here h1 hr (by
        intro y hy;obtain ⟨k,_,rfl⟩:=List.mem_map.1 hy
        exact inval_ok _ _ _)
      ·exact .here (h1.table_ _) hr (by
        intro y hy;obtain rfl:=List.mem_singleton.1 hy
        exact msg_plain (by simp [Server.stamp]) (by simp [Server.stamp]) (by simp [Server.stamp]) rfl)
    ·split
     ·
      unfold Server.acked;simp only;split
      ·exact .here h1 hr (fun m hm => by cases hm)
      ·exact goes_ok ho2 (h1.table_ _) hr
     ·exact .here h1 hr (fun m hm => by cases hm)
theorem tickF_ok {G : Asked} : ∀ (ks : List Nat) {d : Disk} {s : Server} (_ : ∀ k ∈ ks,k < 8) (_ : SrvOK G d.recs s) (_ : RecsOK G d.recs) {out : List Msg} (_ : ∀ m ∈ out,MsgOK G d.recs m),Good G d (Server.tickF ks d s out)
 | [],d,s,_,h,hr,out,hout => .here h hr hout
 | k :: ks,d,s,hk,h,hr,out,hout => by
  unfold Server.tickF;obtain ⟨⟨y,hy⟩,g2,g3,g4⟩:=goes_ok (hk k (by simp)) h hr
  obtain ⟨⟨z,hz⟩,k2,k3,k4⟩:=tickF_ok ks (fun x hx => hk x (by simp [hx])) g3 g2 (out:=out ++ (Server.goes d s k).1) (by
   intro m hm;rcases List.mem_append.1 hm with hm | hm
   ·rw [hy];exact (hout m hm).more _ []
   ·exact g4 m hm)
  exact ⟨⟨y ++ z,by rw [hz,hy,List.append_assoc]⟩,k2,k3,k4⟩
theorem tick_ok {G : Asked} {d : Disk} {s : Server} (h : SrvOK G d.recs s) (hr : RecsOK G d.recs) (now : Int) : Good G d (Server.tick d s now):=by
 unfold Server.tick;split
 ·exact .here h hr (fun m hm => by cases hm)
 ·exact tickF_ok _ (fun k hk => by simpa using hk) (h.now_ now) hr (fun m hm => by cases hm)
structure RepOK (G : Asked) (l a : List Rec) (s : Server) : Prop where
 nv : s.values.length = 8
 nq : s.queues.length = 8
 value : ∀ o,o < 8 → s.value o = valIn a o
 queue : ∀ o,o < 8 → s.queue o = []
 done : ∀ k m,seek k s.done = some m → m.kind = 6 ∧ MsgOK G l m
theorem replay_ok {G : Asked} {l : List Rec} (hr : RecsOK G l) : ∀ (b a : List Rec) {s : Server} (_ : a ++ b = l) (_ : RepOK G l a s),RepOK G l l (s.replay b)
 | [],a,s,e,h => by
  (obtain rfl : a = l:=by simpa using e);exact h
 | r :: b,a,s,e,h => by
  unfold Server.replay;(have hmem : r ∈ l:=by rw [← e];simp);split
  ·rename_i ho;refine replay_ok hr b (a ++ [r]) (by simpa using e) ⟨h.nv,h.nq,fun o hlt => ?_,h.queue,h.done⟩;have:=h.value o hlt;simp only [Server.value] at this ⊢;rw [this];simp only [valIn];rw [hist_other _ _ _ (by omega)]
  ·rename_i ho;have hv:=hr.vers a r b e.symm (by omega);have h7:=(hr.high r hmem).2;refine replay_ok hr b (a ++ [r]) (by simpa using e) ⟨by simpa [Server.applies] using h.nv,h.nq,fun o hlt => ?_,h.queue,fun k m hk => ?_⟩
   ·simp only [Server.applies,Server.value,List.getD_eq_getElem?_getD];by_cases e : r.object.toNat = o
    ·subst e;rw [List.getElem?_set_self (by rw [h.nv];omega)];(have e2 : ((r.object.toNat : Nat) : Int) = r.object:=by omega);simp only [Option.getD_some,e2,valIn,hist_same,List.length_append,List.length_singleton];simp [hv]
    ·rw [List.getElem?_set_ne e];have:=h.value o hlt;simp only [Server.value,List.getD_eq_getElem?_getD] at this;rw [this];simp only [valIn];rw [hist_other _ _ _ (by omega)]
   ·simp only [Server.applies,seek_put] at hk;split at hk
    ·obtain rfl:=Option.some.inj hk;exact ⟨rfl,fun h => by simp at h,fun h => by simp at h,fun _ => .inr ⟨r,hmem,by omega,rfl,rfl,rfl⟩,by simp [noMsg]⟩
    ·exact h.done k m hk
theorem new_ok {G : Asked} {d : Disk} (hr : RecsOK G d.recs) (t : Terms) (now : Int) :
 (∃ x,(Server.new t d now).2.1.recs = d.recs ++ x) ∧ RecsOK G (Server.new t d now).2.1.recs ∧ ∀ s,(Server.new t d now).2.2 = some s → SrvOK G (Server.new t d now).2.1.recs s:=by
 unfold Server.new;split
 ·exact ⟨⟨[],by simp⟩,hr,fun s h => by cases h⟩
 ·have h0 : RepOK G d.recs [] (Server.blank t now):=by
   refine ⟨by simp [Server.blank],by simp [Server.blank],fun o ho => ?_,fun o ho => ?_,fun k m hk => by simp [Server.blank,seek] at hk⟩
   ·simp only [Server.blank,Server.value,List.getD_eq_getElem?_getD];rw [List.getElem?_replicate,if_pos ho];rfl
   ·simp only [Server.blank,Server.queue,List.getD_eq_getElem?_getD];rw [List.getElem?_replicate,if_pos ho];rfl
  have h1:=replay_ok hr d.recs [] (by simp) h0;generalize (Server.blank t now).replay d.recs = s1 at h1 ⊢;have h2 : SrvOK G d.recs s1:=⟨h1.nv,h1.nq,h1.value,(fun o ho x hx => by rw [h1.queue o ho] at hx;cases hx),h1.done⟩
  have h3 : SrvOK G d.recs (if 1 < (wrap64 (s1.epoch + 1)) then { s1 with epoch:=wrap64 (s1.epoch + 1),quiet:=now + t.volume } else { s1 with epoch:=wrap64 (s1.epoch + 1) }):=by
   split
   ·exact ⟨h2.nv,h2.nq,h2.value,h2.queue,h2.done⟩
   ·exact ⟨h2.nv,h2.nq,h2.value,h2.queue,h2.done⟩
  simp only;(have hep : (if 1 < wrap64 (s1.epoch + 1) then ({ s1 with epoch:=wrap64 (s1.epoch + 1),quiet:=now + t.volume } : Server) else { s1 with epoch:=wrap64 (s1.epoch + 1) }).epoch = wrap64 (s1.epoch + 1):=by split <;> rfl);rw [hep];generalize hp : d.add false ⟨0,0,-1,0,[],wrap64 (s1.epoch + 1)⟩ = p;obtain ⟨e,d',down'⟩:=p
  generalize (if 1 < wrap64 (s1.epoch + 1) then ({ s1 with epoch:=wrap64 (s1.epoch + 1),quiet:=now + t.volume } : Server) else { s1 with epoch:=wrap64 (s1.epoch + 1) }) = s2 at h3 ⊢
  simp only;rcases add_ok hp with ⟨rfl,hrecs,hl,_⟩ | ⟨he,hrecs,_⟩
  ·have hr' : RecsOK G d'.recs:=by
    rw [hrecs];refine ⟨by simp;omega,hr.vers.add fun h => absurd h (by simp),?_,?_,?_⟩
    ·intro x hx hx0;rcases List.mem_append.1 hx with hx | hx
     ·exact hr.asked x hx hx0
     ·obtain rfl:=List.mem_singleton.1 hx;exact absurd hx0 (by simp)
    ·intro x hx;rcases List.mem_append.1 hx with hx | hx
     ·exact hr.high x hx
     ·obtain rfl:=List.mem_singleton.1 hx;exact ⟨by simp,by simp⟩
    ·intro x hx;rcases List.mem_append.1 hx with hx | hx
     ·exact hr.short x hx
     ·obtain rfl:=List.mem_singleton.1 hx;simp
   simp only [if_true];refine ⟨⟨_,hrecs⟩,hr',fun s hs => ?_⟩;obtain rfl:=Option.some.inj hs;rw [hrecs];refine ⟨h3.nv,h3.nq,fun o ho => ?_,h3.queue,fun k m hk => ⟨(h3.done k m hk).1,(h3.done k m hk).2.more _ []⟩⟩;rw [h3.value o ho];simp only [valIn];rw [hist_other _ _ _ (by simp)]
  ·rw [if_neg he];exact ⟨⟨[],by simp [hrecs]⟩,by simpa [hrecs] using hr,fun s h => by cases h⟩
theorem drop_mem {c : Cache} {o : Int} {x : MItem} (h : x ∈ c.drop o) : x ∈ c:=List.mem_of_mem_eraseP h
theorem cput_mem {c : Cache} {o u : Int} {v : Val} {x : MItem} (h : x ∈ c.put o v u) : x ∈ c ∨ x = ⟨o,v,u⟩:=by
 unfold Cache.put at h;simp only at h;rcases List.mem_append.1 h with h | h
 ·left;split at h
  ·exact drop_mem (List.mem_of_mem_drop h)
  ·exact drop_mem h
 ·right;exact List.mem_singleton.1 h
theorem cget_mem {c : Cache} {o : Int} {x : MItem} {k : Cache} (h : c.get o = (some x,k)) : x ∈ c ∧ x.object = o ∧ ∀ y ∈ k,y ∈ c:=by
 unfold Cache.get at h;split at h
 ·rename_i y hy;(obtain ⟨rfl,rfl⟩ : y = x ∧ c.drop o ++ [y] = k:=by simpa using h);have hm:=List.mem_of_find?_eq_some hy;refine ⟨hm,by simpa using List.find?_some hy,fun z hz => ?_⟩;rcases List.mem_append.1 hz with hz | hz
  ·exact drop_mem hz
  ·obtain rfl:=List.mem_singleton.1 hz;exact hm
 ·cases (Prod.mk.inj h).1
theorem CliOK.more {G g : Asked} {l x : List Rec} {b b' life : Int} {k : Nat} {c : Client} (h : CliOK G l b life k c) (hb : b ≤ b') (hg : ∀ y ∈ g,y.1 ≠ k) : CliOK (g ++ G) (l ++ x) b' life k c:=
 ⟨h.id,h.low,by have:=h.high;omega,fun y hy => (h.cache y hy).more _,fun h1 h2 => List.mem_append_right _ (h.asks h1 h2),
  fun n o d hm => by
   rcases List.mem_append.1 hm with hm | hm
   ·exact absurd h.id (hg _ hm)
   ·exact h.elder n o d hm,
  h.kinds,fun h1 h2 => ⟨(h.over h1 h2).object,(h.over h1 h2).known.imp (fun h => h) fun h => h.more _⟩,h.short⟩
theorem asks_ok {G : Asked} {l : List Rec} {b life : Int} {k : Nat} {c : Client} (h : CliOK G l b life k c) : ∀ m ∈ c.asks,MsgOK G l m:=by
 intro m hm;unfold Client.asks at hm;split at hm
 ·rename_i hb;obtain rfl:=List.mem_singleton.1 hm;rcases (h.kinds hb).1 with hk | hk
  ·exact msg_plain (by simp [Client.stamp,hk]) (by simp [Client.stamp,hk]) (by simp [Client.stamp,hk]) (by simp [Client.stamp,hk])
  ·refine ⟨fun _ => ?_,fun h => by simp [Client.stamp,hk] at h,fun h => by simp [Client.stamp,hk] at h,?_⟩
   ·simpa [Client.stamp,hk] using h.asks hb hk
   ·simpa [Client.stamp,hk] using h.short hk
 ·cases hm
theorem again_ok {G : Asked} {l : List Rec} {b life : Int} {k : Nat} {c : Client} (h : CliOK G l b life k c) (hb0 : 0 ≤ b) (hb : b ≤ 1000000) (hl0 : 0 ≤ life) (hl : life ≤ 1000) :
 (∀ m ∈ c.again.1,MsgOK G l m) ∧ CliOK G l (b + 1) life k c.again.2 ∧ c.again.2.call = c.call:=by
 have hlow:=h.low;have hhigh:=h.high;have hn : wrap64 (c.number + 1) = c.number + 1:=w64 (by omega) (by omega);unfold Client.again;split
 ·simp only [hn]
  have h2 : CliOK G l (b + 1) life k { c with number:=c.number + 1,renewal:=c.number + 1,renewed:=c.now }:=
   ⟨h.id,by simp only;omega,by simp only;omega,h.cache,h.asks,fun n o d hm => by have:=h.elder n o d hm;simp only;omega,h.kinds,h.over,h.short⟩
  refine ⟨fun m hm => ?_,h2,trivial⟩;rcases List.mem_append.1 hm with hm | hm
  ·obtain rfl:=List.mem_singleton.1 hm;exact msg_plain (by simp [Client.stamp]) (by simp [Client.stamp]) (by simp [Client.stamp]) rfl
  ·exact asks_ok h2 m hm
 ·exact ⟨asks_ok h,⟨h.id,h.low,(by show c.number ≤ _;omega),h.cache,h.asks,h.elder,h.kinds,h.over,h.short⟩,rfl⟩
theorem ask_ok {G : Asked} {l : List Rec} {b life : Int} {k : Nat} {c : Client} (hid : c.id = k) (hlow : life * 1048576 ≤ c.number) (hhigh : c.number ≤ life * 1048576 + b) (hb0 : 0 ≤ b) (hb : b < 1000000) (hl0 : 0 ≤ life) (hl : life ≤ 1000)
 (hcache : ∀ x ∈ c.cache,Known l x.object x.value.ver x.value.data) (hk : c.call.kind = 1 ∨ c.call.kind = 2) (ho : isObject c.call.object = true)
 (hg : c.call.kind = 2 → (c.id,c.number + 1,c.call.object,c.call.value.data) ∈ G) (he : ∀ n o d,(c.id,n,o,d) ∈ G → n ≤ c.number + 1) (hsh : c.call.kind = 2 → c.call.value.data.length ≤ 20) :
 (∀ m ∈ c.ask.1,MsgOK G l m) ∧ CliOK G l (b + 2) life k c.ask.2 ∧ c.ask.2.call = c.call:=by
 have hn : wrap64 (c.number + 1) = c.number + 1:=w64 (by omega) (by omega)
 have hbusy : Client.busy { c with number:=c.number + 1,asked:=c.number + 1,sent:=c.now } = true:=by
  simp only [Client.busy,decide_eq_true_eq];omega
 have h : CliOK G l (b + 1) life k { c with number:=c.number + 1,asked:=c.number + 1,sent:=c.now }:=
  ⟨hid,(by show _ ≤ c.number + 1;omega),(by show c.number + 1 ≤ _;omega),hcache,fun _ h2 => hg h2,fun n o d hm => he n o d hm,fun _ => ⟨hk,ho⟩,(fun h => by rw [hbusy] at h;cases h),hsh⟩
 unfold Client.ask;simp only [hn];obtain ⟨k1,k2,k3⟩:=again_ok h (by omega) (by omega) hl0 hl;exact ⟨k1,⟨k2.id,k2.low,by have:=k2.high;omega,k2.cache,k2.asks,k2.elder,k2.kinds,k2.over,k2.short⟩,k3⟩
theorem read_ok {G : Asked} {l : List Rec} {b life : Int} {k : Nat} {c : Client} (h : CliOK G l b life k c) (hb0 : 0 ≤ b) (hb : b < 1000000) (hl0 : 0 ≤ life) (hl : life ≤ 1000) (o : Int) :
 (∀ m ∈ (c.read o).2.1,MsgOK G l m) ∧ CliOK G l (b + 2) life k (c.read o).2.2 ∧ ((c.read o).1 = 0 → (c.read o).2.2.call.kind ≠ 0 ∧ isObject (c.read o).2.2.call.object = true) ∧ ((c.read o).1 ≠ 0 → (c.read o).2.2 = c):=by
 have hm : CliOK G l (b + 2) life k c:=⟨h.id,h.low,by have:=h.high;omega,h.cache,h.asks,h.elder,h.kinds,h.over,h.short⟩;unfold Client.read;split
 ·exact ⟨(fun m hm => by cases hm),hm,fun h => absurd h (by simp),fun _ => rfl⟩
 ·split
  ·exact ⟨(fun m hm => by cases hm),hm,fun h => absurd h (by simp),fun _ => rfl⟩
  ·rename_i hnb ho;(have ho : isObject o = true:=by simpa using ho);simp only;split
   ·rename_i x kk hget;obtain ⟨hx,hxo,hkk⟩:=cget_mem hget;split
    ·refine ⟨(fun m hm => by cases hm),⟨h.id,h.low,(by show c.number ≤ _;have:=h.high;omega),fun y hy => h.cache y (hkk y hy),fun hb2 => absurd hb2 hnb,h.elder,fun hb2 => absurd hb2 hnb,fun _ _ => ⟨ho,.inr ?_⟩,fun h => by simp at h⟩,fun _ => ⟨by simp,ho⟩,fun h => absurd rfl h⟩;have:=h.cache x hx;rw [hxo] at this;exact this
    ·obtain ⟨k1,k2,k3⟩:=ask_ok (G:=G) (l:=l) (b:=b) (life:=life) (k:=k) (c:={ c with call:=⟨1,o,noVal,false,false⟩,cache:=kk }) h.id h.low h.high hb0 hb hl0 hl (fun y hy => h.cache y (hkk y hy)) (.inl rfl) ho (fun h => by simp at h) (fun n o d hm => by have:=h.elder n o d hm;simp only;omega) (fun h => by simp at h);exact ⟨k1,k2,fun _ => by simp only [k3];exact ⟨by simp,ho⟩,fun h => absurd rfl h⟩
   ·obtain ⟨k1,k2,k3⟩:=ask_ok (G:=G) (l:=l) (b:=b) (life:=life) (k:=k) (c:={ c with call:=⟨1,o,noVal,false,false⟩ }) h.id h.low h.high hb0 hb hl0 hl h.cache (.inl rfl) ho (fun h => by simp at h) (fun n o d hm => by have:=h.elder n o d hm;simp only;omega) (fun h => by simp at h);exact ⟨k1,k2,fun _ => by simp only [k3];exact ⟨by simp,ho⟩,fun h => absurd rfl h⟩
theorem write_ok {G : Asked} {l : List Rec} {b life : Int} {k : Nat} {c : Client} (h : CliOK G l b life k c) (hb0 : 0 ≤ b) (hb : b < 1000000) (hl0 : 0 ≤ life) (hl : life ≤ 1000) (o : Int) (data : Bytes) (hu : Uniq G) (hk3 : k ≤ 3) :
 ∃ g : Asked,(∀ y ∈ g,y.1 = k) ∧ Uniq (g ++ G) ∧ (∀ m ∈ (c.write o data).2.1,MsgOK (g ++ G) l m) ∧ CliOK (g ++ G) l (b + 2) life k (c.write o data).2.2 ∧ ((c.write o data).1 = 0 → (c.write o data).2.2.call.kind ≠ 0 ∧ isObject (c.write o data).2.2.call.object = true) ∧ ((c.write o data).1 ≠ 0 → (c.write o data).2.2 = c):=by
 have hm : CliOK G l (b + 2) life k c:=⟨h.id,h.low,by have:=h.high;omega,h.cache,h.asks,h.elder,h.kinds,h.over,h.short⟩;unfold Client.write;split
 ·exact ⟨[],(fun y hy => by cases hy),hu,(fun m hm => by cases hm),hm,fun h => absurd h (by simp),fun _ => rfl⟩
 ·split
  ·exact ⟨[],(fun y hy => by cases hy),hu,(fun m hm => by cases hm),hm,fun h => absurd h (by simp),fun _ => rfl⟩
  ·split
   ·exact ⟨[],(fun y hy => by cases hy),hu,(fun m hm => by cases hm),hm,fun h => absurd h (by simp),fun _ => rfl⟩
   ·rename_i hnb ho hsh;(have ho : isObject o = true:=by simpa using ho);refine ⟨[(c.id,c.number + 1,o,data)],fun y hy => ?_,?_,?_⟩
    ·obtain rfl:=List.mem_singleton.1 hy;exact h.id
    ·refine ⟨fun a n o1 d1 o2 d2 h1 h2 => ?_,fun a n o1 d1 h1 => ?_⟩
     rotate_left
     ·rcases List.mem_append.1 h1 with h1 | h1
      ·have e1:=List.mem_singleton.1 h1;simp only [Prod.mk.injEq] at e1;obtain ⟨rfl,rfl,rfl,rfl⟩:=e1;have h2:=h.id;have h3:=h.low;have h4:=h.high;obtain ⟨o3,o4,o5⟩:=isObject_lt ho;exact ⟨by omega,by omega,by omega,by omega⟩
      ·exact hu.small a n o1 d1 h1
     rcases List.mem_append.1 h1 with h1 | h1 <;> rcases List.mem_append.1 h2 with h2 | h2
     ·have e1:=List.mem_singleton.1 h1;have e2:=List.mem_singleton.1 h2;simp only [Prod.mk.injEq] at e1 e2;exact ⟨e1.2.2.1.trans e2.2.2.1.symm,e1.2.2.2.trans e2.2.2.2.symm⟩
     ·have e1:=List.mem_singleton.1 h1;simp only [Prod.mk.injEq] at e1;have:=h.elder n o2 d2 (by rw [← e1.1];exact h2);omega
     ·have e1:=List.mem_singleton.1 h2;simp only [Prod.mk.injEq] at e1;have:=h.elder n o1 d1 (by rw [← e1.1];exact h1);omega
     ·exact hu.same a n o1 d1 o2 d2 h1 h2
    ·obtain ⟨k1,k2,k3⟩:=ask_ok (G:=[(c.id,c.number + 1,o,data)] ++ G) (l:=l) (b:=b) (life:=life) (k:=k) (c:={ c with call:=⟨2,o,⟨data,0⟩,false,false⟩ }) h.id h.low h.high hb0 hb hl0 hl h.cache (.inr rfl) ho (fun _ => by simp) (fun n o d hm => by
      rcases List.mem_append.1 hm with hm | hm
      ·have e1:=List.mem_singleton.1 hm;simp only [Prod.mk.injEq] at e1;simp only;omega
      ·have:=h.elder n o d hm;simp only;omega) (fun _ => by simp only;omega)
     exact ⟨k1,k2,fun _ => by simp only [k3];exact ⟨by simp,ho⟩,fun h => absurd rfl h⟩
theorem ctake_ok {G : Asked} {l : List Rec} {b life : Int} {k : Nat} {c : Client} (h : CliOK G l b life k c) (hr : RecsOK G l) (hu : Uniq G) {m : Msg} (hm : MsgOK G l m) :
 (∀ x ∈ (c.take m).1,MsgOK G l x) ∧ CliOK G l b life k (c.take m).2 ∧ (c.take m).2.call.kind = c.call.kind:=by
 (have hno : ∀ x ∈ ([] : List Msg),MsgOK G l x:=fun x hx => by cases hx);unfold Client.take;split
 ·exact ⟨hno,h,rfl⟩
 ·rename_i hc;simp only [Bool.or_eq_true,Bool.not_eq_true',not_or,Bool.not_eq_false,decide_eq_true_eq] at hc;simp only;split
  ·
   rename_i hk;refine ⟨hno,?_⟩;unfold Client.takesValue;split
   ·exact ⟨h,rfl⟩
   ·rename_i hcond;simp only [Bool.or_eq_true,Bool.not_eq_true',not_or,Bool.not_eq_false,decide_eq_true_eq] at hcond;obtain ⟨⟨⟨h1,h2⟩,h3⟩,h4⟩:=hcond;have hkn:=hm.value hk;simp only
    have hcc : CliOK G l b life k { c with seen:=put m.object (max (c.seenOf m.object) m.version) c.seen,call:={ c.call with value:=⟨m.data,m.version⟩,over:=true },asked:=0 }:=by
     refine ⟨h.id,h.low,h.high,h.cache,fun hb => ?_,h.elder,fun hb => ?_,fun _ _ => ⟨(h.kinds h1).2,.inr ?_⟩,fun h => ?_⟩
     ·simp [Client.busy] at hb
     ·simp [Client.busy] at hb
     ·rw [show ({ c.call with value:=⟨m.data,m.version⟩,over:=true } : MCall).object = m.object from h4];exact hkn
     ·have e1 : c.call.kind = 2:=h;omega
    split
    ·refine ⟨⟨hcc.id,hcc.low,hcc.high,fun x hx => ?_,hcc.asks,hcc.elder,hcc.kinds,hcc.over,hcc.short⟩,rfl⟩;rcases cput_mem hx with hx | rfl
     ·exact h.cache x hx
     ·exact hkn
    ·exact ⟨hcc,rfl⟩
  ·split
   ·
    rename_i hk;split
    ·rename_i hcond;simp only [Bool.and_eq_true,decide_eq_true_eq] at hcond;obtain ⟨⟨h1,h2⟩,h3⟩:=hcond;refine ⟨hno,⟨h.id,h.low,h.high,h.cache,fun hb => ?_,h.elder,fun hb => ?_,fun _ _ => ⟨(h.kinds h1).2,?_⟩,h.short⟩,rfl⟩
     ·simp [Client.busy] at hb
     ·simp [Client.busy] at hb
     ·rcases hm.done hk with hv | ⟨r,hr1,hr2,hr3,hr4,hr5⟩
      ·exact .inl hv
      ·right;have g1:=h.asks h1 h3;have g2:=hr.asked r hr1 hr2;rw [hr3,hr4,hc.1,h2] at g2;obtain ⟨e1,e2⟩:=hu.same _ _ _ _ _ _ g1 g2;have:=hr.vers.known hr1 hr2;rw [hr5,← e1,← e2] at this;exact this
    ·exact ⟨hno,h,rfl⟩
   ·split
    ·split
     ·exact ⟨hno,⟨h.id,h.low,h.high,h.cache,h.asks,h.elder,h.kinds,h.over,h.short⟩,rfl⟩
     ·exact ⟨hno,h,rfl⟩
    ·split
     ·split
      ·exact ⟨hno,⟨h.id,h.low,h.high,(fun x hx => by cases hx),h.asks,h.elder,h.kinds,h.over,h.short⟩,rfl⟩
      ·exact ⟨hno,h,rfl⟩
     ·split
      ·split
       ·refine ⟨fun x hx => ?_,⟨h.id,h.low,h.high,fun x hx => h.cache x (drop_mem hx),h.asks,h.elder,h.kinds,h.over,h.short⟩,rfl⟩;obtain rfl:=List.mem_singleton.1 hx;exact msg_plain (by simp [Client.stamp]) (by simp [Client.stamp]) (by simp [Client.stamp]) rfl
       ·exact ⟨hno,h,rfl⟩
      ·exact ⟨hno,h,rfl⟩
theorem sendAll_mem : ∀ (l : List Msg) (n : Net) (t : Bool) (g : Gram),g ∈ (sendAll n t l).l → g ∈ n.l ∨ g.msg ∈ l
 | [],n,t,g,h => .inl h
 | m :: l,n,t,g,h => by
  unfold sendAll at h;split at h
  ·rcases sendAll_mem l _ t g h with h | h
   ·unfold Net.send at h;split at h
    ·exact .inl h
    ·rcases List.mem_append.1 h with h | h
     ·exact .inl h
     ·obtain rfl:=List.mem_singleton.1 h;exact .inr (by simp)
   ·exact .inr (by simp [h])
  ·rcases sendAll_mem l _ t g h with h | h
   ·exact .inl h
   ·exact .inr (by simp [h])
theorem MsgOK.weak {G : Asked} {l : List Rec} {m : Msg} (h : MsgOK G l m) (g : Asked) : MsgOK (g ++ G) l m:=by
 have:=h.more [] g;rwa [List.append_nil] at this
theorem Inv.client_ {b b' : Int} {G g : Asked} {w : Realm} {k : Nat} {c c' : Client} {out : List Msg} (h : Inv b G w) (hc : w.clients[k]? = some c) (hb : b ≤ b') (hg : ∀ x ∈ g,x.1 = k) (hu : Uniq (g ++ G))
 (hk : CliOK (g ++ G) w.disk.recs b' (w.lives.getD k 0) k c') (hout : ∀ m ∈ out,MsgOK (g ++ G) w.disk.recs m) (ho : 0 ≤ w.opens.getD k (-1) → c'.call.kind ≠ 0) :
 Inv b' (g ++ G) ({ w with clients:=w.clients.set k c' }.sends false out):=by
 refine ⟨by have:=h.b0;omega,by simpa [Realm.sends] using h.few,hu,?_,fun x hx => ?_,fun s hs => ?_,by simpa [Realm.sends] using h.nl,by simpa [Realm.sends] using h.no,h.lives,fun j x hx => ?_,h.events,fun j x hx hj => ?_⟩
 ·exact ⟨h.recs.len,h.recs.vers,fun r hr h0 => List.mem_append_right _ (h.recs.asked r hr h0),h.recs.high,h.recs.short⟩
 ·rcases sendAll_mem _ _ _ _ hx with hx | hx
  ·exact (h.net x hx).weak g
  ·exact hout _ hx
 ·have hs:=h.server s hs;exact ⟨hs.nv,hs.nq,hs.value,fun o ho x hx => List.mem_append_right _ (hs.queue o ho x hx),fun k m hm => ⟨(hs.done k m hm).1,(hs.done k m hm).2.weak g⟩⟩
 ·simp only [Realm.sends] at hx;by_cases e : k = j
  ·subst e;rw [List.getElem?_set_self (List.getElem?_eq_some_iff.1 hc).1] at hx;obtain rfl:=Option.some.inj hx;exact hk
  ·rw [List.getElem?_set_ne e] at hx;have:=(h.clients j x hx).more (g:=g) (x:=[]) hb (fun y hy => by rw [hg y hy];omega);rwa [List.append_nil] at this
 ·simp only [Realm.sends] at hx;by_cases e : k = j
  ·subst e;rw [List.getElem?_set_self (List.getElem?_eq_some_iff.1 hc).1] at hx;obtain rfl:=Option.some.inj hx;exact ho hj
  ·rw [List.getElem?_set_ne e] at hx;exact h.opens j x hx hj
theorem Inv.server_ {b : Int} {G : Asked} {w : Realm} {r : List Msg × Disk × Server} (h : Inv b G w) (hr : Good G w.disk r) : Inv b G ({ w with disk:=r.2.1,server:=some r.2.2 }.sends true r.1):=by
 obtain ⟨⟨x,hx⟩,h2,h3,h4⟩:=hr;refine ⟨h.b0,h.few,h.uniq,h2,fun g hg => ?_,fun s hs => ?_,h.nl,h.no,h.lives,fun j c hc => ?_,fun e he => ?_,h.opens⟩
 ·show MsgOK G r.2.1.recs g.msg;rcases sendAll_mem _ _ _ _ hg with hg | hg
  ·rw [hx];exact (h.net g hg).more x []
  ·exact h4 _ hg
 ·obtain rfl:=Option.some.inj hs;exact h3
 ·show CliOK G r.2.1.recs b _ j c;rw [hx];exact (h.clients j c hc).more (g:=[]) (Int.le_refl _) (fun y hy => by cases hy)
 ·show EvOK r.2.1.recs e;rw [hx];exact ⟨(h.events e he).object,fun h0 => ((h.events e he).known h0).imp (fun h => h) fun h => h.more _⟩
theorem Inv.begin_ {b : Int} {G : Asked} {w : Realm} (h : Inv b G w) : Inv b G w.begin:=⟨h.b0,h.few,h.uniq,h.recs,h.net,h.server,h.nl,h.no,h.lives,h.clients,h.events,h.opens⟩
theorem Inv.down_ {b : Int} {G : Asked} {w : Realm} (h : Inv b G w) : Inv b G { w with server:=none }:=⟨h.b0,h.few,h.uniq,h.recs,h.net,(fun s h => by cases h),h.nl,h.no,h.lives,h.clients,h.events,h.opens⟩
theorem Inv.falls_ {b : Int} {G : Asked} {w : Realm} (h : Inv b G w) : Inv b G w.falls:=by
 unfold Realm.falls;split
 ·split
  ·exact h.down_
  ·exact h
 ·exact h
theorem Inv.up_ {b b' : Int} {G : Asked} {w : Realm} (h : Inv b G w) (hb : b ≤ b') : Inv b' G w:=
 ⟨by have:=h.b0;omega,h.few,h.uniq,h.recs,h.net,h.server,h.nl,h.no,h.lives,fun k c hc => ⟨(h.clients k c hc).id,(h.clients k c hc).low,by have:=(h.clients k c hc).high;omega,(h.clients k c hc).cache,(h.clients k c hc).asks,(h.clients k c hc).elder,(h.clients k c hc).kinds,(h.clients k c hc).over,(h.clients k c hc).short⟩,h.events,h.opens⟩
theorem Inv.net_ {b : Int} {G : Asked} {w : Realm} (h : Inv b G w) {n : Net} (hn : ∀ g ∈ n.l,g ∈ w.net.l) : Inv b G { w with net:=n }:=⟨h.b0,h.few,h.uniq,h.recs,fun g hg => h.net g (hn g hg),h.server,h.nl,h.no,h.lives,h.clients,h.events,h.opens⟩
theorem getD_set (l : List Int) (k j : Nat) (x d : Int) : (l.set k x).getD j d = if k = j ∧ k < l.length then x else l.getD j d:=by
 simp only [List.getD_eq_getElem?_getD];by_cases e : k = j
 ·subst e;by_cases hk : k < l.length
  ·rw [List.getElem?_set_self hk];simp [hk]
  ·rw [List.getElem?_eq_none (by simp;omega),List.getElem?_eq_none (by omega)];simp [hk]
 ·rw [List.getElem?_set_ne e];simp [e]
theorem Inv.looks_ {b : Int} {G : Asked} {w : Realm} (h : Inv b G w) (k : Nat) : Inv b G (w.looks k):=by
 unfold Realm.looks;split
 ·rename_i c e hc he;split
  ·rename_i hcond;simp only [Bool.and_eq_true,decide_eq_true_eq,Bool.not_eq_true'] at hcond;split
   ·rename_i x hx;refine ⟨h.b0,h.few,h.uniq,h.recs,h.net,h.server,h.nl,by simpa using h.no,h.lives,h.clients,fun y hy => ?_,fun j c' hc' hj => ?_⟩
    ·rcases List.mem_or_eq_of_mem_set hy with hy | rfl
     ·exact h.events y hy
     ·have hk:=h.opens k c hc (by rw [List.getD_eq_getElem?_getD,he];exact hcond.1);have:=(h.clients k c hc).over hcond.2 hk;exact ⟨this.object,fun _ => this.known⟩
    ·simp only [getD_set] at hj;split at hj
     ·omega
     ·exact h.opens j c' hc' hj
   ·exact h
  ·exact h
 ·exact h
theorem life_ok {b : Int} {G : Asked} {w : Realm} (h : Inv b G w) {k : Nat} {c : Client} (hc : w.clients[k]? = some c) : 0 ≤ w.lives.getD k 0 ∧ w.lives.getD k 0 ≤ 1000:=
 h.lives k (by rw [h.nl];exact (List.getElem?_eq_some_iff.1 hc).1)
theorem begins_ok {b : Int} {G g : Asked} {w : Realm} (h : Inv b G w) {k : Nat} {c c' : Client} (hc : w.clients[k]? = some c) {e : Int} {l : List Msg}
 (hg : ∀ x ∈ g,x.1 = k) (hu : Uniq (g ++ G)) (hk : CliOK (g ++ G) w.disk.recs (b + 2) (w.lives.getD k 0) k c') (hout : ∀ m ∈ l,MsgOK (g ++ G) w.disk.recs m) (h0 : e = 0 → c'.call.kind ≠ 0 ∧ isObject c'.call.object = true) (h1 : e ≠ 0 → c' = c) :
 Inv (b + 2) (g ++ G) (w.begins k e l c').2:=by
 unfold Realm.begins;split
 ·rename_i he;have:=h.client_ hc (b':=b + 2) (by omega) hg hu hk (out:=[]) (fun m hm => by cases hm) (fun ho => by rw [h1 he];exact h.opens k c hc ho);exact this
 ·rename_i he;(have he : e = 0:=by omega);obtain ⟨hk0,hko⟩:=h0 he;have h2:=h.client_ hc (b':=b + 2) (by omega) hg hu hk (out:=l) hout (fun _ => hk0);refine Inv.looks_ ?_ k;refine ⟨h2.b0,h2.few,h2.uniq,h2.recs,h2.net,h2.server,h2.nl,?_,h2.lives,h2.clients,fun y hy => ?_,fun j x hx hj => ?_⟩
  ·have:=h2.no;simp only [Realm.sends,Realm.begin,List.length_set] at this ⊢;exact this
  ·simp only [Realm.sends,Realm.begin] at hy;rcases List.mem_append.1 hy with hy | hy
   ·exact h2.events y hy
   ·obtain rfl:=List.mem_singleton.1 hy;exact ⟨hko,fun h => absurd rfl h⟩
  ·simp only [Realm.sends,Realm.begin,getD_set] at hj hx;by_cases e : k = j
   ·subst e;rw [List.getElem?_set_self (List.getElem?_eq_some_iff.1 hc).1] at hx;obtain rfl:=Option.some.inj hx;exact hk0
   ·rw [if_neg (fun h => e h.1)] at hj;exact h2.opens j x hx hj
theorem read_inv {b : Int} {G : Asked} {w : Realm} (h : Inv b G w) (hb : b < 1000000) (k o : Int) : ∃ G',Inv (b + 2) G' (w.read k o).2:=by
 unfold Realm.read;split
 ·exact ⟨G,h.up_ (by omega)⟩
 ·split
  ·rename_i c hc;obtain ⟨l0,l1⟩:=life_ok h hc;obtain ⟨k1,k2,k3,k4⟩:=read_ok (h.clients _ c hc) h.b0 hb l0 l1 o;exact ⟨[] ++ G,begins_ok (g:=[]) h hc (fun x hx => by cases hx) h.uniq k2 k1 k3 k4⟩
  ·exact ⟨G,h.up_ (by omega)⟩
theorem write_inv {b : Int} {G : Asked} {w : Realm} (h : Inv b G w) (hb : b < 1000000) (k o : Int) (data : Bytes) : ∃ G',Inv (b + 2) G' (w.write k o data).2:=by
 unfold Realm.write;split
 ·exact ⟨G,h.up_ (by omega)⟩
 ·split
  ·rename_i c hc;obtain ⟨l0,l1⟩:=life_ok h hc;obtain ⟨g,hg,hu,k1,k2,k3,k4⟩:=write_ok (h.clients _ c hc) h.b0 hb l0 l1 o data h.uniq (by have:=(List.getElem?_eq_some_iff.1 hc).1;have:=h.few;omega);exact ⟨g ++ G,begins_ok h hc hg hu k2 k1 k3 k4⟩
  ·exact ⟨G,h.up_ (by omega)⟩
theorem again_inv {b : Int} {G : Asked} {w : Realm} (h : Inv b G w) (hb : b < 1000000) (k : Int) : Inv (b + 1) G (w.again k).2:=by
 unfold Realm.again;split
 ·exact h.up_ (by omega)
 ·split
  ·rename_i c hc;obtain ⟨l0,l1⟩:=life_ok h hc;obtain ⟨k1,k2,k3⟩:=again_ok (h.clients _ c hc) h.b0 (by omega) l0 l1;have:=(h.client_ hc (g:=[]) (b':=b + 1) (by omega) (fun x hx => by cases hx) h.uniq k2 (out:=c.again.1) k1 (fun ho => by rw [k3];exact h.opens _ c hc ho)).begin_;exact this
  ·exact h.up_ (by omega)
theorem deliver_inv {b : Int} {G : Asked} {w : Realm} (h : Inv b G w) (k : Int) : Inv b G (w.deliver k).2:=by
 unfold Realm.deliver;split
 ·exact h
 ·split
  ·exact h
  ·rename_i g hg;have hm : MsgOK G w.disk.recs g.msg:=h.net g (List.mem_of_getElem? hg);have h1 : Inv b G ({ w with net:={ w.net with l:=w.net.l.eraseIdx k.toNat } } : Realm).begin:=(h.net_ fun x hx => List.mem_of_mem_eraseIdx hx).begin_;have hd : ({ w with net:={ w.net with l:=w.net.l.eraseIdx k.toNat } } : Realm).begin.disk = w.disk:=rfl;generalize ({ w with net:={ w.net with l:=w.net.l.eraseIdx k.toNat } } : Realm).begin = w1 at h1 hd ⊢;rw [← hd] at hm;simp only;split
   ·split
    ·exact h1
    ·rename_i s hs;exact (h1.server_ (take_ok (h1.server s hs) h1.recs _ hm)).falls_
   ·split
    ·rename_i c hc;obtain ⟨k1,k2,k3⟩:=ctake_ok (h1.clients _ c hc) h1.recs h1.uniq hm;have:=(h1.client_ hc (g:=[]) (b':=b) (by omega) (fun x hx => by cases hx) h1.uniq k2 (out:=(c.take g.msg).1) k1 (fun ho => by rw [k3];exact h1.opens _ c hc ho)).looks_ g.to.toNat;exact this
    ·exact h1
theorem lose_inv {b : Int} {G : Asked} {w : Realm} (h : Inv b G w) (k : Int) : Inv b G (w.lose k).2:=by
 unfold Realm.lose;split
 ·exact h
 ·exact h.net_ fun x hx => List.mem_of_mem_eraseIdx hx
theorem twice_inv {b : Int} {G : Asked} {w : Realm} (h : Inv b G w) (k : Int) : Inv b G (w.twice k).2:=by
 unfold Realm.twice;split
 ·exact h
 ·split
  ·rename_i g hg;refine h.net_ fun x hx => ?_;unfold Net.send at hx;split at hx
   ·exact hx
   ·rcases List.mem_append.1 hx with hx | hx
    ·exact hx
    ·obtain rfl:=List.mem_singleton.1 hx;exact List.mem_of_getElem? hg
  ·exact h
theorem atAll_get : ∀ (cs : List Client) (ns : List Int) (k : Nat) (c' : Client),(atAll cs ns)[k]? = some c' → ∃ c,cs[k]? = some c ∧ (c' = c ∨ ∃ n,c' = c.at_ n)
 | [],[],k,c',h => by simp [atAll] at h
 | [],n :: ns,k,c',h => by simp [atAll] at h
 | c :: cs,[],k,c',h => ⟨c',by simpa [atAll] using h,.inl rfl⟩
 | c :: cs,n :: ns,0,c',h => ⟨c,rfl,.inr ⟨n,by simpa [atAll,eq_comm] using h⟩⟩
 | c :: cs,n :: ns,k + 1,c',h => by
  have:=atAll_get cs ns k c' (by simpa [atAll] using h);simpa using this
theorem atAll_len : ∀ (cs : List Client) (ns : List Int),(atAll cs ns).length = cs.length
 | [],[] => rfl
 | [],_ :: _ => rfl
 | _ :: _,[] => rfl
 | _ :: cs,_ :: ns => by simp [atAll,atAll_len cs ns]
theorem Inv.at__ {b : Int} {G : Asked} {w : Realm} (h : Inv b G w) (ns cl : List Int) : Inv b G { w with clocks:=cl,clients:=atAll w.clients ns }:=by
 refine ⟨h.b0,by simpa [atAll_len] using h.few,h.uniq,h.recs,h.net,h.server,by simpa [atAll_len] using h.nl,by simpa [atAll_len] using h.no,h.lives,fun k c hc => ?_,h.events,fun k c hc ho => ?_⟩
 ·obtain ⟨c0,h0,rfl | ⟨n,rfl⟩⟩:=atAll_get _ _ _ _ hc
  ·exact h.clients k _ h0
  ·have:=h.clients k _ h0;exact ⟨this.id,this.low,this.high,this.cache,this.asks,this.elder,this.kinds,this.over,this.short⟩
 ·obtain ⟨c0,h0,rfl | ⟨n,rfl⟩⟩:=atAll_get _ _ _ _ hc
  ·exact h.opens k _ h0 ho
  ·have:=h.opens k _ h0 ho;exact this
theorem goes_inv {b : Int} {G : Asked} {w : Realm} (h : Inv b G w) (l : List Int) : Inv b G (w.goes l).2:=by
 unfold Realm.goes;split
 ·exact h
 ·split
  ·exact h
  ·have h1:=(h.at__ (moveAll w.clocks l).tail (moveAll w.clocks l)).begin_;simp only;generalize ({ w with clocks:=moveAll w.clocks l,clients:=atAll w.clients (moveAll w.clocks l).tail } : Realm).begin = w1 at h1 ⊢;split
   ·exact h1
   ·rename_i s hs;exact (h1.server_ (tick_ok (h1.server s hs) h1.recs _)).falls_
theorem fails_inv {b : Int} {G : Asked} {w : Realm} (h : Inv b G w) (a t : Int) : Inv b G (w.fails a t):=by
 refine ⟨h.b0,h.few,h.uniq,h.recs,h.net,fun s hs => ?_,h.nl,h.no,h.lives,h.clients,h.events,h.opens⟩;simp only [Realm.fails] at hs
 cases hw : w.server with
 | none => rw [hw] at hs;cases hs
 | some s0 =>
  rw [hw] at hs;obtain rfl:=Option.some.inj hs;exact (h.server s0 hw).torn_ t
theorem crash_inv {b : Int} {G : Asked} {w : Realm} (h : Inv b G w) : Inv b G w.crash:=h.begin_.down_
theorem restart_inv {b : Int} {G : Asked} {w : Realm} (h : Inv b G w) : Inv b G w.restart.2:=by
 unfold Realm.restart;split
 ·exact h
 ·obtain ⟨⟨x,hx⟩,h2,h3⟩:=new_ok (d:=w.disk.cutAt (-1)) h.recs w.terms (w.clocks.getD 0 0);have hx' : (Server.new w.terms (w.disk.cutAt (-1)) (w.clocks.getD 0 0)).2.1.recs = w.disk.recs ++ x:=hx;have h1:=h.begin_;simp only;refine ⟨h1.b0,h1.few,h1.uniq,h2,fun g hg => ?_,h3,h1.nl,h1.no,h1.lives,fun j c hc => ?_,fun e he => ?_,h1.opens⟩
  ·show MsgOK G (Server.new w.terms (w.disk.cutAt (-1)) (w.clocks.getD 0 0)).2.1.recs g.msg;rw [hx'];exact (h.net g hg).more x []
  ·show CliOK G (Server.new w.terms (w.disk.cutAt (-1)) (w.clocks.getD 0 0)).2.1.recs b _ j c;rw [hx'];exact (h.clients j c hc).more (g:=[]) (Int.le_refl _) (fun y hy => by cases hy)
  ·show EvOK (Server.new w.terms (w.disk.cutAt (-1)) (w.clocks.getD 0 0)).2.1.recs e;rw [hx'];exact ⟨(h.events e he).object,fun h0 => ((h.events e he).known h0).imp (fun h => h) fun h => h.more _⟩
theorem reborn_inv {b : Int} {G : Asked} {w : Realm} (h : Inv b G w) (hb : b < 1000000) (k : Int) : Inv b G (w.reborn k).2:=by
 unfold Realm.reborn;split
 ·exact h
 ·rename_i hk;simp only [Realm.right,Bool.not_eq_true',Bool.not_eq_false,Bool.and_eq_true,decide_eq_true_eq] at hk;split
  ·exact h
  ·rename_i c hc;unfold Client.new at hc;split at hc
   ·rename_i hcond;obtain rfl:=Option.some.inj hc;(have hlt : k.toNat < w.clients.length:=by omega);obtain ⟨l0,l1⟩:=h.lives k.toNat (by rw [h.nl];exact hlt);have hw : wrap64 (w.lives.getD k.toNat 0 + 1) = w.lives.getD k.toNat 0 + 1:=w64 (by omega) (by omega);rw [hw] at hcond ⊢;simp only [Bool.and_eq_true,inR,decide_eq_true_eq] at hcond;have hcc:=h.clients k.toNat _ (List.getElem?_eq_getElem hlt);(have e1 : ((k.toNat : Nat) : Int) = k:=by omega);refine Inv.begin_ ⟨h.b0,by simpa using h.few,h.uniq,h.recs,h.net,h.server,by simpa using h.nl,by simpa using h.no,fun j hj => ?_,fun j c' hc' => ?_,h.events,fun j c' hc' ho => ?_⟩
    ·simp only [getD_set,List.length_set] at hj ⊢;split
     ·exact ⟨by omega,by omega⟩
     ·exact h.lives j hj
    ·simp only [getD_set] at hc' ⊢;by_cases e : k.toNat = j
     ·subst e;rw [List.getElem?_set_self hlt] at hc';obtain rfl:=Option.some.inj hc';rw [if_pos ⟨rfl,by rw [h.nl];exact hlt⟩];refine ⟨e1.symm,(by show _ ≤ (w.lives.getD k.toNat 0 + 1) * 1048576;omega),(by show (w.lives.getD k.toNat 0 + 1) * 1048576 ≤ _;have:=h.b0;omega),(fun x hx => by cases hx),(fun hb => by simp [Client.busy] at hb),fun n o d hm => ?_,(fun hb => by simp [Client.busy] at hb),(fun _ hk => absurd rfl hk),fun h => by simp [noCall] at h⟩;have:=hcc.elder n o d (by rw [hcc.id,e1];exact hm);have:=hcc.high;show n ≤ (w.lives.getD k.toNat 0 + 1) * 1048576;omega
     ·rw [List.getElem?_set_ne e] at hc';rw [if_neg (fun h => e h.1)];exact h.clients j c' hc'
    ·simp only [getD_set] at hc' ho;by_cases e : k.toNat = j
     ·subst e;rw [if_pos ⟨rfl,by rw [h.no];exact hlt⟩] at ho;omega
     ·rw [List.getElem?_set_ne e] at hc';rw [if_neg (fun h => e h.1)] at ho;exact h.opens j c' hc' ho
   ·cases hc
theorem flowsF_inv {b : Int} {G : Asked} : ∀ (f : Nat) {w : Realm} (_ : Inv b G w),Inv b G (Realm.flowsF f w)
 | 0,_,h => h
 | f + 1,w,h => by
  unfold Realm.flowsF;split
  ·exact h
  ·exact flowsF_inv f (deliver_inv h 0)
theorem eachAgain_inv {G : Asked} : ∀ (ks : List Nat) {b : Int} {w : Realm} (_ : Inv b G w) (_ : b + ks.length ≤ 1000000),Inv (b + ks.length) G (Realm.eachAgain ks w)
 | [],b,w,h,_ => by simpa [Realm.eachAgain] using h
 | k :: ks,b,w,h,hb => by
  simp only [List.length_cons] at hb;unfold Realm.eachAgain;have:=eachAgain_inv ks (flowsF_inv 1000 (again_inv h (by omega) k)) (by omega);(have e : b + 1 + (ks.length : Int) = b + ((k :: ks).length : Nat):=by simp;omega);rw [e] at this;exact this
theorem round_inv {b : Int} {G : Asked} {w : Realm} (h : Inv b G w) (hb : b + 4 ≤ 1000000) : Inv (b + 4) G w.round:=by
 unfold Realm.round;have h1:=restart_inv h;have hf:=h1.few;have h2:=eachAgain_inv (List.range w.restart.2.clients.length) h1 (by simp;omega);exact (flowsF_inv 1000 (goes_inv h2 _)).up_ (by simp;omega)
theorem calmN_inv {G : Asked} : ∀ (n : Nat) {b : Int} {w : Realm} (_ : Inv b G w) (_ : b + 4 * n ≤ 1000000),Inv (b + 4 * n) G (Realm.calmN n w)
 | 0,b,w,h,_ => by simpa [Realm.calmN] using h
 | n + 1,b,w,h,hb => by
  unfold Realm.calmN;have:=calmN_inv n (round_inv h (by omega)) (by omega);rwa [show b + 4 + 4 * (n : Int) = b + 4 * ((n + 1 : Nat) : Int) from by omega] at this
theorem newClients_get : ∀ (n : Nat) {t : Terms} {j : Nat} {l : List Client} (_ : newClients t j n = some l),l.length = n ∧ ∀ k c,l[k]? = some c → Client.new (j + k : Nat) t 0 0 = some c
 | 0,t,j,l,h => by
  (obtain rfl : [] = l:=by simpa [newClients] using h);exact ⟨rfl,fun k c hk => by simp at hk⟩
 | n + 1,t,j,l,h => by
  unfold newClients at h;split at h
  ·rename_i c cs h1 h2;obtain rfl:=Option.some.inj h;obtain ⟨i1,i2⟩:=newClients_get n h2;refine ⟨by simp [i1],fun k x hk => ?_⟩
   cases k with
   | zero =>
    (obtain rfl : c = x:=by simpa using hk);exact h1
   | succ k =>
    have:=i2 k x (by simpa using hk);rwa [show j + 1 + k = j + (k + 1) from by omega] at this
  ·cases h
theorem new_inv {t : Terms} {n : Int} {w : Realm} (h : (Realm.new t n).2 = some w) : Inv 0 [] w:=by
 unfold Realm.new at h;split at h
 ·cases h
 ·rename_i hn;simp only [Bool.not_eq_true',Bool.not_eq_false,inR,Bool.and_eq_true,decide_eq_true_eq] at hn;have h0 : RecsOK [] (⟨[],false,0⟩ : Disk).recs:=⟨by simp,fun a r b e => by simp at e,fun r hr => by simp at hr,fun r hr => by simp at hr,fun r hr => by simp at hr⟩;obtain ⟨_,k2,k3⟩:=new_ok h0 t 0;split at h
  ·rename_i e d s heq;rw [heq] at k2 k3;split at h
   ·rename_i cs hcs;obtain rfl:=Option.some.inj h;obtain ⟨c1,c2⟩:=newClients_get _ hcs;refine ⟨Int.le_refl _,(by simp only [c1];omega),⟨(fun _ _ _ _ _ _ h => by cases h),fun _ _ _ _ h => by cases h⟩,k2,(fun g hg => by cases hg),(fun s' hs' => k3 s' hs'),(by simp [c1]),(by simp [c1]),fun k hk => ?_,fun k c hc => ?_,(fun e he => by cases he),fun k c hc ho => ?_⟩
    ·simp only [List.getD_eq_getElem?_getD,List.getElem?_replicate];split <;> simp
    ·have hlt:=(List.getElem?_eq_some_iff.1 hc).1;rw [c1] at hlt;(have hg : (List.replicate n.toNat (0 : Int)).getD k 0 = 0:=by simp [List.getD_eq_getElem?_getD,hlt]);simp only [hg];have:=c2 k c hc;unfold Client.new at this;split at this
     ·obtain rfl:=Option.some.inj this;exact ⟨by simp,by simp,by simp,(fun x hx => by cases hx),(fun hb => by simp [Client.busy] at hb),(fun _ _ _ h => by cases h),(fun hb => by simp [Client.busy] at hb),(fun _ hk => absurd rfl hk),fun h => by simp [noCall] at h⟩
     ·cases this
    ·exfalso;simp only [List.getD_eq_getElem?_getD,List.getElem?_replicate] at ho;split at ho <;> simp at ho
   ·cases h
  ·cases h
theorem lasts {b : Int} {G : Asked} {w : Realm} (h : Inv b G w) {s : Server} (hs : w.server = some s) {e : MEvent} (he : e ∈ w.events) :
 isObject e.call.object = true ∧ (e.ended ≠ 0 → e.call.value.ver ≤ (s.value e.call.object.toNat).ver ∧ ((s.value e.call.object.toNat).ver = e.call.value.ver → 0 < (s.value e.call.object.toNat).ver → (s.value e.call.object.toNat).data = e.call.value.data)):=by
 have ho:=(h.events e he).object;refine ⟨ho,fun h0 => ?_⟩;obtain ⟨o1,o2,o3⟩:=isObject_lt ho;have hv:=(h.server s hs).value _ o2;rw [hv,o3];rcases (h.events e he).known h0 with hk | hk
 ·rw [hk];refine ⟨by simp [valIn],fun e1 e2 => by omega⟩
 ·have h1:=hk.le;refine ⟨by simpa [valIn] using h1,fun e1 _ => ?_⟩;have h2:=valIn_known w.disk.recs e.call.object;rw [e1] at h2;exact h2.same hk
def Idx (w : Realm) : Prop:=∀ e ∈ w.opens,e < w.events.length
theorem mem_set {l : List Int} {k : Nat} {x e : Int} (h : e ∈ l.set k x) : e = x ∨ e ∈ l:=(List.mem_or_eq_of_mem_set h).symm
theorem Idx.same {w w' : Realm} (h : Idx w) (e1 : w'.opens = w.opens) (e2 : w'.events.length = w.events.length) : Idx w':=fun e he => by rw [e2];exact h e (e1 ▸ he)
theorem Idx.sends_ {w : Realm} (h : Idx w) (b : Bool) (l : List Msg) : Idx (w.sends b l):=h
theorem Idx.looks_ {w : Realm} (h : Idx w) (k : Nat) : Idx (w.looks k):=by
 unfold Realm.looks;split
 ·split
  ·split
   ·intro e he;simp only [List.length_set] at he ⊢;rcases mem_set he with rfl | he
    ·omega
    ·exact h e he
   ·exact h
  ·exact h
 ·exact h
theorem Idx.begins_ {w : Realm} (h : Idx w) (k : Nat) (e : Int) (l : List Msg) (c : Client) : Idx (w.begins k e l c).2:=by
 unfold Realm.begins;split
 ·exact h
 ·refine Idx.looks_ (Idx.sends_ (fun x hx => ?_) _ _) _;simp only [Realm.begin,List.length_append,List.length_singleton] at hx ⊢;rcases mem_set hx with rfl | hx
  ·omega
  ·have:=h x hx;omega
theorem Idx.read_ {w : Realm} (h : Idx w) (k o : Int) : Idx (w.read k o).2:=by
 unfold Realm.read;split
 ·exact h
 ·split
  ·exact h.begins_ _ _ _ _
  ·exact h
theorem Idx.write_ {w : Realm} (h : Idx w) (k o : Int) (d : Bytes) : Idx (w.write k o d).2:=by
 unfold Realm.write;split
 ·exact h
 ·split
  ·exact h.begins_ _ _ _ _
  ·exact h
theorem Idx.again_ {w : Realm} (h : Idx w) (k : Int) : Idx (w.again k).2:=by
 unfold Realm.again;split
 ·exact h
 ·split
  ·exact h
  ·exact h
theorem Idx.falls_ {w : Realm} (h : Idx w) : Idx w.falls:=by
 unfold Realm.falls;split
 ·split
  ·exact h
  ·exact h
 ·exact h
theorem Idx.deliver_ {w : Realm} (h : Idx w) (k : Int) : Idx (w.deliver k).2:=by
 unfold Realm.deliver;split
 ·exact h
 ·split
  ·exact h
  ·simp only;split
   ·split
    ·exact h
    ·exact Idx.falls_ (w:=Realm.sends _ true _) h
   ·split
    ·refine Idx.looks_ ?_ _;exact h
    ·exact h
theorem Idx.lose_ {w : Realm} (h : Idx w) (k : Int) : Idx (w.lose k).2:=by
 unfold Realm.lose;split <;> exact h
theorem Idx.twice_ {w : Realm} (h : Idx w) (k : Int) : Idx (w.twice k).2:=by
 unfold Realm.twice;split
 ·exact h
 ·split <;> exact h
theorem Idx.goes_ {w : Realm} (h : Idx w) (l : List Int) : Idx (w.goes l).2:=by
 unfold Realm.goes;split
 ·exact h
 ·split
  ·exact h
  ·simp only;split
   ·exact h
   ·exact Idx.falls_ (w:=Realm.sends _ true _) h
theorem Idx.restart_ {w : Realm} (h : Idx w) : Idx w.restart.2:=by
 unfold Realm.restart;split <;> exact h
theorem Idx.reborn_ {w : Realm} (h : Idx w) (k : Int) : Idx (w.reborn k).2:=by
 unfold Realm.reborn;split
 ·exact h
 ·split
  ·exact h
  ·intro e he;simp only [Realm.begin] at he ⊢;rcases mem_set he with rfl | he
   ·omega
   ·exact h e he
theorem Idx.flowsF_ : ∀ (f : Nat) {w : Realm} (_ : Idx w),Idx (Realm.flowsF f w)
 | 0,_,h => h
 | f + 1,w,h => by
  unfold Realm.flowsF;split
  ·exact h
  ·exact Idx.flowsF_ f (h.deliver_ 0)
theorem Idx.eachAgain_ : ∀ (ks : List Nat) {w : Realm} (_ : Idx w),Idx (Realm.eachAgain ks w)
 | [],_,h => h
 | k :: ks,_,h => Idx.eachAgain_ ks (Idx.flowsF_ 1000 (h.again_ k))
theorem Idx.round_ {w : Realm} (h : Idx w) : Idx w.round:=Idx.flowsF_ 1000 ((Idx.eachAgain_ _ h.restart_).goes_ _)
theorem Idx.calmN_ : ∀ (n : Nat) {w : Realm} (_ : Idx w),Idx (Realm.calmN n w)
 | 0,_,h => h
 | n + 1,_,h => Idx.calmN_ n h.round_
theorem Idx.new_ {t : Terms} {n : Int} {w : Realm} (h : (Realm.new t n).2 = some w) : Idx w:=by
 unfold Realm.new at h;split at h
 ·cases h
 ·split at h
  ·split at h
   ·obtain rfl:=Option.some.inj h;intro e he;have:=List.eq_of_mem_replicate he;simp only [List.length_nil];omega
   ·cases h
  ·cases h
def Cl (K : Nat) (c : Int) : Prop:=0 ≤ c ∧ c < K
def Cls (K : Nat) (l : List Msg) : Prop:=∀ m ∈ l,Cl K m.client
def RecCl (K : Nat) (l : List Rec) : Prop:=∀ r ∈ l,0 ≤ r.object → Cl K r.client
structure SrvCl (K : Nat) (s : Server) : Prop where
 queue : ∀ q ∈ s.queues,∀ x ∈ q,Cl K x.client
 done : ∀ k m,seek k s.done = some m → Cl K m.client
 objs : ∀ e ∈ s.table.objs,Cl K e.1.1
def GoodCl (K : Nat) (r : List Msg × Disk × Server) : Prop:=Cls K r.1 ∧ RecCl K r.2.1.recs ∧ SrvCl K r.2.2
section
variable {K : Nat} {s : Server} {d : Disk}
theorem Cls.nil : Cls K []:=fun m hm => by cases hm
theorem Cls.one {m : Msg} (h : Cl K m.client) : Cls K [m]:=fun x hx => by rw [List.mem_singleton.1 hx];exact h
theorem Cls.app {a b : List Msg} (ha : Cls K a) (hb : Cls K b) : Cls K (a ++ b):=fun m hm => (List.mem_append.1 hm).elim (ha m) (hb m)
theorem seek_mem {A V : Type} [DecidableEq A] {k : A} {v : V} : ∀ {l : List (A × V)},seek k l = some v → (k,v) ∈ l
 | [],h => by cases h
 | (x,u) :: l,h => by
  unfold seek at h;split at h
  ·rename_i e;rw [← e,Option.some.inj h];exact List.mem_cons_self
  ·exact List.mem_cons_of_mem _ (seek_mem h)
theorem del_mem {A V : Type} [DecidableEq A] {k : A} {e : A × V} : ∀ {l : List (A × V)},e ∈ del k l → e ∈ l
 | [],h => h
 | (x,u) :: l,h => by
  unfold del at h;split at h
  ·exact List.mem_cons_of_mem _ (del_mem h)
  ·rcases List.mem_cons.1 h with h | h
   ·rw [h];exact List.mem_cons_self
   ·exact List.mem_cons_of_mem _ (del_mem h)
theorem holders_cl (h : SrvCl K s) (o now : Int) : ∀ c ∈ s.table.holders o now,Cl K c:=fun c hc => by
 unfold Table.holders at hc;have hh:=(List.mem_filter.1 hc).2;unfold Table.holds at hh;split at hh
 ·rename_i u hu;exact h.objs _ (seek_mem hu)
 ·cases hh
theorem flush_sub (t : Table) (c : Int) : ∀ e ∈ (t.flush c).2.objs,e ∈ t.objs:=fun e he => by
 unfold Table.flush at he;split at he
 ·exact (List.mem_filter.1 he).1
 ·exact he
theorem flushAll_sub : ∀ (l : List Int) (t : Table),∀ e ∈ (flushAll t l).objs,e ∈ t.objs
 | [],_,_,h => h
 | c :: l,t,e,h => flush_sub t c e (flushAll_sub l (t.flush c).2 e h)
theorem queue_mem {o : Nat} {x : Wr} (h : x ∈ s.queue o) : ∃ q ∈ s.queues,x ∈ q:=by
 unfold Server.queue at h;rw [List.getD_eq_getElem?_getD] at h
 cases hq : s.queues[o]? with
 | none => rw [hq] at h;cases h
 | some q => rw [hq] at h;exact ⟨q,List.mem_of_getElem? hq,h⟩
theorem SrvCl.queue_ (h : SrvCl K s) {o : Nat} {x : Wr} (hx : x ∈ s.queue o) : Cl K x.client:=by
 obtain ⟨q,h1,h2⟩:=queue_mem hx;exact h.queue q h1 x h2
theorem SrvCl.set_ (h : SrvCl K s) (o : Nat) {q : List Wr} (hq : ∀ x ∈ q,Cl K x.client) : SrvCl K { s with queues:=s.queues.set o q }:=
 ⟨fun p hp x hx => by
  rcases List.mem_or_eq_of_mem_set hp with h1 | h1
  ·exact h.queue p h1 x hx
  ·rw [h1] at hx;exact hq x hx,h.done,h.objs⟩
theorem SrvCl.done_ (h : SrvCl K s) (k : Int) {m : Msg} (hm : Cl K m.client) : SrvCl K { s with done:=put k m s.done }:=
 ⟨h.queue,fun j x hx => by
  rw [seek_put] at hx;split at hx
  ·rw [← Option.some.inj hx];exact hm
  ·exact h.done j x hx,h.objs⟩
theorem SrvCl.tab (h : SrvCl K s) {t : Table} (ht : ∀ e ∈ t.objs,Cl K e.1.1) : SrvCl K { s with table:=t }:=⟨h.queue,h.done,ht⟩
theorem RecCl.add_ (h : RecCl K d.recs) (down : Bool) {r : Rec} (hr : 0 ≤ r.object → Cl K r.client) : RecCl K (d.add down r).2.1.recs:=by
 generalize hp : d.add down r = p;obtain ⟨e,d',down'⟩:=p;rcases add_ok hp with ⟨-,h2,-⟩ | ⟨-,h2,-⟩
 ·show RecCl K d'.recs;rw [h2];intro x hx h0;rcases List.mem_append.1 hx with hx | hx
  ·exact h x hx h0
  ·rw [List.mem_singleton.1 hx] at h0 ⊢;exact hr h0
 ·show RecCl K d'.recs;rw [h2];exact h
theorem store_cl (h : SrvCl K s) (hr : RecCl K d.recs) {o : Nat} {x : Wr} {rest : List Wr} (hx : Cl K x.client) (hrest : ∀ y ∈ rest,Cl K y.client) {out : List Msg} (ho : Cls K out) : GoodCl K (s.store d o x rest out).2:=by
 unfold Server.store;simp only;have ha:=hr.add_ s.down (r:=⟨x.client,x.number,o,wrap64 ((s.value o).ver + 1),x.data,0⟩) fun _ => hx;generalize d.add s.down ⟨x.client,x.number,o,wrap64 ((s.value o).ver + 1),x.data,0⟩ = p at ha ⊢;have h1 : SrvCl K { s with down:=p.2.2 }:=⟨h.queue,h.done,h.objs⟩;split
 ·exact ⟨Cls.nil,ha,h1⟩
 ·have key : SrvCl K (Server.answer { s with down:=p.2.2 } p.1 ⟨x.client,x.number,o,wrap64 ((s.value o).ver + 1),x.data,0⟩).1 ∧ Cl K (Server.answer { s with down:=p.2.2 } p.1 ⟨x.client,x.number,o,wrap64 ((s.value o).ver + 1),x.data,0⟩).2.client:=by
   unfold Server.answer;split
   ·exact ⟨⟨h.queue,(h1.done_ x.client (m:={ noMsg with kind:=6,client:=x.client,number:=x.number,object:=o,version:=wrap64 ((s.value o).ver + 1) }) hx).done,h.objs⟩,hx⟩
   ·exact ⟨h1.done_ x.client hx,hx⟩
  obtain ⟨k1,k2⟩:=key;exact ⟨ho.app (Cls.one k2),ha,k1.set_ o hrest⟩
theorem goOne_cl (h : SrvCl K s) (hr : RecCl K d.recs) {o : Nat} {x : Wr} {rest : List Wr} (hq : s.queue o = x :: rest) {out : List Msg} (ho : Cls K out) : GoodCl K (s.goOne d o x rest out).2:=by
 have hx : ∀ y ∈ x :: rest,Cl K y.client:=fun y hy => h.queue_ (o:=o) (by rw [hq];exact hy)
 have h1 : SrvCl K { s with queues:=s.queues.set o ({ x with begun:=true } :: rest) }:=h.set_ o fun y hy => by
  rcases List.mem_cons.1 hy with rfl | hy
  ·exact hx x (by simp)
  ·exact hx y (by simp [hy])
 have h2 : Cls K (if x.begun then out else out ++ (s.table.holders o s.now).map fun c => s.inval c o):=by
  split
  ·exact ho
  ·refine ho.app fun m hm => ?_;obtain ⟨c,hc,rfl⟩:=List.mem_map.1 hm;exact holders_cl h _ _ c hc
 unfold Server.goOne;simp only;split
 ·exact ⟨h2,hr,h1⟩
 ·exact store_cl (h1.tab fun e he => h.objs e (flushAll_sub _ _ e he)) hr (hx x (by simp)) (fun y hy => hx y (by simp [hy])) h2
theorem goesF_cl {o : Nat} : ∀ (f : Nat) {d : Disk} {s : Server} (_ : SrvCl K s) (_ : RecCl K d.recs) {out : List Msg} (_ : Cls K out),GoodCl K (Server.goesF f d s o out)
 | 0,_,_,h,hr,_,ho => ⟨ho,hr,h⟩
 | f + 1,d,s,h,hr,out,ho => by
  unfold Server.goesF;split
  ·exact ⟨ho,hr,h⟩
  ·rename_i x rest hq;split
   ·exact ⟨ho,hr,h⟩
   ·have hg:=goOne_cl h hr hq ho;simp only;generalize s.goOne d o x rest out = r at hg ⊢;split
    ·exact goesF_cl f hg.2.2 hg.2.1 hg.1
    ·exact hg
theorem goes_cl (h : SrvCl K s) (hr : RecCl K d.recs) (o : Nat) : GoodCl K (Server.goes d s o):=goesF_cl _ h hr Cls.nil
theorem take_cl (h : SrvCl K s) (hr : RecCl K d.recs) (now : Int) {m : Msg} (hm : Cl K m.client) : GoodCl K (Server.take d s now m):=by
 unfold Server.take;split
 ·exact ⟨Cls.nil,hr,h⟩
 ·have h1 : SrvCl K (s.at_ now):=⟨h.queue,h.done,h.objs⟩;generalize s.at_ now = s1 at h1;simp only;split
  ·unfold Server.reads;simp only;have hv : Cl K (s1.stamp { noMsg with kind:=5,client:=m.client,number:=m.number,object:=m.object,version:=(s1.value m.object.toNat).ver,data:=(s1.value m.object.toNat).data }).client:=hm;split
   ·exact ⟨fun x hx => by
     rcases List.mem_cons.1 hx with rfl | hx
     ·exact hm
     ·rw [List.mem_singleton.1 hx];exact hm,hr,h1⟩
   ·split
    ·refine ⟨Cls.one hm,hr,h1.tab fun e he => ?_⟩;unfold Table.object at he;split at he
     ·rcases List.mem_cons.1 he with rfl | he
      ·exact hm
      ·exact h1.objs e (del_mem he)
     ·exact h1.objs e he
    ·exact ⟨Cls.one hm,hr,h1⟩
  ·split
   ·have henq : GoodCl K (Server.enqueue d s1 m):=by
     unfold Server.enqueue;simp only;split
     ·exact ⟨Cls.nil,hr,h1⟩
     ·split
      ·exact ⟨Cls.nil,hr,h1⟩
      ·exact goes_cl (h1.set_ _ fun x hx => by
        rcases List.mem_append.1 hx with hx | hx
        ·exact h1.queue_ hx
        ·rw [List.mem_singleton.1 hx];exact hm) hr _
    unfold Server.writes;split
    ·rename_i x hx;split
     ·split
      ·exact ⟨Cls.nil,hr,h1⟩
      ·exact ⟨Cls.one (h1.done _ x hx),hr,h1⟩
     ·exact henq
    ·exact henq
   ·split
    ·unfold Server.renews;split
     ·exact ⟨Cls.one hm,hr,h1⟩
     ·simp only;split
      ·refine ⟨fun x hx => ?_,hr,h1⟩;obtain ⟨k,_,rfl⟩:=List.mem_map.1 hx;exact hm
      ·refine ⟨Cls.one hm,hr,h1.tab fun e he => ?_⟩;unfold Table.volume at he;split at he <;> exact h1.objs e he
    ·split
     ·unfold Server.acked;simp only;split
      ·exact ⟨Cls.nil,hr,h1⟩
      ·exact goes_cl (h1.tab fun e he => h1.objs e (del_mem he)) hr _
     ·exact ⟨Cls.nil,hr,h1⟩
theorem tickF_cl : ∀ (ks : List Nat) {d : Disk} {s : Server} (_ : SrvCl K s) (_ : RecCl K d.recs) {out : List Msg} (_ : Cls K out),GoodCl K (Server.tickF ks d s out)
 | [],_,_,h,hr,_,ho => ⟨ho,hr,h⟩
 | k :: ks,d,s,h,hr,out,ho => by
  unfold Server.tickF;obtain ⟨g1,g2,g3⟩:=goes_cl h hr k;exact tickF_cl ks g3 g2 (ho.app g1)
theorem tick_cl (h : SrvCl K s) (hr : RecCl K d.recs) (now : Int) : GoodCl K (Server.tick d s now):=by
 unfold Server.tick;split
 ·exact ⟨Cls.nil,hr,h⟩
 ·exact tickF_cl (List.range 8) (s:=s.at_ now) ⟨h.queue,h.done,h.objs⟩ hr (out:=[]) Cls.nil
theorem replay_cl : ∀ (l : List Rec) {s : Server} (_ : SrvCl K s) (_ : RecCl K l),SrvCl K (s.replay l)
 | [],_,h,_ => h
 | r :: l,s,h,hr => by
  unfold Server.replay;have h2 : RecCl K l:=fun x hx => hr x (List.mem_cons_of_mem _ hx);split
  ·exact replay_cl l ⟨h.queue,h.done,h.objs⟩ h2
  ·refine replay_cl l ?_ h2;have hc:=hr r List.mem_cons_self (by omega);exact ⟨h.queue,(h.done_ r.client (m:={ noMsg with kind:=6,client:=r.client,number:=r.number,object:=r.object,version:=r.version }) hc).done,h.objs⟩
theorem new_cl (hr : RecCl K d.recs) (t : Terms) (now : Int) : RecCl K (Server.new t d now).2.1.recs ∧ ∀ s,(Server.new t d now).2.2 = some s → SrvCl K s:=by
 unfold Server.new;split
 ·exact ⟨hr,fun s h => by cases h⟩
 ·have hb : SrvCl K (Server.blank t now):=by
   refine ⟨fun q hq x hx => ?_,fun k m h => ?_,fun e he => ?_⟩
   ·have:=List.eq_of_mem_replicate hq;rw [this] at hx;cases hx
   ·simp [Server.blank,seek] at h
   ·cases he
  have h1 : SrvCl K ((Server.blank t now).replay d.recs):=replay_cl _ hb hr;generalize (Server.blank t now).replay d.recs = s1 at h1 ⊢
  have h2 : SrvCl K (if 1 < (wrap64 (s1.epoch + 1)) then { s1 with epoch:=wrap64 (s1.epoch + 1),quiet:=now + t.volume } else { s1 with epoch:=wrap64 (s1.epoch + 1) }):=by
   split <;> exact ⟨h1.queue,h1.done,h1.objs⟩
  simp only
  generalize (if 1 < wrap64 (s1.epoch + 1) then ({ s1 with epoch:=wrap64 (s1.epoch + 1),quiet:=now + t.volume } : Server) else { s1 with epoch:=wrap64 (s1.epoch + 1) }) = s2 at h2 ⊢
  have ha:=hr.add_ false (r:=⟨0,0,-1,0,[],s2.epoch⟩) fun h => absurd h (by simp);generalize d.add false ⟨0,0,-1,0,[],s2.epoch⟩ = p at ha ⊢;split
  ·exact ⟨ha,fun s hs => by rw [← Option.some.inj hs];exact h2⟩
  ·exact ⟨ha,fun s hs => by cases hs⟩
end
structure Tos (w : Realm) : Prop where
 recs : RecCl w.clients.length w.disk.recs
 server : ∀ s,w.server = some s → SrvCl w.clients.length s
 net : ∀ g ∈ w.net.l,Cl w.clients.length g.msg.client ∧ (g.to < 0 ∨ g.to = g.msg.client)
 ids : ∀ (k : Nat) (c : Client),w.clients[k]? = some c → c.id = k
section
variable {w : Realm}
theorem again_cl {K : Nat} {c : Client} (h : Cl K c.id) : Cls K c.again.1 ∧ c.again.2.id = c.id:=by
 have h1 : ∀ c' : Client,c'.id = c.id → Cls K c'.asks:=fun c' e => by
  unfold Client.asks;split
  ·exact Cls.one (by simp only [Client.stamp,e];exact h)
  ·exact Cls.nil
 unfold Client.again;split
 ·exact ⟨Cls.app (Cls.one h) (h1 _ rfl),rfl⟩
 ·exact ⟨h1 _ rfl,rfl⟩
theorem ask_cl {K : Nat} {c : Client} (h : Cl K c.id) : Cls K c.ask.1 ∧ c.ask.2.id = c.id:=by
 unfold Client.ask;exact again_cl (c:={ c with number:=wrap64 (c.number + 1),asked:=wrap64 (c.number + 1),sent:=c.now }) h
theorem read_cl {K : Nat} {c : Client} (h : Cl K c.id) (o : Int) : Cls K (c.read o).2.1 ∧ (c.read o).2.2.id = c.id:=by
 unfold Client.read;split
 ·exact ⟨Cls.nil,rfl⟩
 ·split
  ·exact ⟨Cls.nil,rfl⟩
  ·simp only;split
   ·split
    ·exact ⟨Cls.nil,rfl⟩
    ·exact ask_cl (by exact h)
   ·exact ask_cl (by exact h)
theorem write_cl {K : Nat} {c : Client} (h : Cl K c.id) (o : Int) (d : Bytes) : Cls K (c.write o d).2.1 ∧ (c.write o d).2.2.id = c.id:=by
 unfold Client.write;split
 ·exact ⟨Cls.nil,rfl⟩
 ·split
  ·exact ⟨Cls.nil,rfl⟩
  ·split
   ·exact ⟨Cls.nil,rfl⟩
   ·exact ask_cl (by exact h)
theorem ctake_cl {K : Nat} {c : Client} (h : Cl K c.id) (m : Msg) : Cls K (c.take m).1 ∧ (c.take m).2.id = c.id:=by
 unfold Client.take;split
 ·exact ⟨Cls.nil,rfl⟩
 ·simp only;split
  ·refine ⟨Cls.nil,?_⟩;unfold Client.takesValue;split
   ·rfl
   ·simp only;split <;> rfl
  ·split
   ·split <;> exact ⟨Cls.nil,rfl⟩
   ·split
    ·split <;> exact ⟨Cls.nil,rfl⟩
    ·split
     ·split <;> exact ⟨Cls.nil,rfl⟩
     ·split
      ·split
       ·exact ⟨Cls.one h,rfl⟩
       ·exact ⟨Cls.nil,rfl⟩
      ·exact ⟨Cls.nil,rfl⟩
theorem sendAll_tos {K : Nat} (b : Bool) : ∀ (l : List Msg) (n : Net) (_ : Cls K l) (_ : ∀ g ∈ n.l,Cl K g.msg.client ∧ (g.to < 0 ∨ g.to = g.msg.client)),∀ g ∈ (sendAll n b l).l,Cl K g.msg.client ∧ (g.to < 0 ∨ g.to = g.msg.client)
 | [],n,_,hn => hn
 | m :: l,n,hl,hn => by
  unfold sendAll;split
  ·refine sendAll_tos b l _ (fun x hx => hl x (List.mem_cons_of_mem _ hx)) fun g hg => ?_;unfold Net.send at hg;split at hg
   ·exact hn g hg
   ·rcases List.mem_append.1 hg with hg | hg
    ·exact hn g hg
    ·rw [List.mem_singleton.1 hg];refine ⟨hl m List.mem_cons_self,?_⟩;cases b
     ·left;show (-1 : Int) < 0;decide
     ·exact .inr rfl
  ·exact sendAll_tos b l n (fun x hx => hl x (List.mem_cons_of_mem _ hx)) hn
theorem Tos.client_ (h : Tos w) {k : Nat} {c c' : Client} (hc : w.clients[k]? = some c) (hid : c'.id = c.id) {l : List Msg} (hl : Cls w.clients.length l) : Tos ({ w with clients:=w.clients.set k c' }.sends false l):=by
 refine ⟨?_,?_,?_,fun j x hx => ?_⟩
 ·show RecCl (w.clients.set k c').length _;rw [List.length_set];exact h.recs
 ·show ∀ s,_ → SrvCl (w.clients.set k c').length s;rw [List.length_set];exact h.server
 ·show ∀ g ∈ (sendAll w.net false l).l,Cl (w.clients.set k c').length _ ∧ _;rw [List.length_set];exact sendAll_tos false l w.net hl h.net
 ·have hx : (w.clients.set k c')[j]? = some x:=hx;rw [List.getElem?_set] at hx;split at hx
  ·rename_i e;split at hx
   ·rw [← Option.some.inj hx,hid,h.ids k c hc,e]
   ·cases hx
  ·exact h.ids j x hx
theorem Tos.cl (h : Tos w) {k : Nat} {c : Client} (hc : w.clients[k]? = some c) : Cl w.clients.length c.id:=by
 rw [h.ids k c hc];have:=(List.getElem?_eq_some_iff.1 hc).1;exact ⟨by omega,by omega⟩
theorem Tos.server_ (h : Tos w) {r : List Msg × Disk × Server} (hr : GoodCl w.clients.length r) : Tos ({ w with disk:=r.2.1,server:=some r.2.2 }.sends true r.1):=
 ⟨hr.2.1,fun s hs => by rw [← Option.some.inj hs];exact hr.2.2,sendAll_tos true r.1 w.net hr.1 h.net,h.ids⟩
theorem Tos.falls_ (h : Tos w) : Tos w.falls:=by
 unfold Realm.falls;split
 ·split
  ·exact ⟨h.recs,(fun s hs => by cases hs),h.net,h.ids⟩
  ·exact h
 ·exact h
theorem Tos.looks_ (h : Tos w) (k : Nat) : Tos (w.looks k):=by
 unfold Realm.looks;split
 ·split
  ·split
   ·exact ⟨h.recs,h.server,h.net,h.ids⟩
   ·exact h
  ·exact h
 ·exact h
theorem Tos.begins_ (h : Tos w) {k : Nat} {c c' : Client} (hc : w.clients[k]? = some c) (hid : c'.id = c.id) (e : Int) {l : List Msg} (hl : Cls w.clients.length l) : Tos (w.begins k e l c').2:=by
 have h1:=h.client_ hc hid (l:=[]) Cls.nil;have h2:=h.client_ hc hid hl;unfold Realm.begins;split
 ·exact ⟨h1.recs,h1.server,h1.net,h1.ids⟩
 ·refine Tos.looks_ (w:=Realm.sends _ false l) ?_ k;exact ⟨h2.recs,h2.server,h2.net,h2.ids⟩
theorem Tos.read_ (h : Tos w) (k o : Int) : Tos (w.read k o).2:=by
 unfold Realm.read;split
 ·exact h
 ·split
  ·rename_i c hc;exact h.begins_ hc (read_cl (h.cl hc) o).2 _ (read_cl (h.cl hc) o).1
  ·exact h
theorem Tos.write_ (h : Tos w) (k o : Int) (d : Bytes) : Tos (w.write k o d).2:=by
 unfold Realm.write;split
 ·exact h
 ·split
  ·rename_i c hc;exact h.begins_ hc (write_cl (h.cl hc) o d).2 _ (write_cl (h.cl hc) o d).1
  ·exact h
theorem Tos.again_ (h : Tos w) (k : Int) : Tos (w.again k).2:=by
 unfold Realm.again;split
 ·exact h
 ·split
  ·rename_i c hc;have h1:=h.client_ hc (again_cl (h.cl hc)).2 (again_cl (h.cl hc)).1;exact ⟨h1.recs,h1.server,h1.net,h1.ids⟩
  ·exact h
theorem Tos.net_ (h : Tos w) {n : Net} (hn : ∀ g ∈ n.l,g ∈ w.net.l) : Tos { w with net:=n }:=⟨h.recs,h.server,fun g hg => h.net g (hn g hg),h.ids⟩
theorem Tos.deliver_ (h : Tos w) (k : Int) : Tos (w.deliver k).2:=by
 unfold Realm.deliver;split
 ·exact h
 ·split
  ·exact h
  ·rename_i g hg;have hm:=h.net g (List.mem_of_getElem? hg)
   have h0 : Tos ({ w with net:={ w.net with l:=w.net.l.eraseIdx k.toNat } } : Realm).begin:=by
    have:=h.net_ (n:={ w.net with l:=w.net.l.eraseIdx k.toNat }) fun x hx => List.mem_of_mem_eraseIdx hx;exact ⟨this.recs,this.server,this.net,this.ids⟩
   have e0 : ({ w with net:={ w.net with l:=w.net.l.eraseIdx k.toNat } } : Realm).begin.clients.length = w.clients.length:=rfl;generalize ({ w with net:={ w.net with l:=w.net.l.eraseIdx k.toNat } } : Realm).begin = w1 at h0 e0;simp only;split
   ·split
    ·exact h0
    ·rename_i s hs;exact Tos.falls_ (h0.server_ (take_cl (h0.server s hs) h0.recs _ (by rw [e0];exact hm.1)))
   ·split
    ·rename_i c hc;exact Tos.looks_ (h0.client_ hc (ctake_cl (h0.cl hc) _).2 (ctake_cl (h0.cl hc) _).1) _
    ·exact h0
theorem Tos.lose_ (h : Tos w) (k : Int) : Tos (w.lose k).2:=by
 unfold Realm.lose;split
 ·exact h
 ·exact h.net_ fun x hx => List.mem_of_mem_eraseIdx hx
theorem Tos.twice_ (h : Tos w) (k : Int) : Tos (w.twice k).2:=by
 unfold Realm.twice;split
 ·exact h
 ·split
  ·rename_i g hg;refine h.net_ fun x hx => ?_;unfold Net.send at hx;split at hx
   ·exact hx
   ·rcases List.mem_append.1 hx with hx | hx
    ·exact hx
    ·rw [List.mem_singleton.1 hx];exact List.mem_of_getElem? hg
  ·exact h
theorem Tos.at__ (h : Tos w) (ns cl : List Int) : Tos ({ w with clocks:=cl,clients:=atAll w.clients ns } : Realm).begin:=by
 have e : (atAll w.clients ns).length = w.clients.length:=atAll_len _ _;refine ⟨?_,?_,?_,fun k c hc => ?_⟩
 ·show RecCl (atAll w.clients ns).length _;rw [e];exact h.recs
 ·show ∀ s,_ → SrvCl (atAll w.clients ns).length s;rw [e];exact h.server
 ·show ∀ g ∈ w.net.l,Cl (atAll w.clients ns).length _ ∧ _;rw [e];exact h.net
 ·obtain ⟨c0,h1,h2⟩:=atAll_get _ _ k c hc;rcases h2 with rfl | ⟨n,rfl⟩
  ·exact h.ids k c h1
  ·exact h.ids k c0 h1
theorem Tos.goes_ (h : Tos w) (l : List Int) : Tos (w.goes l).2:=by
 unfold Realm.goes;split
 ·exact h
 ·split
  ·exact h
  ·have h0:=h.at__ (moveAll w.clocks l).tail (moveAll w.clocks l);simp only;split
   ·exact h0
   ·rename_i s hs;have h1:=(h0.server_ (r:=Server.tick w.disk s ((moveAll w.clocks l).getD 0 0)) (tick_cl (h0.server s hs) h0.recs _)).falls_;exact h1
theorem Tos.fails_ (h : Tos w) (a t : Int) : Tos (w.fails a t):=by
 refine ⟨h.recs,fun s hs => ?_,h.net,h.ids⟩;have hs : w.server.map (fun s => { s with torn:=t }) = some s:=hs;obtain ⟨s0,h1,rfl⟩:=Option.map_eq_some_iff.1 hs;have:=h.server s0 h1;exact ⟨this.queue,this.done,this.objs⟩
theorem Tos.crash_ (h : Tos w) : Tos w.crash:=⟨h.recs,(fun s hs => by cases hs),h.net,h.ids⟩
theorem Tos.restart_ (h : Tos w) : Tos w.restart.2:=by
 unfold Realm.restart;split
 ·exact h
 ·have h1:=new_cl (d:=w.begin.disk.cutAt (-1)) h.recs w.begin.terms (w.begin.clocks.getD 0 0);exact ⟨h1.1,h1.2,h.net,h.ids⟩
theorem Tos.reborn_ (h : Tos w) (k : Int) : Tos (w.reborn k).2:=by
 unfold Realm.reborn;split
 ·exact h
 ·rename_i hr;split
  ·exact h
  ·rename_i c hc;simp only [Bool.not_eq_true',Bool.not_eq_false,Realm.right,Bool.and_eq_true,decide_eq_true_eq] at hr
   have hid : c.id = k:=by
    unfold Client.new at hc;split at hc
    ·rw [← Option.some.inj hc]
    ·cases hc
   refine ⟨?_,?_,?_,fun j x hx => ?_⟩
   ·show RecCl (w.clients.set k.toNat c).length _;rw [List.length_set];exact h.recs
   ·show ∀ s,_ → SrvCl (w.clients.set k.toNat c).length s;rw [List.length_set];exact h.server
   ·show ∀ g ∈ w.net.l,Cl (w.clients.set k.toNat c).length _ ∧ _;rw [List.length_set];exact h.net
   ·have hx : (w.clients.set k.toNat c)[j]? = some x:=hx;rw [List.getElem?_set] at hx;split at hx
    ·split at hx
     ·rw [← Option.some.inj hx,hid];omega
     ·cases hx
    ·exact h.ids j x hx
theorem Tos.flowsF_ : ∀ (f : Nat) {w : Realm} (_ : Tos w),Tos (Realm.flowsF f w)
 | 0,_,h => h
 | f + 1,w,h => by
  unfold Realm.flowsF;split
  ·exact h
  ·exact Tos.flowsF_ f (h.deliver_ 0)
theorem Tos.eachAgain_ : ∀ (ks : List Nat) {w : Realm} (_ : Tos w),Tos (Realm.eachAgain ks w)
 | [],_,h => h
 | k :: ks,_,h => Tos.eachAgain_ ks (Tos.flowsF_ 1000 (h.again_ k))
theorem Tos.round_ (h : Tos w) : Tos w.round:=Tos.flowsF_ 1000 ((Tos.eachAgain_ _ h.restart_).goes_ _)
theorem Tos.calmN_ : ∀ (n : Nat) {w : Realm} (_ : Tos w),Tos (Realm.calmN n w)
 | 0,_,h => h
 | n + 1,_,h => Tos.calmN_ n h.round_
theorem Tos.new_ {t : Terms} {n : Int} (h : (Realm.new t n).2 = some w) : Tos w:=by
 unfold Realm.new at h;split at h
 ·cases h
 ·split at h
  ·rename_i e d s heq;split at h
   ·rename_i cs hcs;obtain rfl:=Option.some.inj h;obtain ⟨c1,c2⟩:=newClients_get _ hcs;have h1:=new_cl (K:=cs.length) (d:=⟨[],false,0⟩) (fun r hr => by cases hr) t 0;rw [heq] at h1;refine ⟨h1.1,h1.2,(fun g hg => by cases hg),fun k c hc => ?_⟩;have:=c2 k c hc;unfold Client.new at this;split at this
    ·rw [← Option.some.inj this];simp
    ·cases this
   ·cases h
  ·cases h
end
def Clk (w : Realm) : Prop:=∀ c ∈ w.clocks,0 ≤ c ∧ c ≤ half
theorem moveAll_clk : ∀ (cs ns : List Int) (_ : ∀ c ∈ cs,0 ≤ c ∧ c ≤ half) (_ : ∀ n ∈ ns,0 ≤ n),∀ c ∈ moveAll cs ns,0 ≤ c ∧ c ≤ half
 | [],ns,_,_,c,h => by simp [moveAll] at h
 | x :: cs,[],_,_,c,h => by simp [moveAll] at h
 | x :: cs,n :: ns,h1,h2,c,h => by
  unfold moveAll at h;rcases List.mem_cons.1 h with rfl | h
  ·have a1:=(h1 x List.mem_cons_self).1;have a2:=h2 n List.mem_cons_self;unfold half;omega
  ·exact moveAll_clk cs ns (fun c hc => h1 c (List.mem_cons_of_mem _ hc)) (fun c hc => h2 c (List.mem_cons_of_mem _ hc)) c h
theorem Clk.same {w w' : Realm} (h : Clk w) (e : w'.clocks = w.clocks) : Clk w':=fun c hc => h c (e ▸ hc)
theorem looks_clocks (w : Realm) (k : Nat) : (w.looks k).clocks = w.clocks:=by
 unfold Realm.looks;split
 ·split
  ·split <;> rfl
  ·rfl
 ·rfl
theorem begins_clocks (w : Realm) (k : Nat) (e : Int) (l : List Msg) (c : Client) : (w.begins k e l c).2.clocks = w.clocks:=by
 unfold Realm.begins;split
 ·rfl
 ·exact looks_clocks _ _
theorem read_clocks (w : Realm) (k o : Int) : (w.read k o).2.clocks = w.clocks:=by
 unfold Realm.read;split
 ·rfl
 ·split
  ·exact begins_clocks _ _ _ _ _
  ·rfl
theorem write_clocks (w : Realm) (k o : Int) (d : Bytes) : (w.write k o d).2.clocks = w.clocks:=by
 unfold Realm.write;split
 ·rfl
 ·split
  ·exact begins_clocks _ _ _ _ _
  ·rfl
theorem again_clocks (w : Realm) (k : Int) : (w.again k).2.clocks = w.clocks:=by
 unfold Realm.again;split
 ·rfl
 ·split <;> rfl
theorem falls_clocks (w : Realm) : w.falls.clocks = w.clocks:=by
 unfold Realm.falls;split
 ·split <;> rfl
 ·rfl
theorem deliver_clocks (w : Realm) (k : Int) : (w.deliver k).2.clocks = w.clocks:=by
 unfold Realm.deliver;split
 ·rfl
 ·split
  ·rfl
  ·simp only;split
   ·split
    ·rfl
    ·exact falls_clocks _
   ·split
    ·exact looks_clocks _ _
    ·rfl
theorem lose_clocks (w : Realm) (k : Int) : (w.lose k).2.clocks = w.clocks:=by
 unfold Realm.lose;split <;> rfl
theorem twice_clocks (w : Realm) (k : Int) : (w.twice k).2.clocks = w.clocks:=by
 unfold Realm.twice;split
 ·rfl
 ·split <;> rfl
theorem restart_clocks (w : Realm) : w.restart.2.clocks = w.clocks:=by
 unfold Realm.restart;split <;> rfl
theorem reborn_clocks (w : Realm) (k : Int) : (w.reborn k).2.clocks = w.clocks:=by
 unfold Realm.reborn;split
 ·rfl
 ·split <;> rfl
theorem Clk.goes_ {w : Realm} (h : Clk w) (l : List Int) : Clk (w.goes l).2:=by
 unfold Realm.goes;split
 ·exact h
 ·split
  ·exact h
  ·rename_i hany
   have h1 : ∀ c ∈ moveAll w.clocks l,0 ≤ c ∧ c ≤ half:=moveAll_clk _ _ h fun n hn => by
    have hany : ¬ (l.any fun n => !inR n 0 137438953472) = true:=hany;rw [List.any_eq_true] at hany;have h2 : ¬ (!inR n 0 137438953472) = true:=fun h3 => hany ⟨n,hn,h3⟩;simp only [Bool.not_eq_true',Bool.not_eq_false,inR,Bool.and_eq_true,decide_eq_true_eq] at h2;exact h2.1
   simp only;split
   ·exact h1
   ·intro c hc;rw [falls_clocks] at hc;exact h1 c hc
theorem flowsF_clocks : ∀ (f : Nat) (w : Realm),(Realm.flowsF f w).clocks = w.clocks
 | 0,_ => rfl
 | f + 1,w => by
  unfold Realm.flowsF;split
  ·rfl
  ·rw [flowsF_clocks f,deliver_clocks]
theorem eachAgain_clocks : ∀ (ks : List Nat) (w : Realm),(Realm.eachAgain ks w).clocks = w.clocks
 | [],_ => rfl
 | k :: ks,w => by
  unfold Realm.eachAgain Realm.flows;rw [eachAgain_clocks ks,flowsF_clocks,again_clocks]
theorem Clk.round_ {w : Realm} (h : Clk w) : Clk w.round:=by
 unfold Realm.round Realm.flows;have h1 : Clk (Realm.eachAgain (List.range w.restart.2.clients.length) w.restart.2):=h.same (by rw [eachAgain_clocks,restart_clocks]);exact (h1.goes_ _).same (flowsF_clocks _ _)
theorem Clk.calmN_ : ∀ (n : Nat) {w : Realm} (_ : Clk w),Clk (Realm.calmN n w)
 | 0,_,h => h
 | n + 1,_,h => Clk.calmN_ n h.round_
theorem Clk.new_ {t : Terms} {n : Int} {w : Realm} (h : (Realm.new t n).2 = some w) : Clk w:=by
 unfold Realm.new at h;split at h
 ·cases h
 ·split at h
  ·split at h
   ·obtain rfl:=Option.some.inj h;intro c hc;have:=List.eq_of_mem_replicate hc;unfold half;omega
   ·cases h
  ·cases h
def mv : Nat → List Int → List Int → List Int
 | k + 1,c :: cs,n :: ns => min (c + n) half :: mv k cs ns
 | _,cs,_ => cs
theorem mv_zero (cs ns : List Int) : mv 0 cs ns = cs:=by unfold mv;rfl
theorem mv_len : ∀ (k : Nat) (cs ns : List Int),(mv k cs ns).length = cs.length
 | 0,cs,ns => by rw [mv_zero]
 | k + 1,[],ns => by simp [mv]
 | k + 1,c :: cs,[] => by simp [mv]
 | k + 1,c :: cs,n :: ns => by simp [mv,mv_len k cs ns]
theorem mv_get : ∀ (k : Nat) (cs ns : List Int),(mv k cs ns)[k]? = cs[k]?
 | 0,cs,ns => by rw [mv_zero]
 | k + 1,[],ns => by simp [mv]
 | k + 1,c :: cs,[] => by simp [mv]
 | k + 1,c :: cs,n :: ns => by simp [mv,mv_get k cs ns]
theorem mv_set : ∀ (k : Nat) (cs ns : List Int) (c n : Int) (_ : cs[k]? = some c) (_ : ns[k]? = some n),(mv k cs ns).set k (min (c + n) half) = mv (k + 1) cs ns
 | 0,c :: cs,n :: ns,c',n',h1,h2 => by
  (have e1 : c = c':=by simpa using h1);(have e2 : n = n':=by simpa using h2);rw [mv_zero,mv,mv_zero,e1,e2];rfl
 | k + 1,c :: cs,n :: ns,c',n',h1,h2 => by
  rw [mv,mv,List.set_cons_succ,mv_set k cs ns c' n' (by simpa using h1) (by simpa using h2)]
 | k,[],ns,c',n',h1,h2 => by simp at h1
 | k,c :: cs,[],c',n',h1,h2 => by simp at h2
theorem mv_all : ∀ (cs ns : List Int) (_ : ns.length = cs.length),mv cs.length cs ns = moveAll cs ns
 | [],[],_ => rfl
 | [],n :: ns,h => by simp at h
 | c :: cs,[],h => by simp at h
 | c :: cs,n :: ns,h => by
  simp only [List.length_cons] at h ⊢;rw [mv,moveAll,mv_all cs ns (by omega)]
def av : Nat → List Client → List Int → List Client
 | k + 1,c :: cs,n :: ns => c.at_ n :: av k cs ns
 | _,cs,_ => cs
theorem av_zero (cs : List Client) (ns : List Int) : av 0 cs ns = cs:=by unfold av;rfl
theorem av_len : ∀ (k : Nat) (cs : List Client) (ns : List Int),(av k cs ns).length = cs.length
 | 0,cs,ns => by rw [av_zero]
 | k + 1,[],ns => by simp [av]
 | k + 1,c :: cs,[] => by simp [av]
 | k + 1,c :: cs,n :: ns => by simp [av,av_len k cs ns]
theorem av_get : ∀ (k : Nat) (cs : List Client) (ns : List Int),(av k cs ns)[k]? = cs[k]?
 | 0,cs,ns => by rw [av_zero]
 | k + 1,[],ns => by simp [av]
 | k + 1,c :: cs,[] => by simp [av]
 | k + 1,c :: cs,n :: ns => by simp [av,av_get k cs ns]
theorem av_set : ∀ (k : Nat) (cs : List Client) (ns : List Int) (c : Client) (n : Int) (_ : cs[k]? = some c) (_ : ns[k]? = some n),(av k cs ns).set k (c.at_ n) = av (k + 1) cs ns
 | 0,c :: cs,n :: ns,c',n',h1,h2 => by
  (have e1 : c = c':=by simpa using h1);(have e2 : n = n':=by simpa using h2);rw [av_zero,av,av_zero,e1,e2];rfl
 | k + 1,c :: cs,n :: ns,c',n',h1,h2 => by
  rw [av,av,List.set_cons_succ,av_set k cs ns c' n' (by simpa using h1) (by simpa using h2)]
 | k,[],ns,c',n',h1,h2 => by simp at h1
 | k,c :: cs,[],c',n',h1,h2 => by simp at h2
theorem av_all : ∀ (cs : List Client) (ns : List Int),av cs.length cs ns = atAll cs ns
 | [],ns => by unfold av atAll;cases ns <;> rfl
 | c :: cs,[] => by simp [av,atAll]
 | c :: cs,n :: ns => by
  simp only [List.length_cons];rw [av,atAll,av_all cs ns]
end lasts
end Go.Proofs.YtefkmcjhgoagcaaGreatDoor
