/-
  What the program does, in plain Lean: records of a disk, leases, a cache, a server, clients, a world. No program in sight.
-/
import Derived.Test.YtadjbloccjbegaaGreatDoorWirePlain
import Derived.RowKit
namespace Go.Proofs.YtadjbloccjbegaaGreatDoor.model
open Go.RowKit Go.Proofs.YtadjbloccjbegaaGreatDoor.wire

abbrev Bytes := List UInt8

/-! Maps by a number: the one entry of a key. -/
def seek {K V : Type} [DecidableEq K] (k : K) : List (K × V) → Option V
  | [] => none
  | (x, v) :: l => if x = k then some v else seek k l
def del {K V : Type} [DecidableEq K] (k : K) : List (K × V) → List (K × V)
  | [] => []
  | (x, v) :: l => if x = k then del k l else (x, v) :: del k l
def put {K V : Type} [DecidableEq K] (k : K) (v : V) (l : List (K × V)) : List (K × V) := (k, v) :: del k l

/-! Clocks (1). -/
def inR (n low high : Int) : Bool := decide (low ≤ n) && decide (n ≤ high)
def short (drift term : Int) : Int := if inR drift 0 500 && inR term 0 maxTime then term * (1000 - drift) / (1000 + drift) else 0
def addT (a b : Int) : Int := if inR a 0 maxTime && inR b 0 maxTime then min (a + b) maxTime else 0

structure Val where
  data : Bytes
  ver : Int
deriving DecidableEq
def noVal : Val := ⟨[], 0⟩
structure Terms where
  object : Int
  volume : Int
  drift : Int
structure MCall where
  kind : Int
  object : Int
  value : Val
  over : Bool
  hit : Bool
deriving DecidableEq
def noCall : MCall := ⟨0, 0, noVal, false, false⟩

/-! Records (4). -/
structure Rec where
  client : Int
  number : Int
  object : Int
  version : Int
  data : Bytes
  epoch : Int
deriving DecidableEq
def Rec.right (r : Rec) : Bool :=
  if r.object = -1 then okN r.epoch && decide (r.client = 0) && decide (r.number = 0) && decide (r.version = 0) && decide (r.data = [])
  else okN r.client && okN r.number && inR r.object 0 7 && okN r.version && decide (r.data.length ≤ 20) && decide (r.epoch = 0)
structure Disk where
  recs : List Rec
  cut : Bool
  left : Int
def Disk.cutAt (d : Disk) (n : Int) : Disk := { d with cut := decide (0 ≤ n), left := max n 0 }
/-- Add: the error, the disk, whether it is down. -/
def Disk.add (d : Disk) (down : Bool) (r : Rec) : Int × Disk × Bool :=
  if down then (6, d, down)
  else if !r.right then (1, d, down)
  else if 200 ≤ d.recs.length then (12, d, down)
  else if d.cut && decide (d.left = 0) then (14, d, true)
  else (0, { d with recs := d.recs ++ [r], left := wrap64 (d.left - 1) }, down)

/-! Leases (5). -/
structure Table where
  objs : List ((Int × Int) × Int)
  vols : List Int
  sess : List Int
def Table.new : Table := ⟨[], [0, 0, 0, 0], [0, 0, 0, 0]⟩
def isClient (c : Int) : Bool := inR c 0 3
def isObject (o : Int) : Bool := inR o 0 7
def Table.object (t : Table) (c o u : Int) : Int × Table :=
  if isClient c && isObject o && inR u 0 maxTime then (0, { t with objs := put (c, o) (max ((seek (c, o) t.objs).getD 0) u) t.objs }) else (2, t)
def Table.volume (t : Table) (c u : Int) : Int × Table :=
  if isClient c && inR u 0 maxTime then (0, { t with vols := t.vols.set c.toNat (max (t.vols.getD c.toNat 0) u) }) else (2, t)
def Table.holds (t : Table) (o now c : Int) : Bool := match seek (c, o) t.objs with | some u => decide (now < u) | none => false
def Table.holders (t : Table) (o now : Int) : List Int := [0, 1, 2, 3].filter (t.holds o now)
def Table.leans (t : Table) (c now : Int) : Bool := isClient c && decide (now < t.vols.getD c.toNat 0)
def Table.drop (t : Table) (c o : Int) : Table := { t with objs := del (c, o) t.objs }
def Table.flush (t : Table) (c : Int) : Int × Table :=
  if isClient c then (0, { objs := t.objs.filter (fun e => !decide (e.1.1 = c)), vols := t.vols.set c.toNat 0, sess := t.sess.set c.toNat (wrap64 (t.sess.getD c.toNat 0 + 1)) }) else (2, t)
def Table.session (t : Table) (c : Int) : Int := if isClient c then t.sess.getD c.toNat 0 else 0

/-! A cache (6). -/
structure MItem where
  object : Int
  value : Val
  till : Int
abbrev Cache := List MItem
def Cache.drop (c : Cache) (o : Int) : Cache := c.eraseP (fun x => decide (x.object = o))
def Cache.put (c : Cache) (o : Int) (v : Val) (u : Int) : Cache :=
  let l := c.drop o
  (if l.length = 6 then List.drop 1 l else l) ++ [⟨o, v, u⟩]
def Cache.get (c : Cache) (o : Int) : Option MItem × Cache :=
  match c.find? (fun x => decide (x.object = o)) with
  | some x => (some x, c.drop o ++ [x])
  | none => (none, c)

/-! Datagrams (3), their messages read. -/
structure Gram where
  to : Int
  msg : Msg
structure Net where
  l : List Gram
  lost : Int
def Net.send (n : Net) (g : Gram) : Net := if 200 ≤ n.l.length then { n with lost := wrap64 (n.lost + 1) } else { n with l := n.l ++ [g] }

def noMsg : Msg := ⟨0, 0, 0, 0, 0, 0, 0, false, []⟩

/-! The server. -/
structure Wr where
  client : Int
  number : Int
  data : Bytes
  begun : Bool
structure Server where
  terms : Terms
  down : Bool
  values : List Val
  queues : List (List Wr)
  done : List (Int × Msg)
  table : Table
  epoch : Int
  quiet : Int
  now : Int
  torn : Int
def Server.value (s : Server) (o : Nat) : Val := s.values.getD o noVal
def Server.queue (s : Server) (o : Nat) : List Wr := s.queues.getD o []
def Server.stamp (s : Server) (m : Msg) : Msg := { m with epoch := s.epoch, session := s.table.session m.client }
def Server.knows (s : Server) (m : Msg) : Bool := isClient m.client && decide (m.epoch = s.epoch) && decide (m.session = s.table.session m.client)
def half : Int := 549755813888
def Server.at_ (s : Server) (now : Int) : Server := { s with now := max s.now (min now half) }
def Server.applies (s : Server) (r : Rec) : Server × Msg :=
  let m : Msg := { noMsg with kind := 6, client := r.client, number := r.number, object := r.object, version := r.version }
  ({ s with values := s.values.set r.object.toNat ⟨r.data, r.version⟩, done := put r.client m s.done }, m)
def Server.inval (s : Server) (c : Int) (o : Nat) : Msg := s.stamp { noMsg with kind := 9, client := c, object := o, version := wrap64 ((s.value o).ver + 1) }
def Server.flushMsg (s : Server) (c : Int) : Msg := s.stamp { noMsg with kind := 8, client := c }
def flushAll (t : Table) (l : List Int) : Table := l.foldl (fun t c => (t.flush c).2) t

/-- What a client is told of its write, behind Add's answer. -/
def Server.answer (s : Server) (e : Int) (r : Rec) : Server × Msg :=
  if e = 0 then s.applies r
  else
    let m : Msg := { noMsg with kind := 6, client := r.client, number := r.number, object := r.object }
    ({ s with done := put r.client m s.done }, m)
/-- A write for which nobody is waited any more: whether the loop goes on; what is told; the disk, the server. -/
def Server.store (d : Disk) (s : Server) (o : Nat) (w : Wr) (rest : List Wr) (out : List Msg) : Bool × List Msg × Disk × Server :=
  let r : Rec := ⟨w.client, w.number, o, wrap64 ((s.value o).ver + 1), w.data, 0⟩
  let p := d.add s.down r
  if p.1 = 14 then (false, [], p.2.1, { s with down := p.2.2 })
  else
    let a := Server.answer { s with down := p.2.2 } p.1 r
    (true, out ++ [a.1.stamp a.2], p.2.1, { a.1 with queues := a.1.queues.set o rest })
/-- One write of an object. -/
def Server.goOne (d : Disk) (s : Server) (o : Nat) (w : Wr) (rest : List Wr) (out : List Msg) : Bool × List Msg × Disk × Server :=
  let holders := s.table.holders o s.now
  let out := if w.begun then out else out ++ holders.map fun c => s.inval c o
  let s := { s with queues := s.queues.set o ({ w with begun := true } :: rest) }
  if decide (s.now < s.quiet) || holders.any (fun c => s.table.leans c s.now) then (false, out, d, s)
  else Server.store d { s with table := flushAll s.table holders } o w rest out
def Server.goesF : Nat → Disk → Server → Nat → List Msg → List Msg × Disk × Server
  | 0, d, s, _, out => (out, d, s)
  | f + 1, d, s, o, out =>
    match s.queue o with
    | [] => (out, d, s)
    | w :: rest =>
      if s.down then (out, d, s)
      else
        let r := s.goOne d o w rest out
        if r.1 then Server.goesF f r.2.2.1 r.2.2.2 o r.2.1 else r.2
def Server.goes (d : Disk) (s : Server) (o : Nat) : List Msg × Disk × Server := Server.goesF ((s.queue o).length + 1) d s o []

def Server.reads (s : Server) (m : Msg) : List Msg × Server :=
  let o := m.object.toNat
  let v := s.value o
  let r := s.stamp { noMsg with kind := 5, client := m.client, number := m.number, object := m.object, version := v.ver, data := v.data }
  if !s.knows m then ([r, s.flushMsg m.client], s)
  else if (s.queue o).isEmpty then
    let p := s.table.object m.client m.object (addT s.now s.terms.object)
    ([{ r with lease := decide (p.1 = 0) }], { s with table := p.2 })
  else ([r], s)
def Server.pending (s : Server) (c : Int) : List Nat := (List.range 8).filter fun k => !(s.queue k).isEmpty && (s.table.holders k s.now).contains c
def Server.renews (s : Server) (m : Msg) : List Msg × Server :=
  if !s.knows m then ([s.flushMsg m.client], s)
  else
    let out := (s.pending m.client).map fun k => s.inval m.client k
    if !out.isEmpty then (out, s)
    else
      let s := { s with table := (s.table.volume m.client (addT s.now s.terms.volume)).2 }
      ([s.stamp { noMsg with kind := 7, client := m.client, number := m.number }], s)
def Server.acked (d : Disk) (s : Server) (m : Msg) : List Msg × Disk × Server :=
  let o := m.object.toNat
  if !s.knows m || (s.queue o).isEmpty || !decide (m.version = wrap64 ((s.value o).ver + 1)) then ([], d, s)
  else Server.goes d { s with table := s.table.drop m.client m.object } o
def Server.enqueue (d : Disk) (s : Server) (m : Msg) : List Msg × Disk × Server :=
  let o := m.object.toNat
  if s.queues.any (fun q => q.any fun w => decide (w.client = m.client) && decide (m.number ≤ w.number)) then ([], d, s)
  else if 10 ≤ (s.queue o).length || decide (20 < m.data.length) then ([], d, s)
  else Server.goes d { s with queues := s.queues.set o (s.queue o ++ [⟨m.client, m.number, m.data, false⟩]) } o
def Server.writes (d : Disk) (s : Server) (m : Msg) : List Msg × Disk × Server :=
  match seek m.client s.done with
  | some x => if m.number ≤ x.number then (if m.number < x.number then ([], d, s) else ([s.stamp x], d, s)) else Server.enqueue d s m
  | none => Server.enqueue d s m
def Server.take (d : Disk) (s : Server) (now : Int) (m : Msg) : List Msg × Disk × Server :=
  if s.down || !isClient m.client || !isObject m.object then ([], d, s)
  else
    let s := s.at_ now
    if m.kind = 1 then ((s.reads m).1, d, (s.reads m).2)
    else if m.kind = 2 then Server.writes d s m
    else if m.kind = 3 then ((s.renews m).1, d, (s.renews m).2)
    else if m.kind = 4 then Server.acked d s m
    else ([], d, s)
def Server.tickF : List Nat → Disk → Server → List Msg → List Msg × Disk × Server
  | [], d, s, out => (out, d, s)
  | k :: ks, d, s, out =>
    let r := Server.goes d s k
    Server.tickF ks r.2.1 r.2.2 (out ++ r.1)
def Server.tick (d : Disk) (s : Server) (now : Int) : List Msg × Disk × Server :=
  if s.down then ([], d, s) else Server.tickF (List.range 8) d (s.at_ now) []
def rightTerms (t : Terms) : Bool := decide (1 ≤ t.volume) && decide (t.volume ≤ t.object) && decide (t.object ≤ 274877906944) && inR t.drift 0 500
def Server.replay (s : Server) : List Rec → Server
  | [] => s
  | r :: l => if r.object < 0 then Server.replay { s with epoch := max s.epoch r.epoch } l else Server.replay (s.applies r).1 l
def Server.blank (t : Terms) (now : Int) : Server := ⟨t, false, List.replicate 8 noVal, List.replicate 8 [], [], Table.new, 0, 0, now, -1⟩
/-- A new server: the error (0: none), the disk, the server. -/
def Server.new (t : Terms) (d : Disk) (now : Int) : Int × Disk × Option Server :=
  if !rightTerms t || !inR now 0 half then (2, d, none)
  else
    let s := (Server.blank t now).replay d.recs
    let s := { s with epoch := wrap64 (s.epoch + 1) }
    let s := if 1 < s.epoch then { s with quiet := now + t.volume } else s
    let p := d.add false ⟨0, 0, -1, 0, [], s.epoch⟩
    if p.1 = 0 then (0, p.2.1, some s) else (p.1, p.2.1, none)

/-! A client. -/
structure Client where
  id : Int
  terms : Terms
  number : Int
  epoch : Int
  session : Int
  now : Int
  volume : Int
  cache : Cache
  floors : List (Int × Int)
  seen : List (Int × Int)
  call : MCall
  asked : Int
  sent : Int
  renewal : Int
  renewed : Int
def Client.new (id : Int) (t : Terms) (life now : Int) : Option Client :=
  if isClient id && inR life 0 1000 && inR now 0 half && inR t.drift 0 500 && inR t.object 0 274877906944 && inR t.volume 0 274877906944 then
    some ⟨id, t, life * 1048576, 0, 0, now, 0, [], [], [], noCall, 0, 0, 0, 0⟩
  else none
def Client.at_ (c : Client) (now : Int) : Client := { c with now := max c.now (min now half) }
def Client.leans (c : Client) : Bool := decide (c.now < c.volume)
def Client.busy (c : Client) : Bool := decide (c.asked ≠ 0)
def Client.stamp (c : Client) (m : Msg) : Msg := { m with client := c.id, epoch := c.epoch, session := c.session }
def Client.asks (c : Client) : List Msg :=
  if c.busy then [c.stamp { noMsg with kind := c.call.kind, number := c.asked, object := c.call.object, data := if c.call.kind = 2 then c.call.value.data else [] }] else []
def Client.again (c : Client) : List Msg × Client :=
  if wrap64 (c.volume - 2) ≤ c.now then
    let n := wrap64 (c.number + 1)
    let c := { c with number := n, renewal := n, renewed := c.now }
    ([c.stamp { noMsg with kind := 3, number := n }] ++ c.asks, c)
  else (c.asks, c)
def Client.seenOf (c : Client) (o : Int) : Int := (seek o c.seen).getD 0
def Client.floorOf (c : Client) (o : Int) : Int := (seek o c.floors).getD 0
def Client.ask (c : Client) : List Msg × Client :=
  let n := wrap64 (c.number + 1)
  Client.again { c with number := n, asked := n, sent := c.now }
/-- Read: the error, what is sent, the client. -/
def Client.read (c : Client) (o : Int) : Int × List Msg × Client :=
  if c.busy then (6, [], c)
  else if !isObject o then (2, [], c)
  else
    let call : MCall := ⟨1, o, noVal, false, false⟩
    match c.cache.get o with
    | (some x, k) =>
      let c := { c with call := call, cache := k }
      if decide (c.now < x.till) && c.leans && decide (c.seenOf o ≤ x.value.ver) then
        (0, [], { c with call := { call with value := x.value, over := true, hit := true } })
      else (0, c.ask)
    | (none, _) => (0, Client.ask { c with call := call })
def Client.write (c : Client) (o : Int) (data : Bytes) : Int × List Msg × Client :=
  if c.busy then (6, [], c)
  else if !isObject o then (2, [], c)
  else if 20 < data.length then (4, [], c)
  else (0, Client.ask { c with call := ⟨2, o, ⟨data, 0⟩, false, false⟩ })
def Client.ends (c : Client) (sent term : Int) : Int := wrap64 (sent + short c.terms.drift term)
def Client.takesValue (c : Client) (m : Msg) (same : Bool) : Client :=
  if !c.busy || !decide (m.number = c.asked) || !decide (c.call.kind = 1) || !decide (c.call.object = m.object) then c
  else
    let v : Val := ⟨m.data, m.version⟩
    let c := if same && m.lease && decide (c.floorOf m.object ≤ m.version) then { c with cache := c.cache.put m.object v (c.ends c.sent c.terms.object) } else c
    { c with seen := put m.object (max (c.seenOf m.object) m.version) c.seen, call := { c.call with value := v, over := true }, asked := 0 }
def Client.take (c : Client) (m : Msg) : List Msg × Client :=
  if !decide (m.client = c.id) || !isObject m.object then ([], c)
  else
    let same := decide (m.epoch = c.epoch) && decide (m.session = c.session)
    if m.kind = 5 then ([], c.takesValue m same)
    else if m.kind = 6 then
      if c.busy && decide (m.number = c.asked) && decide (c.call.kind = 2) then
        ([], { c with call := { c.call with value := { c.call.value with ver := m.version }, over := true }, asked := 0 })
      else ([], c)
    else if m.kind = 7 then
      if same && decide (c.renewal ≠ 0) && decide (m.number = c.renewal) then ([], { c with volume := c.ends c.renewed c.terms.volume, renewal := 0 }) else ([], c)
    else if m.kind = 8 then
      if decide (c.epoch < m.epoch) || decide (m.epoch = c.epoch) && decide (c.session < m.session) then
        ([], { c with epoch := m.epoch, session := m.session, volume := 0, renewal := 0, cache := [], floors := [] })
      else ([], c)
    else if m.kind = 9 then
      if same then
        let c := { c with cache := c.cache.drop m.object, floors := put m.object (max (c.floorOf m.object) m.version) c.floors }
        ([c.stamp { noMsg with kind := 4, object := m.object, version := m.version }], c)
      else ([], c)
    else ([], c)

/-! A world (7). -/
structure MEvent where
  client : Int
  call : MCall
  began : Int
  ended : Int
  life : Int
structure Realm where
  terms : Terms
  disk : Disk
  server : Option Server
  clients : List Client
  lives : List Int
  clocks : List Int
  net : Net
  events : List MEvent
  opens : List Int
  step : Int
def newClients (t : Terms) : Nat → Nat → Option (List Client)
  | _, 0 => some []
  | k, n + 1 => match Client.new k t 0 0, newClients t (k + 1) n with
    | some c, some l => some (c :: l)
    | _, _ => none
def Realm.new (t : Terms) (n : Int) : Int × Option Realm :=
  if !inR n 1 4 then (2, none)
  else match Server.new t ⟨[], false, 0⟩ 0 with
    | (_, d, some s) =>
      match newClients t 0 n.toNat with
      | some cs => (0, some ⟨t, d, some s, cs, List.replicate n.toNat 0, List.replicate (n.toNat + 1) 0, ⟨[], 0⟩, [], List.replicate n.toNat (-1), 0⟩)
      | none => (2, none)
    | (e, _, none) => (e, none)
def Realm.begin (w : Realm) : Realm := { w with step := wrap64 (w.step + 1) }
def sendAll (n : Net) (toClient : Bool) : List Msg → Net
  | [] => n
  | m :: l => if m.right then sendAll (n.send ⟨if toClient then m.client else -1, m⟩) toClient l else sendAll n toClient l
def Realm.sends (w : Realm) (toClient : Bool) (l : List Msg) : Realm := { w with net := sendAll w.net toClient l }
def Realm.looks (w : Realm) (k : Nat) : Realm :=
  match w.clients[k]?, w.opens[k]? with
  | some c, some e =>
    if decide (0 ≤ e) && !c.busy then
      match w.events[e.toNat]? with
      | some x => { w with events := w.events.set e.toNat { x with call := c.call, ended := w.step }, opens := w.opens.set k (-1) }
      | none => w
    else w
  | _, _ => w
def Realm.right (w : Realm) (k : Int) : Bool := decide (0 ≤ k) && decide (k < w.clients.length)
def Realm.begins (w : Realm) (k : Nat) (e : Int) (l : List Msg) (c : Client) : Int × Realm :=
  if e ≠ 0 then (e, { w with clients := w.clients.set k c })
  else
    let w := { w with clients := w.clients.set k c }.begin
    let w := { w with opens := w.opens.set k w.events.length, events := w.events ++ [MEvent.mk k c.call w.step 0 (w.lives.getD k 0)] }
    (0, (w.sends false l).looks k)
def Realm.read (w : Realm) (k o : Int) : Int × Realm :=
  if !w.right k then (2, w)
  else match w.clients[k.toNat]? with
    | some c => w.begins k.toNat (c.read o).1 (c.read o).2.1 (c.read o).2.2
    | none => (2, w)
def Realm.write (w : Realm) (k o : Int) (data : Bytes) : Int × Realm :=
  if !w.right k then (2, w)
  else match w.clients[k.toNat]? with
    | some c => w.begins k.toNat (c.write o data).1 (c.write o data).2.1 (c.write o data).2.2
    | none => (2, w)
def Realm.again (w : Realm) (k : Int) : Int × Realm :=
  if !w.right k then (2, w)
  else match w.clients[k.toNat]? with
    | some c => (0, { w with clients := w.clients.set k.toNat c.again.2 }.begin.sends false c.again.1)
    | none => (2, w)
def Realm.falls (w : Realm) : Realm := match w.server with | some s => if s.down then { w with server := none } else w | none => w
def Realm.deliver (w : Realm) (k : Int) : Int × Realm :=
  if !(decide (0 ≤ k) && decide (k < w.net.l.length)) then (2, w)
  else match w.net.l[k.toNat]? with
    | none => (2, w)
    | some g =>
      let w := { w with net := { w.net with l := w.net.l.eraseIdx k.toNat } }.begin
      if g.to < 0 then
        match w.server with
        | none => (0, w)
        | some s =>
          let r := Server.take w.disk s (w.clocks.getD 0 0) g.msg
          (0, ({ w with disk := r.2.1, server := some r.2.2 }.sends true r.1).falls)
      else match w.clients[g.to.toNat]? with
        | some c => (0, ({ w with clients := w.clients.set g.to.toNat (c.take g.msg).2 }.sends false (c.take g.msg).1).looks g.to.toNat)
        | none => (0, w)
def Realm.lose (w : Realm) (k : Int) : Int × Realm :=
  if !(decide (0 ≤ k) && decide (k < w.net.l.length)) then (2, w) else (0, { w with net := { w.net with l := w.net.l.eraseIdx k.toNat } })
def Realm.twice (w : Realm) (k : Int) : Int × Realm :=
  if !(decide (0 ≤ k) && decide (k < w.net.l.length)) then (2, w) else
    match w.net.l[k.toNat]? with
    | some g => (0, { w with net := w.net.send g })
    | none => (2, w)
def moveAll : List Int → List Int → List Int
  | c :: cs, n :: ns => min (c + n) half :: moveAll cs ns
  | _, _ => []
def atAll : List Client → List Int → List Client
  | c :: cs, n :: ns => c.at_ n :: atAll cs ns
  | cs, [] => cs
  | [], _ => []
def Realm.goes (w : Realm) (by_ : List Int) : Int × Realm :=
  if by_.length ≠ w.clocks.length then (2, w)
  else if by_.any (fun n => !inR n 0 137438953472) then (2, w)
  else
    let clocks := moveAll w.clocks by_
    let w := { w with clocks := clocks, clients := atAll w.clients clocks.tail }.begin
    match w.server with
    | none => (0, w)
    | some s =>
      let r := Server.tick w.disk s (clocks.getD 0 0)
      (0, ({ w with disk := r.2.1, server := some r.2.2 }.sends true r.1).falls)
def Realm.fails (w : Realm) (writes torn : Int) : Realm :=
  { w with disk := w.disk.cutAt (max writes 0), server := w.server.map fun s => { s with torn := torn } }
def Realm.crash (w : Realm) : Realm := { w.begin with server := none }
def Realm.restart (w : Realm) : Int × Realm :=
  match w.server with
  | some _ => (6, w)
  | none =>
    let w := w.begin
    let r := Server.new w.terms (w.disk.cutAt (-1)) (w.clocks.getD 0 0)
    (r.1, { w with disk := r.2.1, server := r.2.2 })
def Realm.reborn (w : Realm) (k : Int) : Int × Realm :=
  if !w.right k then (2, w)
  else match Client.new k w.terms (wrap64 (w.lives.getD k.toNat 0 + 1)) (w.clocks.getD (k.toNat + 1) 0) with
    | none => (2, w)
    | some c => (0, { w with lives := w.lives.set k.toNat (wrap64 (w.lives.getD k.toNat 0 + 1)), clients := w.clients.set k.toNat c, opens := w.opens.set k.toNat (-1) }.begin)
def Realm.flowsF : Nat → Realm → Realm
  | 0, w => w
  | f + 1, w => if w.net.l.isEmpty then w else Realm.flowsF f (w.deliver 0).2
def Realm.flows (w : Realm) : Realm := Realm.flowsF 1000 w
def Realm.eachAgain : List Nat → Realm → Realm
  | [], w => w
  | k :: ks, w => Realm.eachAgain ks (w.again k).2.flows
def Realm.round (w : Realm) : Realm :=
  let w := w.restart.2
  let w := Realm.eachAgain (List.range w.clients.length) w
  (w.goes (List.replicate w.clocks.length 1)).2.flows
def Realm.calmN : Nat → Realm → Realm
  | 0, w => w
  | n + 1, w => Realm.calmN n w.round
def Realm.calm (w : Realm) (rounds : Int) : Realm := Realm.calmN rounds.toNat w
def Realm.valueOf (w : Realm) (o : Int) : Int × Val :=
  match w.server with
  | none => (6, noVal)
  | some s => if isObject o then (0, s.value o.toNat) else (2, noVal)
end Go.Proofs.YtadjbloccjbegaaGreatDoor.model
