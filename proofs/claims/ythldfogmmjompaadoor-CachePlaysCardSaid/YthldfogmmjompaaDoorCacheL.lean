/-
  The plain law of CachePlays: the cache's list is the reference's, in the order of their use.
-/
import Derived.Test.YthldfogmmjompaaDoorCacheV
namespace Go.Proofs.YthldfogmmjompaaDoor.cache

def strip (x : RIt) : It := ⟨x.obj, x.data, x.ver, x.till⟩
/-- The reference's items, s their order by use. -/
structure Alike (c : List It) (l s : List RIt) (time : Int) : Prop where
  perm : s.Perm l
  eq : c = s.map strip
  sorted : s.Pairwise fun x y => x.used < y.used
  low : ∀ x ∈ s, 1 ≤ x.used
  high : ∀ x ∈ s, x.used ≤ time
  objs : (s.map (·.obj)).Nodup

theorem Alike.empty (time : Int) : Alike [] [] [] time := ⟨.nil, rfl, .nil, by simp, by simp, .nil⟩

theorem fold_spec (last : Int) : ∀ (l : List RIt) (b0 : RIt), (l.foldl (better last) b0).used ≤ b0.used ∧ (l.foldl (better last) b0 = b0 ∨ (l.foldl (better last) b0 ∈ l ∧ last < (l.foldl (better last) b0).used)) ∧ ∀ z ∈ l, last < z.used → (l.foldl (better last) b0).used ≤ z.used := by
  intro l
  induction l with
  | nil => intro b0; exact ⟨Int.le_refl _, .inl rfl, fun z hz => by cases hz⟩
  | cons x l ih =>
    intro b0
    obtain ⟨h1, h2, h3⟩ := ih (better last b0 x)
    simp only [List.foldl_cons]
    have hbx : (better last b0 x).used ≤ b0.used ∧ (last < x.used → (better last b0 x).used ≤ x.used) := by
      unfold better
      split
      · exact ⟨by omega, fun _ => Int.le_refl _⟩
      · exact ⟨Int.le_refl _, fun h => by omega⟩
    refine ⟨by omega, ?_, fun z hz hlz => ?_⟩
    · rcases h2 with h2 | ⟨h2, h2'⟩
      · rw [h2]
        unfold better
        split
        · rename_i hc; exact .inr ⟨List.mem_cons_self .., hc.1⟩
        · exact .inl rfl
      · exact .inr ⟨List.mem_cons_of_mem _ h2, h2'⟩
    · rcases List.mem_cons.1 hz with rfl | hz
      · have := hbx.2 hlz; omega
      · exact h3 z hz hlz

theorem sel_min {last : Int} {l : List RIt} {y : RIt} (hy : y ∈ l) (h1 : last < y.used) (h2 : y.used < 4611686018427387904) (hmin : ∀ z ∈ l, last < z.used → y.used ≤ z.used) (hinj : ∀ z ∈ l, z.used = y.used → z = y) : sel last l = y := by
  obtain ⟨a1, a2, a3⟩ := fold_spec last l noR
  have hr := a3 y hy h1
  unfold sel
  rcases a2 with a2 | ⟨a2, a2'⟩
  · rw [a2] at hr
    have : noR.used = 4611686018427387904 := rfl
    omega
  · have := hmin _ a2 a2'
    exact hinj _ a2 (by omega)

theorem Alike.objects {c : List It} {l s : List RIt} {time : Int} (h : Alike c l s time) (ht : time ≤ 1000) : robjs l = c.map (·.obj) := by
  have key : ∀ k, k ≤ s.length → (rstate l k).1 = (s.take k).map (·.obj) ∧ (∀ x ∈ s.take k, x.used ≤ (rstate l k).2) ∧ (∀ x ∈ s.drop k, (rstate l k).2 < x.used) := by
    intro k
    induction k with
    | zero => exact fun _ => ⟨by simp [rstate], by simp, fun x hx => by have := h.low x (by simpa using hx); show (0 : Int) < _; omega⟩
    | succ k ih =>
      intro hk
      obtain ⟨e1, e2, e3⟩ := ih (by omega)
      obtain ⟨y, hy⟩ : ∃ y, s[k]? = some y := ⟨_, List.getElem?_eq_getElem (by omega)⟩
      have hys : y ∈ s := List.mem_of_getElem? hy
      have hdrop : s.drop k = y :: s.drop (k + 1) := by
        obtain ⟨hk', rfl⟩ := List.getElem?_eq_some_iff.1 hy
        exact List.drop_eq_getElem_cons hk'
      have hsplit : s = s.take k ++ (y :: s.drop (k + 1)) := by rw [← hdrop, List.take_append_drop]
      have hpw := h.sorted
      rw [hsplit, List.pairwise_append] at hpw
      obtain ⟨p1, p2, p3⟩ := hpw
      have p4 := List.pairwise_cons.1 p2
      have hsel : sel (rstate l k).2 l = y := by
        refine sel_min (h.perm.mem_iff.1 hys) (e3 y (by rw [hdrop]; exact List.mem_cons_self ..)) (by have := h.high y hys; omega) (fun z hz hlz => ?_) (fun z hz he => ?_)
        · have hz' := h.perm.mem_iff.2 hz
          rw [hsplit] at hz'
          rcases List.mem_append.1 hz' with hz' | hz'
          · have := e2 z hz'; omega
          · rcases List.mem_cons.1 hz' with rfl | hz'
            · exact Int.le_refl _
            · have := p4.1 z hz'; omega
        · have hz' := h.perm.mem_iff.2 hz
          rw [hsplit] at hz'
          rcases List.mem_append.1 hz' with hz' | hz'
          · have := p3 z hz' y (List.mem_cons_self ..); omega
          · rcases List.mem_cons.1 hz' with rfl | hz'
            · rfl
            · have := p4.1 z hz'; omega
      refine ⟨?_, fun x hx => ?_, fun x hx => ?_⟩
      · simp only [rstate]
        rw [hsel, e1, take_snoc hy, List.map_append]
        rfl
      · simp only [rstate]
        rw [hsel]
        rw [take_snoc hy] at hx
        rcases List.mem_append.1 hx with hx | hx
        · have := p3 x hx y (List.mem_cons_self ..); omega
        · obtain rfl := List.mem_singleton.1 hx; exact Int.le_refl _
      · simp only [rstate]
        rw [hsel]
        exact p4.1 x hx
  have hl : l.length = s.length := h.perm.length_eq.symm
  unfold robjs
  rw [hl, (key s.length (Nat.le_refl _)).1, List.take_length, h.eq, List.map_map]
  rfl

theorem drop_alike (s : List RIt) (o : Int) (hn : (s.map (·.obj)).Nodup) : dropI (s.map strip) o = (rdrop s o).map strip := by
  unfold dropI rdrop
  induction s with
  | nil => rfl
  | cons x s ih =>
    rw [List.map_cons, List.nodup_cons] at hn
    by_cases hx : x.obj = o
    · have hs : s.filter (fun y => y.obj != o) = s := List.filter_eq_self.2 (fun y hy => by
        have : y.obj ≠ o := fun e => hn.1 (by rw [hx, ← e]; exact List.mem_map.2 ⟨y, hy, rfl⟩)
        simpa using this)
      simp [strip, hx, hs]
    · have := ih hn.2
      simp [strip, hx, this]
theorem rdrop_objs {s : List RIt} {o : Int} (hn : (s.map (·.obj)).Nodup) : ((rdrop s o).map (·.obj)).Nodup := hn.sublist (List.filter_sublist.map _)

theorem Alike.drop {c : List It} {l s : List RIt} {time : Int} (h : Alike c l s time) (o : Int) : Alike (dropI c o) (rdrop l o) (rdrop s o) time :=
  ⟨h.perm.filter _, by rw [h.eq, drop_alike s o h.objs], h.sorted.filter _, fun x hx => h.low x (List.mem_filter.1 hx).1, fun x hx => h.high x (List.mem_filter.1 hx).1, rdrop_objs h.objs⟩

/-- One behind all others, used last. -/
theorem Alike.snoc {c : List It} {l s : List RIt} {time : Int} (h : Alike c l s time) (x : RIt) (hx : x.used = time + 1) (ht : 0 ≤ time) (hn : ∀ y ∈ s, y.obj ≠ x.obj) : Alike (c ++ [strip x]) (l ++ [x]) (s ++ [x]) (time + 1) := by
  refine ⟨h.perm.append_right _, by rw [h.eq]; simp, ?_, ?_, ?_, ?_⟩
  · rw [List.pairwise_append]
    exact ⟨h.sorted, by simp, fun y hy z hz => by obtain rfl := List.mem_singleton.1 hz; have := h.high y hy; omega⟩
  · intro y hy
    rcases List.mem_append.1 hy with hy | hy
    · exact h.low y hy
    · obtain rfl := List.mem_singleton.1 hy; omega
  · intro y hy
    rcases List.mem_append.1 hy with hy | hy
    · have := h.high y hy; omega
    · obtain rfl := List.mem_singleton.1 hy; omega
  · rw [List.map_append, List.nodup_append]
    refine ⟨h.objs, by simp, fun a ha b hb => ?_⟩
    obtain ⟨y, hy, rfl⟩ := List.mem_map.1 ha
    obtain rfl : b = x.obj := by simpa using hb
    exact hn y hy

theorem Alike.len {c : List It} {l s : List RIt} {time : Int} (h : Alike c l s time) : c.length = s.length ∧ l.length = s.length := ⟨by rw [h.eq, List.length_map], h.perm.length_eq.symm⟩

theorem Alike.put {c : List It} {l s : List RIt} {time : Int} (h : Alike c l s time) (x : RIt) (hx : x.used = time + 1) (ht : 0 ≤ time) (ht2 : time ≤ 900) (hc : c.length ≤ 6) : ∃ s', Alike (putI c (strip x)) (rput l x) s' (time + 1) ∧ (putI c (strip x)).length ≤ 6 := by
  have h1 := h.drop x.obj
  have hno : ∀ y ∈ rdrop s x.obj, y.obj ≠ x.obj := fun y hy => by
    have := (List.mem_filter.1 hy).2
    simpa using this
  have h2 := h1.snoc x hx ht hno
  have e1 : (dropI c x.obj).length ≤ 6 := Nat.le_trans List.length_eraseP_le hc
  obtain ⟨n1, n2⟩ := h1.len
  have n3 : (rdrop l x.obj ++ [x]).length = (dropI c x.obj).length + 1 := by rw [List.length_append, n2, n1]; rfl
  have eo : (strip x).obj = x.obj := rfl
  by_cases h6 : (dropI c x.obj).length = 6
  · have ho := h2.objects (by omega)
    have e2 : rput l x = rdrop (rdrop l x.obj ++ [x]) ((robjs (rdrop l x.obj ++ [x])).headD 0) := by
      unfold rput
      simp only
      rw [if_pos (by rw [n3]; omega)]
    have e3 : putI c (strip x) = List.drop 1 (dropI c x.obj) ++ [strip x] := by
      unfold putI
      rw [eo, if_pos h6]
    cases hd : dropI c x.obj with
    | nil => rw [hd] at h6; cases h6
    | cons y t =>
      have e4 : (robjs (rdrop l x.obj ++ [x])).headD 0 = y.obj := by rw [ho, hd]; rfl
      have h3 := h2.drop y.obj
      have e5 : dropI (dropI c x.obj ++ [strip x]) y.obj = t ++ [strip x] := by rw [hd]; simp [dropI]
      rw [e5] at h3
      rw [e2, e4, e3, hd]
      refine ⟨_, h3, ?_⟩
      rw [hd] at h6
      simp at h6 ⊢
      omega
  · have e2 : rput l x = rdrop l x.obj ++ [x] := by
      unfold rput
      simp only
      rw [if_neg (by rw [n3]; omega)]
    have e3 : putI c (strip x) = dropI c x.obj ++ [strip x] := by
      unfold putI
      rw [eo, if_neg h6]
    rw [e2, e3]
    refine ⟨_, h2, ?_⟩
    rw [List.length_append, List.length_singleton]
    omega

theorem obj_inj {s : List RIt} (hn : (s.map (·.obj)).Nodup) : ∀ {x y : RIt}, x ∈ s → y ∈ s → x.obj = y.obj → x = y := by
  induction s with
  | nil => intro x y hx; cases hx
  | cons z s ih =>
    intro x y hx hy he
    rw [List.map_cons, List.nodup_cons] at hn
    rcases List.mem_cons.1 hx with hx' | hx' <;> rcases List.mem_cons.1 hy with hy' | hy'
    · rw [hx', hy']
    · exact absurd (List.mem_map.2 ⟨y, hy', by rw [← he, hx']⟩) hn.1
    · exact absurd (List.mem_map.2 ⟨x, hx', by rw [he, hy']⟩) hn.1
    · exact ih hn.2 hx' hy' he
theorem erase_perm {α : Type} : ∀ (l : List α) (i : Nat) (x : α), l[i]? = some x → (x :: l.eraseIdx i).Perm l
  | a :: l, 0, x, h => by
    obtain rfl : a = x := by simpa using h
    exact .refl _
  | a :: l, i + 1, x, h => (List.Perm.swap a x _).trans ((erase_perm l i x (by simpa using h)).cons a)
theorem set_perm {α : Type} (y : α) : ∀ (l : List α) (i : Nat) (x : α), l[i]? = some x → (l.set i y).Perm (y :: l.eraseIdx i)
  | a :: l, 0, x, h => .refl _
  | a :: l, i + 1, x, h => ((set_perm y l i x (by simpa using h)).cons a).trans (List.Perm.swap y a _)

theorem Alike.miss {c : List It} {l s : List RIt} {time : Int} (h : Alike c l s time) {o t : Int} (hf : c.find? (fun x => decide (x.obj = o)) = none) :
    rused l o t = l ∧ rgets l o = .tuple #[.agg #[.string ⟨#[]⟩, .int .i64 0], .int .i64 0, .int .i64 7] := by
  refine rget_miss fun y hy e => ?_
  have := List.find?_eq_none.1 hf (strip y) (by rw [h.eq]; exact List.mem_map.2 ⟨y, h.perm.mem_iff.2 hy, rfl⟩)
  simp [strip, e] at this

theorem Alike.get {c : List It} {l s : List RIt} {time : Int} (h : Alike c l s time) {o : Int} {k : Nat} {x0 : It} (hk : c[k]? = some x0) (ho : x0.obj = o) (ht : 0 ≤ time) :
    ∃ s', Alike (c.eraseIdx k ++ [x0]) (rused l o (time + 1)) s' (time + 1) ∧ rgets l o = .tuple #[.agg #[.string ⟨x0.data.toArray⟩, .int .i64 x0.ver], .int .i64 x0.till, .int .i64 0] := by
  rw [h.eq, List.getElem?_map] at hk
  obtain ⟨x, hx, rfl⟩ := Option.map_eq_some_iff.1 hk
  have hxs := List.mem_of_getElem? hx
  have hxl := h.perm.mem_iff.1 hxs
  have hol : (l.map (·.obj)).Nodup := (h.perm.map _).nodup_iff.1 h.objs
  cases hm : l.findIdx? (fun y => decide (y.obj = o)) with
  | none =>
    rw [List.findIdx?_eq_none_iff] at hm
    have := hm x hxl
    simp [show x.obj = o from ho] at this
  | some m =>
    obtain ⟨hml, hm1, hm2⟩ := List.findIdx?_eq_some_iff_getElem.1 hm
    have hmx : l[m]? = some x := by
      rw [List.getElem?_eq_getElem hml]
      congr 1
      exact obj_inj hol (List.getElem_mem _) hxl ((by simpa using hm1 : (l[m]).obj = o).trans (show x.obj = o from ho).symm)
    obtain ⟨e1, e2⟩ := rget_hit (t := time + 1) hmx ho (fun y hy => by
      obtain ⟨j, hj, rfl⟩ := List.mem_take_iff_getElem.1 hy
      have := hm2 j (by omega)
      simpa using this)
    have p1 : (x :: s.eraseIdx k).Perm s := erase_perm s k x hx
    have p2 : (x :: l.eraseIdx m).Perm l := erase_perm l m x hmx
    have p3 : (s.eraseIdx k).Perm (l.eraseIdx m) := (p1.trans (h.perm.trans p2.symm)).cons_inv
    have p4 := set_perm { x with used := time + 1 } l m x hmx
    refine ⟨s.eraseIdx k ++ [{ x with used := time + 1 }], ⟨?_, ?_, ?_, ?_, ?_, ?_⟩, e2⟩
    · rw [e1]
      exact (List.perm_append_comm.trans (p3.cons _)).trans p4.symm
    · rw [List.map_append, h.eq]
      congr 1
      rw [List.eraseIdx_eq_take_drop_succ, List.eraseIdx_eq_take_drop_succ, List.map_append, List.map_take, List.map_drop]
    · rw [List.pairwise_append]
      refine ⟨h.sorted.sublist (List.eraseIdx_sublist _ _), by simp, fun y hy z hz => ?_⟩
      obtain rfl := List.mem_singleton.1 hz
      have := h.high y ((List.eraseIdx_sublist _ _).subset hy)
      show y.used < time + 1
      omega
    · intro y hy
      rcases List.mem_append.1 hy with hy | hy
      · exact h.low y ((List.eraseIdx_sublist _ _).subset hy)
      · obtain rfl := List.mem_singleton.1 hy
        show 1 ≤ time + 1
        omega
    · intro y hy
      rcases List.mem_append.1 hy with hy | hy
      · have := h.high y ((List.eraseIdx_sublist _ _).subset hy); omega
      · obtain rfl := List.mem_singleton.1 hy
        exact Int.le_refl _
    · have p5 : ((s.eraseIdx k ++ [{ x with used := time + 1 }]).map RIt.obj).Perm (s.map RIt.obj) := by
        rw [List.map_append]
        exact List.perm_append_comm.trans (p1.map RIt.obj)
      exact p5.nodup_iff.2 h.objs
end Go.Proofs.YthldfogmmjompaaDoor.cache
