/-
  PLAIN LEAN, no program in sight: chapter 2: orders, books, which order stands ahead; resting, finding, removing.
-/
import Derived.Test.YtockodmbhnlheaaDoorPure
namespace Go.Proofs.YtockodmbhnlheaaDoor

structure Od where
  id : Int
  acc : Int
  side : Int
  price : Int
  qty : Int
structure Bk where
  bids : List Od
  asks : List Od
def zeroOd : Od := ⟨0, 0, 0, 0, 0⟩
def zeroBk : Bk := ⟨[], []⟩
theorem Od.ext' {a b : Od} (h1 : a.id = b.id) (h2 : a.acc = b.acc) (h3 : a.side = b.side) (h4 : a.price = b.price) (h5 : a.qty = b.qty) : a = b := by
  obtain ⟨a1, a2, a3, a4, a5⟩ := a
  obtain ⟨b1, b2, b3, b4, b5⟩ := b
  simp only at h1 h2 h3 h4 h5
  subst h1 h2 h3 h4 h5; rfl
def sameOd (a b : Od) : Bool := decide (a.id = b.id) && decide (a.acc = b.acc) && decide (a.side = b.side) && decide (a.price = b.price) && decide (a.qty = b.qty)
theorem sameOd_iff {a b : Od} : sameOd a b = true ↔ a = b := by
  constructor
  · intro h
    simp only [sameOd, Bool.and_eq_true, decide_eq_true_eq] at h
    obtain ⟨⟨⟨⟨h1, h2⟩, h3⟩, h4⟩, h5⟩ := h
    exact Od.ext' h1 h2 h3 h4 h5
  · rintro rfl; simp [sameOd]

/-- chapter 2's CheckOrder. -/
def ordErr (o : Od) : Int :=
  if o.id < 1 ∨ 100000 < o.id ∨ o.acc < 0 ∨ 8 ≤ o.acc then 5 else if o.side ≠ 1 ∧ o.side ≠ -1 then 4 else if o.price < 1 ∨ 10000 < o.price ∨ o.qty < 1 ∨ 1000 < o.qty then 3 else 0
theorem ordErr_ok {o : Od} : ordErr o = 0 ↔ (1 ≤ o.id ∧ o.id ≤ 100000) ∧ (0 ≤ o.acc ∧ o.acc ≤ 7) ∧ (o.side = 1 ∨ o.side = -1) ∧ (1 ≤ o.price ∧ o.price ≤ 10000) ∧ (1 ≤ o.qty ∧ o.qty ≤ 1000) := by
  unfold ordErr
  split
  · constructor
    · intro h; omega
    · intro h; omega
  · split
    · constructor
      · intro h; omega
      · intro h; omega
    · split
      · constructor
        · intro h; omega
        · intro h; omega
      · constructor
        · intro _; omega
        · intro _; rfl
theorem ordErr_cases (o : Od) : ordErr o = 0 ∨ ordErr o = 3 ∨ ordErr o = 4 ∨ ordErr o = 5 := by
  unfold ordErr
  split
  · omega
  · split
    · omega
    · split <;> omega

/-- which order stands ahead. -/
def aheadB (a b : Od) : Bool := if a.price = b.price then decide (a.id < b.id) else if a.side = 1 then decide (b.price < a.price) else decide (a.price < b.price)
theorem ahead_buy {a b : Od} (h : a.side = 1) : aheadB a b = true ↔ b.price < a.price ∨ a.price = b.price ∧ a.id < b.id := by
  unfold aheadB
  split
  · simp; omega
  · simp; omega
theorem ahead_sell {a b : Od} (h : a.side ≠ 1) : aheadB a b = true ↔ a.price < b.price ∨ a.price = b.price ∧ a.id < b.id := by
  unfold aheadB
  split
  · simp; omega
  · simp; omega
theorem ahead_trans {a b c : Od} (h : a.side = b.side) (h1 : aheadB a b = true) (h2 : aheadB b c = true) : aheadB a c = true := by
  by_cases hs : a.side = 1
  · rw [ahead_buy hs] at h1 ⊢
    rw [ahead_buy (h ▸ hs)] at h2
    omega
  · rw [ahead_sell hs] at h1 ⊢
    rw [ahead_sell (h ▸ hs)] at h2
    omega
theorem ahead_asymm {a b : Od} (h : a.side = b.side) (h1 : aheadB a b = true) : aheadB b a = false := by
  rw [← Bool.not_eq_true]
  intro h2
  by_cases hs : a.side = 1
  · rw [ahead_buy hs] at h1
    rw [ahead_buy (h ▸ hs)] at h2
    omega
  · rw [ahead_sell hs] at h1
    rw [ahead_sell (h ▸ hs)] at h2
    omega
theorem ahead_total {a b : Od} (h : a.side = b.side) (h1 : a.id ≠ b.id) (h2 : aheadB a b = false) : aheadB b a = true := by
  rw [← Bool.not_eq_true] at h2
  by_cases hs : a.side = 1
  · rw [ahead_buy hs] at h2
    rw [ahead_buy (h ▸ hs)]
    omega
  · rw [ahead_sell hs] at h2
    rw [ahead_sell (h ▸ hs)]
    omega
theorem ahead_irrefl (a : Od) : aheadB a a = false := by unfold aheadB; simp

def Sorted (l : List Od) : Prop := l.Pairwise fun a b => aheadB a b = true
/-- a side of a book: each an order, of this side, in order, no number twice. -/
structure SideOk (s : Int) (l : List Od) : Prop where
  ok : ∀ o ∈ l, ordErr o = 0
  side : ∀ o ∈ l, o.side = s
  sorted : Sorted l
  ids : (l.map Od.id).Nodup

/-! ### the check of a side, as the code goes -/
def sideErr (s : Int) : Option Od → List Int → List Od → Int
  | _, _, [] => 0
  | p, seen, o :: l => if ordErr o ≠ 0 then ordErr o else if o.side ≠ s ∨ (∃ q ∈ p, aheadB q o = false) then 4 else if o.id ∈ seen then 6 else sideErr s (some o) (o.id :: seen) l

theorem sideErr_ok {s : Int} : ∀ {l : List Od} {p : Option Od} {seen : List Int}, (∀ q ∈ p, q.side = s) →
    (sideErr s p seen l = 0 ↔ SideOk s l ∧ (∀ q ∈ p, ∀ o ∈ l, aheadB q o = true) ∧ ∀ o ∈ l, o.id ∉ seen)
  | [], p, seen, _ => by
    simp only [sideErr, true_iff]
    exact ⟨⟨by simp, by simp, List.Pairwise.nil, by simp⟩, by simp, by simp⟩
  | o :: l, p, seen, hp => by
    unfold sideErr
    by_cases h1 : ordErr o = 0
    · rw [if_neg (by omega)]
      by_cases h2 : o.side = s ∧ ∀ q ∈ p, aheadB q o = true
      · rw [if_neg (by
          rintro (h | ⟨q, hq, h⟩)
          · exact h h2.1
          · rw [h2.2 q hq] at h; cases h)]
        by_cases h3 : o.id ∈ seen
        · rw [if_pos h3]
          constructor
          · intro h; omega
          · rintro ⟨_, _, h⟩; exact absurd h3 (h o (by simp))
        · rw [if_neg h3, sideErr_ok (p := some o) (by intro q hq; injection hq with hq; rw [← hq]; exact h2.1)]
          constructor
          · rintro ⟨⟨k1, k2, k3, k4⟩, k5, k6⟩
            refine ⟨⟨?_, ?_, ?_, ?_⟩, ?_, ?_⟩
            · intro x hx
              rcases List.mem_cons.1 hx with rfl | hx
              · exact h1
              · exact k1 x hx
            · intro x hx
              rcases List.mem_cons.1 hx with rfl | hx
              · exact h2.1
              · exact k2 x hx
            · exact List.pairwise_cons.2 ⟨fun x hx => k5 o rfl x hx, k3⟩
            · rw [List.map_cons, List.nodup_cons]
              refine ⟨?_, k4⟩
              intro hm
              obtain ⟨x, hx, he⟩ := List.mem_map.1 hm
              exact k6 x hx (by rw [he]; simp)
            · intro q hq x hx
              rcases List.mem_cons.1 hx with rfl | hx
              · exact h2.2 q hq
              · exact ahead_trans ((hp q hq).trans h2.1.symm) (h2.2 q hq) (k5 o rfl x hx)
            · intro x hx
              rcases List.mem_cons.1 hx with rfl | hx
              · exact h3
              · intro h; exact k6 x hx (by simp [h])
          · rintro ⟨⟨k1, k2, k3, k4⟩, k5, k6⟩
            obtain ⟨k7, k8⟩ := List.pairwise_cons.1 k3
            rw [List.map_cons, List.nodup_cons] at k4
            refine ⟨⟨fun x hx => k1 x (by simp [hx]), fun x hx => k2 x (by simp [hx]), k8, k4.2⟩, ?_, ?_⟩
            · intro q hq x hx
              injection hq with hq; subst hq
              exact k7 x hx
            · intro x hx hm
              rcases List.mem_cons.1 hm with hm | hm
              · exact k4.1 (List.mem_map.2 ⟨x, hx, hm⟩)
              · exact k6 x (by simp [hx]) hm
      · rw [if_pos (by
          by_cases h3 : o.side = s
          · right
            have : ¬ ∀ q ∈ p, aheadB q o = true := fun h => h2 ⟨h3, h⟩
            cases p with
            | none => exact absurd (by simp) this
            | some q => exact ⟨q, rfl, by
                rw [← Bool.not_eq_true]; intro h; exact this (by intro r hr; injection hr with hr; rw [← hr]; exact h)⟩
          · exact .inl h3)]
        constructor
        · intro h; omega
        · rintro ⟨k, k5, _⟩
          exact absurd ⟨k.side o (by simp), fun q hq => k5 q hq o (by simp)⟩ h2
    · rw [if_pos h1]
      constructor
      · intro h; exact absurd h h1
      · rintro ⟨k, _⟩; exact absurd (k.ok o (by simp)) h1

def crossedB (b : Bk) : Bool := match b.bids, b.asks with
  | x :: _, y :: _ => decide (y.price ≤ x.price)
  | _, _ => false
/-- chapter 2's Check. -/
def bookErr (b : Bk) : Int :=
  if 40 < b.bids.length + b.asks.length then 2
  else if sideErr 1 none [] b.bids ≠ 0 then sideErr 1 none [] b.bids
  else if sideErr (-1) none (b.bids.map Od.id).reverse b.asks ≠ 0 then sideErr (-1) none (b.bids.map Od.id).reverse b.asks
  else if crossedB b then 4 else 0
structure BookOk (b : Bk) : Prop where
  len : b.bids.length + b.asks.length ≤ 40
  bids : SideOk 1 b.bids
  asks : SideOk (-1) b.asks
  apart : ∀ x ∈ b.bids, ∀ y ∈ b.asks, x.id ≠ y.id
  free : crossedB b = false
theorem bookErr_ok {b : Bk} : bookErr b = 0 ↔ BookOk b := by
  unfold bookErr
  have e1 := sideErr_ok (s := 1) (l := b.bids) (p := none) (seen := []) (by simp)
  have e2 := sideErr_ok (s := -1) (l := b.asks) (p := none) (seen := (b.bids.map Od.id).reverse) (by simp)
  split
  · rename_i h
    constructor
    · intro h'; omega
    · intro h'; have := h'.len; omega
  · rename_i h
    split
    · rename_i h1
      constructor
      · intro h'; exact absurd h' h1
      · intro h'; exact absurd (e1.2 ⟨h'.bids, by simp, by simp⟩) h1
    · rename_i h1
      have h1 := e1.1 (by simpa using h1)
      split
      · rename_i h2
        constructor
        · intro h'; exact absurd h' h2
        · intro h'; exact absurd (e2.2 ⟨h'.asks, by simp, fun o ho hm => by
            simp only [List.mem_reverse, List.mem_map] at hm
            obtain ⟨x, hx, he⟩ := hm
            exact h'.apart x hx o ho he⟩) h2
      · rename_i h2
        have h2 := e2.1 (by simpa using h2)
        split
        · rename_i h3
          constructor
          · intro h'; omega
          · intro h'; rw [h'.free] at h3; cases h3
        · rename_i h3
          constructor
          · intro _
            refine ⟨by omega, h1.1, h2.1, ?_, by simpa using h3⟩
            intro x hx y hy he
            exact h2.2.2 y hy (by simp only [List.mem_reverse, List.mem_map]; exact ⟨x, hx, he⟩)
          · intro _; rfl

/-! ### sorted lists: no two with the same elements -/
theorem sorted_ext {s : Int} : ∀ {l m : List Od}, (∀ o ∈ l, o.side = s) → (∀ o ∈ m, o.side = s) → Sorted l → Sorted m → (∀ o, o ∈ l ↔ o ∈ m) → l = m
  | [], [], _, _, _, _, _ => rfl
  | [], y :: m, _, _, _, _, h => absurd ((h y).2 (by simp)) (by simp)
  | x :: l, [], _, _, _, _, h => absurd ((h x).1 (by simp)) (by simp)
  | x :: l, y :: m, hl, hm, sl, sm, h => by
    obtain ⟨l1, l2⟩ := List.pairwise_cons.1 sl
    obtain ⟨m1, m2⟩ := List.pairwise_cons.1 sm
    have hxy : x = y := by
      rcases List.mem_cons.1 ((h x).1 (by simp)) with e | e
      · exact e
      · rcases List.mem_cons.1 ((h y).2 (by simp)) with e' | e'
        · exact e'.symm
        · have a1 := m1 x e
          have a2 := l1 y e'
          rw [ahead_asymm ((hl x (by simp)).trans (hm y (by simp)).symm) a2] at a1
          cases a1
    subst hxy
    have hx : x ∉ l := fun hx => by have := l1 x hx; rw [ahead_irrefl] at this; cases this
    have hx' : x ∉ m := fun hx => by have := m1 x hx; rw [ahead_irrefl] at this; cases this
    rw [sorted_ext (fun o ho => hl o (by simp [ho])) (fun o ho => hm o (by simp [ho])) l2 m2 (fun o => ?_)]
    constructor
    · intro ho
      rcases List.mem_cons.1 ((h o).1 (by simp [ho])) with e | e
      · subst e; exact absurd ho hx
      · exact e
    · intro ho
      rcases List.mem_cons.1 ((h o).2 (by simp [ho])) with e | e
      · subst e; exact absurd ho hx'
      · exact e

/-- an order comes to rest where it stands: ahead of the first one that it stands ahead of. -/
def insO (o : Od) : List Od → List Od
  | [] => [o]
  | x :: l => if aheadB o x then o :: x :: l else x :: insO o l
theorem mem_insO {o x : Od} : ∀ {l : List Od}, x ∈ insO o l ↔ x = o ∨ x ∈ l
  | [] => by simp [insO]
  | y :: l => by
    unfold insO
    split
    · simp
    · simp only [List.mem_cons, mem_insO (l := l)]
      constructor
      · rintro (h | h | h) <;> simp [h]
      · rintro (h | h | h) <;> simp [h]
theorem length_insO {o : Od} : ∀ {l : List Od}, (insO o l).length = l.length + 1
  | [] => rfl
  | y :: l => by
    unfold insO
    split
    · simp
    · simp [length_insO (l := l)]
theorem sorted_insO {o : Od} : ∀ {l : List Od}, Sorted l → (∀ x ∈ l, x.side = o.side) → (∀ x ∈ l, x.id ≠ o.id) → Sorted (insO o l)
  | [], _, _, _ => List.pairwise_singleton _ _
  | y :: l, h, hs, hi => by
    obtain ⟨h1, h2⟩ := List.pairwise_cons.1 h
    unfold insO
    split
    · rename_i h3
      refine List.pairwise_cons.2 ⟨?_, h⟩
      intro x hx
      rcases List.mem_cons.1 hx with rfl | hx
      · exact h3
      · exact ahead_trans (hs y (by simp)).symm h3 (h1 x hx)
    · rename_i h3
      refine List.pairwise_cons.2 ⟨?_, sorted_insO h2 (fun x hx => hs x (by simp [hx])) (fun x hx => hi x (by simp [hx]))⟩
      intro x hx
      rcases mem_insO.1 hx with rfl | hx
      · exact ahead_total (hs y (by simp)).symm (fun e => hi y (by simp) e.symm) (by simpa using h3)
      · exact h1 x hx
theorem nodup_insO {o : Od} : ∀ {l : List Od}, (l.map Od.id).Nodup → (∀ x ∈ l, x.id ≠ o.id) → ((insO o l).map Od.id).Nodup
  | [], _, _ => by simp [insO]
  | y :: l, h, hi => by
    rw [List.map_cons, List.nodup_cons] at h
    unfold insO
    split
    · rw [List.map_cons, List.map_cons, List.nodup_cons, List.nodup_cons]
      refine ⟨?_, h⟩
      intro hm
      rw [← List.map_cons] at hm
      obtain ⟨x, hx, he⟩ := List.mem_map.1 hm
      exact hi x hx he
    · rw [List.map_cons, List.nodup_cons]
      refine ⟨?_, nodup_insO h.2 (fun x hx => hi x (by simp [hx]))⟩
      intro hm
      obtain ⟨x, hx, he⟩ := List.mem_map.1 hm
      rcases mem_insO.1 hx with rfl | hx
      · exact hi y (by simp) he.symm
      · exact h.1 (List.mem_map.2 ⟨x, hx, he⟩)
theorem sideOk_insO {s : Int} {o : Od} {l : List Od} (h : SideOk s l) (ho : ordErr o = 0) (hs : o.side = s) (hi : ∀ x ∈ l, x.id ≠ o.id) : SideOk s (insO o l) := by
  refine ⟨?_, ?_, sorted_insO h.sorted (fun x hx => (h.side x hx).trans hs.symm) hi, nodup_insO h.ids hi⟩
  · intro x hx
    rcases mem_insO.1 hx with rfl | hx
    · exact ho
    · exact h.ok x hx
  · intro x hx
    rcases mem_insO.1 hx with rfl | hx
    · exact hs
    · exact h.side x hx
/-- without a number. -/
def delO (id : Int) (l : List Od) : List Od := l.filter fun x => !(decide (x.id = id))
theorem mem_delO {id : Int} {x : Od} {l : List Od} : x ∈ delO id l ↔ x ∈ l ∧ x.id ≠ id := by simp [delO]
theorem sideOk_sub {s : Int} {l m : List Od} (h : SideOk s l) (hm : m.Sublist l) : SideOk s m :=
  ⟨fun o ho => h.ok o (hm.subset ho), fun o ho => h.side o (hm.subset ho), h.sorted.sublist hm, h.ids.sublist (hm.map _)⟩
theorem sideOk_delO {s : Int} {id : Int} {l : List Od} (h : SideOk s l) : SideOk s (delO id l) := sideOk_sub h List.filter_sublist
theorem id_inj {s : Int} {l : List Od} (h : SideOk s l) {x y : Od} (hx : x ∈ l) (hy : y ∈ l) (he : x.id = y.id) : x = y := by
  have hn := h.ids
  clear h
  induction l with
  | nil => cases hx
  | cons z l ih =>
    rw [List.map_cons, List.nodup_cons] at hn
    rcases List.mem_cons.1 hx with e1 | hx1
    · rcases List.mem_cons.1 hy with e2 | hy1
      · rw [e1, e2]
      · exact absurd (List.mem_map.2 ⟨y, hy1, by rw [← he, e1]⟩) hn.1
    · rcases List.mem_cons.1 hy with e2 | hy1
      · exact absurd (List.mem_map.2 ⟨x, hx1, by rw [he, e2]⟩) hn.1
      · exact ih hx1 hy1 hn.2
theorem del_ins {s : Int} {o : Od} {l : List Od} (h : SideOk s l) (ho : ordErr o = 0) (hs : o.side = s) (hi : ∀ x ∈ l, x.id ≠ o.id) : delO o.id (insO o l) = l := by
  have h1 := sideOk_insO h ho hs hi
  have h2 := sideOk_delO (id := o.id) h1
  refine sorted_ext (s := s) h2.side h.side h2.sorted h.sorted fun x => ?_
  rw [mem_delO, mem_insO]
  constructor
  · rintro ⟨rfl | hx, hne⟩
    · exact absurd rfl hne
    · exact hx
  · intro hx; exact ⟨.inr hx, hi x hx⟩
theorem ins_del {s : Int} {o : Od} {l : List Od} (h : SideOk s l) (ho : o ∈ l) : insO o (delO o.id l) = l := by
  have h2 := sideOk_delO (id := o.id) h
  have h1 := sideOk_insO h2 (h.ok o ho) (h.side o ho) (fun x hx => (mem_delO.1 hx).2)
  refine sorted_ext (s := s) h1.side h.side h1.sorted h.sorted fun x => ?_
  rw [mem_insO, mem_delO]
  constructor
  · rintro (rfl | ⟨hx, _⟩)
    · exact ho
    · exact hx
  · intro hx
    by_cases he : x.id = o.id
    · exact .inl (id_inj h hx ho he)
    · exact .inr ⟨hx, he⟩

/-! ### resting, finding, removing -/
def hasB (b : Bk) (id : Int) : Bool := (b.bids ++ b.asks).any fun o => decide (o.id = id)
def crossesB (o : Od) (price : Int) : Bool := if o.side = 1 then decide (price ≤ o.price) else decide (o.price ≤ price)
def headCrosses (o : Od) (l : List Od) : Bool := match l with
  | x :: _ => crossesB o x.price
  | [] => false
def ownOf (b : Bk) (s : Int) : List Od := if s = 1 then b.bids else b.asks
def otherOf (b : Bk) (s : Int) : List Od := if s = 1 then b.asks else b.bids
def setOwn (b : Bk) (s : Int) (l : List Od) : Bk := if s = 1 then { b with bids := l } else { b with asks := l }
def setOther (b : Bk) (s : Int) (l : List Od) : Bk := if s = 1 then { b with asks := l } else { b with bids := l }
def restOf (b : Bk) (o : Od) : Bk × Int :=
  if bookErr b ≠ 0 then (zeroBk, bookErr b) else if hasB b o.id then (zeroBk, 6) else if ordErr o ≠ 0 then (zeroBk, ordErr o)
  else if b.bids.length + b.asks.length = 40 then (zeroBk, 7) else if headCrosses o (otherOf b o.side) then (zeroBk, 9)
  else (setOwn b o.side (insO o (ownOf b o.side)), 0)
def findO (l : List Od) (id : Int) : Option Od := l.find? fun o => decide (o.id = id)
def findOf (b : Bk) (id : Int) : Od × Int :=
  if bookErr b ≠ 0 then (zeroOd, bookErr b) else match findO (b.bids ++ b.asks) id with
  | some o => (o, 0)
  | none => (zeroOd, 5)
def removeOf (b : Bk) (id : Int) : Bk × Od × Int :=
  if (findOf b id).2 ≠ 0 then (zeroBk, zeroOd, (findOf b id).2)
  else (setOwn b (findOf b id).1.side (delO id (ownOf b (findOf b id).1.side)), (findOf b id).1, 0)
def headPrice (l : List Od) : Int := match l with
  | x :: _ => x.price
  | [] => 0
def bestOf (b : Bk) : Int × Int × Int := if bookErr b ≠ 0 then (0, 0, bookErr b) else (headPrice b.bids, headPrice b.asks, 0)

theorem hasB_iff {b : Bk} {id : Int} : hasB b id = true ↔ ∃ o, (o ∈ b.bids ∨ o ∈ b.asks) ∧ o.id = id := by
  simp only [hasB, List.any_eq_true, List.mem_append, decide_eq_true_eq]
theorem hasB_not {b : Bk} {id : Int} : hasB b id = false ↔ (∀ x ∈ b.bids, x.id ≠ id) ∧ ∀ x ∈ b.asks, x.id ≠ id := by
  rw [← Bool.not_eq_true, hasB_iff]
  constructor
  · intro h; exact ⟨fun x hx e => h ⟨x, .inl hx, e⟩, fun x hx e => h ⟨x, .inr hx, e⟩⟩
  · rintro ⟨h1, h2⟩ ⟨x, hx | hx, e⟩
    · exact h1 x hx e
    · exact h2 x hx e
theorem findO_some {l : List Od} {id : Int} {o : Od} (h : findO l id = some o) : o ∈ l ∧ o.id = id := by
  have h1 := List.mem_of_find?_eq_some h
  have h2 := List.find?_some h
  exact ⟨h1, by simpa using h2⟩
theorem findO_none {l : List Od} {id : Int} (h : findO l id = none) : ∀ o ∈ l, o.id ≠ id := by
  intro o ho
  have := List.find?_eq_none.1 h o ho
  simpa using this
theorem bookOk_ids {b : Bk} (h : BookOk b) {x y : Od} (hx : x ∈ b.bids ++ b.asks) (hy : y ∈ b.bids ++ b.asks) (he : x.id = y.id) : x = y := by
  rcases List.mem_append.1 hx with hx | hx
  · rcases List.mem_append.1 hy with hy | hy
    · exact id_inj h.bids hx hy he
    · exact absurd he (h.apart x hx y hy)
  · rcases List.mem_append.1 hy with hy | hy
    · exact absurd he.symm (h.apart y hy x hx)
    · exact id_inj h.asks hx hy he
theorem findO_of {b : Bk} (h : BookOk b) {o : Od} (ho : o ∈ b.bids ++ b.asks) : findO (b.bids ++ b.asks) o.id = some o := by
  cases hf : findO (b.bids ++ b.asks) o.id with
  | none => exact absurd rfl (findO_none hf o ho)
  | some x =>
    obtain ⟨h1, h2⟩ := findO_some hf
    rw [bookOk_ids h h1 ho h2]

/-- no order of one side crosses one of the other, where the first ones don't. -/
theorem free_all {b : Bk} (h : BookOk b) : ∀ x ∈ b.bids, ∀ y ∈ b.asks, x.price < y.price := by
  obtain ⟨bids, asks⟩ := b
  intro x hx y hy
  have hf := h.free
  have hb := h.bids
  have ha := h.asks
  simp only at hx hy hb ha
  cases bids with
  | nil => cases hx
  | cons x0 l =>
    cases asks with
    | nil => cases hy
    | cons y0 m =>
      simp only [crossedB, decide_eq_false_iff_not] at hf
      have h1 : x.price ≤ x0.price := by
        rcases List.mem_cons.1 hx with rfl | hx
        · exact Int.le_refl _
        · have := (List.pairwise_cons.1 hb.sorted).1 x hx
          rw [ahead_buy (hb.side x0 (by simp))] at this
          omega
      have h2 : y0.price ≤ y.price := by
        rcases List.mem_cons.1 hy with rfl | hy
        · exact Int.le_refl _
        · have := (List.pairwise_cons.1 ha.sorted).1 y hy
          rw [ahead_sell (by rw [ha.side y0 (by simp)]; decide)] at this
          omega
      omega
theorem free_of {b : Bk} (h : ∀ x ∈ b.bids, ∀ y ∈ b.asks, x.price < y.price) : crossedB b = false := by
  obtain ⟨bids, asks⟩ := b
  unfold crossedB
  cases bids with
  | nil => rfl
  | cons x l =>
    cases asks with
    | nil => rfl
    | cons y m =>
      have := h x (by simp) y (by simp)
      simp only [decide_eq_false_iff_not]
      omega

end Go.Proofs.YtockodmbhnlheaaDoor
