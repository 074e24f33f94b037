/-
  PLAIN LEAN, no program in sight: chapter 3: what an order takes; an order that comes; taking in two parts.
-/
import Derived.Test.YtockodmbhnlheaaDoorBookLaws
namespace Go.Proofs.YtockodmbhnlheaaDoor

structure Fl where
  maker : Int
  taker : Int
  macc : Int
  tacc : Int
  side : Int
  price : Int
  qty : Int
theorem Fl.ext' {a b : Fl} (h1 : a.maker = b.maker) (h2 : a.taker = b.taker) (h3 : a.macc = b.macc) (h4 : a.tacc = b.tacc) (h5 : a.side = b.side) (h6 : a.price = b.price) (h7 : a.qty = b.qty) : a = b := by
  obtain ⟨a1, a2, a3, a4, a5, a6, a7⟩ := a
  obtain ⟨b1, b2, b3, b4, b5, b6, b7⟩ := b
  simp only at h1 h2 h3 h4 h5 h6 h7
  subst h1 h2 h3 h4 h5 h6 h7; rfl
def fillOf (o x : Od) (n : Int) : Fl := ⟨x.id, o.id, x.acc, o.acc, o.side, x.price, n⟩
/-- what an order takes of the other side: what is left there, the fills, what is left of it, whether it met its own. -/
def takeL (o : Od) : Int → List Od → List Od × List Fl × Int × Bool
  | left, [] => ([], [], left, false)
  | left, x :: l => if left ≤ 0 then (x :: l, [], left, false) else if crossesB o x.price = false then (x :: l, [], left, false) else if x.acc = o.acc then (x :: l, [], left, true)
    else if left < x.qty then ({ x with qty := x.qty - left } :: l, [fillOf o x left], 0, false)
    else ((takeL o (left - x.qty) l).1, fillOf o x x.qty :: (takeL o (left - x.qty) l).2.1, (takeL o (left - x.qty) l).2.2)
/-- chapter 3's Take. -/
def takeOf (b : Bk) (o : Od) : Bk × List Fl × Int × Bool × Int :=
  if bookErr b ≠ 0 then (zeroBk, [], 0, false, bookErr b) else if ordErr o ≠ 0 then (zeroBk, [], 0, false, ordErr o)
  else (setOther b o.side (takeL o o.qty (otherOf b o.side)).1, (takeL o o.qty (otherOf b o.side)).2.1, (takeL o o.qty (otherOf b o.side)).2.2.1, (takeL o o.qty (otherOf b o.side)).2.2.2, 0)
/-- chapter 3's Come. -/
def comeOf (b : Bk) (o : Od) (how : Int) : Bk × List Fl × Int × Int :=
  if bookErr b ≠ 0 then (zeroBk, [], 0, bookErr b) else if hasB b o.id then (zeroBk, [], 0, 6) else if how < 1 ∨ 4 < how then (zeroBk, [], 0, 4)
  else if (takeOf b o).2.2.2.2 ≠ 0 then (zeroBk, [], 0, (takeOf b o).2.2.2.2)
  else if how = 4 ∧ ((takeOf b o).2.1 ≠ [] ∨ (takeOf b o).2.2.2.1 = true) then (zeroBk, [], 0, 9)
  else if (takeOf b o).2.2.2.1 then (zeroBk, [], 0, 11)
  else if how = 3 ∧ 0 < (takeOf b o).2.2.1 then (zeroBk, [], 0, 10)
  else if (takeOf b o).2.2.1 = 0 ∨ how = 2 then ((takeOf b o).1, (takeOf b o).2.1, (takeOf b o).2.2.1, 0)
  else if (restOf (takeOf b o).1 { o with qty := (takeOf b o).2.2.1 }).2 ≠ 0 then (zeroBk, [], 0, (restOf (takeOf b o).1 { o with qty := (takeOf b o).2.2.1 }).2)
  else ((restOf (takeOf b o).1 { o with qty := (takeOf b o).2.2.1 }).1, (takeOf b o).2.1, 0, 0)

/-- like orders but for how much is left. -/
def sameBut (x y : Od) : Prop := x.id = y.id ∧ x.acc = y.acc ∧ x.side = y.side ∧ x.price = y.price
theorem ahead_but {x x' y : Od} (h : sameBut x x') : aheadB x y = aheadB x' y ∧ aheadB y x = aheadB y x' := by
  obtain ⟨h1, h2, h3, h4⟩ := h
  unfold aheadB
  rw [h1, h3, h4]; exact ⟨rfl, rfl⟩

/-- what is left of a side is one. -/
theorem takeL_side {s : Int} {o : Od} : ∀ {l : List Od} {left : Int}, SideOk s l → SideOk s (takeL o left l).1 ∧ (∀ y ∈ (takeL o left l).1, ∃ x ∈ l, sameBut x y ∧ y.qty ≤ x.qty) ∧ (takeL o left l).1.length ≤ l.length
  | [], _, h => ⟨h, by simp [takeL], by simp [takeL]⟩
  | x :: l, left, h => by
    have hid : ∀ y ∈ x :: l, ∃ z ∈ x :: l, sameBut z y ∧ y.qty ≤ z.qty := fun y hy => ⟨y, hy, ⟨rfl, rfl, rfl, rfl⟩, Int.le_refl _⟩
    unfold takeL
    split
    · exact ⟨h, hid, Nat.le_refl _⟩
    split
    · exact ⟨h, hid, Nat.le_refl _⟩
    split
    · exact ⟨h, hid, Nat.le_refl _⟩
    split
    · rename_i h1 h2 h3 h4
      have hx := ordErr_ok.1 (h.ok x (by simp))
      refine ⟨⟨?_, ?_, ?_, ?_⟩, ?_, by simp⟩
      · intro y hy
        rcases List.mem_cons.1 hy with rfl | hy
        · rw [ordErr_ok]; simp only; omega
        · exact h.ok y (by simp [hy])
      · intro y hy
        rcases List.mem_cons.1 hy with rfl | hy
        · exact h.side x (by simp)
        · exact h.side y (by simp [hy])
      · obtain ⟨k1, k2⟩ := List.pairwise_cons.1 h.sorted
        refine List.pairwise_cons.2 ⟨fun y hy => ?_, k2⟩
        rw [← (ahead_but (x := x) (y := y) (by exact ⟨rfl, rfl, rfl, rfl⟩)).1]
        exact k1 y hy
      · have := h.ids
        simpa using this
      · intro y hy
        rcases List.mem_cons.1 hy with rfl | hy
        · exact ⟨x, by simp, ⟨rfl, rfl, rfl, rfl⟩, by simp only; omega⟩
        · exact hid y (by simp [hy])
    · obtain ⟨k1, k2, k3⟩ := takeL_side (o := o) (l := l) (left := left - x.qty) (sideOk_sub h (List.sublist_cons_self x l))
      refine ⟨k1, fun y hy => ?_, by simp only [List.length_cons]; omega⟩
      obtain ⟨z, hz, hs⟩ := k2 y hy
      exact ⟨z, by simp [hz], hs⟩
theorem other_of {b : Bk} (h : BookOk b) (s : Int) (hs : s = 1 ∨ s = -1) : SideOk (-s) (otherOf b s) := by
  unfold otherOf
  rcases hs with hs | hs
  · rw [if_pos hs, hs]; exact h.asks
  · rw [if_neg (by omega), hs]; exact h.bids
theorem book_take {b : Bk} (h : BookOk b) (o : Od) (hs : o.side = 1 ∨ o.side = -1) (left : Int) : BookOk (setOther b o.side (takeL o left (otherOf b o.side)).1) := by
  obtain ⟨k1, k2, k3⟩ := takeL_side (o := o) (left := left) (other_of h o.side hs)
  have hl := h.len
  have hf := free_all h
  unfold setOther
  unfold otherOf at k1 k2 k3 ⊢
  rcases hs with hs | hs
  · rw [if_pos hs] at k1 k2 k3 ⊢
    rw [if_pos hs]
    rw [hs] at k1
    refine ⟨by simp only; omega, h.bids, k1, fun x hx y hy => ?_, free_of fun x hx y hy => ?_⟩
    · obtain ⟨z, hz, hzy, _⟩ := k2 y hy
      rw [← hzy.1]; exact h.apart x hx z hz
    · obtain ⟨z, hz, hzy, _⟩ := k2 y hy
      rw [← hzy.2.2.2]; exact hf x hx z hz
  · have hs1 : ¬ o.side = 1 := by omega
    rw [if_neg hs1] at k1 k2 k3 ⊢
    rw [if_neg hs1]
    rw [hs] at k1
    refine ⟨by simp only; omega, k1, h.asks, fun x hx y hy => ?_, free_of fun x hx y hy => ?_⟩
    · obtain ⟨z, hz, hzy, _⟩ := k2 x hx
      rw [← hzy.1]; exact h.apart z hz y hy
    · obtain ⟨z, hz, hzy, _⟩ := k2 x hx
      rw [← hzy.2.2.2]; exact hf z hz y hy

/-- how much of a maker. -/
def ofL : List Fl → Int → Int
  | [], _ => 0
  | f :: l, id => (if f.maker = id then f.qty else 0) + ofL l id
theorem ofL_append (m : List Fl) (id : Int) : ∀ l, ofL (l ++ m) id = ofL l id + ofL m id
  | [] => by simp [ofL]
  | f :: l => by simp only [List.cons_append, ofL, ofL_append m id l]; omega
theorem takeL_left {o : Od} : ∀ {l : List Od} {left : Int}, (∀ x ∈ l, 1 ≤ x.qty) → 0 ≤ left → 0 ≤ (takeL o left l).2.2.1 ∧ (takeL o left l).2.2.1 ≤ left
  | [], left, _, h => by simp [takeL, h]
  | x :: l, left, hq, h => by
    unfold takeL
    split
    · exact ⟨h, Int.le_refl _⟩
    split
    · exact ⟨h, Int.le_refl _⟩
    split
    · exact ⟨h, Int.le_refl _⟩
    split
    · exact ⟨Int.le_refl _, h⟩
    · have h1 := hq x (by simp)
      obtain ⟨k1, k2⟩ := takeL_left (o := o) (l := l) (left := left - x.qty) (fun y hy => hq y (by simp [hy])) (by omega)
      exact ⟨k1, by simp only; omega⟩
theorem takeL_zero {o : Od} (l : List Od) : takeL o 0 l = (l, [], 0, false) := by
  cases l with
  | nil => rfl
  | cons x l => simp [takeL]
/-- taking in two parts. -/
theorem takeL_parts {o : Od} {m : Int} : ∀ {l : List Od} {n : Int}, (∀ x ∈ l, 1 ≤ x.qty) → 0 < n → 0 < m →
    (takeL o (n + m) l).1 = (takeL o m (takeL o n l).1).1 ∧ (takeL o (n + m) l).2.2.1 = (takeL o m (takeL o n l).1).2.2.1 + (takeL o n l).2.2.1 ∧
      (0 < (takeL o (n + m) l).2.2.1 → (takeL o (n + m) l).2.2.2 = (takeL o m (takeL o n l).1).2.2.2) ∧
      ∀ id, ofL (takeL o (n + m) l).2.1 id = ofL (takeL o n l).2.1 id + ofL (takeL o m (takeL o n l).1).2.1 id
  | [], n, _, hn, hm => by simp [takeL, ofL]; omega
  | x :: l, n, hq, hn, hm => by
    have hx := hq x (by simp)
    by_cases h2 : crossesB o x.price = false
    · have e1 : ∀ k, takeL o k (x :: l) = (x :: l, [], k, false) := by
        intro k; unfold takeL; split
        · rfl
        · rfl
      rw [e1 n, e1 (n + m), e1 m]
      exact ⟨rfl, by simp only; omega, fun _ => rfl, fun _ => by simp [ofL]⟩
    by_cases h3 : x.acc = o.acc
    · have e1 : ∀ k, 0 < k → takeL o k (x :: l) = (x :: l, [], k, true) := by intro k hk; unfold takeL; rw [if_neg (by omega), if_neg h2, if_pos h3]
      rw [e1 n hn, e1 (n + m) (by omega), e1 m hm]
      exact ⟨rfl, by simp only; omega, fun _ => rfl, fun _ => by simp [ofL]⟩
    have e1 : ∀ k, 0 < k → k < x.qty → takeL o k (x :: l) = ({ x with qty := x.qty - k } :: l, [fillOf o x k], 0, false) := by
      intro k hk hk2
      unfold takeL; rw [if_neg (by omega), if_neg h2, if_neg h3, if_pos hk2]
    have e2 : ∀ k, x.qty ≤ k → takeL o k (x :: l) = ((takeL o (k - x.qty) l).1, fillOf o x x.qty :: (takeL o (k - x.qty) l).2.1, (takeL o (k - x.qty) l).2.2) := by
      intro k hk
      conv => lhs; unfold takeL
      rw [if_neg (by omega), if_neg h2, if_neg h3, if_neg (by omega)]
    rcases Int.lt_trichotomy n x.qty with hc | hc | hc
    · rw [e1 n hn hc]
      simp only
      have f1 : ∀ k, 0 < k → k < x.qty - n → takeL o k ({ x with qty := x.qty - n } :: l) = ({ x with qty := x.qty - n - k } :: l, [fillOf o x k], 0, false) := by
        intro k hk hk2
        unfold takeL; rw [if_neg (by omega), if_neg h2, if_neg h3, if_pos hk2]; rfl
      have f2 : ∀ k, x.qty - n ≤ k → takeL o k ({ x with qty := x.qty - n } :: l) = ((takeL o (k - (x.qty - n)) l).1, fillOf o x (x.qty - n) :: (takeL o (k - (x.qty - n)) l).2.1, (takeL o (k - (x.qty - n)) l).2.2) := by
        intro k hk
        conv => lhs; unfold takeL
        rw [if_neg (by omega), if_neg h2, if_neg h3, if_neg (by simp only; omega)]; rfl
      by_cases hc2 : m < x.qty - n
      · rw [f1 m hm hc2, e1 (n + m) (by omega) (by omega)]
        refine ⟨?_, rfl, fun _ => rfl, fun id => ?_⟩
        · simp only; rw [show x.qty - (n + m) = x.qty - n - m by omega]
        · simp only [ofL, fillOf]; by_cases hi : x.id = id <;> simp only [hi, if_true, if_false] <;> omega
      · rw [f2 m (by omega), e2 (n + m) (by omega), show m - (x.qty - n) = n + m - x.qty by omega]
        refine ⟨rfl, by simp only; omega, fun _ => rfl, fun id => ?_⟩
        simp only [ofL, fillOf]; by_cases hi : x.id = id <;> simp only [hi, if_true, if_false] <;> omega
    · have e3 : takeL o n (x :: l) = (l, [fillOf o x x.qty], 0, false) := by
        rw [e2 n (by omega), show n - x.qty = 0 by omega, takeL_zero]
      rw [e3, e2 (n + m) (by omega), show n + m - x.qty = m by omega]
      refine ⟨rfl, by simp only; omega, fun _ => rfl, fun id => ?_⟩
      simp only [ofL]; omega
    · rw [e2 n (by omega), e2 (n + m) (by omega), show n + m - x.qty = n - x.qty + m by omega]
      obtain ⟨k1, k2, k3, k4⟩ := takeL_parts (o := o) (m := m) (l := l) (n := n - x.qty) (fun y hy => hq y (by simp [hy])) (by omega) hm
      refine ⟨k1, k2, k3, fun id => ?_⟩
      have := k4 id
      simp only [ofL]; omega

theorem takeL_makers {o : Od} : ∀ {l : List Od} {left : Int}, ∀ f ∈ (takeL o left l).2.1, ∃ x ∈ l, f.maker = x.id ∧ f.macc = x.acc ∧ f.price = x.price
  | [], left => by simp [takeL]
  | x :: l, left => by
    unfold takeL
    split
    · simp
    split
    · simp
    split
    · simp
    split
    · intro f hf
      simp only [List.mem_singleton] at hf
      subst hf
      exact ⟨x, by simp, rfl, rfl, rfl⟩
    · intro f hf
      rcases List.mem_cons.1 hf with rfl | hf
      · exact ⟨x, by simp, rfl, rfl, rfl⟩
      · obtain ⟨y, hy, h⟩ := takeL_makers (o := o) (l := l) (left := left - x.qty) f hf
        exact ⟨y, by simp [hy], h⟩
theorem ofL_zero {l : List Fl} {id : Int} (h : ∀ f ∈ l, f.maker ≠ id) : ofL l id = 0 := by
  induction l with
  | nil => rfl
  | cons f l ih =>
    simp only [ofL]
    rw [if_neg (h f (by simp)), ih (fun g hg => h g (by simp [hg]))]; rfl
theorem other_set (b : Bk) (s : Int) (l : List Od) : otherOf (setOther b s l) s = l ∧ setOther (setOther b s l) s = setOther b s := by
  unfold otherOf setOther
  by_cases h : s = 1
  · simp [h]
  · simp [h]
theorem takeL_like {o p : Od} (h1 : o.side = p.side) (h2 : o.price = p.price) (h3 : o.acc = p.acc) (h4 : o.id = p.id) : ∀ (l : List Od) (n : Int), takeL o n l = takeL p n l
  | [], n => rfl
  | x :: l, n => by
    have hc : crossesB o x.price = crossesB p x.price := by unfold crossesB; rw [h1, h2]
    have hf : ∀ k, fillOf o x k = fillOf p x k := by intro k; unfold fillOf; rw [h4, h3, h1]
    unfold takeL
    rw [hc, h3, hf, hf, takeL_like h1 h2 h3 h4 l]
/-- the law MatchParts. -/
theorem parts_law {b x : Bk} {o : Od} {l : List Fl} {left : Int} {met : Bool} {n : Int} (h : takeOf b o = (x, l, left, met, 0)) (hn : 0 < n) (hn2 : n < o.qty) :
    ∃ y m some' met', takeOf b { o with qty := n } = (y, m, some', met', 0) ∧ ∃ k rest too, takeOf y { o with qty := o.qty - n } = (x, k, rest, too, 0) ∧ left = rest + some' ∧ (0 ≤ left ∧ left ≤ o.qty) ∧ (0 ≤ rest ∧ rest ≤ 1000) ∧ (0 ≤ some' ∧ some' ≤ 1000) ∧
      (0 < left → met = too) ∧ (∀ id, ofL l id = ofL (m ++ k) id) ∧ ofL (m ++ k) 0 = 0 := by
  unfold takeOf at h
  split at h
  · rename_i h1; injection h with _ h; injection h with _ h; injection h with _ h; injection h with _ h; exact absurd h h1
  rename_i h1
  split at h
  · rename_i h2; injection h with _ h; injection h with _ h; injection h with _ h; injection h with _ h; exact absurd h h2
  rename_i h2
  have hb := bookErr_ok.1 (show bookErr b = 0 by omega)
  have ho := ordErr_ok.1 (show ordErr o = 0 by omega)
  injection h with e1 h; injection h with e2 h; injection h with e3 h; injection h with e4 _
  have hs := ho.2.2.1
  have hso := other_of hb o.side hs
  have hq : ∀ x ∈ otherOf b o.side, 1 ≤ x.qty := fun x hx => (ordErr_ok.1 (hso.ok x hx)).2.2.2.2.1
  have hpo : ordErr { o with qty := n } = 0 := by rw [ordErr_ok]; simp only; omega
  have hqo : ordErr { o with qty := o.qty - n } = 0 := by rw [ordErr_ok]; simp only; omega
  have t1 : takeOf b { o with qty := n } = (setOther b o.side (takeL o n (otherOf b o.side)).1, (takeL o n (otherOf b o.side)).2.1, (takeL o n (otherOf b o.side)).2.2.1, (takeL o n (otherOf b o.side)).2.2.2, 0) := by
    unfold takeOf
    rw [if_neg h1, if_neg (by rw [hpo]; simp)]
    simp only
    rw [takeL_like (o := { o with qty := n }) (p := o) rfl rfl rfl rfl]
  refine ⟨_, _, _, _, t1, ?_⟩
  have hby := book_take hb o hs n
  obtain ⟨o1, o2⟩ := other_set b o.side (takeL o n (otherOf b o.side)).1
  have t2 : takeOf (setOther b o.side (takeL o n (otherOf b o.side)).1) { o with qty := o.qty - n } = (setOther b o.side (takeL o (o.qty - n) (takeL o n (otherOf b o.side)).1).1, (takeL o (o.qty - n) (takeL o n (otherOf b o.side)).1).2.1, (takeL o (o.qty - n) (takeL o n (otherOf b o.side)).1).2.2.1, (takeL o (o.qty - n) (takeL o n (otherOf b o.side)).1).2.2.2, 0) := by
    unfold takeOf
    rw [if_neg (by rw [bookErr_ok.2 hby]; simp), if_neg (by rw [hqo]; simp)]
    simp only
    rw [takeL_like (o := { o with qty := o.qty - n }) (p := o) rfl rfl rfl rfl, o1, o2]
  obtain ⟨k1, k2, k3, k4⟩ := takeL_parts (o := o) (m := o.qty - n) (l := otherOf b o.side) (n := n) hq hn (by omega)
  rw [show n + (o.qty - n) = o.qty by omega] at k1 k2 k3 k4
  refine ⟨_, _, _, by rw [t2, ← e1, k1], by rw [← e3, k2], ?_, ?_, ?_, fun hl => ?_, fun id => ?_, ?_⟩
  · rw [← e3]; exact takeL_left hq (by omega)
  · have hq2 : ∀ x ∈ (takeL o n (otherOf b o.side)).1, 1 ≤ x.qty := fun x hx => (ordErr_ok.1 ((takeL_side hso).1.ok x hx)).2.2.2.2.1
    have := takeL_left (o := o) (left := o.qty - n) hq2 (by omega)
    omega
  · have := takeL_left (o := o) (left := n) hq (by omega)
    omega
  · rw [← e4, k3 (by rw [e3]; exact hl)]
  · rw [← e2, ofL_append, k4]
  · refine ofL_zero ?_
    intro f hf
    rcases List.mem_append.1 hf with hf | hf
    · obtain ⟨x, hx, hm, _⟩ := takeL_makers f hf
      have := (ordErr_ok.1 (hso.ok x hx)).1
      omega
    · obtain ⟨x, hx, hm, _⟩ := takeL_makers f hf
      have := (ordErr_ok.1 ((takeL_side hso).1.ok x hx)).1
      omega

end Go.Proofs.YtockodmbhnlheaaDoor
