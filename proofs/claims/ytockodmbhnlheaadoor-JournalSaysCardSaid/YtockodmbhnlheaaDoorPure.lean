/-
  PLAIN LEAN, no program in sight: what the functions of package fix compute, as functions on whole numbers; the bounds of what they answer.
-/
namespace Go.Proofs.YtockodmbhnlheaaDoor

/-- an amount? -/
def isMoney (n : Int) : Bool := decide (-1000000000000 ≤ n) && decide (n ≤ 1000000000000)
theorem isMoney_iff {n : Int} : isMoney n = true ↔ -1000000000000 ≤ n ∧ n ≤ 1000000000000 := by simp [isMoney]
theorem isMoney_not {n : Int} : isMoney n = false ↔ n < -1000000000000 ∨ 1000000000000 < n := by
  rw [← Bool.not_eq_true, isMoney_iff]; omega

/-- amounts, one by one, onto what was there: the sum and the error. -/
def addFrom (s : Int) : List Int → Int × Int
  | [] => (s, 0)
  | n :: l => if isMoney n then (if isMoney (s + n) then addFrom (s + n) l else (0, 7)) else (0, 3)
def addAll (l : List Int) : Int × Int := addFrom 0 l


/-- n times a, divided by b, rounded up or down; the error. -/
def partOk (n a b : Int) : Bool := isMoney n && decide (-10000 ≤ a) && decide (a ≤ 10000) && decide (1 ≤ b) && decide (b ≤ 10000)
def partQ (n a b : Int) (up : Bool) : Int := if up then -((-(n * a)) / b) else (n * a) / b
def partOf (n a b : Int) (up : Bool) : Int × Int :=
  if partOk n a b then (if isMoney (partQ n a b up) then (partQ n a b up, 0) else (0, 7)) else (0, 3)
theorem partOk_iff {n a b : Int} : partOk n a b = true ↔ (-1000000000000 ≤ n ∧ n ≤ 1000000000000) ∧ -10000 ≤ a ∧ a ≤ 10000 ∧ 1 ≤ b ∧ b ≤ 10000 := by
  simp [partOk, isMoney, and_assoc]
theorem mul_bd {n a : Int} (h1 : -1000000000000 ≤ n) (h2 : n ≤ 1000000000000) (h3 : -10000 ≤ a) (h4 : a ≤ 10000) : -10000000000000000 ≤ n * a ∧ n * a ≤ 10000000000000000 := by
  have hn : (n * a).natAbs ≤ 1000000000000 * 10000 := by rw [Int.natAbs_mul]; exact Nat.mul_le_mul (by omega) (by omega)
  omega
/-- the quotient of Go, in terms of the one that is rounded down. -/
theorem tdiv_of (p b : Int) : p.tdiv b = if 0 ≤ p then p / b else -((-p) / b) := by
  split
  · rename_i h; exact Int.tdiv_eq_ediv_of_nonneg h
  · rename_i h
    have := Int.neg_tdiv (-p) b
    rw [Int.neg_neg] at this
    rw [this, Int.tdiv_eq_ediv_of_nonneg (by omega)]
theorem tmod_of (p b : Int) : p.tmod b = if 0 ≤ p then p % b else -((-p) % b) := by
  split
  · rename_i h; exact Int.tmod_eq_emod_of_nonneg h
  · rename_i h
    have := Int.neg_tmod (-p) b
    rw [Int.neg_neg] at this
    rw [this, Int.tmod_eq_emod_of_nonneg (by omega)]
/-- rounded the other way: by one more just where something is left over. -/
theorem ediv_neg_up (p b : Int) (hb : 1 ≤ b) : -((-p) / b) = if p % b = 0 then p / b else p / b + 1 := by
  have h1 := Int.mul_ediv_add_emod p b
  have h2 := Int.mul_ediv_add_emod (-p) b
  have h3 := Int.emod_nonneg p (show b ≠ 0 by omega)
  have h4 := Int.emod_lt_of_pos p (show 0 < b by omega)
  have h5 := Int.emod_nonneg (-p) (show b ≠ 0 by omega)
  have h6 := Int.emod_lt_of_pos (-p) (show 0 < b by omega)
  have h7 : b * (p / b + (-p) / b) = -(p % b + (-p) % b) := by rw [Int.mul_add]; omega
  generalize p / b = x at *
  generalize (-p) / b = y at *
  split
  · rename_i h
    rw [h] at h7
    have : (-p) % b = 0 := Int.emod_eq_zero_of_dvd (Int.dvd_neg.2 (Int.dvd_of_emod_eq_zero h))
    rw [this] at h7
    rcases Int.mul_eq_zero.1 (show b * (x + y) = 0 by omega) with h | h <;> omega
  · rename_i h
    have h8 : x + y = -1 := by
      rcases Int.lt_trichotomy (x + y) (-1) with h' | h' | h'
      · have : b * (x + y) ≤ b * (-2) := Int.mul_le_mul_of_nonneg_left (by omega) (by omega)
        omega
      · exact h'
      · have : b * 0 ≤ b * (x + y) := Int.mul_le_mul_of_nonneg_left (by omega) (by omega)
        omega
    omega

theorem ediv_bd (p b : Int) (hp : 0 ≤ p) (hb : 1 ≤ b) : 0 ≤ p / b ∧ p / b ≤ p :=
  ⟨Int.ediv_nonneg hp (by omega), Int.ediv_le_self b hp⟩
theorem tdiv_bd (p b : Int) (hp : p < 0) (hb : 1 ≤ b) : p ≤ p.tdiv b ∧ p.tdiv b ≤ 0 := by
  rw [tdiv_of, if_neg (by omega)]
  have := ediv_bd (-p) b (by omega) hb
  omega
/-- what the quotient of Go comes to, case by case. -/
theorem partQ_pos_exact {n a b : Int} {up : Bool} (hb : 1 ≤ b) (hr : n * a % b = 0) : partQ n a b up = n * a / b := by
  unfold partQ
  have := ediv_neg_up (n * a) b hb
  rw [if_pos hr] at this
  cases up <;> simp [this]
theorem partQ_pos_up {n a b : Int} (hb : 1 ≤ b) (hr : ¬ n * a % b = 0) : partQ n a b true = n * a / b + 1 := by
  have := ediv_neg_up (n * a) b hb
  rw [if_neg hr] at this
  simpa [partQ] using this
theorem partQ_pos_down {n a b : Int} : partQ n a b false = n * a / b := by simp [partQ]
theorem tmod_zero {p b : Int} (hp : p < 0) : p.tmod b = 0 ↔ p % b = 0 := by
  rw [tmod_of, if_neg (by omega)]
  constructor
  · intro h
    have h : -p % b = 0 := by omega
    have := Int.emod_eq_zero_of_dvd (Int.dvd_neg.2 (Int.dvd_of_emod_eq_zero h))
    rwa [Int.neg_neg] at this
  · intro h
    have := Int.emod_eq_zero_of_dvd (Int.dvd_neg.2 (Int.dvd_of_emod_eq_zero h))
    omega
theorem partQ_neg_up {n a b : Int} (hp : n * a < 0) : partQ n a b true = (n * a).tdiv b := by
  rw [tdiv_of, if_neg (by omega)]; simp [partQ]
theorem partQ_neg_exact {n a b : Int} {up : Bool} (hp : n * a < 0) (hb : 1 ≤ b) (hr : (n * a).tmod b = 0) : partQ n a b up = (n * a).tdiv b := by
  rw [tmod_zero hp] at hr
  rw [partQ_pos_exact hb hr, tdiv_of, if_neg (by omega)]
  have := ediv_neg_up (n * a) b hb
  rw [if_pos hr] at this
  omega
theorem partQ_neg_down {n a b : Int} (hp : n * a < 0) (hb : 1 ≤ b) (hr : ¬ (n * a).tmod b = 0) : partQ n a b false = (n * a).tdiv b - 1 := by
  rw [tmod_zero hp] at hr
  have := ediv_neg_up (n * a) b hb
  rw [if_neg hr] at this
  rw [tdiv_of, if_neg (by omega)]
  simp only [partQ]
  simp; omega

theorem part_ok {n a b q : Int} {up : Bool} (h : partOf n a b up = (q, 0)) : partOk n a b = true ∧ q = partQ n a b up ∧ isMoney q = true := by
  unfold partOf at h
  split at h
  · rename_i h1
    split at h
    · rename_i h2
      injection h with h3 _
      exact ⟨h1, h3.symm, by rw [← h3]; exact h2⟩
    · injection h with _ h4; omega
  · injection h with _ h4; omega
theorem part_errs (n a b : Int) (up : Bool) : (partOf n a b up).2 = 0 ∨ (partOf n a b up).2 = 3 ∨ (partOf n a b up).2 = 7 := by
  unfold partOf; split
  · split
    · exact .inl rfl
    · exact .inr (.inr rfl)
  · exact .inr (.inl rfl)

/-- rounded up, rounded down, turned round. -/
theorem part_both {n a b u d : Int} (hu : partOf n a b true = (u, 0)) (hd : partOf n a b false = (d, 0)) :
    partOf (-n) a b false = (-u, 0) ∧ (-1000000000000 ≤ u ∧ u ≤ 1000000000000) ∧ (-1000000000000 ≤ d ∧ d ≤ 1000000000000) ∧ (1 ≤ b ∧ b ≤ 10000) ∧ (-1000000000000 ≤ n ∧ n ≤ 1000000000000) ∧
      (-10000000000000000 ≤ n * a ∧ n * a ≤ 10000000000000000) ∧ d * b ≤ n * a ∧ n * a ≤ u * b ∧ (u = d ∧ n * a % b = 0 ∨ u = d + 1 ∧ ¬ n * a % b = 0) := by
  obtain ⟨hp, hu1, hu2⟩ := part_ok hu
  obtain ⟨_, hd1, hd2⟩ := part_ok hd
  obtain ⟨⟨h1, h2⟩, h3, h4, h5, h6⟩ := partOk_iff.1 hp
  have hm := mul_bd h1 h2 h3 h4
  have hq := ediv_neg_up (n * a) b h5
  have e1 := Int.mul_ediv_add_emod (n * a) b
  have e3 := Int.emod_nonneg (n * a) (show b ≠ 0 by omega)
  have e4 := Int.emod_lt_of_pos (n * a) (show 0 < b by omega)
  have hd3 : d = n * a / b := by rw [hd1]; simp [partQ]
  have hu3 : u = -((-(n * a)) / b) := by rw [hu1]; simp [partQ]
  have hu4 := isMoney_iff.1 hu2
  have hneg : partQ (-n) a b false = -u := by rw [hu3]; simp [partQ, Int.neg_mul]
  refine ⟨?_, hu4, isMoney_iff.1 hd2, ⟨h5, h6⟩, ⟨h1, h2⟩, hm, ?_, ?_, ?_⟩
  · unfold partOf
    rw [if_pos (partOk_iff.2 ⟨by omega, h3, h4, h5, h6⟩), hneg, if_pos (isMoney_iff.2 (by omega))]
  · rw [← hd3, Int.mul_comm b d] at e1; omega
  · rw [← hu3, ← hd3] at hq
    rw [← hd3, Int.mul_comm b d] at e1
    split at hq
    · rename_i h0; rw [hq]; omega
    · rw [hq, Int.add_mul]; omega
  · rw [← hu3, ← hd3] at hq
    split at hq
    · rename_i h0; exact .inl ⟨hq, h0⟩
    · rename_i h0; exact .inr ⟨hq, h0⟩

/-! ### amounts added in parts -/
theorem addFrom_append (l2 : List Int) : ∀ (l1 : List Int) (t : Int), addFrom t (l1 ++ l2) = if (addFrom t l1).2 = 0 then addFrom (addFrom t l1).1 l2 else addFrom t l1
  | [], t => by simp [addFrom]
  | n :: l1, t => by
    simp only [List.cons_append, addFrom]
    split
    · split
      · exact addFrom_append l2 l1 (t + n)
      · rfl
    · rfl
theorem addFrom_ok : ∀ (l : List Int) (t r : Int), addFrom t l = (r, 0) → r = t + l.sum ∧ (∀ x ∈ l, isMoney x = true) ∧ (isMoney t = true → isMoney r = true)
  | [], t, r, h => by
    injection h with h1 _
    subst h1; simp
  | n :: l, t, r, h => by
    simp only [addFrom] at h
    split at h
    · rename_i hn
      split at h
      · rename_i ht
        obtain ⟨h1, h2, h3⟩ := addFrom_ok l (t + n) r h
        refine ⟨by rw [h1, List.sum_cons]; omega, ?_, fun _ => h3 ht⟩
        intro x hx
        rcases List.mem_cons.1 hx with rfl | hx
        · exact hn
        · exact h2 x hx
      · injection h with _ h; omega
    · injection h with _ h; omega
theorem addFrom_err : ∀ (l : List Int) (t : Int), (addFrom t l).2 = 0 ∨ (addFrom t l) = (0, 7) ∨ (addFrom t l) = (0, 3)
  | [], _ => .inl rfl
  | n :: l, t => by
    simp only [addFrom]
    split
    · split
      · exact addFrom_err l _
      · exact .inr (.inl rfl)
    · exact .inr (.inr rfl)
theorem addFrom_money : ∀ (l : List Int) (t : Int), (∀ x ∈ l, isMoney x = true) → (addFrom t l).2 ≠ 3
  | [], _, _ => by simp [addFrom]
  | n :: l, t, h => by
    simp only [addFrom]
    rw [if_pos (h n (by simp))]
    split
    · exact addFrom_money l _ fun x hx => h x (by simp [hx])
    · simp
theorem pair_zero {p : Int × Int} (h : p.2 = 0) : p = (p.1, 0) := Prod.ext rfl h
/-- amounts added in two parts are as in one; what isn't too much the other way round is the same. -/
theorem adds_law {l : List Int} {s : Int} (h : addAll l = (s, 0)) (k : Nat) :
    ∃ a, addAll (l.take k) = (a, 0) ∧ addAll (a :: l.drop k) = (s, 0) ∧ (addAll l.reverse = (0, 7) ∨ addAll l.reverse = (s, 0)) := by
  have h1 := addFrom_append (l.drop k) (l.take k) 0
  rw [List.take_append_drop] at h1
  unfold addAll at h ⊢
  have h2 : (addFrom 0 (l.take k)).2 = 0 := by
    by_cases h2 : (addFrom 0 (l.take k)).2 = 0
    · exact h2
    · rw [if_neg h2] at h1; rw [← h1, h] at h2; exact absurd rfl h2
  rw [if_pos h2] at h1
  have hs := addFrom_ok _ _ _ h
  have ha := addFrom_ok (l.take k) 0 (addFrom 0 (l.take k)).1 (pair_zero h2)
  have hm := ha.2.2 (by decide)
  refine ⟨(addFrom 0 (l.take k)).1, pair_zero h2, ?_, ?_⟩
  · simp only [addFrom]
    rw [if_pos hm, Int.zero_add, if_pos hm, ← h1, h]
  · have h3 := addFrom_money l.reverse 0 (fun x hx => hs.2.1 x (by simpa using hx))
    rcases addFrom_err l.reverse 0 with h4 | h4 | h4
    · right
      have h5 := addFrom_ok l.reverse 0 _ (pair_zero h4)
      rw [pair_zero h4, h5.1, hs.1, List.sum_reverse]
    · exact .inl h4
    · rw [h4] at h3; exact absurd rfl h3

/-- a number brought within bounds. -/
theorem at_of (k n : Int) (hn : 1 ≤ n) : k % n = if 0 ≤ k then k % n else if k.tmod n < 0 then k.tmod n + n else k.tmod n := by
  split
  · rfl
  · rename_i hk
    have h1 := Int.mul_ediv_add_emod (-k) n
    have h3 := Int.emod_nonneg (-k) (show n ≠ 0 by omega)
    have h4 := Int.emod_lt_of_pos (-k) (show 0 < n by omega)
    rw [tmod_of, if_neg hk]
    have h5 : k = -((-k) % n) + n * (-((-k) / n)) := by rw [Int.mul_neg]; omega
    have h6 : k % n = (-((-k) % n)) % n := by
      conv => lhs; rw [h5]
      rw [Int.add_mul_emod_self_left]
    rw [h6]
    generalize (-k) % n = r at *
    split
    · have : (-r) % n = (-r + n) % n := by rw [Int.add_emod_right]
      rw [this, Int.emod_eq_of_lt (by omega) (by omega)]
    · have : r = 0 := by omega
      subst this; simp

/-! ### accounts -/
def posOk1 (n : Int) : Bool := decide (-1000 ≤ n) && decide (n ≤ 1000)
def posOk (l : List Int) : Bool := l.all posOk1
theorem posOk1_iff {n : Int} : posOk1 n = true ↔ -1000 ≤ n ∧ n ≤ 1000 := by simp [posOk1]
theorem posOk1_not {n : Int} : posOk1 n = false ↔ n < -1000 ∨ 1000 < n := by rw [← Bool.not_eq_true, posOk1_iff]; omega
theorem posOk_next {l : List Int} {j : Nat} {z : Int} (hz : l[j]? = some z) (h : posOk (l.take j) = true) : posOk (l.take (j + 1)) = posOk1 z := by
  rw [List.take_add_one, hz]; simp [posOk] at h ⊢; intro _; exact h
theorem posOk_bad {l : List Int} {j : Nat} {z : Int} (hz : l[j]? = some z) (h : posOk1 z = false) : posOk l = false := by
  simp only [posOk, List.all_eq_false]; exact ⟨z, List.mem_of_getElem? hz, by simp [h]⟩
theorem posOk_get {l : List Int} {j : Nat} {z : Int} (h : posOk l = true) (hz : l[j]? = some z) : -1000 ≤ z ∧ z ≤ 1000 := by
  simp only [posOk, List.all_eq_true] at h; exact posOk1_iff.1 (h z (List.mem_of_getElem? hz))

/-- chapter 4's Check. -/
def accCheck (id bal : Int) (l : List Int) (m : Int) : Int :=
  if id < 0 ∨ 8 ≤ id then 5 else if m < 1 ∨ 2 < m ∨ (l.length : Int) ≠ m then 4 else if isMoney bal = false then 3 else if posOk l = false then 3 else 0
theorem accCheck_ok {id bal : Int} {l : List Int} {m : Int} (h : accCheck id bal l m = 0) :
    (0 ≤ id ∧ id ≤ 7) ∧ (1 ≤ m ∧ m ≤ 2) ∧ (l.length : Int) = m ∧ (-1000000000000 ≤ bal ∧ bal ≤ 1000000000000) ∧ posOk l = true := by
  unfold accCheck at h
  split at h
  · omega
  · split at h
    · omega
    · split at h
      · omega
      · split at h
        · omega
        · rename_i h1 h2 h3 h4
          rw [Bool.not_eq_false, isMoney_iff] at h3
          rw [Bool.not_eq_false] at h4
          exact ⟨by omega, by omega, by omega, h3, h4⟩
theorem accCheck_mk {id bal : Int} {l : List Int} {m : Int} (h1 : 0 ≤ id ∧ id ≤ 7) (h2 : 1 ≤ m ∧ m ≤ 2) (h3 : (l.length : Int) = m) (h4 : -1000000000000 ≤ bal ∧ bal ≤ 1000000000000) (h5 : posOk l = true) : accCheck id bal l m = 0 := by
  unfold accCheck
  rw [if_neg (by omega), if_neg (by omega), if_neg (by rw [isMoney_iff.2 h4]; simp), if_neg (by rw [h5]; simp)]

def worthOk (q p : Int) : Bool := decide (-1000 ≤ q) && decide (q ≤ 1000) && decide (0 ≤ p) && decide (p ≤ 10000)
def worthOf (q p : Int) : Int × Int := if worthOk q p then (q * p, 0) else (0, 3)
theorem worthOk_iff {q p : Int} : worthOk q p = true ↔ -1000 ≤ q ∧ q ≤ 1000 ∧ 0 ≤ p ∧ p ≤ 10000 := by simp [worthOk, and_assoc]
theorem worth_bd {q p : Int} (h1 : -1000 ≤ q) (h2 : q ≤ 1000) (h3 : 0 ≤ p) (h4 : p ≤ 10000) : -10000000 ≤ q * p ∧ q * p ≤ 10000000 := by
  have hn : (q * p).natAbs ≤ 1000 * 10000 := by rw [Int.natAbs_mul]; exact Nat.mul_le_mul (by omega) (by omega)
  omega
theorem worth_cases (q p : Int) : worthOf q p = (0, 3) ∨ worthOf q p = (q * p, 0) ∧ (-1000 ≤ q ∧ q ≤ 1000) ∧ (0 ≤ p ∧ p ≤ 10000) ∧ -10000000 ≤ q * p ∧ q * p ≤ 10000000 := by
  unfold worthOf
  split
  · rename_i h
    obtain ⟨h1, h2, h3, h4⟩ := worthOk_iff.1 h
    exact .inr ⟨rfl, ⟨h1, h2⟩, ⟨h3, h4⟩, worth_bd h1 h2 h3 h4⟩
  · exact .inl rfl

/-- chapter 6's Pays. -/
def paysOf (id bal : Int) (l : List Int) (market mark rate : Int) : Int × Int :=
  if accCheck id bal l l.length ≠ 0 then (0, accCheck id bal l l.length)
  else if market < 0 ∨ (l.length : Int) ≤ market then (0, 5)
  else if rate < -100 ∨ 100 < rate then (0, 3)
  else if (worthOf (l.getD market.toNat 0) mark).2 ≠ 0 then (0, (worthOf (l.getD market.toNat 0) mark).2)
  else partOf (worthOf (l.getD market.toNat 0) mark).1 rate 10000 true

structure Ac where
  id : Int
  bal : Int
  pos : List Int
def pays (a : Ac) (market mark rate : Int) : Int × Int := paysOf a.id a.bal a.pos market mark rate
/-- chapter 6's Settle: what is done, what is left so far, who is still to come. -/
def settleAcc (market mark rate : Int) (done : List Ac) (left : Int) : List Ac → List Ac × Int × Int
  | [] => (done, left, 0)
  | a :: l => if (pays a market mark rate).2 ≠ 0 then ([], 0, (pays a market mark rate).2)
    else if (addAll [a.bal, -(pays a market mark rate).1]).2 ≠ 0 then ([], 0, (addAll [a.bal, -(pays a market mark rate).1]).2)
    else settleAcc market mark rate (done ++ [{ a with bal := (addAll [a.bal, -(pays a market mark rate).1]).1 }]) (left + (pays a market mark rate).1) l
def settleOf (L : List Ac) (market mark rate : Int) : List Ac × Int × Int := if 8 < L.length then ([], 0, 2) else settleAcc market mark rate [] 0 L
theorem pays_ok {id bal : Int} {l : List Int} {market mark rate p : Int} (h : paysOf id bal l market mark rate = (p, 0)) :
    accCheck id bal l l.length = 0 ∧ (0 ≤ market ∧ market < l.length) ∧ (-100 ≤ rate ∧ rate ≤ 100) ∧ (-10000000 ≤ l.getD market.toNat 0 * mark ∧ l.getD market.toNat 0 * mark ≤ 10000000) ∧
      (-1000 ≤ l.getD market.toNat 0 ∧ l.getD market.toNat 0 ≤ 1000) ∧ (0 ≤ mark ∧ mark ≤ 10000) ∧ partOf (l.getD market.toNat 0 * mark) rate 10000 true = (p, 0) := by
  unfold paysOf at h
  split at h
  · rename_i h1; injection h with _ h2; exact absurd h2 h1
  · rename_i h1
    split at h
    · injection h with _ h2; omega
    · split at h
      · injection h with _ h2; omega
      · split at h
        · rename_i h4; injection h with _ h2; exact absurd h2 h4
        · rename_i h2 h3 h4
          rcases worth_cases (l.getD market.toNat 0) mark with h5 | ⟨h5, h6, h7, h8⟩
          · rw [h5] at h4; simp at h4
          · rw [h5] at h
            exact ⟨by simpa using h1, by omega, by omega, h8, h6, h7, h⟩
theorem pays_bd {id bal : Int} {l : List Int} {market mark rate p : Int} (h : paysOf id bal l market mark rate = (p, 0)) : -100000 ≤ p ∧ p ≤ 100000 := by
  obtain ⟨_, _, hr, hw, _, _, hp⟩ := pays_ok h
  obtain ⟨_, hq, _⟩ := part_ok hp
  generalize l.getD market.toNat 0 * mark = x at *
  have hn : (x * rate).natAbs ≤ 10000000 * 100 := by rw [Int.natAbs_mul]; exact Nat.mul_le_mul (by omega) (by omega)
  have h1 := ediv_neg_up (x * rate) 10000 (by omega)
  simp only [partQ] at hq
  simp at hq
  omega

theorem pays_mk {id bal : Int} {l : List Int} {market mark rate : Int} (h0 : accCheck id bal l l.length = 0) (h1 : 0 ≤ market ∧ market < l.length) (h2 : -100 ≤ rate ∧ rate ≤ 100)
    (h3 : -1000 ≤ l.getD market.toNat 0 ∧ l.getD market.toNat 0 ≤ 1000) (h4 : 0 ≤ mark ∧ mark ≤ 10000) : paysOf id bal l market mark rate = partOf (l.getD market.toNat 0 * mark) rate 10000 true := by
  unfold paysOf
  have hw : worthOf (l.getD market.toNat 0) mark = (l.getD market.toNat 0 * mark, 0) := by unfold worthOf; rw [if_pos (worthOk_iff.2 ⟨h3.1, h3.2, h4.1, h4.2⟩)]
  rw [if_neg (by rw [h0]; simp), if_neg (by omega), if_neg (by omega), hw]
  simp
theorem part_small {x r : Int} (hx : -10000000 ≤ x ∧ x ≤ 10000000) (hr : -100 ≤ r ∧ r ≤ 100) : partOf x r 10000 true = (-((-(x * r)) / 10000), 0) := by
  have hn : (x * r).natAbs ≤ 10000000 * 100 := by rw [Int.natAbs_mul]; exact Nat.mul_le_mul (by omega) (by omega)
  unfold partOf
  have hq : partQ x r 10000 true = -((-(x * r)) / 10000) := by simp [partQ]
  rw [if_pos (partOk_iff.2 ⟨by omega, by omega, by omega, by omega, by omega⟩), hq, if_pos (isMoney_iff.2 (by omega))]
/-- at the rate 0 nobody pays; at the other rate who got pays, no less. -/
theorem pays_none {id bal : Int} {l : List Int} {market mark rate p : Int} (h : paysOf id bal l market mark rate = (p, 0)) :
    (-100 ≤ rate ∧ rate ≤ 100) ∧ paysOf id bal l market mark 0 = (0, 0) ∧ ∃ q, paysOf id bal l market mark (-rate) = (q, 0) ∧ (-100000 ≤ q ∧ q ≤ 100000) ∧ 0 ≤ p + q ∧ p + q ≤ 1 := by
  obtain ⟨h0, h1, h2, h3, h4, h5, h6⟩ := pays_ok h
  refine ⟨h2, ?_, -((-(l.getD market.toNat 0 * mark * -rate)) / 10000), ?_, ?_⟩
  · rw [pays_mk h0 h1 (by omega) h4 h5, part_small h3 (by omega)]; simp
  · rw [pays_mk h0 h1 (by omega) h4 h5, part_small h3 (by omega)]
  · rw [part_small h3 h2] at h6
    injection h6 with h6 _
    rw [← h6]
    generalize l.getD market.toNat 0 * mark = x at *
    have hn : (x * rate).natAbs ≤ 10000000 * 100 := by rw [Int.natAbs_mul]; exact Nat.mul_le_mul (by omega) (by omega)
    rw [Int.mul_neg, Int.neg_neg]
    generalize x * rate = y at *
    omega

end Go.Proofs.YtockodmbhnlheaaDoor
