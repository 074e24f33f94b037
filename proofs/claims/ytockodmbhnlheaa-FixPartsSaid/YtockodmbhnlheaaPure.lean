/-
  PLAIN LEAN, no program in sight: what the functions of package fix compute, as functions on whole numbers; the bounds of what they answer.
-/
namespace Go.Proofs.Ytockodmbhnlheaa

/-- an amount? -/
def isMoney (n : Int) : Bool := decide (-1000000000000 ≤ n) && decide (n ≤ 1000000000000)
theorem isMoney_iff {n : Int} : isMoney n = true ↔ -1000000000000 ≤ n ∧ n ≤ 1000000000000 := by simp [isMoney]
theorem isMoney_not {n : Int} : isMoney n = false ↔ n < -1000000000000 ∨ 1000000000000 < n := by
  rw [← Bool.not_eq_true, isMoney_iff]; omega

/-- amounts, one by one, onto what was there: the sum and the error. -/
def addFrom (s : Int) : List Int → Int × Int
  | [] => (s, 0)
  | n :: l => if isMoney n then (if isMoney (s + n) then addFrom (s + n) l else (0, 7)) else (0, 3)
def addAll (l : List Int) : Int × Int := addFrom 0 l


/-- n times a, divided by b, rounded up or down; the error. -/
def partOk (n a b : Int) : Bool := isMoney n && decide (-10000 ≤ a) && decide (a ≤ 10000) && decide (1 ≤ b) && decide (b ≤ 10000)
def partQ (n a b : Int) (up : Bool) : Int := if up then -((-(n * a)) / b) else (n * a) / b
def partOf (n a b : Int) (up : Bool) : Int × Int :=
  if partOk n a b then (if isMoney (partQ n a b up) then (partQ n a b up, 0) else (0, 7)) else (0, 3)
theorem partOk_iff {n a b : Int} : partOk n a b = true ↔ (-1000000000000 ≤ n ∧ n ≤ 1000000000000) ∧ -10000 ≤ a ∧ a ≤ 10000 ∧ 1 ≤ b ∧ b ≤ 10000 := by
  simp [partOk, isMoney, and_assoc]
theorem mul_bd {n a : Int} (h1 : -1000000000000 ≤ n) (h2 : n ≤ 1000000000000) (h3 : -10000 ≤ a) (h4 : a ≤ 10000) : -10000000000000000 ≤ n * a ∧ n * a ≤ 10000000000000000 := by
  have hn : (n * a).natAbs ≤ 1000000000000 * 10000 := by rw [Int.natAbs_mul]; exact Nat.mul_le_mul (by omega) (by omega)
  omega
/-- the quotient of Go, in terms of the one that is rounded down. -/
theorem tdiv_of (p b : Int) : p.tdiv b = if 0 ≤ p then p / b else -((-p) / b) := by
  split
  · rename_i h; exact Int.tdiv_eq_ediv_of_nonneg h
  · rename_i h
    have := Int.neg_tdiv (-p) b
    rw [Int.neg_neg] at this
    rw [this, Int.tdiv_eq_ediv_of_nonneg (by omega)]
theorem tmod_of (p b : Int) : p.tmod b = if 0 ≤ p then p % b else -((-p) % b) := by
  split
  · rename_i h; exact Int.tmod_eq_emod_of_nonneg h
  · rename_i h
    have := Int.neg_tmod (-p) b
    rw [Int.neg_neg] at this
    rw [this, Int.tmod_eq_emod_of_nonneg (by omega)]
/-- rounded the other way: by one more just where something is left over. -/
theorem ediv_neg_up (p b : Int) (hb : 1 ≤ b) : -((-p) / b) = if p % b = 0 then p / b else p / b + 1 := by
  have h1 := Int.mul_ediv_add_emod p b
  have h2 := Int.mul_ediv_add_emod (-p) b
  have h3 := Int.emod_nonneg p (show b ≠ 0 by omega)
  have h4 := Int.emod_lt_of_pos p (show 0 < b by omega)
  have h5 := Int.emod_nonneg (-p) (show b ≠ 0 by omega)
  have h6 := Int.emod_lt_of_pos (-p) (show 0 < b by omega)
  have h7 : b * (p / b + (-p) / b) = -(p % b + (-p) % b) := by rw [Int.mul_add]; omega
  generalize p / b = x at *
  generalize (-p) / b = y at *
  split
  · rename_i h
    rw [h] at h7
    have : (-p) % b = 0 := Int.emod_eq_zero_of_dvd (Int.dvd_neg.2 (Int.dvd_of_emod_eq_zero h))
    rw [this] at h7
    rcases Int.mul_eq_zero.1 (show b * (x + y) = 0 by omega) with h | h <;> omega
  · rename_i h
    have h8 : x + y = -1 := by
      rcases Int.lt_trichotomy (x + y) (-1) with h' | h' | h'
      · have : b * (x + y) ≤ b * (-2) := Int.mul_le_mul_of_nonneg_left (by omega) (by omega)
        omega
      · exact h'
      · have : b * 0 ≤ b * (x + y) := Int.mul_le_mul_of_nonneg_left (by omega) (by omega)
        omega
    omega

theorem ediv_bd (p b : Int) (hp : 0 ≤ p) (hb : 1 ≤ b) : 0 ≤ p / b ∧ p / b ≤ p :=
  ⟨Int.ediv_nonneg hp (by omega), Int.ediv_le_self b hp⟩
theorem tdiv_bd (p b : Int) (hp : p < 0) (hb : 1 ≤ b) : p ≤ p.tdiv b ∧ p.tdiv b ≤ 0 := by
  rw [tdiv_of, if_neg (by omega)]
  have := ediv_bd (-p) b (by omega) hb
  omega
/-- what the quotient of Go comes to, case by case. -/
theorem partQ_pos_exact {n a b : Int} {up : Bool} (hb : 1 ≤ b) (hr : n * a % b = 0) : partQ n a b up = n * a / b := by
  unfold partQ
  have := ediv_neg_up (n * a) b hb
  rw [if_pos hr] at this
  cases up <;> simp [this]
theorem partQ_pos_up {n a b : Int} (hb : 1 ≤ b) (hr : ¬ n * a % b = 0) : partQ n a b true = n * a / b + 1 := by
  have := ediv_neg_up (n * a) b hb
  rw [if_neg hr] at this
  simpa [partQ] using this
theorem partQ_pos_down {n a b : Int} : partQ n a b false = n * a / b := by simp [partQ]
theorem tmod_zero {p b : Int} (hp : p < 0) : p.tmod b = 0 ↔ p % b = 0 := by
  rw [tmod_of, if_neg (by omega)]
  constructor
  · intro h
    have h : -p % b = 0 := by omega
    have := Int.emod_eq_zero_of_dvd (Int.dvd_neg.2 (Int.dvd_of_emod_eq_zero h))
    rwa [Int.neg_neg] at this
  · intro h
    have := Int.emod_eq_zero_of_dvd (Int.dvd_neg.2 (Int.dvd_of_emod_eq_zero h))
    omega
theorem partQ_neg_up {n a b : Int} (hp : n * a < 0) : partQ n a b true = (n * a).tdiv b := by
  rw [tdiv_of, if_neg (by omega)]; simp [partQ]
theorem partQ_neg_exact {n a b : Int} {up : Bool} (hp : n * a < 0) (hb : 1 ≤ b) (hr : (n * a).tmod b = 0) : partQ n a b up = (n * a).tdiv b := by
  rw [tmod_zero hp] at hr
  rw [partQ_pos_exact hb hr, tdiv_of, if_neg (by omega)]
  have := ediv_neg_up (n * a) b hb
  rw [if_pos hr] at this
  omega
theorem partQ_neg_down {n a b : Int} (hp : n * a < 0) (hb : 1 ≤ b) (hr : ¬ (n * a).tmod b = 0) : partQ n a b false = (n * a).tdiv b - 1 := by
  rw [tmod_zero hp] at hr
  have := ediv_neg_up (n * a) b hb
  rw [if_neg hr] at this
  rw [tdiv_of, if_neg (by omega)]
  simp only [partQ]
  simp; omega

theorem part_ok {n a b q : Int} {up : Bool} (h : partOf n a b up = (q, 0)) : partOk n a b = true ∧ q = partQ n a b up ∧ isMoney q = true := by
  unfold partOf at h
  split at h
  · rename_i h1
    split at h
    · rename_i h2
      injection h with h3 _
      exact ⟨h1, h3.symm, by rw [← h3]; exact h2⟩
    · injection h with _ h4; omega
  · injection h with _ h4; omega
theorem part_errs (n a b : Int) (up : Bool) : (partOf n a b up).2 = 0 ∨ (partOf n a b up).2 = 3 ∨ (partOf n a b up).2 = 7 := by
  unfold partOf; split
  · split
    · exact .inl rfl
    · exact .inr (.inr rfl)
  · exact .inr (.inl rfl)

/-- rounded up, rounded down, turned round. -/
theorem part_both {n a b u d : Int} (hu : partOf n a b true = (u, 0)) (hd : partOf n a b false = (d, 0)) :
    partOf (-n) a b false = (-u, 0) ∧ (-1000000000000 ≤ u ∧ u ≤ 1000000000000) ∧ (-1000000000000 ≤ d ∧ d ≤ 1000000000000) ∧ (1 ≤ b ∧ b ≤ 10000) ∧ (-1000000000000 ≤ n ∧ n ≤ 1000000000000) ∧
      (-10000000000000000 ≤ n * a ∧ n * a ≤ 10000000000000000) ∧ d * b ≤ n * a ∧ n * a ≤ u * b ∧ (u = d ∧ n * a % b = 0 ∨ u = d + 1 ∧ ¬ n * a % b = 0) := by
  obtain ⟨hp, hu1, hu2⟩ := part_ok hu
  obtain ⟨_, hd1, hd2⟩ := part_ok hd
  obtain ⟨⟨h1, h2⟩, h3, h4, h5, h6⟩ := partOk_iff.1 hp
  have hm := mul_bd h1 h2 h3 h4
  have hq := ediv_neg_up (n * a) b h5
  have e1 := Int.mul_ediv_add_emod (n * a) b
  have e3 := Int.emod_nonneg (n * a) (show b ≠ 0 by omega)
  have e4 := Int.emod_lt_of_pos (n * a) (show 0 < b by omega)
  have hd3 : d = n * a / b := by rw [hd1]; simp [partQ]
  have hu3 : u = -((-(n * a)) / b) := by rw [hu1]; simp [partQ]
  have hu4 := isMoney_iff.1 hu2
  have hneg : partQ (-n) a b false = -u := by rw [hu3]; simp [partQ, Int.neg_mul]
  refine ⟨?_, hu4, isMoney_iff.1 hd2, ⟨h5, h6⟩, ⟨h1, h2⟩, hm, ?_, ?_, ?_⟩
  · unfold partOf
    rw [if_pos (partOk_iff.2 ⟨by omega, h3, h4, h5, h6⟩), hneg, if_pos (isMoney_iff.2 (by omega))]
  · rw [← hd3, Int.mul_comm b d] at e1; omega
  · rw [← hu3, ← hd3] at hq
    rw [← hd3, Int.mul_comm b d] at e1
    split at hq
    · rename_i h0; rw [hq]; omega
    · rw [hq, Int.add_mul]; omega
  · rw [← hu3, ← hd3] at hq
    split at hq
    · rename_i h0; exact .inl ⟨hq, h0⟩
    · rename_i h0; exact .inr ⟨hq, h0⟩

end Go.Proofs.Ytockodmbhnlheaa
