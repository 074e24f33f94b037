/-
  PLAIN LEAN, no program in sight: the laws AccountFlat, RiskGrows, RiskHolds.
-/
import Derived.Test.YtockodmbhnlheaaDoorRiskPure
namespace Go.Proofs.YtockodmbhnlheaaDoor

/-! ### an account without positions -/
theorem worths_zeros : ∀ {marks : List Int} {k : Nat}, (∀ m ∈ marks, 0 ≤ m ∧ m ≤ 10000) → k = marks.length → marginsFrom 0 0 (List.replicate k 0) marks = (0, 0, 0)
  | [], k, _, hk => by subst hk; rfl
  | m :: marks, k, h, hk => by
    subst hk
    have hm := h m (by simp)
    rw [List.length_cons, List.replicate_succ, margins_step]
    have hw : worthOf (max 0 (-0)) m = (0, 0) := by unfold worthOf; rw [if_pos (worthOk_iff.2 (by omega))]; simp
    rw [hw, if_neg (by simp)]
    have e1 : wants1 0 m = 0 := by unfold wants1; simp
    have e2 : wants2 0 m = 0 := by unfold wants2; simp
    rw [e1, e2]
    exact worths_zeros (fun k hk => h k (by simp [hk])) rfl
theorem dot_zeros : ∀ (k : Nat) (marks : List Int), dot (List.replicate k 0) marks = 0
  | 0, _ => rfl
  | k + 1, [] => rfl
  | k + 1, m :: marks => by rw [List.replicate_succ, dot, dot_zeros k marks]; omega
theorem flat_law {id bal n : Int} {k : Nat} {marks : List Int} (h : equityOf ⟨id, bal, List.replicate k 0⟩ marks = (n, 0)) :
    n = bal ∧ marginsOf ⟨id, bal, List.replicate k 0⟩ marks = (0, 0, 0) ∧ soundOf ⟨id, bal, List.replicate k 0⟩ marks = (decide (0 ≤ bal), decide (0 ≤ bal), 0) := by
  obtain ⟨h1, h2, h3, h4⟩ := equity_ok h
  simp only at h1 h2
  rw [dot_zeros] at h2
  have hn : n = bal := by omega
  have hl := (accCheck_ok h1).2.2.1
  simp only [List.length_replicate] at hl
  have hm : marginsOf ⟨id, bal, List.replicate k 0⟩ marks = (0, 0, 0) := by
    unfold marginsOf
    rw [if_neg (by rw [h1]; simp)]
    exact worths_zeros h4 (by omega)
  refine ⟨hn, hm, ?_⟩
  unfold soundOf
  rw [hm, h, hn]
  simp

/-! ### a greater position -/
theorem tier_mono {w w' : Int} (h : w ≤ w') : (tierOf w).1 ≤ (tierOf w').1 ∧ (tierOf w).2 ≤ (tierOf w').2 := by
  unfold tierOf
  split
  · split
    · simp
    · split <;> simp
  · split
    · rename_i h1 h2
      rw [if_neg (by omega)]
      split <;> simp
    · rename_i h1 h2
      rw [if_neg (by omega), if_neg (by omega)]; simp
theorem wants_mono {n n' k : Int} (h : max n (-n) ≤ max n' (-n')) (hk : 0 ≤ k) : wants1 n k ≤ wants1 n' k ∧ wants2 n k ≤ wants2 n' k := by
  have h0 : 0 ≤ max n (-n) := by omega
  unfold wants1 wants2
  generalize max n (-n) = m at *
  generalize max n' (-n') = m' at *
  have h1 : m * k ≤ m' * k := Int.mul_le_mul_of_nonneg_right h hk
  have h2 : 0 ≤ m * k := Int.mul_nonneg h0 hk
  obtain ⟨t1, t2⟩ := tier_mono h1
  obtain ⟨⟨a1, _⟩, ⟨a2, _⟩, _⟩ := tier_bd (m * k)
  have h3 : m * k * (tierOf (m * k)).1 ≤ m' * k * (tierOf (m' * k)).1 := Int.mul_le_mul h1 t1 a1 (by omega)
  have h4 : m * k * (tierOf (m * k)).2 ≤ m' * k * (tierOf (m' * k)).2 := Int.mul_le_mul h1 t2 a2 (by omega)
  omega
/-- all margins, one by one. -/
theorem margins_mono : ∀ {l l' marks : List Int} {x y x' y' p q : Int}, l.length = l'.length → l.length = marks.length → (∀ j : Nat, max (l.getD j 0) (-(l.getD j 0)) ≤ max (l'.getD j 0) (-(l'.getD j 0)) ∧ -1000 ≤ l'.getD j 0 ∧ l'.getD j 0 ≤ 1000) →
    x ≤ x' → y ≤ y' → marginsFrom x y l marks = (p, q, 0) → ∃ p' q', marginsFrom x' y' l' marks = (p', q', 0) ∧ p ≤ p' ∧ q ≤ q'
  | [], [], _, x, y, x', y', p, q, _, _, _, hx, hy, h => by
    simp only [marginsFrom] at h ⊢
    injection h with h1 h; injection h with h2 _
    exact ⟨_, _, rfl, by omega, by omega⟩
  | [], _ :: _, _, _, _, _, _, _, _, h, _, _, _, _, _ => by simp at h
  | _ :: _, [], _, _, _, _, _, _, _, h, _, _, _, _, _ => by simp at h
  | n :: l, n' :: l', [], _, _, _, _, _, _, _, h, _, _, _, _ => by simp at h
  | n :: l, n' :: l', k :: marks, x, y, x', y', p, q, h1, h2, h3, hx, hy, h => by
    rw [margins_step] at h
    split at h
    · rename_i h4; injection h with _ h; injection h with _ h; exact absurd h h4
    rename_i h4
    obtain ⟨hw, hn, hk, _⟩ := worth_abs (show (worthOf (max n (-n)) k).2 = 0 by omega)
    have h30 := h3 0
    simp only [List.getD_cons_zero] at h30
    obtain ⟨w1, w2⟩ := wants_mono h30.1 hk.1
    have hw' : worthOf (max n' (-n')) k = (max n' (-n') * k, 0) := by unfold worthOf; rw [if_pos (worthOk_iff.2 (by omega))]
    rw [margins_step, hw', if_neg (by simp)]
    exact margins_mono (by simpa using h1) (by simpa using h2) (fun j => by have := h3 (j + 1); simpa using this) (by omega) (by omega) h
theorem margins_same : ∀ {l l' marks : List Int} {x y : Int}, l.length = l'.length → (∀ j : Nat, max (l.getD j 0) (-(l.getD j 0)) = max (l'.getD j 0) (-(l'.getD j 0))) → marginsFrom x y l' marks = marginsFrom x y l marks
  | [], [], _, _, _, _, _ => rfl
  | [], _ :: _, _, _, _, h, _ => by simp at h
  | _ :: _, [], _, _, _, h, _ => by simp at h
  | n :: l, n' :: l', [], _, _, _, _ => rfl
  | n :: l, n' :: l', k :: marks, x, y, h1, h2 => by
    have h0 := h2 0
    simp only [List.getD_cons_zero] at h0
    rw [margins_step, margins_step, ← h0]
    have e1 : wants1 n' k = wants1 n k := by unfold wants1; rw [h0]
    have e2 : wants2 n' k = wants2 n k := by unfold wants2; rw [h0]
    rw [e1, e2, margins_same (by simpa using h1) (fun j => by have := h2 (j + 1); simpa using this)]
theorem margins_ok {a : Ac} {marks : List Int} {x y : Int} (h : marginsOf a marks = (x, y, 0)) : accCheck a.id a.bal a.pos marks.length = 0 ∧ marginsFrom 0 0 a.pos marks = (x, y, 0) := by
  unfold marginsOf at h
  split at h
  · rename_i h1; injection h with _ h; injection h with _ h; exact absurd h h1
  · rename_i h1; exact ⟨by omega, h⟩
theorem posOk_getD {l : List Int} (h : posOk l = true) (j : Nat) : -1000 ≤ l.getD j 0 ∧ l.getD j 0 ≤ 1000 := by
  by_cases hj : j < l.length
  · have := posOk_get h (List.getElem?_eq_getElem hj)
    simpa [List.getD, hj] using this
  · simp [List.getD, hj]
/-- the other sign. -/
theorem grows1 {a : Ac} {marks : List Int} {x y : Int} (h : marginsOf a marks = (x, y, 0)) : marginsOf { a with pos := a.pos.map fun n => -n } marks = (x, y, 0) := by
  obtain ⟨h1, h2⟩ := margins_ok h
  obtain ⟨g1, g2, g3, g4, g5⟩ := accCheck_ok h1
  have hc : accCheck a.id a.bal (a.pos.map fun n => -n) marks.length = 0 := by
    refine accCheck_mk g1 g2 (by simpa using g3) g4 ?_
    simp only [posOk, List.all_eq_true] at g5 ⊢
    intro z hz
    obtain ⟨n, hn, rfl⟩ := List.mem_map.1 hz
    have := posOk1_iff.1 (g5 n hn)
    exact posOk1_iff.2 (by omega)
  unfold marginsOf
  simp only
  rw [if_neg (by rw [hc]; simp), margins_same (l := a.pos) (by simp) ?_, h2]
  intro j
  have : (a.pos.map fun n => -n).getD j 0 = -(a.pos.getD j 0) := by
    simp only [List.getD, List.getElem?_map]
    cases a.pos[j]? <;> simp
  rw [this]; omega
/-- a greater one. -/
theorem grows2 {a : Ac} {marks : List Int} {x y : Int} {k : Nat} {d : Int} (h : marginsOf a marks = (x, y, 0)) (hk : k < a.pos.length)
    (h1 : max (a.pos.getD k 0) (-(a.pos.getD k 0)) ≤ max (a.pos.getD k 0 + d) (-(a.pos.getD k 0 + d))) (h2 : -1000 ≤ a.pos.getD k 0 + d ∧ a.pos.getD k 0 + d ≤ 1000) :
    ∃ p q, marginsOf { a with pos := a.pos.set k (a.pos.getD k 0 + d) } marks = (p, q, 0) ∧ x ≤ p ∧ y ≤ q := by
  obtain ⟨h3, h4⟩ := margins_ok h
  obtain ⟨g1, g2, g3, g4, g5⟩ := accCheck_ok h3
  have hc : accCheck a.id a.bal (a.pos.set k (a.pos.getD k 0 + d)) marks.length = 0 := by
    refine accCheck_mk g1 g2 (by simpa using g3) g4 ?_
    simp only [posOk, List.all_eq_true] at g5 ⊢
    intro z hz
    rcases List.mem_or_eq_of_mem_set hz with hz | rfl
    · exact g5 z hz
    · exact posOk1_iff.2 h2
  have hp := posOk_getD g5
  obtain ⟨p, q, e1, e2⟩ := margins_mono (l' := a.pos.set k (a.pos.getD k 0 + d)) (x' := 0) (y' := 0) (by simp) (by omega) (fun j => by
    by_cases hj : j = k
    · subst hj
      have : (a.pos.set j (a.pos.getD j 0 + d)).getD j 0 = a.pos.getD j 0 + d := by
        show ((a.pos.set j (a.pos.getD j 0 + d))[j]?).getD 0 = _
        rw [List.getElem?_set_self hk]; rfl
      rw [this]; exact ⟨h1, h2⟩
    · have : (a.pos.set k (a.pos.getD k 0 + d)).getD j 0 = a.pos.getD j 0 := by
        show ((a.pos.set k (a.pos.getD k 0 + d))[j]?).getD 0 = _
        rw [List.getElem?_set_ne (fun e => hj e.symm)]; rfl
      rw [this]; exact ⟨Int.le_refl _, hp j⟩) (Int.le_refl _) (Int.le_refl _) h4
  refine ⟨p, q, ?_, e2⟩
  unfold marginsOf
  simp only
  rw [if_neg (by rw [hc]; simp), e1]

/-! ### whoever has what they want to begin -/
theorem margins_order : ∀ {l marks : List Int} {x y p q : Int}, 0 ≤ y → y ≤ x → marginsFrom x y l marks = (p, q, 0) → 0 ≤ q ∧ q ≤ p
  | [], _, x, y, p, q, h1, h2, h => by
    simp only [marginsFrom] at h
    injection h with e1 h; injection h with e2 _
    omega
  | n :: l, [], x, y, p, q, h1, h2, h => by
    simp only [marginsFrom] at h
    injection h with e1 h; injection h with e2 _
    omega
  | n :: l, k :: marks, x, y, p, q, h1, h2, h => by
    rw [margins_step] at h
    split at h
    · rename_i h4; injection h with _ h; injection h with _ h; exact absurd h h4
    rename_i h4
    obtain ⟨_, hn, hk, hw0, hw1⟩ := worth_abs (show (worthOf (max n (-n)) k).2 = 0 by omega)
    have hb : 0 ≤ wants2 n k ∧ wants2 n k ≤ wants1 n k := by
      unfold wants1 wants2
      generalize max n (-n) * k = w at *
      obtain ⟨_, ⟨a1, _⟩, a2⟩ := tier_bd w
      have h5 : w * (tierOf w).2 ≤ w * (tierOf w).1 := Int.mul_le_mul_of_nonneg_left a2 hw0
      have h6 : 0 ≤ w * (tierOf w).2 := Int.mul_nonneg hw0 a1
      omega
    exact margins_order (by omega) (by omega) h
theorem holds1 {a : Ac} {marks : List Int} {x y : Int} (h : marginsOf a marks = (x, y, 0)) : 0 ≤ y ∧ y ≤ x := margins_order (Int.le_refl _) (Int.le_refl _) (margins_ok h).2
theorem holds2 {a : Ac} {marks : List Int} {b c : Bool} (h : soundOf a marks = (b, c, 0)) : b = true → c = true := by
  unfold soundOf at h
  split at h
  · rename_i h1; injection h with _ h; injection h with _ h; exact absurd h h1
  rename_i h1
  split at h
  · rename_i h2; injection h with _ h; injection h with _ h; exact absurd h h2
  injection h with e1 h; injection h with e2 _
  obtain ⟨x, y, z, hm⟩ : ∃ x y z, marginsOf a marks = (x, y, z) := ⟨_, _, _, rfl⟩
  rw [hm] at h1 e1 e2
  simp only at h1 e1 e2
  have : z = 0 := by omega
  subst this
  have := holds1 hm
  rw [← e1, ← e2]
  simp only [decide_eq_true_eq]
  omega
theorem bankP_pos {rest q : Int} (hq : q ≠ 0) : 0 ≤ rest + q * bankP rest q ∧ (0 < q → rest + q * (bankP rest q - 1) < 0) ∧ (q < 0 → rest + q * (bankP rest q + 1) < 0) := by
  have e1 := Int.mul_tdiv_add_tmod (-rest) q
  have e2 : ((-rest).tmod q).natAbs < q.natAbs := by
    rw [Int.natAbs_tmod]
    exact Nat.mod_lt _ (by omega)
  have e3 : q * ((-rest).tdiv q + 1) = q * (-rest).tdiv q + q := by rw [Int.mul_add, Int.mul_one]
  have e4 : q * ((-rest).tdiv q - 1) = q * (-rest).tdiv q - q := by rw [Int.mul_sub, Int.mul_one]
  have e5 : 0 ≤ -rest → 0 ≤ (-rest).tmod q := fun h => Int.tmod_nonneg q h
  have e6 : -rest ≤ 0 → (-rest).tmod q ≤ 0 := fun h => by
    have := Int.tmod_nonneg q (show 0 ≤ rest by omega)
    have h2 := Int.neg_tmod rest q
    omega
  unfold bankP
  generalize (-rest).tdiv q = t at *
  generalize (-rest).tmod q = m at *
  generalize hqt : q * t = u at *
  have e7 : q * (t + 1 + 1) = u + q + q := by rw [Int.mul_add, e3]; omega
  have e8 : q * (t - 1 - 1) = u - q - q := by rw [Int.mul_sub, e4]; omega
  have e9 : t + 1 - 1 = t := by omega
  have e10 : t - 1 + 1 = t := by omega
  split
  · split
    · rw [e9, e3, e7, hqt]; omega
    · rw [e10, e4, e8, hqt]; omega
  · rw [hqt, e3, e4]; omega
/-- at the bankrupt price nothing is lacking, where it is one, and a step further something is. -/
theorem bankrupt_ok {a : Ac} {marks : List Int} {market p : Int} (h : bankruptOf a marks market = (p, 0)) :
    ∃ n, equityOf a marks = (n, 0) ∧ (0 ≤ market ∧ market < marks.length) ∧ a.pos.getD market.toNat 0 ≠ 0 ∧ (1 ≤ p ∧ p ≤ 10000) ∧
      (1 < p → p < 10000 → p = bankP (n - a.pos.getD market.toNat 0 * marks.getD market.toNat 0) (a.pos.getD market.toNat 0)) := by
  unfold bankruptOf at h
  split at h
  · rename_i h1; injection h with _ h; exact absurd h h1
  rename_i h1
  split at h
  · injection h with _ h; omega
  split at h
  · injection h with _ h; omega
  rename_i h2 h3
  injection h with h4 _
  refine ⟨(equityOf a marks).1, Prod.ext rfl (by simpa using h1), by omega, h3, by omega, fun h5 h6 => by omega⟩
theorem worths_set : ∀ {l marks : List Int} {k : Nat} {p : Int}, l.length = marks.length → (∀ n ∈ l, -1000 ≤ n ∧ n ≤ 1000) → (∀ n ∈ marks, 0 ≤ n ∧ n ≤ 10000) → 0 ≤ p ∧ p ≤ 10000 → (worths l (marks.set k p)).2 = 0
  | [], marks, k, p, h, _, _, _ => by simp [worths]
  | n :: l, [], k, p, h, _, _, _ => by simp at h
  | n :: l, m :: marks, 0, p, h, h1, h2, h3 => by
    have hn := h1 n (by simp)
    simp only [List.set_cons_zero, worths]
    have hw : worthOf n p = (n * p, 0) := by unfold worthOf; rw [if_pos (worthOk_iff.2 (by omega))]
    rw [hw, if_neg (by simp)]
    have := worths_set (l := l) (marks := marks) (k := marks.length) (p := p) (by simpa using h) (fun x hx => h1 x (by simp [hx])) (fun x hx => h2 x (by simp [hx])) h3
    rw [List.set_eq_of_length_le (Nat.le_refl _)] at this
    rw [if_neg (by rw [this]; simp)]
  | n :: l, m :: marks, k + 1, p, h, h1, h2, h3 => by
    have hn := h1 n (by simp)
    have hm := h2 m (by simp)
    simp only [List.set_cons_succ, worths]
    have hw : worthOf n m = (n * m, 0) := by unfold worthOf; rw [if_pos (worthOk_iff.2 (by omega))]
    rw [hw, if_neg (by simp)]
    have := worths_set (l := l) (marks := marks) (k := k) (p := p) (by simpa using h) (fun x hx => h1 x (by simp [hx])) (fun x hx => h2 x (by simp [hx])) h3
    rw [if_neg (by rw [this]; simp)]
theorem dot_setm : ∀ (l marks : List Int) (k : Nat) (p : Int), k < marks.length → l.length = marks.length → dot l (marks.set k p) = dot l marks - l.getD k 0 * marks.getD k 0 + l.getD k 0 * p
  | _, [], _, _, h, _ => by simp at h
  | [], _ :: _, _, _, _, h => by simp at h
  | n :: l, m :: marks, 0, p, _, _ => by simp [dot]; omega
  | n :: l, m :: marks, k + 1, p, h, hl => by
    have := dot_setm l marks k p (by simpa using h) (by simpa using hl)
    simp only [List.set_cons_succ, dot, List.getD_cons_succ]
    rw [this]; omega
theorem worths_money : ∀ {l marks : List Int}, (worths l marks).2 = 0 → ∀ x ∈ (worths l marks).1, isMoney x = true
  | [], _, _ => by simp [worths]
  | _ :: _, [], _ => by simp [worths]
  | n :: l, m :: marks, h => by
    unfold worths at h ⊢
    rcases worth_cases n m with hw | ⟨hw, hq, hp, hb⟩
    · rw [hw] at h; simp at h
    rw [hw] at h ⊢
    simp only at h ⊢
    rw [if_neg (by simp)] at h ⊢
    split at h
    · rename_i h1; exact absurd h h1
    rename_i h1
    rw [if_neg h1]
    intro x hx
    rcases List.mem_cons.1 hx with rfl | hx
    · exact isMoney_iff.2 (by omega)
    · exact worths_money (by omega) x hx
/-- worth at another price: what it comes to, or it is too much. -/
theorem equity_at {a : Ac} {marks : List Int} {n : Int} {k : Nat} {p : Int} (h : equityOf a marks = (n, 0)) (hk : k < marks.length) (hp : 0 ≤ p ∧ p ≤ 10000) :
    (equityOf a (marks.set k p) = (0, 7) ∨ ∃ n', equityOf a (marks.set k p) = (n', 0) ∧ n' = n - a.pos.getD k 0 * marks.getD k 0 + a.pos.getD k 0 * p) := by
  obtain ⟨h1, h2, h3, h4⟩ := equity_ok h
  obtain ⟨g1, g2, g3, g4, g5⟩ := accCheck_ok h1
  have hps : ∀ n ∈ a.pos, -1000 ≤ n ∧ n ≤ 1000 := by
    intro n hn
    simp only [posOk, List.all_eq_true] at g5
    exact posOk1_iff.1 (g5 n hn)
  have hw := worths_set (k := k) (p := p) (show a.pos.length = marks.length by omega) hps h4 hp
  have hsum := (worths_ok hw).1
  have he : equityOf a (marks.set k p) = addAll (a.bal :: (worths a.pos (marks.set k p)).1) := by
    unfold equityOf
    rw [List.length_set, if_neg (by rw [h1]; simp), if_neg (by rw [hw]; simp)]
  rw [he]
  have hne := addFrom_money (a.bal :: (worths a.pos (marks.set k p)).1) 0 (by
    intro x hx
    rcases List.mem_cons.1 hx with rfl | hx
    · exact isMoney_iff.2 g4
    · exact worths_money hw x hx)
  rcases addFrom_err (a.bal :: (worths a.pos (marks.set k p)).1) 0 with e | e | e
  · right
    obtain ⟨e1, _⟩ := addFrom_ok _ _ _ (pair_zero e)
    refine ⟨_, pair_zero e, ?_⟩
    unfold addAll
    rw [e1, List.sum_cons, hsum, dot_setm _ _ _ _ hk (by omega)]
    omega
  · exact .inl e
  · rw [e] at hne; exact absurd rfl hne

theorem bank_facts {a : Ac} {marks : List Int} {k : Nat} {p : Int} (h : bankruptOf a marks k = (p, 0)) :
    ∃ q mk, marks[k]? = some mk ∧ a.pos[k]? = some q ∧ q ≠ 0 ∧ (1 ≤ p ∧ p ≤ 10000) ∧ a.pos.length = marks.length ∧ marks.length ≤ 2 ∧
      (equityOf a (marks.set k p) = (0, 7) ∨ ∃ n', equityOf a (marks.set k p) = (n', 0) ∧ (1 < p → p < 10000 → 0 ≤ n' ∧ ∀ s, (q < 0 → s = p + 1) → (0 ≤ q → s = p - 1) →
        (equityOf a (marks.set k s) = (0, 7) ∨ ∃ n'', equityOf a (marks.set k s) = (n'', 0) ∧ n'' < 0))) := by
  obtain ⟨n, h1, ⟨_, h2⟩, h3, h4, h5⟩ := bankrupt_ok h
  rw [Int.toNat_natCast] at h3 h5
  obtain ⟨k1, k2, k3, k4⟩ := equity_ok h1
  obtain ⟨g1, g2, g3, g4, g5⟩ := accCheck_ok k1
  have hk : k < marks.length := by omega
  have hkp : k < a.pos.length := by omega
  have e1 : a.pos.getD k 0 = a.pos[k] := by simp [List.getD, hkp]
  have e2 : marks.getD k 0 = marks[k] := by simp [List.getD, hk]
  refine ⟨a.pos[k], marks[k], List.getElem?_eq_getElem hk, List.getElem?_eq_getElem hkp, by rw [← e1]; exact h3, h4, by omega, by omega, ?_⟩
  have hb := bankP_pos (rest := n - a.pos.getD k 0 * marks.getD k 0) h3
  rcases equity_at (k := k) (p := p) h1 hk (by omega) with e | ⟨n', e, en⟩
  · exact .inl e
  · refine .inr ⟨n', e, fun hp1 hp2 => ?_⟩
    rw [← h5 hp1 hp2] at hb
    obtain ⟨b1, b2, b3⟩ := hb
    refine ⟨by omega, fun s hs1 hs2 => ?_⟩
    have hsr : 0 ≤ s ∧ s ≤ 10000 := by
      by_cases hq : a.pos[k] < 0
      · have := hs1 hq; omega
      · have := hs2 (by omega); omega
    rcases equity_at (k := k) (p := s) h1 hk hsr with e' | ⟨n'', e', en'⟩
    · exact .inl e'
    · refine .inr ⟨n'', e', ?_⟩
      rw [en']
      by_cases hq : a.pos[k] < 0
      · have := hs1 hq
        subst this
        exact b3 (by rw [e1]; exact hq)
      · have := hs2 (by omega)
        subst this
        exact b2 (by rw [e1]; rw [e1] at h3; omega)

end Go.Proofs.YtockodmbhnlheaaDoor
