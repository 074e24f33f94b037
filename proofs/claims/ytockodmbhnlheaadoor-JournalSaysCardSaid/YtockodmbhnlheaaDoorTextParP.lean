/-
  PLAIN: the reading of words, as the walk of Parse wants it.
-/
import Derived.Test.YtockodmbhnlheaaDoorTextOrdP
namespace Go.Proofs.YtockodmbhnlheaaDoor

/-- the kind, as the loop finds it. -/
def kvOf (w : List UInt8) (j : Nat) : Int := if kindOf w ≠ 0 ∧ kindOf w < j then kindOf w else 0
theorem kindOf_le (w : List UInt8) : 0 ≤ kindOf w ∧ kindOf w ≤ 7 := by
  by_cases h : kindOf w = 0
  · omega
  · have := (kindOf_ne h).1; omega
theorem kvOf_zero (w : List UInt8) : kvOf w 0 = 0 := by
  have := kindOf_le w
  unfold kvOf; rw [if_neg (by omega)]
theorem kvOf_end (w : List UInt8) : kvOf w 8 = kindOf w := by
  have := kindOf_le w
  unfold kvOf; split <;> omega
theorem kvOf_yes {w : List UInt8} {j : Nat} (hj : 1 ≤ j ∧ j ≤ 7) (h : kindW j = w) : kvOf w (j + 1) = j := by
  have : kindOf w = j := by rw [← h]; exact kindOf_kindW (by omega)
  unfold kvOf; rw [this, if_pos (by omega)]
theorem kvOf_no {w : List UInt8} {j : Nat} (h : j = 0 ∨ kindW j ≠ w) : kvOf w (j + 1) = kvOf w j := by
  have h4 := kindOf_le w
  have hne : kindOf w = 0 ∨ kindOf w ≠ j := by
    by_cases h0 : kindOf w = 0
    · exact .inl h0
    · right
      intro e
      rcases h with h | h
      · omega
      · exact h (by rw [← e]; exact (kindOf_ne h0).2)
  unfold kvOf
  by_cases h1 : kindOf w ≠ 0 ∧ kindOf w < j
  · rw [if_pos h1, if_pos (by omega)]
  · rw [if_neg h1, if_neg (by omega)]
theorem kindW_nil {j : Nat} (hj : 1 ≤ j ∧ j ≤ 7) : kindW j ≠ [] := by
  obtain rfl | rfl | rfl | rfl | rfl | rfl | rfl : j = 1 ∨ j = 2 ∨ j = 3 ∨ j = 4 ∨ j = 5 ∨ j = 6 ∨ j = 7 := by omega
  all_goals decide
theorem read_zero {k : List UInt8} (r : List (List UInt8)) (h : kindOf k = 0) : readWords (k :: r) = none := by
  unfold readWords; simp only [h]; rfl
theorem read_three {k : List UInt8} (r : List (List UInt8)) (h : kindOf k = 3) : readWords (k :: r) = orderQ (k :: r) := by
  unfold readWords orderQ; simp only [h]; rfl
theorem read_seven {k : List UInt8} (r : List (List UInt8)) (h : kindOf k = 7) : readWords (k :: r) = if r = [] then some { zeroCm with kind := 7 } else none := by
  unfold readWords; simp only [h]; rfl
def twoN (k : Int) : Option (List Int) → Option Cm
  | some [a, n] => some (if isMkt k then { zeroCm with kind := k, market := a, n := n } else { zeroCm with kind := k, acc := a, n := n })
  | _ => none
theorem twoN_len (k : Int) {M : List Int} (h : M.length ≠ 2) : twoN k (some M) = none := by
  unfold twoN
  split
  · rename_i h1; injection h1 with h1; subst h1; exact absurd rfl h
  · rfl
theorem list_two {α : Type} {L : List α} (h : L.length = 2) : ∃ a b, L = [a, b] := by
  match L, h with
  | [a, b], _ => exact ⟨a, b, rfl⟩
theorem nums_len : ∀ {L : List (List UInt8)} {N : List Int}, numsOf L = some N → N.length = L.length
  | [], N, h => by simp only [numsOf] at h; injection h with h; subst h; rfl
  | l :: L, N, h => by
    simp only [numsOf] at h
    cases h1 : numOf l with
    | none => rw [h1] at h; cases h
    | some a =>
      cases h2 : numsOf L with
      | none => rw [h1, h2] at h; cases h
      | some M => rw [h1, h2] at h; injection h with h; subst h; simp [nums_len h2]
theorem read_two {k : List UInt8} (r : List (List UInt8)) (h0 : kindOf k ≠ 0) (h3 : kindOf k ≠ 3) (h7 : kindOf k ≠ 7) : readWords (k :: r) = twoN (kindOf k) (numsOf r) := by
  unfold readWords
  simp only [if_neg h0, if_neg h3, if_neg h7]
  match r with
  | [] => rfl
  | [a] => unfold twoW; simp only [numsOf]; cases numOf a <;> rfl
  | [a, b] => unfold twoW; simp only [numsOf]; cases numOf a <;> cases numOf b <;> rfl
  | a :: b :: c :: r' =>
    unfold twoW
    cases h : numsOf (a :: b :: c :: r') with
    | none => rfl
    | some N =>
      have := nums_len h
      match N, this with
      | x :: y :: z :: N', _ => rfl
theorem spl_small (c : UInt8) : ∀ l, (spl c l).length ≤ l.length + 1 ∧ ∀ x ∈ spl c l, x.length ≤ l.length
  | [] => by simp [spl]
  | a :: l => by
    have ih := spl_small c l
    have hne := spl_ne c l
    simp only [spl]
    cases hs : spl c l with
    | nil => exact absurd hs hne
    | cons y r =>
      rw [hs] at ih
      obtain ⟨i1, i2⟩ := ih
      have iy := i2 y (by simp)
      split
      · refine ⟨by simp at i1 ⊢; omega, fun x hx => ?_⟩
        rcases List.mem_cons.1 hx with rfl | hx
        · simp
        · have := i2 x hx; simp; omega
      · refine ⟨by simp at i1 ⊢; omega, fun x hx => ?_⟩
        rcases List.mem_cons.1 hx with rfl | hx
        · simp; omega
        · have := i2 x (by simp [hx]); simp; omega
end Go.Proofs.YtockodmbhnlheaaDoor
