/-
  PLAIN: an order's words.
-/
import Derived.Test.YtockodmbhnlheaaDoorTextNum
namespace Go.Proofs.YtockodmbhnlheaaDoor

def orderQ (ws : List (List UInt8)) : Option Cm := if ws.length = 8 ∧ ws[7]? = some wReduce then orderW true (ws.take 7) else orderW false ws
theorem orderW_len {red : Bool} {ws : List (List UInt8)} (h : ws.length ≠ 7) : orderW red ws = none := by
  unfold orderW
  split
  · exact absurd rfl h
  · rfl
theorem orderW_nums (red : Bool) (w0 w1 w2 w3 w4 w5 w6 : List UInt8) : orderW red [w0, w1, w2, w3, w4, w5, w6] = match numsOf [w1, w2, w4, w5], sideOfW w3 with
    | some [a, m, q, p], some s => if howOf w6 = 0 then none else some ⟨3, a, m, 0, ⟨0, 0, s, p, q⟩, howOf w6, red⟩
    | _, _ => none := by
  unfold orderW
  simp only [numsOf]
  cases numOf w1 <;> cases numOf w2 <;> cases numOf w4 <;> cases numOf w5 <;> cases sideOfW w3 <;> rfl
theorem nums_four {a b c d : List UInt8} {N : List Int} (h : numsOf [a, b, c, d] = some N) : ∃ x y z t, N = [x, y, z, t] := by
  simp only [numsOf] at h
  revert h
  cases numOf a <;> cases numOf b <;> cases numOf c <;> cases numOf d <;> intro h <;> first | (injection h with h; exact ⟨_, _, _, _, h.symm⟩) | cases h
theorem list_seven {α : Type} {L : List α} (h : L.length = 7) : ∃ a b c d e f g, L = [a, b, c, d, e, f, g] := by
  match L, h with
  | [a, b, c, d, e, f, g], _ => exact ⟨a, b, c, d, e, f, g, rfl⟩
/-- the kind of an order, as the loop finds it. -/
def hvOf (w : List UInt8) (j : Nat) : Int := if howOf w ≠ 0 ∧ howOf w < j then howOf w else 0
theorem howOf_le (w : List UInt8) : 0 ≤ howOf w ∧ howOf w ≤ 4 := by
  by_cases h : howOf w = 0
  · omega
  · have := (howOf_ne h).1; omega
theorem hvOf_zero (w : List UInt8) : hvOf w 0 = 0 := by
  have := howOf_le w
  unfold hvOf; rw [if_neg (by omega)]
theorem hvOf_end (w : List UInt8) : hvOf w 5 = howOf w := by
  have := howOf_le w
  unfold hvOf; split <;> omega
theorem hvOf_yes {w : List UInt8} {j : Nat} (hj : 1 ≤ j ∧ j ≤ 4) (h : howW j = w) : hvOf w (j + 1) = j := by
  have : howOf w = j := by rw [← h]; exact howOf_howW (by omega)
  unfold hvOf; rw [this, if_pos (by omega)]
theorem hvOf_no {w : List UInt8} {j : Nat} (h : j = 0 ∨ howW j ≠ w) : hvOf w (j + 1) = hvOf w j := by
  have h4 := howOf_le w
  have hne : howOf w = 0 ∨ howOf w ≠ j := by
    by_cases h0 : howOf w = 0
    · exact .inl h0
    · right
      intro e
      rcases h with h | h
      · omega
      · exact h (by rw [← e]; exact (howOf_ne h0).2)
  unfold hvOf
  by_cases h1 : howOf w ≠ 0 ∧ howOf w < j
  · rw [if_pos h1, if_pos (by omega)]
  · rw [if_neg h1, if_neg (by omega)]
theorem howW_nil {j : Nat} (hj : 1 ≤ j ∧ j ≤ 4) : howW j ≠ [] := by
  obtain rfl | rfl | rfl | rfl : j = 1 ∨ j = 2 ∨ j = 3 ∨ j = 4 := by omega
  all_goals decide
end Go.Proofs.YtockodmbhnlheaaDoor
