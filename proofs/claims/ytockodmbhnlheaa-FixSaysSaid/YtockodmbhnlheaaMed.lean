/-
  PLAIN LEAN, no program in sight: the middle one of three, sorted.
-/
import Derived.Test.YtockodmbhnlheaaRiskPure
namespace Go.Proofs.Ytockodmbhnlheaa

theorem perm_sum {l m : List Int} (h : l.Perm m) : l.sum = m.sum := by
  induction h with
  | nil => rfl
  | cons x _ ih => simp [ih]
  | swap x y l => simp only [List.sum_cons]; omega
  | trans _ _ h1 h2 => exact h1.trans h2
theorem med_sorted (a b c : Int) : ∃ x y z, [a, b, c].mergeSort (fun x y => decide (x ≤ y)) = [x, y, z] ∧ y = midI a b c := by
  have hp := List.mergeSort_perm [a, b, c] (fun x y => decide (x ≤ y))
  have hs := List.pairwise_mergeSort (le := fun x y : Int => decide (x ≤ y)) (fun x y z h1 h2 => by simp only [decide_eq_true_eq] at *; omega) (fun x y => by simp only [Bool.or_eq_true, decide_eq_true_eq]; omega) [a, b, c]
  generalize [a, b, c].mergeSort (fun x y => decide (x ≤ y)) = l at hp hs
  have hl := hp.length_eq
  match l, hl with
  | [x, y, z], _ =>
    refine ⟨x, y, z, rfl, ?_⟩
    simp only [List.pairwise_cons, List.mem_cons, List.not_mem_nil, or_false, forall_eq_or_imp, forall_eq, decide_eq_true_eq, List.Pairwise.nil, and_true, false_implies, implies_true] at hs
    obtain ⟨⟨h1, h2⟩, h3⟩ := hs
    have m1 : a = x ∨ a = y ∨ a = z := by have := hp.mem_iff (a := a); simpa using this
    have m2 : b = x ∨ b = y ∨ b = z := by have := hp.mem_iff (a := b); simpa using this
    have m3 : c = x ∨ c = y ∨ c = z := by have := hp.mem_iff (a := c); simpa using this
    have hsum : x + y + z = a + b + c := by have := perm_sum hp; simp only [List.sum_cons, List.sum_nil] at this; omega
    unfold midI
    omega
end Go.Proofs.Ytockodmbhnlheaa
