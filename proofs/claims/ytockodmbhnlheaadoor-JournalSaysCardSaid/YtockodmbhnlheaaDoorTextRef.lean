/-
  PLAIN LEAN: chapter 8: the document's answers: a command's check, its text, as the document goes.
-/
import Derived.Test.YtockodmbhnlheaaDoorTextLaws
namespace Go.Proofs.YtockodmbhnlheaaDoor

/-- the document's CheckCommand. -/
def cmdErr (c : Cm) : Int :=
  if c.kind < 1 ∨ 7 < c.kind then 4 else if c.kind = 3 ∧ (c.how < 1 ∨ 4 < c.how ∨ c.o.side ≠ 1 ∧ c.o.side ≠ -1) then 4
  else if (isCash c.kind = false ∧ c.kind ≠ 3 ∧ c.acc ≠ 0) ∨ (isMkt c.kind = false ∧ c.kind ≠ 3 ∧ c.market ≠ 0) ∨ (isCash c.kind = false ∧ isMkt c.kind = false ∧ c.n ≠ 0)
    ∨ (c.kind ≠ 3 ∧ (c.how ≠ 0 ∨ c.reduce = true ∨ sameOdB c.o zeroOd = false)) ∨ c.o.id ≠ 0 ∨ c.o.acc ≠ 0 then 3 else 0
where sameOdB (a b : Od) : Bool := decide (a.id = b.id ∧ a.acc = b.acc ∧ a.side = b.side ∧ a.price = b.price ∧ a.qty = b.qty)
theorem sameOdB_zero (o : Od) : cmdErr.sameOdB o zeroOd = true ↔ o.id = 0 ∧ o.acc = 0 ∧ o.side = 0 ∧ o.price = 0 ∧ o.qty = 0 := by
  unfold cmdErr.sameOdB zeroOd; rw [decide_eq_true_eq]
theorem eqCm_want (c : Cm) : eqCm c (wantOf c) = true ↔ ¬ ((isCash c.kind = false ∧ c.kind ≠ 3 ∧ c.acc ≠ 0) ∨ (isMkt c.kind = false ∧ c.kind ≠ 3 ∧ c.market ≠ 0) ∨ (isCash c.kind = false ∧ isMkt c.kind = false ∧ c.n ≠ 0)
    ∨ (c.kind ≠ 3 ∧ (c.how ≠ 0 ∨ c.reduce = true ∨ cmdErr.sameOdB c.o zeroOd = false)) ∨ c.o.id ≠ 0 ∨ c.o.acc ≠ 0) := by
  have hz := sameOdB_zero c.o
  have hz' : cmdErr.sameOdB c.o zeroOd = false ↔ ¬ (c.o.id = 0 ∧ c.o.acc = 0 ∧ c.o.side = 0 ∧ c.o.price = 0 ∧ c.o.qty = 0) := by rw [← hz]; simp
  rw [hz']
  unfold eqCm wantOf
  rw [decide_eq_true_eq]
  cases hr : c.reduce <;> by_cases hc : isCash c.kind = true
  all_goals
    first
    | (have hc' := hc
       unfold isCash at hc'
       rw [decide_eq_true_eq] at hc'
       have hm : isMkt c.kind = false := by unfold isMkt; exact decide_eq_false (by omega)
       have h3 : c.kind ≠ 3 := by omega
       simp only [hc, hm, if_true, zeroCm, zeroOd, hr]
       simp only [true_and, and_true, Bool.true_eq_false, false_and, false_or, ne_eq, not_true, not_false_eq_true, reduceCtorEq, or_false, or_true, true_or, and_false, h3, and_self, true_or, false_iff]
       try omega)
    | (rw [Bool.not_eq_true] at hc
       have hc' := hc
       unfold isCash at hc'
       rw [decide_eq_false_iff_not] at hc'
       by_cases hm : isMkt c.kind = true
       · have hm' := hm
         unfold isMkt at hm'
         rw [decide_eq_true_eq] at hm'
         have h3 : c.kind ≠ 3 := by omega
         simp only [hc, hm, if_true, zeroCm, zeroOd, hr, Bool.false_eq_true, if_false]
         simp only [true_and, and_true, Bool.true_eq_false, false_and, false_or, ne_eq, not_true, not_false_eq_true, reduceCtorEq, or_false, or_true, true_or, and_false, h3, and_self, true_or, false_iff]
         try omega
       · rw [Bool.not_eq_true] at hm
         by_cases h3 : c.kind = 3
         · simp only [hc, hm, h3, show isCash 3 = false by decide, show isMkt 3 = false by decide, if_true, zeroCm, zeroOd, hr, Bool.false_eq_true, if_false]
           simp only [true_and, and_true, Bool.true_eq_false, false_and, false_or, ne_eq, not_true, not_false_eq_true, reduceCtorEq, or_false, or_true, true_or, and_false, h3, and_self, true_or, false_iff]
           try omega
         · simp only [hc, hm, h3, if_true, zeroCm, zeroOd, hr, Bool.false_eq_true, if_false]
           simp only [true_and, and_true, Bool.true_eq_false, false_and, false_or, ne_eq, not_true, not_false_eq_true, reduceCtorEq, or_false, or_true, true_or, and_false, h3, and_self, true_or, false_iff]
           try omega)
theorem cmdErr_eq (c : Cm) : cmdErr c = textErr c := by
  unfold cmdErr textErr
  split
  · rfl
  · split
    · rfl
    · by_cases h : eqCm c (wantOf c) = true
      · rw [if_pos h, if_neg ((eqCm_want c).1 h)]
      · rw [if_neg h, if_pos (Classical.not_not.1 (fun hn => h ((eqCm_want c).2 hn)))]

/-- the document's CommandText. -/
def cmdText (c : Cm) : List UInt8 :=
  if c.kind = 3 then kindW 3 ++ ([32] ++ Lib.itoa c.acc ++ [32] ++ Lib.itoa c.market ++ ([32] ++ sideW c.o.side ++ [32]) ++ Lib.itoa c.o.qty ++ [32] ++ Lib.itoa c.o.price ++ [32] ++ howW c.how) ++ (if c.reduce then [32] ++ wReduce else [])
  else if isMkt c.kind then kindW c.kind ++ ([32] ++ Lib.itoa c.market ++ [32] ++ Lib.itoa c.n) else if c.kind = 7 then kindW 7 else kindW c.kind ++ ([32] ++ Lib.itoa c.acc ++ [32] ++ Lib.itoa c.n)
theorem cmdText_eq {c : Cm} (h : textErr c = 0) : cmdText c = Lib.join (printWords c) [32] := by
  obtain ⟨hk, _, _⟩ := textErr_ok h
  unfold cmdText printWords
  have hcases : c.kind = 1 ∨ c.kind = 2 ∨ c.kind = 3 ∨ c.kind = 4 ∨ c.kind = 5 ∨ c.kind = 6 ∨ c.kind = 7 := by omega
  rcases hcases with e | e | e | e | e | e | e <;> rw [e]
  · rw [if_neg (by decide), if_neg (by decide), if_neg (by decide), if_pos (by decide)]; simp [join_cons2, Lib.join_one]
  · rw [if_neg (by decide), if_neg (by decide), if_neg (by decide), if_pos (by decide)]; simp [join_cons2, Lib.join_one]
  · cases c.reduce <;> simp [show isCash 3 = false by decide, show isMkt 3 = false by decide, join_cons2, Lib.join_one]
  · rw [if_neg (by decide), if_neg (by decide), if_neg (by decide), if_pos (by decide)]; simp [join_cons2, Lib.join_one]
  · rw [if_neg (by decide), if_pos (by decide), if_neg (by decide), if_pos (by decide)]; simp [join_cons2, Lib.join_one]
  · rw [if_neg (by decide), if_pos (by decide), if_neg (by decide), if_pos (by decide)]; simp [join_cons2, Lib.join_one]
  · rw [if_neg (by decide), if_neg (by decide), if_pos rfl, if_neg (by decide), if_neg (by decide), if_neg (by decide)]; simp [Lib.join_one]
end Go.Proofs.YtockodmbhnlheaaDoor
