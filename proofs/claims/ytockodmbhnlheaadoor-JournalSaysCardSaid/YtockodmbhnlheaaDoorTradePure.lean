/-
  PLAIN LEAN, no program in sight: chapter 4's Trade, Fee, Equity.
-/
import Derived.Test.YtockodmbhnlheaaDoorPure
namespace Go.Proofs.YtockodmbhnlheaaDoor

def zeroAc : Ac := ⟨0, 0, []⟩
def clampFee (fee : Int) : Int := max (min fee 1000000000001) (-1000000000001)
theorem clamp_cases (f : Int) : f < -1000000000001 ∧ -clampFee f = 1000000000001 ∨ (-1000000000001 ≤ f ∧ f ≤ 1000000000001) ∧ -clampFee f = -f ∨ 1000000000001 < f ∧ -clampFee f = -1000000000001 := by
  unfold clampFee; omega
def tradeOf (a : Ac) (m q p f : Int) : Ac × Int :=
  if accCheck a.id a.bal a.pos a.pos.length ≠ 0 then (zeroAc, accCheck a.id a.bal a.pos a.pos.length)
  else if m < 0 ∨ (a.pos.length : Int) ≤ m then (zeroAc, 5)
  else if (worthOf q p).2 ≠ 0 then (zeroAc, (worthOf q p).2)
  else if (addAll [a.bal, -(worthOf q p).1, -clampFee f]).2 ≠ 0 then (zeroAc, (addAll [a.bal, -(worthOf q p).1, -clampFee f]).2)
  else if a.pos.getD m.toNat 0 + q < -1000 ∨ 1000 < a.pos.getD m.toNat 0 + q then (zeroAc, 7)
  else ({ a with bal := (addAll [a.bal, -(worthOf q p).1, -clampFee f]).1, pos := a.pos.set m.toNat (a.pos.getD m.toNat 0 + q) }, 0)

def feeOf (q p : Int) : Int × Int :=
  if (worthOf q p).2 ≠ 0 then (0, (worthOf q p).2) else partOf (max (worthOf q p).1 (-(worthOf q p).1)) 5 10000 true

/-- the worths of positions at marks, one by one; the first error. -/
def worths : List Int → List Int → List Int × Int
  | n :: l, k :: marks => if (worthOf n k).2 ≠ 0 then ([], (worthOf n k).2) else if (worths l marks).2 ≠ 0 then ([], (worths l marks).2) else ((worthOf n k).1 :: (worths l marks).1, 0)
  | _, _ => ([], 0)
def equityOf (a : Ac) (marks : List Int) : Int × Int :=
  if accCheck a.id a.bal a.pos marks.length ≠ 0 then (0, accCheck a.id a.bal a.pos marks.length)
  else if (worths a.pos marks).2 ≠ 0 then (0, (worths a.pos marks).2) else addAll (a.bal :: (worths a.pos marks).1)

/-- where a trade comes as far as the sum. -/
theorem trade_sum {a : Ac} {m q p f s es g : Int} (h0 : accCheck a.id a.bal a.pos a.pos.length = 0) (h1 : 0 ≤ m ∧ m < (a.pos.length : Int)) (h2 : worthOf q p = (q * p, 0)) (hg : -clampFee f = g) (h3 : addAll [a.bal, -(q * p), g] = (s, es)) :
    tradeOf a m q p f = if es ≠ 0 then (zeroAc, es) else if a.pos.getD m.toNat 0 + q < -1000 ∨ 1000 < a.pos.getD m.toNat 0 + q then (zeroAc, 7)
      else ({ a with bal := s, pos := a.pos.set m.toNat (a.pos.getD m.toNat 0 + q) }, 0) := by
  unfold tradeOf
  rw [if_neg (by rw [h0]; simp), if_neg (by omega), h2]
  simp only
  rw [if_neg (by simp), hg, h3]

/-- what is left of Equity at the j-th market. -/
def eqRest (a : Ac) (marks done : List Int) (j : Nat) : Int × Int :=
  if (worths (a.pos.drop j) (marks.drop j)).2 ≠ 0 then (0, (worths (a.pos.drop j) (marks.drop j)).2) else addAll (a.bal :: (done ++ (worths (a.pos.drop j) (marks.drop j)).1))
theorem eqRest_start {a : Ac} {marks : List Int} (h : accCheck a.id a.bal a.pos marks.length = 0) : eqRest a marks [] 0 = equityOf a marks := by
  unfold equityOf; rw [if_neg (by rw [h]; simp)]; rfl
theorem worths_drop {l marks : List Int} {j : Nat} {z k : Int} (hz : l[j]? = some z) (hk : marks[j]? = some k) :
    worths (l.drop j) (marks.drop j) = if (worthOf z k).2 ≠ 0 then ([], (worthOf z k).2) else if (worths (l.drop (j + 1)) (marks.drop (j + 1))).2 ≠ 0 then ([], (worths (l.drop (j + 1)) (marks.drop (j + 1))).2) else ((worthOf z k).1 :: (worths (l.drop (j + 1)) (marks.drop (j + 1))).1, 0) := by
  obtain ⟨h1, h2⟩ := List.getElem?_eq_some_iff.1 hz
  obtain ⟨h3, h4⟩ := List.getElem?_eq_some_iff.1 hk
  rw [List.drop_eq_getElem_cons h1, List.drop_eq_getElem_cons h3, h2, h4]
  rfl
theorem eqRest_bad {a : Ac} {marks done : List Int} {j : Nat} {z k : Int} (hz : a.pos[j]? = some z) (hk : marks[j]? = some k) (h : worthOf z k = (0, 3)) : eqRest a marks done j = (0, 3) := by
  unfold eqRest; rw [worths_drop hz hk, h]; simp
theorem eqRest_step {a : Ac} {marks done : List Int} {j : Nat} {z k p : Int} (hz : a.pos[j]? = some z) (hk : marks[j]? = some k) (h : worthOf z k = (p, 0)) : eqRest a marks done j = eqRest a marks (done ++ [p]) (j + 1) := by
  unfold eqRest; rw [worths_drop hz hk, h]
  by_cases h1 : (worths (a.pos.drop (j + 1)) (marks.drop (j + 1))).2 = 0
  · simp [h1]
  · simp [h1]
theorem eqRest_end {a : Ac} {marks done : List Int} {j : Nat} (h : a.pos.length ≤ j) : eqRest a marks done j = addAll (a.bal :: done) := by
  unfold eqRest; rw [List.drop_eq_nil_of_le h]; simp [worths]

end Go.Proofs.YtockodmbhnlheaaDoor
