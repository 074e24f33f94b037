/-
  PLAIN LEAN, no program in sight: what is left of a settlement.
-/
import Derived.Test.YtockodmbhnlheaaDoorPure
namespace Go.Proofs.YtockodmbhnlheaaDoor

def balSum (l : List Ac) : Int := (l.map (·.bal)).sum
def posSum (market : Nat) (l : List Ac) : Int := (l.map fun a => a.pos.getD market 0).sum
theorem balSum_cons (a : Ac) (l : List Ac) : balSum (a :: l) = a.bal + balSum l := by simp [balSum]
theorem posSum_cons (m : Nat) (a : Ac) (l : List Ac) : posSum m (a :: l) = a.pos.getD m 0 + posSum m l := by simp [posSum]
theorem balSum_next {l : List Ac} {j : Nat} {a : Ac} (h : l[j]? = some a) : balSum (l.take (j + 1)) = balSum (l.take j) + a.bal := by
  rw [List.take_add_one, h]; simp [balSum]
theorem posSum_next {l : List Ac} {j m : Nat} {a : Ac} (h : l[j]? = some a) : posSum m (l.take (j + 1)) = posSum m (l.take j) + a.pos.getD m 0 := by
  rw [List.take_add_one, h]; simp [posSum]

structure Settled (market mark rate : Int) (a b : Ac) (p : Int) : Prop where
  pays : pays a market mark rate = (p, 0)
  eq : b = { a with bal := a.bal - p }
  money : isMoney b.bal = true

theorem add_two {x y z : Int} (h : addAll [x, y] = (z, 0)) : z = x + y ∧ isMoney z = true := by
  have h1 := addFrom_ok _ _ _ h
  exact ⟨by simpa using h1.1, h1.2.2 (by decide)⟩

theorem settle_ok (market mark rate : Int) : ∀ (rest done out : List Ac) (left lf : Int), settleAcc market mark rate done left rest = (out, lf, 0) →
    ∃ news, out = done ++ news ∧ news.length = rest.length ∧ (∀ (i : Nat) (a b : Ac), rest[i]? = some a → news[i]? = some b → ∃ p, Settled market mark rate a b p) ∧ lf = left + balSum rest - balSum news ∧
      posSum market.toNat rest * (mark * rate) ≤ 10000 * (lf - left) ∧ 10000 * (lf - left) ≤ posSum market.toNat rest * (mark * rate) + 9999 * (rest.length : Int)
  | [], done, out, left, lf, h => by
    injection h with h1 h2
    injection h2 with h2 _
    subst h1 h2
    exact ⟨[], by simp, rfl, by simp, by simp [balSum], by simp [posSum], by simp [posSum]⟩
  | a :: rest, done, out, left, lf, h => by
    unfold settleAcc at h
    split at h
    · rename_i h1; injection h with _ h; injection h with _ h; exact absurd h h1
    · rename_i h1
      split at h
      · rename_i h2; injection h with _ h; injection h with _ h; exact absurd h h2
      · rename_i h2
        obtain ⟨p, ep, hp⟩ : ∃ p ep, pays a market mark rate = (p, ep) := ⟨_, _, rfl⟩
        rw [hp] at h h1 h2
        simp only [Classical.not_not] at h1 h2
        subst h1
        obtain ⟨q, eq, hq⟩ : ∃ q eq, addAll [a.bal, -p] = (q, eq) := ⟨_, _, rfl⟩
        simp only at h h2
        rw [hq] at h h2
        simp only at h h2
        subst h2
        obtain ⟨hq1, hq2⟩ := add_two hq
        obtain ⟨news, h3, h4, h5, h6, h7, h8⟩ := settle_ok market mark rate rest _ out _ lf h
        refine ⟨{ a with bal := q } :: news, by rw [h3]; simp, by simp [h4], ?_, ?_, ?_⟩
        · intro i b c hb hc
          cases i with
          | zero =>
            simp at hb hc
            subst hb hc
            exact ⟨p, hp, by rw [hq1]; rfl, hq2⟩
          | succ i => exact h5 i b c (by simpa using hb) (by simpa using hc)
        · rw [balSum_cons, balSum_cons, h6, hq1]; simp; omega
        · obtain ⟨k1, k2, k3, k4, k5, k6, k7⟩ := pays_ok (show paysOf a.id a.bal a.pos market mark rate = (p, 0) from hp)
          rw [part_small k4 k3] at k7
          injection k7 with k7 _
          rw [posSum_cons, Int.add_mul, List.length_cons]
          have e1 : a.pos.getD market.toNat 0 * mark * rate = a.pos.getD market.toNat 0 * (mark * rate) := by rw [Int.mul_assoc]
          rw [e1] at k7
          generalize a.pos.getD market.toNat 0 * (mark * rate) = y at *
          generalize posSum market.toNat rest * (mark * rate) = s at *
          omega

/-- what is left isn't below 0, and less than 1 an account, where all positions together are none. -/
theorem settle_even {L out : List Ac} {market mark rate left : Int} (h : settleOf L market mark rate = (out, left, 0)) :
    out.length = L.length ∧ L.length ≤ 8 ∧ (∀ (i : Nat) (a b : Ac), L[i]? = some a → out[i]? = some b → ∃ p, Settled market mark rate a b p) ∧ balSum L = balSum out + left ∧
      (posSum market.toNat L ≠ 0 ∨ 0 ≤ left ∧ (left = 0 ∨ left < L.length)) := by
  unfold settleOf at h
  split at h
  · injection h with _ h; injection h with _ h; omega
  · rename_i h8
    obtain ⟨news, h3, h4, h5, h6, h7, h9⟩ := settle_ok market mark rate L [] out 0 left h
    rw [List.nil_append] at h3
    subst h3
    refine ⟨h4, by omega, h5, by omega, ?_⟩
    by_cases h0 : posSum market.toNat L = 0
    · right
      rw [h0] at h7 h9
      simp at h7 h9
      omega
    · exact .inl h0

end Go.Proofs.YtockodmbhnlheaaDoor
