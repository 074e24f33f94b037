/-
  PLAIN LEAN, no program in sight: what chapter 4's Trade and Equity answer where they answer without an error (for the law AccountEven).
-/
import Derived.Test.YtockodmbhnlheaaDoorTradePure
namespace Go.Proofs.YtockodmbhnlheaaDoor

theorem add3_ok {a b c s : Int} (h : addAll [a, b, c] = (s, 0)) : s = a + b + c ∧ isMoney a = true ∧ isMoney b = true ∧ isMoney c = true ∧ isMoney s = true := by
  obtain ⟨h1, h2, h3⟩ := addFrom_ok _ _ _ h
  refine ⟨by rw [h1]; simp; omega, h2 a (by simp), h2 b (by simp), h2 c (by simp), h3 (by decide)⟩
theorem add3_mk {a b c : Int} (h1 : isMoney a = true) (h2 : isMoney b = true) (h3 : isMoney c = true) : addAll [a, b, c] = if isMoney (a + b) then (if isMoney (a + b + c) then (a + b + c, 0) else (0, 7)) else (0, 7) := by
  unfold addAll
  simp only [addFrom, Int.zero_add]
  rw [if_pos h1, if_pos h1, if_pos h2, if_pos h3]

theorem trade_ok {a x : Ac} {m q p f : Int} (h : tradeOf a m q p f = (x, 0)) :
    accCheck a.id a.bal a.pos a.pos.length = 0 ∧ (0 ≤ m ∧ m < (a.pos.length : Int)) ∧ (-1000 ≤ q ∧ q ≤ 1000) ∧ (0 ≤ p ∧ p ≤ 10000) ∧ (-1000000000000 ≤ f ∧ f ≤ 1000000000000) ∧
      x = ⟨a.id, a.bal - q * p - f, a.pos.set m.toNat (a.pos.getD m.toNat 0 + q)⟩ ∧ isMoney (a.bal - q * p - f) = true ∧ (-1000 ≤ a.pos.getD m.toNat 0 + q ∧ a.pos.getD m.toNat 0 + q ≤ 1000) ∧ (-10000000 ≤ q * p ∧ q * p ≤ 10000000) := by
  unfold tradeOf at h
  split at h
  · rename_i h1; injection h with _ h2; exact absurd h2 h1
  rename_i h1
  split at h
  · injection h with _ h2; omega
  rename_i h2
  split at h
  · rename_i h3; injection h with _ h4; exact absurd h4 h3
  rename_i h3
  split at h
  · rename_i h4; injection h with _ h5; exact absurd h5 h4
  rename_i h4
  split at h
  · injection h with _ h5; omega
  rename_i h5
  rcases worth_cases q p with hw | ⟨hw, hq, hp, hb⟩
  · rw [hw] at h3; simp at h3
  rw [hw] at h h4
  simp only at h h4
  obtain ⟨s, e, hs⟩ : ∃ s e, addAll [a.bal, -(q * p), -clampFee f] = (s, e) := ⟨_, _, rfl⟩
  rw [hs] at h h4
  simp only at h h4
  have he : e = 0 := by omega
  subst he
  obtain ⟨e1, e2, e3, e4, e5⟩ := add3_ok hs
  rw [isMoney_iff] at e4
  have hc := clamp_cases f
  have hf : -clampFee f = -f := by omega
  injection h with h6 _
  refine ⟨by simpa using h1, by omega, hq, hp, by omega, ?_, ?_, by omega, hb⟩
  · rw [← h6, e1, hf]
    have : a.bal + -(q * p) + -f = a.bal - q * p - f := by omega
    rw [this]
  · have : a.bal - q * p - f = s := by omega
    rw [this]; exact e5

/-- who trades back has what they had, less the fee; or it is just too much. -/
theorem trade_back {a x : Ac} {m q p f : Int} (h : tradeOf a m q p f = (x, 0)) : tradeOf x m (-q) p 0 = (zeroAc, 7) ∨ tradeOf x m (-q) p 0 = (⟨a.id, a.bal - f, a.pos⟩, 0) ∧ isMoney (a.bal - f) = true := by
  obtain ⟨h1, h2, h3, h4, h5, rfl, h7, h8, h9⟩ := trade_ok h
  obtain ⟨g1, g2, g3, g4, g5⟩ := accCheck_ok h1
  have hk : m.toNat < a.pos.length := by omega
  have hc : accCheck a.id (a.bal - q * p - f) (a.pos.set m.toNat (a.pos.getD m.toNat 0 + q)) (a.pos.set m.toNat (a.pos.getD m.toNat 0 + q)).length = 0 := by
    refine accCheck_mk g1 (by simpa using g2) rfl (isMoney_iff.1 h7) ?_
    simp only [posOk, List.all_eq_true] at g5 ⊢
    intro z hz
    rcases List.mem_or_eq_of_mem_set hz with hz | rfl
    · exact g5 z hz
    · exact posOk1_iff.2 h8
  have hw : worthOf (-q) p = (-q * p, 0) := by unfold worthOf; rw [if_pos (worthOk_iff.2 (by omega))]
  have hq : -q * p = -(q * p) := Int.neg_mul q p
  rw [hq] at hw
  have hcl : -clampFee 0 = 0 := by decide
  unfold tradeOf
  simp only
  rw [if_neg (by rw [hc]; simp), if_neg (by simp; omega), if_neg (by rw [hw]; simp), hw, hcl]
  simp only
  rw [add3_mk h7 (by rw [isMoney_iff]; omega) (by decide)]
  have hz : (a.pos.set m.toNat (a.pos.getD m.toNat 0 + q)).getD m.toNat 0 = a.pos.getD m.toNat 0 + q := by simp [List.getD, hk]
  have hgz : a.pos.getD m.toNat 0 = a.pos[m.toNat] := by simp [List.getD, hk]
  have e1 : a.bal - q * p - f + - -(q * p) = a.bal - f := by omega
  have e2 : a.bal - q * p - f + - -(q * p) + 0 = a.bal - f := by omega
  rw [e2, e1]
  cases hm : isMoney (a.bal - f)
  · left; simp
  · right
    refine ⟨?_, rfl⟩
    simp only [if_true]
    rw [if_neg (by simp), hz]
    rw [if_neg ?_]
    · have e3 : a.pos.getD m.toNat 0 + q + -q = a.pos.getD m.toNat 0 := by omega
      rw [e3, List.set_set, hgz, List.set_getElem_self]
    · have h10 : posOk1 a.pos[m.toNat] = true := by
        simp only [posOk, List.all_eq_true] at g5
        exact g5 _ (List.getElem_mem _)
      rw [posOk1_iff] at h10
      omega

/-- what the positions are worth. -/
def dot : List Int → List Int → Int
  | n :: l, k :: marks => n * k + dot l marks
  | _, _ => 0
theorem worths_ok : ∀ {l marks : List Int}, (worths l marks).2 = 0 → (worths l marks).1.sum = dot l marks ∧ (l.length = marks.length → ∀ k ∈ marks, 0 ≤ k ∧ k ≤ 10000)
  | [], marks, _ => ⟨by simp [worths, dot], fun h => by have := List.eq_nil_of_length_eq_zero h.symm; subst this; simp⟩
  | n :: l, [], _ => ⟨by simp [worths, dot], fun h => by simp at h⟩
  | n :: l, k :: marks, h => by
    unfold worths at h ⊢
    rcases worth_cases n k with hw | ⟨hw, hq, hp, hb⟩
    · rw [hw] at h; simp at h
    rw [hw] at h ⊢
    simp only at h ⊢
    rw [if_neg (by simp)] at h ⊢
    split at h
    · rename_i h1; exact absurd h h1
    rename_i h1
    rw [if_neg h1]
    obtain ⟨i1, i2⟩ := worths_ok (l := l) (marks := marks) (by simpa using h1)
    refine ⟨by simp [dot, i1], fun hl => ?_⟩
    intro k' hk'
    rcases List.mem_cons.1 hk' with rfl | hk'
    · exact hp
    · exact i2 (by simpa using hl) k' hk'
theorem equity_ok {a : Ac} {marks : List Int} {n : Int} (h : equityOf a marks = (n, 0)) :
    accCheck a.id a.bal a.pos marks.length = 0 ∧ n = a.bal + dot a.pos marks ∧ isMoney n = true ∧ ∀ k ∈ marks, 0 ≤ k ∧ k ≤ 10000 := by
  unfold equityOf at h
  split at h
  · rename_i h1; injection h with _ h2; exact absurd h2 h1
  rename_i h1
  split at h
  · rename_i h2; injection h with _ h3; exact absurd h3 h2
  rename_i h2
  have h1 : accCheck a.id a.bal a.pos marks.length = 0 := by omega
  have h2 : (worths a.pos marks).2 = 0 := by omega
  obtain ⟨w1, w2⟩ := worths_ok h2
  obtain ⟨h3, _, h4⟩ := addFrom_ok _ _ _ h
  have hl := (accCheck_ok h1).2.2.1
  refine ⟨h1, ?_, h4 (by decide), w2 (by omega)⟩
  rw [h3, List.sum_cons, w1]; omega
theorem dot_set : ∀ (l marks : List Int) (k : Nat) (q : Int), k < l.length → l.length = marks.length → dot (l.set k (l.getD k 0 + q)) marks = dot l marks + q * marks.getD k 0
  | [], _, _, _, h, _ => by simp at h
  | n :: l, [], _, _, _, h => by simp at h
  | n :: l, c :: marks, 0, q, _, _ => by simp [dot, Int.add_mul]; omega
  | n :: l, c :: marks, k + 1, q, h, hl => by
    have := dot_set l marks k q (by simpa using h) (by simpa using hl)
    simp only [List.set_cons_succ, dot, List.getD_cons_succ]
    rw [this]; omega
/-- who trades at the mark has the same equity, less the fee. -/
theorem even_law {a x : Ac} {m q p f n n' : Int} {marks : List Int} (h : tradeOf a m q p f = (x, 0)) (h1 : equityOf a marks = (n, 0)) (h2 : equityOf x marks = (n', 0)) :
    (marks.length : Int) = a.pos.length ∧ (0 ≤ marks.getD m.toNat 0 ∧ marks.getD m.toNat 0 ≤ 10000) ∧ n' = n - f + q * (marks.getD m.toNat 0 - p) ∧ (-1000000000000 ≤ n ∧ n ≤ 1000000000000) ∧ (-10000000 ≤ q * (marks.getD m.toNat 0 - p) ∧ q * (marks.getD m.toNat 0 - p) ≤ 10000000) := by
  obtain ⟨_, g2, g3, g4, g5, rfl, g7, g8, g9⟩ := trade_ok h
  obtain ⟨k1, k2, k3, k4⟩ := equity_ok h1
  obtain ⟨_, j2, _, _⟩ := equity_ok h2
  have hl := (accCheck_ok k1).2.2.1
  have hk : m.toNat < marks.length := by omega
  have hg : marks.getD m.toNat 0 = marks[m.toNat] := by simp [List.getD, hk]
  have hb : 0 ≤ marks.getD m.toNat 0 ∧ marks.getD m.toNat 0 ≤ 10000 := by rw [hg]; exact k4 _ (List.getElem_mem _)
  have hd := dot_set a.pos marks m.toNat q (by omega) (by omega)
  have hq : q * (marks.getD m.toNat 0 - p) = q * marks.getD m.toNat 0 - q * p := Int.mul_sub ..
  have hn : (q * (marks.getD m.toNat 0 - p)).natAbs ≤ 1000 * 10000 := by rw [Int.natAbs_mul]; exact Nat.mul_le_mul (by omega) (by omega)
  simp only at j2
  rw [hd] at j2
  exact ⟨by omega, hb, by omega, isMoney_iff.1 k3, by omega⟩

/-- what one pays the other one gets. -/
theorem trade_anti {a b x z : Ac} {m q p f : Int} (h : tradeOf a m q p f = (x, 0)) (h' : tradeOf b m (-q) p 0 = (z, 0)) :
    z.bal + x.bal + f = a.bal + b.bal ∧ z.pos.getD m.toNat 0 + x.pos.getD m.toNat 0 = a.pos.getD m.toNat 0 + b.pos.getD m.toNat 0 ∧
      (z.pos.length = b.pos.length ∧ m < (b.pos.length : Int)) ∧ (-1000000000000 ≤ z.bal ∧ z.bal ≤ 1000000000000) ∧ (-1000000000000 ≤ b.bal ∧ b.bal ≤ 1000000000000) ∧
      (-1000 ≤ z.pos.getD m.toNat 0 ∧ z.pos.getD m.toNat 0 ≤ 1000) ∧ (-1000 ≤ b.pos.getD m.toNat 0 ∧ b.pos.getD m.toNat 0 ≤ 1000) := by
  obtain ⟨h1, h2, h3, h4, h5, rfl, h7, h8, h9⟩ := trade_ok h
  obtain ⟨k1, k2, k3, k4, k5, rfl, k7, k8, k9⟩ := trade_ok h'
  have hq : -q * p = -(q * p) := Int.neg_mul q p
  have hk : m.toNat < a.pos.length := by omega
  have hk' : m.toNat < b.pos.length := by omega
  have e1 : (a.pos.set m.toNat (a.pos.getD m.toNat 0 + q)).getD m.toNat 0 = a.pos.getD m.toNat 0 + q := by
    show ((a.pos.set m.toNat (a.pos.getD m.toNat 0 + q))[m.toNat]?).getD 0 = _
    rw [List.getElem?_set_self hk]; rfl
  have e2 : (b.pos.set m.toNat (b.pos.getD m.toNat 0 + -q)).getD m.toNat 0 = b.pos.getD m.toNat 0 + -q := by
    show ((b.pos.set m.toNat (b.pos.getD m.toNat 0 + -q))[m.toNat]?).getD 0 = _
    rw [List.getElem?_set_self hk']; rfl
  obtain ⟨_, _, _, g4, g5⟩ := accCheck_ok k1
  have g6 : -1000 ≤ b.pos.getD m.toNat 0 ∧ b.pos.getD m.toNat 0 ≤ 1000 := by
    have := posOk_get g5 (List.getElem?_eq_getElem hk')
    simpa [List.getD, hk'] using this
  rw [isMoney_iff] at k7
  simp only
  rw [e1, e2, List.length_set]
  exact ⟨by omega, by omega, ⟨rfl, k2.2⟩, k7, g4, by omega, g6⟩

theorem trade_more {a x : Ac} {m q p f : Int} (h : tradeOf a m q p f = (x, 0)) :
    x.pos.length = a.pos.length ∧ (-1000000000000 ≤ a.bal ∧ a.bal ≤ 1000000000000) ∧ (-1000000000000 ≤ x.bal ∧ x.bal ≤ 1000000000000) ∧ (-1000 ≤ a.pos.getD m.toNat 0 ∧ a.pos.getD m.toNat 0 ≤ 1000) ∧ (-1000 ≤ x.pos.getD m.toNat 0 ∧ x.pos.getD m.toNat 0 ≤ 1000) := by
  obtain ⟨h1, h2, h3, h4, h5, rfl, h7, h8, h9⟩ := trade_ok h
  obtain ⟨_, _, _, g4, g5⟩ := accCheck_ok h1
  have hk : m.toNat < a.pos.length := by omega
  have e1 : (a.pos.set m.toNat (a.pos.getD m.toNat 0 + q)).getD m.toNat 0 = a.pos.getD m.toNat 0 + q := by
    show ((a.pos.set m.toNat (a.pos.getD m.toNat 0 + q))[m.toNat]?).getD 0 = _
    rw [List.getElem?_set_self hk]; rfl
  have g6 : -1000 ≤ a.pos.getD m.toNat 0 ∧ a.pos.getD m.toNat 0 ≤ 1000 := by
    have := posOk_get g5 (List.getElem?_eq_getElem hk)
    simpa [List.getD, hk] using this
  rw [isMoney_iff] at h7
  simp only
  rw [e1, List.length_set]
  exact ⟨rfl, g4, h7, g6, h8⟩

end Go.Proofs.YtockodmbhnlheaaDoor
