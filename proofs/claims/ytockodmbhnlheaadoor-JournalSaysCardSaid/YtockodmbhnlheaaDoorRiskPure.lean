/-
  PLAIN LEAN, no program in sight: chapter 5: tiers, margins, soundness, the bankrupt price, marks.
-/
import Derived.Test.YtockodmbhnlheaaDoorEvenPure
import Derived.Test.YtockodmbhnlheaaDoorBookPure
namespace Go.Proofs.YtockodmbhnlheaaDoor

def tierOf (w : Int) : Int × Int := if w ≤ 100000 then (10, 5) else if w ≤ 1000000 then (20, 10) else (50, 25)
/-- margins, one by one, onto what was there. -/
def marginsFrom (x y : Int) : List Int → List Int → Int × Int × Int
  | n :: l, k :: marks => if (worthOf (max n (-n)) k).2 ≠ 0 then (0, 0, (worthOf (max n (-n)) k).2)
    else marginsFrom (x + (partOf (worthOf (max n (-n)) k).1 (tierOf (worthOf (max n (-n)) k).1).1 100 true).1) (y + (partOf (worthOf (max n (-n)) k).1 (tierOf (worthOf (max n (-n)) k).1).2 100 true).1) l marks
  | _, _ => (x, y, 0)
/-- chapter 5's Margins. -/
def marginsOf (a : Ac) (marks : List Int) : Int × Int × Int :=
  if accCheck a.id a.bal a.pos marks.length ≠ 0 then (0, 0, accCheck a.id a.bal a.pos marks.length) else marginsFrom 0 0 a.pos marks
/-- chapter 5's Sound. -/
def soundOf (a : Ac) (marks : List Int) : Bool × Bool × Int :=
  if (marginsOf a marks).2.2 ≠ 0 then (false, false, (marginsOf a marks).2.2) else if (equityOf a marks).2 ≠ 0 then (false, false, (equityOf a marks).2)
  else (decide ((marginsOf a marks).1 ≤ (equityOf a marks).1), decide ((marginsOf a marks).2.1 ≤ (equityOf a marks).1), 0)
/-- the price at which a position of q leaves nothing of what is beside it. -/
def bankP (rest q : Int) : Int := if rest + q * ((-rest).tdiv q) < 0 then (if 0 < q then (-rest).tdiv q + 1 else (-rest).tdiv q - 1) else (-rest).tdiv q
/-- chapter 5's Bankrupt. -/
def bankruptOf (a : Ac) (marks : List Int) (market : Int) : Int × Int :=
  if (equityOf a marks).2 ≠ 0 then (0, (equityOf a marks).2) else if market < 0 ∨ (marks.length : Int) ≤ market then (0, 5)
  else if a.pos.getD market.toNat 0 = 0 then (0, 12)
  else (max 1 (min (bankP ((equityOf a marks).1 - a.pos.getD market.toNat 0 * marks.getD market.toNat 0) (a.pos.getD market.toNat 0)) 10000), 0)

/-! ### marks -/
structure Mk where
  book : Bk
  index : Int
  last : Int
def zeroMk : Mk := ⟨zeroBk, 0, 0⟩
def marketErr (m : Mk) : Int := if bookErr m.book ≠ 0 then bookErr m.book else if m.index < 1 ∨ 10000 < m.index ∨ m.last < 0 ∨ 10000 < m.last then 3 else 0
def midPrice (m : Mk) : Int := match m.book.bids, m.book.asks with
  | x :: _, y :: _ => (x.price + y.price) / 2
  | _, _ => m.index
def lastPrice (m : Mk) : Int := if m.last = 0 then m.index else m.last
def midI (a b c : Int) : Int := max (min a b) (min (max a b) c)
def markP (m : Mk) : Int := midI (m.index - m.index / 20) (midI m.index (midPrice m) (lastPrice m)) (m.index + m.index / 20)
def markOf (m : Mk) : Int × Int := if marketErr m ≠ 0 then (0, marketErr m) else (markP m, 0)
def marksFrom : List Mk → List Int × Int
  | [] => ([], 0)
  | m :: l => if (markOf m).2 ≠ 0 then ([], (markOf m).2) else if (marksFrom l).2 ≠ 0 then ([], (marksFrom l).2) else ((markOf m).1 :: (marksFrom l).1, 0)
def marksOf (l : List Mk) : List Int × Int := if l.length < 1 ∨ 2 < l.length then ([], 2) else marksFrom l

theorem mark_near {m : Mk} {n : Int} (h : markOf m = (n, 0)) : (1 ≤ m.index ∧ m.index ≤ 10000) ∧ 1 ≤ n ∧ n ≤ m.index + m.index / 20 ∧ m.index - m.index / 20 ≤ n := by
  unfold markOf at h
  split at h
  · rename_i h1; injection h with _ h2; exact absurd h2 h1
  rename_i h1
  injection h with h2 _
  have h3 : 1 ≤ m.index ∧ m.index ≤ 10000 := by
    unfold marketErr at h1
    split at h1
    · rename_i h4; exact absurd (by omega) h4
    · split at h1
      · omega
      · omega
  unfold markP midI at h2
  omega

theorem tier_bd (w : Int) : (0 ≤ (tierOf w).1 ∧ (tierOf w).1 ≤ 50) ∧ (0 ≤ (tierOf w).2 ∧ (tierOf w).2 ≤ 25) ∧ (tierOf w).2 ≤ (tierOf w).1 := by
  unfold tierOf; split
  · simp only; omega
  · split <;> simp only <;> omega
theorem part100 {w p : Int} (h1 : 0 ≤ w) (h2 : w ≤ 10000000) (h3 : 0 ≤ p) (h4 : p ≤ 50) : partOf w p 100 true = ((w * p + 99) / 100, 0) ∧ (0 ≤ w * p ∧ w * p ≤ 500000000) := by
  have hn : (w * p).natAbs ≤ 10000000 * 50 := by rw [Int.natAbs_mul]; exact Nat.mul_le_mul (by omega) (by omega)
  have hp : 0 ≤ w * p := Int.mul_nonneg h1 h3
  unfold partOf
  have hq : partQ w p 100 true = (w * p + 99) / 100 := by
    simp only [partQ, if_true]
    generalize w * p = y at *
    omega
  rw [if_pos (partOk_iff.2 ⟨by omega, by omega, by omega, by omega, by omega⟩), hq, if_pos (isMoney_iff.2 (by omega))]
  exact ⟨rfl, hp, by omega⟩
/-- what a position wants, at a price. -/
def wants1 (n k : Int) : Int := (max n (-n) * k * (tierOf (max n (-n) * k)).1 + 99) / 100
def wants2 (n k : Int) : Int := (max n (-n) * k * (tierOf (max n (-n) * k)).2 + 99) / 100
theorem worth_abs {n k : Int} (h : (worthOf (max n (-n)) k).2 = 0) : worthOf (max n (-n)) k = (max n (-n) * k, 0) ∧ (-1000 ≤ n ∧ n ≤ 1000) ∧ (0 ≤ k ∧ k ≤ 10000) ∧ 0 ≤ max n (-n) * k ∧ max n (-n) * k ≤ 10000000 := by
  rcases worth_cases (max n (-n)) k with hw | ⟨hw, hq, hp, hb⟩
  · rw [hw] at h; simp at h
  · exact ⟨hw, by omega, hp, Int.mul_nonneg (by omega) hp.1, hb.2⟩
theorem margins_step {n k x y : Int} {l marks : List Int} : marginsFrom x y (n :: l) (k :: marks) = if (worthOf (max n (-n)) k).2 ≠ 0 then (0, 0, (worthOf (max n (-n)) k).2) else marginsFrom (x + wants1 n k) (y + wants2 n k) l marks := by
  unfold marginsFrom
  split
  · rfl
  · rename_i h
    obtain ⟨hw, _, _, h1, h2⟩ := worth_abs (show (worthOf (max n (-n)) k).2 = 0 by omega)
    rw [hw]
    simp only
    obtain ⟨t1, t2, _⟩ := tier_bd (max n (-n) * k)
    rw [(part100 h1 h2 t1.1 t1.2).1, (part100 h1 h2 t2.1 (by omega)).1]
    conv => lhs; unfold marginsFrom
    rfl

end Go.Proofs.YtockodmbhnlheaaDoor
