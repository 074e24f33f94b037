/-
  THE WALKS of risk.Bankrupt; the closed fact 'weighed'.
-/
import Derived.Test.YtockodmbhnlheaaMark
import Derived.Test.YtockodmbhnlheaaRiskLaws
namespace Go.Proofs.Ytockodmbhnlheaa
open Go.RowKit

theorem tdiv_facts {r q t : Int} (ht : r.tdiv q = t) (hr : -2000000000000 ≤ r ∧ r ≤ 2000000000000) :
    (-2000000000000 ≤ t ∧ t ≤ 2000000000000) ∧ (-2000000000000 ≤ q * t ∧ q * t ≤ 2000000000000) ∧ bankP r q = if r - q * t < 0 then (if 0 < q then -t + 1 else -t - 1) else -t := by
  subst ht
  have e3 : (r.tdiv q).natAbs ≤ r.natAbs := by rw [Int.natAbs_tdiv]; exact Nat.div_le_self _ _
  have e4 : (q * r.tdiv q).natAbs ≤ r.natAbs := by
    rw [Int.natAbs_mul, Int.natAbs_tdiv]
    exact Nat.mul_div_le _ _
  refine ⟨by omega, by omega, ?_⟩
  unfold bankP
  rw [Int.neg_tdiv, Int.mul_neg, ← Int.sub_eq_add_neg]

set_option maxHeartbeats 2000000 in
theorem bankrupt_any (a : Ac) (A A' : Option Addr) (c n' c' : Nat) (marks : List Int) (market : Int) (B B' : Nat) (w : World) (h : Rd w B 1 A a.pos.length c (ints a.pos)) (hB : B ≤ w.heap.size) (h' : Rd w B' 1 A' n' c' (ints marks)) (hB' : B' ≤ w.heap.size) :
    Calls Try.prog 60 #[.agg #[.int .i64 a.id, .int .i64 a.bal, .slice A a.pos.length c], .slice A' n' c', .int .i64 market] w fun e w' =>
      e = .returned (.tuple #[.int .i64 (bankruptOf a marks market).1, .int .i64 (bankruptOf a marks market).2]) ∧ Below w.heap.size w w' := by
  obtain ⟨n, en, hn⟩ : ∃ n en, equityOf a marks = (n, en) := ⟨_, _, rfl⟩
  have HN := Lib.hid hn
  have HML := Lib.hid h'.ofInts
  have HS := Lib.hid (show bankruptOf a marks market = if en ≠ 0 then (0, en) else if market < 0 ∨ (n' : Int) ≤ market then (0, 5) else if a.pos.getD market.toNat 0 = 0 then (0, 12)
      else (max 1 (min (bankP (n - a.pos.getD market.toNat 0 * marks.getD market.toNat 0) (a.pos.getD market.toNat 0)) 10000), 0) by unfold bankruptOf; rw [hn, HML.out])
  clear hn
  go_enter Try.func60, Try.ntmps60
  go_wp2_with fail
  refine (equity_any a _ _ _ _ _ marks _ _ _ (h.alloc hB _) (by simp; omega) (h'.alloc hB' _) (by simp; omega)).mono ?_
  rw [HN.out]
  rintro e w1 ⟨rfl, hb1⟩
  have B1 := (Blk.new w 37 #[.int .i64 a.id, .int .i64 a.bal, .slice A a.pos.length c]).below hb1 (by simp)
  have hw1 : w.heap.size < w1.heap.size := by have := hb1.size; simp at this; omega
  have h9 : Below w.heap.size w w1 := ((Below.refl _ _).alloc (Nat.le_refl _) _).trans (hb1.mono (by simp))
  have ra := h.below (h9.mono hB)
  have rm := h'.below (h9.mono hB')
  clear hb1
  by_cases hen : en = 0
  · subst hen
    have HS2 := Lib.hid (HS.out.trans (if_neg (by simp)))
    by_cases hmk : market < 0 ∨ (n' : Int) ≤ market
    · have HE := Lib.hid (HS2.out.trans (if_pos hmk))
      rcases hmk with hmk | hmk
      all_goals
        go_wp2_with fail
        go_ret2
        exact ⟨pair_ii (by rw [HE.out]), h9⟩
    · have HS3 := Lib.hid (HS2.out.trans (if_neg hmk))
      obtain ⟨k, rfl⟩ : ∃ k : Nat, market = k := ⟨market.toNat, by omega⟩
      rw [Int.toNat_natCast] at HS3
      obtain ⟨k1, k2, k3, k4⟩ := equity_ok HN.out
      obtain ⟨g1, g2, g3, g4, g5⟩ := accCheck_ok k1
      have hkn : k < n' := by omega
      have hml := HML.out
      have hkp : k < a.pos.length := by omega
      obtain ⟨b, o, rfl, hb, q, hq, hc⟩ := ra.int hkp
      obtain ⟨b', o', rfl, hb', mk, hm, hc'⟩ := rm.int hkn
      have hq1 := posOk_get g5 hq
      have hm1 := k4 mk (List.mem_of_getElem? hm)
      have e1 : a.pos.getD k 0 = q := by simp [List.getD, hq]
      have e2 : marks.getD k 0 = mk := by simp [List.getD, hm]
      rw [e1, e2] at HS3
      have hn2 := isMoney_iff.1 k3
      have hkn2 : (k : Int) < (n' : Int) := by omega
      have hkp2 : (k : Int) < (a.pos.length : Int) := by omega
      obtain ⟨⟨b0, b1, b2⟩, _⟩ := B1.c3
      clear hmk hq hm e1 e2 k1 k2 k3 k4 g1 g2 g3 g4 g5 hml
      by_cases hq0 : q = 0
      · have HE := Lib.hid (HS3.out.trans (if_pos hq0))
        subst hq0
        go_wp2_with fail
        go_ret2
        exact ⟨pair_ii (by rw [HE.out]), h9⟩
      · have HS4 := Lib.hid (HS3.out.trans (if_neg hq0))
        obtain ⟨w1', w2'⟩ := worth_bd hq1.1 hq1.2 hm1.1 hm1.2
        obtain ⟨r, hr⟩ : ∃ r, r = n - q * mk := ⟨_, rfl⟩
        have hrb : -2000000000000 ≤ n - q * mk ∧ n - q * mk ≤ 2000000000000 := by omega
        have HR := Lib.hid hr
        obtain ⟨t, ht⟩ : ∃ t, (n - q * mk).tdiv q = t := ⟨_, rfl⟩
        obtain ⟨⟨t1, t2⟩, ⟨t3, t4⟩, ht5⟩ := tdiv_facts ht hrb
        rw [ht5] at HS4
        have hq2 : (q == 0) = false := by simpa using hq0
        obtain ⟨hq3, hq4⟩ := hq1
        obtain ⟨hr1, hr2⟩ := hrb
        obtain ⟨hn3, hn4⟩ := hn2
        have hqt : q * -t = -(q * t) := Int.mul_neg q t
        clear hr ht5
        by_cases hneg : n - q * mk - q * t < 0
        · have hneg2 : n - q * mk + -(q * t) < 0 := by omega
          by_cases hqp : 0 < q
          · have HE := Lib.hid (HS4.out.trans (by rw [if_pos hneg, if_pos hqp]))
            go_wp2_with fail
            all_goals (go_ret2; exact ⟨pair_ii (by rw [HE.out]; congr 1; omega), h9⟩)
          · have HE := Lib.hid (HS4.out.trans (by rw [if_pos hneg, if_neg hqp]))
            have hqn : q ≤ 0 := by omega
            go_wp2_with fail
            all_goals (go_ret2; exact ⟨pair_ii (by rw [HE.out]; congr 1; omega), h9⟩)
        · have HE := Lib.hid (HS4.out.trans (by rw [if_neg hneg]))
          have hneg2 : 0 ≤ n - q * mk + -(q * t) := by omega
          have hneg3 : 0 ≤ n - q * mk - q * t := by omega
          clear hneg
          go_wp2_with fail
          all_goals (go_ret2; exact ⟨pair_ii (by rw [HE.out]; congr 1; omega), h9⟩)
  · have HS2 := Lib.hid (HS.out.trans (if_pos hen))
    have hen1 : (en != 0) = true := by simpa using hen
    clear hen
    go_wp2_with fail
    go_ret2
    exact ⟨pair_ii (by rw [HS2.out]), h9⟩

end Go.Proofs.Ytockodmbhnlheaa
