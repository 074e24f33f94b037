/-
  THE WALKS over the document's answers to chapter 1: amounts, sums, parts, worths.
-/
import Derived.Test.YtockodmbhnlheaaFix
namespace Go.Proofs.Ytockodmbhnlheaa
open Go.RowKit

set_option maxHeartbeats 400000 in
theorem rmoney_any (n : Int) (w : World) :
    Calls Try.prog 79 #[.int .i64 n] w fun e w' => e = .returned (.bool (isMoney n)) ∧ w = w' := by
  by_cases h1 : -1000000000000 ≤ n
  · go_enter Try.func79, Try.ntmps79
    go_wp2
    go_ret
    exact ⟨by simp [isMoney, h1], rfl⟩
  · go_enter Try.func79, Try.ntmps79
    go_wp2
    go_ret
    exact ⟨by simp [isMoney]; omega, rfl⟩

set_option maxHeartbeats 1000000 in
theorem radd_any (A : Option Addr) (n c : Nat) (l : List Int) (B : Nat) (w : World) (h : Rd w B 1 A n c (ints l)) :
    Calls Try.prog 75 #[.slice A n c] w fun e w' => e = .returned (.tuple #[.int .i64 (addAll l).1, .int .i64 (addAll l).2]) ∧ w = w' := by
  have hcap := h.cap
  have hle := h.le
  have HL := Lib.hid h.ofInts
  unfold maxLen at hcap
  go_enter Try.func75, Try.ntmps75
  go_wp2_with fail
  go_loop [4, 9] (fun s i => ∃ (j : Nat) (t : Int), j ≤ n ∧ s = .int .i64 t ∧ i = .int .i64 j ∧ (-1000000000000 ≤ t ∧ t ≤ 1000000000000) ∧ Hid (addFrom t (l.drop j) = addAll l)) (fun _ i => n - (intOf i).toNat)
  case atStart => exact ⟨0, 0, Nat.zero_le _, rfl, rfl, by omega, rfl⟩
  case round =>
    obtain ⟨j, t, hj, rfl, rfl, ht, HA⟩ := hrel
    obtain ⟨ht1, ht2⟩ := ht
    by_cases hlt : j < n
    · obtain ⟨b, o, rfl, hb, z, hz, hc⟩ := h.int hlt
      have HS := Lib.hid (addFrom_step (s := t) hz)
      clear hz
      cases hm : isMoney z
      · have HE := Lib.hid (show addAll l = (0, 3) by rw [← HA.out, HS.out, hm]; rfl)
        clear HS HA
        go_wp2_with (go_at_call 79; refine (rmoney_any _ _).mono ?_; rintro e w' ⟨rfl, rfl⟩)
        go_ret2
        exact ⟨pair_ii (by rw [HE.out]), rfl⟩
      · obtain ⟨hz1, hz2⟩ := isMoney_iff.1 hm
        cases hm' : isMoney (t + z)
        · have HE := Lib.hid (show addAll l = (0, 7) by rw [← HA.out, HS.out, hm, hm']; rfl)
          clear HS HA
          go_wp2_with (go_at_call 79; refine (rmoney_any _ _).mono ?_; rintro e w' ⟨rfl, rfl⟩)
          go_ret2
          exact ⟨pair_ii (by rw [HE.out]), rfl⟩
        · have HE := Lib.hid (show addFrom (t + z) (l.drop (j + 1)) = addAll l by rw [← HA.out, HS.out, hm, hm']; rfl)
          have HT := Lib.hid (isMoney_iff.1 hm')
          clear HS HA
          go_wp2_with (go_at_call 79; refine (rmoney_any _ _).mono ?_; rintro e w' ⟨rfl, rfl⟩)
          go_round
          case rel => exact ⟨j + 1, t + z, by omega, rfl, by go_num, HT.out, HE⟩
          case measure => simp [intOf]; omega
    · have hjn : j = n := by omega
      have HE := Lib.hid (show addAll l = (t, 0) by rw [← HA.out, hjn, List.drop_eq_nil_of_le (by have := HL.out; omega)]; rfl)
      clear HA hjn
      go_wp2_with (go_at_call 79; refine (rmoney_any _ _).mono ?_; rintro e w' ⟨rfl, rfl⟩)
      go_ret2
      exact ⟨pair_ii (by rw [HE.out]), rfl⟩

theorem floor_facts (p b : Int) (hb : 1 ≤ b) :
    (0 ≤ p → p / b * b ≤ p ∧ 0 ≤ p / b * b ∧ 0 ≤ p / b ∧ p / b ≤ p) ∧
    (p < 0 → (p ≤ p.tdiv b ∧ p.tdiv b ≤ 0) ∧ p ≤ p.tdiv b * b ∧ p.tdiv b * b ≤ 0 ∧ (p.tdiv b * b ≤ p → p.tdiv b = p / b) ∧ (p < p.tdiv b * b → p.tdiv b - 1 = p / b)) := by
  have e1 := Int.mul_ediv_add_emod p b
  have e3 := Int.emod_nonneg p (show b ≠ 0 by omega)
  have e4 := Int.emod_lt_of_pos p (show 0 < b by omega)
  rw [Int.mul_comm] at e1
  constructor
  · intro hp
    obtain ⟨d1, d2⟩ := ediv_bd p b hp hb
    exact ⟨by omega, Int.mul_nonneg d1 (by omega), d1, d2⟩
  · intro hp
    have hd := tdiv_bd p b hp hb
    have hn := ediv_neg_up p b hb
    have ht : p.tdiv b = -((-p) / b) := by rw [tdiv_of, if_neg (by omega)]
    rw [← ht] at hn
    refine ⟨hd, ?_⟩
    split at hn
    · rename_i h0
      rw [h0] at e1
      rw [hn]
      exact ⟨by omega, by omega, fun _ => rfl, fun h => by omega⟩
    · rename_i h0
      have e5 : p.tdiv b * b = p / b * b + b := by rw [hn, Int.add_mul, Int.one_mul]
      refine ⟨by omega, ?_, fun h => by omega, fun _ => by omega⟩
      exact Int.mul_nonpos_of_nonpos_of_nonneg hd.2 (by omega)

theorem floor_bd (p b : Int) (hb : 1 ≤ b) (h1 : -10000000000000000 ≤ p) (h2 : p ≤ 10000000000000000) : -10000000000000001 ≤ p / b ∧ p / b ≤ 10000000000000000 := by
  obtain ⟨f1, f2⟩ := floor_facts p b hb
  by_cases h0 : 0 ≤ p
  · obtain ⟨_, _, d3, d4⟩ := f1 h0
    omega
  · obtain ⟨⟨d1, d2⟩, d3, d4, d5, d6⟩ := f2 (by omega)
    by_cases hc : p < p.tdiv b * b
    · have := d6 hc; omega
    · have := d5 (by omega); omega

set_option maxHeartbeats 400000 in
theorem floor_any (p b : Int) (hp1 : -10000000000000000 ≤ p) (hp2 : p ≤ 10000000000000000) (hb : 1 ≤ b) (w : World) :
    Calls Try.prog 130 #[.int .i64 p, .int .i64 b] w fun e w' => e = .returned (.int .i64 (p / b)) ∧ w = w' := by
  obtain ⟨f1, f2⟩ := floor_facts p b hb
  by_cases h0 : 0 ≤ p
  · obtain ⟨d1, d2, d3, d4⟩ := f1 h0
    clear f1 f2
    go_enter Try.func130, Try.ntmps130
    go_wp2_with fail
    go_ret
    exact ⟨rfl, rfl⟩
  · obtain ⟨⟨d1, d2⟩, d3, d4, d5, d6⟩ := f2 (by omega)
    have hp : p < 0 := by omega
    by_cases hc : p < p.tdiv b * b
    · have HE := Lib.hid (d6 hc)
      clear f1 f2 d5 d6 h0
      go_enter Try.func130, Try.ntmps130
      go_wp2_with fail
      go_ret
      exact ⟨ret_ii HE.out, rfl⟩
    · have HE := Lib.hid (d5 (by omega))
      clear f1 f2 d5 d6 h0
      go_enter Try.func130, Try.ntmps130
      go_wp2_with fail
      go_ret
      exact ⟨ret_ii HE.out, rfl⟩

set_option maxHeartbeats 400000 in
theorem rworth_any (q p : Int) (w : World) :
    Calls Try.prog 77 #[.int .i64 q, .int .i64 p] w fun e w' => e = .returned (.tuple #[.int .i64 (worthOf q p).1, .int .i64 (worthOf q p).2]) ∧ w = w' := by
  cases h : worthOk q p
  · have HE := Lib.hid (show worthOf q p = (0, 3) by unfold worthOf; rw [h]; rfl)
    have h0 : q < -1000 ∨ -1000 ≤ q ∧ 1000 < q ∨ -1000 ≤ q ∧ q ≤ 1000 ∧ p < 0 ∨ -1000 ≤ q ∧ q ≤ 1000 ∧ 0 ≤ p ∧ 10000 < p := by
      rw [← Bool.not_eq_true, worthOk_iff] at h; omega
    clear h
    rcases h0 with h1 | ⟨h1, h2⟩ | ⟨h1, h2, h3⟩ | ⟨h1, h2, h3, h4⟩
    all_goals
      go_enter Try.func77, Try.ntmps77
      go_wp2_with fail
      go_ret2
      exact ⟨pair_ii (by rw [HE.out]), rfl⟩
  · have HE := Lib.hid (show worthOf q p = (q * p, 0) by unfold worthOf; rw [h]; rfl)
    obtain ⟨h1, h2, h3, h4⟩ := worthOk_iff.1 h
    obtain ⟨b1, b2⟩ := worth_bd h1 h2 h3 h4
    clear h
    go_enter Try.func77, Try.ntmps77
    go_wp2_with fail
    go_ret2
    exact ⟨pair_ii (by rw [HE.out]), rfl⟩

set_option maxHeartbeats 400000 in
theorem rpart_any (n a b : Int) (up : Bool) (w : World) :
    Calls Try.prog 76 #[.int .i64 n, .int .i64 a, .int .i64 b, .bool up] w fun e w' => e = .returned (.tuple #[.int .i64 (partOf n a b up).1, .int .i64 (partOf n a b up).2]) ∧ w = w' := by
  cases h : partOk n a b
  · have HE := Lib.hid (show partOf n a b up = (0, 3) by simp [partOf, h])
    have h0 : isMoney n = false ∨ isMoney n = true ∧ a < -10000 ∨ isMoney n = true ∧ -10000 ≤ a ∧ 10000 < a ∨ isMoney n = true ∧ -10000 ≤ a ∧ a ≤ 10000 ∧ b < 1 ∨ isMoney n = true ∧ -10000 ≤ a ∧ a ≤ 10000 ∧ 1 ≤ b ∧ 10000 < b := by
      rw [← Bool.not_eq_true, partOk_iff] at h
      rw [isMoney_iff, isMoney_not]; omega
    clear h
    rcases h0 with h1 | ⟨h1, h2⟩ | ⟨h1, h2, h3⟩ | ⟨h1, h2, h3, h4⟩ | ⟨h1, h2, h3, h4, h5⟩
    all_goals
      go_enter Try.func76, Try.ntmps76
      go_wp2_with (go_at_call 79; refine (rmoney_any _ _).mono ?_; rintro e w' ⟨rfl, rfl⟩)
      go_ret2
      exact ⟨pair_ii (by rw [HE.out]), rfl⟩
  · obtain ⟨⟨h1, h2⟩, h3, h4, h5, h6⟩ := partOk_iff.1 h
    have hM := isMoney_iff.2 ⟨h1, h2⟩
    obtain ⟨hb1, hb2⟩ := mul_bd h1 h2 h3 h4
    have hn : -n * a = -(n * a) := Int.neg_mul n a
    obtain ⟨hb3, hb4⟩ : -10000000000000000 ≤ -n * a ∧ -n * a ≤ 10000000000000000 := by omega
    cases up
    · have HE := Lib.hid (show partOf n a b false = if isMoney (n * a / b) then (n * a / b, 0) else (0, 7) from part_end h partQ_pos_down)
      clear h hn
      go_enter Try.func76, Try.ntmps76
      go_wp2_with fail
      refine (rmoney_any _ _).mono ?_
      rintro e w' ⟨rfl, rfl⟩
      go_wp2_with fail
      refine (floor_any _ _ hb1 hb2 h5 _).mono ?_
      rintro e w' ⟨rfl, rfl⟩
      go_wp2_with fail
      refine (rmoney_any _ _).mono ?_
      rintro e w' ⟨rfl, rfl⟩
      cases hq : isMoney (n * a / b)
      all_goals
        go_wp2_with fail
        go_ret2
        exact ⟨pair_ii (by rw [HE.out, hq]; rfl), rfl⟩
    · have HE := Lib.hid (show partOf n a b true = if isMoney (-(-n * a / b)) then (-(-n * a / b), 0) else (0, 7) from part_end h (by rw [hn]; rfl))
      obtain ⟨q1, q2⟩ := floor_bd (-n * a) b h5 hb3 hb4
      clear h hn
      go_enter Try.func76, Try.ntmps76
      go_wp2_with fail
      refine (rmoney_any _ _).mono ?_
      rintro e w' ⟨rfl, rfl⟩
      go_wp2_with fail
      refine (floor_any _ _ hb1 hb2 h5 _).mono ?_
      rintro e w' ⟨rfl, rfl⟩
      go_wp2_with fail
      refine (floor_any _ _ hb3 hb4 h5 _).mono ?_
      rintro e w' ⟨rfl, rfl⟩
      go_wp2_with fail
      refine (rmoney_any _ _).mono ?_
      rintro e w' ⟨rfl, rfl⟩
      cases hq : isMoney (-(-n * a / b))
      all_goals
        go_wp2_with fail
        go_ret2
        exact ⟨pair_ii (by rw [HE.out, hq]; rfl), rfl⟩

end Go.Proofs.Ytockodmbhnlheaa
