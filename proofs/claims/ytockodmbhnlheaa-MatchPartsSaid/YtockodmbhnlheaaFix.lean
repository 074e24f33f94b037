/-
  THE WALKS over package fix: what each of its functions answers.
-/
import Derived.Test.YtockodmbhnlheaaProg
import Derived.Test.YtockodmbhnlheaaPure
import Derived.Test.YtockodmbhnlheaaMem
import Derived.WalkKit
import Derived.WalkSpells
import Derived.WalkLawsBesides
import Derived.Lib.Hide
namespace Go.Proofs.Ytockodmbhnlheaa
open Go.RowKit

set_option maxHeartbeats 400000 in
theorem money_any (n : Int) (w : World) :
    Calls Try.prog 78 #[.int .i64 n] w fun e w' => e = .returned (.bool (isMoney n)) ∧ w = w' := by
  by_cases h1 : -1000000000000 ≤ n
  · go_enter Try.func78, Try.ntmps78
    go_wp2
    go_ret
    exact ⟨by simp [isMoney, h1], rfl⟩
  · go_enter Try.func78, Try.ntmps78
    go_wp2
    go_ret
    exact ⟨by simp [isMoney]; omega, rfl⟩


set_option maxHeartbeats 400000 in
theorem part_bad (n a b : Int) (up : Bool) (w : World) (h : partOk n a b = false) :
    Calls Try.prog 31 #[.int .i64 n, .int .i64 a, .int .i64 b, .bool up] w fun e w' => e = .returned (.tuple #[.int .i64 0, .int .i64 3]) ∧ w = w' := by
  have h0 : isMoney n = false ∨ isMoney n = true ∧ a < -10000 ∨ isMoney n = true ∧ -10000 ≤ a ∧ 10000 < a ∨ isMoney n = true ∧ -10000 ≤ a ∧ a ≤ 10000 ∧ b < 1 ∨ isMoney n = true ∧ -10000 ≤ a ∧ a ≤ 10000 ∧ 1 ≤ b ∧ 10000 < b := by
    rw [← Bool.not_eq_true, partOk_iff] at h
    rw [isMoney_iff, isMoney_not]; omega
  clear h
  rcases h0 with h1 | ⟨h1, h2⟩ | ⟨h1, h2, h3⟩ | ⟨h1, h2, h3, h4⟩ | ⟨h1, h2, h3, h4, h5⟩
  all_goals
    go_enter Try.func31, Try.ntmps31
    go_wp2_with (go_at_call 78; refine (money_any _ _).mono ?_; rintro e w' ⟨rfl, rfl⟩)
    go_ret2
    exact ⟨rfl, rfl⟩


theorem part_end {n a b q : Int} {up : Bool} (h : partOk n a b = true) (hq : partQ n a b up = q) : partOf n a b up = if isMoney q then (q, 0) else (0, 7) := by
  unfold partOf; rw [if_pos h, hq]

set_option maxHeartbeats 1000000 in
theorem part_good (n a b : Int) (up : Bool) (w : World) (h : partOk n a b = true) :
    Calls Try.prog 31 #[.int .i64 n, .int .i64 a, .int .i64 b, .bool up] w fun e w' => e = .returned (.tuple #[.int .i64 (partOf n a b up).1, .int .i64 (partOf n a b up).2]) ∧ w = w' := by
  obtain ⟨⟨h1, h2⟩, h3, h4, h5, h6⟩ := partOk_iff.1 h
  have hM := isMoney_iff.2 ⟨h1, h2⟩
  obtain ⟨hb1, hb2⟩ := mul_bd h1 h2 h3 h4
  by_cases h0 : 0 ≤ n * a
  · obtain ⟨d1, d2⟩ := ediv_bd (n * a) b h0 h5
    by_cases hr : n * a % b = 0
    · have HQ := Lib.hid (part_end (up := up) h (partQ_pos_exact h5 hr))
      have hr' : (n * a % b != 0) = false := by simpa using hr
      clear h hr
      go_enter Try.func31, Try.ntmps31
      go_wp2_with (go_at_call 78; refine (money_any _ _).mono ?_; rintro e w' ⟨rfl, rfl⟩)
      all_goals (go_ret2; exact ⟨pair_ii (by rw [HQ.out]; simp_all), rfl⟩)
    · have hr' : (n * a % b != 0) = true := by simpa using hr
      have hp : 0 < n * a := by
        rcases Int.lt_or_eq_of_le h0 with h' | h'
        · exact h'
        · rw [← h'] at hr; simp at hr
      cases up
      · have HQ := Lib.hid (part_end (up := false) h partQ_pos_down)
        clear h hr
        go_enter Try.func31, Try.ntmps31
        go_wp2_with (go_at_call 78; refine (money_any _ _).mono ?_; rintro e w' ⟨rfl, rfl⟩)
        all_goals (go_ret2; exact ⟨pair_ii (by rw [HQ.out]; simp_all), rfl⟩)
      · have HQ := Lib.hid (part_end h (partQ_pos_up h5 hr))
        clear h hr
        go_enter Try.func31, Try.ntmps31
        go_wp2_with (go_at_call 78; refine (money_any _ _).mono ?_; rintro e w' ⟨rfl, rfl⟩)
        all_goals (go_ret2; exact ⟨pair_ii (by rw [HQ.out]; simp_all), rfl⟩)
  · have hp : n * a < 0 := by omega
    have hp' : ¬ 0 < n * a := by omega
    have hd : decide (0 < n * a) = false := by simpa using hp'
    obtain ⟨d1, d2⟩ := tdiv_bd (n * a) b hp h5
    by_cases hr : (n * a).tmod b = 0
    · have HQ := Lib.hid (part_end (up := up) h (partQ_neg_exact hp h5 hr))
      have hr' : ((n * a).tmod b != 0) = false := by simpa using hr
      clear h hr
      go_enter Try.func31, Try.ntmps31
      go_wp2_with (go_at_call 78; refine (money_any _ _).mono ?_; rintro e w' ⟨rfl, rfl⟩)
      all_goals (go_ret2; exact ⟨pair_ii (by rw [HQ.out]; simp_all), rfl⟩)
    · have hr' : ((n * a).tmod b != 0) = true := by simpa using hr
      cases up
      · have HQ := Lib.hid (part_end h (partQ_neg_down hp h5 hr))
        clear h hr
        go_enter Try.func31, Try.ntmps31
        go_wp2_with (go_at_call 78; refine (money_any _ _).mono ?_; rintro e w' ⟨rfl, rfl⟩)
        all_goals (go_ret2; exact ⟨pair_ii (by rw [HQ.out]; simp_all), rfl⟩)
      · have HQ := Lib.hid (part_end h (partQ_neg_up hp))
        clear h hr
        go_enter Try.func31, Try.ntmps31
        go_wp2_with (go_at_call 78; refine (money_any _ _).mono ?_; rintro e w' ⟨rfl, rfl⟩)
        all_goals (go_ret2; exact ⟨pair_ii (by rw [HQ.out]; simp_all), rfl⟩)

theorem part_any (n a b : Int) (up : Bool) (w : World) :
    Calls Try.prog 31 #[.int .i64 n, .int .i64 a, .int .i64 b, .bool up] w fun e w' => e = .returned (.tuple #[.int .i64 (partOf n a b up).1, .int .i64 (partOf n a b up).2]) ∧ w = w' := by
  cases h : partOk n a b
  · have e0 : partOf n a b up = (0, 3) := by simp [partOf, h]
    rw [e0]; exact part_bad n a b up w h
  · exact part_good n a b up w h

theorem addFrom_step {s z : Int} {l : List Int} {j : Nat} (hz : l[j]? = some z) : addFrom s (l.drop j) = if isMoney z then (if isMoney (s + z) then addFrom (s + z) (l.drop (j + 1)) else (0, 7)) else (0, 3) := by
  have hj := (List.getElem?_eq_some_iff.1 hz).1
  rw [List.drop_eq_getElem_cons hj, addFrom, (List.getElem?_eq_some_iff.1 hz).2]

set_option maxHeartbeats 1000000 in
theorem add_any (A : Option Addr) (n c : Nat) (l : List Int) (B : Nat) (w : World) (h : Rd w B 1 A n c (ints l)) :
    Calls Try.prog 34 #[.slice A n c] w fun e w' => e = .returned (.tuple #[.int .i64 (addAll l).1, .int .i64 (addAll l).2]) ∧ w = w' := by
  have hcap := h.cap
  have hle := h.le
  have HL := Lib.hid h.ofInts
  unfold maxLen at hcap
  go_enter Try.func34, Try.ntmps34
  go_wp2_with fail
  go_loop [4, 9] (fun s i => ∃ (j : Nat) (t : Int), j ≤ n ∧ s = .int .i64 t ∧ i = .int .i64 j ∧ (-1000000000000 ≤ t ∧ t ≤ 1000000000000) ∧ Hid (addFrom t (l.drop j) = addAll l)) (fun _ i => n - (intOf i).toNat)
  case atStart => exact ⟨0, 0, Nat.zero_le _, rfl, rfl, by omega, rfl⟩
  case round =>
    obtain ⟨j, t, hj, rfl, rfl, ht, HA⟩ := hrel
    obtain ⟨ht1, ht2⟩ := ht
    by_cases hlt : j < n
    · obtain ⟨b, o, rfl, hb, z, hz, hc⟩ := h.int hlt
      have HS := Lib.hid (addFrom_step (s := t) hz)
      clear hz
      cases hm : isMoney z
      · have HE := Lib.hid (show addAll l = (0, 3) by rw [← HA.out, HS.out, hm]; rfl)
        clear HS HA
        go_wp2_with (go_at_call 78; refine (money_any _ _).mono ?_; rintro e w' ⟨rfl, rfl⟩)
        go_ret2
        exact ⟨pair_ii (by rw [HE.out]), rfl⟩
      · obtain ⟨hz1, hz2⟩ := isMoney_iff.1 hm
        cases hm' : isMoney (t + z)
        · have HE := Lib.hid (show addAll l = (0, 7) by rw [← HA.out, HS.out, hm, hm']; rfl)
          clear HS HA
          go_wp2_with (go_at_call 78; refine (money_any _ _).mono ?_; rintro e w' ⟨rfl, rfl⟩)
          go_ret2
          exact ⟨pair_ii (by rw [HE.out]), rfl⟩
        · have HE := Lib.hid (show addFrom (t + z) (l.drop (j + 1)) = addAll l by rw [← HA.out, HS.out, hm, hm']; rfl)
          have HT := Lib.hid (isMoney_iff.1 hm')
          clear HS HA
          go_wp2_with (go_at_call 78; refine (money_any _ _).mono ?_; rintro e w' ⟨rfl, rfl⟩)
          go_round
          case rel => exact ⟨j + 1, t + z, by omega, rfl, by go_num, HT.out, HE⟩
          case measure => simp [intOf]; omega
    · have hjn : j = n := by omega
      have HE := Lib.hid (show addAll l = (t, 0) by rw [← HA.out, hjn, List.drop_eq_nil_of_le (by have := HL.out; omega)]; rfl)
      clear HA hjn
      go_wp2_with (go_at_call 78; refine (money_any _ _).mono ?_; rintro e w' ⟨rfl, rfl⟩)
      go_ret2
      exact ⟨pair_ii (by rw [HE.out]), rfl⟩

def midOf (a b c : Int) : Int := max (min a b) (min (max a b) c)

set_option maxHeartbeats 400000 in
theorem middle_any (a b c : Int) (w : World) :
    Calls Try.prog 33 #[.int .i64 a, .int .i64 b, .int .i64 c] w fun e w' => e = .returned (.int .i64 (midOf a b c)) ∧ w = w' := by
  go_enter Try.func33, Try.ntmps33
  go_wp2_with fail
  all_goals (go_ret; exact ⟨ret_ii (by unfold midOf; omega), rfl⟩)

set_option maxHeartbeats 400000 in
theorem worth_any (q p : Int) (w : World) :
    Calls Try.prog 74 #[.int .i64 q, .int .i64 p] w fun e w' => e = .returned (.tuple #[.int .i64 (worthOf q p).1, .int .i64 (worthOf q p).2]) ∧ w = w' := by
  cases h : worthOk q p
  · have HE := Lib.hid (show worthOf q p = (0, 3) by unfold worthOf; rw [h]; rfl)
    have h0 : q < -1000 ∨ -1000 ≤ q ∧ 1000 < q ∨ -1000 ≤ q ∧ q ≤ 1000 ∧ p < 0 ∨ -1000 ≤ q ∧ q ≤ 1000 ∧ 0 ≤ p ∧ 10000 < p := by
      rw [← Bool.not_eq_true, worthOk_iff] at h; omega
    clear h
    rcases h0 with h1 | ⟨h1, h2⟩ | ⟨h1, h2, h3⟩ | ⟨h1, h2, h3, h4⟩
    all_goals
      go_enter Try.func74, Try.ntmps74
      go_wp2_with fail
      go_ret2
      exact ⟨pair_ii (by rw [HE.out]), rfl⟩
  · have HE := Lib.hid (show worthOf q p = (q * p, 0) by unfold worthOf; rw [h]; rfl)
    obtain ⟨h1, h2, h3, h4⟩ := worthOk_iff.1 h
    obtain ⟨b1, b2⟩ := worth_bd h1 h2 h3 h4
    clear h
    go_enter Try.func74, Try.ntmps74
    go_wp2_with fail
    go_ret2
    exact ⟨pair_ii (by rw [HE.out]), rfl⟩

end Go.Proofs.Ytockodmbhnlheaa
