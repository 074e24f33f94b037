/-
  THE WALK of the law FixParts; the closed fact 'reckoned'.
-/
import Derived.Test.YtockodmbhnlheaaFix
namespace Go.Proofs.Ytockodmbhnlheaa
open Go.RowKit

theorem rd_123 (w : World) (t : TypeId) : Rd (w.alloc (.cells #[.int .i64 1, .int .i64 2, .int .i64 3] t)) (w.heap.size + 1) 1 (some ⟨w.heap.size, 0, none⟩) 3 3 (ints [1, 2, 3]) := Rd.new _ _ _ 3 rfl (by decide)

set_option maxHeartbeats 1000000 in
theorem reckoned_any (w : World) : Calls Try.prog 32 #[] w fun e w' => e = .returned (.bool true) ∧ Below w.heap.size w w' := by
  go_enter Try.func32, Try.ntmps32
  go_wp2_with fail
  refine (part_any _ _ _ _ _).mono ?_
  rintro e w' ⟨rfl, rfl⟩
  rw [show partOf 7 1 2 true = (4, 0) by decide]
  go_wp2_with fail
  refine (part_any _ _ _ _ _).mono ?_
  rintro e w' ⟨rfl, rfl⟩
  rw [show partOf (-7) 1 2 true = (-3, 0) by decide]
  go_wp2_with fail
  refine (part_any _ _ _ _ _).mono ?_
  rintro e w' ⟨rfl, rfl⟩
  rw [show partOf (-7) 1 2 false = (-4, 0) by decide]
  go_wp2_with fail
  refine (add_any _ _ _ [1, 2, 3] _ _ (rd_123 _ _)).mono ?_
  rintro e w' ⟨rfl, rfl⟩
  rw [show addAll [1, 2, 3] = (6, 0) by decide]
  go_wp2_with fail
  refine (middle_any _ _ _ _).mono ?_
  rintro e w' ⟨rfl, rfl⟩
  rw [show midOf 3 1 2 = 2 by decide]
  go_wp2_with fail
  go_ret
  exact ⟨rfl, (Below.refl _ _).alloc (Nat.le_refl _) _⟩

theorem mid_rot (a b c : Int) : midOf a b c = midOf c a b := by unfold midOf; omega
theorem mid_swap (a b c : Int) : midOf a b c = midOf b a c := by unfold midOf; omega

theorem tmod_beq {p b : Int} : (p.tmod b == 0) = (p % b == 0) := by
  rw [Bool.eq_iff_iff, beq_iff_eq, beq_iff_eq]
  rcases Int.lt_or_le p 0 with h | h
  · exact tmod_zero h
  · rw [Int.tmod_eq_emod_of_nonneg h]

set_option maxHeartbeats 1000000 in
theorem fixParts_err1 (n a b c u eu d ed : Int) (w : World) (hu : partOf n a b true = (u, eu)) (hd : partOf n a b false = (d, ed)) (h0 : (eu != 0) = true) :
    Calls Try.prog 4 #[.int .i64 n, .int .i64 a, .int .i64 b, .int .i64 c] w fun e w' => e = .returned (.bool true) ∧ Below w.heap.size w w' := by
  have HM1 := Lib.hid (show (midOf n a c != midOf c n a) = false by simpa using mid_rot n a c)
  have HM2 := Lib.hid (show (midOf n a c != midOf a n c) = false by simpa using mid_swap n a c)
  have HU := Lib.hid hu; clear hu
  have HD := Lib.hid hd; clear hd
  go_enter Try.func4, Try.ntmps4
  go_wp2_with fail
  refine (part_any _ _ _ _ _).mono ?_
  rintro e w' ⟨rfl, rfl⟩
  rw [HU.out]
  go_wp2_with fail
  refine (part_any _ _ _ _ _).mono ?_
  rintro e w' ⟨rfl, rfl⟩
  rw [HD.out]
  go_wp2_with fail
  refine (reckoned_any _).mono ?_
  rintro e w1 ⟨rfl, hb1⟩
  go_wp2_with fail
  refine (middle_any _ _ _ _).mono ?_
  rintro e w' ⟨rfl, rfl⟩
  go_wp2_with fail
  refine (middle_any _ _ _ _).mono ?_
  rintro e w' ⟨rfl, rfl⟩
  have m1 := HM1.out
  go_wp2_with fail
  refine (middle_any _ _ _ _).mono ?_
  rintro e w' ⟨rfl, rfl⟩
  go_wp2_with fail
  refine (middle_any _ _ _ _).mono ?_
  rintro e w' ⟨rfl, rfl⟩
  have m2 := HM2.out
  go_wp2_with fail
  go_ret
  exact ⟨rfl, hb1⟩

set_option maxHeartbeats 1000000 in
theorem fixParts_err2 (n a b c u d ed : Int) (w : World) (hu : partOf n a b true = (u, 0)) (hd : partOf n a b false = (d, ed)) (h0 : (ed != 0) = true) :
    Calls Try.prog 4 #[.int .i64 n, .int .i64 a, .int .i64 b, .int .i64 c] w fun e w' => e = .returned (.bool true) ∧ Below w.heap.size w w' := by
  have HM1 := Lib.hid (show (midOf n a c != midOf c n a) = false by simpa using mid_rot n a c)
  have HM2 := Lib.hid (show (midOf n a c != midOf a n c) = false by simpa using mid_swap n a c)
  have HU := Lib.hid hu; clear hu
  have HD := Lib.hid hd; clear hd
  go_enter Try.func4, Try.ntmps4
  go_wp2_with fail
  refine (part_any _ _ _ _ _).mono ?_
  rintro e w' ⟨rfl, rfl⟩
  rw [HU.out]
  go_wp2_with fail
  refine (part_any _ _ _ _ _).mono ?_
  rintro e w' ⟨rfl, rfl⟩
  rw [HD.out]
  go_wp2_with fail
  refine (reckoned_any _).mono ?_
  rintro e w1 ⟨rfl, hb1⟩
  go_wp2_with fail
  refine (middle_any _ _ _ _).mono ?_
  rintro e w' ⟨rfl, rfl⟩
  go_wp2_with fail
  refine (middle_any _ _ _ _).mono ?_
  rintro e w' ⟨rfl, rfl⟩
  have m1 := HM1.out
  go_wp2_with fail
  refine (middle_any _ _ _ _).mono ?_
  rintro e w' ⟨rfl, rfl⟩
  go_wp2_with fail
  refine (middle_any _ _ _ _).mono ?_
  rintro e w' ⟨rfl, rfl⟩
  have m2 := HM2.out
  go_wp2_with fail
  go_ret
  exact ⟨rfl, hb1⟩

set_option maxHeartbeats 2000000 in
theorem fixParts_ok (n a b c u d : Int) (w : World) (hu : partOf n a b true = (u, 0)) (hd : partOf n a b false = (d, 0)) :
    Calls Try.prog 4 #[.int .i64 n, .int .i64 a, .int .i64 b, .int .i64 c] w fun e w' => e = .returned (.bool true) ∧ Below w.heap.size w w' := by
  obtain ⟨ho, hu1, hd1, hb, hn, hna, k1, k2, k3⟩ := part_both hu hd
  have HO := Lib.hid ho; clear ho
  have m3 := mul_bd (n := u) (a := b) hu1.1 hu1.2 (by omega) (by omega)
  have m4 := mul_bd (n := d) (a := b) hd1.1 hd1.2 (by omega) (by omega)
  have HT := Lib.hid (tmod_beq (p := n * a) (b := b))
  have HM1 := Lib.hid (show (midOf n a c != midOf c n a) = false by simpa using mid_rot n a c)
  have HM2 := Lib.hid (show (midOf n a c != midOf a n c) = false by simpa using mid_swap n a c)
  have HU := Lib.hid hu; clear hu
  have HD := Lib.hid hd; clear hd
  go_enter Try.func4, Try.ntmps4
  go_wp2_with fail
  refine (part_any _ _ _ _ _).mono ?_
  rintro e w' ⟨rfl, rfl⟩
  rw [HU.out]
  go_wp2_with fail
  refine (part_any _ _ _ _ _).mono ?_
  rintro e w' ⟨rfl, rfl⟩
  rw [HD.out]
  go_wp2_with fail
  refine (reckoned_any _).mono ?_
  rintro e w1 ⟨rfl, hb1⟩
  go_wp2_with fail
  refine (middle_any _ _ _ _).mono ?_
  rintro e w' ⟨rfl, rfl⟩
  go_wp2_with fail
  refine (middle_any _ _ _ _).mono ?_
  rintro e w' ⟨rfl, rfl⟩
  have m1 := HM1.out
  go_wp2_with fail
  refine (middle_any _ _ _ _).mono ?_
  rintro e w' ⟨rfl, rfl⟩
  go_wp2_with fail
  refine (middle_any _ _ _ _).mono ?_
  rintro e w' ⟨rfl, rfl⟩
  have m2 := HM2.out
  go_wp2_with fail
  refine (part_any _ _ _ _ _).mono ?_
  rintro e w' ⟨rfl, rfl⟩
  rw [HO.out]
  have ht' := HT.out
  rcases k3 with ⟨rfl, hz⟩ | ⟨rfl, hz⟩
  · have hz' : (n * a % b == 0) = true := by simpa using hz
    go_wp2_with fail
    go_ret
    exact ⟨rfl, hb1⟩
  · have hz' : (n * a % b == 0) = false := by simpa using hz
    go_wp2_with fail
    go_ret
    exact ⟨ret_bb (by simp [show d + 1 ≠ d by omega]), hb1⟩

theorem fixParts_walk (n a b c : Int) (w : World) : Calls Try.prog 4 #[.int .i64 n, .int .i64 a, .int .i64 b, .int .i64 c] w fun e w' => e = .returned (.bool true) ∧ Below w.heap.size w w' := by
  obtain ⟨u, eu, hu⟩ : ∃ u eu, partOf n a b true = (u, eu) := ⟨_, _, rfl⟩
  obtain ⟨d, ed, hd⟩ : ∃ d ed, partOf n a b false = (d, ed) := ⟨_, _, rfl⟩
  by_cases h0 : eu = 0
  · subst h0
    by_cases h1 : ed = 0
    · subst h1; exact fixParts_ok n a b c u d w hu hd
    · exact fixParts_err2 n a b c u d ed w hu hd (by simpa using h1)
  · exact fixParts_err1 n a b c u eu d ed w hu hd (by simpa using h0)

end Go.Proofs.Ytockodmbhnlheaa
