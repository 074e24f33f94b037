/-
  THE WALK of the law FixAdds.
-/
import Derived.Test.YtockodmbhnlheaaFixPartsW
import Derived.Test.YtockodmbhnlheaaSlc
import Derived.Test.YtockodmbhnlheaaRev
namespace Go.Proofs.Ytockodmbhnlheaa
open Go.RowKit

set_option maxHeartbeats 400000 in
theorem at_any (k n : Int) (w : World) (h1 : 1 ≤ n) (h2 : n ≤ 9223372036854775807) :
    Calls Try.prog 35 #[.int .i64 k, .int .i64 n] w fun e w' => e = .returned (.int .i64 (k % n)) ∧ w = w' := by
  have HA := Lib.hid (at_of k n h1)
  have h3 := Int.emod_nonneg k (show n ≠ 0 by omega)
  have h4 := Int.emod_lt_of_pos k (show 0 < n by omega)
  by_cases h0 : 0 ≤ k
  · go_enter Try.func35, Try.ntmps35
    go_wp2_with fail
    go_ret
    exact ⟨rfl, rfl⟩
  · have h5 : -n < k.tmod n ∧ k.tmod n ≤ 0 := by
      rw [tmod_of, if_neg h0]
      have h3 := Int.emod_nonneg (-k) (show n ≠ 0 by omega)
      have h4 := Int.emod_lt_of_pos (-k) (show 0 < n by omega)
      omega
    obtain ⟨h6, h7⟩ := h5
    by_cases h8 : k.tmod n < 0
    · have HE := Lib.hid (show k % n = k.tmod n + n by rw [HA.out, if_neg h0, if_pos h8])
      go_enter Try.func35, Try.ntmps35
      go_wp2_with fail
      go_ret
      exact ⟨ret_ii HE.out.symm, rfl⟩
    · have HE := Lib.hid (show k % n = k.tmod n by rw [HA.out, if_neg h0, if_neg h8])
      go_enter Try.func35, Try.ntmps35
      go_wp2_with fail
      go_ret
      exact ⟨ret_ii HE.out.symm, rfl⟩

set_option maxHeartbeats 1000000 in
theorem fixAdds_err (A : Option Addr) (n c : Nat) (l : List Int) (k s e : Int) (w : World) (h : Rd w w.heap.size 1 A n c (ints l)) (hs : addAll l = (s, e)) (he : (e != 0) = true) :
    Calls Try.prog 5 #[.slice A n c, .int .i64 k] w fun e w' => e = .returned (.bool true) ∧ Below w.heap.size w w' := by
  have HS := Lib.hid hs; clear hs
  go_enter Try.func5, Try.ntmps5
  go_wp2_with fail
  refine (add_any _ _ _ _ _ _ h).mono ?_
  rintro e w' ⟨rfl, rfl⟩
  rw [HS.out]
  go_wp2_with fail
  refine (add_any _ _ _ [] 0 _ (Rd.none_ _ _ _)).mono ?_
  rintro e w' ⟨rfl, rfl⟩
  rw [show addAll [] = (0, 0) by rfl]
  go_wp2_with fail
  refine (reckoned_any _).mono ?_
  rintro e w1 ⟨rfl, hb1⟩
  go_wp2_with fail
  refine (reckoned_any _).mono ?_
  rintro e w2 ⟨rfl, hb2⟩
  go_wp2_with fail
  go_ret
  exact ⟨rfl, hb1.trans (hb2.mono hb1.size)⟩

set_option maxHeartbeats 1000000 in
theorem fixAdds_ok (A : Option Addr) (n c : Nat) (l : List Int) (k s : Int) (w : World) (h : Rd w w.heap.size 1 A n c (ints l)) (hc : c * 8 ≤ 140737488351232) (hs : addAll l = (s, 0)) :
    Calls Try.prog 5 #[.slice A n c, .int .i64 k] w fun e w' => e = .returned (.bool true) ∧ Below w.heap.size w w' := by
  have HS := Lib.hid hs
  have hle := h.le
  have hll := h.ofInts
  have HL := Lib.hid hll
  obtain ⟨kk, hkk, hk2⟩ : ∃ kk : Nat, k % ((n : Int) + 1) = (kk : Int) ∧ kk ≤ n := by
    have h1 := Int.emod_nonneg k (show (n : Int) + 1 ≠ 0 by omega)
    have h2 := Int.emod_lt_of_pos k (show 0 < (n : Int) + 1 by omega)
    exact ⟨(k % ((n : Int) + 1)).toNat, by omega, by omega⟩
  have HK := Lib.hid hkk
  obtain ⟨a, hl1, hl2, hl3⟩ := adds_law hs kk
  have HL1 := Lib.hid hl1
  have HL2 := Lib.hid hl2
  have HL3 := Lib.hid hl3
  obtain ⟨A1, hcut1, hrd1⟩ := cut_h elem_int h kk hk2
  obtain ⟨A2, hcut2, hrd2⟩ := cut_l elem_int h kk hk2
  rw [Nat.mul_one, show (ints l).take kk = ints (l.take kk) by simp [ints]] at hrd1
  rw [Nat.mul_one, show (ints l).drop kk = ints (l.drop kk) by simp [ints]] at hrd2
  clear hs hll hkk hl1 hl2 hl3
  go_enter Try.func5, Try.ntmps5
  go_wp2_with fail
  refine (add_any _ _ _ _ _ _ h).mono ?_
  rintro e w' ⟨rfl, rfl⟩
  rw [HS.out]
  go_wp2_with fail
  refine (add_any _ _ _ [] 0 _ (Rd.none_ _ _ _)).mono ?_
  rintro e w' ⟨rfl, rfl⟩
  rw [show addAll [] = (0, 0) by rfl]
  go_wp2_with fail
  refine (reckoned_any _).mono ?_
  rintro e w1 ⟨rfl, hb1⟩
  go_wp2_with fail
  refine (at_any _ _ _ (by omega) (by omega)).mono ?_
  rintro e w' ⟨rfl, rfl⟩
  rw [HK.out]
  go_wp2_with fail
  refine (add_any _ _ _ _ _ _ (hrd1.below hb1)).mono ?_
  rintro e w' ⟨rfl, rfl⟩
  rw [HL1.out]
  go_wp2_with (at_builtin; go_must (refine wpList_app rfl _ _ _ rfl w1.heap.size _ _ _ elem_int _ 1 [.int .i64 a] rfl (World.ownsRow_lit w1 #[.int .i64 a] 1 (Nat.le_refl _) (by decide) rfl) w.heap.size _ _ _ (ints (l.drop kk)) rfl ((hrd2.below hb1).alloc hb1.size _) (one_ints _) (by simp only [maxLen]; omega) (by omega) (by simp) ?_); intro v' w2 hown hbel hg _)
  have hb2 : Below w.heap.size w w2 := hb1.trans ((((Below.refl _ _).alloc (Nat.le_refl _) _).trans hbel).mono hb1.size)
  obtain ⟨A3, c3, rfl⟩ := own_shape hown
  refine (add_any _ _ _ (a :: l.drop kk) _ _ (Rd.of_own hown)).mono ?_
  rintro e w' ⟨rfl, rfl⟩
  rw [HL2.out]
  go_wp2_with fail
  refine (clone_ints _ _ _ _ _ _ (h.below hb2) (one_ints l) hb2.size (by omega)).mono ?_
  rintro e w3 ⟨v3, rfl, hown3, hb3⟩
  obtain ⟨A4, c4, rfl⟩ := own_shape hown3
  go_wp2_with fail
  refine (reverse_own _ _ _ _ l _ hown3).mono ?_
  rintro e w4 ⟨rfl, hb4, hrd4⟩
  go_wp2_with fail
  refine (add_any _ _ _ _ _ _ hrd4).mono ?_
  rintro e w' ⟨rfl, rfl⟩
  rcases HL3.out with h5 | h5
  · rw [h5]
    go_wp2_with fail
    go_ret
    exact ⟨rfl, hb2.trans ((hb3.trans hb4).mono hb2.size)⟩
  · rw [h5]
    go_wp2_with fail
    go_ret
    exact ⟨rfl, hb2.trans ((hb3.trans hb4).mono hb2.size)⟩

theorem fixAdds_walk (A : Option Addr) (n c : Nat) (l : List Int) (k : Int) (w : World) (h : Rd w w.heap.size 1 A n c (ints l)) (hc : c * 8 ≤ reachBytes) (_ : ∀ z ∈ l, -9223372036854775808 ≤ z ∧ z ≤ 9223372036854775807) :
    Calls Try.prog 5 #[.slice A n c, .int .i64 k] w fun e w' => e = .returned (.bool true) ∧ Below w.heap.size w w' := by
  obtain ⟨s, e, hs⟩ : ∃ s e, addAll l = (s, e) := ⟨_, _, rfl⟩
  by_cases he : e = 0
  · subst he
    exact fixAdds_ok A n c l k s w h (by have : reachBytes = 140737488351232 := rfl; omega) hs
  · exact fixAdds_err A n c l k s e w h hs (by simpa using he)

end Go.Proofs.Ytockodmbhnlheaa
