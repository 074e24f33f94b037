/-
  THE WALK of 'at': a number brought within bounds.
-/
import Derived.Test.YtockodmbhnlheaaFix
namespace Go.Proofs.Ytockodmbhnlheaa
open Go.RowKit

set_option maxHeartbeats 400000 in
theorem atk_any (k n : Int) (w : World) (h1 : 1 ≤ n) (h2 : n ≤ 9223372036854775807) :
    Calls Try.prog 35 #[.int .i64 k, .int .i64 n] w fun e w' => e = .returned (.int .i64 (k % n)) ∧ w = w' := by
  have HA := Lib.hid (at_of k n h1)
  have h3 := Int.emod_nonneg k (show n ≠ 0 by omega)
  have h4 := Int.emod_lt_of_pos k (show 0 < n by omega)
  by_cases h0 : 0 ≤ k
  · go_enter Try.func35, Try.ntmps35
    go_wp2_with fail
    go_ret
    exact ⟨rfl, rfl⟩
  · have h5 : -n < k.tmod n ∧ k.tmod n ≤ 0 := by
      rw [tmod_of, if_neg h0]
      have h3 := Int.emod_nonneg (-k) (show n ≠ 0 by omega)
      have h4 := Int.emod_lt_of_pos (-k) (show 0 < n by omega)
      omega
    obtain ⟨h6, h7⟩ := h5
    by_cases h8 : k.tmod n < 0
    · have HE := Lib.hid (show k % n = k.tmod n + n by rw [HA.out, if_neg h0, if_pos h8])
      go_enter Try.func35, Try.ntmps35
      go_wp2_with fail
      go_ret
      exact ⟨ret_ii HE.out.symm, rfl⟩
    · have HE := Lib.hid (show k % n = k.tmod n by rw [HA.out, if_neg h0, if_neg h8])
      go_enter Try.func35, Try.ntmps35
      go_wp2_with fail
      go_ret
      exact ⟨ret_ii HE.out.symm, rfl⟩

end Go.Proofs.Ytockodmbhnlheaa
