/-
  THE WALK of account.Fee.
-/
import Derived.Test.YtockodmbhnlheaaFix
import Derived.Test.YtockodmbhnlheaaTradePure
namespace Go.Proofs.Ytockodmbhnlheaa
open Go.RowKit

set_option maxHeartbeats 1000000 in
theorem fee_any (q p : Int) (w : World) :
    Calls Try.prog 45 #[.int .i64 q, .int .i64 p] w fun e w' => e = .returned (.tuple #[.int .i64 (feeOf q p).1, .int .i64 (feeOf q p).2]) ∧ w = w' := by
  rcases worth_cases q p with h | ⟨h, _, _, h1, h2⟩
  · have HE := Lib.hid (show (feeOf q p).1 = 0 ∧ (feeOf q p).2 = 3 by unfold feeOf; rw [h]; exact ⟨rfl, rfl⟩)
    have HW := Lib.hid h
    clear h
    go_enter Try.func45, Try.ntmps45
    go_wp2_with fail
    refine (worth_any _ _ _).mono ?_
    rintro e w' ⟨rfl, rfl⟩
    rw [HW.out]
    go_wp2_with fail
    go_ret2
    exact ⟨by rw [HE.out.1, HE.out.2]; rfl, rfl⟩
  · obtain ⟨m, hm, hm1⟩ : ∃ m, max (q * p) (-(q * p)) = m ∧ (q * p < -(q * p) ∧ m = -(q * p) ∨ -(q * p) ≤ q * p ∧ m = q * p) := ⟨_, rfl, by omega⟩
    have HE := Lib.hid (show feeOf q p = partOf m 5 10000 true by unfold feeOf; rw [h, if_neg (by simp)]; show partOf (max (q * p) (-(q * p))) 5 10000 true = _; rw [hm])
    have HW := Lib.hid h
    clear h hm
    rcases hm1 with ⟨h3, rfl⟩ | ⟨h3, rfl⟩
    all_goals
      go_enter Try.func45, Try.ntmps45
      go_wp2_with fail
      refine (worth_any _ _ _).mono ?_
      rintro e w' ⟨rfl, rfl⟩
      rw [HW.out]
      go_wp2_with fail
      refine (part_any _ _ _ _ _).mono ?_
      rintro e w' ⟨rfl, rfl⟩
      go_wp2_with fail
      go_ret2
      exact ⟨by rw [HE.out]; rfl, rfl⟩

end Go.Proofs.Ytockodmbhnlheaa
