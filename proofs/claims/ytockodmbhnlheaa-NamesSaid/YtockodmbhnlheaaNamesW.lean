/-
  THE WALK of the law Names.
-/
import Derived.Test.YtockodmbhnlheaaSlc
namespace Go.Proofs.Ytockodmbhnlheaa
open Go.RowKit

def limits : List Int := [1000000000000, 10000, 1000, 1000, 40, 8, 2, 100000, 100, 20000, 60, 20]
def kinds : List Int := [1, -1, 1, 2, 3, 4, 1, 2, 3, 4, 5, 6, 7, 1, 2, 3, 4, 5, 6]

theorem rd_limits (w : World) (t : TypeId) (g : Nat) (hg : g = w.heap.size) : Rd (w.alloc (.cells #[.int .i64 (1000000000000), .int .i64 (10000), .int .i64 (1000), .int .i64 (1000), .int .i64 (40), .int .i64 (8), .int .i64 (2), .int .i64 (100000), .int .i64 (100), .int .i64 (20000), .int .i64 (60), .int .i64 (20)] t)) (g + 1) 1 (some ⟨g, 0, none⟩) 12 12 (ints limits) := by subst hg; exact Rd.new _ _ _ 12 rfl (by decide)
theorem rd_kinds (w : World) (t : TypeId) (g : Nat) (hg : g = w.heap.size) : Rd (w.alloc (.cells #[.int .i64 (1), .int .i64 (-1), .int .i64 (1), .int .i64 (2), .int .i64 (3), .int .i64 (4), .int .i64 (1), .int .i64 (2), .int .i64 (3), .int .i64 (4), .int .i64 (5), .int .i64 (6), .int .i64 (7), .int .i64 (1), .int .i64 (2), .int .i64 (3), .int .i64 (4), .int .i64 (5), .int .i64 (6)] t)) (g + 1) 1 (some ⟨g, 0, none⟩) 19 19 (ints kinds) := by subst hg; exact Rd.new _ _ _ 19 rfl (by decide)

set_option maxHeartbeats 1000000 in
theorem names_walk (w : World) : Calls Try.prog 3 #[] w fun e w' => e = .returned (.bool true) ∧ Below w.heap.size w w' := by
  go_enter Try.func3, Try.ntmps3
  go_wp2_with fail
  go_loop [9] (fun i => ∃ j : Nat, j ≤ 14 ∧ i = .int .i64 j) (fun i => 14 - (intOf i).toNat)
  case atStart => exact ⟨0, by omega, rfl⟩
  case round =>
    obtain ⟨j, hj, rfl⟩ := hrel
    by_cases hlt : j < 14
    · rcases (show j = 0 ∨ j = 1 ∨ j = 2 ∨ j = 3 ∨ j = 4 ∨ j = 5 ∨ j = 6 ∨ j = 7 ∨ j = 8 ∨ j = 9 ∨ j = 10 ∨ j = 11 ∨ j = 12 ∨ j = 13 by omega) with rfl | rfl | rfl | rfl | rfl | rfl | rfl | rfl | rfl | rfl | rfl | rfl | rfl | rfl
      all_goals
        go_wp2_with fail
        go_round
        case rel => exact ⟨_, (by omega : _ + 1 ≤ 14), rfl⟩
        case measure => simp [intOf]
    · obtain rfl : j = 14 := by omega
      go_wp2_with fail
      refine (equal_ints _ _ _ _ _ _ limits limits (w.heap.size + 1 + 1) (w.heap.size + 1 + 1 + 1 + 1) _ (((rd_limits _ _ _ (by simp)).alloc (by simp) _).alloc (by simp) _) (rd_limits _ _ _ (by simp))).mono ?_
      rintro e w' ⟨rfl, q, rfl⟩
      rw [show eqI limits limits = true by decide]
      go_wp2_with fail
      refine (equal_ints _ _ _ _ _ _ kinds kinds (w.heap.size + 1 + 1 + 1) (w.heap.size + 1 + 1 + 1 + 1 + 1) _ ((((rd_kinds _ _ _ (by simp)).alloc (by simp) _).alloc (by simp) _).drewN q) ((rd_kinds _ _ _ (by simp)).drewN q)).mono ?_
      rintro e w' ⟨rfl, q', rfl⟩
      rw [show eqI kinds kinds = true by decide]
      go_wp2_with fail
      go_ret
      refine ⟨rfl, ?_⟩
      repeat' (first | exact Below.refl _ _ | refine below_drewN ?_ _ | refine Below.alloc ?_ ?_ _ | (simp; done) | (simp; omega))

end Go.Proofs.Ytockodmbhnlheaa
