/-
  THE WALK of account.Same.
-/
import Derived.Test.YtockodmbhnlheaaAcc
namespace Go.Proofs.Ytockodmbhnlheaa
open Go.RowKit

def sameAc (a b : Ac) : Bool := decide (a.id = b.id) && decide (a.bal = b.bal) && eqI a.pos b.pos

set_option maxHeartbeats 1000000 in
theorem same_any (a b : Ac) (A A' : Option Addr) (c c' : Nat) (B B' : Nat) (w : World) (h : Rd w B 1 A a.pos.length c (ints a.pos)) (h' : Rd w B' 1 A' b.pos.length c' (ints b.pos)) (hB : B ≤ w.heap.size) (hB' : B' ≤ w.heap.size) :
    Calls Try.prog 51 #[.agg #[.int .i64 a.id, .int .i64 a.bal, .slice A a.pos.length c], .agg #[.int .i64 b.id, .int .i64 b.bal, .slice A' b.pos.length c']] w fun e w' => e = .returned (.bool (sameAc a b)) ∧ Below w.heap.size w w' := by
  by_cases h1 : a.id = b.id
  · by_cases h2 : a.bal = b.bal
    · have HE := Lib.hid (show sameAc a b = eqI a.pos b.pos by simp [sameAc, h1, h2])
      have h1' : (a.id == b.id) = true := by simpa using h1
      have h2' : (a.bal == b.bal) = true := by simpa using h2
      clear h1 h2
      go_enter Try.func51, Try.ntmps51
      go_wp2_with fail
      refine (equal_ints _ _ _ _ _ _ _ _ _ _ _ ((h.alloc hB _).alloc (by simp; omega) _) ((h'.alloc hB' _).alloc (by simp; omega) _)).mono ?_
      rintro e w1 ⟨rfl, q, rfl⟩
      go_wp2_with fail
      go_ret
      exact ⟨ret_bb (by rw [HE.out]), below_drewN (((Below.refl _ _).alloc (Nat.le_refl _) _).alloc (by simp) _) q⟩
    · have HE := Lib.hid (show sameAc a b = false by simp [sameAc, h2])
      have h1' : (a.id == b.id) = true := by simpa using h1
      have h2' : (a.bal == b.bal) = false := by simpa using h2
      clear h1 h2
      go_enter Try.func51, Try.ntmps51
      go_wp2_with fail
      go_ret
      exact ⟨ret_bb (by rw [HE.out]), ((Below.refl _ _).alloc (Nat.le_refl _) _).alloc (by simp) _⟩
  · have HE := Lib.hid (show sameAc a b = false by simp [sameAc, h1])
    have h1' : (a.id == b.id) = false := by simpa using h1
    clear h1
    go_enter Try.func51, Try.ntmps51
    go_wp2_with fail
    go_ret
    exact ⟨ret_bb (by rw [HE.out]), ((Below.refl _ _).alloc (Nat.le_refl _) _).alloc (by simp) _⟩

end Go.Proofs.Ytockodmbhnlheaa
