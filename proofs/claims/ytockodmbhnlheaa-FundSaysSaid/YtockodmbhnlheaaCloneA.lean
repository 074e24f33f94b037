/-
  slices.Clone at []api.Account.
-/
import Derived.Test.YtockodmbhnlheaaShape
import Derived.Test.YtockodmbhnlheaaSlc
namespace Go.Proofs.Ytockodmbhnlheaa
open Go.RowKit

set_option maxHeartbeats 400000 in
theorem clone_accs (A : Option Addr) (n c : Nat) (xs : List Value) (B : Nat) (w : World) (h : Rd w B 3 A n c xs) (h1 : ∀ u ∈ xs, u.oneCell' = true) (hB : B ≤ w.heap.size) (hb : n * 40 ≤ 140737488355328) :
    Calls Try.prog 128 #[.slice A n c] w (RetRow w 37 3 n xs) := by
  have q : ∀ (w : World) (a : Option Addr) (n c n' c' : Nat), (binOp .eql 39 (.slice a n c) (.slice none n' c')).run Try.prog w = .ok (.bool a.isNone) w := fun w a n c n' c' => Lib.run_eql_slice_nil w _ _ a n c n' c' Try.underlying39
  cases A with
  | none =>
    have h0 := h.nil rfl
    have hle := h.le
    obtain rfl : n = 0 := by omega
    have hx : xs = [] := List.eq_nil_of_length_eq_zero (by simpa using h.len)
    subst hx h0
    go_enter Try.func128, Try.ntmps128
    go_wp2_with fail
    go_ret
    exact ⟨_, rfl, World.ownsRow_nil _ _ _ _, Below.refl _ _⟩
  | some ad =>
    have HR := Lib.hid h
    have hle := h.le
    have hcap := h.cap
    clear h
    go_enter Try.func128, Try.ntmps128
    go_wp2_with (at_builtin; refine wpList_app rfl _ _ _ rfl w.heap.size _ _ _ elem_acc _ _ _ rfl (World.ownsRow_made w #[] 0 (Nat.le_refl _) (Nat.zero_le _) rfl) B (some ad) n c xs rfl (HR.out.alloc hB _) h1 (by simp only [maxLen] at hcap ⊢; omega) (by omega) (by simp) ?_; intro v' w' hown hbel hg _)
    go_ret
    exact ⟨_, rfl, by simpa using hown, ((Below.refl _ _).alloc (Nat.le_refl _) _).trans hbel⟩

end Go.Proofs.Ytockodmbhnlheaa
