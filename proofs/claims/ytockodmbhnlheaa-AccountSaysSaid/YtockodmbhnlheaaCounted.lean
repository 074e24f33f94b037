/-
  THE closed fact 'counted'.
-/
import Derived.Test.YtockodmbhnlheaaTradeG
import Derived.Test.YtockodmbhnlheaaEquity
import Derived.Test.YtockodmbhnlheaaFee
namespace Go.Proofs.Ytockodmbhnlheaa
open Go.RowKit

set_option maxHeartbeats 2000000 in
theorem counted_any (w : World) : Calls Try.prog 42 #[] w fun e w' => e = .returned (.bool true) ∧ Below w.heap.size w w' := by
  go_enter Try.func42, Try.ntmps42
  go_wp2_with fail
  refine (trade_any ⟨2, 100, [0]⟩ _ _ _ _ _ _ (w.heap.size + 1) _ (Rd.new w #[.int .i64 0] 3 1 rfl (by decide)) (by simp)).mono ?_
  rw [show tradeOf ⟨2, 100, [0]⟩ 0 10 100 3 = (⟨2, -903, [10]⟩, 0) by rfl]
  rintro e w1 ⟨A, c, rfl, h1, hb1⟩
  go_wp2_with fail
  have hs1 : w.heap.size < w1.heap.size := by have := hb1.size; simp at this; omega
  have h9 : Below w.heap.size w w1 := ((Below.refl _ _).alloc (Nat.le_refl _) _).trans (hb1.mono (by simp))
  have hr1 : Rd w1 w1.heap.size 1 A 1 c (ints [10]) := Rd.of_own h1
  have hA : ∃ g, A = some ⟨g, 0, none⟩ := by
    obtain ⟨_, ⟨_, hn⟩ | ⟨g, cap, cur, hv, _⟩⟩ := h1
    · cases hn
    · injection hv with hA; exact ⟨g, hA⟩
  obtain ⟨g, rfl⟩ := hA
  obtain ⟨b, o, hA, hb, hc⟩ := hr1.one (j := 0) (u := .int .i64 10) rfl
  cases hA
  refine (equity_any ⟨2, -903, [10]⟩ _ _ _ _ _ [101] w1.heap.size (w1.heap.size + 1 + 1) _ ((hr1.alloc (Nat.le_refl _) _).alloc (by simp) _) (by simp; omega) (Rd.new_at (w1.alloc _) #[.int .i64 101] 3 _ 1 (by simp) rfl (by decide)) (by simp)).mono ?_
  rw [show equityOf ⟨2, -903, [10]⟩ [101] = (107, 0) by rfl]
  rintro e w2 ⟨rfl, hb2⟩
  obtain ⟨⟨k0, k1, k2⟩, _⟩ := (((Blk.new w1 37 #[.int .i64 2, .int .i64 (-903), .slice (some ⟨g, 0, none⟩) 1 c]).alloc (.cells #[.int .i64 101] 3)).below hb2 (by simp; omega)).c3
  have kc : w2.cell? ⟨g, 0, none⟩ = some (.int .i64 10) := by
    obtain ⟨b, o, hA, _, hc⟩ := (((hr1.alloc (Nat.le_refl _) (.cells #[.int .i64 2, .int .i64 (-903), .slice (some ⟨g, 0, none⟩) 1 c] 37)).alloc (by simp) (.cells #[.int .i64 101] 3)).below (hb2.mono (by simp; omega))).one (j := 0) (u := .int .i64 10) rfl
    cases hA; exact hc
  go_wp2_with fail
  refine (fee_any _ _ _).mono ?_
  rw [show feeOf (-10) 1000 = (5, 0) by rfl]
  rintro e w' ⟨rfl, rfl⟩
  go_wp2_with fail
  go_ret
  exact ⟨rfl, h9.trans ((((Below.refl _ _).alloc (by omega) _).alloc (by simp; omega) _).trans (hb2.mono (by simp; omega)))⟩

end Go.Proofs.Ytockodmbhnlheaa
