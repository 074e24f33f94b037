/-
  THE closed fact 'weighed'.
-/
import Derived.Test.YtockodmbhnlheaaBankrupt
namespace Go.Proofs.Ytockodmbhnlheaa
open Go.RowKit

set_option maxHeartbeats 2000000 in
theorem weighed_any (w : World) : Calls Try.prog 58 #[] w fun e w' => e = .returned (.bool true) ∧ Below w.heap.size w w' := by
  have F1 := Lib.hid (show marginsOf ⟨0, -900, [10]⟩ [100] = (100, 50, 0) by decide +kernel)
  have F2 := Lib.hid (show soundOf ⟨0, -900, [10]⟩ [100] = (true, true, 0) by decide +kernel)
  have F3 := Lib.hid (show bankruptOf ⟨0, -900, [10]⟩ [100] 0 = (90, 0) by decide +kernel)
  have F4 := Lib.hid (show markOf ⟨zeroBk, 100, 200⟩ = (100, 0) by decide +kernel)
  go_enter Try.func58, Try.ntmps58
  go_wp2_with fail
  have R0 : Rd (w.alloc (.cells #[.int .i64 10] 3)) (w.heap.size + 1) 1 (some ⟨w.heap.size, 0, none⟩) 1 1 (ints [10]) := Rd.new w #[.int .i64 10] 3 1 rfl (by decide)
  have B0 := Blk.new_at (w.alloc (.cells #[.int .i64 10] 3)) 37 #[.int .i64 0, .int .i64 (-900), .slice (some ⟨w.heap.size, 0, none⟩) 1 1] (w.heap.size + 1) (by simp)
  have R1 := R0.alloc (by simp) (.cells #[.int .i64 0, .int .i64 (-900), .slice (some ⟨w.heap.size, 0, none⟩) 1 1] 37)
  obtain ⟨W, hW⟩ : ∃ W, W = (w.alloc (.cells #[.int .i64 10] 3)).alloc (.cells #[.int .i64 0, .int .i64 (-900), .slice (some ⟨w.heap.size, 0, none⟩) 1 1] 37) := ⟨_, rfl⟩
  have hs : W.heap.size = w.heap.size + 2 := by rw [hW]; simp
  have hb : Below w.heap.size w W := by rw [hW]; exact ((Below.refl _ _).alloc (Nat.le_refl _) _).alloc (by simp) _
  rw [← hW] at B0 R1
  rw [← hW]
  clear hW R0
  refine (margins_any ⟨0, -900, [10]⟩ _ _ _ _ _ [100] _ _ _ (R1.alloc (by omega) _) (by simp <;> omega) (Rd.new_at W #[.int .i64 100] 3 _ 1 (by omega) rfl (by decide)) (by simp <;> omega)).mono ?_
  rw [F1.out]
  rintro e w1 ⟨rfl, hb1⟩
  have hs1 : W.heap.size < w1.heap.size := by have := hb1.size; simp at this; omega
  have B1 := (B0.alloc (.cells #[.int .i64 100] 3)).below hb1 (by simp <;> omega)
  have R2 := (R1.alloc (by omega) (.cells #[.int .i64 100] 3)).below (hb1.mono (by simp <;> omega))
  have hw1 : Below w.heap.size w w1 := (hb.alloc (by omega) _).trans (hb1.mono (by simp <;> omega))
  clear hb1
  obtain ⟨⟨b0, b1, b2⟩, _⟩ := B1.c3
  go_wp2_with fail
  clear b0 b1 b2
  refine (sound_any ⟨0, -900, [10]⟩ _ _ _ _ _ [100] _ _ _ (R2.alloc (by omega) _) (by simp <;> omega) (Rd.new_at w1 #[.int .i64 100] 3 _ 1 (by omega) rfl (by decide)) (by simp <;> omega)).mono ?_
  rw [F2.out]
  rintro e w2 ⟨rfl, hb2⟩
  have hs2 : w1.heap.size < w2.heap.size := by have := hb2.size; simp at this; omega
  have B2 := (B1.alloc (.cells #[.int .i64 100] 3)).below hb2 (by simp <;> omega)
  have R3 := (R2.alloc (by omega) (.cells #[.int .i64 100] 3)).below (hb2.mono (by simp <;> omega))
  have hw2 : Below w.heap.size w w2 := (hw1.alloc (by omega) _).trans (hb2.mono (by simp <;> omega))
  clear hb2
  obtain ⟨⟨b0, b1, b2⟩, _⟩ := B2.c3
  go_wp2_with fail
  clear b0 b1 b2
  refine (bankrupt_any ⟨0, -900, [10]⟩ _ _ _ _ _ [100] 0 _ _ _ (R3.alloc (by omega) _) (by simp <;> omega) (Rd.new_at w2 #[.int .i64 100] 3 _ 1 (by omega) rfl (by decide)) (by simp <;> omega)).mono ?_
  rw [F3.out]
  rintro e w3 ⟨rfl, hb3⟩
  have hs3 : w2.heap.size < w3.heap.size := by have := hb3.size; simp at this; omega
  have B3 := (B2.alloc (.cells #[.int .i64 100] 3)).below hb3 (by simp <;> omega)
  have R4 := (R3.alloc (by omega) (.cells #[.int .i64 100] 3)).below (hb3.mono (by simp <;> omega))
  have hw3 : Below w.heap.size w w3 := (hw2.alloc (by omega) _).trans (hb3.mono (by simp <;> omega))
  clear hb3
  go_wp2_with fail
  refine (mark_any ⟨zeroBk, 100, 200⟩ _ _ _ _ 0 _ (Rd.none_ _ _ _) (Rd.none_ _ _ _) (by omega) (by decide) (by decide)).mono ?_
  rw [F4.out]
  rintro e w4 ⟨rfl, hb4⟩
  go_wp2_with fail
  go_ret
  exact ⟨rfl, hw3.trans (hb4.mono (by omega))⟩

end Go.Proofs.Ytockodmbhnlheaa
