/-
  THE closed fact 'paid'.
-/
import Derived.Test.YtockodmbhnlheaaSettle
namespace Go.Proofs.Ytockodmbhnlheaa
open Go.RowKit

def paidL : List Ac := [⟨0, 0, [7]⟩, ⟨1, 0, [-7]⟩]
theorem rd_paid (w : World) (t t' t'' : TypeId) :
    RdL shAcc (((w.alloc (.cells #[.int .i64 7] t)).alloc (.cells #[.int .i64 (-7)] t')).alloc (.cells #[.int .i64 0, .int .i64 0, .slice (some ⟨w.heap.size, 0, none⟩) 1 1, .int .i64 1, .int .i64 0, .slice (some ⟨w.heap.size + 1, 0, none⟩) 1 1] t''))
      (w.heap.size + 1 + 1 + 1) (some ⟨w.heap.size + 1 + 1, 0, none⟩) 2 2 paidL := by
  have h1 : Rd (((w.alloc (.cells #[.int .i64 7] t)).alloc (.cells #[.int .i64 (-7)] t')).alloc (.cells #[.int .i64 0, .int .i64 0, .slice (some ⟨w.heap.size, 0, none⟩) 1 1, .int .i64 1, .int .i64 0, .slice (some ⟨w.heap.size + 1, 0, none⟩) 1 1] t''))
      (w.heap.size + 1 + 1 + 1) 1 (some ⟨w.heap.size, 0, none⟩) 1 1 (ints [7]) :=
    ((((Rd.new w #[.int .i64 7] t 1 rfl (by decide)).alloc (by simp) _).alloc (by simp) _).up (by omega))
  have h2 : Rd (((w.alloc (.cells #[.int .i64 7] t)).alloc (.cells #[.int .i64 (-7)] t')).alloc (.cells #[.int .i64 0, .int .i64 0, .slice (some ⟨w.heap.size, 0, none⟩) 1 1, .int .i64 1, .int .i64 0, .slice (some ⟨w.heap.size + 1, 0, none⟩) 1 1] t''))
      (w.heap.size + 1 + 1 + 1) 1 (some ⟨w.heap.size + 1, 0, none⟩) 1 1 (ints [-7]) :=
    (((Rd.new_at (w.alloc (.cells #[.int .i64 7] t)) #[.int .i64 (-7)] t' _ 1 (by simp) rfl (by decide)).alloc (by simp) _).up (by omega))
  have hb := Blk.new ((w.alloc (.cells #[.int .i64 7] t)).alloc (.cells #[.int .i64 (-7)] t')) t'' #[.int .i64 0, .int .i64 0, .slice (some ⟨w.heap.size, 0, none⟩) 1 1, .int .i64 1, .int .i64 0, .slice (some ⟨w.heap.size + 1, 0, none⟩) 1 1]
  simp only [World.size_alloc] at hb
  refine ⟨rfl, by decide, by decide, nofun, fun _ => ⟨w.heap.size + 1 + 1, 0, rfl, by omega, fun i a ha => ?_⟩⟩
  rcases (show i = 0 ∨ i = 1 ∨ 2 ≤ i by omega) with rfl | rfl | h
  · simp [paidL] at ha
    subst ha
    exact ⟨_, _, hb.cell 0, hb.cell 1, hb.cell 2, h1, by decide⟩
  · simp [paidL] at ha
    subst ha
    exact ⟨_, _, hb.cell 3, hb.cell 4, hb.cell 5, h2, by decide⟩
  · rw [List.getElem?_eq_none (by simpa [paidL] using h)] at ha; cases ha

set_option maxHeartbeats 1000000 in
theorem paid_any (w : World) : Calls Try.prog 39 #[] w fun e w' => e = .returned (.bool true) ∧ Below w.heap.size w w' := by
  go_enter Try.func39, Try.ntmps39
  go_wp2_with fail
  have h0 := rd_paid w 3 3 37
  refine (settle_any _ _ _ paidL _ _ _ _ (h0.up (by simp))).mono ?_
  rw [show settleOf paidL 0 100 10 = ([⟨0, -1, [7]⟩, ⟨1, 0, [-7]⟩], 1, 0) by rfl]
  rintro e w1 ⟨A, c, rfl, h1, hb1⟩
  obtain ⟨b, o, hA, hb, hr⟩ := h1.at_ (by decide)
  obtain ⟨A2, c2, k0, k1, k2, _⟩ := hr 0 ⟨0, -1, [7]⟩ rfl
  obtain ⟨A3, c3, j0, j1, j2, _⟩ := hr 1 ⟨1, 0, [-7]⟩ rfl
  subst hA
  have l1 : w1.cell? ⟨b, o + 1, none⟩ = some (.int .i64 (-1)) := k1
  have l2 : w1.cell? ⟨b, o + 3 + 1, none⟩ = some (.int .i64 0) := by simpa [show shAcc.k = 3 from rfl] using j1
  clear k0 k1 k2 j0 j1 j2 hr h1 h0
  have hbb : Below w.heap.size w w1 := ((((Below.refl _ _).alloc (Nat.le_refl _) _).alloc (by simp) _).alloc (by simp; omega) _).trans (hb1.mono (by simp; omega))
  clear hb1
  simp only [List.length_cons, List.length_nil, Nat.zero_add, Nat.reduceAdd]
  go_wp2_with fail
  go_ret
  exact ⟨rfl, hbb⟩

end Go.Proofs.Ytockodmbhnlheaa
