/-
  THE WALK of the law FixSays.
-/
import Derived.Test.YtockodmbhnlheaaFixPartsW
import Derived.Test.YtockodmbhnlheaaRefFix
import Derived.Test.YtockodmbhnlheaaMed
import Derived.Test.YtockodmbhnlheaaShelfInts
import Derived.Test.YtockodmbhnlheaaApp
import Derived.Test.YtockodmbhnlheaaFind
namespace Go.Proofs.Ytockodmbhnlheaa
open Go.RowKit Go.Sort

/-- a row is put in order: below nothing has turned. -/
theorem below_put {w W : World} {B n blk off : Nat} {d : Array Int} {os : Array Obj} (h : Below B w W) (hb : B ≤ blk) (hB : B ≤ W.heap.size) : Below B w (grow (putRow (Value.int .i64) (Sort.ahead W n) blk off d) os) := by
  refine h.trans ⟨rfl, rfl, rfl, by simp [grow, putRow, mapBlock, Sort.ahead], fun k hk => ?_⟩
  have h1 : k ≠ blk := by omega
  by_cases hs : k < W.heap.size
  · rw [heap_grow_old _ _ (by simpa [putRow, mapBlock, Sort.ahead] using hs)]
    simp [putRow, mapBlock, Sort.ahead, Array.getElem?_modify, Ne.symm h1]
  · omega
theorem holds3 {W : World} {g : Nat} {t : TypeId} {a b c : Int} (h : Blk W g t #[.int .i64 a, .int .i64 b, .int .i64 c]) : Holds (Value.int .i64) W g 0 [a, b, c].toArray := by
  intro j hj
  obtain ⟨⟨k0, k1, k2⟩, f0, f1, f2⟩ := h.c3
  have hj' : j < 3 := by simpa using hj
  rcases (show j = 0 ∨ j = 1 ∨ j = 2 by omega) with rfl | rfl | rfl
  · exact ⟨k0, f0⟩
  · exact ⟨k1, f1⟩
  · exact ⟨k2, f2⟩
set_option maxHeartbeats 1000000 in
theorem rmiddle_any (a b c : Int) (w : World) :
    Calls Try.prog 80 #[.int .i64 a, .int .i64 b, .int .i64 c] w fun e w' => e = .returned (.int .i64 (midI a b c)) ∧ Below w.heap.size w w' := by
  obtain ⟨x, y, z, hm, hy⟩ := med_sorted a b c
  have HM := Lib.hid hm
  have HY := Lib.hid hy
  clear hm hy
  go_enter Try.func80, Try.ntmps80
  go_wp2_with fail
  refine calls_name ?_
  intro W hW
  have hbW : Below w.heap.size w W := by rw [hW]; exact (Below.refl _ _).alloc (Nat.le_refl _) _
  have hsW : W.heap.size = w.heap.size + 1 := by rw [hW]; simp
  have X1 : Blk W w.heap.size 3 #[.int .i64 a, .int .i64 b, .int .i64 c] := by rw [hW]; exact Blk.new w _ _
  clear hW
  have HH := Lib.hid (holds3 X1)
  refine (Try.sort_Ints w.heap.size 0 3 [a, b, c] W HH.out (by omega) (by simp)).mono ?_
  rintro e w2 ⟨rfl, nn, os, rfl⟩
  rw [HM.out]
  obtain ⟨w2, hw2⟩ : ∃ w2, w2 = grow (putRow (Value.int .i64) (Sort.ahead W nn) w.heap.size 0 [x, y, z].toArray) os := ⟨_, rfl⟩
  rw [← hw2]
  have hb2 : Below w.heap.size w w2 := by rw [hw2]; exact below_put hbW (Nat.le_refl _) (by omega)
  have k1 : w2.cell? ⟨w.heap.size, 1, none⟩ = some (.int .i64 y) := by
    rw [hw2, cell?_grow _ _ _ (by show w.heap.size < _; simp [putRow, mapBlock, Sort.ahead, hsW])]
    exact cell?_putRow (Value.int .i64) (Sort.ahead W nn) w.heap.size 0 [a, b, c].toArray [x, y, z].toArray (holds_ahead _ _ _ _ _ _ HH.out) rfl 1 (by show 1 < 3; omega)
  clear hw2
  go_wp2_with fail
  go_ret
  exact ⟨ret_ii HY.out, hb2⟩

/-- the middle one, spelt twice. -/
theorem mid_mid (a b c : Int) : midOf a b c = midI a b c := rfl
theorem beq_self' (x : Int) : (x == x) = true := by simp
set_option maxHeartbeats 2000000 in
set_option maxRecDepth 100000 in
theorem fixSays_walk (A : Option Addr) (m c : Nat) (l : List Int) (n a b : Int) (up : Bool) (q p : Int) (w : World) (h : Rd w w.heap.size 1 A m c (ints l)) :
    Calls Try.prog 17 #[.slice A m c, .int .i64 n, .int .i64 a, .int .i64 b, .bool up, .int .i64 q, .int .i64 p] w fun e w' => e = .returned (.bool true) ∧ Below w.heap.size w w' := by
  obtain ⟨s, es, hs⟩ : ∃ s es, addAll l = (s, es) := ⟨_, _, rfl⟩
  obtain ⟨r, er, hr⟩ : ∃ s es, partOf n a b up = (s, es) := ⟨_, _, rfl⟩
  obtain ⟨t, et, ht⟩ : ∃ s es, worthOf q p = (s, es) := ⟨_, _, rfl⟩
  have HS := Lib.hid hs
  have HR := Lib.hid hr
  have HT := Lib.hid ht
  clear hs hr ht
  go_enter Try.func17, Try.ntmps17
  go_wp2_with fail
  refine (add_any _ _ _ l _ _ h).mono ?_
  rintro e w' ⟨rfl, rfl⟩
  rw [HS.out]
  go_wp2_with fail
  refine (part_any _ _ _ _ _).mono ?_
  rintro e w' ⟨rfl, rfl⟩
  rw [HR.out]
  go_wp2_with fail
  refine (worth_any _ _ _).mono ?_
  rintro e w' ⟨rfl, rfl⟩
  rw [HT.out]
  go_wp2_with fail
  refine (radd_any _ _ _ l _ _ h).mono ?_
  rintro e w' ⟨rfl, rfl⟩
  rw [HS.out]
  go_wp2_with fail
  refine (rpart_any _ _ _ _ _).mono ?_
  rintro e w' ⟨rfl, rfl⟩
  rw [HR.out]
  go_wp2_with fail
  refine (rworth_any _ _ _).mono ?_
  rintro e w' ⟨rfl, rfl⟩
  rw [HT.out]
  go_wp2_with fail
  refine (reckoned_any _).mono ?_
  rintro e w1 ⟨rfl, hb1⟩
  go_wp2_with fail
  refine (money_any _ _).mono ?_
  rintro e w' ⟨rfl, rfl⟩
  go_wp2_with fail
  refine (rmoney_any _ _).mono ?_
  rintro e w' ⟨rfl, rfl⟩
  go_wp2_with fail
  refine (middle_any _ _ _ _).mono ?_
  rintro e w' ⟨rfl, rfl⟩
  go_wp2_with fail
  refine (rmiddle_any _ _ _ _).mono ?_
  rintro e w2 ⟨rfl, hb2⟩
  rw [← mid_mid]
  go_wp2_with fail
  go_ret
  exact ⟨rfl, hb1.trans (hb2.mono hb1.size)⟩
end Go.Proofs.Ytockodmbhnlheaa
