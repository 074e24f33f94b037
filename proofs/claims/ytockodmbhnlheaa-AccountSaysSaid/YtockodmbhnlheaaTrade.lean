/-
  THE WALK of account.Trade.
-/
import Derived.Test.YtockodmbhnlheaaAcc
import Derived.Test.YtockodmbhnlheaaTradePure
import Derived.RegionTactic
import Derived.ChangeAlike
namespace Go.Proofs.Ytockodmbhnlheaa
open Go.RowKit

/-- an account handed back, or an error. -/
def RetTrade (w : World) (r : Ac × Int) (e : Ending) (w' : World) : Prop :=
  ∃ A c, e = .returned (.tuple #[.agg #[.int .i64 r.1.id, .int .i64 r.1.bal, .slice A r.1.pos.length c], .int .i64 r.2]) ∧ w'.ownsRow w.heap.size 3 1 (.slice A r.1.pos.length c) r.1.pos.length (ints r.1.pos) ∧ Below w.heap.size w w'

theorem retTrade_err {w w' : World} {e : Int} (hb : Below w.heap.size w w') : RetTrade w (zeroAc, e) (.returned (.tuple #[.agg #[.int .i64 0, .int .i64 0, .slice none 0 0], .int .i64 e])) w' :=
  ⟨none, 0, rfl, World.ownsRow_nil _ _ _ _, hb⟩

set_option maxHeartbeats 2000000 in
theorem trade_bad1 (a : Ac) (A : Option Addr) (c : Nat) (m q p f : Int) (B : Nat) (w : World) (h : Rd w B 1 A a.pos.length c (ints a.pos)) (hB : B ≤ w.heap.size) (h0 : accCheck a.id a.bal a.pos a.pos.length ≠ 0) :
    Calls Try.prog 41 #[.agg #[.int .i64 a.id, .int .i64 a.bal, .slice A a.pos.length c], .int .i64 m, .int .i64 q, .int .i64 p, .int .i64 f] w (RetTrade w (tradeOf a m q p f)) := by
  have HE := Lib.hid (show tradeOf a m q p f = (zeroAc, accCheck a.id a.bal a.pos a.pos.length) by unfold tradeOf; rw [if_pos h0])
  have h1 : (accCheck a.id a.bal a.pos a.pos.length != 0) = true := by simpa using h0
  clear h0
  go_enter Try.func41, Try.ntmps41
  go_wp2_with fail
  refine (accCheck_any _ _ _ _ _ _ _ _ _ ((h.alloc hB _).alloc (by simp; omega) _) (by simp; omega)).mono ?_
  rintro e w1 ⟨rfl, hb1⟩
  obtain ⟨⟨c0, c1, c2⟩, d0, d1, d2⟩ := ((Blk.new (w.alloc (.cells #[.int .i64 a.id, .int .i64 a.bal, .slice A a.pos.length c] 37)) 37 #[.int .i64 0, .int .i64 0, .slice none 0 0]).below hb1 (by simp)).c3
  simp only [World.size_alloc] at c0 c1 c2 d0 d1 d2
  go_wp2_with fail
  refine bodyPost_ret (v := .tuple #[.agg #[.int .i64 0, .int .i64 0, .slice none 0 0], .int .i64 (accCheck a.id a.bal a.pos a.pos.length)]) (by simp [results, Try.results41, go_sem, *]) rfl ?_
  rw [HE.out]
  refine retTrade_err ?_
  have h9 : Below w.heap.size w w1 := (((Below.refl _ _).alloc (Nat.le_refl _) _).alloc (by simp) _).trans (hb1.mono (by simp; omega))
  repeat (first | exact h9 | refine Below.setCell ?_ (by simp) _)

set_option maxHeartbeats 2000000 in
theorem trade_bad2 (a : Ac) (A : Option Addr) (c : Nat) (m q p f : Int) (B : Nat) (w : World) (h : Rd w B 1 A a.pos.length c (ints a.pos)) (hB : B ≤ w.heap.size) (h0 : accCheck a.id a.bal a.pos a.pos.length = 0) (h1 : m < 0 ∨ (a.pos.length : Int) ≤ m) :
    Calls Try.prog 41 #[.agg #[.int .i64 a.id, .int .i64 a.bal, .slice A a.pos.length c], .int .i64 m, .int .i64 q, .int .i64 p, .int .i64 f] w (RetTrade w (tradeOf a m q p f)) := by
  have HE := Lib.hid (show tradeOf a m q p f = (zeroAc, 5) by unfold tradeOf; rw [if_neg (by rw [h0]; simp), if_pos h1])
  have HC := Lib.hid h0
  clear h0
  rcases h1 with h1 | h1
  all_goals
    go_enter Try.func41, Try.ntmps41
    go_wp2_with fail
    refine (accCheck_any _ _ _ _ _ _ _ _ _ ((h.alloc hB _).alloc (by simp; omega) _) (by simp; omega)).mono ?_
    rintro e w1 ⟨rfl, hb1⟩
    rw [HC.out]
    obtain ⟨⟨c0, c1, c2⟩, d0, d1, d2⟩ := ((Blk.new (w.alloc (.cells #[.int .i64 a.id, .int .i64 a.bal, .slice A a.pos.length c] 37)) 37 #[.int .i64 0, .int .i64 0, .slice none 0 0]).below hb1 (by simp)).c3
    obtain ⟨⟨b0, b1, b2⟩, e0, e1, e2⟩ := (((Blk.new w 37 #[.int .i64 a.id, .int .i64 a.bal, .slice A a.pos.length c]).alloc (.cells #[.int .i64 0, .int .i64 0, .slice none 0 0] 37)).below hb1 (by simp; omega)).c3
    simp only [World.size_alloc] at c0 c1 c2 d0 d1 d2
    have hz1 : w.heap.size + 1 < w1.heap.size := by have := hb1.size; simp at this; omega
    go_wp2_with fail
    refine bodyPost_ret (v := .tuple #[.agg #[.int .i64 0, .int .i64 0, .slice none 0 0], .int .i64 5]) (by simp [results, Try.results41, go_sem, *]) rfl ?_
    rw [HE.out]
    refine retTrade_err ?_
    have h9 : Below w.heap.size w w1 := (((Below.refl _ _).alloc (Nat.le_refl _) _).alloc (by simp) _).trans (hb1.mono (by simp; omega))
    repeat (first | exact h9 | refine Below.setCell ?_ (by simp) _)

set_option maxHeartbeats 2000000 in
theorem trade_bad3 (a : Ac) (A : Option Addr) (c : Nat) (m q p f : Int) (B : Nat) (w : World) (h : Rd w B 1 A a.pos.length c (ints a.pos)) (hB : B ≤ w.heap.size) (h0 : accCheck a.id a.bal a.pos a.pos.length = 0) (h1 : 0 ≤ m ∧ m < (a.pos.length : Int)) (h2 : worthOf q p = (0, 3)) :
    Calls Try.prog 41 #[.agg #[.int .i64 a.id, .int .i64 a.bal, .slice A a.pos.length c], .int .i64 m, .int .i64 q, .int .i64 p, .int .i64 f] w (RetTrade w (tradeOf a m q p f)) := by
  have HE := Lib.hid (show tradeOf a m q p f = (zeroAc, 3) by unfold tradeOf; rw [if_neg (by rw [h0]; simp), if_neg (by omega), h2]; rfl)
  have HC := Lib.hid h0
  have HW := Lib.hid h2
  obtain ⟨h3, h4⟩ := h1
  clear h0 h2
  go_enter Try.func41, Try.ntmps41
  go_wp2_with fail
  refine (accCheck_any _ _ _ _ _ _ _ _ _ ((h.alloc hB _).alloc (by simp; omega) _) (by simp; omega)).mono ?_
  rintro e w1 ⟨rfl, hb1⟩
  rw [HC.out]
  obtain ⟨⟨c0, c1, c2⟩, d0, d1, d2⟩ := ((Blk.new (w.alloc (.cells #[.int .i64 a.id, .int .i64 a.bal, .slice A a.pos.length c] 37)) 37 #[.int .i64 0, .int .i64 0, .slice none 0 0]).below hb1 (by simp)).c3
  obtain ⟨⟨b0, b1, b2⟩, e0, e1, e2⟩ := (((Blk.new w 37 #[.int .i64 a.id, .int .i64 a.bal, .slice A a.pos.length c]).alloc (.cells #[.int .i64 0, .int .i64 0, .slice none 0 0] 37)).below hb1 (by simp; omega)).c3
  simp only [World.size_alloc] at c0 c1 c2 d0 d1 d2
  have hz1 : w.heap.size + 1 < w1.heap.size := by have := hb1.size; simp at this; omega
  go_wp2_with fail
  refine (worth_any _ _ _).mono ?_
  rintro e w' ⟨rfl, rfl⟩
  rw [HW.out]
  go_wp2_with fail
  refine bodyPost_ret (v := .tuple #[.agg #[.int .i64 0, .int .i64 0, .slice none 0 0], .int .i64 3]) (by simp [results, Try.results41, go_sem, *]) rfl ?_
  rw [HE.out]
  refine retTrade_err ?_
  have h9 : Below w.heap.size w w1 := (((Below.refl _ _).alloc (Nat.le_refl _) _).alloc (by simp) _).trans (hb1.mono (by simp; omega))
  repeat (first | exact h9 | refine Below.setCell ?_ (by simp) _)

set_option maxHeartbeats 2000000 in
theorem trade_bad4 (a : Ac) (A : Option Addr) (c : Nat) (m q p f : Int) (B : Nat) (w : World) (h : Rd w B 1 A a.pos.length c (ints a.pos)) (hB : B ≤ w.heap.size) (h0 : accCheck a.id a.bal a.pos a.pos.length = 0) (h1 : 0 ≤ m ∧ m < (a.pos.length : Int)) (h2 : worthOf q p = (q * p, 0)) (hw : -10000000 ≤ q * p ∧ q * p ≤ 10000000) (g s es : Int) (hg : -clampFee f = g)
    (hf : f < -1000000000001 ∧ g = 1000000000001 ∨ (-1000000000001 ≤ f ∧ f ≤ 1000000000001) ∧ g = -f ∨ 1000000000001 < f ∧ g = -1000000000001) (h3 : addAll [a.bal, -(q * p), g] = (s, es)) (h5 : es ≠ 0) :
    Calls Try.prog 41 #[.agg #[.int .i64 a.id, .int .i64 a.bal, .slice A a.pos.length c], .int .i64 m, .int .i64 q, .int .i64 p, .int .i64 f] w (RetTrade w (tradeOf a m q p f)) := by
  have HE := Lib.hid (show tradeOf a m q p f = (zeroAc, es) by rw [trade_sum h0 h1 h2 hg h3, if_pos h5])
  have HC := Lib.hid h0
  have HW := Lib.hid h2
  have HS := Lib.hid h3
  have hes : (es != 0) = true := by simpa using h5
  have hbal := (accCheck_ok h0).2.2.2.1
  obtain ⟨h6, h4⟩ := h1
  clear h0 h2 h3 h5 hg
  obtain ⟨hw1, hw2⟩ := hw
  rcases hf with ⟨hf, rfl⟩ | ⟨⟨hf, hf'⟩, rfl⟩ | ⟨hf, rfl⟩
  all_goals
    go_enter Try.func41, Try.ntmps41
    go_wp2_with fail
    refine (accCheck_any _ _ _ _ _ _ _ _ _ ((h.alloc hB _).alloc (by simp; omega) _) (by simp; omega)).mono ?_
    rintro e w1 ⟨rfl, hb1⟩
    rw [HC.out]
    obtain ⟨⟨c0, c1, c2⟩, d0, d1, d2⟩ := ((Blk.new (w.alloc (.cells #[.int .i64 a.id, .int .i64 a.bal, .slice A a.pos.length c] 37)) 37 #[.int .i64 0, .int .i64 0, .slice none 0 0]).below hb1 (by simp)).c3
    obtain ⟨⟨b0, b1, b2⟩, e0, e1, e2⟩ := (((Blk.new w 37 #[.int .i64 a.id, .int .i64 a.bal, .slice A a.pos.length c]).alloc (.cells #[.int .i64 0, .int .i64 0, .slice none 0 0] 37)).below hb1 (by simp; omega)).c3
    simp only [World.size_alloc] at c0 c1 c2 d0 d1 d2
    have hz1 : w.heap.size + 1 < w1.heap.size := by have := hb1.size; simp at this; omega
    go_wp2_with fail
    refine (worth_any _ _ _).mono ?_
    rintro e w' ⟨rfl, rfl⟩
    rw [HW.out]
    go_wp2_with fail
    refine (add_any _ _ _ [a.bal, -(q * p), _] _ _ (Rd.new_at w1 _ _ _ 3 rfl rfl (by decide))).mono ?_
    rintro e w' ⟨rfl, rfl⟩
    rw [HS.out]
    go_wp2_with fail
    refine bodyPost_ret (v := .tuple #[.agg #[.int .i64 0, .int .i64 0, .slice none 0 0], .int .i64 es]) (by simp [results, Try.results41, go_sem, *]) rfl ?_
    rw [HE.out]
    refine retTrade_err ?_
    have h9 : Below w.heap.size w w1 := (((Below.refl _ _).alloc (Nat.le_refl _) _).alloc (by simp) _).trans (hb1.mono (by simp; omega))
    repeat (first | exact h9 | refine Below.setCell ?_ (by simp) _ | refine Below.alloc ?_ (by simp [World.setCell]; omega) _)

end Go.Proofs.Ytockodmbhnlheaa
