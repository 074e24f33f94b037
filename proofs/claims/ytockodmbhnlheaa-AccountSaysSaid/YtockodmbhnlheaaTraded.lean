/-
  THE WALK over the document's Traded.
-/
import Derived.Test.YtockodmbhnlheaaRefAcc
import Derived.Test.YtockodmbhnlheaaRefOwn
import Derived.Test.YtockodmbhnlheaaTrade
import Derived.Test.YtockodmbhnlheaaEvenPure
import Derived.Deep.DeepCutAuto
namespace Go.Proofs.Ytockodmbhnlheaa
open Go.RowKit

theorem bool_or (b : Bool) : b = false ∨ b = true := by cases b <;> simp
/-- where a trade comes as far as the sum, in the document's order. -/
theorem trade_rest {a : Ac} {m q p f : Int} (h0 : accCheck a.id a.bal a.pos a.pos.length = 0) (h1 : 0 ≤ m ∧ m < (a.pos.length : Int)) (h2 : worthOf q p = (q * p, 0)) (hw : -10000000 ≤ q * p ∧ q * p ≤ 10000000) :
    tradeOf a m q p f = if isMoney (a.bal - q * p) = false then (zeroAc, 7) else if isMoney f = false then (zeroAc, 3) else if isMoney (a.bal - q * p - f) = false then (zeroAc, 7)
      else if a.pos.getD m.toNat 0 + q < -1000 ∨ 1000 < a.pos.getD m.toNat 0 + q then (zeroAc, 7) else (⟨a.id, a.bal - q * p - f, a.pos.set m.toNat (a.pos.getD m.toNat 0 + q)⟩, 0) := by
  have hbal := (accCheck_ok h0).2.2.2.1
  have hc := clamp_cases f
  obtain ⟨g, hg⟩ : ∃ g, -clampFee f = g := ⟨_, rfl⟩
  obtain ⟨s, es, hs⟩ : ∃ s es, addAll [a.bal, -(q * p), g] = (s, es) := ⟨_, _, rfl⟩
  rw [trade_sum h0 h1 h2 hg hs]
  rw [hg] at hc
  unfold addAll at hs
  simp only [addFrom, Int.zero_add] at hs
  have e1 : a.bal + -(q * p) = a.bal - q * p := by omega
  rw [if_pos (isMoney_iff.2 hbal), if_pos (isMoney_iff.2 hbal), if_pos (isMoney_iff.2 (by omega)), e1] at hs
  cases hm1 : isMoney (a.bal - q * p)
  · rw [hm1] at hs; simp only [if_false, Bool.false_eq_true] at hs
    injection hs with hs1 hs2
    subst hs2; rfl
  · rw [hm1] at hs; simp only [if_true] at hs
    cases hm2 : isMoney f
    · have : isMoney g = false := by rw [isMoney_not] at hm2 ⊢; omega
      rw [this] at hs; simp only [if_false, Bool.false_eq_true] at hs
      injection hs with hs1 hs2
      subst hs2; rfl
    · have h4 := isMoney_iff.1 hm2
      have hgf : g = -f := by omega
      subst hgf
      rw [if_pos (isMoney_iff.2 (by omega))] at hs
      have e2 : a.bal - q * p + -f = a.bal - q * p - f := by omega
      rw [e2] at hs
      cases hm3 : isMoney (a.bal - q * p - f)
      · rw [hm3] at hs; simp only [if_false, Bool.false_eq_true] at hs
        injection hs with hs1 hs2
        subst hs2; rfl
      · rw [hm3] at hs; simp only [if_true] at hs
        injection hs with hs1 hs2
        subst hs1 hs2; rfl

set_option maxHeartbeats 2000000 in
theorem traded_bad1 (a : Ac) (A : Option Addr) (c : Nat) (m q p f : Int) (B : Nat) (w : World) (h : Rd w B 1 A a.pos.length c (ints a.pos)) (hB : B ≤ w.heap.size) (h0 : accCheck a.id a.bal a.pos a.pos.length ≠ 0) :
    Calls Try.prog 46 #[.agg #[.int .i64 a.id, .int .i64 a.bal, .slice A a.pos.length c], .int .i64 m, .int .i64 q, .int .i64 p, .int .i64 f] w (RetTrade w (tradeOf a m q p f)) := by
  have HE := Lib.hid (show tradeOf a m q p f = (zeroAc, accCheck a.id a.bal a.pos a.pos.length) by unfold tradeOf; rw [if_pos h0])
  have h1 : (accCheck a.id a.bal a.pos a.pos.length != 0) = true := by simpa using h0
  clear h0
  go_enter Try.func46, Try.ntmps46
  go_wp2_with fail
  refine (rcheck_any _ _ _ _ _ _ _ _ _ ((h.alloc hB _).alloc (by simp; omega) _) (by simp; omega)).mono ?_
  rintro e w1 ⟨rfl, hb1⟩
  obtain ⟨⟨c0, c1, c2⟩, d0, d1, d2⟩ := ((Blk.new (w.alloc (.cells #[.int .i64 a.id, .int .i64 a.bal, .slice A a.pos.length c] 37)) 37 #[.int .i64 0, .int .i64 0, .slice none 0 0]).below hb1 (by simp)).c3
  simp only [World.size_alloc] at c0 c1 c2 d0 d1 d2
  go_wp2_with fail
  refine bodyPost_ret (v := .tuple #[.agg #[.int .i64 0, .int .i64 0, .slice none 0 0], .int .i64 (accCheck a.id a.bal a.pos a.pos.length)]) (by simp [results, Try.results46, go_sem, *]) rfl ?_
  rw [HE.out]
  refine retTrade_err ?_
  have h9 : Below w.heap.size w w1 := (((Below.refl _ _).alloc (Nat.le_refl _) _).alloc (by simp) _).trans (hb1.mono (by simp; omega))
  repeat (first | exact h9 | refine Below.setCell ?_ (by simp) _)

set_option maxHeartbeats 2000000 in
theorem traded_bad2 (a : Ac) (A : Option Addr) (c : Nat) (m q p f : Int) (B : Nat) (w : World) (h : Rd w B 1 A a.pos.length c (ints a.pos)) (hB : B ≤ w.heap.size) (h0 : accCheck a.id a.bal a.pos a.pos.length = 0) (h1 : m < 0 ∨ (a.pos.length : Int) ≤ m) :
    Calls Try.prog 46 #[.agg #[.int .i64 a.id, .int .i64 a.bal, .slice A a.pos.length c], .int .i64 m, .int .i64 q, .int .i64 p, .int .i64 f] w (RetTrade w (tradeOf a m q p f)) := by
  have HE := Lib.hid (show tradeOf a m q p f = (zeroAc, 5) by unfold tradeOf; rw [if_neg (by rw [h0]; simp), if_pos h1])
  have HC := Lib.hid h0
  clear h0
  rcases h1 with h1 | h1
  all_goals
    go_enter Try.func46, Try.ntmps46
    go_wp2_with fail
    refine (rcheck_any _ _ _ _ _ _ _ _ _ ((h.alloc hB _).alloc (by simp; omega) _) (by simp; omega)).mono ?_
    rintro e w1 ⟨rfl, hb1⟩
    rw [HC.out]
    obtain ⟨⟨c0, c1, c2⟩, d0, d1, d2⟩ := ((Blk.new (w.alloc (.cells #[.int .i64 a.id, .int .i64 a.bal, .slice A a.pos.length c] 37)) 37 #[.int .i64 0, .int .i64 0, .slice none 0 0]).below hb1 (by simp)).c3
    obtain ⟨⟨b0, b1, b2⟩, e0, e1, e2⟩ := (((Blk.new w 37 #[.int .i64 a.id, .int .i64 a.bal, .slice A a.pos.length c]).alloc (.cells #[.int .i64 0, .int .i64 0, .slice none 0 0] 37)).below hb1 (by simp; omega)).c3
    simp only [World.size_alloc] at c0 c1 c2 d0 d1 d2
    have hz1 : w.heap.size + 1 < w1.heap.size := by have := hb1.size; simp at this; omega
    go_wp2_with fail
    refine bodyPost_ret (v := .tuple #[.agg #[.int .i64 0, .int .i64 0, .slice none 0 0], .int .i64 5]) (by simp [results, Try.results46, go_sem, *]) rfl ?_
    rw [HE.out]
    refine retTrade_err ?_
    have h9 : Below w.heap.size w w1 := (((Below.refl _ _).alloc (Nat.le_refl _) _).alloc (by simp) _).trans (hb1.mono (by simp; omega))
    repeat (first | exact h9 | refine Below.setCell ?_ (by simp) _)

set_option maxHeartbeats 2000000 in
theorem traded_bad3 (a : Ac) (A : Option Addr) (c : Nat) (m q p f : Int) (B : Nat) (w : World) (h : Rd w B 1 A a.pos.length c (ints a.pos)) (hB : B ≤ w.heap.size) (h0 : accCheck a.id a.bal a.pos a.pos.length = 0) (h1 : 0 ≤ m ∧ m < (a.pos.length : Int)) (h2 : worthOf q p = (0, 3)) :
    Calls Try.prog 46 #[.agg #[.int .i64 a.id, .int .i64 a.bal, .slice A a.pos.length c], .int .i64 m, .int .i64 q, .int .i64 p, .int .i64 f] w (RetTrade w (tradeOf a m q p f)) := by
  have HE := Lib.hid (show tradeOf a m q p f = (zeroAc, 3) by unfold tradeOf; rw [if_neg (by rw [h0]; simp), if_neg (by omega), h2]; rfl)
  have HC := Lib.hid h0
  have HW := Lib.hid h2
  obtain ⟨h3, h4⟩ := h1
  clear h0 h2
  go_enter Try.func46, Try.ntmps46
  go_wp2_with fail
  refine (rcheck_any _ _ _ _ _ _ _ _ _ ((h.alloc hB _).alloc (by simp; omega) _) (by simp; omega)).mono ?_
  rintro e w1 ⟨rfl, hb1⟩
  rw [HC.out]
  obtain ⟨⟨c0, c1, c2⟩, d0, d1, d2⟩ := ((Blk.new (w.alloc (.cells #[.int .i64 a.id, .int .i64 a.bal, .slice A a.pos.length c] 37)) 37 #[.int .i64 0, .int .i64 0, .slice none 0 0]).below hb1 (by simp)).c3
  obtain ⟨⟨b0, b1, b2⟩, e0, e1, e2⟩ := (((Blk.new w 37 #[.int .i64 a.id, .int .i64 a.bal, .slice A a.pos.length c]).alloc (.cells #[.int .i64 0, .int .i64 0, .slice none 0 0] 37)).below hb1 (by simp; omega)).c3
  simp only [World.size_alloc] at c0 c1 c2 d0 d1 d2
  have hz1 : w.heap.size + 1 < w1.heap.size := by have := hb1.size; simp at this; omega
  go_wp2_with fail
  refine (rworth_any _ _ _).mono ?_
  rintro e w' ⟨rfl, rfl⟩
  rw [HW.out]
  go_wp2_with fail
  refine bodyPost_ret (v := .tuple #[.agg #[.int .i64 0, .int .i64 0, .slice none 0 0], .int .i64 3]) (by simp [results, Try.results46, go_sem, *]) rfl ?_
  rw [HE.out]
  refine retTrade_err ?_
  have h9 : Below w.heap.size w w1 := (((Below.refl _ _).alloc (Nat.le_refl _) _).alloc (by simp) _).trans (hb1.mono (by simp; omega))
  repeat (first | exact h9 | refine Below.setCell ?_ (by simp) _)


set_option maxRecDepth 100000 in
set_option maxHeartbeats 1000000 in
theorem traded_good (a : Ac) (A : Option Addr) (c : Nat) (k : Nat) (z q p f : Int) (B : Nat) (w : World) (h : Rd w B 1 A a.pos.length c (ints a.pos)) (hB : B ≤ w.heap.size) (h0 : accCheck a.id a.bal a.pos a.pos.length = 0) (hk : a.pos[k]? = some z) (h2 : worthOf q p = (q * p, 0)) (hq : -1000 ≤ q ∧ q ≤ 1000) (hw : -10000000 ≤ q * p ∧ q * p ≤ 10000000) :
    Calls Try.prog 46 #[.agg #[.int .i64 a.id, .int .i64 a.bal, .slice A a.pos.length c], .int .i64 k, .int .i64 q, .int .i64 p, .int .i64 f] w (RetTrade w (tradeOf a k q p f)) := by
  have hkl : k < a.pos.length := (List.getElem?_eq_some_iff.1 hk).1
  have hkz : a.pos.getD k 0 = z := by simp [List.getD, hk]
  have HE0 := trade_rest (f := f) h0 (show 0 ≤ (k : Int) ∧ (k : Int) < (a.pos.length : Int) by omega) h2 hw
  rw [Int.toNat_natCast, hkz] at HE0
  have HE := Lib.hid HE0
  clear HE0
  have HC := Lib.hid h0
  have HW := Lib.hid h2
  obtain ⟨hbal1, hbal2⟩ := (accCheck_ok h0).2.2.2.1
  obtain ⟨hz1, hz2⟩ := posOk_get (accCheck_ok h0).2.2.2.2 hk
  have hlen : a.pos.length * 8 ≤ 140737488355328 := by have := (accCheck_ok h0).2.1; omega
  have HK := Lib.hid hk
  obtain ⟨hq1, hq2⟩ := hq
  clear h0 h2 hk hkz
  obtain ⟨hw1, hw2⟩ := hw
  have hki : (k : Int) < (a.pos.length : Int) := by omega
  go_enter Try.func46, Try.ntmps46
  go_wp2_with fail
  have hrd := (h.alloc hB (.cells #[.int .i64 a.id, .int .i64 a.bal, .slice A a.pos.length c] 37)).alloc (by simp; omega) (.cells #[.int .i64 0, .int .i64 0, .slice none 0 0] 37)
  refine (rcheck_any _ _ _ _ _ _ _ _ _ hrd (by simp; omega)).mono ?_
  rintro e w1 ⟨rfl, hb1⟩
  rw [HC.out]
  have B0 := (Blk.new_at (w.alloc (.cells #[.int .i64 a.id, .int .i64 a.bal, .slice A a.pos.length c] 37)) 37 #[.int .i64 0, .int .i64 0, .slice none 0 0] (w.heap.size + 1) (by simp)).below hb1 (by simp)
  have B1 := ((Blk.new w 37 #[.int .i64 a.id, .int .i64 a.bal, .slice A a.pos.length c]).alloc (.cells #[.int .i64 0, .int .i64 0, .slice none 0 0] 37)).below hb1 (by simp; omega)
  have hr1 := hrd.below (hb1.mono (by simp; omega))
  obtain ⟨⟨c0, c1, c2⟩, d0, d1, d2⟩ := B0.c3
  obtain ⟨⟨b0, b1, b2⟩, e0, e1, e2⟩ := B1.c3
  have hzz : w.heap.size + 1 < w1.heap.size := by have := hb1.size; simp at this; omega
  have h9 : Below w.heap.size w w1 := (((Below.refl _ _).alloc (Nat.le_refl _) _).alloc (by simp) _).trans (hb1.mono (by simp; omega))
  clear hb1 hrd
  go_wp2_with fail
  refine (rworth_any _ _ _).mono ?_
  rintro e w' ⟨rfl, rfl⟩
  rw [HW.out]
  go_wp2_with fail
  refine (rmoney_any _ _).mono ?_
  rintro e w' ⟨rfl, rfl⟩
  rcases bool_or (isMoney (a.bal - q * p)) with m1 | m1
  · have HE2 := Lib.hid (show tradeOf a k q p f = (zeroAc, 7) by rw [HE.out, if_pos m1])
    go_wp2_with fail
    refine bodyPost_ret (v := .tuple #[.agg #[.int .i64 0, .int .i64 0, .slice none 0 0], .int .i64 7]) (by simp [results, Try.results46, go_sem, *]) rfl ?_
    rw [HE2.out]
    refine retTrade_err ?_
    repeat (first | exact h9 | refine Below.setCell ?_ (by simp) _)
  have HE := Lib.hid (HE.out.trans (if_neg (by rw [m1]; simp)))
  obtain ⟨m11, m12⟩ := isMoney_iff.1 m1
  go_wp2_with fail
  refine (rmoney_any _ _).mono ?_
  rintro e w' ⟨rfl, rfl⟩
  rcases bool_or (isMoney (f)) with m2 | m2
  · have HE2 := Lib.hid (show tradeOf a k q p f = (zeroAc, 3) by rw [HE.out, if_pos m2])
    go_wp2_with fail
    refine bodyPost_ret (v := .tuple #[.agg #[.int .i64 0, .int .i64 0, .slice none 0 0], .int .i64 3]) (by simp [results, Try.results46, go_sem, *]) rfl ?_
    rw [HE2.out]
    refine retTrade_err ?_
    repeat (first | exact h9 | refine Below.setCell ?_ (by simp) _)
  have HE := Lib.hid (HE.out.trans (if_neg (by rw [m2]; simp)))
  obtain ⟨m21, m22⟩ := isMoney_iff.1 m2
  go_wp2_with fail
  refine (rmoney_any _ _).mono ?_
  rintro e w' ⟨rfl, rfl⟩
  rcases bool_or (isMoney (a.bal - q * p - f)) with m3 | m3
  · have HE2 := Lib.hid (show tradeOf a k q p f = (zeroAc, 7) by rw [HE.out, if_pos m3])
    go_wp2_with fail
    refine bodyPost_ret (v := .tuple #[.agg #[.int .i64 0, .int .i64 0, .slice none 0 0], .int .i64 7]) (by simp [results, Try.results46, go_sem, *]) rfl ?_
    rw [HE2.out]
    refine retTrade_err ?_
    repeat (first | exact h9 | refine Below.setCell ?_ (by simp) _)
  have HE := Lib.hid (HE.out.trans (if_neg (by rw [m3]; simp)))
  go_wp2_with fail
  refine (rown_any _ _ _ _ _ _ _ _ hr1 (by omega) hlen).mono ?_
  rintro e w2 ⟨A3, c3, rfl, hown3, hb3⟩
  have B0 := B0.below hb3 hzz
  have B1 := B1.below hb3 (by omega)
  have h9 := h9.trans (hb3.mono (by omega))
  have hzW : w.heap.size + 1 < w2.heap.size := by have := hb3.size; omega
  clear b0 b1 b2 c0 c1 c2 d0 d1 d2 e0 e1 e2 hb3 hr1
  obtain ⟨⟨c0, c1, c2⟩, d0, d1, d2⟩ := B0.c3
  obtain ⟨⟨b0, b1, b2⟩, e0, e1, e2⟩ := B1.c3
  obtain ⟨g3, hA3, hg3⟩ : ∃ g3, A3 = some ⟨g3, 0, none⟩ ∧ w1.heap.size ≤ g3 := by
    obtain ⟨_, ⟨_, hn⟩ | ⟨g, cap, cur, hv, h1, _⟩⟩ := hown3
    · omega
    · injection hv with hA; exact ⟨g, hA, h1⟩
  subst hA3
  have hg0 : g3 ≠ w.heap.size := by omega
  have hg1 : g3 ≠ w.heap.size + 1 := by omega
  have hk3 := hown3.cellAt k (by omega)
  rw [ints_get HK.out] at hk3
  have hf3 := hown3.frozenAt k
  have HOWN := Lib.hid hown3
  have hg2 : w.heap.size ≠ g3 := by omega
  have hg3' : w.heap.size + 1 ≠ g3 := by omega
  clear hown3
  have HX : Hid (1000 < z + q ∨ z + q ≤ 1000 ∧ z + q < -1000 ∨ z + q ≤ 1000 ∧ -1000 ≤ z + q) := by show _ ∨ _; omega
  go_upto_region 19 with (fail)
  obtain ⟨X, hX⟩ : ∃ X, X = (((w2.setCell ⟨w.heap.size, 0, none⟩ (.int .i64 a.id)).setCell ⟨w.heap.size, 1, none⟩ (.int .i64 a.bal)).setCell ⟨w.heap.size, 2, none⟩ (.slice (some ⟨g3, 0, none⟩) a.pos.length c3)).setCell ⟨w.heap.size, 1, none⟩ (.int .i64 (a.bal - q * p - f)) := ⟨_, rfl⟩
  rw [← hX]
  have BX : Blk X w.heap.size 37 #[.int .i64 a.id, .int .i64 (a.bal - q * p - f), .slice (some ⟨g3, 0, none⟩) a.pos.length c3] := by
    rw [hX]; exact (((B1.set_ 0 _).set_ 1 _).set_ 2 _).set_ 1 _
  have BZ : Blk X (w.heap.size + 1) 37 #[.int .i64 0, .int .i64 0, .slice none 0 0] := by
    rw [hX]; exact (((B0.far (by simp) _).far (by simp) _).far (by simp) _).far (by simp) _
  have h9 : Below w.heap.size w X := by
    rw [hX]; repeat (first | exact h9 | refine Below.setCell ?_ (by simp) _)
  have hown : X.ownsRow w1.heap.size 3 1 (.slice (some ⟨g3, 0, none⟩) a.pos.length c3) a.pos.length (ints a.pos) := by
    rw [hX]; repeat (first | exact HOWN.out | refine ownsRow_setCell_below ?_ (by show w.heap.size < _; omega) _)
  have hk3 := hown.cellAt k (by omega)
  rw [ints_get HK.out] at hk3
  have hf3 := hown.frozenAt k
  have HOWN := Lib.hid hown
  clear hX hown B0 B1 b0 b1 b2 c0 c1 c2 d0 d1 d2 e0 e1 e2
  obtain ⟨⟨c0, c1, c2⟩, d0, d1, d2⟩ := BZ.c3
  obtain ⟨⟨b0, b1, b2⟩, e0, e1, e2⟩ := BX.c3
  rcases HX.out with hx | ⟨hx, hx'⟩ | ⟨hx, hx'⟩
  rotate_right
  · have HE2 := Lib.hid (HE.out.trans (if_neg (by omega)))
    go_wp2_with fail
    refine bodyPost_ret (v := .tuple #[.agg #[.int .i64 a.id, .int .i64 (a.bal - q * p - f), .slice (some ⟨g3, 0, none⟩) a.pos.length c3], .int .i64 0]) (by simp [results, Try.results46, go_sem, *]) rfl ?_
    rw [HE2.out]
    have hl : (a.pos.set k (z + q)).length = a.pos.length := List.length_set
    refine ⟨some ⟨g3, 0, none⟩, c3, ?_, ?_, ?_⟩
    · show _ = Ending.returned (.tuple #[.agg #[_, _, .slice _ (a.pos.set k (z + q)).length _], _])
      rw [hl]
    · show World.ownsRow _ _ _ _ (.slice _ (a.pos.set k (z + q)).length _) (a.pos.set k (z + q)).length (ints (a.pos.set k (z + q)))
      rw [hl, show ints (a.pos.set k (z + q)) = (ints a.pos).set k (.int .i64 (z + q)) by simp [ints, List.map_set]]
      refine own_mono (base := w1.heap.size) ?_ (by omega)
      exact ownsRow_setCell_below (ownsRow_setCell_below (ownsRow_setCell_below (World.ownsRow.stored HOWN.out k _).1 (by show w.heap.size + 1 < _; omega) _) (by show w.heap.size + 1 < _; omega) _) (by show w.heap.size + 1 < _; omega) _
    · exact ((((h9.setCell (p := ⟨g3, k, none⟩) (by show w.heap.size ≤ g3; omega) _).setCell (p := ⟨w.heap.size + 1, 0, none⟩) (by show w.heap.size ≤ w.heap.size + 1; omega) _).setCell (p := ⟨w.heap.size + 1, 1, none⟩) (by show w.heap.size ≤ w.heap.size + 1; omega) _).setCell (p := ⟨w.heap.size + 1, 2, none⟩) (by show w.heap.size ≤ w.heap.size + 1; omega) _)
  all_goals
    have HE2 := Lib.hid (HE.out.trans (if_pos (by omega)))
    go_wp2_with fail
    refine bodyPost_ret (v := .tuple #[.agg #[.int .i64 0, .int .i64 0, .slice none 0 0], .int .i64 7]) (by simp [results, Try.results46, go_sem, *]) rfl ?_
    rw [HE2.out]
    refine retTrade_err ?_
    exact ((((h9.setCell (p := ⟨g3, k, none⟩) (by show w.heap.size ≤ g3; omega) _).setCell (p := ⟨w.heap.size + 1, 0, none⟩) (by show w.heap.size ≤ w.heap.size + 1; omega) _).setCell (p := ⟨w.heap.size + 1, 1, none⟩) (by show w.heap.size ≤ w.heap.size + 1; omega) _).setCell (p := ⟨w.heap.size + 1, 2, none⟩) (by show w.heap.size ≤ w.heap.size + 1; omega) _)

theorem traded_any (a : Ac) (A : Option Addr) (c : Nat) (m q p f : Int) (B : Nat) (w : World) (h : Rd w B 1 A a.pos.length c (ints a.pos)) (hB : B ≤ w.heap.size) :
    Calls Try.prog 46 #[.agg #[.int .i64 a.id, .int .i64 a.bal, .slice A a.pos.length c], .int .i64 m, .int .i64 q, .int .i64 p, .int .i64 f] w (RetTrade w (tradeOf a m q p f)) := by
  by_cases h0 : accCheck a.id a.bal a.pos a.pos.length = 0
  · by_cases h1 : 0 ≤ m ∧ m < (a.pos.length : Int)
    · rcases worth_cases q p with h2 | ⟨h2, hq, _, hw⟩
      · exact traded_bad3 a A c m q p f B w h hB h0 h1 h2
      · obtain ⟨k, rfl⟩ : ∃ k : Nat, m = k := ⟨m.toNat, by omega⟩
        have hk : a.pos[k]? = some a.pos[k] := List.getElem?_eq_getElem (by omega)
        exact traded_good a A c k _ q p f B w h hB h0 hk h2 hq hw
    · exact traded_bad2 a A c m q p f B w h hB h0 (by omega)
  · exact traded_bad1 a A c m q p f B w h hB h0

end Go.Proofs.Ytockodmbhnlheaa
