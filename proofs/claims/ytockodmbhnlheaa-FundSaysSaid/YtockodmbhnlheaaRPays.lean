/-
  THE WALK over the document's PaysOf.
-/
import Derived.Test.YtockodmbhnlheaaRefAcc
import Derived.Test.YtockodmbhnlheaaPays
namespace Go.Proofs.Ytockodmbhnlheaa
open Go.RowKit

theorem prod_bd {x r : Int} (hx : -10000000 ≤ x ∧ x ≤ 10000000) (hr : -100 ≤ r ∧ r ≤ 100) : (-1000000000 ≤ -x * r ∧ -x * r ≤ 1000000000) ∧ -1000000000 ≤ -x * r / 10000 ∧ -x * r / 10000 ≤ 1000000000 := by
  have hn : (x * r).natAbs ≤ 10000000 * 100 := by rw [Int.natAbs_mul]; exact Nat.mul_le_mul (by omega) (by omega)
  rw [Int.neg_mul]; omega

set_option maxHeartbeats 2000000 in
theorem rpays_any (id bal : Int) (A : Option Addr) (n c : Nat) (l : List Int) (market mark rate : Int) (B : Nat) (w : World) (h : Rd w B 1 A n c (ints l)) (hB : B ≤ w.heap.size) :
    Calls Try.prog 55 #[.agg #[.int .i64 id, .int .i64 bal, .slice A n c], .int .i64 market, .int .i64 mark, .int .i64 rate] w fun e w' =>
      e = .returned (.tuple #[.int .i64 (paysOf id bal l market mark rate).1, .int .i64 (paysOf id bal l market mark rate).2]) ∧ Below w.heap.size w w' := by
  have hl := h.ofInts
  have hle := h.le
  have hcap := h.cap
  unfold maxLen at hcap
  have HL := Lib.hid hl
  by_cases h0 : accCheck id bal l n = 0
  · obtain ⟨k1, k2, _, k4, k5⟩ := accCheck_ok h0
    have HU : Hid (paysOf id bal l market mark rate = if market < 0 ∨ (n : Int) ≤ market then (0, 5)
        else if rate < -100 ∨ 100 < rate then (0, 3)
        else if (worthOf (l.getD market.toNat 0) mark).2 ≠ 0 then (0, (worthOf (l.getD market.toNat 0) mark).2)
        else partOf (worthOf (l.getD market.toNat 0) mark).1 rate 10000 true) := by
      show paysOf id bal l market mark rate = _
      unfold paysOf
      rw [hl, if_neg (by rw [h0]; simp)]
    have HC := Lib.hid h0
    clear h0 hl
    by_cases h1 : market < 0 ∨ (n : Int) ≤ market
    · have HE := Lib.hid (HU.out.trans (if_pos h1))
      rcases h1 with h1 | h1
      all_goals
        go_enter Try.func55, Try.ntmps55
        go_wp2_with fail
        refine (rcheck_any _ _ _ _ _ _ _ _ _ (h.alloc hB _) (by simp; omega)).mono ?_
        rintro e w1 ⟨rfl, hb1⟩
        rw [HC.out]
        obtain ⟨⟨c0, c1, c2⟩, _⟩ := ((Blk.new w 37 #[.int .i64 id, .int .i64 bal, .slice A n c]).below hb1 (by simp)).c3
        go_wp2_with fail
        go_ret2
        exact ⟨pair_ii (by rw [HE.out]), ((Below.refl _ _).alloc (Nat.le_refl _) _).trans (hb1.mono (by simp))⟩
    · have HU2 := Lib.hid (HU.out.trans (if_neg h1))
      obtain ⟨mk, rfl⟩ : ∃ mk : Nat, market = (mk : Int) := ⟨market.toNat, by omega⟩
      have hmk : mk < n := by omega
      obtain ⟨b, o, rfl, hb, z, hz, hc⟩ := h.int hmk
      have hbw : b < w.heap.size := by omega
      have hgz : l.getD ((mk : Int)).toNat 0 = z := by simp [List.getD, hz]
      rw [hgz] at HU2
      have hzb := posOk_get k5 hz
      clear h1 hz hgz
      by_cases h2 : rate < -100 ∨ 100 < rate
      · have HE := Lib.hid (HU2.out.trans (if_pos h2))
        clear HU HU2
        rcases h2 with h2 | h2
        all_goals
          go_enter Try.func55, Try.ntmps55
          go_wp2_with fail
          refine (rcheck_any _ _ _ _ _ _ _ _ _ (h.alloc hB _) (by simp; omega)).mono ?_
          rintro e w1 ⟨rfl, hb1⟩
          rw [HC.out]
          obtain ⟨⟨c0, c1, c2⟩, _⟩ := ((Blk.new w 37 #[.int .i64 id, .int .i64 bal, .slice (some ⟨b, o, none⟩) n c]).below hb1 (by simp)).c3
          go_wp2_with fail
          go_ret2
          exact ⟨pair_ii (by rw [HE.out]), ((Below.refl _ _).alloc (Nat.le_refl _) _).trans (hb1.mono (by simp))⟩
      · have HU3 := Lib.hid (HU2.out.trans (if_neg h2))
        have h3 : -100 ≤ rate ∧ rate ≤ 100 := by omega
        obtain ⟨h3, h4⟩ := h3
        clear HU HU2 h2
        rcases worth_cases z mark with h5 | ⟨h5, h6, h7, h8⟩
        · have HW := Lib.hid h5
          have HE := Lib.hid (show paysOf id bal l mk mark rate = (0, 3) by rw [HU3.out, h5]; rfl)
          clear h5
          go_enter Try.func55, Try.ntmps55
          go_wp2_with fail
          refine (rcheck_any _ _ _ _ _ _ _ _ _ (h.alloc hB _) (by simp; omega)).mono ?_
          rintro e w1 ⟨rfl, hb1⟩
          rw [HC.out]
          obtain ⟨⟨c0, c1, c2⟩, _⟩ := ((Blk.new w 37 #[.int .i64 id, .int .i64 bal, .slice (some ⟨b, o, none⟩) n c]).below hb1 (by simp)).c3
          have hbb : Below w.heap.size w w1 := ((Below.refl _ _).alloc (Nat.le_refl _) _).trans (hb1.mono (by simp))
          have hc1 := (hbb.cell (p := ⟨b, o + mk, none⟩) hbw).trans hc
          go_wp2_with fail
          refine (rworth_any _ _ _).mono ?_
          rintro e w' ⟨rfl, rfl⟩
          rw [HW.out]
          go_wp2_with fail
          go_ret2
          exact ⟨pair_ii (by rw [HE.out]), hbb⟩
        · have HW := Lib.hid h5
          have HE := Lib.hid (show paysOf id bal l mk mark rate = partOf (z * mark) rate 10000 true by rw [HU3.out, h5]; rfl)
          obtain ⟨⟨f1, f2⟩, g1, g2⟩ := prod_bd h8 ⟨h3, h4⟩
          clear h5
          go_enter Try.func55, Try.ntmps55
          go_wp2_with fail
          refine (rcheck_any _ _ _ _ _ _ _ _ _ (h.alloc hB _) (by simp; omega)).mono ?_
          rintro e w1 ⟨rfl, hb1⟩
          rw [HC.out]
          obtain ⟨⟨c0, c1, c2⟩, _⟩ := ((Blk.new w 37 #[.int .i64 id, .int .i64 bal, .slice (some ⟨b, o, none⟩) n c]).below hb1 (by simp)).c3
          have hbb : Below w.heap.size w w1 := ((Below.refl _ _).alloc (Nat.le_refl _) _).trans (hb1.mono (by simp))
          have hc1 := (hbb.cell (p := ⟨b, o + mk, none⟩) hbw).trans hc
          go_wp2_with fail
          refine (rworth_any _ _ _).mono ?_
          rintro e w' ⟨rfl, rfl⟩
          rw [HW.out]
          go_wp2_with fail
          refine (floor_any _ _ (by omega) (by omega) (by omega) _).mono ?_
          rintro e w' ⟨rfl, rfl⟩
          go_wp2_with fail
          go_ret2
          refine ⟨pair_ii ?_, hbb⟩
          rw [HE.out, part_small h8 ⟨h3, h4⟩, Int.neg_mul]
  · have HE := Lib.hid (show paysOf id bal l market mark rate = (0, accCheck id bal l n) by
      unfold paysOf; rw [hl, if_pos h0])
    have h1 : (accCheck id bal l n != 0) = true := by simpa using h0
    clear h0 hl
    go_enter Try.func55, Try.ntmps55
    go_wp2_with fail
    refine (rcheck_any _ _ _ _ _ _ _ _ _ (h.alloc hB _) (by simp; omega)).mono ?_
    rintro e w1 ⟨rfl, hb1⟩
    go_wp2_with fail
    go_ret2
    exact ⟨pair_ii (by rw [HE.out]), ((Below.refl _ _).alloc (Nat.le_refl _) _).trans (hb1.mono (by simp))⟩


end Go.Proofs.Ytockodmbhnlheaa
