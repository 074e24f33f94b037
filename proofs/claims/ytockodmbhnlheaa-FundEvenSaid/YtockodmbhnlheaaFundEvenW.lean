/-
  THE WALK of the law FundEven.
-/
import Derived.Test.YtockodmbhnlheaaPaid
import Derived.Test.YtockodmbhnlheaaFundPure
import Derived.Deep.QuietTactic
import Derived.BigQuiet
namespace Go.Proofs.Ytockodmbhnlheaa
open Go.RowKit

set_option maxHeartbeats 1000000 in
theorem fundEven_err (A : Option Addr) (n c : Nat) (L : List Ac) (market mark rate : Int) (out : List Ac) (left er : Int) (w : World) (h : RdL shAcc w w.heap.size A n c L) (hs : settleOf L market mark rate = (out, left, er)) (he : (er != 0) = true) :
    Calls Try.prog 7 #[.slice A n c, .int .i64 market, .int .i64 mark, .int .i64 rate] w fun e w' => e = .returned (.bool true) ∧ Below w.heap.size w w' := by
  have HS := Lib.hid hs; clear hs
  go_enter Try.func7, Try.ntmps7
  go_wp2_with fail
  refine (settle_any _ _ _ _ _ _ _ _ h).mono ?_
  rw [HS.out]
  rintro e w1 ⟨A1, c1, rfl, _, hb1⟩
  go_wp2_with fail
  refine (paid_any _).mono ?_
  rintro e w2 ⟨rfl, hb2⟩
  go_wp2_with fail
  refine (paid_any _).mono ?_
  rintro e w3 ⟨rfl, hb3⟩
  go_wp2_with fail
  go_ret
  exact ⟨rfl, hb1.trans ((hb2.trans (hb3.mono hb2.size)).mono hb1.size)⟩

theorem equal_same (A A' : Option Addr) (n c c' : Nat) (xs : List Int) (B B' : Nat) (w : World) (h : Rd w B 1 A n c (ints xs)) (h' : Rd w B' 1 A' n c' (ints xs)) :
    Calls Try.prog 30 #[.slice A n c, .slice A' n c'] w fun e w' => e = .returned (.bool true) ∧ ∃ q, w' = w.drewN q :=
  (equal_ints A A' n c n c' xs xs B B' w h h').mono fun _ _ ⟨h1, h2⟩ => ⟨by rw [h1, eqI_iff.2 rfl], h2⟩

set_option maxRecDepth 100000 in
set_option maxHeartbeats 4000000 in
theorem fundEven_ok (A : Option Addr) (n c : Nat) (L : List Ac) (market mark rate : Int) (out : List Ac) (left : Int) (w : World) (h : RdL shAcc w w.heap.size A n c L) (hs : settleOf L market mark rate = (out, left, 0)) :
    Calls Try.prog 7 #[.slice A n c, .int .i64 market, .int .i64 mark, .int .i64 rate] w fun e w' => e = .returned (.bool true) ∧ Below w.heap.size w w' := by
  obtain ⟨e1, e2, e3, e4, e5⟩ := settle_even hs
  have hl := h.len
  have hn8 : n ≤ 8 := by omega
  have HS := Lib.hid hs
  have HN := Lib.hid (e1.trans hl)
  have HL := Lib.hid hl
  have HE := Lib.hid e3
  have HB := Lib.hid e4
  have H5 := Lib.hid e5
  clear hs e1 e2 e3 e4 e5 hl
  go_enter Try.func7, Try.ntmps7
  go_wp2_with fail
  refine (settle_any _ _ _ _ _ _ _ _ h).mono ?_
  rw [HS.out]
  rintro e w1 ⟨A1, c1, rfl, h1, hb1⟩
  simp only [HN.out] at h1 ⊢
  go_wp2_with fail
  refine (paid_any _).mono ?_
  rintro e w2 ⟨rfl, hb2⟩
  have hw2 : Below w.heap.size w w2 := hb1.trans (hb2.mono hb1.size)
  have h2 := h.below hw2
  have h3 := h1.below hb2
  have hs1 := hw2.size
  have hs2 := hb2.size
  clear h h1
  go_wp2_with fail
  go_loopw [12, 13, 14, 40] (fun u v p i wr => ∃ (j : Nat) (was now pos : Int), j ≤ n ∧ u = .int .i64 was ∧ v = .int .i64 now ∧ p = .int .i64 pos ∧ i = .int .i64 j ∧ Below w2.heap.size w2 wr ∧
      (-1000000000000 * (j : Int) ≤ was ∧ was ≤ 1000000000000 * (j : Int)) ∧ (-1000000000000 * (j : Int) ≤ now ∧ now ≤ 1000000000000 * (j : Int)) ∧ (-1000 * (j : Int) ≤ pos ∧ pos ≤ 1000 * (j : Int)) ∧
      Hid (was = balSum (L.take j) ∧ now = balSum (out.take j) ∧ pos = posSum market.toNat (L.take j))) (fun _ _ _ i _ => n - (intOf i).toNat)
  case atStart => exact ⟨0, 0, 0, 0, Nat.zero_le _, rfl, rfl, rfl, rfl, Below.refl _ _, by omega, by omega, by omega, by simp [balSum], by simp [balSum], by simp [posSum]⟩
  case round =>
    obtain ⟨j, was, now, pos, hj, rfl, rfl, rfl, rfl, hbr, ⟨g1, g2⟩, ⟨g3, g4⟩, ⟨g5, g6⟩, HR⟩ := hrel
    by_cases hlt : j < n
    · obtain ⟨b, o, a, rfl, hb, ha, A2, c2, k0, k1, k2, k3, k4⟩ := acc_at (h2.below (hbr.mono hs1)) hlt
      obtain ⟨b', o', a', rfl, hb', ha', A3, c3, m0, m1, m2, m3, _⟩ := acc_at (h3.below (hbr.mono hs2)) hlt
      obtain ⟨p, hp⟩ := HE.out j a a' ha ha'
      obtain ⟨q1, q2, _, _, q5, q6, _⟩ := pays_ok (show paysOf a.id a.bal a.pos market mark rate = (p, 0) from hp.pays)
      obtain ⟨_, _, _, hbal, _⟩ := accCheck_ok q1
      have hbal' := isMoney_iff.1 hp.money
      have hpe := hp.eq
      have hz0 : a.pos.getD market.toNat 0 = 0 → p = 0 := by
        intro h0
        have := (pays_ok (show paysOf a.id a.bal a.pos market mark rate = (p, 0) from hp.pays)).2.2.2.2.2.2
        rw [h0, part_small (by omega) (by omega)] at this
        injection this with this _
        simpa using this.symm
      subst hpe
      obtain ⟨mk, rfl⟩ : ∃ mk : Nat, market = (mk : Int) := ⟨market.toNat, by omega⟩
      rw [Int.toNat_natCast] at *
      have hmk : mk < a.pos.length := by omega
      obtain ⟨b4, o4, rfl, hb4, z, hz, hc4⟩ := k3.int hmk
      have hgz : a.pos.getD mk 0 = z := by simp [List.getD, hz]
      rw [hgz] at hz0 q5
      have HW := Lib.hid (show was + a.bal = balSum (L.take (j + 1)) ∧ now + (a.bal - p) = balSum (out.take (j + 1)) ∧ pos + z = posSum mk (L.take (j + 1)) by
        obtain ⟨r1, r2, r3⟩ := HR.out
        exact ⟨by rw [balSum_next ha, r1], by rw [balSum_next ha', r2], by rw [posSum_next ha, r3, hgz]⟩)
      have hzb := q5
      have hsr := hbr.size
      have x0 : b < wr.heap.size := by omega
      have x1 : b' < wr.heap.size := by omega
      have x2 : b4 < wr.heap.size := by omega
      have x3 : (0 : Int) ≤ (j : Int) := by omega
      have x4 : (j : Int) < (n : Int) := by omega
      have x5 : (mk : Int) < (a.pos.length : Int) := by omega
      have r3' := k3
      have HZ := Lib.hid hz
      have HZ0 := Lib.hid hz0
      clear hz hz0 hgz ha ha' hp q1
      go_wp2_with fail
      go_quiet (fail)
      go_wp2_with fail
      obtain ⟨Y, hY⟩ : ∃ Y, Y = (wr.alloc (.cells #[.int .i64 a.id, .int .i64 a.bal, .slice (some ⟨b4, o4, none⟩) a.pos.length c2] 37)).drewN nq := ⟨_, rfl⟩
      rw [← hY]
      have hYB : Blk Y wr.heap.size 37 #[.int .i64 a.id, .int .i64 a.bal, .slice (some ⟨b4, o4, none⟩) a.pos.length c2] := by rw [hY]; exact (Blk.new _ _ _).drewN _
      have hYw : Below wr.heap.size wr Y := by rw [hY]; exact below_drewN ((Below.refl _ _).alloc (Nat.le_refl _) _) _
      have hYs : wr.heap.size < Y.heap.size := hYB.lt
      obtain ⟨⟨y0, y1, y2⟩, _⟩ := hYB.c3
      have n0 := (hYw.cell (p := ⟨b', o' + j * 3, none⟩) x1).trans m0
      have n1 := (hYw.cell (p := ⟨b', o' + j * 3 + 1, none⟩) x1).trans m1
      have n2 := (hYw.cell (p := ⟨b', o' + j * 3 + 2, none⟩) x1).trans m2
      have n4 := (hYw.cell (p := ⟨b4, o4 + mk, none⟩) x2).trans hc4
      have t3 := r3'.below (hYw.mono (by omega))
      have t4 := m3.below (hYw.mono (by omega))
      have hbY : Below w2.heap.size w2 Y := hbr.trans (hYw.mono hsr)
      clear hY hYB k0 k1 k2 k3 m0 m1 m2 m3 hc4 hYw r3'
      by_cases hz : z = 0
      · have hp0 := HZ0.out hz
        subst hz hp0
        have v1 : (a.bal - 0 != a.bal) = false := by simp
        go_quiet ((go_at_call 30; exact Calls.quiet_of (equal_same _ _ _ _ _ _ _ _ _ (t3.drewN _) (t4.drewN _))))
        go_wp2_with fail
        go_roundw
        case rel => exact ⟨j + 1, _, _, _, by omega, rfl, rfl, rfl, by go_num, below_drewN hbY _, by omega, by omega, by omega, HW.out⟩
        case measure => simp [intOf]; omega
      · have hz1 : (z == 0) = false := by simpa using hz
        go_quiet ((go_at_call 30; exact Calls.quiet_of (equal_same _ _ _ _ _ _ _ _ _ (t3.drewN _) (t4.drewN _))))
        go_wp2_with fail
        go_roundw
        case rel => exact ⟨j + 1, _, _, _, by omega, rfl, rfl, rfl, by go_num, below_drewN hbY _, by omega, by omega, by omega, HW.out⟩
        case measure => simp [intOf]; omega
    · obtain rfl : j = n := by omega
      obtain ⟨r1, r2, r3⟩ := HR.out
      rw [List.take_of_length_le (by rw [HL.out]; exact Nat.le_refl _)] at r1 r3
      rw [List.take_of_length_le (by rw [HN.out]; exact Nat.le_refl _)] at r2
      have hwas : was = now + left := by rw [r1, r2]; exact HB.out
      have h5 := H5.out
      rw [← r3, HL.out] at h5
      clear r1 r2 r3 HR
      subst hwas
      have hbb : Below w.heap.size w wr := hw2.trans (hbr.mono hs1)
      by_cases hp0 : pos = 0
      · subst hp0
        have h6 : 0 ≤ left ∧ (left = 0 ∨ left < j) := by rcases h5 with h5 | h5; · exact absurd rfl h5
                                                         · exact h5
        obtain ⟨h6, h7⟩ := h6
        clear h5
        by_cases hl0 : left = 0
        · subst hl0
          go_wp2_with fail
          go_ret
          exact ⟨rfl, hbb⟩
        · have h8 : left < j := by omega
          have hl1 : (left == 0) = false := by simpa using hl0
          clear h7 hl0
          go_wp2_with fail
          go_ret
          exact ⟨rfl, hbb⟩
      · have hp1 : (pos != 0) = true := by simpa using hp0
        clear h5 hp0
        go_wp2_with fail
        go_ret
        exact ⟨rfl, hbb⟩

theorem fundEven_walk (A : Option Addr) (n c : Nat) (L : List Ac) (market mark rate : Int) (w : World) (h : RdL shAcc w w.heap.size A n c L) :
    Calls Try.prog 7 #[.slice A n c, .int .i64 market, .int .i64 mark, .int .i64 rate] w fun e w' => e = .returned (.bool true) ∧ Below w.heap.size w w' := by
  obtain ⟨out, left, er, hs⟩ : ∃ out left er, settleOf L market mark rate = (out, left, er) := ⟨_, _, _, rfl⟩
  by_cases he : er = 0
  · subst he; exact fundEven_ok A n c L market mark rate out left w h hs
  · exact fundEven_err A n c L market mark rate out left er w h hs (by simpa using he)

end Go.Proofs.Ytockodmbhnlheaa
