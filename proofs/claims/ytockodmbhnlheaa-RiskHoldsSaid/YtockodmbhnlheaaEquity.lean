/-
  THE WALK of account.Equity (under way: the bad form).
-/
import Derived.Test.YtockodmbhnlheaaAcc
import Derived.Test.YtockodmbhnlheaaTradePure
namespace Go.Proofs.Ytockodmbhnlheaa
open Go.RowKit

set_option maxHeartbeats 1000000 in
theorem equity_bad1 (a : Ac) (A A' : Option Addr) (c n' c' : Nat) (marks : List Int) (B B' : Nat) (w : World) (h : Rd w B 1 A a.pos.length c (ints a.pos)) (hB : B ≤ w.heap.size) (h' : Rd w B' 1 A' n' c' (ints marks)) (h0 : accCheck a.id a.bal a.pos marks.length ≠ 0) :
    Calls Try.prog 43 #[.agg #[.int .i64 a.id, .int .i64 a.bal, .slice A a.pos.length c], .slice A' n' c'] w fun e w' => e = .returned (.tuple #[.int .i64 (equityOf a marks).1, .int .i64 (equityOf a marks).2]) ∧ Below w.heap.size w w' := by
  have HE := Lib.hid (show equityOf a marks = (0, accCheck a.id a.bal a.pos marks.length) by unfold equityOf; rw [if_pos h0])
  obtain rfl := h'.ofInts
  have h1 : (accCheck a.id a.bal a.pos marks.length != 0) = true := by simpa using h0
  clear h0
  go_enter Try.func43, Try.ntmps43
  go_wp2_with fail
  refine (accCheck_any _ _ _ _ _ _ _ _ _ (h.alloc hB _) (by simp; omega)).mono ?_
  rintro e w1 ⟨rfl, hb1⟩
  go_wp2_with fail
  go_ret2
  exact ⟨by rw [HE.out]; rfl, ((Below.refl _ _).alloc (Nat.le_refl _) _).trans (hb1.mono (by simp))⟩

set_option maxHeartbeats 2000000 in
theorem equity_good (a : Ac) (A A' : Option Addr) (c n' c' : Nat) (marks : List Int) (B B' : Nat) (w : World) (h : Rd w B 1 A a.pos.length c (ints a.pos)) (hB : B ≤ w.heap.size) (h' : Rd w B' 1 A' n' c' (ints marks)) (hB' : B' ≤ w.heap.size) (h0 : accCheck a.id a.bal a.pos marks.length = 0) :
    Calls Try.prog 43 #[.agg #[.int .i64 a.id, .int .i64 a.bal, .slice A a.pos.length c], .slice A' n' c'] w fun e w' => e = .returned (.tuple #[.int .i64 (equityOf a marks).1, .int .i64 (equityOf a marks).2]) ∧ Below w.heap.size w w' := by
  have HE := Lib.hid (eqRest_start h0)
  obtain rfl := h'.ofInts
  have HC := Lib.hid h0
  obtain ⟨_, ⟨hl1, hl2⟩, hl3, hbal, _⟩ := accCheck_ok h0
  have hl : a.pos.length = marks.length := by omega
  obtain ⟨n, hn⟩ : ∃ n, marks.length = n := ⟨_, rfl⟩
  rw [hn] at hl h' hl1 hl2
  have HN := Lib.hid hn
  have HL := Lib.hid hl
  have hn2 : n ≤ 2 := by omega
  rw [hl] at h
  rw [hl, hn]
  clear h0 hl hn hl3 hl1 hl2
  go_enter Try.func43, Try.ntmps43
  go_wp2_with fail
  refine (accCheck_any _ _ _ _ _ _ _ _ _ (h.alloc hB _) (by simp; omega)).mono ?_
  rintro e w1 ⟨rfl, hb1⟩
  rw [← HN.out, HC.out, HN.out]
  have HB1 := Lib.hid ((Blk.new w 37 #[.int .i64 a.id, .int .i64 a.bal, .slice A n c]).below hb1 (by simp))
  obtain ⟨⟨b0, b1, b2⟩, e0, e1, e2⟩ := HB1.out.c3
  have hw1 : w.heap.size < w1.heap.size := by have := hb1.size; simp at this; omega
  have h9 : Below w.heap.size w w1 := ((Below.refl _ _).alloc (Nat.le_refl _) _).trans (hb1.mono (by simp))
  have hp1 := h.below (h9.mono hB)
  have hm1 := h'.below (h9.mono hB')
  clear hb1
  go_wp2_with fail
  go_loopw [7, 25] (fun l i wr => ∃ (j : Nat) (done : List Int), j ≤ n ∧ i = .int .i64 j ∧ Hid (wr.ownsRow w1.heap.size 3 1 l (j + 1) (ints (a.bal :: done))) ∧ Below w1.heap.size w1 wr ∧ Hid (done.length = j) ∧ Hid (eqRest a marks done j = equityOf a marks)) (fun _ i _ => n - (intOf i).toNat)
  case atStart => exact ⟨0, [], Nat.zero_le _, rfl, World.ownsRow_lit w1 #[.int .i64 a.bal] 1 (Nat.le_refl _) (by decide) rfl, (Below.refl _ _).alloc (Nat.le_refl _) _, rfl, HE⟩
  case round =>
    obtain ⟨j, done, hj, rfl, HO, hbr, HD, HR⟩ := hrel
    have hsz := hbr.size
    obtain ⟨A3, c3, rfl⟩ := own_shape HO.out
    clear b0 b1 b2 e0 e1 e2
    by_cases hlt : j < n
    · obtain ⟨b, o, rfl, hb, z, hz, hc⟩ := (hp1.below (hbr.mono (by omega))).int hlt
      obtain ⟨b', o', rfl, hb', k, hk, hc'⟩ := (hm1.below (hbr.mono (by omega))).int hlt
      have HZ := Lib.hid hz
      have HM := Lib.hid hk
      clear hz hk
      rcases worth_cases z k with hw | ⟨hw, _, _, hw1, hw2⟩
      · have HW := Lib.hid hw
        have HE2 := Lib.hid (HR.out.symm.trans (eqRest_bad HZ.out HM.out hw))
        clear hw
        go_wp2_with fail
        refine (worth_any _ _ _).mono ?_
        rintro e w' ⟨rfl, rfl⟩
        rw [HW.out]
        go_wp2_with fail
        go_ret2
        exact ⟨by rw [HE2.out]; rfl, h9.trans (hbr.mono (by omega))⟩
      · have HW := Lib.hid hw
        have HE2 := Lib.hid ((eqRest_step (done := done) HZ.out HM.out hw).symm.trans HR.out)
        clear hw
        go_wp2_with fail
        refine (worth_any _ _ _).mono ?_
        rintro e w' ⟨rfl, rfl⟩
        rw [HW.out]
        go_wp2_with (at_builtin; go_must (refine wpList_app rfl _ _ _ rfl w1.heap.size _ _ _ elem_int _ (j + 1) (ints (a.bal :: done)) rfl (HO.out.alloc _) (wr.heap.size + 1) _ _ _ [.int .i64 (z * k)] rfl (Rd.new wr #[.int .i64 (z * k)] 3 1 rfl (by decide)) (one_ints [z * k]) (by simp only [maxLen]; omega) (by omega) (by simp; omega) ?_); intro v' w2 hown hbel hg _)
        have hb2 : Below w1.heap.size w1 w2 := hbr.trans (((Below.refl _ _).alloc hsz _).trans hbel)
        have HO2 := Lib.hid (show w2.ownsRow w1.heap.size 3 1 v' (j + 1 + 1) (ints (a.bal :: (done ++ [z * k]))) by simpa [ints] using hown)
        clear hown hbel hg
        go_wp2_with fail
        go_roundw
        case rel => exact ⟨j + 1, done ++ [z * k], by omega, by go_num, HO2, hb2, by show _ = _; rw [List.length_append, HD.out]; rfl, HE2⟩
        case measure => simp [intOf]; omega
    · have HE2 := Lib.hid (HR.out.symm.trans (eqRest_end (by have := HL.out; omega)))
      go_wp2_with fail
      refine (add_any _ _ _ (a.bal :: done) _ _ (Rd.of_own HO.out)).mono ?_
      rintro e w' ⟨rfl, rfl⟩
      go_wp2_with fail
      go_ret2
      exact ⟨by rw [HE2.out]; rfl, h9.trans (hbr.mono (by omega))⟩

theorem equity_any (a : Ac) (A A' : Option Addr) (c n' c' : Nat) (marks : List Int) (B B' : Nat) (w : World) (h : Rd w B 1 A a.pos.length c (ints a.pos)) (hB : B ≤ w.heap.size) (h' : Rd w B' 1 A' n' c' (ints marks)) (hB' : B' ≤ w.heap.size) :
    Calls Try.prog 43 #[.agg #[.int .i64 a.id, .int .i64 a.bal, .slice A a.pos.length c], .slice A' n' c'] w fun e w' => e = .returned (.tuple #[.int .i64 (equityOf a marks).1, .int .i64 (equityOf a marks).2]) ∧ Below w.heap.size w w' := by
  by_cases h0 : accCheck a.id a.bal a.pos marks.length = 0
  · exact equity_good a A A' c n' c' marks B B' w h hB h' hB' h0
  · exact equity_bad1 a A A' c n' c' marks B B' w h hB h' h0

end Go.Proofs.Ytockodmbhnlheaa
