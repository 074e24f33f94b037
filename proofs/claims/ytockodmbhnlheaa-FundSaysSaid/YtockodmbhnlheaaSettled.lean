/-
  THE WALK over the document's SettledAll.
-/
import Derived.Test.YtockodmbhnlheaaRPays
import Derived.Test.YtockodmbhnlheaaRefOwn
import Derived.Test.YtockodmbhnlheaaOwnA
import Derived.Test.YtockodmbhnlheaaSettle
import Derived.Deep.DeepCutAuto
namespace Go.Proofs.Ytockodmbhnlheaa
open Go.RowKit

theorem add2 {a b : Int} (h1 : isMoney a = true) (h2 : isMoney b = true) : addAll [a, b] = if isMoney (a + b) then (a + b, 0) else (0, 7) := by
  unfold addAll
  simp only [addFrom, Int.zero_add]
  rw [if_pos h1, if_pos h1, if_pos h2]

theorem bool_cases (b : Bool) : b = false ∨ b = true := by cases b <;> simp

set_option maxHeartbeats 2000000 in
theorem rsettle_any (A : Option Addr) (n c : Nat) (L : List Ac) (market mark rate : Int) (B : Nat) (w : World) (h : RdL shAcc w B A n c L) (hB : B ≤ w.heap.size) :
    Calls Try.prog 53 #[.slice A n c, .int .i64 market, .int .i64 mark, .int .i64 rate] w (RetSettle w (settleOf L market mark rate)) := by
  have hl := h.len
  have hle := h.le
  have hcap := h.cap
  unfold maxLen at hcap
  by_cases h8 : 8 < n
  · have HE := Lib.hid (show settleOf L market mark rate = ([], 0, 2) by unfold settleOf; rw [if_pos (by omega)])
    clear hl
    go_enter Try.func53, Try.ntmps53
    go_wp2_with fail
    go_ret3
    rw [HE.out]
    exact ⟨none, 0, rfl, RdL.none_ _ _ _, Below.refl _ _⟩
  · have HE := Lib.hid (show settleAcc market mark rate [] 0 (L.drop 0) = settleOf L market mark rate by unfold settleOf; rw [if_neg (by omega)]; rfl)
    have HL := Lib.hid hl
    clear hl
    go_enter Try.func53, Try.ntmps53
    go_wp2_with fail
    go_loopw [11, 12, 22] (fun v s i wr => ∃ (j : Nat) (left : Int) (done : List Ac), j ≤ n ∧ s = .int .i64 left ∧ i = .int .i64 j ∧ Below w.heap.size w wr ∧ (-100000 * (j : Int) ≤ left ∧ left ≤ 100000 * (j : Int)) ∧
        Hid (done.length = j) ∧ Hid (settleAcc market mark rate done left (L.drop j) = settleOf L market mark rate) ∧ Hid (OwnAccs wr w.heap.size v j done)) (fun _ _ i _ => n - (intOf i).toNat)
    case atStart => exact ⟨0, 0, [], Nat.zero_le _, rfl, rfl, Below.refl _ _, by omega, rfl, HE, OwnAccs.nil _ _⟩
    case round =>
      obtain ⟨j, left, done, hj, rfl, rfl, hbr, hleft, HD, HS, HO⟩ := hrel
      obtain ⟨Av, cv, rfl⟩ := HO.out.form
      by_cases hlt : j < n
      · obtain ⟨b, o, a, rfl, hb, ha, A2, c2, k0, k1, k2, k3, k4⟩ := acc_at (h.below (hbr.mono hB)) hlt
        have HA := Lib.hid ha
        clear ha
        have hws := hbr.size
        have hbr' : b < wr.heap.size := by omega
        obtain ⟨p, ep, hp⟩ : ∃ p ep, pays a market mark rate = (p, ep) := ⟨_, _, rfl⟩
        have HP := Lib.hid (show paysOf a.id a.bal a.pos market mark rate = (p, ep) from hp)
        have hst := settle_step (market := market) (mark := mark) (rate := rate) (left := left) (done := done) HA.out
        rw [HS.out, hp] at hst
        have HT := Lib.hid hst
        clear hst hp
        by_cases he : ep = 0
        · subst he
          obtain ⟨hp1, hp2⟩ := pays_bd HP.out
          obtain ⟨hbal1, hbal2⟩ := (accCheck_ok (pays_ok HP.out).1).2.2.2.1
          have hq := add2 (isMoney_iff.2 ⟨hbal1, hbal2⟩) (show isMoney (-p) = true by rw [isMoney_iff]; omega)
          rw [show a.bal + -p = a.bal - p by omega] at hq
          have HQ := Lib.hid hq
          have HT2 := Lib.hid (HT.out.trans (if_neg (by simp)))
          clear HT hq
          go_wp2_with fail
          refine (rpays_any _ _ _ _ _ _ _ _ _ _ _ (k3.alloc (by omega) _) (by simp; omega)).mono ?_
          rintro e w2 ⟨rfl, hb2⟩
          rw [HP.out]
          have hB2 := (Blk.new wr 37 #[.int .i64 a.id, .int .i64 a.bal, .slice A2 a.pos.length c2]).below hb2 (by simp)
          obtain ⟨⟨q0, q1, q2⟩, p0, p1, p2⟩ := hB2.c3
          have hbw2 : Below wr.heap.size wr w2 := ((Below.refl _ _).alloc (Nat.le_refl _) _).trans (hb2.mono (by simp))
          have hz2 : wr.heap.size < w2.heap.size := size_two hb2
          clear hb2
          go_wp2_with fail
          refine (rown_any _ _ _ _ _ _ _ _ (k3.below (hbw2.mono (by omega))) (by omega) k4).mono ?_
          rintro e w3 ⟨A3, c3, rfl, hown3, hb3⟩
          have hB3 := hB2.below hb3 hz2
          have hz3 : wr.heap.size < w3.heap.size := by have := hb3.size; omega
          have hw3 : Below wr.heap.size wr w3 := hbw2.trans (hb3.mono (by omega))
          clear q0 q1 q2 p0 p1 p2 hB2 hb3 hbw2 k0 k1 k2
          obtain ⟨⟨q0, q1, q2⟩, p0, p1, p2⟩ := hB3.c3
          go_upto_region 12 with (fail)
          obtain ⟨X, hX⟩ : ∃ X, X = ((w3.setCell ⟨wr.heap.size, 0, none⟩ (.int .i64 a.id)).setCell ⟨wr.heap.size, 1, none⟩ (.int .i64 a.bal)).setCell ⟨wr.heap.size, 2, none⟩ (.slice A3 a.pos.length c3) := ⟨_, rfl⟩
          rw [← hX]
          have hBX : Blk X wr.heap.size 37 #[.int .i64 a.id, .int .i64 a.bal, .slice A3 a.pos.length c3] := by
            rw [hX]; exact ((hB3.set_ 0 _).set_ 1 _).set_ 2 _
          have hXw : Below wr.heap.size wr X := by
            rw [hX]; exact ((hw3.setCell (Nat.le_refl _) _).setCell (Nat.le_refl _) _).setCell (Nat.le_refl _) _
          have hXo : X.ownsRow w2.heap.size 3 1 (.slice A3 a.pos.length c3) a.pos.length (ints a.pos) := by
            rw [hX]; exact ownsRow_setCell_below (ownsRow_setCell_below (ownsRow_setCell_below hown3 hz2 _) hz2 _) hz2 _
          have hzX : wr.heap.size < X.heap.size := by rw [hX]; simpa [World.setCell] using hz3
          clear hX hown3 hB3 q0 q1 q2 p0 p1 p2 hw3
          obtain ⟨⟨q0, q1, q2⟩, p0, p1, p2⟩ := hBX.c3
          go_wp2_with fail
          obtain ⟨Y, hY⟩ : ∃ Y, Y = X.setCell ⟨wr.heap.size, 1, none⟩ (.int .i64 (a.bal - p)) := ⟨_, rfl⟩
          rw [← hY]
          have hBY : Blk Y wr.heap.size 37 #[.int .i64 a.id, .int .i64 (a.bal - p), .slice A3 a.pos.length c3] := by
            rw [hY]; exact hBX.set_ 1 _
          have hYw : Below wr.heap.size wr Y := by
            rw [hY]; exact hXw.setCell (Nat.le_refl _) _
          have HYo := Lib.hid (show Y.ownsRow w2.heap.size 3 1 (.slice A3 a.pos.length c3) a.pos.length (ints a.pos) by
            rw [hY]; exact ownsRow_setCell_below hXo hz2 _)
          have hzY : wr.heap.size < Y.heap.size := by rw [hY]; simpa [World.setCell] using hzX
          clear hY hBX hXw hXo hzX q0 q1 q2 p0 p1 p2
          obtain ⟨⟨q0, q1, q2⟩, p0, p1, p2⟩ := hBY.c3
          refine (rmoney_any _ _).mono ?_
          rintro e w' ⟨rfl, rfl⟩
          rcases bool_cases (isMoney (a.bal - p)) with m1 | m1
          · have HE2 := Lib.hid (show settleOf L market mark rate = ([], 0, 7) by rw [HT2.out, HQ.out, m1]; rfl)
            go_wp2_with fail
            go_ret3
            rw [HE2.out]
            exact ⟨none, 0, rfl, RdL.none_ _ _ _, hbr.trans (hYw.mono hws)⟩
          · have HE2 := Lib.hid (show settleAcc market mark rate (done ++ [{ a with bal := a.bal - p }]) (left + p) (L.drop (j + 1)) = settleOf L market mark rate by
              have := HT2.out; rw [HQ.out, m1] at this; rw [this]; rfl)
            obtain ⟨m11, m12⟩ := isMoney_iff.1 m1
            have hOX := HO.out.below hYw (Nat.le_refl _)
            obtain ⟨xs, hown, hcells⟩ := hOX
            have hown2 := HYo.out
            have HOW := Lib.hid hown
            have HCE := Lib.hid hcells
            have hlx : xs.length = j * 3 := by have := hown.1; omega
            have HN := Lib.hid hlx
            clear HT2 HQ hlx hown hcells
            go_wp2_with (at_builtin; go_must (refine wpList_app rfl _ _ _ rfl w.heap.size _ _ _ elem_acc _ j xs rfl (HOW.out.alloc _) (Y.heap.size + 1) _ _ _ [.int .i64 a.id, .int .i64 (a.bal - p), .slice A3 a.pos.length c3] rfl (rd_new3 Y #[.int .i64 a.id, .int .i64 (a.bal - p), .slice A3 a.pos.length c3] 37 _ rfl rfl) (by simp [Value.oneCell']) (by simp only [maxLen]; omega) (by omega) (by simp; omega) ?_); intro v' w4 hown4 hbel hg4 _)
            have hO2 := Lib.hid (OwnAccs.snoc (a := { a with bal := a.bal - p }) (HOW.out.alloc _) (HCE.out.mono fun _ _ _ h1 => World.ownsRow.alloc h1 _) (own_mono (World.ownsRow.alloc HYo.out _) (by omega)) k4 hg4 hown4)
            have hb4 : Below w.heap.size w w4 := (hbr.trans (hYw.mono hws)).trans (((Below.refl _ _).alloc (by omega) _).trans hbel)
            go_roundw
            case rel => exact ⟨j + 1, left + p, _, by omega, rfl, by go_num, hb4, by omega, by show _ = _; rw [List.length_append, HD.out]; rfl, HE2, hO2⟩
            case measure => simp [intOf]; omega
        · have he1 : (ep != 0) = true := by simpa using he
          have HE2 := Lib.hid (show settleOf L market mark rate = ([], 0, ep) by rw [HT.out, if_pos he])
          clear HT he
          go_wp2_with fail
          refine (rpays_any _ _ _ _ _ _ _ _ _ _ _ (k3.alloc (by omega) _) (by simp; omega)).mono ?_
          rintro e w2 ⟨rfl, hb2⟩
          rw [HP.out]
          go_wp2_with fail
          go_ret3
          rw [HE2.out]
          exact ⟨none, 0, rfl, RdL.none_ _ _ _, hbr.trans (((Below.refl _ _).alloc hws _).trans (hb2.mono (by simp; omega)))⟩
      · have hjn : j = n := by omega
        have HE2 := Lib.hid (show settleOf L market mark rate = (done, left, 0) by rw [← HS.out, hjn, List.drop_eq_nil_of_le (by have := HL.out; omega)]; rfl)
        clear hjn
        go_wp2_with fail
        go_ret3
        rw [HE2.out]
        have hdl := HD.out
        subst hdl
        exact ⟨Av, cv, rfl, HO.out.read, hbr⟩

end Go.Proofs.Ytockodmbhnlheaa
