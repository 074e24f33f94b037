/-
  THE WALKS over package risk: tiers, margins, soundness.
-/
import Derived.Test.YtockodmbhnlheaaEquity
import Derived.Test.YtockodmbhnlheaaRiskPure
import Derived.Test.YtockodmbhnlheaaMore
import Derived.Deep.QuietTactic
import Derived.BigQuiet
namespace Go.Proofs.Ytockodmbhnlheaa
open Go.RowKit

theorem ix0 (a b c d e f : Value) (w : World) : (Instr.index 186 (.agg #[a, b, c, d, e, f]) (.int .i64 0)).run Try.prog w = .ok (.agg #[a, b, c]) w := by
  kernel_rfl
theorem ix1 (a b c d e f : Value) (w : World) : (Instr.index 186 (.agg #[a, b, c, d, e, f]) (.int .i64 1)).run Try.prog w = .ok (.agg #[d, e, f]) w := by
  kernel_rfl
theorem tier_one {t : Int} (h : t ≤ 100000) : tierOf t = (10, 5) := by unfold tierOf; rw [if_pos h]
theorem tier_two {t : Int} (h : 100000 < t) (h' : t ≤ 1000000) : tierOf t = (20, 10) := by unfold tierOf; rw [if_neg (by omega), if_pos h']
theorem tier_three {t : Int} (h : 1000000 < t) : tierOf t = (50, 25) := by unfold tierOf; rw [if_neg (by omega), if_neg (by omega)]

set_option maxHeartbeats 1000000 in
theorem tier_any (t : Int) (w : World) :
    Calls Try.prog 131 #[.int .i64 t] w fun e w' => e = .returned (.tuple #[.int .i64 (tierOf t).1, .int .i64 (tierOf t).2]) ∧ Below w.heap.size w w' := by
  have i0 := ix0
  have i1 := ix1
  go_enter Try.func131, Try.ntmps131
  go_wp2_with fail
  go_loopw [9] (fun i wr => (i = .int .i64 0 ∨ i = .int .i64 1 ∧ 100000 < t ∨ i = .int .i64 2 ∧ 1000000 < t) ∧ Below w.heap.size w wr) (fun i _ => 2 - (intOf i).toNat)
  case atStart => exact ⟨.inl rfl, Below.refl _ _⟩
  case round =>
    obtain ⟨hj, hbr⟩ := hrel
    have hws := hbr.size
    rcases hj with rfl | ⟨rfl, hj⟩ | ⟨rfl, hj⟩
    · by_cases h1 : t ≤ 100000
      · have HE := Lib.hid (tier_one h1)
        go_wp2_with fail
        go_quiet (fail)
        go_wp2_with fail
        go_ret2
        exact ⟨pair_ii (by rw [HE.out]), below_drewN (hbr.alloc hws _) _⟩
      · have h2 : 100000 < t := by omega
        go_wp2_with fail
        go_roundw
        case rel => exact ⟨.inr (.inl ⟨rfl, h2⟩), hbr.alloc hws _⟩
        case measure => simp [intOf]
    · by_cases h1 : t ≤ 1000000
      · have HE := Lib.hid (tier_two hj h1)
        go_wp2_with fail
        go_quiet (fail)
        go_wp2_with fail
        go_ret2
        exact ⟨pair_ii (by rw [HE.out]), below_drewN (hbr.alloc hws _) _⟩
      · have h2 : 1000000 < t := by omega
        go_wp2_with fail
        go_roundw
        case rel => exact ⟨.inr (.inr ⟨rfl, h2⟩), hbr.alloc hws _⟩
        case measure => simp [intOf]
    · have HE := Lib.hid (tier_three hj)
      go_wp2_with fail
      go_ret2
      exact ⟨pair_ii (by rw [HE.out]), hbr⟩

theorem triple_iii {a b c a' b' c' : Int} (h : (a, b, c) = (a', b', c')) : Ending.returned (.tuple #[.int .i64 a, .int .i64 b, .int .i64 c]) = .returned (.tuple #[.int .i64 a', .int .i64 b', .int .i64 c']) := by
  injection h with h1 h; injection h with h2 h3; rw [h1, h2, h3]
theorem margins_drop {l marks : List Int} {j : Nat} {z k x y : Int} (hz : l[j]? = some z) (hk : marks[j]? = some k) :
    marginsFrom x y (l.drop j) (marks.drop j) = if (worthOf (max z (-z)) k).2 ≠ 0 then (0, 0, (worthOf (max z (-z)) k).2) else marginsFrom (x + wants1 z k) (y + wants2 z k) (l.drop (j + 1)) (marks.drop (j + 1)) := by
  obtain ⟨h1, h2⟩ := List.getElem?_eq_some_iff.1 hz
  obtain ⟨h3, h4⟩ := List.getElem?_eq_some_iff.1 hk
  rw [List.drop_eq_getElem_cons h1, List.drop_eq_getElem_cons h3, h2, h4, margins_step]
/-- what a position wants: the parts that the code reckons. -/
theorem wants_parts {z k m t1 t2 : Int} (hm : max z (-z) = m) (hw : worthOf m k = (m * k, 0)) (ht : tierOf (m * k) = (t1, t2)) :
    partOf (m * k) t1 100 true = (wants1 z k, 0) ∧ partOf (m * k) t2 100 true = (wants2 z k, 0) ∧ (0 ≤ wants1 z k ∧ wants1 z k ≤ 5000000) ∧ (0 ≤ wants2 z k ∧ wants2 z k ≤ 5000000) := by
  subst hm
  obtain ⟨_, _, _, h1, h2⟩ := worth_abs (show (worthOf (max z (-z)) k).2 = 0 by rw [hw])
  obtain ⟨⟨a1, a2⟩, ⟨a3, a4⟩, _⟩ := tier_bd (max z (-z) * k)
  rw [ht] at a1 a2 a3 a4
  simp only at a1 a2 a3 a4
  obtain ⟨p1, p2⟩ := part100 h1 h2 a1 a2
  obtain ⟨p3, p4⟩ := part100 h1 h2 a3 (show t2 ≤ 50 by omega)
  have e1 : wants1 z k = (max z (-z) * k * t1 + 99) / 100 := by unfold wants1; rw [ht]
  have e2 : wants2 z k = (max z (-z) * k * t2 + 99) / 100 := by unfold wants2; rw [ht]
  exact ⟨by rw [p1, e1], by rw [p3, e2], by omega, by omega⟩
theorem margins_end {l marks : List Int} {j : Nat} {x y : Int} (h : l.length ≤ j) : marginsFrom x y (l.drop j) (marks.drop j) = (x, y, 0) := by
  rw [List.drop_eq_nil_of_le h]; rfl

set_option maxHeartbeats 2000000 in
theorem margins_any (a : Ac) (A A' : Option Addr) (c n' c' : Nat) (marks : List Int) (B B' : Nat) (w : World) (h : Rd w B 1 A a.pos.length c (ints a.pos)) (hB : B ≤ w.heap.size) (h' : Rd w B' 1 A' n' c' (ints marks)) (hB' : B' ≤ w.heap.size) :
    Calls Try.prog 56 #[.agg #[.int .i64 a.id, .int .i64 a.bal, .slice A a.pos.length c], .slice A' n' c'] w fun e w' =>
      e = .returned (.tuple #[.int .i64 (marginsOf a marks).1, .int .i64 (marginsOf a marks).2.1, .int .i64 (marginsOf a marks).2.2]) ∧ Below w.heap.size w w' := by
  by_cases h0 : accCheck a.id a.bal a.pos marks.length = 0
  · have HE := Lib.hid (show marginsFrom 0 0 (a.pos.drop 0) (marks.drop 0) = marginsOf a marks by unfold marginsOf; rw [if_neg (by rw [h0]; simp)]; rfl)
    obtain rfl := h'.ofInts
    have HC := Lib.hid h0
    obtain ⟨_, ⟨hl1, hl2⟩, hl3, _, _⟩ := accCheck_ok h0
    have hl : a.pos.length = marks.length := by omega
    obtain ⟨n, hn⟩ : ∃ n, marks.length = n := ⟨_, rfl⟩
    rw [hn] at hl h' hl1 hl2
    have HN := Lib.hid hn
    have HL := Lib.hid hl
    have hn2 : n ≤ 2 := by omega
    rw [hl] at h
    rw [hl, hn]
    clear h0 hl hn hl3 hl1 hl2
    go_enter Try.func56, Try.ntmps56
    go_wp2_with fail
    refine (accCheck_any _ _ _ _ _ _ _ _ _ (h.alloc hB _) (by simp; omega)).mono ?_
    rintro e w1 ⟨rfl, hb1⟩
    rw [← HN.out, HC.out, HN.out]
    obtain ⟨⟨b0, b1, b2⟩, _⟩ := ((Blk.new w 37 #[.int .i64 a.id, .int .i64 a.bal, .slice A n c]).below hb1 (by simp)).c3
    have hw1 : w.heap.size < w1.heap.size := by have := hb1.size; simp at this; omega
    have h9 : Below w.heap.size w w1 := ((Below.refl _ _).alloc (Nat.le_refl _) _).trans (hb1.mono (by simp))
    have hp1 := h.below (h9.mono hB)
    have hm1 := h'.below (h9.mono hB')
    clear hb1
    go_wp2_with fail
    go_loopw [4, 5, 28] (fun s t i wr => ∃ (j : Nat) (x y : Int), j ≤ n ∧ s = .int .i64 x ∧ t = .int .i64 y ∧ i = .int .i64 j ∧ (0 ≤ x ∧ x ≤ 5000000 * (j : Int)) ∧ (0 ≤ y ∧ y ≤ 5000000 * (j : Int)) ∧ Below w1.heap.size w1 wr ∧ Hid (marginsFrom x y (a.pos.drop j) (marks.drop j) = marginsOf a marks)) (fun _ _ i _ => n - (intOf i).toNat)
    case atStart => exact ⟨0, 0, 0, Nat.zero_le _, rfl, rfl, rfl, by omega, by omega, Below.refl _ _, HE⟩
    case round =>
      obtain ⟨j, x, y, hj, rfl, rfl, rfl, hx, hy, hbr, HR⟩ := hrel
      have hsz := hbr.size
      clear b0 b1 b2
      by_cases hlt : j < n
      · obtain ⟨b, o, rfl, hb, z, hz, hc⟩ := (hp1.below (hbr.mono (by omega))).int hlt
        obtain ⟨b', o', rfl, hb', k, hk, hc'⟩ := (hm1.below (hbr.mono (by omega))).int hlt
        have HZ := Lib.hid hz
        have HD := Lib.hid (HR.out.symm.trans (margins_drop hz hk))
        clear hz hk
        obtain ⟨m, hm, hm1⟩ : ∃ m, max z (-z) = m ∧ (z < -z ∧ m = -z ∨ -z ≤ z ∧ m = z) := ⟨_, rfl, by omega⟩
        have HM := Lib.hid hm
        obtain ⟨hz1, hz2⟩ := posOk_get (accCheck_ok HC.out).2.2.2.2 HZ.out
        clear hm
        rcases worth_cases m k with hw | ⟨hw, _, _, hw1, hw2⟩
        · have HW := Lib.hid hw
          have HE2 := Lib.hid (show marginsOf a marks = (0, 0, 3) by rw [HD.out, HM.out, hw]; rfl)
          clear hw
          rcases hm1 with ⟨h3, rfl⟩ | ⟨h3, rfl⟩
          all_goals
            go_wp2_with fail
            refine (worth_any _ _ _).mono ?_
            rintro e w' ⟨rfl, rfl⟩
            rw [HW.out]
            go_wp2_with fail
            go_ret3
            exact ⟨triple_iii (by rw [HE2.out]), h9.trans (hbr.mono (by omega))⟩
        · have HW := Lib.hid hw
          obtain ⟨t1, t2, ht⟩ : ∃ t1 t2, tierOf (m * k) = (t1, t2) := ⟨_, _, rfl⟩
          have HT := Lib.hid ht
          obtain ⟨p1, p2, hp3, hp4⟩ := wants_parts HM.out hw ht
          have HP1 := Lib.hid p1
          have HP2 := Lib.hid p2
          have HE2 := Lib.hid (show marginsFrom (x + wants1 z k) (y + wants2 z k) (a.pos.drop (j + 1)) (marks.drop (j + 1)) = marginsOf a marks by rw [HD.out, HM.out, hw]; rfl)
          clear hw ht p1 p2
          generalize wants1 z k = u1 at *
          generalize wants2 z k = u2 at *
          rcases hm1 with ⟨h3, rfl⟩ | ⟨h3, rfl⟩
          all_goals
            go_wp2_with fail
            refine (worth_any _ _ _).mono ?_
            rintro e w' ⟨rfl, rfl⟩
            rw [HW.out]
            go_wp2_with fail
            refine (tier_any _ _).mono ?_
            rw [HT.out]
            rintro e w2 ⟨rfl, hb2⟩
            go_wp2_with fail
            refine (part_any _ _ _ _ _).mono ?_
            rw [HP1.out]
            rintro e w' ⟨rfl, rfl⟩
            go_wp2_with fail
            refine (part_any _ _ _ _ _).mono ?_
            rw [HP2.out]
            rintro e w' ⟨rfl, rfl⟩
            have hb3 := hbr.trans (hb2.mono hsz)
            clear hb2
            go_wp2_with fail
            go_roundw
            case rel => exact ⟨j + 1, x + u1, y + u2, by omega, rfl, rfl, by go_num, by omega, by omega, hb3, HE2⟩
            case measure => simp [intOf]; omega
      · have HE2 := Lib.hid (HR.out.symm.trans (margins_end (by have := HL.out; omega)))
        go_wp2_with fail
        go_ret3
        exact ⟨triple_iii (by rw [HE2.out]), h9.trans (hbr.mono (by omega))⟩
  · have HE := Lib.hid (show marginsOf a marks = (0, 0, accCheck a.id a.bal a.pos marks.length) by unfold marginsOf; rw [if_pos h0])
    obtain rfl := h'.ofInts
    have h1 : (accCheck a.id a.bal a.pos marks.length != 0) = true := by simpa using h0
    clear h0
    go_enter Try.func56, Try.ntmps56
    go_wp2_with fail
    refine (accCheck_any _ _ _ _ _ _ _ _ _ (h.alloc hB _) (by simp; omega)).mono ?_
    rintro e w1 ⟨rfl, hb1⟩
    go_wp2_with fail
    go_ret3
    exact ⟨triple_iii (by rw [HE.out]), ((Below.refl _ _).alloc (Nat.le_refl _) _).trans (hb1.mono (by simp))⟩

theorem bool_cases2 (b : Bool) : b = false ∨ b = true := by cases b <;> simp
set_option maxHeartbeats 1000000 in
theorem sound_any (a : Ac) (A A' : Option Addr) (c n' c' : Nat) (marks : List Int) (B B' : Nat) (w : World) (h : Rd w B 1 A a.pos.length c (ints a.pos)) (hB : B ≤ w.heap.size) (h' : Rd w B' 1 A' n' c' (ints marks)) (hB' : B' ≤ w.heap.size) :
    Calls Try.prog 57 #[.agg #[.int .i64 a.id, .int .i64 a.bal, .slice A a.pos.length c], .slice A' n' c'] w fun e w' =>
      e = .returned (.tuple #[.bool (soundOf a marks).1, .bool (soundOf a marks).2.1, .int .i64 (soundOf a marks).2.2]) ∧ Below w.heap.size w w' := by
  obtain ⟨x, y, em, hm⟩ : ∃ x y em, marginsOf a marks = (x, y, em) := ⟨_, _, _, rfl⟩
  obtain ⟨n, en, hn⟩ : ∃ n en, equityOf a marks = (n, en) := ⟨_, _, rfl⟩
  have HM := Lib.hid hm
  have HN := Lib.hid hn
  have HS := Lib.hid (show soundOf a marks = if em ≠ 0 then (false, false, em) else if en ≠ 0 then (false, false, en) else (decide (x ≤ n), decide (y ≤ n), 0) by unfold soundOf; rw [hm, hn])
  clear hm hn
  go_enter Try.func57, Try.ntmps57
  go_wp2_with fail
  refine (margins_any a _ _ _ _ _ marks _ _ _ (h.alloc hB _) (by simp; omega) (h'.alloc hB' _) (by simp; omega)).mono ?_
  rw [HM.out]
  rintro e w1 ⟨rfl, hb1⟩
  obtain ⟨⟨b0, b1, b2⟩, _⟩ := ((Blk.new w 37 #[.int .i64 a.id, .int .i64 a.bal, .slice A a.pos.length c]).below hb1 (by simp)).c3
  have hw1 : w.heap.size < w1.heap.size := by have := hb1.size; simp at this; omega
  have h9 : Below w.heap.size w w1 := ((Below.refl _ _).alloc (Nat.le_refl _) _).trans (hb1.mono (by simp))
  have hp1 := h.below (h9.mono hB)
  have hm1 := h'.below (h9.mono hB')
  clear hb1
  by_cases hem : em = 0
  · subst hem
    have HS2 := Lib.hid (HS.out.trans (if_neg (by simp)))
    go_wp2_with fail
    refine (equity_any a _ _ _ _ _ marks _ _ _ hp1 (by omega) hm1 (by omega)).mono ?_
    rw [HN.out]
    rintro e w2 ⟨rfl, hb2⟩
    have h10 := h9.trans (hb2.mono (by omega))
    by_cases hen : en = 0
    · subst hen
      have HS3 := Lib.hid (HS2.out.trans (if_neg (by simp)))
      go_wp2_with fail
      go_ret3
      rw [HS3.out]
      exact ⟨rfl, h10⟩
    · have HS3 := Lib.hid (HS2.out.trans (if_pos hen))
      have hen1 : (en != 0) = true := by simpa using hen
      clear hen
      go_wp2_with fail
      go_ret3
      rw [HS3.out]
      exact ⟨rfl, h10⟩
  · have HS2 := Lib.hid (HS.out.trans (if_pos hem))
    have hem1 : (em != 0) = true := by simpa using hem
    clear hem
    go_wp2_with fail
    go_ret3
    rw [HS2.out]
    exact ⟨rfl, h9⟩

end Go.Proofs.Ytockodmbhnlheaa
