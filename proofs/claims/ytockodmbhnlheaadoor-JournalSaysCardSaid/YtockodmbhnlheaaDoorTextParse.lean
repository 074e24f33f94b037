/-
  text.Parse, walked.
-/
import Derived.Test.YtockodmbhnlheaaDoorTextOrder
import Derived.Test.YtockodmbhnlheaaDoorTextParP
namespace Go.Proofs.YtockodmbhnlheaaDoor
open Go.RowKit

/-- a block of the call's own, stored whole once more. -/
theorem set11w {w W : World} {g : Nat} {t : TypeId} {c0 c1 c2 c3 c4 c5 c6 c7 c8 c9 c10 : Value} (h : Blk W g t #[c0, c1, c2, c3, c4, c5, c6, c7, c8, c9, c10]) (hb : Below w.heap.size w W) (hg : w.heap.size ≤ g) (a0 a1 a2 a3 a4 a5 a6 a7 a8 a9 a10 : Value) :
    Blk (((((((((((W.setCell ⟨g, 0, none⟩ a0).setCell ⟨g, 1, none⟩ a1).setCell ⟨g, 2, none⟩ a2).setCell ⟨g, 3, none⟩ a3).setCell ⟨g, 4, none⟩ a4).setCell ⟨g, 5, none⟩ a5).setCell ⟨g, 6, none⟩ a6).setCell ⟨g, 7, none⟩ a7).setCell ⟨g, 8, none⟩ a8).setCell ⟨g, 9, none⟩ a9).setCell ⟨g, 10, none⟩ a10) g t #[a0, a1, a2, a3, a4, a5, a6, a7, a8, a9, a10] ∧
    Below w.heap.size w (((((((((((W.setCell ⟨g, 0, none⟩ a0).setCell ⟨g, 1, none⟩ a1).setCell ⟨g, 2, none⟩ a2).setCell ⟨g, 3, none⟩ a3).setCell ⟨g, 4, none⟩ a4).setCell ⟨g, 5, none⟩ a5).setCell ⟨g, 6, none⟩ a6).setCell ⟨g, 7, none⟩ a7).setCell ⟨g, 8, none⟩ a8).setCell ⟨g, 9, none⟩ a9).setCell ⟨g, 10, none⟩ a10) := by
  constructor
  · have h1 := (((((((((((h.set_ 0 a0).set_ 1 a1).set_ 2 a2).set_ 3 a3).set_ 4 a4).set_ 5 a5).set_ 6 a6).set_ 7 a7).set_ 8 a8).set_ 9 a9).set_ 10 a10)
    simp only [List.setIfInBounds_toArray, List.set_cons_zero, List.set_cons_succ] at h1
    exact h1
  · iterate 11 (refine Below.setCell ?_ hg _)
    exact hb
theorem parseZ_any (w : World) : Calls Tryd.prog 32 #[] w fun e w' => e = .returned (.tuple #[.agg #[.int .i64 0, .int .i64 0, .int .i64 0, .int .i64 0, .int .i64 0, .int .i64 0, .int .i64 0, .int .i64 0, .int .i64 0, .int .i64 0, .bool false], .int .i64 1]) ∧ Below w.heap.size w w' := by
  go_enter Tryd.func32, Tryd.ntmps32
  go_upto_region 1 with (fail)
  refine wp_nameT ?_
  intro w1 hw1
  have hb1 : Below w.heap.size w w1 := by rw [hw1]; exact (Below.refl _ _).alloc (Nat.le_refl _) _
  have X1 : Blk w1 w.heap.size 25 #[.int .i64 0, .int .i64 0, .int .i64 0, .int .i64 0, .int .i64 0, .int .i64 0, .int .i64 0, .int .i64 0, .int .i64 0, .int .i64 0, .bool false] := by rw [hw1]; exact Blk.new w _ _
  clear hw1
  obtain ⟨⟨z0, z1, z2, z3, z4, z5, z6, z7, z8, z9, z10⟩, y0, y1, y2, y3, y4, y5, y6, y7, y8, y9, y10⟩ := bl_c11 X1
  have x1 := X1.lt
  go_wp2_with fail
  refine exit_nameT ?_
  intro Z hZ
  obtain ⟨XZ, hbZ⟩ := set11w X1 hb1 (Nat.le_refl _) (.int .i64 0) (.int .i64 0) (.int .i64 0) (.int .i64 0) (.int .i64 0) (.int .i64 0) (.int .i64 0) (.int .i64 0) (.int .i64 0) (.int .i64 0) (.bool false)
  rw [← hZ] at XZ hbZ
  clear hZ z0 z1 z2 z3 z4 z5 z6 z7 z8 z9 z10 y0 y1 y2 y3 y4 y5 y6 y7 y8 y9 y10
  obtain ⟨⟨z0, z1, z2, z3, z4, z5, z6, z7, z8, z9, z10⟩, -⟩ := bl_c11 XZ
  refine bodyPost_ret (v := .tuple #[.agg #[.int .i64 0, .int .i64 0, .int .i64 0, .int .i64 0, .int .i64 0, .int .i64 0, .int .i64 0, .int .i64 0, .int .i64 0, .int .i64 0, .bool false], .int .i64 1]) (by simp [results, Tryd.results32, go_sem, *]) rfl ?_
  exact ⟨rfl, hbZ⟩
set_option maxHeartbeats 4000000 in
set_option maxRecDepth 100000 in
theorem parse_any (s : List UInt8) (w : World) (he : Env w) : Calls Tryd.prog 9 #[.string (bs s)] w fun e w' => ∃ (x : Cm) (k : Int), e = .returned (.tuple #[cmV x, .int .i64 k]) ∧ parseOf s = (x, k) ∧ Below w.heap.size w w' := by
  have HE := Lib.hid he
  clear he
  unfold cmV
  go_enter Tryd.func9, Tryd.ntmps9
  go_upto_region 1 with (fail)
  refine wp_nameT ?_
  intro w1 hw1
  have hb1 : Below w.heap.size w w1 := by rw [hw1]; exact (Below.refl _ _).alloc (Nat.le_refl _) _
  have X1 : Blk w1 w.heap.size 25 #[.int .i64 0, .int .i64 0, .int .i64 0, .int .i64 0, .int .i64 0, .int .i64 0, .int .i64 0, .int .i64 0, .int .i64 0, .int .i64 0, .bool false] := by rw [hw1]; exact Blk.new w _ _
  clear hw1
  have HX1 := Lib.hid X1
  have x1 := X1.lt
  have HB1 := Lib.hid hb1
  clear X1
  have hsz : (bs s).size = s.length := bs_size s
  by_cases hl : 20000 < s.length
  · have HP := Lib.hid (show parseOf s = (zeroCm, 2) by unfold parseOf; rw [if_pos hl])
    obtain ⟨⟨z0, z1, z2, z3, z4, z5, z6, z7, z8, z9, z10⟩, y0, y1, y2, y3, y4, y5, y6, y7, y8, y9, y10⟩ := bl_c11 HX1.out
    go_wp2_with fail
    refine exit_nameT ?_
    intro Z hZ
    obtain ⟨XZ, hbZ⟩ := set11w HX1.out HB1.out (Nat.le_refl _) (.int .i64 0) (.int .i64 0) (.int .i64 0) (.int .i64 0) (.int .i64 0) (.int .i64 0) (.int .i64 0) (.int .i64 0) (.int .i64 0) (.int .i64 0) (.bool false)
    rw [← hZ] at XZ hbZ
    clear hZ z0 z1 z2 z3 z4 z5 z6 z7 z8 z9 z10 y0 y1 y2 y3 y4 y5 y6 y7 y8 y9 y10
    obtain ⟨⟨z0, z1, z2, z3, z4, z5, z6, z7, z8, z9, z10⟩, -⟩ := bl_c11 XZ
    refine bodyPost_ret (v := .tuple #[.agg #[.int .i64 0, .int .i64 0, .int .i64 0, .int .i64 0, .int .i64 0, .int .i64 0, .int .i64 0, .int .i64 0, .int .i64 0, .int .i64 0, .bool false], .int .i64 2]) (by simp [results, Tryd.results9, go_sem, *]) rfl ?_
    exact ⟨zeroCm, 2, rfl, HP.out, hbZ⟩
  have hl' : s.length ≤ 20000 := by omega
  obtain ⟨kw, r, hsp⟩ : ∃ kw r, spl 32 s = kw :: r := by
    cases h : spl 32 s with
    | nil => exact absurd h (spl_ne 32 s)
    | cons a b => exact ⟨a, b, rfl⟩
  have HP := Lib.hid (show parseOf s = match readWords (kw :: r) with
    | some c => (c, 0)
    | none => (zeroCm, 1) by unfold parseOf readOf; rw [if_neg hl, hsp]; cases readWords (kw :: r) <;> rfl)
  have HSM := Lib.hid (spl_small 32 s)
  have HSP := Lib.hid hsp
  have HSL := Lib.hid hl'
  have hS := split_any s hl' w1 (HE.out.next hb1)
  rw [hsp] at hS
  have hl2 : ¬ ((s.length : Int) > 20000) := by omega
  have HS := Lib.hid hS
  clear hl hl' hsp hS hb1
  go_wp2_with fail
  refine HS.out.mono ?_
  rintro e w2 ⟨A, c, rfl, hown, hb2⟩
  have HO2 := Lib.hid hown
  have HB2 := Lib.hid (HB1.out.trans (hb2.mono (by omega)))
  have HX2 := Lib.hid (HX1.out.below hb2 x1)
  have hs2 := hb2.size
  clear hown hb2 HS
  go_wp2_with fail
  refine (kinds_any w2).mono ?_
  rintro e w3 ⟨rfl, hb3⟩
  have HB3 := Lib.hid (HB2.out.trans (hb3.mono (by omega)))
  have HX3 := Lib.hid (HX2.out.below hb3 HX2.out.lt)
  have HR3 := Lib.hid ((Rd.of_own HO2.out).below hb3)
  have x3 := HX3.out.lt
  have hs3 := hb3.size
  clear hb3 HO2
  obtain ⟨b0, o0, rfl, hb0, hc0⟩ := HR3.out.at_ (by simp)
  have k0 : w3.cell? ⟨b0, o0, none⟩ = some (.string (bs kw)) := hc0 0 _ rfl
  clear hc0
  go_wp2_with fail
  go_loopw [6, 21] (fun v6 vi wr => ∃ j : Nat, j ≤ 8 ∧ v6 = .int .i64 (kvOf kw j) ∧ vi = .int .i64 j ∧ w3 = wr) (fun v6 vi _ => 8 - (intOf vi).toNat)
  case atStart => exact ⟨0, by omega, by rw [kvOf_zero], rfl, rfl⟩
  case round =>
    obtain ⟨j, hj, rfl, rfl, rfl⟩ := hrel
    by_cases hlt : j < 8
    · have hq : ∀ w, (Instr.index 56 (.agg #[.string (bs []), .string (bs wDeposit), .string (bs wWithdraw), .string (bs wPlace), .string (bs wCancel), .string (bs wIndex), .string (bs wFund), .string (bs wSweep)]) (.int .i64 (j : Int))).run Tryd.prog w = .ok (.string (bs (kindW j))) w := fun w => run_kinds j hlt w
      by_cases g1 : kindW j = kw
      · have d1 : ((bs (kindW (j : Int))).toList == (bs kw).toList) = true := by rw [bs_cmp]; exact decide_eq_true g1
        by_cases g0 : j = 0
        · have HV := Lib.hid (kvOf_no (w := kw) (j := j) (.inl g0))
          have d2 : ((bs (kindW (j : Int))).toList == []) = true := by rw [bs_cmpL, g0]; decide
          clear g1 g0
          go_wp2_with fail
          go_roundw
          case rel => exact ⟨j + 1, by omega, by rw [HV.out], by go_num, trivial⟩
          case measure => simp [intOf]; omega
        · have HV := Lib.hid (kvOf_yes (w := kw) (j := j) (by omega) g1)
          have d2 : ((bs (kindW (j : Int))).toList == []) = false := by rw [bs_cmpL]; exact decide_eq_false (kindW_nil (by omega))
          clear g1 g0
          go_wp2_with fail
          go_roundw
          case rel => exact ⟨j + 1, by omega, by rw [HV.out], by go_num, trivial⟩
          case measure => simp [intOf]; omega
      · have HV := Lib.hid (kvOf_no (w := kw) (j := j) (.inr g1))
        have d1 : ((bs (kindW (j : Int))).toList == (bs kw).toList) = false := by rw [bs_cmp]; exact decide_eq_false g1
        clear g1
        go_wp2_with fail
        go_roundw
        case rel => exact ⟨j + 1, by omega, by rw [HV.out], by go_num, trivial⟩
        case measure => simp [intOf]; omega
    · obtain rfl : j = 8 := by omega
      rw [kvOf_end]
      by_cases e0 : kindOf kw = 0
      · have HZ := Lib.hid (show parseOf s = (zeroCm, 1) by rw [HP.out, read_zero r e0])
        have d0 : (kindOf kw == 0) = true := by rw [e0]; rfl
        clear e0
        go_wp2_with fail
        refine (parseZ_any w3).mono ?_
        rintro e w4 ⟨rfl, hb4⟩
        have HX4 := Lib.hid (HX3.out.below hb4 HX3.out.lt)
        have HB4 := Lib.hid (HB3.out.trans (hb4.mono (by omega)))
        obtain ⟨⟨z0, z1, z2, z3, z4, z5, z6, z7, z8, z9, z10⟩, y0, y1, y2, y3, y4, y5, y6, y7, y8, y9, y10⟩ := bl_c11 HX4.out
        have x4 := HX4.out.lt
        clear hb4
        go_wp2_with fail
        refine exit_nameT ?_
        intro Z hZ
        obtain ⟨XZ, hbZ⟩ := set11w HX4.out HB4.out (Nat.le_refl _) (.int .i64 0) (.int .i64 0) (.int .i64 0) (.int .i64 0) (.int .i64 0) (.int .i64 0) (.int .i64 0) (.int .i64 0) (.int .i64 0) (.int .i64 0) (.bool false)
        rw [← hZ] at XZ hbZ
        clear hZ z0 z1 z2 z3 z4 z5 z6 z7 z8 z9 z10 y0 y1 y2 y3 y4 y5 y6 y7 y8 y9 y10
        obtain ⟨⟨z0, z1, z2, z3, z4, z5, z6, z7, z8, z9, z10⟩, -⟩ := bl_c11 XZ
        refine bodyPost_ret (v := .tuple #[.agg #[.int .i64 0, .int .i64 0, .int .i64 0, .int .i64 0, .int .i64 0, .int .i64 0, .int .i64 0, .int .i64 0, .int .i64 0, .int .i64 0, .bool false], .int .i64 1]) (by simp [results, Tryd.results9, go_sem, *]) rfl ?_
        exact ⟨zeroCm, 1, rfl, HZ.out, hbZ⟩
      have d0 : (kindOf kw == 0) = false := by simp [e0]
      by_cases e3 : kindOf kw = 3
      · have HQ := Lib.hid (show parseOf s = match orderQ (kw :: r) with
          | some c => (c, 0)
          | none => (zeroCm, 1) by rw [HP.out, read_three r e3])
        have d3 : (kindOf kw == 3) = true := by rw [e3]; rfl
        clear e0 e3
        have HL := Lib.hid (show ∀ l ∈ kw :: r, l.length ≤ 281474976710656 by
          intro l hl; have := HSM.out.2 l (by rw [HSP.out]; exact hl); have := HSL.out; omega)
        go_wp2_with fail
        refine (order_any (kw :: r) _ _ c _ w3 HR3.out (by omega) (HE.out.next HB3.out) HL.out).mono ?_
        rintro e w5 ⟨x, rfl, hx, hb5⟩
        have HX5 := Lib.hid (HX3.out.below hb5 x3)
        have HB5 := Lib.hid (HB3.out.trans (hb5.mono (by omega)))
        have hs5 := hb5.size
        have HXQ := Lib.hid hx
        clear hb5 hx
        obtain ⟨xk, xa, xm, xn, ⟨xi, xc, xs, xp, xq⟩, xh, xr⟩ := x
        unfold cmV
        cases hq : orderQ (kw :: r) with
        | none =>
          have HZ := Lib.hid (show parseOf s = (zeroCm, 1) by rw [HQ.out, hq])
          rw [show (none : Option Cm).isSome = false from rfl]
          clear hq
          go_upto_region 17 with (fail)
          refine wp_nameT ?_
          intro w6 hw6
          have HX6 : Hid (Blk w6 w.heap.size 25 #[.int .i64 0, .int .i64 0, .int .i64 0, .int .i64 0, .int .i64 0, .int .i64 0, .int .i64 0, .int .i64 0, .int .i64 0, .int .i64 0, .bool false]) := by rw [hw6]; exact Lib.hid (HX5.out.alloc _)
          have HB6 : Hid (Below w.heap.size w w6) := by rw [hw6]; exact Lib.hid (HB5.out.alloc (by omega) _)
          have XN : Blk w6 w5.heap.size 25 #[.int .i64 xk, .int .i64 xa, .int .i64 xm, .int .i64 xn, .int .i64 xi, .int .i64 xc, .int .i64 xs, .int .i64 xp, .int .i64 xq, .int .i64 xh, .bool xr] := by rw [hw6]; exact Blk.new w5 _ _
          have hs6 : w.heap.size < w6.heap.size := HX6.out.lt
          clear hw6
          clear XN
          go_wp2_with fail
          refine (parseZ_any w6).mono ?_
          rintro e w4 ⟨rfl, hb4⟩
          have HX4 := Lib.hid (HX6.out.below hb4 HX6.out.lt)
          have HB4 := Lib.hid (HB6.out.trans (hb4.mono (by omega)))
          obtain ⟨⟨z0, z1, z2, z3, z4, z5, z6, z7, z8, z9, z10⟩, y0, y1, y2, y3, y4, y5, y6, y7, y8, y9, y10⟩ := bl_c11 HX4.out
          have x4 := HX4.out.lt
          clear hb4
          go_wp2_with fail
          refine exit_nameT ?_
          intro Z hZ
          obtain ⟨XZ, hbZ⟩ := set11w HX4.out HB4.out (Nat.le_refl _) (.int .i64 0) (.int .i64 0) (.int .i64 0) (.int .i64 0) (.int .i64 0) (.int .i64 0) (.int .i64 0) (.int .i64 0) (.int .i64 0) (.int .i64 0) (.bool false)
          rw [← hZ] at XZ hbZ
          clear hZ z0 z1 z2 z3 z4 z5 z6 z7 z8 z9 z10 y0 y1 y2 y3 y4 y5 y6 y7 y8 y9 y10
          obtain ⟨⟨z0, z1, z2, z3, z4, z5, z6, z7, z8, z9, z10⟩, -⟩ := bl_c11 XZ
          refine bodyPost_ret (v := .tuple #[.agg #[.int .i64 0, .int .i64 0, .int .i64 0, .int .i64 0, .int .i64 0, .int .i64 0, .int .i64 0, .int .i64 0, .int .i64 0, .int .i64 0, .bool false], .int .i64 1]) (by simp [results, Tryd.results9, go_sem, *]) rfl ?_
          exact ⟨zeroCm, 1, rfl, HZ.out, hbZ⟩
        | some y =>
          have e := HXQ.out y hq
          have HZ := Lib.hid (show parseOf s = (y, 0) by rw [HQ.out, hq])
          subst e
          rw [show (some (⟨xk, xa, xm, xn, ⟨xi, xc, xs, xp, xq⟩, xh, xr⟩ : Cm)).isSome = true from rfl]
          clear hq
          go_upto_region 17 with (fail)
          refine wp_nameT ?_
          intro w6 hw6
          have HX6 : Hid (Blk w6 w.heap.size 25 #[.int .i64 0, .int .i64 0, .int .i64 0, .int .i64 0, .int .i64 0, .int .i64 0, .int .i64 0, .int .i64 0, .int .i64 0, .int .i64 0, .bool false]) := by rw [hw6]; exact Lib.hid (HX5.out.alloc _)
          have HB6 : Hid (Below w.heap.size w w6) := by rw [hw6]; exact Lib.hid (HB5.out.alloc (by omega) _)
          have XN : Blk w6 w5.heap.size 25 #[.int .i64 xk, .int .i64 xa, .int .i64 xm, .int .i64 xn, .int .i64 xi, .int .i64 xc, .int .i64 xs, .int .i64 xp, .int .i64 xq, .int .i64 xh, .bool xr] := by rw [hw6]; exact Blk.new w5 _ _
          have hs6 : w.heap.size < w6.heap.size := HX6.out.lt
          clear hw6
          obtain ⟨⟨v0, v1, v2, v3, v4, v5, v6, v7, v8, v9, v10⟩, -⟩ := bl_c11 XN
          obtain ⟨⟨z0, z1, z2, z3, z4, z5, z6, z7, z8, z9, z10⟩, y0, y1, y2, y3, y4, y5, y6, y7, y8, y9, y10⟩ := bl_c11 HX6.out
          go_wp2_with fail
          refine exit_nameT ?_
          intro Z hZ
          obtain ⟨XZ, hbZ⟩ := set11w HX6.out HB6.out (Nat.le_refl _) (.int .i64 xk) (.int .i64 xa) (.int .i64 xm) (.int .i64 xn) (.int .i64 xi) (.int .i64 xc) (.int .i64 xs) (.int .i64 xp) (.int .i64 xq) (.int .i64 xh) (.bool xr)
          rw [← hZ] at XZ hbZ
          clear hZ z0 z1 z2 z3 z4 z5 z6 z7 z8 z9 z10 y0 y1 y2 y3 y4 y5 y6 y7 y8 y9 y10
          obtain ⟨⟨z0, z1, z2, z3, z4, z5, z6, z7, z8, z9, z10⟩, -⟩ := bl_c11 XZ
          refine bodyPost_ret (v := .tuple #[.agg #[.int .i64 xk, .int .i64 xa, .int .i64 xm, .int .i64 xn, .int .i64 xi, .int .i64 xc, .int .i64 xs, .int .i64 xp, .int .i64 xq, .int .i64 xh, .bool xr], .int .i64 0]) (by simp [results, Tryd.results9, go_sem, *]) rfl ?_
          exact ⟨⟨xk, xa, xm, xn, ⟨xi, xc, xs, xp, xq⟩, xh, xr⟩, 0, rfl, HZ.out, hbZ⟩
      have d3 : (kindOf kw == 3) = false := by simp [e3]
      by_cases e7 : kindOf kw = 7
      · have HQ := Lib.hid (show parseOf s = match (if r = [] then some { zeroCm with kind := 7 } else none : Option Cm) with
          | some c => (c, 0)
          | none => (zeroCm, 1) by rw [HP.out, read_seven r e7])
        rw [e7] at d0 d3 ⊢
        have f1 := HX3.out
        by_cases hr : r = []
        · have HZ := Lib.hid (show parseOf s = ({ zeroCm with kind := 7 }, 0) by rw [HQ.out, if_pos hr])
          subst hr
          clear e0 e3 e7 d0 d3
          obtain ⟨⟨z0, z1, z2, z3, z4, z5, z6, z7, z8, z9, z10⟩, y0, y1, y2, y3, y4, y5, y6, y7, y8, y9, y10⟩ := bl_c11 HX3.out
          go_wp2_with fail
          refine exit_nameT ?_
          intro Z hZ
          obtain ⟨XZ, hbZ⟩ := set11w HX3.out HB3.out (Nat.le_refl _) (.int .i64 7) (.int .i64 0) (.int .i64 0) (.int .i64 0) (.int .i64 0) (.int .i64 0) (.int .i64 0) (.int .i64 0) (.int .i64 0) (.int .i64 0) (.bool false)
          rw [← hZ] at XZ hbZ
          clear hZ z0 z1 z2 z3 z4 z5 z6 z7 z8 z9 z10 y0 y1 y2 y3 y4 y5 y6 y7 y8 y9 y10
          obtain ⟨⟨z0, z1, z2, z3, z4, z5, z6, z7, z8, z9, z10⟩, -⟩ := bl_c11 XZ
          refine bodyPost_ret (v := .tuple #[.agg #[.int .i64 7, .int .i64 0, .int .i64 0, .int .i64 0, .int .i64 0, .int .i64 0, .int .i64 0, .int .i64 0, .int .i64 0, .int .i64 0, .bool false], .int .i64 0]) (by simp [results, Tryd.results9, go_sem, *]) rfl ?_
          exact ⟨⟨7, 0, 0, 0, ⟨0, 0, 0, 0, 0⟩, 0, false⟩, 0, rfl, HZ.out, hbZ⟩
        · have HZ := Lib.hid (show parseOf s = (zeroCm, 1) by rw [HQ.out, if_neg hr])
          have hl1 : 0 < r.length := List.length_pos_iff.2 hr
          have dl : (((r.length : Int) + 1) != 1) = true := by simp; omega
          clear e0 e3 e7 d0 d3 hr
          go_wp2_with fail
          refine (parseZ_any w3).mono ?_
          rintro e w4 ⟨rfl, hb4⟩
          have HX4 := Lib.hid (HX3.out.below hb4 HX3.out.lt)
          have HB4 := Lib.hid (HB3.out.trans (hb4.mono (by omega)))
          obtain ⟨⟨z0, z1, z2, z3, z4, z5, z6, z7, z8, z9, z10⟩, y0, y1, y2, y3, y4, y5, y6, y7, y8, y9, y10⟩ := bl_c11 HX4.out
          have x4 := HX4.out.lt
          clear hb4
          go_wp2_with fail
          refine exit_nameT ?_
          intro Z hZ
          obtain ⟨XZ, hbZ⟩ := set11w HX4.out HB4.out (Nat.le_refl _) (.int .i64 0) (.int .i64 0) (.int .i64 0) (.int .i64 0) (.int .i64 0) (.int .i64 0) (.int .i64 0) (.int .i64 0) (.int .i64 0) (.int .i64 0) (.bool false)
          rw [← hZ] at XZ hbZ
          clear hZ z0 z1 z2 z3 z4 z5 z6 z7 z8 z9 z10 y0 y1 y2 y3 y4 y5 y6 y7 y8 y9 y10
          obtain ⟨⟨z0, z1, z2, z3, z4, z5, z6, z7, z8, z9, z10⟩, -⟩ := bl_c11 XZ
          refine bodyPost_ret (v := .tuple #[.agg #[.int .i64 0, .int .i64 0, .int .i64 0, .int .i64 0, .int .i64 0, .int .i64 0, .int .i64 0, .int .i64 0, .int .i64 0, .int .i64 0, .bool false], .int .i64 1]) (by simp [results, Tryd.results9, go_sem, *]) rfl ?_
          exact ⟨zeroCm, 1, rfl, HZ.out, hbZ⟩
      have d7 : (kindOf kw == 7) = false := by simp [e7]
      have HQ := Lib.hid (show parseOf s = match twoN (kindOf kw) (numsOf r) with
          | some c => (c, 0)
          | none => (zeroCm, 1) by rw [HP.out, read_two r e0 e3 e7])
      clear e0 e3 e7
      obtain ⟨A1, hcut, hr1⟩ := cut_l elem_st HR3.out 1 (by simp)
      have hcs : ∀ w', (Instr.slice 58 (.slice (some ⟨b0, o0, none⟩) (r.length + 1) c) (some (.int .i64 1)) none none).run Tryd.prog w' = .ok (.slice A1 r.length (c - 1)) w' := hcut
      have hrd : Rd w3 w2.heap.size 1 A1 r.length (c - 1) (strs r) := hr1
      clear hcut hr1
      have HNUM := Lib.hid (numbers_any r A1 r.length (c - 1) w2.heap.size w3 hrd (by omega) (HE.out.next HB3.out) (by have := HSM.out.1; rw [HSP.out] at this; have := HSL.out; simp at *; omega) (fun l hl => by have := HSM.out.2 l (by rw [HSP.out]; exact List.mem_cons_of_mem _ hl); have := HSL.out; omega))
      clear hrd
      go_wp2_with fail
      refine HNUM.out.mono ?_
      rintro e w5 ⟨v, N, rfl, hN, hown, hb5⟩
      have HX5 := Lib.hid (HX3.out.below hb5 x3)
      have HB5 := Lib.hid (HB3.out.trans (hb5.mono (by omega)))
      have hs5 := hb5.size
      obtain ⟨A5, c5, rfl⟩ := own_shape hown
      have HO5 := Lib.hid hown
      clear hb5 hown HNUM
      cases hq : numsOf r with
      | none =>
        rw [hq] at hN
        have HZ := Lib.hid (show parseOf s = (zeroCm, 1) by rw [HQ.out, hq]; rfl)
        rw [show (none : Option (List Int)).isSome = false from rfl]
        clear hq hN
        go_wp2_with fail
        refine (parseZ_any w5).mono ?_
        rintro e w4 ⟨rfl, hb4⟩
        have HX4 := Lib.hid (HX5.out.below hb4 HX5.out.lt)
        have HB4 := Lib.hid (HB5.out.trans (hb4.mono (by omega)))
        obtain ⟨⟨z0, z1, z2, z3, z4, z5, z6, z7, z8, z9, z10⟩, y0, y1, y2, y3, y4, y5, y6, y7, y8, y9, y10⟩ := bl_c11 HX4.out
        have x4 := HX4.out.lt
        clear hb4
        go_wp2_with fail
        refine exit_nameT ?_
        intro Z hZ
        obtain ⟨XZ, hbZ⟩ := set11w HX4.out HB4.out (Nat.le_refl _) (.int .i64 0) (.int .i64 0) (.int .i64 0) (.int .i64 0) (.int .i64 0) (.int .i64 0) (.int .i64 0) (.int .i64 0) (.int .i64 0) (.int .i64 0) (.bool false)
        rw [← hZ] at XZ hbZ
        clear hZ z0 z1 z2 z3 z4 z5 z6 z7 z8 z9 z10 y0 y1 y2 y3 y4 y5 y6 y7 y8 y9 y10
        obtain ⟨⟨z0, z1, z2, z3, z4, z5, z6, z7, z8, z9, z10⟩, -⟩ := bl_c11 XZ
        refine bodyPost_ret (v := .tuple #[.agg #[.int .i64 0, .int .i64 0, .int .i64 0, .int .i64 0, .int .i64 0, .int .i64 0, .int .i64 0, .int .i64 0, .int .i64 0, .int .i64 0, .bool false], .int .i64 1]) (by simp [results, Tryd.results9, go_sem, *]) rfl ?_
        exact ⟨zeroCm, 1, rfl, HZ.out, hbZ⟩
      | some M =>
      rw [hq] at hN
      have hN' : N = M := hN
      subst hN'
      rw [show (some N : Option (List Int)).isSome = true from rfl]
      by_cases h2 : N.length = 2
      rotate_left
      · have HZ := Lib.hid (show parseOf s = (zeroCm, 1) by rw [HQ.out, hq, twoN_len _ h2])
        have h2' : ((N.length : Int) != 2) = true := by simp; omega
        clear hq hN h2
        go_wp2_with fail
        refine (parseZ_any w5).mono ?_
        rintro e w4 ⟨rfl, hb4⟩
        have HX4 := Lib.hid (HX5.out.below hb4 HX5.out.lt)
        have HB4 := Lib.hid (HB5.out.trans (hb4.mono (by omega)))
        obtain ⟨⟨z0, z1, z2, z3, z4, z5, z6, z7, z8, z9, z10⟩, y0, y1, y2, y3, y4, y5, y6, y7, y8, y9, y10⟩ := bl_c11 HX4.out
        have x4 := HX4.out.lt
        clear hb4
        go_wp2_with fail
        refine exit_nameT ?_
        intro Z hZ
        obtain ⟨XZ, hbZ⟩ := set11w HX4.out HB4.out (Nat.le_refl _) (.int .i64 0) (.int .i64 0) (.int .i64 0) (.int .i64 0) (.int .i64 0) (.int .i64 0) (.int .i64 0) (.int .i64 0) (.int .i64 0) (.int .i64 0) (.bool false)
        rw [← hZ] at XZ hbZ
        clear hZ z0 z1 z2 z3 z4 z5 z6 z7 z8 z9 z10 y0 y1 y2 y3 y4 y5 y6 y7 y8 y9 y10
        obtain ⟨⟨z0, z1, z2, z3, z4, z5, z6, z7, z8, z9, z10⟩, -⟩ := bl_c11 XZ
        refine bodyPost_ret (v := .tuple #[.agg #[.int .i64 0, .int .i64 0, .int .i64 0, .int .i64 0, .int .i64 0, .int .i64 0, .int .i64 0, .int .i64 0, .int .i64 0, .int .i64 0, .bool false], .int .i64 1]) (by simp [results, Tryd.results9, go_sem, *]) rfl ?_
        exact ⟨zeroCm, 1, rfl, HZ.out, hbZ⟩
      obtain ⟨a, m, rfl⟩ := list_two h2
      obtain ⟨b5, o5, hA5, hb5', hc5⟩ := (Rd.of_own HO5.out).at_ (show 0 < [a, m].length by simp)
      subst hA5
      have hge := (World.ownsRow.lt HO5.out b5 rfl).1
      have n0 : w5.cell? ⟨b5, o5, none⟩ = some (.int .i64 a) := hc5 0 _ rfl
      have n1 : w5.cell? ⟨b5, o5 + 1, none⟩ = some (.int .i64 m) := hc5 1 _ rfl
      have HZ := Lib.hid (show parseOf s = ((if isMkt (kindOf kw) then { zeroCm with kind := kindOf kw, market := a, n := m } else { zeroCm with kind := kindOf kw, acc := a, n := m }), 0) by rw [HQ.out, hq]; rfl)
      clear hq hN h2 hc5
      go_wp2_with fail
      go_region
      all_goals
        refine exit_nameT ?_
        intro w6 hw6
        have HX6 : Hid (Blk w6 w.heap.size 25 #[.int .i64 0, .int .i64 0, .int .i64 0, .int .i64 0, .int .i64 0, .int .i64 0, .int .i64 0, .int .i64 0, .int .i64 0, .int .i64 0, .bool false]) := by rw [hw6]; exact Lib.hid (blk_drewT (HX5.out.alloc _))
        have HB6 : Hid (Below w.heap.size w w6) := by rw [hw6]; exact Lib.hid (below_drewT (HB5.out.alloc (by omega) _))
        have XN : Blk w6 w5.heap.size 25 #[.int .i64 (kindOf kw), .int .i64 a, .int .i64 0, .int .i64 m, .int .i64 0, .int .i64 0, .int .i64 0, .int .i64 0, .int .i64 0, .int .i64 0, .bool false] := by rw [hw6]; exact blk_drewT (Blk.new w5 _ _)
        have hs6 : w.heap.size < w6.heap.size := HX6.out.lt
        have XNH := Lib.hid XN
        have HBN : Hid (Below w5.heap.size w5 w6) := by rw [hw6]; exact Lib.hid (below_drewT ((Below.refl _ _).alloc (Nat.le_refl _) _))
        have m0 : w6.cell? ⟨b5, o5, none⟩ = some (.int .i64 a) := (HBN.out.cell (p := ⟨b5, o5, none⟩) hb5').trans n0
        have m1 : w6.cell? ⟨b5, o5 + 1, none⟩ = some (.int .i64 m) := (HBN.out.cell (p := ⟨b5, o5 + 1, none⟩) hb5').trans n1
        clear hw6 n0 n1
        by_cases e5 : kindOf kw = 5
        · skip
          have HZ2 := Lib.hid (show parseOf s = (⟨kindOf kw, 0, a, m, ⟨0, 0, 0, 0, 0⟩, 0, false⟩, 0) by
            rw [HZ.out, show isMkt (kindOf kw) = true from decide_eq_true (by omega)]; rfl)
          have d5 : (kindOf kw == 5) = true := by simp [e5]
          clear e5 d0
          obtain ⟨⟨v0, v1, v2, v3, v4, v5, v6, v7, v8, v9, v10⟩, f0, f1, f2, f3, f4, f5, f6, f7, f8, f9, f10⟩ := bl_c11 XN
          have xn := XN.lt
          go_wp2_with fail
          go_region
          all_goals
            refine exit_nameT ?_
            intro w7 hw7
            obtain ⟨XM, hbM⟩ := set11w XNH.out HBN.out (Nat.le_refl _) (.int .i64 (kindOf kw)) (.int .i64 0) (.int .i64 a) (.int .i64 m) (.int .i64 0) (.int .i64 0) (.int .i64 0) (.int .i64 0) (.int .i64 0) (.int .i64 0) (.bool false)
            have XN7 : Blk w7 w5.heap.size 25 #[.int .i64 (kindOf kw), .int .i64 0, .int .i64 a, .int .i64 m, .int .i64 0, .int .i64 0, .int .i64 0, .int .i64 0, .int .i64 0, .int .i64 0, .bool false] := by rw [hw7]; exact blk_drewT XM
            have hb7 : Below w5.heap.size w5 w7 := by rw [hw7]; exact below_drewT hbM
            clear hw7 XM hbM v0 v1 v2 v3 v4 v5 v6 v7 v8 v9 v10 f0 f1 f2 f3 f4 f5 f6 f7 f8 f9 f10
            have HX7 := Lib.hid (HX5.out.below hb7 HX5.out.lt)
            have HB7 := Lib.hid (HB5.out.trans (hb7.mono (by omega)))
            have hs7 : w.heap.size < w7.heap.size := HX7.out.lt
            obtain ⟨⟨v0, v1, v2, v3, v4, v5, v6, v7, v8, v9, v10⟩, -⟩ := bl_c11 XN7
            obtain ⟨⟨z0, z1, z2, z3, z4, z5, z6, z7, z8, z9, z10⟩, y0, y1, y2, y3, y4, y5, y6, y7, y8, y9, y10⟩ := bl_c11 HX7.out
            go_wp2_with fail
            refine exit_nameT ?_
            intro Z hZ
            obtain ⟨XZ, hbZ⟩ := set11w HX7.out HB7.out (Nat.le_refl _) (.int .i64 (kindOf kw)) (.int .i64 0) (.int .i64 a) (.int .i64 m) (.int .i64 0) (.int .i64 0) (.int .i64 0) (.int .i64 0) (.int .i64 0) (.int .i64 0) (.bool false)
            rw [← hZ] at XZ hbZ
            clear hZ z0 z1 z2 z3 z4 z5 z6 z7 z8 z9 z10 y0 y1 y2 y3 y4 y5 y6 y7 y8 y9 y10
            obtain ⟨⟨z0, z1, z2, z3, z4, z5, z6, z7, z8, z9, z10⟩, -⟩ := bl_c11 XZ
            refine bodyPost_ret (v := .tuple #[.agg #[.int .i64 (kindOf kw), .int .i64 0, .int .i64 a, .int .i64 m, .int .i64 0, .int .i64 0, .int .i64 0, .int .i64 0, .int .i64 0, .int .i64 0, .bool false], .int .i64 0]) (by simp [results, Tryd.results9, go_sem, *]) rfl ?_
            exact ⟨⟨kindOf kw, 0, a, m, ⟨0, 0, 0, 0, 0⟩, 0, false⟩, 0, rfl, HZ2.out, hbZ⟩
        by_cases e6 : kindOf kw = 6
        · skip
          have HZ2 := Lib.hid (show parseOf s = (⟨kindOf kw, 0, a, m, ⟨0, 0, 0, 0, 0⟩, 0, false⟩, 0) by
            rw [HZ.out, show isMkt (kindOf kw) = true from decide_eq_true (by omega)]; rfl)
          have d56 : (kindOf kw == 5) = false ∧ (kindOf kw == 6) = true := ⟨(by simp [e5]), (by simp [e6])⟩;obtain ⟨d5, d6⟩ := d56
          clear e5 e6
          obtain ⟨⟨v0, v1, v2, v3, v4, v5, v6, v7, v8, v9, v10⟩, f0, f1, f2, f3, f4, f5, f6, f7, f8, f9, f10⟩ := bl_c11 XN
          have xn := XN.lt
          go_wp2_with fail
          go_region
          all_goals
            refine exit_nameT ?_
            intro w7 hw7
            obtain ⟨XM, hbM⟩ := set11w XNH.out HBN.out (Nat.le_refl _) (.int .i64 (kindOf kw)) (.int .i64 0) (.int .i64 a) (.int .i64 m) (.int .i64 0) (.int .i64 0) (.int .i64 0) (.int .i64 0) (.int .i64 0) (.int .i64 0) (.bool false)
            have XN7 : Blk w7 w5.heap.size 25 #[.int .i64 (kindOf kw), .int .i64 0, .int .i64 a, .int .i64 m, .int .i64 0, .int .i64 0, .int .i64 0, .int .i64 0, .int .i64 0, .int .i64 0, .bool false] := by rw [hw7]; exact blk_drewT XM
            have hb7 : Below w5.heap.size w5 w7 := by rw [hw7]; exact below_drewT hbM
            clear hw7 XM hbM v0 v1 v2 v3 v4 v5 v6 v7 v8 v9 v10 f0 f1 f2 f3 f4 f5 f6 f7 f8 f9 f10
            have HX7 := Lib.hid (HX5.out.below hb7 HX5.out.lt)
            have HB7 := Lib.hid (HB5.out.trans (hb7.mono (by omega)))
            have hs7 : w.heap.size < w7.heap.size := HX7.out.lt
            obtain ⟨⟨v0, v1, v2, v3, v4, v5, v6, v7, v8, v9, v10⟩, -⟩ := bl_c11 XN7
            obtain ⟨⟨z0, z1, z2, z3, z4, z5, z6, z7, z8, z9, z10⟩, y0, y1, y2, y3, y4, y5, y6, y7, y8, y9, y10⟩ := bl_c11 HX7.out
            go_wp2_with fail
            refine exit_nameT ?_
            intro Z hZ
            obtain ⟨XZ, hbZ⟩ := set11w HX7.out HB7.out (Nat.le_refl _) (.int .i64 (kindOf kw)) (.int .i64 0) (.int .i64 a) (.int .i64 m) (.int .i64 0) (.int .i64 0) (.int .i64 0) (.int .i64 0) (.int .i64 0) (.int .i64 0) (.bool false)
            rw [← hZ] at XZ hbZ
            clear hZ z0 z1 z2 z3 z4 z5 z6 z7 z8 z9 z10 y0 y1 y2 y3 y4 y5 y6 y7 y8 y9 y10
            obtain ⟨⟨z0, z1, z2, z3, z4, z5, z6, z7, z8, z9, z10⟩, -⟩ := bl_c11 XZ
            refine bodyPost_ret (v := .tuple #[.agg #[.int .i64 (kindOf kw), .int .i64 0, .int .i64 a, .int .i64 m, .int .i64 0, .int .i64 0, .int .i64 0, .int .i64 0, .int .i64 0, .int .i64 0, .bool false], .int .i64 0]) (by simp [results, Tryd.results9, go_sem, *]) rfl ?_
            exact ⟨⟨kindOf kw, 0, a, m, ⟨0, 0, 0, 0, 0⟩, 0, false⟩, 0, rfl, HZ2.out, hbZ⟩
        have HZ2 := Lib.hid (show parseOf s = (⟨kindOf kw, a, 0, m, ⟨0, 0, 0, 0, 0⟩, 0, false⟩, 0) by
          rw [HZ.out, show isMkt (kindOf kw) = false from decide_eq_false (by omega)]; rfl)
        have d5 : (kindOf kw == 5) = false := by simp [e5]
        have d6 : (kindOf kw == 6) = false := by simp [e6]
        clear e5 e6
        obtain ⟨⟨v0, v1, v2, v3, v4, v5, v6, v7, v8, v9, v10⟩, -⟩ := bl_c11 XN
        obtain ⟨⟨z0, z1, z2, z3, z4, z5, z6, z7, z8, z9, z10⟩, y0, y1, y2, y3, y4, y5, y6, y7, y8, y9, y10⟩ := bl_c11 HX6.out
        go_wp2_with fail
        refine exit_nameT ?_
        intro Z hZ
        obtain ⟨XZ, hbZ⟩ := set11w HX6.out HB6.out (Nat.le_refl _) (.int .i64 (kindOf kw)) (.int .i64 a) (.int .i64 0) (.int .i64 m) (.int .i64 0) (.int .i64 0) (.int .i64 0) (.int .i64 0) (.int .i64 0) (.int .i64 0) (.bool false)
        rw [← hZ] at XZ hbZ
        clear hZ z0 z1 z2 z3 z4 z5 z6 z7 z8 z9 z10 y0 y1 y2 y3 y4 y5 y6 y7 y8 y9 y10
        obtain ⟨⟨z0, z1, z2, z3, z4, z5, z6, z7, z8, z9, z10⟩, -⟩ := bl_c11 XZ
        refine bodyPost_ret (v := .tuple #[.agg #[.int .i64 (kindOf kw), .int .i64 a, .int .i64 0, .int .i64 m, .int .i64 0, .int .i64 0, .int .i64 0, .int .i64 0, .int .i64 0, .int .i64 0, .bool false], .int .i64 0]) (by simp [results, Tryd.results9, go_sem, *]) rfl ?_
        exact ⟨⟨kindOf kw, a, 0, m, ⟨0, 0, 0, 0, 0⟩, 0, false⟩, 0, rfl, HZ2.out, hbZ⟩
end Go.Proofs.YtockodmbhnlheaaDoor
