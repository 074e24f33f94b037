/-
  The law TextSays, walked.
-/
import Derived.Test.YtockodmbhnlheaaDoorTextSpelt
import Derived.Test.YtockodmbhnlheaaDoorRefChk
import Derived.Test.YtockodmbhnlheaaDoorRefRead
namespace Go.Proofs.YtockodmbhnlheaaDoor
open Go.RowKit

theorem eqCm_selfS (c : Cm) : eqCm c c = true := eqCm_iff.2 rfl
theorem ge0_eq {k : Int} (h : k ≠ 0) : (k == 0) = false := by simpa using h
set_option maxHeartbeats 4000000 in
set_option maxRecDepth 100000 in
theorem textSays_walk (c : Cm) (s : List UInt8) (w : World) (he : EnvF w) (fc : FitC c) : Calls Tryd.prog 5 #[.agg #[.int .i64 c.kind, .int .i64 c.acc, .int .i64 c.market, .int .i64 c.n, .int .i64 c.o.id, .int .i64 c.o.acc, .int .i64 c.o.side, .int .i64 c.o.price, .int .i64 c.o.qty, .int .i64 c.how, .bool c.reduce], .string (bs s)] w fun e w' => e = .returned (.bool true) ∧ Below w.heap.size w w' := by
  have HE := Lib.hid he
  have HF := Lib.hid fc
  clear he fc
  go_enter Tryd.func5, Tryd.ntmps5
  go_upto_region 1 with (fail)
  refine wp_nameT ?_
  intro w1 hw1
  have X1 : Blk w1 w.heap.size 25 #[.int .i64 c.kind, .int .i64 c.acc, .int .i64 c.market, .int .i64 c.n, .int .i64 c.o.id, .int .i64 c.o.acc, .int .i64 c.o.side, .int .i64 c.o.price, .int .i64 c.o.qty, .int .i64 c.how, .bool c.reduce] := by rw [hw1]; exact Blk.new w _ _
  have hb1 : Below w.heap.size w w1 := by rw [hw1]; exact (Below.refl _ _).alloc (Nat.le_refl _) _
  clear hw1
  have HB1 := Lib.hid hb1
  clear hb1
  obtain ⟨⟨v0, v1, v2, v3, v4, v5, v6, v7, v8, v9, v10⟩, -⟩ := bl_c11 X1
  go_wp2_with fail
  refine (textPrint_any c w1 (HE.out.next HB1.out).env HF.out).mono ?_
  rintro e w2 ⟨rfl, hb2⟩
  clear v0 v1 v2 v3 v4 v5 v6 v7 v8 v9 v10
  have HX2 := Lib.hid (X1.below hb2 X1.lt)
  have HB2 := Lib.hid (HB1.out.trans (hb2.mono HB1.out.size))
  clear hb2 X1 HB1
  obtain ⟨pt, pe, hpr⟩ : ∃ pt pe, printOf c = (pt, pe) := ⟨_, _, rfl⟩
  have HPR := Lib.hid hpr
  rw [hpr]
  clear hpr
  go_wp2_with fail
  refine (parse_any s w2 (HE.out.next HB2.out).env).mono ?_
  rintro e w3 ⟨x, k, rfl, hpk, hb3⟩
  have HPK := Lib.hid hpk
  have HX3 := Lib.hid (HX2.out.below hb3 HX2.out.lt)
  have HB3 := Lib.hid (HB2.out.trans (hb3.mono HB2.out.size))
  clear hb3 hpk HX2 HB2
  unfold cmV
  go_upto_region 3 with (fail)
  refine wp_nameT ?_
  intro w4 hw4
  have HX4 : Hid (Blk w4 w.heap.size 25 #[.int .i64 c.kind, .int .i64 c.acc, .int .i64 c.market, .int .i64 c.n, .int .i64 c.o.id, .int .i64 c.o.acc, .int .i64 c.o.side, .int .i64 c.o.price, .int .i64 c.o.qty, .int .i64 c.how, .bool c.reduce]) := by rw [hw4]; exact Lib.hid (HX3.out.alloc _)
  have HY4 : Hid (Blk w4 w3.heap.size 25 #[.int .i64 x.kind, .int .i64 x.acc, .int .i64 x.market, .int .i64 x.n, .int .i64 x.o.id, .int .i64 x.o.acc, .int .i64 x.o.side, .int .i64 x.o.price, .int .i64 x.o.qty, .int .i64 x.how, .bool x.reduce]) := by rw [hw4]; exact Lib.hid (Blk.new w3 _ _)
  have HB4 : Hid (Below w.heap.size w w4) := by rw [hw4]; exact Lib.hid (HB3.out.alloc HB3.out.size _)
  clear hw4 HX3 HB3
  obtain ⟨⟨v0, v1, v2, v3, v4, v5, v6, v7, v8, v9, v10⟩, -⟩ := bl_c11 HX4.out
  go_wp2_with fail
  refine (refCheck_any c w4).mono ?_
  rintro e w5 ⟨rfl, hb5⟩
  clear v0 v1 v2 v3 v4 v5 v6 v7 v8 v9 v10
  rw [cmdErr_eq]
  have HX5 := Lib.hid (HX4.out.below hb5 HX4.out.lt)
  have HY5 := Lib.hid (HY4.out.below hb5 HY4.out.lt)
  have HB5 := Lib.hid (HB4.out.trans (hb5.mono HB4.out.size))
  clear hb5 HX4 HY4 HB4
  go_wp2_with fail
  refine (spelt_any w5 (HE.out.next HB5.out).env).mono ?_
  rintro e w6 ⟨rfl, hb6⟩
  have HX6 := Lib.hid (HX5.out.below hb6 HX5.out.lt)
  have HY6 := Lib.hid (HY5.out.below hb6 HY5.out.lt)
  have HB6 := Lib.hid (HB5.out.trans (hb6.mono HB5.out.size))
  clear hb6 HX5 HY5 HB5
  obtain ⟨⟨v0, v1, v2, v3, v4, v5, v6, v7, v8, v9, v10⟩, -⟩ := bl_c11 HX6.out
  go_wp2_with fail
  refine (textCheck_any c w6).mono ?_
  rintro e w7 ⟨rfl, hb7⟩
  clear v0 v1 v2 v3 v4 v5 v6 v7 v8 v9 v10
  have HX7 := Lib.hid (HX6.out.below hb7 HX6.out.lt)
  have HY7 := Lib.hid (HY6.out.below hb7 HY6.out.lt)
  have HB7 := Lib.hid (HB6.out.trans (hb7.mono HB6.out.size))
  clear hb7 HX6 HY6 HB6
  obtain ⟨⟨v0, v1, v2, v3, v4, v5, v6, v7, v8, v9, v10⟩, -⟩ := bl_c11 HX7.out
  by_cases h0 : textErr c = 0
  · have HT := Lib.hid (textErr_ok h0)
    obtain ⟨rfl, rfl⟩ : pt = cmdText c ∧ pe = 0 := by
      have := HPR.out
      unfold printOf at this
      rw [if_neg (by omega), ← cmdText_eq h0] at this
      injection this with h1 h2
      exact ⟨h1.symm, h2.symm⟩
    rw [h0]
    clear h0 HPR
    go_wp2_with fail
    refine (refText_any c w7 (HE.out.next HB7.out) HF.out HT.out.1 HT.out.2.1).mono ?_
    rintro e w8 ⟨rfl, hb8⟩
    clear v0 v1 v2 v3 v4 v5 v6 v7 v8 v9 v10
    have HY8 := Lib.hid (HY7.out.below hb8 HY7.out.lt)
    have HB8 := Lib.hid (HB7.out.trans (hb8.mono HB7.out.size))
    clear hb8 HX7 HY7 HB7
    have d6 : ((bs (cmdText c)).toList == (bs (cmdText c)).toList) = true := by rw [bs_cmp]; simp
    go_upto_region 6 with (fail)
    clear d6
    have hsz : (bs s).size = s.length := bs_size s
    obtain ⟨⟨z0, z1, z2, z3, z4, z5, z6, z7, z8, z9, z10⟩, -⟩ := bl_c11 HY8.out
    by_cases hl : 20000 < s.length
    · have hl2 : (s.length : Int) > 20000 := by omega
      obtain ⟨hx, hk⟩ : x = zeroCm ∧ k = 2 := by
        have := HPK.out
        unfold parseOf at this
        rw [if_pos hl] at this
        injection this with h1 h2
        exact ⟨h1.symm, h2.symm⟩
      have q : ∀ w, (binOp .eql 25 (.agg #[.int .i64 x.kind, .int .i64 x.acc, .int .i64 x.market, .int .i64 x.n, .int .i64 x.o.id, .int .i64 x.o.acc, .int .i64 x.o.side, .int .i64 x.o.price, .int .i64 x.o.qty, .int .i64 x.how, .bool x.reduce]) (.agg #[.int .i64 0, .int .i64 0, .int .i64 0, .int .i64 0, .int .i64 0, .int .i64 0, .int .i64 0, .int .i64 0, .int .i64 0, .int .i64 0, .bool false])).run Tryd.prog w = .ok (.bool true) w := fun w => by
        have := run_eql_cm x zeroCm w
        rw [hx, eqCm_selfS] at this
        rw [hx]; exact this
      have dk : (k == 2) = true := by rw [hk]; rfl
      clear hl hx hk
      go_wp2_with fail
      go_ret
      exact ⟨rfl, HB8.out⟩
    · have hl2 : ¬ (s.length : Int) > 20000 := by omega
      have HS := Lib.hid (show s.length ≤ 20000 by omega)
      have HPO := Lib.hid (show parseOf s = readOf s by unfold parseOf; rw [if_neg hl])
      have hb := HB8.out
      clear hl
      clear z0 z1 z2 z3 z4 z5 z6 z7 z8 z9 z10
      go_wp2_with fail
      refine (refRead_any s HS.out _ (HE.out.next hb)).mono ?_
      rintro e w9 ⟨y, m, rfl, hym, hb9⟩
      have HY9 := Lib.hid (HY8.out.below hb9 HY8.out.lt)
      have HB9 := Lib.hid (hb.trans (hb9.mono hb.size))
      obtain ⟨rfl, rfl⟩ : x = y ∧ k = m := by
        have := HPK.out
        rw [HPO.out, hym] at this
        injection this with h1 h2
        exact ⟨h1.symm, h2.symm⟩
      clear hb9 hym hb
      unfold cmV
      go_upto_region 9 with (fail)
      refine wp_nameT ?_
      intro w10 hw10
      have HY10 : Hid (Blk w10 w9.heap.size 25 #[.int .i64 x.kind, .int .i64 x.acc, .int .i64 x.market, .int .i64 x.n, .int .i64 x.o.id, .int .i64 x.o.acc, .int .i64 x.o.side, .int .i64 x.o.price, .int .i64 x.o.qty, .int .i64 x.how, .bool x.reduce]) := by rw [hw10]; exact Lib.hid (Blk.new w9 _ _)
      have HY11 := Lib.hid (show Blk w10 w3.heap.size 25 _ by rw [hw10]; exact HY9.out.alloc _)
      have HB10 : Hid (Below w.heap.size w w10) := by rw [hw10]; exact Lib.hid (HB9.out.alloc HB9.out.size _)
      clear hw10
      obtain ⟨⟨z0, z1, z2, z3, z4, z5, z6, z7, z8, z9, z10⟩, -⟩ := bl_c11 HY10.out
      obtain ⟨⟨v0, v1, v2, v3, v4, v5, v6, v7, v8, v9, v10⟩, -⟩ := bl_c11 HY11.out
      have q : ∀ w, (binOp .eql 25 (.agg #[.int .i64 x.kind, .int .i64 x.acc, .int .i64 x.market, .int .i64 x.n, .int .i64 x.o.id, .int .i64 x.o.acc, .int .i64 x.o.side, .int .i64 x.o.price, .int .i64 x.o.qty, .int .i64 x.how, .bool x.reduce]) (.agg #[.int .i64 x.kind, .int .i64 x.acc, .int .i64 x.market, .int .i64 x.n, .int .i64 x.o.id, .int .i64 x.o.acc, .int .i64 x.o.side, .int .i64 x.o.price, .int .i64 x.o.qty, .int .i64 x.how, .bool x.reduce])).run Tryd.prog w = .ok (.bool true) w := fun w => by
        have := run_eql_cm x x w
        rwa [eqCm_selfS] at this
      go_wp2_with fail
      go_ret
      exact ⟨rfl, HB10.out⟩
  · obtain ⟨rfl, rfl⟩ : pt = [] ∧ pe = textErr c := by
      have := HPR.out
      unfold printOf at this
      rw [if_pos h0] at this
      injection this with h1 h2
      exact ⟨h1.symm, h2.symm⟩
    have d6 : ((bs []).toList == []) = true := by rw [bs_cmpL]; simp
    have d0 := ge0_eq h0
    have d1 : (textErr c != 0) = true := by simpa using h0
    clear h0 HPR
    go_upto_region 6 with (fail)
    clear v0 v1 v2 v3 v4 v5 v6 v7 v8 v9 v10
    clear d6 d0 d1
    have hsz : (bs s).size = s.length := bs_size s
    obtain ⟨⟨z0, z1, z2, z3, z4, z5, z6, z7, z8, z9, z10⟩, -⟩ := bl_c11 HY7.out
    by_cases hl : 20000 < s.length
    · have hl2 : (s.length : Int) > 20000 := by omega
      obtain ⟨hx, hk⟩ : x = zeroCm ∧ k = 2 := by
        have := HPK.out
        unfold parseOf at this
        rw [if_pos hl] at this
        injection this with h1 h2
        exact ⟨h1.symm, h2.symm⟩
      have q : ∀ w, (binOp .eql 25 (.agg #[.int .i64 x.kind, .int .i64 x.acc, .int .i64 x.market, .int .i64 x.n, .int .i64 x.o.id, .int .i64 x.o.acc, .int .i64 x.o.side, .int .i64 x.o.price, .int .i64 x.o.qty, .int .i64 x.how, .bool x.reduce]) (.agg #[.int .i64 0, .int .i64 0, .int .i64 0, .int .i64 0, .int .i64 0, .int .i64 0, .int .i64 0, .int .i64 0, .int .i64 0, .int .i64 0, .bool false])).run Tryd.prog w = .ok (.bool true) w := fun w => by
        have := run_eql_cm x zeroCm w
        rw [hx, eqCm_selfS] at this
        rw [hx]; exact this
      have dk : (k == 2) = true := by rw [hk]; rfl
      clear hl hx hk
      go_wp2_with fail
      go_ret
      exact ⟨rfl, HB7.out⟩
    · have hl2 : ¬ (s.length : Int) > 20000 := by omega
      have HS := Lib.hid (show s.length ≤ 20000 by omega)
      have HPO := Lib.hid (show parseOf s = readOf s by unfold parseOf; rw [if_neg hl])
      have hb := HB7.out
      clear hl
      clear z0 z1 z2 z3 z4 z5 z6 z7 z8 z9 z10
      go_wp2_with fail
      refine (refRead_any s HS.out _ (HE.out.next hb)).mono ?_
      rintro e w9 ⟨y, m, rfl, hym, hb9⟩
      have HY9 := Lib.hid (HY7.out.below hb9 HY7.out.lt)
      have HB9 := Lib.hid (hb.trans (hb9.mono hb.size))
      obtain ⟨rfl, rfl⟩ : x = y ∧ k = m := by
        have := HPK.out
        rw [HPO.out, hym] at this
        injection this with h1 h2
        exact ⟨h1.symm, h2.symm⟩
      clear hb9 hym hb
      unfold cmV
      go_upto_region 9 with (fail)
      refine wp_nameT ?_
      intro w10 hw10
      have HY10 : Hid (Blk w10 w9.heap.size 25 #[.int .i64 x.kind, .int .i64 x.acc, .int .i64 x.market, .int .i64 x.n, .int .i64 x.o.id, .int .i64 x.o.acc, .int .i64 x.o.side, .int .i64 x.o.price, .int .i64 x.o.qty, .int .i64 x.how, .bool x.reduce]) := by rw [hw10]; exact Lib.hid (Blk.new w9 _ _)
      have HY11 := Lib.hid (show Blk w10 w3.heap.size 25 _ by rw [hw10]; exact HY9.out.alloc _)
      have HB10 : Hid (Below w.heap.size w w10) := by rw [hw10]; exact Lib.hid (HB9.out.alloc HB9.out.size _)
      clear hw10
      obtain ⟨⟨z0, z1, z2, z3, z4, z5, z6, z7, z8, z9, z10⟩, -⟩ := bl_c11 HY10.out
      obtain ⟨⟨v0, v1, v2, v3, v4, v5, v6, v7, v8, v9, v10⟩, -⟩ := bl_c11 HY11.out
      have q : ∀ w, (binOp .eql 25 (.agg #[.int .i64 x.kind, .int .i64 x.acc, .int .i64 x.market, .int .i64 x.n, .int .i64 x.o.id, .int .i64 x.o.acc, .int .i64 x.o.side, .int .i64 x.o.price, .int .i64 x.o.qty, .int .i64 x.how, .bool x.reduce]) (.agg #[.int .i64 x.kind, .int .i64 x.acc, .int .i64 x.market, .int .i64 x.n, .int .i64 x.o.id, .int .i64 x.o.acc, .int .i64 x.o.side, .int .i64 x.o.price, .int .i64 x.o.qty, .int .i64 x.how, .bool x.reduce])).run Tryd.prog w = .ok (.bool true) w := fun w => by
        have := run_eql_cm x x w
        rwa [eqCm_selfS] at this
      go_wp2_with fail
      go_ret
      exact ⟨rfl, HB10.out⟩
end Go.Proofs.YtockodmbhnlheaaDoor
