/-
  The law TextBack, walked.
-/
import Derived.Test.YtockodmbhnlheaaDoorTextSpelt
import Derived.Test.YtockodmbhnlheaaDoorBytes
namespace Go.Proofs.YtockodmbhnlheaaDoor
open Go.RowKit

theorem back_one {c : Cm} {t : List UInt8} {e : Int} (h : printOf c = (t, e)) (hf : FitC c) (h0 : e = 0) : parseOf t = (c, 0) ∧ (10 : UInt8) ∉ t ∧ t.length ≤ 176 ∧ t = Lib.join (printWords c) [32] ∧ textErr c = 0 := by
  subst h0
  unfold printOf at h
  by_cases hz : textErr c ≠ 0
  · rw [if_pos hz] at h; injection h with _ h; exact absurd h hz
  · rw [if_neg hz] at h
    injection h with h _
    have hz' : textErr c = 0 := by omega
    have := back_print hz' hf
    rw [h] at this
    exact ⟨this.1, this.2.1, this.2.2, h.symm, hz'⟩
theorem back_two {c d : Cm} {t u : List UInt8} {e f : Int} (hc : printOf c = (t, e)) (hd : printOf d = (u, f)) (fc : FitC c) (fd : FitC d) (he : e = 0) (hf : f = 0) : decide (t = u) = eqCm c d := by
  obtain ⟨-, -, -, h1, z1⟩ := back_one hc fc he
  obtain ⟨-, -, -, h2, z2⟩ := back_one hd fd hf
  rw [Bool.eq_iff_iff, decide_eq_true_iff, eqCm_iff, h1, h2]
  exact back_inj z1 z2 fc fd
theorem eqCm_self (c : Cm) : eqCm c c = true := eqCm_iff.2 rfl
set_option maxHeartbeats 4000000 in
set_option maxRecDepth 100000 in
theorem textBack_walk (c d : Cm) (s : List UInt8) (w : World) (he : Env w) (fc : FitC c) (fd : FitC d) : Calls Tryd.prog 3 #[.agg #[.int .i64 c.kind, .int .i64 c.acc, .int .i64 c.market, .int .i64 c.n, .int .i64 c.o.id, .int .i64 c.o.acc, .int .i64 c.o.side, .int .i64 c.o.price, .int .i64 c.o.qty, .int .i64 c.how, .bool c.reduce], .agg #[.int .i64 d.kind, .int .i64 d.acc, .int .i64 d.market, .int .i64 d.n, .int .i64 d.o.id, .int .i64 d.o.acc, .int .i64 d.o.side, .int .i64 d.o.price, .int .i64 d.o.qty, .int .i64 d.how, .bool d.reduce], .string (bs s)] w fun e w' => e = .returned (.bool true) ∧ Below w.heap.size w w' := by
  have HE := Lib.hid he
  obtain ⟨t, e1, hp1⟩ : ∃ t e1, printOf c = (t, e1) := ⟨_, _, rfl⟩
  obtain ⟨u, e2, hp2⟩ : ∃ u e2, printOf d = (u, e2) := ⟨_, _, rfl⟩
  have H1 := Lib.hid (fun w he => textPrint_any c w he fc)
  have H2 := Lib.hid (fun w he => textPrint_any d w he fd)
  rw [hp1] at H1
  rw [hp2] at H2
  dsimp only at H1 H2
  have HK1 := Lib.hid (fun h => back_one hp1 fc h)
  have HI := Lib.hid (fun h1 h2 => back_two hp1 hp2 fc fd h1 h2)
  clear he hp1 hp2 fc fd
  go_enter Tryd.func3, Tryd.ntmps3
  go_upto_region 1 with (fail)
  refine wp_nameT ?_
  intro w1 hw1
  have X0 : Blk w1 w.heap.size 25 #[.int .i64 c.kind, .int .i64 c.acc, .int .i64 c.market, .int .i64 c.n, .int .i64 c.o.id, .int .i64 c.o.acc, .int .i64 c.o.side, .int .i64 c.o.price, .int .i64 c.o.qty, .int .i64 c.how, .bool c.reduce] := by rw [hw1]; exact (Blk.new w _ _).alloc _
  have X1 : Blk w1 (w.heap.size + 1) 25 #[.int .i64 d.kind, .int .i64 d.acc, .int .i64 d.market, .int .i64 d.n, .int .i64 d.o.id, .int .i64 d.o.acc, .int .i64 d.o.side, .int .i64 d.o.price, .int .i64 d.o.qty, .int .i64 d.how, .bool d.reduce] := by rw [hw1]; have := Blk.new (w.alloc (.cells #[.int .i64 c.kind, .int .i64 c.acc, .int .i64 c.market, .int .i64 c.n, .int .i64 c.o.id, .int .i64 c.o.acc, .int .i64 c.o.side, .int .i64 c.o.price, .int .i64 c.o.qty, .int .i64 c.how, .bool c.reduce] 25)) 25 #[.int .i64 d.kind, .int .i64 d.acc, .int .i64 d.market, .int .i64 d.n, .int .i64 d.o.id, .int .i64 d.o.acc, .int .i64 d.o.side, .int .i64 d.o.price, .int .i64 d.o.qty, .int .i64 d.how, .bool d.reduce]; simpa using this
  have hb1 : Below w.heap.size w w1 := by rw [hw1]; exact ((Below.refl _ _).alloc (Nat.le_refl _) _).alloc (by simp) _
  clear hw1
  have HB1 := Lib.hid hb1
  clear hb1
  obtain ⟨⟨v0, v1, v2, v3, v4, v5, v6, v7, v8, v9, v10⟩, -⟩ := bl_c11 X0
  go_wp2_with fail
  refine (H1.out w1 (HE.out.next HB1.out)).mono ?_
  rintro e w2 ⟨rfl, hb2⟩
  clear v0 v1 v2 v3 v4 v5 v6 v7 v8 v9 v10
  replace X0 := X0.below hb2 X0.lt
  replace X1 := X1.below hb2 X1.lt
  have HB2 := Lib.hid (HB1.out.trans (hb2.mono HB1.out.size))
  clear hb2 H1
  obtain ⟨⟨v0, v1, v2, v3, v4, v5, v6, v7, v8, v9, v10⟩, -⟩ := bl_c11 X1
  go_wp2_with fail
  refine (H2.out w2 (HE.out.next HB2.out)).mono ?_
  rintro e w3 ⟨rfl, hb3⟩
  clear v0 v1 v2 v3 v4 v5 v6 v7 v8 v9 v10
  replace X0 := X0.below hb3 X0.lt
  replace X1 := X1.below hb3 X1.lt
  have HB3 := Lib.hid (HB2.out.trans (hb3.mono HB2.out.size))
  clear hb3 H2
  go_wp2_with fail
  refine (spelt_any w3 (HE.out.next HB3.out)).mono ?_
  rintro e w4 ⟨rfl, hb4⟩
  have HX4 := Lib.hid (X0.below hb4 X0.lt)
  replace X1 := X1.below hb4 X1.lt
  have HB4 := Lib.hid (HB3.out.trans (hb4.mono HB3.out.size))
  clear hb4 X0
  obtain ⟨⟨v0, v1, v2, v3, v4, v5, v6, v7, v8, v9, v10⟩, -⟩ := bl_c11 X1
  obtain ⟨⟨z0, z1, z2, z3, z4, z5, z6, z7, z8, z9, z10⟩, -⟩ := bl_c11 HX4.out
  by_cases h1 : e1 = 0
  · have HK := Lib.hid (show parseOf t = (c, 0) ∧ (10 : UInt8) ∉ t ∧ t.length ≤ 176 from ⟨(HK1.out h1).1, (HK1.out h1).2.1, (HK1.out h1).2.2.1⟩)
    by_cases h2 : e2 = 0
    · have d1 := bs_cmp t u
      rw [HI.out h1 h2] at d1
      have q := fun w => run_eql_cm c d w
      generalize eqCm c d = b at d1 q
      subst h1 h2
      cases b
      · clear HK1 HI
        go_upto_region 5 with (fail)
        clear v0 v1 v2 v3 v4 v5 v6 v7 v8 v9 v10 z0 z1 z2 z3 z4 z5 z6 z7 z8 z9 z10 q d1 X1
        have d0 : ((0 : Int) == 0) = true := rfl
        go_wp2_with fail
        refine (parse_any t w4 (HE.out.next HB4.out)).mono ?_
        rintro e w5 ⟨x, k, rfl, hp, hb5⟩
        rw [HK.out.1] at hp
        injection hp with h1 h2
        subst h1 h2
        have HX5 := Lib.hid (HX4.out.below hb5 HX4.out.lt)
        have HB5 := Lib.hid (HB4.out.trans (hb5.mono HB4.out.size))
        have hs5 := HB5.out.size
        have hs5' := hb5.size
        have hx4 := HX4.out.lt
        clear hb5
        unfold cmV
        go_upto_region 7 with (fail)
        refine wp_nameT ?_
        intro w6 hw6
        have X6 : Blk w6 w5.heap.size 25 #[.int .i64 c.kind, .int .i64 c.acc, .int .i64 c.market, .int .i64 c.n, .int .i64 c.o.id, .int .i64 c.o.acc, .int .i64 c.o.side, .int .i64 c.o.price, .int .i64 c.o.qty, .int .i64 c.how, .bool c.reduce] := by rw [hw6]; exact Blk.new w5 _ _
        have HX6 : Hid (Blk w6 w.heap.size 25 #[.int .i64 c.kind, .int .i64 c.acc, .int .i64 c.market, .int .i64 c.n, .int .i64 c.o.id, .int .i64 c.o.acc, .int .i64 c.o.side, .int .i64 c.o.price, .int .i64 c.o.qty, .int .i64 c.how, .bool c.reduce]) := by rw [hw6]; exact Lib.hid (HX5.out.alloc _)
        have HB6 : Hid (Below w.heap.size w w6) := by rw [hw6]; exact Lib.hid (HB5.out.alloc hs5 _)
        clear hw6
        obtain ⟨⟨v0, v1, v2, v3, v4, v5, v6, v7, v8, v9, v10⟩, -⟩ := bl_c11 X6
        obtain ⟨⟨z0, z1, z2, z3, z4, z5, z6, z7, z8, z9, z10⟩, -⟩ := bl_c11 HX6.out
        have q2 := fun w => run_neq_cm c c w
        simp only [eqCm_self, Bool.not_true] at q2
        obtain ⟨cc, W6, hconv, HR, hbW, hsW⟩ := bytes_of_str t (by have := HK.out.2.2; omega) w6
        have HR6 := Lib.hid HR
        have HBW := Lib.hid (HB6.out.trans (hbW.mono HB6.out.size))
        clear HR hbW
        go_wp2_with fail
        refine (contains_u8 10 _ _ cc t _ W6 HR6.out).mono ?_
        rintro e w0 ⟨rfl, rfl⟩
        have hany : anyU 10 t = false := by
          have := anyU_iff 10 t
          rw [show ((10 : UInt8).toNat : Int) = 10 from rfl] at this
          rw [this]; simpa using HK.out.2.1
        rw [hany]
        clear hany v0 v1 v2 v3 v4 v5 v6 v7 v8 v9 v10 z0 z1 z2 z3 z4 z5 z6 z7 z8 z9 z10 q2 hconv
        go_wp2_with fail
        refine (parse_any s W6 (HE.out.next HBW.out)).mono ?_
        rintro e w7 ⟨x, k, rfl, hp, hb7⟩
        have HP7 := Lib.hid hp
        have HB7 := Lib.hid (HBW.out.trans (hb7.mono HBW.out.size))
        have hs7 := HB7.out.size
        clear hb7 hp
        unfold cmV
        go_upto_region 10 with (fail)
        refine wp_nameT ?_
        intro w8 hw8
        have X8 : Blk w8 w7.heap.size 25 #[.int .i64 x.kind, .int .i64 x.acc, .int .i64 x.market, .int .i64 x.n, .int .i64 x.o.id, .int .i64 x.o.acc, .int .i64 x.o.side, .int .i64 x.o.price, .int .i64 x.o.qty, .int .i64 x.how, .bool x.reduce] := by rw [hw8]; exact Blk.new w7 _ _
        have HB8 : Hid (Below w.heap.size w w8) := by rw [hw8]; exact Lib.hid (HB7.out.alloc hs7 _)
        clear hw8
        obtain ⟨⟨v0, v1, v2, v3, v4, v5, v6, v7, v8, v9, v10⟩, -⟩ := bl_c11 X8
        by_cases h5 : k = 0
        rotate_left
        · have d5 : (k == 0) = false := by simpa using h5
          clear h5
          go_wp2_with fail
          go_ret
          exact ⟨rfl, HB8.out⟩
        have d5 : (k == 0) = true := by simpa using h5
        subst h5
        obtain ⟨zx, fx, ex⟩ := back_read HP7.out
        have HX := Lib.hid (show printOf x = (s, 0) by unfold printOf; rw [if_neg (by omega), ex])
        have HFX := Lib.hid fx
        clear zx fx ex
        go_wp2_with fail
        refine (textPrint_any x w8 (HE.out.next HB8.out) HFX.out).mono ?_
        rintro e w9 ⟨rfl, hb9⟩
        rw [HX.out]
        have HB9 := Lib.hid (HB8.out.trans (hb9.mono HB8.out.size))
        clear hb9
        have d6 : ((bs s).toList == (bs s).toList) = true := by rw [bs_cmp]; simp
        go_wp2_with fail
        go_ret
        exact ⟨rfl, HB9.out⟩
      · clear HK1 HI
        go_upto_region 5 with (fail)
        clear v0 v1 v2 v3 v4 v5 v6 v7 v8 v9 v10 z0 z1 z2 z3 z4 z5 z6 z7 z8 z9 z10 q d1 X1
        have d0 : ((0 : Int) == 0) = true := rfl
        go_wp2_with fail
        refine (parse_any t w4 (HE.out.next HB4.out)).mono ?_
        rintro e w5 ⟨x, k, rfl, hp, hb5⟩
        rw [HK.out.1] at hp
        injection hp with h1 h2
        subst h1 h2
        have HX5 := Lib.hid (HX4.out.below hb5 HX4.out.lt)
        have HB5 := Lib.hid (HB4.out.trans (hb5.mono HB4.out.size))
        have hs5 := HB5.out.size
        have hs5' := hb5.size
        have hx4 := HX4.out.lt
        clear hb5
        unfold cmV
        go_upto_region 7 with (fail)
        refine wp_nameT ?_
        intro w6 hw6
        have X6 : Blk w6 w5.heap.size 25 #[.int .i64 c.kind, .int .i64 c.acc, .int .i64 c.market, .int .i64 c.n, .int .i64 c.o.id, .int .i64 c.o.acc, .int .i64 c.o.side, .int .i64 c.o.price, .int .i64 c.o.qty, .int .i64 c.how, .bool c.reduce] := by rw [hw6]; exact Blk.new w5 _ _
        have HX6 : Hid (Blk w6 w.heap.size 25 #[.int .i64 c.kind, .int .i64 c.acc, .int .i64 c.market, .int .i64 c.n, .int .i64 c.o.id, .int .i64 c.o.acc, .int .i64 c.o.side, .int .i64 c.o.price, .int .i64 c.o.qty, .int .i64 c.how, .bool c.reduce]) := by rw [hw6]; exact Lib.hid (HX5.out.alloc _)
        have HB6 : Hid (Below w.heap.size w w6) := by rw [hw6]; exact Lib.hid (HB5.out.alloc hs5 _)
        clear hw6
        obtain ⟨⟨v0, v1, v2, v3, v4, v5, v6, v7, v8, v9, v10⟩, -⟩ := bl_c11 X6
        obtain ⟨⟨z0, z1, z2, z3, z4, z5, z6, z7, z8, z9, z10⟩, -⟩ := bl_c11 HX6.out
        have q2 := fun w => run_neq_cm c c w
        simp only [eqCm_self, Bool.not_true] at q2
        obtain ⟨cc, W6, hconv, HR, hbW, hsW⟩ := bytes_of_str t (by have := HK.out.2.2; omega) w6
        have HR6 := Lib.hid HR
        have HBW := Lib.hid (HB6.out.trans (hbW.mono HB6.out.size))
        clear HR hbW
        go_wp2_with fail
        refine (contains_u8 10 _ _ cc t _ W6 HR6.out).mono ?_
        rintro e w0 ⟨rfl, rfl⟩
        have hany : anyU 10 t = false := by
          have := anyU_iff 10 t
          rw [show ((10 : UInt8).toNat : Int) = 10 from rfl] at this
          rw [this]; simpa using HK.out.2.1
        rw [hany]
        clear hany v0 v1 v2 v3 v4 v5 v6 v7 v8 v9 v10 z0 z1 z2 z3 z4 z5 z6 z7 z8 z9 z10 q2 hconv
        go_wp2_with fail
        refine (parse_any s W6 (HE.out.next HBW.out)).mono ?_
        rintro e w7 ⟨x, k, rfl, hp, hb7⟩
        have HP7 := Lib.hid hp
        have HB7 := Lib.hid (HBW.out.trans (hb7.mono HBW.out.size))
        have hs7 := HB7.out.size
        clear hb7 hp
        unfold cmV
        go_upto_region 10 with (fail)
        refine wp_nameT ?_
        intro w8 hw8
        have X8 : Blk w8 w7.heap.size 25 #[.int .i64 x.kind, .int .i64 x.acc, .int .i64 x.market, .int .i64 x.n, .int .i64 x.o.id, .int .i64 x.o.acc, .int .i64 x.o.side, .int .i64 x.o.price, .int .i64 x.o.qty, .int .i64 x.how, .bool x.reduce] := by rw [hw8]; exact Blk.new w7 _ _
        have HB8 : Hid (Below w.heap.size w w8) := by rw [hw8]; exact Lib.hid (HB7.out.alloc hs7 _)
        clear hw8
        obtain ⟨⟨v0, v1, v2, v3, v4, v5, v6, v7, v8, v9, v10⟩, -⟩ := bl_c11 X8
        by_cases h5 : k = 0
        rotate_left
        · have d5 : (k == 0) = false := by simpa using h5
          clear h5
          go_wp2_with fail
          go_ret
          exact ⟨rfl, HB8.out⟩
        have d5 : (k == 0) = true := by simpa using h5
        subst h5
        obtain ⟨zx, fx, ex⟩ := back_read HP7.out
        have HX := Lib.hid (show printOf x = (s, 0) by unfold printOf; rw [if_neg (by omega), ex])
        have HFX := Lib.hid fx
        clear zx fx ex
        go_wp2_with fail
        refine (textPrint_any x w8 (HE.out.next HB8.out) HFX.out).mono ?_
        rintro e w9 ⟨rfl, hb9⟩
        rw [HX.out]
        have HB9 := Lib.hid (HB8.out.trans (hb9.mono HB8.out.size))
        clear hb9
        have d6 : ((bs s).toList == (bs s).toList) = true := by rw [bs_cmp]; simp
        go_wp2_with fail
        go_ret
        exact ⟨rfl, HB9.out⟩
    · have d2 : (e2 == 0) = false := by simpa using h2
      subst h1
      clear HK1 HI h2
      go_upto_region 5 with (fail)
      clear v0 v1 v2 v3 v4 v5 v6 v7 v8 v9 v10 z0 z1 z2 z3 z4 z5 z6 z7 z8 z9 z10 d2 X1
      have d0 : ((0 : Int) == 0) = true := rfl
      go_wp2_with fail
      refine (parse_any t w4 (HE.out.next HB4.out)).mono ?_
      rintro e w5 ⟨x, k, rfl, hp, hb5⟩
      rw [HK.out.1] at hp
      injection hp with h1 h2
      subst h1 h2
      have HX5 := Lib.hid (HX4.out.below hb5 HX4.out.lt)
      have HB5 := Lib.hid (HB4.out.trans (hb5.mono HB4.out.size))
      have hs5 := HB5.out.size
      have hs5' := hb5.size
      have hx4 := HX4.out.lt
      clear hb5
      unfold cmV
      go_upto_region 7 with (fail)
      refine wp_nameT ?_
      intro w6 hw6
      have X6 : Blk w6 w5.heap.size 25 #[.int .i64 c.kind, .int .i64 c.acc, .int .i64 c.market, .int .i64 c.n, .int .i64 c.o.id, .int .i64 c.o.acc, .int .i64 c.o.side, .int .i64 c.o.price, .int .i64 c.o.qty, .int .i64 c.how, .bool c.reduce] := by rw [hw6]; exact Blk.new w5 _ _
      have HX6 : Hid (Blk w6 w.heap.size 25 #[.int .i64 c.kind, .int .i64 c.acc, .int .i64 c.market, .int .i64 c.n, .int .i64 c.o.id, .int .i64 c.o.acc, .int .i64 c.o.side, .int .i64 c.o.price, .int .i64 c.o.qty, .int .i64 c.how, .bool c.reduce]) := by rw [hw6]; exact Lib.hid (HX5.out.alloc _)
      have HB6 : Hid (Below w.heap.size w w6) := by rw [hw6]; exact Lib.hid (HB5.out.alloc hs5 _)
      clear hw6
      obtain ⟨⟨v0, v1, v2, v3, v4, v5, v6, v7, v8, v9, v10⟩, -⟩ := bl_c11 X6
      obtain ⟨⟨z0, z1, z2, z3, z4, z5, z6, z7, z8, z9, z10⟩, -⟩ := bl_c11 HX6.out
      have q2 := fun w => run_neq_cm c c w
      simp only [eqCm_self, Bool.not_true] at q2
      obtain ⟨cc, W6, hconv, HR, hbW, hsW⟩ := bytes_of_str t (by have := HK.out.2.2; omega) w6
      have HR6 := Lib.hid HR
      have HBW := Lib.hid (HB6.out.trans (hbW.mono HB6.out.size))
      clear HR hbW
      go_wp2_with fail
      refine (contains_u8 10 _ _ cc t _ W6 HR6.out).mono ?_
      rintro e w0 ⟨rfl, rfl⟩
      have hany : anyU 10 t = false := by
        have := anyU_iff 10 t
        rw [show ((10 : UInt8).toNat : Int) = 10 from rfl] at this
        rw [this]; simpa using HK.out.2.1
      rw [hany]
      clear hany v0 v1 v2 v3 v4 v5 v6 v7 v8 v9 v10 z0 z1 z2 z3 z4 z5 z6 z7 z8 z9 z10 q2 hconv
      go_wp2_with fail
      refine (parse_any s W6 (HE.out.next HBW.out)).mono ?_
      rintro e w7 ⟨x, k, rfl, hp, hb7⟩
      have HP7 := Lib.hid hp
      have HB7 := Lib.hid (HBW.out.trans (hb7.mono HBW.out.size))
      have hs7 := HB7.out.size
      clear hb7 hp
      unfold cmV
      go_upto_region 10 with (fail)
      refine wp_nameT ?_
      intro w8 hw8
      have X8 : Blk w8 w7.heap.size 25 #[.int .i64 x.kind, .int .i64 x.acc, .int .i64 x.market, .int .i64 x.n, .int .i64 x.o.id, .int .i64 x.o.acc, .int .i64 x.o.side, .int .i64 x.o.price, .int .i64 x.o.qty, .int .i64 x.how, .bool x.reduce] := by rw [hw8]; exact Blk.new w7 _ _
      have HB8 : Hid (Below w.heap.size w w8) := by rw [hw8]; exact Lib.hid (HB7.out.alloc hs7 _)
      clear hw8
      obtain ⟨⟨v0, v1, v2, v3, v4, v5, v6, v7, v8, v9, v10⟩, -⟩ := bl_c11 X8
      by_cases h5 : k = 0
      rotate_left
      · have d5 : (k == 0) = false := by simpa using h5
        clear h5
        go_wp2_with fail
        go_ret
        exact ⟨rfl, HB8.out⟩
      have d5 : (k == 0) = true := by simpa using h5
      subst h5
      obtain ⟨zx, fx, ex⟩ := back_read HP7.out
      have HX := Lib.hid (show printOf x = (s, 0) by unfold printOf; rw [if_neg (by omega), ex])
      have HFX := Lib.hid fx
      clear zx fx ex
      go_wp2_with fail
      refine (textPrint_any x w8 (HE.out.next HB8.out) HFX.out).mono ?_
      rintro e w9 ⟨rfl, hb9⟩
      rw [HX.out]
      have HB9 := Lib.hid (HB8.out.trans (hb9.mono HB8.out.size))
      clear hb9
      have d6 : ((bs s).toList == (bs s).toList) = true := by rw [bs_cmp]; simp
      go_wp2_with fail
      go_ret
      exact ⟨rfl, HB9.out⟩
  · have d1 : (e1 == 0) = false := by simpa using h1
    clear HK1 HI h1 v0 v1 v2 v3 v4 v5 v6 v7 v8 v9 v10 z0 z1 z2 z3 z4 z5 z6 z7 z8 z9 z10 X1
    go_wp2_with fail
    refine (parse_any s w4 (HE.out.next HB4.out)).mono ?_
    rintro e w7 ⟨x, k, rfl, hp, hb7⟩
    have HP7 := Lib.hid hp
    have HB7 := Lib.hid (HB4.out.trans (hb7.mono HB4.out.size))
    have hs7 := HB7.out.size
    clear hb7 hp
    unfold cmV
    go_upto_region 10 with (fail)
    refine wp_nameT ?_
    intro w8 hw8
    have X8 : Blk w8 w7.heap.size 25 #[.int .i64 x.kind, .int .i64 x.acc, .int .i64 x.market, .int .i64 x.n, .int .i64 x.o.id, .int .i64 x.o.acc, .int .i64 x.o.side, .int .i64 x.o.price, .int .i64 x.o.qty, .int .i64 x.how, .bool x.reduce] := by rw [hw8]; exact Blk.new w7 _ _
    have HB8 : Hid (Below w.heap.size w w8) := by rw [hw8]; exact Lib.hid (HB7.out.alloc hs7 _)
    clear hw8
    obtain ⟨⟨v0, v1, v2, v3, v4, v5, v6, v7, v8, v9, v10⟩, -⟩ := bl_c11 X8
    by_cases h5 : k = 0
    rotate_left
    · have d5 : (k == 0) = false := by simpa using h5
      clear h5
      go_wp2_with fail
      go_ret
      exact ⟨rfl, HB8.out⟩
    have d5 : (k == 0) = true := by simpa using h5
    subst h5
    obtain ⟨zx, fx, ex⟩ := back_read HP7.out
    have HX := Lib.hid (show printOf x = (s, 0) by unfold printOf; rw [if_neg (by omega), ex])
    have HFX := Lib.hid fx
    clear zx fx ex
    go_wp2_with fail
    refine (textPrint_any x w8 (HE.out.next HB8.out) HFX.out).mono ?_
    rintro e w9 ⟨rfl, hb9⟩
    rw [HX.out]
    have HB9 := Lib.hid (HB8.out.trans (hb9.mono HB8.out.size))
    clear hb9
    have d6 : ((bs s).toList == (bs s).toList) = true := by rw [bs_cmp]; simp
    go_wp2_with fail
    go_ret
    exact ⟨rfl, HB9.out⟩
end Go.Proofs.YtockodmbhnlheaaDoor
