/-
  journal.Crash, walked.
-/
import Derived.Test.YtockodmbhnlheaaDoorJDisk
namespace Go.Proofs.YtockodmbhnlheaaDoor
open Go.RowKit

theorem u8s_take (l : List UInt8) (m : Nat) : (u8s l).take (m * 1) = u8s (l.take m) := by simp [u8s, List.map_take]
theorem below_nextD {w0 W W' : World} (hb : Below W.heap.size W W') (h : Below w0.heap.size w0 W) : Below w0.heap.size w0 W' := h.trans (hb.mono h.size)
set_option maxHeartbeats 2000000 in
set_option maxRecDepth 100000 in
theorem crash_any (d : Dsk) (n : Int) (A A' : Option Addr) (c c' B : Nat) (w : World) (h : DkR w B A A' c c' d) (hB : B ≤ w.heap.size) (he : Env w) :
    Calls Tryd.prog 15 #[.agg #[.slice A d.safe.length c, .slice A' d.wait.length c'], .int .i64 n] w (RetDsk w (crashD d n)) := by
  have HE := Lib.hid he
  have HR := Lib.hid h
  have HD := Lib.hid (show crashD d n = if dErr d ≠ 0 then (noDsk, dErr d) else if n < 0 ∨ (d.wait.length : Int) < n then (noDsk, 3) else (⟨d.safe, d.wait.take n.toNat⟩, 0) from rfl)
  have HOK := Lib.hid (fun hz => (dErr_ok (d := d)).1 hz)
  have hcap := h.s.cap
  have hle := h.s.le
  have hcap' := h.t.cap
  have hle' := h.t.le
  simp only [maxLen] at hcap hcap'
  clear he h
  go_enter Tryd.func15, Tryd.ntmps15
  go_upto_region 1 with (fail)
  refine wp_nameT ?_
  intro w1 hw1
  have X1 : Blk w1 w.heap.size 36 #[.slice A d.safe.length c, .slice A' d.wait.length c'] := by rw [hw1]; exact (Blk.new w _ _).alloc _
  have X2 : Blk w1 (w.heap.size + 1) 36 #[.slice none 0 0, .slice none 0 0] := by rw [hw1]; have := Blk.new (w.alloc (.cells #[.slice A d.safe.length c, .slice A' d.wait.length c'] 36)) 36 #[.slice none 0 0, .slice none 0 0]; simpa using this
  have HB1 : Hid (Below w.heap.size w w1) := by rw [hw1]; exact Lib.hid (((Below.refl _ _).alloc (Nat.le_refl _) _).alloc (by simp) _)
  clear hw1
  obtain ⟨k0, k1⟩ := bl_c2 X1
  go_wp2_with fail
  refine (diskCheck_any d A A' c c' B w1 (HR.out.below (HB1.out.mono hB)) (Nat.le_trans hB HB1.out.size) (HE.out.next HB1.out)).mono ?_
  rintro e w2 ⟨rfl, hb2⟩
  clear k0 k1
  replace X1 := X1.below hb2 X1.lt
  replace X2 := X2.below hb2 X2.lt
  have HB2 := Lib.hid (HB1.out.trans (hb2.mono HB1.out.size))
  clear hb2 HB1
  have hs2 := HB2.out.size
  obtain ⟨k0, k1⟩ := bl_c2 X1
  obtain ⟨⟨m0, m1⟩, f0, f1⟩ := bl_c2f X2
  have hx1 := X1.lt
  have hx2 := X2.lt
  by_cases h0 : dErr d = 0
  rotate_left
  · have HZ := Lib.hid (HD.out.trans (if_pos h0))
    have d0 : (dErr d != 0) = true := by simpa using h0
    clear HD HOK h0
    generalize dErr d = k at HZ d0
    go_wp2_with fail
    refine exit_nameT ?_
    intro Z hZ
    obtain ⟨XZ, hbZ⟩ := set2w X2 HB2.out (Nat.le_succ _) (.slice none 0 0) (.slice none 0 0)
    rw [← hZ] at XZ hbZ
    clear hZ m0 m1 f0 f1
    obtain ⟨z0, z1⟩ := bl_c2 XZ
    refine bodyPost_ret (v := .tuple #[.agg #[.slice none 0 0, .slice none 0 0], .int .i64 k]) (by simp [results, Tryd.results15, go_sem, *]) rfl ?_
    exact ⟨_, k, rfl, by rw [HZ.out], by rw [HZ.out]; exact ownDk_zero _ _, hbZ⟩
  have HZ := Lib.hid (HD.out.trans (if_neg (by omega)))
  obtain ⟨hlen, -⟩ := HOK.out h0
  rw [h0]
  clear HD HOK h0
  by_cases h1 : n < 0
  · have HZ2 := Lib.hid (HZ.out.trans (if_pos (.inl h1)))
    clear HZ
    go_wp2_with fail
    refine exit_nameT ?_
    intro Z hZ
    obtain ⟨XZ, hbZ⟩ := set2w X2 HB2.out (Nat.le_succ _) (.slice none 0 0) (.slice none 0 0)
    rw [← hZ] at XZ hbZ
    clear hZ m0 m1 f0 f1
    obtain ⟨z0, z1⟩ := bl_c2 XZ
    refine bodyPost_ret (v := .tuple #[.agg #[.slice none 0 0, .slice none 0 0], .int .i64 3]) (by simp [results, Tryd.results15, go_sem, *]) rfl ?_
    exact ⟨_, 3, rfl, by rw [HZ2.out], by rw [HZ2.out]; exact ownDk_zero _ _, hbZ⟩
  by_cases h2 : (d.wait.length : Int) < n
  · have HZ2 := Lib.hid (HZ.out.trans (if_pos (.inr h2)))
    clear HZ
    go_wp2_with fail
    refine exit_nameT ?_
    intro Z hZ
    obtain ⟨XZ, hbZ⟩ := set2w X2 HB2.out (Nat.le_succ _) (.slice none 0 0) (.slice none 0 0)
    rw [← hZ] at XZ hbZ
    clear hZ m0 m1 f0 f1
    obtain ⟨z0, z1⟩ := bl_c2 XZ
    refine bodyPost_ret (v := .tuple #[.agg #[.slice none 0 0, .slice none 0 0], .int .i64 3]) (by simp [results, Tryd.results15, go_sem, *]) rfl ?_
    exact ⟨_, 3, rfl, by rw [HZ2.out], by rw [HZ2.out]; exact ownDk_zero _ _, hbZ⟩
  obtain ⟨m, rfl⟩ : ∃ m : Nat, n = m := ⟨n.toNat, by omega⟩
  have HZ2 := Lib.hid (HZ.out.trans (if_neg (by omega)))
  rw [Int.toNat_natCast] at HZ2
  clear HZ h1
  obtain ⟨A3, hcut, hrd⟩ := cut_h elem_u8 (HR.out.t.below (HB2.out.mono hB)) m (by omega)
  rw [u8s_take] at hrd
  have HRT := Lib.hid hrd
  have HRS := Lib.hid (HR.out.s.below (HB2.out.mono hB))
  have hB2 : B ≤ w2.heap.size := by omega
  have KS : Hid (∀ W, Below w2.heap.size w2 W → Below w2.heap.size w2 W ∧ (W.cell? ⟨w.heap.size, 0, none⟩ = some (.slice A d.safe.length c) ∧ W.cell? ⟨w.heap.size, 1, none⟩ = some (.slice A' d.wait.length c'))) := Lib.hid fun W hW => ⟨hW, bl_c2 (X1.below hW hx1)⟩
  have KB : Hid (∀ W, Below w2.heap.size w2 W → ((W.cell? ⟨w.heap.size + 1, 0, none⟩ = some (.slice none 0 0) ∧ W.cell? ⟨w.heap.size + 1, 1, none⟩ = some (.slice none 0 0)) ∧ W.frozen? ⟨w.heap.size + 1, 0, none⟩ = false ∧ W.frozen? ⟨w.heap.size + 1, 1, none⟩ = false)) := Lib.hid fun W hW => bl_c2f (X2.below hW hx2)
  have h22 : Below w2.heap.size w2 w2 := Below.refl _ _
  have HXA := Lib.hid (fun W hW => X2.below (w1 := W) hW hx2)
  clear X1 X2 m0 m1 f0 f1 hrd HR
  go_upto_region 6 with (fail)
  clear k0 k1
  have KT : Hid (∀ W v v', Below w2.heap.size w2 W → Below w2.heap.size w2 W ∧ ((W.setCell ⟨w.heap.size + 1, 0, none⟩ v).setCell ⟨w.heap.size + 1, 1, none⟩ v').cell? ⟨w.heap.size, 0, none⟩ = some (.slice A d.safe.length c) ∧ ((W.setCell ⟨w.heap.size + 1, 0, none⟩ v).setCell ⟨w.heap.size + 1, 1, none⟩ v').cell? ⟨w.heap.size, 1, none⟩ = some (.slice A' d.wait.length c')) := by
    refine Lib.hid fun W v v' hW => ?_
    obtain ⟨-, h1, h2⟩ := KS.out W hW
    exact ⟨hW, by simp [go_sem, h1], by simp [go_sem, h2]⟩
  go_wp2_with fail
  go_region_held3 (fun W => W.cell? ⟨w.heap.size, 0, none⟩ = some (.slice A d.safe.length c) ∧ W.cell? ⟨w.heap.size, 1, none⟩ = some (.slice A' d.wait.length c'))
    (first | (exact (KS.out _ (by assumption)).2) | (exact (KS.out _ (below_drewT (by assumption))).2) | (exact (KT.out _ _ _ (by assumption)).2))
    ((first
      | (go_at_call 23; go_split_ands; (with_reducible refine (clone_u8 A d.safe.length c d.safe B _ (HRS.out.below (Below.mono (by first | assumption | exact below_drewT (by assumption)) hB2)) (Nat.le_trans hB2 (Below.size (w := w2) (by first | assumption | exact below_drewT (by assumption)))) (by omega)).mono ?_); rintro e W' ⟨v, rfl, hown, hb⟩; obtain ⟨Ax, cx, rfl⟩ := own_shape hown; have hBX := below_nextD (w0 := w2) hb (by first | assumption | exact below_drewT (by assumption)); have hB3 := KB.out _ hBX)
      | (go_at_call 23; go_split_ands; (with_reducible refine (clone_u8 A3 m c' (d.wait.take m) B _ (HRT.out.below (Below.mono (by first | assumption | exact below_drewT (by assumption)) hB2)) (Nat.le_trans hB2 (Below.size (w := w2) (by first | assumption | exact below_drewT (by assumption)))) (by omega)).mono ?_); rintro e W' ⟨v, rfl, hown, hb⟩; obtain ⟨Ax, cx, rfl⟩ := own_shape hown; have hBX := below_nextD (w0 := w2) hb (by first | assumption | exact below_drewT (by assumption)); have hB3 := KB.out _ hBX)))
  rename_i W1 hb1 Ax1 cx1 hown1 hBX1 _ _ _ _ _ _ _
  have HB3 := Lib.hid (HB2.out.trans (hBX.mono hs2))
  have e2 : w2.drew.heap.size = w2.heap.size := by simp
  have l1 := hBX1.size
  have O1 : W'.ownsRow w2.heap.size 5 1 (.slice Ax1 d.safe.length cx1) d.safe.length (u8s d.safe) := own_mono (own_below hown1 hb (Nat.le_refl _)) (by omega)
  have O2 : W'.ownsRow w2.heap.size 5 1 (.slice Ax m cx) m (u8s (d.wait.take m)) := own_mono hown (by omega)
  have HP1 := Lib.hid (own_far2 (g := w.heap.size + 1) O1 (fun e => by have := (World.ownsRow.lt O1 _ e).1; omega) (.slice Ax1 d.safe.length cx1) (.slice Ax m cx))
  have HP2 := Lib.hid (own_far2 (g := w.heap.size + 1) O2 (fun e => by have := (World.ownsRow.lt O2 _ e).1; omega) (.slice Ax1 d.safe.length cx1) (.slice Ax m cx))
  have XW := HXA.out W' hBX
  clear O1 O2 hown1 hown hb hb1 hBX1 hBX hB3 hcut KT KS KB HRS HRT
  go_wp2_with fail
  refine exit_nameT ?_
  intro Z hZ
  obtain ⟨XZ, hbZ⟩ := set2w XW HB3.out (Nat.le_succ _) (.slice Ax1 d.safe.length cx1) (.slice Ax m cx)
  have HOZ := HP1.out
  have HOZ2 := HP2.out
  rw [← hZ] at XZ hbZ HOZ HOZ2
  clear hZ
  obtain ⟨z0, z1⟩ := bl_c2 XZ
  refine bodyPost_ret (v := .tuple #[.agg #[.slice Ax1 d.safe.length cx1, .slice Ax m cx], .int .i64 0]) (by simp [results, Tryd.results15, go_sem, *]) rfl ?_
  exact ⟨_, 0, rfl, by rw [HZ2.out], by rw [HZ2.out]; exact ownDk_mk (own_mono HOZ (by omega)) (own_mono HOZ2 (by omega)), hbZ⟩
end Go.Proofs.YtockodmbhnlheaaDoor
