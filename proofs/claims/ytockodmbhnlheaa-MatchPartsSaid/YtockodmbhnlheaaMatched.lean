/-
  THE closed fact 'matched'.
-/
import Derived.Test.YtockodmbhnlheaaCome
namespace Go.Proofs.Ytockodmbhnlheaa
open Go.RowKit

def mA1 : Od := ⟨1, 1, -1, 100, 3⟩
def mA2 : Od := ⟨2, 1, -1, 101, 4⟩
def mB : Bk := ⟨[], [mA1, mA2]⟩
def mO1 : Od := ⟨3, 0, 1, 101, 5⟩
def mO2 : Od := ⟨3, 1, 1, 101, 5⟩
def mF1 : Fl := ⟨1, 3, 1, 0, 1, 100, 3⟩
def mF2 : Fl := ⟨2, 3, 1, 0, 1, 101, 2⟩
def mX : Bk := ⟨[], [{ mA2 with qty := 2 }]⟩

set_option maxHeartbeats 2000000 in
set_option maxRecDepth 100000 in
theorem matched_any (w : World) : Calls Try.prog 71 #[] w fun e w' => e = .returned (.bool true) ∧ Below w.heap.size w w' := by
  have F1 := Lib.hid (show comeOf mB mO1 1 = (mX, [mF1, mF2], 0, 0) by kernel_rfl)
  have F2 := Lib.hid (show comeOf mB mO2 1 = (zeroBk, [], 0, 11) by kernel_rfl)
  go_enter Try.func71, Try.ntmps71
  go_wp2_with fail
  refine calls_name ?_
  intro w2 hw2
  have hb2 : Below w.heap.size w w2 := by rw [hw2]; exact ((Below.refl _ _).alloc (Nat.le_refl _) _).alloc (by simp) _
  have hs2 : w2.heap.size = w.heap.size + 1 + 1 := by rw [hw2]; simp
  have hra : Rd w2 w2.heap.size 5 (some ⟨w.heap.size, 0, none⟩) 2 2 (odCells [mA1, mA2]) := by
    have X0 : Blk w2 w.heap.size 71 (odCells [mA1, mA2]).toArray := by rw [hw2]; exact (Blk.new w _ _).alloc _
    exact ⟨rfl, by decide, by decide, nofun, fun _ => ⟨w.heap.size, 0, rfl, by omega, fun j u hj => by rw [X0.cell, Nat.zero_add]; simpa using hj⟩⟩
  have X1 : Blk w2 (w.heap.size + 1) 62 #[.slice none 0 0, .slice (some ⟨w.heap.size, 0, none⟩) 2 2] := by rw [hw2]; exact Blk.new_at _ _ _ _ (by simp)
  have hr : BkR w2 w2.heap.size none (some ⟨w.heap.size, 0, none⟩) 0 2 mB := ⟨Rd.none_ _ _ _, hra⟩
  clear hw2 hra
  refine (come_bk mB mO1 1 none (some ⟨w.heap.size, 0, none⟩) 0 2 w2.heap.size w2 hr (Nat.le_refl _) (by decide) (by decide)).mono ?_
  rw [F1.out]
  rintro e w3 ⟨A1, c1, A1', c1', vf, rfl, H3, hrow, hb3⟩
  obtain ⟨AF, cF, rfl⟩ := own_shape hrow
  have HF3 := Lib.hid (Rd.of_own hrow)
  have hs3 := hb3.size
  obtain ⟨⟨kX10, kX11⟩, -⟩ := X1.c2
  clear kX10 kX11
  replace X1 := X1.below hb3 X1.lt
  obtain ⟨⟨kX10, kX11⟩, -⟩ := X1.c2
  replace hb2 := hb2.trans (hb3.mono (by omega))
  replace hr := hr.below hb3
  clear hb3 hrow
  have x1 : w.heap.size + 1 < w3.heap.size := by omega
  go_wp2_with fail
  refine calls_name ?_
  intro w4 hw4
  have hb4 : Below w3.heap.size w3 w4 := by rw [hw4]; exact (Below.refl _ _).alloc (Nat.le_refl _) _
  have hs4 : w4.heap.size = w3.heap.size + 1 := by rw [hw4]; simp
  have X2 : Blk w4 w3.heap.size 62 #[.slice A1 0 c1, .slice A1' 1 c1'] := by rw [hw4]; exact Blk.new w3 _ _
  clear hw4 x1
  replace hr := hr.below (hb4.mono (by omega))
  replace hb2 := hb2.trans (hb4.mono (by omega))
  replace HF3 := Lib.hid (HF3.out.below hb4)
  have HX := Lib.hid (H3.read.below hb4)
  refine (come_bk mB mO2 1 none (some ⟨w.heap.size, 0, none⟩) 0 2 w2.heap.size w4 hr (by omega) (by decide) (by decide)).mono ?_
  rw [F2.out]
  rintro e w5 ⟨A2, c2, A2', c2', vf, rfl, H5, hrow, hb5⟩
  obtain ⟨AG, cG, rfl⟩ := own_shape hrow
  have hs5 := hb5.size
  obtain ⟨⟨kX20, kX21⟩, -⟩ := X2.c2
  clear kX20 kX21
  replace X2 := X2.below hb5 X2.lt
  obtain ⟨⟨kX20, kX21⟩, -⟩ := X2.c2
  replace hb2 := hb2.trans (hb5.mono (by omega))
  replace HF3 := Lib.hid (HF3.out.below (hb5.mono (by omega)))
  replace HX := Lib.hid (HX.out.below (hb5.mono (by omega)))
  clear hb5 hrow hb4 H3 H5 X1 kX10 kX11
  obtain ⟨g1, o1, f1, rfl, hg1, hf1, _, _, _, _, _, k5, k6⟩ := fl_at HF3.out (i := 0) (by decide)
  obtain ⟨g1', o1', f2, e1, _, hf2, _, _, _, _, _, m5, m6⟩ := fl_at HF3.out (i := 1) (by decide)
  obtain ⟨g2, o2, x, rfl, hg2, hx, _, _, _, _, n4⟩ := od_at HX.out.r (i := 0) (by decide)
  obtain rfl : f1 = mF1 := by injection hf1 with hf1; exact hf1.symm
  obtain rfl : f2 = mF2 := by injection hf2 with hf2; exact hf2.symm
  obtain rfl : x = { mA2 with qty := 2 } := by injection hx with hx; exact hx.symm
  injection e1 with e1
  injection e1 with e1 e2
  subst e1 e2
  clear hf1 hf2 hx HF3 HX
  simp only [mF1, mF2, mA2, Nat.zero_mul, Nat.add_zero, Nat.one_mul] at k5 k6 m5 m6 n4
  rw [Nat.add_assoc] at m5 m6
  have y1 : g1 < w5.heap.size := by omega
  have y2 : g2 < w5.heap.size := by omega
  have y3 : w3.heap.size < w5.heap.size := by omega
  go_wp2_with fail
  go_ret
  refine ⟨rfl, ?_⟩
  first | exact hb2 | exact hb2.alloc (by omega) _
end Go.Proofs.Ytockodmbhnlheaa
