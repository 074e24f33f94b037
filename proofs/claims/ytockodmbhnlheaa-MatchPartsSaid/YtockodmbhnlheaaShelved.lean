/-
  THE closed fact 'shelved'.
-/
import Derived.Test.YtockodmbhnlheaaRemove
namespace Go.Proofs.Ytockodmbhnlheaa
open Go.RowKit

theorem OwnBk.open_ {w : World} {base : Nat} {v : Value} {b : Bk} (h : OwnBk w base v b) : ∃ A c A' c', v = .agg #[.slice A b.bids.length c, .slice A' b.asks.length c'] ∧ BkR w w.heap.size A A' c c' b := by
  obtain ⟨A, c, A', c', rfl, h1, h2⟩ := h
  exact ⟨A, c, A', c', rfl, Rd.of_own h1, Rd.of_own h2⟩
/-- a book of one's own, opened: its slices, and that it reads. -/
structure OBk (w : World) (base : Nat) (A A' : Option Addr) (c c' : Nat) (b : Bk) : Prop where
  l : w.ownsRow base 71 5 (.slice A b.bids.length c) b.bids.length (odCells b.bids)
  r : w.ownsRow base 71 5 (.slice A' b.asks.length c') b.asks.length (odCells b.asks)
theorem OwnBk.obk {w : World} {base : Nat} {v : Value} {b : Bk} (h : OwnBk w base v b) : ∃ A c A' c', v = .agg #[.slice A b.bids.length c, .slice A' b.asks.length c'] ∧ OBk w base A A' c c' b := by
  obtain ⟨A, c, A', c', rfl, h1, h2⟩ := h
  exact ⟨A, c, A', c', rfl, h1, h2⟩
theorem OBk.read {w : World} {base : Nat} {A A' : Option Addr} {c c' : Nat} {b : Bk} (h : OBk w base A A' c c' b) : BkR w w.heap.size A A' c c' b := ⟨Rd.of_own h.l, Rd.of_own h.r⟩
theorem OBk.set {w : World} {base : Nat} {A A' : Option Addr} {c c' : Nat} {b : Bk} (h : OBk w base A A' c c' b) {a : Addr} (ha : a.block < base) (u : Value) : OBk (w.setCell a u) base A A' c c' b := ⟨ownsRow_setCell_below h.l ha u, ownsRow_setCell_below h.r ha u⟩
theorem OBk.below {w w1 : World} {base B : Nat} {A A' : Option Addr} {c c' : Nat} {b : Bk} (h : OBk w base A A' c c' b) (hb : Below B w w1) (hB : w.heap.size ≤ B) : OBk w1 base A A' c c' b := ⟨own_below h.l hb hB, own_below h.r hb hB⟩
theorem OBk.alloc {w : World} {base : Nat} {A A' : Option Addr} {c c' : Nat} {b : Bk} (h : OBk w base A A' c c' b) (o : Obj) : OBk (w.alloc o) base A A' c c' b := ⟨World.ownsRow.alloc h.l o, World.ownsRow.alloc h.r o⟩
theorem OBk.drewN {w : World} {base : Nat} {A A' : Option Addr} {c c' : Nat} {b : Bk} (h : OBk w base A A' c c' b) (q : Nat) : OBk (w.drewN q) base A A' c c' b := ⟨own_drewN h.l q, own_drewN h.r q⟩
theorem bkR_zero (w : World) : BkR w w.heap.size none none 0 0 zeroBk := ⟨Rd.none_ _ _ _, Rd.none_ _ _ _⟩
def sO1 : Od := ⟨1, 0, 1, 5, 2⟩
def sO2 : Od := ⟨3, 0, 1, 6, 2⟩
def sO3 : Od := ⟨2, 0, 1, 5, 2⟩
def sO4 : Od := ⟨4, 0, -1, 6, 2⟩

set_option maxHeartbeats 2000000 in
set_option maxRecDepth 100000 in
theorem shelved_any (w : World) : Calls Try.prog 61 #[] w fun e w' => e = .returned (.bool true) ∧ Below w.heap.size w w' := by
  have F1 := Lib.hid (show restOf zeroBk sO1 = (⟨[sO1], []⟩, 0) by kernel_rfl)
  have F2 := Lib.hid (show restOf ⟨[sO1], []⟩ sO2 = (⟨[sO2, sO1], []⟩, 0) by kernel_rfl)
  have F3 := Lib.hid (show restOf ⟨[sO2, sO1], []⟩ sO3 = (⟨[sO2, sO1, sO3], []⟩, 0) by kernel_rfl)
  have F4 := Lib.hid (show restOf ⟨[sO2, sO1, sO3], []⟩ sO4 = (zeroBk, 9) by kernel_rfl)
  have F5 := Lib.hid (show bestOf ⟨[sO2, sO1, sO3], []⟩ = (6, 0, 0) by kernel_rfl)
  go_enter Try.func61, Try.ntmps61
  go_wp2_with fail
  refine (rest_bk zeroBk sO1 none none 0 0 w.heap.size w (bkR_zero w) (Nat.le_refl _) (by decide) (by decide)).mono ?_
  rw [F1.out]
  rintro e w1 ⟨v, rfl, hown, hb1⟩
  obtain ⟨A1, c1, A1', c1', rfl, H1⟩ := hown.obk
  have hs1 := hb1.size
  clear hown
  go_wp2_with fail
  refine calls_name ?_
  intro w2 hw2
  have hb2 : Below w1.heap.size w1 w2 := by rw [hw2]; exact (Below.refl _ _).alloc (Nat.le_refl _) _
  have hs2 : w2.heap.size = w1.heap.size + 1 := by rw [hw2]; simp
  have X1 : Blk w2 w1.heap.size 62 #[.slice A1 1 c1, .slice A1' 0 c1'] := by rw [hw2]; exact Blk.new w1 _ _
  clear hw2
  refine (rest_bk ⟨[sO1], []⟩ sO2 A1 A1' c1 c1' w1.heap.size w2 (H1.read.below hb2) (by omega) (by decide) (by decide)).mono ?_
  rw [F2.out]
  rintro e w3 ⟨v, rfl, hown, hb3⟩
  obtain ⟨A2, c2, A2', c2', rfl, H3⟩ := hown.obk
  have hs3 := hb3.size
  obtain ⟨⟨kX10, kX11⟩, fX10, fX11⟩ := X1.c2
  clear kX10 kX11 fX10 fX11
  replace X1 := X1.below hb3 X1.lt
  obtain ⟨⟨kX10, kX11⟩, fX10, fX11⟩ := X1.c2
  clear hown
  go_wp2_with fail
  refine calls_name ?_
  intro w4 hw4
  have hs4 : w4.heap.size = w3.heap.size := by rw [hw4]; simp
  have Y1 : Blk w4 w1.heap.size 62 #[.slice A2 2 c2, .slice A2' 0 c2'] := by rw [hw4]; exact (X1.set_ 0 _).set_ 1 _
  have H4 : OBk w4 w2.heap.size A2 A2' c2 c2' ⟨[sO2, sO1], []⟩ := by rw [hw4]; exact (H3.set (by dsimp only; omega) _).set (by dsimp only; omega) _
  have hb4 : Below w1.heap.size w1 w4 := by rw [hw4]; exact ((hb2.trans (hb3.mono (by omega))).setCell (Nat.le_refl _) _).setCell (Nat.le_refl _) _
  clear hw4 X1 kX10 kX11 fX10 fX11 H3 H1 hb2 hb3
  refine (rest_bk ⟨[sO2, sO1], []⟩ sO3 A2 A2' c2 c2' w4.heap.size w4 H4.read (Nat.le_refl _) (by decide) (by decide)).mono ?_
  rw [F3.out]
  rintro e w5 ⟨v, rfl, hown, hb5⟩
  obtain ⟨A3, c3, A3', c3', rfl, H5⟩ := hown.obk
  have hs5 := hb5.size
  obtain ⟨⟨kY10, kY11⟩, fY10, fY11⟩ := Y1.c2
  clear kY10 kY11 fY10 fY11
  replace Y1 := Y1.below hb5 Y1.lt
  obtain ⟨⟨kY10, kY11⟩, fY10, fY11⟩ := Y1.c2
  clear hown H4
  go_wp2_with fail
  refine calls_name ?_
  intro w6 hw6
  have hs6 : w6.heap.size = w5.heap.size := by rw [hw6]; simp
  have Z1 : Blk w6 w1.heap.size 62 #[.slice A3 3 c3, .slice A3' 0 c3'] := by rw [hw6]; exact (Y1.set_ 0 _).set_ 1 _
  have H6 : OBk w6 w4.heap.size A3 A3' c3 c3' ⟨[sO2, sO1, sO3], []⟩ := by rw [hw6]; exact (H5.set (by dsimp only; omega) _).set (by dsimp only; omega) _
  have hb6 : Below w1.heap.size w1 w6 := by rw [hw6]; exact ((hb4.trans (hb5.mono (by omega))).setCell (Nat.le_refl _) _).setCell (Nat.le_refl _) _
  clear hw6 Y1 kY10 kY11 fY10 fY11 H5 hb4 hb5
  refine (rest_bk ⟨[sO2, sO1, sO3], []⟩ sO4 A3 A3' c3 c3' w6.heap.size w6 H6.read (Nat.le_refl _) (by decide) (by decide)).mono ?_
  rw [F4.out]
  rintro e w7 ⟨v, rfl, hown, hb7⟩
  obtain ⟨A4, c4, A4', c4', rfl, H7⟩ := hown.obk
  have hs7 := hb7.size
  obtain ⟨⟨kZ10, kZ11⟩, fZ10, fZ11⟩ := Z1.c2
  clear kZ10 kZ11 fZ10 fZ11
  replace Z1 := Z1.below hb7 Z1.lt
  obtain ⟨⟨kZ10, kZ11⟩, fZ10, fZ11⟩ := Z1.c2
  replace H6 := H6.below hb7 (Nat.le_refl _)
  clear hown H7
  have x1 : w1.heap.size < w7.heap.size := by omega
  go_wp2_with fail
  refine calls_name ?_
  intro w8 hw8
  have hb8 : Below w7.heap.size w7 w8 := by rw [hw8]; exact (Below.refl _ _).alloc (Nat.le_refl _) _
  clear hw8
  replace H6 := H6.below hb8 (Nat.le_refl _)
  clear kZ10 kZ11 fZ10 fZ11
  replace Z1 := Z1.below hb8 Z1.lt
  obtain ⟨⟨kZ10, kZ11⟩, fZ10, fZ11⟩ := Z1.c2
  refine (best_bk ⟨[sO2, sO1, sO3], []⟩ A3 A3' c3 c3' w8.heap.size w8 H6.read (Nat.le_refl _) (by decide) (by decide)).mono ?_
  rw [F5.out]
  rintro e w9 ⟨rfl, hb9⟩
  have hs8 := hb8.size
  have hs9 := hb9.size
  replace H6 := H6.below hb9 (Nat.le_refl _)
  clear kZ10 kZ11 fZ10 fZ11
  replace Z1 := Z1.below hb9 Z1.lt
  obtain ⟨⟨kZ10, kZ11⟩, fZ10, fZ11⟩ := Z1.c2
  have hbZ : Below w.heap.size w w9 := (((hb1.trans (hb6.mono (by omega))).trans (hb7.mono (by omega))).trans (hb8.mono (by omega))).trans (hb9.mono (by omega))
  obtain ⟨bb, oo, x, rfl, _, hx, k0, _, _, _, _⟩ := od_at H6.read.l (i := 0) (by decide)
  obtain ⟨bb', oo', y, e1, _, hy, m0, _, _, _, _⟩ := od_at H6.read.l (i := 2) (by decide)
  obtain rfl : x = sO2 := by injection hx with hx; exact hx.symm
  obtain rfl : y = sO3 := by injection hy with hy; exact hy.symm
  injection e1 with e1
  injection e1 with e1 e2
  subst e1 e2
  clear hx hy H6 hb1 hb6 hb7 hb8 hb9 Z1
  simp only [sO2, sO3] at k0 m0
  rw [Nat.zero_mul, Nat.add_zero] at k0
  rw [show 2 * 5 = 10 from rfl] at m0
  go_wp2_with fail
  go_ret
  exact ⟨rfl, hbZ⟩
end Go.Proofs.Ytockodmbhnlheaa
