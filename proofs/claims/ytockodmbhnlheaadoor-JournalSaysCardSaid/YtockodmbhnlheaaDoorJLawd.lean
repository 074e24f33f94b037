/-
  tollboothlaw.journaled, walked: a closed fact.
-/
import Derived.Test.YtockodmbhnlheaaDoorJRec
namespace Go.Proofs.YtockodmbhnlheaaDoor
open Go.RowKit

/-- a disk variable of the law's own, and the rows of what it holds. -/
structure DkV (w0 w : World) (g : Nat) (A A' : Option Addr) (c c' : Nat) (d : Dsk) : Prop where
  blk : Blk w g 36 #[.slice A d.safe.length c, .slice A' d.wait.length c']
  s : w.ownsRow w0.heap.size 5 1 (.slice A d.safe.length c) d.safe.length (u8s d.safe)
  t : w.ownsRow w0.heap.size 5 1 (.slice A' d.wait.length c') d.wait.length (u8s d.wait)
section
variable {w0 w w' : World} {g : Nat} {A A' : Option Addr} {c c' : Nat} {d : Dsk}
theorem DkV.below (h : DkV w0 w g A A' c c' d) (hb : Below w.heap.size w w') : DkV w0 w' g A A' c c' d := ⟨h.blk.below hb h.blk.lt, own_below h.s hb (Nat.le_refl _), own_below h.t hb (Nat.le_refl _)⟩
theorem DkV.alloc (h : DkV w0 w g A A' c c' d) (o : Obj) : DkV w0 (w.alloc o) g A A' c c' d := ⟨h.blk.alloc o, World.ownsRow.alloc h.s o, World.ownsRow.alloc h.t o⟩
theorem DkV.rd (h : DkV w0 w g A A' c c' d) : DkR w w.heap.size A A' c c' d := ⟨Rd.of_own h.s, Rd.of_own h.t⟩
theorem DkV.new (w : World) (h : OwnDk w w0.heap.size (.agg #[.slice A d.safe.length c, .slice A' d.wait.length c']) d) : DkV w0 (w.alloc (.cells #[.slice A d.safe.length c, .slice A' d.wait.length c'] 36)) w.heap.size A A' c c' d := by
  obtain ⟨B, k, B', k', e, h1, h2⟩ := h
  injection e with e
  simp only [Array.mk.injEq, List.cons.injEq, Value.slice.injEq, and_true, true_and] at e
  obtain ⟨⟨rfl, rfl⟩, rfl, rfl⟩ := e
  exact ⟨Blk.new _ _ _, World.ownsRow.alloc h1 _, World.ownsRow.alloc h2 _⟩
/-- another disk's block is stored. -/
theorem DkV.far {f : Nat} {B B' : Option Addr} {k k' : Nat} {e : Dsk} (h : DkV w0 w g A A' c c' d) (hX : DkV w0 w f B B' k k' e) (hne : g ≠ f) (u v : Value) : DkV w0 ((w.setCell ⟨f, 0, none⟩ u).setCell ⟨f, 1, none⟩ v) g A A' c c' d :=
  ⟨(h.blk.far hne u).far hne v, own_far2 h.s (own_neD h.s hX.blk (by decide)) u v, own_far2 h.t (own_neD h.t hX.blk (by decide)) u v⟩
/-- a disk is stored into its variable. -/
theorem DkV.store {f : Nat} {B B' : Option Addr} {k k' : Nat} {e : Dsk} (hX : DkV w0 w f B B' k k' e) (h : OwnDk w w0.heap.size (.agg #[.slice A d.safe.length c, .slice A' d.wait.length c']) d) :
    DkV w0 ((w.setCell ⟨f, 0, none⟩ (.slice A d.safe.length c)).setCell ⟨f, 1, none⟩ (.slice A' d.wait.length c')) f A A' c c' d := by
  obtain ⟨E, k, E', k', e, h1, h2⟩ := h
  injection e with e
  simp only [Array.mk.injEq, List.cons.injEq, Value.slice.injEq, and_true, true_and] at e
  obtain ⟨⟨rfl, rfl⟩, rfl, rfl⟩ := e
  refine ⟨?_, own_far2 h1 (own_neD h1 hX.blk (by decide)) _ _, own_far2 h2 (own_neD h2 hX.blk (by decide)) _ _⟩
  have h1 := ((hX.blk.set_ 0 (.slice A d.safe.length c)).set_ 1 (.slice A' d.wait.length c'))
  simp only [List.setIfInBounds_toArray, List.set_cons_zero, List.set_cons_succ] at h1
  exact h1
end
theorem OwnDk.shape {w : World} {base : Nat} {v : Value} {d : Dsk} (h : OwnDk w base v d) : ∃ A c A' c', v = .agg #[.slice A d.safe.length c, .slice A' d.wait.length c'] := by
  obtain ⟨A, c, A', c', rfl, -⟩ := h; exact ⟨A, c, A', c', rfl⟩
theorem OwnDk.mono {w : World} {base base' : Nat} {v : Value} {d : Dsk} (h : OwnDk w base v d) (hb : base' ≤ base) : OwnDk w base' v d := by
  obtain ⟨A, c, A', c', rfl, h1, h2⟩ := h; exact ⟨A, c, A', c', rfl, own_mono h1 hb, own_mono h2 hb⟩
def jc1 : Cm := ⟨1, 0, 0, 5, ⟨0, 0, 0, 0, 0⟩, 0, false⟩
def jc2 : Cm := ⟨7, 0, 0, 0, ⟨0, 0, 0, 0, 0⟩, 0, false⟩
def jt1 : List UInt8 := [100, 101, 112, 111, 115, 105, 116, 32, 48, 32, 53, 10]
def jt2 : List UInt8 := [115, 119, 101, 101, 112]
theorem jput1 : putD noDsk jc1 = (⟨[], jt1⟩, 0) := by kernel_rfl
theorem jsync : syncD ⟨[], jt1⟩ = (⟨jt1, []⟩, 0) := by kernel_rfl
theorem jput2 : putD ⟨jt1, []⟩ jc2 = (⟨jt1, jt2 ++ [10]⟩, 0) := by kernel_rfl
theorem jcrash : crashD ⟨jt1, jt2 ++ [10]⟩ 5 = (⟨jt1, jt2⟩, 0) := by kernel_rfl
theorem jrec : recoverD ⟨jt1, jt2⟩ = (⟨jt1, []⟩, [jc1], 0) := by kernel_rfl
theorem jfit1 : FitC jc1 := ⟨by constructor <;> decide, by constructor <;> decide, by constructor <;> decide, by constructor <;> decide, by constructor <;> decide⟩
theorem jfit2 : FitC jc2 := ⟨by constructor <;> decide, by constructor <;> decide, by constructor <;> decide, by constructor <;> decide, by constructor <;> decide⟩
theorem dkr_none (w : World) : DkR w w.heap.size none none 0 0 noDsk := ⟨Rd.none_ _ _ _, Rd.none_ _ _ _⟩
set_option maxHeartbeats 2000000 in
set_option maxRecDepth 100000 in
theorem journaled_any (w : World) (he : Env w) : Calls Tryd.prog 12 #[] w fun e w' => e = .returned (.bool true) ∧ Below w.heap.size w w' := by
  have HE := Lib.hid he
  obtain ⟨d1, hd1⟩ : ∃ d1 : Dsk, d1 = ⟨[], jt1⟩ := ⟨_, rfl⟩
  obtain ⟨d2, hd2⟩ : ∃ d2 : Dsk, d2 = ⟨jt1, []⟩ := ⟨_, rfl⟩
  obtain ⟨d3, hd3⟩ : ∃ d3 : Dsk, d3 = ⟨jt1, jt2 ++ [10]⟩ := ⟨_, rfl⟩
  obtain ⟨d4, hd4⟩ : ∃ d4 : Dsk, d4 = ⟨jt1, jt2⟩ := ⟨_, rfl⟩
  obtain ⟨t1, ht1⟩ : ∃ t1 : List UInt8, t1 = jt1 := ⟨_, rfl⟩
  have P1 := Lib.hid (show putD noDsk jc1 = (d1, 0) by rw [hd1]; exact jput1)
  have P2 := Lib.hid (show syncD d1 = (d2, 0) by rw [hd1, hd2]; exact jsync)
  have P3 := Lib.hid (show putD d2 jc2 = (d3, 0) by rw [hd2, hd3]; exact jput2)
  have P4 := Lib.hid (show crashD d3 5 = (d4, 0) by rw [hd3, hd4]; exact jcrash)
  have P5 := Lib.hid (show recoverD d4 = (⟨t1, []⟩, [jc1], 0) by rw [hd4, ht1]; exact jrec)
  have e1 : ((bs t1).toList == [100, 101, 112, 111, 115, 105, 116, 32, 48, 32, 53, 10]) = true := by rw [bs_cmpL]; exact decide_eq_true ht1
  have e2 : ((bs d4.wait).toList == [115, 119, 101, 101, 112]) = true := by rw [bs_cmpL, hd4]; exact decide_eq_true rfl
  have HE1 := Lib.hid e1
  have HE2 := Lib.hid e2
  clear he hd1 hd2 hd3 hd4 ht1 e1 e2
  go_enter Tryd.func12, Tryd.ntmps12
  go_wp2_with fail
  refine (putDisk_any noDsk jc1 none none 0 0 w.heap.size w (dkr_none w) (Nat.le_refl _) HE.out jfit1).mono ?_
  rintro e w1 ⟨v, k, rfl, hk, hown, hb1⟩
  rw [P1.out] at hk hown
  dsimp only at hk hown
  subst hk
  obtain ⟨A1, c1, E1, k1, rfl⟩ := hown.shape
  have HO1 := Lib.hid hown
  have HB1 := Lib.hid hb1
  clear hown hb1
  go_upto_region 2 with (fail)
  refine wp_nameT ?_
  intro w2 hw2
  have D2 : DkV w w2 w1.heap.size A1 E1 c1 k1 d1 := by rw [hw2]; exact DkV.new w1 HO1.out
  have HB2 : Hid (Below w.heap.size w w2) := by rw [hw2]; exact Lib.hid (HB1.out.alloc HB1.out.size _)
  clear hw2
  have hs1 := HB1.out.size
  obtain ⟨a0, a1⟩ := bl_c2 D2.blk
  go_wp2_with fail
  refine (sync_any d1 A1 E1 c1 k1 w2.heap.size w2 D2.rd (Nat.le_refl _) (HE.out.next HB2.out)).mono ?_
  rintro e w3 ⟨v, k, rfl, hk, hown, hb3⟩
  rw [P2.out] at hk hown
  dsimp only at hk hown
  subst hk
  obtain ⟨A2, c2, E2, k2, rfl⟩ := hown.shape
  have D3 := D2.below hb3
  have HB3 := Lib.hid (HB2.out.trans (hb3.mono HB2.out.size))
  have HO3 := Lib.hid (hown.mono (base' := w.heap.size) HB2.out.size)
  clear hown hb3 a0 a1 D2
  obtain ⟨⟨a0, a1⟩, f0, f1⟩ := bl_c2f D3.blk
  go_upto_region 3 with (fail)
  refine wp_nameT ?_
  intro w4 hw4
  have D4 : DkV w w4 w1.heap.size A2 E2 c2 k2 d2 := by rw [hw4]; exact D3.store HO3.out
  have HB4 : Hid (Below w.heap.size w w4) := by rw [hw4]; exact Lib.hid ((HB3.out.setCell hs1 _).setCell hs1 _)
  clear hw4 D3 a0 a1 f0 f1 HO3 HB3
  obtain ⟨a0, a1⟩ := bl_c2 D4.blk
  go_wp2_with fail
  refine (putDisk_any d2 jc2 A2 E2 c2 k2 w4.heap.size w4 D4.rd (Nat.le_refl _) (HE.out.next HB4.out) jfit2).mono ?_
  rintro e w5 ⟨v, k, rfl, hk, hown, hb5⟩
  rw [P3.out] at hk hown
  dsimp only at hk hown
  subst hk
  obtain ⟨A3, c3, E3, k3, rfl⟩ := hown.shape
  have D5 := D4.below hb5
  have HB5 := Lib.hid (HB4.out.trans (hb5.mono HB4.out.size))
  have HO5 := Lib.hid (hown.mono (base' := w.heap.size) HB4.out.size)
  clear hown hb5 a0 a1 D4
  obtain ⟨⟨a0, a1⟩, f0, f1⟩ := bl_c2f D5.blk
  go_upto_region 4 with (fail)
  refine wp_nameT ?_
  intro w6 hw6
  have D6 : DkV w w6 w1.heap.size A3 E3 c3 k3 d3 := by rw [hw6]; exact D5.store HO5.out
  have HB6 : Hid (Below w.heap.size w w6) := by rw [hw6]; exact Lib.hid ((HB5.out.setCell hs1 _).setCell hs1 _)
  clear hw6 D5 a0 a1 f0 f1 HO5 HB5
  obtain ⟨a0, a1⟩ := bl_c2 D6.blk
  go_wp2_with fail
  refine (crash_any d3 5 A3 E3 c3 k3 w6.heap.size w6 D6.rd (Nat.le_refl _) (HE.out.next HB6.out)).mono ?_
  rintro e w7 ⟨v, k, rfl, hk, hown, hb7⟩
  rw [P4.out] at hk hown
  dsimp only at hk hown
  subst hk
  obtain ⟨A4, c4, E4, k4, rfl⟩ := hown.shape
  have D7 := D6.below hb7
  have HB7 := Lib.hid (HB6.out.trans (hb7.mono HB6.out.size))
  have HO7 := Lib.hid (hown.mono (base' := w.heap.size) HB6.out.size)
  clear hown hb7 a0 a1 D6
  obtain ⟨⟨a0, a1⟩, f0, f1⟩ := bl_c2f D7.blk
  go_upto_region 5 with (fail)
  refine wp_nameT ?_
  intro w8 hw8
  have D8 : DkV w w8 w1.heap.size A4 E4 c4 k4 d4 := by rw [hw8]; exact D7.store HO7.out
  have HB8 : Hid (Below w.heap.size w w8) := by rw [hw8]; exact Lib.hid ((HB7.out.setCell hs1 _).setCell hs1 _)
  clear hw8 D7 a0 a1 f0 f1 HO7 HB7
  obtain ⟨a0, a1⟩ := bl_c2 D8.blk
  go_wp2_with fail
  refine (recover_any d4 A4 E4 c4 k4 w8.heap.size w8 D8.rd (Nat.le_refl _) (HE.out.next HB8.out)).mono ?_
  rintro e w9 ⟨v, u, k, rfl, hk, hown, hrow, hb9⟩
  rw [P5.out] at hk hown hrow
  dsimp only at hk hown hrow
  subst hk
  obtain ⟨A5, c5, E5, k5, rfl⟩ := hown.shape
  obtain ⟨A6, c6, rfl⟩ := own_shape hrow
  have D9 := D8.below hb9
  have HB9 := Lib.hid (HB8.out.trans (hb9.mono HB8.out.size))
  have HO9 := Lib.hid (hown.mono (base' := w.heap.size) HB8.out.size)
  have hs9 := HB9.out.size
  clear hown hb9 a0 a1 D8 hrow
  go_upto_region 6 with (fail)
  refine wp_nameT ?_
  intro wE hwE
  have DE : DkV w wE w1.heap.size A4 E4 c4 k4 d4 := by rw [hwE]; exact D9.alloc _
  have DF : DkV w wE w9.heap.size A5 E5 c5 k5 ⟨t1, []⟩ := by rw [hwE]; exact DkV.new (d := ⟨t1, []⟩) (w0 := w) w9 HO9.out
  have HBE : Hid (Below w.heap.size w wE) := by rw [hwE]; exact Lib.hid (HB9.out.alloc hs9 _)
  clear hwE D9 HO9 HB9
  obtain ⟨a0, a1⟩ := bl_c2 DE.blk
  obtain ⟨b0, b1⟩ := bl_c2 DF.blk
  have cv1 := str_of_bytes DE.rd.t
  have cv2 := str_of_bytes DF.rd.s
  have e1 := HE1.out
  have e2 := HE2.out
  clear DE DF
  go_wp2_with fail
  go_ret
  exact ⟨rfl, HBE.out⟩
end Go.Proofs.YtockodmbhnlheaaDoor
