/-
  THE WALK of the law BookBack.
-/
import Derived.Test.YtockodmbhnlheaaShelved
namespace Go.Proofs.Ytockodmbhnlheaa
open Go.RowKit

theorem rest_pair (b : Bk) (o : Od) : ∃ x e, restOf b o = (x, e) := ⟨_, _, rfl⟩
theorem remove_tri (b : Bk) (id : Int) : ∃ x o e, removeOf b id = (x, o, e) := ⟨_, _, _, rfl⟩

theorem book_lens {b : Bk} (h : BookOk b) : b.bids.length ≤ 4000000000000 ∧ b.asks.length ≤ 4000000000000 := by have := h.len; omega
theorem BkR.up {w : World} {B B' : Nat} {A A' : Option Addr} {c c' : Nat} {b : Bk} (h : BkR w B A A' c c' b) (hB : B ≤ B') : BkR w B' A A' c c' b := ⟨h.l.up hB, h.r.up hB⟩

set_option maxHeartbeats 4000000 in
set_option maxRecDepth 100000 in
theorem bookBack_walk (b : Bk) (A A' : Option Addr) (c c' : Nat) (o : Od) (id : Int) (w : World) (h0 : Rd w w.heap.size 5 A b.bids.length c (odCells b.bids)) (h0' : Rd w w.heap.size 5 A' b.asks.length c' (odCells b.asks)) (s : c * 40 ≤ reachBytes) (s' : c' * 40 ≤ reachBytes) :
    Calls Try.prog 15 #[.agg #[.slice A b.bids.length c, .slice A' b.asks.length c'], .agg #[.int .i64 o.id, .int .i64 o.acc, .int .i64 o.side, .int .i64 o.price, .int .i64 o.qty], .int .i64 id] w fun e w' => e = .returned (.bool true) ∧ Below w.heap.size w w' := by
  have h : BkR w w.heap.size A A' c c' b := ⟨h0, h0'⟩
  have hl : b.bids.length ≤ 4000000000000 := by have := h0.le; have : reachBytes = 140737488351232 := rfl; omega
  have hl' : b.asks.length ≤ 4000000000000 := by have := h0'.le; have : reachBytes = 140737488351232 := rfl; omega
  clear h0 h0' s s'
  obtain ⟨x1b, e1, hr1⟩ := rest_pair b o
  obtain ⟨x2b, o2, e2, hr2⟩ := remove_tri b id
  have HR1 := Lib.hid hr1
  have HR2 := Lib.hid hr2
  have q := run_neq_od
  have qs : sameOd o o = true := sameOd_iff.2 rfl
  clear hr1 hr2
  go_enter Try.func15, Try.ntmps15
  go_wp2_with fail
  refine calls_name ?_
  intro w2 hw2
  have hb2 : Below w.heap.size w w2 := by rw [hw2]; exact ((Below.refl _ _).alloc (Nat.le_refl _) _).alloc (by simp) _
  have hs2 : w2.heap.size = w.heap.size + 1 + 1 := by rw [hw2]; simp
  have X1 : Blk w2 w.heap.size 62 #[.slice A b.bids.length c, .slice A' b.asks.length c'] := by rw [hw2]; exact (Blk.new w _ _).alloc _
  have X2 : Blk w2 (w.heap.size + 1) 71 #[.int .i64 o.id, .int .i64 o.acc, .int .i64 o.side, .int .i64 o.price, .int .i64 o.qty] := by rw [hw2]; exact Blk.new_at _ _ _ _ (by simp)
  have hr := h.below hb2
  clear hw2
  refine (rest_bk b o A A' c c' w.heap.size w2 hr (by omega) hl hl').mono ?_
  rw [HR1.out]
  rintro e w3 ⟨v, rfl, hown, hb3⟩
  obtain ⟨P1, p1, P1', p1', rfl, H3⟩ := hown.obk
  have hs3 := hb3.size
  obtain ⟨⟨kX10, kX11⟩, -⟩ := X1.c2
  obtain ⟨⟨kX20, kX21, kX22, kX23, kX24⟩, fX20, fX21, fX22, fX23, fX24⟩ := X2.c5
  clear kX10 kX11
  replace X1 := X1.below hb3 X1.lt
  obtain ⟨⟨kX10, kX11⟩, -⟩ := X1.c2
  clear kX20 kX21 kX22 kX23 kX24 fX20 fX21 fX22 fX23 fX24
  replace X2 := X2.below hb3 X2.lt
  obtain ⟨⟨kX20, kX21, kX22, kX23, kX24⟩, fX20, fX21, fX22, fX23, fX24⟩ := X2.c5
  have hbR := hb2.trans (hb3.mono (by omega))
  clear hown hb3 hb2 hr
  have x1 : w.heap.size < w3.heap.size := by omega
  have x2 : w.heap.size + 1 < w3.heap.size := by omega
  by_cases he : e1 = 0
  rotate_left
  · have he' : (e1 == 0) = false := by simpa using he
    clear he HR1 H3 qs
    -- what is removed rests again
    go_wp2_with fail
    refine calls_name ?_
    intro wq hwq
    have hbq : Below w3.heap.size w3 wq := by rw [hwq]; exact (Below.refl _ _).alloc (Nat.le_refl _) _
    clear hwq
    have hsq := hbq.size
    clear kX10 kX11
    replace X1 := X1.below hbq X1.lt
    obtain ⟨⟨kX10, kX11⟩, -⟩ := X1.c2
    clear kX20 kX21 kX22 kX23 kX24 fX20 fX21 fX22 fX23 fX24
    replace X2 := X2.below hbq X2.lt
    obtain ⟨⟨kX20, kX21, kX22, kX23, kX24⟩, fX20, fX21, fX22, fX23, fX24⟩ := X2.c5
    replace hbR := hbR.trans (hbq.mono (by omega))
    clear hbq
    refine (remove_bk b id A A' c c' w.heap.size wq (h.below hbR) (by omega) hl hl').mono ?_
    rw [HR2.out]
    rintro e w3 ⟨v, rfl, hown, hb3⟩
    obtain ⟨P1, p1, P1', p1', rfl, H3⟩ := hown.obk
    have hs3 := hb3.size
    clear kX10 kX11
    replace X1 := X1.below hb3 X1.lt
    obtain ⟨⟨kX10, kX11⟩, -⟩ := X1.c2
    clear kX20 kX21 kX22 kX23 kX24 fX20 fX21 fX22 fX23 fX24
    replace X2 := X2.below hb3 X2.lt
    obtain ⟨⟨kX20, kX21, kX22, kX23, kX24⟩, fX20, fX21, fX22, fX23, fX24⟩ := X2.c5
    replace hbR := hbR.trans (hb3.mono (by omega))
    clear hown hb3
    have x1 : w.heap.size < w3.heap.size := by omega
    have x2 : w.heap.size + 1 < w3.heap.size := by omega
    go_wp2_with fail
    refine calls_name ?_
    intro w4 hw4
    have X3 : Blk w4 w3.heap.size 62 #[.slice P1 x2b.bids.length p1, .slice P1' x2b.asks.length p1'] := by rw [hw4]; exact Blk.new_at _ _ _ _ (by simp)
    have Y1 : Blk w4 w.heap.size 62 #[.slice A b.bids.length c, .slice A' b.asks.length c'] := by rw [hw4]; exact (((((X1.far (by simp) _).far (by simp) _).far (by simp) _).far (by simp) _).far (by simp) _).alloc _
    have Y2 : Blk w4 (w.heap.size + 1) 71 #[.int .i64 o2.id, .int .i64 o2.acc, .int .i64 o2.side, .int .i64 o2.price, .int .i64 o2.qty] := by rw [hw4]; exact (((((X2.set_ 0 _).set_ 1 _).set_ 2 _).set_ 3 _).set_ 4 _).alloc _
    have hb4 : Below w.heap.size w w4 := by rw [hw4]; exact (((((hbR.setCell (by dsimp only; omega) _).setCell (by dsimp only; omega) _).setCell (by dsimp only; omega) _).setCell (by dsimp only; omega) _).setCell (by dsimp only; omega) _).alloc (by simp; omega) _
    have hs4 : w4.heap.size = w3.heap.size + 1 := by rw [hw4]; simp
    have H4 : OBk w4 wq.heap.size P1 P1' p1 p1' x2b := by rw [hw4]; exact (((((H3.set (by dsimp only; omega) _).set (by dsimp only; omega) _).set (by dsimp only; omega) _).set (by dsimp only; omega) _).set (by dsimp only; omega) _).alloc _
    clear hw4 X1 X2 H3 hbR kX10 kX11 kX20 kX21 kX22 kX23 kX24 fX20 fX21 fX22 fX23 fX24 x1 x2
    refine (shelved_any w4).mono ?_
    rintro e w5 ⟨rfl, hb5⟩
    have hs5 := hb5.size
    obtain ⟨⟨kY10, kY11⟩, -⟩ := Y1.c2
    obtain ⟨⟨kY20, kY21, kY22, kY23, kY24⟩, -⟩ := Y2.c5
    obtain ⟨⟨kX30, kX31⟩, -⟩ := X3.c2
    clear kY10 kY11
    replace Y1 := Y1.below hb5 Y1.lt
    obtain ⟨⟨kY10, kY11⟩, -⟩ := Y1.c2
    clear kY20 kY21 kY22 kY23 kY24
    replace Y2 := Y2.below hb5 Y2.lt
    obtain ⟨⟨kY20, kY21, kY22, kY23, kY24⟩, -⟩ := Y2.c5
    clear kX30 kX31
    replace X3 := X3.below hb5 X3.lt
    obtain ⟨⟨kX30, kX31⟩, -⟩ := X3.c2
    replace H4 := H4.below hb5 (Nat.le_refl _)
    replace hb4 := hb4.trans (hb5.mono (by omega))
    clear hb5
    by_cases he : e2 = 0
    rotate_left
    · have he' : (e2 != 0) = true := by simpa using he
      clear he HR2
      go_wp2_with fail
      refine (shelved_any w5).mono ?_
      rintro e w6 ⟨rfl, hb6⟩
      go_wp2_with fail
      go_ret
      exact ⟨rfl, hb4.trans (hb6.mono (by omega))⟩
    · subst he
      have HB2 := Lib.hid (back2 HR2.out)
      have HSM := Lib.hid (sameBk_self b)
      have HLN := Lib.hid (book_lens (bookErr_ok.1 HB2.out.2))
      go_wp2_with fail
      refine (rest_bk x2b o2 P1 P1' p1 p1' w5.heap.size w5 H4.read (Nat.le_refl _) HLN.out.1 HLN.out.2).mono ?_
      rw [HB2.out.1]
      rintro e w6 ⟨v, rfl, hown, hb6⟩
      obtain ⟨Q1, q1, Q1', q1', rfl, H6⟩ := hown.obk
      have hs6 := hb6.size
      clear kY10 kY11
      replace Y1 := Y1.below hb6 Y1.lt
      obtain ⟨⟨kY10, kY11⟩, -⟩ := Y1.c2
      replace Y2 := Y2.below hb6 Y2.lt
      clear kX30 kX31
      replace X3 := X3.below hb6 X3.lt
      obtain ⟨⟨kX30, kX31⟩, -⟩ := X3.c2
      replace H4 := H4.below hb6 (Nat.le_refl _)
      replace hb4 := hb4.trans (hb6.mono (by omega))
      clear hown hb6 kY20 kY21 kY22 kY23 kY24
      have x1 : w.heap.size < w6.heap.size := by omega
      have x3 : w3.heap.size < w6.heap.size := by omega
      go_wp2_with fail
      refine calls_name ?_
      intro w7 hw7
      have hb7 : Below w6.heap.size w6 w7 := by rw [hw7]; exact (Below.refl _ _).alloc (Nat.le_refl _) _
      clear hw7
      have hs7 := hb7.size
      clear kY10 kY11
      replace Y1 := Y1.below hb7 Y1.lt
      obtain ⟨⟨kY10, kY11⟩, -⟩ := Y1.c2
      clear kX30 kX31
      replace X3 := X3.below hb7 X3.lt
      obtain ⟨⟨kX30, kX31⟩, -⟩ := X3.c2
      replace H4 := H4.below hb7 (Nat.le_refl _)
      replace H6 := H6.below hb7 (Nat.le_refl _)
      replace hb4 := hb4.trans (hb7.mono (by omega))
      clear hb7 Y2
      refine (same_bk b b Q1 Q1' A A' q1 q1' c c' w7.heap.size w7 H6.read ((h.below hb4).up (by omega)) (Nat.le_refl _)).mono ?_
      rw [HSM.out]
      rintro e w8 ⟨rfl, hb8⟩
      have hs8 := hb8.size
      replace Y1 := Y1.below hb8 Y1.lt
      clear kX30 kX31
      replace X3 := X3.below hb8 X3.lt
      obtain ⟨⟨kX30, kX31⟩, -⟩ := X3.c2
      replace H4 := H4.below hb8 (Nat.le_refl _)
      replace hb4 := hb4.trans (hb8.mono (by omega))
      clear hb8 H6 kY10 kY11
      have h4r := H4.read
      go_wp2_with fail
      refine (bookCheck_any x2b P1 P1' p1 p1' w8.heap.size w8 h4r.l h4r.r (Nat.le_refl _) (by have := HLN.out.1; omega) (by have := HLN.out.2; omega)).mono ?_
      rw [HB2.out.2]
      rintro e w9 ⟨rfl, hb9⟩
      go_wp2_with fail
      go_ret
      exact ⟨rfl, hb4.trans (hb9.mono (by omega))⟩
  · subst he
    have HB1 := Lib.hid (back1 HR1.out)
    have HLN1 := Lib.hid (book_lens (bookErr_ok.1 HB1.out.1))
    have HSM1 := Lib.hid (sameBk_self b)
    go_wp2_with fail
    refine calls_name ?_
    intro w4 hw4
    have hb4 : Below w3.heap.size w3 w4 := by rw [hw4]; exact (Below.refl _ _).alloc (Nat.le_refl _) _
    have hs4 : w4.heap.size = w3.heap.size + 1 := by rw [hw4]; simp
    have X3 : Blk w4 w3.heap.size 62 #[.slice P1 x1b.bids.length p1, .slice P1' x1b.asks.length p1'] := by rw [hw4]; exact Blk.new w3 _ _
    clear kX10 kX11
    replace X1 := X1.below hb4 X1.lt
    obtain ⟨⟨kX10, kX11⟩, -⟩ := X1.c2
    clear kX20 kX21 kX22 kX23 kX24 fX20 fX21 fX22 fX23 fX24
    replace X2 := X2.below hb4 X2.lt
    obtain ⟨⟨kX20, kX21, kX22, kX23, kX24⟩, fX20, fX21, fX22, fX23, fX24⟩ := X2.c5
    clear hw4
    replace H3 := H3.below hb4 (Nat.le_refl _)
    replace hbR := hbR.trans (hb4.mono (by omega))
    refine (remove_bk x1b o.id P1 P1' p1 p1' w4.heap.size w4 H3.read (Nat.le_refl _) HLN1.out.1 HLN1.out.2).mono ?_
    rw [HB1.out.2.1]
    rintro e w5 ⟨v, rfl, hown, hb5⟩
    obtain ⟨Q1, q1, Q1', q1', rfl, H5⟩ := hown.obk
    have hs5 := hb5.size
    obtain ⟨⟨kX30, kX31⟩, -⟩ := X3.c2
    clear kX10 kX11
    replace X1 := X1.below hb5 X1.lt
    obtain ⟨⟨kX10, kX11⟩, -⟩ := X1.c2
    clear kX20 kX21 kX22 kX23 kX24 fX20 fX21 fX22 fX23 fX24
    replace X2 := X2.below hb5 X2.lt
    obtain ⟨⟨kX20, kX21, kX22, kX23, kX24⟩, fX20, fX21, fX22, fX23, fX24⟩ := X2.c5
    clear kX30 kX31
    replace X3 := X3.below hb5 X3.lt
    obtain ⟨⟨kX30, kX31⟩, -⟩ := X3.c2
    replace H3 := H3.below hb5 (Nat.le_refl _)
    replace hbR := hbR.trans (hb5.mono (by omega))
    clear hown hb5 hb4
    have y1 : w.heap.size < w5.heap.size := by omega
    have y2 : w.heap.size + 1 < w5.heap.size := by omega
    have y3 : w3.heap.size < w5.heap.size := by omega
    go_wp2_with fail
    refine calls_name ?_
    intro w6 hw6
    have hb6 : Below w5.heap.size w5 w6 := by rw [hw6]; exact ((Below.refl _ _).alloc (Nat.le_refl _) _).alloc (by simp) _
    have hs6 : w6.heap.size = w5.heap.size + 1 + 1 := by rw [hw6]; simp
    have X4 : Blk w6 w5.heap.size 62 #[.slice Q1 b.bids.length q1, .slice Q1' b.asks.length q1'] := by rw [hw6]; exact (Blk.new w5 _ _).alloc _
    have X5 : Blk w6 (w5.heap.size + 1) 71 #[.int .i64 o.id, .int .i64 o.acc, .int .i64 o.side, .int .i64 o.price, .int .i64 o.qty] := by rw [hw6]; exact Blk.new_at _ _ _ _ (by simp)
    clear hw6 y1 y2 y3
    clear kX10 kX11
    replace X1 := X1.below hb6 X1.lt
    obtain ⟨⟨kX10, kX11⟩, -⟩ := X1.c2
    clear kX20 kX21 kX22 kX23 kX24 fX20 fX21 fX22 fX23 fX24
    replace X2 := X2.below hb6 X2.lt
    obtain ⟨⟨kX20, kX21, kX22, kX23, kX24⟩, fX20, fX21, fX22, fX23, fX24⟩ := X2.c5
    clear kX30 kX31
    replace X3 := X3.below hb6 X3.lt
    obtain ⟨⟨kX30, kX31⟩, -⟩ := X3.c2
    replace H3 := H3.below hb6 (Nat.le_refl _)
    replace H5 := H5.below hb6 (Nat.le_refl _)
    replace hbR := hbR.trans (hb6.mono (by omega))
    clear hb6
    refine (find_bk x1b o.id P1 P1' p1 p1' w6.heap.size w6 H3.read (Nat.le_refl _) HLN1.out.1 HLN1.out.2).mono ?_
    rw [HB1.out.2.2]
    rintro e w7 ⟨rfl, hb7⟩
    have hs7 := hb7.size
    obtain ⟨⟨kX40, kX41⟩, -⟩ := X4.c2
    obtain ⟨⟨kX50, kX51, kX52, kX53, kX54⟩, -⟩ := X5.c5
    clear kX10 kX11
    replace X1 := X1.below hb7 X1.lt
    obtain ⟨⟨kX10, kX11⟩, -⟩ := X1.c2
    clear kX20 kX21 kX22 kX23 kX24 fX20 fX21 fX22 fX23 fX24
    replace X2 := X2.below hb7 X2.lt
    obtain ⟨⟨kX20, kX21, kX22, kX23, kX24⟩, fX20, fX21, fX22, fX23, fX24⟩ := X2.c5
    clear kX30 kX31
    replace X3 := X3.below hb7 X3.lt
    obtain ⟨⟨kX30, kX31⟩, -⟩ := X3.c2
    clear kX40 kX41
    replace X4 := X4.below hb7 X4.lt
    obtain ⟨⟨kX40, kX41⟩, -⟩ := X4.c2
    clear kX50 kX51 kX52 kX53 kX54
    replace X5 := X5.below hb7 X5.lt
    obtain ⟨⟨kX50, kX51, kX52, kX53, kX54⟩, -⟩ := X5.c5
    replace H3 := H3.below hb7 (Nat.le_refl _)
    replace H5 := H5.below hb7 (Nat.le_refl _)
    replace hbR := hbR.trans (hb7.mono (by omega))
    clear hb7
    have y1 : w.heap.size < w7.heap.size := by omega
    have y2 : w.heap.size + 1 < w7.heap.size := by omega
    have y3 : w3.heap.size < w7.heap.size := by omega
    have y4 : w5.heap.size < w7.heap.size := by omega
    have y5 : w5.heap.size + 1 < w7.heap.size := by omega
    go_wp2_with fail
    refine calls_name ?_
    intro w8 hw8
    have hb8 : Below w7.heap.size w7 w8 := by rw [hw8]; exact (Below.refl _ _).alloc (Nat.le_refl _) _
    have hs8 := hb8.size
    clear hw8 y1 y2 y3 y4 y5
    clear kX10 kX11
    replace X1 := X1.below hb8 X1.lt
    obtain ⟨⟨kX10, kX11⟩, -⟩ := X1.c2
    clear kX20 kX21 kX22 kX23 kX24 fX20 fX21 fX22 fX23 fX24
    replace X2 := X2.below hb8 X2.lt
    obtain ⟨⟨kX20, kX21, kX22, kX23, kX24⟩, fX20, fX21, fX22, fX23, fX24⟩ := X2.c5
    clear kX30 kX31
    replace X3 := X3.below hb8 X3.lt
    obtain ⟨⟨kX30, kX31⟩, -⟩ := X3.c2
    clear kX40 kX41
    replace X4 := X4.below hb8 X4.lt
    obtain ⟨⟨kX40, kX41⟩, -⟩ := X4.c2
    clear kX50 kX51 kX52 kX53 kX54
    replace X5 := X5.below hb8 X5.lt
    obtain ⟨⟨kX50, kX51, kX52, kX53, kX54⟩, -⟩ := X5.c5
    replace H3 := H3.below hb8 (Nat.le_refl _)
    replace H5 := H5.below hb8 (Nat.le_refl _)
    replace hbR := hbR.trans (hb8.mono (by omega))
    clear hb8
    refine (same_bk b b Q1 Q1' A A' q1 q1' c c' w8.heap.size w8 H5.read ((h.below hbR).up (by omega)) (Nat.le_refl _)).mono ?_
    rw [HSM1.out]
    rintro e w9 ⟨rfl, hb9⟩
    have hs9 := hb9.size
    clear kX10 kX11
    replace X1 := X1.below hb9 X1.lt
    obtain ⟨⟨kX10, kX11⟩, -⟩ := X1.c2
    clear kX20 kX21 kX22 kX23 kX24 fX20 fX21 fX22 fX23 fX24
    replace X2 := X2.below hb9 X2.lt
    obtain ⟨⟨kX20, kX21, kX22, kX23, kX24⟩, fX20, fX21, fX22, fX23, fX24⟩ := X2.c5
    clear kX30 kX31
    replace X3 := X3.below hb9 X3.lt
    obtain ⟨⟨kX30, kX31⟩, -⟩ := X3.c2
    replace H3 := H3.below hb9 (Nat.le_refl _)
    replace hbR := hbR.trans (hb9.mono (by omega))
    clear hb9 H5 X4 X5 kX40 kX41 kX50 kX51 kX52 kX53 kX54
    have h3r := H3.read
    go_wp2_with fail
    refine (bookCheck_any x1b P1 P1' p1 p1' w9.heap.size w9 h3r.l h3r.r (Nat.le_refl _) (by have := HLN1.out.1; omega) (by have := HLN1.out.2; omega)).mono ?_
    rw [HB1.out.1]
    rintro e w10 ⟨rfl, hb10⟩
    have hs10 := hb10.size
    clear kX10 kX11
    replace X1 := X1.below hb10 X1.lt
    obtain ⟨⟨kX10, kX11⟩, -⟩ := X1.c2
    clear kX20 kX21 kX22 kX23 kX24 fX20 fX21 fX22 fX23 fX24
    replace X2 := X2.below hb10 X2.lt
    obtain ⟨⟨kX20, kX21, kX22, kX23, kX24⟩, fX20, fX21, fX22, fX23, fX24⟩ := X2.c5
    replace hbR := hbR.trans (hb10.mono (by omega))
    clear hb10 H3 X3 kX30 kX31 h3r qs HB1 HLN1 HSM1 HR1 x1 x2
    -- what is removed rests again
    go_wp2_with fail
    refine calls_name ?_
    intro wq hwq
    have hbq : Below w10.heap.size w10 wq := by rw [hwq]; exact Below.refl _ _
    clear hwq
    have hsq := hbq.size
    clear kX10 kX11
    replace X1 := X1.below hbq X1.lt
    obtain ⟨⟨kX10, kX11⟩, -⟩ := X1.c2
    clear kX20 kX21 kX22 kX23 kX24 fX20 fX21 fX22 fX23 fX24
    replace X2 := X2.below hbq X2.lt
    obtain ⟨⟨kX20, kX21, kX22, kX23, kX24⟩, fX20, fX21, fX22, fX23, fX24⟩ := X2.c5
    replace hbR := hbR.trans (hbq.mono (by omega))
    clear hbq
    refine (remove_bk b id A A' c c' w.heap.size wq (h.below hbR) (by omega) hl hl').mono ?_
    rw [HR2.out]
    rintro e w3 ⟨v, rfl, hown, hb3⟩
    obtain ⟨P1, p1, P1', p1', rfl, H3⟩ := hown.obk
    have hs3 := hb3.size
    clear kX10 kX11
    replace X1 := X1.below hb3 X1.lt
    obtain ⟨⟨kX10, kX11⟩, -⟩ := X1.c2
    clear kX20 kX21 kX22 kX23 kX24 fX20 fX21 fX22 fX23 fX24
    replace X2 := X2.below hb3 X2.lt
    obtain ⟨⟨kX20, kX21, kX22, kX23, kX24⟩, fX20, fX21, fX22, fX23, fX24⟩ := X2.c5
    replace hbR := hbR.trans (hb3.mono (by omega))
    clear hown hb3
    have x1 : w.heap.size < w3.heap.size := by omega
    have x2 : w.heap.size + 1 < w3.heap.size := by omega
    go_wp2_with fail
    refine calls_name ?_
    intro w4 hw4
    have X3 : Blk w4 w3.heap.size 62 #[.slice P1 x2b.bids.length p1, .slice P1' x2b.asks.length p1'] := by rw [hw4]; exact Blk.new_at _ _ _ _ (by simp)
    have Y1 : Blk w4 w.heap.size 62 #[.slice A b.bids.length c, .slice A' b.asks.length c'] := by rw [hw4]; exact (((((X1.far (by simp) _).far (by simp) _).far (by simp) _).far (by simp) _).far (by simp) _).alloc _
    have Y2 : Blk w4 (w.heap.size + 1) 71 #[.int .i64 o2.id, .int .i64 o2.acc, .int .i64 o2.side, .int .i64 o2.price, .int .i64 o2.qty] := by rw [hw4]; exact (((((X2.set_ 0 _).set_ 1 _).set_ 2 _).set_ 3 _).set_ 4 _).alloc _
    have hb4 : Below w.heap.size w w4 := by rw [hw4]; exact (((((hbR.setCell (by dsimp only; omega) _).setCell (by dsimp only; omega) _).setCell (by dsimp only; omega) _).setCell (by dsimp only; omega) _).setCell (by dsimp only; omega) _).alloc (by simp; omega) _
    have hs4 : w4.heap.size = w3.heap.size + 1 := by rw [hw4]; simp
    have H4 : OBk w4 wq.heap.size P1 P1' p1 p1' x2b := by rw [hw4]; exact (((((H3.set (by dsimp only; omega) _).set (by dsimp only; omega) _).set (by dsimp only; omega) _).set (by dsimp only; omega) _).set (by dsimp only; omega) _).alloc _
    clear hw4 X1 X2 H3 hbR kX10 kX11 kX20 kX21 kX22 kX23 kX24 fX20 fX21 fX22 fX23 fX24 x1 x2
    refine (shelved_any w4).mono ?_
    rintro e w5 ⟨rfl, hb5⟩
    have hs5 := hb5.size
    obtain ⟨⟨kY10, kY11⟩, -⟩ := Y1.c2
    obtain ⟨⟨kY20, kY21, kY22, kY23, kY24⟩, -⟩ := Y2.c5
    obtain ⟨⟨kX30, kX31⟩, -⟩ := X3.c2
    clear kY10 kY11
    replace Y1 := Y1.below hb5 Y1.lt
    obtain ⟨⟨kY10, kY11⟩, -⟩ := Y1.c2
    clear kY20 kY21 kY22 kY23 kY24
    replace Y2 := Y2.below hb5 Y2.lt
    obtain ⟨⟨kY20, kY21, kY22, kY23, kY24⟩, -⟩ := Y2.c5
    clear kX30 kX31
    replace X3 := X3.below hb5 X3.lt
    obtain ⟨⟨kX30, kX31⟩, -⟩ := X3.c2
    replace H4 := H4.below hb5 (Nat.le_refl _)
    replace hb4 := hb4.trans (hb5.mono (by omega))
    clear hb5
    by_cases he : e2 = 0
    rotate_left
    · have he' : (e2 != 0) = true := by simpa using he
      clear he HR2
      go_wp2_with fail
      refine (shelved_any w5).mono ?_
      rintro e w6 ⟨rfl, hb6⟩
      go_wp2_with fail
      go_ret
      exact ⟨rfl, hb4.trans (hb6.mono (by omega))⟩
    · subst he
      have HB2 := Lib.hid (back2 HR2.out)
      have HSM := Lib.hid (sameBk_self b)
      have HLN := Lib.hid (book_lens (bookErr_ok.1 HB2.out.2))
      go_wp2_with fail
      refine (rest_bk x2b o2 P1 P1' p1 p1' w5.heap.size w5 H4.read (Nat.le_refl _) HLN.out.1 HLN.out.2).mono ?_
      rw [HB2.out.1]
      rintro e w6 ⟨v, rfl, hown, hb6⟩
      obtain ⟨Q1, q1, Q1', q1', rfl, H6⟩ := hown.obk
      have hs6 := hb6.size
      clear kY10 kY11
      replace Y1 := Y1.below hb6 Y1.lt
      obtain ⟨⟨kY10, kY11⟩, -⟩ := Y1.c2
      replace Y2 := Y2.below hb6 Y2.lt
      clear kX30 kX31
      replace X3 := X3.below hb6 X3.lt
      obtain ⟨⟨kX30, kX31⟩, -⟩ := X3.c2
      replace H4 := H4.below hb6 (Nat.le_refl _)
      replace hb4 := hb4.trans (hb6.mono (by omega))
      clear hown hb6 kY20 kY21 kY22 kY23 kY24
      have x1 : w.heap.size < w6.heap.size := by omega
      have x3 : w3.heap.size < w6.heap.size := by omega
      go_wp2_with fail
      refine calls_name ?_
      intro w7 hw7
      have hb7 : Below w6.heap.size w6 w7 := by rw [hw7]; exact (Below.refl _ _).alloc (Nat.le_refl _) _
      clear hw7
      have hs7 := hb7.size
      clear kY10 kY11
      replace Y1 := Y1.below hb7 Y1.lt
      obtain ⟨⟨kY10, kY11⟩, -⟩ := Y1.c2
      clear kX30 kX31
      replace X3 := X3.below hb7 X3.lt
      obtain ⟨⟨kX30, kX31⟩, -⟩ := X3.c2
      replace H4 := H4.below hb7 (Nat.le_refl _)
      replace H6 := H6.below hb7 (Nat.le_refl _)
      replace hb4 := hb4.trans (hb7.mono (by omega))
      clear hb7 Y2
      refine (same_bk b b Q1 Q1' A A' q1 q1' c c' w7.heap.size w7 H6.read ((h.below hb4).up (by omega)) (Nat.le_refl _)).mono ?_
      rw [HSM.out]
      rintro e w8 ⟨rfl, hb8⟩
      have hs8 := hb8.size
      replace Y1 := Y1.below hb8 Y1.lt
      clear kX30 kX31
      replace X3 := X3.below hb8 X3.lt
      obtain ⟨⟨kX30, kX31⟩, -⟩ := X3.c2
      replace H4 := H4.below hb8 (Nat.le_refl _)
      replace hb4 := hb4.trans (hb8.mono (by omega))
      clear hb8 H6 kY10 kY11
      have h4r := H4.read
      go_wp2_with fail
      refine (bookCheck_any x2b P1 P1' p1 p1' w8.heap.size w8 h4r.l h4r.r (Nat.le_refl _) (by have := HLN.out.1; omega) (by have := HLN.out.2; omega)).mono ?_
      rw [HB2.out.2]
      rintro e w9 ⟨rfl, hb9⟩
      go_wp2_with fail
      go_ret
      exact ⟨rfl, hb4.trans (hb9.mono (by omega))⟩
end Go.Proofs.Ytockodmbhnlheaa
