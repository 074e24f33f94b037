/-
  text.order, walked.
-/
import Derived.Test.YtockodmbhnlheaaDoorTextOrdP
import Derived.Deep.RegionHeld3
namespace Go.Proofs.YtockodmbhnlheaaDoor
open Go.RowKit

def cmV (c : Cm) : Value := .agg #[.int .i64 c.kind, .int .i64 c.acc, .int .i64 c.market, .int .i64 c.n, .int .i64 c.o.id, .int .i64 c.o.acc, .int .i64 c.o.side, .int .i64 c.o.price, .int .i64 c.o.qty, .int .i64 c.how, .bool c.reduce]
theorem strs_take (L : List (List UInt8)) (k : Nat) : (strs L).take k = strs (L.take k) := by simp [strs, List.map_take]
theorem str_at {w : World} {B n c j : Nat} {A : Option Addr} {L : List (List UInt8)} {x : List UInt8} (h : Rd w B 1 A n c (strs L)) (hx : L[j]? = some x) : ∃ b o, A = some ⟨b, o, none⟩ ∧ b < B ∧ w.cell? ⟨b, o + j, none⟩ = some (.string (bs x)) := h.one (strs_at hx)

theorem bl_c11 {w : World} {g : Nat} {t : TypeId} {a0 a1 a2 a3 a4 a5 a6 a7 a8 a9 a10 : Value} (h : Blk w g t #[a0, a1, a2, a3, a4, a5, a6, a7, a8, a9, a10]) :
    (w.cell? ⟨g, 0, none⟩ = some a0 ∧ w.cell? ⟨g, 1, none⟩ = some a1 ∧ w.cell? ⟨g, 2, none⟩ = some a2 ∧ w.cell? ⟨g, 3, none⟩ = some a3 ∧ w.cell? ⟨g, 4, none⟩ = some a4 ∧ w.cell? ⟨g, 5, none⟩ = some a5 ∧ w.cell? ⟨g, 6, none⟩ = some a6 ∧ w.cell? ⟨g, 7, none⟩ = some a7 ∧ w.cell? ⟨g, 8, none⟩ = some a8 ∧ w.cell? ⟨g, 9, none⟩ = some a9 ∧ w.cell? ⟨g, 10, none⟩ = some a10) ∧
      w.frozen? ⟨g, 0, none⟩ = false ∧ w.frozen? ⟨g, 1, none⟩ = false ∧ w.frozen? ⟨g, 2, none⟩ = false ∧ w.frozen? ⟨g, 3, none⟩ = false ∧ w.frozen? ⟨g, 4, none⟩ = false ∧ w.frozen? ⟨g, 5, none⟩ = false ∧ w.frozen? ⟨g, 6, none⟩ = false ∧ w.frozen? ⟨g, 7, none⟩ = false ∧ w.frozen? ⟨g, 8, none⟩ = false ∧ w.frozen? ⟨g, 9, none⟩ = false ∧ w.frozen? ⟨g, 10, none⟩ = false :=
  ⟨⟨h.cell 0, h.cell 1, h.cell 2, h.cell 3, h.cell 4, h.cell 5, h.cell 6, h.cell 7, h.cell 8, h.cell 9, h.cell 10⟩, h.frozen 0, h.frozen 1, h.frozen 2, h.frozen 3, h.frozen 4, h.frozen 5, h.frozen 6, h.frozen 7, h.frozen 8, h.frozen 9, h.frozen 10⟩
theorem blk_drewT {W : World} {g : Nat} {t : TypeId} {cs : Array Value} (h : Blk W g t cs) : Blk W.drew g t cs := h
theorem set11 {w W Z : World} {t : TypeId} {c0 c1 c2 c3 c4 c5 c6 c7 c8 c9 c10 a0 a1 a2 a3 a4 a5 a6 a7 a8 a9 a10 : Value} (h : Blk W w.heap.size t #[c0, c1, c2, c3, c4, c5, c6, c7, c8, c9, c10]) (hb : Below w.heap.size w W) (hZ : Z = (((((((((((W.setCell ⟨w.heap.size, 0, none⟩ a0).setCell ⟨w.heap.size, 1, none⟩ a1).setCell ⟨w.heap.size, 2, none⟩ a2).setCell ⟨w.heap.size, 3, none⟩ a3).setCell ⟨w.heap.size, 4, none⟩ a4).setCell ⟨w.heap.size, 5, none⟩ a5).setCell ⟨w.heap.size, 6, none⟩ a6).setCell ⟨w.heap.size, 7, none⟩ a7).setCell ⟨w.heap.size, 8, none⟩ a8).setCell ⟨w.heap.size, 9, none⟩ a9).setCell ⟨w.heap.size, 10, none⟩ a10).drew) :
    Blk Z w.heap.size t #[a0, a1, a2, a3, a4, a5, a6, a7, a8, a9, a10] ∧ Below w.heap.size w Z := by
  constructor
  · have h1 := (((((((((((h.set_ 0 a0).set_ 1 a1).set_ 2 a2).set_ 3 a3).set_ 4 a4).set_ 5 a5).set_ 6 a6).set_ 7 a7).set_ 8 a8).set_ 9 a9).set_ 10 a10)
    simp only [List.setIfInBounds_toArray, List.set_cons_zero, List.set_cons_succ] at h1
    rw [hZ]; exact blk_drewT h1
  · rw [hZ]
    refine below_drewT ?_
    iterate 11 (refine Below.setCell ?_ (Nat.le_refl w.heap.size) _)
    exact hb
set_option maxHeartbeats 4000000 in
set_option maxRecDepth 100000 in
theorem order_any (L : List (List UInt8)) (A : Option Addr) (n c B : Nat) (w : World) (hr : Rd w B 1 A n c (strs L)) (hB : B ≤ w.heap.size) (he : Env w) (hl : ∀ l ∈ L, l.length ≤ 281474976710656) :
    Calls Tryd.prog 34 #[.slice A n c] w fun e w' => ∃ x : Cm, e = .returned (.tuple #[cmV x, .bool (orderQ L).isSome]) ∧ (∀ y, orderQ L = some y → x = y) ∧ Below w.heap.size w w' := by
  have hlen : L.length = n := by have := hr.len; rw [strs_len] at this; omega
  have HR := Lib.hid hr
  have HE := Lib.hid he
  have HL := Lib.hid hl
  have HN := Lib.hid hlen
  have hcap := hr.cap
  have hle := hr.le
  unfold maxLen at hcap
  clear hr he hl hlen
  unfold cmV
  go_enter Tryd.func34, Tryd.ntmps34
  go_upto_region 2 with (fail)
  refine wp_nameT ?_
  intro w1 hw1
  have hb1 : Below w.heap.size w w1 := by rw [hw1]; exact ((Below.refl _ _).alloc (Nat.le_refl _) _).alloc (by simp) _
  have hs1 : w1.heap.size = w.heap.size + 1 + 1 := by rw [hw1]; simp
  have X2 : Blk w1 w.heap.size 25 #[.int .i64 0, .int .i64 0, .int .i64 0, .int .i64 0, .int .i64 0, .int .i64 0, .int .i64 0, .int .i64 0, .int .i64 0, .int .i64 0, .bool false] := by rw [hw1]; exact (Blk.new w _ _).alloc _
  have X4 : Blk w1 (w.heap.size + 1) 25 #[.int .i64 3, .int .i64 0, .int .i64 0, .int .i64 0, .int .i64 0, .int .i64 0, .int .i64 0, .int .i64 0, .int .i64 0, .int .i64 0, .bool false] := by
    rw [hw1]
    have := Blk.new (w.alloc (.cells #[.int .i64 0, .int .i64 0, .int .i64 0, .int .i64 0, .int .i64 0, .int .i64 0, .int .i64 0, .int .i64 0, .int .i64 0, .int .i64 0, .bool false] 25)) 25 #[.int .i64 3, .int .i64 0, .int .i64 0, .int .i64 0, .int .i64 0, .int .i64 0, .int .i64 0, .int .i64 0, .int .i64 0, .int .i64 0, .bool false]
    rwa [World.size_alloc] at this
  clear hw1
  have hr1 := HR.out.below (hb1.mono hB)
  have HX2 := Lib.hid X2
  have HX4 := Lib.hid X4
  have HR1 := Lib.hid hr1
  have kr : w1.cell? ⟨w.heap.size + 1, 10, none⟩ = some (.bool false) := X4.cell 10
  have fr := X4.frozen 10
  have x4 := X4.lt
  clear X2 X4
  go_cut [18] (fun v wx => v = .bool (decide (L.length = 8 ∧ L[7]? = some wReduce)) ∧ w1 = wx)
  case first =>
    by_cases h8 : n = 8
    · obtain ⟨x, hx⟩ : ∃ x, L[7]? = some x := ⟨_, List.getElem?_eq_getElem (by rw [HN.out]; omega)⟩
      obtain ⟨b, o, rfl, hb, kx⟩ := str_at hr1 hx
      have HD := Lib.hid (show ((bs x).toList == wReduce) = decide (L.length = 8 ∧ L[7]? = some wReduce) by
        rw [bs_cmpL, hx]; congr 1; apply propext
        constructor
        · intro h; exact ⟨by rw [HN.out]; exact h8, by rw [h]⟩
        · intro h; injection h.2)
      clear hx
      subst h8
      go_wp2_with fail
      go_meet
      exact ⟨congrArg Value.bool HD.out, rfl⟩
    · have hd := Lib.hid (show decide (L.length = 8 ∧ L[7]? = some wReduce) = false from decide_eq_false (fun h => h8 (by rw [← HN.out]; exact h.1)))
      have h8' : ((n : Int) == 8) = false := by simp; omega
      clear h8
      go_wp2_with fail
      go_meet
      exact ⟨by rw [hd.out], rfl⟩
  case rest =>
  obtain ⟨rfl, rfl⟩ := hcut
  go_upto_if 18 with (fail)
  go_cut [0] (fun v0 wx => ∃ (A2 : Option Addr) (n2 c2 : Nat) (L2 : List (List UInt8)) (red : Bool), v0 = .slice A2 n2 c2 ∧ Hid (Rd wx B 1 A2 n2 c2 (strs L2)) ∧ Below w.heap.size w wx ∧ w.heap.size + 1 + 1 ≤ wx.heap.size ∧ Hid (Blk wx w.heap.size 25 #[.int .i64 0, .int .i64 0, .int .i64 0, .int .i64 0, .int .i64 0, .int .i64 0, .int .i64 0, .int .i64 0, .int .i64 0, .int .i64 0, .bool false]) ∧
    Hid (Blk wx (w.heap.size + 1) 25 #[.int .i64 3, .int .i64 0, .int .i64 0, .int .i64 0, .int .i64 0, .int .i64 0, .int .i64 0, .int .i64 0, .int .i64 0, .int .i64 0, .bool red]) ∧ Hid (orderQ L = orderW red L2) ∧ Hid (∀ l ∈ L2, l.length ≤ 281474976710656))
  case first =>
    by_cases hq : L.length = 8 ∧ L[7]? = some wReduce
    · have HQ := Lib.hid (show orderQ L = orderW true (L.take 7) by unfold orderQ; rw [if_pos hq])
      obtain ⟨A2, hcut7, hr7⟩ := cut_h elem_st hr1 7 (by have := hq.1; rw [HN.out] at this; omega)
      have HR7 := Lib.hid hr7
      rw [decide_eq_true hq]
      have hcs : ∀ w', (Instr.slice 58 (.slice A n c) none (some (.int .i64 7)) none).run Tryd.prog w' = .ok (.slice A2 7 c) w' := hcut7
      clear hq hr7 hr1 hcut7
      go_wp2_with fail
      go_meet
      refine ⟨A2, 7, c, L.take 7, true, rfl, ?_, hb1.setCell (by dsimp only; omega) _, by simp; omega, Lib.hid (HX2.out.far (by dsimp only; omega) _), Lib.hid (HX4.out.set_ 10 _), HQ, Lib.hid (fun l hl => HL.out l (List.mem_of_mem_take hl))⟩
      have := HR7.out.mono_ne (w' := w1.setCell ⟨w.heap.size + 1, 10, none⟩ (.bool true)) (Nat.le_refl _) (g := w.heap.size + 1) (fun ad h e => by
        have := HR7.out.at_ (by omega)
        obtain ⟨b, o, h2, h3, _⟩ := this
        rw [h] at h2; injection h2 with h2; rw [h2] at e; dsimp only at e; omega) (fun b o hb hne => World.cell?_setCell_far _ _ _ _ (fun e => hne e.symm))
      rw [Nat.mul_one] at this
      rw [← strs_take]
      exact Lib.hid this
    · have HQ := Lib.hid (show orderQ L = orderW false L by unfold orderQ; rw [if_neg hq])
      rw [decide_eq_false hq]
      clear hq
      go_wp2_with fail
      go_meet
      exact ⟨A, n, c, L, false, rfl, HR1, hb1, by omega, HX2, HX4, HQ, HL⟩
  case rest =>
  obtain ⟨A2, n2, c2, L2, red, rfl, HR2, hb2, hs2, HX2', HX4', HQ, HL2⟩ := hcut
  obtain ⟨w2, rfl⟩ : ∃ x, x = wc := ⟨wc, rfl⟩
  have HB2 := Lib.hid hb2
  obtain ⟨⟨z0, z1, z2, z3, z4, z5, z6, z7, z8, z9, z10⟩, y0, y1, y2, y3, y4, y5, y6, y7, y8, y9, y10⟩ := bl_c11 HX2'.out
  have x2 := HX2'.out.lt
  by_cases h7 : n2 = 7
  rotate_left
  · have HO := Lib.hid (HQ.out.trans (orderW_len (by have := HR2.out.len; rw [strs_len] at this; omega)))
    have h7' : ((n2 : Int) != 7) = true := by simp; omega
    clear h7
    go_wp2_with fail
    refine exit_nameT ?_
    intro Z hZ
    have XZ : Blk Z w.heap.size 25 #[.int .i64 0, .int .i64 0, .int .i64 0, .int .i64 0, .int .i64 0, .int .i64 0, .int .i64 0, .int .i64 0, .int .i64 0, .int .i64 0, .bool false] := by
      rw [hZ]; exact ((((((((((HX2'.out.set_ 0 _).set_ 1 _).set_ 2 _).set_ 3 _).set_ 4 _).set_ 5 _).set_ 6 _).set_ 7 _).set_ 8 _).set_ 9 _).set_ 10 _
    have hbZ : Below w.heap.size w Z := by
      rw [hZ]
      iterate 11 (refine Below.setCell ?_ (by exact Nat.le_refl w.heap.size) _)
      exact hb2
    clear hZ z0 z1 z2 z3 z4 z5 z6 z7 z8 z9 z10 y0 y1 y2 y3 y4 y5 y6 y7 y8 y9 y10
    obtain ⟨⟨z0, z1, z2, z3, z4, z5, z6, z7, z8, z9, z10⟩, -⟩ := bl_c11 XZ
    refine bodyPost_ret (v := .tuple #[.agg #[.int .i64 0, .int .i64 0, .int .i64 0, .int .i64 0, .int .i64 0, .int .i64 0, .int .i64 0, .int .i64 0, .int .i64 0, .int .i64 0, .bool false], .bool false]) (by simp [results, Tryd.results34, go_sem, *]) rfl ?_
    refine ⟨zeroCm, by rw [HO.out]; rfl, fun y hy => ?_, hbZ⟩
    rw [HO.out] at hy; cases hy
  subst h7
  obtain ⟨t0, t1, t2, t3, t4, t5, t6, rfl⟩ := list_seven (L := L2) (by have := HR2.out.len; rw [strs_len] at this; omega)
  obtain ⟨b, o, rfl, hb, hc⟩ := HR2.out.at_ (by omega)
  have HCC := Lib.hid hc
  have KS : Hid (∀ W, Below w2.heap.size w2 W → Below w2.heap.size w2 W ∧ W.cell? ⟨b, o + 1, none⟩ = some (.string (bs t1)) ∧ W.cell? ⟨b, o + 2, none⟩ = some (.string (bs t2)) ∧ W.cell? ⟨b, o + 4, none⟩ = some (.string (bs t4)) ∧ W.cell? ⟨b, o + 5, none⟩ = some (.string (bs t5))) := by
    intro W hW
    have hB' : b < w2.heap.size := by omega
    exact ⟨hW, (hW.cell (p := ⟨b, o + 1, none⟩) hB').trans (hc 1 _ rfl), (hW.cell (p := ⟨b, o + 2, none⟩) hB').trans (hc 2 _ rfl), (hW.cell (p := ⟨b, o + 4, none⟩) hB').trans (hc 4 _ rfl), (hW.cell (p := ⟨b, o + 5, none⟩) hB').trans (hc 5 _ rfl)⟩
  have h22 := below_drewT (Below.refl w2.heap.size w2)
  have HNUM := Lib.hid (numbers_any [t1, t2, t4, t5] (some ⟨w2.heap.size, 0, none⟩) 4 4 (w2.heap.size + 1) (w2.drew.alloc (.cells #[.string (bs t1), .string (bs t2), .string (bs t4), .string (bs t5)] 9)) (Rd.new w2.drew #[.string (bs t1), .string (bs t2), .string (bs t4), .string (bs t5)] 9 4 rfl (by decide)) (by simp) ((HE.out.next hb2).next (h22.alloc (Nat.le_refl _) _)) (by simp) (fun l hl => HL2.out l (by simp only [List.mem_cons, List.not_mem_nil, or_false] at hl ⊢; rcases hl with rfl | rfl | rfl | rfl <;> simp)))
  clear hc
  go_wp2_with fail
  go_cut [5, 6] (fun v5 v6 wx => ∃ N, v6 = .bool (numsOf [t1, t2, t4, t5]).isSome ∧ Hid (N = (numsOf [t1, t2, t4, t5]).getD []) ∧ Hid (wx.ownsRow w2.heap.size 3 1 v5 N.length (ints N)) ∧ Below w2.heap.size w2 wx)
  case first =>
    go_region_held3 (fun W => Below w2.heap.size w2 W ∧ W.cell? ⟨b, o + 1, none⟩ = some (.string (bs t1)) ∧ W.cell? ⟨b, o + 2, none⟩ = some (.string (bs t2)) ∧ W.cell? ⟨b, o + 4, none⟩ = some (.string (bs t4)) ∧ W.cell? ⟨b, o + 5, none⟩ = some (.string (bs t5)))
      (first | (exact KS.out _ (by assumption)) | (exact KS.out _ (h22.alloc (Nat.le_refl _) _)))
      ((go_at_call 35; refine HNUM.out.mono ?_; rintro e W' ⟨v, N, rfl, hN, hown, hbn⟩; have hBN := (h22.alloc (Nat.le_refl _) (.cells #[.string (bs t1), .string (bs t2), .string (bs t4), .string (bs t5)] 9)).trans (hbn.mono (by simp))))
    all_goals
      go_wp2_with fail
      go_meet
      exact ⟨N, rfl, Lib.hid hN, Lib.hid (own_mono hown (by simp)), hBN⟩
  case rest =>
  obtain ⟨N, rfl, HN5, HO5, hb5⟩ := hcut
  obtain ⟨w5, rfl⟩ : ∃ x, x = wc := ⟨wc, rfl⟩
  have HB5 := Lib.hid (hb2.trans (hb5.mono (by omega)))
  have hs5 := hb5.size
  have HX25 := Lib.hid (HX2'.out.below hb5 (by omega))
  have HX45 := Lib.hid (HX4'.out.below hb5 (by omega))
  have HCC5 := Lib.hid (fun j u (hu : (strs [t0, t1, t2, t3, t4, t5, t6])[j]? = some u) => (hb5.cell (p := ⟨b, o + j, none⟩) (show b < w2.heap.size by omega)).trans (HCC.out j u hu))
  clear z0 z1 z2 z3 z4 z5 z6 z7 z8 z9 z10 y0 y1 y2 y3 y4 y5 y6 y7 y8 y9 y10 KS h22 HNUM
  cases hN : numsOf [t1, t2, t4, t5] with
  | none =>
    have HO := Lib.hid (show orderQ L = none by rw [HQ.out, orderW_nums, hN])
    obtain ⟨⟨z0, z1, z2, z3, z4, z5, z6, z7, z8, z9, z10⟩, y0, y1, y2, y3, y4, y5, y6, y7, y8, y9, y10⟩ := bl_c11 HX25.out
    have x5 := HX25.out.lt
    rw [show (none : Option (List Int)).isSome = false from rfl]
    clear hN
    go_wp2_with fail
    refine exit_nameT ?_
    intro Z hZ
    have XZ : Blk Z w.heap.size 25 #[.int .i64 0, .int .i64 0, .int .i64 0, .int .i64 0, .int .i64 0, .int .i64 0, .int .i64 0, .int .i64 0, .int .i64 0, .int .i64 0, .bool false] := by
      rw [hZ]; exact ((((((((((HX25.out.set_ 0 _).set_ 1 _).set_ 2 _).set_ 3 _).set_ 4 _).set_ 5 _).set_ 6 _).set_ 7 _).set_ 8 _).set_ 9 _).set_ 10 _
    have hbZ : Below w.heap.size w Z := by
      rw [hZ]
      iterate 11 (refine Below.setCell ?_ (by exact Nat.le_refl w.heap.size) _)
      exact HB5.out
    clear hZ z0 z1 z2 z3 z4 z5 z6 z7 z8 z9 z10 y0 y1 y2 y3 y4 y5 y6 y7 y8 y9 y10
    obtain ⟨⟨z0, z1, z2, z3, z4, z5, z6, z7, z8, z9, z10⟩, -⟩ := bl_c11 XZ
    refine bodyPost_ret (v := .tuple #[.agg #[.int .i64 0, .int .i64 0, .int .i64 0, .int .i64 0, .int .i64 0, .int .i64 0, .int .i64 0, .int .i64 0, .int .i64 0, .int .i64 0, .bool false], .bool false]) (by simp [results, Tryd.results34, go_sem, *]) rfl ?_
    refine ⟨zeroCm, by rw [HO.out]; rfl, fun y hy => ?_, hbZ⟩
    rw [HO.out] at hy; cases hy
  | some N0 =>
  obtain ⟨a, m, q, p, rfl⟩ := nums_four hN
  have HOQ := Lib.hid (show orderQ L = match sideOfW t3 with
    | some s => if howOf t6 = 0 then none else some ⟨3, a, m, 0, ⟨0, 0, s, p, q⟩, howOf t6, red⟩
    | none => none by
      rw [HQ.out, orderW_nums, hN]
      cases sideOfW t3 <;> rfl)
  have HNN : N = [a, m, q, p] := by rw [HN5.out, hN]; rfl
  subst HNN
  rw [show (some [a, m, q, p] : Option (List Int)).isSome = true from rfl]
  clear hN
  obtain ⟨A5, c5, rfl⟩ := own_shape HO5.out
  obtain ⟨b5, o5, hA5, hb5', hc5⟩ := (Rd.of_own HO5.out).at_ (show 0 < [a, m, q, p].length by simp)
  subst hA5
  have hge := (World.ownsRow.lt HO5.out b5 rfl).1
  have n0 : w5.cell? ⟨b5, o5, none⟩ = some (.int .i64 a) := hc5 0 _ rfl
  have n1 : w5.cell? ⟨b5, o5 + 1, none⟩ = some (.int .i64 m) := hc5 1 _ rfl
  have n2 : w5.cell? ⟨b5, o5 + 2, none⟩ = some (.int .i64 q) := hc5 2 _ rfl
  have n3 : w5.cell? ⟨b5, o5 + 3, none⟩ = some (.int .i64 p) := hc5 3 _ rfl
  have hne : ¬ (w.heap.size + 1 = b5) := by omega
  have hne' : ¬ (b5 = w.heap.size + 1) := by omega
  obtain ⟨⟨z0, z1, z2, z3, z4, z5, z6, z7, z8, z9, z10⟩, y0, y1, y2, y3, y4, y5, y6, y7, y8, y9, y10⟩ := bl_c11 HX45.out
  go_wp2_with fail
  go_cut [6] (fun v6 wx => v6 = .bool true ∧ Hid (Blk wx (w.heap.size + 1) 25 #[.int .i64 3, .int .i64 a, .int .i64 m, .int .i64 0, .int .i64 0, .int .i64 0, .int .i64 0, .int .i64 p, .int .i64 q, .int .i64 0, .bool red]) ∧ Below (w.heap.size + 1) w5 wx)
  case first =>
    go_region_held3 (fun W => W.cell? ⟨b5, o5, none⟩ = some (.int .i64 a) ∧ W.cell? ⟨b5, o5 + 1, none⟩ = some (.int .i64 m) ∧ W.cell? ⟨b5, o5 + 2, none⟩ = some (.int .i64 q) ∧ W.cell? ⟨b5, o5 + 3, none⟩ = some (.int .i64 p))
      (go_keep)
      ((fail))
    all_goals
      go_wp2_with fail
      go_meet
      exact ⟨rfl, Lib.hid ((((HX45.out.set_ 1 _).set_ 2 _).set_ 8 _).set_ 7 _), below_drewN (((((Below.refl _ _).setCell (by dsimp only; omega) _).setCell (by dsimp only; omega) _).setCell (by dsimp only; omega) _).setCell (by dsimp only; omega) _) 1⟩
  case rest =>
  obtain ⟨rfl, HXC, hb6⟩ := hcut
  obtain ⟨w6, rfl⟩ : ∃ x, x = wc := ⟨wc, rfl⟩
  have hs6 := hb6.size
  have HX26 := Lib.hid (HX25.out.below hb6 (by omega))
  have HCC6 := Lib.hid (fun j u (hu : (strs [t0, t1, t2, t3, t4, t5, t6])[j]? = some u) => (hb6.cell (p := ⟨b, o + j, none⟩) (show b < w.heap.size + 1 by omega)).trans (HCC5.out j u hu))
  have HB6 := Lib.hid (HB5.out.trans (hb6.mono (by omega)))
  have HEW := Lib.hid (HE.out.next HB6.out)
  clear z0 z1 z2 z3 z4 z5 z6 z7 z8 z9 z10 y0 y1 y2 y3 y4 y5 y6 y7 y8 y9 y10 n0 n1 n2 n3 hc5 HX25 HX45 HCC5 HB5
  obtain ⟨⟨z0, z1, z2, z3, z4, z5, z6, z7, z8, z9, z10⟩, y0, y1, y2, y3, y4, y5, y6, y7, y8, y9, y10⟩ := bl_c11 HXC.out
  have k3 : w6.cell? ⟨b, o + 3, none⟩ = some (.string (bs t3)) := HCC6.out 3 _ rfl
  cases hS : sideOfW t3 with
  | none =>
    have HO := Lib.hid (show orderQ L = none by rw [HOQ.out, hS])
    have hS' := hS
    unfold sideOfW at hS'
    have g1 : ¬ t3 = wBuy := by intro e; rw [if_pos e] at hS'; cases hS'
    have g2 : ¬ t3 = wSell := by intro e; rw [if_neg g1, if_pos e] at hS'; cases hS'
    have c1 : ((bs t3).toList == [98, 117, 121]) = false := by rw [bs_cmpL]; exact decide_eq_false g1
    have c2 : ((bs t3).toList == [115, 101, 108, 108]) = false := by rw [bs_cmpL]; exact decide_eq_false g2
    clear hS hS' g1 g2 z0 z1 z2 z3 z4 z5 z6 z7 z8 z9 z10 y0 y1 y2 y3 y4 y5 y6 y7 y8 y9 y10
    obtain ⟨⟨z0, z1, z2, z3, z4, z5, z6, z7, z8, z9, z10⟩, y0, y1, y2, y3, y4, y5, y6, y7, y8, y9, y10⟩ := bl_c11 HX26.out
    go_wp2_with fail
    refine exit_nameT ?_
    intro Z hZ
    have XZ : Blk Z w.heap.size 25 #[.int .i64 0, .int .i64 0, .int .i64 0, .int .i64 0, .int .i64 0, .int .i64 0, .int .i64 0, .int .i64 0, .int .i64 0, .int .i64 0, .bool false] := by
      rw [hZ]; exact ((((((((((HX26.out.set_ 0 _).set_ 1 _).set_ 2 _).set_ 3 _).set_ 4 _).set_ 5 _).set_ 6 _).set_ 7 _).set_ 8 _).set_ 9 _).set_ 10 _
    have hbZ : Below w.heap.size w Z := by
      rw [hZ]
      iterate 11 (refine Below.setCell ?_ (by exact Nat.le_refl w.heap.size) _)
      exact HB6.out
    clear hZ z0 z1 z2 z3 z4 z5 z6 z7 z8 z9 z10 y0 y1 y2 y3 y4 y5 y6 y7 y8 y9 y10
    obtain ⟨⟨z0, z1, z2, z3, z4, z5, z6, z7, z8, z9, z10⟩, -⟩ := bl_c11 XZ
    refine bodyPost_ret (v := .tuple #[.agg #[.int .i64 0, .int .i64 0, .int .i64 0, .int .i64 0, .int .i64 0, .int .i64 0, .int .i64 0, .int .i64 0, .int .i64 0, .int .i64 0, .bool false], .bool false]) (by simp [results, Tryd.results34, go_sem, *]) rfl ?_
    refine ⟨zeroCm, by rw [HO.out]; rfl, fun y hy => ?_, hbZ⟩
    rw [HO.out] at hy; cases hy
  | some sd =>
    obtain ⟨hsd, hsw⟩ := sideOfW_some hS
    have HO2 := Lib.hid (show orderQ L = if howOf t6 = 0 then none else some ⟨3, a, m, 0, ⟨0, 0, sd, p, q⟩, howOf t6, red⟩ by rw [HOQ.out, hS])
    clear hS
    have hcc : (sd = 1 ∧ ((bs t3).toList == [98, 117, 121]) = true) ∨ (sd = -1 ∧ ((bs t3).toList == [98, 117, 121]) = false ∧ ((bs t3).toList == [115, 101, 108, 108]) = true) := by
      rw [bs_cmpL, bs_cmpL, ← hsw]
      rcases hsd with rfl | rfl
      · exact .inl ⟨rfl, by decide⟩
      · exact .inr ⟨rfl, by decide, by decide⟩
    clear hsd hsw
    rcases hcc with ⟨rfl, c1⟩ | ⟨rfl, c1, c2⟩
    · skip
      go_upto_region 17 with (fail)
      refine wp_nameT ?_
      intro w7 hw7
      have HXC7 : Hid (Blk w7 (w.heap.size + 1) 25 #[.int .i64 3, .int .i64 a, .int .i64 m, .int .i64 0, .int .i64 0, .int .i64 0, .int .i64 1, .int .i64 p, .int .i64 q, .int .i64 0, .bool red]) := by rw [hw7]; exact Lib.hid (HXC.out.set_ 6 _)
      have hb7 : Below (w.heap.size + 1) w6 w7 := by rw [hw7]; exact (Below.refl _ _).setCell (by dsimp only; omega) _
      clear hw7 z0 z1 z2 z3 z4 z5 z6 z7 z8 z9 z10 y0 y1 y2 y3 y4 y5 y6 y7 y8 y9 y10 k3
      have hs7 := hb7.size
      go_wp2_with fail
      refine (hows_any w7).mono ?_
      rintro e w8 ⟨rfl, hb8⟩
      have hb8' := hb7.trans (hb8.mono (show w.heap.size + 1 ≤ w7.heap.size by omega))
      have HXC8 := Lib.hid (HXC7.out.below hb8 HXC7.out.lt)
      clear hb7 hb8 HXC7
      go_wp2_with fail
      go_loopw [77] (fun vi wr => ∃ j : Nat, j ≤ 5 ∧ vi = .int .i64 j ∧ Hid (Blk wr (w.heap.size + 1) 25 #[.int .i64 3, .int .i64 a, .int .i64 m, .int .i64 0, .int .i64 0, .int .i64 0, .int .i64 1, .int .i64 p, .int .i64 q, .int .i64 (hvOf t6 j), .bool red]) ∧ Below (w.heap.size + 1) w6 wr) (fun vi _ => 5 - (intOf vi).toNat)
      case atStart => exact ⟨0, by omega, rfl, by rw [hvOf_zero]; exact HXC8, hb8'⟩
      case round =>
        obtain ⟨j, hj, rfl, HX, hbr⟩ := hrel
        have hsr := hbr.size
        have k6 : wr.cell? ⟨b, o + 6, none⟩ = some (.string (bs t6)) := (hbr.cell (p := ⟨b, o + 6, none⟩) (show b < w.heap.size + 1 by omega)).trans (HCC6.out 6 _ rfl)
        obtain ⟨⟨z0, z1, z2, z3, z4, z5, z6, z7, z8, z9, z10⟩, y0, y1, y2, y3, y4, y5, y6, y7, y8, y9, y10⟩ := bl_c11 HX.out
        by_cases hlt : j < 5
        · have hq : ∀ w, (Instr.index 62 (.agg #[.string (bs []), .string (bs wLimit), .string (bs wNow), .string (bs wWhole), .string (bs wPost)]) (.int .i64 (j : Int))).run Tryd.prog w = .ok (.string (bs (howW j))) w := fun w => run_hows j hlt w
          by_cases g1 : howW j = t6
          · have d1 : ((bs (howW (j : Int))).toList == (bs t6).toList) = true := by rw [bs_cmp]; exact decide_eq_true g1
            by_cases g0 : j = 0
            · have HV := Lib.hid (hvOf_no (w := t6) (j := j) (.inl g0))
              have d2 : ((bs (howW (j : Int))).toList == []) = true := by rw [bs_cmpL, g0]; decide
              clear g1 g0
              go_wp2_with fail
              go_roundw
              case rel => exact ⟨j + 1, by omega, by go_num, by rw [HV.out]; exact HX, hbr⟩
              case measure => simp [intOf]; omega
            · have HV := Lib.hid (hvOf_yes (w := t6) (j := j) (by omega) g1)
              have d2 : ((bs (howW (j : Int))).toList == []) = false := by rw [bs_cmpL]; exact decide_eq_false (howW_nil (by omega))
              clear g1 g0
              go_wp2_with fail
              go_roundw
              case rel => exact ⟨j + 1, by omega, by go_num, by rw [HV.out]; exact Lib.hid (HX.out.set_ 9 _), hbr.setCell (by dsimp only; omega) _⟩
              case measure => simp [intOf]; omega
          · have HV := Lib.hid (hvOf_no (w := t6) (j := j) (.inr g1))
            have d1 : ((bs (howW (j : Int))).toList == (bs t6).toList) = false := by rw [bs_cmp]; exact decide_eq_false g1
            clear g1
            go_wp2_with fail
            go_roundw
            case rel => exact ⟨j + 1, by omega, by go_num, by rw [HV.out]; exact HX, hbr⟩
            case measure => simp [intOf]; omega
        · obtain rfl : j = 5 := by omega
          have HX2r := Lib.hid (HX26.out.below hbr (by omega))
          have x2r := HX2r.out.lt
          have xcr := HX.out.lt
          have HBr := Lib.hid (HB6.out.trans (hbr.mono (by omega)))
          obtain ⟨⟨v0, v1, v2, v3, v4, v5, v6, v7, v8, v9, v10⟩, f0, f1, f2, f3, f4, f5, f6, f7, f8, f9, f10⟩ := bl_c11 HX2r.out
          go_wp2_with fail
          go_region
          all_goals
            go_wp2_with fail
            refine exit_nameT ?_
            intro Z hZ
            obtain ⟨XZ, hbZ⟩ := set11 HX2r.out HBr.out hZ
            clear hZ z0 z1 z2 z3 z4 z5 z6 z7 z8 z9 z10 y0 y1 y2 y3 y4 y5 y6 y7 y8 y9 y10 v0 v1 v2 v3 v4 v5 v6 v7 v8 v9 v10 f0 f1 f2 f3 f4 f5 f6 f7 f8 f9 f10
            obtain ⟨⟨z0, z1, z2, z3, z4, z5, z6, z7, z8, z9, z10⟩, -⟩ := bl_c11 XZ
            refine bodyPost_ret (v := .tuple #[.agg #[.int .i64 3, .int .i64 a, .int .i64 m, .int .i64 0, .int .i64 0, .int .i64 0, .int .i64 1, .int .i64 p, .int .i64 q, .int .i64 (hvOf t6 5), .bool red], .bool (decide (0 < hvOf t6 5))]) (by simp [results, Tryd.results34, go_sem, *]) rfl ?_
            have he5 := hvOf_end t6
            have hle5 := howOf_le t6
            refine ⟨⟨3, a, m, 0, ⟨0, 0, 1, p, q⟩, hvOf t6 5, red⟩, ?_, fun y hy => ?_, hbZ⟩
            · rw [HO2.out, he5]
              by_cases h0 : howOf t6 = 0
              · rw [if_pos h0, h0]; rfl
              · rw [if_neg h0, decide_eq_true (show 0 < howOf t6 by omega)]; rfl
            · rw [HO2.out] at hy
              by_cases h0 : howOf t6 = 0
              · rw [if_pos h0] at hy; cases hy
              · rw [if_neg h0] at hy; rw [he5]; injection hy
    · skip
      go_upto_region 17 with (fail)
      refine wp_nameT ?_
      intro w7 hw7
      have HXC7 : Hid (Blk w7 (w.heap.size + 1) 25 #[.int .i64 3, .int .i64 a, .int .i64 m, .int .i64 0, .int .i64 0, .int .i64 0, .int .i64 (-1), .int .i64 p, .int .i64 q, .int .i64 0, .bool red]) := by rw [hw7]; exact Lib.hid (HXC.out.set_ 6 _)
      have hb7 : Below (w.heap.size + 1) w6 w7 := by rw [hw7]; exact (Below.refl _ _).setCell (by dsimp only; omega) _
      clear hw7 z0 z1 z2 z3 z4 z5 z6 z7 z8 z9 z10 y0 y1 y2 y3 y4 y5 y6 y7 y8 y9 y10 k3
      have hs7 := hb7.size
      go_wp2_with fail
      refine (hows_any w7).mono ?_
      rintro e w8 ⟨rfl, hb8⟩
      have hb8' := hb7.trans (hb8.mono (show w.heap.size + 1 ≤ w7.heap.size by omega))
      have HXC8 := Lib.hid (HXC7.out.below hb8 HXC7.out.lt)
      clear hb7 hb8 HXC7
      go_wp2_with fail
      go_loopw [77] (fun vi wr => ∃ j : Nat, j ≤ 5 ∧ vi = .int .i64 j ∧ Hid (Blk wr (w.heap.size + 1) 25 #[.int .i64 3, .int .i64 a, .int .i64 m, .int .i64 0, .int .i64 0, .int .i64 0, .int .i64 (-1), .int .i64 p, .int .i64 q, .int .i64 (hvOf t6 j), .bool red]) ∧ Below (w.heap.size + 1) w6 wr) (fun vi _ => 5 - (intOf vi).toNat)
      case atStart => exact ⟨0, by omega, rfl, by rw [hvOf_zero]; exact HXC8, hb8'⟩
      case round =>
        obtain ⟨j, hj, rfl, HX, hbr⟩ := hrel
        have hsr := hbr.size
        have k6 : wr.cell? ⟨b, o + 6, none⟩ = some (.string (bs t6)) := (hbr.cell (p := ⟨b, o + 6, none⟩) (show b < w.heap.size + 1 by omega)).trans (HCC6.out 6 _ rfl)
        obtain ⟨⟨z0, z1, z2, z3, z4, z5, z6, z7, z8, z9, z10⟩, y0, y1, y2, y3, y4, y5, y6, y7, y8, y9, y10⟩ := bl_c11 HX.out
        by_cases hlt : j < 5
        · have hq : ∀ w, (Instr.index 62 (.agg #[.string (bs []), .string (bs wLimit), .string (bs wNow), .string (bs wWhole), .string (bs wPost)]) (.int .i64 (j : Int))).run Tryd.prog w = .ok (.string (bs (howW j))) w := fun w => run_hows j hlt w
          by_cases g1 : howW j = t6
          · have d1 : ((bs (howW (j : Int))).toList == (bs t6).toList) = true := by rw [bs_cmp]; exact decide_eq_true g1
            by_cases g0 : j = 0
            · have HV := Lib.hid (hvOf_no (w := t6) (j := j) (.inl g0))
              have d2 : ((bs (howW (j : Int))).toList == []) = true := by rw [bs_cmpL, g0]; decide
              clear g1 g0
              go_wp2_with fail
              go_roundw
              case rel => exact ⟨j + 1, by omega, by go_num, by rw [HV.out]; exact HX, hbr⟩
              case measure => simp [intOf]; omega
            · have HV := Lib.hid (hvOf_yes (w := t6) (j := j) (by omega) g1)
              have d2 : ((bs (howW (j : Int))).toList == []) = false := by rw [bs_cmpL]; exact decide_eq_false (howW_nil (by omega))
              clear g1 g0
              go_wp2_with fail
              go_roundw
              case rel => exact ⟨j + 1, by omega, by go_num, by rw [HV.out]; exact Lib.hid (HX.out.set_ 9 _), hbr.setCell (by dsimp only; omega) _⟩
              case measure => simp [intOf]; omega
          · have HV := Lib.hid (hvOf_no (w := t6) (j := j) (.inr g1))
            have d1 : ((bs (howW (j : Int))).toList == (bs t6).toList) = false := by rw [bs_cmp]; exact decide_eq_false g1
            clear g1
            go_wp2_with fail
            go_roundw
            case rel => exact ⟨j + 1, by omega, by go_num, by rw [HV.out]; exact HX, hbr⟩
            case measure => simp [intOf]; omega
        · obtain rfl : j = 5 := by omega
          have HX2r := Lib.hid (HX26.out.below hbr (by omega))
          have x2r := HX2r.out.lt
          have xcr := HX.out.lt
          have HBr := Lib.hid (HB6.out.trans (hbr.mono (by omega)))
          obtain ⟨⟨v0, v1, v2, v3, v4, v5, v6, v7, v8, v9, v10⟩, f0, f1, f2, f3, f4, f5, f6, f7, f8, f9, f10⟩ := bl_c11 HX2r.out
          go_wp2_with fail
          go_region
          all_goals
            go_wp2_with fail
            refine exit_nameT ?_
            intro Z hZ
            obtain ⟨XZ, hbZ⟩ := set11 HX2r.out HBr.out hZ
            clear hZ z0 z1 z2 z3 z4 z5 z6 z7 z8 z9 z10 y0 y1 y2 y3 y4 y5 y6 y7 y8 y9 y10 v0 v1 v2 v3 v4 v5 v6 v7 v8 v9 v10 f0 f1 f2 f3 f4 f5 f6 f7 f8 f9 f10
            obtain ⟨⟨z0, z1, z2, z3, z4, z5, z6, z7, z8, z9, z10⟩, -⟩ := bl_c11 XZ
            refine bodyPost_ret (v := .tuple #[.agg #[.int .i64 3, .int .i64 a, .int .i64 m, .int .i64 0, .int .i64 0, .int .i64 0, .int .i64 (-1), .int .i64 p, .int .i64 q, .int .i64 (hvOf t6 5), .bool red], .bool (decide (0 < hvOf t6 5))]) (by simp [results, Tryd.results34, go_sem, *]) rfl ?_
            have he5 := hvOf_end t6
            have hle5 := howOf_le t6
            refine ⟨⟨3, a, m, 0, ⟨0, 0, (-1), p, q⟩, hvOf t6 5, red⟩, ?_, fun y hy => ?_, hbZ⟩
            · rw [HO2.out, he5]
              by_cases h0 : howOf t6 = 0
              · rw [if_pos h0, h0]; rfl
              · rw [if_neg h0, decide_eq_true (show 0 < howOf t6 by omega)]; rfl
            · rw [HO2.out] at hy
              by_cases h0 : howOf t6 = 0
              · rw [if_pos h0] at hy; cases hy
              · rw [if_neg h0] at hy; rw [he5]; injection hy
end Go.Proofs.YtockodmbhnlheaaDoor
