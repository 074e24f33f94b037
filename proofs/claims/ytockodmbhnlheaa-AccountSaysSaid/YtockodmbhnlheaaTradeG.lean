/-
  THE WALK of account.Trade: a good trade.
-/
import Derived.Test.YtockodmbhnlheaaTrade
namespace Go.Proofs.Ytockodmbhnlheaa
open Go.RowKit

/-- what the tail of the walk knows. -/
def tailOf (a : Ac) (k : Nat) (z q s : Int) : Ac × Int :=
  if z + q < -1000 ∨ 1000 < z + q then (zeroAc, 7) else ({ a with bal := s, pos := a.pos.set k (z + q) }, 0)

set_option maxRecDepth 100000 in
set_option maxHeartbeats 4000000 in
theorem trade_good (a : Ac) (A : Option Addr) (c : Nat) (k : Nat) (z q p f : Int) (B : Nat) (w : World) (h : Rd w B 1 A a.pos.length c (ints a.pos)) (hB : B ≤ w.heap.size) (h0 : accCheck a.id a.bal a.pos a.pos.length = 0) (hk : a.pos[k]? = some z) (h2 : worthOf q p = (q * p, 0)) (hq : -1000 ≤ q ∧ q ≤ 1000) (hw : -10000000 ≤ q * p ∧ q * p ≤ 10000000) (g s : Int) (hg : -clampFee f = g)
    (hf : f < -1000000000001 ∧ g = 1000000000001 ∨ (-1000000000001 ≤ f ∧ f ≤ 1000000000001) ∧ g = -f ∨ 1000000000001 < f ∧ g = -1000000000001) (h3 : addAll [a.bal, -(q * p), g] = (s, 0)) :
    Calls Try.prog 41 #[.agg #[.int .i64 a.id, .int .i64 a.bal, .slice A a.pos.length c], .int .i64 k, .int .i64 q, .int .i64 p, .int .i64 f] w (RetTrade w (tradeOf a k q p f)) := by
  have hkl : k < a.pos.length := (List.getElem?_eq_some_iff.1 hk).1
  have hkz : a.pos.getD k 0 = z := by simp [List.getD, hk]
  have HE := Lib.hid (show tradeOf a k q p f = tailOf a k z q s by rw [trade_sum h0 (by omega) h2 hg h3, if_neg (by simp), Int.toNat_natCast, hkz]; rfl)
  have HC := Lib.hid h0
  have HW := Lib.hid h2
  have HS := Lib.hid h3
  have hbal := (accCheck_ok h0).2.2.2.1
  have hz := posOk_get (accCheck_ok h0).2.2.2.2 hk
  have HL := Lib.hid (accCheck_ok h0).2.1
  have HK := Lib.hid hk
  obtain ⟨hz1, hz2⟩ := hz
  obtain ⟨hq1, hq2⟩ := hq
  clear h0 h2 h3 hg hk hkz
  obtain ⟨hw1, hw2⟩ := hw
  obtain ⟨C3, hC3⟩ : ∃ C, C = Obj.cells #[.int .i64 a.bal, .int .i64 (-(q * p)), .int .i64 g] 3 := ⟨_, rfl⟩
  have HC3 := Lib.hid hC3
  clear hC3
  rcases hf with ⟨hf, rfl⟩ | ⟨⟨hf, hf'⟩, rfl⟩ | ⟨hf, rfl⟩
  all_goals
    go_enter Try.func41, Try.ntmps41
    go_wp2_with fail
    have hrd := (h.alloc hB (.cells #[.int .i64 a.id, .int .i64 a.bal, .slice A a.pos.length c] 37)).alloc (by simp; omega) (.cells #[.int .i64 0, .int .i64 0, .slice none 0 0] 37)
    refine (accCheck_any _ _ _ _ _ _ _ _ _ hrd (by simp; omega)).mono ?_
    rintro e w1 ⟨rfl, hb1⟩
    rw [HC.out]
    have B0 := (Blk.new (w.alloc (.cells #[.int .i64 a.id, .int .i64 a.bal, .slice A a.pos.length c] 37)) 37 #[.int .i64 0, .int .i64 0, .slice none 0 0]).below hb1 (by simp)
    have B1 := ((Blk.new w 37 #[.int .i64 a.id, .int .i64 a.bal, .slice A a.pos.length c]).alloc (.cells #[.int .i64 0, .int .i64 0, .slice none 0 0] 37)).below hb1 (by simp; omega)
    have hr1 := hrd.below (hb1.mono (by simp; omega))
    obtain ⟨⟨c0, c1, c2⟩, d0, d1, d2⟩ := B0.c3
    obtain ⟨⟨b0, b1, b2⟩, e0, e1, e2⟩ := B1.c3
    simp only [World.size_alloc] at c0 c1 c2 d0 d1 d2 B0
    have hz1 : w.heap.size + 1 < w1.heap.size := by have := hb1.size; simp at this; omega
    have h9 : Below w.heap.size w w1 := (((Below.refl _ _).alloc (Nat.le_refl _) _).alloc (by simp) _).trans (hb1.mono (by simp; omega))
    obtain ⟨b, o, hA, hb, hc⟩ := hr1.one (ints_get HK.out)
    subst hA
    clear hb1 hrd
    go_wp2_with fail
    refine (worth_any _ _ _).mono ?_
    rintro e w' ⟨rfl, rfl⟩
    rw [HW.out]
    go_wp2_with fail
    rw [← HC3.out]
    obtain ⟨Y, hY⟩ : ∃ Y, Y = w1.alloc C3 := ⟨_, rfl⟩
    rw [← hY]
    refine (add_any _ _ _ [a.bal, -(q * p), _] _ _ (by rw [hY, HC3.out]; exact Rd.new_at w1 _ _ _ 3 rfl rfl (by decide))).mono ?_
    rintro e w' ⟨rfl, rfl⟩
    rw [HS.out]
    have h9 : Below w.heap.size w Y := by rw [hY]; exact h9.alloc (by omega) _
    have B0 := B0.alloc C3
    have B1 := B1.alloc C3
    have hr1 := hr1.alloc (by omega) C3
    rw [← hY] at B0 B1 hr1
    have hzY : w.heap.size + 1 < Y.heap.size := by rw [hY]; simp; omega
    clear b0 b1 b2 c0 c1 c2 d0 d1 d2 e0 e1 e2 hc hY
    obtain ⟨⟨c0, c1, c2⟩, d0, d1, d2⟩ := B0.c3
    obtain ⟨⟨b0, b1, b2⟩, e0, e1, e2⟩ := B1.c3
    obtain ⟨b', o', hA, hb, hc⟩ := hr1.one (ints_get HK.out)
    cases hA
    by_cases hx : z + q < -1000 ∨ 1000 < z + q
    · have HE2 := Lib.hid (show tradeOf a k q p f = (zeroAc, 7) by rw [HE.out]; unfold tailOf; rw [if_pos hx])
      rcases hx with hx | hx
      all_goals
        go_wp2_with fail
        refine bodyPost_ret (v := .tuple #[.agg #[.int .i64 0, .int .i64 0, .slice none 0 0], .int .i64 7]) (by simp [results, Try.results41, go_sem, *]) rfl ?_
        rw [HE2.out]
        refine retTrade_err ?_
        repeat (first | exact h9 | refine Below.setCell ?_ (by simp) _)
    · have HE2 := Lib.hid (show tradeOf a k q p f = ({ a with bal := s, pos := a.pos.set k (z + q) }, 0) by rw [HE.out]; unfold tailOf; rw [if_neg hx])
      have hx1 : -1000 ≤ z + q := by omega
      have hx2 : z + q ≤ 1000 := by omega
      clear hx
      have hlen : a.pos.length * 8 ≤ 140737488355328 := by have := HL.out.2; omega
      go_wp2_with fail
      refine (accCopy_any _ _ _ _ _ _ _ _ hr1 (by omega) hlen).mono ?_
      rintro e w2 ⟨A3, c3, rfl, hown3, hb3⟩
      have B0 := B0.below hb3 hzY
      have B1 := B1.below hb3 (by omega)
      have h9 := h9.trans (hb3.mono (by omega))
      have hzW : w.heap.size + 1 < w2.heap.size := by have := hb3.size; omega
      have hYs : w.heap.size + 1 < Y.heap.size := hzY
      clear b0 b1 b2 c0 c1 c2 d0 d1 d2 e0 e1 e2 hc hb3
      obtain ⟨⟨c0, c1, c2⟩, d0, d1, d2⟩ := B0.c3
      obtain ⟨⟨b0, b1, b2⟩, e0, e1, e2⟩ := B1.c3
      go_wp2_with fail
      obtain ⟨X, hX⟩ : ∃ X, X = ((w2.setCell ⟨w.heap.size, 0, none⟩ (.int .i64 a.id)).setCell ⟨w.heap.size, 1, none⟩ (.int .i64 a.bal)).setCell ⟨w.heap.size, 2, none⟩ (.slice A3 a.pos.length c3) := ⟨_, rfl⟩
      rw [← hX]
      have BX : Blk X w.heap.size 37 #[.int .i64 a.id, .int .i64 a.bal, .slice A3 a.pos.length c3] := by
        rw [hX]; exact ((B1.set_ 0 _).set_ 1 _).set_ 2 _
      have BZ : Blk X (w.heap.size + 1) 37 #[.int .i64 0, .int .i64 0, .slice none 0 0] := by
        rw [hX]; exact ((B0.far (by simp) _).far (by simp) _).far (by simp) _
      have h9 : Below w.heap.size w X := by
        rw [hX]; repeat (first | exact h9 | refine Below.setCell ?_ (by simp) _)
      have hown : X.ownsRow Y.heap.size 3 1 (.slice A3 a.pos.length c3) a.pos.length (ints a.pos) := by
        rw [hX]; exact ownsRow_setCell_below (ownsRow_setCell_below (ownsRow_setCell_below hown3 (by show w.heap.size < _; omega) _) (by show w.heap.size < _; omega) _) (by show w.heap.size < _; omega) _
      obtain ⟨g3, hA3, hg3⟩ : ∃ g3, A3 = some ⟨g3, 0, none⟩ ∧ Y.heap.size ≤ g3 := by
        obtain ⟨_, ⟨_, hn⟩ | ⟨g, cap, cur, hv, h1, _⟩⟩ := hown
        · omega
        · injection hv with hA; exact ⟨g, hA, h1⟩
      subst hA3
      have hk3 := hown.cellAt k (by omega)
      rw [ints_get HK.out] at hk3
      have hf3 := hown.frozenAt k
      have HOWN := Lib.hid hown
      have hg0 : g3 ≠ w.heap.size := by omega
      have hg1 : g3 ≠ w.heap.size + 1 := by omega
      clear hX hown hown3 B0 B1 b0 b1 b2 c0 c1 c2 d0 d1 d2 e0 e1 e2
      obtain ⟨⟨c0, c1, c2⟩, d0, d1, d2⟩ := BZ.c3
      obtain ⟨⟨b0, b1, b2⟩, e0, e1, e2⟩ := BX.c3
      go_wp2_with fail
      go_simp
      apply_assumption
      have hg0' : w.heap.size ≠ g3 := by omega
      have hg1' : w.heap.size + 1 ≠ g3 := by omega
      go_wp2_with fail
      refine bodyPost_ret (v := .tuple #[.agg #[.int .i64 a.id, .int .i64 s, .slice (some ⟨g3, 0, none⟩) a.pos.length c3], .int .i64 0]) (by simp [results, Try.results41, go_sem, *]) rfl ?_
      rw [HE2.out]
      have hl : (a.pos.set k (z + q)).length = a.pos.length := List.length_set
      refine ⟨some ⟨g3, 0, none⟩, c3, ?_, ?_, ?_⟩
      · show _ = Ending.returned (.tuple #[.agg #[_, _, .slice _ (a.pos.set k (z + q)).length _], _])
        rw [hl]
      · show World.ownsRow _ _ _ _ (.slice _ (a.pos.set k (z + q)).length _) (a.pos.set k (z + q)).length (ints (a.pos.set k (z + q)))
        rw [hl, show ints (a.pos.set k (z + q)) = (ints a.pos).set k (.int .i64 (z + q)) by simp [ints, List.map_set]]
        refine own_mono (base := Y.heap.size) ?_ (by omega)
        exact ownsRow_setCell_below (ownsRow_setCell_below (ownsRow_setCell_below (World.ownsRow.stored (ownsRow_setCell_below HOWN.out (by show w.heap.size < _; omega) _) k _).1 (by show w.heap.size + 1 < _; omega) _) (by show w.heap.size + 1 < _; omega) _) (by show w.heap.size + 1 < _; omega) _
      · exact (((((h9.setCell (p := ⟨w.heap.size, 1, none⟩) (Nat.le_refl _) _).setCell (p := ⟨g3, k, none⟩) (by show w.heap.size ≤ g3; omega) _).setCell (p := ⟨w.heap.size + 1, 0, none⟩) (by show w.heap.size ≤ w.heap.size + 1; omega) _).setCell (p := ⟨w.heap.size + 1, 1, none⟩) (by show w.heap.size ≤ w.heap.size + 1; omega) _).setCell (p := ⟨w.heap.size + 1, 2, none⟩) (by show w.heap.size ≤ w.heap.size + 1; omega) _)

theorem trade_any (a : Ac) (A : Option Addr) (c : Nat) (m q p f : Int) (B : Nat) (w : World) (h : Rd w B 1 A a.pos.length c (ints a.pos)) (hB : B ≤ w.heap.size) :
    Calls Try.prog 41 #[.agg #[.int .i64 a.id, .int .i64 a.bal, .slice A a.pos.length c], .int .i64 m, .int .i64 q, .int .i64 p, .int .i64 f] w (RetTrade w (tradeOf a m q p f)) := by
  by_cases h0 : accCheck a.id a.bal a.pos a.pos.length = 0
  · by_cases h1 : 0 ≤ m ∧ m < (a.pos.length : Int)
    · rcases worth_cases q p with h2 | ⟨h2, hq, _, hw⟩
      · exact trade_bad3 a A c m q p f B w h hB h0 h1 h2
      · obtain ⟨s, es, h3⟩ : ∃ s es, addAll [a.bal, -(q * p), -clampFee f] = (s, es) := ⟨_, _, rfl⟩
        by_cases h5 : es = 0
        · subst h5
          obtain ⟨k, rfl⟩ : ∃ k : Nat, m = k := ⟨m.toNat, by omega⟩
          have hk : a.pos[k]? = some a.pos[k] := List.getElem?_eq_getElem (by omega)
          exact trade_good a A c k _ q p f B w h hB h0 hk h2 hq hw _ s rfl (clamp_cases f) h3
        · exact trade_bad4 a A c m q p f B w h hB h0 h1 h2 hw _ s es rfl (clamp_cases f) h3 h5
    · exact trade_bad2 a A c m q p f B w h hB h0 (by omega)
  · exact trade_bad1 a A c m q p f B w h hB h0

end Go.Proofs.Ytockodmbhnlheaa
