/-
  THE WALKS over package risk: markets, marks, the bankrupt price; the closed fact 'weighed'.
-/
import Derived.Test.YtockodmbhnlheaaBookCheck
import Derived.Test.YtockodmbhnlheaaMargins
namespace Go.Proofs.Ytockodmbhnlheaa
open Go.RowKit

theorem Blk.c4 {w : World} {g : Nat} {t : TypeId} {a b c d : Value} (h : Blk w g t #[a, b, c, d]) :
    (w.cell? ⟨g, 0, none⟩ = some a ∧ w.cell? ⟨g, 1, none⟩ = some b ∧ w.cell? ⟨g, 2, none⟩ = some c ∧ w.cell? ⟨g, 3, none⟩ = some d) ∧ w.frozen? ⟨g, 0, none⟩ = false ∧ w.frozen? ⟨g, 1, none⟩ = false ∧ w.frozen? ⟨g, 2, none⟩ = false ∧ w.frozen? ⟨g, 3, none⟩ = false :=
  ⟨⟨h.cell 0, h.cell 1, h.cell 2, h.cell 3⟩, h.frozen 0, h.frozen 1, h.frozen 2, h.frozen 3⟩

set_option maxHeartbeats 1000000 in
theorem marketErr_any (m : Mk) (A A' : Option Addr) (c c' : Nat) (B : Nat) (w : World) (h : Rd w B 5 A m.book.bids.length c (odCells m.book.bids)) (h' : Rd w B 5 A' m.book.asks.length c' (odCells m.book.asks)) (hB : B ≤ w.heap.size) (hl : m.book.bids.length ≤ 4000000000000) (hl' : m.book.asks.length ≤ 4000000000000) :
    Calls Try.prog 101 #[.agg #[.slice A m.book.bids.length c, .slice A' m.book.asks.length c', .int .i64 m.index, .int .i64 m.last]] w fun e w' => e = .returned (.int .i64 (marketErr m)) ∧ Below w.heap.size w w' := by
  have HB := fun W => bookCheck_any m.book A A' c c' B W
  have HC := Lib.hid HB
  clear HB
  by_cases he : bookErr m.book = 0
  · have HE := Lib.hid (show marketErr m = if m.index < 1 ∨ 10000 < m.index ∨ m.last < 0 ∨ 10000 < m.last then 3 else 0 by unfold marketErr; rw [if_neg (by omega)])
    have HZ := Lib.hid he
    clear he
    have hs : (m.index < 1 ∨ 1 ≤ m.index ∧ 10000 < m.index ∨ 1 ≤ m.index ∧ m.index ≤ 10000 ∧ m.last < 0 ∨ 1 ≤ m.index ∧ m.index ≤ 10000 ∧ 0 ≤ m.last ∧ 10000 < m.last) ∨ (1 ≤ m.index ∧ m.index ≤ 10000 ∧ 0 ≤ m.last ∧ m.last ≤ 10000) := by omega
    go_enter Try.func101, Try.ntmps101
    go_wp2_with fail
    refine (HC.out _ (h.alloc hB _) (h'.alloc hB _) (by simp; omega) hl hl').mono ?_
    rw [HZ.out]
    rintro e w1 ⟨rfl, hb1⟩
    obtain ⟨⟨b0, b1, b2, b3⟩, _⟩ := ((Blk.new w 64 #[.slice A m.book.bids.length c, .slice A' m.book.asks.length c', .int .i64 m.index, .int .i64 m.last]).below hb1 (by simp)).c4
    have h9 : Below w.heap.size w w1 := ((Below.refl _ _).alloc (Nat.le_refl _) _).trans (hb1.mono (by simp))
    clear hb1
    rcases hs with (g1 | ⟨g1, g2⟩ | ⟨g1, g2, g3⟩ | ⟨g1, g2, g3, g4⟩) | ⟨g1, g2, g3, g4⟩
    rotate_right
    · have HE2 := Lib.hid (HE.out.trans (if_neg (by omega)))
      go_wp2_with fail
      go_ret
      exact ⟨ret_ii HE2.out.symm, h9⟩
    all_goals
      have HE2 := Lib.hid (HE.out.trans (if_pos (by omega)))
      go_wp2_with fail
      go_ret
      exact ⟨ret_ii HE2.out.symm, h9⟩
  · have HE := Lib.hid (show marketErr m = bookErr m.book by unfold marketErr; rw [if_pos he])
    have he' : (bookErr m.book != 0) = true := by simpa using he
    clear he
    go_enter Try.func101, Try.ntmps101
    go_wp2_with fail
    refine (HC.out _ (h.alloc hB _) (h'.alloc hB _) (by simp; omega) hl hl').mono ?_
    rintro e w1 ⟨rfl, hb1⟩
    go_wp2_with fail
    go_ret
    exact ⟨ret_ii HE.out.symm, ((Below.refl _ _).alloc (Nat.le_refl _) _).trans (hb1.mono (by simp))⟩

theorem market_ok {m : Mk} (h : marketErr m = 0) : BookOk m.book ∧ (1 ≤ m.index ∧ m.index ≤ 10000) ∧ (0 ≤ m.last ∧ m.last ≤ 10000) := by
  unfold marketErr at h
  split at h
  · rename_i h1; exact absurd h h1
  · rename_i h1
    split at h
    · omega
    · exact ⟨bookErr_ok.1 (by omega), by omega, by omega⟩
theorem zero_or (n : Int) : n = 0 ∨ (n == 0) = false := by by_cases h : n = 0 <;> simp [h]
theorem mid_nil {m : Mk} (h : m.book.bids.length = 0 ∨ m.book.asks.length = 0) : midPrice m = m.index := by
  obtain ⟨⟨l, k⟩, i, la⟩ := m
  cases l with
  | nil => rfl
  | cons x l =>
    cases k with
    | nil => rfl
    | cons y k => simp at h
theorem mid_at {m : Mk} {x y : Od} (hx : m.book.bids[0]? = some x) (hy : m.book.asks[0]? = some y) : midPrice m = (x.price + y.price) / 2 := by
  obtain ⟨⟨l, k⟩, i, la⟩ := m
  cases l with
  | nil => simp at hx
  | cons x' l =>
    cases k with
    | nil => simp at hy
    | cons y' k => simp at hx hy; subst hx hy; rfl


set_option maxRecDepth 100000 in
set_option maxHeartbeats 2000000 in
theorem mark_any (m : Mk) (A A' : Option Addr) (c c' : Nat) (B : Nat) (w : World) (h : Rd w B 5 A m.book.bids.length c (odCells m.book.bids)) (h' : Rd w B 5 A' m.book.asks.length c' (odCells m.book.asks)) (hB : B ≤ w.heap.size) (hl : m.book.bids.length ≤ 4000000000000) (hl' : m.book.asks.length ≤ 4000000000000) :
    Calls Try.prog 59 #[.agg #[.slice A m.book.bids.length c, .slice A' m.book.asks.length c', .int .i64 m.index, .int .i64 m.last]] w fun e w' => e = .returned (.tuple #[.int .i64 (markOf m).1, .int .i64 (markOf m).2]) ∧ Below w.heap.size w w' := by
  by_cases he : marketErr m = 0
  · obtain ⟨_, ⟨i1, i2⟩, ⟨i3, i4⟩⟩ := market_ok he
    have hbo := (market_ok he).1
    have HZ := Lib.hid he
    clear he
    go_enter Try.func59, Try.ntmps59
    go_wp2_with fail
    refine (marketErr_any m _ _ _ _ _ _ (h.alloc hB _) (h'.alloc hB _) (by simp; omega) hl hl').mono ?_
    rw [HZ.out]
    rintro e w1 ⟨rfl, hb1⟩
    have B1 := (Blk.new w 64 #[.slice A m.book.bids.length c, .slice A' m.book.asks.length c', .int .i64 m.index, .int .i64 m.last]).below hb1 (by simp)
    have h9 : Below w.heap.size w w1 := ((Below.refl _ _).alloc (Nat.le_refl _) _).trans (hb1.mono (by simp))
    have hw1 : w.heap.size < w1.heap.size := by have := hb1.size; simp at this; omega
    clear hb1
    obtain ⟨⟨b0, b1, b2, b3⟩, _⟩ := B1.c4
    go_wp2_with fail
    go_quiet (fail)
    obtain ⟨W, hW⟩ : ∃ W, W = w1.drewN nq := ⟨_, rfl⟩
    rw [← hW]
    have h9 : Below w.heap.size w W := by rw [hW]; exact below_drewN h9 _
    have B2 : Blk W w.heap.size 64 #[.slice A m.book.bids.length c, .slice A' m.book.asks.length c', .int .i64 m.index, .int .i64 m.last] := by rw [hW]; exact B1.drewN _
    clear hW B1 b0 b1 b2 b3
    obtain ⟨⟨b0, b1, b2, b3⟩, _⟩ := B2.c4
    have ra := h.below (h9.mono hB)
    have rb := h'.below (h9.mono hB)
    have q1 : IntKind.i64.wrap (m.index - m.index / 20) = m.index - m.index / 20 := IntWalk.i64_in _ (by omega)
    have q2 : IntKind.i64.wrap (m.index + m.index / 20) = m.index + m.index / 20 := IntWalk.i64_in _ (by omega)
    by_cases hn : m.book.bids.length = 0
    · have HMID := Lib.hid (mid_nil (.inl hn))
      have d2 : ¬ 0 < m.book.bids.length := by omega
      have d3 : decide (0 < m.book.bids.length) = false := decide_eq_false d2
      clear hn
      rcases zero_or m.last with hz | hz
      · have HP := Lib.hid (show markOf m = (midOf (m.index - m.index / 20) (midOf m.index (m.index) m.index) (m.index + m.index / 20), 0) by
          unfold markOf
          rw [if_neg (by rw [HZ.out]; simp)]
          show (midI _ (midI _ (midPrice m) (lastPrice m)) _, 0) = _
          rw [HMID.out, show lastPrice m = m.index by unfold lastPrice; rw [if_pos hz]]; rfl)
        have hz1 : (m.last == 0) = true := by simpa using hz
        clear hz
        go_wp2_with fail
        go_quiet (((first | (go_at_call 33; exact quiet_left (middle_any _ _ _ _)))))
        go_wp2_with fail
        go_ret2
        exact ⟨pair_ii (by rw [HP.out]), below_drewN h9 _⟩
      · have HP := Lib.hid (show markOf m = (midOf (m.index - m.index / 20) (midOf m.index (m.index) m.last) (m.index + m.index / 20), 0) by
          unfold markOf
          rw [if_neg (by rw [HZ.out]; simp)]
          show (midI _ (midI _ (midPrice m) (lastPrice m)) _, 0) = _
          rw [HMID.out, show lastPrice m = m.last by unfold lastPrice; rw [if_neg (by simpa using hz)]]; rfl)
        go_wp2_with fail
        go_quiet (((first | (go_at_call 33; exact quiet_left (middle_any _ _ _ _)))))
        go_wp2_with fail
        go_ret2
        exact ⟨pair_ii (by rw [HP.out]), below_drewN h9 _⟩
    · have d1 : 0 < m.book.bids.length := by omega
      have d2 : (0 : Int) < (m.book.bids.length : Int) := by omega
      have d3 : decide (0 < m.book.bids.length) = true := decide_eq_true d1
      by_cases hn' : m.book.asks.length = 0
      · have HMID := Lib.hid (mid_nil (.inr hn'))
        have d4 : ¬ 0 < m.book.asks.length := by omega
        have d5 : decide (0 < m.book.asks.length) = false := decide_eq_false d4
        clear hn hn'
        rcases zero_or m.last with hz | hz
        · have HP := Lib.hid (show markOf m = (midOf (m.index - m.index / 20) (midOf m.index (m.index) m.index) (m.index + m.index / 20), 0) by
            unfold markOf
            rw [if_neg (by rw [HZ.out]; simp)]
            show (midI _ (midI _ (midPrice m) (lastPrice m)) _, 0) = _
            rw [HMID.out, show lastPrice m = m.index by unfold lastPrice; rw [if_pos hz]]; rfl)
          have hz1 : (m.last == 0) = true := by simpa using hz
          clear hz
          go_wp2_with fail
          go_quiet (((first | (go_at_call 33; exact quiet_left (middle_any _ _ _ _)))))
          go_wp2_with fail
          go_ret2
          exact ⟨pair_ii (by rw [HP.out]), below_drewN h9 _⟩
        · have HP := Lib.hid (show markOf m = (midOf (m.index - m.index / 20) (midOf m.index (m.index) m.last) (m.index + m.index / 20), 0) by
            unfold markOf
            rw [if_neg (by rw [HZ.out]; simp)]
            show (midI _ (midI _ (midPrice m) (lastPrice m)) _, 0) = _
            rw [HMID.out, show lastPrice m = m.last by unfold lastPrice; rw [if_neg (by simpa using hz)]]; rfl)
          go_wp2_with fail
          go_quiet (((first | (go_at_call 33; exact quiet_left (middle_any _ _ _ _)))))
          go_wp2_with fail
          go_ret2
          exact ⟨pair_ii (by rw [HP.out]), below_drewN h9 _⟩
      · have d4 : 0 < m.book.asks.length := by omega
        have d5 : (0 : Int) < (m.book.asks.length : Int) := by omega
        have d6 : decide (0 < m.book.asks.length) = true := decide_eq_true d4
        obtain ⟨g1, o1, x, rfl, hg1, hx, _, _, _, k3, _⟩ := od_at ra (i := 0) (by omega)
        obtain ⟨g2, o2, y, rfl, hg2, hy, _, _, _, m3, _⟩ := od_at rb (i := 0) (by omega)
        have HMID := Lib.hid (mid_at hx hy)
        have px := (ordErr_ok.1 (hbo.bids.ok x (List.mem_of_getElem? hx))).2.2.2.1
        have py := (ordErr_ok.1 (hbo.asks.ok y (List.mem_of_getElem? hy))).2.2.2.1
        obtain ⟨px1, px2⟩ := px
        obtain ⟨py1, py2⟩ := py
        rw [Nat.zero_mul, Nat.add_zero] at k3 m3
        have q3 : IntKind.i64.wrap (x.price + y.price) = x.price + y.price := IntWalk.i64_in _ (by omega)
        have q4 : (x.price + y.price).tdiv 2 = (x.price + y.price) / 2 := Int.tdiv_eq_ediv_of_nonneg (by omega)
        have q5 : IntKind.i64.wrap ((x.price + y.price) / 2) = (x.price + y.price) / 2 := IntWalk.i64_in _ (by omega)
        clear hx hy hn hn'
        go_wp2_with fail
        go_quiet (fail)
        obtain ⟨X, hX⟩ : ∃ X, X = W.drewN nq := ⟨_, rfl⟩
        rw [← hX]
        have h9 : Below w.heap.size w X := by rw [hX]; exact below_drewN h9 _
        have B3 : Blk X w.heap.size 64 #[.slice (some ⟨g1, o1, none⟩) m.book.bids.length c, .slice (some ⟨g2, o2, none⟩) m.book.asks.length c', .int .i64 m.index, .int .i64 m.last] := by rw [hX]; exact B2.drewN _
        clear hX B2 b0 b1 b2 b3 k3 m3
        obtain ⟨⟨b0, b1, b2, b3⟩, _⟩ := B3.c4
        rcases zero_or m.last with hz | hz
        · have HP := Lib.hid (show markOf m = (midOf (m.index - m.index / 20) (midOf m.index ((x.price + y.price) / 2) m.index) (m.index + m.index / 20), 0) by
            unfold markOf
            rw [if_neg (by rw [HZ.out]; simp)]
            show (midI _ (midI _ (midPrice m) (lastPrice m)) _, 0) = _
            rw [HMID.out, show lastPrice m = m.index by unfold lastPrice; rw [if_pos hz]]; rfl)
          have hz1 : (m.last == 0) = true := by simpa using hz
          clear hz
          go_wp2_with fail
          go_quiet (((first | (go_at_call 33; exact quiet_left (middle_any _ _ _ _)))))
          go_wp2_with fail
          go_ret2
          exact ⟨pair_ii (by rw [HP.out]), below_drewN h9 _⟩
        · have HP := Lib.hid (show markOf m = (midOf (m.index - m.index / 20) (midOf m.index ((x.price + y.price) / 2) m.last) (m.index + m.index / 20), 0) by
            unfold markOf
            rw [if_neg (by rw [HZ.out]; simp)]
            show (midI _ (midI _ (midPrice m) (lastPrice m)) _, 0) = _
            rw [HMID.out, show lastPrice m = m.last by unfold lastPrice; rw [if_neg (by simpa using hz)]]; rfl)
          go_wp2_with fail
          go_quiet (((first | (go_at_call 33; exact quiet_left (middle_any _ _ _ _)))))
          go_wp2_with fail
          go_ret2
          exact ⟨pair_ii (by rw [HP.out]), below_drewN h9 _⟩
  · have HE := Lib.hid (show markOf m = (0, marketErr m) by unfold markOf; rw [if_pos he])
    have he' : (marketErr m != 0) = true := by simpa using he
    clear he
    go_enter Try.func59, Try.ntmps59
    go_wp2_with fail
    refine (marketErr_any m _ _ _ _ _ _ (h.alloc hB _) (h'.alloc hB _) (by simp; omega) hl hl').mono ?_
    rintro e w1 ⟨rfl, hb1⟩
    go_wp2_with fail
    go_ret2
    exact ⟨pair_ii (by rw [HE.out]), ((Below.refl _ _).alloc (Nat.le_refl _) _).trans (hb1.mono (by simp))⟩

end Go.Proofs.Ytockodmbhnlheaa
