/-
  THE WALK of book.Check.
-/
import Derived.Test.YtockodmbhnlheaaSide
namespace Go.Proofs.Ytockodmbhnlheaa
open Go.RowKit

theorem Seen.made_at (w : World) (g : Nat) (hg : g = w.heap.size) : Seen (w.alloc (.map #[] 0)) g 0 [] := by subst hg; exact Seen.made w
theorem below_of_grown1 {w w1 : World} {m B : Nat} (h : w.grownBy w1 (some m)) (hB : B ≤ w.heap.size) (hm : B ≤ m) : Below B w w1 :=
  (Below.refl B w).grown h hB fun k hk => by injection hk with hk; omega
theorem crossed_nil {b : Bk} (h : b.bids.length = 0 ∨ b.asks.length = 0) : crossedB b = false := by
  obtain ⟨l, m⟩ := b
  cases l with
  | nil => rfl
  | cons x l =>
    cases m with
    | nil => rfl
    | cons y m => simp at h
theorem crossed_at {b : Bk} {x y : Od} (hx : b.bids[0]? = some x) (hy : b.asks[0]? = some y) : crossedB b = decide (y.price ≤ x.price) := by
  obtain ⟨l, m⟩ := b
  cases l with
  | nil => simp at hx
  | cons x' l =>
    cases m with
    | nil => simp at hy
    | cons y' m => simp at hx hy; subst hx hy; rfl

set_option maxHeartbeats 2000000 in
theorem bookCheck_any (b : Bk) (A A' : Option Addr) (c c' : Nat) (B : Nat) (w : World) (h : Rd w B 5 A b.bids.length c (odCells b.bids)) (h' : Rd w B 5 A' b.asks.length c' (odCells b.asks)) (hB : B ≤ w.heap.size) (hl : b.bids.length ≤ 4000000000000) (hl' : b.asks.length ≤ 4000000000000) :
    Calls Try.prog 62 #[.agg #[.slice A b.bids.length c, .slice A' b.asks.length c']] w fun e w' => e = .returned (.int .i64 (bookErr b)) ∧ Below w.heap.size w w' := by
  have hmk := make_set
  by_cases h40 : 40 < b.bids.length + b.asks.length
  · have HE := Lib.hid (show bookErr b = 2 by unfold bookErr; rw [if_pos h40])
    have h41 : (40 : Int) < (b.bids.length : Int) + (b.asks.length : Int) := by omega
    clear h40
    go_enter Try.func62, Try.ntmps62
    go_wp2_with fail
    go_ret
    exact ⟨ret_ii HE.out.symm, (Below.refl _ _).alloc (Nat.le_refl _) _⟩
  · have HE := Lib.hid (show bookErr b = if sideErr 1 none [] b.bids ≠ 0 then sideErr 1 none [] b.bids
      else if sideErr (-1) none (b.bids.map Od.id).reverse b.asks ≠ 0 then sideErr (-1) none (b.bids.map Od.id).reverse b.asks else if crossedB b then 4 else 0 by
      unfold bookErr; rw [if_neg h40])
    have h41 : (b.bids.length : Int) + (b.asks.length : Int) ≤ 40 := by omega
    have h42 : b.bids.length + b.asks.length ≤ 40 := by omega
    obtain ⟨r1, hr1⟩ : ∃ r, sideErr 1 none [] b.bids = r := ⟨_, rfl⟩
    obtain ⟨r2, hr2⟩ : ∃ r, sideErr (-1) none (b.bids.map Od.id).reverse b.asks = r := ⟨_, rfl⟩
    rw [hr1, hr2] at HE
    have HR1 := Lib.hid hr1
    have HR2 := Lib.hid hr2
    clear h40 hr1 hr2
    go_enter Try.func62, Try.ntmps62
    go_wp2_with fail
    refine (side_any _ _ _ b.bids 1 _ 0 [] _ _ ((h.alloc hB _).alloc (by simp; omega) _) (by omega) (Seen.made_at (w.alloc _) (w.heap.size + 1) (by simp)) (by omega) (by omega)).mono ?_
    rw [HR1.out]
    rintro e w1 ⟨rfl, hg1, hs1⟩
    have hb1 := below_of_grown1 (B := w.heap.size + 1) hg1 (by simp) (Nat.le_refl _)
    have hw1 : w.heap.size + 1 < w1.heap.size := by have := hg1.size; simp at this; omega
    have h91 : Below w.heap.size w w1 := (((Below.refl _ _).alloc (Nat.le_refl _) _).alloc (by simp) _).trans (hb1.mono (by omega))
    have B1 := ((Blk.new w 62 #[.slice A b.bids.length c, .slice A' b.asks.length c']).alloc (.map #[] 0)).below hb1 (by omega)
    have HS1 := Lib.hid hs1
    clear hg1 hs1 hb1
    by_cases hr : r1 = 0
    · subst hr
      have HE2 := Lib.hid (HE.out.trans (if_neg (by simp)))
      obtain ⟨⟨b0, b1⟩, _⟩ := B1.c2
      go_wp2_with fail
      refine (side_any _ _ _ b.asks (-1) _ _ _ _ _ (h'.below (h91.mono hB)) (by omega) (HS1.out trivial) (by omega) (by omega)).mono ?_
      rw [List.append_nil, HR2.out]
      rintro e w2 ⟨rfl, hg2, _⟩
      have hb2 := below_of_grown1 (B := w.heap.size + 1) hg2 (by omega) (Nat.le_refl _)
      have hw2 : w.heap.size + 1 < w2.heap.size := by have := hg2.size; omega
      have h92 : Below w.heap.size w w2 := h91.trans (hb2.mono (by omega))
      have B2 := B1.below hb2 (by omega)
      have ra := h.below (h92.mono hB)
      have rb := h'.below (h92.mono hB)
      clear b0 b1 B1 hg2 hb2 HS1
      by_cases hr' : r2 = 0
      · subst hr'
        have HE3 := Lib.hid (HE2.out.trans (if_neg (by simp)))
        obtain ⟨⟨b0, b1⟩, _⟩ := B2.c2
        by_cases hn : b.bids.length = 0
        · have HE4 := Lib.hid (show bookErr b = 0 by rw [HE3.out, crossed_nil (.inl hn)]; rfl)
          have d1 : decide ((0 : Int) < (b.bids.length : Int)) = false := decide_eq_false (by omega)
          have d2 : decide (0 < b.bids.length) = false := decide_eq_false (by omega)
          clear hn
          go_wp2_with fail
          go_quiet (fail)
          go_wp2_with fail
          go_ret
          exact ⟨ret_ii HE4.out.symm, below_drewN h92 _⟩
        · have d1 : decide ((0 : Int) < (b.bids.length : Int)) = true := decide_eq_true (by omega)
          have d2 : decide (0 < b.bids.length) = true := decide_eq_true (by omega)
          by_cases hn' : b.asks.length = 0
          · have HE4 := Lib.hid (show bookErr b = 0 by rw [HE3.out, crossed_nil (.inr hn')]; rfl)
            have d3 : decide ((0 : Int) < (b.asks.length : Int)) = false := decide_eq_false (by omega)
            have d4 : decide (0 < b.asks.length) = false := decide_eq_false (by omega)
            clear hn hn'
            go_wp2_with fail
            go_quiet (fail)
            go_wp2_with fail
            go_ret
            exact ⟨ret_ii HE4.out.symm, below_drewN h92 _⟩
          · have d3 : decide ((0 : Int) < (b.asks.length : Int)) = true := decide_eq_true (by omega)
            have d4 : decide (0 < b.asks.length) = true := decide_eq_true (by omega)
            obtain ⟨g1, o1, x, rfl, hg1, hx, _, _, _, k3, _⟩ := od_at ra (i := 0) (by omega)
            obtain ⟨g2, o2, y, rfl, hg2, hy, _, _, _, m3, _⟩ := od_at rb (i := 0) (by omega)
            have HX := Lib.hid (crossed_at hx hy)
            rw [Nat.zero_mul, Nat.add_zero] at k3 m3
            have e1 : 0 < b.bids.length := by omega
            have e2 : 0 < b.asks.length := by omega
            have e3 : (0 : Int) < (b.bids.length : Int) := by omega
            have e4 : (0 : Int) < (b.asks.length : Int) := by omega
            clear hx hy hn hn'
            by_cases hp : y.price ≤ x.price
            · have HE4 := Lib.hid (show bookErr b = 4 by rw [HE3.out, HX.out]; simp [hp])
              go_wp2_with fail
              go_quiet (fail)
              go_wp2_with fail
              go_ret
              exact ⟨ret_ii HE4.out.symm, below_drewN h92 _⟩
            · have HE4 := Lib.hid (show bookErr b = 0 by rw [HE3.out, HX.out]; simp [hp])
              have hp' : decide (y.price ≤ x.price) = false := by simpa using hp
              have hp2 : x.price < y.price := by omega
              clear hp
              go_wp2_with fail
              go_quiet (fail)
              go_wp2_with fail
              go_ret
              exact ⟨ret_ii HE4.out.symm, below_drewN h92 _⟩
      · have HE3 := Lib.hid (HE2.out.trans (if_pos hr'))
        have hr2 : (r2 != 0) = true := by simpa using hr'
        clear hr'
        go_wp2_with fail
        go_ret
        exact ⟨ret_ii HE3.out.symm, h92⟩
    · have HE2 := Lib.hid (HE.out.trans (if_pos hr))
      have hr2 : (r1 != 0) = true := by simpa using hr
      clear hr
      go_wp2_with fail
      go_ret
      exact ⟨ret_ii HE2.out.symm, h91⟩

end Go.Proofs.Ytockodmbhnlheaa
