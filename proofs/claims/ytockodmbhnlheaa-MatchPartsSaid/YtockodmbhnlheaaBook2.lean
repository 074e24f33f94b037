/-
  book.Same, Has.
-/
import Derived.Test.YtockodmbhnlheaaBook
namespace Go.Proofs.Ytockodmbhnlheaa
open Go.RowKit

set_option maxHeartbeats 1000000 in
theorem same_bk (a b : Bk) (A A' C C' : Option Addr) (c c' k k' B : Nat) (w : World) (h : BkR w B A A' c c' a) (h' : BkR w B C C' k k' b) (hB : B ≤ w.heap.size) :
    Calls Try.prog 67 #[.agg #[.slice A a.bids.length c, .slice A' a.asks.length c'], .agg #[.slice C b.bids.length k, .slice C' b.asks.length k']] w fun e w' => e = .returned (.bool (sameBk a b)) ∧ Below w.heap.size w w' := by
  have HE := Lib.hid (show sameBk a b = (sameOds a.bids b.bids && sameOds a.asks b.asks) from rfl)
  go_enter Try.func67, Try.ntmps67
  go_wp2_with fail
  obtain ⟨w2, hw2⟩ : ∃ x, x = (w.alloc (.cells #[.slice A a.bids.length c, .slice A' a.asks.length c'] 62)).alloc (.cells #[.slice C b.bids.length k, .slice C' b.asks.length k'] 62) := ⟨_, rfl⟩
  have hb2 : Below w.heap.size w w2 := by rw [hw2]; exact ((Below.refl _ _).alloc (Nat.le_refl _) _).alloc (by simp) _
  have hs2 : w2.heap.size = w.heap.size + 1 + 1 := by rw [hw2]; simp
  have B1 : Blk w2 w.heap.size 62 #[.slice A a.bids.length c, .slice A' a.asks.length c'] := by rw [hw2]; exact (Blk.new w _ _).alloc _
  have B2 : Blk w2 (w.heap.size + 1) 62 #[.slice C b.bids.length k, .slice C' b.asks.length k'] := by
    have := Blk.new (w.alloc (.cells #[.slice A a.bids.length c, .slice A' a.asks.length c'] 62)) 62 #[.slice C b.bids.length k, .slice C' b.asks.length k']
    rw [World.size_alloc] at this
    rw [hw2]; exact this
  rw [← hw2]
  have hr := h.below (hb2.mono hB)
  have hr' := h'.below (hb2.mono hB)
  clear hw2
  refine (equal_ods A C a.bids.length c b.bids.length k a.bids b.bids B w2 hr.l hr'.l (by omega)).mono ?_
  rintro e w3 ⟨rfl, hb3⟩
  obtain ⟨⟨k0, k1⟩, _⟩ := (B1.below hb3 (by omega)).c2
  obtain ⟨⟨l0, l1⟩, _⟩ := (B2.below hb3 (by omega)).c2
  have hs3 := hb3.size
  rcases bool_cs (sameOds a.bids b.bids) with hp | hp
  · have HE' := Lib.hid (show sameBk a b = false by rw [HE.out, hp]; rfl)
    rw [hp]
    clear hp
    go_wp2_with fail
    go_ret
    exact ⟨ret_bb HE'.out.symm, hb2.trans (hb3.mono (by omega))⟩
  · have HE' := Lib.hid (show sameBk a b = sameOds a.asks b.asks by rw [HE.out, hp]; rfl)
    rw [hp]
    clear hp
    go_wp2_with fail
    refine (equal_ods A' C' a.asks.length c' b.asks.length k' a.asks b.asks B w3 (hr.r.below (hb3.mono (by omega))) (hr'.r.below (hb3.mono (by omega))) (by omega)).mono ?_
    rintro e w4 ⟨rfl, hb4⟩
    go_wp2_with fail
    go_ret
    exact ⟨ret_bb HE'.out.symm, (hb2.trans (hb3.mono (by omega))).trans (hb4.mono (by omega))⟩

theorem hasB_any (b : Bk) (id : Int) : (b.bids ++ b.asks).any (hasId id) = hasB b id := by
  unfold hasB
  congr 1

set_option maxHeartbeats 1000000 in
theorem has_bk (b : Bk) (id : Int) (A A' : Option Addr) (c c' B : Nat) (w : World) (h : BkR w B A A' c c' b) (hB : B ≤ w.heap.size) (hl : (b.bids.length + b.asks.length) * 40 ≤ 140737488355328) :
    Calls Try.prog 134 #[.agg #[.slice A b.bids.length c, .slice A' b.asks.length c'], .int .i64 id] w fun e w' => e = .returned (.bool (hasB b id)) ∧ Below w.heap.size w w' := by
  have HE := Lib.hid (hasB_any b id)
  go_enter Try.func134, Try.ntmps134
  go_wp2_with fail
  obtain ⟨w1, hw1⟩ : ∃ x, x = (w.alloc (.cells #[.slice A b.bids.length c, .slice A' b.asks.length c'] 62)).alloc (.cells #[.int .i64 id] 3) := ⟨_, rfl⟩
  have hb1 : Below w.heap.size w w1 := by rw [hw1]; exact ((Below.refl _ _).alloc (Nat.le_refl _) _).alloc (by simp) _
  have hs1 : w1.heap.size = w.heap.size + 1 + 1 := by rw [hw1]; simp
  have B2 : Blk w1 (w.heap.size + 1) 3 #[.int .i64 id] := by
    have := Blk.new (w.alloc (.cells #[.slice A b.bids.length c, .slice A' b.asks.length c'] 62)) 3 #[.int .i64 id]
    rw [World.size_alloc] at this
    rw [hw1]; exact this
  rw [← hw1]
  obtain ⟨w2, hw2⟩ : ∃ x, x = w1.alloc (.cells #[.slice A b.bids.length c, .slice A' b.asks.length c'] 60) := ⟨_, rfl⟩
  have hb2 : Below w.heap.size w w2 := by rw [hw2]; exact hb1.alloc (by omega) _
  have hs2 : w2.heap.size = w.heap.size + 1 + 1 + 1 := by rw [hw2]; simp [hs1]
  have B3 : Blk w2 (w.heap.size + 1 + 1) 60 #[.slice A b.bids.length c, .slice A' b.asks.length c'] := by
    have := Blk.new w1 60 #[.slice A b.bids.length c, .slice A' b.asks.length c']
    rw [hs1] at this
    rw [hw2]; exact this
  have B2' : Blk w2 (w.heap.size + 1) 3 #[.int .i64 id] := by rw [hw2]; exact B2.alloc _
  rw [← hw2]
  have hr := h.below (hb2.mono hB)
  clear hw1 hw2 B2 hb1
  refine (concat_ods A A' b.bids.length c b.asks.length c' b.bids b.asks B w2 hr.l hr.r (by omega) (w.heap.size + 1 + 1) (by omega) B3.c2.1.1 B3.c2.1.2 hl).mono ?_
  rintro e w3 ⟨v, rfl, hown, hb3⟩
  obtain ⟨A1, c1, rfl⟩ := own_shape hown
  have hr3 := Rd.of_own hown
  have hs3 := hb3.size
  have Bi := B2'.below hb3 (by omega)
  have HB := Lib.hid (hb2.trans (hb3.mono (by omega)))
  clear hown hb3 hb2 B3 B2'
  go_wp2_with fail
  refine (contains_has A1 (b.bids.length + b.asks.length) c1 (b.bids ++ b.asks) id (w.heap.size + 1) w3.heap.size w3 hr3 (Nat.le_refl _) (by omega) (Bi.cell 0)).mono ?_
  rintro e w4 ⟨rfl, hb4⟩
  go_wp2_with fail
  go_ret
  exact ⟨ret_bb (by rw [← List.any_append]; exact HE.out), HB.out.trans (hb4.mono (by omega))⟩

set_option maxHeartbeats 400000 in
theorem of_buy (g : Nat) (w : World) (x y : Value) (h0 : w.cell? ⟨g, 0, none⟩ = some x) (h1 : w.cell? ⟨g, 1, none⟩ = some y) :
    Calls Try.prog 136 #[.pointer (some ⟨g, 0, none⟩), .int .i64 1] w fun e w' => e = .returned (.tuple #[.pointer (some ⟨g, 0, none⟩), .pointer (some ⟨g, 1, none⟩)]) ∧ w' = w.drew := by
  go_enter Try.func136, Try.ntmps136
  go_wp2_with fail
  go_region
  go_wp2_with fail
  go_ret2
  exact ⟨rfl, rfl⟩
set_option maxHeartbeats 400000 in
theorem of_sell (g : Nat) (s : Int) (w : World) (x y : Value) (h0 : w.cell? ⟨g, 0, none⟩ = some x) (h1 : w.cell? ⟨g, 1, none⟩ = some y) (hs : (s == 1) = false) :
    Calls Try.prog 136 #[.pointer (some ⟨g, 0, none⟩), .int .i64 s] w fun e w' => e = .returned (.tuple #[.pointer (some ⟨g, 1, none⟩), .pointer (some ⟨g, 0, none⟩)]) ∧ w' = w.drew := by
  go_enter Try.func136, Try.ntmps136
  go_wp2_with fail
  go_region
  go_wp2_with fail
  go_ret2
  exact ⟨rfl, rfl⟩
end Go.Proofs.Ytockodmbhnlheaa
