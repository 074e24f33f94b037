/-
  book.Copy, Same, Has, Of.
-/
import Derived.Test.YtockodmbhnlheaaIns3
import Derived.Test.YtockodmbhnlheaaBookCheck
import Derived.Deep.RegionHeld3
namespace Go.Proofs.Ytockodmbhnlheaa
open Go.RowKit

theorem first_below {p : Prop} (h : p) : p := h
/-- a book as a value that reads. -/
structure BkR (w : World) (B : Nat) (A A' : Option Addr) (c c' : Nat) (b : Bk) : Prop where
  l : Rd w B 5 A b.bids.length c (odCells b.bids)
  r : Rd w B 5 A' b.asks.length c' (odCells b.asks)
theorem BkR.below {w w' : World} {B : Nat} {A A' : Option Addr} {c c' : Nat} {b : Bk} (h : BkR w B A A' c c' b) (hb : Below B w w') : BkR w' B A A' c c' b := ⟨h.l.below hb, h.r.below hb⟩

def sameBk (a b : Bk) : Bool := sameOds a.bids b.bids && sameOds a.asks b.asks
theorem sameBk_self (a : Bk) : sameBk a a = true := by unfold sameBk sameOds; simp

set_option maxHeartbeats 1000000 in
theorem copy_bk (b : Bk) (A A' : Option Addr) (c c' B : Nat) (w : World) (h : BkR w B A A' c c' b) (hB : B ≤ w.heap.size) (hl : b.bids.length ≤ 3500000000000) (hl' : b.asks.length ≤ 3500000000000) :
    Calls Try.prog 135 #[.agg #[.slice A b.bids.length c, .slice A' b.asks.length c']] w fun e w' =>
      ∃ v v', e = .returned (.agg #[v, v']) ∧ w'.ownsRow w.heap.size 71 5 v b.bids.length (odCells b.bids) ∧ w'.ownsRow w.heap.size 71 5 v' b.asks.length (odCells b.asks) ∧ (∀ k, v.ownBlock = some k → v'.ownBlock ≠ some k) ∧ Below w.heap.size w w' := by
  go_enter Try.func135, Try.ntmps135
  go_wp2_with fail
  obtain ⟨w2, hw2⟩ : ∃ x, x = (w.alloc (.cells #[.slice A b.bids.length c, .slice A' b.asks.length c'] 62)).alloc (.cells #[.slice none 0 0, .slice none 0 0] 62) := ⟨_, rfl⟩
  have hb2 : Below w.heap.size w w2 := by rw [hw2]; exact ((Below.refl _ _).alloc (Nat.le_refl _) _).alloc (by simp) _
  have hs2 : w2.heap.size = w.heap.size + 1 + 1 := by rw [hw2]; simp
  have B1 : Blk w2 w.heap.size 62 #[.slice A b.bids.length c, .slice A' b.asks.length c'] := by rw [hw2]; exact (Blk.new w _ _).alloc _
  have B2 : Blk w2 (w.heap.size + 1) 62 #[.slice none 0 0, .slice none 0 0] := by
    have := Blk.new (w.alloc (.cells #[.slice A b.bids.length c, .slice A' b.asks.length c'] 62)) 62 #[.slice none 0 0, .slice none 0 0]
    rw [World.size_alloc] at this
    rw [hw2]; exact this
  rw [← hw2]
  have HB2 := Lib.hid hb2
  have hr := h.below (hb2.mono hB)
  have hBw : B ≤ w2.heap.size := by omega
  have KS : Hid (∀ W, Below w2.heap.size w2 W → Below w.heap.size w W ∧ (W.cell? ⟨w.heap.size, 0, none⟩ = some (.slice A b.bids.length c) ∧ W.cell? ⟨w.heap.size, 1, none⟩ = some (.slice A' b.asks.length c'))) := by
    intro W hW
    exact ⟨hb2.trans (hW.mono (by omega)), (B1.below hW (by omega)).c2.1⟩
  have KB : Hid (∀ W, Below w2.heap.size w2 W → ((W.cell? ⟨w.heap.size + 1, 0, none⟩ = some (.slice none 0 0) ∧ W.cell? ⟨w.heap.size + 1, 1, none⟩ = some (.slice none 0 0)) ∧ W.frozen? ⟨w.heap.size + 1, 0, none⟩ = false ∧ W.frozen? ⟨w.heap.size + 1, 1, none⟩ = false)) := by
    intro W hW
    exact (B2.below hW (by omega)).c2
  have KT : Hid (∀ W v v', Below w2.heap.size w2 W →
      Below w.heap.size w ((W.setCell ⟨w.heap.size + 1, 0, none⟩ v).setCell ⟨w.heap.size + 1, 1, none⟩ v') ∧ (((W.setCell ⟨w.heap.size + 1, 0, none⟩ v).setCell ⟨w.heap.size + 1, 1, none⟩ v').cell? ⟨w.heap.size, 0, none⟩ = some (.slice A b.bids.length c) ∧ ((W.setCell ⟨w.heap.size + 1, 0, none⟩ v).setCell ⟨w.heap.size + 1, 1, none⟩ v').cell? ⟨w.heap.size, 1, none⟩ = some (.slice A' b.asks.length c'))) := by
    intro W v v' hW'
    obtain ⟨hW, h1, h2⟩ := KS.out W hW'
    refine ⟨Below.setCell (Below.setCell hW (by simp) _) (by simp) _, ?_, ?_⟩
    · simp [go_sem, h1]
    · simp [go_sem, h2]
  have h22 : Below w2.heap.size w2 w2 := Below.refl _ _
  clear hw2 hb2 B1 B2
  go_region_held3 (fun W => Below w.heap.size w W ∧ (W.cell? ⟨w.heap.size, 0, none⟩ = some (.slice A b.bids.length c) ∧ W.cell? ⟨w.heap.size, 1, none⟩ = some (.slice A' b.asks.length c')))
    (first | (exact KS.out _ (by assumption)) | (exact KS.out _ (below_drew (by assumption))) | (exact KT.out _ _ _ (by assumption)))
    ((first
      | (go_at_call 66; go_split_ands; (with_reducible refine (clone_ods A b.bids.length c _ B _ (h.l.below (Below.mono (by assumption) hB)) (odCells_one _) (Nat.le_trans hB (Below.size (w := w) (by assumption))) (by omega)).mono ?_); rintro e W' ⟨v, rfl, hown, hb⟩; obtain ⟨Ax, cx, rfl⟩ := own_shape hown; have hB2 := below_next (w0 := w2) hb (by first | assumption | exact below_drew (by assumption)); have hB3 := KB.out _ hB2)
      | (go_at_call 66; go_split_ands; (with_reducible refine (clone_ods A' b.asks.length c' _ B _ (h.r.below (Below.mono (by assumption) hB)) (odCells_one _) (Nat.le_trans hB (Below.size (w := w) (by assumption))) (by omega)).mono ?_); rintro e W' ⟨v, rfl, hown, hb⟩; obtain ⟨Ax, cx, rfl⟩ := own_shape hown; have hB2 := below_next (w0 := w2) hb (by first | assumption | exact below_drew (by assumption)); have hB3 := KB.out _ hB2)))
  rename_i WA hbA AA cA hownA hBA _ _ _ _ _ _ _ _
  have R2 : W'.ownsRow w2.heap.size 71 5 (.slice Ax b.asks.length cx) b.asks.length (odCells b.asks) := own_mono hown hBA.size
  have R1 : W'.ownsRow w2.heap.size 71 5 (.slice AA b.bids.length cA) b.bids.length (odCells b.bids) := own_mono (own_below hownA hb (Nat.le_refl _)) (Nat.le_refl _)
  have D : ∀ k, (Value.slice AA b.bids.length cA).ownBlock = some k → (Value.slice Ax b.asks.length cx).ownBlock ≠ some k := fun k h1 h2 => by
    have := (World.ownsRow.lt hownA k h1).2
    have := (World.ownsRow.lt hown k h2).1
    omega
  have HR1 := Lib.hid R1
  have HR2 := Lib.hid R2
  have HD := Lib.hid D
  have HBW := Lib.hid hB2
  clear R1 R2 D hown hownA hb hbA hBA hB2
  go_wp2_with fail
  refine bodyPost_ret (v := .agg #[.slice AA b.bids.length cA, .slice Ax b.asks.length cx]) (by simp [results, Try.results135, go_sem, *]) rfl ?_
  refine ⟨_, _, rfl, ?_, ?_, HD.out, (KT.out _ _ _ HBW.out).1⟩
  · exact own_mono (base := w2.heap.size) (ownsRow_setCell_below (ownsRow_setCell_below HR1.out (by simp; omega) _) (by simp; omega) _) (by omega)
  · exact own_mono (base := w2.heap.size) (ownsRow_setCell_below (ownsRow_setCell_below HR2.out (by simp; omega) _) (by simp; omega) _) (by omega)
end Go.Proofs.Ytockodmbhnlheaa
