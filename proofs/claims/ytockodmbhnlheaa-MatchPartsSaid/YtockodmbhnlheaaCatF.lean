/-
  slices.Grow at nil, slices.Concat of two slices at []api.Fill.
-/
import Derived.Test.YtockodmbhnlheaaFill
namespace Go.Proofs.Ytockodmbhnlheaa
open Go.RowKit

set_option maxHeartbeats 400000 in
set_option maxRecDepth 100000 in
theorem grow_nilF (n : Nat) (hn : n * 56 ≤ 140737488355328) (w : World) :
    Calls Try.prog 144 #[.slice none 0 0, .int .i64 n] w (RetRow w 87 7 0 []) := by
  have hm : n ≤ maxLen := by simp only [maxLen]; omega
  by_cases h0 : n = 0
  · subst h0
    go_enter Try.func144, Try.ntmps144
    go_wp2_with fail
    go_ret
    exact ⟨_, rfl, World.ownsRow_nil _ _ _ _, Below.refl _ _⟩
  · obtain ⟨c, cur, hr, hc1, hc2, hc3⟩ := app_zeros (P := Try.prog) elem_fl Try.underlying3 w n (by omega) hn hm
    have HR := Lib.hid hr
    clear hr
    go_enter Try.func144, Try.ntmps144
    go_wp2_with (at_builtin; refine Lib.wpList_append_run _ rfl _ _ _ _ rfl _ _ rfl rfl _ _ (HR.out _) ?_)
    go_ret
    exact ⟨_, rfl, World.ownsRow_made _ _ _ (Nat.le_refl _) hc2 hc3, (below_drew (Below.refl _ _)).alloc (Nat.le_refl _) _⟩

set_option maxHeartbeats 2000000 in
set_option maxRecDepth 100000 in
theorem concat_fls (A A' : Option Addr) (n c n' c' : Nat) (L M : List Fl) (B : Nat) (w : World) (h : Rd w B 7 A n c (flCells L)) (h' : Rd w B 7 A' n' c' (flCells M)) (hB : B ≤ w.heap.size)
    (g : Nat) (hg : g < w.heap.size) (c0 : w.cell? ⟨g, 0, none⟩ = some (.slice A n c)) (c1 : w.cell? ⟨g, 1, none⟩ = some (.slice A' n' c')) (hb : (n + n') * 56 ≤ 140737488355328) :
    Calls Try.prog 73 #[.slice (some ⟨g, 0, none⟩) 2 2] w (RetRow w 87 7 (n + n') (flCells (L ++ M))) := by
  have HR := Lib.hid h
  have HR' := Lib.hid h'
  have hm : n + n' ≤ maxLen := by simp only [maxLen]; omega
  have HM := Lib.hid hm
  clear h h' hm
  go_enter Try.func73, Try.ntmps73
  go_wp2_with fail
  go_loopw [11, 3] (fun i s wr => w = wr ∧ (i = .int .i64 0 ∧ s = .int .i64 0 ∨ i = .int .i64 1 ∧ s = .int .i64 n ∨ i = .int .i64 2 ∧ s = .int .i64 (n + n' : Nat))) (fun i _ _ => 2 - (intOf i).toNat)
  case atStart => exact ⟨rfl, .inl ⟨rfl, rfl⟩⟩
  case round =>
    obtain ⟨rfl, ⟨rfl, rfl⟩ | ⟨rfl, rfl⟩ | ⟨rfl, rfl⟩⟩ := hrel
    · go_wp2_with fail
      go_roundw
      case rel => exact ⟨(by first | rfl | trivial), .inr (.inl ⟨rfl, by go_num⟩)⟩
      case measure => simp [intOf]
    · go_wp2_with fail
      go_roundw
      case rel => exact ⟨(by first | rfl | trivial), .inr (.inr ⟨rfl, by go_num⟩)⟩
      case measure => simp [intOf]
    · go_wp2_with fail
      refine (grow_nilF (n + n') hb _).mono ?_
      rintro e w1 ⟨v, rfl, hown, hbl⟩
      have HO := Lib.hid hown
      clear hown
      go_wp2_with fail
      go_loopw [27, 6] (fun i v wr => Below w.heap.size w wr ∧ (i = .int .i64 0 ∧ Hid (wr.ownsRow w.heap.size 87 7 v 0 []) ∨ i = .int .i64 1 ∧ Hid (wr.ownsRow w.heap.size 87 7 v n (flCells L)) ∨ i = .int .i64 2 ∧ Hid (wr.ownsRow w.heap.size 87 7 v (n + n') (flCells (L ++ M))))) (fun i _ _ => 2 - (intOf i).toNat)
      case atStart => exact ⟨hbl, .inl ⟨rfl, HO⟩⟩
      case round =>
        obtain ⟨hbr, ⟨rfl, HV⟩ | ⟨rfl, HV⟩ | ⟨rfl, HV⟩⟩ := hrel
        · have d0 := (hbr.cell (p := ⟨g, 0, none⟩) hg).trans c0
          go_wp2_with (at_builtin; refine wpList_app rfl _ _ _ rfl w.heap.size _ _ _ elem_fl _ _ _ rfl HV.out B A n c (flCells L) rfl (HR.out.below (hbr.mono hB)) (flCells_one _) (by have := HM.out; omega) (by omega) hbr.size ?_; intro v' w' hown' hbel' _ _)
          have HO' := Lib.hid (by simpa using hown')
          go_roundw
          case rel => exact ⟨hbr.trans hbel', .inr (.inl ⟨rfl, HO'⟩)⟩
          case measure => simp [intOf]
        · have d0 := (hbr.cell (p := ⟨g, 1, none⟩) hg).trans c1
          go_wp2_with (at_builtin; refine wpList_app rfl _ _ _ rfl w.heap.size _ _ _ elem_fl _ _ _ rfl HV.out B A' n' c' (flCells M) rfl (HR'.out.below (hbr.mono hB)) (flCells_one _) (by have := HM.out; omega) (by omega) hbr.size ?_; intro v' w' hown' hbel' _ _)
          rw [← flCells_app] at hown'
          have HO' := Lib.hid hown'
          go_roundw
          case rel => exact ⟨hbr.trans hbel', .inr (.inr ⟨rfl, HO'⟩)⟩
          case measure => simp [intOf]
        · go_wp2_with fail
          go_ret
          exact ⟨_, rfl, HV.out, hbr⟩
end Go.Proofs.Ytockodmbhnlheaa
