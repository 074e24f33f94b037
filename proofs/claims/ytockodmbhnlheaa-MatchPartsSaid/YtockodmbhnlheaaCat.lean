/-
  slices.Grow at nil, slices.Concat of two slices at []api.Order.
-/
import Derived.Test.YtockodmbhnlheaaOSlc
import Derived.Lib.AppendZeros
namespace Go.Proofs.Ytockodmbhnlheaa
open Go.RowKit

theorem app_zeros {P : Program} {t e tn k bytes : Nat} {kn : IntKind} (E : Elem P t e k bytes) (htn : P.underlying tn = some (.int kn)) (w : World) (n : Nat) (h0 : 0 < n) (h48 : n * bytes ≤ 140737488355328) (hn : n ≤ maxLen) :
    ∃ c cur, (∀ ty, (Builtin.append_ #[t, tn] ty #[.slice none 0 0, .int .i64 n]).run P w = .ok (.slice (some ⟨w.heap.size, 0, none⟩) n c) (w.drew.alloc (.cells cur e))) ∧ n ≤ c ∧ c ≤ maxLen ∧ cur.size = c * k := by
  obtain ⟨i, z, hi, hz, hk, hb, hzk⟩ := E.hi
  have hr := fun ty => Lib.run_append_nil_zeros (P := P) w t tn ty e i z .i64 kn E.ht htn hi hz n h0 (by rw [hk]; exact E.pos) (by unfold maxLen at hn; omega) (by rw [hb]; omega)
  refine ⟨_, _, hr, grownCap_ge _ _ _ _, grownCap_le_maxLen _ _ _ _ hn, ?_⟩
  have := grownCap_ge w n 0 e
  simp only [Array.size_append, size_zeroCells, hzk, ← Nat.add_mul]
  rw [Nat.add_sub_cancel' this]

set_option maxHeartbeats 400000 in
set_option maxRecDepth 100000 in
theorem grow_nil (n : Nat) (hn : n * 40 ≤ 140737488355328) (w : World) :
    Calls Try.prog 133 #[.slice none 0 0, .int .i64 n] w (RetRow w 71 5 0 []) := by
  have hm : n ≤ maxLen := by simp only [maxLen]; omega
  by_cases h0 : n = 0
  · subst h0
    go_enter Try.func133, Try.ntmps133
    go_wp2_with fail
    go_ret
    exact ⟨_, rfl, World.ownsRow_nil _ _ _ _, Below.refl _ _⟩
  · obtain ⟨c, cur, hr, hc1, hc2, hc3⟩ := app_zeros (P := Try.prog) elem_od Try.underlying3 w n (by omega) hn hm
    have HR := Lib.hid hr
    clear hr
    go_enter Try.func133, Try.ntmps133
    go_wp2_with (at_builtin; refine Lib.wpList_append_run _ rfl _ _ _ _ rfl _ _ rfl rfl _ _ (HR.out _) ?_)
    go_ret
    exact ⟨_, rfl, World.ownsRow_made _ _ _ (Nat.le_refl _) hc2 hc3, (below_drew (Below.refl _ _)).alloc (Nat.le_refl _) _⟩

set_option maxHeartbeats 2000000 in
set_option maxRecDepth 100000 in
theorem concat_ods (A A' : Option Addr) (n c n' c' : Nat) (L M : List Od) (B : Nat) (w : World) (h : Rd w B 5 A n c (odCells L)) (h' : Rd w B 5 A' n' c' (odCells M)) (hB : B ≤ w.heap.size)
    (g : Nat) (hg : g < w.heap.size) (c0 : w.cell? ⟨g, 0, none⟩ = some (.slice A n c)) (c1 : w.cell? ⟨g, 1, none⟩ = some (.slice A' n' c')) (hb : (n + n') * 40 ≤ 140737488355328) :
    Calls Try.prog 63 #[.slice (some ⟨g, 0, none⟩) 2 2] w (RetRow w 71 5 (n + n') (odCells (L ++ M))) := by
  have HR := Lib.hid h
  have HR' := Lib.hid h'
  have hm : n + n' ≤ maxLen := by simp only [maxLen]; omega
  have HM := Lib.hid hm
  clear h h' hm
  go_enter Try.func63, Try.ntmps63
  go_wp2_with fail
  go_loopw [11, 3] (fun i s wr => w = wr ∧ (i = .int .i64 0 ∧ s = .int .i64 0 ∨ i = .int .i64 1 ∧ s = .int .i64 n ∨ i = .int .i64 2 ∧ s = .int .i64 (n + n' : Nat))) (fun i _ _ => 2 - (intOf i).toNat)
  case atStart => exact ⟨rfl, .inl ⟨rfl, rfl⟩⟩
  case round =>
    obtain ⟨rfl, ⟨rfl, rfl⟩ | ⟨rfl, rfl⟩ | ⟨rfl, rfl⟩⟩ := hrel
    · go_wp2_with fail
      go_roundw
      case rel => exact ⟨(by first | rfl | trivial), .inr (.inl ⟨rfl, by go_num⟩)⟩
      case measure => simp [intOf]
    · go_wp2_with fail
      go_roundw
      case rel => exact ⟨(by first | rfl | trivial), .inr (.inr ⟨rfl, by go_num⟩)⟩
      case measure => simp [intOf]
    · go_wp2_with fail
      refine (grow_nil (n + n') hb _).mono ?_
      rintro e w1 ⟨v, rfl, hown, hbl⟩
      have HO := Lib.hid hown
      clear hown
      go_wp2_with fail
      go_loopw [27, 6] (fun i v wr => Below w.heap.size w wr ∧ (i = .int .i64 0 ∧ Hid (wr.ownsRow w.heap.size 71 5 v 0 []) ∨ i = .int .i64 1 ∧ Hid (wr.ownsRow w.heap.size 71 5 v n (odCells L)) ∨ i = .int .i64 2 ∧ Hid (wr.ownsRow w.heap.size 71 5 v (n + n') (odCells (L ++ M))))) (fun i _ _ => 2 - (intOf i).toNat)
      case atStart => exact ⟨hbl, .inl ⟨rfl, HO⟩⟩
      case round =>
        obtain ⟨hbr, ⟨rfl, HV⟩ | ⟨rfl, HV⟩ | ⟨rfl, HV⟩⟩ := hrel
        · have d0 := (hbr.cell (p := ⟨g, 0, none⟩) hg).trans c0
          go_wp2_with (at_builtin; refine wpList_app rfl _ _ _ rfl w.heap.size _ _ _ elem_od _ _ _ rfl HV.out B A n c (odCells L) rfl (HR.out.below (hbr.mono hB)) (odCells_one _) (by have := HM.out; omega) (by omega) hbr.size ?_; intro v' w' hown' hbel' _ _)
          have HO' := Lib.hid (by simpa using hown')
          go_roundw
          case rel => exact ⟨hbr.trans hbel', .inr (.inl ⟨rfl, HO'⟩)⟩
          case measure => simp [intOf]
        · have d0 := (hbr.cell (p := ⟨g, 1, none⟩) hg).trans c1
          go_wp2_with (at_builtin; refine wpList_app rfl _ _ _ rfl w.heap.size _ _ _ elem_od _ _ _ rfl HV.out B A' n' c' (odCells M) rfl (HR'.out.below (hbr.mono hB)) (odCells_one _) (by have := HM.out; omega) (by omega) hbr.size ?_; intro v' w' hown' hbel' _ _)
          rw [← odCells_app] at hown'
          have HO' := Lib.hid hown'
          go_roundw
          case rel => exact ⟨hbr.trans hbel', .inr (.inr ⟨rfl, HO'⟩)⟩
          case measure => simp [intOf]
        · go_wp2_with fail
          go_ret
          exact ⟨_, rfl, HV.out, hbr⟩
end Go.Proofs.Ytockodmbhnlheaa
