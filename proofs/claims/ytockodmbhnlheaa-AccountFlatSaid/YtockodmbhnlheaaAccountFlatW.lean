/-
  THE WALK of the law AccountFlat.
-/
import Derived.Test.YtockodmbhnlheaaMargins
import Derived.Test.YtockodmbhnlheaaRiskLaws
import Derived.Test.YtockodmbhnlheaaCounted
import Derived.Test.YtockodmbhnlheaaMakeI
namespace Go.Proofs.Ytockodmbhnlheaa
open Go.RowKit


set_option maxRecDepth 100000 in
set_option maxHeartbeats 2000000 in
theorem flat_core (id bal : Int) (k : Nat) (A : Option Addr) (n2 c2 : Nat) (marks : List Int) (w : World) (hm : Rd w w.heap.size 1 A n2 c2 (ints marks)) (hk : (n2 : Int) ≤ 9 ∧ k = n2 ∨ 9 < (n2 : Int) ∧ k = 9) :
    Calls Try.prog 11 #[.int .i64 id, .int .i64 bal, .slice A n2 c2] w fun e w' => e = .returned (.bool true) ∧ Below w.heap.size w w' := by
  have hk9 : k ≤ 9 := by omega
  have hkm : k ≤ maxLen := by unfold maxLen; omega
  have hmk := run_zeros k (by omega)
  obtain ⟨n, en, hn⟩ : ∃ n en, equityOf ⟨id, bal, List.replicate k 0⟩ marks = (n, en) := ⟨_, _, rfl⟩
  have HN := Lib.hid hn
  clear hn
  have hl : (List.replicate k (0 : Int)).length = k := List.length_replicate
  have R0 := rd_zeros w k _ rfl hkm
  have HL := Lib.hid hl
  have E1 := fun (B B' : Nat) (W : World) (A1 A2 : Option Addr) (c1 c3 : Nat) (h1 : Rd W B 1 A1 k c1 (ints (List.replicate k 0))) (hB : B ≤ W.heap.size) (h2 : Rd W B' 1 A2 n2 c3 (ints marks)) (hB' : B' ≤ W.heap.size) => equity_any ⟨id, bal, List.replicate k 0⟩ A1 A2 c1 n2 c3 marks B B' W (by rw [hl]; exact h1) hB h2 hB'
  have E2 := fun (B B' : Nat) (W : World) (A1 A2 : Option Addr) (c1 c3 : Nat) (h1 : Rd W B 1 A1 k c1 (ints (List.replicate k 0))) (hB : B ≤ W.heap.size) (h2 : Rd W B' 1 A2 n2 c3 (ints marks)) (hB' : B' ≤ W.heap.size) => margins_any ⟨id, bal, List.replicate k 0⟩ A1 A2 c1 n2 c3 marks B B' W (by rw [hl]; exact h1) hB h2 hB'
  have E3 := fun (B B' : Nat) (W : World) (A1 A2 : Option Addr) (c1 c3 : Nat) (h1 : Rd W B 1 A1 k c1 (ints (List.replicate k 0))) (hB : B ≤ W.heap.size) (h2 : Rd W B' 1 A2 n2 c3 (ints marks)) (hB' : B' ≤ W.heap.size) => sound_any ⟨id, bal, List.replicate k 0⟩ A1 A2 c1 n2 c3 marks B B' W (by rw [hl]; exact h1) hB h2 hB'
  simp only [hl] at E1 E2 E3
  have H1 := Lib.hid E1
  have H2 := Lib.hid E2
  have H3 := Lib.hid E3
  clear E1 E2 E3 hl hkm
  rcases hk with ⟨hk, rfl⟩ | ⟨hk, rfl⟩
  · go_enter Try.func11, Try.ntmps11
    go_wp2_with fail
    refine (H1.out _ _ _ _ _ _ _ (R0.alloc (by simp) _) (by simp) ((hm.alloc (Nat.le_refl _) _).alloc (by simp) _) (by simp; omega)).mono ?_
    rw [HN.out]
    rintro e w1 ⟨rfl, hb1⟩
    have B1 := (Blk.new_at (w.alloc (.cells (zeros k) 3)) 37 #[.int .i64 id, .int .i64 bal, .slice (some ⟨w.heap.size, 0, none⟩) k k] (w.heap.size + 1) (by simp)).below hb1 (by simp)
    have R1 := (R0.alloc (by simp) (.cells #[.int .i64 id, .int .i64 bal, .slice (some ⟨w.heap.size, 0, none⟩) k k] 37)).below (hb1.mono (by simp))
    have h91 : Below w.heap.size w w1 := (((Below.refl _ _).alloc (Nat.le_refl _) _).alloc (by simp) _).trans (hb1.mono (by simp; omega))
    have hs1 : w.heap.size + 1 < w1.heap.size := by have := hb1.size; simp at this; omega
    clear hb1 R0
    by_cases he : en = 0
    · subst he
      obtain ⟨e1, e2, e3⟩ := flat_law HN.out
      have HM := Lib.hid e2
      have HS := Lib.hid e3
      subst e1
      clear e2 e3
      go_wp2_with fail
      refine (counted_any _).mono ?_
      rintro e w2 ⟨rfl, hb2⟩
      have B2 := B1.below hb2 hs1
      have R2 := R1.below (hb2.mono (by omega))
      have h92 := h91.trans (hb2.mono (by omega))
      have hs2 := hb2.size
      obtain ⟨⟨b0, b1, b2⟩, _⟩ := B2.c3
      clear hb2 R1 B1 h91
      go_wp2_with fail
      refine (H2.out _ _ _ _ _ _ _ R2 (by omega) (hm.below h92) (by omega)).mono ?_
      rw [HM.out]
      rintro e w3 ⟨rfl, hb3⟩
      have B3 := B2.below hb3 (by omega)
      have R3 := R2.below (hb3.mono (by omega))
      have h93 := h92.trans (hb3.mono (by omega))
      have hs3 := hb3.size
      clear hb3 R2 B2 h92 b0 b1 b2
      obtain ⟨⟨b0, b1, b2⟩, _⟩ := B3.c3
      go_wp2_with fail
      refine (H3.out _ _ _ _ _ _ _ R3 (by omega) (hm.below h93) (by omega)).mono ?_
      rw [HS.out]
      rintro e w4 ⟨rfl, hb4⟩
      have h94 := h93.trans (hb4.mono (by omega))
      have v1 : (n == n) = true := by simp
      have v2 : (decide (0 ≤ n) == decide (0 ≤ n)) = true := by simp
      clear hb4
      go_wp2_with fail
      go_ret
      exact ⟨rfl, h94⟩
    · have he1 : (en != 0) = true := by simpa using he
      clear he
      go_wp2_with fail
      refine (counted_any _).mono ?_
      rintro e w2 ⟨rfl, hb2⟩
      go_wp2_with fail
      refine (counted_any _).mono ?_
      rintro e w3 ⟨rfl, hb3⟩
      go_wp2_with fail
      go_ret
      exact ⟨rfl, (h91.trans (hb2.mono (by omega))).trans (hb3.mono (by have := hb2.size; omega))⟩
  · have hmk9 : ∀ w : World, (Instr.makeSlice 24 (.int .i64 9) (.int .i64 9)).run Try.prog w = .ok (.slice (some ⟨w.heap.size, 0, none⟩) 9 9) (w.alloc (.cells (zeros 9) 3)) := hmk
    clear hmk
    go_enter Try.func11, Try.ntmps11
    go_wp2_with fail
    refine (H1.out _ _ _ _ _ _ _ (R0.alloc (by simp) _) (by simp) ((hm.alloc (Nat.le_refl _) _).alloc (by simp) _) (by simp; omega)).mono ?_
    rw [HN.out]
    rintro e w1 ⟨rfl, hb1⟩
    have B1 := (Blk.new_at (w.alloc (.cells (zeros 9) 3)) 37 #[.int .i64 id, .int .i64 bal, .slice (some ⟨w.heap.size, 0, none⟩) 9 9] (w.heap.size + 1) (by simp)).below hb1 (by simp)
    have R1 := (R0.alloc (by simp) (.cells #[.int .i64 id, .int .i64 bal, .slice (some ⟨w.heap.size, 0, none⟩) 9 9] 37)).below (hb1.mono (by simp))
    have h91 : Below w.heap.size w w1 := (((Below.refl _ _).alloc (Nat.le_refl _) _).alloc (by simp) _).trans (hb1.mono (by simp; omega))
    have hs1 : w.heap.size + 1 < w1.heap.size := by have := hb1.size; simp at this; omega
    clear hb1 R0
    by_cases he : en = 0
    · subst he
      obtain ⟨e1, e2, e3⟩ := flat_law HN.out
      have HM := Lib.hid e2
      have HS := Lib.hid e3
      subst e1
      clear e2 e3
      go_wp2_with fail
      refine (counted_any _).mono ?_
      rintro e w2 ⟨rfl, hb2⟩
      have B2 := B1.below hb2 hs1
      have R2 := R1.below (hb2.mono (by omega))
      have h92 := h91.trans (hb2.mono (by omega))
      have hs2 := hb2.size
      obtain ⟨⟨b0, b1, b2⟩, _⟩ := B2.c3
      clear hb2 R1 B1 h91
      go_wp2_with fail
      refine (H2.out _ _ _ _ _ _ _ R2 (by omega) (hm.below h92) (by omega)).mono ?_
      rw [HM.out]
      rintro e w3 ⟨rfl, hb3⟩
      have B3 := B2.below hb3 (by omega)
      have R3 := R2.below (hb3.mono (by omega))
      have h93 := h92.trans (hb3.mono (by omega))
      have hs3 := hb3.size
      clear hb3 R2 B2 h92 b0 b1 b2
      obtain ⟨⟨b0, b1, b2⟩, _⟩ := B3.c3
      go_wp2_with fail
      refine (H3.out _ _ _ _ _ _ _ R3 (by omega) (hm.below h93) (by omega)).mono ?_
      rw [HS.out]
      rintro e w4 ⟨rfl, hb4⟩
      have h94 := h93.trans (hb4.mono (by omega))
      have v1 : (n == n) = true := by simp
      have v2 : (decide (0 ≤ n) == decide (0 ≤ n)) = true := by simp
      clear hb4
      go_wp2_with fail
      go_ret
      exact ⟨rfl, h94⟩
    · have he1 : (en != 0) = true := by simpa using he
      clear he
      go_wp2_with fail
      refine (counted_any _).mono ?_
      rintro e w2 ⟨rfl, hb2⟩
      go_wp2_with fail
      refine (counted_any _).mono ?_
      rintro e w3 ⟨rfl, hb3⟩
      go_wp2_with fail
      go_ret
      exact ⟨rfl, (h91.trans (hb2.mono (by omega))).trans (hb3.mono (by have := hb2.size; omega))⟩

theorem accountFlat_walk (id bal : Int) (A : Option Addr) (n2 c2 : Nat) (marks : List Int) (w : World) (hm : Rd w w.heap.size 1 A n2 c2 (ints marks)) :
    Calls Try.prog 11 #[.int .i64 id, .int .i64 bal, .slice A n2 c2] w fun e w' => e = .returned (.bool true) ∧ Below w.heap.size w w' := by
  by_cases h : (n2 : Int) ≤ 9
  · exact flat_core id bal n2 A n2 c2 marks w hm (.inl ⟨h, rfl⟩)
  · exact flat_core id bal 9 A n2 c2 marks w hm (.inr ⟨by omega, rfl⟩)

end Go.Proofs.Ytockodmbhnlheaa
