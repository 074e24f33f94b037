/-
  THE WALKS over package account.
-/
import Derived.Test.YtockodmbhnlheaaFix
import Derived.Test.YtockodmbhnlheaaSlc
namespace Go.Proofs.Ytockodmbhnlheaa
open Go.RowKit

set_option maxHeartbeats 1000000 in
theorem accCheck_any (id bal : Int) (A : Option Addr) (n c : Nat) (l : List Int) (m : Int) (B : Nat) (w : World) (h : Rd w B 1 A n c (ints l)) (hB : B ≤ w.heap.size) :
    Calls Try.prog 49 #[.agg #[.int .i64 id, .int .i64 bal, .slice A n c], .int .i64 m] w fun e w' => e = .returned (.int .i64 (accCheck id bal l m)) ∧ Below w.heap.size w w' := by
  have hle := h.le
  have hcap := h.cap
  have hl := h.ofInts
  unfold maxLen at hcap
  by_cases h1 : id < 0 ∨ 8 ≤ id
  · have HE := Lib.hid (show accCheck id bal l m = 5 by unfold accCheck; rw [if_pos h1])
    clear hl
    by_cases h1' : id < 0
    all_goals
      go_enter Try.func49, Try.ntmps49
      go_wp2_with fail
      go_ret
      exact ⟨ret_ii HE.out.symm, (Below.refl _ _).alloc (Nat.le_refl _) _⟩
  · by_cases h2 : m < 1 ∨ 2 < m ∨ (l.length : Int) ≠ m
    · have HE := Lib.hid (show accCheck id bal l m = 4 by unfold accCheck; rw [if_neg h1, if_pos h2])
      have h3 : m < 1 ∨ 1 ≤ m ∧ 2 < m ∨ 1 ≤ m ∧ m ≤ 2 ∧ ((n : Int) != m) = true := by
        by_cases a1 : m < 1
        · exact .inl a1
        · by_cases a2 : 2 < m
          · exact .inr (.inl ⟨by omega, a2⟩)
          · exact .inr (.inr ⟨by omega, by omega, by simp; omega⟩)
      have h5 : 0 ≤ id ∧ id < 8 := by omega
      obtain ⟨h6, h7⟩ := h5
      clear h1 h2 hl
      rcases h3 with h3 | ⟨h3, h4⟩ | ⟨h3, h4, h5⟩
      all_goals
        go_enter Try.func49, Try.ntmps49
        go_wp2_with fail
        go_ret
        exact ⟨ret_ii HE.out.symm, (Below.refl _ _).alloc (Nat.le_refl _) _⟩
    · have h5 : 0 ≤ id ∧ id < 8 := by omega
      obtain ⟨h6, h7⟩ := h5
      obtain rfl : m = (n : Int) := by omega
      have h8 : 1 ≤ n ∧ n ≤ 2 := by omega
      obtain ⟨h8, h9⟩ := h8
      have HL := Lib.hid hl
      have HN1 := Lib.hid h1
      have HN2 := Lib.hid h2
      clear h1 h2 hl
      cases hm : isMoney bal
      · have HE := Lib.hid (show accCheck id bal l n = 3 by unfold accCheck; rw [if_neg HN1.out, if_neg HN2.out, if_pos hm])
        go_enter Try.func49, Try.ntmps49
        go_wp2_with (go_at_call 78; refine (money_any _ _).mono ?_; rintro e w' ⟨rfl, rfl⟩)
        go_ret
        exact ⟨ret_ii HE.out.symm, (Below.refl _ _).alloc (Nat.le_refl _) _⟩
      · have HE := Lib.hid (show accCheck id bal l n = if posOk l = false then 3 else 0 by unfold accCheck; rw [if_neg HN1.out, if_neg HN2.out, if_neg (by rw [hm]; simp)])
        go_enter Try.func49, Try.ntmps49
        go_wp2_with (go_at_call 78; refine (money_any _ _).mono ?_; rintro e w' ⟨rfl, rfl⟩)
        go_loop [35] (fun i => ∃ j : Nat, j ≤ n ∧ i = .int .i64 j ∧ Hid (posOk (l.take j) = true)) (fun i => n - (intOf i).toNat)
        case atStart => exact ⟨0, Nat.zero_le _, rfl, rfl⟩
        case round =>
          obtain ⟨j, hj, rfl, HP⟩ := hrel
          by_cases hlt : j < n
          · obtain ⟨b, o, rfl, hb, z, hz, hc⟩ := h.int hlt
            have hbw : b < w.heap.size := by omega
            have HN := Lib.hid (posOk_next hz HP.out)
            cases hp : posOk1 z
            · have HE' := Lib.hid (show accCheck id bal l n = 3 by rw [HE.out, if_pos (posOk_bad hz hp)])
              clear hz HN
              rcases posOk1_not.1 hp with hp' | hp'
              · go_wp2_with fail
                go_ret
                exact ⟨ret_ii HE'.out.symm, (Below.refl _ _).alloc (Nat.le_refl _) _⟩
              · have hp3 : -1000 ≤ z := by omega
                go_wp2_with fail
                go_ret
                exact ⟨ret_ii HE'.out.symm, (Below.refl _ _).alloc (Nat.le_refl _) _⟩
            · obtain ⟨hp1, hp2⟩ := posOk1_iff.1 hp
              have HN' := Lib.hid (HN.out.trans hp)
              clear hz HN hp
              go_wp2_with fail
              go_round
              case rel => exact ⟨j + 1, by omega, by go_num, HN'⟩
              case measure => simp [intOf]; omega
          · have HE' := Lib.hid (show accCheck id bal l n = 0 by
              rw [HE.out, if_neg]
              have := HP.out
              rw [show j = l.length by have := HL.out; omega, List.take_length] at this
              rw [this]; simp)
            go_wp2_with fail
            go_ret
            exact ⟨ret_ii HE'.out.symm, (Below.refl _ _).alloc (Nat.le_refl _) _⟩

/-- an account handed back: its positions in a row of the call's own. -/
def RetAcc (w : World) (id bal : Int) (n : Nat) (xs : List Value) (e : Ending) (w' : World) : Prop :=
  ∃ A c, e = .returned (.agg #[.int .i64 id, .int .i64 bal, .slice A n c]) ∧ w'.ownsRow w.heap.size 3 1 (.slice A n c) n xs ∧ Below w.heap.size w w'

set_option maxHeartbeats 1000000 in
theorem accCopy_any (id bal : Int) (A : Option Addr) (n c : Nat) (l : List Int) (B : Nat) (w : World) (h : Rd w B 1 A n c (ints l)) (hB : B ≤ w.heap.size) (hb : n * 8 ≤ 140737488355328) :
    Calls Try.prog 129 #[.agg #[.int .i64 id, .int .i64 bal, .slice A n c]] w (RetAcc w id bal n (ints l)) := by
  go_enter Try.func129, Try.ntmps129
  go_wp2_with fail
  refine (clone_ints _ _ _ _ B _ ((h.alloc hB _).alloc (by simp; omega) _) (one_ints l) (by simp; omega) hb).mono ?_
  rintro e w1 ⟨v1, rfl, hown, hb1⟩
  obtain ⟨A1, c1, rfl⟩ := own_shape hown
  obtain ⟨⟨k0, k1, k2⟩, f0, f1, f2⟩ := (((Blk.new w 37 #[.int .i64 id, .int .i64 bal, .slice A n c]).alloc (.cells #[.int .i64 0, .int .i64 0, .slice none 0 0] 37)).below hb1 (by simp; omega)).c3
  obtain ⟨⟨j0, j1, j2⟩, g0, g1, g2⟩ := ((Blk.new (w.alloc (.cells #[.int .i64 id, .int .i64 bal, .slice A n c] 37)) 37 #[.int .i64 0, .int .i64 0, .slice none 0 0]).below hb1 (by simp)).c3
  simp only [World.size_alloc] at j0 j1 j2 g0 g1 g2
  have hz : w.heap.size + 1 < w1.heap.size := by have := hb1.size; simp at this; omega
  go_wp2_with fail
  refine bodyPost_ret (v := .agg #[.int .i64 id, .int .i64 bal, .slice A1 n c1]) (by simp [results, Try.results129, go_sem, *]) rfl ?_
  refine ⟨A1, c1, rfl, own_mono (base := _) ?_ (Nat.le_refl _), ?_⟩
  · refine own_mono (base := ((w.alloc (.cells #[.int .i64 id, .int .i64 bal, .slice A n c] 37)).alloc (.cells #[.int .i64 0, .int .i64 0, .slice none 0 0] 37)).heap.size) ?_ (by simp; omega)
    repeat (first | exact hown | refine ownsRow_setCell_below ?_ (by simp <;> omega) _)
  · have h0 : Below w.heap.size w w1 := (((Below.refl _ _).alloc (Nat.le_refl _) _).alloc (by simp) _).trans (hb1.mono (by simp; omega))
    repeat (first | exact h0 | refine Below.setCell ?_ (by simp) _)

end Go.Proofs.Ytockodmbhnlheaa
