/-
  THE WALKS over the document's answers to chapter 4: accounts are checked, copied, alike.
-/
import Derived.Test.YtockodmbhnlheaaRefFix
import Derived.Test.YtockodmbhnlheaaAcc
import Derived.Test.YtockodmbhnlheaaSame
namespace Go.Proofs.Ytockodmbhnlheaa
open Go.RowKit

set_option maxHeartbeats 1000000 in
theorem rcheck_any (id bal : Int) (A : Option Addr) (n c : Nat) (l : List Int) (m : Int) (B : Nat) (w : World) (h : Rd w B 1 A n c (ints l)) (hB : B ≤ w.heap.size) :
    Calls Try.prog 50 #[.agg #[.int .i64 id, .int .i64 bal, .slice A n c], .int .i64 m] w fun e w' => e = .returned (.int .i64 (accCheck id bal l m)) ∧ Below w.heap.size w w' := by
  have hle := h.le
  have hcap := h.cap
  have hl := h.ofInts
  unfold maxLen at hcap
  by_cases h1 : id < 0 ∨ 8 ≤ id
  · have HE := Lib.hid (show accCheck id bal l m = 5 by unfold accCheck; rw [if_pos h1])
    have h1 : id < 0 ∨ 0 ≤ id ∧ 7 < id := by omega
    clear hl
    rcases h1 with h1 | ⟨h1, h1'⟩
    all_goals
      go_enter Try.func50, Try.ntmps50
      go_wp2_with fail
      go_ret
      exact ⟨ret_ii HE.out.symm, (Below.refl _ _).alloc (Nat.le_refl _) _⟩
  · have h5 : 0 ≤ id ∧ id ≤ 7 := by omega
    obtain ⟨h6, h7⟩ := h5
    by_cases h2 : m < 1 ∨ 2 < m ∨ (l.length : Int) ≠ m
    · have HE := Lib.hid (show accCheck id bal l m = 4 by unfold accCheck; rw [if_neg h1, if_pos h2])
      have h3 : ((m != 1) = true ∧ (m != 2) = true) ∨ ((m != 1) = false ∧ ((n : Int) != m) = true) ∨ ((m != 1) = true ∧ (m != 2) = false ∧ ((n : Int) != m) = true) := by
        by_cases a1 : m = 1
        · exact .inr (.inl ⟨by simpa using a1, by simp; omega⟩)
        · by_cases a2 : m = 2
          · exact .inr (.inr ⟨by simpa using a1, by simpa using a2, by simp; omega⟩)
          · exact .inl ⟨by simpa using a1, by simpa using a2⟩
      clear h1 h2 hl
      rcases h3 with ⟨h3, h4⟩ | ⟨h3, h4⟩ | ⟨h3, h4, h5⟩
      all_goals
        go_enter Try.func50, Try.ntmps50
        go_wp2_with fail
        go_ret
        exact ⟨ret_ii HE.out.symm, (Below.refl _ _).alloc (Nat.le_refl _) _⟩
    · obtain rfl : m = (n : Int) := by omega
      have hn2 : n ≤ 2 := by omega
      have h8 : (((n : Int) != 1) = false) ∨ (((n : Int) != 1) = true ∧ ((n : Int) != 2) = false) := by
        by_cases a1 : (n : Int) = 1
        · exact .inl (by simpa using a1)
        · exact .inr ⟨by simpa using a1, by simp; omega⟩
      have HL := Lib.hid hl
      have HN1 := Lib.hid h1
      have HN2 := Lib.hid h2
      clear h1 h2 hl
      cases hm : isMoney bal
      · have HE := Lib.hid (show accCheck id bal l n = 3 by unfold accCheck; rw [if_neg HN1.out, if_neg HN2.out, if_pos hm])
        rcases h8 with h8 | ⟨h8, h9⟩
        all_goals
          go_enter Try.func50, Try.ntmps50
          go_wp2_with (go_at_call 79; refine (rmoney_any _ _).mono ?_; rintro e w' ⟨rfl, rfl⟩)
          go_ret
          exact ⟨ret_ii HE.out.symm, (Below.refl _ _).alloc (Nat.le_refl _) _⟩
      · have HE := Lib.hid (show accCheck id bal l n = if posOk l = false then 3 else 0 by unfold accCheck; rw [if_neg HN1.out, if_neg HN2.out, if_neg (by rw [hm]; simp)])
        rcases h8 with h8 | ⟨h8, h9⟩
        all_goals
          go_enter Try.func50, Try.ntmps50
          go_wp2_with (go_at_call 79; refine (rmoney_any _ _).mono ?_; rintro e w' ⟨rfl, rfl⟩)
          go_loop [35] (fun i => ∃ j : Nat, j ≤ n ∧ i = .int .i64 j ∧ Hid (posOk (l.take j) = true)) (fun i => n - (intOf i).toNat)
          case atStart => exact ⟨0, Nat.zero_le _, rfl, rfl⟩
          case round =>
            obtain ⟨j, hj, rfl, HP⟩ := hrel
            by_cases hlt : j < n
            · obtain ⟨b, o, rfl, hb, z, hz, hc⟩ := h.int hlt
              have hbw : b < w.heap.size := by omega
              have HN := Lib.hid (posOk_next hz HP.out)
              cases hp : posOk1 z
              · have HE' := Lib.hid (show accCheck id bal l n = 3 by rw [HE.out, if_pos (posOk_bad hz hp)])
                clear hz HN
                rcases posOk1_not.1 hp with hp' | hp'
                · go_wp2_with fail
                  go_ret
                  exact ⟨ret_ii HE'.out.symm, (Below.refl _ _).alloc (Nat.le_refl _) _⟩
                · have hp3 : -1000 ≤ z := by omega
                  go_wp2_with fail
                  go_ret
                  exact ⟨ret_ii HE'.out.symm, (Below.refl _ _).alloc (Nat.le_refl _) _⟩
              · obtain ⟨hp1, hp2⟩ := posOk1_iff.1 hp
                have HN' := Lib.hid (HN.out.trans hp)
                clear hz HN hp
                go_wp2_with fail
                go_round
                case rel => exact ⟨j + 1, by omega, by go_num, HN'⟩
                case measure => simp [intOf]; omega
            · have HE' := Lib.hid (show accCheck id bal l n = 0 by
                rw [HE.out, if_neg]
                have := HP.out
                rw [show j = l.length by have := HL.out; omega, List.take_length] at this
                rw [this]; simp)
              go_wp2_with fail
              go_ret
              exact ⟨ret_ii HE'.out.symm, (Below.refl _ _).alloc (Nat.le_refl _) _⟩

set_option maxHeartbeats 1000000 in
theorem rsame_any (a b : Ac) (A A' : Option Addr) (c c' : Nat) (B B' : Nat) (w : World) (h : Rd w B 1 A a.pos.length c (ints a.pos)) (h' : Rd w B' 1 A' b.pos.length c' (ints b.pos)) (hB : B ≤ w.heap.size) (hB' : B' ≤ w.heap.size) :
    Calls Try.prog 52 #[.agg #[.int .i64 a.id, .int .i64 a.bal, .slice A a.pos.length c], .agg #[.int .i64 b.id, .int .i64 b.bal, .slice A' b.pos.length c']] w fun e w' => e = .returned (.bool (sameAc a b)) ∧ Below w.heap.size w w' := by
  by_cases h1 : a.id = b.id
  · by_cases h2 : a.bal = b.bal
    · have HE := Lib.hid (show sameAc a b = eqI a.pos b.pos by simp [sameAc, h1, h2])
      have h1' : (a.id == b.id) = true := by simpa using h1
      have h2' : (a.bal == b.bal) = true := by simpa using h2
      clear h1 h2
      go_enter Try.func52, Try.ntmps52
      go_wp2_with fail
      refine (equal_ints _ _ _ _ _ _ _ _ _ _ _ ((h.alloc hB _).alloc (by simp; omega) _) ((h'.alloc hB' _).alloc (by simp; omega) _)).mono ?_
      rintro e w1 ⟨rfl, q, rfl⟩
      go_wp2_with fail
      go_ret
      exact ⟨ret_bb (by rw [HE.out]), below_drewN (((Below.refl _ _).alloc (Nat.le_refl _) _).alloc (by simp) _) q⟩
    · have HE := Lib.hid (show sameAc a b = false by simp [sameAc, h2])
      have h1' : (a.id == b.id) = true := by simpa using h1
      have h2' : (a.bal == b.bal) = false := by simpa using h2
      clear h1 h2
      go_enter Try.func52, Try.ntmps52
      go_wp2_with fail
      go_ret
      exact ⟨ret_bb (by rw [HE.out]), ((Below.refl _ _).alloc (Nat.le_refl _) _).alloc (by simp) _⟩
  · have HE := Lib.hid (show sameAc a b = false by simp [sameAc, h1])
    have h1' : (a.id == b.id) = false := by simpa using h1
    clear h1
    go_enter Try.func52, Try.ntmps52
    go_wp2_with fail
    go_ret
    exact ⟨ret_bb (by rw [HE.out]), ((Below.refl _ _).alloc (Nat.le_refl _) _).alloc (by simp) _⟩

end Go.Proofs.Ytockodmbhnlheaa
