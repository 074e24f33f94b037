/-
  THE WALK of the law FundNone.
-/
import Derived.Test.YtockodmbhnlheaaPaid
namespace Go.Proofs.Ytockodmbhnlheaa
open Go.RowKit

set_option maxHeartbeats 1000000 in
theorem fundNone_err (id bal : Int) (A : Option Addr) (n c : Nat) (l : List Int) (market mark rate p ep : Int) (w : World) (h : Rd w w.heap.size 1 A n c (ints l)) (hp : paysOf id bal l market mark rate = (p, ep)) (he : (ep != 0) = true) :
    Calls Try.prog 6 #[.agg #[.int .i64 id, .int .i64 bal, .slice A n c], .int .i64 market, .int .i64 mark, .int .i64 rate] w fun e w' => e = .returned (.bool true) ∧ Below w.heap.size w w' := by
  have HP := Lib.hid hp; clear hp
  go_enter Try.func6, Try.ntmps6
  go_wp2_with fail
  refine (pays_any _ _ _ _ _ _ _ _ _ _ _ (h.alloc (Nat.le_refl _) _) (by simp)).mono ?_
  rintro e w1 ⟨rfl, hb1⟩
  rw [HP.out]
  go_wp2_with fail
  refine (paid_any _).mono ?_
  rintro e w2 ⟨rfl, hb2⟩
  go_wp2_with fail
  refine (paid_any _).mono ?_
  rintro e w3 ⟨rfl, hb3⟩
  go_wp2_with fail
  go_ret
  exact ⟨rfl, ((Below.refl _ _).alloc (Nat.le_refl _) _).trans ((hb1.mono (by simp)).trans ((hb2.trans (hb3.mono hb2.size)).mono (by have := hb1.size; simp at this; omega)))⟩

set_option maxHeartbeats 1000000 in
theorem fundNone_ok (id bal : Int) (A : Option Addr) (n c : Nat) (l : List Int) (market mark rate p : Int) (w : World) (h : Rd w w.heap.size 1 A n c (ints l)) (hp : paysOf id bal l market mark rate = (p, 0)) :
    Calls Try.prog 6 #[.agg #[.int .i64 id, .int .i64 bal, .slice A n c], .int .i64 market, .int .i64 mark, .int .i64 rate] w fun e w' => e = .returned (.bool true) ∧ Below w.heap.size w w' := by
  obtain ⟨hr, hz, q, hq, hqb, hpq⟩ := pays_none hp
  have hpb := pays_bd hp
  have HP := Lib.hid hp
  have HZ := Lib.hid hz
  have HQ := Lib.hid hq
  clear hp hz hq
  go_enter Try.func6, Try.ntmps6
  go_wp2_with fail
  refine (pays_any _ _ _ _ _ _ _ _ _ _ _ (h.alloc (Nat.le_refl _) _) (by simp)).mono ?_
  rintro e w1 ⟨rfl, hb1⟩
  rw [HP.out]
  have hB1 := (Blk.new w 37 #[.int .i64 id, .int .i64 bal, .slice A n c]).below hb1 (by simp)
  have hz1 := size_two hb1
  go_wp2_with fail
  refine (paid_any _).mono ?_
  rintro e w2 ⟨rfl, hb2⟩
  have hB2 := hB1.below hb2 hz1
  have hz2 : w.heap.size < w2.heap.size := by have := hb2.size; omega
  obtain ⟨⟨q0, q1, q2⟩, _⟩ := hB2.c3
  have hw2 : Below w.heap.size w w2 := ((Below.refl _ _).alloc (Nat.le_refl _) _).trans ((hb1.mono (by simp)).trans (hb2.mono (by omega)))
  go_wp2_with fail
  refine (pays_any _ _ _ _ _ _ _ _ _ _ _ (h.below hw2) (by omega)).mono ?_
  rintro e w3 ⟨rfl, hb3⟩
  rw [HQ.out]
  clear q0 q1 q2
  have hB3 := hB2.below hb3 hz2
  have hz3 : w.heap.size < w3.heap.size := by have := hb3.size; omega
  obtain ⟨⟨q0, q1, q2⟩, _⟩ := hB3.c3
  have hw3 : Below w.heap.size w w3 := hw2.trans (hb3.mono (by omega))
  go_wp2_with fail
  refine (pays_any _ _ _ _ _ _ _ _ _ _ _ (h.below hw3) (by omega)).mono ?_
  rintro e w4 ⟨rfl, hb4⟩
  rw [HZ.out]
  have hw4 : Below w.heap.size w w4 := hw3.trans (hb4.mono (by omega))
  go_wp2_with fail
  refine (settle_any _ _ _ [] _ _ _ _ (RdL.none_ _ _ _)).mono ?_
  rw [show settleOf [] market mark rate = ([], 0, 0) by rfl]
  rintro e w5 ⟨A5, c5, rfl, _, hb5⟩
  simp only [List.length_nil]
  go_wp2_with fail
  go_ret
  exact ⟨rfl, hw4.trans (hb5.mono (by have := hw4.size; omega))⟩

theorem fundNone_walk (id bal : Int) (A : Option Addr) (n c : Nat) (l : List Int) (market mark rate : Int) (w : World) (h : Rd w w.heap.size 1 A n c (ints l)) :
    Calls Try.prog 6 #[.agg #[.int .i64 id, .int .i64 bal, .slice A n c], .int .i64 market, .int .i64 mark, .int .i64 rate] w fun e w' => e = .returned (.bool true) ∧ Below w.heap.size w w' := by
  obtain ⟨p, ep, hp⟩ : ∃ p ep, paysOf id bal l market mark rate = (p, ep) := ⟨_, _, rfl⟩
  by_cases he : ep = 0
  · subst he; exact fundNone_ok id bal A n c l market mark rate p w h hp
  · exact fundNone_err id bal A n c l market mark rate p ep w h hp (by simpa using he)

end Go.Proofs.Ytockodmbhnlheaa
