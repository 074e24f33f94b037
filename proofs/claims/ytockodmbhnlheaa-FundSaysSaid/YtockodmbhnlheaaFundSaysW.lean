/-
  THE WALK of the law FundSays.
-/
import Derived.Test.YtockodmbhnlheaaSettled
import Derived.Test.YtockodmbhnlheaaPaid
namespace Go.Proofs.Ytockodmbhnlheaa
open Go.RowKit

/-- two lists of accounts, alike one by one. -/
def eqAccs : List Ac → List Ac → Bool
  | [], [] => true
  | a :: L, b :: M => sameAc a b && eqAccs L M
  | _, _ => false
theorem eqAccs_len : ∀ {L M : List Ac}, L.length ≠ M.length → eqAccs L M = false
  | [], [], h => absurd rfl h
  | _ :: _, [], _ => rfl
  | [], _ :: _, _ => rfl
  | a :: L, b :: M, h => by simp only [eqAccs]; rw [eqAccs_len (L := L) (M := M) (by simpa using h)]; simp
theorem eqAccs_at : ∀ {L M : List Ac} {j : Nat} {a b : Ac}, L[j]? = some a → M[j]? = some b → eqAccs (L.drop j) (M.drop j) = (sameAc a b && eqAccs (L.drop (j + 1)) (M.drop (j + 1)))
  | [], _, _, _, _, h, _ => by simp at h
  | _ :: _, [], _, _, _, _, h => by simp at h
  | x :: L, y :: M, 0, a, b, h, h' => by simp at h h'; subst h h'; rfl
  | x :: L, y :: M, j + 1, a, b, h, h' => by
    have := eqAccs_at (L := L) (M := M) (j := j) (a := a) (b := b) (by simpa using h) (by simpa using h')
    simpa using this
theorem sameAc_refl (a : Ac) : sameAc a a = true := by simp [sameAc, eqI]
theorem eqAccs_refl : ∀ (L : List Ac), eqAccs L L = true
  | [] => rfl
  | a :: L => by simp [eqAccs, sameAc_refl, eqAccs_refl L]

set_option maxHeartbeats 1000000 in
theorem eqfunc_accs (A A' : Option Addr) (n n' c c' : Nat) (L M : List Ac) (B B' : Nat) (w : World) (h : RdL shAcc w B A n c L) (h' : RdL shAcc w B' A' n' c' M) (hB : B ≤ w.heap.size) (hB' : B' ≤ w.heap.size) :
    Calls Try.prog 54 #[.slice A n c, .slice A' n' c', .func (.func 52) #[] #[]] w fun e w' => e = .returned (.bool (eqAccs L M)) ∧ Below w.heap.size w w' := by
  have hle := h.le
  have hcap := h.cap
  unfold maxLen at hcap
  by_cases hn : n = n'
  · subst hn
    have HL := Lib.hid h.len
    have HL' := Lib.hid h'.len
    go_enter Try.func54, Try.ntmps54
    go_wp2_with fail
    go_loopw [17] (fun i wr => ∃ (j : Nat), j ≤ n ∧ i = .int .i64 j ∧ Below w.heap.size w wr ∧ Hid (eqAccs (L.drop j) (M.drop j) = eqAccs L M)) (fun i _ => n - (intOf i).toNat)
    case atStart => exact ⟨0, Nat.zero_le _, rfl, Below.refl _ _, rfl⟩
    case round =>
      obtain ⟨j, hj, rfl, hbr, HT⟩ := hrel
      have hws := hbr.size
      by_cases hlt : j < n
      · obtain ⟨b, o, a, rfl, hb, ha, A2, c2, k0, k1, k2, k3, k4⟩ := acc_at (h.below (hbr.mono hB)) hlt
        obtain ⟨b', o', a', rfl, hb', ha', A2', c2', k0', k1', k2', k3', k4'⟩ := acc_at (h'.below (hbr.mono hB')) hlt
        have HS := Lib.hid (HT.out.symm.trans (eqAccs_at ha ha'))
        have x1 : b < wr.heap.size := by omega
        have x2 : b' < wr.heap.size := by omega
        clear ha ha'
        go_wp2_with fail
        refine (rsame_any a a' _ _ _ _ _ _ _ ((k3.alloc (by omega) _).alloc (by simp; omega) _) ((k3'.alloc (by omega) _).alloc (by simp; omega) _) (by simp; omega) (by simp; omega)).mono ?_
        rintro e w2 ⟨rfl, hb2⟩
        have hb3 : Below w.heap.size w w2 := ((hbr.alloc hws _).alloc (by simp; omega) _).trans (hb2.mono (by simp; omega))
        rcases bool_cases (sameAc a a') with m1 | m1
        · have HE := Lib.hid (show eqAccs L M = false by rw [HS.out, m1]; rfl)
          go_wp2_with fail
          go_ret
          exact ⟨ret_bb (by rw [HE.out]), hb3⟩
        · have HE := Lib.hid (show eqAccs (L.drop (j + 1)) (M.drop (j + 1)) = eqAccs L M by rw [HS.out, m1]; rfl)
          clear hb2
          go_wp2_with fail
          go_roundw
          case rel => exact ⟨j + 1, by omega, by go_num, hb3, HE⟩
          case measure => simp [intOf]; omega
      · have hjn : j = n := by omega
        have HE := Lib.hid (show eqAccs L M = true by
          have := HT.out
          rw [hjn, List.drop_eq_nil_of_le (by have := HL.out; omega), List.drop_eq_nil_of_le (by have := HL'.out; omega)] at this
          rw [← this]; rfl)
        clear hjn
        go_wp2_with fail
        go_ret
        exact ⟨ret_bb (by rw [HE.out]), hbr⟩
  · have HE := Lib.hid (eqAccs_len (L := L) (M := M) (by rw [h.len, h'.len]; exact hn))
    have hne : ((n : Int) != (n' : Int)) = true := by simp; omega
    go_enter Try.func54, Try.ntmps54
    go_wp2_with fail
    go_ret
    exact ⟨ret_bb (by rw [HE.out]), Below.refl _ _⟩

set_option maxRecDepth 100000 in
set_option maxHeartbeats 2000000 in
theorem fundSays_walk (A : Option Addr) (n c : Nat) (L : List Ac) (market mark rate : Int) (w : World) (h : RdL shAcc w w.heap.size A n c L) :
    Calls Try.prog 10 #[.slice A n c, .int .i64 market, .int .i64 mark, .int .i64 rate] w fun e w' => e = .returned (.bool true) ∧ Below w.heap.size w w' := by
  have hle := h.le
  have hcap := h.cap
  have HL := Lib.hid h.len
  unfold maxLen at hcap
  obtain ⟨out, left, er, hs⟩ : ∃ out left er, settleOf L market mark rate = (out, left, er) := ⟨_, _, _, rfl⟩
  have HS := Lib.hid hs
  clear hs
  go_enter Try.func10, Try.ntmps10
  go_wp2_with fail
  refine (settle_any _ _ _ _ _ _ _ _ h).mono ?_
  rw [HS.out]
  rintro e w1 ⟨A1, c1, rfl, h1, hb1⟩
  have hw1 := hb1.size
  go_wp2_with fail
  refine (rsettle_any _ _ _ _ _ _ _ _ _ (h.below hb1) hw1).mono ?_
  rw [HS.out]
  rintro e w2 ⟨A2, c2, rfl, h2, hb2⟩
  have hw2 := hb2.size
  simp only at h1 h2
  go_wp2_with fail
  refine (paid_any _).mono ?_
  rintro e w3 ⟨rfl, hb3⟩
  have hw3 := hb3.size
  have v1 : (er != er) = false := by simp
  have v2 : (left != left) = false := by simp
  go_wp2_with fail
  refine (eqfunc_accs _ _ _ _ _ _ _ _ _ _ _ ((h1.below hb2).below (hb3.mono hw2)) (h2.below hb3) (by omega) (by omega)).mono ?_
  rw [eqAccs_refl]
  rintro e w4 ⟨rfl, hb4⟩
  have h9 : Below w.heap.size w w4 := ((hb1.trans (hb2.mono hw1)).trans (hb3.mono (by omega))).trans (hb4.mono (by omega))
  clear hb1 hb2 hb3 hb4 h1 h2 v1 v2
  go_wp2_with fail
  go_loopw [59] (fun i wr => ∃ (j : Nat), j ≤ n ∧ i = .int .i64 j ∧ Below w.heap.size w wr) (fun i _ => n - (intOf i).toNat)
  case atStart => exact ⟨0, Nat.zero_le _, rfl, h9⟩
  case round =>
    obtain ⟨j, hj, rfl, hbr⟩ := hrel
    have hws := hbr.size
    by_cases hlt : j < n
    · obtain ⟨b, o, a, rfl, hb, ha, A2, c2, k0, k1, k2, k3, k4⟩ := acc_at (h.below hbr) hlt
      have x1 : b < wr.heap.size := by omega
      clear ha
      obtain ⟨p, ep, hp⟩ : ∃ p ep, paysOf a.id a.bal a.pos market mark rate = (p, ep) := ⟨_, _, rfl⟩
      have HP := Lib.hid hp
      clear hp
      go_wp2_with fail
      refine (pays_any _ _ _ _ _ _ _ _ _ _ _ (k3.alloc (by omega) _) (by simp; omega)).mono ?_
      rintro e w5 ⟨rfl, hb5⟩
      rw [HP.out]
      obtain ⟨⟨q0, q1, q2⟩, _⟩ := ((Blk.new wr 37 #[.int .i64 a.id, .int .i64 a.bal, .slice A2 a.pos.length c2]).below hb5 (by simp)).c3
      have hw5 := size_two hb5
      have hb6 : Below wr.heap.size wr w5 := ((Below.refl _ _).alloc (Nat.le_refl _) _).trans (hb5.mono (by simp))
      clear hb5
      go_wp2_with fail
      refine (rpays_any _ _ _ _ _ _ _ _ _ _ _ (k3.below (hb6.mono (by omega))) (by omega)).mono ?_
      rintro e w7 ⟨rfl, hb7⟩
      rw [HP.out]
      have v1 : (p != p) = false := by simp
      have v2 : (ep != ep) = false := by simp
      have h10 : Below w.heap.size w w7 := (hbr.trans (hb6.mono hws)).trans (hb7.mono (by omega))
      clear hb7
      go_wp2_with fail
      go_roundw
      case rel => exact ⟨j + 1, by omega, by go_num, h10⟩
      case measure => simp [intOf]; omega
    · go_wp2_with fail
      go_ret
      exact ⟨rfl, hbr⟩

end Go.Proofs.Ytockodmbhnlheaa
