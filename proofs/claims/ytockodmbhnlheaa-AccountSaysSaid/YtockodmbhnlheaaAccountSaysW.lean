/-
  THE WALK of the law AccountSays.
-/
import Derived.Test.YtockodmbhnlheaaTraded
import Derived.Test.YtockodmbhnlheaaREquity
import Derived.Test.YtockodmbhnlheaaCounted
import Derived.Test.YtockodmbhnlheaaSame
import Derived.Deep.RegionHeld3
import Derived.Deep.DeepCutAuto
namespace Go.Proofs.Ytockodmbhnlheaa
open Go.RowKit

theorem below_next {w0 W W' : World} (hb : Below W.heap.size W W') (h : Below w0.heap.size w0 W) : Below w0.heap.size w0 W' := h.trans (hb.mono h.size)
theorem le_up {w0 W : World} {B : Nat} (h : B ≤ w0.heap.size) (h' : Below w0.heap.size w0 W) : B ≤ W.heap.size := Nat.le_trans h h'.size
theorem le_of {w w0 W : World} (h : Below w.heap.size w w0) (h' : Below w0.heap.size w0 W) : w.heap.size ≤ W.heap.size := Nat.le_trans h.size h'.size
theorem below_far {w w0 W : World} (h : Below w.heap.size w w0) (h' : Below w0.heap.size w0 W) : Below w.heap.size w W := h.trans (h'.mono h.size)
theorem below_drew {w0 W : World} (h : Below w0.heap.size w0 W) : Below w0.heap.size w0 W.drew := below_drewN h 1
theorem sameAc_self (a : Ac) : sameAc a a = true := by simp [sameAc, eqI]
theorem rsame_self (a : Ac) (A A' : Option Addr) (c c' : Nat) (B B' : Nat) (w : World) (h : Rd w B 1 A a.pos.length c (ints a.pos)) (h' : Rd w B' 1 A' a.pos.length c' (ints a.pos)) (hB : B ≤ w.heap.size) (hB' : B' ≤ w.heap.size) :
    Calls Try.prog 52 #[.agg #[.int .i64 a.id, .int .i64 a.bal, .slice A a.pos.length c], .agg #[.int .i64 a.id, .int .i64 a.bal, .slice A' a.pos.length c']] w fun e w' => e = .returned (.bool true) ∧ Below w.heap.size w w' := by
  have := rsame_any a a A A' c c' B B' w h h' hB hB'
  rwa [sameAc_self] at this

set_option maxRecDepth 100000 in
set_option maxHeartbeats 4000000 in
theorem accountSays_walk (a : Ac) (A : Option Addr) (c : Nat) (markets market qty price fee : Int) (A2 : Option Addr) (n2 c2 : Nat) (marks : List Int) (b : Ac) (A' : Option Addr) (c' : Nat) (w : World)
    (ha : Rd w w.heap.size 1 A a.pos.length c (ints a.pos)) (hsa : c * 8 ≤ reachBytes) (hm : Rd w w.heap.size 1 A2 n2 c2 (ints marks)) (hb : Rd w w.heap.size 1 A' b.pos.length c' (ints b.pos)) :
    Calls Try.prog 9 #[.agg #[.int .i64 a.id, .int .i64 a.bal, .slice A a.pos.length c], .int .i64 markets, .int .i64 market, .int .i64 qty, .int .i64 price, .int .i64 fee, .slice A2 n2 c2, .agg #[.int .i64 b.id, .int .i64 b.bal, .slice A' b.pos.length c']] w fun e w' => e = .returned (.bool true) ∧ Below w.heap.size w w' := by
  have hlen : a.pos.length * 8 ≤ 140737488355328 := by
    have := ha.le
    unfold reachBytes at hsa
    omega
  obtain ⟨x, ex, hx⟩ : ∃ x ex, tradeOf a market qty price fee = (x, ex) := ⟨_, _, rfl⟩
  obtain ⟨n, en, hn⟩ : ∃ n en, equityOf a marks = (n, en) := ⟨_, _, rfl⟩
  obtain ⟨k, ek, hk⟩ : ∃ k ek, feeOf qty price = (k, ek) := ⟨_, _, rfl⟩
  have HX := Lib.hid hx
  have HN := Lib.hid hn
  have HK := Lib.hid hk
  clear hx hn hk hsa
  go_enter Try.func9, Try.ntmps9
  go_wp2_with fail
  refine (rown_any _ _ _ _ _ _ _ _ ((ha.alloc (Nat.le_refl _) _).alloc (by simp) _) (by simp; omega) hlen).mono ?_
  rintro e w1 ⟨A1, c1, rfl, h1, hb1⟩
  have hs1 : w.heap.size + 1 < w1.heap.size := by have := hb1.size; simp at this; omega
  have h91 : Below w.heap.size w w1 := (((Below.refl _ _).alloc (Nat.le_refl _) _).alloc (by simp) _).trans (hb1.mono (by simp; omega))
  have Ba1 := Lib.hid (((Blk.new w 37 #[.int .i64 a.id, .int .i64 a.bal, .slice A a.pos.length c]).alloc (.cells #[.int .i64 b.id, .int .i64 b.bal, .slice A' b.pos.length c'] 37)).below hb1 (by simp; omega))
  have Bb1 := Lib.hid ((Blk.new_at (w.alloc (.cells #[.int .i64 a.id, .int .i64 a.bal, .slice A a.pos.length c] 37)) 37 #[.int .i64 b.id, .int .i64 b.bal, .slice A' b.pos.length c'] (w.heap.size + 1) (by simp)).below hb1 (by simp))
  have ro1 : Rd w1 w1.heap.size 1 A1 a.pos.length c1 (ints a.pos) := Rd.of_own h1
  clear h1 hb1
  go_wp2_with fail
  refine (trade_any a _ _ _ _ _ _ _ _ (ro1.alloc (Nat.le_refl _) _) (by simp)).mono ?_
  rw [HX.out]
  rintro e w2 ⟨Ax, cx, rfl, h2, hb2⟩
  have hs2 : w1.heap.size < w2.heap.size := by have := hb2.size; simp at this; omega
  have h92 : Below w.heap.size w w2 := (h91.alloc (by omega) _).trans (hb2.mono (by simp; omega))
  have Ba2 := Lib.hid ((Ba1.out.alloc (.cells #[.int .i64 a.id, .int .i64 a.bal, .slice A1 a.pos.length c1] 37)).below hb2 (by simp; omega))
  have Bb2 := Lib.hid ((Bb1.out.alloc (.cells #[.int .i64 a.id, .int .i64 a.bal, .slice A1 a.pos.length c1] 37)).below hb2 (by simp; omega))
  have Bo2 := Lib.hid ((Blk.new w1 37 #[.int .i64 a.id, .int .i64 a.bal, .slice A1 a.pos.length c1]).below hb2 (by simp))
  have ro2 := (ro1.alloc (Nat.le_refl _) (.cells #[.int .i64 a.id, .int .i64 a.bal, .slice A1 a.pos.length c1] 37)).below (hb2.mono (by simp))
  have rx2 : Rd w2 w2.heap.size 1 Ax x.pos.length cx (ints x.pos) := Rd.of_own h2
  clear h2 hb2 ro1 Ba1 Bb1 h91
  obtain ⟨⟨o0, o1, o2⟩, _⟩ := Bo2.out.c3
  go_wp2_with fail
  refine (equity_any a _ _ _ _ _ marks _ _ _ (ro2.alloc (by omega) _) (by simp; omega) ((hm.below h92).alloc (by omega) _) (by simp; omega)).mono ?_
  rw [HN.out]
  rintro e w3 ⟨rfl, hb3⟩
  have hs3 : w2.heap.size < w3.heap.size := by have := hb3.size; simp at this; omega
  have h93 : Below w.heap.size w w3 := (h92.alloc (by omega) _).trans (hb3.mono (by simp; omega))
  have Ba3 := Lib.hid ((Ba2.out.alloc (.cells #[.int .i64 x.id, .int .i64 x.bal, .slice Ax x.pos.length cx] 37)).below hb3 (by simp; omega))
  have Bb3 := Lib.hid ((Bb2.out.alloc (.cells #[.int .i64 x.id, .int .i64 x.bal, .slice Ax x.pos.length cx] 37)).below hb3 (by simp; omega))
  have Bo3 := Lib.hid ((Bo2.out.alloc (.cells #[.int .i64 x.id, .int .i64 x.bal, .slice Ax x.pos.length cx] 37)).below hb3 (by simp; omega))
  have Bx3 := Lib.hid ((Blk.new w2 37 #[.int .i64 x.id, .int .i64 x.bal, .slice Ax x.pos.length cx]).below hb3 (by simp))
  have ro3 := (ro2.alloc (by omega) (.cells #[.int .i64 x.id, .int .i64 x.bal, .slice Ax x.pos.length cx] 37)).below (hb3.mono (by simp; omega))
  have rx3 := (rx2.alloc (Nat.le_refl _) (.cells #[.int .i64 x.id, .int .i64 x.bal, .slice Ax x.pos.length cx] 37)).below (hb3.mono (by simp))
  clear hb3 ro2 rx2 Ba2 Bb2 Bo2 h92 o0 o1 o2
  obtain ⟨⟨a0, a1, a2⟩, _⟩ := Ba3.out.c3
  go_wp2_with fail
  refine (fee_any _ _ _).mono ?_
  rw [HK.out]
  rintro e w' ⟨rfl, rfl⟩
  go_wp2_with fail
  refine (traded_any a _ _ _ _ _ _ _ _ (ha.below h93) (by omega)).mono ?_
  rw [HX.out]
  rintro e w4 ⟨AX, cX, rfl, h4, hb4⟩
  have hs4 := hb4.size
  have h94 : Below w.heap.size w w4 := h93.trans (hb4.mono (by omega))
  have Ba4 := Lib.hid (Ba3.out.below hb4 (by omega))
  have Bb4 := Lib.hid (Bb3.out.below hb4 (by omega))
  have Bo4 := Lib.hid (Bo3.out.below hb4 (by omega))
  have Bx4 := Lib.hid (Bx3.out.below hb4 (by omega))
  have ro4 := ro3.below (hb4.mono (by omega))
  have rx4 := rx3.below (hb4.mono (by omega))
  have rX4 : Rd w4 w4.heap.size 1 AX x.pos.length cX (ints x.pos) := Rd.of_own h4
  clear hb4 ro3 rx3 Ba3 Bb3 Bo3 Bx3 h4 h93 a0 a1 a2
  obtain ⟨⟨a0, a1, a2⟩, _⟩ := Ba4.out.c3
  have z0 : w.heap.size < w4.heap.size := by omega
  go_wp2_with fail
  refine (requity_any a _ _ _ _ _ marks _ _ _ ((ha.below h94).alloc (by omega) _) (by simp; omega) ((hm.below h94).alloc (by omega) _) (by simp; omega)).mono ?_
  rw [HN.out]
  rintro e w5 ⟨rfl, hb5⟩
  have hs5 : w4.heap.size < w5.heap.size := by have := hb5.size; simp at this; omega
  have h95 : Below w.heap.size w w5 := (h94.alloc (by omega) _).trans (hb5.mono (by simp; omega))
  have Ba5 := Lib.hid ((Ba4.out.alloc (.cells #[.int .i64 x.id, .int .i64 x.bal, .slice AX x.pos.length cX] 37)).below hb5 (by simp; omega))
  have Bb5 := Lib.hid ((Bb4.out.alloc (.cells #[.int .i64 x.id, .int .i64 x.bal, .slice AX x.pos.length cX] 37)).below hb5 (by simp; omega))
  have Bo5 := Lib.hid ((Bo4.out.alloc (.cells #[.int .i64 x.id, .int .i64 x.bal, .slice AX x.pos.length cX] 37)).below hb5 (by simp; omega))
  have Bx5 := Lib.hid ((Bx4.out.alloc (.cells #[.int .i64 x.id, .int .i64 x.bal, .slice AX x.pos.length cX] 37)).below hb5 (by simp; omega))
  have BX5 := Lib.hid ((Blk.new w4 37 #[.int .i64 x.id, .int .i64 x.bal, .slice AX x.pos.length cX]).below hb5 (by simp))
  have ro5 := (ro4.alloc (by omega) (.cells #[.int .i64 x.id, .int .i64 x.bal, .slice AX x.pos.length cX] 37)).below (hb5.mono (by simp; omega))
  have rx5 := (rx4.alloc (by omega) (.cells #[.int .i64 x.id, .int .i64 x.bal, .slice AX x.pos.length cX] 37)).below (hb5.mono (by simp; omega))
  have rX5 := (rX4.alloc (Nat.le_refl _) (.cells #[.int .i64 x.id, .int .i64 x.bal, .slice AX x.pos.length cX] 37)).below (hb5.mono (by simp))
  have ra5 := ha.below h95
  have rb5 := hb.below h95
  clear hb5 ro4 rx4 rX4 Ba4 Bb4 Bo4 Bx4 h94 a0 a1 a2 z0 ha hb hm
  go_wp2_with fail
  refine (rfee_any _ _ _).mono ?_
  rw [HK.out]
  rintro e w' ⟨rfl, rfl⟩
  go_upto_region 8 with (fail)
  obtain ⟨pa, hpa⟩ : ∃ p, p = w.heap.size := ⟨_, rfl⟩
  obtain ⟨pb, hpb⟩ : ∃ p, p = w.heap.size + 1 := ⟨_, rfl⟩
  obtain ⟨po, hpo⟩ : ∃ p, p = w1.heap.size := ⟨_, rfl⟩
  obtain ⟨px, hpx⟩ : ∃ p, p = w2.heap.size := ⟨_, rfl⟩
  obtain ⟨pX, hpX⟩ : ∃ p, p = w4.heap.size := ⟨_, rfl⟩
  have KS : Hid (∀ W, Below w5.heap.size w5 W → Below w5.heap.size w5 W ∧ (W.cell? ⟨pa, 0, none⟩ = some (.int .i64 a.id) ∧ W.cell? ⟨pa, 1, none⟩ = some (.int .i64 a.bal) ∧ W.cell? ⟨pa, 2, none⟩ = some (.slice A a.pos.length c)) ∧
    (W.cell? ⟨pb, 0, none⟩ = some (.int .i64 b.id) ∧ W.cell? ⟨pb, 1, none⟩ = some (.int .i64 b.bal) ∧ W.cell? ⟨pb, 2, none⟩ = some (.slice A' b.pos.length c')) ∧
    (W.cell? ⟨po, 0, none⟩ = some (.int .i64 a.id) ∧ W.cell? ⟨po, 1, none⟩ = some (.int .i64 a.bal) ∧ W.cell? ⟨po, 2, none⟩ = some (.slice A1 a.pos.length c1)) ∧
    (W.cell? ⟨px, 0, none⟩ = some (.int .i64 x.id) ∧ W.cell? ⟨px, 1, none⟩ = some (.int .i64 x.bal) ∧ W.cell? ⟨px, 2, none⟩ = some (.slice Ax x.pos.length cx)) ∧
    (W.cell? ⟨pX, 0, none⟩ = some (.int .i64 x.id) ∧ W.cell? ⟨pX, 1, none⟩ = some (.int .i64 x.bal) ∧ W.cell? ⟨pX, 2, none⟩ = some (.slice AX x.pos.length cX))) := by
    intro W hW
    rw [hpa, hpb, hpo, hpx, hpX]
    exact ⟨hW, (Ba5.out.below hW (by omega)).c3.1, (Bb5.out.below hW (by omega)).c3.1, (Bo5.out.below hW (by omega)).c3.1, (Bx5.out.below hW (by omega)).c3.1, (BX5.out.below hW (by omega)).c3.1⟩
  rw [← hpb, ← hpa, ← hpo, ← hpx, ← hpX]
  have z1 : w.heap.size ≤ w5.heap.size := by omega
  have z2 : w1.heap.size ≤ w5.heap.size := by omega
  have z3 : w2.heap.size ≤ w5.heap.size := by omega
  have z4 : w4.heap.size ≤ w5.heap.size := by omega
  have h50 : Below w5.heap.size w5 w5 := Below.refl _ _
  have v1 : (ex == ex) = true := by simp
  have v2 : (n == n) = true := by simp
  have v3 : (en == en) = true := by simp
  have v4 : (k == k) = true := by simp
  have v5 : (ek == ek) = true := by simp
  have v6 : (accCheck a.id a.bal a.pos markets == accCheck a.id a.bal a.pos markets) = true := by simp
  have v7 : (sameAc a b == sameAc a b) = true := by simp
  clear hpa hpb hpo hpx hpX Ba5 Bb5 Bo5 Bx5 BX5 hs1 hs2 hs3 hs4 hs5
  go_region_held3 (fun W => Below w5.heap.size w5 W ∧ (W.cell? ⟨pa, 0, none⟩ = some (.int .i64 a.id) ∧ W.cell? ⟨pa, 1, none⟩ = some (.int .i64 a.bal) ∧ W.cell? ⟨pa, 2, none⟩ = some (.slice A a.pos.length c)) ∧
    (W.cell? ⟨pb, 0, none⟩ = some (.int .i64 b.id) ∧ W.cell? ⟨pb, 1, none⟩ = some (.int .i64 b.bal) ∧ W.cell? ⟨pb, 2, none⟩ = some (.slice A' b.pos.length c')) ∧
    (W.cell? ⟨po, 0, none⟩ = some (.int .i64 a.id) ∧ W.cell? ⟨po, 1, none⟩ = some (.int .i64 a.bal) ∧ W.cell? ⟨po, 2, none⟩ = some (.slice A1 a.pos.length c1)) ∧
    (W.cell? ⟨px, 0, none⟩ = some (.int .i64 x.id) ∧ W.cell? ⟨px, 1, none⟩ = some (.int .i64 x.bal) ∧ W.cell? ⟨px, 2, none⟩ = some (.slice Ax x.pos.length cx)) ∧
    (W.cell? ⟨pX, 0, none⟩ = some (.int .i64 x.id) ∧ W.cell? ⟨pX, 1, none⟩ = some (.int .i64 x.bal) ∧ W.cell? ⟨pX, 2, none⟩ = some (.slice AX x.pos.length cX)))
    (first | (exact KS.out _ (by assumption)) | (exact KS.out _ (below_drew (by assumption))))
    ((first
      | (go_at_call 42; go_split_ands; (with_reducible refine (counted_any _).mono ?_); rintro e W' ⟨rfl, hb⟩; have hB := below_next hb (by assumption))
      | (go_at_call 49; go_split_ands; (with_reducible refine (accCheck_any _ _ _ _ _ _ _ _ _ (ra5.below (Below.mono (by assumption) z1)) (le_of h95 (by assumption))).mono ?_); rintro e W' ⟨rfl, hb⟩; have hB := below_next hb (by assumption))
      | (go_at_call 50; go_split_ands; (with_reducible refine (rcheck_any _ _ _ _ _ _ _ _ _ (ra5.below (Below.mono (by assumption) z1)) (le_of h95 (by assumption))).mono ?_); rintro e W' ⟨rfl, hb⟩; have hB := below_next hb (by assumption))
      | (go_at_call 51; go_split_ands; (with_reducible refine (same_any a b _ _ _ _ _ _ _ (ra5.below (Below.mono (by assumption) z1)) (rb5.below (Below.mono (by assumption) z1)) (le_of h95 (by assumption)) (le_of h95 (by assumption))).mono ?_); rintro e W' ⟨rfl, hb⟩; have hB := below_next hb (by assumption))
      | (go_at_call 52; go_split_ands; (with_reducible refine (rsame_any a b _ _ _ _ _ _ _ (ra5.below (Below.mono (by assumption) z1)) (rb5.below (Below.mono (by assumption) z1)) (le_of h95 (by assumption)) (le_of h95 (by assumption))).mono ?_); rintro e W' ⟨rfl, hb⟩; have hB := below_next hb (by assumption))
      | (go_at_call 52; go_split_ands; (with_reducible refine (rsame_self a _ _ _ _ _ _ _ (ro5.below (Below.mono (by assumption) z2)) (ra5.below (Below.mono (by assumption) z1)) (le_up z2 (by assumption)) (le_of h95 (by assumption))).mono ?_); rintro e W' ⟨rfl, hb⟩; have hB := below_next hb (by assumption))
      | (go_at_call 52; go_split_ands; (with_reducible refine (rsame_self x _ _ _ _ _ _ _ (rx5.below (Below.mono (by assumption) z3)) (rX5.below (Below.mono (by assumption) z4)) (le_up z3 (by assumption)) (le_up z4 (by assumption))).mono ?_); rintro e W' ⟨rfl, hb⟩; have hB := below_next hb (by assumption))))
  go_split_ands
  go_wp2_with fail
  go_ret
  exact ⟨rfl, below_far h95 (by assumption)⟩

end Go.Proofs.Ytockodmbhnlheaa
