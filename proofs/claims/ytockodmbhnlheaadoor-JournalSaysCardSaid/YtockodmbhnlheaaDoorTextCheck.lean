/-
  text.Check, walked.
-/
import Derived.Test.YtockodmbhnlheaaDoorTextEnv
import Derived.Test.YtockodmbhnlheaaDoorBlk
import Derived.IntWalk
import Derived.WalkSpells
import Derived.WalkLawsBesides
import Derived.Deep.QuietTactic
import Derived.BigQuiet
import Derived.RegionTactic
import Derived.ChangeAlike
namespace Go.Proofs.YtockodmbhnlheaaDoor
open Go.RowKit

theorem exit_nameT {Q : Exit → Act → World → Prop} {e : Exit} {a : Act} {W : World} (h : ∀ Z, Z = W → Q e a Z) : Q e a W := h W rfl
theorem ret_iT {a b : Int} (h : a = b) : Ending.returned (.int .i64 a) = .returned (.int .i64 b) := by rw [h]
set_option maxHeartbeats 1000000 in
set_option maxRecDepth 100000 in
theorem textCheck_any (c : Cm) (w : World) : Calls Tryd.prog 18 #[.agg #[.int .i64 c.kind, .int .i64 c.acc, .int .i64 c.market, .int .i64 c.n, .int .i64 c.o.id, .int .i64 c.o.acc, .int .i64 c.o.side, .int .i64 c.o.price, .int .i64 c.o.qty, .int .i64 c.how, .bool c.reduce]] w fun e w' => e = .returned (.int .i64 (textErr c)) ∧ Below w.heap.size w w' := by
  obtain ⟨kind, acc, market, n, ⟨oid, oacc, oside, oprice, oqty⟩, how, reduce⟩ := c
  simp only
  by_cases h1 : kind < 1
  · have HE := Lib.hid (show textErr ⟨kind, acc, market, n, ⟨oid, oacc, oside, oprice, oqty⟩, how, reduce⟩ = 4 by unfold textErr; rw [if_pos (.inl h1)])
    go_enter Tryd.func18, Tryd.ntmps18
    go_wp2_with fail
    go_ret
    exact ⟨ret_iT HE.out.symm, (Below.refl _ _).alloc (Nat.le_refl _) _⟩
  by_cases h2 : 7 < kind
  · have HE := Lib.hid (show textErr ⟨kind, acc, market, n, ⟨oid, oacc, oside, oprice, oqty⟩, how, reduce⟩ = 4 by unfold textErr; rw [if_pos (.inr h2)])
    have h1' : 1 ≤ kind := by omega
    go_enter Tryd.func18, Tryd.ntmps18
    go_wp2_with fail
    go_ret
    exact ⟨ret_iT HE.out.symm, (Below.refl _ _).alloc (Nat.le_refl _) _⟩
  have hk : kind = 1 ∨ kind = 2 ∨ kind = 4 ∨ kind = 5 ∨ kind = 6 ∨ kind = 3 ∨ kind = 7 := by omega
  clear h1 h2
  rcases hk with rfl | rfl | rfl | rfl | rfl | rfl | rfl
  · have q := fun w => run_neq_cm ⟨1, acc, market, n, ⟨oid, oacc, oside, oprice, oqty⟩, how, reduce⟩ ⟨1, acc, 0, n, ⟨0, 0, 0, 0, 0⟩, 0, false⟩ w
    have HE : textErr ⟨1, acc, market, n, ⟨oid, oacc, oside, oprice, oqty⟩, how, reduce⟩ = if eqCm ⟨1, acc, market, n, ⟨oid, oacc, oside, oprice, oqty⟩, how, reduce⟩ ⟨1, acc, 0, n, ⟨0, 0, 0, 0, 0⟩, 0, false⟩ then 0 else 3 := by
      unfold textErr; rw [if_neg (by dsimp only; omega), if_neg (by dsimp only; omega)]; rfl
    generalize eqCm ⟨1, acc, market, n, ⟨oid, oacc, oside, oprice, oqty⟩, how, reduce⟩ ⟨1, acc, 0, n, ⟨0, 0, 0, 0, 0⟩, 0, false⟩ = d at q HE
    replace HE := Lib.hid HE
    dsimp only at q
    cases d
    all_goals
      go_enter Tryd.func18, Tryd.ntmps18
      go_wp2_with fail
      go_region
      go_wp2_with fail
      go_ret
      exact ⟨ret_iT HE.out.symm, by first | exact ((Below.refl _ _).alloc (Nat.le_refl _) _).alloc (by simp) _ | exact below_drewN (((Below.refl _ _).alloc (Nat.le_refl _) _).alloc (by simp) _) 1⟩
  · have q := fun w => run_neq_cm ⟨2, acc, market, n, ⟨oid, oacc, oside, oprice, oqty⟩, how, reduce⟩ ⟨2, acc, 0, n, ⟨0, 0, 0, 0, 0⟩, 0, false⟩ w
    have HE : textErr ⟨2, acc, market, n, ⟨oid, oacc, oside, oprice, oqty⟩, how, reduce⟩ = if eqCm ⟨2, acc, market, n, ⟨oid, oacc, oside, oprice, oqty⟩, how, reduce⟩ ⟨2, acc, 0, n, ⟨0, 0, 0, 0, 0⟩, 0, false⟩ then 0 else 3 := by
      unfold textErr; rw [if_neg (by dsimp only; omega), if_neg (by dsimp only; omega)]; rfl
    generalize eqCm ⟨2, acc, market, n, ⟨oid, oacc, oside, oprice, oqty⟩, how, reduce⟩ ⟨2, acc, 0, n, ⟨0, 0, 0, 0, 0⟩, 0, false⟩ = d at q HE
    replace HE := Lib.hid HE
    dsimp only at q
    cases d
    all_goals
      go_enter Tryd.func18, Tryd.ntmps18
      go_wp2_with fail
      go_region
      go_wp2_with fail
      go_ret
      exact ⟨ret_iT HE.out.symm, by first | exact ((Below.refl _ _).alloc (Nat.le_refl _) _).alloc (by simp) _ | exact below_drewN (((Below.refl _ _).alloc (Nat.le_refl _) _).alloc (by simp) _) 1⟩
  · have q := fun w => run_neq_cm ⟨4, acc, market, n, ⟨oid, oacc, oside, oprice, oqty⟩, how, reduce⟩ ⟨4, acc, 0, n, ⟨0, 0, 0, 0, 0⟩, 0, false⟩ w
    have HE : textErr ⟨4, acc, market, n, ⟨oid, oacc, oside, oprice, oqty⟩, how, reduce⟩ = if eqCm ⟨4, acc, market, n, ⟨oid, oacc, oside, oprice, oqty⟩, how, reduce⟩ ⟨4, acc, 0, n, ⟨0, 0, 0, 0, 0⟩, 0, false⟩ then 0 else 3 := by
      unfold textErr; rw [if_neg (by dsimp only; omega), if_neg (by dsimp only; omega)]; rfl
    generalize eqCm ⟨4, acc, market, n, ⟨oid, oacc, oside, oprice, oqty⟩, how, reduce⟩ ⟨4, acc, 0, n, ⟨0, 0, 0, 0, 0⟩, 0, false⟩ = d at q HE
    replace HE := Lib.hid HE
    dsimp only at q
    cases d
    all_goals
      go_enter Tryd.func18, Tryd.ntmps18
      go_wp2_with fail
      go_region
      go_wp2_with fail
      go_ret
      exact ⟨ret_iT HE.out.symm, by first | exact ((Below.refl _ _).alloc (Nat.le_refl _) _).alloc (by simp) _ | exact below_drewN (((Below.refl _ _).alloc (Nat.le_refl _) _).alloc (by simp) _) 1⟩
  · have q := fun w => run_neq_cm ⟨5, acc, market, n, ⟨oid, oacc, oside, oprice, oqty⟩, how, reduce⟩ ⟨5, 0, market, n, ⟨0, 0, 0, 0, 0⟩, 0, false⟩ w
    have HE : textErr ⟨5, acc, market, n, ⟨oid, oacc, oside, oprice, oqty⟩, how, reduce⟩ = if eqCm ⟨5, acc, market, n, ⟨oid, oacc, oside, oprice, oqty⟩, how, reduce⟩ ⟨5, 0, market, n, ⟨0, 0, 0, 0, 0⟩, 0, false⟩ then 0 else 3 := by
      unfold textErr; rw [if_neg (by dsimp only; omega), if_neg (by dsimp only; omega)]; rfl
    generalize eqCm ⟨5, acc, market, n, ⟨oid, oacc, oside, oprice, oqty⟩, how, reduce⟩ ⟨5, 0, market, n, ⟨0, 0, 0, 0, 0⟩, 0, false⟩ = d at q HE
    replace HE := Lib.hid HE
    dsimp only at q
    cases d
    all_goals
      go_enter Tryd.func18, Tryd.ntmps18
      go_wp2_with fail
      go_region
      go_wp2_with fail
      go_ret
      exact ⟨ret_iT HE.out.symm, by first | exact ((Below.refl _ _).alloc (Nat.le_refl _) _).alloc (by simp) _ | exact below_drewN (((Below.refl _ _).alloc (Nat.le_refl _) _).alloc (by simp) _) 1⟩
  · have q := fun w => run_neq_cm ⟨6, acc, market, n, ⟨oid, oacc, oside, oprice, oqty⟩, how, reduce⟩ ⟨6, 0, market, n, ⟨0, 0, 0, 0, 0⟩, 0, false⟩ w
    have HE : textErr ⟨6, acc, market, n, ⟨oid, oacc, oside, oprice, oqty⟩, how, reduce⟩ = if eqCm ⟨6, acc, market, n, ⟨oid, oacc, oside, oprice, oqty⟩, how, reduce⟩ ⟨6, 0, market, n, ⟨0, 0, 0, 0, 0⟩, 0, false⟩ then 0 else 3 := by
      unfold textErr; rw [if_neg (by dsimp only; omega), if_neg (by dsimp only; omega)]; rfl
    generalize eqCm ⟨6, acc, market, n, ⟨oid, oacc, oside, oprice, oqty⟩, how, reduce⟩ ⟨6, 0, market, n, ⟨0, 0, 0, 0, 0⟩, 0, false⟩ = d at q HE
    replace HE := Lib.hid HE
    dsimp only at q
    cases d
    all_goals
      go_enter Tryd.func18, Tryd.ntmps18
      go_wp2_with fail
      go_region
      go_wp2_with fail
      go_ret
      exact ⟨ret_iT HE.out.symm, by first | exact ((Below.refl _ _).alloc (Nat.le_refl _) _).alloc (by simp) _ | exact below_drewN (((Below.refl _ _).alloc (Nat.le_refl _) _).alloc (by simp) _) 1⟩
  · by_cases hh : how < 1 ∨ 4 < how ∨ oside ≠ 1 ∧ oside ≠ -1
    · have HE := Lib.hid (show textErr ⟨3, acc, market, n, ⟨oid, oacc, oside, oprice, oqty⟩, how, reduce⟩ = 4 by unfold textErr; rw [if_neg (by dsimp only; omega), if_pos ⟨rfl, hh⟩])
      have hw : how < 1 ∨ 1 ≤ how ∧ 4 < how ∨ (1 ≤ how ∧ how ≤ 4) ∧ (oside != 1) = true ∧ (oside != -1) = true := by
        rcases Int.lt_or_le how 1 with g1 | g1
        · exact .inl g1
        · rcases Int.lt_or_le 4 how with g2 | g2
          · exact .inr (.inl ⟨g1, g2⟩)
          · exact .inr (.inr ⟨⟨g1, g2⟩, by simp; omega, by simp; omega⟩)
      clear hh
      rcases hw with g1 | ⟨g1, g2⟩ | ⟨⟨g1, g2⟩, g3, g4⟩
      all_goals
        go_enter Tryd.func18, Tryd.ntmps18
        go_wp2_with fail
        go_ret
        exact ⟨ret_iT HE.out.symm, by first | exact ((Below.refl _ _).alloc (Nat.le_refl _) _).alloc (by simp) _ | exact below_drewN (((Below.refl _ _).alloc (Nat.le_refl _) _).alloc (by simp) _) 1⟩
    · have q := fun w => run_neq_cm ⟨3, acc, market, n, ⟨oid, oacc, oside, oprice, oqty⟩, how, reduce⟩ ⟨3, acc, market, 0, ⟨0, 0, oside, oprice, oqty⟩, how, reduce⟩ w
      have HE : textErr ⟨3, acc, market, n, ⟨oid, oacc, oside, oprice, oqty⟩, how, reduce⟩ = if eqCm ⟨3, acc, market, n, ⟨oid, oacc, oside, oprice, oqty⟩, how, reduce⟩ ⟨3, acc, market, 0, ⟨0, 0, oside, oprice, oqty⟩, how, reduce⟩ then 0 else 3 := by
        unfold textErr; rw [if_neg (by dsimp only; omega), if_neg (fun h => hh h.2)]; rfl
      generalize eqCm ⟨3, acc, market, n, ⟨oid, oacc, oside, oprice, oqty⟩, how, reduce⟩ ⟨3, acc, market, 0, ⟨0, 0, oside, oprice, oqty⟩, how, reduce⟩ = d at q HE
      replace HE := Lib.hid HE
      dsimp only at q
      have hw : (1 ≤ how ∧ how ≤ 4) ∧ (oside = 1 ∨ oside = -1) := by omega
      clear hh
      obtain ⟨⟨g1, g2⟩, rfl | rfl⟩ := hw
      all_goals
        cases d
        all_goals
          go_enter Tryd.func18, Tryd.ntmps18
          go_wp2_with fail
          go_ret
          exact ⟨ret_iT HE.out.symm, by first | exact ((Below.refl _ _).alloc (Nat.le_refl _) _).alloc (by simp) _ | exact below_drewN (((Below.refl _ _).alloc (Nat.le_refl _) _).alloc (by simp) _) 1⟩
  · have q := fun w => run_neq_cm ⟨7, acc, market, n, ⟨oid, oacc, oside, oprice, oqty⟩, how, reduce⟩ ⟨7, 0, 0, 0, ⟨0, 0, 0, 0, 0⟩, 0, false⟩ w
    have HE : textErr ⟨7, acc, market, n, ⟨oid, oacc, oside, oprice, oqty⟩, how, reduce⟩ = if eqCm ⟨7, acc, market, n, ⟨oid, oacc, oside, oprice, oqty⟩, how, reduce⟩ ⟨7, 0, 0, 0, ⟨0, 0, 0, 0, 0⟩, 0, false⟩ then 0 else 3 := by
      unfold textErr; rw [if_neg (by dsimp only; omega), if_neg (by dsimp only; omega)]; rfl
    generalize eqCm ⟨7, acc, market, n, ⟨oid, oacc, oside, oprice, oqty⟩, how, reduce⟩ ⟨7, 0, 0, 0, ⟨0, 0, 0, 0, 0⟩, 0, false⟩ = d at q HE
    replace HE := Lib.hid HE
    dsimp only at q
    cases d
    all_goals
      go_enter Tryd.func18, Tryd.ntmps18
      go_wp2_with fail
      skip
      go_wp2_with fail
      go_ret
      exact ⟨ret_iT HE.out.symm, by first | exact ((Below.refl _ _).alloc (Nat.le_refl _) _).alloc (by simp) _ | exact below_drewN (((Below.refl _ _).alloc (Nat.le_refl _) _).alloc (by simp) _) 1⟩
end Go.Proofs.YtockodmbhnlheaaDoor
