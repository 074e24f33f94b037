/-
  The document's CheckCommand, walked.
-/
import Derived.Test.YtockodmbhnlheaaDoorTextCheck
import Derived.Test.YtockodmbhnlheaaDoorCmEq
namespace Go.Proofs.YtockodmbhnlheaaDoor
open Go.RowKit

theorem bne_int {a : Int} (h : a ≠ 0) : (a != 0) = true := by simpa using h
theorem runOfS {a : Sem Value} {b : Value} {w : World} {c : Value} (h : a.run Tryd.prog w = .ok b w) (e : b = c) : a.run Tryd.prog w = .ok c w := by rw [h, e]
theorem ce_top {c : Cm} (h : c.kind < 1 ∨ 7 < c.kind) : cmdErr c = 4 := by unfold cmdErr; rw [if_pos h]
theorem ce_form {c : Cm} (h : c.kind = 3 ∧ (c.how < 1 ∨ 4 < c.how ∨ c.o.side ≠ 1 ∧ c.o.side ≠ -1)) : cmdErr c = 4 := by unfold cmdErr; rw [if_neg (by omega), if_pos h]
set_option maxHeartbeats 20000000 in
set_option maxRecDepth 100000 in
theorem refCheck_any (c : Cm) (w : World) : Calls Tryd.prog 17 #[.agg #[.int .i64 c.kind, .int .i64 c.acc, .int .i64 c.market, .int .i64 c.n, .int .i64 c.o.id, .int .i64 c.o.acc, .int .i64 c.o.side, .int .i64 c.o.price, .int .i64 c.o.qty, .int .i64 c.how, .bool c.reduce]] w fun e w' => e = .returned (.int .i64 (cmdErr c)) ∧ Below w.heap.size w w' := by
  obtain ⟨kind, acc, market, n, ⟨oid, oacc, oside, oprice, oqty⟩, how, reduce⟩ := c
  simp only
  by_cases h1 : kind < 1
  · have HE := Lib.hid (show cmdErr ⟨kind, acc, market, n, ⟨oid, oacc, oside, oprice, oqty⟩, how, reduce⟩ = 4 from ce_top (.inl h1))
    go_enter Tryd.func17, Tryd.ntmps17
    go_wp2_with fail
    go_ret
    exact ⟨ret_iT HE.out.symm, by first | exact (Below.refl _ _).alloc (Nat.le_refl _) _ | exact below_drewN ((Below.refl _ _).alloc (Nat.le_refl _) _) 1⟩
  by_cases h2 : 7 < kind
  · have HE := Lib.hid (show cmdErr ⟨kind, acc, market, n, ⟨oid, oacc, oside, oprice, oqty⟩, how, reduce⟩ = 4 from ce_top (.inr h2))
    have h1' : 1 ≤ kind := by omega
    go_enter Tryd.func17, Tryd.ntmps17
    go_wp2_with fail
    go_ret
    exact ⟨ret_iT HE.out.symm, by first | exact (Below.refl _ _).alloc (Nat.le_refl _) _ | exact below_drewN ((Below.refl _ _).alloc (Nat.le_refl _) _) 1⟩
  have hk : kind = 1 ∨ kind = 2 ∨ kind = 4 ∨ kind = 5 ∨ kind = 6 ∨ kind = 3 ∨ kind = 7 := by omega
  clear h1 h2
  rcases hk with rfl | rfl | rfl | rfl | rfl | rfl | rfl
  · by_cases hu : market = 0
    rotate_left
    · skip
      have HE := Lib.hid (show cmdErr ⟨1, acc, market, n, ⟨oid, oacc, oside, oprice, oqty⟩, how, reduce⟩ = 3 by simp [cmdErr, isCash, isMkt, hu])
      replace hu := bne_int hu
      go_enter Tryd.func17, Tryd.ntmps17
      go_upto_region 8 with (fail)
      simp only [List.append]
      go_wp2_with fail
      go_ret
      exact ⟨ret_iT HE.out.symm, by first | exact (Below.refl _ _).alloc (Nat.le_refl _) _ | exact below_drewN ((Below.refl _ _).alloc (Nat.le_refl _) _) 1⟩
    subst hu
    by_cases hh : how = 0
    · subst hh
      cases reduce
      · by_cases he : cmdErr.sameOdB ⟨oid, oacc, oside, oprice, oqty⟩ zeroOd = true
        · obtain ⟨e0, e1, e2, e3, e4⟩ := (sameOdB_zero _).1 he
          dsimp only at e0 e1 e2 e3 e4
          subst e0 e1 e2 e3 e4
          have q := fun w => runOfS (run_neq_odT ⟨0, 0, 0, 0, 0⟩ ⟨0, 0, 0, 0, 0⟩ w) (c := .bool false) rfl
          have HE := Lib.hid (show cmdErr ⟨1, acc, 0, n, ⟨0, 0, 0, 0, 0⟩, 0, false⟩ = 0 by simp [cmdErr, isCash, isMkt, cmdErr.sameOdB, zeroOd])
          clear he
          dsimp only at q
          go_enter Tryd.func17, Tryd.ntmps17
          go_upto_region 8 with (fail)
          simp only [List.append]
          go_wp2_with fail
          go_ret
          exact ⟨ret_iT HE.out.symm, by first | exact (Below.refl _ _).alloc (Nat.le_refl _) _ | exact below_drewN ((Below.refl _ _).alloc (Nat.le_refl _) _) 1⟩
        · have he' : cmdErr.sameOdB ⟨oid, oacc, oside, oprice, oqty⟩ ⟨0, 0, 0, 0, 0⟩ = false := by simpa [zeroOd] using he
          have q := fun w => runOfS (run_neq_odT ⟨oid, oacc, oside, oprice, oqty⟩ ⟨0, 0, 0, 0, 0⟩ w) (c := .bool true) (by rw [he']; rfl)
          have HE := Lib.hid (show cmdErr ⟨1, acc, 0, n, ⟨oid, oacc, oside, oprice, oqty⟩, 0, false⟩ = 3 by simp [cmdErr, isCash, isMkt, he])
          clear he he'
          dsimp only at q
          go_enter Tryd.func17, Tryd.ntmps17
          go_upto_region 8 with (fail)
          simp only [List.append]
          go_wp2_with fail
          go_ret
          exact ⟨ret_iT HE.out.symm, by first | exact (Below.refl _ _).alloc (Nat.le_refl _) _ | exact below_drewN ((Below.refl _ _).alloc (Nat.le_refl _) _) 1⟩
      · have HE := Lib.hid (show cmdErr ⟨1, acc, 0, n, ⟨oid, oacc, oside, oprice, oqty⟩, 0, true⟩ = 3 by simp [cmdErr, isCash, isMkt])
        go_enter Tryd.func17, Tryd.ntmps17
        go_upto_region 8 with (fail)
        simp only [List.append]
        go_wp2_with fail
        go_ret
        exact ⟨ret_iT HE.out.symm, by first | exact (Below.refl _ _).alloc (Nat.le_refl _) _ | exact below_drewN ((Below.refl _ _).alloc (Nat.le_refl _) _) 1⟩
    · have HE := Lib.hid (show cmdErr ⟨1, acc, 0, n, ⟨oid, oacc, oside, oprice, oqty⟩, how, reduce⟩ = 3 by simp [cmdErr, isCash, isMkt, hh])
      replace hh := bne_int hh
      go_enter Tryd.func17, Tryd.ntmps17
      go_upto_region 8 with (fail)
      simp only [List.append]
      go_wp2_with fail
      go_ret
      exact ⟨ret_iT HE.out.symm, by first | exact (Below.refl _ _).alloc (Nat.le_refl _) _ | exact below_drewN ((Below.refl _ _).alloc (Nat.le_refl _) _) 1⟩
  · by_cases hu : market = 0
    rotate_left
    · skip
      have HE := Lib.hid (show cmdErr ⟨2, acc, market, n, ⟨oid, oacc, oside, oprice, oqty⟩, how, reduce⟩ = 3 by simp [cmdErr, isCash, isMkt, hu])
      replace hu := bne_int hu
      go_enter Tryd.func17, Tryd.ntmps17
      go_upto_region 8 with (fail)
      simp only [List.append]
      go_wp2_with fail
      go_ret
      exact ⟨ret_iT HE.out.symm, by first | exact (Below.refl _ _).alloc (Nat.le_refl _) _ | exact below_drewN ((Below.refl _ _).alloc (Nat.le_refl _) _) 1⟩
    subst hu
    by_cases hh : how = 0
    · subst hh
      cases reduce
      · by_cases he : cmdErr.sameOdB ⟨oid, oacc, oside, oprice, oqty⟩ zeroOd = true
        · obtain ⟨e0, e1, e2, e3, e4⟩ := (sameOdB_zero _).1 he
          dsimp only at e0 e1 e2 e3 e4
          subst e0 e1 e2 e3 e4
          have q := fun w => runOfS (run_neq_odT ⟨0, 0, 0, 0, 0⟩ ⟨0, 0, 0, 0, 0⟩ w) (c := .bool false) rfl
          have HE := Lib.hid (show cmdErr ⟨2, acc, 0, n, ⟨0, 0, 0, 0, 0⟩, 0, false⟩ = 0 by simp [cmdErr, isCash, isMkt, cmdErr.sameOdB, zeroOd])
          clear he
          dsimp only at q
          go_enter Tryd.func17, Tryd.ntmps17
          go_upto_region 8 with (fail)
          simp only [List.append]
          go_wp2_with fail
          go_ret
          exact ⟨ret_iT HE.out.symm, by first | exact (Below.refl _ _).alloc (Nat.le_refl _) _ | exact below_drewN ((Below.refl _ _).alloc (Nat.le_refl _) _) 1⟩
        · have he' : cmdErr.sameOdB ⟨oid, oacc, oside, oprice, oqty⟩ ⟨0, 0, 0, 0, 0⟩ = false := by simpa [zeroOd] using he
          have q := fun w => runOfS (run_neq_odT ⟨oid, oacc, oside, oprice, oqty⟩ ⟨0, 0, 0, 0, 0⟩ w) (c := .bool true) (by rw [he']; rfl)
          have HE := Lib.hid (show cmdErr ⟨2, acc, 0, n, ⟨oid, oacc, oside, oprice, oqty⟩, 0, false⟩ = 3 by simp [cmdErr, isCash, isMkt, he])
          clear he he'
          dsimp only at q
          go_enter Tryd.func17, Tryd.ntmps17
          go_upto_region 8 with (fail)
          simp only [List.append]
          go_wp2_with fail
          go_ret
          exact ⟨ret_iT HE.out.symm, by first | exact (Below.refl _ _).alloc (Nat.le_refl _) _ | exact below_drewN ((Below.refl _ _).alloc (Nat.le_refl _) _) 1⟩
      · have HE := Lib.hid (show cmdErr ⟨2, acc, 0, n, ⟨oid, oacc, oside, oprice, oqty⟩, 0, true⟩ = 3 by simp [cmdErr, isCash, isMkt])
        go_enter Tryd.func17, Tryd.ntmps17
        go_upto_region 8 with (fail)
        simp only [List.append]
        go_wp2_with fail
        go_ret
        exact ⟨ret_iT HE.out.symm, by first | exact (Below.refl _ _).alloc (Nat.le_refl _) _ | exact below_drewN ((Below.refl _ _).alloc (Nat.le_refl _) _) 1⟩
    · have HE := Lib.hid (show cmdErr ⟨2, acc, 0, n, ⟨oid, oacc, oside, oprice, oqty⟩, how, reduce⟩ = 3 by simp [cmdErr, isCash, isMkt, hh])
      replace hh := bne_int hh
      go_enter Tryd.func17, Tryd.ntmps17
      go_upto_region 8 with (fail)
      simp only [List.append]
      go_wp2_with fail
      go_ret
      exact ⟨ret_iT HE.out.symm, by first | exact (Below.refl _ _).alloc (Nat.le_refl _) _ | exact below_drewN ((Below.refl _ _).alloc (Nat.le_refl _) _) 1⟩
  · by_cases hu : market = 0
    rotate_left
    · skip
      have HE := Lib.hid (show cmdErr ⟨4, acc, market, n, ⟨oid, oacc, oside, oprice, oqty⟩, how, reduce⟩ = 3 by simp [cmdErr, isCash, isMkt, hu])
      replace hu := bne_int hu
      go_enter Tryd.func17, Tryd.ntmps17
      go_upto_region 8 with (fail)
      simp only [List.append]
      go_wp2_with fail
      go_ret
      exact ⟨ret_iT HE.out.symm, by first | exact (Below.refl _ _).alloc (Nat.le_refl _) _ | exact below_drewN ((Below.refl _ _).alloc (Nat.le_refl _) _) 1⟩
    subst hu
    by_cases hh : how = 0
    · subst hh
      cases reduce
      · by_cases he : cmdErr.sameOdB ⟨oid, oacc, oside, oprice, oqty⟩ zeroOd = true
        · obtain ⟨e0, e1, e2, e3, e4⟩ := (sameOdB_zero _).1 he
          dsimp only at e0 e1 e2 e3 e4
          subst e0 e1 e2 e3 e4
          have q := fun w => runOfS (run_neq_odT ⟨0, 0, 0, 0, 0⟩ ⟨0, 0, 0, 0, 0⟩ w) (c := .bool false) rfl
          have HE := Lib.hid (show cmdErr ⟨4, acc, 0, n, ⟨0, 0, 0, 0, 0⟩, 0, false⟩ = 0 by simp [cmdErr, isCash, isMkt, cmdErr.sameOdB, zeroOd])
          clear he
          dsimp only at q
          go_enter Tryd.func17, Tryd.ntmps17
          go_upto_region 8 with (fail)
          simp only [List.append]
          go_wp2_with fail
          go_ret
          exact ⟨ret_iT HE.out.symm, by first | exact (Below.refl _ _).alloc (Nat.le_refl _) _ | exact below_drewN ((Below.refl _ _).alloc (Nat.le_refl _) _) 1⟩
        · have he' : cmdErr.sameOdB ⟨oid, oacc, oside, oprice, oqty⟩ ⟨0, 0, 0, 0, 0⟩ = false := by simpa [zeroOd] using he
          have q := fun w => runOfS (run_neq_odT ⟨oid, oacc, oside, oprice, oqty⟩ ⟨0, 0, 0, 0, 0⟩ w) (c := .bool true) (by rw [he']; rfl)
          have HE := Lib.hid (show cmdErr ⟨4, acc, 0, n, ⟨oid, oacc, oside, oprice, oqty⟩, 0, false⟩ = 3 by simp [cmdErr, isCash, isMkt, he])
          clear he he'
          dsimp only at q
          go_enter Tryd.func17, Tryd.ntmps17
          go_upto_region 8 with (fail)
          simp only [List.append]
          go_wp2_with fail
          go_ret
          exact ⟨ret_iT HE.out.symm, by first | exact (Below.refl _ _).alloc (Nat.le_refl _) _ | exact below_drewN ((Below.refl _ _).alloc (Nat.le_refl _) _) 1⟩
      · have HE := Lib.hid (show cmdErr ⟨4, acc, 0, n, ⟨oid, oacc, oside, oprice, oqty⟩, 0, true⟩ = 3 by simp [cmdErr, isCash, isMkt])
        go_enter Tryd.func17, Tryd.ntmps17
        go_upto_region 8 with (fail)
        simp only [List.append]
        go_wp2_with fail
        go_ret
        exact ⟨ret_iT HE.out.symm, by first | exact (Below.refl _ _).alloc (Nat.le_refl _) _ | exact below_drewN ((Below.refl _ _).alloc (Nat.le_refl _) _) 1⟩
    · have HE := Lib.hid (show cmdErr ⟨4, acc, 0, n, ⟨oid, oacc, oside, oprice, oqty⟩, how, reduce⟩ = 3 by simp [cmdErr, isCash, isMkt, hh])
      replace hh := bne_int hh
      go_enter Tryd.func17, Tryd.ntmps17
      go_upto_region 8 with (fail)
      simp only [List.append]
      go_wp2_with fail
      go_ret
      exact ⟨ret_iT HE.out.symm, by first | exact (Below.refl _ _).alloc (Nat.le_refl _) _ | exact below_drewN ((Below.refl _ _).alloc (Nat.le_refl _) _) 1⟩
  · by_cases hu : acc = 0
    rotate_left
    · skip
      have HE := Lib.hid (show cmdErr ⟨5, acc, market, n, ⟨oid, oacc, oside, oprice, oqty⟩, how, reduce⟩ = 3 by simp [cmdErr, isCash, isMkt, hu])
      replace hu := bne_int hu
      go_enter Tryd.func17, Tryd.ntmps17
      go_upto_region 8 with (fail)
      simp only [List.append]
      go_wp2_with fail
      go_ret
      exact ⟨ret_iT HE.out.symm, by first | exact (Below.refl _ _).alloc (Nat.le_refl _) _ | exact below_drewN ((Below.refl _ _).alloc (Nat.le_refl _) _) 1⟩
    subst hu
    by_cases hh : how = 0
    · subst hh
      cases reduce
      · by_cases he : cmdErr.sameOdB ⟨oid, oacc, oside, oprice, oqty⟩ zeroOd = true
        · obtain ⟨e0, e1, e2, e3, e4⟩ := (sameOdB_zero _).1 he
          dsimp only at e0 e1 e2 e3 e4
          subst e0 e1 e2 e3 e4
          have q := fun w => runOfS (run_neq_odT ⟨0, 0, 0, 0, 0⟩ ⟨0, 0, 0, 0, 0⟩ w) (c := .bool false) rfl
          have HE := Lib.hid (show cmdErr ⟨5, 0, market, n, ⟨0, 0, 0, 0, 0⟩, 0, false⟩ = 0 by simp [cmdErr, isCash, isMkt, cmdErr.sameOdB, zeroOd])
          clear he
          dsimp only at q
          go_enter Tryd.func17, Tryd.ntmps17
          go_upto_region 8 with (fail)
          simp only [List.append]
          go_wp2_with fail
          go_ret
          exact ⟨ret_iT HE.out.symm, by first | exact (Below.refl _ _).alloc (Nat.le_refl _) _ | exact below_drewN ((Below.refl _ _).alloc (Nat.le_refl _) _) 1⟩
        · have he' : cmdErr.sameOdB ⟨oid, oacc, oside, oprice, oqty⟩ ⟨0, 0, 0, 0, 0⟩ = false := by simpa [zeroOd] using he
          have q := fun w => runOfS (run_neq_odT ⟨oid, oacc, oside, oprice, oqty⟩ ⟨0, 0, 0, 0, 0⟩ w) (c := .bool true) (by rw [he']; rfl)
          have HE := Lib.hid (show cmdErr ⟨5, 0, market, n, ⟨oid, oacc, oside, oprice, oqty⟩, 0, false⟩ = 3 by simp [cmdErr, isCash, isMkt, he])
          clear he he'
          dsimp only at q
          go_enter Tryd.func17, Tryd.ntmps17
          go_upto_region 8 with (fail)
          simp only [List.append]
          go_wp2_with fail
          go_ret
          exact ⟨ret_iT HE.out.symm, by first | exact (Below.refl _ _).alloc (Nat.le_refl _) _ | exact below_drewN ((Below.refl _ _).alloc (Nat.le_refl _) _) 1⟩
      · have HE := Lib.hid (show cmdErr ⟨5, 0, market, n, ⟨oid, oacc, oside, oprice, oqty⟩, 0, true⟩ = 3 by simp [cmdErr, isCash, isMkt])
        go_enter Tryd.func17, Tryd.ntmps17
        go_upto_region 8 with (fail)
        simp only [List.append]
        go_wp2_with fail
        go_ret
        exact ⟨ret_iT HE.out.symm, by first | exact (Below.refl _ _).alloc (Nat.le_refl _) _ | exact below_drewN ((Below.refl _ _).alloc (Nat.le_refl _) _) 1⟩
    · have HE := Lib.hid (show cmdErr ⟨5, 0, market, n, ⟨oid, oacc, oside, oprice, oqty⟩, how, reduce⟩ = 3 by simp [cmdErr, isCash, isMkt, hh])
      replace hh := bne_int hh
      go_enter Tryd.func17, Tryd.ntmps17
      go_upto_region 8 with (fail)
      simp only [List.append]
      go_wp2_with fail
      go_ret
      exact ⟨ret_iT HE.out.symm, by first | exact (Below.refl _ _).alloc (Nat.le_refl _) _ | exact below_drewN ((Below.refl _ _).alloc (Nat.le_refl _) _) 1⟩
  · by_cases hu : acc = 0
    rotate_left
    · skip
      have HE := Lib.hid (show cmdErr ⟨6, acc, market, n, ⟨oid, oacc, oside, oprice, oqty⟩, how, reduce⟩ = 3 by simp [cmdErr, isCash, isMkt, hu])
      replace hu := bne_int hu
      go_enter Tryd.func17, Tryd.ntmps17
      go_upto_region 8 with (fail)
      simp only [List.append]
      go_wp2_with fail
      go_ret
      exact ⟨ret_iT HE.out.symm, by first | exact (Below.refl _ _).alloc (Nat.le_refl _) _ | exact below_drewN ((Below.refl _ _).alloc (Nat.le_refl _) _) 1⟩
    subst hu
    by_cases hh : how = 0
    · subst hh
      cases reduce
      · by_cases he : cmdErr.sameOdB ⟨oid, oacc, oside, oprice, oqty⟩ zeroOd = true
        · obtain ⟨e0, e1, e2, e3, e4⟩ := (sameOdB_zero _).1 he
          dsimp only at e0 e1 e2 e3 e4
          subst e0 e1 e2 e3 e4
          have q := fun w => runOfS (run_neq_odT ⟨0, 0, 0, 0, 0⟩ ⟨0, 0, 0, 0, 0⟩ w) (c := .bool false) rfl
          have HE := Lib.hid (show cmdErr ⟨6, 0, market, n, ⟨0, 0, 0, 0, 0⟩, 0, false⟩ = 0 by simp [cmdErr, isCash, isMkt, cmdErr.sameOdB, zeroOd])
          clear he
          dsimp only at q
          go_enter Tryd.func17, Tryd.ntmps17
          go_upto_region 8 with (fail)
          simp only [List.append]
          go_wp2_with fail
          go_ret
          exact ⟨ret_iT HE.out.symm, by first | exact (Below.refl _ _).alloc (Nat.le_refl _) _ | exact below_drewN ((Below.refl _ _).alloc (Nat.le_refl _) _) 1⟩
        · have he' : cmdErr.sameOdB ⟨oid, oacc, oside, oprice, oqty⟩ ⟨0, 0, 0, 0, 0⟩ = false := by simpa [zeroOd] using he
          have q := fun w => runOfS (run_neq_odT ⟨oid, oacc, oside, oprice, oqty⟩ ⟨0, 0, 0, 0, 0⟩ w) (c := .bool true) (by rw [he']; rfl)
          have HE := Lib.hid (show cmdErr ⟨6, 0, market, n, ⟨oid, oacc, oside, oprice, oqty⟩, 0, false⟩ = 3 by simp [cmdErr, isCash, isMkt, he])
          clear he he'
          dsimp only at q
          go_enter Tryd.func17, Tryd.ntmps17
          go_upto_region 8 with (fail)
          simp only [List.append]
          go_wp2_with fail
          go_ret
          exact ⟨ret_iT HE.out.symm, by first | exact (Below.refl _ _).alloc (Nat.le_refl _) _ | exact below_drewN ((Below.refl _ _).alloc (Nat.le_refl _) _) 1⟩
      · have HE := Lib.hid (show cmdErr ⟨6, 0, market, n, ⟨oid, oacc, oside, oprice, oqty⟩, 0, true⟩ = 3 by simp [cmdErr, isCash, isMkt])
        go_enter Tryd.func17, Tryd.ntmps17
        go_upto_region 8 with (fail)
        simp only [List.append]
        go_wp2_with fail
        go_ret
        exact ⟨ret_iT HE.out.symm, by first | exact (Below.refl _ _).alloc (Nat.le_refl _) _ | exact below_drewN ((Below.refl _ _).alloc (Nat.le_refl _) _) 1⟩
    · have HE := Lib.hid (show cmdErr ⟨6, 0, market, n, ⟨oid, oacc, oside, oprice, oqty⟩, how, reduce⟩ = 3 by simp [cmdErr, isCash, isMkt, hh])
      replace hh := bne_int hh
      go_enter Tryd.func17, Tryd.ntmps17
      go_upto_region 8 with (fail)
      simp only [List.append]
      go_wp2_with fail
      go_ret
      exact ⟨ret_iT HE.out.symm, by first | exact (Below.refl _ _).alloc (Nat.le_refl _) _ | exact below_drewN ((Below.refl _ _).alloc (Nat.le_refl _) _) 1⟩
  · by_cases hf : how < 1 ∨ 4 < how ∨ oside ≠ 1 ∧ oside ≠ -1
    · have HE := Lib.hid (show cmdErr ⟨3, acc, market, n, ⟨oid, oacc, oside, oprice, oqty⟩, how, reduce⟩ = 4 from ce_form ⟨rfl, hf⟩)
      have hw : how < 1 ∨ 1 ≤ how ∧ 4 < how ∨ (1 ≤ how ∧ how ≤ 4) ∧ (oside != 1) = true ∧ (oside != -1) = true := by
        rcases Int.lt_or_le how 1 with g1 | g1
        · exact .inl g1
        · rcases Int.lt_or_le 4 how with g2 | g2
          · exact .inr (.inl ⟨g1, g2⟩)
          · exact .inr (.inr ⟨⟨g1, g2⟩, by simp; omega, by simp; omega⟩)
      clear hf
      rcases hw with g1 | ⟨g1, g2⟩ | ⟨⟨g1, g2⟩, g3, g4⟩
      all_goals
        go_enter Tryd.func17, Tryd.ntmps17
        go_wp2_with fail
        go_ret
        exact ⟨ret_iT HE.out.symm, by first | exact (Below.refl _ _).alloc (Nat.le_refl _) _ | exact below_drewN ((Below.refl _ _).alloc (Nat.le_refl _) _) 1⟩
    · have hw : (1 ≤ how ∧ how ≤ 4) ∧ (oside = 1 ∨ oside = -1) := by omega
      by_cases hn : n = 0
      rotate_left
      · have HE := Lib.hid (show cmdErr ⟨3, acc, market, n, ⟨oid, oacc, oside, oprice, oqty⟩, how, reduce⟩ = 3 by unfold cmdErr; rw [if_neg (by dsimp only; omega), if_neg (fun h => hf h.2), if_pos (by simp [isCash, isMkt, hn])])
        clear hf
        replace hn := bne_int hn
        obtain ⟨⟨g1, g2⟩, rfl | rfl⟩ := hw
        all_goals
          go_enter Tryd.func17, Tryd.ntmps17
          go_upto_region 8 with (fail)
          simp only [List.append]
          go_wp2_with fail
          go_ret
          exact ⟨ret_iT HE.out.symm, by first | exact (Below.refl _ _).alloc (Nat.le_refl _) _ | exact below_drewN ((Below.refl _ _).alloc (Nat.le_refl _) _) 1⟩
      subst hn
      by_cases hi : oid = 0
      rotate_left
      · have HE := Lib.hid (show cmdErr ⟨3, acc, market, 0, ⟨oid, oacc, oside, oprice, oqty⟩, how, reduce⟩ = 3 by unfold cmdErr; rw [if_neg (by dsimp only; omega), if_neg (fun h => hf h.2), if_pos (by simp [isCash, isMkt, hi])])
        clear hf
        replace hi := bne_int hi
        obtain ⟨⟨g1, g2⟩, rfl | rfl⟩ := hw
        all_goals
          go_enter Tryd.func17, Tryd.ntmps17
          go_upto_region 8 with (fail)
          simp only [List.append]
          go_wp2_with fail
          go_ret
          exact ⟨ret_iT HE.out.symm, by first | exact (Below.refl _ _).alloc (Nat.le_refl _) _ | exact below_drewN ((Below.refl _ _).alloc (Nat.le_refl _) _) 1⟩
      subst hi
      by_cases hi : oacc = 0
      rotate_left
      · have HE := Lib.hid (show cmdErr ⟨3, acc, market, 0, ⟨0, oacc, oside, oprice, oqty⟩, how, reduce⟩ = 3 by unfold cmdErr; rw [if_neg (by dsimp only; omega), if_neg (fun h => hf h.2), if_pos (by simp [isCash, isMkt, hi])])
        clear hf
        replace hi := bne_int hi
        obtain ⟨⟨g1, g2⟩, rfl | rfl⟩ := hw
        all_goals
          go_enter Tryd.func17, Tryd.ntmps17
          go_upto_region 8 with (fail)
          simp only [List.append]
          go_wp2_with fail
          go_ret
          exact ⟨ret_iT HE.out.symm, by first | exact (Below.refl _ _).alloc (Nat.le_refl _) _ | exact below_drewN ((Below.refl _ _).alloc (Nat.le_refl _) _) 1⟩
      subst hi
      have HE := Lib.hid (show cmdErr ⟨3, acc, market, 0, ⟨0, 0, oside, oprice, oqty⟩, how, reduce⟩ = 0 by unfold cmdErr; rw [if_neg (by dsimp only; omega), if_neg (fun h => hf h.2), if_neg (by simp [isCash, isMkt])])
      clear hf
      obtain ⟨⟨g1, g2⟩, rfl | rfl⟩ := hw
      all_goals
        go_enter Tryd.func17, Tryd.ntmps17
        go_upto_region 8 with (fail)
        simp only [List.append]
        go_wp2_with fail
        go_ret
        exact ⟨ret_iT HE.out.symm, by first | exact (Below.refl _ _).alloc (Nat.le_refl _) _ | exact below_drewN ((Below.refl _ _).alloc (Nat.le_refl _) _) 1⟩
  · by_cases hu : acc = 0
    rotate_left
    · skip
      have HE := Lib.hid (show cmdErr ⟨7, acc, market, n, ⟨oid, oacc, oside, oprice, oqty⟩, how, reduce⟩ = 3 by simp [cmdErr, isCash, isMkt, hu])
      replace hu := bne_int hu
      go_enter Tryd.func17, Tryd.ntmps17
      go_upto_region 8 with (fail)
      simp only [List.append]
      go_wp2_with fail
      go_ret
      exact ⟨ret_iT HE.out.symm, by first | exact (Below.refl _ _).alloc (Nat.le_refl _) _ | exact below_drewN ((Below.refl _ _).alloc (Nat.le_refl _) _) 1⟩
    subst hu
    by_cases hu : market = 0
    rotate_left
    · skip
      have HE := Lib.hid (show cmdErr ⟨7, 0, market, n, ⟨oid, oacc, oside, oprice, oqty⟩, how, reduce⟩ = 3 by simp [cmdErr, isCash, isMkt, hu])
      replace hu := bne_int hu
      go_enter Tryd.func17, Tryd.ntmps17
      go_upto_region 8 with (fail)
      simp only [List.append]
      go_wp2_with fail
      go_ret
      exact ⟨ret_iT HE.out.symm, by first | exact (Below.refl _ _).alloc (Nat.le_refl _) _ | exact below_drewN ((Below.refl _ _).alloc (Nat.le_refl _) _) 1⟩
    subst hu
    by_cases hu : n = 0
    rotate_left
    · skip
      have HE := Lib.hid (show cmdErr ⟨7, 0, 0, n, ⟨oid, oacc, oside, oprice, oqty⟩, how, reduce⟩ = 3 by simp [cmdErr, isCash, isMkt, hu])
      replace hu := bne_int hu
      go_enter Tryd.func17, Tryd.ntmps17
      go_upto_region 8 with (fail)
      simp only [List.append]
      go_wp2_with fail
      go_ret
      exact ⟨ret_iT HE.out.symm, by first | exact (Below.refl _ _).alloc (Nat.le_refl _) _ | exact below_drewN ((Below.refl _ _).alloc (Nat.le_refl _) _) 1⟩
    subst hu
    by_cases hh : how = 0
    · subst hh
      cases reduce
      · by_cases he : cmdErr.sameOdB ⟨oid, oacc, oside, oprice, oqty⟩ zeroOd = true
        · obtain ⟨e0, e1, e2, e3, e4⟩ := (sameOdB_zero _).1 he
          dsimp only at e0 e1 e2 e3 e4
          subst e0 e1 e2 e3 e4
          have q := fun w => runOfS (run_neq_odT ⟨0, 0, 0, 0, 0⟩ ⟨0, 0, 0, 0, 0⟩ w) (c := .bool false) rfl
          have HE := Lib.hid (show cmdErr ⟨7, 0, 0, 0, ⟨0, 0, 0, 0, 0⟩, 0, false⟩ = 0 by simp [cmdErr, isCash, isMkt, cmdErr.sameOdB, zeroOd])
          clear he
          dsimp only at q
          go_enter Tryd.func17, Tryd.ntmps17
          go_upto_region 8 with (fail)
          simp only [List.append]
          go_wp2_with fail
          go_ret
          exact ⟨ret_iT HE.out.symm, by first | exact (Below.refl _ _).alloc (Nat.le_refl _) _ | exact below_drewN ((Below.refl _ _).alloc (Nat.le_refl _) _) 1⟩
        · have he' : cmdErr.sameOdB ⟨oid, oacc, oside, oprice, oqty⟩ ⟨0, 0, 0, 0, 0⟩ = false := by simpa [zeroOd] using he
          have q := fun w => runOfS (run_neq_odT ⟨oid, oacc, oside, oprice, oqty⟩ ⟨0, 0, 0, 0, 0⟩ w) (c := .bool true) (by rw [he']; rfl)
          have HE := Lib.hid (show cmdErr ⟨7, 0, 0, 0, ⟨oid, oacc, oside, oprice, oqty⟩, 0, false⟩ = 3 by simp [cmdErr, isCash, isMkt, he])
          clear he he'
          dsimp only at q
          go_enter Tryd.func17, Tryd.ntmps17
          go_upto_region 8 with (fail)
          simp only [List.append]
          go_wp2_with fail
          go_ret
          exact ⟨ret_iT HE.out.symm, by first | exact (Below.refl _ _).alloc (Nat.le_refl _) _ | exact below_drewN ((Below.refl _ _).alloc (Nat.le_refl _) _) 1⟩
      · have HE := Lib.hid (show cmdErr ⟨7, 0, 0, 0, ⟨oid, oacc, oside, oprice, oqty⟩, 0, true⟩ = 3 by simp [cmdErr, isCash, isMkt])
        go_enter Tryd.func17, Tryd.ntmps17
        go_upto_region 8 with (fail)
        simp only [List.append]
        go_wp2_with fail
        go_ret
        exact ⟨ret_iT HE.out.symm, by first | exact (Below.refl _ _).alloc (Nat.le_refl _) _ | exact below_drewN ((Below.refl _ _).alloc (Nat.le_refl _) _) 1⟩
    · have HE := Lib.hid (show cmdErr ⟨7, 0, 0, 0, ⟨oid, oacc, oside, oprice, oqty⟩, how, reduce⟩ = 3 by simp [cmdErr, isCash, isMkt, hh])
      replace hh := bne_int hh
      go_enter Tryd.func17, Tryd.ntmps17
      go_upto_region 8 with (fail)
      simp only [List.append]
      go_wp2_with fail
      go_ret
      exact ⟨ret_iT HE.out.symm, by first | exact (Below.refl _ _).alloc (Nat.le_refl _) _ | exact below_drewN ((Below.refl _ _).alloc (Nat.le_refl _) _) 1⟩
end Go.Proofs.YtockodmbhnlheaaDoor
