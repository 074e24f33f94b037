/-
  The law RiskHolds: from its walk to the row.
-/
import Derived.Test.YtockodmbhnlheaaRowB
import Derived.Test.YtockodmbhnlheaaClosed
import Derived.Test.YtockodmbhnlheaaHoldsW
namespace Go.Proofs.Ytockodmbhnlheaa
open Go.ChangeShapes Go.WideShapes Go.ChangeAt Go.RowKit

set_option maxRecDepth 100000 in
theorem riskHolds_lifted (os : Os) (started : os.Started) (H : Type) (enc : TypeId × Value → H) :
    ReturnsInHanded {} Try.checked os 13 .any (Rows.riskHoldsSpec.pre6 enc Try.prog Try.f13 Rows.riskHoldsRow.domain false) (Rows.riskHoldsSpec.post enc Try.prog Try.f13 false true false false) := by
  refine returnsInHanded_of_change_sized (C := Try.checked) row_own started (by kernel_rfl) Try.func13
    (ChangeSpec.witness6 (enc := enc) (C := Try.checked) false ⟨#[], #[.agg #[.slice none 0 0, .slice none 0 0, .int .i64 0, .int .i64 0], .agg #[.int .i64 0, .int .i64 0, .slice none 0 0], .slice none 0 0, .int .i64 0], []⟩ 8 (by kernel_rfl) (by kernel_rfl) (by kernel_rfl) (by kernel_rfl)) ?_
  intro W base args ds gs before hval0 hW hcnd hsz _
  have hval : ∀ (j : Nat) t v, Try.f13.params[j]? = some t → args[j]? = some v → Value.okWide Try.prog W .any base t v := hval0
  have hW' := hW
  obtain ⟨p, q, hA0, hV, rfl, hfz, hnd⟩ := hW
  have hA : DataW.TrodAll enc Try.prog W 0 (fun _ => true) true Try.f13.params.toList args.toList ds p := hA0
  obtain ⟨rfl, rfl⟩ := trodVars_none hV
  have hkeep := fun W' (bel : Below W.heap.size W W') => trodAll_below row_laidOut bel (by kernel_rfl) hA
  rw [Try.params13] at hA hval
  obtain ⟨v0, vs0, d0, ds0, p0, q0, hargs, rfl, rfl, h0, tl0⟩ := trodAll_cons hA
  obtain ⟨v1, vs1, d1, ds1, p1, q1, rfl, rfl, rfl, h1, tl1⟩ := trodAll_cons tl0
  obtain ⟨v2, vs2, d2, ds2, p2, q2, rfl, rfl, rfl, h2, tl2⟩ := trodAll_cons tl1
  obtain ⟨v3, vs3, d3, ds3, p3, q3, rfl, rfl, rfl, h3, tl3⟩ := trodAll_cons tl2
  obtain ⟨rfl, rfl, rfl⟩ := trodAll_nil tl3
  obtain rfl : args = #[v0, v1, v2, v3] := by cases args; simp_all
  clear hargs
  have hs0 : (DataW.weightsEach Try.prog (Try.f13.params.toList ++ Rows.riskHoldsSpec.plain.varTypes Try.prog) ([d0, d1, d2, d3] ++ [])).all (· ≤ reachBytes) = true := hsz
  rw [show Rows.riskHoldsSpec.plain.varTypes Try.prog = [] from rfl, List.append_nil, List.append_nil] at hs0
  have hsz' : (DataW.weightsEach Try.prog Try.f13.params.toList [d0, d1, d2, d3]).all (· ≤ reachBytes) = true := hs0
  rw [Try.params13] at hsz'
  obtain ⟨y0, t0⟩ := weights_head hsz'
  obtain ⟨y1, t1⟩ := weights_head t0
  obtain ⟨y2, t2⟩ := weights_head t1
  obtain ⟨y3, t3⟩ := weights_head t2
  obtain ⟨m0, A0, Z0, c0, e0, rfl, r0, q0, ⟨s0, t0⟩, i0⟩ := opens_market (hval 0 64 v0 rfl rfl) h0 y0
  obtain ⟨a1, A1, c1, rfl, r1, s1, i1⟩ := opens_account (hval 1 37 v1 rfl rfl) h1 y1
  obtain ⟨A2, n2, c2, l2, rfl, r2, s2, i2⟩ := opens_ints (hval 2 24 v2 rfl rfl) h2 y2
  obtain ⟨z3, rfl, i3⟩ := opens_int (hval 3 3 v3 rfl rfl) h3
  refine (riskHolds_walk m0 A0 Z0 c0 e0 a1 A1 c1 A2 n2 c2 l2 z3 W r0 q0 s0 t0 r1 r2).mono fun e W' ⟨he, bel⟩ => ?_
  subst he
  exact ⟨_, rfl, _, _, _, [], _, [], hW', trodAll_mk1 (shut_bool Try.underlying4 _), hkeep W' bel, rfl, bel.frame _, fun h => by cases h⟩

set_option maxHeartbeats 4000000 in
theorem riskHolds_closed : joinedFacts Try.prog 13 Try.f13 Rows.riskHoldsSpec Rows.riskHoldsRow = true :=
  joined_mk _ _ _ _ _ (by as_aux_lemma => kernel_rfl) closed_laid closed_mapsRowed (by as_aux_lemma => kernel_rfl) (by as_aux_lemma => kernel_rfl) (by as_aux_lemma => kernel_rfl) closed_stops (by as_aux_lemma => kernel_rfl) closed_stopKnobs (by as_aux_lemma => kernel_rfl) (by as_aux_lemma => kernel_rfl) (by as_aux_lemma => kernel_rfl) (by as_aux_lemma => kernel_rfl) (by as_aux_lemma => kernel_rfl) (by as_aux_lemma => kernel_rfl) (by as_aux_lemma => kernel_rfl) (by as_aux_lemma => kernel_rfl) (by as_aux_lemma => kernel_rfl) (by as_aux_lemma => kernel_rfl) (by as_aux_lemma => kernel_rfl) (by as_aux_lemma => kernel_rfl) (by as_aux_lemma => kernel_rfl) closed_plainKeys (by as_aux_lemma => kernel_rfl) closed_stopsHeard closed_mayEnter closed_lifted closed_make (by as_aux_lemma => kernel_rfl) (by as_aux_lemma => kernel_rfl) (by as_aux_lemma => kernel_rfl) (by as_aux_lemma => kernel_rfl)

set_option maxHeartbeats 4000000 in
theorem riskHolds_over : Rows.riskHoldsRow.holds Try.pinned (OpenSpec.ofChange Rows.riskHoldsSpec) :=
  OpenClaim.holds_of_wide 13 Try.f13 rfl rfl rfl rfl rfl rfl rfl ⟨rfl, rfl, rfl, rfl, rfl⟩ rfl rfl rfl rfl rfl (by as_aux_lemma => kernel_rfl) Try.func13 riskHolds_closed
    (of_decide_eq_true (by as_aux_lemma => kernel_rfl)) (by unfold Func.isWrapper; first | (rw [if_pos (by decide +kernel)]; as_aux_lemma => kernel_rfl) | (rw [if_neg (by decide +kernel)]; exact ⟨rfl, rfl⟩))
    (fun os started H enc _ => riskHolds_lifted os started H enc)

/-- THE STATEMENT. -/
theorem riskHolds_proved : Rows.RiskHoldsSaid := riskHolds_over
#print axioms riskHolds_proved
end Go.Proofs.Ytockodmbhnlheaa
