/-
  The law FixSays: from its walk to the row.
-/
import Derived.Test.YtockodmbhnlheaaRow
import Derived.Test.YtockodmbhnlheaaClosed
import Derived.Test.YtockodmbhnlheaaFixSaysW
namespace Go.Proofs.Ytockodmbhnlheaa
open Go.ChangeShapes Go.WideShapes Go.ChangeAt Go.RowKit

set_option maxRecDepth 100000 in
theorem fixSays_lifted (os : Os) (started : os.Started) (H : Type) (enc : TypeId × Value → H) :
    ReturnsInHanded {} Try.checked os 17 .any (Rows.fixSaysSpec.pre6 enc Try.prog Try.f17 Rows.fixSaysRow.domain false) (Rows.fixSaysSpec.post enc Try.prog Try.f17 false true false false) := by
  refine returnsInHanded_of_change_sized (C := Try.checked) row_own started (by kernel_rfl) Try.func17
    (ChangeSpec.witness6 (enc := enc) (C := Try.checked) false ⟨#[], #[.slice none 0 0, .int .i64 0, .int .i64 0, .int .i64 0, .bool false, .int .i64 0, .int .i64 0], []⟩ 8 (by kernel_rfl) (by kernel_rfl) (by kernel_rfl) (by kernel_rfl)) ?_
  intro W base args ds gs before hval0 hW hcnd hsz _
  have hval : ∀ (j : Nat) t v, Try.f17.params[j]? = some t → args[j]? = some v → Value.okWide Try.prog W .any base t v := hval0
  have hW' := hW
  obtain ⟨p, q, hA0, hV, rfl, hfz, hnd⟩ := hW
  have hA : DataW.TrodAll enc Try.prog W 0 (fun _ => true) true Try.f17.params.toList args.toList ds p := hA0
  obtain ⟨rfl, rfl⟩ := trodVars_none hV
  have hkeep := fun W' (bel : Below W.heap.size W W') => trodAll_below row_laidOut bel (by kernel_rfl) hA
  rw [Try.params17] at hA hval
  obtain ⟨v0, vs0, d0, ds0, p0, q0, hargs, rfl, rfl, h0, tl0⟩ := trodAll_cons hA
  obtain ⟨v1, vs1, d1, ds1, p1, q1, rfl, rfl, rfl, h1, tl1⟩ := trodAll_cons tl0
  obtain ⟨v2, vs2, d2, ds2, p2, q2, rfl, rfl, rfl, h2, tl2⟩ := trodAll_cons tl1
  obtain ⟨v3, vs3, d3, ds3, p3, q3, rfl, rfl, rfl, h3, tl3⟩ := trodAll_cons tl2
  obtain ⟨v4, vs4, d4, ds4, p4, q4, rfl, rfl, rfl, h4, tl4⟩ := trodAll_cons tl3
  obtain ⟨v5, vs5, d5, ds5, p5, q5, rfl, rfl, rfl, h5, tl5⟩ := trodAll_cons tl4
  obtain ⟨v6, vs6, d6, ds6, p6, q6, rfl, rfl, rfl, h6, tl6⟩ := trodAll_cons tl5
  obtain ⟨rfl, rfl, rfl⟩ := trodAll_nil tl6
  obtain rfl : args = #[v0, v1, v2, v3, v4, v5, v6] := by cases args; simp_all
  clear hargs
  have hs0 : (DataW.weightsEach Try.prog (Try.f17.params.toList ++ Rows.fixSaysSpec.plain.varTypes Try.prog) ([d0, d1, d2, d3, d4, d5, d6] ++ [])).all (· ≤ reachBytes) = true := hsz
  rw [show Rows.fixSaysSpec.plain.varTypes Try.prog = [] from rfl, List.append_nil, List.append_nil] at hs0
  have hsz' : (DataW.weightsEach Try.prog Try.f17.params.toList [d0, d1, d2, d3, d4, d5, d6]).all (· ≤ reachBytes) = true := hs0
  rw [Try.params17] at hsz'
  obtain ⟨y0, t0⟩ := weights_head hsz'
  obtain ⟨y1, t1⟩ := weights_head t0
  obtain ⟨y2, t2⟩ := weights_head t1
  obtain ⟨y3, t3⟩ := weights_head t2
  obtain ⟨y4, t4⟩ := weights_head t3
  obtain ⟨y5, t5⟩ := weights_head t4
  obtain ⟨y6, t6⟩ := weights_head t5
  obtain ⟨A0, n0, c0, l0, rfl, r0, s0, i0⟩ := opens_ints (hval 0 24 v0 rfl rfl) h0 y0
  obtain ⟨z1, rfl, i1⟩ := opens_int (hval 1 3 v1 rfl rfl) h1
  obtain ⟨z2, rfl, i2⟩ := opens_int (hval 2 3 v2 rfl rfl) h2
  obtain ⟨z3, rfl, i3⟩ := opens_int (hval 3 3 v3 rfl rfl) h3
  obtain ⟨z4, rfl⟩ := opens_bool (hval 4 4 v4 rfl rfl) h4
  obtain ⟨z5, rfl, i5⟩ := opens_int (hval 5 3 v5 rfl rfl) h5
  obtain ⟨z6, rfl, i6⟩ := opens_int (hval 6 3 v6 rfl rfl) h6
  refine (fixSays_walk A0 n0 c0 l0 z1 z2 z3 z4 z5 z6 W r0).mono fun e W' ⟨he, bel⟩ => ?_
  subst he
  exact ⟨_, rfl, _, _, _, [], _, [], hW', trodAll_mk1 (shut_bool Try.underlying4 _), hkeep W' bel, rfl, bel.frame _, fun h => by cases h⟩

set_option maxHeartbeats 4000000 in
theorem fixSays_closed : joinedFacts Try.prog 17 Try.f17 Rows.fixSaysSpec Rows.fixSaysRow = true :=
  joined_mk _ _ _ _ _ (by as_aux_lemma => kernel_rfl) closed_laid closed_mapsRowed (by as_aux_lemma => kernel_rfl) (by as_aux_lemma => kernel_rfl) (by as_aux_lemma => kernel_rfl) closed_stops (by as_aux_lemma => kernel_rfl) closed_stopKnobs (by as_aux_lemma => kernel_rfl) (by as_aux_lemma => kernel_rfl) (by as_aux_lemma => kernel_rfl) (by as_aux_lemma => kernel_rfl) (by as_aux_lemma => kernel_rfl) (by as_aux_lemma => kernel_rfl) (by as_aux_lemma => kernel_rfl) (by as_aux_lemma => kernel_rfl) (by as_aux_lemma => kernel_rfl) (by as_aux_lemma => kernel_rfl) (by as_aux_lemma => kernel_rfl) (by as_aux_lemma => kernel_rfl) (by as_aux_lemma => kernel_rfl) closed_plainKeys (by as_aux_lemma => kernel_rfl) closed_stopsHeard closed_mayEnter closed_lifted closed_make (by as_aux_lemma => kernel_rfl) (by as_aux_lemma => kernel_rfl) (by as_aux_lemma => kernel_rfl) (by as_aux_lemma => kernel_rfl)

set_option maxHeartbeats 4000000 in
theorem fixSays_over : Rows.fixSaysRow.holds Try.pinned (OpenSpec.ofChange Rows.fixSaysSpec) :=
  OpenClaim.holds_of_wide 17 Try.f17 rfl rfl rfl rfl rfl rfl rfl ⟨rfl, rfl, rfl, rfl, rfl⟩ rfl rfl rfl rfl rfl (by as_aux_lemma => kernel_rfl) Try.func17 fixSays_closed
    (of_decide_eq_true (by as_aux_lemma => kernel_rfl)) (by unfold Func.isWrapper; first | (rw [if_pos (by decide +kernel)]; as_aux_lemma => kernel_rfl) | (rw [if_neg (by decide +kernel)]; exact ⟨rfl, rfl⟩))
    (fun os started H enc _ => fixSays_lifted os started H enc)

/-- THE STATEMENT. -/
theorem fixSays_proved : Rows.FixSaysSaid := fixSays_over
#print axioms fixSays_proved
end Go.Proofs.Ytockodmbhnlheaa
