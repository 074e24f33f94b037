/-
  The law BookOrder: from its walk to the row.
-/
import Derived.Test.YtockodmbhnlheaaRowB
import Derived.Test.YtockodmbhnlheaaClosed
import Derived.Test.YtockodmbhnlheaaBookOrderW
namespace Go.Proofs.Ytockodmbhnlheaa
open Go.ChangeShapes Go.WideShapes Go.ChangeAt Go.RowKit

set_option maxRecDepth 100000 in
theorem bookOrder_lifted (os : Os) (started : os.Started) (H : Type) (enc : TypeId × Value → H) :
    ReturnsInHanded {} Try.checked os 14 .any (Rows.bookOrderSpec.pre6 enc Try.prog Try.f14 Rows.bookOrderRow.domain false) (Rows.bookOrderSpec.post enc Try.prog Try.f14 false true false false) := by
  refine returnsInHanded_of_change_sized (C := Try.checked) row_own started (by kernel_rfl) Try.func14
    (ChangeSpec.witness6 (enc := enc) (C := Try.checked) false ⟨#[], #[.agg #[.slice none 0 0, .slice none 0 0], .slice none 0 0], []⟩ 8 (by kernel_rfl) (by kernel_rfl) (by kernel_rfl) (by kernel_rfl)) ?_
  intro W base args ds gs before hval0 hW hcnd hsz _
  have hval : ∀ (j : Nat) t v, Try.f14.params[j]? = some t → args[j]? = some v → Value.okWide Try.prog W .any base t v := hval0
  have hW' := hW
  obtain ⟨p, q, hA0, hV, rfl, hfz, hnd⟩ := hW
  have hA : DataW.TrodAll enc Try.prog W 0 (fun _ => true) true Try.f14.params.toList args.toList ds p := hA0
  obtain ⟨rfl, rfl⟩ := trodVars_none hV
  have hkeep := fun W' (bel : Below W.heap.size W W') => trodAll_below row_laidOut bel (by kernel_rfl) hA
  rw [Try.params14] at hA hval
  obtain ⟨v0, vs0, d0, ds0, p0, q0, hargs, rfl, rfl, h0, tl0⟩ := trodAll_cons hA
  obtain ⟨v1, vs1, d1, ds1, p1, q1, rfl, rfl, rfl, h1, tl1⟩ := trodAll_cons tl0
  obtain ⟨rfl, rfl, rfl⟩ := trodAll_nil tl1
  obtain rfl : args = #[v0, v1] := by cases args; simp_all
  clear hargs
  have hs0 : (DataW.weightsEach Try.prog (Try.f14.params.toList ++ Rows.bookOrderSpec.plain.varTypes Try.prog) ([d0, d1] ++ [])).all (· ≤ reachBytes) = true := hsz
  rw [show Rows.bookOrderSpec.plain.varTypes Try.prog = [] from rfl, List.append_nil, List.append_nil] at hs0
  have hsz' : (DataW.weightsEach Try.prog Try.f14.params.toList [d0, d1]).all (· ≤ reachBytes) = true := hs0
  rw [Try.params14] at hsz'
  obtain ⟨y0, t0⟩ := weights_head hsz'
  obtain ⟨y1, t1⟩ := weights_head t0
  obtain ⟨b0, A0, Z0, c0, e0, rfl, r0, q0, ⟨s0, t0⟩, i0⟩ := opens_book (hval 0 62 v0 rfl rfl) h0 y0
  obtain ⟨A1, n1, c1, l1, rfl, r1, s1, i1⟩ := opens_ints (hval 1 24 v1 rfl rfl) h1 y1
  refine (bookOrder_walk b0 A0 Z0 c0 e0 A1 n1 c1 l1 W r0 q0 s0 t0 r1).mono fun e W' ⟨he, bel⟩ => ?_
  subst he
  exact ⟨_, rfl, _, _, _, [], _, [], hW', trodAll_mk1 (shut_bool Try.underlying4 _), hkeep W' bel, rfl, bel.frame _, fun h => by cases h⟩

set_option maxHeartbeats 4000000 in
theorem bookOrder_closed : joinedFacts Try.prog 14 Try.f14 Rows.bookOrderSpec Rows.bookOrderRow = true :=
  joined_mk _ _ _ _ _ (by as_aux_lemma => kernel_rfl) closed_laid closed_mapsRowed (by as_aux_lemma => kernel_rfl) (by as_aux_lemma => kernel_rfl) (by as_aux_lemma => kernel_rfl) closed_stops (by as_aux_lemma => kernel_rfl) closed_stopKnobs (by as_aux_lemma => kernel_rfl) (by as_aux_lemma => kernel_rfl) (by as_aux_lemma => kernel_rfl) (by as_aux_lemma => kernel_rfl) (by as_aux_lemma => kernel_rfl) (by as_aux_lemma => kernel_rfl) (by as_aux_lemma => kernel_rfl) (by as_aux_lemma => kernel_rfl) (by as_aux_lemma => kernel_rfl) (by as_aux_lemma => kernel_rfl) (by as_aux_lemma => kernel_rfl) (by as_aux_lemma => kernel_rfl) (by as_aux_lemma => kernel_rfl) closed_plainKeys (by as_aux_lemma => kernel_rfl) closed_stopsHeard closed_mayEnter closed_lifted closed_make (by as_aux_lemma => kernel_rfl) (by as_aux_lemma => kernel_rfl) (by as_aux_lemma => kernel_rfl) (by as_aux_lemma => kernel_rfl)

set_option maxHeartbeats 4000000 in
theorem bookOrder_over : Rows.bookOrderRow.holds Try.pinned (OpenSpec.ofChange Rows.bookOrderSpec) :=
  OpenClaim.holds_of_wide 14 Try.f14 rfl rfl rfl rfl rfl rfl rfl ⟨rfl, rfl, rfl, rfl, rfl⟩ rfl rfl rfl rfl rfl (by as_aux_lemma => kernel_rfl) Try.func14 bookOrder_closed
    (of_decide_eq_true (by as_aux_lemma => kernel_rfl)) (by unfold Func.isWrapper; first | (rw [if_pos (by decide +kernel)]; as_aux_lemma => kernel_rfl) | (rw [if_neg (by decide +kernel)]; exact ⟨rfl, rfl⟩))
    (fun os started H enc _ => bookOrder_lifted os started H enc)

/-- THE STATEMENT. -/
theorem bookOrder_proved : Rows.BookOrderSaid := bookOrder_over
#print axioms bookOrder_proved
end Go.Proofs.Ytockodmbhnlheaa
