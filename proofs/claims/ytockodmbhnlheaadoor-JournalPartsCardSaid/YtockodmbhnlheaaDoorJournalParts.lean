/-
  The law JournalParts: from its walk to the row and its card.
-/
import Derived.Test.YtockodmbhnlheaaDoorRowD
import Derived.Test.YtockodmbhnlheaaDoorRowC
import Derived.Test.YtockodmbhnlheaaDoorJParW
import Derived.JoinedOf
import Derived.SevenTiedAt
import Derived.KernelRfl
namespace Go.Proofs.YtockodmbhnlheaaDoor
open Go.ChangeShapes Go.WideShapes Go.ChangeAt Go.RowKit

theorem fitC_of {c : Cm} (h : FitCm c) : FitC c := ⟨h.acc, h.market, h.n, h.o.price, h.o.qty⟩
set_option maxRecDepth 100000 in
theorem journalParts_met (os : Os) (args : Array Value) : laidMetH Tryd.prog Rows.journalPartsRow.laid ((World.laidAll Tryd.prog os Rows.journalPartsRow.laid).forCall (fun _ _ => 0) ⟨#[], args, []⟩).memory := by
  rw [MakeChecks.laidMetH_plain _ _ _ (by kernel_rfl)]; exact laidMet_laidAll _ (by kernel_rfl) (by kernel_rfl)
set_option maxRecDepth 100000 in
theorem journalParts_env {W : World} (h : laidMetH Tryd.prog Rows.journalPartsRow.laid W) (hS : W.ShapedOpen Tryd.prog) : Env W := by
  rw [MakeChecks.laidMetH_plain _ _ _ (by kernel_rfl)] at h
  exact env_of h hS (by simp [Rows.journalPartsRow]) (by rfl) (by rfl)
set_option maxRecDepth 100000 in
theorem journalParts_lifted (os : Os) (started : os.Started) (H : Type) (enc : TypeId × Value → H) :
    ReturnsInHanded {} Tryd.checked os 4 .any (fun w args => (Rows.journalPartsSpec.pre enc Tryd.prog Tryd.f4 [] false w args ∧ laidMetH Tryd.prog Rows.journalPartsRow.laid w) ∧ sizedMet enc Tryd.prog Tryd.f4 (OpenSpec.ofChange Rows.journalPartsSpec) false w args)
      (Rows.journalPartsSpec.post enc Tryd.prog Tryd.f4 false true false false) := by
  refine returns_door (C := Tryd.checked) (X := fun w _ => laidMetH Tryd.prog Rows.journalPartsRow.laid w) (fun _ _ _ hh h => h.of_heap hh) row_own started (by kernel_rfl) Tryd.func4
    (ChangeSpec.witness_shaped (enc := enc) (C := Tryd.checked) (os := os) (X := fun w _ => laidMetH Tryd.prog Rows.journalPartsRow.laid w) false (World.laidAll Tryd.prog os Rows.journalPartsRow.laid) #[.agg #[.slice none 0 0, .slice none 0 0], .agg #[.int .i64 0, .int .i64 0, .int .i64 0, .int .i64 0, .int .i64 0, .int .i64 0, .int .i64 0, .int .i64 0, .int .i64 0, .int .i64 0, .bool false], .agg #[.int .i64 0, .int .i64 0, .int .i64 0, .int .i64 0, .int .i64 0, .int .i64 0, .int .i64 0, .int .i64 0, .int .i64 0, .int .i64 0, .bool false]] 8 (World.laidAll_os _ _ _)
      (World.shaped_of_ZipB (by kernel_rfl) (by kernel_rfl)) (by kernel_rfl) (by kernel_rfl) (by kernel_rfl) (journalParts_met os _)) ?_
  intro W base args ds gs before hval0 hW hcnd hsz hL hS _
  have HEnv := journalParts_env hL hS
  have hval : ∀ (j : Nat) t v, Tryd.f4.params[j]? = some t → args[j]? = some v → Value.okWide Tryd.prog W .any base t v := hval0
  have hW' := hW
  obtain ⟨p, q, hA0, hV, rfl, hfz, hnd⟩ := hW
  have hA : DataW.TrodAll enc Tryd.prog W 0 (fun _ => true) true Tryd.f4.params.toList args.toList ds p := hA0
  obtain ⟨rfl, rfl⟩ := trodVars_none hV
  have hkeep := fun W' (bel : Below W.heap.size W W') => trodAll_below row_laidOut bel (by kernel_rfl) hA
  rw [Tryd.params4] at hA hval
  obtain ⟨v0, vs0, d0, ds0, p0, q0, hargs, rfl, rfl, h0, tl0⟩ := trodAll_cons hA
  obtain ⟨v1, vs1, d1, ds1, p1, q1, rfl, rfl, rfl, h1, tl1⟩ := trodAll_cons tl0
  obtain ⟨v2, vs2, d2, ds2, p2, q2, rfl, rfl, rfl, h2, tl2⟩ := trodAll_cons tl1
  obtain ⟨rfl, rfl, rfl⟩ := trodAll_nil tl2
  obtain rfl : args = #[v0, v1, v2] := by cases args; simp_all
  clear hargs
  have hs0 : (DataW.weightsEach Tryd.prog (Tryd.f4.params.toList ++ Rows.journalPartsSpec.plain.varTypes Tryd.prog) ([d0, d1, d2] ++ [])).all (· ≤ reachBytes) = true := hsz
  rw [show Rows.journalPartsSpec.plain.varTypes Tryd.prog = [] from rfl, List.append_nil, List.append_nil] at hs0
  have hsz' : (DataW.weightsEach Tryd.prog Tryd.f4.params.toList [d0, d1, d2]).all (· ≤ reachBytes) = true := hs0
  rw [Tryd.params4] at hsz'
  obtain ⟨y0, t0⟩ := weights_head hsz'
  obtain ⟨y1, t1⟩ := weights_head t0
  obtain ⟨y2, t2⟩ := weights_head t1
  obtain ⟨D0, A0, c0, B0, e0, rfl, r0, q0⟩ := opens_disk (hval 0 36 v0 rfl rfl) h0 y0
  obtain ⟨C1, rfl, i1⟩ := opens_command (hval 1 25 v1 rfl rfl) h1
  obtain ⟨C2, rfl, i2⟩ := opens_command (hval 2 25 v2 rfl rfl) h2
  refine (journalParts_walk D0 A0 c0 B0 e0 C1 C2 W HEnv r0 q0 (fitC_of i1) (fitC_of i2)).mono fun e W' ⟨he, bel⟩ => ?_
  subst he
  exact ⟨_, rfl, _, _, _, [], _, [], hW', trodAll_mk1 (shut_bool Tryd.underlying4 _), hkeep W' bel, rfl, bel.frame _, fun h => by cases h⟩

set_option maxHeartbeats 4000000 in
theorem journalParts_over : Rows.JournalPartsSaid :=
  OpenClaim.holds_of_wide 4 Tryd.f4 rfl rfl rfl rfl rfl rfl rfl ⟨rfl, rfl, rfl, rfl, rfl⟩ rfl rfl rfl rfl rfl (by as_aux_lemma => kernel_rfl) Tryd.func4 (by as_aux_lemma => kernel_rfl)
    (of_decide_eq_true (by as_aux_lemma => kernel_rfl)) (by unfold Func.isWrapper; first | (rw [if_pos (by decide +kernel)]; as_aux_lemma => kernel_rfl) | (rw [if_neg (by decide +kernel)]; exact ⟨rfl, rfl⟩))
    (fun os started H enc _ => journalParts_lifted os started H enc)

/-- THE CARD. -/
theorem journalParts_proved : Rows.JournalPartsCardSaid :=
  Claim7.holds_tied_plain_at .later [] [.data, .data, .data, .data, .sentinel, .sentinel, .pinned] true Rows.journalPartsCard.stood.harness Rows.journalPartsCard.stood.looks
    journalParts_over (fun _ h => by cases h) (by kernel_rfl) (fun _ h => by cases h) journalParts_row_tie rfl ⟨rfl, rfl⟩ (by kernel_rfl) rfl
    (fun f fn hf hfn => by
      obtain rfl : f = 4 := Option.some.inj ((show Tryd.prog.funcNamed "tollbooth/tollboothlaw.JournalParts" = some 4 by kernel_rfl).symm.trans hf) |>.symm
      obtain rfl : fn = Tryd.f4 := (Option.some.inj (Eq.trans (Eq.symm Tryd.func4) hfn)).symm
      exact ⟨by kernel_rfl, fun j t ht => by
        rw [Tryd.params4] at ht
        have hm : t ∈ [36, 25, 25] := by simpa using Array.mem_of_getElem? ht
        have hall : ([36, 25, 25].all fun u => !Tryd.prog.wantsStandIn u) = true := by kernel_rfl
        exact (show Tryd.prog.wantsStandIn t = false by simpa using List.all_eq_true.1 hall t hm)⟩)
    (by kernel_rfl)
#print axioms journalParts_proved
end Go.Proofs.YtockodmbhnlheaaDoor
