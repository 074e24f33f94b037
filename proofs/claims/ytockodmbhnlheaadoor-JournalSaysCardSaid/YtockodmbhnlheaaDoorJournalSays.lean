/-
  The law JournalSays: from its walk to the row and its card.
-/
import Derived.Test.YtockodmbhnlheaaDoorRowD
import Derived.Test.YtockodmbhnlheaaDoorRowC
import Derived.Test.YtockodmbhnlheaaDoorJSaysW
import Derived.JoinedOf
import Derived.SevenTiedAt
import Derived.KernelRfl
namespace Go.Proofs.YtockodmbhnlheaaDoor
open Go.ChangeShapes Go.WideShapes Go.ChangeAt Go.RowKit

theorem fitC_of {c : Cm} (h : FitCm c) : FitC c := ⟨h.acc, h.market, h.n, h.o.price, h.o.qty⟩
set_option maxRecDepth 100000 in
theorem journalSays_met (os : Os) (args : Array Value) : laidMetH Tryd.prog Rows.journalSaysRow.laid ((World.laidAll Tryd.prog os Rows.journalSaysRow.laid).forCall (fun _ _ => 0) ⟨#[], args, []⟩).memory := by
  rw [MakeChecks.laidMetH_plain _ _ _ (by kernel_rfl)]; exact laidMet_laidAll _ (by kernel_rfl) (by kernel_rfl)
theorem space_data : (Rows.laid_strings_asciiSpace : DataW Unit) = Lib.tabData .u8 Lib.asciiSpaceTab := by kernel_rfl
set_option maxRecDepth 100000 in
theorem envF_of {l : List (String × DataW Unit)} {W : World} (hL : laidMet Tryd.prog l W) (hE : Env W) (h1 : ("strings.asciiSpace", Rows.laid_strings_asciiSpace) ∈ l) : EnvF W := by
  refine ⟨hE, ?_⟩
  obtain ⟨g, t, cs, fuel, p, hg, ht, hv, hd⟩ := Lib.laidMet.reads hL h1
  obtain rfl := Option.some.inj ((show Tryd.prog.globalNamed "strings.asciiSpace" = some 0 by kernel_rfl).symm.trans hg)
  obtain rfl := Option.some.inj ((show (Tryd.prog.globals[0]?).map (·.type) = some 102 by kernel_rfl).symm.trans ht)
  rw [space_data] at hd
  have hc := Lib.cells_of_tab Tryd.underlying102 Tryd.underlying5 (by kernel_rfl) (by kernel_rfl) hd
  obtain ⟨l0⟩ := cs
  simp only at hc
  subst hc
  exact var_cells hg hv
set_option maxRecDepth 100000 in
theorem journalSays_env {W : World} (h : laidMetH Tryd.prog Rows.journalSaysRow.laid W) (hS : W.ShapedOpen Tryd.prog) : EnvF W := by
  rw [MakeChecks.laidMetH_plain _ _ _ (by kernel_rfl)] at h
  exact envF_of h (env_of h hS (by simp [Rows.journalSaysRow]) (by rfl) (by rfl)) (by simp [Rows.journalSaysRow])
set_option maxRecDepth 100000 in
theorem journalSays_lifted (os : Os) (started : os.Started) (H : Type) (enc : TypeId × Value → H) :
    ReturnsInHanded {} Tryd.checked os 6 .any (fun w args => (Rows.journalSaysSpec.pre enc Tryd.prog Tryd.f6 [] false w args ∧ laidMetH Tryd.prog Rows.journalSaysRow.laid w) ∧ sizedMet enc Tryd.prog Tryd.f6 (OpenSpec.ofChange Rows.journalSaysSpec) false w args)
      (Rows.journalSaysSpec.post enc Tryd.prog Tryd.f6 false true false false) := by
  refine returns_door (C := Tryd.checked) (X := fun w _ => laidMetH Tryd.prog Rows.journalSaysRow.laid w) (fun _ _ _ hh h => h.of_heap hh) row_own started (by kernel_rfl) Tryd.func6
    (ChangeSpec.witness_shaped (enc := enc) (C := Tryd.checked) (os := os) (X := fun w _ => laidMetH Tryd.prog Rows.journalSaysRow.laid w) false (World.laidAll Tryd.prog os Rows.journalSaysRow.laid) #[.agg #[.slice none 0 0, .slice none 0 0], .agg #[.int .i64 0, .int .i64 0, .int .i64 0, .int .i64 0, .int .i64 0, .int .i64 0, .int .i64 0, .int .i64 0, .int .i64 0, .int .i64 0, .bool false], .int .i64 0] 8 (World.laidAll_os _ _ _)
      (World.shaped_of_ZipB (by kernel_rfl) (by kernel_rfl)) (by kernel_rfl) (by kernel_rfl) (by kernel_rfl) (journalSays_met os _)) ?_
  intro W base args ds gs before hval0 hW hcnd hsz hL hS _
  have HEnv := journalSays_env hL hS
  have hval : ∀ (j : Nat) t v, Tryd.f6.params[j]? = some t → args[j]? = some v → Value.okWide Tryd.prog W .any base t v := hval0
  have hW' := hW
  obtain ⟨p, q, hA0, hV, rfl, hfz, hnd⟩ := hW
  have hA : DataW.TrodAll enc Tryd.prog W 0 (fun _ => true) true Tryd.f6.params.toList args.toList ds p := hA0
  obtain ⟨rfl, rfl⟩ := trodVars_none hV
  have hkeep := fun W' (bel : Below W.heap.size W W') => trodAll_below row_laidOut bel (by kernel_rfl) hA
  rw [Tryd.params6] at hA hval
  obtain ⟨v0, vs0, d0, ds0, p0, q0, hargs, rfl, rfl, h0, tl0⟩ := trodAll_cons hA
  obtain ⟨v1, vs1, d1, ds1, p1, q1, rfl, rfl, rfl, h1, tl1⟩ := trodAll_cons tl0
  obtain ⟨v2, vs2, d2, ds2, p2, q2, rfl, rfl, rfl, h2, tl2⟩ := trodAll_cons tl1
  obtain ⟨rfl, rfl, rfl⟩ := trodAll_nil tl2
  obtain rfl : args = #[v0, v1, v2] := by cases args; simp_all
  clear hargs
  have hs0 : (DataW.weightsEach Tryd.prog (Tryd.f6.params.toList ++ Rows.journalSaysSpec.plain.varTypes Tryd.prog) ([d0, d1, d2] ++ [])).all (· ≤ reachBytes) = true := hsz
  rw [show Rows.journalSaysSpec.plain.varTypes Tryd.prog = [] from rfl, List.append_nil, List.append_nil] at hs0
  have hsz' : (DataW.weightsEach Tryd.prog Tryd.f6.params.toList [d0, d1, d2]).all (· ≤ reachBytes) = true := hs0
  rw [Tryd.params6] at hsz'
  obtain ⟨y0, t0⟩ := weights_head hsz'
  obtain ⟨y1, t1⟩ := weights_head t0
  obtain ⟨y2, t2⟩ := weights_head t1
  obtain ⟨D0, A0, c0, B0, e0, rfl, r0, q0⟩ := opens_disk (hval 0 36 v0 rfl rfl) h0 y0
  obtain ⟨C1, rfl, i1⟩ := opens_command (hval 1 25 v1 rfl rfl) h1
  obtain ⟨z2, rfl, i2⟩ := opens_int (hval 2 3 v2 rfl rfl) h2
  refine (journalSays_walk D0 A0 c0 B0 e0 C1 z2 W HEnv r0 q0 (fitC_of i1)).mono fun e W' ⟨he, bel⟩ => ?_
  subst he
  exact ⟨_, rfl, _, _, _, [], _, [], hW', trodAll_mk1 (shut_bool Tryd.underlying4 _), hkeep W' bel, rfl, bel.frame _, fun h => by cases h⟩

set_option maxHeartbeats 4000000 in
theorem journalSays_over : Rows.JournalSaysSaid :=
  OpenClaim.holds_of_wide 6 Tryd.f6 rfl rfl rfl rfl rfl rfl rfl ⟨rfl, rfl, rfl, rfl, rfl⟩ rfl rfl rfl rfl rfl (by as_aux_lemma => kernel_rfl) Tryd.func6 (by as_aux_lemma => kernel_rfl)
    (of_decide_eq_true (by as_aux_lemma => kernel_rfl)) (by unfold Func.isWrapper; first | (rw [if_pos (by decide +kernel)]; as_aux_lemma => kernel_rfl) | (rw [if_neg (by decide +kernel)]; exact ⟨rfl, rfl⟩))
    (fun os started H enc _ => journalSays_lifted os started H enc)

/-- THE CARD. -/
theorem journalSays_proved : Rows.JournalSaysCardSaid :=
  Claim7.holds_tied_plain_at .later [] [.data, .data, .data, .data, .sentinel, .sentinel, .listed, .data, .pinned] true Rows.journalSaysCard.stood.harness Rows.journalSaysCard.stood.looks
    journalSays_over (fun _ h => by cases h) (by kernel_rfl) (fun _ h => by cases h) journalSays_row_tie rfl ⟨rfl, rfl⟩ (by kernel_rfl) rfl
    (fun f fn hf hfn => by
      obtain rfl : f = 6 := Option.some.inj ((show Tryd.prog.funcNamed "tollbooth/tollboothlaw.JournalSays" = some 6 by kernel_rfl).symm.trans hf) |>.symm
      obtain rfl : fn = Tryd.f6 := (Option.some.inj (Eq.trans (Eq.symm Tryd.func6) hfn)).symm
      exact ⟨by kernel_rfl, fun j t ht => by
        rw [Tryd.params6] at ht
        have hm : t ∈ [36, 25, 3] := by simpa using Array.mem_of_getElem? ht
        have hall : ([36, 25, 3].all fun u => !Tryd.prog.wantsStandIn u) = true := by kernel_rfl
        exact (show Tryd.prog.wantsStandIn t = false by simpa using List.all_eq_true.1 hall t hm)⟩)
    (by kernel_rfl)
#print axioms journalSays_proved
end Go.Proofs.YtockodmbhnlheaaDoor
