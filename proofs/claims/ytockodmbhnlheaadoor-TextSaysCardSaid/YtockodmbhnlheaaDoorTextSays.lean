/-
  The law TextSays: from its walk to the row and its card.
-/
import Derived.Test.YtockodmbhnlheaaDoorRowD
import Derived.Test.YtockodmbhnlheaaDoorRowC
import Derived.Test.YtockodmbhnlheaaDoorTextSaysW
import Derived.JoinedOf
import Derived.SevenTiedAt
import Derived.KernelRfl
namespace Go.Proofs.YtockodmbhnlheaaDoor
open Go.ChangeShapes Go.WideShapes Go.ChangeAt Go.RowKit

theorem fitC_of {c : Cm} (h : FitCm c) : FitC c := ⟨h.acc, h.market, h.n, h.o.price, h.o.qty⟩
set_option maxRecDepth 100000 in
theorem textSays_met (os : Os) (args : Array Value) : laidMetH Tryd.prog Rows.textSaysRow.laid ((World.laidAll Tryd.prog os Rows.textSaysRow.laid).forCall (fun _ _ => 0) ⟨#[], args, []⟩).memory := by
  rw [MakeChecks.laidMetH_plain _ _ _ (by kernel_rfl)]; exact laidMet_laidAll _ (by kernel_rfl) (by kernel_rfl)
theorem space_data : (Rows.laid_strings_asciiSpace : DataW Unit) = Lib.tabData .u8 Lib.asciiSpaceTab := by kernel_rfl
set_option maxRecDepth 100000 in
theorem envF_of {l : List (String × DataW Unit)} {W : World} (hL : laidMet Tryd.prog l W) (hE : Env W) (h1 : ("strings.asciiSpace", Rows.laid_strings_asciiSpace) ∈ l) : EnvF W := by
  refine ⟨hE, ?_⟩
  obtain ⟨g, t, cs, fuel, p, hg, ht, hv, hd⟩ := Lib.laidMet.reads hL h1
  obtain rfl := Option.some.inj ((show Tryd.prog.globalNamed "strings.asciiSpace" = some 0 by kernel_rfl).symm.trans hg)
  obtain rfl := Option.some.inj ((show (Tryd.prog.globals[0]?).map (·.type) = some 102 by kernel_rfl).symm.trans ht)
  rw [space_data] at hd
  have hc := Lib.cells_of_tab Tryd.underlying102 Tryd.underlying5 (by kernel_rfl) (by kernel_rfl) hd
  obtain ⟨l0⟩ := cs
  simp only at hc
  subst hc
  exact var_cells hg hv
set_option maxRecDepth 100000 in
theorem textSays_env {W : World} (h : laidMetH Tryd.prog Rows.textSaysRow.laid W) (hS : W.ShapedOpen Tryd.prog) : EnvF W := by
  rw [MakeChecks.laidMetH_plain _ _ _ (by kernel_rfl)] at h
  exact envF_of h (env_of h hS (by simp [Rows.textSaysRow]) (by rfl) (by rfl)) (by simp [Rows.textSaysRow])
set_option maxRecDepth 100000 in
theorem textSays_lifted (os : Os) (started : os.Started) (H : Type) (enc : TypeId × Value → H) :
    ReturnsInHanded {} Tryd.checked os 5 .any (fun w args => (Rows.textSaysSpec.pre enc Tryd.prog Tryd.f5 [] false w args ∧ laidMetH Tryd.prog Rows.textSaysRow.laid w) ∧ sizedMet enc Tryd.prog Tryd.f5 (OpenSpec.ofChange Rows.textSaysSpec) false w args)
      (Rows.textSaysSpec.post enc Tryd.prog Tryd.f5 false true false false) := by
  refine returns_door (C := Tryd.checked) (X := fun w _ => laidMetH Tryd.prog Rows.textSaysRow.laid w) (fun _ _ _ hh h => h.of_heap hh) row_own started (by kernel_rfl) Tryd.func5
    (ChangeSpec.witness_shaped (enc := enc) (C := Tryd.checked) (os := os) (X := fun w _ => laidMetH Tryd.prog Rows.textSaysRow.laid w) false (World.laidAll Tryd.prog os Rows.textSaysRow.laid) #[.agg #[.int .i64 0, .int .i64 0, .int .i64 0, .int .i64 0, .int .i64 0, .int .i64 0, .int .i64 0, .int .i64 0, .int .i64 0, .int .i64 0, .bool false], .string ByteArray.empty] 8 (World.laidAll_os _ _ _)
      (World.shaped_of_ZipB (by kernel_rfl) (by kernel_rfl)) (by kernel_rfl) (by kernel_rfl) (by kernel_rfl) (textSays_met os _)) ?_
  intro W base args ds gs before hval0 hW hcnd hsz hL hS _
  have HEnv := textSays_env hL hS
  have hval : ∀ (j : Nat) t v, Tryd.f5.params[j]? = some t → args[j]? = some v → Value.okWide Tryd.prog W .any base t v := hval0
  have hW' := hW
  obtain ⟨p, q, hA0, hV, rfl, hfz, hnd⟩ := hW
  have hA : DataW.TrodAll enc Tryd.prog W 0 (fun _ => true) true Tryd.f5.params.toList args.toList ds p := hA0
  obtain ⟨rfl, rfl⟩ := trodVars_none hV
  have hkeep := fun W' (bel : Below W.heap.size W W') => trodAll_below row_laidOut bel (by kernel_rfl) hA
  rw [Tryd.params5] at hA hval
  obtain ⟨v0, vs0, d0, ds0, p0, q0, hargs, rfl, rfl, h0, tl0⟩ := trodAll_cons hA
  obtain ⟨v1, vs1, d1, ds1, p1, q1, rfl, rfl, rfl, h1, tl1⟩ := trodAll_cons tl0
  obtain ⟨rfl, rfl, rfl⟩ := trodAll_nil tl1
  obtain rfl : args = #[v0, v1] := by cases args; simp_all
  clear hargs
  have hs0 : (DataW.weightsEach Tryd.prog (Tryd.f5.params.toList ++ Rows.textSaysSpec.plain.varTypes Tryd.prog) ([d0, d1] ++ [])).all (· ≤ reachBytes) = true := hsz
  rw [show Rows.textSaysSpec.plain.varTypes Tryd.prog = [] from rfl, List.append_nil, List.append_nil] at hs0
  have hsz' : (DataW.weightsEach Tryd.prog Tryd.f5.params.toList [d0, d1]).all (· ≤ reachBytes) = true := hs0
  rw [Tryd.params5] at hsz'
  obtain ⟨y0, t0⟩ := weights_head hsz'
  obtain ⟨y1, t1⟩ := weights_head t0
  obtain ⟨C0, rfl, i0⟩ := opens_command (hval 0 25 v0 rfl rfl) h0
  obtain ⟨s1, rfl⟩ := opens_str (hval 1 9 v1 rfl rfl) h1
  refine (textSays_walk C0 s1 W HEnv (fitC_of i0)).mono fun e W' ⟨he, bel⟩ => ?_
  subst he
  exact ⟨_, rfl, _, _, _, [], _, [], hW', trodAll_mk1 (shut_bool Tryd.underlying4 _), hkeep W' bel, rfl, bel.frame _, fun h => by cases h⟩

set_option maxHeartbeats 4000000 in
theorem textSays_over : Rows.TextSaysSaid :=
  OpenClaim.holds_of_wide 5 Tryd.f5 rfl rfl rfl rfl rfl rfl rfl ⟨rfl, rfl, rfl, rfl, rfl⟩ rfl rfl rfl rfl rfl (by as_aux_lemma => kernel_rfl) Tryd.func5 (by as_aux_lemma => kernel_rfl)
    (of_decide_eq_true (by as_aux_lemma => kernel_rfl)) (by unfold Func.isWrapper; first | (rw [if_pos (by decide +kernel)]; as_aux_lemma => kernel_rfl) | (rw [if_neg (by decide +kernel)]; exact ⟨rfl, rfl⟩))
    (fun os started H enc _ => textSays_lifted os started H enc)

/-- THE CARD. -/
theorem textSays_proved : Rows.TextSaysCardSaid :=
  Claim7.holds_tied_plain_at .later [] [.data, .data, .data, .data, .sentinel, .sentinel, .listed, .data, .pinned] true Rows.textSaysCard.stood.harness Rows.textSaysCard.stood.looks
    textSays_over (fun _ h => by cases h) (by kernel_rfl) (fun _ h => by cases h) textSays_row_tie rfl ⟨rfl, rfl⟩ (by kernel_rfl) rfl
    (fun f fn hf hfn => by
      obtain rfl : f = 5 := Option.some.inj ((show Tryd.prog.funcNamed "tollbooth/tollboothlaw.TextSays" = some 5 by kernel_rfl).symm.trans hf) |>.symm
      obtain rfl : fn = Tryd.f5 := (Option.some.inj (Eq.trans (Eq.symm Tryd.func5) hfn)).symm
      exact ⟨by kernel_rfl, fun j t ht => by
        rw [Tryd.params5] at ht
        have hm : t ∈ [25, 9] := by simpa using Array.mem_of_getElem? ht
        have hall : ([25, 9].all fun u => !Tryd.prog.wantsStandIn u) = true := by kernel_rfl
        exact (show Tryd.prog.wantsStandIn t = false by simpa using List.all_eq_true.1 hall t hm)⟩)
    (by kernel_rfl)
#print axioms textSays_proved
end Go.Proofs.YtockodmbhnlheaaDoor
