/-
  THE LAW VenueCancels: holds for every input, with no condition. (Joined texts: VenueCancels.)
-/
import Derived.Test.YtockodmbhnlheaaM06
import Derived.Test.YtockodmbhnlheaaM19
import Derived.Test.YtockodmbhnlheaaM01
import Derived.Test.YtockodmbhnlheaaProg
import Derived.Maps.AppendAt
import Derived.Laws.AppendOwnNone
import Derived.OwnWalk
import Derived.Test.YtockodmbhnlheaaM07
import Derived.Test.YtockodmbhnlheaaM12
import Derived.Test.YtockodmbhnlheaaM05
import Derived.Test.YtockodmbhnlheaaM03
import Derived.Deep.RegionHeld3
import Derived.Test.YtockodmbhnlheaaM02
import Derived.BigQuiet
import Derived.Test.YtockodmbhnlheaaM08
import Derived.Lib.AppendZeros
import Derived.Test.YtockodmbhnlheaaRows
import Derived.JoinedOf
import Derived.KernelRfl
import Derived.Test.YtockodmbhnlheaaM09
import Derived.Test.YtockodmbhnlheaaM10
import Derived.Test.YtockodmbhnlheaaM11
import Derived.Test.YtockodmbhnlheaaM13
import Derived.Test.YtockodmbhnlheaaM15
import Derived.Test.YtockodmbhnlheaaM16
import Derived.Deep.DeepCutAuto
import Derived.Test.YtockodmbhnlheaaM14
import Derived.Deep.RegionLaw
import Derived.Test.YtockodmbhnlheaaM04
import Derived.WalkKit
import Derived.WalkSpells
import Derived.WalkLawsBesides
import Derived.Lib.Hide
import Derived.Laws.CopyOwn
import Derived.Lib.AppendZerosOnto
import Derived.Lib.Overlaps
import Derived.Laws.Externs
import Derived.Test.YtockodmbhnlheaaM18
import Derived.Laws.MakeOwn
import Derived.Maps.Own
import Derived.Maps.OwnOps
import Derived.Maps.Views
import Derived.Deep.QuietTactic
import Derived.Deep.Draws
import Derived.IntWalk
import Derived.ProofKit
import Derived.OpenShut
import Derived.SizedLaws
import Derived.Deep.Slices
import Derived.RegionTactic
import Derived.ChangeAlike
import Derived.Test.YtockodmbhnlheaaM17
namespace Go.Proofs.Ytockodmbhnlheaa
section
open Go.ChangeShapes Go.WideShapes Go.ChangeAt Go.RowKit
set_option maxRecDepth 100000 in
theorem venueCancels_lifted (os:Os) (started:os.Started) (H:Type) (enc:TypeId × Value→H) :
  ReturnsInHanded {} Try.checked os 27 .any (Rows.venueCancelsSpec.pre6 enc Try.prog Try.f27 Rows.venueCancelsRow.domain false) (Rows.venueCancelsSpec.post enc Try.prog Try.f27 false true false false):=by
 refine returnsInHanded_of_change_sized (C:=Try.checked) row_own started (by kernel_rfl) Try.func27
  (ChangeSpec.witness6 (enc:=enc) (C:=Try.checked) false ⟨#[],#[.agg #[.slice none 0 0,.slice none 0 0,.int .i64 0,.int .i64 0,.int .i64 0,.int .i64 0,.int .i64 0],.agg #[.int .i64 0,.int .i64 0,.int .i64 0,.int .i64 0,.int .i64 0,.int .i64 0,.int .i64 0,.int .i64 0,.int .i64 0,.int .i64 0,.bool false],.int .i64 0],[]⟩ 8 (by kernel_rfl) (by kernel_rfl) (by kernel_rfl) (by kernel_rfl)) ?_
 intro W base args ds gs before hval0 hW hcnd hsz _
 have hval:∀ (j:Nat) t v,Try.f27.params[j]?=some t→args[j]?=some v→Value.okWide Try.prog W .any base t v:=hval0
 have hW':=hW
 obtain ⟨p,q,hA0,hV,rfl,hfz,hnd⟩:=hW
 have hA:DataW.TrodAll enc Try.prog W 0 (fun _=>true) true Try.f27.params.toList args.toList ds p:=hA0
 obtain ⟨rfl,rfl⟩:=trodVars_none hV
 have hkeep:=fun W' (bel:Below W.heap.size W W')=>trodAll_below row_laidOut bel (by kernel_rfl) hA
 rw [Try.params27] at hA hval
 obtain ⟨v0,vs0,d0,ds0,p0,q0,hargs,rfl,rfl,h0,tl0⟩:=trodAll_cons hA
 obtain ⟨v1,vs1,d1,ds1,p1,q1,rfl,rfl,rfl,h1,tl1⟩:=trodAll_cons tl0
 obtain ⟨v2,vs2,d2,ds2,p2,q2,rfl,rfl,rfl,h2,tl2⟩:=trodAll_cons tl1
 obtain ⟨rfl,rfl,rfl⟩:=trodAll_nil tl2
 obtain rfl:args = #[v0,v1,v2]:=by cases args;simp_all
 clear hargs
 have hs0:(DataW.weightsEach Try.prog (Try.f27.params.toList ++ Rows.venueCancelsSpec.plain.varTypes Try.prog) ([d0,d1,d2] ++ [])).all (· ≤ reachBytes)=true:=hsz
 rw [show Rows.venueCancelsSpec.plain.varTypes Try.prog = [] from rfl,List.append_nil,List.append_nil] at hs0
 have hsz':(DataW.weightsEach Try.prog Try.f27.params.toList [d0,d1,d2]).all (· ≤ reachBytes)=true:=hs0
 rw [Try.params27] at hsz'
 obtain ⟨y0,t0⟩:=weights_head hsz'
 obtain ⟨y1,t1⟩:=weights_head t0
 obtain ⟨y2,t2⟩:=weights_head t1
 obtain ⟨V0,A0,c0,M0,k0,rfl,r0,s0,i0⟩:=opens_venue (hval 0 111 v0 rfl rfl) h0 y0
 obtain ⟨C1,rfl,i1⟩:=opens_command (hval 1 113 v1 rfl rfl) h1
 obtain ⟨z2,rfl,i2⟩:=opens_int (hval 2 3 v2 rfl rfl) h2
 refine (venueCancels_walk V0 A0 c0 M0 k0 C1 z2 W r0).mono fun e W' ⟨he,bel⟩=>?_
 subst he
 exact ⟨_,rfl,_,_,_,[],_,[],hW',trodAll_mk1 (shut_bool Try.underlying4 _),hkeep W' bel,rfl,bel.frame _,fun h=>by cases h⟩
set_option maxHeartbeats 4000000 in
theorem venueCancels_closed:joinedFacts Try.prog 27 Try.f27 Rows.venueCancelsSpec Rows.venueCancelsRow=true :=
 joined_mk _ _ _ _ _ (by as_aux_lemma=>kernel_rfl) closed_laid closed_mapsRowed (by as_aux_lemma=>kernel_rfl) (by as_aux_lemma=>kernel_rfl) (by as_aux_lemma=>kernel_rfl) closed_stops (by as_aux_lemma=>kernel_rfl) closed_stopKnobs (by as_aux_lemma=>kernel_rfl) (by as_aux_lemma=>kernel_rfl) (by as_aux_lemma=>kernel_rfl) (by as_aux_lemma=>kernel_rfl) (by as_aux_lemma=>kernel_rfl) (by as_aux_lemma=>kernel_rfl) (by as_aux_lemma=>kernel_rfl) (by as_aux_lemma=>kernel_rfl) (by as_aux_lemma=>kernel_rfl) (by as_aux_lemma=>kernel_rfl) (by as_aux_lemma=>kernel_rfl) (by as_aux_lemma=>kernel_rfl) (by as_aux_lemma=>kernel_rfl) closed_plainKeys (by as_aux_lemma=>kernel_rfl) closed_stopsHeard closed_mayEnter closed_lifted closed_make (by as_aux_lemma=>kernel_rfl) (by as_aux_lemma=>kernel_rfl) (by as_aux_lemma=>kernel_rfl) (by as_aux_lemma=>kernel_rfl)
set_option maxHeartbeats 4000000 in
theorem venueCancels_over:Rows.venueCancelsRow.holds Try.pinned (OpenSpec.ofChange Rows.venueCancelsSpec) :=
 OpenClaim.holds_of_wide 27 Try.f27 rfl rfl rfl rfl rfl rfl rfl ⟨rfl,rfl,rfl,rfl,rfl⟩ rfl rfl rfl rfl rfl (by as_aux_lemma=>kernel_rfl) Try.func27 venueCancels_closed
  (of_decide_eq_true (by as_aux_lemma=>kernel_rfl)) (by unfold Func.isWrapper;first | (rw [if_pos (by decide +kernel)];as_aux_lemma=>kernel_rfl) | (rw [if_neg (by decide +kernel)];exact ⟨rfl,rfl⟩))
  (fun os started H enc _=>venueCancels_lifted os started H enc)
theorem venueCancels_proved:Rows.VenueCancelsSaid:=venueCancels_over
#print axioms venueCancels_proved
end
end Go.Proofs.Ytockodmbhnlheaa
