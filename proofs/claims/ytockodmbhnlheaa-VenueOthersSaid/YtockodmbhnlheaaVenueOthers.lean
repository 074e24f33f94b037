/-
  THE LAW VenueOthers: holds for every input, with no condition. (Joined texts: OthersW, VenueOthers.)
-/
import Derived.Test.YtockodmbhnlheaaM19
import Derived.Test.YtockodmbhnlheaaM06
import Derived.Test.YtockodmbhnlheaaM01
import Derived.Test.YtockodmbhnlheaaProg
import Derived.Maps.AppendAt
import Derived.Laws.AppendOwnNone
import Derived.OwnWalk
import Derived.Test.YtockodmbhnlheaaM07
import Derived.Test.YtockodmbhnlheaaM12
import Derived.Test.YtockodmbhnlheaaM05
import Derived.Test.YtockodmbhnlheaaM03
import Derived.Deep.RegionHeld3
import Derived.Test.YtockodmbhnlheaaM02
import Derived.Test.YtockodmbhnlheaaM08
import Derived.Lib.AppendZeros
import Derived.Test.YtockodmbhnlheaaM09
import Derived.Test.YtockodmbhnlheaaM10
import Derived.Test.YtockodmbhnlheaaM11
import Derived.Test.YtockodmbhnlheaaM13
import Derived.Test.YtockodmbhnlheaaM15
import Derived.Test.YtockodmbhnlheaaM16
import Derived.Deep.DeepCutAuto
import Derived.Test.YtockodmbhnlheaaM14
import Derived.Deep.RegionLaw
import Derived.Test.YtockodmbhnlheaaM04
import Derived.WalkKit
import Derived.WalkSpells
import Derived.WalkLawsBesides
import Derived.Lib.Hide
import Derived.Test.YtockodmbhnlheaaM18
import Derived.Laws.CopyOwn
import Derived.Lib.AppendZerosOnto
import Derived.Lib.Overlaps
import Derived.Laws.Externs
import Derived.Laws.MakeOwn
import Derived.Maps.Own
import Derived.Maps.OwnOps
import Derived.Maps.Views
import Derived.Deep.QuietTactic
import Derived.BigQuiet
import Derived.Deep.Draws
import Derived.KernelRfl
import Derived.IntWalk
import Derived.Test.YtockodmbhnlheaaRows
import Derived.ProofKit
import Derived.OpenShut
import Derived.SizedLaws
import Derived.Deep.Slices
import Derived.RegionTactic
import Derived.ChangeAlike
import Derived.Test.YtockodmbhnlheaaM17
import Derived.JoinedOf
namespace Go.Proofs.Ytockodmbhnlheaa
section
open Go.RowKit
set_option maxHeartbeats 8000000 in
set_option maxRecDepth 100000 in
theorem venueOthers_walk (V:Vn) (A:Option Addr) (c:Nat) (M:Option Addr) (k:Nat) (cm:Cm) (w:World) (h:VnR w w.heap.size A c M k V) :
  Calls Try.prog 24 #[.agg #[.slice A V.accs.length c,.slice M V.mks.length k,.int .i64 V.ins,.int .i64 V.resid,.int .i64 V.next,.int .i64 V.inn,.int .i64 V.out],.agg #[.int .i64 cm.kind,.int .i64 cm.acc,.int .i64 cm.market,.int .i64 cm.n,.int .i64 cm.o.id,.int .i64 cm.o.acc,.int .i64 cm.o.side,.int .i64 cm.o.price,.int .i64 cm.o.qty,.int .i64 cm.how,.bool cm.reduce]] w fun e w'=>e=.returned (.bool true)∧Below w.heap.size w w':=by
 have HV:=Lib.hid h
 obtain ⟨U,ev,ed,hdo⟩:∃ U ev ed,doOf V cm=(U,ev,ed):=⟨_,_,_,rfl⟩
 have HDO:=Lib.hid hdo
 clear h hdo
 go_enter Try.func24,Try.ntmps24
 go_wp2_with fail
 refine calls_name ?_
 intro W0 hW0
 have hB0:Below w.heap.size w W0:=by rw [hW0];exact ((Below.refl _ _).alloc (Nat.le_refl _) _).alloc (by simp) _
 have X0:Blk W0 w.heap.size 111 #[.slice A V.accs.length c,.slice M V.mks.length k,.int .i64 V.ins,.int .i64 V.resid,.int .i64 V.next,.int .i64 V.inn,.int .i64 V.out]:=by rw [hW0];exact (Blk.new w _ _).alloc _
 have C0:Blk W0 (w.heap.size + 1) 113 #[.int .i64 cm.kind,.int .i64 cm.acc,.int .i64 cm.market,.int .i64 cm.n,.int .i64 cm.o.id,.int .i64 cm.o.acc,.int .i64 cm.o.side,.int .i64 cm.o.price,.int .i64 cm.o.qty,.int .i64 cm.how,.bool cm.reduce]:=by rw [hW0];exact Blk.new_at _ _ _ _ (by simp)
 have hs0:W0.heap.size=w.heap.size + 2:=by rw [hW0];simp
 clear hW0
 refine (vdo_ref V cm A M c k w.heap.size W0 HDO.out (HV.out.below hB0) (by omega)).mono ?_
 rintro e W1 ⟨A1,c1,M1,k1,E1,n1,rfl,⟨xs1,ha1⟩,⟨ys1,hm1⟩,he1,hb1⟩
 have hs1:=hb1.size
 go_wp2_with fail
 refine calls_name ?_
 intro W2 hW2
 have hB2:Below W1.heap.size W1 W2:=by rw [hW2];exact (Below.refl _ _).alloc (Nat.le_refl _) _
 have Y2:Blk W2 W1.heap.size 111 #[.slice A1 U.accs.length c1,.slice M1 U.mks.length k1,.int .i64 U.ins,.int .i64 U.resid,.int .i64 U.next,.int .i64 U.inn,.int .i64 U.out]:=by rw [hW2];exact Blk.new W1 _ _
 have hs2:=hB2.size
 clear hW2
 refine (opened_any W2).mono ?_
 rintro e W3 ⟨rfl,hb3⟩
 have hs3:=hb3.size
 have hB13:Below W1.heap.size W1 W3:=hB2.trans (hb3.mono hs2)
 have hB3:Below w.heap.size w W3:=hB0.trans ((hb1.mono (by omega)).trans (hB13.mono (by omega)))
 have X3:=X0.below (hb1.trans (hB13.mono hs1)) X0.lt
 have C3:=C0.below (hb1.trans (hB13.mono hs1)) C0.lt
 have Y3:=Y2.below hb3 Y2.lt
 have HU3:=Lib.hid (show VnR W3 W3.heap.size A1 c1 M1 k1 U from ⟨(ha1.below hB13).read,(hm1.below hB13).read⟩)
 have HE3:=Lib.hid (Rd.of_own (own_below he1 hB13 (Nat.le_refl _)))
 have HV3:=Lib.hid (HV.out.below hB3)
 clear ha1 hm1 he1 hb1 hb3 hB13 hB2 hB0 X0 C0 Y2
 by_cases he:ed=0
 rotate_left
 ·have he':(ed != 0)=true:=by simpa using he
  clear he
  go_wp2_with fail
  refine (opened_any W3).mono ?_
  rintro e W4 ⟨rfl,hb4⟩
  go_wp2_with fail
  go_ret
  exact ⟨rfl,hB3.trans (hb4.mono (by omega))⟩
 subst he
 have q0:W3.cell? ⟨w.heap.size + 1,0,none⟩=some (.int .i64 cm.kind):=C3.cell 0
 have yw:=Y3.lt
 have yc:=C3.lt
 obtain ⟨b,hb⟩:∃ b,rejB ev=b:=⟨_,rfl⟩
 have HB:=Lib.hid hb
 clear hb
 go_wp2_with fail
 refine (rejected_ref E1 _ n1 ev W3.heap.size W3 HB.out HE3.out (Nat.le_refl _)).mono ?_
 rintro e w5 ⟨rfl,rfl⟩
 rcases bool_cs' b with rfl | rfl
 ·go_wp2_with fail
  refine (opened_any W3).mono ?_
  rintro e W4 ⟨rfl,hb4⟩
  go_wp2_with fail
  go_ret
  exact ⟨rfl,hB3.trans (hb4.mono (by omega))⟩
 by_cases h6:cm.kind=6
 ·have e6:(cm.kind == 6)=true:=by simpa using h6
  go_wp2_with fail
  refine (opened_any W3).mono ?_
  rintro e W4 ⟨rfl,hb4⟩
  go_wp2_with fail
  go_ret
  exact ⟨rfl,hB3.trans (hb4.mono (by omega))⟩
 have e6:(cm.kind == 6)=false:=by simpa using h6
 by_cases h7:cm.kind=7
 ·have e7:(cm.kind == 7)=true:=by simpa using h7
  go_wp2_with fail
  refine (opened_any W3).mono ?_
  rintro e W4 ⟨rfl,hb4⟩
  go_wp2_with fail
  go_ret
  exact ⟨rfl,hB3.trans (hb4.mono (by omega))⟩
 have e7:(cm.kind == 7)=false:=by simpa using h7
 obtain ⟨bf,hbf⟩:∃ bf,ev.any kind3=bf:=⟨_,rfl⟩
 have HBF:=Lib.hid hbf
 have H6:=Lib.hid h6
 have H7:=Lib.hid h7
 clear hbf h6 h7
 go_wp2_with fail
 refine (contains_others1 E1 _ n1 ev W3.heap.size W3 HE3.out (Nat.le_refl _)).mono ?_
 rintro e W5 ⟨rfl,hb5⟩
 rw [HBF.out]
 have hs5:=hb5.size
 have hB5:=hB3.trans (hb5.mono (by omega))
 have X5:=X3.below hb5 X3.lt
 have C5:=C3.below hb5 C3.lt
 have Y5:=Y3.below hb5 Y3.lt
 have HU5:=Lib.hid (HU3.out.below hb5)
 have HV5:=Lib.hid (HV.out.below hB5)
 clear q0 hb5 X3 C3 Y3 HU3 HE3 HV3
 rcases bool_cs' bf with rfl | rfl
 ·go_wp2_with fail
  refine (opened_any W5).mono ?_
  rintro e W4 ⟨rfl,hb4⟩
  go_wp2_with fail
  go_ret
  exact ⟨rfl,hB5.trans (hb4.mono (by omega))⟩
 have HLAW:=Lib.hid (others_law HDO.out HB.out H6.out H7.out (fun x hx=>by
  have h1:=HBF.out
  rw [List.any_eq_false] at h1
  have:=h1 x hx
  intro e;exact this (by unfold kind3;simpa using e)))
 obtain ⟨k0,hin,hre⟩:=HLAW.out
 clear k0
 have hal:V.accs.length ≤ 8:=aok_len (do_done HDO.out HB.out).1.accs
 have x0:W5.cell? ⟨w.heap.size,0,none⟩=some (.slice A V.accs.length c):=X5.cell 0
 have yx:=X5.lt
 have HX5:=Lib.hid X5
 have HY5:=Lib.hid Y5
 have HC5:=Lib.hid C5
 go_wp2_with fail
 go_loopw [45] (fun i wr=>∃ (j:Nat),j ≤ V.accs.length∧i=.int .i64 j∧Below W5.heap.size W5 wr) (fun i _=>V.accs.length - (intOf i).toNat)
 case atStart=>exact ⟨0,by omega,rfl,Below.refl _ _⟩
 case round =>
  obtain ⟨j,hj,rfl,hbr⟩:=hrel
  have hws:=hbr.size
  by_cases hlt:j < V.accs.length
  ·obtain ⟨b,o,a,rfl,hb,ha,A2,c2,k0,k1,k2,k3,k4⟩:=acc_at (HV5.out.accs.below (hbr.mono (by omega))) hlt
   have HA:=Lib.hid ha
   have HK3:=Lib.hid k3
   have hbw:b < wr.heap.size:=by omega
   have hcr:=HC5.out.below hbr HC5.out.lt
   have r0:wr.cell? ⟨w.heap.size + 1,0,none⟩=some (.int .i64 cm.kind):=hcr.cell 0
   have r1:wr.cell? ⟨w.heap.size + 1,1,none⟩=some (.int .i64 cm.acc):=hcr.cell 1
   have y0:wr.cell? ⟨W1.heap.size,0,none⟩=some (.slice A1 U.accs.length c1):=(HY5.out.below hbr HY5.out.lt).cell 0
   have z1:=hcr.lt
   have z2:W1.heap.size < wr.heap.size:=by omega
   have hbn:Below W5.heap.size W5 (wr.alloc (.cells #[.int .i64 a.id,.int .i64 a.bal,.slice A2 a.pos.length c2] 37)):=hbr.trans ((below_all wr _).mono hws)
   clear ha k3 hcr
   by_cases hsk:a.id=cm.acc∧(cm.kind=1∨cm.kind=2)
   ·have e1:(a.id == cm.acc)=true:=by simpa using hsk.1
    have e2:(cm.kind == 1)=true∨(cm.kind == 1)=false∧(cm.kind == 2)=true:=by
     rcases hsk.2 with h | h
     ·exact .inl (by simpa using h)
     ·exact .inr ⟨by simp;omega,by simpa using h⟩
    clear hsk
    rcases e2 with e2 | ⟨e2,e3⟩
    all_goals
     go_wp2_with fail
     go_roundw
     case rel=>exact ⟨j + 1,by omega,by go_num,hbn⟩
     case measure=>simp [intOf];omega
   ·have HIN:=Lib.hid (show a ∈ U.accs from (HLAW.out.1 a (List.mem_of_getElem? HA.out)).resolve_left hsk)
    have HANY:=Lib.hid (show U.accs.any (sameAc a)=true by rw [List.any_eq_true];exact ⟨a,HIN.out,(sameAc_iff a a).2 rfl⟩)
    have e1:(a.id == cm.acc)=false∨(a.id == cm.acc)=true∧(cm.kind == 1)=false∧(cm.kind == 2)=false:=by
     by_cases h1:a.id=cm.acc
     ·exact .inr ⟨by simpa using h1,by simp;omega,by simp;omega⟩
     ·exact .inl (by simpa using h1)
    clear hsk
    rcases e1 with e1 | ⟨e1,e2,e3⟩
    all_goals
     go_wp2_with fail
     refine calls_name ?_
     intro W6 hW6
     have hB6:Below wr.heap.size wr W6:=by rw [hW6];first | exact below_all _ _ | exact (below_all wr _).setCell (Nat.le_refl _) _
     have Z6:Blk W6 wr.heap.size 37 #[.int .i64 a.id,.int .i64 a.bal,.slice A2 a.pos.length c2]:=by rw [hW6];exact Blk.new wr _ _
     have hs6:=hB6.size
     clear hW6
     refine (contains_others2 a A2 c2 wr.heap.size A1 _ c1 U.accs W3.heap.size W6 (HU5.out.accs.below ((hbr.trans (hB6.mono hws)).mono (by omega))) (by omega) Z6.lt ⟨Z6.cell 0,Z6.cell 1,Z6.cell 2⟩ ((HK3.out.below (hB6.mono (by omega))).up (by omega))).mono ?_
     rintro e W7 ⟨rfl,hb7⟩
     rw [HANY.out]
     have hbn7:=hbr.trans ((hB6.trans (hb7.mono hs6)).mono hws)
     go_wp2_with fail
     go_roundw
     case rel=>exact ⟨j + 1,by omega,by go_num,hbn7⟩
     case measure=>simp [intOf];omega
  ·obtain rfl:j=V.accs.length:=by omega
   obtain ⟨⟨-,-,u2,u3,-,-,-⟩,-⟩:=(HX5.out.below hbr HX5.out.lt).c7
   obtain ⟨⟨-,-,v2,v3,-,-,-⟩,-⟩:=(HY5.out.below hbr HY5.out.lt).c7
   have z2:W1.heap.size < wr.heap.size:=by omega
   have z3:w.heap.size < wr.heap.size:=by omega
   have e1:(U.ins == V.ins)=true:=by simpa using hin
   have e2:(U.resid == V.resid)=true:=by simpa using hre
   go_wp2_with fail
   go_ret
   exact ⟨rfl,hB5.trans (hbr.mono (by omega))⟩
end
section
open Go.ChangeShapes Go.WideShapes Go.ChangeAt Go.RowKit
set_option maxRecDepth 100000 in
theorem venueOthers_lifted (os:Os) (started:os.Started) (H:Type) (enc:TypeId × Value→H) :
  ReturnsInHanded {} Try.checked os 24 .any (Rows.venueOthersSpec.pre6 enc Try.prog Try.f24 Rows.venueOthersRow.domain false) (Rows.venueOthersSpec.post enc Try.prog Try.f24 false true false false):=by
 refine returnsInHanded_of_change_sized (C:=Try.checked) row_own started (by kernel_rfl) Try.func24
  (ChangeSpec.witness6 (enc:=enc) (C:=Try.checked) false ⟨#[],#[.agg #[.slice none 0 0,.slice none 0 0,.int .i64 0,.int .i64 0,.int .i64 0,.int .i64 0,.int .i64 0],.agg #[.int .i64 0,.int .i64 0,.int .i64 0,.int .i64 0,.int .i64 0,.int .i64 0,.int .i64 0,.int .i64 0,.int .i64 0,.int .i64 0,.bool false]],[]⟩ 8 (by kernel_rfl) (by kernel_rfl) (by kernel_rfl) (by kernel_rfl)) ?_
 intro W base args ds gs before hval0 hW hcnd hsz _
 have hval:∀ (j:Nat) t v,Try.f24.params[j]?=some t→args[j]?=some v→Value.okWide Try.prog W .any base t v:=hval0
 have hW':=hW
 obtain ⟨p,q,hA0,hV,rfl,hfz,hnd⟩:=hW
 have hA:DataW.TrodAll enc Try.prog W 0 (fun _=>true) true Try.f24.params.toList args.toList ds p:=hA0
 obtain ⟨rfl,rfl⟩:=trodVars_none hV
 have hkeep:=fun W' (bel:Below W.heap.size W W')=>trodAll_below row_laidOut bel (by kernel_rfl) hA
 rw [Try.params24] at hA hval
 obtain ⟨v0,vs0,d0,ds0,p0,q0,hargs,rfl,rfl,h0,tl0⟩:=trodAll_cons hA
 obtain ⟨v1,vs1,d1,ds1,p1,q1,rfl,rfl,rfl,h1,tl1⟩:=trodAll_cons tl0
 obtain ⟨rfl,rfl,rfl⟩:=trodAll_nil tl1
 obtain rfl:args = #[v0,v1]:=by cases args;simp_all
 clear hargs
 have hs0:(DataW.weightsEach Try.prog (Try.f24.params.toList ++ Rows.venueOthersSpec.plain.varTypes Try.prog) ([d0,d1] ++ [])).all (· ≤ reachBytes)=true:=hsz
 rw [show Rows.venueOthersSpec.plain.varTypes Try.prog = [] from rfl,List.append_nil,List.append_nil] at hs0
 have hsz':(DataW.weightsEach Try.prog Try.f24.params.toList [d0,d1]).all (· ≤ reachBytes)=true:=hs0
 rw [Try.params24] at hsz'
 obtain ⟨y0,t0⟩:=weights_head hsz'
 obtain ⟨y1,t1⟩:=weights_head t0
 obtain ⟨V0,A0,c0,M0,k0,rfl,r0,s0,i0⟩:=opens_venue (hval 0 111 v0 rfl rfl) h0 y0
 obtain ⟨C1,rfl,i1⟩:=opens_command (hval 1 113 v1 rfl rfl) h1
 refine (venueOthers_walk V0 A0 c0 M0 k0 C1 W r0).mono fun e W' ⟨he,bel⟩=>?_
 subst he
 exact ⟨_,rfl,_,_,_,[],_,[],hW',trodAll_mk1 (shut_bool Try.underlying4 _),hkeep W' bel,rfl,bel.frame _,fun h=>by cases h⟩
set_option maxHeartbeats 4000000 in
theorem venueOthers_closed:joinedFacts Try.prog 24 Try.f24 Rows.venueOthersSpec Rows.venueOthersRow=true :=
 joined_mk _ _ _ _ _ (by as_aux_lemma=>kernel_rfl) closed_laid closed_mapsRowed (by as_aux_lemma=>kernel_rfl) (by as_aux_lemma=>kernel_rfl) (by as_aux_lemma=>kernel_rfl) closed_stops (by as_aux_lemma=>kernel_rfl) closed_stopKnobs (by as_aux_lemma=>kernel_rfl) (by as_aux_lemma=>kernel_rfl) (by as_aux_lemma=>kernel_rfl) (by as_aux_lemma=>kernel_rfl) (by as_aux_lemma=>kernel_rfl) (by as_aux_lemma=>kernel_rfl) (by as_aux_lemma=>kernel_rfl) (by as_aux_lemma=>kernel_rfl) (by as_aux_lemma=>kernel_rfl) (by as_aux_lemma=>kernel_rfl) (by as_aux_lemma=>kernel_rfl) (by as_aux_lemma=>kernel_rfl) (by as_aux_lemma=>kernel_rfl) closed_plainKeys (by as_aux_lemma=>kernel_rfl) closed_stopsHeard closed_mayEnter closed_lifted closed_make (by as_aux_lemma=>kernel_rfl) (by as_aux_lemma=>kernel_rfl) (by as_aux_lemma=>kernel_rfl) (by as_aux_lemma=>kernel_rfl)
set_option maxHeartbeats 4000000 in
theorem venueOthers_over:Rows.venueOthersRow.holds Try.pinned (OpenSpec.ofChange Rows.venueOthersSpec) :=
 OpenClaim.holds_of_wide 24 Try.f24 rfl rfl rfl rfl rfl rfl rfl ⟨rfl,rfl,rfl,rfl,rfl⟩ rfl rfl rfl rfl rfl (by as_aux_lemma=>kernel_rfl) Try.func24 venueOthers_closed
  (of_decide_eq_true (by as_aux_lemma=>kernel_rfl)) (by unfold Func.isWrapper;first | (rw [if_pos (by decide +kernel)];as_aux_lemma=>kernel_rfl) | (rw [if_neg (by decide +kernel)];exact ⟨rfl,rfl⟩))
  (fun os started H enc _=>venueOthers_lifted os started H enc)
theorem venueOthers_proved:Rows.VenueOthersSaid:=venueOthers_over
#print axioms venueOthers_proved
end
end Go.Proofs.Ytockodmbhnlheaa
