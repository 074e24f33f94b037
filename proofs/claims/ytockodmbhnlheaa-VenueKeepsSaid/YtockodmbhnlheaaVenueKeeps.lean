/-
  THE LAW VenueKeeps: holds for every input, with no condition. (Joined texts: KeepsW, VenueKeeps.)
-/
import Derived.Test.YtockodmbhnlheaaM19
import Derived.Test.YtockodmbhnlheaaM06
import Derived.Test.YtockodmbhnlheaaM01
import Derived.Test.YtockodmbhnlheaaProg
import Derived.Maps.AppendAt
import Derived.Laws.AppendOwnNone
import Derived.OwnWalk
import Derived.Test.YtockodmbhnlheaaM07
import Derived.Test.YtockodmbhnlheaaM12
import Derived.Test.YtockodmbhnlheaaM05
import Derived.Test.YtockodmbhnlheaaM03
import Derived.Deep.RegionHeld3
import Derived.Test.YtockodmbhnlheaaM02
import Derived.Test.YtockodmbhnlheaaM08
import Derived.Lib.AppendZeros
import Derived.Test.YtockodmbhnlheaaM09
import Derived.Test.YtockodmbhnlheaaM10
import Derived.Test.YtockodmbhnlheaaM11
import Derived.Test.YtockodmbhnlheaaM13
import Derived.Test.YtockodmbhnlheaaM15
import Derived.Test.YtockodmbhnlheaaM16
import Derived.Deep.DeepCutAuto
import Derived.Test.YtockodmbhnlheaaM14
import Derived.Deep.RegionLaw
import Derived.Test.YtockodmbhnlheaaM04
import Derived.WalkKit
import Derived.WalkSpells
import Derived.WalkLawsBesides
import Derived.Lib.Hide
import Derived.Laws.CopyOwn
import Derived.Lib.AppendZerosOnto
import Derived.Lib.Overlaps
import Derived.Laws.Externs
import Derived.Test.YtockodmbhnlheaaM18
import Derived.Laws.MakeOwn
import Derived.Maps.Own
import Derived.Maps.OwnOps
import Derived.Maps.Views
import Derived.Deep.QuietTactic
import Derived.BigQuiet
import Derived.Deep.Draws
import Derived.KernelRfl
import Derived.IntWalk
import Derived.Test.YtockodmbhnlheaaRows
import Derived.ProofKit
import Derived.OpenShut
import Derived.SizedLaws
import Derived.Deep.Slices
import Derived.RegionTactic
import Derived.ChangeAlike
import Derived.Test.YtockodmbhnlheaaM17
import Derived.JoinedOf
namespace Go.Proofs.Ytockodmbhnlheaa
section
open Go.RowKit
set_option maxHeartbeats 8000000 in
set_option maxRecDepth 100000 in
theorem venueKeeps_walk (V:Vn) (A:Option Addr) (c:Nat) (M:Option Addr) (k:Nat) (cm:Cm) (w:World) (h:VnR w w.heap.size A c M k V) :
  Calls Try.prog 25 #[.agg #[.slice A V.accs.length c,.slice M V.mks.length k,.int .i64 V.ins,.int .i64 V.resid,.int .i64 V.next,.int .i64 V.inn,.int .i64 V.out],.agg #[.int .i64 cm.kind,.int .i64 cm.acc,.int .i64 cm.market,.int .i64 cm.n,.int .i64 cm.o.id,.int .i64 cm.o.acc,.int .i64 cm.o.side,.int .i64 cm.o.price,.int .i64 cm.o.qty,.int .i64 cm.how,.bool cm.reduce]] w fun e w'=>e=.returned (.bool true)∧Below w.heap.size w w':=by
 have HV:=Lib.hid h
 obtain ⟨U,ev,ed,hdo⟩:∃ U ev ed,doOf V cm=(U,ev,ed):=⟨_,_,_,rfl⟩
 have HDO:=Lib.hid hdo
 clear h hdo
 go_enter Try.func25,Try.ntmps25
 go_wp2_with fail
 refine calls_name ?_
 intro W0 hW0
 have hB0:Below w.heap.size w W0:=by rw [hW0];exact ((Below.refl _ _).alloc (Nat.le_refl _) _).alloc (by simp) _
 have X0:Blk W0 w.heap.size 111 #[.slice A V.accs.length c,.slice M V.mks.length k,.int .i64 V.ins,.int .i64 V.resid,.int .i64 V.next,.int .i64 V.inn,.int .i64 V.out]:=by rw [hW0];exact (Blk.new w _ _).alloc _
 have C0:Blk W0 (w.heap.size + 1) 113 #[.int .i64 cm.kind,.int .i64 cm.acc,.int .i64 cm.market,.int .i64 cm.n,.int .i64 cm.o.id,.int .i64 cm.o.acc,.int .i64 cm.o.side,.int .i64 cm.o.price,.int .i64 cm.o.qty,.int .i64 cm.how,.bool cm.reduce]:=by rw [hW0];exact Blk.new_at _ _ _ _ (by simp)
 have hs0:W0.heap.size=w.heap.size + 2:=by rw [hW0];simp
 clear hW0
 refine (vdo_ref V cm A M c k w.heap.size W0 HDO.out (HV.out.below hB0) (by omega)).mono ?_
 rintro e W1 ⟨A1,c1,M1,k1,E1,n1,rfl,⟨xs1,ha1⟩,⟨ys1,hm1⟩,he1,hb1⟩
 have hs1:=hb1.size
 go_wp2_with fail
 refine calls_name ?_
 intro W2 hW2
 have hB2:Below W1.heap.size W1 W2:=by rw [hW2];exact (Below.refl _ _).alloc (Nat.le_refl _) _
 have Y2:Blk W2 W1.heap.size 111 #[.slice A1 U.accs.length c1,.slice M1 U.mks.length k1,.int .i64 U.ins,.int .i64 U.resid,.int .i64 U.next,.int .i64 U.inn,.int .i64 U.out]:=by rw [hW2];exact Blk.new W1 _ _
 have hs2:=hB2.size
 clear hW2
 refine (opened_any W2).mono ?_
 rintro e W3 ⟨rfl,hb3⟩
 have hs3:=hb3.size
 have hB13:Below W1.heap.size W1 W3:=hB2.trans (hb3.mono hs2)
 have hB3:Below w.heap.size w W3:=hB0.trans ((hb1.mono (by omega)).trans (hB13.mono (by omega)))
 have X3:=X0.below (hb1.trans (hB13.mono hs1)) X0.lt
 have C3:=C0.below (hb1.trans (hB13.mono hs1)) C0.lt
 have Y3:=Y2.below hb3 Y2.lt
 have HU3:=Lib.hid (show VnR W3 W3.heap.size A1 c1 M1 k1 U from ⟨(ha1.below hB13).read,(hm1.below hB13).read⟩)
 have HE3:=Lib.hid (Rd.of_own (own_below he1 hB13 (Nat.le_refl _)))
 clear ha1 hm1 he1 hb1 hb3 hB13 hB2 hB0 X0 C0 Y2
 by_cases he:ed=0
 rotate_left
 ·have he':(ed != 0)=true:=by simpa using he
  clear he
  go_wp2_with fail
  refine (opened_any W3).mono ?_
  rintro e W4 ⟨rfl,hb4⟩
  go_wp2_with fail
  go_ret
  exact ⟨rfl,hB3.trans (hb4.mono (by omega))⟩
 subst he
 have HK:=Lib.hid (keeps_law HDO.out)
 have HOU:=Lib.hid HK.out.2.1
 obtain ⟨hn1,hn2⟩:=HK.out.2.2.1
 have hin:=HK.out.2.2.2.1
 have hout:=HK.out.2.2.2.2.1
 have HEU:=Lib.hid (venueErr_ok.2 HOU.out)
 have hal:=aok_len HOU.out.accs
 obtain ⟨hml1,hml2⟩:=HOU.out.len
 obtain ⟨hnx1,hnx2⟩:=HOU.out.nums.next
 obtain ⟨hnv1,hnv2⟩:=HK.out.1.nums.next
 have d1:decide (U.next < V.next)=false:=decide_eq_false (by omega)
 have d2:decide (V.next + 1 < U.next)=false:=decide_eq_false (by omega)
 have d3:decide (U.inn < V.inn)=false:=decide_eq_false (by omega)
 have d4:decide (U.out < V.out)=false:=decide_eq_false (by omega)
 go_upto_region 4 with (fail)
 go_cut [70] (fun t wx=>t=.bool false∧Below W3.heap.size W3 wx)
 case first =>
  obtain ⟨⟨kY30,kY31,kY32,kY33,kY34,kY35,kY36⟩,-⟩:=Y3.c7
  have y3:=Y3.lt
  go_wp2_with fail
  refine (vcheck_ref U A1 M1 c1 k1 W3.heap.size W3 HEU.out HU3.out (Nat.le_refl _)).mono ?_
  rintro e W4 ⟨rfl,hb4⟩
  have hs4:=hb4.size
  have HU4:=Lib.hid (HU3.out.below hb4)
  have X4:=X3.below hb4 X3.lt
  have Y4:=Y3.below hb4 Y3.lt
  have hB4:=hB3.trans (hb4.mono (by omega))
  have HE4:=Lib.hid (HE3.out.below hb4)
  have HV4:=Lib.hid (HV.out.below hB4)
  clear kY30 kY31 kY32 kY33 kY34 kY35 kY36 y3
  obtain ⟨⟨kY40,kY41,kY42,kY43,kY44,kY45,kY46⟩,-⟩:=Y4.c7
  obtain ⟨⟨kX40,kX41,kX42,kX43,kX44,kX45,kX46⟩,-⟩:=X4.c7
  have y4:=Y4.lt
  have x4:=X4.lt
  obtain ⟨b,hb⟩:∃ b,rejB ev=b:=⟨_,rfl⟩
  have HB:=Lib.hid hb
  clear hb
  go_wp2_with fail
  refine (rejected_ref E1 _ n1 ev W3.heap.size W4 HB.out HE4.out (by omega)).mono ?_
  rintro e w5 ⟨rfl,rfl⟩
  rcases bool_cs' b with rfl | rfl
  ·have HS:=Lib.hid (show sameVn V U=true from (sameVn_iff _ _).2 (HK.out.2.2.2.2.2 HB.out).symm)
   go_wp2_with fail
   refine (vsame_ref V U A M A1 M1 c k c1 k1 w.heap.size W3.heap.size W4 HS.out HV4.out HU4.out (by omega) (by omega)).mono ?_
   rintro e W6 ⟨rfl,hb6⟩
   go_wp2_with fail
   go_meet
   exact ⟨rfl,hb4.trans (hb6.mono hs4)⟩
  ·go_wp2_with fail
   go_meet
   exact ⟨rfl,hb4⟩
 case rest=>as_aux_lemma =>
  obtain ⟨rfl,hb4⟩:=hcut
  obtain ⟨W4,rfl⟩:∃ W4,W4=wc:=⟨wc,rfl⟩
  have hs4:=hb4.size
  have HU4:=Lib.hid (HU3.out.below hb4)
  have Y4:=Y3.below hb4 Y3.lt
  have hB4:=hB3.trans (hb4.mono (by omega))
  clear X3 Y3 C3 hb4 HU3 HE3
  obtain ⟨⟨kY40,kY41,kY42,kY43,kY44,kY45,kY46⟩,-⟩:=Y4.c7
  have y4:=Y4.lt
  obtain ⟨i1,i2⟩:=HOU.out.nums.ins
  obtain ⟨i3,i4⟩:=HOU.out.nums.resid
  obtain ⟨i5,i6⟩:=HOU.out.nums.inn
  obtain ⟨i7,i8⟩:=HOU.out.nums.out
  have HY4:=Lib.hid Y4
  go_wp2_with fail
  go_loopw [79,8] (fun i z wr=>∃ (j:Nat) (al:Int),j ≤ U.accs.length∧i=.int .i64 j∧z=.int .i64 al∧Hid (al=U.ins + U.resid + balSum (U.accs.take j))∧Below W4.heap.size W4 wr) (fun i _ _=>U.accs.length - (intOf i).toNat)
  case atStart=>exact ⟨0,U.ins + U.resid,by omega,rfl,by go_num,Lib.hid (by simp [balSum]),Below.refl _ _⟩
  case round =>
   obtain ⟨j,al,hj,rfl,rfl,HAL,hbr⟩:=hrel
   have hws:=hbr.size
   have hal2:-8000000000000 ≤ al∧al ≤ 10000000000000:=by have:=HAL.out;have:=(vok_far HOU.out j (by omega)).1;omega
   obtain ⟨hal2,hal3⟩:=hal2
   by_cases hlt:j < U.accs.length
   ·obtain ⟨b,o,a,rfl,hb,ha,A2,c2,q0,q1,q2,q3,q4⟩:=acc_at (HU4.out.accs.below (hbr.mono (by omega))) hlt
    have hbal:=vok_bal HOU.out ha
    obtain ⟨hba1,hba2⟩:=hbal
    have HAN:=Lib.hid (show al + a.bal=U.ins + U.resid + balSum (U.accs.take (j + 1)) by rw [balSum_next ha,HAL.out];omega)
    have hbw:b < wr.heap.size:=by omega
    clear ha q3
    go_wp2_with fail
    go_roundw
    case rel=>exact ⟨j + 1,al + a.bal,by omega,by go_num,by go_num,HAN,hbr.trans (((Below.refl _ _).alloc (Nat.le_refl _) _).mono hws)⟩
    case measure=>simp [intOf];omega
   ·obtain rfl:j=U.accs.length:=by omega
    have HM:=Lib.hid HOU.out.money
    have e1:(al != U.inn - U.out)=false:=by
     have h1:=HAL.out
     rw [List.take_length] at h1
     have:=HM.out
     simp;omega
    obtain ⟨⟨z0,z1,-,-,-,z5,z6⟩,-⟩:=(HY4.out.below hbr HY4.out.lt).c7
    have yz:W1.heap.size < wr.heap.size:=by omega
    go_wp2_with fail
    go_loopw [98] (fun i wq=>∃ (m:Nat),m ≤ U.mks.length∧i=.int .i64 m∧Below W4.heap.size W4 wq) (fun i _=>U.mks.length - (intOf i).toNat)
    case atStart=>exact ⟨0,by omega,rfl,hbr⟩
    case round =>
     obtain ⟨m,hm,rfl,hbq⟩:=hrel
     obtain ⟨wq,rfl⟩:∃ wq,wq=wr:=⟨wr,rfl⟩
     have hwq:=hbq.size
     by_cases hlm:m < U.mks.length
     ·have k0:wq.cell? ⟨W1.heap.size,0,none⟩=some (.slice A1 U.accs.length c1):=(HY4.out.below hbq HY4.out.lt).cell 0
      have yq:W1.heap.size < wq.heap.size:=by omega
      go_wp2_with fail
      go_loopw [104,12] (fun i z wi=>∃ (j:Nat) (al:Int),j ≤ U.accs.length∧i=.int .i64 j∧z=.int .i64 al∧Hid (al=posSum m (U.accs.take j))∧Below W4.heap.size W4 wi) (fun i _ _=>U.accs.length - (intOf i).toNat)
      case atStart=>exact ⟨0,0,by omega,rfl,rfl,Lib.hid (by simp [posSum]),hbq⟩
      case round =>
       obtain ⟨j,al,hj,rfl,rfl,HPL,hbi⟩:=hrel
       obtain ⟨wi,rfl⟩:∃ wi,wi=wr:=⟨wr,rfl⟩
       have hwi:=hbi.size
       have hpb:=(vok_far HOU.out j (by omega)).2 m
       have hal2:-8000 ≤ al∧al ≤ 8000:=by have:=HPL.out;omega
       obtain ⟨hp1,hp2⟩:=hal2
       by_cases hlj:j < U.accs.length
       ·obtain ⟨b,o,a,rfl,hb,ha,A2,c2,q0,q1,q2,q3,q4⟩:=acc_at (HU4.out.accs.below (hbi.mono (by omega))) hlj
        obtain ⟨z,hz,hz1,hz2⟩:=vok_pos HOU.out ha hlm
        have hlp:m < a.pos.length:=(List.getElem?_eq_some_iff.1 hz).1
        obtain ⟨b2,o2,rfl,hb2,z',hz',p0⟩:=q3.int hlp
        rw [hz] at hz'
        obtain rfl:=Option.some.inj hz'
        have HAN:=Lib.hid (show al + z=posSum m (U.accs.take (j + 1)) by rw [posSum_next ha,HPL.out,List.getD_eq_getElem?_getD,hz];rfl)
        have hbw:b < wi.heap.size:=by omega
        have hbw2:b2 < wi.heap.size:=by omega
        clear ha q3 hz hz' hpb
        go_wp2_with fail
        go_roundw
        case rel=>exact ⟨j + 1,al + z,by omega,by go_num,by go_num,HAN,hbi.trans (((Below.refl _ _).alloc (Nat.le_refl _) _).mono hwi)⟩
        case measure=>simp [intOf];omega
       ·obtain rfl:j=U.accs.length:=by omega
        have hz:al=0:=by
         have h1:=HPL.out
         rw [List.take_length] at h1
         rw [h1];exact HOU.out.pos m hlm
        subst hz
        clear hpb
        go_wp2_with fail
        go_roundw
        case rel=>exact ⟨m + 1,by omega,by go_num,hbi⟩
        case measure=>simp [intOf];omega
     ·obtain rfl:m=U.mks.length:=by omega
      go_wp2_with fail
      go_ret
      exact ⟨rfl,hB4.trans (hbq.mono (by omega))⟩
end
section
open Go.ChangeShapes Go.WideShapes Go.ChangeAt Go.RowKit
set_option maxRecDepth 100000 in
theorem venueKeeps_lifted (os:Os) (started:os.Started) (H:Type) (enc:TypeId × Value→H) :
  ReturnsInHanded {} Try.checked os 25 .any (Rows.venueKeepsSpec.pre6 enc Try.prog Try.f25 Rows.venueKeepsRow.domain false) (Rows.venueKeepsSpec.post enc Try.prog Try.f25 false true false false):=by
 refine returnsInHanded_of_change_sized (C:=Try.checked) row_own started (by kernel_rfl) Try.func25
  (ChangeSpec.witness6 (enc:=enc) (C:=Try.checked) false ⟨#[],#[.agg #[.slice none 0 0,.slice none 0 0,.int .i64 0,.int .i64 0,.int .i64 0,.int .i64 0,.int .i64 0],.agg #[.int .i64 0,.int .i64 0,.int .i64 0,.int .i64 0,.int .i64 0,.int .i64 0,.int .i64 0,.int .i64 0,.int .i64 0,.int .i64 0,.bool false]],[]⟩ 8 (by kernel_rfl) (by kernel_rfl) (by kernel_rfl) (by kernel_rfl)) ?_
 intro W base args ds gs before hval0 hW hcnd hsz _
 have hval:∀ (j:Nat) t v,Try.f25.params[j]?=some t→args[j]?=some v→Value.okWide Try.prog W .any base t v:=hval0
 have hW':=hW
 obtain ⟨p,q,hA0,hV,rfl,hfz,hnd⟩:=hW
 have hA:DataW.TrodAll enc Try.prog W 0 (fun _=>true) true Try.f25.params.toList args.toList ds p:=hA0
 obtain ⟨rfl,rfl⟩:=trodVars_none hV
 have hkeep:=fun W' (bel:Below W.heap.size W W')=>trodAll_below row_laidOut bel (by kernel_rfl) hA
 rw [Try.params25] at hA hval
 obtain ⟨v0,vs0,d0,ds0,p0,q0,hargs,rfl,rfl,h0,tl0⟩:=trodAll_cons hA
 obtain ⟨v1,vs1,d1,ds1,p1,q1,rfl,rfl,rfl,h1,tl1⟩:=trodAll_cons tl0
 obtain ⟨rfl,rfl,rfl⟩:=trodAll_nil tl1
 obtain rfl:args = #[v0,v1]:=by cases args;simp_all
 clear hargs
 have hs0:(DataW.weightsEach Try.prog (Try.f25.params.toList ++ Rows.venueKeepsSpec.plain.varTypes Try.prog) ([d0,d1] ++ [])).all (· ≤ reachBytes)=true:=hsz
 rw [show Rows.venueKeepsSpec.plain.varTypes Try.prog = [] from rfl,List.append_nil,List.append_nil] at hs0
 have hsz':(DataW.weightsEach Try.prog Try.f25.params.toList [d0,d1]).all (· ≤ reachBytes)=true:=hs0
 rw [Try.params25] at hsz'
 obtain ⟨y0,t0⟩:=weights_head hsz'
 obtain ⟨y1,t1⟩:=weights_head t0
 obtain ⟨V0,A0,c0,M0,k0,rfl,r0,s0,i0⟩:=opens_venue (hval 0 111 v0 rfl rfl) h0 y0
 obtain ⟨C1,rfl,i1⟩:=opens_command (hval 1 113 v1 rfl rfl) h1
 refine (venueKeeps_walk V0 A0 c0 M0 k0 C1 W r0).mono fun e W' ⟨he,bel⟩=>?_
 subst he
 exact ⟨_,rfl,_,_,_,[],_,[],hW',trodAll_mk1 (shut_bool Try.underlying4 _),hkeep W' bel,rfl,bel.frame _,fun h=>by cases h⟩
set_option maxHeartbeats 4000000 in
theorem venueKeeps_closed:joinedFacts Try.prog 25 Try.f25 Rows.venueKeepsSpec Rows.venueKeepsRow=true :=
 joined_mk _ _ _ _ _ (by as_aux_lemma=>kernel_rfl) closed_laid closed_mapsRowed (by as_aux_lemma=>kernel_rfl) (by as_aux_lemma=>kernel_rfl) (by as_aux_lemma=>kernel_rfl) closed_stops (by as_aux_lemma=>kernel_rfl) closed_stopKnobs (by as_aux_lemma=>kernel_rfl) (by as_aux_lemma=>kernel_rfl) (by as_aux_lemma=>kernel_rfl) (by as_aux_lemma=>kernel_rfl) (by as_aux_lemma=>kernel_rfl) (by as_aux_lemma=>kernel_rfl) (by as_aux_lemma=>kernel_rfl) (by as_aux_lemma=>kernel_rfl) (by as_aux_lemma=>kernel_rfl) (by as_aux_lemma=>kernel_rfl) (by as_aux_lemma=>kernel_rfl) (by as_aux_lemma=>kernel_rfl) (by as_aux_lemma=>kernel_rfl) closed_plainKeys (by as_aux_lemma=>kernel_rfl) closed_stopsHeard closed_mayEnter closed_lifted closed_make (by as_aux_lemma=>kernel_rfl) (by as_aux_lemma=>kernel_rfl) (by as_aux_lemma=>kernel_rfl) (by as_aux_lemma=>kernel_rfl)
set_option maxHeartbeats 4000000 in
theorem venueKeeps_over:Rows.venueKeepsRow.holds Try.pinned (OpenSpec.ofChange Rows.venueKeepsSpec) :=
 OpenClaim.holds_of_wide 25 Try.f25 rfl rfl rfl rfl rfl rfl rfl ⟨rfl,rfl,rfl,rfl,rfl⟩ rfl rfl rfl rfl rfl (by as_aux_lemma=>kernel_rfl) Try.func25 venueKeeps_closed
  (of_decide_eq_true (by as_aux_lemma=>kernel_rfl)) (by unfold Func.isWrapper;first | (rw [if_pos (by decide +kernel)];as_aux_lemma=>kernel_rfl) | (rw [if_neg (by decide +kernel)];exact ⟨rfl,rfl⟩))
  (fun os started H enc _=>venueKeeps_lifted os started H enc)
theorem venueKeeps_proved:Rows.VenueKeepsSaid:=venueKeeps_over
#print axioms venueKeeps_proved
end
end Go.Proofs.Ytockodmbhnlheaa
