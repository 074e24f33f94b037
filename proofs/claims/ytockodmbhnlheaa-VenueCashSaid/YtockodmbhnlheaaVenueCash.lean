/-
  THE LAW VenueCash: holds for every input, with no condition. (Joined texts: CashW, VenueCash.)
-/
import Derived.Test.YtockodmbhnlheaaM19
import Derived.Test.YtockodmbhnlheaaM16
import Derived.Test.YtockodmbhnlheaaM06
import Derived.Test.YtockodmbhnlheaaM01
import Derived.Test.YtockodmbhnlheaaProg
import Derived.Maps.AppendAt
import Derived.Laws.AppendOwnNone
import Derived.OwnWalk
import Derived.Test.YtockodmbhnlheaaM07
import Derived.Test.YtockodmbhnlheaaM12
import Derived.Test.YtockodmbhnlheaaM05
import Derived.Test.YtockodmbhnlheaaM03
import Derived.Deep.RegionHeld3
import Derived.Test.YtockodmbhnlheaaM02
import Derived.BigQuiet
import Derived.Test.YtockodmbhnlheaaM08
import Derived.Lib.AppendZeros
import Derived.Test.YtockodmbhnlheaaM09
import Derived.Test.YtockodmbhnlheaaM10
import Derived.Test.YtockodmbhnlheaaM11
import Derived.Test.YtockodmbhnlheaaM13
import Derived.Test.YtockodmbhnlheaaM15
import Derived.Deep.DeepCutAuto
import Derived.Test.YtockodmbhnlheaaM14
import Derived.Deep.RegionLaw
import Derived.Test.YtockodmbhnlheaaM04
import Derived.WalkKit
import Derived.WalkSpells
import Derived.WalkLawsBesides
import Derived.Lib.Hide
import Derived.Test.YtockodmbhnlheaaM18
import Derived.Laws.CopyOwn
import Derived.Lib.AppendZerosOnto
import Derived.Lib.Overlaps
import Derived.Laws.Externs
import Derived.Laws.MakeOwn
import Derived.Maps.Own
import Derived.Maps.OwnOps
import Derived.Maps.Views
import Derived.Deep.QuietTactic
import Derived.Deep.Draws
import Derived.KernelRfl
import Derived.IntWalk
import Derived.Test.YtockodmbhnlheaaRows
import Derived.ProofKit
import Derived.OpenShut
import Derived.SizedLaws
import Derived.Deep.Slices
import Derived.RegionTactic
import Derived.ChangeAlike
import Derived.Test.YtockodmbhnlheaaM17
import Derived.JoinedOf
namespace Go.Proofs.Ytockodmbhnlheaa
section
open Go.RowKit
theorem cash_acc {V:Vn} {a:Ac} {i:Nat} {b:Ac} (hv:VOk V) (h:(thereB V.accs a.id=true→a ∈ V.accs)∧(thereB V.accs a.id=false→a.bal=0∧a.pos=List.replicate a.pos.length 0)) (hb:V.accs[i]?=some b) (hid:b.id=a.id):b=a:=by
 have ht:thereB V.accs a.id=true:=there_iff.2 ⟨b,List.mem_of_getElem? hb,hid⟩
 obtain ⟨j,hj⟩:=List.mem_iff_getElem?.1 (h.1 ht)
 have e1:=accOf_at hv.accs.sorted hj
 have e2:=accOf_at hv.accs.sorted hb
 rw [hid] at e2
 rw [← e2,e1]
theorem cash_none' {V:Vn} {a:Ac} (h:(thereB V.accs a.id=true→a ∈ V.accs)∧(thereB V.accs a.id=false→a.bal=0∧a.pos=List.replicate a.pos.length 0)) (hn:V.accs.any (hasAc a.id)=false):a=⟨a.id,0,List.replicate a.pos.length 0⟩:=by
 have ht:thereB V.accs a.id=false:=by
  rw [there_not]
  intro x hx e
  rw [List.any_eq_false] at hn
  exact hn x hx (by unfold hasAc;simpa using e)
 obtain ⟨h1,h2⟩:=h.2 ht
 obtain ⟨i,b,p⟩:=a
 simp only at h1 h2 ⊢
 rw [h1,← h2]
theorem same_ref {b:Bool} (x y:Ac) (A A':Option Addr) (c c':Nat) (n':Nat) (B B':Nat) (w:World) (hn:n'=y.pos.length) (hr:sameAc x y=b) (h:Rd w B 1 A x.pos.length c (ints x.pos)) (h':Rd w B' 1 A' y.pos.length c' (ints y.pos)) (hB:B ≤ w.heap.size) (hB':B' ≤ w.heap.size) :
  Calls Try.prog 51 #[.agg #[.int .i64 x.id,.int .i64 x.bal,.slice A x.pos.length c],.agg #[.int .i64 y.id,.int .i64 y.bal,.slice A' n' c']] w fun e w'=>e=.returned (.bool b)∧Below w.heap.size w w':=by
 subst hn;rw [← hr];exact same_any x y A A' c c' B B' w h h' hB hB'
set_option maxHeartbeats 16000000 in
set_option maxRecDepth 100000 in
theorem venueCash_walk (V:Vn) (A:Option Addr) (c:Nat) (M:Option Addr) (k:Nat) (who n:Int) (w:World) (h:VnR w w.heap.size A c M k V) :
  Calls Try.prog 28 #[.agg #[.slice A V.accs.length c,.slice M V.mks.length k,.int .i64 V.ins,.int .i64 V.resid,.int .i64 V.next,.int .i64 V.inn,.int .i64 V.out],.int .i64 who,.int .i64 n] w fun e w'=>e=.returned (.bool true)∧Below w.heap.size w w':=by
 have HV:=Lib.hid h
 obtain ⟨U,ev,ed,hdo⟩:∃ U ev ed,doOf V (depCm who n)=(U,ev,ed):=⟨_,_,_,rfl⟩
 have HDO:=Lib.hid hdo
 clear h hdo
 go_enter Try.func28,Try.ntmps28
 go_wp2_with fail
 refine calls_name ?_
 intro W0 hW0
 have hB0:Below w.heap.size w W0:=by rw [hW0];exact (Below.refl _ _).alloc (Nat.le_refl _) _
 have X0:Blk W0 w.heap.size 111 #[.slice A V.accs.length c,.slice M V.mks.length k,.int .i64 V.ins,.int .i64 V.resid,.int .i64 V.next,.int .i64 V.inn,.int .i64 V.out]:=by rw [hW0];exact Blk.new w _ _
 have hs0:W0.heap.size=w.heap.size + 1:=by rw [hW0];simp
 clear hW0
 have hcall:Calls Try.prog 103 #[.agg #[.slice A V.accs.length c,.slice M V.mks.length k,.int .i64 V.ins,.int .i64 V.resid,.int .i64 V.next,.int .i64 V.inn,.int .i64 V.out],.agg #[.int .i64 1,.int .i64 who,.int .i64 0,.int .i64 n,.int .i64 0,.int .i64 0,.int .i64 0,.int .i64 0,.int .i64 0,.int .i64 0,.bool false]] W0 fun e w' =>
   ∃ A5 c5 M5 k5 E5 n5,e=.returned (.tuple #[.agg #[.slice A5 U.accs.length c5,.slice M5 U.mks.length k5,.int .i64 U.ins,.int .i64 U.resid,.int .i64 U.next,.int .i64 U.inn,.int .i64 U.out],.slice E5 ev.length n5,.int .i64 ed])∧VnR w' w'.heap.size A5 c5 M5 k5 U∧Rd w' w'.heap.size 13 E5 ev.length n5 (evCells ev)∧Below W0.heap.size W0 w' :=
  vdo_read V (depCm who n) A M c k w.heap.size W0 HDO.out (HV.out.below hB0) (by omega)
 have HCALL:=Lib.hid hcall
 clear hcall
 refine HCALL.out.mono ?_
 rintro e W1 ⟨A1,c1,M1,k1,E1,n1,rfl,hu1,he1,hb1⟩
 have hs1:=hb1.size
 clear HCALL
 go_wp2_with fail
 refine calls_name ?_
 intro W2 hW2
 have hB2:Below W1.heap.size W1 W2:=by rw [hW2];exact (Below.refl _ _).alloc (Nat.le_refl _) _
 have Y2:Blk W2 W1.heap.size 111 #[.slice A1 U.accs.length c1,.slice M1 U.mks.length k1,.int .i64 U.ins,.int .i64 U.resid,.int .i64 U.next,.int .i64 U.inn,.int .i64 U.out]:=by rw [hW2];exact Blk.new W1 _ _
 have hs2:=hB2.size
 clear hW2
 refine (opened_any W2).mono ?_
 rintro e W3 ⟨rfl,hb3⟩
 have hs3:=hb3.size
 have hB13:Below W1.heap.size W1 W3:=hB2.trans (hb3.mono hs2)
 have hB3:Below w.heap.size w W3:=hB0.trans ((hb1.mono (by omega)).trans (hB13.mono (by omega)))
 have X3:=X0.below (hb1.trans (hB13.mono hs1)) X0.lt
 have Y3:=Y2.below hb3 Y2.lt
 have HU3:=Lib.hid (hu1.below hB13)
 have HE3:=Lib.hid (he1.below hB13)
 have yw:=Y3.lt
 have xw:=X3.lt
 clear hu1 he1 hb1 hb3 hB13 hB2 hB0 X0 Y2
 by_cases he:ed=0
 rotate_left
 ·have he':(ed != 0)=true:=by simpa using he
  clear he
  go_wp2_with fail
  refine (opened_any W3).mono ?_
  rintro e W4 ⟨rfl,hb4⟩
  go_wp2_with fail
  go_ret
  exact ⟨rfl,hB3.trans (hb4.mono (by omega))⟩
 subst he
 have HLAW:=Lib.hid (cash_law HDO.out)
 obtain ⟨b,hb⟩:∃ b,rejB ev=b:=⟨_,rfl⟩
 have HB:=Lib.hid hb
 clear hb
 go_wp2_with fail
 refine (rejected_ref E1 _ n1 ev W1.heap.size W3 HB.out HE3.out (by omega)).mono ?_
 rintro e w5 ⟨rfl,rfl⟩
 rcases bool_cs' b with rfl | rfl
 ·obtain ⟨er,hev,her⟩:=HLAW.out.1 HB.out
  subst hev
  obtain ⟨be,oe,ge,hEe,hbe,hge,hce⟩:=ev_at HE3.out (i:=0) (by simp)
  obtain rfl:rejEv er=ge:=by simpa using hge
  subst hEe
  have v1:=hce 1 _ rfl
  simp only [Nat.zero_mul,Nat.add_zero] at v1
  have z4:be < W3.heap.size:=by omega
  have v1':W3.cell? ⟨be,oe + 1,none⟩=some (.int .i64 er):=v1
  clear hce hge v1
  simp only [List.length_cons,List.length_nil]
  rcases her with rfl | rfl | rfl
  all_goals
   go_wp2_with fail
   go_ret
   exact ⟨rfl,hB3⟩
 obtain ⟨x,ev2,hd2,hrej,hok⟩:=HLAW.out.2 HB.out
 have HD2:=Lib.hid hd2
 have HREJ:=Lib.hid hrej
 have HOK:=Lib.hid hok
 clear hd2 hrej hok
 obtain ⟨⟨kY30,kY31,kY32,kY33,kY34,kY35,kY36⟩,-⟩:=Y3.c7
 have hcall:Calls Try.prog 103 #[.agg #[.slice A1 U.accs.length c1,.slice M1 U.mks.length k1,.int .i64 U.ins,.int .i64 U.resid,.int .i64 U.next,.int .i64 U.inn,.int .i64 U.out],.agg #[.int .i64 2,.int .i64 who,.int .i64 0,.int .i64 n,.int .i64 0,.int .i64 0,.int .i64 0,.int .i64 0,.int .i64 0,.int .i64 0,.bool false]] W3 fun e w' =>
   ∃ A5 c5 M5 k5 E5 n5,e=.returned (.tuple #[.agg #[.slice A5 x.accs.length c5,.slice M5 x.mks.length k5,.int .i64 x.ins,.int .i64 x.resid,.int .i64 x.next,.int .i64 x.inn,.int .i64 x.out],.slice E5 ev2.length n5,.int .i64 0])∧VnR w' w'.heap.size A5 c5 M5 k5 x∧Rd w' w'.heap.size 13 E5 ev2.length n5 (evCells ev2)∧Below W3.heap.size W3 w' :=
  vdo_read U (wdCm who n) A1 M1 c1 k1 W1.heap.size W3 HD2.out HU3.out (by omega)
 have HCALL:=Lib.hid hcall
 clear hcall
 go_wp2_with fail
 refine HCALL.out.mono ?_
 rintro e W4 ⟨A5,c5,M5,k5,E5,n5,rfl,hu4,he4,hb4⟩
 have hs4:=hb4.size
 have HX4:=Lib.hid hu4
 have HE4:=Lib.hid he4
 have HU4:=Lib.hid (HU3.out.below (hb4.mono (by omega)))
 clear hu4 he4 kY30 kY31 kY32 kY33 kY34 kY35 kY36 HCALL
 go_wp2_with fail
 refine calls_name ?_
 intro W5 hW5
 have hB5:Below W4.heap.size W4 W5:=by rw [hW5];first | exact (Below.refl _ _).alloc (Nat.le_refl _) _ | exact ((Below.refl _ _).alloc (Nat.le_refl _) _).setCell (Nat.le_refl _) _
 have T5:Blk W5 W4.heap.size 111 #[.slice A5 x.accs.length c5,.slice M5 x.mks.length k5,.int .i64 x.ins,.int .i64 x.resid,.int .i64 x.next,.int .i64 x.inn,.int .i64 x.out]:=by rw [hW5];exact Blk.new W4 _ _
 have hs5:=hB5.size
 have hB35:=hb4.trans (hB5.mono hs4)
 have Y5:=Y3.below hB35 yw
 have X5:=X3.below hB35 xw
 have HBW:=Lib.hid (hB3.trans (hB35.mono (by omega)))
 have HP5:=Lib.hid (HX4.out.below hB5)
 have HU5:=Lib.hid (HU4.out.below (hB5.mono (by omega)))
 have HV5:=Lib.hid (HV.out.below HBW.out)
 obtain ⟨b2,hb2⟩:∃ b2,rejB ev2=b2:=⟨_,rfl⟩
 have HB2:=Lib.hid hb2
 clear hW5 hb2 X3 Y3
 refine (rejected_ref E5 _ n5 ev2 W4.heap.size W5 HB2.out (HE4.out.below hB5) (by omega)).mono ?_
 rintro e w6 ⟨rfl,rfl⟩
 have y5:=Y5.lt
 have t5:=T5.lt
 have x5:=X5.lt
 rcases bool_cs' b2 with rfl | rfl
 ·obtain ⟨hxU,er,hev,her⟩:=HREJ.out HB2.out
  subst hxU
  subst hev
  obtain ⟨be,oe,ge,hEe,hbe,hge,hce⟩:=ev_at (HE4.out.below hB5) (i:=0) (by simp)
  obtain rfl:rejEv er=ge:=by simpa using hge
  subst hEe
  have v1:=hce 1 _ rfl
  simp only [Nat.zero_mul,Nat.add_zero] at v1
  have z4:be < W5.heap.size:=by omega
  have v1':W5.cell? ⟨be,oe + 1,none⟩=some (.int .i64 er):=v1
  clear hce hge v1
  obtain ⟨⟨kY50,kY51,kY52,kY53,kY54,kY55,kY56⟩,-⟩:=Y5.c7
  obtain ⟨⟨kT50,kT51,kT52,kT53,kT54,kT55,kT56⟩,-⟩:=T5.c7
  simp only [List.length_cons,List.length_nil]
  rcases her with rfl | rfl
  all_goals
   go_wp2_with fail
   refine (vsame_ref x x A5 M5 A1 M1 c5 k5 c1 k1 W4.heap.size W1.heap.size W5 ((sameVn_iff _ _).2 rfl) HP5.out HU5.out (by omega) (by omega)).mono ?_
   rintro e W7 ⟨rfl,hb7⟩
   go_wp2_with fail
   go_ret
   exact ⟨rfl,HBW.out.trans (hb7.mono (by omega))⟩
 obtain ⟨hall,hin,hout,hins,hres,hVo,hxo⟩:=HOK.out HB2.out
 have HALL:=Lib.hid hall
 have HVO:=Lib.hid hVo
 have HXO:=Lib.hid hxo
 have hal:x.accs.length ≤ 8:=aok_len hxo.accs
 have hx2:=hxo.len.2
 have hxi:=hxo.nums.inn
 have hxo':=hxo.nums.out
 have hvi:=hVo.nums.inn
 have hvo':=hVo.nums.out
 have p0:W5.cell? ⟨W4.heap.size,0,none⟩=some (.slice A5 x.accs.length c5):=T5.cell 0
 clear hall hVo hxo
 go_wp2_with fail
 go_loopw [85] (fun i wr=>∃ (j:Nat),j ≤ x.accs.length∧i=.int .i64 j∧Below W5.heap.size W5 wr) (fun i _=>x.accs.length - (intOf i).toNat)
 case atStart=>exact ⟨0,by omega,rfl,Below.refl _ _⟩
 case round =>
  obtain ⟨j,hj,rfl,hbr⟩:=hrel
  obtain ⟨wr,rfl⟩:∃ x,x=wr:=⟨wr,rfl⟩
  have hws:=hbr.size
  by_cases hlt:j < x.accs.length
  ·obtain ⟨b,o,a,rfl,hb,ha,A2,c2,k0,k1,k2,k3,k4⟩:=acc_at (HP5.out.accs.below (hbr.mono (by omega))) hlt
   have HA:=Lib.hid ha
   have HPO:=Lib.hid k3
   have hlp:a.pos.length ≤ 2:=by have:=(accCheck_ok (HXO.out.accs.ok a (List.mem_of_getElem? ha))).2.2.1;omega
   have HAL:=Lib.hid (HALL.out a (List.mem_of_getElem? ha))
   have hbw:b < wr.heap.size:=by omega
   have hmk:=run_zeros a.pos.length (by omega)
   clear ha k3
   go_wp2_with fail
   refine wp_name ?_
   intro W6 hW6
   have hB6:Below wr.heap.size wr W6:=by rw [hW6];first | exact (Below.refl _ _).alloc (Nat.le_refl _) _ | exact ((Below.refl _ _).alloc (Nat.le_refl _) _).setCell (Nat.le_refl _) _
   have Q6:Blk W6 wr.heap.size 37 #[.int .i64 a.id,.int .i64 a.bal,.slice A2 a.pos.length c2]:=by rw [hW6];exact Blk.new wr _ _
   have hs6:=hB6.size
   clear hW6 k0 k1 k2
   obtain ⟨⟨q0,q1,q2⟩,-⟩:=Q6.c3
   have yq:=Q6.lt
   go_upto_region 14 with (fail)
   go_cut [13] (fun vp wx=>∃ gW gz,vp=.pointer (some ⟨gW,0,none⟩)∧Below W6.heap.size W6 wx∧W6.heap.size ≤ gW∧Hid (Blk wx gW 37 #[.int .i64 a.id,.int .i64 0,.slice (some ⟨gz,0,none⟩) a.pos.length a.pos.length])∧Hid (Rd wx wx.heap.size 1 (some ⟨gz,0,none⟩) a.pos.length a.pos.length (ints (List.replicate a.pos.length 0))))
   case first =>
    go_region
    all_goals
     refine exit_name ?_
     intro W7 hW7
     have hsz7:W7.heap.size=W6.heap.size + 2:=by rw [hW7];simp
     have hB7:Below W6.heap.size W6 W7:=by rw [hW7];exact dk_drew (((Below.refl _ _).alloc (Nat.le_refl _) _).alloc (by simp) _)
     first
      | (have HQ7:Hid (Blk W7 (W6.heap.size + 1) 37 #[.int .i64 a.id,.int .i64 0,.slice (some ⟨W6.heap.size,0,none⟩) a.pos.length a.pos.length]):=by rw [hW7];exact Blk.drewN (Blk.new_at _ _ _ _ (by simp)) 1
         have HR7:Hid (Rd W7 W7.heap.size 1 (some ⟨W6.heap.size,0,none⟩) a.pos.length a.pos.length (ints (List.replicate a.pos.length 0))):=by rw [hsz7,hW7];exact (((rd_zeros W6 a.pos.length W6.heap.size rfl (by simp only [maxLen];omega)).alloc (by simp) _).drewN 1).up (by omega)
         clear hW7
         go_wp2_with fail
         go_meet
         exact ⟨_,_,rfl,hB7,by omega,HQ7,HR7⟩)
      | (have HQ7:Hid (Blk W7 W6.heap.size 37 #[.int .i64 a.id,.int .i64 0,.slice (some ⟨W6.heap.size + 1,0,none⟩) a.pos.length a.pos.length]):=by rw [hW7];exact Blk.drewN ((Blk.new W6 _ _).alloc _) 1
         have HR7:Hid (Rd W7 W7.heap.size 1 (some ⟨W6.heap.size + 1,0,none⟩) a.pos.length a.pos.length (ints (List.replicate a.pos.length 0))):=by rw [hsz7,hW7];exact (rd_zeros (W6.alloc _) a.pos.length (W6.heap.size + 1) (by simp) (by simp only [maxLen];omega)).drewN 1
         clear hW7
         go_wp2_with fail
         go_meet
         exact ⟨_,_,rfl,hB7,Nat.le_refl _,HQ7,HR7⟩)
   case rest=>as_aux_lemma =>
    obtain ⟨gW,gz,rfl,hB7,hgW,HG7,HR7⟩:=hcut
    obtain ⟨W7,rfl⟩:∃ W7,W7=wc:=⟨wc,rfl⟩
    have hs7:=hB7.size
    have Q7:=Q6.below hB7 yq
    have hb57:=hbr.trans ((hB6.trans (hB7.mono hs6)).mono hws)
    have X7:=X5.below hb57 x5
    have x0:W7.cell? ⟨w.heap.size,0,none⟩=some (.slice A V.accs.length c):=X7.cell 0
    have xw7:=X7.lt
    have HPO7:=Lib.hid (HPO.out.below (((hB6.trans (hB7.mono hs6))).mono (by omega)))
    have yq7:=Q7.lt
    have yg7:=HG7.out.lt
    clear q0 q1 q2
    go_wp2_with fail
    refine (idx_cash1 a.id wr.heap.size A _ c V.accs w.heap.size W7 (HV5.out.accs.below (hb57.mono (by omega))) (by omega) yq7 (Q7.cell 0)).mono ?_
    rintro e W8 ⟨rfl,hb8⟩
    have hs8:=hb8.size
    have Q8:=Q7.below hb8 yq7
    have G8:=HG7.out.below hb8 yg7
    have hb58:=hb57.trans (hb8.mono (by omega))
    have X8:=X7.below hb8 xw7
    have HR8:=Lib.hid (HR7.out.below hb8)
    have HPO8:=Lib.hid (HPO7.out.below (hb8.mono (by omega)))
    obtain ⟨⟨q0,q1,q2⟩,-⟩:=Q8.c3
    obtain ⟨⟨g0,g1,g2⟩,m0,m1,m2⟩:=G8.c3
    have yq8:=Q8.lt
    have yg8:=G8.lt
    have hqg:¬ (wr.heap.size=gW):=by omega
    have hgq:¬ (gW=wr.heap.size):=by omega
    clear x0
    rcases idxL_cases (hasAc a.id) V.accs with ⟨h1,h2⟩ | ⟨i,b',h1,h2,h3,_⟩
    ·have HEQ:=Lib.hid (cash_none' HAL.out h2)
     rw [h1]
     clear h1 h2
     go_wp2_with fail
     refine (same_ref a ⟨a.id,0,List.replicate a.pos.length 0⟩ A2 (some ⟨gz,0,none⟩) c2 a.pos.length a.pos.length W4.heap.size W7.heap.size W8 (by simp) ((sameAc_iff _ _).2 HEQ.out) HPO8.out (by rw [List.length_replicate];exact HR8.out) (by omega) (by omega)).mono ?_
     rintro e W9 ⟨rfl,hb9⟩
     have hbn:=hb58.trans (hb9.mono (by omega))
     go_wp2_with fail
     go_roundw
     case rel=>exact ⟨j + 1,by omega,by go_num,hbn⟩
     case measure=>simp [intOf];omega
    ·have hbid:b'.id=a.id:=by unfold hasAc at h3;simpa using h3
     have HEQ:=Lib.hid (cash_acc HVO.out HAL.out h2 hbid)
     rw [h1]
     have hil:=(List.getElem?_eq_some_iff.1 h2).1
     obtain ⟨bb,ob,b'',rfl,hbb,hv'',A8,c8,t0,t1,t2,t3,t4⟩:=acc_at (HV5.out.accs.below (hb58.mono (by omega))) hil
     have hbb2:b''=a:=by
      rw [h2] at hv''
      rw [← Option.some.inj hv''];exact HEQ.out
     subst hbb2
     have HT3:=Lib.hid t3
     have hi0:(0:Int) ≤ (i:Int):=by omega
     have hi1:(i:Int) < (V.accs.length:Int):=by omega
     have hi2:decide ((0:Int) ≤ (i:Int))=true:=decide_eq_true hi0
     have x0:W8.cell? ⟨w.heap.size,0,none⟩=some (.slice (some ⟨bb,ob,none⟩) V.accs.length c):=X8.cell 0
     have xw8:=X8.lt
     have ybb:bb < W8.heap.size:=by omega
     clear h1 h2 h3 hv'' t3 hbid
     go_wp2_with fail
     refine calls_name ?_
     intro W9 hW9
     have hB9:Below W5.heap.size W5 W9:=by rw [hW9];exact ((hb58.setCell (by dsimp only;omega) _).setCell (by dsimp only;omega) _).setCell (by dsimp only;omega) _
     have hB69:Below W6.heap.size W8 W9:=by rw [hW9];exact (((Below.refl _ _).setCell hgW _).setCell hgW _).setCell hgW _
     have hs9:W8.heap.size=W9.heap.size:=by rw [hW9];simp only [size_setCell]
     clear hW9
     refine (same_ref b'' b'' A2 A8 c2 c8 _ W4.heap.size w.heap.size W9 rfl ((sameAc_iff _ _).2 rfl) (HPO8.out.below (hB69.mono (by omega))) (HT3.out.below (hB69.mono (by omega))) (by omega) (by omega)).mono ?_
     rintro e W10 ⟨rfl,hb10⟩
     have hbn:=hB9.trans (hb10.mono (by omega))
     go_wp2_with fail
     go_roundw
     case rel=>exact ⟨j + 1,by omega,by go_num,hbn⟩
     case measure=>simp [intOf];omega
  ·obtain rfl:j=x.accs.length:=by omega
   obtain ⟨⟨-,-,u2,u3,-,u5,u6⟩,-⟩:=(X5.below hbr x5).c7
   obtain ⟨⟨-,-,v2,v3,-,v5,v6⟩,-⟩:=(T5.below hbr t5).c7
   have z2:W4.heap.size < wr.heap.size:=by omega
   have z3:w.heap.size < wr.heap.size:=by omega
   have b1:-1000000000000 ≤ n∧n ≤ 1000000000000:=by omega
   obtain ⟨b1,b2⟩:=b1
   have e1:(x.inn == V.inn + n)=true:=by simpa using hin
   have e2:(x.out == V.out + n)=true:=by simpa using hout
   have e3:(x.ins == V.ins)=true:=by simpa using hins
   have e4:(x.resid == V.resid)=true:=by simpa using hres
   have HE:=Lib.hid (And.intro e1 (And.intro e2 (And.intro e3 e4)))
   obtain ⟨i1,i2⟩:=hvi
   obtain ⟨i3,i4⟩:=hvo'
   clear hin hout hins hres hxi hxo'
   go_wp2_with fail
   go_ret
   exact ⟨rfl,HBW.out.trans (hbr.mono (by omega))⟩
end
section
open Go.ChangeShapes Go.WideShapes Go.ChangeAt Go.RowKit
set_option maxRecDepth 100000 in
theorem venueCash_lifted (os:Os) (started:os.Started) (H:Type) (enc:TypeId × Value→H) :
  ReturnsInHanded {} Try.checked os 28 .any (Rows.venueCashSpec.pre6 enc Try.prog Try.f28 Rows.venueCashRow.domain false) (Rows.venueCashSpec.post enc Try.prog Try.f28 false true false false):=by
 refine returnsInHanded_of_change_sized (C:=Try.checked) row_own started (by kernel_rfl) Try.func28
  (ChangeSpec.witness6 (enc:=enc) (C:=Try.checked) false ⟨#[],#[.agg #[.slice none 0 0,.slice none 0 0,.int .i64 0,.int .i64 0,.int .i64 0,.int .i64 0,.int .i64 0],.int .i64 0,.int .i64 0],[]⟩ 8 (by kernel_rfl) (by kernel_rfl) (by kernel_rfl) (by kernel_rfl)) ?_
 intro W base args ds gs before hval0 hW hcnd hsz _
 have hval:∀ (j:Nat) t v,Try.f28.params[j]?=some t→args[j]?=some v→Value.okWide Try.prog W .any base t v:=hval0
 have hW':=hW
 obtain ⟨p,q,hA0,hV,rfl,hfz,hnd⟩:=hW
 have hA:DataW.TrodAll enc Try.prog W 0 (fun _=>true) true Try.f28.params.toList args.toList ds p:=hA0
 obtain ⟨rfl,rfl⟩:=trodVars_none hV
 have hkeep:=fun W' (bel:Below W.heap.size W W')=>trodAll_below row_laidOut bel (by kernel_rfl) hA
 rw [Try.params28] at hA hval
 obtain ⟨v0,vs0,d0,ds0,p0,q0,hargs,rfl,rfl,h0,tl0⟩:=trodAll_cons hA
 obtain ⟨v1,vs1,d1,ds1,p1,q1,rfl,rfl,rfl,h1,tl1⟩:=trodAll_cons tl0
 obtain ⟨v2,vs2,d2,ds2,p2,q2,rfl,rfl,rfl,h2,tl2⟩:=trodAll_cons tl1
 obtain ⟨rfl,rfl,rfl⟩:=trodAll_nil tl2
 obtain rfl:args = #[v0,v1,v2]:=by cases args;simp_all
 clear hargs
 have hs0:(DataW.weightsEach Try.prog (Try.f28.params.toList ++ Rows.venueCashSpec.plain.varTypes Try.prog) ([d0,d1,d2] ++ [])).all (· ≤ reachBytes)=true:=hsz
 rw [show Rows.venueCashSpec.plain.varTypes Try.prog = [] from rfl,List.append_nil,List.append_nil] at hs0
 have hsz':(DataW.weightsEach Try.prog Try.f28.params.toList [d0,d1,d2]).all (· ≤ reachBytes)=true:=hs0
 rw [Try.params28] at hsz'
 obtain ⟨y0,t0⟩:=weights_head hsz'
 obtain ⟨y1,t1⟩:=weights_head t0
 obtain ⟨y2,t2⟩:=weights_head t1
 obtain ⟨V0,A0,c0,M0,k0,rfl,r0,s0,i0⟩:=opens_venue (hval 0 111 v0 rfl rfl) h0 y0
 obtain ⟨z1,rfl,i1⟩:=opens_int (hval 1 3 v1 rfl rfl) h1
 obtain ⟨z2,rfl,i2⟩:=opens_int (hval 2 3 v2 rfl rfl) h2
 refine (venueCash_walk V0 A0 c0 M0 k0 z1 z2 W r0).mono fun e W' ⟨he,bel⟩=>?_
 subst he
 exact ⟨_,rfl,_,_,_,[],_,[],hW',trodAll_mk1 (shut_bool Try.underlying4 _),hkeep W' bel,rfl,bel.frame _,fun h=>by cases h⟩
set_option maxHeartbeats 4000000 in
theorem venueCash_closed:joinedFacts Try.prog 28 Try.f28 Rows.venueCashSpec Rows.venueCashRow=true :=
 joined_mk _ _ _ _ _ (by as_aux_lemma=>kernel_rfl) closed_laid closed_mapsRowed (by as_aux_lemma=>kernel_rfl) (by as_aux_lemma=>kernel_rfl) (by as_aux_lemma=>kernel_rfl) closed_stops (by as_aux_lemma=>kernel_rfl) closed_stopKnobs (by as_aux_lemma=>kernel_rfl) (by as_aux_lemma=>kernel_rfl) (by as_aux_lemma=>kernel_rfl) (by as_aux_lemma=>kernel_rfl) (by as_aux_lemma=>kernel_rfl) (by as_aux_lemma=>kernel_rfl) (by as_aux_lemma=>kernel_rfl) (by as_aux_lemma=>kernel_rfl) (by as_aux_lemma=>kernel_rfl) (by as_aux_lemma=>kernel_rfl) (by as_aux_lemma=>kernel_rfl) (by as_aux_lemma=>kernel_rfl) (by as_aux_lemma=>kernel_rfl) closed_plainKeys (by as_aux_lemma=>kernel_rfl) closed_stopsHeard closed_mayEnter closed_lifted closed_make (by as_aux_lemma=>kernel_rfl) (by as_aux_lemma=>kernel_rfl) (by as_aux_lemma=>kernel_rfl) (by as_aux_lemma=>kernel_rfl)
set_option maxHeartbeats 4000000 in
theorem venueCash_over:Rows.venueCashRow.holds Try.pinned (OpenSpec.ofChange Rows.venueCashSpec) :=
 OpenClaim.holds_of_wide 28 Try.f28 rfl rfl rfl rfl rfl rfl rfl ⟨rfl,rfl,rfl,rfl,rfl⟩ rfl rfl rfl rfl rfl (by as_aux_lemma=>kernel_rfl) Try.func28 venueCash_closed
  (of_decide_eq_true (by as_aux_lemma=>kernel_rfl)) (by unfold Func.isWrapper;first | (rw [if_pos (by decide +kernel)];as_aux_lemma=>kernel_rfl) | (rw [if_neg (by decide +kernel)];exact ⟨rfl,rfl⟩))
  (fun os started H enc _=>venueCash_lifted os started H enc)
theorem venueCash_proved:Rows.VenueCashSaid:=venueCash_over
#print axioms venueCash_proved
end
end Go.Proofs.Ytockodmbhnlheaa
