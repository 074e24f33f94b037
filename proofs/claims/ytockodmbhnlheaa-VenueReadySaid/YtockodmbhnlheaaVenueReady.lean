/-
  THE LAW VenueReady: holds for every input, with no condition. (Joined texts: ReadyW, VenueReady.)
-/
import Derived.Test.YtockodmbhnlheaaM19
import Derived.Test.YtockodmbhnlheaaM13
import Derived.Test.YtockodmbhnlheaaM12
import Derived.Test.YtockodmbhnlheaaM06
import Derived.Test.YtockodmbhnlheaaM01
import Derived.Test.YtockodmbhnlheaaProg
import Derived.Maps.AppendAt
import Derived.Laws.AppendOwnNone
import Derived.OwnWalk
import Derived.Test.YtockodmbhnlheaaM07
import Derived.Test.YtockodmbhnlheaaM05
import Derived.Test.YtockodmbhnlheaaM03
import Derived.Deep.RegionHeld3
import Derived.Test.YtockodmbhnlheaaM02
import Derived.Test.YtockodmbhnlheaaM08
import Derived.Lib.AppendZeros
import Derived.Test.YtockodmbhnlheaaM09
import Derived.Test.YtockodmbhnlheaaM10
import Derived.Test.YtockodmbhnlheaaM11
import Derived.Test.YtockodmbhnlheaaM15
import Derived.Test.YtockodmbhnlheaaM16
import Derived.Deep.DeepCutAuto
import Derived.Test.YtockodmbhnlheaaM14
import Derived.Deep.RegionLaw
import Derived.Test.YtockodmbhnlheaaM04
import Derived.WalkKit
import Derived.WalkSpells
import Derived.WalkLawsBesides
import Derived.Lib.Hide
import Derived.Test.YtockodmbhnlheaaM18
import Derived.Laws.CopyOwn
import Derived.Lib.AppendZerosOnto
import Derived.Lib.Overlaps
import Derived.Laws.Externs
import Derived.Laws.MakeOwn
import Derived.Maps.Own
import Derived.Maps.OwnOps
import Derived.Maps.Views
import Derived.Deep.QuietTactic
import Derived.BigQuiet
import Derived.Deep.Draws
import Derived.KernelRfl
import Derived.IntWalk
import Derived.Test.YtockodmbhnlheaaRows
import Derived.ProofKit
import Derived.OpenShut
import Derived.SizedLaws
import Derived.Deep.Slices
import Derived.RegionTactic
import Derived.ChangeAlike
import Derived.Test.YtockodmbhnlheaaM17
import Derived.JoinedOf
namespace Go.Proofs.Ytockodmbhnlheaa
section
open Go.RowKit
theorem find_mem {b:Bk} {id:Int} (h:(findOf b id).2=0):BookOk b∧(findOf b id).1 ∈ b.bids ++ b.asks:=by
 unfold findOf at h ⊢
 split at h
 ·rename_i h1;exact absurd h h1
 ·rename_i h1
  have hb:=bookErr_ok.1 (show bookErr b=0 by omega)
  rw [if_neg h1]
  split at h
  ·rename_i o ho;exact ⟨hb,List.mem_of_find?_eq_some ho⟩
  ·simp at h
theorem place_side {v w:Vn} {c:Cm} {ev:List Ev} (h:doOf v c=(w,ev,0)) (hr:rejB ev=false) (hk:c.kind=3):c.o.side=1∨c.o.side = -1:=by
 obtain ⟨hv,hc⟩:=do_done h hr
 unfold doesE at hc
 rw [if_neg (by omega),if_pos hk] at hc
 obtain ⟨b,l,left,_,_,_,_,hoe,_⟩:=order_ok (d:=⟨v,[]⟩) hv hc
 exact (ordErr_ok.1 hoe).2.2.1
theorem idx_there {L:List Ac} {id:Int} (hs:SortedA L) (ht:thereB L id=true):∃ k:Nat,idxL (hasAc id) L=k∧L[k]?=some (accOf L id)∧k < L.length∧(accOf L id).id=id:=by
 rcases idxL_cases (hasAc id) L with ⟨_,h⟩ | ⟨k,x,h1,h2,h3,_⟩
 ·obtain ⟨a,ha,hid⟩:=there_iff.1 ht
  rw [List.any_eq_false] at h
  exact absurd (show hasAc id a=true by unfold hasAc;simpa using hid) (h a ha)
 ·have hx:x.id=id:=by unfold hasAc at h3;simpa using h3
  have h4:accOf L id=x:=by rw [← hx];exact accOf_at hs h2
  exact ⟨k,h1,by rw [h4];exact h2,(List.getElem?_eq_some_iff.1 h2).1,by rw [h4];exact hx⟩
set_option maxHeartbeats 16000000 in
set_option maxRecDepth 100000 in
theorem venueReady_walk (V:Vn) (A:Option Addr) (c:Nat) (M:Option Addr) (k:Nat) (cm:Cm) (w:World) (h:VnR w w.heap.size A c M k V) :
  Calls Try.prog 22 #[.agg #[.slice A V.accs.length c,.slice M V.mks.length k,.int .i64 V.ins,.int .i64 V.resid,.int .i64 V.next,.int .i64 V.inn,.int .i64 V.out],.agg #[.int .i64 cm.kind,.int .i64 cm.acc,.int .i64 cm.market,.int .i64 cm.n,.int .i64 cm.o.id,.int .i64 cm.o.acc,.int .i64 cm.o.side,.int .i64 cm.o.price,.int .i64 cm.o.qty,.int .i64 cm.how,.bool cm.reduce]] w fun e w'=>e=.returned (.bool true)∧Below w.heap.size w w':=by
 have HV:=Lib.hid h
 obtain ⟨U,ev,ed,hdo⟩:∃ U ev ed,doOf V cm=(U,ev,ed):=⟨_,_,_,rfl⟩
 have HDO:=Lib.hid hdo
 clear h hdo
 go_enter Try.func22,Try.ntmps22
 go_wp2_with fail
 refine calls_name ?_
 intro W0 hW0
 have hB0:Below w.heap.size w W0:=by rw [hW0];exact ((Below.refl _ _).alloc (Nat.le_refl _) _).alloc (by simp) _
 have X0:Blk W0 w.heap.size 111 #[.slice A V.accs.length c,.slice M V.mks.length k,.int .i64 V.ins,.int .i64 V.resid,.int .i64 V.next,.int .i64 V.inn,.int .i64 V.out]:=by rw [hW0];exact (Blk.new w _ _).alloc _
 have C0:Blk W0 (w.heap.size + 1) 113 #[.int .i64 cm.kind,.int .i64 cm.acc,.int .i64 cm.market,.int .i64 cm.n,.int .i64 cm.o.id,.int .i64 cm.o.acc,.int .i64 cm.o.side,.int .i64 cm.o.price,.int .i64 cm.o.qty,.int .i64 cm.how,.bool cm.reduce]:=by rw [hW0];exact Blk.new_at _ _ _ _ (by simp)
 have hs0:W0.heap.size=w.heap.size + 2:=by rw [hW0];simp
 clear hW0
 refine (vdo_ref V cm A M c k w.heap.size W0 HDO.out (HV.out.below hB0) (by omega)).mono ?_
 rintro e W1 ⟨A1,c1,M1,k1,E1,n1,rfl,⟨xs1,ha1⟩,⟨ys1,hm1⟩,he1,hb1⟩
 have hs1:=hb1.size
 go_wp2_with fail
 refine calls_name ?_
 intro W2 hW2
 have hB2:Below W1.heap.size W1 W2:=by rw [hW2];exact (Below.refl _ _).alloc (Nat.le_refl _) _
 have Y2:Blk W2 W1.heap.size 111 #[.slice A1 U.accs.length c1,.slice M1 U.mks.length k1,.int .i64 U.ins,.int .i64 U.resid,.int .i64 U.next,.int .i64 U.inn,.int .i64 U.out]:=by rw [hW2];exact Blk.new W1 _ _
 have hs2:=hB2.size
 clear hW2
 refine (opened_any W2).mono ?_
 rintro e W3 ⟨rfl,hb3⟩
 have hs3:=hb3.size
 have hB13:Below W1.heap.size W1 W3:=hB2.trans (hb3.mono hs2)
 have hB3:Below w.heap.size w W3:=hB0.trans ((hb1.mono (by omega)).trans (hB13.mono (by omega)))
 have X3:=X0.below (hb1.trans (hB13.mono hs1)) X0.lt
 have C3:=C0.below (hb1.trans (hB13.mono hs1)) C0.lt
 have Y3:=Y2.below hb3 Y2.lt
 have HU3:=Lib.hid (show VnR W3 W3.heap.size A1 c1 M1 k1 U from ⟨(ha1.below hB13).read,(hm1.below hB13).read⟩)
 have HE3:=Lib.hid (Rd.of_own (own_below he1 hB13 (Nat.le_refl _)))
 have HV3:=Lib.hid (HV.out.below hB3)
 clear ha1 hm1 he1 hb1 hb3 hB13 hB2 hB0 X0 C0 Y2
 by_cases he:ed=0
 rotate_left
 ·have he':(ed != 0)=true:=by simpa using he
  clear he
  go_wp2_with fail
  refine (opened_any W3).mono ?_
  rintro e W4 ⟨rfl,hb4⟩
  go_wp2_with fail
  go_ret
  exact ⟨rfl,hB3.trans (hb4.mono (by omega))⟩
 subst he
 have yw:=Y3.lt
 have yc:=C3.lt
 have q0:W3.cell? ⟨w.heap.size + 1,0,none⟩=some (.int .i64 cm.kind):=C3.cell 0
 obtain ⟨b,hb⟩:∃ b,rejB ev=b:=⟨_,rfl⟩
 have HB:=Lib.hid hb
 clear hb
 go_wp2_with fail
 refine (rejected_ref E1 _ n1 ev W3.heap.size W3 HB.out HE3.out (Nat.le_refl _)).mono ?_
 rintro e w5 ⟨rfl,rfl⟩
 rcases bool_cs' b with rfl | rfl
 ·go_wp2_with fail
  refine (opened_any W3).mono ?_
  rintro e W4 ⟨rfl,hb4⟩
  go_wp2_with fail
  go_ret
  exact ⟨rfl,hB3.trans (hb4.mono (by omega))⟩
 by_cases hk:cm.kind=2∨cm.kind=3
 rotate_left
 ·have n2:(cm.kind != 2)=true:=by simp;omega
  have n3:(cm.kind != 3)=true:=by simp;omega
  go_wp2_with fail
  refine (opened_any W3).mono ?_
  rintro e W4 ⟨rfl,hb4⟩
  go_wp2_with fail
  go_ret
  exact ⟨rfl,hB3.trans (hb4.mono (by omega))⟩
 have HKK:=Lib.hid hk
 obtain ⟨hOK,hth,hmk⟩:VOk U∧thereB U.accs cm.acc=true∧(marksOf U.mks).2=0:=by
  rcases hk with h2 | h3
  ·have:=ready_cash HDO.out HB.out h2;exact ⟨this.1,this.2.1,this.2.2.1⟩
  ·have:=ready_place HDO.out HB.out h3;exact ⟨this.2.1,this.2.2.1,this.2.2.2.2.2.2.1⟩
 obtain ⟨i,hi1,hi2,hi3,hi4⟩:=idx_there hOK.accs.sorted hth
 obtain ⟨a,hae⟩:∃ a,accOf U.accs cm.acc=a:=⟨_,rfl⟩
 rw [hae] at hi2 hi4
 obtain ⟨ms,em,hms⟩:∃ ms em,marksOf U.mks=(ms,em):=⟨_,_,rfl⟩
 obtain rfl:em=0:=by rw [hms] at hmk;exact hmk
 have HMS:=Lib.hid hms
 have HI:=Lib.hid hi1
 have HI2:=Lib.hid hi2
 have HAE:=Lib.hid hae
 have hi0:(0:Int) ≤ (i:Int):=by omega
 have hi5:(i:Int) < (U.accs.length:Int):=by omega
 have hi6:decide ((i:Int) < 0)=false:=decide_eq_false (by omega)
 have y0:W3.cell? ⟨W1.heap.size,0,none⟩=some (.slice A1 U.accs.length c1):=Y3.cell 0
 have HOK:=Lib.hid hOK
 have HI4:=Lib.hid hi4
 clear hk hOK hth hmk hi1 hi2 hae hms hi4
 rcases HKK.out with h2 | h3
 ·have n2:(cm.kind != 2)=false:=by simpa using h2
  have n3:(cm.kind == 3)=false:=by simp;omega
  have HSO:=Lib.hid (show soundOf a ms=(true,true,0) by have:=(ready_cash HDO.out HB.out h2).2.2.2;rw [HMS.out,HAE.out] at this;exact this)
  clear h2
  go_wp2_with fail
  refine (idx_ready1 cm.acc (w.heap.size + 1) A1 _ c1 U.accs W3.heap.size W3 HU3.out.accs (Nat.le_refl _) yc (C3.cell 1)).mono ?_
  rintro e W4 ⟨rfl,hb4⟩
  rw [HI.out]
  have hs4:=hb4.size
  have C4:=C3.below hb4 C3.lt
  have X4:=X3.below hb4 X3.lt
  have Y4:=Y3.below hb4 Y3.lt
  have y1:W4.cell? ⟨W1.heap.size,1,none⟩=some (.slice M1 U.mks.length k1):=Y4.cell 1
  have yw4:=Y4.lt
  clear y0 q0
  go_wp2_with fail
  refine (marks_ref M1 _ k1 U.mks W3.heap.size W4 HMS.out (HU3.out.mks.below hb4) (by omega)).mono ?_
  rintro e W5 ⟨Am,cmm,rfl,hown,hb5⟩
  have hs5:=hb5.size
  have HMR:=Lib.hid (Rd.of_own hown)
  have hb35:=hb4.trans (hb5.mono hs4)
  have HU5:=Lib.hid (HU3.out.below hb35)
  have hB5:=hB3.trans (hb35.mono (by omega))
  have HV5:=Lib.hid (HV.out.below hB5)
  have C5:=C4.below hb5 C4.lt
  have X5:=X4.below hb5 X4.lt
  have Y5:=Y4.below hb5 Y4.lt
  have q0:W5.cell? ⟨w.heap.size + 1,0,none⟩=some (.int .i64 cm.kind):=C5.cell 0
  have y0:W5.cell? ⟨W1.heap.size,0,none⟩=some (.slice A1 U.accs.length c1):=Y5.cell 0
  have yw5:=Y5.lt
  have yc5:=C5.lt
  obtain ⟨ba,oa,a',rfl,hba,ha',A2,c2,k0,k1',k2,k3,k4⟩:=acc_at HU5.out.accs hi3
  have haa:a'=a:=by have:=HI2.out;rw [ha'] at this;exact Option.some.inj this
  subst haa
  have HPO:=Lib.hid k3
  have hbaw:ba < W5.heap.size:=by omega
  clear hown hb4 hb5 y1 k3 ha' C3 C4 X3 X4 Y3 Y4 HE3 HV3
  go_wp2_with fail
  refine calls_name ?_
  intro W6 hW6
  have hB6:Below W5.heap.size W5 W6:=by rw [hW6];first | exact below_all _ _ | exact (below_all _ _).setCell (Nat.le_refl _) _
  have hs6:=hB6.size
  clear hW6
  refine (sound_ref a' A2 Am c2 ms.length cmm ms W3.heap.size W5.heap.size W6 HSO.out (HPO.out.below (hB6.mono (by omega))) (by omega) (HMR.out.below hB6) hs6).mono ?_
  rintro e W9 ⟨rfl,hb9⟩
  go_wp2_with fail
  go_ret
  exact ⟨rfl,hB5.trans ((hB6.trans (hb9.mono hs6)).mono (by omega))⟩
 ·have n2:(cm.kind != 2)=true:=by simp;omega
  have n3:(cm.kind != 3)=false:=by simpa using h3
  have n4:(cm.kind == 3)=true:=by simpa using h3
  have HRP:=Lib.hid (ready_place HDO.out HB.out h3)
  have HSD:=Lib.hid (place_side HDO.out HB.out h3)
  clear h3
  go_wp2_with fail
  refine (idx_ready1 cm.acc (w.heap.size + 1) A1 _ c1 U.accs W3.heap.size W3 HU3.out.accs (Nat.le_refl _) yc (C3.cell 1)).mono ?_
  rintro e W4 ⟨rfl,hb4⟩
  rw [HI.out]
  have hs4:=hb4.size
  have C4:=C3.below hb4 C3.lt
  have X4:=X3.below hb4 X3.lt
  have Y4:=Y3.below hb4 Y3.lt
  have y1:W4.cell? ⟨W1.heap.size,1,none⟩=some (.slice M1 U.mks.length k1):=Y4.cell 1
  have yw4:=Y4.lt
  clear y0 q0
  go_wp2_with fail
  refine (marks_ref M1 _ k1 U.mks W3.heap.size W4 HMS.out (HU3.out.mks.below hb4) (by omega)).mono ?_
  rintro e W5 ⟨Am,cmm,rfl,hown,hb5⟩
  have hs5:=hb5.size
  have HMR:=Lib.hid (Rd.of_own hown)
  have hb35:=hb4.trans (hb5.mono hs4)
  have HU5:=Lib.hid (HU3.out.below hb35)
  have hB5:=hB3.trans (hb35.mono (by omega))
  have HV5:=Lib.hid (HV.out.below hB5)
  have C5:=C4.below hb5 C4.lt
  have X5:=X4.below hb5 X4.lt
  have Y5:=Y4.below hb5 Y4.lt
  have q0:W5.cell? ⟨w.heap.size + 1,0,none⟩=some (.int .i64 cm.kind):=C5.cell 0
  have y0:W5.cell? ⟨W1.heap.size,0,none⟩=some (.slice A1 U.accs.length c1):=Y5.cell 0
  have yw5:=Y5.lt
  have yc5:=C5.lt
  obtain ⟨ba,oa,a',rfl,hba,ha',A2,c2,k0,k1',k2,k3,k4⟩:=acc_at HU5.out.accs hi3
  have haa:a'=a:=by have:=HI2.out;rw [ha'] at this;exact Option.some.inj this
  subst haa
  have HPO:=Lib.hid k3
  have hbaw:ba < W5.heap.size:=by omega
  clear hown hb4 hb5 y1 k3 ha' C3 C4 X3 X4 Y3 Y4 HE3 HV3
  obtain ⟨j,hj1,hj2,hj3,hj4⟩:=idx_there HRP.out.1.accs.sorted HRP.out.2.2.2.1
  obtain ⟨v0,hve⟩:∃ v0,accOf V.accs cm.acc=v0:=⟨_,rfl⟩
  rw [hve] at hj2
  have HJ:=Lib.hid hj1
  have HJ2:=Lib.hid hj2
  have HVE:=Lib.hid hve
  have hj0:(0:Int) ≤ (j:Int):=by omega
  have hj5:(j:Int) < (V.accs.length:Int):=by omega
  have hj6:decide ((j:Int) < 0)=false:=decide_eq_false (by omega)
  obtain ⟨mk,hmk⟩:∃ mk:Nat,cm.market=(mk:Int):=⟨cm.market.toNat,by have:=HRP.out.2.2.2.2.1;omega⟩
  have hmt:cm.market.toNat=mk:=by omega
  have HMT:=Lib.hid hmt
  have hmV:mk < V.mks.length:=by have:=HRP.out.2.2.2.2.1;omega
  have hmU:mk < U.mks.length:=by have:=HRP.out.2.2.2.2.2.1;omega
  have hm0:(0:Int) ≤ (mk:Int):=by omega
  have HMK:=Lib.hid hmk
  have x0:W5.cell? ⟨w.heap.size,0,none⟩=some (.slice A V.accs.length c):=X5.cell 0
  have xw:=X5.lt
  clear hj1 hj2 hve hj4 hmt hmk
  go_wp2_with fail
  refine calls_name ?_
  intro W6 hW6
  have hB6:Below W5.heap.size W5 W6:=by rw [hW6];first | exact below_all _ _ | exact (below_all _ _).setCell (Nat.le_refl _) _
  have Z6:Blk W6 W5.heap.size 37 #[.int .i64 a'.id,.int .i64 a'.bal,.slice A2 a'.pos.length c2]:=by rw [hW6];exact Blk.new W5 _ _
  have hs6:=hB6.size
  have C6:=C5.below hB6 C5.lt
  clear hW6 k0 k1' k2 q0 y0 x0
  refine (idx_ready2 cm.acc (w.heap.size + 1) A _ c V.accs w.heap.size W6 (HV5.out.accs.below (hB6.mono (by omega))) (by omega) C6.lt (C6.cell 1)).mono ?_
  rintro e W7 ⟨rfl,hb7⟩
  rw [HJ.out]
  have hs7:=hb7.size
  have hB57:=hB6.trans (hb7.mono hs6)
  have hs7':=hB57.size
  have C7:=C6.below hb7 C6.lt
  have Z7:=Z6.below hb7 Z6.lt
  have X7:=X5.below hB57 X5.lt
  have Y7:=Y5.below hB57 Y5.lt
  have HU7:=Lib.hid (HU5.out.below (hB57.mono (by omega)))
  have HV7:=Lib.hid (HV5.out.below (hB57.mono (by omega)))
  have HPO7:=Lib.hid (HPO.out.below (hB57.mono (by omega)))
  have r10:W7.cell? ⟨w.heap.size + 1,10,none⟩=some (.bool cm.reduce):=C7.cell 10
  have yc7:=C7.lt
  have hla:a'.pos.length=U.mks.length:=by have:=(accCheck_ok (HOK.out.accs.ok a' (List.mem_of_getElem? HI2.out))).2.2.1;omega
  obtain ⟨za,hza,hza1,hza2⟩:=vok_pos HOK.out HI2.out hmU
  have HZA:=Lib.hid hza
  clear hb7 hB6 C6 Z6 C5 X5 Y5 hza
  obtain ⟨br,hbr⟩:∃ br,cm.reduce=br:=⟨_,rfl⟩
  have HBR:=Lib.hid hbr
  rw [hbr] at r10
  clear hbr
  have q2:W7.cell? ⟨w.heap.size + 1,2,none⟩=some (.int .i64 (mk:Int)):=by rw [← HMK.out];exact C7.cell 2
  have yx7:=X7.lt
  have yw7:=Y7.lt
  have yz7:=Z7.lt
  rcases bool_cs' br with rfl | rfl
  ·obtain ⟨zv,hzv,hzv1,hzv2⟩:=vok_pos HRP.out.1 HJ2.out hmV
   have hred:=HRP.out.2.2.2.2.2.2.2.1 HBR.out
   rw [posOf_def,posOf_def,HVE.out,HAE.out,HMT.out,List.getD_eq_getElem?_getD,List.getD_eq_getElem?_getD,hzv,HZA.out] at hred
   simp only [Option.getD_some] at hred
   obtain ⟨g1,g2,g3⟩:=hred
   have hlv:v0.pos.length=V.mks.length:=by have:=(accCheck_ok (HRP.out.1.accs.ok v0 (List.mem_of_getElem? HJ2.out))).2.2.1;omega
   obtain ⟨bb,ob,v0',rfl,hbb,hv',A3,c3,p0,p1,p2,p3,p4⟩:=acc_at HV7.out.accs hj3
   have hvv:v0'=v0:=by have:=HJ2.out;rw [hv'] at this;exact Option.some.inj this
   subst hvv
   obtain ⟨b3,o3,rfl,hb3,zv',hzv',t0⟩:=p3.int (j:=mk) (by omega)
   rw [hzv] at hzv'
   obtain rfl:=Option.some.inj hzv'
   obtain ⟨b2,o2,rfl,hb2,za',hza',t1⟩:=HPO7.out.int (j:=mk) (by omega)
   rw [HZA.out] at hza'
   obtain rfl:=Option.some.inj hza'
   have x0:W7.cell? ⟨w.heap.size,0,none⟩=some (.slice (some ⟨bb,ob,none⟩) V.accs.length c):=X7.cell 0
   have w2:W7.cell? ⟨W5.heap.size,2,none⟩=some (.slice (some ⟨b2,o2,none⟩) a'.pos.length c2):=Z7.cell 2
   have w6:W7.cell? ⟨w.heap.size + 1,6,none⟩=some (.int .i64 cm.o.side):=C7.cell 6
   have l1:(mk:Int) < (v0'.pos.length:Int):=by omega
   have l2:(mk:Int) < (a'.pos.length:Int):=by omega
   have u1:bb < W7.heap.size:=by omega
   have u2:b3 < W7.heap.size:=by omega
   have u3:b2 < W7.heap.size:=by omega
   have hprod:-1000000 ≤ zv * za∧zv * za ≤ 1000000:=by
    have ha:za.natAbs ≤ 1000:=by omega
    have hb:zv.natAbs ≤ 1000:=by omega
    have hm:(zv * za).natAbs ≤ 1000 * 1000:=by rw [Int.natAbs_mul];exact Nat.mul_le_mul hb ha
    omega
   have hps:-1000 ≤ zv * cm.o.side∧zv * cm.o.side ≤ 1000:=by
    rcases HSD.out with e | e
    ·rw [e];omega
    ·rw [e];omega
   obtain ⟨hprod1,hprod2⟩:=hprod
   obtain ⟨hps1,hps2⟩:=hps
   have d1:decide (0 ≤ zv * za)=true:=decide_eq_true g1
   have d2:decide (zv * cm.o.side < 0)=true:=decide_eq_true g3
   have HG:=Lib.hid g2
   clear g1 g2 g3 hv' hzv hzv' hza' p3 HPO7 HPO
   go_wp2_with fail
   go_quiet (fail)
   refine exit_name ?_
   intro W8 hW8
   have hB8:Below W7.heap.size W7 W8:=by rw [hW8];exact below_drewN (Below.refl _ _) _
   have s6:W8.cell? ⟨w.heap.size + 1,6,none⟩=some (.int .i64 cm.o.side):=(C7.below hB8 C7.lt).cell 6
   have yc8:=(C7.below hB8 C7.lt).lt
   have hBF:=hB5.trans ((hB57.trans (hB8.mono (by omega))).mono (by omega))
   clear hW8 x0 w2 w6 t0 t1 p0 p1 p2 r10 q2
   rcases (show (za < -za∧zv < -zv∧-za ≤ -zv)∨(za < -za∧-zv ≤ zv∧-za ≤ zv)∨(-za ≤ za∧zv < -zv∧za ≤ -zv)∨(-za ≤ za∧-zv ≤ zv∧za ≤ zv) by have:=HG.out;omega) with ⟨m1,m2,m3⟩ | ⟨m1,m2,m3⟩ | ⟨m1,m2,m3⟩ | ⟨m1,m2,m3⟩
   ·skip
    have n1:(za < -za)=True:=eq_true m1
    have n2':(zv < -zv)=True:=eq_true m2
    have n5:decide (-za ≤ -zv)=true:=decide_eq_true m3
    go_wp2_with fail
    go_ret
    exact ⟨rfl,hBF⟩
   ·skip
    have n1:(za < -za)=True:=eq_true m1
    have n2':(zv < -zv)=False:=eq_false (by omega)
    have n5:decide (-za ≤ zv)=true:=decide_eq_true m3
    go_wp2_with fail
    go_ret
    exact ⟨rfl,hBF⟩
   ·skip
    have n1:(za < -za)=False:=eq_false (by omega)
    have n2':(zv < -zv)=True:=eq_true m2
    have n5:decide (za ≤ -zv)=true:=decide_eq_true m3
    go_wp2_with fail
    go_ret
    exact ⟨rfl,hBF⟩
   ·skip
    have n1:(za < -za)=False:=eq_false (by omega)
    have n2':(zv < -zv)=False:=eq_false (by omega)
    have n5:decide (za ≤ zv)=true:=decide_eq_true m3
    go_wp2_with fail
    go_ret
    exact ⟨rfl,hBF⟩
  ·obtain ⟨m,hm⟩:∃ m,U.mks[mk]?=some m:=⟨_,List.getElem?_eq_getElem hmU⟩
   obtain ⟨fo,fe,hfo⟩:∃ fo fe,findOf m.book V.next=(fo,fe):=⟨_,_,rfl⟩
   have HFO:=Lib.hid hfo
   obtain ⟨t,hor,hso⟩:=HRP.out.2.2.2.2.2.2.2.2 HBR.out
   rw [HMS.out] at hso
   rw [HMT.out,HAE.out,show mkAt U mk=m from getD_some hm,hfo] at hor
   have HOR:=Lib.hid hor
   have HSO:=Lib.hid (show soundOf t ms=(true,true,0) from hso)
   obtain ⟨bm,om,m',hMe,hbm,hm',A4,c4,A5,c5,q0,q1,-,-,hbk,hl1,hl2⟩:=mk_at HU7.out.mks hmU
   have hmm:m'=m:=by rw [hm] at hm';exact (Option.some.inj hm').symm
   subst hmm
   subst hMe
   have HBK:=Lib.hid (bkr_up hbk (show W3.heap.size ≤ W7.heap.size by omega))
   have HLA:=Lib.hid hla
   clear hla
   have hbmw:bm < W7.heap.size:=by omega
   have hm1:(mk:Int) < (U.mks.length:Int):=by omega
   have h77:Below W7.heap.size W7 W7:=Below.refl _ _
   have KS:Hid (∀ W,Below W7.heap.size W7 W→Below W7.heap.size W7 W∧W.cell? ⟨W1.heap.size,1,none⟩=some (.slice (some ⟨bm,om,none⟩) U.mks.length k1)∧W.cell? ⟨w.heap.size + 1,2,none⟩=some (.int .i64 (mk:Int))∧W.cell? ⟨bm,om + mk * 4,none⟩=some (.slice A4 m'.book.bids.length c4)∧W.cell? ⟨bm,om + mk * 4 + 1,none⟩=some (.slice A5 m'.book.asks.length c5)∧W.cell? ⟨w.heap.size,4,none⟩=some (.int .i64 V.next)):=by
    intro W hW
    exact ⟨hW,(Y7.below hW Y7.lt).cell 1,(hW.cell (p:=⟨w.heap.size + 1,2,none⟩) yc7).trans q2,(hW.cell (p:=⟨bm,_,none⟩) hbmw).trans q0,(hW.cell (p:=⟨bm,_,none⟩) hbmw).trans q1,(X7.below hW X7.lt).cell 4⟩
   clear hor hso hbk hm hm' hfo q0 q1
   have KZ:Hid (∀ Wn,Below ((W7.alloc (.cells #[.int .i64 0,.int .i64 0,.int .i64 0,.int .i64 0,.int .i64 0] 71)).drew).heap.size ((W7.alloc (.cells #[.int .i64 0,.int .i64 0,.int .i64 0,.int .i64 0,.int .i64 0] 71)).drew) Wn→Blk Wn W7.heap.size 71 #[.int .i64 0,.int .i64 0,.int .i64 0,.int .i64 0,.int .i64 0]):=fun Wn hb=>(Blk.drewN (Blk.new W7 _ _) 1).below hb (by simp)
   have KT:Hid (∀ W v0 v1 v2 v3 v4,Below W7.heap.size W7 W→Below W7.heap.size W7 (((((W.setCell ⟨W7.heap.size,0,none⟩ v0).setCell ⟨W7.heap.size,1,none⟩ v1).setCell ⟨W7.heap.size,2,none⟩ v2).setCell ⟨W7.heap.size,3,none⟩ v3).setCell ⟨W7.heap.size,4,none⟩ v4)∧(((((W.setCell ⟨W7.heap.size,0,none⟩ v0).setCell ⟨W7.heap.size,1,none⟩ v1).setCell ⟨W7.heap.size,2,none⟩ v2).setCell ⟨W7.heap.size,3,none⟩ v3).setCell ⟨W7.heap.size,4,none⟩ v4).cell? ⟨W1.heap.size,1,none⟩=some (.slice (some ⟨bm,om,none⟩) U.mks.length k1)∧(((((W.setCell ⟨W7.heap.size,0,none⟩ v0).setCell ⟨W7.heap.size,1,none⟩ v1).setCell ⟨W7.heap.size,2,none⟩ v2).setCell ⟨W7.heap.size,3,none⟩ v3).setCell ⟨W7.heap.size,4,none⟩ v4).cell? ⟨w.heap.size + 1,2,none⟩=some (.int .i64 (mk:Int))∧(((((W.setCell ⟨W7.heap.size,0,none⟩ v0).setCell ⟨W7.heap.size,1,none⟩ v1).setCell ⟨W7.heap.size,2,none⟩ v2).setCell ⟨W7.heap.size,3,none⟩ v3).setCell ⟨W7.heap.size,4,none⟩ v4).cell? ⟨bm,om + mk * 4,none⟩=some (.slice A4 m'.book.bids.length c4)∧(((((W.setCell ⟨W7.heap.size,0,none⟩ v0).setCell ⟨W7.heap.size,1,none⟩ v1).setCell ⟨W7.heap.size,2,none⟩ v2).setCell ⟨W7.heap.size,3,none⟩ v3).setCell ⟨W7.heap.size,4,none⟩ v4).cell? ⟨bm,om + mk * 4 + 1,none⟩=some (.slice A5 m'.book.asks.length c5)∧(((((W.setCell ⟨W7.heap.size,0,none⟩ v0).setCell ⟨W7.heap.size,1,none⟩ v1).setCell ⟨W7.heap.size,2,none⟩ v2).setCell ⟨W7.heap.size,3,none⟩ v3).setCell ⟨W7.heap.size,4,none⟩ v4).cell? ⟨w.heap.size,4,none⟩=some (.int .i64 V.next)):=fun W v0 v1 v2 v3 v4 hW=>KS.out _ (((((hW.setCell (Nat.le_refl _) _).setCell (Nat.le_refl _) _).setCell (Nat.le_refl _) _).setCell (Nat.le_refl _) _).setCell (Nat.le_refl _) _)
   go_upto_region 16 with (fail)
   go_cut [14,15] (fun vp ve wx=>∃ gO,vp=.pointer (some ⟨gO,0,none⟩)∧ve=.int .i64 fe∧Below W7.heap.size W7 wx∧Hid (Blk wx gO 71 #[.int .i64 fo.id,.int .i64 fo.acc,.int .i64 fo.side,.int .i64 fo.price,.int .i64 fo.qty]))
   case first =>
    go_region_held3 (fun W=>Below W7.heap.size W7 W∧W.cell? ⟨W1.heap.size,1,none⟩=some (.slice (some ⟨bm,om,none⟩) U.mks.length k1)∧W.cell? ⟨w.heap.size + 1,2,none⟩=some (.int .i64 (mk:Int))∧W.cell? ⟨bm,om + mk * 4,none⟩=some (.slice A4 m'.book.bids.length c4)∧W.cell? ⟨bm,om + mk * 4 + 1,none⟩=some (.slice A5 m'.book.asks.length c5)∧W.cell? ⟨w.heap.size,4,none⟩=some (.int .i64 V.next))
     (with_reducible (first | exact KS.out _ (by assumption) | exact KT.out _ _ _ _ _ _ (by assumption) | exact KS.out _ (dk_drew (by assumption)) | exact KS.out _ (Below.alloc (by assumption) (Below.size (by assumption)) _) | exact KS.out _ (dk_drew (Below.alloc (by assumption) (Below.size (by assumption)) _))))
     ((go_at_call 69;go_split_ands;(with_reducible refine (find_ref m'.book V.next A4 A5 c4 c5 W7.heap.size _ HFO.out (HBK.out.below (by assumption)) (Below.size (by assumption)) hl1 hl2).mono ?_);rintro e W8 ⟨rfl,hb8⟩;have hB8:=dk_next (w0:=W7) hb8 (by assumption);have hs8:=hB8.size;try (with_reducible have z1:=KZ.out _ hb8);try have z2:=z1.lt;try obtain ⟨⟨z3,z4,z5,z6,z7⟩,z8,z9,z10,z11,z12⟩:=z1.c5))
    all_goals
     refine exit_name ?_
     intro W9 hW9
     have hB9:Below W7.heap.size W7 W9:=by rw [hW9];first | (have zz:=z1.lt;exact ((((hB8.setCell (by dsimp only;omega) _).setCell (by dsimp only;omega) _).setCell (by dsimp only;omega) _).setCell (by dsimp only;omega) _).setCell (by dsimp only;omega) _) | exact hB8.alloc hs8 _
     first
      | have HO9:Hid (Blk W9 W7.heap.size 71 #[.int .i64 fo.id,.int .i64 fo.acc,.int .i64 fo.side,.int .i64 fo.price,.int .i64 fo.qty]):=by have zz:=z1.lt;rw [hW9];exact ((((z1.set_ 0 _).set_ 1 _).set_ 2 _).set_ 3 _).set_ 4 _
      | have HO9:Hid (Blk W9 W8.heap.size 71 #[.int .i64 fo.id,.int .i64 fo.acc,.int .i64 fo.side,.int .i64 fo.price,.int .i64 fo.qty]):=by rw [hW9];exact Blk.new W8 _ _
     go_wp2_with fail
     go_meet
     exact ⟨_,rfl,rfl,hB9,HO9⟩
   case rest=>as_aux_lemma =>
    obtain ⟨gO,rfl,rfl,hB9,HO9⟩:=hcut
    obtain ⟨W9,rfl⟩:∃ W9,W9=wc:=⟨wc,rfl⟩
    have hs9:=hB9.size
    have Z9:=Z7.below hB9 Z7.lt
    have O9:=HO9.out
    have C92:W9.cell? ⟨w.heap.size + 1,2,none⟩=some (.int .i64 (mk:Int)):=(hB9.cell (p:=⟨w.heap.size + 1,2,none⟩) yc7).trans q2
    have HPO9:=Lib.hid (HPO7.out.below (hB9.mono (by omega)))
    have hB59:=hB57.trans (hB9.mono hs7')
    have yc9:w.heap.size + 1 < W9.heap.size:=by omega
    have yO9:=O9.lt
    have yz9:=Z9.lt
    obtain ⟨⟨s0,s1,s2⟩,t0,t1,t2⟩:=Z9.c3
    obtain ⟨⟨u0,u1,u2,u3,u4⟩,-⟩:=O9.c5
    clear KS KT h77 r10 q2
    rcases HOR.out with ⟨hf,htr⟩ | ⟨hf,hta⟩
    ·subst hf
     obtain ⟨hbo,hfm⟩:=find_mem (b:=m'.book) (id:=V.next) (by rw [HFO.out])
     rw [HFO.out] at hfm
     have hord:=ordErr_ok.1 (book_odOk hbo fo hfm)
     have hsq:-1000 ≤ fo.side * fo.qty∧fo.side * fo.qty ≤ 1000:=by
      have:=hord.2.2.2.2
      rcases hord.2.2.1 with e | e
      ·rw [e];omega
      ·rw [e];omega
     obtain ⟨hsq1,hsq2⟩:=hsq
     have HTR:=Lib.hid htr
     clear htr hord hbo hfm
     go_wp2_with fail
     refine (trade_ref a' A2 c2 mk (fo.side * fo.qty) fo.price 0 W3.heap.size W9 HTR.out HPO9.out (by omega)).mono ?_
     rintro e W10 ⟨A8,c8,rfl,hown8,hb10⟩
     have hs10:=hb10.size
     have Z10:=Z9.below hb10 Z9.lt
     have HR10:=Lib.hid hown8
     have hB510:=hB59.trans (hb10.mono (by omega))
     clear s0 s1 s2 t0 t1 t2 hown8 hb10
     obtain ⟨⟨s0,s1,s2⟩,t0,t1,t2⟩:=Z10.c3
     have yz10:=Z10.lt
     go_wp2_with fail
     refine calls_name ?_
     intro W11 hW11
     have hB11:Below W5.heap.size W5 W11:=by rw [hW11];exact ((hB510.setCell (Nat.le_refl _) _).setCell (Nat.le_refl _) _).setCell (Nat.le_refl _) _
     have HR11:=Lib.hid (show W11.ownsRow W9.heap.size 3 1 (.slice A8 t.pos.length c8) t.pos.length (ints t.pos) by rw [hW11];exact ownsRow_setCell_below (ownsRow_setCell_below (ownsRow_setCell_below HR10.out yz9 _) yz9 _) yz9 _)
     have hs11:=hB11.size
     clear hW11 s0 s1 s2 t0 t1 t2
     refine (sound_ref t A8 Am c8 ms.length cmm ms W11.heap.size W5.heap.size W11 HSO.out (Rd.of_own HR11.out) (Nat.le_refl _) (HMR.out.below hB11) hs11).mono ?_
     rintro e W9 ⟨rfl,hb9⟩
     go_wp2_with fail
     go_ret
     exact ⟨rfl,hB5.trans ((hB11.trans (hb9.mono hs11)).mono (by omega))⟩
    ·subst hf
     subst hta
     have hs59:=hB59.size
     go_wp2_with fail
     refine (sound_ref t A2 Am c2 ms.length cmm ms W3.heap.size W5.heap.size W9 HSO.out HPO9.out (by omega) (HMR.out.below hB59) hs59).mono ?_
     rintro e W9 ⟨rfl,hb9⟩
     go_wp2_with fail
     go_ret
     exact ⟨rfl,hB5.trans ((hB59.trans (hb9.mono hs59)).mono (by omega))⟩
end
section
open Go.ChangeShapes Go.WideShapes Go.ChangeAt Go.RowKit
set_option maxRecDepth 100000 in
theorem venueReady_lifted (os:Os) (started:os.Started) (H:Type) (enc:TypeId × Value→H) :
  ReturnsInHanded {} Try.checked os 22 .any (Rows.venueReadySpec.pre6 enc Try.prog Try.f22 Rows.venueReadyRow.domain false) (Rows.venueReadySpec.post enc Try.prog Try.f22 false true false false):=by
 refine returnsInHanded_of_change_sized (C:=Try.checked) row_own started (by kernel_rfl) Try.func22
  (ChangeSpec.witness6 (enc:=enc) (C:=Try.checked) false ⟨#[],#[.agg #[.slice none 0 0,.slice none 0 0,.int .i64 0,.int .i64 0,.int .i64 0,.int .i64 0,.int .i64 0],.agg #[.int .i64 0,.int .i64 0,.int .i64 0,.int .i64 0,.int .i64 0,.int .i64 0,.int .i64 0,.int .i64 0,.int .i64 0,.int .i64 0,.bool false]],[]⟩ 8 (by kernel_rfl) (by kernel_rfl) (by kernel_rfl) (by kernel_rfl)) ?_
 intro W base args ds gs before hval0 hW hcnd hsz _
 have hval:∀ (j:Nat) t v,Try.f22.params[j]?=some t→args[j]?=some v→Value.okWide Try.prog W .any base t v:=hval0
 have hW':=hW
 obtain ⟨p,q,hA0,hV,rfl,hfz,hnd⟩:=hW
 have hA:DataW.TrodAll enc Try.prog W 0 (fun _=>true) true Try.f22.params.toList args.toList ds p:=hA0
 obtain ⟨rfl,rfl⟩:=trodVars_none hV
 have hkeep:=fun W' (bel:Below W.heap.size W W')=>trodAll_below row_laidOut bel (by kernel_rfl) hA
 rw [Try.params22] at hA hval
 obtain ⟨v0,vs0,d0,ds0,p0,q0,hargs,rfl,rfl,h0,tl0⟩:=trodAll_cons hA
 obtain ⟨v1,vs1,d1,ds1,p1,q1,rfl,rfl,rfl,h1,tl1⟩:=trodAll_cons tl0
 obtain ⟨rfl,rfl,rfl⟩:=trodAll_nil tl1
 obtain rfl:args = #[v0,v1]:=by cases args;simp_all
 clear hargs
 have hs0:(DataW.weightsEach Try.prog (Try.f22.params.toList ++ Rows.venueReadySpec.plain.varTypes Try.prog) ([d0,d1] ++ [])).all (· ≤ reachBytes)=true:=hsz
 rw [show Rows.venueReadySpec.plain.varTypes Try.prog = [] from rfl,List.append_nil,List.append_nil] at hs0
 have hsz':(DataW.weightsEach Try.prog Try.f22.params.toList [d0,d1]).all (· ≤ reachBytes)=true:=hs0
 rw [Try.params22] at hsz'
 obtain ⟨y0,t0⟩:=weights_head hsz'
 obtain ⟨y1,t1⟩:=weights_head t0
 obtain ⟨V0,A0,c0,M0,k0,rfl,r0,s0,i0⟩:=opens_venue (hval 0 111 v0 rfl rfl) h0 y0
 obtain ⟨C1,rfl,i1⟩:=opens_command (hval 1 113 v1 rfl rfl) h1
 refine (venueReady_walk V0 A0 c0 M0 k0 C1 W r0).mono fun e W' ⟨he,bel⟩=>?_
 subst he
 exact ⟨_,rfl,_,_,_,[],_,[],hW',trodAll_mk1 (shut_bool Try.underlying4 _),hkeep W' bel,rfl,bel.frame _,fun h=>by cases h⟩
set_option maxHeartbeats 4000000 in
theorem venueReady_closed:joinedFacts Try.prog 22 Try.f22 Rows.venueReadySpec Rows.venueReadyRow=true :=
 joined_mk _ _ _ _ _ (by as_aux_lemma=>kernel_rfl) closed_laid closed_mapsRowed (by as_aux_lemma=>kernel_rfl) (by as_aux_lemma=>kernel_rfl) (by as_aux_lemma=>kernel_rfl) closed_stops (by as_aux_lemma=>kernel_rfl) closed_stopKnobs (by as_aux_lemma=>kernel_rfl) (by as_aux_lemma=>kernel_rfl) (by as_aux_lemma=>kernel_rfl) (by as_aux_lemma=>kernel_rfl) (by as_aux_lemma=>kernel_rfl) (by as_aux_lemma=>kernel_rfl) (by as_aux_lemma=>kernel_rfl) (by as_aux_lemma=>kernel_rfl) (by as_aux_lemma=>kernel_rfl) (by as_aux_lemma=>kernel_rfl) (by as_aux_lemma=>kernel_rfl) (by as_aux_lemma=>kernel_rfl) (by as_aux_lemma=>kernel_rfl) closed_plainKeys (by as_aux_lemma=>kernel_rfl) closed_stopsHeard closed_mayEnter closed_lifted closed_make (by as_aux_lemma=>kernel_rfl) (by as_aux_lemma=>kernel_rfl) (by as_aux_lemma=>kernel_rfl) (by as_aux_lemma=>kernel_rfl)
set_option maxHeartbeats 4000000 in
theorem venueReady_over:Rows.venueReadyRow.holds Try.pinned (OpenSpec.ofChange Rows.venueReadySpec) :=
 OpenClaim.holds_of_wide 22 Try.f22 rfl rfl rfl rfl rfl rfl rfl ⟨rfl,rfl,rfl,rfl,rfl⟩ rfl rfl rfl rfl rfl (by as_aux_lemma=>kernel_rfl) Try.func22 venueReady_closed
  (of_decide_eq_true (by as_aux_lemma=>kernel_rfl)) (by unfold Func.isWrapper;first | (rw [if_pos (by decide +kernel)];as_aux_lemma=>kernel_rfl) | (rw [if_neg (by decide +kernel)];exact ⟨rfl,rfl⟩))
  (fun os started H enc _=>venueReady_lifted os started H enc)
theorem venueReady_proved:Rows.VenueReadySaid:=venueReady_over
#print axioms venueReady_proved
end
end Go.Proofs.Ytockodmbhnlheaa
