/-
  Contracts of the program's functions, and plain facts, that the laws VenueKeeps, VenueOthers, VenueCancels, VenueCash, VenueReady rest on (joined texts): DOrderR, Pays, CloneA, Settle, SettleO, DMarket.
-/
import Derived.Test.YtockodmbhnlheaaM14
import Derived.Test.YtockodmbhnlheaaM06
import Derived.Test.YtockodmbhnlheaaM01
import Derived.Test.YtockodmbhnlheaaProg
import Derived.Maps.AppendAt
import Derived.Laws.AppendOwnNone
import Derived.OwnWalk
import Derived.Test.YtockodmbhnlheaaM07
import Derived.Test.YtockodmbhnlheaaM12
import Derived.Test.YtockodmbhnlheaaM05
import Derived.Test.YtockodmbhnlheaaM03
import Derived.Deep.RegionHeld3
import Derived.Test.YtockodmbhnlheaaM02
import Derived.Lib.AppendZeros
import Derived.Test.YtockodmbhnlheaaM09
import Derived.Test.YtockodmbhnlheaaM10
import Derived.Test.YtockodmbhnlheaaM11
import Derived.Test.YtockodmbhnlheaaM08
import Derived.Test.YtockodmbhnlheaaM13
import Derived.Deep.RegionLaw
import Derived.Test.YtockodmbhnlheaaM04
import Derived.WalkKit
import Derived.WalkSpells
import Derived.WalkLawsBesides
import Derived.Lib.Hide
import Derived.Laws.CopyOwn
import Derived.Lib.AppendZerosOnto
import Derived.Lib.Overlaps
import Derived.Laws.Externs
import Derived.Maps.Own
import Derived.Maps.OwnOps
import Derived.Maps.Views
import Derived.Deep.QuietTactic
import Derived.BigQuiet
import Derived.Deep.Draws
import Derived.IntWalk
import Derived.Deep.DeepCutAuto
import Derived.RegionTactic
import Derived.ChangeAlike
namespace Go.Proofs.Ytockodmbhnlheaa
section
open Go.RowKit
set_option maxHeartbeats 8000000 in
set_option maxRecDepth 100000 in
theorem order_reduce (base D:Nat) (d:Dk) (A:Option Addr) (c:Nat) (M:Option Addr) (k:Nat) (vE:Value) (xs ys:List Value) (cm:Cm) (w:World) (h:Desk w base D false d A c M k vE xs ys) (hb:base ≤ w.heap.size) (hv:VOk d.v) (hl:d.ev.length ≤ 700000) (hr:cm.reduce=true) :
  Calls Try.prog 173 #[.pointer (some ⟨D,0,none⟩),.agg #[.int .i64 cm.kind,.int .i64 cm.acc,.int .i64 cm.market,.int .i64 cm.n,.int .i64 cm.o.id,.int .i64 cm.o.acc,.int .i64 cm.o.side,.int .i64 cm.o.price,.int .i64 cm.o.qty,.int .i64 cm.how,.bool cm.reduce]] w (RetDk w base D false A c M k [174,124] (D :: (ab A ++ ab M)) (orderE cm d)):=by
 have HD:=Lib.hid h
 have HV:=Lib.hid hv
 have hDl:=h.lt
 obtain ⟨hv1,hv2⟩:=hv.len
 have hal:=aok_len hv.accs
 have hnx:=hv.nums.next
 have HE:=Lib.hid (order_eq (c:=cm) (d:=d) rfl)
 have HRD:=Lib.hid hr
 clear h hv
 rw [hr]
 clear hr
 go_enter Try.func173,Try.ntmps173
 go_wp2_with fail
 refine wp_name ?_
 intro W1 hW1
 have hB1:Below w.heap.size w W1:=by rw [hW1];exact ((Below.refl _ _).alloc (Nat.le_refl _) _).alloc (by simp) _
 have X1:Blk W1 w.heap.size 113 #[.int .i64 cm.kind,.int .i64 cm.acc,.int .i64 cm.market,.int .i64 cm.n,.int .i64 cm.o.id,.int .i64 cm.o.acc,.int .i64 cm.o.side,.int .i64 cm.o.price,.int .i64 cm.o.qty,.int .i64 cm.how,.bool true]:=by rw [hW1];exact (Blk.new w _ _).alloc _
 obtain ⟨bo,hbo⟩:∃ bo,bo=w.heap.size + 1:=⟨_,rfl⟩
 have O1:Blk W1 bo 71 #[.int .i64 cm.o.id,.int .i64 cm.o.acc,.int .i64 cm.o.side,.int .i64 cm.o.price,.int .i64 cm.o.qty]:=by rw [hW1];exact Blk.new_at _ _ _ _ (by simp [hbo])
 have hs1:=hB1.size
 have HD1:=Lib.hid (HD.out.below hB1)
 rw [← hbo]
 have hbow:w.heap.size < bo:=by omega
 clear hW1 hbo
 obtain ⟨⟨-,-,-,-,k4,-,-,-⟩,-⟩:=HD1.out.blk.c8
 have x1:W1.cell? ⟨w.heap.size,1,none⟩=some (.int .i64 cm.acc):=X1.cell 1
 obtain ⟨⟨p0,p1,-,-,-⟩,f0,f1,-⟩:=O1.c5
 have y1:=X1.lt
 have y2:=O1.lt
 have y3:D < W1.heap.size:=HD1.out.lt
 go_wp2_with fail
 go_region
 refine exit_name ?_
 intro W2 hW2
 have hB2:Below w.heap.size w W2:=by rw [hW2];exact below_drewN ((hB1.setCell (Nat.le_of_lt hbow) _).setCell (Nat.le_of_lt hbow) _) 1
 have hF2:Fr [] [bo] W1 W2:=by rw [hW2];exact (((Fr.refl _ _ _).set O1 (.inr (by simp)) _ _).set (O1.set_ _ _) (.inr (by simp)) _ _).drewN 1
 have O2:Blk W2 bo 71 #[.int .i64 d.v.next,.int .i64 cm.acc,.int .i64 cm.o.side,.int .i64 cm.o.price,.int .i64 cm.o.qty]:=by rw [hW2];exact Blk.drewN ((O1.set_ 0 _).set_ 1 _) 1
 have X2:=X1.fr hF2 (by simp) (by simp;omega)
 have hs2:=hF2.size
 clear hW2 hF2 O1 X1 hB1 k4 x1 p0 p1 f0 f1
 obtain ⟨eo,heo⟩:∃ eo,ordErr ⟨d.v.next,cm.acc,cm.o.side,cm.o.price,cm.o.qty⟩=eo:=⟨_,rfl⟩
 have HEO:=Lib.hid heo
 clear heo
 obtain ⟨⟨p0,p1,p2,p3,p4⟩,-⟩:=O2.c5
 replace y1:=X2.lt
 replace y2:=O2.lt
 go_wp2_with fail
 refine (ordErr_ref ⟨d.v.next,cm.acc,cm.o.side,cm.o.price,cm.o.qty⟩ W2 HEO.out).mono ?_
 rintro e W3 ⟨rfl,hb3⟩
 have hB3:=hB2.trans (hb3.mono (by omega))
 have X3:=X2.below hb3 y1
 have O3:=O2.below hb3 y2
 have HD3:=Lib.hid (HD.out.below hB3)
 have hs3:=hb3.size
 clear hb3 hB2 X2 O2 p0 p1 p2 p3 p4
 by_cases he:eo=0
 rotate_left
 ·have he':(eo != 0)=true:=by simpa using he
  have HEE:=Lib.hid (show orderE cm d=.error eo from HE.out.trans (by rw [show ordErr (ordOf cm d.v)=eo from HEO.out];exact if_pos he))
  have HN:=Lib.hid he
  clear he
  go_wp2_with fail
  go_ret
  exact retDk_err HEE.out HN.out (hB3.mono hb)
 subst he
 have HE1:=Lib.hid (HE.out.trans (if_neg (by rw [show ordErr (ordOf cm d.v)=0 from HEO.out];simp)))
 have HOK:=Lib.hid (ordErr_ok.1 HEO.out)
 have x10:W3.cell? ⟨w.heap.size,10,none⟩=some (.bool true):=X3.cell 10
 have x9:W3.cell? ⟨w.heap.size,9,none⟩=some (.int .i64 cm.how):=X3.cell 9
 replace y1:=X3.lt
 replace y2:=O3.lt
 by_cases hw2:cm.how=2
 rotate_left
 ·have hw2':(cm.how != 2)=true:=by simpa using hw2
  have HEE:=Lib.hid (HE1.out.trans (if_pos ⟨HRD.out,hw2⟩))
  clear hw2
  go_wp2_with fail
  go_ret
  exact retDk_err HEE.out (by omega) (hB3.mono hb)
 have hw2':(cm.how != 2)=false:=by simpa using hw2
 have HE2:=Lib.hid (HE1.out.trans (if_neg (fun h=>h.2 hw2)))
 clear hw2
 go_wp2_with fail
 obtain ⟨⟨k0,k1,k2,k3,k4,k5,k6,-⟩,-⟩:=HD3.out.blk.c8
 have x1:W3.cell? ⟨w.heap.size,1,none⟩=some (.int .i64 cm.acc):=X3.cell 1
 replace y3:D < W3.heap.size:=HD3.out.lt
 have h00:Below W3.heap.size W3 W3:=Below.refl _ _
 have KS:Hid (∀ W,Below W3.heap.size W3 W→Below W3.heap.size W3 W∧W.cell? ⟨w.heap.size,1,none⟩=some (.int .i64 cm.acc)∧W.cell? ⟨D,0,none⟩=some (.slice A d.v.accs.length c)∧W.cell? ⟨D,1,none⟩=some (.slice M d.v.mks.length k) ∧
   W.cell? ⟨D,2,none⟩=some (.int .i64 d.v.ins)∧W.cell? ⟨D,3,none⟩=some (.int .i64 d.v.resid)∧W.cell? ⟨D,4,none⟩=some (.int .i64 d.v.next)∧W.cell? ⟨D,5,none⟩=some (.int .i64 d.v.inn)∧W.cell? ⟨D,6,none⟩=some (.int .i64 d.v.out)):=by
  intro W hW
  obtain ⟨⟨k0,k1,k2,k3,k4,k5,k6,k7⟩,-⟩:=(HD3.out.below hW).blk.c8
  exact ⟨hW,(X3.below hW X3.lt).cell 1,k0,k1,k2,k3,k4,k5,k6⟩
 clear k0 k1 k2 k3 k4 k5 k6 x1 x10 x9 hw2'
 have HID:=Lib.hid (show 0 ≤ cm.acc∧cm.acc ≤ 7 from HOK.out.2.1)
 rcases (bool_cs' (thereB d.v.accs cm.acc)).symm with hth | hth
 ·have HTH:=Lib.hid hth
  have HEE:=Lib.hid (HE2.out.trans (if_pos (.inl hth)))
  clear hth
  go_region_held3 (fun W=>Below W3.heap.size W3 W∧W.cell? ⟨w.heap.size,1,none⟩=some (.int .i64 cm.acc)∧W.cell? ⟨D,0,none⟩=some (.slice A d.v.accs.length c)∧W.cell? ⟨D,1,none⟩=some (.slice M d.v.mks.length k) ∧
    W.cell? ⟨D,2,none⟩=some (.int .i64 d.v.ins)∧W.cell? ⟨D,3,none⟩=some (.int .i64 d.v.resid)∧W.cell? ⟨D,4,none⟩=some (.int .i64 d.v.next)∧W.cell? ⟨D,5,none⟩=some (.int .i64 d.v.inn)∧W.cell? ⟨D,6,none⟩=some (.int .i64 d.v.out))
   (first | exact KS.out _ (by assumption) | exact KS.out _ (dk_drew (by assumption)))
   ((go_at_call 177;go_split_ands;(with_reducible refine (place_any d.v A M c k cm.acc _ _ (HD3.out.below (by first | assumption | exact dk_drew (by assumption))).accs.read (Nat.le_refl _) HV.out.accs.sorted (aok_ids HV.out.accs) HID.out hal).mono ?_);rintro e W4 ⟨he,hb4⟩;rw [HTH.out] at he;subst he;have hB4:=dk_next (w0:=W3) hb4 (by first | assumption | exact dk_drew (by assumption))))
  refine exit_name ?_
  rintro W hW
  obtain rfl:W4=W:=hW.symm
  clear hb4 hW KS h00
  have HD4:=Lib.hid (HD3.out.below hB4)
  have hL4:=hB3.trans (hB4.mono (by omega))
  have X4:=X3.below hB4 X3.lt
  have O4:=O3.below hB4 O3.lt
  have hs4:=hB4.size
  clear hB4
  go_wp2_with fail
  go_quiet (fail)
  go_wp2_with fail
  go_ret
  exact retDk_err HEE.out (by omega) ((below_drewN hL4 _).mono hb)
 have HTH:=Lib.hid hth
 obtain ⟨a,hk,hid⟩:=place_there HV.out.accs.sorted hth
 have HK:=Lib.hid hk
 have HTN:=Lib.hid (show ¬ thereB d.v.accs cm.acc=false by rw [hth];simp)
 clear hth hid hk
 go_region_held3 (fun W=>Below W3.heap.size W3 W∧W.cell? ⟨w.heap.size,1,none⟩=some (.int .i64 cm.acc)∧W.cell? ⟨D,0,none⟩=some (.slice A d.v.accs.length c)∧W.cell? ⟨D,1,none⟩=some (.slice M d.v.mks.length k) ∧
   W.cell? ⟨D,2,none⟩=some (.int .i64 d.v.ins)∧W.cell? ⟨D,3,none⟩=some (.int .i64 d.v.resid)∧W.cell? ⟨D,4,none⟩=some (.int .i64 d.v.next)∧W.cell? ⟨D,5,none⟩=some (.int .i64 d.v.inn)∧W.cell? ⟨D,6,none⟩=some (.int .i64 d.v.out))
  (first | exact KS.out _ (by assumption) | exact KS.out _ (dk_drew (by assumption)))
  ((go_at_call 177;go_split_ands;(with_reducible refine (place_any d.v A M c k cm.acc _ _ (HD3.out.below (by first | assumption | exact dk_drew (by assumption))).accs.read (Nat.le_refl _) HV.out.accs.sorted (aok_ids HV.out.accs) HID.out hal).mono ?_);rintro e W4 ⟨he,hb4⟩;rw [HTH.out] at he;subst he;have hB4:=dk_next (w0:=W3) hb4 (by first | assumption | exact dk_drew (by assumption))))
 refine exit_name ?_
 rintro W hW
 obtain rfl:W4=W:=hW.symm
 clear hb4 hW KS h00
 have HD4:=Lib.hid (HD3.out.below hB4)
 have hL4:=hB3.trans (hB4.mono (by omega))
 have X4:=X3.below hB4 X3.lt
 have O4:=O3.below hB4 O3.lt
 have hs4:=hB4.size
 clear hB4
 obtain ⟨i,hi⟩:∃ i,i=placeOf d.v.accs cm.acc:=⟨_,rfl⟩
 have HI:=Lib.hid hi
 rw [← hi]
 have HK':=Lib.hid (show d.v.accs[i]?=some a by rw [hi];exact HK.out)
 clear hi
 have x2:W4.cell? ⟨w.heap.size,2,none⟩=some (.int .i64 cm.market):=X4.cell 2
 obtain ⟨⟨-,k1,-⟩,-⟩:=HD4.out.blk.c8
 have y5:=X4.lt
 have y6:D < W4.heap.size:=HD4.out.lt
 by_cases h1:cm.market < 0
 ·have HEE:=Lib.hid (HE2.out.trans (if_pos (.inr (.inl h1))))
  go_wp2_with fail
  go_quiet (fail)
  go_wp2_with fail
  go_ret
  exact retDk_err HEE.out (by omega) ((below_drewN hL4 _).mono hb)
 by_cases h2:(d.v.mks.length:Int) ≤ cm.market
 ·have HEE:=Lib.hid (HE2.out.trans (if_pos (.inr (.inr h2))))
  have hd1:decide (cm.market < 0)=false:=decide_eq_false h1
  have hd2:decide ((d.v.mks.length:Int) ≤ cm.market)=true:=decide_eq_true h2
  go_wp2_with fail
  go_quiet (fail)
  go_wp2_with fail
  go_ret
  exact retDk_err HEE.out (by omega) ((below_drewN hL4 _).mono hb)
 obtain ⟨mk,hmk⟩:∃ mk:Nat,cm.market=(mk:Int):=⟨cm.market.toNat,by omega⟩
 have HE3:=Lib.hid (HE2.out.trans (if_neg (by rintro (h | h | h);exact HTN.out h;exact h1 h;exact h2 h)))
 have HMK:=Lib.hid hmk
 rw [hmk] at x2 X4
 rw [hmk]
 have h3:mk < d.v.mks.length:=by omega
 have hd1:decide ((mk:Int) < 0)=false:=decide_eq_false (by omega)
 have hd2:decide ((d.v.mks.length:Int) ≤ (mk:Int))=false:=decide_eq_false (by omega)
 have hd3:decide (d.v.mks.length ≤ mk)=false:=decide_eq_false (by omega)
 clear h1 h2 hmk
 go_wp2_with fail
 go_quiet (fail)
 refine exit_name ?_
 intro W5 hW5
 have hB5:Below W4.heap.size W4 W5:=by rw [hW5];exact below_drewN (Below.refl _ _) _
 have HD5:=Lib.hid (HD4.out.below hB5)
 have hL5:=hL4.trans (hB5.mono (by omega))
 have X5:=X4.below hB5 X4.lt
 have O5:=O4.below hB5 O4.lt
 have hs5:=hB5.size
 clear hW5 hB5 k1 x2 hd1 hd2 hd3 hL4 X4 O4
 obtain ⟨⟨-,-,-,-,k4,-⟩,-,-,-,-,f4,-⟩:=HD5.out.blk.c8
 replace y6:D < W5.heap.size:=HD5.out.lt
 replace y5:=X5.lt
 by_cases hn:d.v.next=100000
 ·have hn':(d.v.next == 100000)=true:=by simpa using hn
  have HEE:=Lib.hid (HE3.out.trans (if_pos hn))
  clear hn
  go_wp2_with fail
  go_ret
  exact retDk_err HEE.out (by omega) (hL5.mono hb)
 have hn':(d.v.next == 100000)=false:=by simpa using hn
 have HE4:=Lib.hid (HE3.out.trans (if_neg hn))
 have HNX:=Lib.hid hn
 have hnx1:1 ≤ d.v.next:=by omega
 have hnx2:d.v.next ≤ 99999:=by omega
 have x10:W5.cell? ⟨w.heap.size,10,none⟩=some (.bool true):=X5.cell 10
 have x1:W5.cell? ⟨w.heap.size,1,none⟩=some (.int .i64 cm.acc):=X5.cell 1
 have x2:W5.cell? ⟨w.heap.size,2,none⟩=some (.int .i64 mk):=X5.cell 2
 have o0:W5.cell? ⟨bo,0,none⟩=some (.int .i64 d.v.next):=O5.cell 0
 have y7:=O5.lt
 clear hn
 obtain ⟨p,hpp⟩:∃ p,a.pos.getD mk 0=p:=⟨_,rfl⟩
 have HPP:=Lib.hid (show (accAt d.v (placeOf d.v.accs cm.acc)).pos.getD cm.market.toNat 0=p by
  have e1:accAt d.v i=a:=getD_some HK'.out
  have e2:cm.market.toNat=mk:=by have:=HMK.out;omega
  rw [← HI.out,e1,e2,hpp])
 obtain ⟨g,A2,c2,b2,o2,hA,hg2,hin,⟨q0,q1,q2⟩,rfl,hb2,hz,hpl,⟨hz1,hz2⟩,hpc,-⟩:=pos_at HD5.out HK'.out HV.out.accs h3
 rw [hpp] at hz hz1 hz2
 obtain ⟨⟨k0,-⟩,-⟩:=HD5.out.blk.c8
 have hmn:(mk:Int) < (a.pos.length:Int):=by omega
 have hi0:(0:Int) ≤ (i:Int):=by omega
 have hi1:(i:Int) < (d.v.accs.length:Int):=by omega
 have hm00:(0:Int) ≤ (mk:Int):=by omega
 rw [hA] at k0
 clear hpp hpl hA
 go_upto_if 77 with (fail)
 go_cut [9] (fun _ wx=>∃ q:Int,(1 ≤ q∧q ≤ 1000)∧Hid (orderE cm d=comesE cm ⟨d.v.next,cm.acc,cm.o.side,cm.o.price,q⟩ i mk (ordStart cm mk d))∧Below w.heap.size w wx∧Hid (Blk wx bo 71 #[.int .i64 d.v.next,.int .i64 cm.acc,.int .i64 cm.o.side,.int .i64 cm.o.price,.int .i64 q])∧Fr [] [bo] W5 wx)
 case first =>
  go_wp2_with fail
  go_quiet (fail)
  refine exit_name ?_
  intro W6 hW6
  have hB6:Below W5.heap.size W5 W6:=by rw [hW6];exact below_drewN (Below.refl _ _) _
  have hL6:=hL5.trans (hB6.mono (by omega))
  have O6:=O5.below hB6 O5.lt
  clear hW6 k0 q0 q1 q2 hz k4 f4 x1 x2 x10 o0
  obtain ⟨⟨kO60,kO61,kO62,kO63,kO64⟩,fO60,fO61,fO62,fO63,fO64⟩:=O6.c5
  have yb:=O6.lt
  have hsd:=HOK.out.2.2.1
  have hqo:1 ≤ cm.o.qty∧cm.o.qty ≤ 1000:=HOK.out.2.2.2.2
  obtain ⟨hqo1,hqo2⟩:=hqo
  have hps1:-1000 ≤ p * cm.o.side∧p * cm.o.side ≤ 1000:=by
   rcases hsd with e | e
   ·rw [show cm.o.side=1 from e];omega
   ·rw [show cm.o.side = -1 from e];omega
  obtain ⟨hps1,hps2⟩:=hps1
  by_cases hps:0 ≤ p * cm.o.side
  ·have hps':decide (0 ≤ p * cm.o.side)=true:=decide_eq_true hps
   have HEE:=Lib.hid (HE4.out.trans (if_pos ⟨HRD.out,by rw [HPP.out];exact hps⟩))
   go_wp2_with fail
   go_ret
   exact retDk_err HEE.out (by omega) (hL6.mono hb)
  ·have hps':decide (0 ≤ p * cm.o.side)=false:=decide_eq_false hps
   have hp0:p ≠ 0:=by intro e;rw [e,Int.zero_mul] at hps;omega
   have HEC:=Lib.hid (HE4.out.trans (if_neg (fun h=>hps (by have:=h.2;rw [HPP.out] at this;exact this))))
   have HCM:=Lib.hid (show ∀ q,q=min cm.o.qty (max p (-p))→orderE cm d=comesE cm ⟨d.v.next,cm.acc,cm.o.side,cm.o.price,q⟩ i mk (ordStart cm mk d) by
    intro q hq
    rw [HEC.out,HRD.out,if_pos rfl,HPP.out,HMK.out,hq,HI.out];rfl)
   clear hsd
   rcases (show (p < -p∧-p < cm.o.qty)∨(p < -p∧cm.o.qty ≤ -p)∨(-p ≤ p∧p < cm.o.qty)∨(-p ≤ p∧cm.o.qty ≤ p) by omega) with ⟨s1,s2⟩ | ⟨s1,s2⟩ | ⟨s1,s2⟩ | ⟨s1,s2⟩
   ·skip
    have hq0:1 ≤ -p∧-p ≤ 1000:=by omega
    have HQ0:=Lib.hid (HCM.out (-p) (by omega))
    have HF6:Fr [] [bo] W5 (W6.setCell ⟨bo,4,none⟩ (.int .i64 (-p))):=(Fr.of_below _ _ hB6).trans ((Fr.refl _ _ _).set O6 (.inr (by simp)) _ _)
    have HLQ:Below w.heap.size w (W6.setCell ⟨bo,4,none⟩ (.int .i64 (-p))):=hL6.setCell (Nat.le_of_lt hbow) _
    have HOQ:=Lib.hid (show Blk (W6.setCell ⟨bo,4,none⟩ (.int .i64 (-p))) bo 71 #[.int .i64 d.v.next,.int .i64 cm.acc,.int .i64 cm.o.side,.int .i64 cm.o.price,.int .i64 (-p)] from O6.set_ 4 _)
    have n1:(p < -p)=True:=eq_true s1
    go_wp2_with fail
    go_meet
    exact ⟨_,hq0,HQ0,HLQ,HOQ,HF6⟩
   ·skip
    have hq0:1 ≤ cm.o.qty∧cm.o.qty ≤ 1000:=by omega
    have HQ0:=Lib.hid (HCM.out (cm.o.qty) (by omega))
    have HF6:Fr [] [bo] W5 (W6.setCell ⟨bo,4,none⟩ (.int .i64 (cm.o.qty))):=(Fr.of_below _ _ hB6).trans ((Fr.refl _ _ _).set O6 (.inr (by simp)) _ _)
    have HLQ:Below w.heap.size w (W6.setCell ⟨bo,4,none⟩ (.int .i64 (cm.o.qty))):=hL6.setCell (Nat.le_of_lt hbow) _
    have HOQ:=Lib.hid (show Blk (W6.setCell ⟨bo,4,none⟩ (.int .i64 (cm.o.qty))) bo 71 #[.int .i64 d.v.next,.int .i64 cm.acc,.int .i64 cm.o.side,.int .i64 cm.o.price,.int .i64 (cm.o.qty)] from O6.set_ 4 _)
    have n1:(p < -p)=True:=eq_true s1
    go_wp2_with fail
    go_meet
    exact ⟨_,hq0,HQ0,HLQ,HOQ,HF6⟩
   ·skip
    have hq0:1 ≤ p∧p ≤ 1000:=by omega
    have HQ0:=Lib.hid (HCM.out (p) (by omega))
    have HF6:Fr [] [bo] W5 (W6.setCell ⟨bo,4,none⟩ (.int .i64 (p))):=(Fr.of_below _ _ hB6).trans ((Fr.refl _ _ _).set O6 (.inr (by simp)) _ _)
    have HLQ:Below w.heap.size w (W6.setCell ⟨bo,4,none⟩ (.int .i64 (p))):=hL6.setCell (Nat.le_of_lt hbow) _
    have HOQ:=Lib.hid (show Blk (W6.setCell ⟨bo,4,none⟩ (.int .i64 (p))) bo 71 #[.int .i64 d.v.next,.int .i64 cm.acc,.int .i64 cm.o.side,.int .i64 cm.o.price,.int .i64 (p)] from O6.set_ 4 _)
    have n1:(p < -p)=False:=eq_false (by omega)
    go_wp2_with fail
    go_meet
    exact ⟨_,hq0,HQ0,HLQ,HOQ,HF6⟩
   ·skip
    have hq0:1 ≤ cm.o.qty∧cm.o.qty ≤ 1000:=by omega
    have HQ0:=Lib.hid (HCM.out (cm.o.qty) (by omega))
    have HF6:Fr [] [bo] W5 (W6.setCell ⟨bo,4,none⟩ (.int .i64 (cm.o.qty))):=(Fr.of_below _ _ hB6).trans ((Fr.refl _ _ _).set O6 (.inr (by simp)) _ _)
    have HLQ:Below w.heap.size w (W6.setCell ⟨bo,4,none⟩ (.int .i64 (cm.o.qty))):=hL6.setCell (Nat.le_of_lt hbow) _
    have HOQ:=Lib.hid (show Blk (W6.setCell ⟨bo,4,none⟩ (.int .i64 (cm.o.qty))) bo 71 #[.int .i64 d.v.next,.int .i64 cm.acc,.int .i64 cm.o.side,.int .i64 cm.o.price,.int .i64 (cm.o.qty)] from O6.set_ 4 _)
    have n1:(p < -p)=False:=eq_false (by omega)
    go_wp2_with fail
    go_meet
    exact ⟨_,hq0,HQ0,HLQ,HOQ,HF6⟩
 case rest=>as_aux_lemma =>
 obtain ⟨q,hq1,HC,hLV,HOV,hFV⟩:=hcut
 obtain ⟨V5,rfl⟩:∃ V5,V5=wc:=⟨wc,rfl⟩
 clear k0 q0 q1 q2 hz k4 f4 x1 x2 x10 o0
 have HD5':=Lib.hid (HD.out.below hLV)
 have X5':=X5.fr hFV (by simp) (by simp;omega)
 have hs5':=hFV.size
 clear HD5 X5 O5 hL5
 have HD5:=HD5'
 have X5:=X5'
 have O5:=HOV.out
 have hL5:=hLV
 clear HD5' X5' hLV HOV hFV
 obtain ⟨⟨-,-,-,-,k4,-⟩,-,-,-,-,f4,-⟩:=HD5.out.blk.c8
 replace y6:D < V5.heap.size:=HD5.out.lt
 replace y5:=X5.lt
 have x10:V5.cell? ⟨w.heap.size,10,none⟩=some (.bool true):=X5.cell 10
 have x1:V5.cell? ⟨w.heap.size,1,none⟩=some (.int .i64 cm.acc):=X5.cell 1
 have x2:V5.cell? ⟨w.heap.size,2,none⟩=some (.int .i64 mk):=X5.cell 2
 have o0:V5.cell? ⟨bo,0,none⟩=some (.int .i64 d.v.next):=O5.cell 0
 replace y7:=O5.lt
 go_wp2_with fail
 refine calls_name ?_
 intro W6 hW6
 have HD6:=Lib.hid (desk_next HD5.out hW6)
 have hF6:Fr [174] [] V5 W6:=by rw [hW6];exact (Fr.refl _ _ _).set HD5.out.blk (.inl (by simp)) _ _
 have hL6:Below base w W6:=by rw [hW6];exact (hL5.mono hb).setCell HD5.out.low _
 have X6:=X5.fr hF6 (by decide) (by simp)
 have O6:=O5.fr hF6 (by decide) (by simp)
 have hs6:=hF6.size
 have hb6:base ≤ W6.heap.size:=by omega
 have HF6:=Lib.hid ((Fr.of_below [174,124] (D :: (ab A ++ ab M)) hL5).trans (hF6.mono (by simp) (by simp)))
 clear hW6 hF6 hL5 X5 O5 x1 x2 x10 o0 k4 f4
 refine (tell_dk base D false ⟨{ d.v with next:=d.v.next + 1 },d.ev⟩ A c M k vE xs ys ⟨2,0,mk,d.v.next,cm.acc,0,zeroFl⟩ W6 HD6.out hb6 (by show d.ev.length ≤ _;omega)).mono ?_
 rintro e W7 ⟨rfl,⟨vE7,hd7⟩,hL7,hK7⟩
 have HD7:=Lib.hid (show Desk W7 base D false (ordStart cm mk d) A c M k vE7 xs ys from hd7)
 have X7:=X6.kept hK7 (by decide)
 have O7:=O6.kept hK7 (by decide)
 have HL7:=Lib.hid (hL6.trans hL7)
 have HF7:=Lib.hid (HF6.out.trans (hK7.fr _))
 have HV7:=Lib.hid (start_ok (c:=cm) (mk:=mk) HV.out HNX.out)
 have hs7:=hK7.size
 have hev7:(ordStart cm mk d).ev.length=d.ev.length + 1:=by show (d.ev ++ [_]).length=_;rw [List.length_append];rfl
 have hmk7:(ordStart cm mk d).v.mks=d.v.mks:=rfl
 have hac7:(ordStart cm mk d).v.accs=d.v.accs:=rfl
 have hnx7:(ordStart cm mk d).v.next=d.v.next + 1:=rfl
 clear hd7 hL7 hK7 X6 O6 hL6
 obtain ⟨d7,hd7⟩:∃ d7,ordStart cm mk d=d7:=⟨_,rfl⟩
 rw [hd7] at HD7 HV7 HC hev7 hmk7 hac7 hnx7
 clear hd7
 obtain ⟨m,hm⟩:∃ m,d7.v.mks[mk]?=some m:=⟨_,List.getElem?_eq_getElem (by rw [hmk7];exact h3)⟩
 obtain ⟨x,l,left,te,hcm⟩:∃ x l left te,comeOf m.book ⟨d.v.next,cm.acc,cm.o.side,cm.o.price,q⟩ cm.how=(x,l,left,te):=⟨_,_,_,_,rfl⟩
 have HCE:=Lib.hid (HC.out.trans (comes_eq hm hcm))
 have HM:=Lib.hid hm
 have HCM:=Lib.hid hcm
 have HTA:=Lib.hid (show thereB d7.v.accs cm.acc=true by rw [hac7];exact HTH.out)
 have HNN:=Lib.hid (show d.v.next < d7.v.next by rw [hnx7];omega)
 have hml:d7.v.mks.length=d.v.mks.length:=by rw [hmk7]
 have HAL:=Lib.hid (show d7.v.accs.length=d.v.accs.length by rw [hac7])
 obtain ⟨gm,A3,c3,A4,c4,rfl,hg3,hg4,hin4,-,⟨r0,r1,-,-⟩,-,hbk,hl1,hl2,-⟩:=omk_at HD7.out.mks hm
 have HBK4:=Lib.hid hbk.read
 have hm0:(0:Int) ≤ (mk:Int):=by omega
 have hm1:(mk:Int) < (d7.v.mks.length:Int):=by omega
 replace y6:D < W7.heap.size:=HD7.out.lt
 replace y5:=X7.lt
 replace y7:=O7.lt
 have h00:Below W7.heap.size W7 W7:=Below.refl _ _
 have KS:Hid (∀ W,Below W7.heap.size W7 W→Below W7.heap.size W7 W∧W.cell? ⟨D,1,none⟩=some (.slice (some ⟨gm,0,none⟩) d7.v.mks.length k)∧W.cell? ⟨gm,mk * 4,none⟩=some (.slice A3 m.book.bids.length c3)∧W.cell? ⟨gm,mk * 4 + 1,none⟩=some (.slice A4 m.book.asks.length c4) ∧
   W.cell? ⟨bo,0,none⟩=some (.int .i64 d.v.next)∧W.cell? ⟨bo,1,none⟩=some (.int .i64 cm.acc)∧W.cell? ⟨bo,2,none⟩=some (.int .i64 cm.o.side)∧W.cell? ⟨bo,3,none⟩=some (.int .i64 cm.o.price)∧W.cell? ⟨bo,4,none⟩=some (.int .i64 q) ∧
   W.cell? ⟨w.heap.size,2,none⟩=some (.int .i64 mk)∧W.cell? ⟨w.heap.size,9,none⟩=some (.int .i64 cm.how)):=by
  intro W hW
  obtain ⟨⟨-,k1,-⟩,-⟩:=(HD7.out.below hW).blk.c8
  obtain ⟨⟨z0,z1,z2,z3,z4⟩,-⟩:=(O7.below hW O7.lt).c5
  exact ⟨hW,k1,(hW.cell (p:=⟨gm,_,none⟩) hg4).trans r0,(hW.cell (p:=⟨gm,_,none⟩) hg4).trans r1,z0,z1,z2,z3,z4,(X7.below hW X7.lt).cell 2,(X7.below hW X7.lt).cell 9⟩
 clear r0 r1 hbk hm hcm hmk7 hac7 hnx7
 go_upto_region 20 with (fail)
 go_cut [10,11,12,13] (fun vb vl vn ve wx=>∃ (gB:Nat) (P:Option Addr) (pc:Nat) (P':Option Addr) (pc':Nat) (AL:Option Addr) (cL:Nat),vb=.pointer (some ⟨gB,0,none⟩)∧vl=.slice AL l.length cL∧vn=.int .i64 left∧ve=.int .i64 te∧Below W7.heap.size W7 wx ∧
  Hid (OBk wx W7.heap.size P P' pc pc' x)∧Hid (wx.ownsRow W7.heap.size 87 7 (.slice AL l.length cL) l.length (flCells l))∧Hid (Blk wx gB 62 #[.slice P x.bids.length pc,.slice P' x.asks.length pc']))
 case first =>
  go_region_held3 (fun W=>Below W7.heap.size W7 W∧W.cell? ⟨D,1,none⟩=some (.slice (some ⟨gm,0,none⟩) d7.v.mks.length k)∧W.cell? ⟨gm,mk * 4,none⟩=some (.slice A3 m.book.bids.length c3)∧W.cell? ⟨gm,mk * 4 + 1,none⟩=some (.slice A4 m.book.asks.length c4) ∧
    W.cell? ⟨bo,0,none⟩=some (.int .i64 d.v.next)∧W.cell? ⟨bo,1,none⟩=some (.int .i64 cm.acc)∧W.cell? ⟨bo,2,none⟩=some (.int .i64 cm.o.side)∧W.cell? ⟨bo,3,none⟩=some (.int .i64 cm.o.price)∧W.cell? ⟨bo,4,none⟩=some (.int .i64 q) ∧
    W.cell? ⟨w.heap.size,2,none⟩=some (.int .i64 mk)∧W.cell? ⟨w.heap.size,9,none⟩=some (.int .i64 cm.how))
   (first | exact KS.out _ (by assumption) | exact KS.out _ (dk_drew (by assumption)) | exact KS.out _ (Below.alloc (by assumption) (Below.size (by assumption)) _) | exact KS.out _ (dk_drew (Below.alloc (by assumption) (Below.size (by assumption)) _)) | exact KS.out _ (Below.setCell (Below.setCell (by first | assumption | exact Below.alloc (by assumption) (by assumption) _) (by dsimp only;omega) _) (by dsimp only;omega) _))
   ((go_at_call 81;go_split_ands;(with_reducible refine (come_ref m.book ⟨d.v.next,cm.acc,cm.o.side,cm.o.price,q⟩ cm.how A3 A4 c3 c4 W7.heap.size _ HCM.out (HBK4.out.below (by assumption)) (Below.size (by assumption)) hl1 hl2).mono ?_);rintro e W8 ⟨P,pc,P',pc',vf,rfl,hobk,hrow,hb8⟩;obtain ⟨AL,cL,rfl⟩:=own_shape hrow;have hB8:=dk_next (w0:=W7) hb8 (by assumption);have hs8:=hB8.size;try have z1:=(Blk.drewN (Blk.new W7 62 #[.slice none 0 0,.slice none 0 0]) 1).below hb8 (by simp);try have z2:=z1.lt;try obtain ⟨⟨z3,z4⟩,z5,z6⟩:=z1.c2))
  all_goals
   refine exit_name ?_
   intro W9 hW9
   have hbW:base ≤ W7.heap.size:=by omega
   have hB9:Below W7.heap.size W7 W9:=by rw [hW9];first | exact hB8.alloc hs8 _ | exact (hB8.setCell (by dsimp only;omega) _).setCell (by dsimp only;omega) _
   have HO9:Hid (OBk W9 W7.heap.size P P' pc pc' x):=by
    rw [hW9]
    first
     | exact ⟨own_mono (World.ownsRow.alloc hobk.l _) (Nat.le_refl _),own_mono (World.ownsRow.alloc hobk.r _) (Nat.le_refl _)⟩
     | exact ⟨own_mono (ownsRow_setCell_below (ownsRow_setCell_below hobk.l (by simp) _) (by simp) _) (by simp),own_mono (ownsRow_setCell_below (ownsRow_setCell_below hobk.r (by simp) _) (by simp) _) (by simp)⟩
   have HR9:Hid (W9.ownsRow W7.heap.size 87 7 (.slice AL l.length cL) l.length (flCells l)):=by
    rw [hW9]
    first
     | exact own_mono (World.ownsRow.alloc hrow _) (Nat.le_refl _)
     | exact own_mono (ownsRow_setCell_below (ownsRow_setCell_below hrow (by simp) _) (by simp) _) (by simp)
   first
    | have HB9:Hid (Blk W9 W8.heap.size 62 #[.slice P x.bids.length pc,.slice P' x.asks.length pc']):=by rw [hW9];exact Blk.new W8 _ _
    | have HB9:Hid (Blk W9 W7.heap.size 62 #[.slice P x.bids.length pc,.slice P' x.asks.length pc']):=by rw [hW9];exact (z1.set_ 0 _).set_ 1 _
   go_wp2_with fail
   go_meet
   exact ⟨_,_,_,_,_,_,_,rfl,rfl,rfl,rfl,hB9,HO9,HR9,HB9⟩
 case rest=>as_aux_lemma =>
  obtain ⟨gB,P,pc,P',pc',AL,cL,rfl,rfl,rfl,rfl,hB9,HO9,HR9,HB9⟩:=hcut
  obtain ⟨W9,rfl⟩:∃ W9,W9=wc:=⟨wc,rfl⟩
  have hbW:base ≤ W7.heap.size:=by omega
  have B9:=HB9.out
  have HD9:=Lib.hid (HD7.out.below hB9)
  have HL9:=Lib.hid (HL7.out.trans (hB9.mono (by omega)))
  have HF9:=Lib.hid (HF7.out.below hB9)
  have X9:=X7.below hB9 y5
  have O9:=O7.below hB9 y7
  have hs9:=hB9.size
  clear KS h00 HB9
  by_cases he:te=0
  rotate_left
  ·have he':(te != 0)=true:=by simpa using he
   have HEE:=Lib.hid (show orderE cm d=.error te by rw [HCE.out];unfold okIf;rw [if_pos he])
   have HN:=Lib.hid he
   clear he
   go_wp2_with fail
   go_ret
   exact retDk_err HEE.out HN.out HL9.out
  subst he
  have HP:=Lib.hid (come_pre HV7.out HM.out HTA.out HNN.out HCM.out)
  obtain ⟨g',A5,c5,A6,c6,hg',hg5,hg6,hin6,⟨cs,hgB⟩,⟨q0,q1,q2,q3⟩,⟨r0,r1,r2,r3⟩,-⟩:=omk_at HD9.out.mks HM.out
  obtain rfl:g'=gm:=by injection hg' with hg';injection hg' with hg';exact hg'.symm
  have HG:=Lib.hid hgB
  obtain ⟨⟨-,k1,-⟩,-⟩:=HD9.out.blk.c8
  have x2:W9.cell? ⟨w.heap.size,2,none⟩=some (.int .i64 mk):=X9.cell 2
  have y8:D < W9.heap.size:=HD9.out.lt
  have y9:=B9.lt
  have y10:=X9.lt
  clear hg' hgB
  obtain ⟨⟨kB90,kB91⟩,-⟩:=B9.c2
  go_wp2_with fail
  go_region
  refine exit_name ?_
  intro Z hZ
  have HDZ:=Lib.hid (desk_book HD9.out HM.out ⟨own_mono HO9.out.l hbW,own_mono HO9.out.r hbW⟩ HP.out.lens (by simp) HG.out hZ)
  have hFZ:Fr [174,124] (D :: (ab A ++ ab (some ⟨g',0,none⟩))) W9 Z:=by rw [hZ];exact (((Fr.refl _ _ _).set HG.out (.inr (by simp [ab])) _ _).set (HG.out.set_ _ _) (.inr (by simp [ab])) _ _).drewN 1
  have hLZ:Below base W9 Z:=by rw [hZ];exact below_drewN (((Below.refl _ _).setCell hg5 _).setCell hg5 _) 1
  have HRZ:=Lib.hid (hFZ.own HR9.out (by decide) (desk_far HD9.out HR9.out (by decide) (by decide) (by decide)))
  have HXZ:=Lib.hid (X9.fr hFZ (by decide) (desk_far_blk HD9.out X9 (by decide) (by decide) (by decide)))
  have HOZ:=Lib.hid (O9.fr hFZ (by decide) (desk_far_blk HD9.out O9 (by decide) (by decide) (by decide)))
  have HLZ:=Lib.hid (HL9.out.trans hLZ)
  have HFZ:=Lib.hid (HF9.out.trans hFZ)
  have hsZ:=hFZ.size
  have hbZ:base ≤ Z.heap.size:=by omega
  have xz2:Z.cell? ⟨w.heap.size,2,none⟩=some (.int .i64 mk):=HXZ.out.cell 2
  have yz:=HXZ.out.lt
  clear hZ hFZ hLZ k1 q0 q1 q2 q3 r0 r1 r2 r3 kB90 kB91 B9 X9 O9 x2
  go_wp2_with fail
  refine (fills_dk base D false ⟨setMk d7.v mk { m with book:=x },d7.ev⟩ A c _ k vE7 xs _ mk false l W7.heap.size AL cL Z HDZ.out hbZ HP.out.ok.accs (by have:=HP.out.cnt;show d7.ev.length + _ ≤ _;omega) HP.out.fl HRZ.out).mono ?_
  intro e W10 hret
  cases hfl:fillsE mk false l ⟨setMk d7.v mk { m with book:=x },d7.ev⟩ with
  | error n =>
   have HEE:=Lib.hid (show orderE cm d=.error n by rw [HCE.out,hfl];rfl)
   rw [hfl] at hret
   obtain ⟨hn,rfl,hL10⟩:=hret
   have hn':(n != 0)=true:=by simpa using hn
   have HN:=Lib.hid hn
   clear hfl hn
   go_wp2_with fail
   go_ret
   exact retDk_err HEE.out HN.out (HLZ.out.trans hL10)
  | ok d8 =>
   have HK8:=Lib.hid (fills_keep' HP.out.ok HP.out.fs (by show mk < (d7.v.mks.set mk _).length;rw [List.length_set,hml];exact h3) hfl)
   have hk3:=fillsE_len hfl
   replace hk3:d8.ev.length=d7.ev.length + l.length:=hk3
   have HCE8:=Lib.hid (show orderE cm d=comesTail cm ⟨d.v.next,cm.acc,cm.o.side,cm.o.price,q⟩ i mk l left d8 by rw [HCE.out,hfl];rfl)
   rw [hfl] at hret
   obtain ⟨rfl,⟨vE10,xs10,ys10,hd10⟩,hL10,hF10⟩:=hret
   have HD10:=Lib.hid hd10
   have HL10:=Lib.hid (HLZ.out.trans hL10)
   have HF10:=Lib.hid (HFZ.out.trans hF10)
   have HR10:=Lib.hid (hF10.own HRZ.out (by decide) (desk_far HDZ.out HRZ.out (by decide) (by decide) (by decide)))
   have X10:=HXZ.out.fr hF10 (by decide) (desk_far_blk HDZ.out HXZ.out (by decide) (by decide) (by decide))
   have O10:=HOZ.out.fr hF10 (by decide) (desk_far_blk HDZ.out HOZ.out (by decide) (by decide) (by decide))
   have hs10:=hF10.size
   have hlen8:d8.ev.length ≤ 900000:=by have:=HP.out.cnt;omega
   clear hfl hd10 hL10 hF10 xz2
   go_upto_if 163 with (fail)
   have hb10:base ≤ W10.heap.size:=by omega
   have hlf:=HP.out.lef
   go_cut [173] (fun _ wx=>∃ vE11,Hid (Desk wx base D false (comesLeft cm ⟨d.v.next,cm.acc,cm.o.side,cm.o.price,q⟩ mk left d8) A c (some ⟨g',0,none⟩) k vE11 xs10 ys10)∧Below base W10 wx∧Kept [174,124] W10 wx)
   case first =>
    by_cases hlp:0 < left
    ·have hlp':decide (0 < left)=true:=decide_eq_true hlp
     have HLD:=Lib.hid (show comesLeft cm ⟨d.v.next,cm.acc,cm.o.side,cm.o.price,q⟩ mk left d8=tell d8 ⟨4,0,mk,d.v.next,cm.acc,left,zeroFl⟩ from if_pos hlp)
     have x1:W10.cell? ⟨w.heap.size,1,none⟩=some (.int .i64 cm.acc):=X10.cell 1
     have x2:W10.cell? ⟨w.heap.size,2,none⟩=some (.int .i64 mk):=X10.cell 2
     have o0:W10.cell? ⟨bo,0,none⟩=some (.int .i64 d.v.next):=O10.cell 0
     have ya:=X10.lt
     have yb:=O10.lt
     go_wp2_with fail
     refine (tell_dk base D false d8 A c _ k vE10 xs10 ys10 ⟨4,0,mk,d.v.next,cm.acc,left,zeroFl⟩ W10 HD10.out hb10 (by omega)).mono ?_
     rintro e W11 ⟨rfl,⟨vE11,hd11⟩,hL11,hK11⟩
     have HD11:=Lib.hid (show Desk W11 base D false (comesLeft cm ⟨d.v.next,cm.acc,cm.o.side,cm.o.price,q⟩ mk left d8) A c (some ⟨g',0,none⟩) k vE11 xs10 ys10 by rw [HLD.out];exact hd11)
     clear hd11
     go_wp2_with fail
     go_meet
     exact ⟨vE11,HD11,hL11,hK11⟩
    ·have hlp':decide (0 < left)=false:=decide_eq_false hlp
     have HLD:=Lib.hid (show comesLeft cm ⟨d.v.next,cm.acc,cm.o.side,cm.o.price,q⟩ mk left d8=d8 from if_neg hlp)
     have HD11:=Lib.hid (show Desk W10 base D false (comesLeft cm ⟨d.v.next,cm.acc,cm.o.side,cm.o.price,q⟩ mk left d8) A c (some ⟨g',0,none⟩) k vE10 xs10 ys10 by rw [HLD.out];exact HD10.out)
     go_wp2_with fail
     go_meet
     exact ⟨vE10,HD11,Below.refl _ _,Kept.refl _ _⟩
   case rest=>as_aux_lemma =>
    obtain ⟨vE11,HD11,hL11,hK11⟩:=hcut
    obtain ⟨W11,rfl⟩:∃ W11,W11=wc:=⟨wc,rfl⟩
    obtain ⟨d9,hd9⟩:∃ d9,comesLeft cm ⟨d.v.next,cm.acc,cm.o.side,cm.o.price,q⟩ mk left d8=d9:=⟨_,rfl⟩
    rw [hd9] at HD11
    have HD9L:=Lib.hid hd9
    have hv9:d9.v=d8.v:=by rw [← hd9];exact left_v
    have HL11:=Lib.hid (HL10.out.trans hL11)
    have HF11:=Lib.hid (HF10.out.trans (hK11.fr _))
    have HR11:=Lib.hid (hK11.own HR10.out (by decide))
    have X11:=X10.kept hK11 (by decide)
    have O11:=O10.kept hK11 (by decide)
    have hs11:=hK11.size
    have HV9:=Lib.hid (show VOk d9.v∧d9.v.mks.length=d.v.mks.length∧d9.v.accs.length=d.v.accs.length by
     rw [hv9];refine ⟨HK8.out.1,HK8.out.2.1.trans ?_,HK8.out.2.2.trans HAL.out⟩
     show (d7.v.mks.set mk _).length=_
     rw [List.length_set,hml])
    clear hL11 hK11 X10 O10 hd9 hv9
    have x10:W11.cell? ⟨w.heap.size,10,none⟩=some (.bool true):=X11.cell 10
    have o4:W11.cell? ⟨bo,4,none⟩=some (.int .i64 q):=O11.cell 4
    have ya:=X11.lt
    have yb:=O11.lt
    go_wp2_with fail
    go_ret
    exact retDk_ok (by rw [HCE8.out,tail_red HRD.out,HD9L.out]) HD11.out HL11.out HF11.out
end
section
open Go.RowKit
theorem size_two {w w1:World} {o:Obj} (hb:Below (w.alloc o).heap.size (w.alloc o) w1):w.heap.size < w1.heap.size:=by have:=hb.size;simp at this;omega
set_option maxHeartbeats 2000000 in
theorem pays_any (id bal:Int) (A:Option Addr) (n c:Nat) (l:List Int) (market mark rate:Int) (B:Nat) (w:World) (h:Rd w B 1 A n c (ints l)) (hB:B ≤ w.heap.size) :
  Calls Try.prog 38 #[.agg #[.int .i64 id,.int .i64 bal,.slice A n c],.int .i64 market,.int .i64 mark,.int .i64 rate] w fun e w' =>
   e=.returned (.tuple #[.int .i64 (paysOf id bal l market mark rate).1,.int .i64 (paysOf id bal l market mark rate).2])∧Below w.heap.size w w':=by
 have hl:=h.ofInts
 have hle:=h.le
 have hcap:=h.cap
 unfold maxLen at hcap
 have HL:=Lib.hid hl
 by_cases h0:accCheck id bal l n=0
 ·obtain ⟨k1,k2,_,k4,k5⟩:=accCheck_ok h0
  have HU:Hid (paysOf id bal l market mark rate=if market < 0∨(n:Int) ≤ market then (0,5)
    else if rate < -100∨100 < rate then (0,3)
    else if (worthOf (l.getD market.toNat 0) mark).2 ≠ 0 then (0,(worthOf (l.getD market.toNat 0) mark).2)
    else partOf (worthOf (l.getD market.toNat 0) mark).1 rate 10000 true):=by
   show paysOf id bal l market mark rate=_
   unfold paysOf
   rw [hl,if_neg (by rw [h0];simp)]
  have HC:=Lib.hid h0
  clear h0 hl
  by_cases h1:market < 0∨(n:Int) ≤ market
  ·have HE:=Lib.hid (HU.out.trans (if_pos h1))
   rcases h1 with h1 | h1
   all_goals
    go_enter Try.func38,Try.ntmps38
    go_wp2_with fail
    refine (accCheck_any _ _ _ _ _ _ _ _ _ (h.alloc hB _) (by simp;omega)).mono ?_
    rintro e w1 ⟨rfl,hb1⟩
    rw [HC.out]
    obtain ⟨⟨c0,c1,c2⟩,_⟩:=((Blk.new w 37 #[.int .i64 id,.int .i64 bal,.slice A n c]).below hb1 (by simp)).c3
    go_wp2_with fail
    go_ret2
    exact ⟨pair_ii (by rw [HE.out]),((Below.refl _ _).alloc (Nat.le_refl _) _).trans (hb1.mono (by simp))⟩
  ·have HU2:=Lib.hid (HU.out.trans (if_neg h1))
   obtain ⟨mk,rfl⟩:∃ mk:Nat,market=(mk:Int):=⟨market.toNat,by omega⟩
   have hmk:mk < n:=by omega
   obtain ⟨b,o,rfl,hb,z,hz,hc⟩:=h.int hmk
   have hbw:b < w.heap.size:=by omega
   have hgz:l.getD ((mk:Int)).toNat 0=z:=by simp [List.getD,hz]
   rw [hgz] at HU2
   have hzb:=posOk_get k5 hz
   clear h1 hz hgz
   by_cases h2:rate < -100∨100 < rate
   ·have HE:=Lib.hid (HU2.out.trans (if_pos h2))
    clear HU HU2
    rcases h2 with h2 | h2
    all_goals
     go_enter Try.func38,Try.ntmps38
     go_wp2_with fail
     refine (accCheck_any _ _ _ _ _ _ _ _ _ (h.alloc hB _) (by simp;omega)).mono ?_
     rintro e w1 ⟨rfl,hb1⟩
     rw [HC.out]
     obtain ⟨⟨c0,c1,c2⟩,_⟩:=((Blk.new w 37 #[.int .i64 id,.int .i64 bal,.slice (some ⟨b,o,none⟩) n c]).below hb1 (by simp)).c3
     go_wp2_with fail
     go_ret2
     exact ⟨pair_ii (by rw [HE.out]),((Below.refl _ _).alloc (Nat.le_refl _) _).trans (hb1.mono (by simp))⟩
   ·have HU3:=Lib.hid (HU2.out.trans (if_neg h2))
    have h3:-100 ≤ rate∧rate ≤ 100:=by omega
    obtain ⟨h3,h4⟩:=h3
    clear HU HU2 h2
    rcases worth_cases z mark with h5 | ⟨h5,h6,h7,h8⟩
    ·have HW:=Lib.hid h5
     have HE:=Lib.hid (show paysOf id bal l mk mark rate=(0,3) by rw [HU3.out,h5];rfl)
     clear h5
     go_enter Try.func38,Try.ntmps38
     go_wp2_with fail
     refine (accCheck_any _ _ _ _ _ _ _ _ _ (h.alloc hB _) (by simp;omega)).mono ?_
     rintro e w1 ⟨rfl,hb1⟩
     rw [HC.out]
     obtain ⟨⟨c0,c1,c2⟩,_⟩:=((Blk.new w 37 #[.int .i64 id,.int .i64 bal,.slice (some ⟨b,o,none⟩) n c]).below hb1 (by simp)).c3
     have hbb:Below w.heap.size w w1:=((Below.refl _ _).alloc (Nat.le_refl _) _).trans (hb1.mono (by simp))
     have hc1:=(hbb.cell (p:=⟨b,o + mk,none⟩) hbw).trans hc
     go_wp2_with fail
     refine (worth_any _ _ _).mono ?_
     rintro e w' ⟨rfl,rfl⟩
     rw [HW.out]
     go_wp2_with fail
     go_ret2
     exact ⟨pair_ii (by rw [HE.out]),hbb⟩
    ·have HW:=Lib.hid h5
     have HE:=Lib.hid (show paysOf id bal l mk mark rate=partOf (z * mark) rate 10000 true by rw [HU3.out,h5];rfl)
     clear h5
     go_enter Try.func38,Try.ntmps38
     go_wp2_with fail
     refine (accCheck_any _ _ _ _ _ _ _ _ _ (h.alloc hB _) (by simp;omega)).mono ?_
     rintro e w1 ⟨rfl,hb1⟩
     rw [HC.out]
     obtain ⟨⟨c0,c1,c2⟩,_⟩:=((Blk.new w 37 #[.int .i64 id,.int .i64 bal,.slice (some ⟨b,o,none⟩) n c]).below hb1 (by simp)).c3
     have hbb:Below w.heap.size w w1:=((Below.refl _ _).alloc (Nat.le_refl _) _).trans (hb1.mono (by simp))
     have hc1:=(hbb.cell (p:=⟨b,o + mk,none⟩) hbw).trans hc
     go_wp2_with fail
     refine (worth_any _ _ _).mono ?_
     rintro e w' ⟨rfl,rfl⟩
     rw [HW.out]
     go_wp2_with fail
     refine (part_any _ _ _ _ _).mono ?_
     rintro e w' ⟨rfl,rfl⟩
     go_wp2_with fail
     go_ret2
     exact ⟨pair_ii (by rw [HE.out]),hbb⟩
 ·have HE:=Lib.hid (show paysOf id bal l market mark rate=(0,accCheck id bal l n) by
   unfold paysOf;rw [hl,if_pos h0])
  have h1:(accCheck id bal l n != 0)=true:=by simpa using h0
  clear h0 hl
  go_enter Try.func38,Try.ntmps38
  go_wp2_with fail
  refine (accCheck_any _ _ _ _ _ _ _ _ _ (h.alloc hB _) (by simp;omega)).mono ?_
  rintro e w1 ⟨rfl,hb1⟩
  go_wp2_with fail
  go_ret2
  exact ⟨pair_ii (by rw [HE.out]),((Below.refl _ _).alloc (Nat.le_refl _) _).trans (hb1.mono (by simp))⟩
end
section
open Go.RowKit
set_option maxHeartbeats 400000 in
theorem clone_accs (A:Option Addr) (n c:Nat) (xs:List Value) (B:Nat) (w:World) (h:Rd w B 3 A n c xs) (h1:∀ u ∈ xs,u.oneCell'=true) (hB:B ≤ w.heap.size) (hb:n * 40 ≤ 140737488355328) :
  Calls Try.prog 128 #[.slice A n c] w (RetRow w 37 3 n xs):=by
 have q:∀ (w:World) (a:Option Addr) (n c n' c':Nat),(binOp .eql 39 (.slice a n c) (.slice none n' c')).run Try.prog w=.ok (.bool a.isNone) w:=fun w a n c n' c'=>Lib.run_eql_slice_nil w _ _ a n c n' c' Try.underlying39
 cases A with
 | none =>
  have h0:=h.nil rfl
  have hle:=h.le
  obtain rfl:n=0:=by omega
  have hx:xs = []:=List.eq_nil_of_length_eq_zero (by simpa using h.len)
  subst hx h0
  go_enter Try.func128,Try.ntmps128
  go_wp2_with fail
  go_ret
  exact ⟨_,rfl,World.ownsRow_nil _ _ _ _,Below.refl _ _⟩
 | some ad =>
  have HR:=Lib.hid h
  have hle:=h.le
  have hcap:=h.cap
  clear h
  go_enter Try.func128,Try.ntmps128
  go_wp2_with (at_builtin;refine wpList_app rfl _ _ _ rfl w.heap.size _ _ _ elem_acc _ _ _ rfl (World.ownsRow_made w #[] 0 (Nat.le_refl _) (Nat.zero_le _) rfl) B (some ad) n c xs rfl (HR.out.alloc hB _) h1 (by simp only [maxLen] at hcap ⊢;omega) (by omega) (by simp) ?_;intro v' w' hown hbel hg _)
  go_ret
  exact ⟨_,rfl,by simpa using hown,((Below.refl _ _).alloc (Nat.le_refl _) _).trans hbel⟩
end
section
open Go.RowKit
theorem settle_step {market mark rate left:Int} {done:List Ac} {L:List Ac} {j:Nat} {a:Ac} (ha:L[j]?=some a):settleAcc market mark rate done left (L.drop j) =
  if (pays a market mark rate).2 ≠ 0 then ([],0,(pays a market mark rate).2)
  else if (addAll [a.bal,-(pays a market mark rate).1]).2 ≠ 0 then ([],0,(addAll [a.bal,-(pays a market mark rate).1]).2)
  else settleAcc market mark rate (done ++ [{ a with bal:=(addAll [a.bal,-(pays a market mark rate).1]).1 }]) (left + (pays a market mark rate).1) (L.drop (j + 1)):=by
 have hj:=(List.getElem?_eq_some_iff.1 ha).1
 rw [List.drop_eq_getElem_cons hj,(List.getElem?_eq_some_iff.1 ha).2]
 rfl
theorem row3 {w:World} {g:Nat} {t:TypeId} {cur:Array Value} {n j:Nat} (h:w.heap[g]?=some (.cells cur t (0,0))) (hn:n * 3 ≤ cur.size) (hj:j < n) :
  ∃ u0 u1 u2,(w.cell? ⟨g,j * 3,none⟩=some u0∧w.cell? ⟨g,j * 3 + 1,none⟩=some u1∧w.cell? ⟨g,j * 3 + 2,none⟩=some u2) ∧
   w.frozen? ⟨g,j * 3,none⟩=false∧w.frozen? ⟨g,j * 3 + 1,none⟩=false∧w.frozen? ⟨g,j * 3 + 2,none⟩=false:=by
 have hb:Blk w g t cur:=h
 have h3:j * 3 + 2 < cur.size:=by omega
 exact ⟨cur[j * 3],cur[j * 3 + 1],cur[j * 3 + 2],⟨by rw [hb.cell];exact Array.getElem?_eq_getElem (by omega),by rw [hb.cell];exact Array.getElem?_eq_getElem (by omega),by rw [hb.cell];exact Array.getElem?_eq_getElem (by omega)⟩,
  hb.frozen _,hb.frozen _,hb.frozen _⟩
theorem set3_other {cur:Array Value} {j m:Nat} {x y z:Value} (h:m < j∨j + 2 < m):(((cur.setIfInBounds j x).setIfInBounds (j + 1) y).setIfInBounds (j + 2) z)[m]?=cur[m]?:=by
 rw [Array.getElem?_setIfInBounds_ne (by omega),Array.getElem?_setIfInBounds_ne (by omega),Array.getElem?_setIfInBounds_ne (by omega)]
theorem set3_at {cur:Array Value} {j:Nat} {x y z:Value} (h:j + 2 < cur.size) :
  (((cur.setIfInBounds j x).setIfInBounds (j + 1) y).setIfInBounds (j + 2) z)[j]?=some x∧(((cur.setIfInBounds j x).setIfInBounds (j + 1) y).setIfInBounds (j + 2) z)[j + 1]?=some y ∧
   (((cur.setIfInBounds j x).setIfInBounds (j + 1) y).setIfInBounds (j + 2) z)[j + 2]?=some z:=by
 refine ⟨?_,?_,?_⟩
 ·rw [Array.getElem?_setIfInBounds_ne (by omega),Array.getElem?_setIfInBounds_ne (by omega),Array.getElem?_setIfInBounds_self_of_lt (by omega)]
 ·rw [Array.getElem?_setIfInBounds_ne (by omega),Array.getElem?_setIfInBounds_self_of_lt (by simp;omega)]
 ·rw [Array.getElem?_setIfInBounds_self_of_lt (by simp;omega)]
end
section
open Go.RowKit
def RetSettleO (w:World) (r:List Ac × Int × Int) (e:Ending) (w':World):Prop :=
 ∃ A c xs,e=.returned (.tuple #[.slice A r.1.length c,.int .i64 r.2.1,.int .i64 r.2.2])∧OwnAc w' w.heap.size A r.1.length c r.1 xs∧Below w.heap.size w w'
def RAccO (w:World) (base g o:Nat) (a:Ac):Prop :=
 ∃ A c,w.cell? ⟨g,o,none⟩=some (.int .i64 a.id)∧w.cell? ⟨g,o + 1,none⟩=some (.int .i64 a.bal)∧w.cell? ⟨g,o + 2,none⟩=some (.slice A a.pos.length c) ∧
  w.ownsRow base 3 1 (.slice A a.pos.length c) a.pos.length (ints a.pos)∧a.pos.length * 8 ≤ 140737488355328
def OutO (wr:World) (base n c:Nat) (A:Option Addr) (done:List Ac):Prop :=
 n=0∧done = []∧A=none∧c=0∨∃ g cur,A=some ⟨g,0,none⟩∧base ≤ g∧wr.heap[g]?=some (.cells cur 37 (0,0))∧n * 3 ≤ cur.size∧(∀ i a,done[i]?=some a→RAccO wr base g (i * 3) a)∧cur.size=c * 3∧n ≤ c∧c ≤ maxLen
theorem ownAc_nil (w:World) (base:Nat):OwnAc w base none 0 0 [] []:=⟨World.ownsRow_nil _ _ _ _,rfl,fun i a h=>by simp at h⟩
theorem OutO.own {w:World} {base n c:Nat} {A:Option Addr} {done:List Ac} (h:OutO w base n c A done) (hd:done.length=n):∃ xs,OwnAc w base A n c done xs:=by
 rcases h with ⟨rfl,rfl,rfl,rfl⟩ | ⟨g,cur,rfl,hb,hg,hn,hc,hs,hnc,hm⟩
 ·exact ⟨_,ownAc_nil _ _⟩
 ·have hblk:Blk w g 37 cur:=hg
  refine ⟨cur.toList.take (n * 3),⟨⟨by rw [List.length_take,Array.length_toList];omega,.inr ⟨g,c,cur,rfl,hb,hg,hnc,hm,hs,rfl⟩⟩,hd,fun i a ha=>?_⟩⟩
  have hi:i < n:=by have:=(List.getElem?_eq_some_iff.1 ha).1;omega
  obtain ⟨A2,c2,h0,h1,h2,h3,h4⟩:=hc i a ha
  rw [hblk.cell] at h0
  rw [hblk.cell] at h1
  rw [hblk.cell] at h2
  refine ⟨A2,c2,?_,?_,?_,h3,h4⟩
  ·rw [List.getElem?_take_of_lt (by omega)];simpa using h0
  ·rw [List.getElem?_take_of_lt (by omega)];simpa using h1
  ·rw [List.getElem?_take_of_lt (by omega)];simpa using h2
theorem outO_step {wr X:World} {base n c1 g j B2 c3:Nat} {cur bx:Array Value} {done:List Ac} {a:Ac} {A3:Option Addr} {v:Value} {o:Obj} (hg1:base ≤ g) (hgl:g < wr.heap.size) (hX:Below wr.heap.size wr X) (hgX:Blk X g 37 cur)
  (hBX:Blk X wr.heap.size 37 bx) (hcur:cur.size=c1 * 3∧n ≤ c1∧c1 ≤ maxLen)
  (hsz:n * 3 ≤ cur.size) (hlt:j < n) (hd:done.length=j) (hdone:∀ i a,done[i]?=some a→RAccO wr base g (i * 3) a) (hown:X.ownsRow B2 3 1 (.slice A3 a.pos.length c3) a.pos.length (ints a.pos)) (hB2:base ≤ B2)
  (hlen:a.pos.length * 8 ≤ 140737488355328) :
  OutO (((((X.setCell ⟨wr.heap.size,1,none⟩ v).setCell ⟨g,j * 3,none⟩ (.int .i64 a.id)).setCell ⟨g,j * 3 + 1,none⟩ (.int .i64 a.bal)).setCell ⟨g,j * 3 + 2,none⟩ (.slice A3 a.pos.length c3)).alloc o) base n c1 (some ⟨g,0,none⟩) (done ++ [a]):=by
 have hne:g ≠ wr.heap.size:=by omega
 have hZ:=((((hgX.far (p:=⟨wr.heap.size,1,none⟩) hne v).set_ (j * 3) (.int .i64 a.id)).set_ (j * 3 + 1) (.int .i64 a.bal)).set_ (j * 3 + 2) (.slice A3 a.pos.length c3)).alloc o
 have hK:Kept [37] X (((((X.setCell ⟨wr.heap.size,1,none⟩ v).setCell ⟨g,j * 3,none⟩ (.int .i64 a.id)).setCell ⟨g,j * 3 + 1,none⟩ (.int .i64 a.bal)).setCell ⟨g,j * 3 + 2,none⟩ (.slice A3 a.pos.length c3)).alloc o):=by
  refine Kept.alloc ?_ o
  exact ((((Kept.refl _ X).set hBX (by decide) _ _).set (hgX.far (p:=⟨wr.heap.size,1,none⟩) hne v) (by decide) _ _).set ((hgX.far (p:=⟨wr.heap.size,1,none⟩) hne v).set_ _ _) (by decide) _ _).set (((hgX.far (p:=⟨wr.heap.size,1,none⟩) hne v).set_ _ _).set_ _ _) (by decide) _ _
 have hO:=own_mono (hK.own hown (by decide)) hB2
 generalize (((((X.setCell ⟨wr.heap.size,1,none⟩ v).setCell ⟨g,j * 3,none⟩ (.int .i64 a.id)).setCell ⟨g,j * 3 + 1,none⟩ (.int .i64 a.bal)).setCell ⟨g,j * 3 + 2,none⟩ (.slice A3 a.pos.length c3)).alloc o)=Z at *
 refine .inr ⟨g,_,rfl,hg1,hZ,by simpa using hsz,fun i b hb=>?_,by simpa using hcur.1,hcur.2.1,hcur.2.2⟩
 have h3:j * 3 + 2 < cur.size:=by omega
 by_cases hi:i < j
 ·rw [List.getElem?_append_left (by omega)] at hb
  obtain ⟨A2,c2,h0,h1,h2,h5,h6⟩:=hdone i b hb
  have hcell:∀ m,m < 3→Z.cell? ⟨g,i * 3 + m,none⟩=wr.cell? ⟨g,i * 3 + m,none⟩:=by
   intro m hm
   rw [hZ.cell,set3_other (by omega),← hgX.cell]
   exact hX.cell (p:=⟨g,i * 3 + m,none⟩) hgl
  exact ⟨A2,c2,(hcell 0 (by omega)).trans h0,(hcell 1 (by omega)).trans h1,(hcell 2 (by omega)).trans h2,hK.own (own_below h5 hX (Nat.le_refl _)) (by decide),h6⟩
 ·rw [List.getElem?_append_right (by omega)] at hb
  have hij:i - done.length=0:=by
   rcases Nat.eq_zero_or_pos (i - done.length) with h0 | h0
   ·exact h0
   ·rw [List.getElem?_eq_none (by simp;omega)] at hb;cases hb
  rw [hij] at hb
  simp at hb
  subst hb
  obtain rfl:i=j:=by omega
  obtain ⟨e0,e1,e2⟩:=set3_at (x:=.int .i64 a.id) (y:=.int .i64 a.bal) (z:=.slice A3 a.pos.length c3) h3
  exact ⟨A3,c3,by rw [hZ.cell];exact e0,by rw [hZ.cell];exact e1,by rw [hZ.cell];exact e2,hO,hlen⟩
set_option maxHeartbeats 2000000 in
theorem settle_own (A:Option Addr) (n c:Nat) (L:List Ac) (market mark rate:Int) (w:World) (h:RdL shAcc w w.heap.size A n c L) :
  Calls Try.prog 40 #[.slice A n c,.int .i64 market,.int .i64 mark,.int .i64 rate] w (RetSettleO w (settleOf L market mark rate)):=by
 have hl:=h.len
 have hle:=h.le
 have hcap:=h.cap
 unfold maxLen at hcap
 by_cases h8:8 < n
 ·have HE:=Lib.hid (show settleOf L market mark rate=([],0,2) by unfold settleOf;rw [if_pos (by omega)])
  clear hl
  go_enter Try.func40,Try.ntmps40
  go_wp2_with fail
  go_ret3
  rw [HE.out]
  exact ⟨none,0,_,rfl,ownAc_nil _ _,Below.refl _ _⟩
 ·have HE:=Lib.hid (show settleAcc market mark rate [] 0 (L.drop 0)=settleOf L market mark rate by unfold settleOf;rw [if_neg (by omega)];rfl)
  have HL:=Lib.hid hl
  clear hl
  obtain ⟨xs,hx,hx1⟩:=h.flat (by decide)
  go_enter Try.func40,Try.ntmps40
  go_wp2_with fail
  refine (clone_accs _ _ _ xs _ _ hx hx1 (Nat.le_refl _) (by omega)).mono ?_
  rintro e w1 ⟨v1,rfl,hown,hb1⟩
  obtain ⟨A1,c1,rfl⟩:=own_shape hown
  have HV:=Lib.hid (Rd.of_own hown)
  have hout:OutO w1 w.heap.size n c1 A1 []:=by
   obtain ⟨_,⟨hv,hn⟩ | ⟨g,cap,cur,hv,h1,h2,h3,h5,h4,_⟩⟩:=hown
   ·injection hv with hv1 _ hv3
    exact .inl ⟨hn,rfl,hv1,hv3⟩
   ·injection hv with hA _ hC
    subst hC
    exact .inr ⟨g,cur,hA,h1,h2,by rw [h4];exact Nat.mul_le_mul_right _ h3,by simp,h4,h3,h5⟩
  have HO:=Lib.hid hout
  clear hout hx hx1 hown
  go_wp2_with fail
  go_loopw [12,24] (fun s i wr=>∃ (j:Nat) (left:Int) (done:List Ac),j ≤ n∧s=.int .i64 left∧i=.int .i64 j∧Below w.heap.size w wr∧(-100000 * (j:Int) ≤ left∧left ≤ 100000 * (j:Int)) ∧
    Hid (done.length=j)∧Hid (settleAcc market mark rate done left (L.drop j)=settleOf L market mark rate)∧Hid (OutO wr w.heap.size n c1 A1 done)) (fun _ i _=>n - (intOf i).toNat)
  case atStart=>exact ⟨0,0,[],Nat.zero_le _,rfl,rfl,hb1,by omega,rfl,HE,HO⟩
  case round =>
   obtain ⟨j,left,done,hj,rfl,rfl,hbr,hleft,HD,HS,HO⟩:=hrel
   by_cases hlt:j < n
   ·obtain ⟨b,o,a,rfl,hb,ha,A2,c2,k0,k1,k2,k3,k4⟩:=acc_at (h.below hbr) hlt
    have HA:=Lib.hid ha
    clear ha
    have hbr':b < wr.heap.size:=by have:=hbr.size;omega
    obtain ⟨p,ep,hp⟩:∃ p ep,pays a market mark rate=(p,ep):=⟨_,_,rfl⟩
    have HP:=Lib.hid (show paysOf a.id a.bal a.pos market mark rate=(p,ep) from hp)
    have hst:=settle_step (market:=market) (mark:=mark) (rate:=rate) (left:=left) (done:=done) HA.out
    rw [HS.out,hp] at hst
    have HT:=Lib.hid hst
    clear hst hp
    by_cases he:ep=0
    ·subst he
     obtain ⟨hp1,hp2⟩:=pays_bd HP.out
     have hbal:=(accCheck_ok (pays_ok HP.out).1).2.2.2.1
     obtain ⟨q,eq,hq⟩:∃ q eq,addAll [a.bal,-p]=(q,eq):=⟨_,_,rfl⟩
     have HQ:=Lib.hid hq
     have HT2:=Lib.hid (HT.out.trans (if_neg (by simp)))
     clear HT hq
     go_wp2_with fail
     refine (pays_any _ _ _ _ _ _ _ _ _ _ _ (k3.alloc hbr.size _) (by have:=hbr.size;simp;omega)).mono ?_
     rintro e w2 ⟨rfl,hb2⟩
     rw [HP.out]
     have hB2:=(Blk.new wr 37 #[.int .i64 a.id,.int .i64 a.bal,.slice A2 a.pos.length c2]).below hb2 (by simp)
     obtain ⟨⟨q0,q1,q2⟩,p0,p1,p2⟩:=hB2.c3
     have hbw2:Below wr.heap.size wr w2:=((Below.refl _ _).alloc (Nat.le_refl _) _).trans (hb2.mono (by simp))
     have hz2:wr.heap.size < w2.heap.size:=size_two hb2
     go_wp2_with fail
     refine (accCopy_any _ _ _ _ _ _ _ _ (k3.below (hbw2.mono hbr.size)) (by have:=hbr.size;omega) k4).mono ?_
     rintro e w3 ⟨A3,c3,rfl,hown3,hb3⟩
     have hB3:=hB2.below hb3 hz2
     clear q0 q1 q2 p0 p1 p2
     obtain ⟨⟨q0,q1,q2⟩,p0,p1,p2⟩:=hB3.c3
     have hz3:wr.heap.size < w3.heap.size:=by have:=hb3.size;omega
     go_wp2_with fail
     obtain ⟨X,hX⟩:∃ X,X=((w3.setCell ⟨wr.heap.size,0,none⟩ (.int .i64 a.id)).setCell ⟨wr.heap.size,1,none⟩ (.int .i64 a.bal)).setCell ⟨wr.heap.size,2,none⟩ (.slice A3 a.pos.length c3):=⟨_,rfl⟩
     rw [← hX]
     have hBX:Blk X wr.heap.size 37 #[.int .i64 a.id,.int .i64 a.bal,.slice A3 a.pos.length c3]:=by
      rw [hX];exact ((hB3.set_ 0 _).set_ 1 _).set_ 2 _
     have hXw:Below wr.heap.size wr X:=by
      rw [hX];exact (((hbw2.trans (hb3.mono (by omega))).setCell (Nat.le_refl _) _).setCell (Nat.le_refl _) _).setCell (Nat.le_refl _) _
     have hXo:X.ownsRow w2.heap.size 3 1 (.slice A3 a.pos.length c3) a.pos.length (ints a.pos):=by
      rw [hX];exact ownsRow_setCell_below (ownsRow_setCell_below (ownsRow_setCell_below hown3 hz2 _) hz2 _) hz2 _
     have hXs:w3.heap.size=X.heap.size:=by rw [hX];simp [World.setCell]
     rw [hXs] at hz3
     have HXs:=Lib.hid hXs
     clear hX hb3 hown3 hB3 hB2 q0 q1 q2 p0 p1 p2 hXs k0 k1 k2
     refine (add_any _ _ _ [a.bal,-p] _ _ (Rd.new_at X _ _ _ 2 HXs.out rfl (by decide))).mono ?_
     rintro e w' ⟨rfl,rfl⟩
     rw [HQ.out,HXs.out]
     obtain ⟨⟨q0,q1,q2⟩,p0,p1,p2⟩:=hBX.c3
     by_cases heq:eq=0
     ·subst heq
      have HE2:=Lib.hid (show settleAcc market mark rate (done ++ [{ a with bal:=q }]) (left + p) (L.drop (j + 1))=settleOf L market mark rate by rw [HT2.out,HQ.out,if_neg (by simp)])
      clear HT2
      rcases HO.out with ⟨h0,_⟩ | ⟨g,cur,rfl,hg1,hg2,hg3,hg4,hg5⟩
      ·omega
      have HCUR:=Lib.hid hg5
      have HBX:=Lib.hid hBX
      clear hg5
      have hgl:g < wr.heap.size:=Blk.lt (t:=37) (cs:=cur) hg2
      have hgX:=(hXw.block g hgl).trans hg2
      have HG:=Lib.hid hg4
      obtain ⟨u0,u1,u2,⟨r0,r1,r2⟩,t0,t1,t2⟩:=row3 hgX hg3 hlt
      have HgX:=Lib.hid hgX
      have Hg2:=Lib.hid hg2
      clear hgX hg2 hg4
      have hgX':g < X.heap.size:=by omega
      go_wp2_with fail
      clear r0 r1 r2 t0 t1 t2 u0 u1 u2 q0 q1 q2 p0 p1 p2
      go_roundw
      case rel =>
       refine ⟨j + 1,left + p,_,by omega,rfl,by go_num,hbr.trans ?_,by omega,?_,HE2,?_⟩
       ·have h1:=hXw.size
        have h2:=hbr.size
        exact (((((hXw.mono hbr.size).setCell (p:=⟨wr.heap.size,1,none⟩) hbr.size _).setCell (p:=⟨g,j * 3,none⟩) hg1 _).setCell (p:=⟨g,j * 3 + 1,none⟩) hg1 _).setCell (p:=⟨g,j * 3 + 2,none⟩) hg1 _).alloc (by simp [World.setCell];omega) _
       ·show _=_
        rw [List.length_append,HD.out];rfl
       ·exact outO_step (a:={ a with bal:=q }) hg1 hgl hXw HgX.out HBX.out HCUR.out hg3 hlt HD.out HG.out hXo (by have:=hbr.size;omega) k4
      case measure=>simp [intOf];omega
     ·have HE2:=Lib.hid (show settleOf L market mark rate=([],0,eq) by rw [HT2.out,HQ.out,if_pos heq])
      have heq':(eq != 0)=true:=by simpa using heq
      clear heq HT2
      go_wp2_with fail
      go_ret3
      rw [HE2.out]
      refine ⟨none,0,_,rfl,ownAc_nil _ _,hbr.trans ?_⟩
      exact ((hXw.mono hbr.size).setCell (p:=⟨wr.heap.size,1,none⟩) hbr.size _).alloc (by have h1:=hXw.size;have h2:=hbr.size;simp [World.setCell];omega) _
    ·have HE2:=Lib.hid (HT.out.trans (if_pos he))
     have he':(ep != 0)=true:=by simpa using he
     clear he HT
     go_wp2_with fail
     refine (pays_any _ _ _ _ _ _ _ _ _ _ _ (k3.alloc hbr.size _) (by have:=hbr.size;simp;omega)).mono ?_
     rintro e w2 ⟨rfl,hb2⟩
     rw [HP.out]
     go_wp2_with fail
     go_ret3
     rw [HE2.out]
     exact ⟨none,0,_,rfl,ownAc_nil _ _,hbr.trans (((Below.refl _ _).alloc hbr.size _).trans (hb2.mono (by have:=hbr.size;simp;omega)))⟩
   ·have hjn:j=n:=by omega
    have HE2:=Lib.hid (show settleOf L market mark rate=(done,left,0) by
     rw [← HS.out,List.drop_eq_nil_of_le (by have:=HL.out;omega)];rfl)
    have HDn:=Lib.hid (HD.out.trans hjn)
    clear hjn HS HE
    go_wp2_with fail
    go_ret3
    rw [HE2.out]
    obtain ⟨xs2,hown2⟩:=HO.out.own HDn.out
    exact ⟨A1,c1,xs2,ret_sii HDn.out.symm,hown2.cast HDn.out.symm,hbr⟩
end
section
open Go.RowKit
structure DeskR (w:World) (base D:Nat) (d:Dk) (A:Option Addr) (c:Nat) (M:Option Addr) (k:Nat) (vE:Value):Prop where
 blk:Blk w D 174 #[.slice A d.v.accs.length c,.slice M d.v.mks.length k,.int .i64 d.v.ins,.int .i64 d.v.resid,.int .i64 d.v.next,.int .i64 d.v.inn,.int .i64 d.v.out,vE]
 accs:∃ xs,OwnAc w base A d.v.accs.length c d.v.accs xs
 mks:∃ ys,OwnMk w base false M d.v.mks.length k d.v.mks ys
 evs:w.ownsRow base 124 13 vE d.ev.length (evCells d.ev)
def RetDr (w:World) (base D:Nat) (r:Except Int Dk) (e:Ending) (w':World):Prop :=
 match r with
 | .ok d'=>e=.returned (.int .i64 0)∧(∃ A c M k vE,DeskR w' base D d' A c M k vE)∧Below base w w'
 | .error n=>n ≠ 0∧e=.returned (.int .i64 n)∧Below base w w'
theorem Desk.dr {w:World} {base D c k:Nat} {ap:Bool} {d:Dk} {A M:Option Addr} {vE:Value} {xs ys:List Value} (h:Desk w base D ap d A c M k vE xs ys):DeskR w base D d A c M k vE:=⟨h.blk,⟨_,h.accs⟩,⟨_,h.mks.weak⟩,h.evs⟩
theorem retDk_dr {w w':World} {base D:Nat} {ap:Bool} {A:Option Addr} {c:Nat} {M:Option Addr} {k:Nat} {S:List TypeId} {G:List Nat} {r:Except Int Dk} {e:Ending} (h:RetDk w base D ap A c M k S G r e w'):RetDr w base D r e w':=by
 cases r with
 | error n=>exact h
 | ok d'=>obtain ⟨h1,⟨vE,xs,ys,h2⟩,h3,_⟩:=h;exact ⟨h1,⟨A,c,M,k,vE,h2.dr⟩,h3⟩
theorem retDr_err {w w':World} {base D:Nat} {r:Except Int Dk} {n:Int} (h:r=.error n) (hn:n ≠ 0) (hb:Below base w w'):RetDr w base D r (.returned (.int .i64 n)) w':=by subst h;exact ⟨hn,rfl,hb⟩
theorem retDr_ok {w w':World} {base D:Nat} {r:Except Int Dk} {d':Dk} {A M:Option Addr} {c k:Nat} {vE:Value} (h:r=.ok d') (hd:DeskR w' base D d' A c M k vE) (hb:Below base w w') :
  RetDr w base D r (.returned (.int .i64 0)) w':=by subst h;exact ⟨rfl,⟨_,_,_,_,_,hd⟩,hb⟩
theorem moved_snoc:∀ {out L:List Ac} {j:Nat} {a b:Ac},out[j]?=some a→L[j]?=some b →
  movedEvs (out.take (j + 1)) (L.take (j + 1))=movedEvs (out.take j) (L.take j) ++ (if a.bal - b.bal ≠ 0 then [⟨5,0,0,0,a.id,a.bal - b.bal,zeroFl⟩] else [])
 | [],_,_,_,_,h,_=>by simp at h
 | _ :: _,[],_,_,_,_,h=>by simp at h
 | x :: out,y :: L,0,a,b,h,h'=>by
  simp only [List.getElem?_cons_zero,Option.some.injEq] at h h'
  subst h h'
  simp [movedEvs]
 | x :: out,y :: L,j + 1,a,b,h,h'=>by
  simp only [List.getElem?_cons_succ] at h h'
  have ih:=moved_snoc h h'
  simp only [List.take_succ_cons,movedEvs,ih,List.append_assoc]
theorem moved_len:∀ (out L:List Ac),(movedEvs out L).length ≤ out.length
 | [],_=>by simp [movedEvs]
 | _ :: _,[]=>by simp [movedEvs]
 | x :: out,y :: L=>by
  have:=moved_len out L
  simp only [movedEvs,List.length_append,List.length_cons]
  split <;> simp <;> omega
theorem market_who {cm:Cm} {d:Dk} (h:cm.market < 0∨(d.v.mks.length:Int) ≤ cm.market):marketE cm d=.error 5:=by unfold marketE;rw [if_pos h]
theorem market_idx_bad {cm:Cm} {d:Dk} (h:¬ (cm.market < 0∨(d.v.mks.length:Int) ≤ cm.market)) (hk:cm.kind=5) (hn:cm.n < 1∨10000 < cm.n):marketE cm d=.error 3:=by
 unfold marketE;rw [if_neg h,if_pos hk,if_pos hn]
theorem market_idx {cm:Cm} {d:Dk} {mk:Nat} {m:Mk} (h:¬ (cm.market < 0∨(d.v.mks.length:Int) ≤ cm.market)) (hm:cm.market=mk) (hmm:d.v.mks[mk]?=some m) (hk:cm.kind=5) (hn:¬ (cm.n < 1∨10000 < cm.n)) :
  marketE cm d=.ok ⟨setMk d.v mk { m with index:=cm.n },d.ev⟩:=by
 unfold marketE;rw [if_neg h,if_pos hk,if_neg hn,hm,Int.toNat_natCast,show mkAt d.v mk=m from getD_some hmm]
theorem market_fund {cm:Cm} {d:Dk} {mk:Nat} {m:Mk} {n em left es rs ea:Int} {out:List Ac} (h:¬ (cm.market < 0∨(d.v.mks.length:Int) ≤ cm.market)) (hm:cm.market=mk) (hmm:d.v.mks[mk]?=some m) (hk:cm.kind ≠ 5)
  (hmo:markOf m=(n,em)) (hs:settleOf d.v.accs mk n cm.n=(out,left,es)) (ha:addAll [d.v.resid,left]=(rs,ea)) :
  marketE cm d=okIf em (okIf es (okIf ea (.ok ⟨{ d.v with accs:=out,resid:=rs },d.ev ++ movedEvs out d.v.accs⟩))):=by
 unfold marketE
 rw [if_neg h,if_neg hk,hm,Int.toNat_natCast,show mkAt d.v mk=m from getD_some hmm,hmo]
 simp only
 rw [hs]
 simp only
 rw [ha]
theorem settle_ref {out:List Ac} {left es:Int} (A:Option Addr) (n c:Nat) (L:List Ac) (market mark rate:Int) (w:World) (hr:settleOf L market mark rate=(out,left,es)) (h:RdL shAcc w w.heap.size A n c L) :
  Calls Try.prog 40 #[.slice A n c,.int .i64 market,.int .i64 mark,.int .i64 rate] w (RetSettleO w (out,left,es)):=by rw [← hr];exact settle_own A n c L market mark rate w h
theorem mark_ref {n e':Int} (m:Mk) (A A':Option Addr) (c c':Nat) (B:Nat) (w:World) (hr:markOf m=(n,e')) (h:BkR w B A A' c c' m.book) (hB:B ≤ w.heap.size) (hl:m.book.bids.length ≤ 4000000000000) (hl':m.book.asks.length ≤ 4000000000000) :
  Calls Try.prog 59 #[.agg #[.slice A m.book.bids.length c,.slice A' m.book.asks.length c',.int .i64 m.index,.int .i64 m.last]] w fun e w'=>e=.returned (.tuple #[.int .i64 n,.int .i64 e'])∧Below w.heap.size w w':=by
 have:=mark_any m A A' c c' B w h.l h.r hB hl hl'
 rw [hr] at this;exact this
theorem OwnAc.lower {w:World} {base base' n c:Nat} {A:Option Addr} {L:List Ac} {xs:List Value} (h:OwnAc w base A n c L xs) (hb:base' ≤ base):OwnAc w base' A n c L xs :=
 ⟨own_mono h.row hb,h.len,fun i a ha=>by
  obtain ⟨A2,c2,h0,h1,h2,h3,h4⟩:=h.cell i a ha
  exact ⟨A2,c2,h0,h1,h2,own_mono h3 hb,h4⟩⟩
structure MvR (w wr:World) (base D:Nat) (d:Dk) (A:Option Addr) (c:Nat) (M:Option Addr) (k:Nat) (xs ys:List Value) (out:List Ac) (A6:Option Addr) (c6:Nat) (xs6:List Value) (j:Nat) (vE:Value):Prop where
 desk:Desk wr base D false ⟨d.v,d.ev ++ movedEvs (out.take j) (d.v.accs.take j)⟩ A c M k vE xs ys
 low:Below base w wr
 own:OwnAc wr base A6 out.length c6 out xs6
theorem mvr_below {w wr W:World} {base D:Nat} {d:Dk} {A:Option Addr} {c:Nat} {M:Option Addr} {k:Nat} {xs ys:List Value} {out:List Ac} {A6:Option Addr} {c6:Nat} {xs6:List Value} {j:Nat} {vE:Value} (h:MvR w wr base D d A c M k xs ys out A6 c6 xs6 j vE) (hb:Below wr.heap.size wr W) (hB:base ≤ wr.heap.size) :
  MvR w W base D d A c M k xs ys out A6 c6 xs6 j vE:=⟨h.desk.below hb,h.low.trans (hb.mono hB),h.own.below hb⟩
theorem mvr_skip {w wr:World} {base D:Nat} {d:Dk} {A:Option Addr} {c:Nat} {M:Option Addr} {k:Nat} {xs ys:List Value} {out:List Ac} {A6:Option Addr} {c6:Nat} {xs6:List Value} {j:Nat} {vE:Value} {n:Int} {x:Ev} (h:MvR w wr base D d A c M k xs ys out A6 c6 xs6 j vE)
  (he:movedEvs (out.take (j + 1)) (d.v.accs.take (j + 1))=movedEvs (out.take j) (d.v.accs.take j) ++ (if n ≠ 0 then [x] else [])) (hn:n=0):MvR w wr base D d A c M k xs ys out A6 c6 xs6 (j + 1) vE:=by
 rw [if_neg (by omega),List.append_nil] at he
 exact ⟨by rw [he];exact h.desk,h.low,h.own⟩
theorem mvr_tell {w wr W:World} {base D:Nat} {d:Dk} {A:Option Addr} {c:Nat} {M:Option Addr} {k:Nat} {xs ys:List Value} {out:List Ac} {A6:Option Addr} {c6:Nat} {xs6:List Value} {j:Nat} {vE vE':Value} {x:Ev} (h:MvR w wr base D d A c M k xs ys out A6 c6 xs6 j vE)
  (he:movedEvs (out.take (j + 1)) (d.v.accs.take (j + 1))=movedEvs (out.take j) (d.v.accs.take j) ++ [x]) (hd:Desk W base D false (tell ⟨d.v,d.ev ++ movedEvs (out.take j) (d.v.accs.take j)⟩ x) A c M k vE' xs ys) (hL:Below base wr W) (hK:Kept [174,124] wr W) :
  MvR w W base D d A c M k xs ys out A6 c6 xs6 (j + 1) vE':=by
 refine ⟨?_,h.low.trans hL,h.own.kept hK (by decide) (by decide)⟩
 rw [he,← List.append_assoc]
 exact hd
theorem moved_bd {m:Nat} {L out:List Ac} {market mark rate:Int} (h:AOk m L) (hl:out.length=L.length) (hs:∀ (i:Nat) (a b:Ac),L[i]?=some a→out[i]?=some b→∃ p,Settled market mark rate a b p) :
  ∀ (j:Nat) (a b:Ac),out[j]?=some a→L[j]?=some b→(-1000000000000 ≤ a.bal∧a.bal ≤ 1000000000000)∧-1000000000000 ≤ b.bal∧b.bal ≤ 1000000000000:=by
 intro j a b ha hb
 have h2:=(settled_ids hl hs).2.1 _ h
 exact ⟨(accCheck_ok (h2.ok a (List.mem_of_getElem? ha))).2.2.2.1,(accCheck_ok (h.ok b (List.mem_of_getElem? hb))).2.2.2.1⟩
set_option maxHeartbeats 4000000 in
set_option maxRecDepth 100000 in
theorem market_dk (base D:Nat) (d:Dk) (A:Option Addr) (c:Nat) (M:Option Addr) (k:Nat) (vE:Value) (xs ys:List Value) (cm:Cm) (w:World) (h:Desk w base D false d A c M k vE xs ys) (hb:base ≤ w.heap.size) (hv:VOk d.v) (hl:d.ev.length ≤ 900000) :
  Calls Try.prog 175 #[.pointer (some ⟨D,0,none⟩),.agg #[.int .i64 cm.kind,.int .i64 cm.acc,.int .i64 cm.market,.int .i64 cm.n,.int .i64 cm.o.id,.int .i64 cm.o.acc,.int .i64 cm.o.side,.int .i64 cm.o.price,.int .i64 cm.o.qty,.int .i64 cm.how,.bool cm.reduce]] w (RetDr w base D (marketE cm d)):=by
 have HD:=Lib.hid h
 have HV:=Lib.hid hv
 have hDl:=h.lt
 obtain ⟨hv1,hv2⟩:=hv.len
 clear h hv
 obtain ⟨⟨-,k1,-⟩,-⟩:=HD.out.blk.c8
 by_cases h1:cm.market < 0
 ·have HE:=Lib.hid (market_who (d:=d) (.inl h1))
  go_enter Try.func175,Try.ntmps175
  go_wp2_with fail
  go_quiet (fail)
  go_wp2_with fail
  go_ret
  exact retDr_err HE.out (by omega) (below_drewN ((Below.refl _ _).alloc hb _) _)
 have h1':0 ≤ cm.market:=by omega
 by_cases h2:(d.v.mks.length:Int) ≤ cm.market
 ·have HE:=Lib.hid (market_who (d:=d) (.inr h2))
  clear h1
  go_enter Try.func175,Try.ntmps175
  go_wp2_with fail
  go_quiet (fail)
  go_wp2_with fail
  go_ret
  exact retDr_err HE.out (by omega) (below_drewN ((Below.refl _ _).alloc hb _) _)
 obtain ⟨mk,hmk⟩:∃ mk:Nat,cm.market=(mk:Int):=⟨cm.market.toNat,by omega⟩
 have HNB:=Lib.hid (show ¬ (cm.market < 0∨(d.v.mks.length:Int) ≤ cm.market) by omega)
 have HMK:=Lib.hid hmk
 rw [hmk]
 have h3:mk < d.v.mks.length:=by omega
 have h3':(mk:Int) < (d.v.mks.length:Int):=by omega
 have h3n:¬ ((d.v.mks.length:Int) ≤ (mk:Int)):=by omega
 obtain ⟨m,hm⟩:∃ m,d.v.mks[mk]?=some m:=⟨_,List.getElem?_eq_getElem h3⟩
 have HM:=Lib.hid hm
 have hd1:decide ((mk:Int) < 0)=false:=decide_eq_false (by omega)
 have hd2:decide ((d.v.mks.length:Int) ≤ (mk:Int))=false:=decide_eq_false h3n
 have hd3:decide (d.v.mks.length ≤ mk)=false:=decide_eq_false (by omega)
 clear h1 h1' h2 hmk hm
 go_enter Try.func175,Try.ntmps175
 go_wp2_with fail
 refine wp_name ?_
 intro W0 hW0
 have hB0:Below w.heap.size w W0:=by rw [hW0];exact (Below.refl _ _).alloc (Nat.le_refl _) _
 have hs0:W0.heap.size=w.heap.size + 1:=by rw [hW0];simp
 have X0:Blk W0 w.heap.size 113 #[.int .i64 cm.kind,.int .i64 cm.acc,.int .i64 mk,.int .i64 cm.n,.int .i64 cm.o.id,.int .i64 cm.o.acc,.int .i64 cm.o.side,.int .i64 cm.o.price,.int .i64 cm.o.qty,.int .i64 cm.how,.bool cm.reduce]:=by rw [hW0];exact Blk.new w _ _
 have HD0:=Lib.hid (HD.out.below hB0)
 clear hW0 k1
 obtain ⟨⟨-,k1,-⟩,-⟩:=HD0.out.blk.c8
 obtain ⟨g,A2,c2,A3,c3,rfl,hg1,hg2,hin,⟨cs,hgB⟩,⟨q0,q1,q2,q3⟩,⟨r0,r1,r2,r3⟩,hbk,hl1,hl2,-⟩:=omk_at HD0.out.mks HM.out
 have HG:=Lib.hid hgB
 have HBK:=Lib.hid hbk
 have x2:=X0.cell 2
 have y0:=X0.lt
 have y1:D < W0.heap.size:=HD0.out.lt
 clear hgB hbk
 go_wp2_with fail
 go_quiet (fail)
 refine exit_name ?_
 intro W1 hW1
 have hB1:Below W0.heap.size W0 W1:=by rw [hW1];exact below_drewN (Below.refl _ _) _
 have hs1:W1.heap.size=W0.heap.size:=by rw [hW1];rfl
 have hwW:∀ a,W1.cell? a=W0.cell? a:=fun a=>by rw [hW1];rfl
 clear hW1
 go_wp2_with fail
 go_quiet (fail)
 refine exit_name ?_
 intro W2 hW2
 have hB2:Below W0.heap.size W0 W2:=by rw [hW2];exact below_drewN hB1 _
 have hs2:=hB2.size
 have HD2:=Lib.hid (HD0.out.below hB2)
 have HB2:=Lib.hid (hB0.trans (hB2.mono (by omega)))
 have X2:=X0.below hB2 X0.lt
 clear hW2 hB2 hB1 hwW hs1 k1 q0 q1 q2 q3 r0 r1 r2 r3 x2 HG HBK hd1 hd2 hd3
 obtain ⟨g',A4,c4,A5,c5,hg',-,hg5,-,⟨cs',hgB⟩,⟨q0,q1,q2,q3⟩,⟨r0,r1,r2,r3⟩,hbk,-⟩:=omk_at HD2.out.mks HM.out
 obtain rfl:g'=g:=by injection hg' with hg';injection hg' with hg';exact hg'.symm
 have HG:=Lib.hid hgB
 have HBK:=Lib.hid hbk
 have x0:W2.cell? ⟨w.heap.size,0,none⟩=some (.int .i64 cm.kind):=X2.cell 0
 have x3:W2.cell? ⟨w.heap.size,3,none⟩=some (.int .i64 cm.n):=X2.cell 3
 have y2:=X2.lt
 clear hgB hbk hg'
 by_cases hk:cm.kind=5
 ·have hk':(cm.kind == 5)=true:=by simpa using hk
  by_cases hn:cm.n < 1∨10000 < cm.n
  ·have HE:=Lib.hid (market_idx_bad HNB.out hk hn)
   have hn':cm.n < 1∨1 ≤ cm.n∧10000 < cm.n:=by omega
   clear hk hn
   rcases hn' with hn | ⟨hn,hn'⟩
   all_goals
    go_wp2_with fail
    go_ret
    exact retDr_err HE.out (by omega) (HB2.out.mono hb)
  ·have HE:=Lib.hid (market_idx HNB.out HMK.out HM.out hk hn)
   obtain ⟨hn1,hn2⟩:1 ≤ cm.n∧cm.n ≤ 10000:=by omega
   clear hk hn
   go_wp2_with fail
   refine post_name ?_
   intro Z hZ
   obtain ⟨ys2,hd⟩:=desk_num HD2.out (a:=m) (a':={ m with index:=cm.n }) HM.out rfl (.inl ⟨rfl,rfl,rfl⟩) HG.out (.inr hZ)
   have HDZ:=Lib.hid hd.dr
   have hLZ:Below base w Z:=by rw [hZ];exact (HB2.out.mono hb).setCell hg1 _
   clear hZ hd
   go_ret
   exact retDr_ok HE.out HDZ.out hLZ
 ·have hk':(cm.kind == 5)=false:=by simpa using hk
  obtain ⟨n,em,hmo⟩:∃ n em,markOf m=(n,em):=⟨_,_,rfl⟩
  obtain ⟨out,left,es,hse⟩:∃ out left es,settleOf d.v.accs mk n cm.n=(out,left,es):=⟨_,_,_,rfl⟩
  obtain ⟨rs,ea,had⟩:∃ rs ea,addAll [d.v.resid,left]=(rs,ea):=⟨_,_,rfl⟩
  have HE:=Lib.hid (market_fund HNB.out HMK.out HM.out hk hmo hse had)
  have HMO:=Lib.hid hmo
  have HSE:=Lib.hid hse
  have HAD:=Lib.hid had
  clear hk hmo hse had
  go_wp2_with fail
  refine (mark_ref m _ _ _ _ W2.heap.size W2 HMO.out HBK.out.read (Nat.le_refl _) hl1 hl2).mono ?_
  rintro e W3 ⟨rfl,hb3⟩
  have hs3:=hb3.size
  have HD3:=Lib.hid (HD2.out.below hb3)
  have HB3:=Lib.hid (HB2.out.trans (hb3.mono (by omega)))
  have X3:=X2.below hb3 X2.lt
  clear hb3 q0 q1 q2 q3 r0 r1 r2 r3 x0 x3 X2 HG HBK
  by_cases hem:em=0
  rotate_left
  ·have he':(em != 0)=true:=by simpa using hem
   have HEE:=Lib.hid (show marketE cm d=.error em by rw [HE.out];unfold okIf;rw [if_pos hem])
   have HN:=Lib.hid hem
   clear hem
   go_wp2_with fail
   go_ret
   exact retDr_err HEE.out HN.out (HB3.out.mono hb)
  subst hem
  go_wp2_with fail
  have y3:=X3.lt
  have y4:D < W3.heap.size:=HD3.out.lt
  have h00:Below W3.heap.size W3 W3:=Below.refl _ _
  have KS:Hid (∀ W,Below W3.heap.size W3 W→Below W3.heap.size W3 W∧W.cell? ⟨w.heap.size,2,none⟩=some (.int .i64 mk)∧W.cell? ⟨w.heap.size,3,none⟩=some (.int .i64 cm.n)∧W.cell? ⟨D,0,none⟩=some (.slice A d.v.accs.length c)):=by
   intro W hW
   obtain ⟨⟨k0,-⟩,-⟩:=(HD3.out.below hW).blk.c8
   exact ⟨hW,(X3.below hW X3.lt).cell 2,(X3.below hW X3.lt).cell 3,k0⟩
  go_region_held3 (fun W=>Below W3.heap.size W3 W∧W.cell? ⟨w.heap.size,2,none⟩=some (.int .i64 mk)∧W.cell? ⟨w.heap.size,3,none⟩=some (.int .i64 cm.n)∧W.cell? ⟨D,0,none⟩=some (.slice A d.v.accs.length c))
   (first | exact KS.out _ (by assumption) | exact KS.out _ (dk_drew (by assumption)))
   ((go_at_call 40;go_split_ands;(with_reducible refine (settle_ref A d.v.accs.length c d.v.accs mk n cm.n _ HSE.out (HD3.out.below (by first | assumption | exact dk_drew (by assumption))).accs.read).mono ?_);rintro e W4 ⟨A6,c6,xs6,rfl,hown4,hb4⟩;have hB4:=dk_next (w0:=W3) hb4 (by first | assumption | exact dk_drew (by assumption))))
  refine exit_name ?_
  rintro W hW
  obtain rfl:W4=W:=hW.symm
  have HD4:=Lib.hid (HD3.out.below hB4)
  have HB4:=Lib.hid (HB3.out.trans (hB4.mono (by omega)))
  have hs4:=hB4.size
  have HO4:=Lib.hid hown4
  clear hb4 hW KS h00 hB4 hown4
  by_cases hes:es=0
  rotate_left
  ·have he':(es != 0)=true:=by simpa using hes
   have HEE:=Lib.hid (show marketE cm d=.error es by rw [HE.out];unfold okIf;rw [if_neg (by simp),if_pos hes])
   have HN:=Lib.hid hes
   clear hes
   go_wp2_with fail
   go_ret
   exact retDr_err HEE.out HN.out (HB4.out.mono hb)
  subst hes
  have HEE:=Lib.hid (show marketE cm d=okIf ea (.ok ⟨{ d.v with accs:=out,resid:=rs },d.ev ++ movedEvs out d.v.accs⟩) by rw [HE.out];rfl)
  have hOA:=OwnAc.lower HO4.out (show base ≤ W3.heap.size by omega)
  have HO:=Lib.hid hOA
  obtain ⟨g1,g2,g3,g4,g5⟩:=settle_even HSE.out
  have HOL:=Lib.hid g1
  have HBD:=Lib.hid (moved_bd HV.out.accs g1 g3)
  have hol:out.length ≤ 8:=by rw [g1];exact aok_len HV.out.accs
  have hb4':base ≤ W4.heap.size:=by omega
  have HR0:=Lib.hid (show MvR W4 W4 base D d A c (some ⟨g',0,none⟩) k xs ys out A6 c6 xs6 0 vE from ⟨by simpa [movedEvs] using HD4.out,Below.refl _ _,HO.out⟩)
  clear HE HO4 g1 g2 g3 g4 g5 hOA HSE
  go_wp2_with fail
  go_loopw [81] (fun i wr=>∃ (j:Nat) (vE1:Value),j ≤ out.length∧i=.int .i64 j∧Hid (MvR W4 wr base D d A c (some ⟨g',0,none⟩) k xs ys out A6 c6 xs6 j vE1)) (fun i _=>out.length - (intOf i).toNat)
  case atStart=>exact ⟨0,vE,Nat.zero_le _,rfl,HR0⟩
  case round =>
   obtain ⟨j,vE1,hj,rfl,HR⟩:=hrel
   have hDr:=HR.out.desk.lt
   have hbr:base ≤ wr.heap.size:=by have:=HR.out.desk.low;omega
   by_cases hlt:j < out.length
   ·obtain ⟨a,ha⟩:∃ a,out[j]?=some a:=⟨_,List.getElem?_eq_getElem hlt⟩
    obtain ⟨b,hb'⟩:∃ b,d.v.accs[j]?=some b:=⟨_,List.getElem?_eq_getElem (by rw [← HOL.out];exact hlt)⟩
    obtain ⟨z1,z2⟩:=HBD.out j a b ha hb'
    have HSN:=Lib.hid (moved_snoc ha hb')
    obtain ⟨gA,A7,c7,rfl,ga1,ga2,ga3,-,⟨q0,q1,q2⟩,-⟩:=oac_at HR.out.own ha
    go_wp2_with fail
    refine wp_name ?_
    intro W5 hW5
    have hB5:Below wr.heap.size wr W5:=by rw [hW5];exact (Below.refl _ _).alloc (Nat.le_refl _) _
    have X5:Blk W5 wr.heap.size 37 #[.int .i64 a.id,.int .i64 a.bal,.slice A7 a.pos.length c7]:=by rw [hW5];exact Blk.new wr _ _
    have HR5:=Lib.hid (mvr_below HR.out hB5 hbr)
    have y5:=X5.lt
    have hb5:base ≤ W5.heap.size:=by omega
    clear hW5 hB5 q0 q1 q2
    obtain ⟨⟨k0,-⟩,-⟩:=HR5.out.desk.blk.c8
    obtain ⟨gB,A8,c8,rfl,gb1,gb2,gb3,-,⟨q0,q1,q2⟩,-⟩:=oac_at HR5.out.desk.accs hb'
    have y6:D < W5.heap.size:=HR5.out.desk.lt
    have x1:=X5.cell 1
    have hj0:(0:Int) ≤ (j:Int):=by omega
    have hj1:(j:Int) < (d.v.accs.length:Int):=by have:j < d.v.accs.length:=gb3;omega
    go_wp2_with fail
    go_quiet (fail)
    refine exit_name ?_
    intro W6 hW6
    have hB6:Below W5.heap.size W5 W6:=by rw [hW6];exact below_drewN (Below.refl _ _) _
    have HR6:=Lib.hid (mvr_below HR5.out hB6 hb5)
    have X6:=X5.below hB6 X5.lt
    have hb6:base ≤ W6.heap.size:=Nat.le_trans hb5 hB6.size
    have y7:=X6.lt
    clear hW6 hB6 k0 q0 q1 q2 x1 X5 HR5
    obtain ⟨z3,z4⟩:=z1
    obtain ⟨z5,z6⟩:=z2
    by_cases h0:a.bal - b.bal=0
    ·have h0':(a.bal - b.bal != 0)=false:=by simpa using h0
     have HN:=Lib.hid (mvr_skip HR6.out HSN.out h0)
     clear h0
     go_wp2_with fail
     go_roundw
     case rel=>exact ⟨j + 1,vE1,by omega,by go_num,HN⟩
     case measure=>simp [intOf];omega
    ·have h0':(a.bal - b.bal != 0)=true:=by simpa using h0
     have HSN2:=Lib.hid (HSN.out.trans (by rw [if_pos h0]))
     have x0:W6.cell? ⟨wr.heap.size,0,none⟩=some (.int .i64 a.id):=X6.cell 0
     have hlen:(d.ev ++ movedEvs (out.take j) (d.v.accs.take j)).length ≤ 1000000:=by
      have:=moved_len (out.take j) (d.v.accs.take j)
      have:=List.length_take_le j out
      rw [List.length_append];omega
     clear h0
     go_wp2_with fail
     refine (tell_dk base D false _ _ c _ k vE1 xs ys ⟨5,0,0,0,a.id,a.bal - b.bal,zeroFl⟩ W6 HR6.out.desk hb6 hlen).mono ?_
     rintro e W7 ⟨rfl,⟨vE7,hd7⟩,hL7,hK7⟩
     have HN:=Lib.hid (mvr_tell HR6.out HSN2.out hd7 hL7 hK7)
     clear hd7 hL7 hK7 x0
     go_wp2_with fail
     go_roundw
     case rel=>exact ⟨j + 1,vE7,by omega,by go_num,HN⟩
     case measure=>simp [intOf];omega
   ·obtain rfl:j=out.length:=by omega
    have HEV:=Lib.hid (show out.take out.length=out∧d.v.accs.take out.length=d.v.accs from ⟨List.take_length,by rw [HOL.out,List.take_length]⟩)
    have HRZ:=Lib.hid (show Desk wr base D false ⟨d.v,d.ev ++ movedEvs out d.v.accs⟩ A c (some ⟨g',0,none⟩) k vE1 xs ys by have:=HR.out.desk;rw [HEV.out.1,HEV.out.2] at this;exact this)
    obtain ⟨⟨k0,k1,k2,k3,k4,k5,k6,k7⟩,f0,f1,f2,f3,f4,f5,f6,f7⟩:=HRZ.out.blk.c8
    go_wp2_with fail
    refine calls_name ?_
    intro W8 hW8
    have hrd:Rd W8 (wr.heap.size + 1) 1 (some ⟨wr.heap.size,0,none⟩) 2 2 (ints [d.v.resid,left]):=by rw [hW8];exact Rd.new_at _ _ _ _ 2 (size_setCell _ _ _).symm rfl (by decide)
    have V8:Blk W8 D 174 #[.slice A6 out.length c6,.slice (some ⟨g',0,none⟩) d.v.mks.length k,.int .i64 d.v.ins,.int .i64 d.v.resid,.int .i64 d.v.next,.int .i64 d.v.inn,.int .i64 d.v.out,vE1]:=by rw [hW8];exact (HRZ.out.blk.set_ 0 _).alloc _
    have hK8:Kept [174] wr W8:=by rw [hW8];exact ((Kept.refl _ _).set HRZ.out.blk (by decide) _ _).alloc _
    have hL8:Below base w W8:=by rw [hW8];exact ((((HB4.out.mono hb).trans HR.out.low).setCell HRZ.out.low _)).alloc (by rw [size_setCell];exact hbr) _
    have HRD:=Lib.hid hrd
    have hs8:=hK8.size
    clear hW8 k0 k1 k2 k3 k4 k5 k6 k7 f0 f1 f2 f3 f4 f5 f6 f7 hrd
    refine (add_any _ _ _ [d.v.resid,left] _ W8 HRD.out).mono ?_
    rintro e w' ⟨rfl,rfl⟩
    rw [HAD.out]
    have k3:W8.cell? ⟨D,3,none⟩=some (.int .i64 d.v.resid):=V8.cell 3
    have f3:=V8.frozen 3
    have y8:=V8.lt
    go_wp2_with fail
    refine post_name ?_
    intro Z hZ
    have VZ:Blk Z D 174 #[.slice A6 out.length c6,.slice (some ⟨g',0,none⟩) d.v.mks.length k,.int .i64 d.v.ins,.int .i64 rs,.int .i64 d.v.next,.int .i64 d.v.inn,.int .i64 d.v.out,vE1]:=by rw [hZ];exact V8.set_ 3 _
    have hKZ:Kept [174] wr Z:=by rw [hZ];exact hK8.set V8 (by decide) _ _
    have hLZ:Below base w Z:=by rw [hZ];exact hL8.setCell HRZ.out.low _
    have HDZ:=Lib.hid (show DeskR Z base D ⟨{ d.v with accs:=out,resid:=rs },d.ev ++ movedEvs out d.v.accs⟩ A6 c6 (some ⟨g',0,none⟩) k vE1 from
     ⟨VZ,⟨_,HR.out.own.kept hKZ (by decide) (by decide)⟩,⟨_,HRZ.out.mks.kept hKZ (by decide) (by decide)⟩,hKZ.own HRZ.out.evs (by decide)⟩)
    clear hZ VZ hKZ hK8 V8 k3 f3 hL8
    go_ret
    by_cases he:ea=0
    ·subst he
     exact retDr_ok (by rw [HEE.out];rfl) HDZ.out hLZ
    ·exact retDr_err (by rw [HEE.out];unfold okIf;rw [if_pos he]) he hLZ
end
end Go.Proofs.Ytockodmbhnlheaa
