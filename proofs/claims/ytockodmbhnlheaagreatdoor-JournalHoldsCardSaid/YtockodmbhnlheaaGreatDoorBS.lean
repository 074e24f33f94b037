import Derived.Test.YtockodmbhnlheaaGreatDoorBO
namespace Go.Proofs.YtockodmbhnlheaaGreatDoor
section
open Go.RowKit
theorem zlE {w Z:World} {base D c k:Nat} {ap:Bool} {d:Dk} {A M:Option Addr} {vE:Value} {xs ys:List Value} {n:Int} (h:Desk w base D ap d A c M k vE xs ys) (hZ:Z=w.setCell ⟨D,4,none⟩ (.int .i64 n)) :
  Desk Z base D ap ⟨{ d.v with next:=n },d.ev⟩ A c M k vE xs ys:=by
 have hK:Kept [113] w Z:=by rw [hZ];exact (Kept.refl _ w).set h.blk (by decide) _ _
 refine ⟨?_,h.low,h.accs.kept hK (by decide) (by decide),h.mks.kept hK (by decide) (by decide),hK.own h.evs (by decide)⟩;rw [hZ];exact h.blk.set_ 4 _
theorem zkh {n:Int} (o:Od) (w:World) (hr:zax o=n):Calls Tryz.prog 96 #[.agg #[.int .i64 o.id,.int .i64 o.acc,.int .i64 o.side,.int .i64 o.price,.int .i64 o.qty]] w fun e w'=>e=.returned (.int .i64 n)∧Below w.heap.size w w':=by
 have:=zfo o w;rw [hr] at this;exact this
set_option maxHeartbeats 8000000 in
set_option maxRecDepth 100000 in
theorem znH (base D:Nat) (d:Dk) (A:Option Addr) (c:Nat) (M:Option Addr) (k:Nat) (vE:Value) (xs ys:List Value) (cm:Cm) (w:World) (h:Desk w base D false d A c M k vE xs ys) (hb:base ≤ w.heap.size) (hv:VOk d.v) (hl:d.ev.length ≤ 700000) (hr:cm.reduce=false) :
  Calls Tryz.prog 72 #[.pointer (some ⟨D,0,none⟩),.agg #[.int .i64 cm.kind,.int .i64 cm.acc,.int .i64 cm.market,.int .i64 cm.n,.int .i64 cm.o.id,.int .i64 cm.o.acc,.int .i64 cm.o.side,.int .i64 cm.o.price,.int .i64 cm.o.qty,.int .i64 cm.how,.bool cm.reduce]] w (ze3 w base D false A c M k [113,57] (D :: (ab A ++ ab M)) (zcE cm d)):=by
 have HD:=zi h;have HV:=zi hv;have hDl:=h.lt;obtain ⟨hv1,hv2⟩:=hv.len;have hal:=zdZ hv.accs;have hnx:=hv.nums.next;have HE:=zi (zmp (c:=cm) (d:=d) rfl);have HRD:=zi hr;clear h hv;rw [hr];clear hr;go_enter Tryz.func72,Tryz.ntmps72
 go_wp2_with fail
 refine zbr ?_;intro W1 hW1;have hB1:Below w.heap.size w W1:=by rw [hW1];exact ((Below.refl _ _).alloc (zl _) _).alloc (by simp) _
 have X1:Blk W1 w.heap.size 34 #[.int .i64 cm.kind,.int .i64 cm.acc,.int .i64 cm.market,.int .i64 cm.n,.int .i64 cm.o.id,.int .i64 cm.o.acc,.int .i64 cm.o.side,.int .i64 cm.o.price,.int .i64 cm.o.qty,.int .i64 cm.how,.bool false]:=by rw [hW1];exact (Blk.new w _ _).alloc _
 obtain ⟨bo,hbo⟩:∃ bo,bo=w.heap.size + 1:=⟨_,rfl⟩;have O1:Blk W1 bo 32 #[.int .i64 cm.o.id,.int .i64 cm.o.acc,.int .i64 cm.o.side,.int .i64 cm.o.price,.int .i64 cm.o.qty]:=by rw [hW1];exact Blk.new_at _ _ _ _ (by simp [hbo])
 have hs1:=hB1.size;have HD1:=zi (HD.out.below hB1);rw [← hbo];have hbow:w.heap.size < bo:=by omega
 clear hW1 hbo;obtain ⟨⟨-,-,-,-,k4,-,-,-⟩,-⟩:=HD1.out.blk.c8;have x1:W1.cell? ⟨w.heap.size,1,none⟩=some (.int .i64 cm.acc):=X1.cell 1;obtain ⟨⟨p0,p1,-,-,-⟩,f0,f1,-⟩:=O1.c5;have y1:=X1.lt;have y2:=O1.lt;have y3:D < W1.heap.size:=HD1.out.lt;go_wp2_with fail
 go_region
 refine zau ?_;intro W2 hW2;have hB2:Below w.heap.size w W2:=by rw [hW2];exact zac ((hB1.setCell (Nat.le_of_lt hbow) _).setCell (Nat.le_of_lt hbow) _) 1
 have hF2:Fr [] [bo] W1 W2:=by rw [hW2];exact (((Fr.refl _ _ _).set O1 (.inr (by simp)) _ _).set (O1.set_ _ _) (.inr (by simp)) _ _).drewN 1
 have O2:Blk W2 bo 32 #[.int .i64 d.v.next,.int .i64 cm.acc,.int .i64 cm.o.side,.int .i64 cm.o.price,.int .i64 cm.o.qty]:=by rw [hW2];exact Blk.drewN ((O1.set_ 0 _).set_ 1 _) 1
 have X2:=X1.fr hF2 (by simp) (by simp;omega);have hs2:=hF2.size;clear hW2 hF2 O1 X1 hB1 k4 x1 p0 p1 f0 f1;obtain ⟨eo,heo⟩:∃ eo,zax ⟨d.v.next,cm.acc,cm.o.side,cm.o.price,cm.o.qty⟩=eo:=⟨_,rfl⟩;have HEO:=zi heo;clear heo;obtain ⟨⟨p0,p1,p2,p3,p4⟩,-⟩:=O2.c5;replace y1:=X2.lt;replace y2:=O2.lt;go_wp2_with fail
 refine (zkh ⟨d.v.next,cm.acc,cm.o.side,cm.o.price,cm.o.qty⟩ W2 HEO.out).mono ?_;rintro e W3 ⟨rfl,hb3⟩;have hB3:=hB2.trans (hb3.mono (by omega));have X3:=X2.below hb3 y1;have O3:=O2.below hb3 y2;have HD3:=zi (HD.out.below hB3);have hs3:=hb3.size;clear hb3 hB2 X2 O2 p0 p1 p2 p3 p4;by_cases he:eo=0
 rotate_left
 ·have he':(eo != 0)=true:=by simpa using he
  have HEE:=zi (show zcE cm d=.error eo from HE.out.trans (by rw [show zax (zhN cm d.v)=eo from HEO.out];exact if_pos he));have HN:=zi he;clear he;go_wp2_with fail
  go_ret;exact zaM HEE.out HN.out (hB3.mono hb)
 subst he;have HE1:=zi (HE.out.trans (if_neg (by rw [show zax (zhN cm d.v)=0 from HEO.out];simp)));have HOK:=zi (zaP.1 HEO.out);have HE2:=zi (HE1.out.trans (if_neg (by rw [HRD.out];simp)));have x10:W3.cell? ⟨w.heap.size,10,none⟩=some (.bool false):=X3.cell 10;replace y1:=X3.lt;replace y2:=O3.lt;go_wp2_with fail
 obtain ⟨⟨k0,k1,k2,k3,k4,k5,k6,-⟩,-⟩:=HD3.out.blk.c8;have x1:W3.cell? ⟨w.heap.size,1,none⟩=some (.int .i64 cm.acc):=X3.cell 1;replace y3:D < W3.heap.size:=HD3.out.lt;have h00:Below W3.heap.size W3 W3:=Below.refl _ _;have KS:Hid (∀ W,Below W3.heap.size W3 W→Below W3.heap.size W3 W∧W.cell? ⟨w.heap.size,1,none⟩=some (.int .i64 cm.acc)∧W.cell? ⟨D,0,none⟩=some (.slice A d.v.accs.length c)∧W.cell? ⟨D,1,none⟩=some (.slice M d.v.mks.length k) ∧
   W.cell? ⟨D,2,none⟩=some (.int .i64 d.v.ins)∧W.cell? ⟨D,3,none⟩=some (.int .i64 d.v.resid)∧W.cell? ⟨D,4,none⟩=some (.int .i64 d.v.next)∧W.cell? ⟨D,5,none⟩=some (.int .i64 d.v.inn)∧W.cell? ⟨D,6,none⟩=some (.int .i64 d.v.out)):=by
  intro W hW;obtain ⟨⟨k0,k1,k2,k3,k4,k5,k6,k7⟩,-⟩:=(HD3.out.below hW).blk.c8;exact ⟨hW,(X3.below hW X3.lt).cell 1,k0,k1,k2,k3,k4,k5,k6⟩
 clear k0 k1 k2 k3 k4 k5 k6 x1 x10;have HID:=zi (show 0 ≤ cm.acc∧cm.acc ≤ 7 from HOK.out.2.1);rcases (zb5 (zas d.v.accs cm.acc)).symm with hth | hth
 ·have HTH:=zi hth;have HEE:=zi (HE2.out.trans (if_pos (.inl hth)));clear hth;go_region_held3 (fun W=>Below W3.heap.size W3 W∧W.cell? ⟨w.heap.size,1,none⟩=some (.int .i64 cm.acc)∧W.cell? ⟨D,0,none⟩=some (.slice A d.v.accs.length c)∧W.cell? ⟨D,1,none⟩=some (.slice M d.v.mks.length k) ∧
    W.cell? ⟨D,2,none⟩=some (.int .i64 d.v.ins)∧W.cell? ⟨D,3,none⟩=some (.int .i64 d.v.resid)∧W.cell? ⟨D,4,none⟩=some (.int .i64 d.v.next)∧W.cell? ⟨D,5,none⟩=some (.int .i64 d.v.inn)∧W.cell? ⟨D,6,none⟩=some (.int .i64 d.v.out))
   (first | exact KS.out _ (by assumption) | exact KS.out _ (zaE (by assumption)))
   ((go_at_call 68;go_split_ands;(with_reducible refine (zdH d.v A M c k cm.acc _ _ (HD3.out.below (by first | assumption | exact zaE (by assumption))).accs.read (zl _) HV.out.accs.sorted (zd2 HV.out.accs) HID.out hal).mono ?_);rintro e W4 ⟨he,hb4⟩;rw [HTH.out] at he;subst he;have hB4:=zb2 (w0:=W3) hb4 (by first | assumption | exact zaE (by assumption))))
  refine zau ?_;rintro W hW;obtain rfl:W4=W:=hW.symm;clear hb4 hW KS h00;have HD4:=zi (HD3.out.below hB4);have hL4:=hB3.trans (hB4.mono (by omega));have X4:=X3.below hB4 X3.lt;have O4:=O3.below hB4 O3.lt;have hs4:=hB4.size;clear hB4;go_wp2_with fail
  go_quiet (fail)
  go_wp2_with fail
  go_ret;exact zaM HEE.out (by omega) ((zac hL4 _).mono hb)
 have HTH:=zi hth;obtain ⟨a,hk,hid⟩:=zcJ HV.out.accs.sorted hth;have HK:=zi hk;have HTN:=zi (show ¬ zas d.v.accs cm.acc=false by rw [hth];simp);clear hth hid hk;go_region_held3 (fun W=>Below W3.heap.size W3 W∧W.cell? ⟨w.heap.size,1,none⟩=some (.int .i64 cm.acc)∧W.cell? ⟨D,0,none⟩=some (.slice A d.v.accs.length c)∧W.cell? ⟨D,1,none⟩=some (.slice M d.v.mks.length k) ∧
   W.cell? ⟨D,2,none⟩=some (.int .i64 d.v.ins)∧W.cell? ⟨D,3,none⟩=some (.int .i64 d.v.resid)∧W.cell? ⟨D,4,none⟩=some (.int .i64 d.v.next)∧W.cell? ⟨D,5,none⟩=some (.int .i64 d.v.inn)∧W.cell? ⟨D,6,none⟩=some (.int .i64 d.v.out))
  (first | exact KS.out _ (by assumption) | exact KS.out _ (zaE (by assumption)))
  ((go_at_call 68;go_split_ands;(with_reducible refine (zdH d.v A M c k cm.acc _ _ (HD3.out.below (by first | assumption | exact zaE (by assumption))).accs.read (zl _) HV.out.accs.sorted (zd2 HV.out.accs) HID.out hal).mono ?_);rintro e W4 ⟨he,hb4⟩;rw [HTH.out] at he;subst he;have hB4:=zb2 (w0:=W3) hb4 (by first | assumption | exact zaE (by assumption))))
 refine zau ?_;rintro W hW;obtain rfl:W4=W:=hW.symm;clear hb4 hW KS h00;have HD4:=zi (HD3.out.below hB4);have hL4:=hB3.trans (hB4.mono (by omega));have X4:=X3.below hB4 X3.lt;have O4:=O3.below hB4 O3.lt;have hs4:=hB4.size;clear hB4;obtain ⟨i,hi⟩:∃ i,i=zam d.v.accs cm.acc:=⟨_,rfl⟩;have HI:=zi hi;rw [← hi];have HK':=zi (show d.v.accs[i]?=some a by rw [hi];exact HK.out);clear hi;have x2:W4.cell? ⟨w.heap.size,2,none⟩=some (.int .i64 cm.market):=X4.cell 2;obtain ⟨⟨-,k1,-⟩,-⟩:=HD4.out.blk.c8;have y5:=X4.lt;have y6:D < W4.heap.size:=HD4.out.lt;by_cases h1:cm.market < 0
 ·have HEE:=zi (HE2.out.trans (if_pos (.inr (.inl h1))));go_wp2_with fail
  go_quiet (fail)
  go_wp2_with fail
  go_ret;exact zaM HEE.out (by omega) ((zac hL4 _).mono hb)
 by_cases h2:(d.v.mks.length:Int) ≤ cm.market
 ·have HEE:=zi (HE2.out.trans (if_pos (.inr (.inr h2))));have hd1:decide (cm.market < 0)=false:=decide_eq_false h1;have hd2:decide ((d.v.mks.length:Int) ≤ cm.market)=true:=decide_eq_true h2;go_wp2_with fail
  go_quiet (fail)
  go_wp2_with fail
  go_ret;exact zaM HEE.out (by omega) ((zac hL4 _).mono hb)
 obtain ⟨mk,hmk⟩:∃ mk:Nat,cm.market=(mk:Int):=⟨cm.market.toNat,by omega⟩;have HE3:=zi (HE2.out.trans (if_neg (by rintro (h | h | h);exact HTN.out h;exact h1 h;exact h2 h)));have HMK:=zi hmk;rw [hmk] at x2 X4;rw [hmk];have h3:mk < d.v.mks.length:=by omega
 have hd1:decide ((mk:Int) < 0)=false:=decide_eq_false (by omega);have hd2:decide ((d.v.mks.length:Int) ≤ (mk:Int))=false:=decide_eq_false (by omega);have hd3:decide (d.v.mks.length ≤ mk)=false:=decide_eq_false (by omega);clear h1 h2 hmk;go_wp2_with fail
 go_quiet (fail)
 refine zau ?_;intro W5 hW5;have hB5:Below W4.heap.size W4 W5:=by rw [hW5];exact zac (Below.refl _ _) _
 have HD5:=zi (HD4.out.below hB5);have hL5:=hL4.trans (hB5.mono (by omega));have X5:=X4.below hB5 X4.lt;have O5:=O4.below hB5 O4.lt;have hs5:=hB5.size;clear hW5 hB5 k1 x2 hd1 hd2 hd3 hL4 X4 O4;obtain ⟨⟨-,-,-,-,k4,-⟩,-,-,-,-,f4,-⟩:=HD5.out.blk.c8;replace y6:D < W5.heap.size:=HD5.out.lt;replace y5:=X5.lt;by_cases hn:d.v.next=100000
 ·have hn':(d.v.next == 100000)=true:=by simpa using hn
  have HEE:=zi (HE3.out.trans (if_pos hn));clear hn;go_wp2_with fail
  go_ret;exact zaM HEE.out (by omega) (hL5.mono hb)
 have hn':(d.v.next == 100000)=false:=by simpa using hn
 have HE4:=zi (HE3.out.trans (if_neg hn));have HNX:=zi hn;have hnx1:1 ≤ d.v.next:=by omega
 have hnx2:d.v.next ≤ 99999:=by omega
 have x10:W5.cell? ⟨w.heap.size,10,none⟩=some (.bool false):=X5.cell 10;have x1:W5.cell? ⟨w.heap.size,1,none⟩=some (.int .i64 cm.acc):=X5.cell 1;have x2:W5.cell? ⟨w.heap.size,2,none⟩=some (.int .i64 mk):=X5.cell 2;have o0:W5.cell? ⟨bo,0,none⟩=some (.int .i64 d.v.next):=O5.cell 0;have y7:=O5.lt;clear hn;obtain ⟨q,hq⟩:∃ q,q=cm.o.qty:=⟨_,rfl⟩;have hq1:1 ≤ q∧q ≤ 1000:=by rw [hq];exact HOK.out.2.2.2.2
 rw [← hq] at O5;have HC:=zi (show zcE cm d=zfu cm ⟨d.v.next,cm.acc,cm.o.side,cm.o.price,q⟩ i mk (zbW cm mk d) by
  rw [HE4.out,if_neg (by rw [HRD.out];simp),HRD.out,if_neg (by simp),HMK.out,hq,HI.out];rfl)
 clear hq;go_wp2_with fail
 refine zak ?_;intro W6 hW6;have HD6:=zi (zlE HD5.out hW6);have hF6:Fr [113] [] W5 W6:=by rw [hW6];exact (Fr.refl _ _ _).set HD5.out.blk (.inl (by simp)) _ _
 have hL6:Below base w W6:=by rw [hW6];exact (hL5.mono hb).setCell HD5.out.low _
 have X6:=X5.fr hF6 (by decide) (by simp);have O6:=O5.fr hF6 (by decide) (by simp);have hs6:=hF6.size;have hb6:base ≤ W6.heap.size:=by omega
 have HF6:=zi ((Fr.of_below [113,57] (D :: (ab A ++ ab M)) hL5).trans (hF6.mono (by simp) (by simp)));clear hW6 hF6 hL5 X5 O5 x1 x2 x10 o0 k4 f4;refine (zeo base D false ⟨{ d.v with next:=d.v.next + 1 },d.ev⟩ A c M k vE xs ys ⟨2,0,mk,d.v.next,cm.acc,0,zba⟩ W6 HD6.out hb6 (by show d.ev.length ≤ _;omega)).mono ?_;rintro e W7 ⟨rfl,⟨vE7,hd7⟩,hL7,hK7⟩;have HD7:=zi (show Desk W7 base D false (zbW cm mk d) A c M k vE7 xs ys from hd7);have X7:=X6.kept hK7 (by decide);have O7:=O6.kept hK7 (by decide);have HL7:=zi (hL6.trans hL7);have HF7:=zi (HF6.out.trans (hK7.fr _));have HV7:=zi (zms (c:=cm) (mk:=mk) HV.out HNX.out);have hs7:=hK7.size;have hev7:(zbW cm mk d).ev.length=d.ev.length + 1:=by show (d.ev ++ [_]).length=_;rw [List.length_append];rfl
 have hmk7:(zbW cm mk d).v.mks=d.v.mks:=rfl;have hac7:(zbW cm mk d).v.accs=d.v.accs:=rfl;have hnx7:(zbW cm mk d).v.next=d.v.next + 1:=rfl;clear hd7 hL7 hK7 X6 O6 hL6;obtain ⟨d7,hd7⟩:∃ d7,zbW cm mk d=d7:=⟨_,rfl⟩;rw [hd7] at HD7 HV7 HC hev7 hmk7 hac7 hnx7;clear hd7;obtain ⟨m,hm⟩:∃ m,d7.v.mks[mk]?=some m:=⟨_,List.getElem?_eq_getElem (by rw [hmk7];exact h3)⟩;obtain ⟨x,l,left,te,hcm⟩:∃ x l left te,zcs m.book ⟨d.v.next,cm.acc,cm.o.side,cm.o.price,q⟩ cm.how=(x,l,left,te):=⟨_,_,_,_,rfl⟩;have HCE:=zi (HC.out.trans (zmq hm hcm));have HM:=zi hm;have HCM:=zi hcm;have HTA:=zi (show zas d7.v.accs cm.acc=true by rw [hac7];exact HTH.out);have HNN:=zi (show d.v.next < d7.v.next by rw [hnx7];omega);have hml:d7.v.mks.length=d.v.mks.length:=by rw [hmk7]
 have HAL:=zi (show d7.v.accs.length=d.v.accs.length by rw [hac7]);obtain ⟨gm,A3,c3,A4,c4,rfl,hg3,hg4,hin4,-,⟨r0,r1,-,-⟩,-,hbk,hl1,hl2,-⟩:=zdK HD7.out.mks hm;have HBK4:=zi hbk.read;have hm0:(0:Int) ≤ (mk:Int):=by omega
 have hm1:(mk:Int) < (d7.v.mks.length:Int):=by omega
 replace y6:D < W7.heap.size:=HD7.out.lt;replace y5:=X7.lt;replace y7:=O7.lt;have h00:Below W7.heap.size W7 W7:=Below.refl _ _;have KS:Hid (∀ W,Below W7.heap.size W7 W→Below W7.heap.size W7 W∧W.cell? ⟨D,1,none⟩=some (.slice (some ⟨gm,0,none⟩) d7.v.mks.length k)∧W.cell? ⟨gm,mk * 4,none⟩=some (.slice A3 m.book.bids.length c3)∧W.cell? ⟨gm,mk * 4 + 1,none⟩=some (.slice A4 m.book.asks.length c4) ∧
   W.cell? ⟨bo,0,none⟩=some (.int .i64 d.v.next)∧W.cell? ⟨bo,1,none⟩=some (.int .i64 cm.acc)∧W.cell? ⟨bo,2,none⟩=some (.int .i64 cm.o.side)∧W.cell? ⟨bo,3,none⟩=some (.int .i64 cm.o.price)∧W.cell? ⟨bo,4,none⟩=some (.int .i64 q) ∧
   W.cell? ⟨w.heap.size,2,none⟩=some (.int .i64 mk)∧W.cell? ⟨w.heap.size,9,none⟩=some (.int .i64 cm.how)):=by
  intro W hW;obtain ⟨⟨-,k1,-⟩,-⟩:=(HD7.out.below hW).blk.c8;obtain ⟨⟨z0,z1,z2,z3,z4⟩,-⟩:=(O7.below hW O7.lt).c5;exact ⟨hW,k1,(hW.cell (p:=⟨gm,_,none⟩) hg4).trans r0,(hW.cell (p:=⟨gm,_,none⟩) hg4).trans r1,z0,z1,z2,z3,z4,(X7.below hW X7.lt).cell 2,(X7.below hW X7.lt).cell 9⟩
 clear r0 r1 hbk hm hcm hmk7 hac7 hnx7;go_upto_region 20 with (fail)
 go_cut [10,11,12,13] (fun vb vl vn ve wx=>∃ (gB:Nat) (P:Option Addr) (pc:Nat) (P':Option Addr) (pc':Nat) (AL:Option Addr) (cL:Nat),vb=.pointer (some ⟨gB,0,none⟩)∧vl=.slice AL l.length cL∧vn=.int .i64 left∧ve=.int .i64 te∧Below W7.heap.size W7 wx ∧
  Hid (OBk wx W7.heap.size P P' pc pc' x)∧Hid (wx.ownsRow W7.heap.size 55 7 (.slice AL l.length cL) l.length (zaJ l))∧Hid (Blk wx gB 83 #[.slice P x.bids.length pc,.slice P' x.asks.length pc']))
 case first =>
  go_region_held3 (fun W=>Below W7.heap.size W7 W∧W.cell? ⟨D,1,none⟩=some (.slice (some ⟨gm,0,none⟩) d7.v.mks.length k)∧W.cell? ⟨gm,mk * 4,none⟩=some (.slice A3 m.book.bids.length c3)∧W.cell? ⟨gm,mk * 4 + 1,none⟩=some (.slice A4 m.book.asks.length c4) ∧
    W.cell? ⟨bo,0,none⟩=some (.int .i64 d.v.next)∧W.cell? ⟨bo,1,none⟩=some (.int .i64 cm.acc)∧W.cell? ⟨bo,2,none⟩=some (.int .i64 cm.o.side)∧W.cell? ⟨bo,3,none⟩=some (.int .i64 cm.o.price)∧W.cell? ⟨bo,4,none⟩=some (.int .i64 q) ∧
    W.cell? ⟨w.heap.size,2,none⟩=some (.int .i64 mk)∧W.cell? ⟨w.heap.size,9,none⟩=some (.int .i64 cm.how))
   (first | exact KS.out _ (by assumption) | exact KS.out _ (zaE (by assumption)) | exact KS.out _ (Below.alloc (by assumption) (Below.size (by assumption)) _) | exact KS.out _ (zaE (Below.alloc (by assumption) (Below.size (by assumption)) _)) | exact KS.out _ (Below.setCell (Below.setCell (by first | assumption | exact Below.alloc (by assumption) (by assumption) _) (by dsimp only;omega) _) (by dsimp only;omega) _))
   ((go_at_call 98;go_split_ands;(with_reducible refine (zmK m.book ⟨d.v.next,cm.acc,cm.o.side,cm.o.price,q⟩ cm.how A3 A4 c3 c4 W7.heap.size _ HCM.out (HBK4.out.below (by assumption)) (Below.size (by assumption)) hl1 hl2).mono ?_);rintro e W8 ⟨P,pc,P',pc',vf,rfl,hobk,hrow,hb8⟩;obtain ⟨AL,cL,rfl⟩:=zad hrow;have hB8:=zb2 (w0:=W7) hb8 (by assumption);have hs8:=hB8.size;try have z1:=(Blk.drewN (Blk.new W7 83 #[.slice none 0 0,.slice none 0 0]) 1).below hb8 (by simp);try have z2:=z1.lt;try obtain ⟨⟨z3,z4⟩,z5,z6⟩:=z1.c2))
  all_goals
   refine zau ?_;intro W9 hW9;have hbW:base ≤ W7.heap.size:=by omega
   have hB9:Below W7.heap.size W7 W9:=by rw [hW9];first | exact hB8.alloc hs8 _ | exact (hB8.setCell (by dsimp only;omega) _).setCell (by dsimp only;omega) _
   have HO9:Hid (OBk W9 W7.heap.size P P' pc pc' x):=by
    rw [hW9];first
     | exact ⟨zae (World.ownsRow.alloc hobk.l _) (zl _),zae (World.ownsRow.alloc hobk.r _) (zl _)⟩
     | exact ⟨zae (ownsRow_setCell_below (ownsRow_setCell_below hobk.l (by simp) _) (by simp) _) (by simp),zae (ownsRow_setCell_below (ownsRow_setCell_below hobk.r (by simp) _) (by simp) _) (by simp)⟩
   have HR9:Hid (W9.ownsRow W7.heap.size 55 7 (.slice AL l.length cL) l.length (zaJ l)):=by
    rw [hW9];first
     | exact zae (World.ownsRow.alloc hrow _) (zl _)
     | exact zae (ownsRow_setCell_below (ownsRow_setCell_below hrow (by simp) _) (by simp) _) (by simp)
   first
    | have HB9:Hid (Blk W9 W8.heap.size 83 #[.slice P x.bids.length pc,.slice P' x.asks.length pc']):=by rw [hW9];exact Blk.new W8 _ _
    | have HB9:Hid (Blk W9 W7.heap.size 83 #[.slice P x.bids.length pc,.slice P' x.asks.length pc']):=by rw [hW9];exact (z1.set_ 0 _).set_ 1 _
   go_wp2_with fail
   go_meet
   exact ⟨_,_,_,_,_,_,_,rfl,rfl,rfl,rfl,hB9,HO9,HR9,HB9⟩
 case rest=>as_aux_lemma =>
  obtain ⟨gB,P,pc,P',pc',AL,cL,rfl,rfl,rfl,rfl,hB9,HO9,HR9,HB9⟩:=hcut;obtain ⟨W9,rfl⟩:∃ W9,W9=wc:=⟨wc,rfl⟩;have hbW:base ≤ W7.heap.size:=by omega
  have B9:=HB9.out;have HD9:=zi (HD7.out.below hB9);have HL9:=zi (HL7.out.trans (hB9.mono (by omega)));have HF9:=zi (HF7.out.below hB9);have X9:=X7.below hB9 y5;have O9:=O7.below hB9 y7;have hs9:=hB9.size;clear KS h00 HB9;by_cases he:te=0
  rotate_left
  ·have he':(te != 0)=true:=by simpa using he
   have HEE:=zi (show zcE cm d=.error te by rw [HCE.out];unfold okIf;rw [if_pos he]);have HN:=zi he;clear he;go_wp2_with fail
   go_ret;exact zaM HEE.out HN.out HL9.out
  subst he;have HP:=zi (zmr HV7.out HM.out HTA.out HNN.out HCM.out);obtain ⟨g',A5,c5,A6,c6,hg',hg5,hg6,hin6,⟨cs,hgB⟩,⟨q0,q1,q2,q3⟩,⟨r0,r1,r2,r3⟩,-⟩:=zdK HD9.out.mks HM.out;obtain rfl:g'=gm:=by injection hg' with hg';injection hg' with hg';exact hg'.symm
  have HG:=zi hgB;obtain ⟨⟨-,k1,-⟩,-⟩:=HD9.out.blk.c8;have x2:W9.cell? ⟨w.heap.size,2,none⟩=some (.int .i64 mk):=X9.cell 2;have y8:D < W9.heap.size:=HD9.out.lt;have y9:=B9.lt;have y10:=X9.lt;clear hg' hgB;obtain ⟨⟨kB90,kB91⟩,-⟩:=B9.c2;go_wp2_with fail
  go_region
  refine zau ?_;intro Z hZ;have HDZ:=zi (zgV HD9.out HM.out ⟨zae HO9.out.l hbW,zae HO9.out.r hbW⟩ HP.out.lens (by simp) HG.out hZ);have hFZ:Fr [113,57] (D :: (ab A ++ ab (some ⟨g',0,none⟩))) W9 Z:=by rw [hZ];exact (((Fr.refl _ _ _).set HG.out (.inr (by simp [ab])) _ _).set (HG.out.set_ _ _) (.inr (by simp [ab])) _ _).drewN 1
  have hLZ:Below base W9 Z:=by rw [hZ];exact zac (((Below.refl _ _).setCell hg5 _).setCell hg5 _) 1
  have HRZ:=zi (hFZ.own HR9.out (by decide) (zdr HD9.out HR9.out (by decide) (by decide) (by decide)));have HXZ:=zi (X9.fr hFZ (by decide) (zbS HD9.out X9 (by decide) (by decide) (by decide)));have HOZ:=zi (O9.fr hFZ (by decide) (zbS HD9.out O9 (by decide) (by decide) (by decide)));have HLZ:=zi (HL9.out.trans hLZ);have HFZ:=zi (HF9.out.trans hFZ);have hsZ:=hFZ.size;have hbZ:base ≤ Z.heap.size:=by omega
  have xz2:Z.cell? ⟨w.heap.size,2,none⟩=some (.int .i64 mk):=HXZ.out.cell 2;have yz:=HXZ.out.lt;clear hZ hFZ hLZ k1 q0 q1 q2 q3 r0 r1 r2 r3 kB90 kB91 B9 X9 O9 x2;go_wp2_with fail
  refine (zjm base D false ⟨zaD d7.v mk { m with book:=x },d7.ev⟩ A c _ k vE7 xs _ mk false l W7.heap.size AL cL Z HDZ.out hbZ HP.out.ok.accs (by have:=HP.out.cnt;show d7.ev.length + _ ≤ _;omega) HP.out.fl HRZ.out).mono ?_;intro e W10 hret;cases hfl:zbz mk false l ⟨zaD d7.v mk { m with book:=x },d7.ev⟩ with
  | error n =>
   have HEE:=zi (show zcE cm d=.error n by rw [HCE.out,hfl];rfl);rw [hfl] at hret;obtain ⟨hn,rfl,hL10⟩:=hret;have hn':(n != 0)=true:=by simpa using hn
   have HN:=zi hn;clear hfl hn;go_wp2_with fail
   go_ret;exact zaM HEE.out HN.out (HLZ.out.trans hL10)
  | ok d8 =>
   have HK8:=zi (ziW HP.out.ok HP.out.fs (by show mk < (d7.v.mks.set mk _).length;rw [List.length_set,hml];exact h3) hfl);have hk3:=zfz hfl;replace hk3:d8.ev.length=d7.ev.length + l.length:=hk3;have HCE8:=zi (show zcE cm d=zeD cm ⟨d.v.next,cm.acc,cm.o.side,cm.o.price,q⟩ i mk l left d8 by rw [HCE.out,hfl];rfl);rw [hfl] at hret;obtain ⟨rfl,⟨vE10,xs10,ys10,hd10⟩,hL10,hF10⟩:=hret;have HD10:=zi hd10;have HL10:=zi (HLZ.out.trans hL10);have HF10:=zi (HFZ.out.trans hF10);have HR10:=zi (hF10.own HRZ.out (by decide) (zdr HDZ.out HRZ.out (by decide) (by decide) (by decide)));have X10:=HXZ.out.fr hF10 (by decide) (zbS HDZ.out HXZ.out (by decide) (by decide) (by decide));have O10:=HOZ.out.fr hF10 (by decide) (zbS HDZ.out HOZ.out (by decide) (by decide) (by decide));have hs10:=hF10.size;have hlen8:d8.ev.length ≤ 900000:=by have:=HP.out.cnt;omega
   clear hfl hd10 hL10 hF10 xz2;go_upto_if 163 with (fail)
   have hb10:base ≤ W10.heap.size:=by omega
   have hlf:=HP.out.lef;go_cut [173] (fun _ wx=>∃ vE11,Hid (Desk wx base D false (zbU cm ⟨d.v.next,cm.acc,cm.o.side,cm.o.price,q⟩ mk left d8) A c (some ⟨g',0,none⟩) k vE11 xs10 ys10)∧Below base W10 wx∧Kept [113,57] W10 wx)
   case first =>
    by_cases hlp:0 < left
    ·have hlp':decide (0 < left)=true:=decide_eq_true hlp;have HLD:=zi (show zbU cm ⟨d.v.next,cm.acc,cm.o.side,cm.o.price,q⟩ mk left d8=tell d8 ⟨4,0,mk,d.v.next,cm.acc,left,zba⟩ from if_pos hlp);have x1:W10.cell? ⟨w.heap.size,1,none⟩=some (.int .i64 cm.acc):=X10.cell 1;have x2:W10.cell? ⟨w.heap.size,2,none⟩=some (.int .i64 mk):=X10.cell 2;have o0:W10.cell? ⟨bo,0,none⟩=some (.int .i64 d.v.next):=O10.cell 0;have ya:=X10.lt;have yb:=O10.lt;go_wp2_with fail
     refine (zeo base D false d8 A c _ k vE10 xs10 ys10 ⟨4,0,mk,d.v.next,cm.acc,left,zba⟩ W10 HD10.out hb10 (by omega)).mono ?_;rintro e W11 ⟨rfl,⟨vE11,hd11⟩,hL11,hK11⟩;have HD11:=zi (show Desk W11 base D false (zbU cm ⟨d.v.next,cm.acc,cm.o.side,cm.o.price,q⟩ mk left d8) A c (some ⟨g',0,none⟩) k vE11 xs10 ys10 by rw [HLD.out];exact hd11);clear hd11;go_wp2_with fail
     go_meet
     exact ⟨vE11,HD11,hL11,hK11⟩
    ·have hlp':decide (0 < left)=false:=decide_eq_false hlp;have HLD:=zi (show zbU cm ⟨d.v.next,cm.acc,cm.o.side,cm.o.price,q⟩ mk left d8=d8 from if_neg hlp);have HD11:=zi (show Desk W10 base D false (zbU cm ⟨d.v.next,cm.acc,cm.o.side,cm.o.price,q⟩ mk left d8) A c (some ⟨g',0,none⟩) k vE10 xs10 ys10 by rw [HLD.out];exact HD10.out);go_wp2_with fail
     go_meet
     exact ⟨vE10,HD11,Below.refl _ _,Kept.refl _ _⟩
   case rest=>as_aux_lemma =>
    obtain ⟨vE11,HD11,hL11,hK11⟩:=hcut;obtain ⟨W11,rfl⟩:∃ W11,W11=wc:=⟨wc,rfl⟩;obtain ⟨d9,hd9⟩:∃ d9,zbU cm ⟨d.v.next,cm.acc,cm.o.side,cm.o.price,q⟩ mk left d8=d9:=⟨_,rfl⟩;rw [hd9] at HD11;have HD9L:=zi hd9;have hv9:d9.v=d8.v:=by rw [← hd9];exact zp7
    have HL11:=zi (HL10.out.trans hL11);have HF11:=zi (HF10.out.trans (hK11.fr _));have HR11:=zi (hK11.own HR10.out (by decide));have X11:=X10.kept hK11 (by decide);have O11:=O10.kept hK11 (by decide);have hs11:=hK11.size;have HV9:=zi (show VOk d9.v∧d9.v.mks.length=d.v.mks.length∧d9.v.accs.length=d.v.accs.length by
     rw [hv9];refine ⟨HK8.out.1,HK8.out.2.1.trans ?_,HK8.out.2.2.trans HAL.out⟩;show (d7.v.mks.set mk _).length=_;rw [List.length_set,hml])
    clear hL11 hK11 X10 O10 hd9 hv9;have x10:W11.cell? ⟨w.heap.size,10,none⟩=some (.bool false):=X11.cell 10;have o4:W11.cell? ⟨bo,4,none⟩=some (.int .i64 q):=O11.cell 4;have ya:=X11.lt;have yb:=O11.lt;go_wp2_with fail
    obtain ⟨a2,ha2⟩:∃ a,d9.v.accs[i]?=some a:=⟨_,List.getElem?_eq_getElem (by rw [HV9.out.2.2];exact (List.getElem?_eq_some_iff.1 HK'.out).1)⟩;obtain ⟨Q,hQ⟩:∃ Q,zbg l=Q:=⟨_,rfl⟩;have hsum:=HP.out.sum;rw [hQ] at hsum;simp only at hsum;have HQ:=zi hQ;clear hQ;have HFS:=zi (show ∀ f ∈ l,1 ≤ f.qty∧f.qty ≤ 1000 from fun f hf=>(HP.out.fs f hf).1);have hcnt:=HP.out.cnt;go_loopw [15,182] (fun r t wr=>∃ (j:Nat) (z:Int),j ≤ l.length∧r=.int .i64 z∧t=.int .i64 j∧Hid (z=q - left - zbg (l.take j))∧Below W11.heap.size W11 wr) (fun _ t _=>l.length - (intOf t).toNat)
    case atStart=>exact ⟨0,q - left,by omega,by go_num,rfl,zi (by simp [zbg]),Below.refl _ _⟩
    case round =>
     obtain ⟨j,z,hj,rfl,rfl,HZ,hbr⟩:=hrel;have hwr:=hbr.size;by_cases hlt:j < l.length
     ·obtain ⟨bb,oo,f,rfl,hbB,hx,k0,k1,k2,k3,k4,k5,k6⟩:=zoM (Rd.of_own (zaf HR11.out hbr (zl _))) hlt;have hfq:=HFS.out f (List.mem_of_getElem? hx);have hzb:=zp8 (l:=l.take j) (fun g hg=>HFS.out g (List.mem_of_mem_take hg));have hzl:(l.take j).length ≤ 40:=by rw [List.length_take];omega
      have hz1:-50000 ≤ z∧z ≤ 1000:=by have:=HZ.out;omega
      obtain ⟨hz1,hz2⟩:=hz1;obtain ⟨hfq1,hfq2⟩:=hfq;have HN:=zi (show z - f.qty=q - left - zbg (l.take (j + 1)) by rw [zno hx,HZ.out];omega);clear hx hzb;go_wp2_with fail
      go_roundw
      case rel=>exact ⟨j + 1,z - f.qty,by omega,rfl,by go_num,HN,hbr.trans (((Below.refl _ _).alloc (zl _) _).mono hwr)⟩
      case measure=>simp [intOf];omega
     ·obtain rfl:j=l.length:=by omega
      have HZ2:=zi (show z=q - left - Q by rw [HZ.out,List.take_length,HQ.out]);have hz1:-50000 ≤ z∧z ≤ 1000:=by have:=HZ2.out;omega
      have HDr:=zi (HD11.out.below hbr);have HLr:=zi (HL11.out.trans (hbr.mono (by omega)));have HFr:=zi (HF11.out.below hbr);have Xr:=X11.below hbr ya;have Or:=O11.below hbr yb;obtain ⟨ga,A7,c7,rfl,hga1,hga2,hina,-,⟨q0,q1,q2⟩,-,hpos,-⟩:=zeE HDr.out.accs ha2;have HPO:=zi (Rd.of_own hpos);obtain ⟨xa,ta,htr⟩:∃ x te,zaZ a2 mk (cm.o.side * z) cm.o.price 0=(x,te):=⟨_,_,rfl⟩;have HTR:=zi htr;have HEF:=zi (HCE8.out.trans (zoK HRD.out HD9L.out ha2 (by show zaZ a2 mk (cm.o.side * (q - left - zbg l)) cm.o.price 0=(xa,ta);rw [HQ.out,← HZ2.out];exact htr)));have hsz:-50000 ≤ cm.o.side * z∧cm.o.side * z ≤ 50000:=by
       rcases HOK.out.2.2.1 with e | e
       ·rw [show cm.o.side=1 from e];omega
       ·rw [show cm.o.side = -1 from e];omega
      obtain ⟨hz1,hz2⟩:=hz1;obtain ⟨hsz1,hsz2⟩:=hsz;have hwz:IntKind.i64.wrap (cm.o.side * z)=cm.o.side * z:=IntWalk.i64_in _ (by omega);have hi0:(0:Int) ≤ (i:Int):=by omega
      have hi1:(i:Int) < (d9.v.accs.length:Int):=by omega
      have h00:Below wr.heap.size wr wr:=Below.refl _ _;have yr1:D < wr.heap.size:=HDr.out.lt;have yr2:=Xr.lt;have yr3:=Or.lt;have hbwr:base ≤ wr.heap.size:=by omega
      have KS:Hid (∀ W,Below wr.heap.size wr W→Below wr.heap.size wr W∧W.cell? ⟨w.heap.size,2,none⟩=some (.int .i64 mk)∧W.cell? ⟨bo,2,none⟩=some (.int .i64 cm.o.side)∧W.cell? ⟨bo,3,none⟩=some (.int .i64 cm.o.price)∧W.cell? ⟨D,0,none⟩=some (.slice (some ⟨ga,0,none⟩) d9.v.accs.length c) ∧
        W.cell? ⟨ga,i * 3,none⟩=some (.int .i64 a2.id)∧W.cell? ⟨ga,i * 3 + 1,none⟩=some (.int .i64 a2.bal)∧W.cell? ⟨ga,i * 3 + 2,none⟩=some (.slice A7 a2.pos.length c7)):=by
       intro W hW;obtain ⟨⟨k0,-⟩,-⟩:=(HDr.out.below hW).blk.c8;exact ⟨hW,(Xr.below hW Xr.lt).cell 2,(Or.below hW Or.lt).cell 2,(Or.below hW Or.lt).cell 3,k0,(hW.cell (p:=⟨ga,_,none⟩) hga2).trans q0,(hW.cell (p:=⟨ga,_,none⟩) hga2).trans q1,(hW.cell (p:=⟨ga,_,none⟩) hga2).trans q2⟩
      clear q0 q1 q2 hpos htr ha2 hsum;go_upto_region 37 with (fail)
      go_cut [18,13] (fun vb ve wx=>∃ (gB:Nat) (A8:Option Addr) (c8:Nat),vb=.pointer (some ⟨gB,0,none⟩)∧ve=.int .i64 ta∧Below wr.heap.size wr wx∧Hid (wx.ownsRow base 3 1 (.slice A8 xa.pos.length c8) xa.pos.length (ints xa.pos)) ∧
       Hid (Blk wx gB 78 #[.int .i64 xa.id,.int .i64 xa.bal,.slice A8 xa.pos.length c8]))
      case first =>
       go_region_held3 (fun W=>Below wr.heap.size wr W∧W.cell? ⟨w.heap.size,2,none⟩=some (.int .i64 mk)∧W.cell? ⟨bo,2,none⟩=some (.int .i64 cm.o.side)∧W.cell? ⟨bo,3,none⟩=some (.int .i64 cm.o.price)∧W.cell? ⟨D,0,none⟩=some (.slice (some ⟨ga,0,none⟩) d9.v.accs.length c) ∧
         W.cell? ⟨ga,i * 3,none⟩=some (.int .i64 a2.id)∧W.cell? ⟨ga,i * 3 + 1,none⟩=some (.int .i64 a2.bal)∧W.cell? ⟨ga,i * 3 + 2,none⟩=some (.slice A7 a2.pos.length c7))
        (first | exact KS.out _ (by assumption) | exact KS.out _ (zaE (by assumption)) | exact KS.out _ (Below.alloc (by assumption) (Below.size (by assumption)) _) | exact KS.out _ (zaE (Below.alloc (by assumption) (Below.size (by assumption)) _)) | exact KS.out _ (Below.setCell (Below.setCell (Below.setCell (by first | assumption | exact Below.alloc (by assumption) (by assumption) _) (by dsimp only;omega) _) (by dsimp only;omega) _) (by dsimp only;omega) _))
        ((go_at_call 100;go_split_ands;(with_reducible refine (zlj a2 A7 c7 mk (cm.o.side * z) cm.o.price 0 wr.heap.size _ HTR.out (HPO.out.below (by assumption)) (Below.size (by assumption))).mono ?_);rintro e W12 ⟨A8,c8,rfl,hown8,hb12⟩;have hB12:=zb2 (w0:=wr) hb12 (by assumption);have hs12:=hB12.size;try have z1:=(Blk.drewN (Blk.new wr 78 #[.int .i64 0,.int .i64 0,.slice none 0 0]) 1).below hb12 (by simp);try have z2:=z1.lt;try obtain ⟨⟨z3,z4,z5⟩,z6,z7,z8⟩:=z1.c3))
       all_goals
        refine zau ?_;intro W13 hW13;have HB13:Below wr.heap.size wr W13:=by rw [hW13];first | exact hB12.alloc hs12 _ | exact ((hB12.setCell (by dsimp only;omega) _).setCell (by dsimp only;omega) _).setCell (by dsimp only;omega) _
        have HO13:Hid (W13.ownsRow base 3 1 (.slice A8 xa.pos.length c8) xa.pos.length (ints xa.pos)):=by
         rw [hW13];first
          | exact zae (World.ownsRow.alloc hown8 _) hbwr
          | exact zae (ownsRow_setCell_below (ownsRow_setCell_below (ownsRow_setCell_below hown8 (by simp) _) (by simp) _) (by simp) _) (by simp;omega)
        first
         | have HX13:Hid (Blk W13 W12.heap.size 78 #[.int .i64 xa.id,.int .i64 xa.bal,.slice A8 xa.pos.length c8]):=by rw [hW13];exact Blk.new W12 _ _
         | have HX13:Hid (Blk W13 wr.heap.size 78 #[.int .i64 xa.id,.int .i64 xa.bal,.slice A8 xa.pos.length c8]):=by rw [hW13];exact ((z1.set_ 0 _).set_ 1 _).set_ 2 _
        go_wp2_with fail
        go_meet
        exact ⟨_,_,_,rfl,rfl,HB13,HO13,HX13⟩
      case rest=>as_aux_lemma =>
       obtain ⟨gC,A8,c8,rfl,rfl,HB13,HO13,HX13⟩:=hcut;obtain ⟨W13,rfl⟩:∃ W13,W13=wc:=⟨wc,rfl⟩;have X13:=HX13.out;have HD13:=zi (HDr.out.below HB13);have HL13:=zi (HLr.out.trans (HB13.mono hbwr));have HF13:=zi (HFr.out.below HB13);have hy13:=X13.lt;clear KS h00 HX13;by_cases hta:ta=0
       rotate_left
       ·have hta':(ta != 0)=true:=by simpa using hta
        have HEE:=zi (show zcE cm d=.error ta by rw [HEF.out];unfold okIf;rw [if_pos hta]);have HN:=zi hta;clear hta;go_wp2_with fail
        go_ret;exact zaM HEE.out HN.out HL13.out
       subst hta;obtain ⟨⟨kX130,kX131,kX132⟩,-⟩:=X13.c3;go_wp2_with fail
       refine (zmz base D false d9 _ c _ k vE11 xs10 ys10 xa A8 c8 W13.heap.size W13 HD13.out (Rd.of_own HO13.out) (zl _)).mono ?_;rintro e W14 ⟨rfl,hb14⟩;have HD14:=zi (HD13.out.below hb14);have HL14:=zi (HL13.out.trans (hb14.mono (by have:=HB13.size;omega)));have HF14:=zi (HF13.out.below hb14);obtain ⟨be,hbe⟩:∃ be,zb9 d9.v xa=be:=⟨_,rfl⟩;have HEG:=zi (show zcE cm d=okIf be (.ok d9) by rw [HEF.out,hbe];rfl);rw [hbe];clear hbe hb14;go_wp2_with fail
       go_ret;by_cases hbz:be=0
       ·subst hbz;exact zd8 HEG.out HD14.out HL14.out HF14.out
       ·exact zaM (by rw [HEG.out];unfold okIf;rw [if_pos hbz]) hbz HL14.out
end
end Go.Proofs.YtockodmbhnlheaaGreatDoor
