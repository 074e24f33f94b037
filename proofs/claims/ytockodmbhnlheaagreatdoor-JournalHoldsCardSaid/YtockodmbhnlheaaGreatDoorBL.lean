import Derived.Test.YtockodmbhnlheaaGreatDoorBH
namespace Go.Proofs.YtockodmbhnlheaaGreatDoor
section
open Go.RowKit
theorem zqV (w:World) (base m:Nat) (hb:base ≤ w.heap.size) (hm:m ≤ maxLen):(w.alloc (.cells (zdG m) 3)).ownsRow base 3 1 (.slice (some ⟨w.heap.size,0,none⟩) m m) m (ints (List.replicate m 0)) :=
 ⟨by simp [ints],.inr ⟨w.heap.size,m,zdG m,rfl,hb,Blk.new w _ _,zl _,hm,by rw [zjT,Nat.mul_one],by rw [zjU];exact List.take_of_length_le (by simp [ints])⟩⟩
theorem zt1 {xs:List Value} {i:Nat} {a b c:Value} (h0:xs[i]?=some a) (h1:xs[i + 1]?=some b) (h2:xs[i + 2]?=some c):xs.take (i + 3)=xs.take i ++ [a,b,c]:=by
 rw [show i + 3=i + 1 + 1 + 1 by omega,List.take_add_one,List.take_add_one,List.take_add_one,h0,h1,show i + 1 + 1=i + 2 by omega,h2];simp
theorem zsl {w:World} {base n c:Nat} {A:Option Addr} {L:List Ac} {xs:List Value} (h:OwnAc w base A n c L xs):∃ LV:List Av,xs=zah LV∧LV.length=n ∧
  ∀ (i:Nat) (a:Ac),L[i]?=some a→∃ A2 c2,LV[i]?=some ⟨a.id,a.bal,A2,a.pos.length,c2⟩∧w.ownsRow base 3 1 (.slice A2 a.pos.length c2) a.pos.length (ints a.pos)∧a.pos.length * 8 ≤ 140737488355328:=by
 have key:∀ k,k ≤ n→∃ LV:List Av,LV.length=k∧zah LV=xs.take (k * 3) ∧
   ∀ (i:Nat) (a:Ac),i < k→L[i]?=some a→∃ A2 c2,LV[i]?=some ⟨a.id,a.bal,A2,a.pos.length,c2⟩∧w.ownsRow base 3 1 (.slice A2 a.pos.length c2) a.pos.length (ints a.pos)∧a.pos.length * 8 ≤ 140737488355328:=by
  intro k;induction k with
  | zero=>intro _;exact ⟨[],rfl,by simp [zah],fun i a hi=>absurd hi (by omega)⟩
  | succ k ih =>
   intro hk;obtain ⟨LV,h1,h2,h3⟩:=ih (by omega);have hl:k < L.length:=by rw [h.len];omega
   have ha:L[k]?=some L[k]:=List.getElem?_eq_getElem hl;obtain ⟨A2,c2,k0,k1,k2,k3,k4⟩:=h.cell k _ ha;refine ⟨LV ++ [⟨L[k].id,L[k].bal,A2,L[k].pos.length,c2⟩],by simp [h1],?_,fun i a hi hia=>?_⟩
   ·rw [zeV,h2,show (k + 1) * 3=k * 3 + 3 by omega,zt1 k0 k1 k2];rfl
   ·by_cases e:i=k
    ·subst e;rw [ha] at hia;injection hia with hia;subst hia;exact ⟨A2,c2,by rw [List.getElem?_append_right (by omega),h1,Nat.sub_self];rfl,k3,k4⟩
    ·obtain ⟨A3,c3,j1,j2,j3⟩:=h3 i a (by omega) hia;exact ⟨A3,c3,by rw [List.getElem?_append_left (by omega)];exact j1,j2,j3⟩
 obtain ⟨LV,h1,h2,h3⟩:=key n (zl _);refine ⟨LV,?_,h1,fun i a hi=>h3 i a (by have:=(List.getElem?_eq_some_iff.1 hi).1;rw [h.len] at this;exact this) hi⟩;rw [h2,List.take_of_length_le];have:=h.row.1;omega
theorem ztO {w:World} {base n c k c0 m:Nat} {A A0:Option Addr} {L:List Ac} {LV:List Av} {a:Ac} (hm:m=a.pos.length) (hr:w.ownsRow base 78 3 (.slice A (n + 1) c) (n + 1) (zah (zdt LV k ⟨a.id,a.bal,A0,m,c0⟩))) (hv:LV.length=n) (hL:L.length=n) (hk:k ≤ n)
  (hc:∀ (i:Nat) (x:Ac),L[i]?=some x→∃ A2 c2,LV[i]?=some ⟨x.id,x.bal,A2,x.pos.length,c2⟩∧w.ownsRow base 3 1 (.slice A2 x.pos.length c2) x.pos.length (ints x.pos)∧x.pos.length * 8 ≤ 140737488355328)
  (h0:w.ownsRow base 3 1 (.slice A0 m c0) m (ints a.pos)) (h1:m * 8 ≤ 140737488355328):OwnAc w base A (n + 1) c (zbZ L k a) (zah (zdt LV k ⟨a.id,a.bal,A0,m,c0⟩)):=by
 subst hm;refine ⟨hr,by rw [zj7 _ _ _ (by omega),hL],fun i x hx=>?_⟩;rw [zj6 _ _ _ (by omega)] at hx;have hv':∀ i,(zdt LV k ⟨a.id,a.bal,A0,a.pos.length,c0⟩)[i]?=_:=zn7 LV k ⟨a.id,a.bal,A0,a.pos.length,c0⟩ (by omega);by_cases e1:i < k
 ·rw [if_pos e1] at hx;obtain ⟨A2,c2,j1,j2,j3⟩:=hc i x hx;obtain ⟨q0,q1,q2⟩:=zgn ((hv' i).trans ((if_pos e1).trans j1));exact ⟨A2,c2,q0,q1,q2,j2,j3⟩
 ·rw [if_neg e1] at hx;by_cases e2:i=k
  ·rw [if_pos e2] at hx;injection hx with hx;subst hx;obtain ⟨q0,q1,q2⟩:=zgn ((hv' i).trans ((if_neg e1).trans (if_pos e2)));exact ⟨A0,c0,q0,q1,q2,h0,h1⟩
  ·rw [if_neg e2] at hx;obtain ⟨A2,c2,j1,j2,j3⟩:=hc _ x hx;obtain ⟨q0,q1,q2⟩:=zgn ((hv' i).trans ((if_neg e1).trans ((if_neg e2).trans j1)));exact ⟨A2,c2,q0,q1,q2,j2,j3⟩
theorem zmN {w Z:World} {base D c k:Nat} {ap:Bool} {d:Dk} {A M:Option Addr} {vE:Value} {xs ys:List Value} {n:Int} (h:Desk w base D ap d A c M k vE xs ys) (hZ:Z=w.setCell ⟨D,5,none⟩ (.int .i64 n)) :
  Desk Z base D ap ⟨{ d.v with inn:=n },d.ev⟩ A c M k vE xs ys:=by
 have hK:Kept [113] w Z:=by rw [hZ];exact (Kept.refl _ w).set h.blk (by decide) _ _
 refine ⟨?_,h.low,h.accs.kept hK (by decide) (by decide),h.mks.kept hK (by decide) (by decide),hK.own h.evs (by decide)⟩;rw [hZ];exact h.blk.set_ 5 _
theorem zsm {w Z:World} {base D c k:Nat} {ap:Bool} {d:Dk} {A M:Option Addr} {vE:Value} {xs ys:List Value} {n:Int} (h:Desk w base D ap d A c M k vE xs ys) (hZ:Z=w.setCell ⟨D,6,none⟩ (.int .i64 n)) :
  Desk Z base D ap ⟨{ d.v with out:=n },d.ev⟩ A c M k vE xs ys:=by
 have hK:Kept [113] w Z:=by rw [hZ];exact (Kept.refl _ w).set h.blk (by decide) _ _
 refine ⟨?_,h.low,h.accs.kept hK (by decide) (by decide),h.mks.kept hK (by decide) (by decide),hK.own h.evs (by decide)⟩;rw [hZ];exact h.blk.set_ 6 _
theorem zqW {w w1 Z:World} {base D c k c' n:Nat} {ap:Bool} {d:Dk} {A M A':Option Addr} {vE:Value} {xs ys xs':List Value} {L:List Ac} (h:Desk w base D ap d A c M k vE xs ys) (hK:Kept [78] w w1) (ho:OwnAc w1 base A' n c' L xs') (hn:L.length=n) (hZ:Z=w1.setCell ⟨D,0,none⟩ (.slice A' n c')) :
  Desk Z base D ap ⟨{ d.v with accs:=L },d.ev⟩ A' c' M k vE xs' ys:=by
 subst hn;have hD:=h.blk.kept hK (by decide);have hK2:Kept [113] w1 Z:=by rw [hZ];exact (Kept.refl _ w1).set hD (by decide) _ _
 refine ⟨?_,h.low,ho.kept hK2 (by decide) (by decide),(h.mks.kept hK (by decide) (by decide)).kept hK2 (by decide) (by decide),hK2.own (hK.own h.evs (by decide)) (by decide)⟩;rw [hZ];exact hD.set_ 0 _
theorem zin {w w1 w':World} {base D:Nat} {r:Except Int Dk} {e:Ending} (h:ze4 w1 base D r e w') (hb:Below base w w1):ze4 w base D r e w':=by
 cases r with
 | error n=>exact ⟨h.1,h.2.1,hb.trans h.2.2⟩
 | ok d'=>exact ⟨h.1,h.2.1,hb.trans h.2.2⟩
set_option maxHeartbeats 8000000 in
set_option maxRecDepth 100000 in
theorem zoc (base D:Nat) (d:Dk) (A:Option Addr) (c:Nat) (M:Option Addr) (k:Nat) (vE:Value) (xs ys:List Value) (cm:Cm) (w:World) (h:Desk w base D false d A c M k vE xs ys) (hb:base ≤ w.heap.size) (hv:VOk d.v) (hl:d.ev.length ≤ 900000) (hk:cm.kind=1∨cm.kind=2) :
  Calls Tryz.prog 71 #[.pointer (some ⟨D,0,none⟩),.agg #[.int .i64 cm.kind,.int .i64 cm.acc,.int .i64 cm.market,.int .i64 cm.n,.int .i64 cm.o.id,.int .i64 cm.o.acc,.int .i64 cm.o.side,.int .i64 cm.o.price,.int .i64 cm.o.qty,.int .i64 cm.how,.bool cm.reduce]] w (ze4 w base D (zcL cm d)):=by
 have HD:=zi h;have HV:=zi hv;have hDl:=h.lt;have hal:=zdZ hv.accs;obtain ⟨hv1,hv2⟩:=hv.len;clear h hv;have HKD:=zi hk;by_cases h1:cm.n < 1
 ·have HE:=zi (zqB (d:=d) (.inl h1));clear hk;go_enter Tryz.func71,Tryz.ntmps71
  go_wp2_with fail
  go_ret;exact zbM HE.out (by omega) ((Below.refl _ _).alloc hb _)
 by_cases h2:1000000000000 < cm.n
 ·have HE:=zi (zqB (d:=d) (.inr h2));have hd1:decide (cm.n < 1)=false:=decide_eq_false h1;have hd2:decide (1000000000000 < cm.n)=true:=decide_eq_true h2;clear hk;go_enter Tryz.func71,Tryz.ntmps71
  go_wp2_with fail
  go_ret;exact zbM HE.out (by omega) ((Below.refl _ _).alloc hb _)
 have hd1:decide (cm.n < 1)=false:=decide_eq_false h1;have hd2:decide (1000000000000 < cm.n)=false:=decide_eq_false h2;have HN1:=zi (show ¬ (cm.n < 1∨1000000000000 < cm.n) by omega);have hn1:1 ≤ cm.n:=by omega
 have hn2:cm.n ≤ 1000000000000:=by omega
 clear h1 h2;by_cases h3:cm.acc < 0
 ·have HE:=zi (zmA (d:=d) HN1.out (.inl h3));clear hk;go_enter Tryz.func71,Tryz.ntmps71
  go_wp2_with fail
  go_ret;exact zbM HE.out (by omega) ((Below.refl _ _).alloc hb _)
 by_cases h4:8 ≤ cm.acc
 ·have HE:=zi (zmA (d:=d) HN1.out (.inr h4));have hd3:decide (cm.acc < 0)=false:=decide_eq_false h3;have hd4:decide (8 ≤ cm.acc)=true:=decide_eq_true h4;clear hk;go_enter Tryz.func71,Tryz.ntmps71
  go_wp2_with fail
  go_ret;exact zbM HE.out (by omega) ((Below.refl _ _).alloc hb _)
 have hd3:decide (cm.acc < 0)=false:=decide_eq_false h3;have hd4:decide (8 ≤ cm.acc)=false:=decide_eq_false h4;have HN2:=zi (show ¬ (cm.acc < 0∨8 ≤ cm.acc) by omega);have HID:=zi (show 0 ≤ cm.acc∧cm.acc ≤ 7 by omega);clear h3 h4;obtain ⟨i,hi⟩:∃ i,i=zam d.v.accs cm.acc:=⟨_,rfl⟩;have HI:=zi hi;rcases hk with hk | hk
 ·rw [hk];obtain ⟨bt,hbt⟩:∃ bt,zas d.v.accs cm.acc=bt:=⟨_,rfl⟩;have HTH:=zi hbt;clear hbt hi;go_enter Tryz.func71,Tryz.ntmps71
  go_wp2_with fail
  refine zbr ?_;intro W0 hW0;have hB0:Below w.heap.size w W0:=by rw [hW0];exact (Below.refl _ _).alloc (zl _) _
  have X0:Blk W0 w.heap.size 34 #[.int .i64 1,.int .i64 cm.acc,.int .i64 cm.market,.int .i64 cm.n,.int .i64 cm.o.id,.int .i64 cm.o.acc,.int .i64 cm.o.side,.int .i64 cm.o.price,.int .i64 cm.o.qty,.int .i64 cm.how,.bool cm.reduce]:=by rw [hW0];exact Blk.new w _ _
  have HD0:=zi (HD.out.below hB0);have hs0:=hB0.size;clear hW0;obtain ⟨⟨k0,k1,k2,k3,k4,k5,k6,-⟩,-⟩:=HD0.out.blk.c8;have x1:W0.cell? ⟨w.heap.size,1,none⟩=some (.int .i64 cm.acc):=X0.cell 1;have y0:=X0.lt;have y3:D < W0.heap.size:=HD0.out.lt;have h00:Below W0.heap.size W0 W0:=Below.refl _ _;have KS:Hid (∀ W,Below W0.heap.size W0 W→Below W0.heap.size W0 W∧W.cell? ⟨w.heap.size,1,none⟩=some (.int .i64 cm.acc)∧W.cell? ⟨D,0,none⟩=some (.slice A d.v.accs.length c)∧W.cell? ⟨D,1,none⟩=some (.slice M d.v.mks.length k) ∧
    W.cell? ⟨D,2,none⟩=some (.int .i64 d.v.ins)∧W.cell? ⟨D,3,none⟩=some (.int .i64 d.v.resid)∧W.cell? ⟨D,4,none⟩=some (.int .i64 d.v.next)∧W.cell? ⟨D,5,none⟩=some (.int .i64 d.v.inn)∧W.cell? ⟨D,6,none⟩=some (.int .i64 d.v.out)):=by
   intro W hW;obtain ⟨⟨k0,k1,k2,k3,k4,k5,k6,k7⟩,-⟩:=(HD0.out.below hW).blk.c8;exact ⟨hW,(X0.below hW X0.lt).cell 1,k0,k1,k2,k3,k4,k5,k6⟩
  clear k0 k1 k2 k3 k4 k5 k6 x1;go_region_held3 (fun W=>Below W0.heap.size W0 W∧W.cell? ⟨w.heap.size,1,none⟩=some (.int .i64 cm.acc)∧W.cell? ⟨D,0,none⟩=some (.slice A d.v.accs.length c)∧W.cell? ⟨D,1,none⟩=some (.slice M d.v.mks.length k) ∧
    W.cell? ⟨D,2,none⟩=some (.int .i64 d.v.ins)∧W.cell? ⟨D,3,none⟩=some (.int .i64 d.v.resid)∧W.cell? ⟨D,4,none⟩=some (.int .i64 d.v.next)∧W.cell? ⟨D,5,none⟩=some (.int .i64 d.v.inn)∧W.cell? ⟨D,6,none⟩=some (.int .i64 d.v.out))
   (first | exact KS.out _ (by assumption) | exact KS.out _ (zaE (by assumption)))
   ((go_at_call 68;go_split_ands;(with_reducible refine (zdH d.v A M c k cm.acc _ _ (HD0.out.below (by first | assumption | exact zaE (by assumption))).accs.read (zl _) HV.out.accs.sorted (zd2 HV.out.accs) HID.out hal).mono ?_);rintro e W1 ⟨he,hb1⟩;rw [HTH.out,← HI.out] at he;subst he;have hB1:=zb2 (w0:=W0) hb1 (by first | assumption | exact zaE (by assumption))))
  refine zau ?_;rintro W hW;obtain rfl:W1=W:=hW.symm;clear hb1 hW KS h00;have HD1:=zi (HD0.out.below hB1);have hL1:=hB0.trans (hB1.mono (by omega));have X1:=X0.below hB1 X0.lt;have hs1:=hB1.size;have hbW1:base ≤ W1.heap.size:=by omega
  have x0:W1.cell? ⟨w.heap.size,0,none⟩=some (.int .i64 1):=X1.cell 0;replace y0:=X1.lt;clear hB1 y3;obtain ⟨s,es,had⟩:∃ s es,zaB [d.v.inn,cm.n]=(s,es):=⟨_,_,rfl⟩;have HAD:=zi had;clear had;have y3:D < W1.heap.size:=HD1.out.lt;have KRD:Hid (∀ W:World,Rd (W.alloc (.cells #[.int .i64 d.v.inn,.int .i64 cm.n] 3)) (W.heap.size + 1) 1 (some ⟨W.heap.size,0,none⟩) 2 2 (ints [d.v.inn,cm.n])):=fun W=>Rd.new W _ _ 2 rfl (by decide);have KRE:Hid (∀ W:World,Rd (W.alloc (.cells #[.int .i64 d.v.inn,.int .i64 cm.n] 3)).drew (W.heap.size + 1) 1 (some ⟨W.heap.size,0,none⟩) 2 2 (ints [d.v.inn,cm.n])):=fun W=>(Rd.new W _ _ 2 rfl (by decide)).drewN 1;have h00:Below W1.heap.size W1 W1:=Below.refl _ _;have KS:Hid (∀ W,Below W1.heap.size W1 W→Below W1.heap.size W1 W∧W.cell? ⟨w.heap.size,3,none⟩=some (.int .i64 cm.n)∧W.cell? ⟨D,5,none⟩=some (.int .i64 d.v.inn)):=by
   intro W hW;exact ⟨hW,(X1.below hW X1.lt).cell 3,(HD1.out.below hW).blk.cell 5⟩
  go_wp2_with fail
  go_region_held3 (fun W=>Below W1.heap.size W1 W∧W.cell? ⟨w.heap.size,3,none⟩=some (.int .i64 cm.n)∧W.cell? ⟨D,5,none⟩=some (.int .i64 d.v.inn))
   (first | exact KS.out _ (by assumption) | exact KS.out _ (zaE (by assumption)) | exact KS.out _ (Below.alloc (by assumption) (Below.size (by assumption)) _) | exact KS.out _ (zaE (Below.alloc (by assumption) (Below.size (by assumption)) _)))
   ((go_at_call 92;go_split_ands;(first | (with_reducible refine (zdX _ _ _ [d.v.inn,cm.n] _ _ (KRD.out _)).mono ?_) | (with_reducible refine (zdX _ _ _ [d.v.inn,cm.n] _ _ (KRE.out _)).mono ?_));rintro e W2 ⟨he,rfl⟩;rw [HAD.out] at he;subst he))
  refine zau ?_;rintro W2 hW2;have hB2:Below W1.heap.size W1 W2:=by rw [hW2];first | assumption | exact zaE (Below.alloc (by assumption) (Below.size (by assumption)) _) | exact Below.alloc (by assumption) (Below.size (by assumption)) _ | exact Below.alloc (zaE (by assumption)) (Below.size (by assumption)) _
  clear hW2 KS h00;have HD2:=zi (HD1.out.below hB2);have hL2:=hL1.trans (hB2.mono (by omega));have X2:=X1.below hB2 X1.lt;have hs2:=hB2.size;clear hB2 x0 X1 hL1 X0 hB0;have HEQ:=zi (zrZ HN1.out HN2.out hk HAD.out HI.out);rw [HTH.out] at HEQ;by_cases he:es=0
  rotate_left
  ·skip;have he':(es != 0)=true:=by simpa using he
   have HEE:=zi (show zcL cm d=.error es by rw [HEQ.out];unfold okIf;rw [if_pos he]);have HN:=zi he;clear he;go_wp2_with fail
   go_ret;exact zbM HEE.out HN.out (hL2.mono hb)
  subst he;obtain ⟨⟨k0,k1,-,-,-,k5,-,-⟩,f0,-,-,-,-,f5,-⟩:=HD2.out.blk.c8;have x3:W2.cell? ⟨w.heap.size,3,none⟩=some (.int .i64 cm.n):=X2.cell 3;replace y0:=X2.lt;replace y3:D < W2.heap.size:=HD2.out.lt;rcases zb5 bt with rfl | rfl
  ·obtain ⟨a,ha,-⟩:=zcJ HV.out.accs.sorted HTH.out;rw [← HI.out] at ha;have HA:=zi ha;clear ha;go_wp2_with fail
   refine zak ?_;intro W3 hW3;have HD3:=zi (zmN HD2.out hW3);have HL3:=zi (show Below base w W3 by rw [hW3];exact (hL2.mono hb).setCell HD2.out.low _);have hb3:base ≤ W3.heap.size:=by rw [hW3,zbB];omega
   clear hW3 k0 k1 k5 f0 f5 x3;refine (ziB base D false ⟨{ d.v with inn:=s },d.ev⟩ A c M k vE xs ys i cm.n a W3 HD3.out hb3 HA.out (by show d.ev.length ≤ _;omega)).mono ?_;intro e W4 hret;have hret':=zin (zgA hret) HL3.out;clear hret;cases hm:zc0 i cm.n ⟨{ d.v with inn:=s },d.ev⟩ with
   | error n =>
    rw [hm] at hret';obtain ⟨hn,rfl,hL4⟩:=hret';have HEE:=zi (show zcL cm d=.error n by rw [HEQ.out];exact hm);have HN:=zi hn;clear hm hn;go_wp2_with fail
    go_ret;exact zbM HEE.out HN.out hL4
   | ok d4 =>
    rw [hm] at hret';obtain ⟨rfl,⟨A4,c4,M4,k4,vE4,hd4⟩,hL4⟩:=hret';have HEE:=zi (show zcL cm d=.ok d4 by rw [HEQ.out];exact hm);have HD4:=zi hd4;clear hm hd4;go_wp2_with fail
    go_ret;exact zgB HEE.out HD4.out hL4
  ·have x1:W2.cell? ⟨w.heap.size,1,none⟩=some (.int .i64 cm.acc):=X2.cell 1;have hmk:=fun W=>zle d.v.mks.length (by omega) W;obtain ⟨LV,hLV,hlv,hcv⟩:=zsl HD2.out.accs;have HLV:=zi hlv;have HCV:=zi hcv;have hii:i ≤ d.v.accs.length:=by rw [HI.out];exact (zgk HV.out.accs.sorted).1
   obtain ⟨m,hmn⟩:∃ m,m=d.v.mks.length:=⟨_,rfl⟩;have HMN:=zi hmn;rw [← hmn] at k1 hmk;have HV2:=zi (show 1 ≤ m∧m ≤ 2 by omega);clear hlv hcv hv1 hv2 hmn;obtain ⟨Wb,hWb⟩:∃ Wb,Wb=((W2.alloc (.cells (zdG m) 3)).alloc (.cells #[.int .i64 cm.acc,.int .i64 0,.slice (some ⟨W2.heap.size,0,none⟩) m m] 78)).drew:=⟨_,rfl⟩;have hBb:Below W2.heap.size W2 Wb:=by rw [hWb];exact zaE (((Below.refl _ _).alloc (zl _) _).alloc (by simp) _)
   have HZR:Hid (Wb.ownsRow base 3 1 (.slice (some ⟨W2.heap.size,0,none⟩) m m) m (ints (List.replicate m 0))):=by rw [hWb];exact zaz (World.ownsRow.alloc (zqV W2 base m (by omega) (by have:=HV2.out;simp only [maxLen];omega)) _) 1
   have HVB:Hid (Blk Wb (W2.heap.size + 1) 78 #[.int .i64 cm.acc,.int .i64 0,.slice (some ⟨W2.heap.size,0,none⟩) m m]):=by rw [hWb];exact Blk.drewN (Blk.new_at _ _ _ _ (by simp)) 1
   have HRB:Hid (Wb.ownsRow base 78 3 (.slice A d.v.accs.length c) d.v.accs.length (zah LV)):=by rw [← hLV];exact (HD2.out.below hBb).accs.row
   have hsb:base ≤ Wb.heap.size:=by have:=hBb.size;omega
   have hne:(Value.slice A d.v.accs.length c).ownBlock ≠ some (W2.heap.size + 1):=fun e=>by have:=(World.ownsRow.lt HD2.out.accs.row _ e).2;omega
   have hKb:Kept [78] W2 Wb:=Kept.of_below _ hBb;have hm40:(d.v.accs.length + 1) * 40 ≤ 140737488355328:=by omega
   have hone:1 ≤ maxLen:=by simp only [maxLen];omega
   have hmem:78 ∈ [78]:=by simp
   have KS:Hid (∀ W,Kept [78] W2 W→W.cell? ⟨w.heap.size,1,none⟩=some (.int .i64 cm.acc)∧W.cell? ⟨D,0,none⟩=some (.slice A d.v.accs.length c)∧W.cell? ⟨D,1,none⟩=some (.slice M m k)∧W.frozen? ⟨D,0,none⟩=false):=by
    intro W hW;have hd:=HD2.out.blk.kept hW (by decide);exact ⟨(X2.kept hW (by decide)).cell 1,hd.cell 0,(hd.cell 1).trans (by rw [HMN.out];rfl),hd.frozen 0⟩
   have HINS:=zi (zoS base (.slice A d.v.accs.length c) d.v.accs.length i LV ⟨cm.acc,0,some ⟨W2.heap.size,0,none⟩,m,m⟩ (W2.heap.size + 1) 1 78 Wb HRB.out hsb HVB.out (zl _) hone hne hii hm40);rw [hWb] at HINS;have HWB:=zi hWb;have HKB:=zi hKb;have HWO:Hid (∀ W b,Only (((W2.alloc (.cells (zdG m) 3)).alloc (.cells #[.int .i64 cm.acc,.int .i64 0,.slice (some ⟨W2.heap.size,0,none⟩) m m] 78)).drew) W b→Only Wb W b):=by rw [hWb];exact fun _ _ h=>h
   have HWS:Hid (∀ W,Below base (((W2.alloc (.cells (zdG m) 3)).alloc (.cells #[.int .i64 cm.acc,.int .i64 0,.slice (some ⟨W2.heap.size,0,none⟩) m m] 78)).drew) W→Wb.heap.size ≤ W.heap.size):=by rw [hWb];exact fun _ h=>h.size
   have HKB2:Hid (∀ W,Only (((W2.alloc (.cells (zdG m) 3)).alloc (.cells #[.int .i64 cm.acc,.int .i64 0,.slice (some ⟨W2.heap.size,0,none⟩) m m] 78)).drew) W (Value.slice A d.v.accs.length c).ownBlock→Wb.heap.size ≤ W.heap.size→Kept [78] Wb W):=by rw [← hWb];exact fun W ho hs=>(Kept.refl _ _).only HRB.out ho hs hmem
   have HWL:Hid (∀ W,Below base (((W2.alloc (.cells (zdG m) 3)).alloc (.cells #[.int .i64 cm.acc,.int .i64 0,.slice (some ⟨W2.heap.size,0,none⟩) m m] 78)).drew) W→Below base W2 W):=by
    have hb2:base ≤ W2.heap.size:=by omega
    rw [← hWb];exact fun _ h=>(hBb.mono hb2).trans h
   clear hWb hKb HVB hne hBb;go_upto_region 11 with (fail)
   go_cut [76] (fun _ wx=>∃ (A3:Option Addr) (c3:Nat) (xs3:List Value),Hid (Desk wx base D false ⟨{ d.v with accs:=zbZ d.v.accs i ⟨cm.acc,0,List.replicate d.v.mks.length 0⟩ },d.ev⟩ A3 c3 M k vE xs3 ys)∧Hid (Blk wx w.heap.size 34 #[.int .i64 1,.int .i64 cm.acc,.int .i64 cm.market,.int .i64 cm.n,.int .i64 cm.o.id,.int .i64 cm.o.acc,.int .i64 cm.o.side,.int .i64 cm.o.price,.int .i64 cm.o.qty,.int .i64 cm.how,.bool cm.reduce])∧Hid (Below base w wx)∧base ≤ wx.heap.size)
   case first =>
    go_region_with ((go_at_call 93;(with_reducible refine (HINS.out).mono ?_);rintro e Wc ⟨v',rfl,hown3,hbl3,honly3⟩;obtain ⟨A3,c3,rfl⟩:=zad hown3;have hK3:=HKB.out.only HRB.out (HWO.out _ _ honly3) (HWS.out _ hbl3) hmem;obtain ⟨z1,z0,z2,z3⟩:=KS.out _ hK3))
    all_goals
     refine zau ?_;intro Z hZ;have HKC:=zi hK3;have HLC:=zi (HWL.out _ hbl3);have HOC:=zi (show OwnAc Wc base A3 (d.v.accs.length + 1) c3 (zbZ d.v.accs i ⟨cm.acc,0,List.replicate d.v.mks.length 0⟩) (zah (zdt LV i ⟨cm.acc,0,some ⟨W2.heap.size,0,none⟩,m,m⟩)) from
      ztO (a:=⟨cm.acc,0,List.replicate d.v.mks.length 0⟩) (by rw [HMN.out];exact List.length_replicate.symm) hown3 HLV.out rfl hii (fun j x hx=>by obtain ⟨A2,c2,j1,j2,j3⟩:=HCV.out j x hx;exact ⟨A2,c2,j1,hK3.own j2 (by decide),j3⟩)
       (by rw [← HMN.out];exact (HKB2.out _ honly3 (HWS.out _ hbl3)).own HZR.out (by decide)) (by have:=HV2.out;omega))
     have HDZ:=zi (zqW HD2.out hK3 HOC.out (zj7 _ _ _ hii) hZ);have XZ:=(X2.kept hK3 (by decide)).far (p:=⟨D,0,none⟩) (zd1 X2 HD2.out.blk (by decide)) (.slice A3 (d.v.accs.length + 1) c3);rw [← hZ] at XZ;have HLZ:=zi (show Below base w Z by rw [hZ];exact ((hL2.mono hb).trans HLC.out).setCell HD2.out.low _);have hsz:base ≤ Z.heap.size:=by rw [hZ,zbB];have:=hK3.size;omega
     clear hZ hK3 hown3 hbl3 honly3;go_wp2_with fail
     go_meet
     exact ⟨_,_,_,HDZ,zi XZ,HLZ,hsz⟩
   case rest=>as_aux_lemma =>
    obtain ⟨A3,c3,xs3,HDZ,HXZ,HLZ,hsz⟩:=hcut;obtain ⟨Z,rfl⟩:∃ Z,Z=wc:=⟨wc,rfl⟩;have XZ:=HXZ.out;clear k0 k1 k5 f0 f5 x1 x3 hmk HXZ;obtain ⟨⟨-,-,-,-,-,k5,-,-⟩,-,-,-,-,-,f5,-⟩:=HDZ.out.blk.c8;have x3:Z.cell? ⟨w.heap.size,3,none⟩=some (.int .i64 cm.n):=XZ.cell 3;have yz:=XZ.lt;have yd:D < Z.heap.size:=HDZ.out.lt;go_wp2_with fail
    refine zak ?_;intro W3 hW3;have HD3:=zi (zmN HDZ.out hW3);have HL3:=zi (show Below base w W3 by rw [hW3];exact HLZ.out.setCell HD2.out.low _);have hb3:base ≤ W3.heap.size:=by rw [hW3,zbB];exact hsz
    have HA:=zi (show (zbZ d.v.accs i ⟨cm.acc,0,List.replicate d.v.mks.length 0⟩)[i]?=some ⟨cm.acc,0,List.replicate d.v.mks.length 0⟩ by rw [zj6 _ _ _ hii,if_neg (Nat.lt_irrefl _),if_pos rfl]);clear hW3 k5 f5 x3;refine (ziB base D false ⟨{ d.v with accs:=zbZ d.v.accs i ⟨cm.acc,0,List.replicate d.v.mks.length 0⟩,inn:=s },d.ev⟩ A3 c3 M k vE xs3 ys i cm.n _ W3 HD3.out hb3 HA.out (by show d.ev.length ≤ _;omega)).mono ?_;intro e W4 hret;have hret':=zin (zgA hret) HL3.out;clear hret;cases hm:zc0 i cm.n ⟨{ d.v with accs:=zbZ d.v.accs i ⟨cm.acc,0,List.replicate d.v.mks.length 0⟩,inn:=s },d.ev⟩ with
    | error n =>
     rw [hm] at hret';obtain ⟨hn,rfl,hL4⟩:=hret';have HEE:=zi (show zcL cm d=.error n by rw [HEQ.out];exact hm);have HN:=zi hn;clear hm hn;go_wp2_with fail
     go_ret;exact zbM HEE.out HN.out hL4
    | ok d4 =>
     rw [hm] at hret';obtain ⟨rfl,⟨A4,c4,M4,k4,vE4,hd4⟩,hL4⟩:=hret';have HEE:=zi (show zcL cm d=.ok d4 by rw [HEQ.out];exact hm);have HD4:=zi hd4;clear hm hd4;go_wp2_with fail
     go_ret;exact zgB HEE.out HD4.out hL4
 ·rw [hk];obtain ⟨bt,hbt⟩:∃ bt,zas d.v.accs cm.acc=bt:=⟨_,rfl⟩;have HTH:=zi hbt;clear hbt hi;go_enter Tryz.func71,Tryz.ntmps71
  go_wp2_with fail
  refine zbr ?_;intro W0 hW0;have hB0:Below w.heap.size w W0:=by rw [hW0];exact (Below.refl _ _).alloc (zl _) _
  have X0:Blk W0 w.heap.size 34 #[.int .i64 2,.int .i64 cm.acc,.int .i64 cm.market,.int .i64 cm.n,.int .i64 cm.o.id,.int .i64 cm.o.acc,.int .i64 cm.o.side,.int .i64 cm.o.price,.int .i64 cm.o.qty,.int .i64 cm.how,.bool cm.reduce]:=by rw [hW0];exact Blk.new w _ _
  have HD0:=zi (HD.out.below hB0);have hs0:=hB0.size;clear hW0;obtain ⟨⟨k0,k1,k2,k3,k4,k5,k6,-⟩,-⟩:=HD0.out.blk.c8;have x1:W0.cell? ⟨w.heap.size,1,none⟩=some (.int .i64 cm.acc):=X0.cell 1;have y0:=X0.lt;have y3:D < W0.heap.size:=HD0.out.lt;have h00:Below W0.heap.size W0 W0:=Below.refl _ _;have KS:Hid (∀ W,Below W0.heap.size W0 W→Below W0.heap.size W0 W∧W.cell? ⟨w.heap.size,1,none⟩=some (.int .i64 cm.acc)∧W.cell? ⟨D,0,none⟩=some (.slice A d.v.accs.length c)∧W.cell? ⟨D,1,none⟩=some (.slice M d.v.mks.length k) ∧
    W.cell? ⟨D,2,none⟩=some (.int .i64 d.v.ins)∧W.cell? ⟨D,3,none⟩=some (.int .i64 d.v.resid)∧W.cell? ⟨D,4,none⟩=some (.int .i64 d.v.next)∧W.cell? ⟨D,5,none⟩=some (.int .i64 d.v.inn)∧W.cell? ⟨D,6,none⟩=some (.int .i64 d.v.out)):=by
   intro W hW;obtain ⟨⟨k0,k1,k2,k3,k4,k5,k6,k7⟩,-⟩:=(HD0.out.below hW).blk.c8;exact ⟨hW,(X0.below hW X0.lt).cell 1,k0,k1,k2,k3,k4,k5,k6⟩
  clear k0 k1 k2 k3 k4 k5 k6 x1;go_region_held3 (fun W=>Below W0.heap.size W0 W∧W.cell? ⟨w.heap.size,1,none⟩=some (.int .i64 cm.acc)∧W.cell? ⟨D,0,none⟩=some (.slice A d.v.accs.length c)∧W.cell? ⟨D,1,none⟩=some (.slice M d.v.mks.length k) ∧
    W.cell? ⟨D,2,none⟩=some (.int .i64 d.v.ins)∧W.cell? ⟨D,3,none⟩=some (.int .i64 d.v.resid)∧W.cell? ⟨D,4,none⟩=some (.int .i64 d.v.next)∧W.cell? ⟨D,5,none⟩=some (.int .i64 d.v.inn)∧W.cell? ⟨D,6,none⟩=some (.int .i64 d.v.out))
   (first | exact KS.out _ (by assumption) | exact KS.out _ (zaE (by assumption)))
   ((go_at_call 68;go_split_ands;(with_reducible refine (zdH d.v A M c k cm.acc _ _ (HD0.out.below (by first | assumption | exact zaE (by assumption))).accs.read (zl _) HV.out.accs.sorted (zd2 HV.out.accs) HID.out hal).mono ?_);rintro e W1 ⟨he,hb1⟩;rw [HTH.out,← HI.out] at he;subst he;have hB1:=zb2 (w0:=W0) hb1 (by first | assumption | exact zaE (by assumption))))
  refine zau ?_;rintro W hW;obtain rfl:W1=W:=hW.symm;clear hb1 hW KS h00;have HD1:=zi (HD0.out.below hB1);have hL1:=hB0.trans (hB1.mono (by omega));have X1:=X0.below hB1 X0.lt;have hs1:=hB1.size;have hbW1:base ≤ W1.heap.size:=by omega
  have x0:W1.cell? ⟨w.heap.size,0,none⟩=some (.int .i64 2):=X1.cell 0;replace y0:=X1.lt;clear hB1 y3;rcases (zb5 bt).symm with rfl | rfl
  ·have HEE:=zi (zqC HN1.out HN2.out hk HTH.out);go_wp2_with fail
   go_ret;exact zbM HEE.out (by omega) (hL1.mono hb)
  obtain ⟨s,es,had⟩:∃ s es,zaB [d.v.out,cm.n]=(s,es):=⟨_,_,rfl⟩;have HAD:=zi had;clear had;have y3:D < W1.heap.size:=HD1.out.lt;have KRD:Hid (∀ W:World,Rd (W.alloc (.cells #[.int .i64 d.v.out,.int .i64 cm.n] 3)) (W.heap.size + 1) 1 (some ⟨W.heap.size,0,none⟩) 2 2 (ints [d.v.out,cm.n])):=fun W=>Rd.new W _ _ 2 rfl (by decide);have KRE:Hid (∀ W:World,Rd (W.alloc (.cells #[.int .i64 d.v.out,.int .i64 cm.n] 3)).drew (W.heap.size + 1) 1 (some ⟨W.heap.size,0,none⟩) 2 2 (ints [d.v.out,cm.n])):=fun W=>(Rd.new W _ _ 2 rfl (by decide)).drewN 1;have h00:Below W1.heap.size W1 W1:=Below.refl _ _;have KS:Hid (∀ W,Below W1.heap.size W1 W→Below W1.heap.size W1 W∧W.cell? ⟨w.heap.size,3,none⟩=some (.int .i64 cm.n)∧W.cell? ⟨D,6,none⟩=some (.int .i64 d.v.out)):=by
   intro W hW;exact ⟨hW,(X1.below hW X1.lt).cell 3,(HD1.out.below hW).blk.cell 6⟩
  go_wp2_with fail
  go_region_held3 (fun W=>Below W1.heap.size W1 W∧W.cell? ⟨w.heap.size,3,none⟩=some (.int .i64 cm.n)∧W.cell? ⟨D,6,none⟩=some (.int .i64 d.v.out))
   (first | exact KS.out _ (by assumption) | exact KS.out _ (zaE (by assumption)) | exact KS.out _ (Below.alloc (by assumption) (Below.size (by assumption)) _) | exact KS.out _ (zaE (Below.alloc (by assumption) (Below.size (by assumption)) _)))
   ((go_at_call 92;go_split_ands;(first | (with_reducible refine (zdX _ _ _ [d.v.out,cm.n] _ _ (KRD.out _)).mono ?_) | (with_reducible refine (zdX _ _ _ [d.v.out,cm.n] _ _ (KRE.out _)).mono ?_));rintro e W2 ⟨he,rfl⟩;rw [HAD.out] at he;subst he))
  refine zau ?_;rintro W2 hW2;have hB2:Below W1.heap.size W1 W2:=by rw [hW2];first | assumption | exact zaE (Below.alloc (by assumption) (Below.size (by assumption)) _) | exact Below.alloc (by assumption) (Below.size (by assumption)) _ | exact Below.alloc (zaE (by assumption)) (Below.size (by assumption)) _
  clear hW2 KS h00;have HD2:=zi (HD1.out.below hB2);have hL2:=hL1.trans (hB2.mono (by omega));have X2:=X1.below hB2 X1.lt;have hs2:=hB2.size;clear hB2 x0 X1 hL1 X0 hB0;have HEQ:=zi (zr0 HN1.out HN2.out hk HTH.out HAD.out HI.out);by_cases he:es=0
  rotate_left
  ·skip;have he':(es != 0)=true:=by simpa using he
   have HEE:=zi (show zcL cm d=.error es by rw [HEQ.out];unfold okIf;rw [if_pos he]);have HN:=zi he;clear he;go_wp2_with fail
   go_ret;exact zbM HEE.out HN.out (hL2.mono hb)
  subst he;obtain ⟨⟨-,-,-,-,-,-,k6,-⟩,-,-,-,-,-,-,f6,-⟩:=HD2.out.blk.c8;have x3:W2.cell? ⟨w.heap.size,3,none⟩=some (.int .i64 cm.n):=X2.cell 3;replace y0:=X2.lt;replace y3:D < W2.heap.size:=HD2.out.lt;obtain ⟨a,ha,-⟩:=zcJ HV.out.accs.sorted HTH.out;rw [← HI.out] at ha;have HA:=zi ha;clear ha;go_wp2_with fail
  refine zak ?_;intro W3 hW3;have HD3:=zi (zsm HD2.out hW3);have HL3:=zi (show Below base w W3 by rw [hW3];exact (hL2.mono hb).setCell HD2.out.low _);have hb3:base ≤ W3.heap.size:=by rw [hW3,zbB];omega
  clear hW3 k6 f6 x3;refine (ziB base D false ⟨{ d.v with out:=s },d.ev⟩ A c M k vE xs ys i (-cm.n) a W3 HD3.out hb3 HA.out (by show d.ev.length ≤ _;omega)).mono ?_;intro e W4 hret;cases hm:zc0 i (-cm.n) ⟨{ d.v with out:=s },d.ev⟩ with
  | error n =>
   rw [hm] at hret;obtain ⟨hn,rfl,hL4⟩:=hret;have HEE:=zi (show zcL cm d=.error n by rw [HEQ.out,hm];rfl);have hn':(n != 0)=true:=by simpa using hn
   have HN:=zi hn;clear hm hn;go_wp2_with fail
   go_ret;exact zbM HEE.out HN.out (HL3.out.trans hL4)
  | ok d4 =>
   rw [hm] at hret;obtain ⟨rfl,⟨vE4,xs4,ys4,hd4⟩,hL4,hF4⟩:=hret;have HD4:=zi hd4;have HL4:=zi (HL3.out.trans hL4);obtain ⟨a',ha',hp'⟩:=zti (d:=⟨{ d.v with out:=s },d.ev⟩) HA.out hm;have HEE:=zi (show zcL cm d=okIf (zb9 d4.v a') (.ok d4) by rw [HEQ.out,hm];show okIf (zb9 d4.v (zaR d4.v i)) _=_;rw [show zaR d4.v i=a' from zaY ha']);obtain ⟨g,A2,c2,rfl,hg1,hg2,hin,⟨cs,hgB⟩,⟨q0,q1,q2⟩,-,hpos,-⟩:=zeE HD4.out.accs ha';have HPO:=zi (Rd.of_own hpos);obtain ⟨⟨k0,-⟩,-⟩:=HD4.out.blk.c8;have hi0:(0:Int) ≤ (i:Int):=by omega
   have hi1:(i:Int) < (d4.v.accs.length:Int):=by omega
   have y4:D < W4.heap.size:=HD4.out.lt;clear hm hd4 hL4 hF4 ha' hp' hgB hpos;go_wp2_with fail
   refine (zmz base D false d4 _ c M k vE4 xs4 ys4 a' A2 c2 W4.heap.size W4 HD4.out HPO.out (zl _)).mono ?_;rintro e W5 ⟨rfl,hb5⟩;have HD5:=zi (HD4.out.below hb5);have HL5:=zi (HL4.out.trans (hb5.mono (by have:=HD4.out.low;omega)));obtain ⟨be,hbe⟩:∃ be,zb9 d4.v a'=be:=⟨_,rfl⟩;have HEG:=zi (show zcL cm d=okIf be (.ok d4) by rw [HEE.out,hbe]);rw [hbe];clear hbe hb5;go_wp2_with fail
   go_ret;by_cases hbz:be=0
   ·subst hbz;exact zgB HEG.out HD5.out.dr HL5.out
   ·exact zbM (by rw [HEG.out];unfold okIf;rw [if_pos hbz]) hbz HL5.out
end
end Go.Proofs.YtockodmbhnlheaaGreatDoor
