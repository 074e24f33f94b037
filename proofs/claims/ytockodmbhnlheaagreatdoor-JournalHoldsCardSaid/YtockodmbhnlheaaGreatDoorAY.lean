import Derived.Test.YtockodmbhnlheaaGreatDoorAT
import Derived.Test.YtockodmbhnlheaaGreatDoorAU
namespace Go.Proofs.YtockodmbhnlheaaGreatDoor
section
open Go.RowKit
def ab (A:Option Addr):List Nat:=(A.map (·.block)).toList
def ze3 (w:World) (base D:Nat) (ap:Bool) (A:Option Addr) (c:Nat) (M:Option Addr) (k:Nat) (S:List TypeId) (G:List Nat) (r:Except Int Dk) (e:Ending) (w':World):Prop :=
 match r with
 | .ok d'=>e=.returned (.int .i64 0)∧(∃ vE xs ys,Desk w' base D ap d' A c M k vE xs ys)∧Below base w w'∧Fr S G w w'
 | .error n=>n ≠ 0∧e=.returned (.int .i64 n)∧Below base w w'
theorem zaM {w w':World} {base D:Nat} {ap:Bool} {A:Option Addr} {c:Nat} {M:Option Addr} {k:Nat} {S:List TypeId} {G:List Nat} {r:Except Int Dk} {n:Int} (h:r=.error n) (hn:n ≠ 0) (hb:Below base w w') :
  ze3 w base D ap A c M k S G r (.returned (.int .i64 n)) w':=by subst h;exact ⟨hn,rfl,hb⟩
theorem zd8 {w w':World} {base D:Nat} {ap:Bool} {A:Option Addr} {c:Nat} {M:Option Addr} {k:Nat} {S:List TypeId} {G:List Nat} {r:Except Int Dk} {d':Dk} {vE:Value} {xs ys:List Value} (h:r=.ok d') (hd:Desk w' base D ap d' A c M k vE xs ys) (hb:Below base w w') (hf:Fr S G w w') :
  ze3 w base D ap A c M k S G r (.returned (.int .i64 0)) w':=by subst h;exact ⟨rfl,⟨_,_,_,hd⟩,hb,hf⟩
theorem zeE {w:World} {base n c:Nat} {A:Option Addr} {L:List Ac} {xs:List Value} (h:OwnAc w base A n c L xs) {i:Nat} {a:Ac} (hi:L[i]?=some a) :
  ∃ g A2 c2,A=some ⟨g,0,none⟩∧base ≤ g∧g < w.heap.size∧i < n∧(∃ cs,Blk w g 78 cs) ∧
   (w.cell? ⟨g,i * 3,none⟩=some (.int .i64 a.id)∧w.cell? ⟨g,i * 3 + 1,none⟩=some (.int .i64 a.bal)∧w.cell? ⟨g,i * 3 + 2,none⟩=some (.slice A2 a.pos.length c2)) ∧
   (w.frozen? ⟨g,i * 3,none⟩=false∧w.frozen? ⟨g,i * 3 + 1,none⟩=false∧w.frozen? ⟨g,i * 3 + 2,none⟩=false) ∧
   w.ownsRow base 3 1 (.slice A2 a.pos.length c2) a.pos.length (ints a.pos)∧a.pos.length * 8 ≤ 140737488355328:=by
 have hl:=h.len;have hin:i < n:=by have:=(List.getElem?_eq_some_iff.1 hi).1;omega
 obtain ⟨A2,c2,k0,k1,k2,k3,k4⟩:=h.cell i a hi;obtain ⟨g,cs,rfl,hb,hg⟩:=zdk h.row (by omega);have hr:=Rd.of_own h.row;obtain ⟨b,o,e,_,hc⟩:=hr.at_ (by omega);injection e with e;injection e with e1 e2;subst e1;subst e2;have c0:=hc _ _ k0;have c1:=hc _ _ k1;have c2':=hc _ _ k2;rw [Nat.zero_add] at c0;rw [Nat.zero_add] at c1;rw [Nat.zero_add] at c2';exact ⟨g,A2,c2,rfl,hb,hg.lt,hin,⟨cs,hg⟩,⟨c0,c1,c2'⟩,⟨hg.frozen _,hg.frozen _,hg.frozen _⟩,k3,k4⟩
def zf6 (mk:Nat) (t m q p fee:Int) (v:Vn):Nat→Except Int Vn
 | 0=>zby (zb3 v mk t q p fee) fun v=>zby (zb3 v mk m (-q) p 0) fun v=>okIf (zaB [v.ins,fee]).2 (.ok { v with ins:=(zaB [v.ins,fee]).1 })
 | 1=>zby (zb3 v mk m (-q) p 0) fun v=>okIf (zaB [v.ins,fee]).2 (.ok { v with ins:=(zaB [v.ins,fee]).1 })
 | _=>okIf (zaB [v.ins,fee]).2 (.ok { v with ins:=(zaB [v.ins,fee]).1 })
structure TrR (w wr:World) (base D:Nat) (ap:Bool) (d:Dk) (A:Option Addr) (c:Nat) (M:Option Addr) (k:Nat) (vE:Value) (ys:List Value) (mk:Nat) (t m q p fee:Int) (j:Nat) (v:Vn) (xs:List Value):Prop where
 desk:Desk wr base D ap ⟨v,d.ev⟩ A c M k vE xs ys
 low:Below base w wr
 fr:Fr [] (D :: ab A) w wr
 ok:AOk v.mks.length v.accs
 eq:zf6 mk t m q p fee v j=zcD d.v mk t m q p fee
theorem zoT {mk:Nat} {t m q p fee:Int} {v:Vn} {j:Nat} (hj:j < 2) (ht:0 ≤ t∧t ≤ 7) (hm:0 ≤ m∧m ≤ 7) (hq:-1000 ≤ q∧q ≤ 1000):∃ who q' f':Int,
  (∀ W,(Instr.index 238 (.agg #[.int .i64 t,.int .i64 q,.int .i64 fee,.int .i64 m,.int .i64 (-q),.int .i64 0]) (.int .i64 (j:Int))).run Tryz.prog W=.ok (.agg #[.int .i64 who,.int .i64 q',.int .i64 f']) W) ∧
  zf6 mk t m q p fee v j=zby (zb3 v mk who q' p f') (fun v=>zf6 mk t m q p fee v (j + 1))∧(0 ≤ who∧who ≤ 7)∧(-1000 ≤ q'∧q' ≤ 1000):=by
 rcases (show j=0∨j=1 by omega) with rfl | rfl
 ·exact ⟨t,q,fee,fun W=>ix0 _ _ _ _ _ _ W,rfl,ht,hq⟩
 ·exact ⟨m,-q,0,fun W=>ix1 _ _ _ _ _ _ W,rfl,hm,by omega⟩
theorem zlj {x:Ac} {e':Int} (a:Ac) (A:Option Addr) (c:Nat) (m q p f:Int) (B:Nat) (w:World) (hr:zaZ a m q p f=(x,e')) (h:Rd w B 1 A a.pos.length c (ints a.pos)) (hB:B ≤ w.heap.size) :
  Calls Tryz.prog 100 #[.agg #[.int .i64 a.id,.int .i64 a.bal,.slice A a.pos.length c],.int .i64 m,.int .i64 q,.int .i64 p,.int .i64 f] w (zeA w (x,e')):=by
 rw [← hr];exact zqk a A c m q p f B w h hB
theorem zd2 {m:Nat} {L:List Ac} (h:AOk m L):∀ a ∈ L,0 ≤ a.id∧a.id ≤ 7:=fun a ha=>by have:=(zaw (h.ok a ha)).1;omega
theorem zqr {v:Vn} {mk:Nat} {who q p fee:Int} (h:zas v.accs who=false):zb3 v mk who q p fee=.error 5:=by unfold zb3;rw [if_pos h]
theorem zau {Q:Exit→Act→World→Prop} {e:Exit} {a:Act} {W:World} (h:∀ Z,Z=W→Q e a Z):Q e a W:=h W rfl
theorem zb5 (b:Bool):b=true∨b=false:=by cases b <;> simp
theorem zb2 {w0 W W':World} (hb:Below W.heap.size W W') (h:Below w0.heap.size w0 W):Below w0.heap.size w0 W':=h.trans (hb.mono h.size)
theorem zaE {w0 W:World} (h:Below w0.heap.size w0 W):Below w0.heap.size w0 W.drew:=zac h 1
theorem zoU {v:Vn} {mk i:Nat} {who q p fee:Int} {a x:Ac} (ha:AOk v.mks.length v.accs) (_:v.accs[i]?=some a) (htr:zaZ a mk q p fee=(x,0)) (hs:zb3 v mk who q p fee=okIf 0 (.ok (zbK v i x))) :
  AOk v.mks.length (v.accs.set i x)∧x.pos.length=a.pos.length:=by
 have h:zb3 v mk who q p fee=.ok (zbK v i x):=hs;obtain ⟨_,_,_,_,_,_,_,_,_,_,_,h9,_⟩:=zkt ha h;exact ⟨h9,(zjB htr).1⟩
theorem OwnAc.drew1 {w:World} {base n c:Nat} {A:Option Addr} {L:List Ac} {xs:List Value} (h:OwnAc w base A n c L xs):OwnAc w.drew base A n c L xs:=h.mono (zaz h.row 1) fun _ _ _ hr=>zaz hr 1
theorem OwnAc.cast {w:World} {base n m c:Nat} {A:Option Addr} {L:List Ac} {xs:List Value} (h:OwnAc w base A n c L xs) (e:n=m):OwnAc w base A m c L xs:=by subst e;exact h
theorem zrQ {w Z:World} {base D c k g i:Nat} {ap:Bool} {d:Dk} {M:Option Addr} {vE:Value} {xs ys:List Value} {x:Ac} {A3:Option Addr} {c3:Nat} {cs:Array Value} (h:Desk w base D ap d (some ⟨g,0,none⟩) c M k vE xs ys) (hi:i < d.v.accs.length)
  (ho:w.ownsRow base 3 1 (.slice A3 x.pos.length c3) x.pos.length (ints x.pos)) (hl:x.pos.length * 8 ≤ 140737488355328) (hg:Blk w g 78 cs)
  (hZ:Z=(((w.setCell ⟨g,i * 3,none⟩ (.int .i64 x.id)).setCell ⟨g,i * 3 + 1,none⟩ (.int .i64 x.bal)).setCell ⟨g,i * 3 + 2,none⟩ (.slice A3 x.pos.length c3)).drew) :
  ∃ xs',Desk Z base D ap ⟨zbK d.v i x,d.ev⟩ (some ⟨g,0,none⟩) c M k vE xs' ys:=by
 have hK:Kept [78] w Z:=by
  rw [hZ];exact (((Kept.refl _ _).set hg (by decide) _ _).set (hg.set_ _ _) (by decide) _ _).set ((hg.set_ _ _).set_ _ _) (by decide) _ _ |>.drew
 have hlen:(zbK d.v i x).accs.length=d.v.accs.length:=by simp [zbK]
 have hacc:=((h.accs.put hi ho hl).drew1).cast hlen.symm;rw [← hZ] at hacc;refine ⟨_,⟨?_,h.low,hacc,h.mks.kept hK (by decide) (by decide),hK.own h.evs (by decide)⟩⟩
 ·show Blk Z D 113 #[.slice _ (zbK d.v i x).accs.length c,_,_,_,_,_,_,_];rw [hlen];exact h.blk.kept hK (by decide)
theorem zrR {w Z:World} {base D c k:Nat} {ap:Bool} {d:Dk} {A M:Option Addr} {vE:Value} {xs ys:List Value} {n:Int} {ob:Obj} (h:Desk w base D ap d A c M k vE xs ys) (hZ:Z=(w.setCell ⟨D,2,none⟩ (.int .i64 n)).alloc ob) :
  Desk Z base D ap ⟨{ d.v with ins:=n },d.ev⟩ A c M k vE xs ys:=by
 have hK:Kept [113] w Z:=by rw [hZ];exact ((Kept.refl _ w).set h.blk (by decide) _ _).alloc _
 refine ⟨?_,h.low,h.accs.kept hK (by decide) (by decide),h.mks.kept hK (by decide) (by decide),hK.own h.evs (by decide)⟩;rw [hZ];exact (h.blk.set_ 2 _).alloc _
theorem zrS {w wr W3 Z:World} {base D c k g i j:Nat} {ap:Bool} {d:Dk} {M:Option Addr} {vE:Value} {xs ys:List Value} {mk:Nat} {t m q p fee:Int} {v:Vn} {a x:Ac} {A3:Option Addr} {c3:Nat} {cs:Array Value}
  (_:TrR w wr base D ap d (some ⟨g,0,none⟩) c M k vE ys mk t m q p fee j v xs) (hd:Desk W3 base D ap ⟨v,d.ev⟩ (some ⟨g,0,none⟩) c M k vE xs ys) (_:v.accs[i]?=some a) (ho:W3.ownsRow base 3 1 (.slice A3 x.pos.length c3) x.pos.length (ints x.pos))
  (hn:AOk v.mks.length (v.accs.set i x)∧x.pos.length=a.pos.length) (hl:a.pos.length * 8 ≤ 140737488355328) (hg:Blk W3 g 78 cs) (hL:Below base w W3) (hF:Fr [] (D :: ab (some ⟨g,0,none⟩)) w W3)
  (he:zf6 mk t m q p fee (zbK v i x) (j + 1)=zcD d.v mk t m q p fee) (hin:i < v.accs.length) (hb:base ≤ g)
  (hZ:Z=(((W3.setCell ⟨g,i * 3,none⟩ (.int .i64 x.id)).setCell ⟨g,i * 3 + 1,none⟩ (.int .i64 x.bal)).setCell ⟨g,i * 3 + 2,none⟩ (.slice A3 x.pos.length c3)).drew) :
  ∃ xs',TrR w Z base D ap d (some ⟨g,0,none⟩) c M k vE ys mk t m q p fee (j + 1) (zbK v i x) xs':=by
 obtain ⟨xs',h1⟩:=zrQ hd hin ho (by rw [hn.2];exact hl) hg hZ;refine ⟨xs',h1,?_,?_,hn.1,he⟩
 ·rw [hZ];exact zac (((hL.setCell hb _).setCell hb _).setCell hb _) 1
 ·rw [hZ];exact (((hF.set hg (.inr (by simp [ab])) _ _).set (hg.set_ _ _) (.inr (by simp [ab])) _ _).set ((hg.set_ _ _).set_ _ _) (.inr (by simp [ab])) _ _).drewN 1
set_option maxHeartbeats 4000000 in
set_option maxRecDepth 100000 in
theorem zjk (base D:Nat) (ap:Bool) (d:Dk) (A:Option Addr) (c:Nat) (M:Option Addr) (k:Nat) (vE:Value) (xs ys:List Value) (mk:Nat) (t m q p fee:Int) (w:World) (h:Desk w base D ap d A c M k vE xs ys) (hb:base ≤ w.heap.size)
  (ha:AOk d.v.mks.length d.v.accs) (ht:0 ≤ t∧t ≤ 7) (hm:0 ≤ m∧m ≤ 7) (hq:-1000 ≤ q∧q ≤ 1000) :
  Calls Tryz.prog 132 #[.pointer (some ⟨D,0,none⟩),.int .i64 mk,.int .i64 t,.int .i64 m,.int .i64 q,.int .i64 p,.int .i64 fee] w
   (ze3 w base D ap A c M k [] (D :: ab A) ((zcD d.v mk t m q p fee).map fun v=>⟨v,d.ev⟩)):=by
 have HT:=zi ht;have HM:=zi hm;have HQ:=zi hq;obtain ⟨hq1,hq2⟩:=hq;have HR0:=zi (show TrR w w base D ap d A c M k vE ys mk t m q p fee 0 d.v xs from ⟨h,Below.refl _ _,Fr.refl _ _ _,ha,rfl⟩);clear h ha ht hm;go_enter Tryz.func132,Tryz.ntmps132
 go_wp2_with fail
 go_loopw [32] (fun i wr=>∃ (j:Nat) (v:Vn) (xs1:List Value),j ≤ 2∧i=.int .i64 j∧Hid (TrR w wr base D ap d A c M k vE ys mk t m q p fee j v xs1)) (fun i _=>2 - (intOf i).toNat)
 case atStart=>exact ⟨0,d.v,xs,by omega,rfl,HR0⟩
 case round =>
  obtain ⟨j,v,xs1,hj,rfl,HR⟩:=hrel;have hDl:=HR.out.desk.lt;have hbr:base ≤ wr.heap.size:=Nat.le_trans hb HR.out.fr.size;by_cases hlt:j < 2
  ·obtain ⟨who,q',f',hix,hst,hwho,hq'⟩:=zoT (mk:=mk) (p:=p) (fee:=fee) (v:=v) hlt HT.out HM.out HQ.out;have HST:=zi hst;have HWH:=zi hwho;have HQ':=zi hq';clear hst hwho hq';go_wp2_with fail
   refine zbr ?_;intro W0 hW0;have hB0:Below wr.heap.size wr W0:=by rw [hW0];exact (Below.refl _ _).alloc (zl _) _
   have hs0:W0.heap.size=wr.heap.size + 1:=by rw [hW0];simp
   have X0:Blk W0 wr.heap.size 237 #[.int .i64 who,.int .i64 q',.int .i64 f']:=by rw [hW0];exact Blk.new wr _ _
   have HD0:=zi (HR.out.desk.below hB0);have HL0:=zi (HR.out.low.trans (hB0.mono hbr));have HF0:=zi (HR.out.fr.below hB0);clear hW0 hB0 hix;obtain ⟨⟨k0,k1,k2,k3,k4,k5,k6,k7⟩,f0,f1,f2,f3,f4,f5,f6,f7⟩:=HD0.out.blk.c8;have p0:=X0.cell 0;have y1:D < W0.heap.size:=HD0.out.lt;have y2:wr.heap.size < W0.heap.size:=X0.lt;have h00:Below W0.heap.size W0 W0:=Below.refl _ _;have KS:Hid (∀ W,Below W0.heap.size W0 W→Below W0.heap.size W0 W∧W.cell? ⟨wr.heap.size,0,none⟩=some (.int .i64 who)∧W.cell? ⟨D,0,none⟩=some (.slice A v.accs.length c)∧W.cell? ⟨D,1,none⟩=some (.slice M v.mks.length k) ∧
     W.cell? ⟨D,2,none⟩=some (.int .i64 v.ins)∧W.cell? ⟨D,3,none⟩=some (.int .i64 v.resid)∧W.cell? ⟨D,4,none⟩=some (.int .i64 v.next)∧W.cell? ⟨D,5,none⟩=some (.int .i64 v.inn)∧W.cell? ⟨D,6,none⟩=some (.int .i64 v.out)):=by
    intro W hW;obtain ⟨⟨k0,k1,k2,k3,k4,k5,k6,k7⟩,-⟩:=(HD0.out.below hW).blk.c8;exact ⟨hW,(X0.below hW X0.lt).cell 0,k0,k1,k2,k3,k4,k5,k6⟩
   clear k0 k1 k2 k3 k4 k5 k6 k7 p0;rcases (zb5 (zas v.accs who)).symm with hth | hth
   ·have HTH:=zi hth;have HE:=zi (show (zcD d.v mk t m q p fee).map (fun v=>(⟨v,d.ev⟩:Dk))=.error 5 by rw [← HR.out.eq,HST.out,zqr hth];rfl);clear hth;go_region_held3 (fun W=>Below W0.heap.size W0 W∧W.cell? ⟨wr.heap.size,0,none⟩=some (.int .i64 who)∧W.cell? ⟨D,0,none⟩=some (.slice A v.accs.length c)∧W.cell? ⟨D,1,none⟩=some (.slice M v.mks.length k) ∧
     W.cell? ⟨D,2,none⟩=some (.int .i64 v.ins)∧W.cell? ⟨D,3,none⟩=some (.int .i64 v.resid)∧W.cell? ⟨D,4,none⟩=some (.int .i64 v.next)∧W.cell? ⟨D,5,none⟩=some (.int .i64 v.inn)∧W.cell? ⟨D,6,none⟩=some (.int .i64 v.out))
     (first | exact KS.out _ (by assumption) | exact KS.out _ (zaE (by assumption)))
     ((go_at_call 68;go_split_ands;(with_reducible refine (zdH v A M c k who _ _ (HD0.out.below (by first | assumption | exact zaE (by assumption))).accs.read (zl _) HR.out.ok.sorted (zd2 HR.out.ok) HWH.out (zdZ HR.out.ok)).mono ?_);rintro e W1 ⟨he,hb1⟩;rw [HTH.out] at he;subst he;have hB1:=zb2 (w0:=W0) hb1 (by first | assumption | exact zaE (by assumption))))
    refine zau ?_;rintro W hW;obtain rfl:W1=W:=hW.symm;clear hb1 hW;have HD1:=zi (HD0.out.below hB1);have HL1:=zi (HL0.out.trans (hB1.mono (by omega)));have HF1:=zi (HF0.out.below hB1);have X1:=X0.below hB1 (by omega);have hs1:=hB1.size;go_wp2_with fail
    go_ret;exact zaM HE.out (by omega) HL1.out
   ·have HTH:=zi hth;obtain ⟨a,hk,hid⟩:=zcJ HR.out.ok.sorted hth;obtain ⟨x,te,htr⟩:∃ x te,zaZ a mk q' p f'=(x,te):=⟨_,_,rfl⟩;have HSD:=zi (show zb3 v mk who q' p f'=okIf te (.ok (zbK v (zam v.accs who) x)) by unfold zb3;rw [hth,if_neg (by simp),show zaR v (zam v.accs who)=a from zaY hk,htr]);have HTR:=zi htr;have HK:=zi hk;clear hth hid htr hk;go_region_held3 (fun W=>Below W0.heap.size W0 W∧W.cell? ⟨wr.heap.size,0,none⟩=some (.int .i64 who)∧W.cell? ⟨D,0,none⟩=some (.slice A v.accs.length c)∧W.cell? ⟨D,1,none⟩=some (.slice M v.mks.length k) ∧
     W.cell? ⟨D,2,none⟩=some (.int .i64 v.ins)∧W.cell? ⟨D,3,none⟩=some (.int .i64 v.resid)∧W.cell? ⟨D,4,none⟩=some (.int .i64 v.next)∧W.cell? ⟨D,5,none⟩=some (.int .i64 v.inn)∧W.cell? ⟨D,6,none⟩=some (.int .i64 v.out))
     (first | exact KS.out _ (by assumption) | exact KS.out _ (zaE (by assumption)))
     ((go_at_call 68;go_split_ands;(with_reducible refine (zdH v A M c k who _ _ (HD0.out.below (by first | assumption | exact zaE (by assumption))).accs.read (zl _) HR.out.ok.sorted (zd2 HR.out.ok) HWH.out (zdZ HR.out.ok)).mono ?_);rintro e W1 ⟨he,hb1⟩;rw [HTH.out] at he;subst he;have hB1:=zb2 (w0:=W0) hb1 (by first | assumption | exact zaE (by assumption))))
    refine zau ?_;rintro W hW;obtain rfl:W1=W:=hW.symm;clear hb1 hW;have HD1:=zi (HD0.out.below hB1);have HL1:=zi (HL0.out.trans (hB1.mono (by omega)));have HF1:=zi (HF0.out.below hB1);have X1:=X0.below hB1 (by omega);have hs1:=hB1.size;clear HTH;obtain ⟨i,hi⟩:∃ i,i=zam v.accs who:=⟨_,rfl⟩;rw [← hi] at HSD HK;rw [← hi];clear hi;go_wp2_with fail
    clear KS hB1 X0 y1 y2 h00 f0 f1 f2 f3 f4 f5 f6 f7;obtain ⟨g,A2,c2,rfl,hg1,hg2,hin,⟨cs,hgB⟩,⟨q0,q1,q2⟩,⟨r0,r1,r2⟩,hpos,hpl⟩:=zeE HD1.out.accs HK.out;have HPO:=zi (Rd.of_own hpos);have HPL:=zi hpl;have HGB:=zi hgB;have y1:D < W1.heap.size:=HD1.out.lt;have y2:wr.heap.size < W1.heap.size:=X1.lt;have h00:Below W1.heap.size W1 W1:=Below.refl _ _;have hi0:(0:Int) ≤ (i:Int):=by omega
    have hi1:(i:Int) < (v.accs.length:Int):=by have:i < v.accs.length:=hin;omega
    have KS:Hid (∀ W,Below W1.heap.size W1 W→Below W1.heap.size W1 W∧W.cell? ⟨wr.heap.size,1,none⟩=some (.int .i64 q')∧W.cell? ⟨wr.heap.size,2,none⟩=some (.int .i64 f')∧W.cell? ⟨D,0,none⟩=some (.slice (some ⟨g,0,none⟩) v.accs.length c) ∧
      W.cell? ⟨g,i * 3,none⟩=some (.int .i64 a.id)∧W.cell? ⟨g,i * 3 + 1,none⟩=some (.int .i64 a.bal)∧W.cell? ⟨g,i * 3 + 2,none⟩=some (.slice A2 a.pos.length c2)):=by
     intro W hW;obtain ⟨⟨k0,-⟩,-⟩:=(HD1.out.below hW).blk.c8;exact ⟨hW,(X1.below hW X1.lt).cell 1,(X1.below hW X1.lt).cell 2,k0,(hW.cell (p:=⟨g,_,none⟩) hg2).trans q0,(hW.cell (p:=⟨g,_,none⟩) hg2).trans q1,(hW.cell (p:=⟨g,_,none⟩) hg2).trans q2⟩
    clear q0 q1 q2 r0 r1 r2 hpos hgB;go_region_held3 (fun W=>Below W1.heap.size W1 W∧W.cell? ⟨wr.heap.size,1,none⟩=some (.int .i64 q')∧W.cell? ⟨wr.heap.size,2,none⟩=some (.int .i64 f')∧W.cell? ⟨D,0,none⟩=some (.slice (some ⟨g,0,none⟩) v.accs.length c) ∧
      W.cell? ⟨g,i * 3,none⟩=some (.int .i64 a.id)∧W.cell? ⟨g,i * 3 + 1,none⟩=some (.int .i64 a.bal)∧W.cell? ⟨g,i * 3 + 2,none⟩=some (.slice A2 a.pos.length c2))
     (first | exact KS.out _ (by assumption) | exact KS.out _ (zaE (by assumption)) | exact KS.out _ (Below.alloc (by assumption) (Below.size (by assumption)) _) | exact KS.out _ (zaE (Below.alloc (by assumption) (Below.size (by assumption)) _)) | exact KS.out _ (Below.setCell (Below.setCell (Below.setCell (by first | assumption | exact Below.alloc (by assumption) (by assumption) _) (by dsimp only;omega) _) (by dsimp only;omega) _) (by dsimp only;omega) _))
     ((go_at_call 100;go_split_ands;(with_reducible refine (zlj a A2 c2 mk q' p f' W1.heap.size _ HTR.out (HPO.out.below (by assumption)) (Below.size (by assumption))).mono ?_);rintro e W2 ⟨A3,c3,rfl,hown3,hb2⟩;have hB2:=zb2 (w0:=W1) hb2 (by assumption);have hs2:=hB2.size;try have z1:=(Blk.drewN (Blk.new W1 78 #[.int .i64 0,.int .i64 0,.slice none 0 0]) 1).below hb2 (by simp);try have z2:=z1.lt;try obtain ⟨⟨z3,z4,z5⟩,z6,z7,z8⟩:=z1.c3))
    all_goals
     have hbW:base ≤ W1.heap.size:=Nat.le_trans hb HF1.out.size;refine zau ?_;intro W3 hW3;have HB3:Below W1.heap.size W1 W3:=by rw [hW3];first | exact hB2.alloc hs2 _ | exact ((hB2.setCell (by dsimp only;omega) _).setCell (by dsimp only;omega) _).setCell (by dsimp only;omega) _
     have HO3:Hid (W3.ownsRow base 3 1 (.slice A3 x.pos.length c3) x.pos.length (ints x.pos)):=by
      rw [hW3];first
       | exact zae (World.ownsRow.alloc hown3 _) hbW
       | exact zae (ownsRow_setCell_below (ownsRow_setCell_below (ownsRow_setCell_below hown3 (by simp) _) (by simp) _) (by simp) _) (by simp;omega)
     first
      | have X3:Blk W3 W2.heap.size 78 #[.int .i64 x.id,.int .i64 x.bal,.slice A3 x.pos.length c3]:=by rw [hW3];exact Blk.new W2 _ _
      | have X3:Blk W3 W1.heap.size 78 #[.int .i64 x.id,.int .i64 x.bal,.slice A3 x.pos.length c3]:=by rw [hW3];exact ((z1.set_ 0 _).set_ 1 _).set_ 2 _
     clear hW3;have HD3:=zi (HD1.out.below HB3);have HL3:=zi (HL1.out.trans (HB3.mono hbW));have HF3:=zi (HF1.out.below HB3);have hs3:=HB3.size;clear KS h00 HB3;obtain ⟨⟨kX30,kX31,kX32⟩,-⟩:=X3.c3;by_cases he:te=0
     rotate_left
     ·have he':(te != 0)=true:=by simpa using he
      have HE:=zi (show (zcD d.v mk t m q p fee).map (fun v=>(⟨v,d.ev⟩:Dk))=.error te by rw [← HR.out.eq,HST.out,HSD.out];unfold okIf;rw [if_pos he];rfl);have HN:=zi he;clear he;go_wp2_with fail
      go_ret;exact zaM HE.out HN.out HL3.out
     ·subst he;have HE:=zi (show zf6 mk t m q p fee (zbK v i x) (j + 1)=zcD d.v mk t m q p fee by rw [← HR.out.eq,HST.out,HSD.out];rfl);obtain ⟨⟨k0,-⟩,-⟩:=HD3.out.blk.c8;obtain ⟨g',A4,c4,hg',-,hg4,-,⟨cs',hgB⟩,⟨q0,q1,q2⟩,⟨r0,r1,r2⟩,-,-⟩:=zeE HD3.out.accs HK.out;obtain rfl:g'=g:=by injection hg' with hg';injection hg' with hg';exact hg'.symm
      have HGB3:=zi hgB;clear hg' hgB;have y4:D < W3.heap.size:=HD3.out.lt;have y5:=X3.lt;go_wp2_with fail
      go_region
      refine zau ?_;intro Z hZ;have HNX:=zi (zoU HR.out.ok HK.out HTR.out HSD.out);obtain ⟨xs2,hrn⟩:=(zrS HR.out (HD3.out) HK.out HO3.out HNX.out HPL.out HGB3.out HL3.out HF3.out HE.out hin hg1 hZ);have HRN:=zi hrn;clear hZ hrn;go_wp2_with fail
      go_roundw
      case rel=>exact ⟨j + 1,zbK v i x,_,by omega,by go_num,HRN⟩
      case measure=>simp [intOf];omega
  ·obtain rfl:j=2:=by omega
   obtain ⟨⟨k0,k1,k2,k3,k4,k5,k6,k7⟩,f0,f1,f2,f3,f4,f5,f6,f7⟩:=HR.out.desk.blk.c8;obtain ⟨n,en,hn⟩:∃ n en,zaB [v.ins,fee]=(n,en):=⟨_,_,rfl⟩;have HE:=zi (show okIf en (.ok { v with ins:=n })=zcD d.v mk t m q p fee by rw [← HR.out.eq];show _=okIf (zaB [v.ins,fee]).2 (.ok { v with ins:=(zaB [v.ins,fee]).1 });rw [hn]);have HN:=zi hn;clear hn;go_wp2_with fail
   refine (zdX _ _ _ [v.ins,fee] _ _ (Rd.new wr _ _ 2 rfl (by decide))).mono ?_;rintro e w' ⟨rfl,rfl⟩;rw [HN.out];go_wp2_with fail
   refine zaq ?_;intro Z hZ;have hDZ:=zi (zrR HR.out.desk hZ);have hLZ:Below base w Z:=by rw [hZ];exact (HR.out.low.setCell HR.out.desk.low _).alloc (by rw [zbB];exact hbr) _
   have hFZ:Fr [] (D :: ab A) w Z:=by rw [hZ];exact (HR.out.fr.set HR.out.desk.blk (.inr (by simp)) _ _).alloc _
   clear hZ;go_ret;by_cases he:en=0
   ·subst he;exact zd8 (by rw [← HE.out];rfl) hDZ.out hLZ hFZ
   ·exact zaM (by rw [← HE.out];unfold okIf;rw [if_pos he];rfl) he hLZ
end
end Go.Proofs.YtockodmbhnlheaaGreatDoor
