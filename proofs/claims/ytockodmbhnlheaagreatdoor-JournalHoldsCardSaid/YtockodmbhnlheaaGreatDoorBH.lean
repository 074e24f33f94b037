import Derived.Test.YtockodmbhnlheaaGreatDoorBA
import Derived.Test.YtockodmbhnlheaaGreatDoorBB
namespace Go.Proofs.YtockodmbhnlheaaGreatDoor
section
open Go.RowKit
structure DeskR (w:World) (base D:Nat) (d:Dk) (A:Option Addr) (c:Nat) (M:Option Addr) (k:Nat) (vE:Value):Prop where
 blk:Blk w D 113 #[.slice A d.v.accs.length c,.slice M d.v.mks.length k,.int .i64 d.v.ins,.int .i64 d.v.resid,.int .i64 d.v.next,.int .i64 d.v.inn,.int .i64 d.v.out,vE]
 accs:∃ xs,OwnAc w base A d.v.accs.length c d.v.accs xs
 mks:∃ ys,OwnMk w base false M d.v.mks.length k d.v.mks ys
 evs:w.ownsRow base 57 13 vE d.ev.length (za4 d.ev)
def ze4 (w:World) (base D:Nat) (r:Except Int Dk) (e:Ending) (w':World):Prop :=
 match r with
 | .ok d'=>e=.returned (.int .i64 0)∧(∃ A c M k vE,DeskR w' base D d' A c M k vE)∧Below base w w'
 | .error n=>n ≠ 0∧e=.returned (.int .i64 n)∧Below base w w'
theorem Desk.dr {w:World} {base D c k:Nat} {ap:Bool} {d:Dk} {A M:Option Addr} {vE:Value} {xs ys:List Value} (h:Desk w base D ap d A c M k vE xs ys):DeskR w base D d A c M k vE:=⟨h.blk,⟨_,h.accs⟩,⟨_,h.mks.weak⟩,h.evs⟩
theorem zgA {w w':World} {base D:Nat} {ap:Bool} {A:Option Addr} {c:Nat} {M:Option Addr} {k:Nat} {S:List TypeId} {G:List Nat} {r:Except Int Dk} {e:Ending} (h:ze3 w base D ap A c M k S G r e w'):ze4 w base D r e w':=by
 cases r with
 | error n=>exact h
 | ok d'=>obtain ⟨h1,⟨vE,xs,ys,h2⟩,h3,_⟩:=h;exact ⟨h1,⟨A,c,M,k,vE,h2.dr⟩,h3⟩
theorem zbM {w w':World} {base D:Nat} {r:Except Int Dk} {n:Int} (h:r=.error n) (hn:n ≠ 0) (hb:Below base w w'):ze4 w base D r (.returned (.int .i64 n)) w':=by subst h;exact ⟨hn,rfl,hb⟩
theorem zgB {w w':World} {base D:Nat} {r:Except Int Dk} {d':Dk} {A M:Option Addr} {c k:Nat} {vE:Value} (h:r=.ok d') (hd:DeskR w' base D d' A c M k vE) (hb:Below base w w') :
  ze4 w base D r (.returned (.int .i64 0)) w':=by subst h;exact ⟨rfl,⟨_,_,_,_,_,hd⟩,hb⟩
theorem zke:∀ {out L:List Ac} {j:Nat} {a b:Ac},out[j]?=some a→L[j]?=some b →
  zaW (out.take (j + 1)) (L.take (j + 1))=zaW (out.take j) (L.take j) ++ (if a.bal - b.bal ≠ 0 then [⟨5,0,0,0,a.id,a.bal - b.bal,zba⟩] else [])
 | [],_,_,_,_,h,_=>by simp at h
 | _ :: _,[],_,_,_,_,h=>by simp at h
 | x :: out,y :: L,0,a,b,h,h'=>by
  simp only [List.getElem?_cons_zero,Option.some.injEq] at h h';subst h h';simp [zaW]
 | x :: out,y :: L,j + 1,a,b,h,h'=>by
  simp only [List.getElem?_cons_succ] at h h';have ih:=zke h h';simp only [List.take_succ_cons,zaW,ih,List.append_assoc]
theorem zlt:∀ (out L:List Ac),(zaW out L).length ≤ out.length
 | [],_=>by simp [zaW]
 | _ :: _,[]=>by simp [zaW]
 | x :: out,y :: L=>by
  have:=zlt out L;simp only [zaW,List.length_append,List.length_cons];split <;> simp <;> omega
theorem zkf {cm:Cm} {d:Dk} (h:cm.market < 0∨(d.v.mks.length:Int) ≤ cm.market):zcU cm d=.error 5:=by unfold zcU;rw [if_pos h]
theorem zkz {cm:Cm} {d:Dk} (h:¬ (cm.market < 0∨(d.v.mks.length:Int) ≤ cm.market)) (hk:cm.kind=5) (hn:cm.n < 1∨10000 < cm.n):zcU cm d=.error 3:=by
 unfold zcU;rw [if_neg h,if_pos hk,if_pos hn]
theorem zph {cm:Cm} {d:Dk} {mk:Nat} {m:Mk} (h:¬ (cm.market < 0∨(d.v.mks.length:Int) ≤ cm.market)) (hm:cm.market=mk) (hmm:d.v.mks[mk]?=some m) (hk:cm.kind=5) (hn:¬ (cm.n < 1∨10000 < cm.n)) :
  zcU cm d=.ok ⟨zaD d.v mk { m with index:=cm.n },d.ev⟩:=by
 unfold zcU;rw [if_neg h,if_pos hk,if_neg hn,hm,Int.toNat_natCast,show mkAt d.v mk=m from zaY hmm]
theorem znC {cm:Cm} {d:Dk} {mk:Nat} {m:Mk} {n em left es rs ea:Int} {out:List Ac} (h:¬ (cm.market < 0∨(d.v.mks.length:Int) ≤ cm.market)) (hm:cm.market=mk) (hmm:d.v.mks[mk]?=some m) (hk:cm.kind ≠ 5)
  (hmo:za9 m=(n,em)) (hs:zbQ d.v.accs mk n cm.n=(out,left,es)) (ha:zaB [d.v.resid,left]=(rs,ea)) :
  zcU cm d=okIf em (okIf es (okIf ea (.ok ⟨{ d.v with accs:=out,resid:=rs },d.ev ++ zaW out d.v.accs⟩))):=by
 unfold zcU;rw [if_neg h,if_neg hk,hm,Int.toNat_natCast,show mkAt d.v mk=m from zaY hmm,hmo];simp only;rw [hs];simp only;rw [ha]
theorem zpi {out:List Ac} {left es:Int} (A:Option Addr) (n c:Nat) (L:List Ac) (market mark rate:Int) (w:World) (hr:zbQ L market mark rate=(out,left,es)) (h:RdL ze0 w w.heap.size A n c L) :
  Calls Tryz.prog 103 #[.slice A n c,.int .i64 market,.int .i64 mark,.int .i64 rate] w (zj8 w (out,left,es)):=by rw [← hr];exact zo1 A n c L market mark rate w h
theorem zsd {n e':Int} (m:Mk) (A A':Option Addr) (c c':Nat) (B:Nat) (w:World) (hr:za9 m=(n,e')) (h:BkR w B A A' c c' m.book) (hB:B ≤ w.heap.size) (hl:m.book.bids.length ≤ 4000000000000) (hl':m.book.asks.length ≤ 4000000000000) :
  Calls Tryz.prog 102 #[.agg #[.slice A m.book.bids.length c,.slice A' m.book.asks.length c',.int .i64 m.index,.int .i64 m.last]] w fun e w'=>e=.returned (.tuple #[.int .i64 n,.int .i64 e'])∧Below w.heap.size w w':=by
 have:=zmf m A A' c c' B w h.l h.r hB hl hl';rw [hr] at this;exact this
theorem OwnAc.lower {w:World} {base base' n c:Nat} {A:Option Addr} {L:List Ac} {xs:List Value} (h:OwnAc w base A n c L xs) (hb:base' ≤ base):OwnAc w base' A n c L xs :=
 ⟨zae h.row hb,h.len,fun i a ha=>by
  obtain ⟨A2,c2,h0,h1,h2,h3,h4⟩:=h.cell i a ha;exact ⟨A2,c2,h0,h1,h2,zae h3 hb,h4⟩⟩
structure MvR (w wr:World) (base D:Nat) (d:Dk) (A:Option Addr) (c:Nat) (M:Option Addr) (k:Nat) (xs ys:List Value) (out:List Ac) (A6:Option Addr) (c6:Nat) (xs6:List Value) (j:Nat) (vE:Value):Prop where
 desk:Desk wr base D false ⟨d.v,d.ev ++ zaW (out.take j) (d.v.accs.take j)⟩ A c M k vE xs ys
 low:Below base w wr
 own:OwnAc wr base A6 out.length c6 out xs6
theorem zlu {w wr W:World} {base D:Nat} {d:Dk} {A:Option Addr} {c:Nat} {M:Option Addr} {k:Nat} {xs ys:List Value} {out:List Ac} {A6:Option Addr} {c6:Nat} {xs6:List Value} {j:Nat} {vE:Value} (h:MvR w wr base D d A c M k xs ys out A6 c6 xs6 j vE) (hb:Below wr.heap.size wr W) (hB:base ≤ wr.heap.size) :
  MvR w W base D d A c M k xs ys out A6 c6 xs6 j vE:=⟨h.desk.below hb,h.low.trans (hb.mono hB),h.own.below hb⟩
theorem zse {w wr:World} {base D:Nat} {d:Dk} {A:Option Addr} {c:Nat} {M:Option Addr} {k:Nat} {xs ys:List Value} {out:List Ac} {A6:Option Addr} {c6:Nat} {xs6:List Value} {j:Nat} {vE:Value} {n:Int} {x:Ev} (h:MvR w wr base D d A c M k xs ys out A6 c6 xs6 j vE)
  (he:zaW (out.take (j + 1)) (d.v.accs.take (j + 1))=zaW (out.take j) (d.v.accs.take j) ++ (if n ≠ 0 then [x] else [])) (hn:n=0):MvR w wr base D d A c M k xs ys out A6 c6 xs6 (j + 1) vE:=by
 rw [if_neg (by omega),List.append_nil] at he;exact ⟨by rw [he];exact h.desk,h.low,h.own⟩
theorem zsf {w wr W:World} {base D:Nat} {d:Dk} {A:Option Addr} {c:Nat} {M:Option Addr} {k:Nat} {xs ys:List Value} {out:List Ac} {A6:Option Addr} {c6:Nat} {xs6:List Value} {j:Nat} {vE vE':Value} {x:Ev} (h:MvR w wr base D d A c M k xs ys out A6 c6 xs6 j vE)
  (he:zaW (out.take (j + 1)) (d.v.accs.take (j + 1))=zaW (out.take j) (d.v.accs.take j) ++ [x]) (hd:Desk W base D false (tell ⟨d.v,d.ev ++ zaW (out.take j) (d.v.accs.take j)⟩ x) A c M k vE' xs ys) (hL:Below base wr W) (hK:Kept [113,57] wr W) :
  MvR w W base D d A c M k xs ys out A6 c6 xs6 (j + 1) vE':=by
 refine ⟨?_,h.low.trans hL,h.own.kept hK (by decide) (by decide)⟩;rw [he,← List.append_assoc];exact hd
theorem zsg {m:Nat} {L out:List Ac} {market mark rate:Int} (h:AOk m L) (hl:out.length=L.length) (hs:∀ (i:Nat) (a b:Ac),L[i]?=some a→out[i]?=some b→∃ p,Settled market mark rate a b p) :
  ∀ (j:Nat) (a b:Ac),out[j]?=some a→L[j]?=some b→(-1000000000000 ≤ a.bal∧a.bal ≤ 1000000000000)∧-1000000000000 ≤ b.bal∧b.bal ≤ 1000000000000:=by
 intro j a b ha hb;have h2:=(zg4 hl hs).2.1 _ h;exact ⟨(zaw (h2.ok a (List.mem_of_getElem? ha))).2.2.2.1,(zaw (h.ok b (List.mem_of_getElem? hb))).2.2.2.1⟩
set_option maxHeartbeats 4000000 in
set_option maxRecDepth 100000 in
theorem zlv (base D:Nat) (d:Dk) (A:Option Addr) (c:Nat) (M:Option Addr) (k:Nat) (vE:Value) (xs ys:List Value) (cm:Cm) (w:World) (h:Desk w base D false d A c M k vE xs ys) (hb:base ≤ w.heap.size) (hv:VOk d.v) (hl:d.ev.length ≤ 900000) :
  Calls Tryz.prog 74 #[.pointer (some ⟨D,0,none⟩),.agg #[.int .i64 cm.kind,.int .i64 cm.acc,.int .i64 cm.market,.int .i64 cm.n,.int .i64 cm.o.id,.int .i64 cm.o.acc,.int .i64 cm.o.side,.int .i64 cm.o.price,.int .i64 cm.o.qty,.int .i64 cm.how,.bool cm.reduce]] w (ze4 w base D (zcU cm d)):=by
 have HD:=zi h;have HV:=zi hv;have hDl:=h.lt;obtain ⟨hv1,hv2⟩:=hv.len;clear h hv;obtain ⟨⟨-,k1,-⟩,-⟩:=HD.out.blk.c8;by_cases h1:cm.market < 0
 ·have HE:=zi (zkf (d:=d) (.inl h1));go_enter Tryz.func74,Tryz.ntmps74
  go_wp2_with fail
  go_quiet (fail)
  go_wp2_with fail
  go_ret;exact zbM HE.out (by omega) (zac ((Below.refl _ _).alloc hb _) _)
 have h1':0 ≤ cm.market:=by omega
 by_cases h2:(d.v.mks.length:Int) ≤ cm.market
 ·have HE:=zi (zkf (d:=d) (.inr h2));clear h1;go_enter Tryz.func74,Tryz.ntmps74
  go_wp2_with fail
  go_quiet (fail)
  go_wp2_with fail
  go_ret;exact zbM HE.out (by omega) (zac ((Below.refl _ _).alloc hb _) _)
 obtain ⟨mk,hmk⟩:∃ mk:Nat,cm.market=(mk:Int):=⟨cm.market.toNat,by omega⟩;have HNB:=zi (show ¬ (cm.market < 0∨(d.v.mks.length:Int) ≤ cm.market) by omega);have HMK:=zi hmk;rw [hmk];have h3:mk < d.v.mks.length:=by omega
 have h3':(mk:Int) < (d.v.mks.length:Int):=by omega
 have h3n:¬ ((d.v.mks.length:Int) ≤ (mk:Int)):=by omega
 obtain ⟨m,hm⟩:∃ m,d.v.mks[mk]?=some m:=⟨_,List.getElem?_eq_getElem h3⟩;have HM:=zi hm;have hd1:decide ((mk:Int) < 0)=false:=decide_eq_false (by omega);have hd2:decide ((d.v.mks.length:Int) ≤ (mk:Int))=false:=decide_eq_false h3n;have hd3:decide (d.v.mks.length ≤ mk)=false:=decide_eq_false (by omega);clear h1 h1' h2 hmk hm;go_enter Tryz.func74,Tryz.ntmps74
 go_wp2_with fail
 refine zbr ?_;intro W0 hW0;have hB0:Below w.heap.size w W0:=by rw [hW0];exact (Below.refl _ _).alloc (zl _) _
 have hs0:W0.heap.size=w.heap.size + 1:=by rw [hW0];simp
 have X0:Blk W0 w.heap.size 34 #[.int .i64 cm.kind,.int .i64 cm.acc,.int .i64 mk,.int .i64 cm.n,.int .i64 cm.o.id,.int .i64 cm.o.acc,.int .i64 cm.o.side,.int .i64 cm.o.price,.int .i64 cm.o.qty,.int .i64 cm.how,.bool cm.reduce]:=by rw [hW0];exact Blk.new w _ _
 have HD0:=zi (HD.out.below hB0);clear hW0 k1;obtain ⟨⟨-,k1,-⟩,-⟩:=HD0.out.blk.c8;obtain ⟨g,A2,c2,A3,c3,rfl,hg1,hg2,hin,⟨cs,hgB⟩,⟨q0,q1,q2,q3⟩,⟨r0,r1,r2,r3⟩,hbk,hl1,hl2,-⟩:=zdK HD0.out.mks HM.out;have HG:=zi hgB;have HBK:=zi hbk;have x2:=X0.cell 2;have y0:=X0.lt;have y1:D < W0.heap.size:=HD0.out.lt;clear hgB hbk;go_wp2_with fail
 go_quiet (fail)
 refine zau ?_;intro W1 hW1;have hB1:Below W0.heap.size W0 W1:=by rw [hW1];exact zac (Below.refl _ _) _
 have hs1:W1.heap.size=W0.heap.size:=by rw [hW1];rfl
 have hwW:∀ a,W1.cell? a=W0.cell? a:=fun a=>by rw [hW1];rfl
 clear hW1;go_wp2_with fail
 go_quiet (fail)
 refine zau ?_;intro W2 hW2;have hB2:Below W0.heap.size W0 W2:=by rw [hW2];exact zac hB1 _
 have hs2:=hB2.size;have HD2:=zi (HD0.out.below hB2);have HB2:=zi (hB0.trans (hB2.mono (by omega)));have X2:=X0.below hB2 X0.lt;clear hW2 hB2 hB1 hwW hs1 k1 q0 q1 q2 q3 r0 r1 r2 r3 x2 HG HBK hd1 hd2 hd3;obtain ⟨g',A4,c4,A5,c5,hg',-,hg5,-,⟨cs',hgB⟩,⟨q0,q1,q2,q3⟩,⟨r0,r1,r2,r3⟩,hbk,-⟩:=zdK HD2.out.mks HM.out;obtain rfl:g'=g:=by injection hg' with hg';injection hg' with hg';exact hg'.symm
 have HG:=zi hgB;have HBK:=zi hbk;have x0:W2.cell? ⟨w.heap.size,0,none⟩=some (.int .i64 cm.kind):=X2.cell 0;have x3:W2.cell? ⟨w.heap.size,3,none⟩=some (.int .i64 cm.n):=X2.cell 3;have y2:=X2.lt;clear hgB hbk hg';by_cases hk:cm.kind=5
 ·have hk':(cm.kind == 5)=true:=by simpa using hk
  by_cases hn:cm.n < 1∨10000 < cm.n
  ·have HE:=zi (zkz HNB.out hk hn);have hn':cm.n < 1∨1 ≤ cm.n∧10000 < cm.n:=by omega
   clear hk hn;rcases hn' with hn | ⟨hn,hn'⟩;all_goals
    go_wp2_with fail
    go_ret;exact zbM HE.out (by omega) (HB2.out.mono hb)
  ·have HE:=zi (zph HNB.out HMK.out HM.out hk hn);obtain ⟨hn1,hn2⟩:1 ≤ cm.n∧cm.n ≤ 10000:=by omega
   clear hk hn;go_wp2_with fail
   refine zaq ?_;intro Z hZ;obtain ⟨ys2,hd⟩:=zjl HD2.out (a:=m) (a':={ m with index:=cm.n }) HM.out rfl (.inl ⟨rfl,rfl,rfl⟩) HG.out (.inr hZ);have HDZ:=zi hd.dr;have hLZ:Below base w Z:=by rw [hZ];exact (HB2.out.mono hb).setCell hg1 _
   clear hZ hd;go_ret;exact zgB HE.out HDZ.out hLZ
 ·have hk':(cm.kind == 5)=false:=by simpa using hk
  obtain ⟨n,em,hmo⟩:∃ n em,za9 m=(n,em):=⟨_,_,rfl⟩;obtain ⟨out,left,es,hse⟩:∃ out left es,zbQ d.v.accs mk n cm.n=(out,left,es):=⟨_,_,_,rfl⟩;obtain ⟨rs,ea,had⟩:∃ rs ea,zaB [d.v.resid,left]=(rs,ea):=⟨_,_,rfl⟩;have HE:=zi (znC HNB.out HMK.out HM.out hk hmo hse had);have HMO:=zi hmo;have HSE:=zi hse;have HAD:=zi had;clear hk hmo hse had;go_wp2_with fail
  refine (zsd m _ _ _ _ W2.heap.size W2 HMO.out HBK.out.read (zl _) hl1 hl2).mono ?_;rintro e W3 ⟨rfl,hb3⟩;have hs3:=hb3.size;have HD3:=zi (HD2.out.below hb3);have HB3:=zi (HB2.out.trans (hb3.mono (by omega)));have X3:=X2.below hb3 X2.lt;clear hb3 q0 q1 q2 q3 r0 r1 r2 r3 x0 x3 X2 HG HBK;by_cases hem:em=0
  rotate_left
  ·have he':(em != 0)=true:=by simpa using hem
   have HEE:=zi (show zcU cm d=.error em by rw [HE.out];unfold okIf;rw [if_pos hem]);have HN:=zi hem;clear hem;go_wp2_with fail
   go_ret;exact zbM HEE.out HN.out (HB3.out.mono hb)
  subst hem;go_wp2_with fail
  have y3:=X3.lt;have y4:D < W3.heap.size:=HD3.out.lt;have h00:Below W3.heap.size W3 W3:=Below.refl _ _;have KS:Hid (∀ W,Below W3.heap.size W3 W→Below W3.heap.size W3 W∧W.cell? ⟨w.heap.size,2,none⟩=some (.int .i64 mk)∧W.cell? ⟨w.heap.size,3,none⟩=some (.int .i64 cm.n)∧W.cell? ⟨D,0,none⟩=some (.slice A d.v.accs.length c)):=by
   intro W hW;obtain ⟨⟨k0,-⟩,-⟩:=(HD3.out.below hW).blk.c8;exact ⟨hW,(X3.below hW X3.lt).cell 2,(X3.below hW X3.lt).cell 3,k0⟩
  go_region_held3 (fun W=>Below W3.heap.size W3 W∧W.cell? ⟨w.heap.size,2,none⟩=some (.int .i64 mk)∧W.cell? ⟨w.heap.size,3,none⟩=some (.int .i64 cm.n)∧W.cell? ⟨D,0,none⟩=some (.slice A d.v.accs.length c))
   (first | exact KS.out _ (by assumption) | exact KS.out _ (zaE (by assumption)))
   ((go_at_call 103;go_split_ands;(with_reducible refine (zpi A d.v.accs.length c d.v.accs mk n cm.n _ HSE.out (HD3.out.below (by first | assumption | exact zaE (by assumption))).accs.read).mono ?_);rintro e W4 ⟨A6,c6,xs6,rfl,hown4,hb4⟩;have hB4:=zb2 (w0:=W3) hb4 (by first | assumption | exact zaE (by assumption))))
  refine zau ?_;rintro W hW;obtain rfl:W4=W:=hW.symm;have HD4:=zi (HD3.out.below hB4);have HB4:=zi (HB3.out.trans (hB4.mono (by omega)));have hs4:=hB4.size;have HO4:=zi hown4;clear hb4 hW KS h00 hB4 hown4;by_cases hes:es=0
  rotate_left
  ·have he':(es != 0)=true:=by simpa using hes
   have HEE:=zi (show zcU cm d=.error es by rw [HE.out];unfold okIf;rw [if_neg (by simp),if_pos hes]);have HN:=zi hes;clear hes;go_wp2_with fail
   go_ret;exact zbM HEE.out HN.out (HB4.out.mono hb)
  subst hes;have HEE:=zi (show zcU cm d=okIf ea (.ok ⟨{ d.v with accs:=out,resid:=rs },d.ev ++ zaW out d.v.accs⟩) by rw [HE.out];rfl);have hOA:=OwnAc.lower HO4.out (show base ≤ W3.heap.size by omega);have HO:=zi hOA;obtain ⟨g1,g2,g3,g4,g5⟩:=ziP HSE.out;have HOL:=zi g1;have HBD:=zi (zsg HV.out.accs g1 g3);have hol:out.length ≤ 8:=by rw [g1];exact zdZ HV.out.accs
  have hb4':base ≤ W4.heap.size:=by omega
  have HR0:=zi (show MvR W4 W4 base D d A c (some ⟨g',0,none⟩) k xs ys out A6 c6 xs6 0 vE from ⟨by simpa [zaW] using HD4.out,Below.refl _ _,HO.out⟩);clear HE HO4 g1 g2 g3 g4 g5 hOA HSE;go_wp2_with fail
  go_loopw [81] (fun i wr=>∃ (j:Nat) (vE1:Value),j ≤ out.length∧i=.int .i64 j∧Hid (MvR W4 wr base D d A c (some ⟨g',0,none⟩) k xs ys out A6 c6 xs6 j vE1)) (fun i _=>out.length - (intOf i).toNat)
  case atStart=>exact ⟨0,vE,Nat.zero_le _,rfl,HR0⟩
  case round =>
   obtain ⟨j,vE1,hj,rfl,HR⟩:=hrel;have hDr:=HR.out.desk.lt;have hbr:base ≤ wr.heap.size:=by have:=HR.out.desk.low;omega
   by_cases hlt:j < out.length
   ·obtain ⟨a,ha⟩:∃ a,out[j]?=some a:=⟨_,List.getElem?_eq_getElem hlt⟩;obtain ⟨b,hb'⟩:∃ b,d.v.accs[j]?=some b:=⟨_,List.getElem?_eq_getElem (by rw [← HOL.out];exact hlt)⟩;obtain ⟨z1,z2⟩:=HBD.out j a b ha hb';have HSN:=zi (zke ha hb');obtain ⟨gA,A7,c7,rfl,ga1,ga2,ga3,-,⟨q0,q1,q2⟩,-⟩:=zeE HR.out.own ha;go_wp2_with fail
    refine zbr ?_;intro W5 hW5;have hB5:Below wr.heap.size wr W5:=by rw [hW5];exact (Below.refl _ _).alloc (zl _) _
    have X5:Blk W5 wr.heap.size 78 #[.int .i64 a.id,.int .i64 a.bal,.slice A7 a.pos.length c7]:=by rw [hW5];exact Blk.new wr _ _
    have HR5:=zi (zlu HR.out hB5 hbr);have y5:=X5.lt;have hb5:base ≤ W5.heap.size:=by omega
    clear hW5 hB5 q0 q1 q2;obtain ⟨⟨k0,-⟩,-⟩:=HR5.out.desk.blk.c8;obtain ⟨gB,A8,c8,rfl,gb1,gb2,gb3,-,⟨q0,q1,q2⟩,-⟩:=zeE HR5.out.desk.accs hb';have y6:D < W5.heap.size:=HR5.out.desk.lt;have x1:=X5.cell 1;have hj0:(0:Int) ≤ (j:Int):=by omega
    have hj1:(j:Int) < (d.v.accs.length:Int):=by have:j < d.v.accs.length:=gb3;omega
    go_wp2_with fail
    go_quiet (fail)
    refine zau ?_;intro W6 hW6;have hB6:Below W5.heap.size W5 W6:=by rw [hW6];exact zac (Below.refl _ _) _
    have HR6:=zi (zlu HR5.out hB6 hb5);have X6:=X5.below hB6 X5.lt;have hb6:base ≤ W6.heap.size:=Nat.le_trans hb5 hB6.size;have y7:=X6.lt;clear hW6 hB6 k0 q0 q1 q2 x1 X5 HR5;obtain ⟨z3,z4⟩:=z1;obtain ⟨z5,z6⟩:=z2;by_cases h0:a.bal - b.bal=0
    ·have h0':(a.bal - b.bal != 0)=false:=by simpa using h0
     have HN:=zi (zse HR6.out HSN.out h0);clear h0;go_wp2_with fail
     go_roundw
     case rel=>exact ⟨j + 1,vE1,by omega,by go_num,HN⟩
     case measure=>simp [intOf];omega
    ·have h0':(a.bal - b.bal != 0)=true:=by simpa using h0
     have HSN2:=zi (HSN.out.trans (by rw [if_pos h0]));have x0:W6.cell? ⟨wr.heap.size,0,none⟩=some (.int .i64 a.id):=X6.cell 0;have hlen:(d.ev ++ zaW (out.take j) (d.v.accs.take j)).length ≤ 1000000:=by
      have:=zlt (out.take j) (d.v.accs.take j);have:=List.length_take_le j out;rw [List.length_append];omega
     clear h0;go_wp2_with fail
     refine (zeo base D false _ _ c _ k vE1 xs ys ⟨5,0,0,0,a.id,a.bal - b.bal,zba⟩ W6 HR6.out.desk hb6 hlen).mono ?_;rintro e W7 ⟨rfl,⟨vE7,hd7⟩,hL7,hK7⟩;have HN:=zi (zsf HR6.out HSN2.out hd7 hL7 hK7);clear hd7 hL7 hK7 x0;go_wp2_with fail
     go_roundw
     case rel=>exact ⟨j + 1,vE7,by omega,by go_num,HN⟩
     case measure=>simp [intOf];omega
   ·obtain rfl:j=out.length:=by omega
    have HEV:=zi (show out.take out.length=out∧d.v.accs.take out.length=d.v.accs from ⟨List.take_length,by rw [HOL.out,List.take_length]⟩);have HRZ:=zi (show Desk wr base D false ⟨d.v,d.ev ++ zaW out d.v.accs⟩ A c (some ⟨g',0,none⟩) k vE1 xs ys by have:=HR.out.desk;rw [HEV.out.1,HEV.out.2] at this;exact this);obtain ⟨⟨k0,k1,k2,k3,k4,k5,k6,k7⟩,f0,f1,f2,f3,f4,f5,f6,f7⟩:=HRZ.out.blk.c8;go_wp2_with fail
    refine zak ?_;intro W8 hW8;have hrd:Rd W8 (wr.heap.size + 1) 1 (some ⟨wr.heap.size,0,none⟩) 2 2 (ints [d.v.resid,left]):=by rw [hW8];exact Rd.new_at _ _ _ _ 2 (zbB _ _ _).symm rfl (by decide)
    have V8:Blk W8 D 113 #[.slice A6 out.length c6,.slice (some ⟨g',0,none⟩) d.v.mks.length k,.int .i64 d.v.ins,.int .i64 d.v.resid,.int .i64 d.v.next,.int .i64 d.v.inn,.int .i64 d.v.out,vE1]:=by rw [hW8];exact (HRZ.out.blk.set_ 0 _).alloc _
    have hK8:Kept [113] wr W8:=by rw [hW8];exact ((Kept.refl _ _).set HRZ.out.blk (by decide) _ _).alloc _
    have hL8:Below base w W8:=by rw [hW8];exact ((((HB4.out.mono hb).trans HR.out.low).setCell HRZ.out.low _)).alloc (by rw [zbB];exact hbr) _
    have HRD:=zi hrd;have hs8:=hK8.size;clear hW8 k0 k1 k2 k3 k4 k5 k6 k7 f0 f1 f2 f3 f4 f5 f6 f7 hrd;refine (zdX _ _ _ [d.v.resid,left] _ W8 HRD.out).mono ?_;rintro e w' ⟨rfl,rfl⟩;rw [HAD.out];have k3:W8.cell? ⟨D,3,none⟩=some (.int .i64 d.v.resid):=V8.cell 3;have f3:=V8.frozen 3;have y8:=V8.lt;go_wp2_with fail
    refine zaq ?_;intro Z hZ;have VZ:Blk Z D 113 #[.slice A6 out.length c6,.slice (some ⟨g',0,none⟩) d.v.mks.length k,.int .i64 d.v.ins,.int .i64 rs,.int .i64 d.v.next,.int .i64 d.v.inn,.int .i64 d.v.out,vE1]:=by rw [hZ];exact V8.set_ 3 _
    have hKZ:Kept [113] wr Z:=by rw [hZ];exact hK8.set V8 (by decide) _ _
    have hLZ:Below base w Z:=by rw [hZ];exact hL8.setCell HRZ.out.low _
    have HDZ:=zi (show DeskR Z base D ⟨{ d.v with accs:=out,resid:=rs },d.ev ++ zaW out d.v.accs⟩ A6 c6 (some ⟨g',0,none⟩) k vE1 from
     ⟨VZ,⟨_,HR.out.own.kept hKZ (by decide) (by decide)⟩,⟨_,HRZ.out.mks.kept hKZ (by decide) (by decide)⟩,hKZ.own HRZ.out.evs (by decide)⟩)
    clear hZ VZ hKZ hK8 V8 k3 f3 hL8;go_ret;by_cases he:ea=0
    ·subst he;exact zgB (by rw [HEE.out];rfl) HDZ.out hLZ
    ·exact zbM (by rw [HEE.out];unfold okIf;rw [if_pos he]) he hLZ
end
end Go.Proofs.YtockodmbhnlheaaGreatDoor
