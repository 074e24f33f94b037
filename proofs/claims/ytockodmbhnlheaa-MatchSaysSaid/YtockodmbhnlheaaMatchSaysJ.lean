/-
  THE LAW MatchSays: holds for every input, with no condition. (Joined texts: Matched, BkRefs, ROrd, IdxI, CtI, RBook, RSame.)
-/
import Derived.Test.YtockodmbhnlheaaMatchSaysI
import Derived.Test.YtockodmbhnlheaaProg
import Derived.Test.YtockodmbhnlheaaMatchSaysA
import Derived.Maps.AppendAt
import Derived.Laws.AppendOwnNone
import Derived.OwnWalk
import Derived.Test.YtockodmbhnlheaaMatchSaysC
import Derived.Deep.RegionHeld3
import Derived.Test.YtockodmbhnlheaaMatchSaysB
import Derived.Lib.AppendZeros
import Derived.Test.YtockodmbhnlheaaMatchSaysG
import Derived.Test.YtockodmbhnlheaaMatchSaysH
import Derived.Test.YtockodmbhnlheaaMatchSaysF
import Derived.Test.YtockodmbhnlheaaMatchSaysE
import Derived.Laws.CopyOwn
import Derived.Lib.AppendZerosOnto
import Derived.Lib.Overlaps
import Derived.Laws.Externs
import Derived.Deep.RegionLaw
import Derived.Maps.Own
import Derived.Maps.OwnOps
import Derived.Maps.Views
import Derived.WalkKit
import Derived.Deep.Draws
import Derived.IntWalk
import Derived.Test.YtockodmbhnlheaaMatchSaysD
import Derived.Deep.QuietTactic
import Derived.BigQuiet
import Derived.Deep.DeepCutAuto
import Derived.WalkSpells
import Derived.WalkLawsBesides
import Derived.Lib.Hide
namespace Go.Proofs.Ytockodmbhnlheaa
section
open Go.RowKit
def mA1:Od:=⟨1,1,-1,100,3⟩
def mA2:Od:=⟨2,1,-1,101,4⟩
def mB:Bk:=⟨[],[mA1,mA2]⟩
def mO1:Od:=⟨3,0,1,101,5⟩
def mO2:Od:=⟨3,1,1,101,5⟩
def mF1:Fl:=⟨1,3,1,0,1,100,3⟩
def mF2:Fl:=⟨2,3,1,0,1,101,2⟩
def mX:Bk:=⟨[],[{ mA2 with qty:=2 }]⟩
set_option maxHeartbeats 2000000 in
set_option maxRecDepth 100000 in
theorem matched_any (w:World):Calls Try.prog 71 #[] w fun e w'=>e=.returned (.bool true)∧Below w.heap.size w w':=by
 have F1:=Lib.hid (show comeOf mB mO1 1=(mX,[mF1,mF2],0,0) by kernel_rfl)
 have F2:=Lib.hid (show comeOf mB mO2 1=(zeroBk,[],0,11) by kernel_rfl)
 go_enter Try.func71,Try.ntmps71
 go_wp2_with fail
 refine calls_name ?_
 intro w2 hw2
 have hb2:Below w.heap.size w w2:=by rw [hw2];exact ((Below.refl _ _).alloc (Nat.le_refl _) _).alloc (by simp) _
 have hs2:w2.heap.size=w.heap.size + 1 + 1:=by rw [hw2];simp
 have hra:Rd w2 w2.heap.size 5 (some ⟨w.heap.size,0,none⟩) 2 2 (odCells [mA1,mA2]):=by
  have X0:Blk w2 w.heap.size 71 (odCells [mA1,mA2]).toArray:=by rw [hw2];exact (Blk.new w _ _).alloc _
  exact ⟨rfl,by decide,by decide,nofun,fun _=>⟨w.heap.size,0,rfl,by omega,fun j u hj=>by rw [X0.cell,Nat.zero_add];simpa using hj⟩⟩
 have X1:Blk w2 (w.heap.size + 1) 62 #[.slice none 0 0,.slice (some ⟨w.heap.size,0,none⟩) 2 2]:=by rw [hw2];exact Blk.new_at _ _ _ _ (by simp)
 have hr:BkR w2 w2.heap.size none (some ⟨w.heap.size,0,none⟩) 0 2 mB:=⟨Rd.none_ _ _ _,hra⟩
 clear hw2 hra
 refine (come_bk mB mO1 1 none (some ⟨w.heap.size,0,none⟩) 0 2 w2.heap.size w2 hr (Nat.le_refl _) (by decide) (by decide)).mono ?_
 rw [F1.out]
 rintro e w3 ⟨A1,c1,A1',c1',vf,rfl,H3,hrow,hb3⟩
 obtain ⟨AF,cF,rfl⟩:=own_shape hrow
 have HF3:=Lib.hid (Rd.of_own hrow)
 have hs3:=hb3.size
 obtain ⟨⟨kX10,kX11⟩,-⟩:=X1.c2
 clear kX10 kX11
 replace X1:=X1.below hb3 X1.lt
 obtain ⟨⟨kX10,kX11⟩,-⟩:=X1.c2
 replace hb2:=hb2.trans (hb3.mono (by omega))
 replace hr:=hr.below hb3
 clear hb3 hrow
 have x1:w.heap.size + 1 < w3.heap.size:=by omega
 go_wp2_with fail
 refine calls_name ?_
 intro w4 hw4
 have hb4:Below w3.heap.size w3 w4:=by rw [hw4];exact (Below.refl _ _).alloc (Nat.le_refl _) _
 have hs4:w4.heap.size=w3.heap.size + 1:=by rw [hw4];simp
 have X2:Blk w4 w3.heap.size 62 #[.slice A1 0 c1,.slice A1' 1 c1']:=by rw [hw4];exact Blk.new w3 _ _
 clear hw4 x1
 replace hr:=hr.below (hb4.mono (by omega))
 replace hb2:=hb2.trans (hb4.mono (by omega))
 replace HF3:=Lib.hid (HF3.out.below hb4)
 have HX:=Lib.hid (H3.read.below hb4)
 refine (come_bk mB mO2 1 none (some ⟨w.heap.size,0,none⟩) 0 2 w2.heap.size w4 hr (by omega) (by decide) (by decide)).mono ?_
 rw [F2.out]
 rintro e w5 ⟨A2,c2,A2',c2',vf,rfl,H5,hrow,hb5⟩
 obtain ⟨AG,cG,rfl⟩:=own_shape hrow
 have hs5:=hb5.size
 obtain ⟨⟨kX20,kX21⟩,-⟩:=X2.c2
 clear kX20 kX21
 replace X2:=X2.below hb5 X2.lt
 obtain ⟨⟨kX20,kX21⟩,-⟩:=X2.c2
 replace hb2:=hb2.trans (hb5.mono (by omega))
 replace HF3:=Lib.hid (HF3.out.below (hb5.mono (by omega)))
 replace HX:=Lib.hid (HX.out.below (hb5.mono (by omega)))
 clear hb5 hrow hb4 H3 H5 X1 kX10 kX11
 obtain ⟨g1,o1,f1,rfl,hg1,hf1,_,_,_,_,_,k5,k6⟩:=fl_at HF3.out (i:=0) (by decide)
 obtain ⟨g1',o1',f2,e1,_,hf2,_,_,_,_,_,m5,m6⟩:=fl_at HF3.out (i:=1) (by decide)
 obtain ⟨g2,o2,x,rfl,hg2,hx,_,_,_,_,n4⟩:=od_at HX.out.r (i:=0) (by decide)
 obtain rfl:f1=mF1:=by injection hf1 with hf1;exact hf1.symm
 obtain rfl:f2=mF2:=by injection hf2 with hf2;exact hf2.symm
 obtain rfl:x = { mA2 with qty:=2 }:=by injection hx with hx;exact hx.symm
 injection e1 with e1
 injection e1 with e1 e2
 subst e1 e2
 clear hf1 hf2 hx HF3 HX
 simp only [mF1,mF2,Nat.zero_mul,Nat.add_zero,Nat.one_mul] at k5 k6 m5 m6 n4
 rw [Nat.add_assoc] at m5 m6
 have y1:g1 < w5.heap.size:=by omega
 have y2:g2 < w5.heap.size:=by omega
 have y3:w3.heap.size < w5.heap.size:=by omega
 go_wp2_with fail
 go_ret
 refine ⟨rfl,?_⟩
 first | exact hb2 | exact hb2.alloc (by omega) _
end
section
open Go.RowKit
theorem come_ref {x:Bk} {l:List Fl} {left:Int} {e':Int} (b:Bk) (o:Od) (how:Int) (A A':Option Addr) (c c' B:Nat) (w:World) (hr:comeOf b o how=(x,l,left,e')) (h:BkR w B A A' c c' b) (hB:B ≤ w.heap.size) (hl:b.bids.length ≤ 4000000000000) (hl':b.asks.length ≤ 4000000000000) :
  Calls Try.prog 81 #[.agg #[.slice A b.bids.length c,.slice A' b.asks.length c'],.agg #[.int .i64 o.id,.int .i64 o.acc,.int .i64 o.side,.int .i64 o.price,.int .i64 o.qty],.int .i64 how] w (RetCome w (x,l,left,e')):=by
 rw [← hr];exact come_bk b o how A A' c c' B w h hB hl hl'
end
section
open Go.RowKit
set_option maxHeartbeats 1000000 in
theorem rordErr_any (o:Od) (w:World) :
  Calls Try.prog 86 #[.agg #[.int .i64 o.id,.int .i64 o.acc,.int .i64 o.side,.int .i64 o.price,.int .i64 o.qty]] w fun e w'=>e=.returned (.int .i64 (ordErr o))∧Below w.heap.size w w':=by
 by_cases h5:o.id < 1∨100000 < o.id∨o.acc < 0∨8 ≤ o.acc
 ·have HE:=Lib.hid (show ordErr o=5 by unfold ordErr;rw [if_pos h5])
  have h0:o.id < 1∨1 ≤ o.id∧100000 < o.id∨1 ≤ o.id∧o.id ≤ 100000∧o.acc < 0∨1 ≤ o.id∧o.id ≤ 100000∧0 ≤ o.acc∧8 ≤ o.acc:=by omega
  clear h5
  rcases h0 with h1 | ⟨h1,h2⟩ | ⟨h1,h2,h3⟩ | ⟨h1,h2,h3,h4⟩
  all_goals
   go_enter Try.func86,Try.ntmps86
   go_wp2_with fail
   go_ret
   exact ⟨ret_ii HE.out.symm,(Below.refl _ _).alloc (Nat.le_refl _) _⟩
 ·obtain ⟨⟨h1,h2⟩,h3,h4⟩:(1 ≤ o.id∧o.id ≤ 100000)∧0 ≤ o.acc∧o.acc < 8:=by omega
  by_cases h6:o.side ≠ 1∧o.side ≠ -1
  ·have HE:=Lib.hid (show ordErr o=4 by unfold ordErr;rw [if_neg h5,if_pos h6])
   obtain ⟨h7,h8⟩:=h6
   have h7':(o.side != 1)=true:=by simpa using h7
   have h8':(o.side != -1)=true:=by simpa using h8
   clear h5 h7 h8
   go_enter Try.func86,Try.ntmps86
   go_wp2_with fail
   go_ret
   exact ⟨ret_ii HE.out.symm,(Below.refl _ _).alloc (Nat.le_refl _) _⟩
  ·have hs:((o.side != 1)=false)∨((o.side != 1)=true∧(o.side != -1)=false):=by
    by_cases a1:o.side=1
    ·exact .inl (by simpa using a1)
    ·exact .inr ⟨by simpa using a1,by simp;omega⟩
   by_cases h9:o.price < 1∨10000 < o.price∨o.qty < 1∨1000 < o.qty
   ·have HE:=Lib.hid (show ordErr o=3 by unfold ordErr;rw [if_neg h5,if_neg h6,if_pos h9])
    have h0:o.price < 1∨1 ≤ o.price∧10000 < o.price∨1 ≤ o.price∧o.price ≤ 10000∧o.qty < 1∨1 ≤ o.price∧o.price ≤ 10000∧1 ≤ o.qty∧1000 < o.qty:=by omega
    clear h5 h6 h9
    rcases hs with hs | ⟨hs,hs'⟩
    all_goals
     rcases h0 with g1 | ⟨g1,g2⟩ | ⟨g1,g2,g3⟩ | ⟨g1,g2,g3,g4⟩
     all_goals
      go_enter Try.func86,Try.ntmps86
      go_wp2_with fail
      go_ret
      exact ⟨ret_ii HE.out.symm,(Below.refl _ _).alloc (Nat.le_refl _) _⟩
   ·have HE:=Lib.hid (show ordErr o=0 by unfold ordErr;rw [if_neg h5,if_neg h6,if_neg h9])
    obtain ⟨g1,g2,g3,g4⟩:1 ≤ o.price∧o.price ≤ 10000∧1 ≤ o.qty∧o.qty ≤ 1000:=by omega
    clear h5 h6 h9
    rcases hs with hs | ⟨hs,hs'⟩
    all_goals
     go_enter Try.func86,Try.ntmps86
     go_wp2_with fail
     go_ret
     exact ⟨ret_ii HE.out.symm,(Below.refl _ _).alloc (Nat.le_refl _) _⟩
set_option maxHeartbeats 1000000 in
theorem rahead_any (a b:Od) (w:World) :
  Calls Try.prog 87 #[.agg #[.int .i64 a.id,.int .i64 a.acc,.int .i64 a.side,.int .i64 a.price,.int .i64 a.qty],.agg #[.int .i64 b.id,.int .i64 b.acc,.int .i64 b.side,.int .i64 b.price,.int .i64 b.qty]] w fun e w'=>e=.returned (.bool (aheadB a b))∧Below w.heap.size w w':=by
 by_cases h:a.price=b.price
 ·have HE:=Lib.hid (show aheadB a b=decide (a.id < b.id) by unfold aheadB;rw [if_pos h])
  have h':(a.price == b.price)=true:=by simpa using h
  clear h
  go_enter Try.func87,Try.ntmps87
  go_wp2_with fail
  go_ret
  exact ⟨ret_bb HE.out.symm,((Below.refl _ _).alloc (Nat.le_refl _) _).alloc (by simp) _⟩
 ·have h':(a.price == b.price)=false:=by simpa using h
  by_cases hs:a.side=1
  ·have HE:=Lib.hid (show aheadB a b=decide (b.price < a.price) by unfold aheadB;rw [if_neg h,if_pos hs])
   have hs':(a.side == 1)=true:=by simpa using hs
   clear h hs
   go_enter Try.func87,Try.ntmps87
   go_wp2_with fail
   go_ret
   exact ⟨ret_bb HE.out.symm,((Below.refl _ _).alloc (Nat.le_refl _) _).alloc (by simp) _⟩
  ·have HE:=Lib.hid (show aheadB a b=decide (a.price < b.price) by unfold aheadB;rw [if_neg h,if_neg hs])
   have hs':(a.side == 1)=false:=by simpa using hs
   clear h hs
   go_enter Try.func87,Try.ntmps87
   go_wp2_with fail
   go_ret
   exact ⟨ret_bb HE.out.symm,((Below.refl _ _).alloc (Nat.le_refl _) _).alloc (by simp) _⟩
end
section
open Go.RowKit
theorem any_next {p:Int→Bool} {L:List Int} {j:Nat} {x:Int} (hx:L[j]?=some x) (hp:p x=false) (hb:(L.take j).any p=false):(L.take (j + 1)).any p=false:=by
 rw [List.take_add_one,hx]
 simp only [Option.toList,List.any_append,hb,List.any_cons,List.any_nil,hp];rfl
theorem any_found {p:Int→Bool} {L:List Int} {j:Nat} {x:Int} (hx:L[j]?=some x) (hp:p x=true):L.any p=true:=by
 rw [List.any_eq_true];exact ⟨x,List.mem_of_getElem? hx,hp⟩
theorem bool_csI (b:Bool):b=true∨b=false:=by cases b <;> simp
end
section
open Go.RowKit
set_option maxHeartbeats 1000000 in
theorem index_int (v:Int) (A:Option Addr) (n c:Nat) (L:List Int) (B:Nat) (w:World) (h:Rd w B 1 A n c (ints L)) (_hB:B ≤ w.heap.size) :
  Calls Try.prog 167 #[.slice A n c,.int .i64 v] w fun e w'=>(∃ j:Int,e=.returned (.int .i64 j)∧decide (0 ≤ j)=L.any (fun x=>v == x))∧w=w':=by
 have hle:=h.le
 have hcap:=h.cap
 have HL:=Lib.hid h.ofInts
 unfold maxLen at hcap
 go_enter Try.func167,Try.ntmps167
 go_wp2_with fail
 go_loopw [8] (fun i wr=>∃ j:Nat,j ≤ n∧i=.int .i64 j∧w=wr∧Hid ((L.take j).any (fun x=>v == x)=false)) (fun i _=>n - (intOf i).toNat)
 case atStart=>exact ⟨0,Nat.zero_le _,rfl,rfl,rfl⟩
 case round =>
  obtain ⟨j,hj,rfl,rfl,HP⟩:=hrel
  by_cases hlt:j < n
  ·obtain ⟨b,o',rfl,hb,x,hx,k0⟩:=h.int hlt
   have HX:=Lib.hid hx
   clear hx
   rcases bool_csI (v == x) with hp | hp
   ·have HE:=Lib.hid (any_found (p:=fun x=>v == x) HX.out hp)
    go_wp2_with fail
    go_ret
    exact ⟨⟨_,rfl,by rw [HE.out];simp⟩,rfl⟩
   ·have HN:=Lib.hid (any_next (p:=fun x=>v == x) HX.out hp HP.out)
    go_wp2_with fail
    go_roundw
    case rel=>exact ⟨j + 1,by omega,by go_num,trivial,HN⟩
    case measure=>simp [intOf];omega
  ·have hjn:j=n:=by omega
   have HE:=Lib.hid (show L.any (fun x=>v == x)=false by have:=HP.out;rw [hjn,List.take_of_length_le (by rw [HL.out];exact Nat.le_refl _)] at this;exact this)
   clear hjn
   go_wp2_with fail
   go_ret
   exact ⟨⟨_,rfl,by rw [HE.out];rfl⟩,rfl⟩
set_option maxHeartbeats 400000 in
theorem contains_int (v:Int) (A:Option Addr) (n c:Nat) (L:List Int) (B:Nat) (w:World) (h:Rd w B 1 A n c (ints L)) (hB:B ≤ w.heap.size) :
  Calls Try.prog 147 #[.slice A n c,.int .i64 v] w fun e w'=>e=.returned (.bool (decide (v ∈ L)))∧w=w':=by
 have HD:=Lib.hid (show L.any (fun x=>v == x)=decide (v ∈ L) by
  rw [Bool.eq_iff_iff,List.any_eq_true,decide_eq_true_iff]
  constructor
  ·rintro ⟨x,hx,e⟩;rw [show v=x by simpa using e];exact hx
  ·intro hv;exact ⟨v,hv,beq_self_eq_true v⟩)
 go_enter Try.func147,Try.ntmps147
 go_wp2_with fail
 refine (index_int v A n c L B _ h hB).mono ?_
 rintro e w1 ⟨⟨j,rfl,hj⟩,rfl⟩
 have HJ:=Lib.hid hj
 go_wp2_with fail
 go_ret
 exact ⟨ret_bb HD.out,rfl⟩
end
section
open Go.RowKit
theorem ints_app' (a b:List Int):ints (a ++ b)=ints a ++ ints b:=by unfold ints;simp
set_option maxHeartbeats 8000000 in
set_option maxRecDepth 100000 in
theorem rbook_any (b:Bk) (A A':Option Addr) (c c':Nat) (B:Nat) (w:World) (h:Rd w B 5 A b.bids.length c (odCells b.bids)) (h':Rd w B 5 A' b.asks.length c' (odCells b.asks)) (hB:B ≤ w.heap.size) (hl:b.bids.length ≤ 4000000000000) (hl':b.asks.length ≤ 4000000000000) :
  Calls Try.prog 84 #[.agg #[.slice A b.bids.length c,.slice A' b.asks.length c']] w fun e w'=>e=.returned (.int .i64 (bookErr b))∧Below w.heap.size w w':=by
 by_cases h40:40 < b.bids.length + b.asks.length
 ·have HE:=Lib.hid (show bookErr b=2 by unfold bookErr;rw [if_pos h40])
  have h41:(40:Int) < (b.bids.length:Int) + (b.asks.length:Int):=by omega
  clear h40
  go_enter Try.func84,Try.ntmps84
  go_wp2_with fail
  go_ret
  exact ⟨ret_ii HE.out.symm,(Below.refl _ _).alloc (Nat.le_refl _) _⟩
 ·have HE:=Lib.hid (show bookErr b=if sideErr 1 none [] b.bids ≠ 0 then sideErr 1 none [] b.bids
   else if sideErr (-1) none (b.bids.map Od.id).reverse b.asks ≠ 0 then sideErr (-1) none (b.bids.map Od.id).reverse b.asks else if crossedB b then 4 else 0 by
   unfold bookErr;rw [if_neg h40])
  have h41:(b.bids.length:Int) + (b.asks.length:Int) ≤ 40:=by omega
  have h42:b.bids.length + b.asks.length ≤ 40:=by omega
  obtain ⟨r1,hr1⟩:∃ r,sideErr 1 none [] b.bids=r:=⟨_,rfl⟩
  obtain ⟨r2,hr2⟩:∃ r,sideErr (-1) none (b.bids.map Od.id).reverse b.asks=r:=⟨_,rfl⟩
  rw [hr1,hr2] at HE
  have HR1:=Lib.hid hr1
  have HR2:=Lib.hid hr2
  clear h40 hr1 hr2
  go_enter Try.func84,Try.ntmps84
  go_wp2_with fail
  obtain ⟨W0,hW0⟩:∃ W,W=(w.alloc (.cells #[.slice A b.bids.length c,.slice A' b.asks.length c'] 62)).alloc (.cells #[.slice A b.bids.length c,.slice A' b.asks.length c'] 60):=⟨_,rfl⟩
  have hB0:Below w.heap.size w W0:=by rw [hW0];exact ((Below.refl _ _).alloc (Nat.le_refl _) _).alloc (by simp) _
  have K0:Blk W0 w.heap.size 62 #[.slice A b.bids.length c,.slice A' b.asks.length c']:=by rw [hW0];exact (Blk.new w _ _).alloc _
  have Z0:Blk W0 (w.heap.size + 1) 60 #[.slice A b.bids.length c,.slice A' b.asks.length c']:=by rw [hW0];exact Blk.new_at _ _ _ _ (by simp)
  rw [← hW0]
  clear hW0
  have hs0:=hB0.size
  have hB2:B ≤ W0.heap.size:=by omega
  have h0:=h.below (hB0.mono hB)
  have h1:=h'.below (hB0.mono hB)
  have z1:=Z0.lt
  have z0:=K0.lt
  go_loopw [23,3] (fun i v wr=>Below W0.heap.size W0 wr∧(i=.int .i64 0∧Hid (wr.ownsRow W0.heap.size 3 1 v 0 (ints []))∨i=.int .i64 1∧Hid (wr.ownsRow W0.heap.size 3 1 v b.bids.length (ints (b.bids.map Od.id)))∧Hid (r1=0)∨i=.int .i64 2∧Hid (r1=0)∧Hid (r2=0))) (fun i _ _=>2 - (intOf i).toNat)
  case atStart=>exact ⟨Below.refl _ _,.inl ⟨rfl,World.ownsRow_nil _ _ _ _⟩⟩
  case round =>
   obtain ⟨hbr,⟨rfl,HV⟩ | ⟨rfl,HV,HR10⟩ | ⟨rfl,HR10,HR20⟩⟩:=hrel
   ·have c0:=(Z0.below hbr z1).c2.1.1
    have l0:=(Z0.below hbr z1).lt
    go_wp2_with fail
    go_loopw [30,3] (fun i v wi=>∃ (j nn:Nat),j ≤ b.bids.length∧Hid (nn=0 + j)∧i=.int .i64 j∧Below W0.heap.size W0 wi∧Hid (wi.ownsRow W0.heap.size 3 1 v nn (ints (([]:List Int) ++ (b.bids.take j).map Od.id)))∧Hid (sideAt (1) b.bids (([]:List Int)).reverse j=r1)) (fun i _ _=>b.bids.length - (intOf i).toNat)
    case atStart=>exact ⟨0,0,Nat.zero_le _,rfl,rfl,hbr,Lib.hid (by simpa using HV.out),Lib.hid ((sideAt_zero _ _ _).trans HR1.out)⟩
    case round =>
     obtain ⟨j,nn,hj,HNN,rfl,hbi,HW,HT⟩:=hrel
     have hn9:nn ≤ 80:=by have:=HNN.out;omega
     obtain ⟨wi,rfl⟩:∃ wi,wi=wr:=⟨wr,rfl⟩
     have hsi:=hbi.size
     obtain ⟨Av,cv,rfl⟩:=own_shape HW.out
     by_cases hlt:j < b.bids.length
     ·obtain ⟨g,o,x,rfl,hg,hx,k0,k1,k2,k3,k4⟩:=od_at (h0.below (hbi.mono hB2)) hlt
      have HX:=Lib.hid hx
      have HD:=Lib.hid (HT.out.symm.trans (sideAt_step hx))
      have x1:g < wi.heap.size:=by omega
      clear hx
      go_wp2_with fail
      refine (rordErr_any x _).mono ?_
      rintro e w1 ⟨rfl,hb1⟩
      have hb2:Below wi.heap.size wi w1:=((Below.refl _ _).alloc (Nat.le_refl _) _).trans (hb1.mono (by simp))
      have Bx:=(Blk.new wi 71 #[.int .i64 x.id,.int .i64 x.acc,.int .i64 x.side,.int .i64 x.price,.int .i64 x.qty]).below hb1 (by simp)
      have hw1:wi.heap.size < w1.heap.size:=by have:=hb1.size;simp at this;omega
      have hw2:=hb2.size
      have HW1:=Lib.hid (own_below HW.out hb2 (Nat.le_refl _))
      have hbw:=hbi.trans (hb2.mono hsi)
      have hr1:=h0.below (hbw.mono hB2)
      clear k0 k1 k2 k3 k4 hb1
      by_cases he:ordErr x=0
      ·have HD2:=Lib.hid (HD.out.trans (if_neg (by omega)))
       obtain ⟨⟨hi1,hi2⟩,_⟩:=ordErr_ok.1 he
       have HZ:=Lib.hid he
       have he':(ordErr x != 0)=false:=by simpa using he
       clear he HD
       obtain ⟨⟨b0,b1,b2,b3,b4⟩,_⟩:=Bx.c5
       by_cases hside:x.side=1
       ·have hs':(x.side != 1)=false:=by simpa using hside
        have HSD:=Lib.hid hside
        clear hside
        by_cases hj0:j=0
        ·subst hj0
         have HD4:=Lib.hid (show r1=if x.id ∈ ((b.bids.take 0).map Od.id).reverse ++ (([]:List Int)).reverse then 6 else sideAt (1) b.bids (([]:List Int)).reverse (0 + 1) by
          rw [HD2.out,if_neg]
          rintro (h | ⟨q,hq,_⟩)
          ·exact h HSD.out
          ·simp at hq)
         go_wp2_with fail
         go_quiet (fail)
         obtain ⟨W',hW⟩:∃ W',W'=w1.drewN nq:=⟨_,rfl⟩
         rw [← hW]
         have hB:Below w1.heap.size w1 W':=by rw [hW];exact below_drewN (Below.refl _ _) _
         clear hW b0 b1 b2 b3 b4
         obtain ⟨⟨b0,b1,b2,b3,b4⟩,_⟩:=(Bx.below hB hw1).c5
         have hwW:wi.heap.size < W'.heap.size:=by have:=hB.size;omega
         have HW2:=Lib.hid (own_below HW1.out hB (Nat.le_refl _))
         have hbz:=hbw.trans (hB.mono (by omega))
         have hsz:=hB.size
         rcases mem_or x.id (((b.bids.take (0)).map Od.id).reverse ++ (([]:List Int)).reverse) with ⟨hm1,hm2⟩ | ⟨hm1,hm2⟩
         ·have HNM:=Lib.hid (show decide (x.id ∈ ([]:List Int) ++ (b.bids.take (0)).map Od.id)=false from decide_eq_false (by rw [← List.mem_reverse,List.reverse_append];exact hm2))
          have HE2:=Lib.hid (show sideAt (1) b.bids (([]:List Int)).reverse (0 + 1)=r1 by rw [HD4.out,if_neg hm2])
          clear hm1 hm2
          go_wp2_with fail
          refine (contains_int x.id Av _ cv (([]:List Int) ++ (b.bids.take (0)).map Od.id) W'.heap.size W' (Rd.of_own HW2.out) (Nat.le_refl _)).mono ?_
          rw [HNM.out]
          rintro e w6 ⟨rfl,rfl⟩
          go_wp2_with (at_builtin;refine wpList_app rfl _ _ _ rfl W0.heap.size _ _ _ elem_int _ _ _ rfl (own_below HW2.out ((Below.refl W'.heap.size W').alloc (Nat.le_refl _) _) (Nat.le_refl _)) (W'.heap.size + 1) _ 1 1 [.int .i64 x.id] rfl (Rd.new_at W' #[.int .i64 x.id] 3 W'.heap.size 1 rfl rfl (by decide)) (by simp [Value.oneCell']) (by unfold maxLen;omega) (by omega) (by simp;omega) ?_;intro v' w7 hown7 hbel7 _ _)
          have HO7:Hid (w7.ownsRow W0.heap.size 3 1 v' (nn + 1) (ints (([]:List Int) ++ (b.bids.take (0 + 1)).map Od.id))):=by
           rw [List.take_add_one,HX.out]
           have:=hown7
           simp only [Option.toList,List.map_append,List.map_cons,List.map_nil]
           rw [← List.append_assoc,ints_app'];exact this
          go_roundw
          case rel=>exact ⟨0 + 1,nn + 1,by omega,Lib.hid (by have:=HNN.out;omega),by go_num,hbz.trans ((((Below.refl W'.heap.size W').alloc (Nat.le_refl _) _).mono (by omega)).trans hbel7),HO7,HE2⟩
          case measure=>simp [intOf];omega
         ·have HNM:=Lib.hid (show decide (x.id ∈ ([]:List Int) ++ (b.bids.take (0)).map Od.id)=true from decide_eq_true (by rw [← List.mem_reverse,List.reverse_append];exact hm2))
          have HE2:=Lib.hid (show r1=6 by rw [HD4.out,if_pos hm2])
          clear hm1 hm2
          go_wp2_with fail
          refine (contains_int x.id Av _ cv (([]:List Int) ++ (b.bids.take (0)).map Od.id) W'.heap.size W' (Rd.of_own HW2.out) (Nat.le_refl _)).mono ?_
          rw [HNM.out]
          rintro e w6 ⟨rfl,rfl⟩
          go_wp2_with fail
          go_ret
          exact ⟨ret_ii (by rw [HE.out];rw [HE2.out];simp),hB0.trans (hbz.mono (by omega))⟩
        ·obtain ⟨jj,rfl⟩:∃ jj,j=jj + 1:=⟨j - 1,by omega⟩
         obtain ⟨b',o',q,hA,hb',hq,q0,q1,q2,q3,q4⟩:=od_at hr1 (show jj < b.bids.length by omega)
         cases hA
         have HD3:=Lib.hid (show r1=if aheadB q x=false then 4 else if x.id ∈ ((b.bids.take (jj + 1)).map Od.id).reverse ++ (([]:List Int)).reverse then 6 else sideAt (1) b.bids (([]:List Int)).reverse (jj + 1 + 1) by
          rw [HD2.out]
          by_cases ha:aheadB q x=false
          ·rw [if_pos ha,if_pos (.inr ⟨q,by rw [if_neg (by omega),Nat.add_sub_cancel];exact hq,ha⟩)]
          ·rw [if_neg ha,if_neg]
           rintro (h | ⟨q',hq',h⟩)
           ·exact h HSD.out
           ·rw [if_neg (by omega),Nat.add_sub_cancel,hq] at hq'
            injection hq' with hq'
            rw [hq'] at ha;exact ha h)
         clear hq
         have h11:Below w1.heap.size w1 w1:=Below.refl _ _
         have x2:g < w1.heap.size:=by omega
         have KS:Hid (∀ W,Below w1.heap.size w1 W→Below w1.heap.size w1 W∧(W.cell? ⟨wi.heap.size,0,none⟩=some (.int .i64 x.id)∧W.cell? ⟨wi.heap.size,1,none⟩=some (.int .i64 x.acc)∧W.cell? ⟨wi.heap.size,2,none⟩=some (.int .i64 x.side)∧W.cell? ⟨wi.heap.size,3,none⟩=some (.int .i64 x.price)∧W.cell? ⟨wi.heap.size,4,none⟩=some (.int .i64 x.qty))∧(W.cell? ⟨g,o + jj * 5,none⟩=some (.int .i64 q.id)∧W.cell? ⟨g,o + jj * 5 + 1,none⟩=some (.int .i64 q.acc)∧W.cell? ⟨g,o + jj * 5 + 2,none⟩=some (.int .i64 q.side)∧W.cell? ⟨g,o + jj * 5 + 3,none⟩=some (.int .i64 q.price)∧W.cell? ⟨g,o + jj * 5 + 4,none⟩=some (.int .i64 q.qty))):=by
          intro W hW
          exact ⟨hW,(Bx.below hW hw1).c5.1,(hW.cell (p:=⟨g,_,none⟩) x2).trans q0,(hW.cell (p:=⟨g,_,none⟩) x2).trans q1,(hW.cell (p:=⟨g,_,none⟩) x2).trans q2,(hW.cell (p:=⟨g,_,none⟩) x2).trans q3,(hW.cell (p:=⟨g,_,none⟩) x2).trans q4⟩
         have i1:IntKind.i64.wrap ((jj:Int) + 1 - 1)=(jj:Int):=by rw [show (jj:Int) + 1 - 1=(jj:Int) by omega];exact IntWalk.i64_in _ (by omega)
         have i2:(0:Int) ≤ (jj:Int):=by omega
         have i3:(jj:Int) < (b.bids.length:Int):=by omega
         have i4:decide ((0:Int) < (jj:Int) + 1)=true:=by simp
         have i5:IntKind.i64.wrap (jj:Int)=(jj:Int):=IntWalk.i64_in _ (by omega)
         have j1:IntKind.i64.wrap 0=0:=IntWalk.i64_in _ (by omega)
         have j2:IntKind.i64.wrap 1=1:=IntWalk.i64_in _ (by omega)
         have j3:IntKind.i64.wrap 2=2:=IntWalk.i64_in _ (by omega)
         have j4:IntKind.i64.wrap (-1) = -1:=IntWalk.i64_in _ (by omega)
         have j5:IntKind.i64.wrap (1 - 2) = -1:=IntWalk.i64_in _ (by omega)
         have j6:IntKind.i64.wrap (1 - 0)=1:=IntWalk.i64_in _ (by omega)
         go_wp2_with fail
         go_region_held3 (fun W=>Below w1.heap.size w1 W∧(W.cell? ⟨wi.heap.size,0,none⟩=some (.int .i64 x.id)∧W.cell? ⟨wi.heap.size,1,none⟩=some (.int .i64 x.acc)∧W.cell? ⟨wi.heap.size,2,none⟩=some (.int .i64 x.side)∧W.cell? ⟨wi.heap.size,3,none⟩=some (.int .i64 x.price)∧W.cell? ⟨wi.heap.size,4,none⟩=some (.int .i64 x.qty))∧(W.cell? ⟨g,o + jj * 5,none⟩=some (.int .i64 q.id)∧W.cell? ⟨g,o + jj * 5 + 1,none⟩=some (.int .i64 q.acc)∧W.cell? ⟨g,o + jj * 5 + 2,none⟩=some (.int .i64 q.side)∧W.cell? ⟨g,o + jj * 5 + 3,none⟩=some (.int .i64 q.price)∧W.cell? ⟨g,o + jj * 5 + 4,none⟩=some (.int .i64 q.qty)))
          (first | (exact KS.out _ (by assumption)) | (exact KS.out _ (below_drew (by assumption))))
          ((first | (go_at_call 87;go_split_ands;(with_reducible refine (rahead_any q x _).mono ?_);rintro e W' ⟨rfl,hb⟩;have hB:=below_next hb (by assumption))))
         go_split_ands
         clear KS b0 b1 b2 b3 b4 q0 q1 q2 q3 q4 i1 i2 i3 i4 i5 j1 j2 j3 j4 j5 j6
         rcases bool_cs (aheadB q x) with ha | ha
         ·have HE2:=Lib.hid (show r1=4 by rw [HD3.out,if_pos ha])
          rw [ha]
          go_wp2_with fail
          go_ret
          exact ⟨ret_ii (by rw [HE.out];rw [HE2.out];simp),hB0.trans ((hbw.trans (hB.mono (by omega))).mono (by omega))⟩
         ·have HD4:=Lib.hid (HD3.out.trans (if_neg (by rw [ha];simp)))
          rw [ha]
          obtain ⟨⟨b0,b1,b2,b3,b4⟩,_⟩:=(Bx.below hB hw1).c5
          have hwW:wi.heap.size < W'.heap.size:=by have:=hB.size;omega
          have HW2:=Lib.hid (own_below HW1.out hB (Nat.le_refl _))
          have hbz:=hbw.trans (hB.mono (by omega))
          have hsz:=hB.size
          rcases mem_or x.id (((b.bids.take (jj + 1)).map Od.id).reverse ++ (([]:List Int)).reverse) with ⟨hm1,hm2⟩ | ⟨hm1,hm2⟩
          ·have HNM:=Lib.hid (show decide (x.id ∈ ([]:List Int) ++ (b.bids.take (jj + 1)).map Od.id)=false from decide_eq_false (by rw [← List.mem_reverse,List.reverse_append];exact hm2))
           have HE2:=Lib.hid (show sideAt (1) b.bids (([]:List Int)).reverse (jj + 1 + 1)=r1 by rw [HD4.out,if_neg hm2])
           clear hm1 hm2
           go_wp2_with fail
           refine (contains_int x.id Av _ cv (([]:List Int) ++ (b.bids.take (jj + 1)).map Od.id) W'.heap.size W' (Rd.of_own HW2.out) (Nat.le_refl _)).mono ?_
           rw [HNM.out]
           rintro e w6 ⟨rfl,rfl⟩
           go_wp2_with (at_builtin;refine wpList_app rfl _ _ _ rfl W0.heap.size _ _ _ elem_int _ _ _ rfl (own_below HW2.out ((Below.refl W'.heap.size W').alloc (Nat.le_refl _) _) (Nat.le_refl _)) (W'.heap.size + 1) _ 1 1 [.int .i64 x.id] rfl (Rd.new_at W' #[.int .i64 x.id] 3 W'.heap.size 1 rfl rfl (by decide)) (by simp [Value.oneCell']) (by unfold maxLen;omega) (by omega) (by simp;omega) ?_;intro v' w7 hown7 hbel7 _ _)
           have HO7:Hid (w7.ownsRow W0.heap.size 3 1 v' (nn + 1) (ints (([]:List Int) ++ (b.bids.take (jj + 1 + 1)).map Od.id))):=by
            rw [List.take_add_one,HX.out]
            have:=hown7
            simp only [Option.toList,List.map_append,List.map_cons,List.map_nil]
            rw [← List.append_assoc,ints_app'];exact this
           go_roundw
           case rel=>exact ⟨jj + 1 + 1,nn + 1,by omega,Lib.hid (by have:=HNN.out;omega),by go_num,hbz.trans ((((Below.refl W'.heap.size W').alloc (Nat.le_refl _) _).mono (by omega)).trans hbel7),HO7,HE2⟩
           case measure=>simp [intOf];omega
          ·have HNM:=Lib.hid (show decide (x.id ∈ ([]:List Int) ++ (b.bids.take (jj + 1)).map Od.id)=true from decide_eq_true (by rw [← List.mem_reverse,List.reverse_append];exact hm2))
           have HE2:=Lib.hid (show r1=6 by rw [HD4.out,if_pos hm2])
           clear hm1 hm2
           go_wp2_with fail
           refine (contains_int x.id Av _ cv (([]:List Int) ++ (b.bids.take (jj + 1)).map Od.id) W'.heap.size W' (Rd.of_own HW2.out) (Nat.le_refl _)).mono ?_
           rw [HNM.out]
           rintro e w6 ⟨rfl,rfl⟩
           go_wp2_with fail
           go_ret
           exact ⟨ret_ii (by rw [HE.out];rw [HE2.out];simp),hB0.trans (hbz.mono (by omega))⟩
       ·have HE2:=Lib.hid (show r1=4 by rw [HD2.out,if_pos (.inl hside)])
        have hs':(x.side != 1)=true:=by simpa using hside
        clear hside
        go_wp2_with fail
        go_quiet (fail)
        go_wp2_with fail
        go_ret
        exact ⟨ret_ii (by rw [HE.out];rw [HE2.out];simp),hB0.trans ((hbw.trans ((below_drewN (Below.refl _ _) _).mono (by omega))).mono (by omega))⟩
      ·have HE2:=Lib.hid (show r1=ordErr x by rw [HD.out,if_pos he])
       have HN:=Lib.hid he
       have he':(ordErr x != 0)=true:=by simpa using he
       clear he
       go_wp2_with fail
       go_ret
       exact ⟨ret_ii (by rw [HE.out];rw [HE2.out,if_pos HN.out]),hB0.trans (hbw.mono (by omega))⟩
     ·have hjn:j=b.bids.length:=by omega
      subst hjn
      have HEZ:=Lib.hid (show r1=0 by rw [← HT.out];exact sideAt_end (Nat.le_refl _))
      have HW2:=Lib.hid (show wi.ownsRow W0.heap.size 3 1 (.slice Av nn cv) (0 + b.bids.length) (ints (([]:List Int) ++ b.bids.map Od.id)) by have:=HW.out;rw [List.take_length] at this;rw [← HNN.out];exact this)
      go_wp2_with fail
      go_roundw
      case rel=>exact ⟨hbi,.inr (.inl ⟨by go_num,Lib.hid (by simpa using HW2.out),HEZ⟩)⟩
      case measure=>simp [intOf]
   ·have c0:=(Z0.below hbr z1).c2.1.2
    have l0:=(Z0.below hbr z1).lt
    go_wp2_with fail
    go_loopw [30,3] (fun i v wi=>∃ (j nn:Nat),j ≤ b.asks.length∧Hid (nn=b.bids.length + j)∧i=.int .i64 j∧Below W0.heap.size W0 wi∧Hid (wi.ownsRow W0.heap.size 3 1 v nn (ints (b.bids.map Od.id ++ (b.asks.take j).map Od.id)))∧Hid (sideAt (-1) b.asks (b.bids.map Od.id).reverse j=r2)) (fun i _ _=>b.asks.length - (intOf i).toNat)
    case atStart=>exact ⟨0,b.bids.length,Nat.zero_le _,rfl,rfl,hbr,Lib.hid (by simpa using HV.out),Lib.hid ((sideAt_zero _ _ _).trans HR2.out)⟩
    case round =>
     obtain ⟨j,nn,hj,HNN,rfl,hbi,HW,HT⟩:=hrel
     have hn9:nn ≤ 80:=by have:=HNN.out;omega
     obtain ⟨wi,rfl⟩:∃ wi,wi=wr:=⟨wr,rfl⟩
     have hsi:=hbi.size
     obtain ⟨Av,cv,rfl⟩:=own_shape HW.out
     by_cases hlt:j < b.asks.length
     ·obtain ⟨g,o,x,rfl,hg,hx,k0,k1,k2,k3,k4⟩:=od_at (h1.below (hbi.mono hB2)) hlt
      have HX:=Lib.hid hx
      have HD:=Lib.hid (HT.out.symm.trans (sideAt_step hx))
      have x1:g < wi.heap.size:=by omega
      clear hx
      go_wp2_with fail
      refine (rordErr_any x _).mono ?_
      rintro e w1 ⟨rfl,hb1⟩
      have hb2:Below wi.heap.size wi w1:=((Below.refl _ _).alloc (Nat.le_refl _) _).trans (hb1.mono (by simp))
      have Bx:=(Blk.new wi 71 #[.int .i64 x.id,.int .i64 x.acc,.int .i64 x.side,.int .i64 x.price,.int .i64 x.qty]).below hb1 (by simp)
      have hw1:wi.heap.size < w1.heap.size:=by have:=hb1.size;simp at this;omega
      have hw2:=hb2.size
      have HW1:=Lib.hid (own_below HW.out hb2 (Nat.le_refl _))
      have hbw:=hbi.trans (hb2.mono hsi)
      have hr1:=h1.below (hbw.mono hB2)
      clear k0 k1 k2 k3 k4 hb1
      by_cases he:ordErr x=0
      ·have HD2:=Lib.hid (HD.out.trans (if_neg (by omega)))
       obtain ⟨⟨hi1,hi2⟩,_⟩:=ordErr_ok.1 he
       have HZ:=Lib.hid he
       have he':(ordErr x != 0)=false:=by simpa using he
       clear he HD
       obtain ⟨⟨b0,b1,b2,b3,b4⟩,_⟩:=Bx.c5
       by_cases hside:x.side = -1
       ·have hs':(x.side != -1)=false:=by simpa using hside
        have HSD:=Lib.hid hside
        clear hside
        by_cases hj0:j=0
        ·subst hj0
         have HD4:=Lib.hid (show r2=if x.id ∈ ((b.asks.take 0).map Od.id).reverse ++ (b.bids.map Od.id).reverse then 6 else sideAt (-1) b.asks (b.bids.map Od.id).reverse (0 + 1) by
          rw [HD2.out,if_neg]
          rintro (h | ⟨q,hq,_⟩)
          ·exact h HSD.out
          ·simp at hq)
         go_wp2_with fail
         go_quiet (fail)
         obtain ⟨W',hW⟩:∃ W',W'=w1.drewN nq:=⟨_,rfl⟩
         rw [← hW]
         have hB:Below w1.heap.size w1 W':=by rw [hW];exact below_drewN (Below.refl _ _) _
         clear hW b0 b1 b2 b3 b4
         obtain ⟨⟨b0,b1,b2,b3,b4⟩,_⟩:=(Bx.below hB hw1).c5
         have hwW:wi.heap.size < W'.heap.size:=by have:=hB.size;omega
         have HW2:=Lib.hid (own_below HW1.out hB (Nat.le_refl _))
         have hbz:=hbw.trans (hB.mono (by omega))
         have hsz:=hB.size
         rcases mem_or x.id (((b.asks.take (0)).map Od.id).reverse ++ (b.bids.map Od.id).reverse) with ⟨hm1,hm2⟩ | ⟨hm1,hm2⟩
         ·have HNM:=Lib.hid (show decide (x.id ∈ b.bids.map Od.id ++ (b.asks.take (0)).map Od.id)=false from decide_eq_false (by rw [← List.mem_reverse,List.reverse_append];exact hm2))
          have HE2:=Lib.hid (show sideAt (-1) b.asks (b.bids.map Od.id).reverse (0 + 1)=r2 by rw [HD4.out,if_neg hm2])
          clear hm1 hm2
          go_wp2_with fail
          refine (contains_int x.id Av _ cv (b.bids.map Od.id ++ (b.asks.take (0)).map Od.id) W'.heap.size W' (Rd.of_own HW2.out) (Nat.le_refl _)).mono ?_
          rw [HNM.out]
          rintro e w6 ⟨rfl,rfl⟩
          go_wp2_with (at_builtin;refine wpList_app rfl _ _ _ rfl W0.heap.size _ _ _ elem_int _ _ _ rfl (own_below HW2.out ((Below.refl W'.heap.size W').alloc (Nat.le_refl _) _) (Nat.le_refl _)) (W'.heap.size + 1) _ 1 1 [.int .i64 x.id] rfl (Rd.new_at W' #[.int .i64 x.id] 3 W'.heap.size 1 rfl rfl (by decide)) (by simp [Value.oneCell']) (by unfold maxLen;omega) (by omega) (by simp;omega) ?_;intro v' w7 hown7 hbel7 _ _)
          have HO7:Hid (w7.ownsRow W0.heap.size 3 1 v' (nn + 1) (ints (b.bids.map Od.id ++ (b.asks.take (0 + 1)).map Od.id))):=by
           rw [List.take_add_one,HX.out]
           have:=hown7
           simp only [Option.toList,List.map_append,List.map_cons,List.map_nil]
           rw [← List.append_assoc,ints_app'];exact this
          go_roundw
          case rel=>exact ⟨0 + 1,nn + 1,by omega,Lib.hid (by have:=HNN.out;omega),by go_num,hbz.trans ((((Below.refl W'.heap.size W').alloc (Nat.le_refl _) _).mono (by omega)).trans hbel7),HO7,HE2⟩
          case measure=>simp [intOf];omega
         ·have HNM:=Lib.hid (show decide (x.id ∈ b.bids.map Od.id ++ (b.asks.take (0)).map Od.id)=true from decide_eq_true (by rw [← List.mem_reverse,List.reverse_append];exact hm2))
          have HE2:=Lib.hid (show r2=6 by rw [HD4.out,if_pos hm2])
          clear hm1 hm2
          go_wp2_with fail
          refine (contains_int x.id Av _ cv (b.bids.map Od.id ++ (b.asks.take (0)).map Od.id) W'.heap.size W' (Rd.of_own HW2.out) (Nat.le_refl _)).mono ?_
          rw [HNM.out]
          rintro e w6 ⟨rfl,rfl⟩
          go_wp2_with fail
          go_ret
          exact ⟨ret_ii (by rw [HE.out,if_neg (by rw [HR10.out];simp)];rw [HE2.out];simp),hB0.trans (hbz.mono (by omega))⟩
        ·obtain ⟨jj,rfl⟩:∃ jj,j=jj + 1:=⟨j - 1,by omega⟩
         obtain ⟨b',o',q,hA,hb',hq,q0,q1,q2,q3,q4⟩:=od_at hr1 (show jj < b.asks.length by omega)
         cases hA
         have HD3:=Lib.hid (show r2=if aheadB q x=false then 4 else if x.id ∈ ((b.asks.take (jj + 1)).map Od.id).reverse ++ (b.bids.map Od.id).reverse then 6 else sideAt (-1) b.asks (b.bids.map Od.id).reverse (jj + 1 + 1) by
          rw [HD2.out]
          by_cases ha:aheadB q x=false
          ·rw [if_pos ha,if_pos (.inr ⟨q,by rw [if_neg (by omega),Nat.add_sub_cancel];exact hq,ha⟩)]
          ·rw [if_neg ha,if_neg]
           rintro (h | ⟨q',hq',h⟩)
           ·exact h HSD.out
           ·rw [if_neg (by omega),Nat.add_sub_cancel,hq] at hq'
            injection hq' with hq'
            rw [hq'] at ha;exact ha h)
         clear hq
         have h11:Below w1.heap.size w1 w1:=Below.refl _ _
         have x2:g < w1.heap.size:=by omega
         have KS:Hid (∀ W,Below w1.heap.size w1 W→Below w1.heap.size w1 W∧(W.cell? ⟨wi.heap.size,0,none⟩=some (.int .i64 x.id)∧W.cell? ⟨wi.heap.size,1,none⟩=some (.int .i64 x.acc)∧W.cell? ⟨wi.heap.size,2,none⟩=some (.int .i64 x.side)∧W.cell? ⟨wi.heap.size,3,none⟩=some (.int .i64 x.price)∧W.cell? ⟨wi.heap.size,4,none⟩=some (.int .i64 x.qty))∧(W.cell? ⟨g,o + jj * 5,none⟩=some (.int .i64 q.id)∧W.cell? ⟨g,o + jj * 5 + 1,none⟩=some (.int .i64 q.acc)∧W.cell? ⟨g,o + jj * 5 + 2,none⟩=some (.int .i64 q.side)∧W.cell? ⟨g,o + jj * 5 + 3,none⟩=some (.int .i64 q.price)∧W.cell? ⟨g,o + jj * 5 + 4,none⟩=some (.int .i64 q.qty))):=by
          intro W hW
          exact ⟨hW,(Bx.below hW hw1).c5.1,(hW.cell (p:=⟨g,_,none⟩) x2).trans q0,(hW.cell (p:=⟨g,_,none⟩) x2).trans q1,(hW.cell (p:=⟨g,_,none⟩) x2).trans q2,(hW.cell (p:=⟨g,_,none⟩) x2).trans q3,(hW.cell (p:=⟨g,_,none⟩) x2).trans q4⟩
         have i1:IntKind.i64.wrap ((jj:Int) + 1 - 1)=(jj:Int):=by rw [show (jj:Int) + 1 - 1=(jj:Int) by omega];exact IntWalk.i64_in _ (by omega)
         have i2:(0:Int) ≤ (jj:Int):=by omega
         have i3:(jj:Int) < (b.asks.length:Int):=by omega
         have i4:decide ((0:Int) < (jj:Int) + 1)=true:=by simp
         have i5:IntKind.i64.wrap (jj:Int)=(jj:Int):=IntWalk.i64_in _ (by omega)
         have j1:IntKind.i64.wrap 0=0:=IntWalk.i64_in _ (by omega)
         have j2:IntKind.i64.wrap 1=1:=IntWalk.i64_in _ (by omega)
         have j3:IntKind.i64.wrap 2=2:=IntWalk.i64_in _ (by omega)
         have j4:IntKind.i64.wrap (-1) = -1:=IntWalk.i64_in _ (by omega)
         have j5:IntKind.i64.wrap (1 - 2) = -1:=IntWalk.i64_in _ (by omega)
         have j6:IntKind.i64.wrap (1 - 0)=1:=IntWalk.i64_in _ (by omega)
         go_wp2_with fail
         go_region_held3 (fun W=>Below w1.heap.size w1 W∧(W.cell? ⟨wi.heap.size,0,none⟩=some (.int .i64 x.id)∧W.cell? ⟨wi.heap.size,1,none⟩=some (.int .i64 x.acc)∧W.cell? ⟨wi.heap.size,2,none⟩=some (.int .i64 x.side)∧W.cell? ⟨wi.heap.size,3,none⟩=some (.int .i64 x.price)∧W.cell? ⟨wi.heap.size,4,none⟩=some (.int .i64 x.qty))∧(W.cell? ⟨g,o + jj * 5,none⟩=some (.int .i64 q.id)∧W.cell? ⟨g,o + jj * 5 + 1,none⟩=some (.int .i64 q.acc)∧W.cell? ⟨g,o + jj * 5 + 2,none⟩=some (.int .i64 q.side)∧W.cell? ⟨g,o + jj * 5 + 3,none⟩=some (.int .i64 q.price)∧W.cell? ⟨g,o + jj * 5 + 4,none⟩=some (.int .i64 q.qty)))
          (first | (exact KS.out _ (by assumption)) | (exact KS.out _ (below_drew (by assumption))))
          ((first | (go_at_call 87;go_split_ands;(with_reducible refine (rahead_any q x _).mono ?_);rintro e W' ⟨rfl,hb⟩;have hB:=below_next hb (by assumption))))
         go_split_ands
         clear KS b0 b1 b2 b3 b4 q0 q1 q2 q3 q4 i1 i2 i3 i4 i5 j1 j2 j3 j4 j5 j6
         rcases bool_cs (aheadB q x) with ha | ha
         ·have HE2:=Lib.hid (show r2=4 by rw [HD3.out,if_pos ha])
          rw [ha]
          go_wp2_with fail
          go_ret
          exact ⟨ret_ii (by rw [HE.out,if_neg (by rw [HR10.out];simp)];rw [HE2.out];simp),hB0.trans ((hbw.trans (hB.mono (by omega))).mono (by omega))⟩
         ·have HD4:=Lib.hid (HD3.out.trans (if_neg (by rw [ha];simp)))
          rw [ha]
          obtain ⟨⟨b0,b1,b2,b3,b4⟩,_⟩:=(Bx.below hB hw1).c5
          have hwW:wi.heap.size < W'.heap.size:=by have:=hB.size;omega
          have HW2:=Lib.hid (own_below HW1.out hB (Nat.le_refl _))
          have hbz:=hbw.trans (hB.mono (by omega))
          have hsz:=hB.size
          rcases mem_or x.id (((b.asks.take (jj + 1)).map Od.id).reverse ++ (b.bids.map Od.id).reverse) with ⟨hm1,hm2⟩ | ⟨hm1,hm2⟩
          ·have HNM:=Lib.hid (show decide (x.id ∈ b.bids.map Od.id ++ (b.asks.take (jj + 1)).map Od.id)=false from decide_eq_false (by rw [← List.mem_reverse,List.reverse_append];exact hm2))
           have HE2:=Lib.hid (show sideAt (-1) b.asks (b.bids.map Od.id).reverse (jj + 1 + 1)=r2 by rw [HD4.out,if_neg hm2])
           clear hm1 hm2
           go_wp2_with fail
           refine (contains_int x.id Av _ cv (b.bids.map Od.id ++ (b.asks.take (jj + 1)).map Od.id) W'.heap.size W' (Rd.of_own HW2.out) (Nat.le_refl _)).mono ?_
           rw [HNM.out]
           rintro e w6 ⟨rfl,rfl⟩
           go_wp2_with (at_builtin;refine wpList_app rfl _ _ _ rfl W0.heap.size _ _ _ elem_int _ _ _ rfl (own_below HW2.out ((Below.refl W'.heap.size W').alloc (Nat.le_refl _) _) (Nat.le_refl _)) (W'.heap.size + 1) _ 1 1 [.int .i64 x.id] rfl (Rd.new_at W' #[.int .i64 x.id] 3 W'.heap.size 1 rfl rfl (by decide)) (by simp [Value.oneCell']) (by unfold maxLen;omega) (by omega) (by simp;omega) ?_;intro v' w7 hown7 hbel7 _ _)
           have HO7:Hid (w7.ownsRow W0.heap.size 3 1 v' (nn + 1) (ints (b.bids.map Od.id ++ (b.asks.take (jj + 1 + 1)).map Od.id))):=by
            rw [List.take_add_one,HX.out]
            have:=hown7
            simp only [Option.toList,List.map_append,List.map_cons,List.map_nil]
            rw [← List.append_assoc,ints_app'];exact this
           go_roundw
           case rel=>exact ⟨jj + 1 + 1,nn + 1,by omega,Lib.hid (by have:=HNN.out;omega),by go_num,hbz.trans ((((Below.refl W'.heap.size W').alloc (Nat.le_refl _) _).mono (by omega)).trans hbel7),HO7,HE2⟩
           case measure=>simp [intOf];omega
          ·have HNM:=Lib.hid (show decide (x.id ∈ b.bids.map Od.id ++ (b.asks.take (jj + 1)).map Od.id)=true from decide_eq_true (by rw [← List.mem_reverse,List.reverse_append];exact hm2))
           have HE2:=Lib.hid (show r2=6 by rw [HD4.out,if_pos hm2])
           clear hm1 hm2
           go_wp2_with fail
           refine (contains_int x.id Av _ cv (b.bids.map Od.id ++ (b.asks.take (jj + 1)).map Od.id) W'.heap.size W' (Rd.of_own HW2.out) (Nat.le_refl _)).mono ?_
           rw [HNM.out]
           rintro e w6 ⟨rfl,rfl⟩
           go_wp2_with fail
           go_ret
           exact ⟨ret_ii (by rw [HE.out,if_neg (by rw [HR10.out];simp)];rw [HE2.out];simp),hB0.trans (hbz.mono (by omega))⟩
       ·have HE2:=Lib.hid (show r2=4 by rw [HD2.out,if_pos (.inl hside)])
        have hs':(x.side != -1)=true:=by simpa using hside
        clear hside
        go_wp2_with fail
        go_quiet (fail)
        go_wp2_with fail
        go_ret
        exact ⟨ret_ii (by rw [HE.out,if_neg (by rw [HR10.out];simp)];rw [HE2.out];simp),hB0.trans ((hbw.trans ((below_drewN (Below.refl _ _) _).mono (by omega))).mono (by omega))⟩
      ·have HE2:=Lib.hid (show r2=ordErr x by rw [HD.out,if_pos he])
       have HN:=Lib.hid he
       have he':(ordErr x != 0)=true:=by simpa using he
       clear he
       go_wp2_with fail
       go_ret
       exact ⟨ret_ii (by rw [HE.out,if_neg (by rw [HR10.out];simp)];rw [HE2.out,if_pos HN.out]),hB0.trans (hbw.mono (by omega))⟩
     ·have hjn:j=b.asks.length:=by omega
      subst hjn
      have HEZ:=Lib.hid (show r2=0 by rw [← HT.out];exact sideAt_end (Nat.le_refl _))
      have HW2:=Lib.hid (show wi.ownsRow W0.heap.size 3 1 (.slice Av nn cv) (b.bids.length + b.asks.length) (ints (b.bids.map Od.id ++ b.asks.map Od.id)) by have:=HW.out;rw [List.take_length] at this;rw [← HNN.out];exact this)
      go_wp2_with fail
      go_roundw
      case rel=>exact ⟨hbi,.inr (.inr ⟨by go_num,HR10,HEZ⟩)⟩
      case measure=>simp [intOf]
   ·have HE3:=Lib.hid (show bookErr b=if crossedB b then 4 else 0 by rw [HE.out,if_neg (by rw [HR10.out];simp),if_neg (by rw [HR20.out];simp)])
    have hws:=hbr.size
    have ra:=h0.below (hbr.mono hB2)
    have rb:=h1.below (hbr.mono hB2)
    obtain ⟨⟨b0,b1⟩,_⟩:=(K0.below hbr z0).c2
    have l0:=(K0.below hbr z0).lt
    have HBZ:=Lib.hid (hB0.trans (hbr.mono (by omega)))
    by_cases hn:b.bids.length=0
    ·have HE4:=Lib.hid (show bookErr b=0 by rw [HE3.out,crossed_nil (.inl hn)];rfl)
     have d1:decide ((0:Int) < (b.bids.length:Int))=false:=decide_eq_false (by omega)
     have d2:decide (0 < b.bids.length)=false:=decide_eq_false (by omega)
     clear hn
     go_wp2_with fail
     go_quiet (fail)
     go_wp2_with fail
     go_ret
     exact ⟨ret_ii HE4.out.symm,below_drewN HBZ.out _⟩
    ·have d1:decide ((0:Int) < (b.bids.length:Int))=true:=decide_eq_true (by omega)
     have d2:decide (0 < b.bids.length)=true:=decide_eq_true (by omega)
     by_cases hn':b.asks.length=0
     ·have HE4:=Lib.hid (show bookErr b=0 by rw [HE3.out,crossed_nil (.inr hn')];rfl)
      have d3:decide ((0:Int) < (b.asks.length:Int))=false:=decide_eq_false (by omega)
      have d4:decide (0 < b.asks.length)=false:=decide_eq_false (by omega)
      clear hn hn'
      go_wp2_with fail
      go_quiet (fail)
      go_wp2_with fail
      go_ret
      exact ⟨ret_ii HE4.out.symm,below_drewN HBZ.out _⟩
     ·have d3:decide ((0:Int) < (b.asks.length:Int))=true:=decide_eq_true (by omega)
      have d4:decide (0 < b.asks.length)=true:=decide_eq_true (by omega)
      obtain ⟨g1,o1,x,rfl,hg1,hx,_,_,_,k3,_⟩:=od_at ra (i:=0) (by omega)
      obtain ⟨g2,o2,y,rfl,hg2,hy,_,_,_,m3,_⟩:=od_at rb (i:=0) (by omega)
      have HX:=Lib.hid (crossed_at hx hy)
      rw [Nat.zero_mul,Nat.add_zero] at k3 m3
      have e1:0 < b.bids.length:=by omega
      have e2:0 < b.asks.length:=by omega
      have e3:(0:Int) < (b.bids.length:Int):=by omega
      have e4:(0:Int) < (b.asks.length:Int):=by omega
      clear hx hy hn hn'
      by_cases hp:y.price ≤ x.price
      ·have HE4:=Lib.hid (show bookErr b=4 by rw [HE3.out,HX.out];simp [hp])
       go_wp2_with fail
       go_quiet (fail)
       go_wp2_with fail
       go_ret
       exact ⟨ret_ii HE4.out.symm,below_drewN HBZ.out _⟩
      ·have HE4:=Lib.hid (show bookErr b=0 by rw [HE3.out,HX.out];simp [hp])
       have hp':decide (y.price ≤ x.price)=false:=by simpa using hp
       have hp2:x.price < y.price:=by omega
       clear hp
       go_wp2_with fail
       go_quiet (fail)
       go_wp2_with fail
       go_ret
       exact ⟨ret_ii HE4.out.symm,below_drewN HBZ.out _⟩
end
section
open Go.RowKit
set_option maxHeartbeats 1000000 in
theorem rsame_bk (a b:Bk) (A A' C C':Option Addr) (c c' k k' B:Nat) (w:World) (h:BkR w B A A' c c' a) (h':BkR w B C C' k k' b) (hB:B ≤ w.heap.size) :
  Calls Try.prog 88 #[.agg #[.slice A a.bids.length c,.slice A' a.asks.length c'],.agg #[.slice C b.bids.length k,.slice C' b.asks.length k']] w fun e w'=>e=.returned (.bool (sameBk a b))∧Below w.heap.size w w':=by
 have HE:=Lib.hid (show sameBk a b=(sameOds a.bids b.bids && sameOds a.asks b.asks) from rfl)
 go_enter Try.func88,Try.ntmps88
 go_wp2_with fail
 obtain ⟨w2,hw2⟩:∃ x,x=(w.alloc (.cells #[.slice A a.bids.length c,.slice A' a.asks.length c'] 62)).alloc (.cells #[.slice C b.bids.length k,.slice C' b.asks.length k'] 62):=⟨_,rfl⟩
 have hb2:Below w.heap.size w w2:=by rw [hw2];exact ((Below.refl _ _).alloc (Nat.le_refl _) _).alloc (by simp) _
 have hs2:w2.heap.size=w.heap.size + 1 + 1:=by rw [hw2];simp
 have B1:Blk w2 w.heap.size 62 #[.slice A a.bids.length c,.slice A' a.asks.length c']:=by rw [hw2];exact (Blk.new w _ _).alloc _
 have B2:Blk w2 (w.heap.size + 1) 62 #[.slice C b.bids.length k,.slice C' b.asks.length k']:=by
  have:=Blk.new (w.alloc (.cells #[.slice A a.bids.length c,.slice A' a.asks.length c'] 62)) 62 #[.slice C b.bids.length k,.slice C' b.asks.length k']
  rw [World.size_alloc] at this
  rw [hw2];exact this
 rw [← hw2]
 have hr:=h.below (hb2.mono hB)
 have hr':=h'.below (hb2.mono hB)
 clear hw2
 refine (equal_ods A C a.bids.length c b.bids.length k a.bids b.bids B w2 hr.l hr'.l (by omega)).mono ?_
 rintro e w3 ⟨rfl,hb3⟩
 obtain ⟨⟨k0,k1⟩,_⟩:=(B1.below hb3 (by omega)).c2
 obtain ⟨⟨l0,l1⟩,_⟩:=(B2.below hb3 (by omega)).c2
 have hs3:=hb3.size
 rcases bool_cs (sameOds a.bids b.bids) with hp | hp
 ·have HE':=Lib.hid (show sameBk a b=false by rw [HE.out,hp];rfl)
  rw [hp]
  clear hp
  go_wp2_with fail
  go_ret
  exact ⟨ret_bb HE'.out.symm,hb2.trans (hb3.mono (by omega))⟩
 ·have HE':=Lib.hid (show sameBk a b=sameOds a.asks b.asks by rw [HE.out,hp];rfl)
  rw [hp]
  clear hp
  go_wp2_with fail
  refine (equal_ods A' C' a.asks.length c' b.asks.length k' a.asks b.asks B w3 (hr.r.below (hb3.mono (by omega))) (hr'.r.below (hb3.mono (by omega))) (by omega)).mono ?_
  rintro e w4 ⟨rfl,hb4⟩
  go_wp2_with fail
  go_ret
  exact ⟨ret_bb HE'.out.symm,(hb2.trans (hb3.mono (by omega))).trans (hb4.mono (by omega))⟩
end
end Go.Proofs.Ytockodmbhnlheaa
