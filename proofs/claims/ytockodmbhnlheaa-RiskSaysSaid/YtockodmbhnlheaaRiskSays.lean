/-
  THE LAW RiskSays: holds for every input, with no condition. (Joined texts: Row, RowA, RowV, ROrd, IdxI, CtI, RBook, RefFix, Med, ShelfInts, FixSaysW, RMark, RMarks, RefAcc, REquity, RMargins, RBankrupt, Weighed, EvenW, RiskSaysW, RiskSays.)
-/
import Derived.Test.YtockodmbhnlheaaRows
import Derived.WalkKit
import Derived.ProofKit
import Derived.OpenShut
import Derived.SizedLaws
import Derived.Deep.Draws
import Derived.Test.YtockodmbhnlheaaM01
import Derived.Test.YtockodmbhnlheaaM02
import Derived.Test.YtockodmbhnlheaaM03
import Derived.Test.YtockodmbhnlheaaM04
import Derived.Test.YtockodmbhnlheaaM05
import Derived.Test.YtockodmbhnlheaaM06
import Derived.Test.YtockodmbhnlheaaM07
import Derived.Test.YtockodmbhnlheaaM08
import Derived.Test.YtockodmbhnlheaaM09
import Derived.Test.YtockodmbhnlheaaM10
import Derived.Test.YtockodmbhnlheaaM11
import Derived.Test.YtockodmbhnlheaaM12
import Derived.Test.YtockodmbhnlheaaM13
import Derived.Deep.Slices
import Derived.Test.YtockodmbhnlheaaProg
import Derived.Maps.AppendAt
import Derived.Laws.AppendOwnNone
import Derived.OwnWalk
import Derived.Deep.RegionHeld3
import Derived.Lib.AppendZeros
import Derived.Laws.CopyOwn
import Derived.Lib.AppendZerosOnto
import Derived.Lib.Overlaps
import Derived.Laws.Externs
import Derived.Deep.RegionLaw
import Derived.Maps.Own
import Derived.Maps.OwnOps
import Derived.Maps.Views
import Derived.IntWalk
import Derived.Deep.QuietTactic
import Derived.BigQuiet
import Derived.Deep.DeepCutAuto
import Derived.WalkSpells
import Derived.WalkLawsBesides
import Derived.Lib.Hide
import Derived.Shelf.Small.Bits
import Derived.Shelf.Strconv.Itoa0
import Derived.Shelf.Sort.Plain
import Derived.Shelf.Slices.Reverse
import Derived.Ground.Names2Prog
import Derived.Shelf.Slices.Clone
import Derived.Shelf.Slices.SearchI
import Derived.Shelf.Slices.Cells
import Derived.Ground.SlgnProg
import Derived.Shelf.SlicesE.Clone
import Derived.RegionTactic
import Derived.ChangeAlike
import Derived.JoinedOf
import Derived.KernelRfl
namespace Go.Proofs.Ytockodmbhnlheaa
section
open Go.ChangeShapes Go.WideShapes Go.ChangeAt Go.RowKit
section
variable {H:Type} {enc:TypeId × Value→H} {P:Program}
set_option maxRecDepth 100000 in
theorem opens_ints {W:World} {base:Nat} {v:Value} {d:DataW H} {p:List MemPlace} (hv:Value.okWide Try.prog W .any base 24 v) (h:DataW.Trod enc Try.prog W 0 (fun _=>true) true 24 v d p)
  (hs:∀ x ∈ d.weights Try.prog 24,x ≤ reachBytes) :
  ∃ A n c l,v=.slice A n c∧Rd W W.heap.size 1 A n c (ints l)∧c * 8 ≤ reachBytes∧∀ z ∈ l,inI64 z:=by
 obtain ⟨A,n,c,rfl⟩:=okWide_slice Try.underlying24 hv
 obtain ⟨fuel,hf⟩:=h
 have hlt:=fun x hx=>DataW.trod_lt fuel _ _ _ hf x hx
 rcases open_ints Try.underlying24 Try.underlying3 (by kernel_rfl) hf with ⟨hcs,hx⟩ | ⟨x,m,c',zs,hcs,_,hl,hm,hz,hx,hcell,hwz⟩
 ·simp [Value.cells] at hcs
  obtain ⟨rfl,rfl,rfl⟩:=hcs
  exact ⟨none,0,0,[],rfl,Rd.none_ _ _ _,by simp,by simp⟩
 ·simp [Value.cells] at hcs
  obtain ⟨rfl,rfl,rfl⟩:=hcs
  simp only [if_true] at hz
  refine ⟨some x,n,c,zs.take n,rfl,⟨by simp [ints];omega,hl,hm,nofun,fun hn=>?_⟩,?_,fun z hz'=>inI64_of (hwz z (List.mem_of_mem_take hz'))⟩
  ·have h0:=hcell 0 (by omega)
   rw [show x.add 0=x by simp [Addr.add]] at h0
   have hsp:x.spot=none:=by simpa [Addr.add] using spot_of_cell h0
   refine ⟨x.block,x.off,?_,?_,fun j u hj=>?_⟩
   ·obtain ⟨b,o,sp⟩:=x;simp only at hsp;subst hsp;rfl
   ·exact lt_of_cell h0
   ·have hj':j < n:=by have:=(List.getElem?_eq_some_iff.1 hj).1;simp [ints] at this;omega
    have hc:=add_of_cell hsp (hcell j (by omega))
    rw [hc]
    simp [ints,hj'] at hj
    obtain ⟨z,hz',rfl⟩:=hj
    rw [List.getD,hz'];rfl
  ·have h1:=(Prod.mk.injEq ..).mp hx
   rw [h1.1] at hs
   have hb:=hs (((lits .i64 (zs.take n):List (DataW H)).length + (lits .i64 (zs.drop n):List (DataW H)).length) * 8) (by
    simp only [DataW.weights,Try.underlying24]
    rw [show Try.prog.bytesOf 3=8 by kernel_rfl]
    simp)
   simp [lits] at hb
   omega
end
end
section
open Go.ChangeShapes Go.WideShapes Go.ChangeAt Go.RowKit
section
variable {H:Type} {enc:TypeId × Value→H} {W:World}
set_option maxRecDepth 100000 in
theorem opens_account {base:Nat} {v:Value} {d:DataW H} {p:List MemPlace} (hv:Value.okWide Try.prog W .any base 37 v) (h:DataW.Trod enc Try.prog W 0 (fun _=>true) true 37 v d p)
  (hs:∀ x ∈ d.weights Try.prog 37,x ≤ reachBytes) :
  ∃ (a:Ac) (A:Option Addr) (c:Nat),v=.agg #[.int .i64 a.id,.int .i64 a.bal,.slice A a.pos.length c]∧Rd W W.heap.size 1 A a.pos.length c (ints a.pos)∧c * 8 ≤ reachBytes∧FitAc a:=by
 obtain ⟨cs,rfl,_⟩:=okWide_struct Try.underlying37 hv
 obtain ⟨fuel,hf⟩:=h
 obtain ⟨a,A,c,hcs,hr,hc,hi⟩:=core_acc hf hs
 refine ⟨a,A,c,?_,hr,hc,hi⟩
 obtain ⟨l⟩:=cs
 simp only [Value.cells] at hcs
 rw [← hcs]
end
end
section
open Go.ChangeShapes Go.WideShapes Go.ChangeAt Go.RowKit
section
variable {H:Type} {enc:TypeId × Value→H} {W:World}
set_option maxRecDepth 100000 in
theorem opens_markets {base:Nat} {v:Value} {d:DataW H} {p:List MemPlace} (hv:Value.okWide Try.prog W .any base 104 v) (h:DataW.Trod enc Try.prog W 0 (fun _=>true) true 104 v d p)
  (hs:∀ x ∈ d.weights Try.prog 104,x ≤ reachBytes) :
  ∃ A n c L,v=.slice A n c∧RdL shMk W W.heap.size A n c L∧c * 64 ≤ reachBytes∧∀ a ∈ L,FitMk a:=by
 obtain ⟨A,n,c,rfl⟩:=okWide_slice Try.underlying104 hv
 obtain ⟨fuel,hf⟩:=h
 obtain ⟨A',n',c',L,hcs,hr⟩:=core_mks hf hs
 simp [Value.cells] at hcs
 obtain ⟨rfl,rfl,rfl⟩:=hcs
 exact ⟨_,_,_,L,rfl,hr⟩
end
end
section
open Go.RowKit
set_option maxHeartbeats 1000000 in
theorem rordErr_any (o:Od) (w:World) :
  Calls Try.prog 86 #[.agg #[.int .i64 o.id,.int .i64 o.acc,.int .i64 o.side,.int .i64 o.price,.int .i64 o.qty]] w fun e w'=>e=.returned (.int .i64 (ordErr o))∧Below w.heap.size w w':=by
 by_cases h5:o.id < 1∨100000 < o.id∨o.acc < 0∨8 ≤ o.acc
 ·have HE:=Lib.hid (show ordErr o=5 by unfold ordErr;rw [if_pos h5])
  have h0:o.id < 1∨1 ≤ o.id∧100000 < o.id∨1 ≤ o.id∧o.id ≤ 100000∧o.acc < 0∨1 ≤ o.id∧o.id ≤ 100000∧0 ≤ o.acc∧8 ≤ o.acc:=by omega
  clear h5
  rcases h0 with h1 | ⟨h1,h2⟩ | ⟨h1,h2,h3⟩ | ⟨h1,h2,h3,h4⟩
  all_goals
   go_enter Try.func86,Try.ntmps86
   go_wp2_with fail
   go_ret
   exact ⟨ret_ii HE.out.symm,(Below.refl _ _).alloc (Nat.le_refl _) _⟩
 ·obtain ⟨⟨h1,h2⟩,h3,h4⟩:(1 ≤ o.id∧o.id ≤ 100000)∧0 ≤ o.acc∧o.acc < 8:=by omega
  by_cases h6:o.side ≠ 1∧o.side ≠ -1
  ·have HE:=Lib.hid (show ordErr o=4 by unfold ordErr;rw [if_neg h5,if_pos h6])
   obtain ⟨h7,h8⟩:=h6
   have h7':(o.side != 1)=true:=by simpa using h7
   have h8':(o.side != -1)=true:=by simpa using h8
   clear h5 h7 h8
   go_enter Try.func86,Try.ntmps86
   go_wp2_with fail
   go_ret
   exact ⟨ret_ii HE.out.symm,(Below.refl _ _).alloc (Nat.le_refl _) _⟩
  ·have hs:((o.side != 1)=false)∨((o.side != 1)=true∧(o.side != -1)=false):=by
    by_cases a1:o.side=1
    ·exact .inl (by simpa using a1)
    ·exact .inr ⟨by simpa using a1,by simp;omega⟩
   by_cases h9:o.price < 1∨10000 < o.price∨o.qty < 1∨1000 < o.qty
   ·have HE:=Lib.hid (show ordErr o=3 by unfold ordErr;rw [if_neg h5,if_neg h6,if_pos h9])
    have h0:o.price < 1∨1 ≤ o.price∧10000 < o.price∨1 ≤ o.price∧o.price ≤ 10000∧o.qty < 1∨1 ≤ o.price∧o.price ≤ 10000∧1 ≤ o.qty∧1000 < o.qty:=by omega
    clear h5 h6 h9
    rcases hs with hs | ⟨hs,hs'⟩
    all_goals
     rcases h0 with g1 | ⟨g1,g2⟩ | ⟨g1,g2,g3⟩ | ⟨g1,g2,g3,g4⟩
     all_goals
      go_enter Try.func86,Try.ntmps86
      go_wp2_with fail
      go_ret
      exact ⟨ret_ii HE.out.symm,(Below.refl _ _).alloc (Nat.le_refl _) _⟩
   ·have HE:=Lib.hid (show ordErr o=0 by unfold ordErr;rw [if_neg h5,if_neg h6,if_neg h9])
    obtain ⟨g1,g2,g3,g4⟩:1 ≤ o.price∧o.price ≤ 10000∧1 ≤ o.qty∧o.qty ≤ 1000:=by omega
    clear h5 h6 h9
    rcases hs with hs | ⟨hs,hs'⟩
    all_goals
     go_enter Try.func86,Try.ntmps86
     go_wp2_with fail
     go_ret
     exact ⟨ret_ii HE.out.symm,(Below.refl _ _).alloc (Nat.le_refl _) _⟩
set_option maxHeartbeats 1000000 in
theorem rahead_any (a b:Od) (w:World) :
  Calls Try.prog 87 #[.agg #[.int .i64 a.id,.int .i64 a.acc,.int .i64 a.side,.int .i64 a.price,.int .i64 a.qty],.agg #[.int .i64 b.id,.int .i64 b.acc,.int .i64 b.side,.int .i64 b.price,.int .i64 b.qty]] w fun e w'=>e=.returned (.bool (aheadB a b))∧Below w.heap.size w w':=by
 by_cases h:a.price=b.price
 ·have HE:=Lib.hid (show aheadB a b=decide (a.id < b.id) by unfold aheadB;rw [if_pos h])
  have h':(a.price == b.price)=true:=by simpa using h
  clear h
  go_enter Try.func87,Try.ntmps87
  go_wp2_with fail
  go_ret
  exact ⟨ret_bb HE.out.symm,((Below.refl _ _).alloc (Nat.le_refl _) _).alloc (by simp) _⟩
 ·have h':(a.price == b.price)=false:=by simpa using h
  by_cases hs:a.side=1
  ·have HE:=Lib.hid (show aheadB a b=decide (b.price < a.price) by unfold aheadB;rw [if_neg h,if_pos hs])
   have hs':(a.side == 1)=true:=by simpa using hs
   clear h hs
   go_enter Try.func87,Try.ntmps87
   go_wp2_with fail
   go_ret
   exact ⟨ret_bb HE.out.symm,((Below.refl _ _).alloc (Nat.le_refl _) _).alloc (by simp) _⟩
  ·have HE:=Lib.hid (show aheadB a b=decide (a.price < b.price) by unfold aheadB;rw [if_neg h,if_neg hs])
   have hs':(a.side == 1)=false:=by simpa using hs
   clear h hs
   go_enter Try.func87,Try.ntmps87
   go_wp2_with fail
   go_ret
   exact ⟨ret_bb HE.out.symm,((Below.refl _ _).alloc (Nat.le_refl _) _).alloc (by simp) _⟩
end
section
open Go.RowKit
theorem any_next {p:Int→Bool} {L:List Int} {j:Nat} {x:Int} (hx:L[j]?=some x) (hp:p x=false) (hb:(L.take j).any p=false):(L.take (j + 1)).any p=false:=by
 rw [List.take_add_one,hx]
 simp only [Option.toList,List.any_append,hb,List.any_cons,List.any_nil,hp];rfl
theorem any_found {p:Int→Bool} {L:List Int} {j:Nat} {x:Int} (hx:L[j]?=some x) (hp:p x=true):L.any p=true:=by
 rw [List.any_eq_true];exact ⟨x,List.mem_of_getElem? hx,hp⟩
theorem bool_csI (b:Bool):b=true∨b=false:=by cases b <;> simp
end
section
open Go.RowKit
set_option maxHeartbeats 1000000 in
theorem index_int (v:Int) (A:Option Addr) (n c:Nat) (L:List Int) (B:Nat) (w:World) (h:Rd w B 1 A n c (ints L)) (_hB:B ≤ w.heap.size) :
  Calls Try.prog 167 #[.slice A n c,.int .i64 v] w fun e w'=>(∃ j:Int,e=.returned (.int .i64 j)∧decide (0 ≤ j)=L.any (fun x=>v == x))∧w=w':=by
 have hle:=h.le
 have hcap:=h.cap
 have HL:=Lib.hid h.ofInts
 unfold maxLen at hcap
 go_enter Try.func167,Try.ntmps167
 go_wp2_with fail
 go_loopw [8] (fun i wr=>∃ j:Nat,j ≤ n∧i=.int .i64 j∧w=wr∧Hid ((L.take j).any (fun x=>v == x)=false)) (fun i _=>n - (intOf i).toNat)
 case atStart=>exact ⟨0,Nat.zero_le _,rfl,rfl,rfl⟩
 case round =>
  obtain ⟨j,hj,rfl,rfl,HP⟩:=hrel
  by_cases hlt:j < n
  ·obtain ⟨b,o',rfl,hb,x,hx,k0⟩:=h.int hlt
   have HX:=Lib.hid hx
   clear hx
   rcases bool_csI (v == x) with hp | hp
   ·have HE:=Lib.hid (any_found (p:=fun x=>v == x) HX.out hp)
    go_wp2_with fail
    go_ret
    exact ⟨⟨_,rfl,by rw [HE.out];simp⟩,rfl⟩
   ·have HN:=Lib.hid (any_next (p:=fun x=>v == x) HX.out hp HP.out)
    go_wp2_with fail
    go_roundw
    case rel=>exact ⟨j + 1,by omega,by go_num,trivial,HN⟩
    case measure=>simp [intOf];omega
  ·have hjn:j=n:=by omega
   have HE:=Lib.hid (show L.any (fun x=>v == x)=false by have:=HP.out;rw [hjn,List.take_of_length_le (by rw [HL.out];exact Nat.le_refl _)] at this;exact this)
   clear hjn
   go_wp2_with fail
   go_ret
   exact ⟨⟨_,rfl,by rw [HE.out];rfl⟩,rfl⟩
set_option maxHeartbeats 400000 in
theorem contains_int (v:Int) (A:Option Addr) (n c:Nat) (L:List Int) (B:Nat) (w:World) (h:Rd w B 1 A n c (ints L)) (hB:B ≤ w.heap.size) :
  Calls Try.prog 147 #[.slice A n c,.int .i64 v] w fun e w'=>e=.returned (.bool (decide (v ∈ L)))∧w=w':=by
 have HD:=Lib.hid (show L.any (fun x=>v == x)=decide (v ∈ L) by
  rw [Bool.eq_iff_iff,List.any_eq_true,decide_eq_true_iff]
  constructor
  ·rintro ⟨x,hx,e⟩;rw [show v=x by simpa using e];exact hx
  ·intro hv;exact ⟨v,hv,beq_self_eq_true v⟩)
 go_enter Try.func147,Try.ntmps147
 go_wp2_with fail
 refine (index_int v A n c L B _ h hB).mono ?_
 rintro e w1 ⟨⟨j,rfl,hj⟩,rfl⟩
 have HJ:=Lib.hid hj
 go_wp2_with fail
 go_ret
 exact ⟨ret_bb HD.out,rfl⟩
end
section
open Go.RowKit
theorem ints_app' (a b:List Int):ints (a ++ b)=ints a ++ ints b:=by unfold ints;simp
set_option maxHeartbeats 8000000 in
set_option maxRecDepth 100000 in
theorem rbook_any (b:Bk) (A A':Option Addr) (c c':Nat) (B:Nat) (w:World) (h:Rd w B 5 A b.bids.length c (odCells b.bids)) (h':Rd w B 5 A' b.asks.length c' (odCells b.asks)) (hB:B ≤ w.heap.size) (hl:b.bids.length ≤ 4000000000000) (hl':b.asks.length ≤ 4000000000000) :
  Calls Try.prog 84 #[.agg #[.slice A b.bids.length c,.slice A' b.asks.length c']] w fun e w'=>e=.returned (.int .i64 (bookErr b))∧Below w.heap.size w w':=by
 by_cases h40:40 < b.bids.length + b.asks.length
 ·have HE:=Lib.hid (show bookErr b=2 by unfold bookErr;rw [if_pos h40])
  have h41:(40:Int) < (b.bids.length:Int) + (b.asks.length:Int):=by omega
  clear h40
  go_enter Try.func84,Try.ntmps84
  go_wp2_with fail
  go_ret
  exact ⟨ret_ii HE.out.symm,(Below.refl _ _).alloc (Nat.le_refl _) _⟩
 ·have HE:=Lib.hid (show bookErr b=if sideErr 1 none [] b.bids ≠ 0 then sideErr 1 none [] b.bids
   else if sideErr (-1) none (b.bids.map Od.id).reverse b.asks ≠ 0 then sideErr (-1) none (b.bids.map Od.id).reverse b.asks else if crossedB b then 4 else 0 by
   unfold bookErr;rw [if_neg h40])
  have h41:(b.bids.length:Int) + (b.asks.length:Int) ≤ 40:=by omega
  have h42:b.bids.length + b.asks.length ≤ 40:=by omega
  obtain ⟨r1,hr1⟩:∃ r,sideErr 1 none [] b.bids=r:=⟨_,rfl⟩
  obtain ⟨r2,hr2⟩:∃ r,sideErr (-1) none (b.bids.map Od.id).reverse b.asks=r:=⟨_,rfl⟩
  rw [hr1,hr2] at HE
  have HR1:=Lib.hid hr1
  have HR2:=Lib.hid hr2
  clear h40 hr1 hr2
  go_enter Try.func84,Try.ntmps84
  go_wp2_with fail
  obtain ⟨W0,hW0⟩:∃ W,W=(w.alloc (.cells #[.slice A b.bids.length c,.slice A' b.asks.length c'] 62)).alloc (.cells #[.slice A b.bids.length c,.slice A' b.asks.length c'] 60):=⟨_,rfl⟩
  have hB0:Below w.heap.size w W0:=by rw [hW0];exact ((Below.refl _ _).alloc (Nat.le_refl _) _).alloc (by simp) _
  have K0:Blk W0 w.heap.size 62 #[.slice A b.bids.length c,.slice A' b.asks.length c']:=by rw [hW0];exact (Blk.new w _ _).alloc _
  have Z0:Blk W0 (w.heap.size + 1) 60 #[.slice A b.bids.length c,.slice A' b.asks.length c']:=by rw [hW0];exact Blk.new_at _ _ _ _ (by simp)
  rw [← hW0]
  clear hW0
  have hs0:=hB0.size
  have hB2:B ≤ W0.heap.size:=by omega
  have h0:=h.below (hB0.mono hB)
  have h1:=h'.below (hB0.mono hB)
  have z1:=Z0.lt
  have z0:=K0.lt
  go_loopw [23,3] (fun i v wr=>Below W0.heap.size W0 wr∧(i=.int .i64 0∧Hid (wr.ownsRow W0.heap.size 3 1 v 0 (ints []))∨i=.int .i64 1∧Hid (wr.ownsRow W0.heap.size 3 1 v b.bids.length (ints (b.bids.map Od.id)))∧Hid (r1=0)∨i=.int .i64 2∧Hid (r1=0)∧Hid (r2=0))) (fun i _ _=>2 - (intOf i).toNat)
  case atStart=>exact ⟨Below.refl _ _,.inl ⟨rfl,World.ownsRow_nil _ _ _ _⟩⟩
  case round =>
   obtain ⟨hbr,⟨rfl,HV⟩ | ⟨rfl,HV,HR10⟩ | ⟨rfl,HR10,HR20⟩⟩:=hrel
   ·have c0:=(Z0.below hbr z1).c2.1.1
    have l0:=(Z0.below hbr z1).lt
    go_wp2_with fail
    go_loopw [30,3] (fun i v wi=>∃ (j nn:Nat),j ≤ b.bids.length∧Hid (nn=0 + j)∧i=.int .i64 j∧Below W0.heap.size W0 wi∧Hid (wi.ownsRow W0.heap.size 3 1 v nn (ints (([]:List Int) ++ (b.bids.take j).map Od.id)))∧Hid (sideAt (1) b.bids (([]:List Int)).reverse j=r1)) (fun i _ _=>b.bids.length - (intOf i).toNat)
    case atStart=>exact ⟨0,0,Nat.zero_le _,rfl,rfl,hbr,Lib.hid (by simpa using HV.out),Lib.hid ((sideAt_zero _ _ _).trans HR1.out)⟩
    case round =>
     obtain ⟨j,nn,hj,HNN,rfl,hbi,HW,HT⟩:=hrel
     have hn9:nn ≤ 80:=by have:=HNN.out;omega
     obtain ⟨wi,rfl⟩:∃ wi,wi=wr:=⟨wr,rfl⟩
     have hsi:=hbi.size
     obtain ⟨Av,cv,rfl⟩:=own_shape HW.out
     by_cases hlt:j < b.bids.length
     ·obtain ⟨g,o,x,rfl,hg,hx,k0,k1,k2,k3,k4⟩:=od_at (h0.below (hbi.mono hB2)) hlt
      have HX:=Lib.hid hx
      have HD:=Lib.hid (HT.out.symm.trans (sideAt_step hx))
      have x1:g < wi.heap.size:=by omega
      clear hx
      go_wp2_with fail
      refine (rordErr_any x _).mono ?_
      rintro e w1 ⟨rfl,hb1⟩
      have hb2:Below wi.heap.size wi w1:=((Below.refl _ _).alloc (Nat.le_refl _) _).trans (hb1.mono (by simp))
      have Bx:=(Blk.new wi 71 #[.int .i64 x.id,.int .i64 x.acc,.int .i64 x.side,.int .i64 x.price,.int .i64 x.qty]).below hb1 (by simp)
      have hw1:wi.heap.size < w1.heap.size:=by have:=hb1.size;simp at this;omega
      have hw2:=hb2.size
      have HW1:=Lib.hid (own_below HW.out hb2 (Nat.le_refl _))
      have hbw:=hbi.trans (hb2.mono hsi)
      have hr1:=h0.below (hbw.mono hB2)
      clear k0 k1 k2 k3 k4 hb1
      by_cases he:ordErr x=0
      ·have HD2:=Lib.hid (HD.out.trans (if_neg (by omega)))
       obtain ⟨⟨hi1,hi2⟩,_⟩:=ordErr_ok.1 he
       have HZ:=Lib.hid he
       have he':(ordErr x != 0)=false:=by simpa using he
       clear he HD
       obtain ⟨⟨b0,b1,b2,b3,b4⟩,_⟩:=Bx.c5
       by_cases hside:x.side=1
       ·have hs':(x.side != 1)=false:=by simpa using hside
        have HSD:=Lib.hid hside
        clear hside
        by_cases hj0:j=0
        ·subst hj0
         have HD4:=Lib.hid (show r1=if x.id ∈ ((b.bids.take 0).map Od.id).reverse ++ (([]:List Int)).reverse then 6 else sideAt (1) b.bids (([]:List Int)).reverse (0 + 1) by
          rw [HD2.out,if_neg]
          rintro (h | ⟨q,hq,_⟩)
          ·exact h HSD.out
          ·simp at hq)
         go_wp2_with fail
         go_quiet (fail)
         obtain ⟨W',hW⟩:∃ W',W'=w1.drewN nq:=⟨_,rfl⟩
         rw [← hW]
         have hB:Below w1.heap.size w1 W':=by rw [hW];exact below_drewN (Below.refl _ _) _
         clear hW b0 b1 b2 b3 b4
         obtain ⟨⟨b0,b1,b2,b3,b4⟩,_⟩:=(Bx.below hB hw1).c5
         have hwW:wi.heap.size < W'.heap.size:=by have:=hB.size;omega
         have HW2:=Lib.hid (own_below HW1.out hB (Nat.le_refl _))
         have hbz:=hbw.trans (hB.mono (by omega))
         have hsz:=hB.size
         rcases mem_or x.id (((b.bids.take (0)).map Od.id).reverse ++ (([]:List Int)).reverse) with ⟨hm1,hm2⟩ | ⟨hm1,hm2⟩
         ·have HNM:=Lib.hid (show decide (x.id ∈ ([]:List Int) ++ (b.bids.take (0)).map Od.id)=false from decide_eq_false (by rw [← List.mem_reverse,List.reverse_append];exact hm2))
          have HE2:=Lib.hid (show sideAt (1) b.bids (([]:List Int)).reverse (0 + 1)=r1 by rw [HD4.out,if_neg hm2])
          clear hm1 hm2
          go_wp2_with fail
          refine (contains_int x.id Av _ cv (([]:List Int) ++ (b.bids.take (0)).map Od.id) W'.heap.size W' (Rd.of_own HW2.out) (Nat.le_refl _)).mono ?_
          rw [HNM.out]
          rintro e w6 ⟨rfl,rfl⟩
          go_wp2_with (at_builtin;refine wpList_app rfl _ _ _ rfl W0.heap.size _ _ _ elem_int _ _ _ rfl (own_below HW2.out ((Below.refl W'.heap.size W').alloc (Nat.le_refl _) _) (Nat.le_refl _)) (W'.heap.size + 1) _ 1 1 [.int .i64 x.id] rfl (Rd.new_at W' #[.int .i64 x.id] 3 W'.heap.size 1 rfl rfl (by decide)) (by simp [Value.oneCell']) (by unfold maxLen;omega) (by omega) (by simp;omega) ?_;intro v' w7 hown7 hbel7 _ _)
          have HO7:Hid (w7.ownsRow W0.heap.size 3 1 v' (nn + 1) (ints (([]:List Int) ++ (b.bids.take (0 + 1)).map Od.id))):=by
           rw [List.take_add_one,HX.out]
           have:=hown7
           simp only [Option.toList,List.map_append,List.map_cons,List.map_nil]
           rw [← List.append_assoc,ints_app'];exact this
          go_roundw
          case rel=>exact ⟨0 + 1,nn + 1,by omega,Lib.hid (by have:=HNN.out;omega),by go_num,hbz.trans ((((Below.refl W'.heap.size W').alloc (Nat.le_refl _) _).mono (by omega)).trans hbel7),HO7,HE2⟩
          case measure=>simp [intOf];omega
         ·have HNM:=Lib.hid (show decide (x.id ∈ ([]:List Int) ++ (b.bids.take (0)).map Od.id)=true from decide_eq_true (by rw [← List.mem_reverse,List.reverse_append];exact hm2))
          have HE2:=Lib.hid (show r1=6 by rw [HD4.out,if_pos hm2])
          clear hm1 hm2
          go_wp2_with fail
          refine (contains_int x.id Av _ cv (([]:List Int) ++ (b.bids.take (0)).map Od.id) W'.heap.size W' (Rd.of_own HW2.out) (Nat.le_refl _)).mono ?_
          rw [HNM.out]
          rintro e w6 ⟨rfl,rfl⟩
          go_wp2_with fail
          go_ret
          exact ⟨ret_ii (by rw [HE.out];rw [HE2.out];simp),hB0.trans (hbz.mono (by omega))⟩
        ·obtain ⟨jj,rfl⟩:∃ jj,j=jj + 1:=⟨j - 1,by omega⟩
         obtain ⟨b',o',q,hA,hb',hq,q0,q1,q2,q3,q4⟩:=od_at hr1 (show jj < b.bids.length by omega)
         cases hA
         have HD3:=Lib.hid (show r1=if aheadB q x=false then 4 else if x.id ∈ ((b.bids.take (jj + 1)).map Od.id).reverse ++ (([]:List Int)).reverse then 6 else sideAt (1) b.bids (([]:List Int)).reverse (jj + 1 + 1) by
          rw [HD2.out]
          by_cases ha:aheadB q x=false
          ·rw [if_pos ha,if_pos (.inr ⟨q,by rw [if_neg (by omega),Nat.add_sub_cancel];exact hq,ha⟩)]
          ·rw [if_neg ha,if_neg]
           rintro (h | ⟨q',hq',h⟩)
           ·exact h HSD.out
           ·rw [if_neg (by omega),Nat.add_sub_cancel,hq] at hq'
            injection hq' with hq'
            rw [hq'] at ha;exact ha h)
         clear hq
         have h11:Below w1.heap.size w1 w1:=Below.refl _ _
         have x2:g < w1.heap.size:=by omega
         have KS:Hid (∀ W,Below w1.heap.size w1 W→Below w1.heap.size w1 W∧(W.cell? ⟨wi.heap.size,0,none⟩=some (.int .i64 x.id)∧W.cell? ⟨wi.heap.size,1,none⟩=some (.int .i64 x.acc)∧W.cell? ⟨wi.heap.size,2,none⟩=some (.int .i64 x.side)∧W.cell? ⟨wi.heap.size,3,none⟩=some (.int .i64 x.price)∧W.cell? ⟨wi.heap.size,4,none⟩=some (.int .i64 x.qty))∧(W.cell? ⟨g,o + jj * 5,none⟩=some (.int .i64 q.id)∧W.cell? ⟨g,o + jj * 5 + 1,none⟩=some (.int .i64 q.acc)∧W.cell? ⟨g,o + jj * 5 + 2,none⟩=some (.int .i64 q.side)∧W.cell? ⟨g,o + jj * 5 + 3,none⟩=some (.int .i64 q.price)∧W.cell? ⟨g,o + jj * 5 + 4,none⟩=some (.int .i64 q.qty))):=by
          intro W hW
          exact ⟨hW,(Bx.below hW hw1).c5.1,(hW.cell (p:=⟨g,_,none⟩) x2).trans q0,(hW.cell (p:=⟨g,_,none⟩) x2).trans q1,(hW.cell (p:=⟨g,_,none⟩) x2).trans q2,(hW.cell (p:=⟨g,_,none⟩) x2).trans q3,(hW.cell (p:=⟨g,_,none⟩) x2).trans q4⟩
         have i1:IntKind.i64.wrap ((jj:Int) + 1 - 1)=(jj:Int):=by rw [show (jj:Int) + 1 - 1=(jj:Int) by omega];exact IntWalk.i64_in _ (by omega)
         have i2:(0:Int) ≤ (jj:Int):=by omega
         have i3:(jj:Int) < (b.bids.length:Int):=by omega
         have i4:decide ((0:Int) < (jj:Int) + 1)=true:=by simp
         have i5:IntKind.i64.wrap (jj:Int)=(jj:Int):=IntWalk.i64_in _ (by omega)
         have j1:IntKind.i64.wrap 0=0:=IntWalk.i64_in _ (by omega)
         have j2:IntKind.i64.wrap 1=1:=IntWalk.i64_in _ (by omega)
         have j3:IntKind.i64.wrap 2=2:=IntWalk.i64_in _ (by omega)
         have j4:IntKind.i64.wrap (-1) = -1:=IntWalk.i64_in _ (by omega)
         have j5:IntKind.i64.wrap (1 - 2) = -1:=IntWalk.i64_in _ (by omega)
         have j6:IntKind.i64.wrap (1 - 0)=1:=IntWalk.i64_in _ (by omega)
         go_wp2_with fail
         go_region_held3 (fun W=>Below w1.heap.size w1 W∧(W.cell? ⟨wi.heap.size,0,none⟩=some (.int .i64 x.id)∧W.cell? ⟨wi.heap.size,1,none⟩=some (.int .i64 x.acc)∧W.cell? ⟨wi.heap.size,2,none⟩=some (.int .i64 x.side)∧W.cell? ⟨wi.heap.size,3,none⟩=some (.int .i64 x.price)∧W.cell? ⟨wi.heap.size,4,none⟩=some (.int .i64 x.qty))∧(W.cell? ⟨g,o + jj * 5,none⟩=some (.int .i64 q.id)∧W.cell? ⟨g,o + jj * 5 + 1,none⟩=some (.int .i64 q.acc)∧W.cell? ⟨g,o + jj * 5 + 2,none⟩=some (.int .i64 q.side)∧W.cell? ⟨g,o + jj * 5 + 3,none⟩=some (.int .i64 q.price)∧W.cell? ⟨g,o + jj * 5 + 4,none⟩=some (.int .i64 q.qty)))
          (first | (exact KS.out _ (by assumption)) | (exact KS.out _ (below_drew (by assumption))))
          ((first | (go_at_call 87;go_split_ands;(with_reducible refine (rahead_any q x _).mono ?_);rintro e W' ⟨rfl,hb⟩;have hB:=below_next hb (by assumption))))
         go_split_ands
         clear KS b0 b1 b2 b3 b4 q0 q1 q2 q3 q4 i1 i2 i3 i4 i5 j1 j2 j3 j4 j5 j6
         rcases bool_cs (aheadB q x) with ha | ha
         ·have HE2:=Lib.hid (show r1=4 by rw [HD3.out,if_pos ha])
          rw [ha]
          go_wp2_with fail
          go_ret
          exact ⟨ret_ii (by rw [HE.out];rw [HE2.out];simp),hB0.trans ((hbw.trans (hB.mono (by omega))).mono (by omega))⟩
         ·have HD4:=Lib.hid (HD3.out.trans (if_neg (by rw [ha];simp)))
          rw [ha]
          obtain ⟨⟨b0,b1,b2,b3,b4⟩,_⟩:=(Bx.below hB hw1).c5
          have hwW:wi.heap.size < W'.heap.size:=by have:=hB.size;omega
          have HW2:=Lib.hid (own_below HW1.out hB (Nat.le_refl _))
          have hbz:=hbw.trans (hB.mono (by omega))
          have hsz:=hB.size
          rcases mem_or x.id (((b.bids.take (jj + 1)).map Od.id).reverse ++ (([]:List Int)).reverse) with ⟨hm1,hm2⟩ | ⟨hm1,hm2⟩
          ·have HNM:=Lib.hid (show decide (x.id ∈ ([]:List Int) ++ (b.bids.take (jj + 1)).map Od.id)=false from decide_eq_false (by rw [← List.mem_reverse,List.reverse_append];exact hm2))
           have HE2:=Lib.hid (show sideAt (1) b.bids (([]:List Int)).reverse (jj + 1 + 1)=r1 by rw [HD4.out,if_neg hm2])
           clear hm1 hm2
           go_wp2_with fail
           refine (contains_int x.id Av _ cv (([]:List Int) ++ (b.bids.take (jj + 1)).map Od.id) W'.heap.size W' (Rd.of_own HW2.out) (Nat.le_refl _)).mono ?_
           rw [HNM.out]
           rintro e w6 ⟨rfl,rfl⟩
           go_wp2_with (at_builtin;refine wpList_app rfl _ _ _ rfl W0.heap.size _ _ _ elem_int _ _ _ rfl (own_below HW2.out ((Below.refl W'.heap.size W').alloc (Nat.le_refl _) _) (Nat.le_refl _)) (W'.heap.size + 1) _ 1 1 [.int .i64 x.id] rfl (Rd.new_at W' #[.int .i64 x.id] 3 W'.heap.size 1 rfl rfl (by decide)) (by simp [Value.oneCell']) (by unfold maxLen;omega) (by omega) (by simp;omega) ?_;intro v' w7 hown7 hbel7 _ _)
           have HO7:Hid (w7.ownsRow W0.heap.size 3 1 v' (nn + 1) (ints (([]:List Int) ++ (b.bids.take (jj + 1 + 1)).map Od.id))):=by
            rw [List.take_add_one,HX.out]
            have:=hown7
            simp only [Option.toList,List.map_append,List.map_cons,List.map_nil]
            rw [← List.append_assoc,ints_app'];exact this
           go_roundw
           case rel=>exact ⟨jj + 1 + 1,nn + 1,by omega,Lib.hid (by have:=HNN.out;omega),by go_num,hbz.trans ((((Below.refl W'.heap.size W').alloc (Nat.le_refl _) _).mono (by omega)).trans hbel7),HO7,HE2⟩
           case measure=>simp [intOf];omega
          ·have HNM:=Lib.hid (show decide (x.id ∈ ([]:List Int) ++ (b.bids.take (jj + 1)).map Od.id)=true from decide_eq_true (by rw [← List.mem_reverse,List.reverse_append];exact hm2))
           have HE2:=Lib.hid (show r1=6 by rw [HD4.out,if_pos hm2])
           clear hm1 hm2
           go_wp2_with fail
           refine (contains_int x.id Av _ cv (([]:List Int) ++ (b.bids.take (jj + 1)).map Od.id) W'.heap.size W' (Rd.of_own HW2.out) (Nat.le_refl _)).mono ?_
           rw [HNM.out]
           rintro e w6 ⟨rfl,rfl⟩
           go_wp2_with fail
           go_ret
           exact ⟨ret_ii (by rw [HE.out];rw [HE2.out];simp),hB0.trans (hbz.mono (by omega))⟩
       ·have HE2:=Lib.hid (show r1=4 by rw [HD2.out,if_pos (.inl hside)])
        have hs':(x.side != 1)=true:=by simpa using hside
        clear hside
        go_wp2_with fail
        go_quiet (fail)
        go_wp2_with fail
        go_ret
        exact ⟨ret_ii (by rw [HE.out];rw [HE2.out];simp),hB0.trans ((hbw.trans ((below_drewN (Below.refl _ _) _).mono (by omega))).mono (by omega))⟩
      ·have HE2:=Lib.hid (show r1=ordErr x by rw [HD.out,if_pos he])
       have HN:=Lib.hid he
       have he':(ordErr x != 0)=true:=by simpa using he
       clear he
       go_wp2_with fail
       go_ret
       exact ⟨ret_ii (by rw [HE.out];rw [HE2.out,if_pos HN.out]),hB0.trans (hbw.mono (by omega))⟩
     ·have hjn:j=b.bids.length:=by omega
      subst hjn
      have HEZ:=Lib.hid (show r1=0 by rw [← HT.out];exact sideAt_end (Nat.le_refl _))
      have HW2:=Lib.hid (show wi.ownsRow W0.heap.size 3 1 (.slice Av nn cv) (0 + b.bids.length) (ints (([]:List Int) ++ b.bids.map Od.id)) by have:=HW.out;rw [List.take_length] at this;rw [← HNN.out];exact this)
      go_wp2_with fail
      go_roundw
      case rel=>exact ⟨hbi,.inr (.inl ⟨by go_num,Lib.hid (by simpa using HW2.out),HEZ⟩)⟩
      case measure=>simp [intOf]
   ·have c0:=(Z0.below hbr z1).c2.1.2
    have l0:=(Z0.below hbr z1).lt
    go_wp2_with fail
    go_loopw [30,3] (fun i v wi=>∃ (j nn:Nat),j ≤ b.asks.length∧Hid (nn=b.bids.length + j)∧i=.int .i64 j∧Below W0.heap.size W0 wi∧Hid (wi.ownsRow W0.heap.size 3 1 v nn (ints (b.bids.map Od.id ++ (b.asks.take j).map Od.id)))∧Hid (sideAt (-1) b.asks (b.bids.map Od.id).reverse j=r2)) (fun i _ _=>b.asks.length - (intOf i).toNat)
    case atStart=>exact ⟨0,b.bids.length,Nat.zero_le _,rfl,rfl,hbr,Lib.hid (by simpa using HV.out),Lib.hid ((sideAt_zero _ _ _).trans HR2.out)⟩
    case round =>
     obtain ⟨j,nn,hj,HNN,rfl,hbi,HW,HT⟩:=hrel
     have hn9:nn ≤ 80:=by have:=HNN.out;omega
     obtain ⟨wi,rfl⟩:∃ wi,wi=wr:=⟨wr,rfl⟩
     have hsi:=hbi.size
     obtain ⟨Av,cv,rfl⟩:=own_shape HW.out
     by_cases hlt:j < b.asks.length
     ·obtain ⟨g,o,x,rfl,hg,hx,k0,k1,k2,k3,k4⟩:=od_at (h1.below (hbi.mono hB2)) hlt
      have HX:=Lib.hid hx
      have HD:=Lib.hid (HT.out.symm.trans (sideAt_step hx))
      have x1:g < wi.heap.size:=by omega
      clear hx
      go_wp2_with fail
      refine (rordErr_any x _).mono ?_
      rintro e w1 ⟨rfl,hb1⟩
      have hb2:Below wi.heap.size wi w1:=((Below.refl _ _).alloc (Nat.le_refl _) _).trans (hb1.mono (by simp))
      have Bx:=(Blk.new wi 71 #[.int .i64 x.id,.int .i64 x.acc,.int .i64 x.side,.int .i64 x.price,.int .i64 x.qty]).below hb1 (by simp)
      have hw1:wi.heap.size < w1.heap.size:=by have:=hb1.size;simp at this;omega
      have hw2:=hb2.size
      have HW1:=Lib.hid (own_below HW.out hb2 (Nat.le_refl _))
      have hbw:=hbi.trans (hb2.mono hsi)
      have hr1:=h1.below (hbw.mono hB2)
      clear k0 k1 k2 k3 k4 hb1
      by_cases he:ordErr x=0
      ·have HD2:=Lib.hid (HD.out.trans (if_neg (by omega)))
       obtain ⟨⟨hi1,hi2⟩,_⟩:=ordErr_ok.1 he
       have HZ:=Lib.hid he
       have he':(ordErr x != 0)=false:=by simpa using he
       clear he HD
       obtain ⟨⟨b0,b1,b2,b3,b4⟩,_⟩:=Bx.c5
       by_cases hside:x.side = -1
       ·have hs':(x.side != -1)=false:=by simpa using hside
        have HSD:=Lib.hid hside
        clear hside
        by_cases hj0:j=0
        ·subst hj0
         have HD4:=Lib.hid (show r2=if x.id ∈ ((b.asks.take 0).map Od.id).reverse ++ (b.bids.map Od.id).reverse then 6 else sideAt (-1) b.asks (b.bids.map Od.id).reverse (0 + 1) by
          rw [HD2.out,if_neg]
          rintro (h | ⟨q,hq,_⟩)
          ·exact h HSD.out
          ·simp at hq)
         go_wp2_with fail
         go_quiet (fail)
         obtain ⟨W',hW⟩:∃ W',W'=w1.drewN nq:=⟨_,rfl⟩
         rw [← hW]
         have hB:Below w1.heap.size w1 W':=by rw [hW];exact below_drewN (Below.refl _ _) _
         clear hW b0 b1 b2 b3 b4
         obtain ⟨⟨b0,b1,b2,b3,b4⟩,_⟩:=(Bx.below hB hw1).c5
         have hwW:wi.heap.size < W'.heap.size:=by have:=hB.size;omega
         have HW2:=Lib.hid (own_below HW1.out hB (Nat.le_refl _))
         have hbz:=hbw.trans (hB.mono (by omega))
         have hsz:=hB.size
         rcases mem_or x.id (((b.asks.take (0)).map Od.id).reverse ++ (b.bids.map Od.id).reverse) with ⟨hm1,hm2⟩ | ⟨hm1,hm2⟩
         ·have HNM:=Lib.hid (show decide (x.id ∈ b.bids.map Od.id ++ (b.asks.take (0)).map Od.id)=false from decide_eq_false (by rw [← List.mem_reverse,List.reverse_append];exact hm2))
          have HE2:=Lib.hid (show sideAt (-1) b.asks (b.bids.map Od.id).reverse (0 + 1)=r2 by rw [HD4.out,if_neg hm2])
          clear hm1 hm2
          go_wp2_with fail
          refine (contains_int x.id Av _ cv (b.bids.map Od.id ++ (b.asks.take (0)).map Od.id) W'.heap.size W' (Rd.of_own HW2.out) (Nat.le_refl _)).mono ?_
          rw [HNM.out]
          rintro e w6 ⟨rfl,rfl⟩
          go_wp2_with (at_builtin;refine wpList_app rfl _ _ _ rfl W0.heap.size _ _ _ elem_int _ _ _ rfl (own_below HW2.out ((Below.refl W'.heap.size W').alloc (Nat.le_refl _) _) (Nat.le_refl _)) (W'.heap.size + 1) _ 1 1 [.int .i64 x.id] rfl (Rd.new_at W' #[.int .i64 x.id] 3 W'.heap.size 1 rfl rfl (by decide)) (by simp [Value.oneCell']) (by unfold maxLen;omega) (by omega) (by simp;omega) ?_;intro v' w7 hown7 hbel7 _ _)
          have HO7:Hid (w7.ownsRow W0.heap.size 3 1 v' (nn + 1) (ints (b.bids.map Od.id ++ (b.asks.take (0 + 1)).map Od.id))):=by
           rw [List.take_add_one,HX.out]
           have:=hown7
           simp only [Option.toList,List.map_append,List.map_cons,List.map_nil]
           rw [← List.append_assoc,ints_app'];exact this
          go_roundw
          case rel=>exact ⟨0 + 1,nn + 1,by omega,Lib.hid (by have:=HNN.out;omega),by go_num,hbz.trans ((((Below.refl W'.heap.size W').alloc (Nat.le_refl _) _).mono (by omega)).trans hbel7),HO7,HE2⟩
          case measure=>simp [intOf];omega
         ·have HNM:=Lib.hid (show decide (x.id ∈ b.bids.map Od.id ++ (b.asks.take (0)).map Od.id)=true from decide_eq_true (by rw [← List.mem_reverse,List.reverse_append];exact hm2))
          have HE2:=Lib.hid (show r2=6 by rw [HD4.out,if_pos hm2])
          clear hm1 hm2
          go_wp2_with fail
          refine (contains_int x.id Av _ cv (b.bids.map Od.id ++ (b.asks.take (0)).map Od.id) W'.heap.size W' (Rd.of_own HW2.out) (Nat.le_refl _)).mono ?_
          rw [HNM.out]
          rintro e w6 ⟨rfl,rfl⟩
          go_wp2_with fail
          go_ret
          exact ⟨ret_ii (by rw [HE.out,if_neg (by rw [HR10.out];simp)];rw [HE2.out];simp),hB0.trans (hbz.mono (by omega))⟩
        ·obtain ⟨jj,rfl⟩:∃ jj,j=jj + 1:=⟨j - 1,by omega⟩
         obtain ⟨b',o',q,hA,hb',hq,q0,q1,q2,q3,q4⟩:=od_at hr1 (show jj < b.asks.length by omega)
         cases hA
         have HD3:=Lib.hid (show r2=if aheadB q x=false then 4 else if x.id ∈ ((b.asks.take (jj + 1)).map Od.id).reverse ++ (b.bids.map Od.id).reverse then 6 else sideAt (-1) b.asks (b.bids.map Od.id).reverse (jj + 1 + 1) by
          rw [HD2.out]
          by_cases ha:aheadB q x=false
          ·rw [if_pos ha,if_pos (.inr ⟨q,by rw [if_neg (by omega),Nat.add_sub_cancel];exact hq,ha⟩)]
          ·rw [if_neg ha,if_neg]
           rintro (h | ⟨q',hq',h⟩)
           ·exact h HSD.out
           ·rw [if_neg (by omega),Nat.add_sub_cancel,hq] at hq'
            injection hq' with hq'
            rw [hq'] at ha;exact ha h)
         clear hq
         have h11:Below w1.heap.size w1 w1:=Below.refl _ _
         have x2:g < w1.heap.size:=by omega
         have KS:Hid (∀ W,Below w1.heap.size w1 W→Below w1.heap.size w1 W∧(W.cell? ⟨wi.heap.size,0,none⟩=some (.int .i64 x.id)∧W.cell? ⟨wi.heap.size,1,none⟩=some (.int .i64 x.acc)∧W.cell? ⟨wi.heap.size,2,none⟩=some (.int .i64 x.side)∧W.cell? ⟨wi.heap.size,3,none⟩=some (.int .i64 x.price)∧W.cell? ⟨wi.heap.size,4,none⟩=some (.int .i64 x.qty))∧(W.cell? ⟨g,o + jj * 5,none⟩=some (.int .i64 q.id)∧W.cell? ⟨g,o + jj * 5 + 1,none⟩=some (.int .i64 q.acc)∧W.cell? ⟨g,o + jj * 5 + 2,none⟩=some (.int .i64 q.side)∧W.cell? ⟨g,o + jj * 5 + 3,none⟩=some (.int .i64 q.price)∧W.cell? ⟨g,o + jj * 5 + 4,none⟩=some (.int .i64 q.qty))):=by
          intro W hW
          exact ⟨hW,(Bx.below hW hw1).c5.1,(hW.cell (p:=⟨g,_,none⟩) x2).trans q0,(hW.cell (p:=⟨g,_,none⟩) x2).trans q1,(hW.cell (p:=⟨g,_,none⟩) x2).trans q2,(hW.cell (p:=⟨g,_,none⟩) x2).trans q3,(hW.cell (p:=⟨g,_,none⟩) x2).trans q4⟩
         have i1:IntKind.i64.wrap ((jj:Int) + 1 - 1)=(jj:Int):=by rw [show (jj:Int) + 1 - 1=(jj:Int) by omega];exact IntWalk.i64_in _ (by omega)
         have i2:(0:Int) ≤ (jj:Int):=by omega
         have i3:(jj:Int) < (b.asks.length:Int):=by omega
         have i4:decide ((0:Int) < (jj:Int) + 1)=true:=by simp
         have i5:IntKind.i64.wrap (jj:Int)=(jj:Int):=IntWalk.i64_in _ (by omega)
         have j1:IntKind.i64.wrap 0=0:=IntWalk.i64_in _ (by omega)
         have j2:IntKind.i64.wrap 1=1:=IntWalk.i64_in _ (by omega)
         have j3:IntKind.i64.wrap 2=2:=IntWalk.i64_in _ (by omega)
         have j4:IntKind.i64.wrap (-1) = -1:=IntWalk.i64_in _ (by omega)
         have j5:IntKind.i64.wrap (1 - 2) = -1:=IntWalk.i64_in _ (by omega)
         have j6:IntKind.i64.wrap (1 - 0)=1:=IntWalk.i64_in _ (by omega)
         go_wp2_with fail
         go_region_held3 (fun W=>Below w1.heap.size w1 W∧(W.cell? ⟨wi.heap.size,0,none⟩=some (.int .i64 x.id)∧W.cell? ⟨wi.heap.size,1,none⟩=some (.int .i64 x.acc)∧W.cell? ⟨wi.heap.size,2,none⟩=some (.int .i64 x.side)∧W.cell? ⟨wi.heap.size,3,none⟩=some (.int .i64 x.price)∧W.cell? ⟨wi.heap.size,4,none⟩=some (.int .i64 x.qty))∧(W.cell? ⟨g,o + jj * 5,none⟩=some (.int .i64 q.id)∧W.cell? ⟨g,o + jj * 5 + 1,none⟩=some (.int .i64 q.acc)∧W.cell? ⟨g,o + jj * 5 + 2,none⟩=some (.int .i64 q.side)∧W.cell? ⟨g,o + jj * 5 + 3,none⟩=some (.int .i64 q.price)∧W.cell? ⟨g,o + jj * 5 + 4,none⟩=some (.int .i64 q.qty)))
          (first | (exact KS.out _ (by assumption)) | (exact KS.out _ (below_drew (by assumption))))
          ((first | (go_at_call 87;go_split_ands;(with_reducible refine (rahead_any q x _).mono ?_);rintro e W' ⟨rfl,hb⟩;have hB:=below_next hb (by assumption))))
         go_split_ands
         clear KS b0 b1 b2 b3 b4 q0 q1 q2 q3 q4 i1 i2 i3 i4 i5 j1 j2 j3 j4 j5 j6
         rcases bool_cs (aheadB q x) with ha | ha
         ·have HE2:=Lib.hid (show r2=4 by rw [HD3.out,if_pos ha])
          rw [ha]
          go_wp2_with fail
          go_ret
          exact ⟨ret_ii (by rw [HE.out,if_neg (by rw [HR10.out];simp)];rw [HE2.out];simp),hB0.trans ((hbw.trans (hB.mono (by omega))).mono (by omega))⟩
         ·have HD4:=Lib.hid (HD3.out.trans (if_neg (by rw [ha];simp)))
          rw [ha]
          obtain ⟨⟨b0,b1,b2,b3,b4⟩,_⟩:=(Bx.below hB hw1).c5
          have hwW:wi.heap.size < W'.heap.size:=by have:=hB.size;omega
          have HW2:=Lib.hid (own_below HW1.out hB (Nat.le_refl _))
          have hbz:=hbw.trans (hB.mono (by omega))
          have hsz:=hB.size
          rcases mem_or x.id (((b.asks.take (jj + 1)).map Od.id).reverse ++ (b.bids.map Od.id).reverse) with ⟨hm1,hm2⟩ | ⟨hm1,hm2⟩
          ·have HNM:=Lib.hid (show decide (x.id ∈ b.bids.map Od.id ++ (b.asks.take (jj + 1)).map Od.id)=false from decide_eq_false (by rw [← List.mem_reverse,List.reverse_append];exact hm2))
           have HE2:=Lib.hid (show sideAt (-1) b.asks (b.bids.map Od.id).reverse (jj + 1 + 1)=r2 by rw [HD4.out,if_neg hm2])
           clear hm1 hm2
           go_wp2_with fail
           refine (contains_int x.id Av _ cv (b.bids.map Od.id ++ (b.asks.take (jj + 1)).map Od.id) W'.heap.size W' (Rd.of_own HW2.out) (Nat.le_refl _)).mono ?_
           rw [HNM.out]
           rintro e w6 ⟨rfl,rfl⟩
           go_wp2_with (at_builtin;refine wpList_app rfl _ _ _ rfl W0.heap.size _ _ _ elem_int _ _ _ rfl (own_below HW2.out ((Below.refl W'.heap.size W').alloc (Nat.le_refl _) _) (Nat.le_refl _)) (W'.heap.size + 1) _ 1 1 [.int .i64 x.id] rfl (Rd.new_at W' #[.int .i64 x.id] 3 W'.heap.size 1 rfl rfl (by decide)) (by simp [Value.oneCell']) (by unfold maxLen;omega) (by omega) (by simp;omega) ?_;intro v' w7 hown7 hbel7 _ _)
           have HO7:Hid (w7.ownsRow W0.heap.size 3 1 v' (nn + 1) (ints (b.bids.map Od.id ++ (b.asks.take (jj + 1 + 1)).map Od.id))):=by
            rw [List.take_add_one,HX.out]
            have:=hown7
            simp only [Option.toList,List.map_append,List.map_cons,List.map_nil]
            rw [← List.append_assoc,ints_app'];exact this
           go_roundw
           case rel=>exact ⟨jj + 1 + 1,nn + 1,by omega,Lib.hid (by have:=HNN.out;omega),by go_num,hbz.trans ((((Below.refl W'.heap.size W').alloc (Nat.le_refl _) _).mono (by omega)).trans hbel7),HO7,HE2⟩
           case measure=>simp [intOf];omega
          ·have HNM:=Lib.hid (show decide (x.id ∈ b.bids.map Od.id ++ (b.asks.take (jj + 1)).map Od.id)=true from decide_eq_true (by rw [← List.mem_reverse,List.reverse_append];exact hm2))
           have HE2:=Lib.hid (show r2=6 by rw [HD4.out,if_pos hm2])
           clear hm1 hm2
           go_wp2_with fail
           refine (contains_int x.id Av _ cv (b.bids.map Od.id ++ (b.asks.take (jj + 1)).map Od.id) W'.heap.size W' (Rd.of_own HW2.out) (Nat.le_refl _)).mono ?_
           rw [HNM.out]
           rintro e w6 ⟨rfl,rfl⟩
           go_wp2_with fail
           go_ret
           exact ⟨ret_ii (by rw [HE.out,if_neg (by rw [HR10.out];simp)];rw [HE2.out];simp),hB0.trans (hbz.mono (by omega))⟩
       ·have HE2:=Lib.hid (show r2=4 by rw [HD2.out,if_pos (.inl hside)])
        have hs':(x.side != -1)=true:=by simpa using hside
        clear hside
        go_wp2_with fail
        go_quiet (fail)
        go_wp2_with fail
        go_ret
        exact ⟨ret_ii (by rw [HE.out,if_neg (by rw [HR10.out];simp)];rw [HE2.out];simp),hB0.trans ((hbw.trans ((below_drewN (Below.refl _ _) _).mono (by omega))).mono (by omega))⟩
      ·have HE2:=Lib.hid (show r2=ordErr x by rw [HD.out,if_pos he])
       have HN:=Lib.hid he
       have he':(ordErr x != 0)=true:=by simpa using he
       clear he
       go_wp2_with fail
       go_ret
       exact ⟨ret_ii (by rw [HE.out,if_neg (by rw [HR10.out];simp)];rw [HE2.out,if_pos HN.out]),hB0.trans (hbw.mono (by omega))⟩
     ·have hjn:j=b.asks.length:=by omega
      subst hjn
      have HEZ:=Lib.hid (show r2=0 by rw [← HT.out];exact sideAt_end (Nat.le_refl _))
      have HW2:=Lib.hid (show wi.ownsRow W0.heap.size 3 1 (.slice Av nn cv) (b.bids.length + b.asks.length) (ints (b.bids.map Od.id ++ b.asks.map Od.id)) by have:=HW.out;rw [List.take_length] at this;rw [← HNN.out];exact this)
      go_wp2_with fail
      go_roundw
      case rel=>exact ⟨hbi,.inr (.inr ⟨by go_num,HR10,HEZ⟩)⟩
      case measure=>simp [intOf]
   ·have HE3:=Lib.hid (show bookErr b=if crossedB b then 4 else 0 by rw [HE.out,if_neg (by rw [HR10.out];simp),if_neg (by rw [HR20.out];simp)])
    have hws:=hbr.size
    have ra:=h0.below (hbr.mono hB2)
    have rb:=h1.below (hbr.mono hB2)
    obtain ⟨⟨b0,b1⟩,_⟩:=(K0.below hbr z0).c2
    have l0:=(K0.below hbr z0).lt
    have HBZ:=Lib.hid (hB0.trans (hbr.mono (by omega)))
    by_cases hn:b.bids.length=0
    ·have HE4:=Lib.hid (show bookErr b=0 by rw [HE3.out,crossed_nil (.inl hn)];rfl)
     have d1:decide ((0:Int) < (b.bids.length:Int))=false:=decide_eq_false (by omega)
     have d2:decide (0 < b.bids.length)=false:=decide_eq_false (by omega)
     clear hn
     go_wp2_with fail
     go_quiet (fail)
     go_wp2_with fail
     go_ret
     exact ⟨ret_ii HE4.out.symm,below_drewN HBZ.out _⟩
    ·have d1:decide ((0:Int) < (b.bids.length:Int))=true:=decide_eq_true (by omega)
     have d2:decide (0 < b.bids.length)=true:=decide_eq_true (by omega)
     by_cases hn':b.asks.length=0
     ·have HE4:=Lib.hid (show bookErr b=0 by rw [HE3.out,crossed_nil (.inr hn')];rfl)
      have d3:decide ((0:Int) < (b.asks.length:Int))=false:=decide_eq_false (by omega)
      have d4:decide (0 < b.asks.length)=false:=decide_eq_false (by omega)
      clear hn hn'
      go_wp2_with fail
      go_quiet (fail)
      go_wp2_with fail
      go_ret
      exact ⟨ret_ii HE4.out.symm,below_drewN HBZ.out _⟩
     ·have d3:decide ((0:Int) < (b.asks.length:Int))=true:=decide_eq_true (by omega)
      have d4:decide (0 < b.asks.length)=true:=decide_eq_true (by omega)
      obtain ⟨g1,o1,x,rfl,hg1,hx,_,_,_,k3,_⟩:=od_at ra (i:=0) (by omega)
      obtain ⟨g2,o2,y,rfl,hg2,hy,_,_,_,m3,_⟩:=od_at rb (i:=0) (by omega)
      have HX:=Lib.hid (crossed_at hx hy)
      rw [Nat.zero_mul,Nat.add_zero] at k3 m3
      have e1:0 < b.bids.length:=by omega
      have e2:0 < b.asks.length:=by omega
      have e3:(0:Int) < (b.bids.length:Int):=by omega
      have e4:(0:Int) < (b.asks.length:Int):=by omega
      clear hx hy hn hn'
      by_cases hp:y.price ≤ x.price
      ·have HE4:=Lib.hid (show bookErr b=4 by rw [HE3.out,HX.out];simp [hp])
       go_wp2_with fail
       go_quiet (fail)
       go_wp2_with fail
       go_ret
       exact ⟨ret_ii HE4.out.symm,below_drewN HBZ.out _⟩
      ·have HE4:=Lib.hid (show bookErr b=0 by rw [HE3.out,HX.out];simp [hp])
       have hp':decide (y.price ≤ x.price)=false:=by simpa using hp
       have hp2:x.price < y.price:=by omega
       clear hp
       go_wp2_with fail
       go_quiet (fail)
       go_wp2_with fail
       go_ret
       exact ⟨ret_ii HE4.out.symm,below_drewN HBZ.out _⟩
end
section
open Go.RowKit
set_option maxHeartbeats 400000 in
theorem rmoney_any (n:Int) (w:World) :
  Calls Try.prog 79 #[.int .i64 n] w fun e w'=>e=.returned (.bool (isMoney n))∧w=w':=by
 by_cases h1:-1000000000000 ≤ n
 ·go_enter Try.func79,Try.ntmps79
  go_wp2
  go_ret
  exact ⟨by simp [isMoney,h1],rfl⟩
 ·go_enter Try.func79,Try.ntmps79
  go_wp2
  go_ret
  exact ⟨by simp [isMoney];omega,rfl⟩
set_option maxHeartbeats 1000000 in
theorem radd_any (A:Option Addr) (n c:Nat) (l:List Int) (B:Nat) (w:World) (h:Rd w B 1 A n c (ints l)) :
  Calls Try.prog 75 #[.slice A n c] w fun e w'=>e=.returned (.tuple #[.int .i64 (addAll l).1,.int .i64 (addAll l).2])∧w=w':=by
 have hcap:=h.cap
 have hle:=h.le
 have HL:=Lib.hid h.ofInts
 unfold maxLen at hcap
 go_enter Try.func75,Try.ntmps75
 go_wp2_with fail
 go_loop [4,9] (fun s i=>∃ (j:Nat) (t:Int),j ≤ n∧s=.int .i64 t∧i=.int .i64 j∧(-1000000000000 ≤ t∧t ≤ 1000000000000)∧Hid (addFrom t (l.drop j)=addAll l)) (fun _ i=>n - (intOf i).toNat)
 case atStart=>exact ⟨0,0,Nat.zero_le _,rfl,rfl,by omega,rfl⟩
 case round =>
  obtain ⟨j,t,hj,rfl,rfl,ht,HA⟩:=hrel
  obtain ⟨ht1,ht2⟩:=ht
  by_cases hlt:j < n
  ·obtain ⟨b,o,rfl,hb,z,hz,hc⟩:=h.int hlt
   have HS:=Lib.hid (addFrom_step (s:=t) hz)
   clear hz
   cases hm:isMoney z
   ·have HE:=Lib.hid (show addAll l=(0,3) by rw [← HA.out,HS.out,hm];rfl)
    clear HS HA
    go_wp2_with (go_at_call 79;refine (rmoney_any _ _).mono ?_;rintro e w' ⟨rfl,rfl⟩)
    go_ret2
    exact ⟨pair_ii (by rw [HE.out]),rfl⟩
   ·obtain ⟨hz1,hz2⟩:=isMoney_iff.1 hm
    cases hm':isMoney (t + z)
    ·have HE:=Lib.hid (show addAll l=(0,7) by rw [← HA.out,HS.out,hm,hm'];rfl)
     clear HS HA
     go_wp2_with (go_at_call 79;refine (rmoney_any _ _).mono ?_;rintro e w' ⟨rfl,rfl⟩)
     go_ret2
     exact ⟨pair_ii (by rw [HE.out]),rfl⟩
    ·have HE:=Lib.hid (show addFrom (t + z) (l.drop (j + 1))=addAll l by rw [← HA.out,HS.out,hm,hm'];rfl)
     have HT:=Lib.hid (isMoney_iff.1 hm')
     clear HS HA
     go_wp2_with (go_at_call 79;refine (rmoney_any _ _).mono ?_;rintro e w' ⟨rfl,rfl⟩)
     go_round
     case rel=>exact ⟨j + 1,t + z,by omega,rfl,by go_num,HT.out,HE⟩
     case measure=>simp [intOf];omega
  ·have hjn:j=n:=by omega
   have HE:=Lib.hid (show addAll l=(t,0) by rw [← HA.out,hjn,List.drop_eq_nil_of_le (by have:=HL.out;omega)];rfl)
   clear HA hjn
   go_wp2_with (go_at_call 79;refine (rmoney_any _ _).mono ?_;rintro e w' ⟨rfl,rfl⟩)
   go_ret2
   exact ⟨pair_ii (by rw [HE.out]),rfl⟩
set_option maxHeartbeats 400000 in
theorem rworth_any (q p:Int) (w:World) :
  Calls Try.prog 77 #[.int .i64 q,.int .i64 p] w fun e w'=>e=.returned (.tuple #[.int .i64 (worthOf q p).1,.int .i64 (worthOf q p).2])∧w=w':=by
 cases h:worthOk q p
 ·have HE:=Lib.hid (show worthOf q p=(0,3) by unfold worthOf;rw [h];rfl)
  have h0:q < -1000∨-1000 ≤ q∧1000 < q∨-1000 ≤ q∧q ≤ 1000∧p < 0∨-1000 ≤ q∧q ≤ 1000∧0 ≤ p∧10000 < p:=by
   rw [← Bool.not_eq_true,worthOk_iff] at h;omega
  clear h
  rcases h0 with h1 | ⟨h1,h2⟩ | ⟨h1,h2,h3⟩ | ⟨h1,h2,h3,h4⟩
  all_goals
   go_enter Try.func77,Try.ntmps77
   go_wp2_with fail
   go_ret2
   exact ⟨pair_ii (by rw [HE.out]),rfl⟩
 ·have HE:=Lib.hid (show worthOf q p=(q * p,0) by unfold worthOf;rw [h];rfl)
  obtain ⟨h1,h2,h3,h4⟩:=worthOk_iff.1 h
  obtain ⟨b1,b2⟩:=worth_bd h1 h2 h3 h4
  clear h
  go_enter Try.func77,Try.ntmps77
  go_wp2_with fail
  go_ret2
  exact ⟨pair_ii (by rw [HE.out]),rfl⟩
end
section
theorem perm_sum {l m:List Int} (h:l.Perm m):l.sum=m.sum:=by
 induction h with
 | nil=>rfl
 | cons x _ ih=>simp [ih]
 | swap x y l=>simp only [List.sum_cons];omega
 | trans _ _ h1 h2=>exact h1.trans h2
theorem med_sorted (a b c:Int):∃ x y z,[a,b,c].mergeSort (fun x y=>decide (x ≤ y)) = [x,y,z]∧y=midI a b c:=by
 have hp:=List.mergeSort_perm [a,b,c] (fun x y=>decide (x ≤ y))
 have hs:=List.pairwise_mergeSort (le:=fun x y:Int=>decide (x ≤ y)) (fun x y z h1 h2=>by simp only [decide_eq_true_eq] at *;omega) (fun x y=>by simp only [Bool.or_eq_true,decide_eq_true_eq];omega) [a,b,c]
 generalize [a,b,c].mergeSort (fun x y=>decide (x ≤ y))=l at hp hs
 have hl:=hp.length_eq
 match l,hl with
 | [x,y,z],_ =>
  refine ⟨x,y,z,rfl,?_⟩
  simp only [List.pairwise_cons,List.mem_cons,List.not_mem_nil,or_false,forall_eq_or_imp,forall_eq,decide_eq_true_eq,List.Pairwise.nil,and_true,false_implies,implies_true] at hs
  obtain ⟨⟨h1,h2⟩,h3⟩:=hs
  have m1:a=x∨a=y∨a=z:=by have:=hp.mem_iff (a:=a);simpa using this
  have m2:b=x∨b=y∨b=z:=by have:=hp.mem_iff (a:=b);simpa using this
  have m3:c=x∨c=y∨c=z:=by have:=hp.mem_iff (a:=c);simpa using this
  have hsum:x + y + z=a + b + c:=by have:=perm_sum hp;simp only [List.sum_cons,List.sum_nil] at this;omega
  unfold midI
  omega
end
section
open Go.Shelf
def Try.lays191_ren:Go.Shelf.Ren:=⟨fun | 191=>145 | 189=>166 | 125=>180 | 257=>179 | 128=>204 | 129=>205 | 294=>195 | 295=>196 | 296=>197 | 297=>198 | 298=>199 | 299=>200 | 216=>201 | 300=>202 | 301=>203 | 328=>222 | 329=>223 | 330=>224 | 331=>225 | 332=>226 | 215=>227 | 343=>230 | n=>n,fun | 28=>24 | 0=>0 | 3=>3 | 46=>170 | 51=>227 | 53=>229 | 4=>4 | 183=>221 | 182=>220 | 131=>193 | 5=>5 | 9=>9 | 218=>239 | 222=>243 | 228=>245 | 229=>147 | n=>n,fun | n=>n⟩
theorem Try.lays191:Go.Proofs.Lays.n191 Try.prog Try.lays191_ren:={
 mixed:=by kernel_rfl
 f125:=Try.func180.trans (congrArg some (by kernel_rfl))
 f128:=Try.func204.trans (congrArg some (by kernel_rfl))
 f129:=Try.func205.trans (congrArg some (by kernel_rfl))
 f189:=Try.func166.trans (congrArg some (by kernel_rfl))
 f191:=Try.func145.trans (congrArg some (by kernel_rfl))
 f215:=Try.func227.trans (congrArg some (by kernel_rfl))
 f216:=Try.func201.trans (congrArg some (by kernel_rfl))
 f257:=Try.func179.trans (congrArg some (by kernel_rfl))
 f294:=Try.func195.trans (congrArg some (by kernel_rfl))
 f295:=Try.func196.trans (congrArg some (by kernel_rfl))
 f296:=Try.func197.trans (congrArg some (by kernel_rfl))
 f297:=Try.func198.trans (congrArg some (by kernel_rfl))
 f298:=Try.func199.trans (congrArg some (by kernel_rfl))
 f299:=Try.func200.trans (congrArg some (by kernel_rfl))
 f300:=Try.func202.trans (congrArg some (by kernel_rfl))
 f301:=Try.func203.trans (congrArg some (by kernel_rfl))
 f328:=Try.func222.trans (congrArg some (by kernel_rfl))
 f329:=Try.func223.trans (congrArg some (by kernel_rfl))
 f330:=Try.func224.trans (congrArg some (by kernel_rfl))
 f331:=Try.func225.trans (congrArg some (by kernel_rfl))
 f332:=Try.func226.trans (congrArg some (by kernel_rfl))
 f343:=Try.func230.trans (congrArg some (by kernel_rfl))
 t0:=Try.underlying0
 a0:=Try.isAgg0
 z0:=Try.sizeOf0
 v0:=Try.zeroValue0
 t3:=Try.underlying3
 a3:=Try.isAgg3
 z3:=Try.sizeOf3
 v3:=Try.zeroValue3
 t4:=Try.underlying4
 a4:=Try.isAgg4
 z4:=Try.sizeOf4
 v4:=Try.zeroValue4
 t5:=Try.underlying5
 a5:=Try.isAgg5
 z5:=Try.sizeOf5
 v5:=Try.zeroValue5
 t9:=Try.underlying9
 a9:=Try.isAgg9
 z9:=Try.sizeOf9
 v9:=Try.zeroValue9
 t28:=Try.underlying24
 a28:=Try.isAgg24
 z28:=Try.sizeOf24
 v28:=Try.zeroValue24
 t46:=Try.underlying170
 a46:=Try.isAgg170
 z46:=Try.sizeOf170
 v46:=Try.zeroValue170
 t51:=Try.underlying227
 a51:=Try.isAgg227
 z51:=Try.sizeOf227
 v51:=Try.zeroValue227
 t53:=Try.underlying229
 a53:=Try.isAgg229
 z53:=Try.sizeOf229
 v53:=Try.zeroValue229
 t131:=Try.underlying193
 a131:=Try.isAgg193
 z131:=Try.sizeOf193
 v131:=Try.zeroValue193
 t182:=Try.underlying220
 a182:=Try.isAgg220
 z182:=Try.sizeOf220
 v182:=Try.zeroValue220
 t183:=Try.underlying221
 a183:=Try.isAgg221
 z183:=Try.sizeOf221
 v183:=Try.zeroValue221
 t218:=Try.underlying239
 a218:=Try.isAgg239
 z218:=Try.sizeOf239
 v218:=Try.zeroValue239
 t222:=Try.underlying243
 a222:=Try.isAgg243
 z222:=Try.sizeOf243
 v222:=Try.zeroValue243
 t228:=Try.underlying245
 a228:=Try.isAgg245
 z228:=Try.sizeOf245
 v228:=Try.zeroValue245
 t229:=Try.underlying147
 a229:=Try.isAgg147
 z229:=Try.sizeOf147
 v229:=Try.zeroValue147 }
open Go.Sort Go.RowKit in
theorem Try.sort_Ints (blk off cap:Nat) (zs:List Int) (w:World) (hH:Holds (Value.int .i64) w blk off zs.toArray) (hblk:blk < w.heap.size) (hsz:zs.length < 4611686018427387904) :
  Calls Try.prog 145 #[.slice (some ⟨blk,off,none⟩) zs.length cap] w fun e w' =>
   e=.returned (.tuple #[])∧∃ n os,w'=grow (putRow (Value.int .i64) (Sort.ahead w n) blk off (zs.mergeSort fun x y=>decide (x ≤ y)).toArray) os:=Any.sort_Ints Try.lays191 blk off cap zs w hH hblk hsz
end
section
open Go.RowKit Go.Sort
theorem below_put {w W:World} {B n blk off:Nat} {d:Array Int} {os:Array Obj} (h:Below B w W) (hb:B ≤ blk) (hB:B ≤ W.heap.size):Below B w (grow (putRow (Value.int .i64) (Sort.ahead W n) blk off d) os):=by
 refine h.trans ⟨rfl,rfl,rfl,by simp [grow,putRow,mapBlock,Sort.ahead],fun k hk=>?_⟩
 have h1:k ≠ blk:=by omega
 by_cases hs:k < W.heap.size
 ·rw [heap_grow_old _ _ (by simpa [putRow,mapBlock,Sort.ahead] using hs)]
  simp [putRow,mapBlock,Sort.ahead,Array.getElem?_modify,Ne.symm h1]
 ·omega
theorem holds3 {W:World} {g:Nat} {t:TypeId} {a b c:Int} (h:Blk W g t #[.int .i64 a,.int .i64 b,.int .i64 c]):Holds (Value.int .i64) W g 0 [a,b,c].toArray:=by
 intro j hj
 obtain ⟨⟨k0,k1,k2⟩,f0,f1,f2⟩:=h.c3
 have hj':j < 3:=by simpa using hj
 rcases (show j=0∨j=1∨j=2 by omega) with rfl | rfl | rfl
 ·exact ⟨k0,f0⟩
 ·exact ⟨k1,f1⟩
 ·exact ⟨k2,f2⟩
set_option maxHeartbeats 1000000 in
theorem rmiddle_any (a b c:Int) (w:World) :
  Calls Try.prog 80 #[.int .i64 a,.int .i64 b,.int .i64 c] w fun e w'=>e=.returned (.int .i64 (midI a b c))∧Below w.heap.size w w':=by
 obtain ⟨x,y,z,hm,hy⟩:=med_sorted a b c
 have HM:=Lib.hid hm
 have HY:=Lib.hid hy
 clear hm hy
 go_enter Try.func80,Try.ntmps80
 go_wp2_with fail
 refine calls_name ?_
 intro W hW
 have hbW:Below w.heap.size w W:=by rw [hW];exact (Below.refl _ _).alloc (Nat.le_refl _) _
 have hsW:W.heap.size=w.heap.size + 1:=by rw [hW];simp
 have X1:Blk W w.heap.size 3 #[.int .i64 a,.int .i64 b,.int .i64 c]:=by rw [hW];exact Blk.new w _ _
 clear hW
 have HH:=Lib.hid (holds3 X1)
 refine (Try.sort_Ints w.heap.size 0 3 [a,b,c] W HH.out (by omega) (by simp)).mono ?_
 rintro e w2 ⟨rfl,nn,os,rfl⟩
 rw [HM.out]
 obtain ⟨w2,hw2⟩:∃ w2,w2=grow (putRow (Value.int .i64) (Sort.ahead W nn) w.heap.size 0 [x,y,z].toArray) os:=⟨_,rfl⟩
 rw [← hw2]
 have hb2:Below w.heap.size w w2:=by rw [hw2];exact below_put hbW (Nat.le_refl _) (by omega)
 have k1:w2.cell? ⟨w.heap.size,1,none⟩=some (.int .i64 y):=by
  rw [hw2,cell?_grow _ _ _ (by show w.heap.size < _;simp [putRow,mapBlock,Sort.ahead,hsW])]
  exact cell?_putRow (Value.int .i64) (Sort.ahead W nn) w.heap.size 0 [a,b,c].toArray [x,y,z].toArray (holds_ahead _ _ _ _ _ _ HH.out) rfl 1 (by show 1 < 3;omega)
 clear hw2
 go_wp2_with fail
 go_ret
 exact ⟨ret_ii HY.out,hb2⟩
end
section
open Go.RowKit
theorem clamp_mid {lo n hi r:Int} (h:lo ≤ hi) (hr:(if hi < (if n < lo then lo else n) then hi else (if n < lo then lo else n))=r):midI lo n hi=r:=by
 rw [← hr];unfold midI;split <;> split <;> omega
set_option maxHeartbeats 4000000 in
theorem rmark_any (m:Mk) (A A':Option Addr) (c c':Nat) (B:Nat) (w:World) (h:Rd w B 5 A m.book.bids.length c (odCells m.book.bids)) (h':Rd w B 5 A' m.book.asks.length c' (odCells m.book.asks)) (hB:B ≤ w.heap.size) (he:marketErr m=0) :
  Calls Try.prog 102 #[.agg #[.slice A m.book.bids.length c,.slice A' m.book.asks.length c',.int .i64 m.index,.int .i64 m.last]] w fun e w'=>e=.returned (.int .i64 (markP m))∧Below w.heap.size w w':=by
 obtain ⟨_,⟨i1,i2⟩,⟨i3,i4⟩⟩:=market_ok he
 have hbo:=(market_ok he).1
 clear he
 go_enter Try.func102,Try.ntmps102
 go_wp2_with fail
 go_quiet (fail)
 obtain ⟨W,hW⟩:∃ W,W=(w.alloc (.cells #[.slice A m.book.bids.length c,.slice A' m.book.asks.length c',.int .i64 m.index,.int .i64 m.last] 64)).drewN nq:=⟨_,rfl⟩
 rw [← hW]
 have h9:Below w.heap.size w W:=by rw [hW];exact below_drewN ((Below.refl _ _).alloc (Nat.le_refl _) _) _
 have B2:Blk W w.heap.size 64 #[.slice A m.book.bids.length c,.slice A' m.book.asks.length c',.int .i64 m.index,.int .i64 m.last]:=by rw [hW];exact (Blk.new w _ _).drewN _
 clear hW
 obtain ⟨⟨b0,b1,b2,b3⟩,_⟩:=B2.c4
 have ra:=h.below (h9.mono hB)
 have rb:=h'.below (h9.mono hB)
 have l0:=B2.lt
 by_cases hn:m.book.bids.length=0
 ·have HMID:=Lib.hid (mid_nil (.inl hn))
  have hd:((m.book.bids.length:Int) != 0)=false:=by simp [hn]
  clear hn
  obtain ⟨la,hla⟩:∃ la,lastPrice m=la:=⟨_,rfl⟩
  obtain ⟨k,hk⟩:∃ k,midI m.index (m.index) la=k:=⟨_,rfl⟩
  have hkb:-20000 ≤ k∧k ≤ 20000:=by rw [← hk];unfold midI;rw [← hla];unfold lastPrice;split <;> omega
  obtain ⟨hk1,hk2⟩:=hkb
  have HK:=Lib.hid hk
  have q0:m.index.tdiv 20=m.index / 20:=Int.tdiv_eq_ediv_of_nonneg (by omega)
  obtain ⟨r,hr⟩:∃ r,(if m.index + m.index / 20 < (if k < m.index - m.index / 20 then m.index - m.index / 20 else k) then m.index + m.index / 20 else (if k < m.index - m.index / 20 then m.index - m.index / 20 else k))=r:=⟨_,rfl⟩
  have HR:=Lib.hid hr
  have HE:=Lib.hid (show markP m=r by unfold markP;rw [HMID.out,hla,hk];exact clamp_mid (by omega) hr)
  have hl:(m.last == 0)=true∧la=m.index∨(m.last == 0)=false∧la=m.last:=by
   rw [← hla];unfold lastPrice
   by_cases z:m.last=0
   ·left;rw [if_pos z];exact ⟨by simpa using z,rfl⟩
   ·right;rw [if_neg z];exact ⟨by simpa using z,rfl⟩
  obtain ⟨by_,hby⟩:∃ b,m.index / 20=b:=⟨_,rfl⟩
  have hby1:0 ≤ by_∧by_ ≤ 500:=by omega
  obtain ⟨hby2,hby3⟩:=hby1
  rw [hby] at q0
  have HBY:=Lib.hid hby
  clear hk hr hla hby
  rcases hl with ⟨hl,rfl⟩ | ⟨hl,rfl⟩
  all_goals
   go_wp2_with fail
   refine (rmiddle_any _ _ _ _).mono ?_
   rw [HK.out]
   rintro e w5 ⟨rfl,hb5⟩
   have B5:=(B2.below hb5 (by omega))
   have l5:=B5.lt
   obtain ⟨⟨p0,p1,p2,p3⟩,_⟩:=B5.c4
   have hb9:=h9.trans (hb5.mono (by have:=h9.size;omega))
   have HE2:=Lib.hid (HE.out.trans (by rw [← HR.out,HBY.out]))
   go_wp2_with fail
   all_goals
    go_ret
    refine ⟨ret_ii ?_,hb9⟩
    rw [HE2.out]
    repeat' split
    all_goals omega
 ·have hd:((m.book.bids.length:Int) != 0)=true:=by simp only [bne_iff_ne,ne_eq];omega
  by_cases hn':m.book.asks.length=0
  ·have HMID:=Lib.hid (mid_nil (.inr hn'))
   have hd':((m.book.asks.length:Int) != 0)=false:=by simp [hn']
   clear hn hn'
   obtain ⟨la,hla⟩:∃ la,lastPrice m=la:=⟨_,rfl⟩
   obtain ⟨k,hk⟩:∃ k,midI m.index (m.index) la=k:=⟨_,rfl⟩
   have hkb:-20000 ≤ k∧k ≤ 20000:=by rw [← hk];unfold midI;rw [← hla];unfold lastPrice;split <;> omega
   obtain ⟨hk1,hk2⟩:=hkb
   have HK:=Lib.hid hk
   have q0:m.index.tdiv 20=m.index / 20:=Int.tdiv_eq_ediv_of_nonneg (by omega)
   obtain ⟨r,hr⟩:∃ r,(if m.index + m.index / 20 < (if k < m.index - m.index / 20 then m.index - m.index / 20 else k) then m.index + m.index / 20 else (if k < m.index - m.index / 20 then m.index - m.index / 20 else k))=r:=⟨_,rfl⟩
   have HR:=Lib.hid hr
   have HE:=Lib.hid (show markP m=r by unfold markP;rw [HMID.out,hla,hk];exact clamp_mid (by omega) hr)
   have hl:(m.last == 0)=true∧la=m.index∨(m.last == 0)=false∧la=m.last:=by
    rw [← hla];unfold lastPrice
    by_cases z:m.last=0
    ·left;rw [if_pos z];exact ⟨by simpa using z,rfl⟩
    ·right;rw [if_neg z];exact ⟨by simpa using z,rfl⟩
   obtain ⟨by_,hby⟩:∃ b,m.index / 20=b:=⟨_,rfl⟩
   have hby1:0 ≤ by_∧by_ ≤ 500:=by omega
   obtain ⟨hby2,hby3⟩:=hby1
   rw [hby] at q0
   have HBY:=Lib.hid hby
   clear hk hr hla hby
   rcases hl with ⟨hl,rfl⟩ | ⟨hl,rfl⟩
   all_goals
    go_wp2_with fail
    refine (rmiddle_any _ _ _ _).mono ?_
    rw [HK.out]
    rintro e w5 ⟨rfl,hb5⟩
    have B5:=(B2.below hb5 (by omega))
    have l5:=B5.lt
    obtain ⟨⟨p0,p1,p2,p3⟩,_⟩:=B5.c4
    have hb9:=h9.trans (hb5.mono (by have:=h9.size;omega))
    have HE2:=Lib.hid (HE.out.trans (by rw [← HR.out,HBY.out]))
    go_wp2_with fail
    all_goals
     go_ret
     refine ⟨ret_ii ?_,hb9⟩
     rw [HE2.out]
     repeat' split
     all_goals omega
  ·have hd':((m.book.asks.length:Int) != 0)=true:=by simp only [bne_iff_ne,ne_eq];omega
   have d1:0 < m.book.bids.length:=by omega
   have d2:(0:Int) < (m.book.bids.length:Int):=by omega
   have d4:0 < m.book.asks.length:=by omega
   have d5:(0:Int) < (m.book.asks.length:Int):=by omega
   obtain ⟨g1,o1,x,rfl,hg1,hx,_,_,_,k3,_⟩:=od_at ra (i:=0) (by omega)
   obtain ⟨g2,o2,y,rfl,hg2,hy,_,_,_,m3,_⟩:=od_at rb (i:=0) (by omega)
   have HMID:=Lib.hid (mid_at hx hy)
   obtain ⟨px1,px2⟩:=(ordErr_ok.1 (hbo.bids.ok x (List.mem_of_getElem? hx))).2.2.2.1
   obtain ⟨py1,py2⟩:=(ordErr_ok.1 (hbo.asks.ok y (List.mem_of_getElem? hy))).2.2.2.1
   rw [Nat.zero_mul,Nat.add_zero] at k3 m3
   clear hx hy hn hn'
   go_wp2_with fail
   go_quiet (fail)
   obtain ⟨X,hX⟩:∃ X,X=W.drewN nq:=⟨_,rfl⟩
   rw [← hX]
   have h9:Below w.heap.size w X:=by rw [hX];exact below_drewN h9 _
   have B3:Blk X w.heap.size 64 #[.slice (some ⟨g1,o1,none⟩) m.book.bids.length c,.slice (some ⟨g2,o2,none⟩) m.book.asks.length c',.int .i64 m.index,.int .i64 m.last]:=by rw [hX];exact B2.drewN _
   clear hX B2 b0 b1 b2 b3 k3 m3 l0
   obtain ⟨⟨b0,b1,b2,b3⟩,_⟩:=B3.c4
   have l0:=B3.lt
   obtain ⟨la,hla⟩:∃ la,lastPrice m=la:=⟨_,rfl⟩
   obtain ⟨k,hk⟩:∃ k,midI m.index ((x.price + y.price) / 2) la=k:=⟨_,rfl⟩
   have hkb:-20000 ≤ k∧k ≤ 20000:=by rw [← hk];unfold midI;rw [← hla];unfold lastPrice;split <;> omega
   obtain ⟨hk1,hk2⟩:=hkb
   have HK:=Lib.hid hk
   have q0:m.index.tdiv 20=m.index / 20:=Int.tdiv_eq_ediv_of_nonneg (by omega)
   obtain ⟨r,hr⟩:∃ r,(if m.index + m.index / 20 < (if k < m.index - m.index / 20 then m.index - m.index / 20 else k) then m.index + m.index / 20 else (if k < m.index - m.index / 20 then m.index - m.index / 20 else k))=r:=⟨_,rfl⟩
   have HR:=Lib.hid hr
   have HE:=Lib.hid (show markP m=r by unfold markP;rw [HMID.out,hla,hk];exact clamp_mid (by omega) hr)
   have hl:(m.last == 0)=true∧la=m.index∨(m.last == 0)=false∧la=m.last:=by
    rw [← hla];unfold lastPrice
    by_cases z:m.last=0
    ·left;rw [if_pos z];exact ⟨by simpa using z,rfl⟩
    ·right;rw [if_neg z];exact ⟨by simpa using z,rfl⟩
   obtain ⟨by_,hby⟩:∃ b,m.index / 20=b:=⟨_,rfl⟩
   have hby1:0 ≤ by_∧by_ ≤ 500:=by omega
   obtain ⟨hby2,hby3⟩:=hby1
   rw [hby] at q0
   have HBY:=Lib.hid hby
   clear hk hr hla hby
   rcases hl with ⟨hl,rfl⟩ | ⟨hl,rfl⟩
   all_goals
    go_wp2_with fail
    refine (rmiddle_any _ _ _ _).mono ?_
    rw [HK.out]
    rintro e w5 ⟨rfl,hb5⟩
    have B5:=(B3.below hb5 (by omega))
    have l5:=B5.lt
    obtain ⟨⟨p0,p1,p2,p3⟩,_⟩:=B5.c4
    have hb9:=h9.trans (hb5.mono (by have:=h9.size;omega))
    have HE2:=Lib.hid (HE.out.trans (by rw [← HR.out,HBY.out]))
    go_wp2_with fail
    all_goals
     go_ret
     refine ⟨ret_ii ?_,hb9⟩
     rw [HE2.out]
     repeat' split
     all_goals omega
end
section
open Go.RowKit
set_option maxHeartbeats 1000000 in
theorem rmarketErr_any (m:Mk) (A A':Option Addr) (c c':Nat) (B:Nat) (w:World) (h:Rd w B 5 A m.book.bids.length c (odCells m.book.bids)) (h':Rd w B 5 A' m.book.asks.length c' (odCells m.book.asks)) (hB:B ≤ w.heap.size) (hl:m.book.bids.length ≤ 4000000000000) (hl':m.book.asks.length ≤ 4000000000000) :
  Calls Try.prog 100 #[.agg #[.slice A m.book.bids.length c,.slice A' m.book.asks.length c',.int .i64 m.index,.int .i64 m.last]] w fun e w'=>e=.returned (.int .i64 (marketErr m))∧Below w.heap.size w w':=by
 have HB:=fun W=>rbook_any m.book A A' c c' B W
 have HC:=Lib.hid HB
 clear HB
 by_cases he:bookErr m.book=0
 ·have HE:=Lib.hid (show marketErr m=if m.index < 1∨10000 < m.index∨m.last < 0∨10000 < m.last then 3 else 0 by unfold marketErr;rw [if_neg (by omega)])
  have HZ:=Lib.hid he
  clear he
  have hs:(m.index < 1∨1 ≤ m.index∧10000 < m.index∨1 ≤ m.index∧m.index ≤ 10000∧m.last < 0∨1 ≤ m.index∧m.index ≤ 10000∧0 ≤ m.last∧10000 < m.last)∨(1 ≤ m.index∧m.index ≤ 10000∧0 ≤ m.last∧m.last ≤ 10000):=by omega
  go_enter Try.func100,Try.ntmps100
  go_wp2_with fail
  refine (HC.out _ (h.alloc hB _) (h'.alloc hB _) (by simp;omega) hl hl').mono ?_
  rw [HZ.out]
  rintro e w1 ⟨rfl,hb1⟩
  obtain ⟨⟨b0,b1,b2,b3⟩,_⟩:=((Blk.new w 64 #[.slice A m.book.bids.length c,.slice A' m.book.asks.length c',.int .i64 m.index,.int .i64 m.last]).below hb1 (by simp)).c4
  have h9:Below w.heap.size w w1:=((Below.refl _ _).alloc (Nat.le_refl _) _).trans (hb1.mono (by simp))
  clear hb1
  rcases hs with (g1 | ⟨g1,g2⟩ | ⟨g1,g2,g3⟩ | ⟨g1,g2,g3,g4⟩) | ⟨g1,g2,g3,g4⟩
  rotate_right
  ·have HE2:=Lib.hid (HE.out.trans (if_neg (by omega)))
   go_wp2_with fail
   go_ret
   exact ⟨ret_ii HE2.out.symm,h9⟩
  all_goals
   have HE2:=Lib.hid (HE.out.trans (if_pos (by omega)))
   go_wp2_with fail
   go_ret
   exact ⟨ret_ii HE2.out.symm,h9⟩
 ·have HE:=Lib.hid (show marketErr m=bookErr m.book by unfold marketErr;rw [if_pos he])
  have he':(bookErr m.book != 0)=true:=by simpa using he
  clear he
  go_enter Try.func100,Try.ntmps100
  go_wp2_with fail
  refine (HC.out _ (h.alloc hB _) (h'.alloc hB _) (by simp;omega) hl hl').mono ?_
  rintro e w1 ⟨rfl,hb1⟩
  go_wp2_with fail
  go_ret
  exact ⟨ret_ii HE.out.symm,((Below.refl _ _).alloc (Nat.le_refl _) _).trans (hb1.mono (by simp))⟩
set_option maxHeartbeats 2000000 in
theorem rmarks_any (A:Option Addr) (n c:Nat) (L:List Mk) (B:Nat) (w:World) (h:RdL shMk w B A n c L) (hB:B ≤ w.heap.size) :
  Calls Try.prog 96 #[.slice A n c] w (RetMarks w (marksOf L)):=by
 have HL:=Lib.hid h.len
 have hle:=h.le
 have hcap:=h.cap
 unfold maxLen at hcap
 have hn:n < 1∨2 < n∨1 ≤ n∧n ≤ 2:=by omega
 rcases hn with hn | hn | ⟨hn1,hn2⟩
 ·have HE:=Lib.hid (show marksOf L=([],2) by unfold marksOf;rw [if_pos (by have:=HL.out;omega)])
  obtain rfl:n=0:=by omega
  go_enter Try.func96,Try.ntmps96
  go_wp2_with fail
  go_ret2
  exact retMarks_mk HE.out rfl (World.ownsRow_nil _ _ _ _) (Below.refl _ _)
 ·have HE:=Lib.hid (show marksOf L=([],2) by unfold marksOf;rw [if_pos (by have:=HL.out;omega)])
  have hn':((n:Int) != 1)=true:=by simp only [bne_iff_ne,ne_eq];omega
  have hn2':((n:Int) != 2)=true:=by simp only [bne_iff_ne,ne_eq];omega
  go_enter Try.func96,Try.ntmps96
  go_wp2_with fail
  go_ret2
  exact retMarks_mk HE.out rfl (World.ownsRow_nil _ _ _ _) (Below.refl _ _)
 ·have HE:=Lib.hid (show marksOf L=marksFrom L by unfold marksOf;rw [if_neg (by have:=HL.out;omega)])
  have hb:((n:Int) != 1)=false∨((n:Int) != 1)=true∧((n:Int) != 2)=false:=by
   rcases (show n=1∨n=2 by omega) with e | e
   ·left;rw [e];rfl
   ·right;rw [e];exact ⟨rfl,rfl⟩
  rcases hb with hb | ⟨hb,hb2'⟩
  all_goals
   go_enter Try.func96,Try.ntmps96
   go_wp2_with fail
   go_loopw [4,18] (fun l i wr=>∃ (j:Nat),j ≤ n∧i=.int .i64 j∧Hid (wr.ownsRow w.heap.size 3 1 l j (ints ((L.take j).map markP)))∧Below w.heap.size w wr∧Hid (∀ x ∈ L.take j,marketErr x=0)) (fun _ i _=>n - (intOf i).toNat)
   case atStart=>exact ⟨0,Nat.zero_le _,rfl,World.ownsRow_nil _ _ _ _,Below.refl _ _,Lib.hid (by simp)⟩
   case round =>
    obtain ⟨j,hj,rfl,HO,hbr,HJ⟩:=hrel
    have hws:=hbr.size
    obtain ⟨Av,cv,rfl⟩:=own_shape HO.out
    by_cases hlt:j < n
    ·obtain ⟨bb,oo,m,rfl,hbB,hm,A2,c2,A3,c3,k0,k1,k2,k3,hbk,hl1,hl2⟩:=mk_at (h.below (hbr.mono hB)) hlt
     have HM:=Lib.hid hm
     have x1:bb < wr.heap.size:=by omega
     obtain ⟨e,hz⟩:∃ e,marketErr m=e:=⟨_,rfl⟩
     have HZ:=Lib.hid hz
     clear hm hz
     go_wp2_with fail
     have hba:Below wr.heap.size wr (wr.alloc (.cells #[.slice A2 m.book.bids.length c2,.slice A3 m.book.asks.length c3,.int .i64 m.index,.int .i64 m.last] 64)):=(Below.refl _ _).alloc (Nat.le_refl _) _
     refine (rmarketErr_any m A2 A3 c2 c3 B _ (hbk.l.below (hba.mono (by omega))) (hbk.r.below (hba.mono (by omega))) (by simp;omega) hl1 hl2).mono ?_
     rintro en w1 ⟨rfl,hb1⟩
     have hbw1:=hba.trans (hb1.mono (by simp))
     have hs1:=hbw1.size
     have B1:=(Blk.new wr 64 #[.slice A2 m.book.bids.length c2,.slice A3 m.book.asks.length c3,.int .i64 m.index,.int .i64 m.last]).below hb1 (by simp)
     have HBK:=Lib.hid hbk
     have m0:=B1.lt
     clear hb1 hba k0 k1 k2 k3 hbk
     rw [HZ.out]
     by_cases he:e=0
     ·subst he
      obtain ⟨z,hzz⟩:∃ z,markP m=z:=⟨_,rfl⟩
      have HOK:Hid (marketErr m=0∧z=markP m):=⟨HZ.out,hzz.symm⟩
      obtain ⟨⟨b0,b1,b2,b3⟩,_⟩:=B1.c4
      go_wp2_with fail
      refine (rmark_any m A2 A3 c2 c3 B w1 (HBK.out.l.below (hbw1.mono (by omega))) (HBK.out.r.below (hbw1.mono (by omega))) (by omega) HZ.out).mono ?_
      rw [hzz]
      rintro en w2 ⟨rfl,hb2⟩
      have hbw:=hbw1.trans (hb2.mono hs1)
      have hs2:=hbw.size
      clear hb2 hzz b0 b1 b2 b3 B1
      have HO2:=Lib.hid (own_below HO.out hbw (Nat.le_refl _))
      go_wp2_with (at_builtin;go_must (refine wpList_app rfl _ _ _ rfl w.heap.size _ _ _ elem_int _ j (ints ((L.take j).map markP)) rfl (HO2.out.alloc _) (w2.heap.size + 1) _ _ _ [.int .i64 z] rfl (Rd.new w2 #[.int .i64 z] 3 1 rfl (by decide)) (one_ints [z]) (by simp only [maxLen];omega) (by omega) (by simp;omega) ?_);intro v' w4 hown hbel hg _)
      have hb4:Below w.heap.size w w4:=hbr.trans ((hbw.mono (by omega)).trans (((Below.refl _ _).alloc (by omega) _).trans hbel))
      have HO4:=Lib.hid (show w4.ownsRow w.heap.size 3 1 v' (j + 1) (ints ((L.take (j + 1)).map markP)) by
       have e:ints ((L.take j).map markP) ++ [.int .i64 z]=ints ((L.take (j + 1)).map markP):=by
        rw [List.take_add_one,HM.out];simp [ints,HOK.out.2]
       rw [← e];exact hown)
      clear hown hbel hg
      go_wp2_with fail
      go_roundw
      case rel=>exact ⟨j + 1,by omega,by go_num,HO4,hb4,Lib.hid (by
       intro x hx
       rw [List.take_add_one,HM.out,List.mem_append] at hx
       rcases hx with hx | hx
       ·exact HJ.out x hx
       ·simp only [Option.toList_some,List.mem_singleton] at hx;subst hx;exact HOK.out.1)⟩
      case measure=>simp [intOf];omega
     ·have he':(e != 0)=true:=by simpa using he
      have HE2:=Lib.hid (show marksOf L=([],e) by rw [HE.out];exact marksFrom_bad HJ.out HM.out (show markOf m=(0,e) by unfold markOf;rw [if_pos (by rw [HZ.out];exact he),HZ.out]) he)
      clear he
      go_wp2_with fail
      go_ret2
      exact retMarks_mk HE2.out rfl (World.ownsRow_nil _ _ _ _) (hbr.trans (hbw1.mono (by omega)))
    ·have hjn:j=n:=by omega
     have HE2:=Lib.hid (show marksOf L=(L.map markP,0) by
      rw [HE.out];refine marksFrom_good fun x hx=>HJ.out x ?_
      rw [hjn,List.take_of_length_le (by rw [HL.out];exact Nat.le_refl _)];exact hx)
     have HO2:=Lib.hid (show wr.ownsRow w.heap.size 3 1 (.slice Av j cv) j (ints (L.map markP)) by
      have:=HO.out;rw [List.take_of_length_le (by rw [HL.out];omega)] at this;exact this)
     have HLN:=Lib.hid (show (L.map markP).length=j by rw [List.length_map,HL.out,hjn])
     clear hjn
     go_wp2_with fail
     go_ret2
     exact retMarks_mk HE2.out HLN.out HO2.out hbr
end
section
open Go.RowKit
set_option maxHeartbeats 1000000 in
theorem rcheck_any (id bal:Int) (A:Option Addr) (n c:Nat) (l:List Int) (m:Int) (B:Nat) (w:World) (h:Rd w B 1 A n c (ints l)) (hB:B ≤ w.heap.size) :
  Calls Try.prog 50 #[.agg #[.int .i64 id,.int .i64 bal,.slice A n c],.int .i64 m] w fun e w'=>e=.returned (.int .i64 (accCheck id bal l m))∧Below w.heap.size w w':=by
 have hle:=h.le
 have hcap:=h.cap
 have hl:=h.ofInts
 unfold maxLen at hcap
 by_cases h1:id < 0∨8 ≤ id
 ·have HE:=Lib.hid (show accCheck id bal l m=5 by unfold accCheck;rw [if_pos h1])
  have h1:id < 0∨0 ≤ id∧7 < id:=by omega
  clear hl
  rcases h1 with h1 | ⟨h1,h1'⟩
  all_goals
   go_enter Try.func50,Try.ntmps50
   go_wp2_with fail
   go_ret
   exact ⟨ret_ii HE.out.symm,(Below.refl _ _).alloc (Nat.le_refl _) _⟩
 ·have h5:0 ≤ id∧id ≤ 7:=by omega
  obtain ⟨h6,h7⟩:=h5
  by_cases h2:m < 1∨2 < m∨(l.length:Int) ≠ m
  ·have HE:=Lib.hid (show accCheck id bal l m=4 by unfold accCheck;rw [if_neg h1,if_pos h2])
   have h3:((m != 1)=true∧(m != 2)=true)∨((m != 1)=false∧((n:Int) != m)=true)∨((m != 1)=true∧(m != 2)=false∧((n:Int) != m)=true):=by
    by_cases a1:m=1
    ·exact .inr (.inl ⟨by simpa using a1,by simp;omega⟩)
    ·by_cases a2:m=2
     ·exact .inr (.inr ⟨by simpa using a1,by simpa using a2,by simp;omega⟩)
     ·exact .inl ⟨by simpa using a1,by simpa using a2⟩
   clear h1 h2 hl
   rcases h3 with ⟨h3,h4⟩ | ⟨h3,h4⟩ | ⟨h3,h4,h5⟩
   all_goals
    go_enter Try.func50,Try.ntmps50
    go_wp2_with fail
    go_ret
    exact ⟨ret_ii HE.out.symm,(Below.refl _ _).alloc (Nat.le_refl _) _⟩
  ·obtain rfl:m=(n:Int):=by omega
   have hn2:n ≤ 2:=by omega
   have h8:(((n:Int) != 1)=false)∨(((n:Int) != 1)=true∧((n:Int) != 2)=false):=by
    by_cases a1:(n:Int)=1
    ·exact .inl (by simpa using a1)
    ·exact .inr ⟨by simpa using a1,by simp;omega⟩
   have HL:=Lib.hid hl
   have HN1:=Lib.hid h1
   have HN2:=Lib.hid h2
   clear h1 h2 hl
   cases hm:isMoney bal
   ·have HE:=Lib.hid (show accCheck id bal l n=3 by unfold accCheck;rw [if_neg HN1.out,if_neg HN2.out,if_pos hm])
    rcases h8 with h8 | ⟨h8,h9⟩
    all_goals
     go_enter Try.func50,Try.ntmps50
     go_wp2_with (go_at_call 79;refine (rmoney_any _ _).mono ?_;rintro e w' ⟨rfl,rfl⟩)
     go_ret
     exact ⟨ret_ii HE.out.symm,(Below.refl _ _).alloc (Nat.le_refl _) _⟩
   ·have HE:=Lib.hid (show accCheck id bal l n=if posOk l=false then 3 else 0 by unfold accCheck;rw [if_neg HN1.out,if_neg HN2.out,if_neg (by rw [hm];simp)])
    rcases h8 with h8 | ⟨h8,h9⟩
    all_goals
     go_enter Try.func50,Try.ntmps50
     go_wp2_with (go_at_call 79;refine (rmoney_any _ _).mono ?_;rintro e w' ⟨rfl,rfl⟩)
     go_loop [35] (fun i=>∃ j:Nat,j ≤ n∧i=.int .i64 j∧Hid (posOk (l.take j)=true)) (fun i=>n - (intOf i).toNat)
     case atStart=>exact ⟨0,Nat.zero_le _,rfl,rfl⟩
     case round =>
      obtain ⟨j,hj,rfl,HP⟩:=hrel
      by_cases hlt:j < n
      ·obtain ⟨b,o,rfl,hb,z,hz,hc⟩:=h.int hlt
       have hbw:b < w.heap.size:=by omega
       have HN:=Lib.hid (posOk_next hz HP.out)
       cases hp:posOk1 z
       ·have HE':=Lib.hid (show accCheck id bal l n=3 by rw [HE.out,if_pos (posOk_bad hz hp)])
        clear hz HN
        rcases posOk1_not.1 hp with hp' | hp'
        ·go_wp2_with fail
         go_ret
         exact ⟨ret_ii HE'.out.symm,(Below.refl _ _).alloc (Nat.le_refl _) _⟩
        ·have hp3:-1000 ≤ z:=by omega
         go_wp2_with fail
         go_ret
         exact ⟨ret_ii HE'.out.symm,(Below.refl _ _).alloc (Nat.le_refl _) _⟩
       ·obtain ⟨hp1,hp2⟩:=posOk1_iff.1 hp
        have HN':=Lib.hid (HN.out.trans hp)
        clear hz HN hp
        go_wp2_with fail
        go_round
        case rel=>exact ⟨j + 1,by omega,by go_num,HN'⟩
        case measure=>simp [intOf];omega
      ·have HE':=Lib.hid (show accCheck id bal l n=0 by
        rw [HE.out,if_neg]
        have:=HP.out
        rw [show j=l.length by have:=HL.out;omega,List.take_length] at this
        rw [this];simp)
       go_wp2_with fail
       go_ret
       exact ⟨ret_ii HE'.out.symm,(Below.refl _ _).alloc (Nat.le_refl _) _⟩
end
section
open Go.RowKit
theorem rworth_at {q p x y:Int} (h:worthOf q p=(x,y)) (w:World):Calls Try.prog 77 #[.int .i64 q,.int .i64 p] w fun e w'=>e=.returned (.tuple #[.int .i64 x,.int .i64 y])∧w=w':=by
 have:=rworth_any q p w;rw [h] at this;exact this
set_option maxHeartbeats 1000000 in
theorem requity_bad1 (a:Ac) (A A':Option Addr) (c n' c':Nat) (marks:List Int) (B B':Nat) (w:World) (h:Rd w B 1 A a.pos.length c (ints a.pos)) (hB:B ≤ w.heap.size) (h':Rd w B' 1 A' n' c' (ints marks)) (h0:accCheck a.id a.bal a.pos marks.length ≠ 0) :
  Calls Try.prog 47 #[.agg #[.int .i64 a.id,.int .i64 a.bal,.slice A a.pos.length c],.slice A' n' c'] w fun e w'=>e=.returned (.tuple #[.int .i64 (equityOf a marks).1,.int .i64 (equityOf a marks).2])∧Below w.heap.size w w':=by
 have HE:=Lib.hid (show equityOf a marks=(0,accCheck a.id a.bal a.pos marks.length) by unfold equityOf;rw [if_pos h0])
 obtain rfl:=h'.ofInts
 have h1:(accCheck a.id a.bal a.pos marks.length != 0)=true:=by simpa using h0
 clear h0
 go_enter Try.func47,Try.ntmps47
 go_wp2_with fail
 refine (rcheck_any _ _ _ _ _ _ _ _ _ (h.alloc hB _) (by simp;omega)).mono ?_
 rintro e w1 ⟨rfl,hb1⟩
 go_wp2_with fail
 go_ret2
 exact ⟨by rw [HE.out];rfl,((Below.refl _ _).alloc (Nat.le_refl _) _).trans (hb1.mono (by simp))⟩
set_option maxHeartbeats 2000000 in
theorem requity_good (a:Ac) (A A':Option Addr) (c n' c':Nat) (marks:List Int) (B B':Nat) (w:World) (h:Rd w B 1 A a.pos.length c (ints a.pos)) (hB:B ≤ w.heap.size) (h':Rd w B' 1 A' n' c' (ints marks)) (hB':B' ≤ w.heap.size) (h0:accCheck a.id a.bal a.pos marks.length=0) :
  Calls Try.prog 47 #[.agg #[.int .i64 a.id,.int .i64 a.bal,.slice A a.pos.length c],.slice A' n' c'] w fun e w'=>e=.returned (.tuple #[.int .i64 (equityOf a marks).1,.int .i64 (equityOf a marks).2])∧Below w.heap.size w w':=by
 have HE:=Lib.hid (eqRest_start h0)
 obtain rfl:=h'.ofInts
 have HC:=Lib.hid h0
 obtain ⟨_,⟨hl1,hl2⟩,hl3,hbal,_⟩:=accCheck_ok h0
 have hl:a.pos.length=marks.length:=by omega
 obtain ⟨n,hn⟩:∃ n,marks.length=n:=⟨_,rfl⟩
 rw [hn] at hl h' hl1 hl2
 have HN:=Lib.hid hn
 have HL:=Lib.hid hl
 have hn2:n ≤ 2:=by omega
 rw [hl] at h
 rw [hl,hn]
 clear h0 hl hn hl3 hl1 hl2
 go_enter Try.func47,Try.ntmps47
 go_wp2_with fail
 refine (rcheck_any _ _ _ _ _ _ _ _ _ (h.alloc hB _) (by simp;omega)).mono ?_
 rintro e w1 ⟨rfl,hb1⟩
 rw [← HN.out,HC.out,HN.out]
 have HB1:=Lib.hid ((Blk.new w 37 #[.int .i64 a.id,.int .i64 a.bal,.slice A n c]).below hb1 (by simp))
 obtain ⟨⟨b0,b1,b2⟩,e0,e1,e2⟩:=HB1.out.c3
 have hw1:w.heap.size < w1.heap.size:=by have:=hb1.size;simp at this;omega
 have h9:Below w.heap.size w w1:=((Below.refl _ _).alloc (Nat.le_refl _) _).trans (hb1.mono (by simp))
 have hp1:=h.below (h9.mono hB)
 have hm1:=h'.below (h9.mono hB')
 clear hb1
 go_wp2_with fail
 go_loopw [7,23] (fun l i wr=>∃ (j:Nat) (done:List Int),j ≤ n∧i=.int .i64 j∧Hid (wr.ownsRow w1.heap.size 3 1 l (j + 1) (ints (a.bal :: done)))∧Below w1.heap.size w1 wr∧Hid (done.length=j)∧Hid (eqRest a marks done j=equityOf a marks)) (fun _ i _=>n - (intOf i).toNat)
 case atStart=>exact ⟨0,[],Nat.zero_le _,rfl,World.ownsRow_lit w1 #[.int .i64 a.bal] 1 (Nat.le_refl _) (by decide) rfl,(Below.refl _ _).alloc (Nat.le_refl _) _,rfl,HE⟩
 case round =>
  obtain ⟨j,done,hj,rfl,HO,hbr,HD,HR⟩:=hrel
  have hsz:=hbr.size
  obtain ⟨A3,c3,rfl⟩:=own_shape HO.out
  clear b0 b1 b2 e0 e1 e2
  obtain ⟨⟨b0,b1,b2⟩,_⟩:=(HB1.out.below hbr hw1).c3
  have hbw:w.heap.size < wr.heap.size:=by omega
  by_cases hlt:j < n
  ·obtain ⟨b,o,rfl,hb,z,hz,hc⟩:=(hp1.below (hbr.mono (by omega))).int hlt
   obtain ⟨b',o',rfl,hb',k,hk,hc'⟩:=(hm1.below (hbr.mono (by omega))).int hlt
   have HZ:=Lib.hid hz
   have HM:=Lib.hid hk
   clear hz hk
   rcases worth_cases z k with hw | ⟨hw,_,_,hw1,hw2⟩
   ·have HW:=Lib.hid hw
    have HE2:=Lib.hid (HR.out.symm.trans (eqRest_bad HZ.out HM.out hw))
    clear hw
    have x1:(0:Int) ≤ (j:Int):=by omega
    have x2:(j:Int) < (n:Int):=by omega
    go_wp2_with fail
    go_quiet ((go_at_call 77;exact quiet_left (rworth_at HW.out _)))
    go_wp2_with fail
    go_ret2
    exact ⟨by rw [HE2.out];rfl,below_drewN (h9.trans (hbr.mono (by omega))) _⟩
   ·have HW:=Lib.hid hw
    have HE2:=Lib.hid ((eqRest_step (done:=done) HZ.out HM.out hw).symm.trans HR.out)
    clear hw
    have x1:(0:Int) ≤ (j:Int):=by omega
    have x2:(j:Int) < (n:Int):=by omega
    go_wp2_with fail
    go_quiet ((go_at_call 77;exact quiet_left (rworth_at HW.out _)))
    go_wp2_with (at_builtin;go_must (refine wpList_app rfl _ _ _ rfl w1.heap.size _ _ _ elem_int _ (j + 1) (ints (a.bal :: done)) rfl ((own_drewN HO.out _).alloc _) (wr.heap.size + 1) _ _ _ [.int .i64 (z * k)] rfl (Rd.new (wr.drewN _) #[.int .i64 (z * k)] 3 1 rfl (by decide)) (one_ints [z * k]) (by simp only [maxLen];omega) (by omega) (by simp;omega) ?_);intro v' w2 hown hbel hg _)
    have hb2:Below w1.heap.size w1 w2:=hbr.trans ((below_drewN (Below.refl _ _) _).trans (((Below.refl _ _).alloc (by simp;omega) _).trans hbel))
    have HO2:=Lib.hid (show w2.ownsRow w1.heap.size 3 1 v' (j + 1 + 1) (ints (a.bal :: (done ++ [z * k]))) by simpa [ints] using hown)
    clear hown hbel hg
    go_wp2_with fail
    go_roundw
    case rel=>exact ⟨j + 1,done ++ [z * k],by omega,by go_num,HO2,hb2,by show _=_;rw [List.length_append,HD.out];rfl,HE2⟩
    case measure=>simp [intOf];omega
  ·have HE2:=Lib.hid (HR.out.symm.trans (eqRest_end (by have:=HL.out;omega)))
   go_wp2_with fail
   refine (radd_any _ _ _ (a.bal :: done) _ _ (Rd.of_own HO.out)).mono ?_
   rintro e w' ⟨rfl,rfl⟩
   go_wp2_with fail
   go_ret2
   exact ⟨by rw [HE2.out];rfl,h9.trans (hbr.mono (by omega))⟩
theorem requity_any (a:Ac) (A A':Option Addr) (c n' c':Nat) (marks:List Int) (B B':Nat) (w:World) (h:Rd w B 1 A a.pos.length c (ints a.pos)) (hB:B ≤ w.heap.size) (h':Rd w B' 1 A' n' c' (ints marks)) (hB':B' ≤ w.heap.size) :
  Calls Try.prog 47 #[.agg #[.int .i64 a.id,.int .i64 a.bal,.slice A a.pos.length c],.slice A' n' c'] w fun e w'=>e=.returned (.tuple #[.int .i64 (equityOf a marks).1,.int .i64 (equityOf a marks).2])∧Below w.heap.size w w':=by
 by_cases h0:accCheck a.id a.bal a.pos marks.length=0
 ·exact requity_good a A A' c n' c' marks B B' w h hB h' hB' h0
 ·exact requity_bad1 a A A' c n' c' marks B B' w h hB h' h0
end
section
open Go.RowKit
set_option maxHeartbeats 2000000 in
theorem rmargins_any (a:Ac) (A A':Option Addr) (c n' c':Nat) (marks:List Int) (B B':Nat) (w:World) (h:Rd w B 1 A a.pos.length c (ints a.pos)) (hB:B ≤ w.heap.size) (h':Rd w B' 1 A' n' c' (ints marks)) (hB':B' ≤ w.heap.size) :
  Calls Try.prog 97 #[.agg #[.int .i64 a.id,.int .i64 a.bal,.slice A a.pos.length c],.slice A' n' c'] w fun e w' =>
   e=.returned (.tuple #[.int .i64 (marginsOf a marks).1,.int .i64 (marginsOf a marks).2.1,.int .i64 (marginsOf a marks).2.2])∧Below w.heap.size w w':=by
 by_cases h0:accCheck a.id a.bal a.pos marks.length=0
 ·have HE:=Lib.hid (show marginsFrom 0 0 (a.pos.drop 0) (marks.drop 0)=marginsOf a marks by unfold marginsOf;rw [if_neg (by rw [h0];simp)];rfl)
  obtain rfl:=h'.ofInts
  have HC:=Lib.hid h0
  obtain ⟨_,⟨hl1,hl2⟩,hl3,_,_⟩:=accCheck_ok h0
  have hl:a.pos.length=marks.length:=by omega
  obtain ⟨n,hn⟩:∃ n,marks.length=n:=⟨_,rfl⟩
  rw [hn] at hl h' hl1 hl2
  have HN:=Lib.hid hn
  have HL:=Lib.hid hl
  have hn2:n ≤ 2:=by omega
  rw [hl] at h
  rw [hl,hn]
  clear h0 hl hn hl3 hl1 hl2
  go_enter Try.func97,Try.ntmps97
  go_wp2_with fail
  refine (rcheck_any _ _ _ _ _ _ _ _ _ (h.alloc hB _) (by simp;omega)).mono ?_
  rintro e w1 ⟨rfl,hb1⟩
  rw [← HN.out,HC.out,HN.out]
  obtain ⟨⟨b0,b1,b2⟩,_⟩:=((Blk.new w 37 #[.int .i64 a.id,.int .i64 a.bal,.slice A n c]).below hb1 (by simp)).c3
  have hw1:w.heap.size < w1.heap.size:=by have:=hb1.size;simp at this;omega
  have h9:Below w.heap.size w w1:=((Below.refl _ _).alloc (Nat.le_refl _) _).trans (hb1.mono (by simp))
  have hp1:=h.below (h9.mono hB)
  have hm1:=h'.below (h9.mono hB')
  clear hb1
  go_wp2_with fail
  go_loopw [8,9,26] (fun s t i wr=>∃ (j:Nat) (x y:Int),j ≤ n∧s=.int .i64 x∧t=.int .i64 y∧i=.int .i64 j∧(0 ≤ x∧x ≤ 5000000 * (j:Int))∧(0 ≤ y∧y ≤ 5000000 * (j:Int))∧Below w1.heap.size w1 wr∧Hid (marginsFrom x y (a.pos.drop j) (marks.drop j)=marginsOf a marks)) (fun _ _ i _=>n - (intOf i).toNat)
  case atStart=>exact ⟨0,0,0,Nat.zero_le _,rfl,rfl,rfl,by omega,by omega,Below.refl _ _,HE⟩
  case round =>
   obtain ⟨j,x,y,hj,rfl,rfl,rfl,hx,hy,hbr,HR⟩:=hrel
   have hsz:=hbr.size
   clear b0 b1 b2
   by_cases hlt:j < n
   ·obtain ⟨b,o,rfl,hb,z,hz,hc⟩:=(hp1.below (hbr.mono (by omega))).int hlt
    obtain ⟨b',o',rfl,hb',k,hk,hc'⟩:=(hm1.below (hbr.mono (by omega))).int hlt
    have HZ:=Lib.hid hz
    have HD:=Lib.hid (HR.out.symm.trans (margins_drop hz hk))
    clear hz hk
    obtain ⟨m,hm,hm1⟩:∃ m,max z (-z)=m∧(z < 0∧m = -z∨0 ≤ z∧m=z):=⟨_,rfl,by omega⟩
    have HM:=Lib.hid hm
    obtain ⟨hz1,hz2⟩:=posOk_get (accCheck_ok HC.out).2.2.2.2 HZ.out
    clear hm
    rcases worth_cases m k with hw | ⟨hw,_,hp5,hw1,hw2⟩
    ·have HW:=Lib.hid hw
     have HE2:=Lib.hid (show marginsOf a marks=(0,0,3) by rw [HD.out,HM.out,hw];rfl)
     clear hw
     rcases hm1 with ⟨h3,rfl⟩ | ⟨h3,rfl⟩
     all_goals
      go_wp2_with fail
      refine (rworth_any _ _ _).mono ?_
      rintro e w' ⟨rfl,rfl⟩
      rw [HW.out]
      go_wp2_with fail
      go_ret3
      exact ⟨triple_iii (by rw [HE2.out]),h9.trans (hbr.mono (by omega))⟩
    ·have HW:=Lib.hid hw
     obtain ⟨v,hv⟩:∃ v,m * k=v:=⟨_,rfl⟩
     rw [hv] at hw1 hw2
     have hv0:0 ≤ v:=by rw [← hv];exact Int.mul_nonneg (by omega) hp5.1
     clear hp5 hw1
     have HV:=Lib.hid hv
     have HE2:=Lib.hid (show marginsFrom (x + wants1 z k) (y + wants2 z k) (a.pos.drop (j + 1)) (marks.drop (j + 1))=marginsOf a marks by rw [HD.out,HM.out,hw];rfl)
     have hw1e:wants1 z k=(v * (tierOf v).1 + 99) / 100:=by unfold wants1;rw [HM.out,hv]
     have hw2e:wants2 z k=(v * (tierOf v).2 + 99) / 100:=by unfold wants2;rw [HM.out,hv]
     clear hw hv
     by_cases c1:v ≤ 100000
     ·have d1:decide (100000 < v)=false:=decide_eq_false (by omega)
      have d2:decide (1000000 < v)=false:=decide_eq_false (by omega)
      rw [tier_one c1] at hw1e hw2e
      simp only at hw1e hw2e
      rw [hw1e,hw2e] at HE2
      clear hw1e hw2e
      rcases hm1 with ⟨h3,rfl⟩ | ⟨h3,rfl⟩
      all_goals
       go_wp2_with fail
       refine (rworth_any _ _ _).mono ?_
       rintro e w' ⟨rfl,rfl⟩
       rw [HW.out,HV.out]
       go_wp2_with fail
       go_roundw
       case rel=>exact ⟨j + 1,x + (v * 10 + 99) / 100,y + (v * 5 + 99) / 100,by omega,rfl,rfl,by go_num,by omega,by omega,hbr,HE2⟩
       case measure=>simp [intOf];omega
     ·by_cases c2:v ≤ 1000000
      ·have d1:decide (100000 < v)=true:=decide_eq_true (by omega)
       have d2:decide (1000000 < v)=false:=decide_eq_false (by omega)
       rw [tier_two (by omega) c2] at hw1e hw2e
       simp only at hw1e hw2e
       rw [hw1e,hw2e] at HE2
       clear hw1e hw2e
       rcases hm1 with ⟨h3,rfl⟩ | ⟨h3,rfl⟩
       all_goals
        go_wp2_with fail
        refine (rworth_any _ _ _).mono ?_
        rintro e w' ⟨rfl,rfl⟩
        rw [HW.out,HV.out]
        go_wp2_with fail
        go_roundw
        case rel=>exact ⟨j + 1,x + (v * 20 + 99) / 100,y + (v * 10 + 99) / 100,by omega,rfl,rfl,by go_num,by omega,by omega,hbr,HE2⟩
        case measure=>simp [intOf];omega
      ·have d1:decide (100000 < v)=true:=decide_eq_true (by omega)
       have d2:decide (1000000 < v)=true:=decide_eq_true (by omega)
       rw [tier_three (by omega)] at hw1e hw2e
       simp only at hw1e hw2e
       rw [hw1e,hw2e] at HE2
       clear hw1e hw2e
       rcases hm1 with ⟨h3,rfl⟩ | ⟨h3,rfl⟩
       all_goals
        go_wp2_with fail
        refine (rworth_any _ _ _).mono ?_
        rintro e w' ⟨rfl,rfl⟩
        rw [HW.out,HV.out]
        go_wp2_with fail
        go_roundw
        case rel=>exact ⟨j + 1,x + (v * 50 + 99) / 100,y + (v * 25 + 99) / 100,by omega,rfl,rfl,by go_num,by omega,by omega,hbr,HE2⟩
        case measure=>simp [intOf];omega
   ·have HE2:=Lib.hid (HR.out.symm.trans (margins_end (by have:=HL.out;omega)))
    go_wp2_with fail
    go_ret3
    exact ⟨triple_iii (by rw [HE2.out]),h9.trans (hbr.mono (by omega))⟩
 ·have HE:=Lib.hid (show marginsOf a marks=(0,0,accCheck a.id a.bal a.pos marks.length) by unfold marginsOf;rw [if_pos h0])
  obtain rfl:=h'.ofInts
  have h1:(accCheck a.id a.bal a.pos marks.length != 0)=true:=by simpa using h0
  clear h0
  go_enter Try.func97,Try.ntmps97
  go_wp2_with fail
  refine (rcheck_any _ _ _ _ _ _ _ _ _ (h.alloc hB _) (by simp;omega)).mono ?_
  rintro e w1 ⟨rfl,hb1⟩
  go_wp2_with fail
  go_ret3
  exact ⟨triple_iii (by rw [HE.out]),((Below.refl _ _).alloc (Nat.le_refl _) _).trans (hb1.mono (by simp))⟩
set_option maxHeartbeats 1000000 in
theorem rsound_any (a:Ac) (A A':Option Addr) (c n' c':Nat) (marks:List Int) (B B':Nat) (w:World) (h:Rd w B 1 A a.pos.length c (ints a.pos)) (hB:B ≤ w.heap.size) (h':Rd w B' 1 A' n' c' (ints marks)) (hB':B' ≤ w.heap.size) :
  Calls Try.prog 98 #[.agg #[.int .i64 a.id,.int .i64 a.bal,.slice A a.pos.length c],.slice A' n' c'] w fun e w' =>
   e=.returned (.tuple #[.bool (soundOf a marks).1,.bool (soundOf a marks).2.1,.int .i64 (soundOf a marks).2.2])∧Below w.heap.size w w':=by
 obtain ⟨x,y,em,hm⟩:∃ x y em,marginsOf a marks=(x,y,em):=⟨_,_,_,rfl⟩
 obtain ⟨n,en,hn⟩:∃ n en,equityOf a marks=(n,en):=⟨_,_,rfl⟩
 have HM:=Lib.hid hm
 have HN:=Lib.hid hn
 have HS:=Lib.hid (show soundOf a marks=if em ≠ 0 then (false,false,em) else if en ≠ 0 then (false,false,en) else (decide (x ≤ n),decide (y ≤ n),0) by unfold soundOf;rw [hm,hn])
 clear hm hn
 go_enter Try.func98,Try.ntmps98
 go_wp2_with fail
 refine (rmargins_any a _ _ _ _ _ marks _ _ _ (h.alloc hB _) (by simp;omega) (h'.alloc hB' _) (by simp;omega)).mono ?_
 rw [HM.out]
 rintro e w1 ⟨rfl,hb1⟩
 obtain ⟨⟨b0,b1,b2⟩,_⟩:=((Blk.new w 37 #[.int .i64 a.id,.int .i64 a.bal,.slice A a.pos.length c]).below hb1 (by simp)).c3
 have hw1:w.heap.size < w1.heap.size:=by have:=hb1.size;simp at this;omega
 have h9:Below w.heap.size w w1:=((Below.refl _ _).alloc (Nat.le_refl _) _).trans (hb1.mono (by simp))
 have hp1:=h.below (h9.mono hB)
 have hm1:=h'.below (h9.mono hB')
 clear hb1
 by_cases hem:em=0
 ·subst hem
  have HS2:=Lib.hid (HS.out.trans (if_neg (by simp)))
  go_wp2_with fail
  refine (requity_any a _ _ _ _ _ marks _ _ _ hp1 (by omega) hm1 (by omega)).mono ?_
  rw [HN.out]
  rintro e w2 ⟨rfl,hb2⟩
  have h10:=h9.trans (hb2.mono (by omega))
  by_cases hen:en=0
  ·subst hen
   have HS3:=Lib.hid (HS2.out.trans (if_neg (by simp)))
   go_wp2_with fail
   go_ret3
   rw [HS3.out]
   exact ⟨rfl,h10⟩
  ·have HS3:=Lib.hid (HS2.out.trans (if_pos hen))
   have hen1:(en != 0)=true:=by simpa using hen
   clear hen
   go_wp2_with fail
   go_ret3
   rw [HS3.out]
   exact ⟨rfl,h10⟩
 ·have HS2:=Lib.hid (HS.out.trans (if_pos hem))
  have hem1:(em != 0)=true:=by simpa using hem
  clear hem
  go_wp2_with fail
  go_ret3
  rw [HS2.out]
  exact ⟨rfl,h9⟩
end
section
open Go.RowKit
set_option maxHeartbeats 1000000 in
theorem rfloor_at (r d t v:Int) (ht:r.tdiv d=t) (hr:-2000000000000 ≤ r∧r ≤ 2000000000000) (hd:d ≠ 0∧-1000 ≤ d∧d ≤ 1000) (hv:(if r < t * d then t - 1 else t)=v) (w:World) :
  Calls Try.prog 130 #[.int .i64 r,.int .i64 d] w fun e w'=>e=.returned (.int .i64 v)∧w=w':=by
 obtain ⟨⟨t1,t2⟩,⟨t3,t4⟩,_⟩:=tdiv_facts ht hr
 rw [Int.mul_comm] at t3 t4
 obtain ⟨p,hp⟩:∃ p,t * d=p:=⟨_,rfl⟩
 rw [hp] at t3 t4 hv
 have HV:=Lib.hid hv
 obtain ⟨hr1,hr2⟩:=hr
 obtain ⟨hd0,hd1,hd2⟩:=hd
 have hd3:(d == 0)=false:=by simpa using hd0
 clear hv
 by_cases c:r < p
 ·have HC:=Lib.hid (HV.out.symm.trans (if_pos c))
  go_enter Try.func130,Try.ntmps130
  go_wp2_with fail
  go_ret
  exact ⟨ret_ii HC.out.symm,rfl⟩
 ·have HC:=Lib.hid (HV.out.symm.trans (if_neg c))
  have c':p ≤ r:=by omega
  clear c
  go_enter Try.func130,Try.ntmps130
  go_wp2_with fail
  go_ret
  exact ⟨ret_ii HC.out.symm,rfl⟩
set_option maxHeartbeats 2000000 in
theorem rbankrupt_any (a:Ac) (A A':Option Addr) (c n' c':Nat) (marks:List Int) (market:Int) (B B':Nat) (w:World) (h:Rd w B 1 A a.pos.length c (ints a.pos)) (hB:B ≤ w.heap.size) (h':Rd w B' 1 A' n' c' (ints marks)) (hB':B' ≤ w.heap.size) :
  Calls Try.prog 99 #[.agg #[.int .i64 a.id,.int .i64 a.bal,.slice A a.pos.length c],.slice A' n' c',.int .i64 market] w fun e w' =>
   e=.returned (.tuple #[.int .i64 (bankruptOf a marks market).1,.int .i64 (bankruptOf a marks market).2])∧Below w.heap.size w w':=by
 obtain ⟨n,en,hn⟩:∃ n en,equityOf a marks=(n,en):=⟨_,_,rfl⟩
 have HN:=Lib.hid hn
 have HML:=Lib.hid h'.ofInts
 have HS:=Lib.hid (show bankruptOf a marks market=if en ≠ 0 then (0,en) else if market < 0∨(n':Int) ≤ market then (0,5) else if a.pos.getD market.toNat 0=0 then (0,12)
   else (max 1 (min (bankP (n - a.pos.getD market.toNat 0 * marks.getD market.toNat 0) (a.pos.getD market.toNat 0)) 10000),0) by unfold bankruptOf;rw [hn,HML.out])
 clear hn
 go_enter Try.func99,Try.ntmps99
 go_wp2_with fail
 refine (requity_any a _ _ _ _ _ marks _ _ _ (h.alloc hB _) (by simp;omega) (h'.alloc hB' _) (by simp;omega)).mono ?_
 rw [HN.out]
 rintro e w1 ⟨rfl,hb1⟩
 have B1:=(Blk.new w 37 #[.int .i64 a.id,.int .i64 a.bal,.slice A a.pos.length c]).below hb1 (by simp)
 have hw1:w.heap.size < w1.heap.size:=by have:=hb1.size;simp at this;omega
 have h9:Below w.heap.size w w1:=((Below.refl _ _).alloc (Nat.le_refl _) _).trans (hb1.mono (by simp))
 have ra:=h.below (h9.mono hB)
 have rm:=h'.below (h9.mono hB')
 clear hb1
 by_cases hen:en=0
 ·subst hen
  have HS2:=Lib.hid (HS.out.trans (if_neg (by simp)))
  by_cases hmk:market < 0∨(n':Int) ≤ market
  ·have HE:=Lib.hid (HS2.out.trans (if_pos hmk))
   rcases hmk with hmk | hmk
   all_goals
    go_wp2_with fail
    go_ret2
    exact ⟨pair_ii (by rw [HE.out]),h9⟩
  ·have HS3:=Lib.hid (HS2.out.trans (if_neg hmk))
   obtain ⟨k,rfl⟩:∃ k:Nat,market=k:=⟨market.toNat,by omega⟩
   rw [Int.toNat_natCast] at HS3
   obtain ⟨k1,k2,k3,k4⟩:=equity_ok HN.out
   obtain ⟨g1,g2,g3,g4,g5⟩:=accCheck_ok k1
   have hkn:k < n':=by omega
   have hml:=HML.out
   have hkp:k < a.pos.length:=by omega
   obtain ⟨b,o,rfl,hb,q,hq,hc⟩:=ra.int hkp
   obtain ⟨b',o',rfl,hb',mk,hm,hc'⟩:=rm.int hkn
   have hq1:=posOk_get g5 hq
   have hm1:=k4 mk (List.mem_of_getElem? hm)
   have e1:a.pos.getD k 0=q:=by simp [List.getD,hq]
   have e2:marks.getD k 0=mk:=by simp [List.getD,hm]
   rw [e1,e2] at HS3
   have hn2:=isMoney_iff.1 k3
   have hkn2:(k:Int) < (n':Int):=by omega
   have hkp2:(k:Int) < (a.pos.length:Int):=by omega
   obtain ⟨⟨b0,b1,b2⟩,_⟩:=B1.c3
   clear hmk hq hm e1 e2 k1 k2 k3 k4 g1 g2 g3 g4 g5 hml
   by_cases hq0:q=0
   ·have HE:=Lib.hid (HS3.out.trans (if_pos hq0))
    subst hq0
    go_wp2_with fail
    go_ret2
    exact ⟨pair_ii (by rw [HE.out]),h9⟩
   ·have HS4:=Lib.hid (HS3.out.trans (if_neg hq0))
    obtain ⟨w1',w2'⟩:=worth_bd hq1.1 hq1.2 hm1.1 hm1.2
    obtain ⟨r,hr⟩:∃ r,r=n - q * mk:=⟨_,rfl⟩
    have hrb:-2000000000000 ≤ n - q * mk∧n - q * mk ≤ 2000000000000:=by omega
    have HR:=Lib.hid hr
    obtain ⟨t,ht⟩:∃ t,(n - q * mk).tdiv q=t:=⟨_,rfl⟩
    obtain ⟨⟨t1,t2⟩,⟨t3,t4⟩,ht5⟩:=tdiv_facts ht hrb
    rw [ht5] at HS4
    have hq2:(q == 0)=false:=by simpa using hq0
    obtain ⟨hq3,hq4⟩:=hq1
    obtain ⟨hr1,hr2⟩:=hrb
    obtain ⟨hn3,hn4⟩:=hn2
    have hqt:q * -t = -(q * t):=Int.mul_neg q t
    clear hr ht5
    by_cases hqp:0 < q
    ·obtain ⟨v,hv⟩:∃ v,(if n - q * mk < t * q then t - 1 else t)=v:=⟨_,rfl⟩
     have HE:=Lib.hid (show bankruptOf a marks (k:Int)=(max 1 (min (-v) 10000),0) by
      rw [HS4.out,← hv,Int.mul_comm t q]
      by_cases c:n - q * mk < q * t
      ·rw [if_pos (by omega),if_pos hqp,if_pos c];congr 3;omega
      ·rw [if_neg (by omega),if_neg c])
     have hvb:-2000000000001 ≤ v∧v ≤ 2000000000000:=by rw [← hv];split <;> omega
     obtain ⟨hv1,hv2⟩:=hvb
     have HV:=Lib.hid hv
     clear hv hq0
     go_wp2_with fail
     refine (rfloor_at (n - q * mk) q t v ht (by omega) (by omega) HV.out _).mono ?_
     rintro e w' ⟨rfl,rfl⟩
     go_wp2_with fail
     all_goals (go_ret2;exact ⟨pair_ii (by rw [HE.out];congr 1;omega),h9⟩)
    ·obtain ⟨v,hv⟩:∃ v,(if n - q * mk < -t * -q then -t - 1 else -t)=v:=⟨_,rfl⟩
     have HE:=Lib.hid (show bankruptOf a marks (k:Int)=(max 1 (min v 10000),0) by
      rw [HS4.out,← hv,Int.neg_mul_neg,Int.mul_comm t q]
      by_cases c:n - q * mk < q * t
      ·rw [if_pos (by omega),if_neg hqp,if_pos c]
      ·rw [if_neg (by omega),if_neg c])
     have hvb:-2000000000001 ≤ v∧v ≤ 2000000000000:=by rw [← hv];split <;> omega
     obtain ⟨hv1,hv2⟩:=hvb
     have HV:=Lib.hid hv
     have hqn:q ≤ 0:=by omega
     have ht6:(n - q * mk).tdiv (-q) = -t:=by rw [Int.tdiv_neg,ht]
     clear hv
     go_wp2_with fail
     refine (rfloor_at (n - q * mk) (-q) (-t) v ht6 (by omega) (by omega) HV.out _).mono ?_
     rintro e w' ⟨rfl,rfl⟩
     go_wp2_with fail
     all_goals (go_ret2;exact ⟨pair_ii (by rw [HE.out];congr 1;omega),h9⟩)
 ·have HS2:=Lib.hid (HS.out.trans (if_pos hen))
  have hen1:(en != 0)=true:=by simpa using hen
  clear hen
  go_wp2_with fail
  go_ret2
  exact ⟨pair_ii (by rw [HS2.out]),h9⟩
end
section
open Go.RowKit
set_option maxHeartbeats 2000000 in
theorem weighed_any (w:World):Calls Try.prog 58 #[] w fun e w'=>e=.returned (.bool true)∧Below w.heap.size w w':=by
 have F1:=Lib.hid (show marginsOf ⟨0,-900,[10]⟩ [100]=(100,50,0) by decide +kernel)
 have F2:=Lib.hid (show soundOf ⟨0,-900,[10]⟩ [100]=(true,true,0) by decide +kernel)
 have F3:=Lib.hid (show bankruptOf ⟨0,-900,[10]⟩ [100] 0=(90,0) by decide +kernel)
 have F4:=Lib.hid (show markOf ⟨zeroBk,100,200⟩=(100,0) by decide +kernel)
 go_enter Try.func58,Try.ntmps58
 go_wp2_with fail
 have R0:Rd (w.alloc (.cells #[.int .i64 10] 3)) (w.heap.size + 1) 1 (some ⟨w.heap.size,0,none⟩) 1 1 (ints [10]):=Rd.new w #[.int .i64 10] 3 1 rfl (by decide)
 have B0:=Blk.new_at (w.alloc (.cells #[.int .i64 10] 3)) 37 #[.int .i64 0,.int .i64 (-900),.slice (some ⟨w.heap.size,0,none⟩) 1 1] (w.heap.size + 1) (by simp)
 have R1:=R0.alloc (by simp) (.cells #[.int .i64 0,.int .i64 (-900),.slice (some ⟨w.heap.size,0,none⟩) 1 1] 37)
 obtain ⟨W,hW⟩:∃ W,W=(w.alloc (.cells #[.int .i64 10] 3)).alloc (.cells #[.int .i64 0,.int .i64 (-900),.slice (some ⟨w.heap.size,0,none⟩) 1 1] 37):=⟨_,rfl⟩
 have hs:W.heap.size=w.heap.size + 2:=by rw [hW];simp
 have hb:Below w.heap.size w W:=by rw [hW];exact ((Below.refl _ _).alloc (Nat.le_refl _) _).alloc (by simp) _
 rw [← hW] at B0 R1
 rw [← hW]
 clear hW R0
 refine (margins_any ⟨0,-900,[10]⟩ _ _ _ _ _ [100] _ _ _ (R1.alloc (by omega) _) (by simp <;> omega) (Rd.new_at W #[.int .i64 100] 3 _ 1 (by omega) rfl (by decide)) (by simp <;> omega)).mono ?_
 rw [F1.out]
 rintro e w1 ⟨rfl,hb1⟩
 have hs1:W.heap.size < w1.heap.size:=by have:=hb1.size;simp at this;omega
 have B1:=(B0.alloc (.cells #[.int .i64 100] 3)).below hb1 (by simp <;> omega)
 have R2:=(R1.alloc (by omega) (.cells #[.int .i64 100] 3)).below (hb1.mono (by simp <;> omega))
 have hw1:Below w.heap.size w w1:=(hb.alloc (by omega) _).trans (hb1.mono (by simp <;> omega))
 clear hb1
 obtain ⟨⟨b0,b1,b2⟩,_⟩:=B1.c3
 go_wp2_with fail
 clear b0 b1 b2
 refine (sound_any ⟨0,-900,[10]⟩ _ _ _ _ _ [100] _ _ _ (R2.alloc (by omega) _) (by simp <;> omega) (Rd.new_at w1 #[.int .i64 100] 3 _ 1 (by omega) rfl (by decide)) (by simp <;> omega)).mono ?_
 rw [F2.out]
 rintro e w2 ⟨rfl,hb2⟩
 have hs2:w1.heap.size < w2.heap.size:=by have:=hb2.size;simp at this;omega
 have B2:=(B1.alloc (.cells #[.int .i64 100] 3)).below hb2 (by simp <;> omega)
 have R3:=(R2.alloc (by omega) (.cells #[.int .i64 100] 3)).below (hb2.mono (by simp <;> omega))
 have hw2:Below w.heap.size w w2:=(hw1.alloc (by omega) _).trans (hb2.mono (by simp <;> omega))
 clear hb2
 obtain ⟨⟨b0,b1,b2⟩,_⟩:=B2.c3
 go_wp2_with fail
 clear b0 b1 b2
 refine (bankrupt_any ⟨0,-900,[10]⟩ _ _ _ _ _ [100] 0 _ _ _ (R3.alloc (by omega) _) (by simp <;> omega) (Rd.new_at w2 #[.int .i64 100] 3 _ 1 (by omega) rfl (by decide)) (by simp <;> omega)).mono ?_
 rw [F3.out]
 rintro e w3 ⟨rfl,hb3⟩
 have hs3:w2.heap.size < w3.heap.size:=by have:=hb3.size;simp at this;omega
 have B3:=(B2.alloc (.cells #[.int .i64 100] 3)).below hb3 (by simp <;> omega)
 have R4:=(R3.alloc (by omega) (.cells #[.int .i64 100] 3)).below (hb3.mono (by simp <;> omega))
 have hw3:Below w.heap.size w w3:=(hw2.alloc (by omega) _).trans (hb3.mono (by simp <;> omega))
 clear hb3
 go_wp2_with fail
 refine (mark_any ⟨zeroBk,100,200⟩ _ _ _ _ 0 _ (Rd.none_ _ _ _) (Rd.none_ _ _ _) (by omega) (by decide) (by decide)).mono ?_
 rw [F4.out]
 rintro e w4 ⟨rfl,hb4⟩
 go_wp2_with fail
 go_ret
 exact ⟨rfl,hw3.trans (hb4.mono (by omega))⟩
end
section
open Go.RowKit
theorem equal_same (A A':Option Addr) (n c c':Nat) (xs:List Int) (B B':Nat) (w:World) (h:Rd w B 1 A n c (ints xs)) (h':Rd w B' 1 A' n c' (ints xs)) :
  Calls Try.prog 30 #[.slice A n c,.slice A' n c'] w fun e w'=>e=.returned (.bool true)∧∃ q,w'=w.drewN q :=
 (equal_ints A A' n c n c' xs xs B B' w h h').mono fun _ _ ⟨h1,h2⟩=>⟨by rw [h1,eqI_iff.2 rfl],h2⟩
end
section
open Go.RowKit
theorem rmarks_ref {ms:List Int} {e:Int} (A:Option Addr) (n c:Nat) (L:List Mk) (B:Nat) (w:World) (hr:marksOf L=(ms,e)) (h:RdL shMk w B A n c L) (hB:B ≤ w.heap.size) :
  Calls Try.prog 96 #[.slice A n c] w (RetMarks w (ms,e)):=by rw [← hr];exact rmarks_any A n c L B w h hB
set_option maxHeartbeats 8000000 in
set_option maxRecDepth 100000 in
theorem riskSays_walk (S:Option Addr) (n cs:Nat) (L:List Mk) (a:Ac) (A:Option Addr) (c:Nat) (A2:Option Addr) (n2 c2:Nat) (marks:List Int) (market:Int) (w:World) (hl:RdL shMk w w.heap.size S n cs L) (ha:Rd w w.heap.size 1 A a.pos.length c (ints a.pos)) (hm:Rd w w.heap.size 1 A2 n2 c2 (ints marks)) :
  Calls Try.prog 21 #[.slice S n cs,.agg #[.int .i64 a.id,.int .i64 a.bal,.slice A a.pos.length c],.slice A2 n2 c2,.int .i64 market] w fun e w'=>e=.returned (.bool true)∧Below w.heap.size w w':=by
 have HL:=Lib.hid hl
 have HA:=Lib.hid ha
 have HM:=Lib.hid hm
 have hle:=hl.le
 have hcap:=hl.cap
 unfold maxLen at hcap
 obtain ⟨ms,me,h1⟩:∃ x y,marksOf L=(x,y):=⟨_,_,rfl⟩
 obtain ⟨mx,my,mf,h2⟩:∃ x y z,marginsOf a marks=(x,y,z):=⟨_,_,_,rfl⟩
 obtain ⟨sa,sb,sc,h3⟩:∃ x y z,soundOf a marks=(x,y,z):=⟨_,_,_,rfl⟩
 obtain ⟨bp,be,h4⟩:∃ x y,bankruptOf a marks market=(x,y):=⟨_,_,rfl⟩
 have H1:=Lib.hid h1
 have H2:=Lib.hid h2
 have H3:=Lib.hid h3
 have H4:=Lib.hid h4
 clear hl ha hm h1 h2 h3 h4
 go_enter Try.func21,Try.ntmps21
 go_wp2_with fail
 refine calls_name ?_
 intro W0 hW0
 have hB0:Below w.heap.size w W0:=by rw [hW0];exact (Below.refl _ _).alloc (Nat.le_refl _) _
 have X0:Blk W0 w.heap.size 37 #[.int .i64 a.id,.int .i64 a.bal,.slice A a.pos.length c]:=by rw [hW0];exact Blk.new w _ _
 have hs0:=hB0.size
 have x0:=X0.lt
 clear hW0
 refine (marks_ref S n cs L w.heap.size W0 H1.out (HL.out.below hB0) hs0).mono ?_
 rintro e W1 ⟨P,p,rfl,hown1,hb1⟩
 have HP:=Lib.hid (show W1.ownsRow W0.heap.size 3 1 (.slice P ms.length p) ms.length (ints ms) from hown1)
 have hs1:=hb1.size
 have X1:=X0.below hb1 x0
 have hB1:=hB0.trans (hb1.mono hs0)
 clear hown1
 obtain ⟨⟨kX10,kX11,kX12⟩,-⟩:=X1.c3
 have x1:=X1.lt
 have hC1:Below W1.heap.size W1 W1:=Below.refl _ _
 have hD1:Below W1.heap.size W1 W1:=Below.refl _ _
 go_wp2_with fail
 refine (margins_any a A A2 c n2 c2 marks w.heap.size w.heap.size W1 (HA.out.below hB1) (by omega) (HM.out.below hB1) (by omega)).mono ?_
 rw [H2.out]
 rintro e W2 ⟨rfl,hb2⟩
 have hs2:=hb2.size
 have X2:=X1.below hb2 x1
 have hB2:=hB1.trans (hb2.mono (by omega))
 have hC2:=hC1.trans (hb2.mono (by omega))
 have x2:=X2.lt
 have hD2:=hD1.trans (hb2.mono (by omega))
 clear kX10 kX11 kX12 hb2
 obtain ⟨⟨kX20,kX21,kX22⟩,-⟩:=X2.c3
 go_wp2_with fail
 refine (sound_any a A A2 c n2 c2 marks w.heap.size w.heap.size W2 (HA.out.below hB2) (by omega) (HM.out.below hB2) (by omega)).mono ?_
 rw [H3.out]
 rintro e W3 ⟨rfl,hb3⟩
 have hs3:=hb3.size
 have X3:=X2.below hb3 x2
 have hB3:=hB2.trans (hb3.mono (by omega))
 have hC3:=hC2.trans (hb3.mono (by omega))
 have x3:=X3.lt
 have hD3:=hD2.trans (hb3.mono (by omega))
 clear kX20 kX21 kX22 hb3
 obtain ⟨⟨kX30,kX31,kX32⟩,-⟩:=X3.c3
 go_wp2_with fail
 refine (bankrupt_any a A A2 c n2 c2 marks market w.heap.size w.heap.size W3 (HA.out.below hB3) (by omega) (HM.out.below hB3) (by omega)).mono ?_
 rw [H4.out]
 rintro e W4 ⟨rfl,hb4⟩
 have hs4:=hb4.size
 have X4:=X3.below hb4 x3
 have hB4:=hB3.trans (hb4.mono (by omega))
 have hC4:=hC3.trans (hb4.mono (by omega))
 have x4:=X4.lt
 have hD4:=hD3.trans (hb4.mono (by omega))
 clear kX30 kX31 kX32 hb4
 obtain ⟨⟨kX40,kX41,kX42⟩,-⟩:=X4.c3
 go_wp2_with fail
 refine (rmarks_ref S n cs L w.heap.size W4 H1.out (HL.out.below hB4) (by omega)).mono ?_
 rintro e W5 ⟨Q,q,rfl,hown5,hb5⟩
 have HQ:=Lib.hid (show W5.ownsRow W4.heap.size 3 1 (.slice Q ms.length q) ms.length (ints ms) from hown5)
 have hs5:=hb5.size
 have X5:=X4.below hb5 x4
 have hB5:=hB4.trans (hb5.mono (by omega))
 have hC5:=hC4.trans (hb5.mono (by omega))
 have hD5:Below W5.heap.size W5 W5:=Below.refl _ _
 have x5:=X5.lt
 clear hown5 kX40 kX41 kX42 hb5
 obtain ⟨⟨kX50,kX51,kX52⟩,-⟩:=X5.c3
 go_wp2_with fail
 refine (rmargins_any a A A2 c n2 c2 marks w.heap.size w.heap.size W5 (HA.out.below hB5) (by omega) (HM.out.below hB5) (by omega)).mono ?_
 rw [H2.out]
 rintro e W6 ⟨rfl,hb6⟩
 have hs6:=hb6.size
 have X6:=X5.below hb6 x5
 have hB6:=hB5.trans (hb6.mono (by omega))
 have hC6:=hC5.trans (hb6.mono (by omega))
 have x6:=X6.lt
 have hD6:=hD5.trans (hb6.mono (by omega))
 clear kX50 kX51 kX52 hb6
 obtain ⟨⟨kX60,kX61,kX62⟩,-⟩:=X6.c3
 go_wp2_with fail
 refine (rsound_any a A A2 c n2 c2 marks w.heap.size w.heap.size W6 (HA.out.below hB6) (by omega) (HM.out.below hB6) (by omega)).mono ?_
 rw [H3.out]
 rintro e W7 ⟨rfl,hb7⟩
 have hs7:=hb7.size
 have X7:=X6.below hb7 x6
 have hB7:=hB6.trans (hb7.mono (by omega))
 have hC7:=hC6.trans (hb7.mono (by omega))
 have x7:=X7.lt
 have hD7:=hD6.trans (hb7.mono (by omega))
 clear kX60 kX61 kX62 hb7
 obtain ⟨⟨kX70,kX71,kX72⟩,-⟩:=X7.c3
 go_wp2_with fail
 refine (rbankrupt_any a A A2 c n2 c2 marks market w.heap.size w.heap.size W7 (HA.out.below hB7) (by omega) (HM.out.below hB7) (by omega)).mono ?_
 rw [H4.out]
 rintro e W8 ⟨rfl,hb8⟩
 have hs8:=hb8.size
 have X8:=X7.below hb8 x7
 have hB8:=hB7.trans (hb8.mono (by omega))
 have hC8:=hC7.trans (hb8.mono (by omega))
 have x8:=X8.lt
 have hD8:=hD7.trans (hb8.mono (by omega))
 clear kX70 kX71 kX72 hb8
 obtain ⟨⟨kX80,kX81,kX82⟩,-⟩:=X8.c3
 go_wp2_with fail
 refine (weighed_any W8).mono ?_
 rintro e W9 ⟨rfl,hb9⟩
 have hs9:=hb9.size
 have hB9:=hB8.trans (hb9.mono (by omega))
 have hC9:=hC8.trans (hb9.mono (by omega))
 have hE9:Below W5.heap.size W5 W9:=hD8.trans (hb9.mono (by omega))
 have HP9:=Lib.hid ((Rd.of_own HP.out).below hC9)
 have HQ9:=Lib.hid ((Rd.of_own HQ.out).below hE9)
 clear hb9 kX80 kX81 kX82
 go_wp2_with fail
 refine (equal_same P Q ms.length p q ms W1.heap.size W5.heap.size W9 HP9.out HQ9.out).mono ?_
 rintro e WZ ⟨rfl,dq,hWZ⟩
 have hBZ:Below w.heap.size w WZ:=by rw [hWZ];exact below_drewN hB9 _
 have hsZ:=hBZ.size
 clear hWZ
 go_wp2_with fail
 go_loopw [141] (fun i wr=>∃ j:Nat,j ≤ n∧i=.int .i64 j∧Below w.heap.size w wr) (fun i _=>n - (intOf i).toNat)
 case atStart=>exact ⟨0,Nat.zero_le _,rfl,hBZ⟩
 case round =>
  obtain ⟨j,hj,rfl,hbr⟩:=hrel
  have hws:=hbr.size
  by_cases hlt:j < n
  ·obtain ⟨bb,oo,m,rfl,hbB,hm,A4,c4,A5,c5,k0,k1,k2,k3,hbk,hl1,hl2⟩:=mk_at (HL.out.below hbr) hlt
   obtain ⟨e0,he0⟩:∃ e0,marketErr m=e0:=⟨_,rfl⟩
   obtain ⟨z,hz⟩:∃ z,markOf m=(z,e0):=by
    unfold markOf
    by_cases t:marketErr m=0
    ·exact ⟨markP m,by rw [if_neg (by omega),← he0,t]⟩
    ·exact ⟨0,by rw [if_pos t,he0]⟩
   have HE0:=Lib.hid he0
   have HZ:=Lib.hid hz
   have HBK:=Lib.hid hbk
   have y1:bb < wr.heap.size:=by omega
   clear hm he0 hz hbk
   go_wp2_with fail
   refine calls_name ?_
   intro V0 hV0
   have hv0:Below w.heap.size wr V0:=by rw [hV0];exact (Below.refl _ _).alloc hws _
   have M0:Blk V0 wr.heap.size 64 #[.slice A4 m.book.bids.length c4,.slice A5 m.book.asks.length c5,.int .i64 m.index,.int .i64 m.last]:=by rw [hV0];exact Blk.new wr _ _
   have y0:=M0.lt
   clear hV0 k0 k1 k2 k3
   refine (rmarketErr_any m A4 A5 c4 c5 w.heap.size V0 (HBK.out.l.below hv0) (HBK.out.r.below hv0) (by omega) hl1 hl2).mono ?_
   rw [HE0.out]
   rintro e V1 ⟨rfl,hb1⟩
   have hv1:=hv0.trans (hb1.mono (by omega))
   have M1:=M0.below hb1 y0
   have y1':=M1.lt
   have t1:=hb1.size
   clear hb1 M0
   obtain ⟨⟨kM10,kM11,kM12,kM13⟩,-⟩:=M1.c4
   go_wp2_with fail
   refine (mark_any m A4 A5 c4 c5 w.heap.size V1 (HBK.out.l.below hv1) (HBK.out.r.below hv1) (by omega) hl1 hl2).mono ?_
   rw [HZ.out]
   rintro e V2 ⟨rfl,hb2⟩
   have hv2:=hv1.trans (hb2.mono (by omega))
   have t2:=hb2.size
   have M2:=M1.below hb2 y1'
   have y2':=M2.lt
   clear kM10 kM11 kM12 kM13 hb2
   obtain ⟨⟨kM20,kM21,kM22,kM23⟩,-⟩:=M2.c4
   go_wp2_with fail
   refine (marketErr_any m A4 A5 c4 c5 w.heap.size V2 (HBK.out.l.below hv2) (HBK.out.r.below hv2) (by omega) hl1 hl2).mono ?_
   rw [HE0.out]
   rintro e V3 ⟨rfl,hb3⟩
   have hv3:=hv2.trans (hb3.mono (by omega))
   have t3:=hb3.size
   have M3:=M2.below hb3 y2'
   have y3':=M3.lt
   clear kM20 kM21 kM22 kM23 hb3
   obtain ⟨⟨kM30,kM31,kM32,kM33⟩,-⟩:=M3.c4
   by_cases h0:e0=0
   ·subst h0
    have HZP:=Lib.hid (mark_zero HZ.out).2.symm
    go_wp2_with fail
    refine (rmark_any m A4 A5 c4 c5 w.heap.size V3 (HBK.out.l.below hv3) (HBK.out.r.below hv3) (by omega) HE0.out).mono ?_
    rw [HZP.out]
    rintro e V4 ⟨rfl,hb4⟩
    go_wp2_with fail
    go_roundw
    case rel=>exact ⟨j + 1,by omega,by go_num,hbr.trans (hv3.trans (hb4.mono (by omega)))⟩
    case measure=>simp [intOf];omega
   ·have HZP:=Lib.hid (show z=0 by
     have:=HZ.out
     unfold markOf at this
     rw [if_pos (by rw [HE0.out];exact h0)] at this
     injection this with this _;exact this.symm)
    obtain rfl:=HZP.out
    have q1:(e0 != 0)=true:=by simpa using h0
    have q2:(e0 == 0)=false:=by simpa using h0
    clear h0
    go_wp2_with fail
    go_roundw
    case rel=>exact ⟨j + 1,by omega,by go_num,hbr.trans hv3⟩
    case measure=>simp [intOf];omega
  ·have hjn:j=n:=by omega
   subst hjn
   clear hlt
   go_wp2_with fail
   go_ret
   exact ⟨rfl,hbr⟩
end
section
open Go.ChangeShapes Go.WideShapes Go.ChangeAt Go.RowKit
set_option maxRecDepth 100000 in
theorem riskSays_lifted (os:Os) (started:os.Started) (H:Type) (enc:TypeId × Value→H) :
  ReturnsInHanded {} Try.checked os 21 .any (Rows.riskSaysSpec.pre6 enc Try.prog Try.f21 Rows.riskSaysRow.domain false) (Rows.riskSaysSpec.post enc Try.prog Try.f21 false true false false):=by
 refine returnsInHanded_of_change_sized (C:=Try.checked) row_own started (by kernel_rfl) Try.func21
  (ChangeSpec.witness6 (enc:=enc) (C:=Try.checked) false ⟨#[],#[.slice none 0 0,.agg #[.int .i64 0,.int .i64 0,.slice none 0 0],.slice none 0 0,.int .i64 0],[]⟩ 8 (by kernel_rfl) (by kernel_rfl) (by kernel_rfl) (by kernel_rfl)) ?_
 intro W base args ds gs before hval0 hW hcnd hsz _
 have hval:∀ (j:Nat) t v,Try.f21.params[j]?=some t→args[j]?=some v→Value.okWide Try.prog W .any base t v:=hval0
 have hW':=hW
 obtain ⟨p,q,hA0,hV,rfl,hfz,hnd⟩:=hW
 have hA:DataW.TrodAll enc Try.prog W 0 (fun _=>true) true Try.f21.params.toList args.toList ds p:=hA0
 obtain ⟨rfl,rfl⟩:=trodVars_none hV
 have hkeep:=fun W' (bel:Below W.heap.size W W')=>trodAll_below row_laidOut bel (by kernel_rfl) hA
 rw [Try.params21] at hA hval
 obtain ⟨v0,vs0,d0,ds0,p0,q0,hargs,rfl,rfl,h0,tl0⟩:=trodAll_cons hA
 obtain ⟨v1,vs1,d1,ds1,p1,q1,rfl,rfl,rfl,h1,tl1⟩:=trodAll_cons tl0
 obtain ⟨v2,vs2,d2,ds2,p2,q2,rfl,rfl,rfl,h2,tl2⟩:=trodAll_cons tl1
 obtain ⟨v3,vs3,d3,ds3,p3,q3,rfl,rfl,rfl,h3,tl3⟩:=trodAll_cons tl2
 obtain ⟨rfl,rfl,rfl⟩:=trodAll_nil tl3
 obtain rfl:args = #[v0,v1,v2,v3]:=by cases args;simp_all
 clear hargs
 have hs0:(DataW.weightsEach Try.prog (Try.f21.params.toList ++ Rows.riskSaysSpec.plain.varTypes Try.prog) ([d0,d1,d2,d3] ++ [])).all (· ≤ reachBytes)=true:=hsz
 rw [show Rows.riskSaysSpec.plain.varTypes Try.prog = [] from rfl,List.append_nil,List.append_nil] at hs0
 have hsz':(DataW.weightsEach Try.prog Try.f21.params.toList [d0,d1,d2,d3]).all (· ≤ reachBytes)=true:=hs0
 rw [Try.params21] at hsz'
 obtain ⟨y0,t0⟩:=weights_head hsz'
 obtain ⟨y1,t1⟩:=weights_head t0
 obtain ⟨y2,t2⟩:=weights_head t1
 obtain ⟨y3,t3⟩:=weights_head t2
 obtain ⟨A0,n0,c0,L0,rfl,r0,s0,i0⟩:=opens_markets (hval 0 104 v0 rfl rfl) h0 y0
 obtain ⟨a1,A1,c1,rfl,r1,s1,i1⟩:=opens_account (hval 1 37 v1 rfl rfl) h1 y1
 obtain ⟨A2,n2,c2,l2,rfl,r2,s2,i2⟩:=opens_ints (hval 2 24 v2 rfl rfl) h2 y2
 obtain ⟨z3,rfl,i3⟩:=opens_int (hval 3 3 v3 rfl rfl) h3
 refine (riskSays_walk A0 n0 c0 L0 a1 A1 c1 A2 n2 c2 l2 z3 W r0 r1 r2).mono fun e W' ⟨he,bel⟩=>?_
 subst he
 exact ⟨_,rfl,_,_,_,[],_,[],hW',trodAll_mk1 (shut_bool Try.underlying4 _),hkeep W' bel,rfl,bel.frame _,fun h=>by cases h⟩
set_option maxHeartbeats 4000000 in
theorem riskSays_closed:joinedFacts Try.prog 21 Try.f21 Rows.riskSaysSpec Rows.riskSaysRow=true :=
 joined_mk _ _ _ _ _ (by as_aux_lemma=>kernel_rfl) closed_laid closed_mapsRowed (by as_aux_lemma=>kernel_rfl) (by as_aux_lemma=>kernel_rfl) (by as_aux_lemma=>kernel_rfl) closed_stops (by as_aux_lemma=>kernel_rfl) closed_stopKnobs (by as_aux_lemma=>kernel_rfl) (by as_aux_lemma=>kernel_rfl) (by as_aux_lemma=>kernel_rfl) (by as_aux_lemma=>kernel_rfl) (by as_aux_lemma=>kernel_rfl) (by as_aux_lemma=>kernel_rfl) (by as_aux_lemma=>kernel_rfl) (by as_aux_lemma=>kernel_rfl) (by as_aux_lemma=>kernel_rfl) (by as_aux_lemma=>kernel_rfl) (by as_aux_lemma=>kernel_rfl) (by as_aux_lemma=>kernel_rfl) (by as_aux_lemma=>kernel_rfl) closed_plainKeys (by as_aux_lemma=>kernel_rfl) closed_stopsHeard closed_mayEnter closed_lifted closed_make (by as_aux_lemma=>kernel_rfl) (by as_aux_lemma=>kernel_rfl) (by as_aux_lemma=>kernel_rfl) (by as_aux_lemma=>kernel_rfl)
set_option maxHeartbeats 4000000 in
theorem riskSays_over:Rows.riskSaysRow.holds Try.pinned (OpenSpec.ofChange Rows.riskSaysSpec) :=
 OpenClaim.holds_of_wide 21 Try.f21 rfl rfl rfl rfl rfl rfl rfl ⟨rfl,rfl,rfl,rfl,rfl⟩ rfl rfl rfl rfl rfl (by as_aux_lemma=>kernel_rfl) Try.func21 riskSays_closed
  (of_decide_eq_true (by as_aux_lemma=>kernel_rfl)) (by unfold Func.isWrapper;first | (rw [if_pos (by decide +kernel)];as_aux_lemma=>kernel_rfl) | (rw [if_neg (by decide +kernel)];exact ⟨rfl,rfl⟩))
  (fun os started H enc _=>riskSays_lifted os started H enc)
theorem riskSays_proved:Rows.RiskSaysSaid:=riskSays_over
#print axioms riskSays_proved
end
end Go.Proofs.Ytockodmbhnlheaa
