/-
  THE LAW BookSays: holds for every input, with no condition. (Joined texts: RowK, ROrd, SSl, ShelfSst, SSo, MatchPure, Fill, OwnA, Take, Kept, Blk, VenuePure.)
-/
import Derived.Test.YtockodmbhnlheaaBookSaysH
import Derived.Test.YtockodmbhnlheaaProg
import Derived.Test.YtockodmbhnlheaaBookSaysA
import Derived.Maps.AppendAt
import Derived.Laws.AppendOwnNone
import Derived.OwnWalk
import Derived.WalkKit
import Derived.Deep.Draws
import Derived.Shelf.SlSortFuncK.SWK
import Derived.Lib.Hide
import Derived.WalkSpells
import Derived.WalkLawsBesides
import Derived.Deep.QuietTactic
import Derived.BigQuiet
import Derived.Test.YtockodmbhnlheaaBookSaysB
import Derived.IntWalk
import Derived.Test.YtockodmbhnlheaaBookSaysI
import Derived.Shelf.GgSortFunc.SmallK
import Derived.Laws.Externs
import Derived.Deep.RegionHeld3
import Derived.Maps.Own
import Derived.Maps.OwnOps
import Derived.Maps.Views
import Derived.Deep.DeepCutAuto
import Derived.Sort.WalkA
import Derived.Test.YtockodmbhnlheaaBookSaysG
import Derived.Deep.Cut
import Derived.Sort.LotA
import Derived.Shelf.GgSortMore.Stable
import Derived.Test.YtockodmbhnlheaaBookSaysD
import Derived.Test.YtockodmbhnlheaaBookSaysC
import Derived.Lib.AppendZeros
import Derived.Test.YtockodmbhnlheaaBookSaysF
import Derived.Test.YtockodmbhnlheaaBookSaysE
import Derived.Laws.CopyOwn
import Derived.Lib.AppendZerosOnto
import Derived.Lib.Overlaps
import Derived.Deep.RegionLaw
namespace Go.Proofs.Ytockodmbhnlheaa
section
open Go.RowKit Go.Sort Go.Shelf Go.Lib
section
variable {α:Type} [Inhabited α] {enc:α→List Value} {k:Nat} (hk:∀ x,(enc x).length=k)
include hk in
omit [Inhabited α] in
theorem flat_len:∀ L:List α,(L.flatMap enc).length=L.length * k
 | []=>by simp
 | a :: L=>by rw [List.flatMap_cons,List.length_append,hk,flat_len L,List.length_cons,Nat.add_mul,Nat.one_mul,Nat.add_comm]
include hk in
theorem flat_get:∀ (L:List α) (t:Nat),t < L.length * k→(L.flatMap enc)[t]?=(enc L[t / k]!)[t % k]?
 | [],t,h=>by simp at h
 | a :: L,t,h=>by
  rw [List.flatMap_cons]
  rw [List.length_cons,Nat.add_mul,Nat.one_mul] at h
  have h0:0 < k:=by
   rcases Nat.eq_zero_or_pos k with h0 | h0
   ·rw [h0] at h;simp at h
   ·exact h0
  by_cases hlt:t < k
  ·rw [List.getElem?_append_left (by rw [hk];exact hlt),Nat.div_eq_of_lt hlt,Nat.mod_eq_of_lt hlt]
   rfl
  ·rw [List.getElem?_append_right (by rw [hk];omega),hk,flat_get L (t - k) (by omega)]
   have e1:t / k=(t - k) / k + 1:=by rw [Nat.div_eq_sub_div h0 (by omega)]
   have e2:(t - k) % k=t % k:=by rw [← Nat.mod_eq_sub_mod (by omega)]
   rw [e1,e2]
   rfl
include hk in
theorem flatK_list (L:List α):(flatK enc k L.toArray).toList=L.flatMap enc:=by
 apply List.ext_getElem?
 intro t
 by_cases ht:t < L.length * k
 ·rw [flat_get hk L t ht]
  have hs:t < (flatK enc k L.toArray).size:=by rw [size_flatK];simpa using ht
  have e:=get_flatK enc k L.toArray t (by simpa using ht)
  rw [getElem!_pos _ t hs] at e
  rw [Array.getElem?_toList,Array.getElem?_eq_getElem hs,e]
  have hm:t % k < (enc L[t / k]!).length:=by
   rw [hk];apply Nat.mod_lt
   rcases Nat.eq_zero_or_pos k with h0 | h0
   ·rw [h0] at ht;simp at ht
   ·exact h0
  have e3:L.toArray[t / k]! = L[t / k]!:=by simp
  rw [e3,List.getElem?_eq_getElem hm,getElem!_pos (enc L[t / k]!) (t % k) hm]
 ·rw [List.getElem?_eq_none (by rw [Array.length_toList,size_flatK];simpa using ht),List.getElem?_eq_none (by rw [flat_len hk];omega)]
variable {w W':World} {base g n cap:Nat} {e:TypeId} {L L':List α}
include hk in
theorem holds_own (h:w.ownsRow base e k (.slice (some ⟨g,0,none⟩) n cap) n (L.flatMap enc)) (hn:L.length=n):HoldsK enc k w g 0 L.toArray:=by
 obtain ⟨_,⟨h1,_⟩ | ⟨g',cap',cur,h1,_,hb,_,_,hcs,ht⟩⟩:=h
 ·cases h1
 ·cases h1
  intro j hj
  have hj':j < n * k:=by rw [size_flatK] at hj;simpa [hn] using hj
  rw [Nat.zero_add]
  refine ⟨?_,Blk.frozen (t:=e) (cs:=cur) hb j⟩
  rw [Blk.cell (t:=e) (cs:=cur) hb j]
  have e1:(L.flatMap enc)[j]?=cur[j]?:=by rw [← ht,List.getElem?_take,if_pos hj'];simp
  have e2:(flatK enc k L.toArray)[j]?=(L.flatMap enc)[j]?:=by rw [← flatK_list hk,Array.getElem?_toList]
  rw [← e1,← e2,Array.getElem?_eq_getElem hj,getElem!_pos _ j hj]
  rfl
omit [Inhabited α] in
theorem own_lt {xs:List Value} (h:w.ownsRow base e k (.slice (some ⟨g,0,none⟩) n cap) n xs):g < w.heap.size∧base ≤ g:=by
 obtain ⟨_,⟨h1,_⟩ | ⟨g',cap',cur,h1,hb0,hb,_⟩⟩:=h
 ·cases h1
 ·cases h1
  exact ⟨Blk.lt (t:=e) (cs:=cur) hb,hb0⟩
include hk in
theorem own_swk (h:w.ownsRow base e k (.slice (some ⟨g,0,none⟩) n cap) n (L.flatMap enc)) (hn':L'.length=n) (hS:SK enc k w g 0 L'.toArray W'):W'.ownsRow base e k (.slice (some ⟨g,0,none⟩) n cap) n (L'.flatMap enc):=by
 have hlt:=(own_lt h).1
 obtain ⟨_,⟨h1,_⟩ | ⟨g',cap',cur,h1,hb0,hb,h2,h3,hcs,ht⟩⟩:=h
 ·cases h1
 ·cases h1
  refine ⟨by rw [flat_len hk,hn'],.inr ⟨g,cap,putCells id 0 (flatK enc k L'.toArray) cur,rfl,hb0,?_,h2,h3,by simp [putCells,hcs],?_⟩⟩
  ·rw [hS.block g hlt]
   show (w.heap.modify g _)[g]?=_
   rw [Array.getElem?_modify,if_pos rfl,hb]
   rfl
  ·have hle:n * k ≤ cap * k:=Nat.mul_le_mul_right k h2
   apply List.ext_getElem?
   intro j
   by_cases hj:j < n * k
   ·rw [List.getElem?_take,if_pos hj]
    have hjf:j < (flatK enc k L'.toArray).size:=by rw [size_flatK];simpa [hn'] using hj
    have e2:(flatK enc k L'.toArray)[j]?=(L'.flatMap enc)[j]?:=by rw [← flatK_list hk,Array.getElem?_toList]
    rw [← e2,Array.getElem?_toList]
    unfold putCells
    rw [Array.getElem?_mapIdx,Array.getElem?_eq_getElem (show j < cur.size by omega),Option.map_some,if_pos ⟨by omega,by omega⟩,Nat.sub_zero,Array.getElem?_eq_getElem hjf,getElem!_pos _ j hjf]
    rfl
   ·rw [List.getElem?_take,if_neg hj,List.getElem?_eq_none (by rw [flat_len hk,hn'];omega)]
theorem swk_below {B:Nat} {d:Array α} (h:SK enc k w g 0 d W') (hB:B ≤ g) (hg:g < w.heap.size):Below B w W' :=
 ⟨h.os,h.tape,h.output,h.le,fun x hx=>h.heap (by omega) (by omega)⟩
omit [Inhabited α] in
theorem own_other {e2:TypeId} {k2 n2 base2:Nat} {v:Value} {xs:List Value} (h:w.ownsRow base2 e2 k2 v n2 xs) (hh:∀ x,x ≠ g→x < w.heap.size→W'.heap[x]?=w.heap[x]?) (hv:v.ownBlock ≠ some g):W'.ownsRow base2 e2 k2 v n2 xs:=by
 obtain ⟨hl,h0 | ⟨g',cap',cur,h1,hb0,hb,h2,h3,hcs,ht⟩⟩:=h
 ·exact ⟨hl,.inl h0⟩
 ·refine ⟨hl,.inr ⟨g',cap',cur,h1,hb0,?_,h2,h3,hcs,ht⟩⟩
  rw [hh g' (fun e=>hv (by rw [h1,e];rfl)) (Blk.lt (t:=e2) (cs:=cur) hb)]
  exact hb
end
end
section
open Go.RowKit
set_option maxHeartbeats 1000000 in
theorem rordErr_any (o:Od) (w:World) :
  Calls Try.prog 86 #[.agg #[.int .i64 o.id,.int .i64 o.acc,.int .i64 o.side,.int .i64 o.price,.int .i64 o.qty]] w fun e w'=>e=.returned (.int .i64 (ordErr o))∧Below w.heap.size w w':=by
 by_cases h5:o.id < 1∨100000 < o.id∨o.acc < 0∨8 ≤ o.acc
 ·have HE:=Lib.hid (show ordErr o=5 by unfold ordErr;rw [if_pos h5])
  have h0:o.id < 1∨1 ≤ o.id∧100000 < o.id∨1 ≤ o.id∧o.id ≤ 100000∧o.acc < 0∨1 ≤ o.id∧o.id ≤ 100000∧0 ≤ o.acc∧8 ≤ o.acc:=by omega
  clear h5
  rcases h0 with h1 | ⟨h1,h2⟩ | ⟨h1,h2,h3⟩ | ⟨h1,h2,h3,h4⟩
  all_goals
   go_enter Try.func86,Try.ntmps86
   go_wp2_with fail
   go_ret
   exact ⟨ret_ii HE.out.symm,(Below.refl _ _).alloc (Nat.le_refl _) _⟩
 ·obtain ⟨⟨h1,h2⟩,h3,h4⟩:(1 ≤ o.id∧o.id ≤ 100000)∧0 ≤ o.acc∧o.acc < 8:=by omega
  by_cases h6:o.side ≠ 1∧o.side ≠ -1
  ·have HE:=Lib.hid (show ordErr o=4 by unfold ordErr;rw [if_neg h5,if_pos h6])
   obtain ⟨h7,h8⟩:=h6
   have h7':(o.side != 1)=true:=by simpa using h7
   have h8':(o.side != -1)=true:=by simpa using h8
   clear h5 h7 h8
   go_enter Try.func86,Try.ntmps86
   go_wp2_with fail
   go_ret
   exact ⟨ret_ii HE.out.symm,(Below.refl _ _).alloc (Nat.le_refl _) _⟩
  ·have hs:((o.side != 1)=false)∨((o.side != 1)=true∧(o.side != -1)=false):=by
    by_cases a1:o.side=1
    ·exact .inl (by simpa using a1)
    ·exact .inr ⟨by simpa using a1,by simp;omega⟩
   by_cases h9:o.price < 1∨10000 < o.price∨o.qty < 1∨1000 < o.qty
   ·have HE:=Lib.hid (show ordErr o=3 by unfold ordErr;rw [if_neg h5,if_neg h6,if_pos h9])
    have h0:o.price < 1∨1 ≤ o.price∧10000 < o.price∨1 ≤ o.price∧o.price ≤ 10000∧o.qty < 1∨1 ≤ o.price∧o.price ≤ 10000∧1 ≤ o.qty∧1000 < o.qty:=by omega
    clear h5 h6 h9
    rcases hs with hs | ⟨hs,hs'⟩
    all_goals
     rcases h0 with g1 | ⟨g1,g2⟩ | ⟨g1,g2,g3⟩ | ⟨g1,g2,g3,g4⟩
     all_goals
      go_enter Try.func86,Try.ntmps86
      go_wp2_with fail
      go_ret
      exact ⟨ret_ii HE.out.symm,(Below.refl _ _).alloc (Nat.le_refl _) _⟩
   ·have HE:=Lib.hid (show ordErr o=0 by unfold ordErr;rw [if_neg h5,if_neg h6,if_neg h9])
    obtain ⟨g1,g2,g3,g4⟩:1 ≤ o.price∧o.price ≤ 10000∧1 ≤ o.qty∧o.qty ≤ 1000:=by omega
    clear h5 h6 h9
    rcases hs with hs | ⟨hs,hs'⟩
    all_goals
     go_enter Try.func86,Try.ntmps86
     go_wp2_with fail
     go_ret
     exact ⟨ret_ii HE.out.symm,(Below.refl _ _).alloc (Nat.le_refl _) _⟩
set_option maxHeartbeats 1000000 in
theorem rahead_any (a b:Od) (w:World) :
  Calls Try.prog 87 #[.agg #[.int .i64 a.id,.int .i64 a.acc,.int .i64 a.side,.int .i64 a.price,.int .i64 a.qty],.agg #[.int .i64 b.id,.int .i64 b.acc,.int .i64 b.side,.int .i64 b.price,.int .i64 b.qty]] w fun e w'=>e=.returned (.bool (aheadB a b))∧Below w.heap.size w w':=by
 by_cases h:a.price=b.price
 ·have HE:=Lib.hid (show aheadB a b=decide (a.id < b.id) by unfold aheadB;rw [if_pos h])
  have h':(a.price == b.price)=true:=by simpa using h
  clear h
  go_enter Try.func87,Try.ntmps87
  go_wp2_with fail
  go_ret
  exact ⟨ret_bb HE.out.symm,((Below.refl _ _).alloc (Nat.le_refl _) _).alloc (by simp) _⟩
 ·have h':(a.price == b.price)=false:=by simpa using h
  by_cases hs:a.side=1
  ·have HE:=Lib.hid (show aheadB a b=decide (b.price < a.price) by unfold aheadB;rw [if_neg h,if_pos hs])
   have hs':(a.side == 1)=true:=by simpa using hs
   clear h hs
   go_enter Try.func87,Try.ntmps87
   go_wp2_with fail
   go_ret
   exact ⟨ret_bb HE.out.symm,((Below.refl _ _).alloc (Nat.le_refl _) _).alloc (by simp) _⟩
  ·have HE:=Lib.hid (show aheadB a b=decide (a.price < b.price) by unfold aheadB;rw [if_neg h,if_neg hs])
   have hs':(a.side == 1)=false:=by simpa using hs
   clear h hs
   go_enter Try.func87,Try.ntmps87
   go_wp2_with fail
   go_ret
   exact ⟨ret_bb HE.out.symm,((Below.refl _ _).alloc (Nat.le_refl _) _).alloc (by simp) _⟩
end
section
open Go.RowKit Go.Sort Go.Shelf Go.Lib
noncomputable def odsT:TypeInfo:=(Try.prog.info? 60).get (by kernel_rfl)
noncomputable def odT:TypeInfo:=(Try.prog.info? 71).get (by kernel_rfl)
theorem swapK_od (n:Nat) (h2:2 ≤ n):Lib.swapperK n odT 25=9:=by
 have a:odT.hasPointers=false:=by kernel_rfl
 have b:odT.bytes=40:=by kernel_rfl
 have c:(n == 0)=false:=by simp;omega
 have d:(n == 1)=false:=by simp;omega
 simp [Lib.swapperK,a,b,c,d]
noncomputable def sortWorld0 (p:Option Addr) (n c:Nat) (w:World):World :=
 (w.alloc (.cells #[.slice p n c] 60)).alloc (.cells #[.pointer (some ⟨Try.prog.globals.size,60,none⟩),.pointer (some ⟨w.heap.size,0,none⟩),.int .u64 151] 200)
def encS (s:Int) (o:Od):List Value:=[.int .i64 o.id,.int .i64 o.acc,.int .i64 s,.int .i64 o.price,.int .i64 o.qty]
def atSide (s:Int) (o:Od):Od:=⟨o.id,o.acc,s,o.price,o.qty⟩
def ltS (s:Int) (a b:Od):Bool:=aheadB (atSide s a) (atSide s b)
instance:Inhabited Od:=⟨zeroOd⟩
theorem ltS_true {s:Int} {a b:Od}:ltS s a b=true ↔ (a.price=b.price∧a.id < b.id)∨(a.price ≠ b.price∧(s=1∧b.price < a.price∨s ≠ 1∧a.price < b.price)):=by
 unfold ltS aheadB atSide
 by_cases h:a.price=b.price
 ·simp [h]
 ·by_cases hs:s=1
  ·simp [h,hs]
  ·simp [h,hs]
theorem ltS_false {s:Int} {a b:Od}:ltS s a b=false ↔ ¬ ((a.price=b.price∧a.id < b.id)∨(a.price ≠ b.price∧(s=1∧b.price < a.price∨s ≠ 1∧a.price < b.price))):=by
 rw [← ltS_true];simp
theorem swo_s (s:Int):SWO (ltS s) where
 irrefl x:=by rw [ltS_false];omega
 trans x y z h1 h2:=by rw [ltS_true] at *;omega
 ntrans x y z h1 h2:=by rw [ltS_false] at *;omega
def Cells5 (W:World) (g o:Nat) (a:Od):Prop:=W.cell? ⟨g,o,none⟩=some (.int .i64 a.id)∧W.cell? ⟨g,o + 1,none⟩=some (.int .i64 a.acc)∧W.cell? ⟨g,o + 2,none⟩=some (.int .i64 a.side)∧W.cell? ⟨g,o + 3,none⟩=some (.int .i64 a.price)∧W.cell? ⟨g,o + 4,none⟩=some (.int .i64 a.qty)
set_option maxHeartbeats 2000000 in
set_option maxRecDepth 100000 in
theorem less_bids (Bp g n cap:Nat) (W:World) (a b:Od) (i j:Nat) (hc:W.cell? ⟨Bp,0,none⟩=some (.slice (some ⟨g,0,none⟩) n cap)) (ci:Cells5 W g (i * 5) a) (cj:Cells5 W g (j * 5) b) (hi:i < n) (hj:j < n) (hB:Bp < W.heap.size) (hg:g < W.heap.size) :
  Calls Try.prog 169 #[.int .i64 i,.int .i64 j,.pointer (some ⟨Bp,0,none⟩)] W fun e w'=>e=.returned (.bool (aheadB a b))∧Below W.heap.size W w':=by
 have KS:Hid (∀ X,Below W.heap.size W X→Below W.heap.size W X∧X.cell? ⟨Bp,0,none⟩=some (.slice (some ⟨g,0,none⟩) n cap) ∧
   (X.cell? ⟨g,i * 5,none⟩=some (.int .i64 a.id)∧X.cell? ⟨g,i * 5 + 1,none⟩=some (.int .i64 a.acc)∧X.cell? ⟨g,i * 5 + 2,none⟩=some (.int .i64 a.side)∧X.cell? ⟨g,i * 5 + 3,none⟩=some (.int .i64 a.price)∧X.cell? ⟨g,i * 5 + 4,none⟩=some (.int .i64 a.qty)) ∧
   (X.cell? ⟨g,j * 5,none⟩=some (.int .i64 b.id)∧X.cell? ⟨g,j * 5 + 1,none⟩=some (.int .i64 b.acc)∧X.cell? ⟨g,j * 5 + 2,none⟩=some (.int .i64 b.side)∧X.cell? ⟨g,j * 5 + 3,none⟩=some (.int .i64 b.price)∧X.cell? ⟨g,j * 5 + 4,none⟩=some (.int .i64 b.qty))):=by
  obtain ⟨a0,a1,a2,a3,a4⟩:=ci
  obtain ⟨b0,b1,b2,b3,b4⟩:=cj
  intro X hX
  have hq:=fun o=>hX.cell (p:=⟨g,o,none⟩) hg
  exact ⟨hX,(hX.cell (p:=⟨Bp,0,none⟩) hB).trans hc,⟨(hq _).trans a0,(hq _).trans a1,(hq _).trans a2,(hq _).trans a3,(hq _).trans a4⟩,(hq _).trans b0,(hq _).trans b1,(hq _).trans b2,(hq _).trans b3,(hq _).trans b4⟩
 have h0:Below W.heap.size W W:=Below.refl _ _
 clear hc ci cj
 go_enter Try.func169,Try.ntmps169
 go_wp2_with fail
 go_region_held3 (fun X=>Below W.heap.size W X∧X.cell? ⟨Bp,0,none⟩=some (.slice (some ⟨g,0,none⟩) n cap)∧(X.cell? ⟨g,i * 5,none⟩=some (.int .i64 a.id)∧X.cell? ⟨g,i * 5 + 1,none⟩=some (.int .i64 a.acc)∧X.cell? ⟨g,i * 5 + 2,none⟩=some (.int .i64 a.side)∧X.cell? ⟨g,i * 5 + 3,none⟩=some (.int .i64 a.price)∧X.cell? ⟨g,i * 5 + 4,none⟩=some (.int .i64 a.qty))∧(X.cell? ⟨g,j * 5,none⟩=some (.int .i64 b.id)∧X.cell? ⟨g,j * 5 + 1,none⟩=some (.int .i64 b.acc)∧X.cell? ⟨g,j * 5 + 2,none⟩=some (.int .i64 b.side)∧X.cell? ⟨g,j * 5 + 3,none⟩=some (.int .i64 b.price)∧X.cell? ⟨g,j * 5 + 4,none⟩=some (.int .i64 b.qty)))
  (first | (exact KS.out _ (by assumption)) | (exact KS.out _ (below_drew (by assumption))))
  ((first | (go_at_call 87;go_split_ands;(with_reducible refine (rahead_any a b _).mono ?_);rintro e W' ⟨rfl,hb⟩;have hB2:=below_next hb (by assumption))))
 go_split_ands
 clear KS
 go_wp2_with fail
 go_ret
 exact ⟨rfl,by assumption⟩
set_option maxHeartbeats 2000000 in
set_option maxRecDepth 100000 in
theorem less_asks (Bp g n cap:Nat) (W:World) (a b:Od) (i j:Nat) (hc:W.cell? ⟨Bp,1,none⟩=some (.slice (some ⟨g,0,none⟩) n cap)) (ci:Cells5 W g (i * 5) a) (cj:Cells5 W g (j * 5) b) (hi:i < n) (hj:j < n) (hB:Bp < W.heap.size) (hg:g < W.heap.size) :
  Calls Try.prog 170 #[.int .i64 i,.int .i64 j,.pointer (some ⟨Bp,0,none⟩)] W fun e w'=>e=.returned (.bool (aheadB a b))∧Below W.heap.size W w':=by
 have KS:Hid (∀ X,Below W.heap.size W X→Below W.heap.size W X∧X.cell? ⟨Bp,1,none⟩=some (.slice (some ⟨g,0,none⟩) n cap) ∧
   (X.cell? ⟨g,i * 5,none⟩=some (.int .i64 a.id)∧X.cell? ⟨g,i * 5 + 1,none⟩=some (.int .i64 a.acc)∧X.cell? ⟨g,i * 5 + 2,none⟩=some (.int .i64 a.side)∧X.cell? ⟨g,i * 5 + 3,none⟩=some (.int .i64 a.price)∧X.cell? ⟨g,i * 5 + 4,none⟩=some (.int .i64 a.qty)) ∧
   (X.cell? ⟨g,j * 5,none⟩=some (.int .i64 b.id)∧X.cell? ⟨g,j * 5 + 1,none⟩=some (.int .i64 b.acc)∧X.cell? ⟨g,j * 5 + 2,none⟩=some (.int .i64 b.side)∧X.cell? ⟨g,j * 5 + 3,none⟩=some (.int .i64 b.price)∧X.cell? ⟨g,j * 5 + 4,none⟩=some (.int .i64 b.qty))):=by
  obtain ⟨a0,a1,a2,a3,a4⟩:=ci
  obtain ⟨b0,b1,b2,b3,b4⟩:=cj
  intro X hX
  have hq:=fun o=>hX.cell (p:=⟨g,o,none⟩) hg
  exact ⟨hX,(hX.cell (p:=⟨Bp,1,none⟩) hB).trans hc,⟨(hq _).trans a0,(hq _).trans a1,(hq _).trans a2,(hq _).trans a3,(hq _).trans a4⟩,(hq _).trans b0,(hq _).trans b1,(hq _).trans b2,(hq _).trans b3,(hq _).trans b4⟩
 have h0:Below W.heap.size W W:=Below.refl _ _
 clear hc ci cj
 go_enter Try.func170,Try.ntmps170
 go_wp2_with fail
 go_region_held3 (fun X=>Below W.heap.size W X∧X.cell? ⟨Bp,1,none⟩=some (.slice (some ⟨g,0,none⟩) n cap)∧(X.cell? ⟨g,i * 5,none⟩=some (.int .i64 a.id)∧X.cell? ⟨g,i * 5 + 1,none⟩=some (.int .i64 a.acc)∧X.cell? ⟨g,i * 5 + 2,none⟩=some (.int .i64 a.side)∧X.cell? ⟨g,i * 5 + 3,none⟩=some (.int .i64 a.price)∧X.cell? ⟨g,i * 5 + 4,none⟩=some (.int .i64 a.qty))∧(X.cell? ⟨g,j * 5,none⟩=some (.int .i64 b.id)∧X.cell? ⟨g,j * 5 + 1,none⟩=some (.int .i64 b.acc)∧X.cell? ⟨g,j * 5 + 2,none⟩=some (.int .i64 b.side)∧X.cell? ⟨g,j * 5 + 3,none⟩=some (.int .i64 b.price)∧X.cell? ⟨g,j * 5 + 4,none⟩=some (.int .i64 b.qty)))
  (first | (exact KS.out _ (by assumption)) | (exact KS.out _ (below_drew (by assumption))))
  ((first | (go_at_call 87;go_split_ands;(with_reducible refine (rahead_any a b _).mono ?_);rintro e W' ⟨rfl,hb⟩;have hB2:=below_next hb (by assumption))))
 go_split_ands
 clear KS
 go_wp2_with fail
 go_ret
 exact ⟨rfl,by assumption⟩
end
section
open Go.Shelf
def Try.laysGt8_ren:Go.Shelf.Ren:=⟨fun | 8=>168 | 13=>181 | 14=>182 | 16=>184 | 15=>183 | 29=>215 | 30=>216 | 42=>228 | 49=>231 | n=>n,fun | 20=>20 | 26=>190 | 36=>200 | 0=>0 | 38=>202 | 42=>206 | 3=>3 | 4=>4 | 47=>170 | 17=>17 | 33=>197 | 34=>198 | 89=>261 | 12=>12 | 56=>227 | 82=>254 | 5=>5 | 83=>255 | 84=>256 | 85=>257 | 86=>258 | 87=>259 | n=>n,fun | n=>n⟩
theorem Try.laysGt8:Go.Proofs.LaysGt.n8 Try.prog Try.laysGt8_ren:={
 mixed:=by kernel_rfl
 f8:=Try.func168.trans (congrArg some (by kernel_rfl))
 f13:=Try.func181.trans (congrArg some (by kernel_rfl))
 f14:=Try.func182.trans (congrArg some (by kernel_rfl))
 f15:=Try.func183.trans (congrArg some (by kernel_rfl))
 f16:=Try.func184.trans (congrArg some (by kernel_rfl))
 f29:=Try.func215.trans (congrArg some (by kernel_rfl))
 f30:=Try.func216.trans (congrArg some (by kernel_rfl))
 f42:=Try.func228.trans (congrArg some (by kernel_rfl))
 f49:=Try.func231.trans (congrArg some (by kernel_rfl))
 t0:=Try.underlying0
 a0:=Try.isAgg0
 z0:=Try.sizeOf0
 v0:=Try.zeroValue0
 i0:=by kernel_rfl
 t3:=Try.underlying3
 a3:=Try.isAgg3
 z3:=Try.sizeOf3
 v3:=Try.zeroValue3
 i3:=by kernel_rfl
 t4:=Try.underlying4
 a4:=Try.isAgg4
 z4:=Try.sizeOf4
 v4:=Try.zeroValue4
 i4:=by kernel_rfl
 t5:=Try.underlying5
 a5:=Try.isAgg5
 z5:=Try.sizeOf5
 v5:=Try.zeroValue5
 i5:=by kernel_rfl
 t12:=Try.underlying12
 a12:=Try.isAgg12
 z12:=Try.sizeOf12
 v12:=Try.zeroValue12
 i12:=by kernel_rfl
 t17:=Try.underlying17
 a17:=Try.isAgg17
 z17:=Try.sizeOf17
 v17:=Try.zeroValue17
 i17:=by kernel_rfl
 t20:=Try.underlying20
 a20:=Try.isAgg20
 z20:=Try.sizeOf20
 v20:=Try.zeroValue20
 i20:=by kernel_rfl
 t26:=Try.underlying190
 a26:=Try.isAgg190
 z26:=Try.sizeOf190
 v26:=Try.zeroValue190
 i26:=by kernel_rfl
 t33:=Try.underlying197
 a33:=Try.isAgg197
 z33:=Try.sizeOf197
 v33:=Try.zeroValue197
 i33:=by kernel_rfl
 t34:=Try.underlying198
 a34:=Try.isAgg198
 z34:=Try.sizeOf198
 v34:=Try.zeroValue198
 i34:=by kernel_rfl
 t36:=Try.underlying200
 a36:=Try.isAgg200
 z36:=Try.sizeOf200
 v36:=Try.zeroValue200
 i36:=by kernel_rfl
 t38:=Try.underlying202
 a38:=Try.isAgg202
 z38:=Try.sizeOf202
 v38:=Try.zeroValue202
 i38:=by kernel_rfl
 t42:=Try.underlying206
 a42:=Try.isAgg206
 z42:=Try.sizeOf206
 v42:=Try.zeroValue206
 i42:=by kernel_rfl
 t47:=Try.underlying170
 a47:=Try.isAgg170
 z47:=Try.sizeOf170
 v47:=Try.zeroValue170
 i47:=by kernel_rfl
 t56:=Try.underlying227
 a56:=Try.isAgg227
 z56:=Try.sizeOf227
 v56:=Try.zeroValue227
 i56:=by kernel_rfl
 t82:=Try.underlying254
 a82:=Try.isAgg254
 z82:=Try.sizeOf254
 v82:=Try.zeroValue254
 i82:=by kernel_rfl
 t83:=Try.underlying255
 a83:=Try.isAgg255
 z83:=Try.sizeOf255
 v83:=Try.zeroValue255
 i83:=by kernel_rfl
 t84:=Try.underlying256
 a84:=Try.isAgg256
 z84:=Try.sizeOf256
 v84:=Try.zeroValue256
 i84:=by kernel_rfl
 t85:=Try.underlying257
 a85:=Try.isAgg257
 z85:=Try.sizeOf257
 v85:=Try.zeroValue257
 i85:=by kernel_rfl
 t86:=Try.underlying258
 a86:=Try.isAgg258
 z86:=Try.sizeOf258
 v86:=Try.zeroValue258
 i86:=by kernel_rfl
 t87:=Try.underlying259
 a87:=Try.isAgg259
 z87:=Try.sizeOf259
 v87:=Try.zeroValue259
 i87:=by kernel_rfl
 t89:=Try.underlying261
 a89:=Try.isAgg261
 z89:=Try.sizeOf261
 v89:=Try.zeroValue261
 i89:=by kernel_rfl }
end
section
open Go.RowKit Go.Sort Go.Shelf Go.Lib
theorem encS_len (s:Int):∀ x,(encS s x).length=5:=fun _=>rfl
theorem encS_one (s:Int):∀ x,∀ v ∈ encS s x,v.oneCell'=true:=by
 intro x v hv
 simp only [encS,List.mem_cons,List.not_mem_nil,or_false] at hv
 rcases hv with rfl | rfl | rfl | rfl | rfl <;> rfl
theorem cells5_of {W:World} {g s:Nat} {dk:Array Od} {side:Int} (h:HoldsK (encS side) 5 W g 0 dk) {i:Nat} (hi:i < dk.size) (hs:s=i * 5):Cells5 W g s (atSide side dk[i]!):=by
 subst hs
 have h0:=(h.cell hi (c:=0) (by omega)).1
 have h1:=(h.cell hi (c:=1) (by omega)).1
 have h2:=(h.cell hi (c:=2) (by omega)).1
 have h3:=(h.cell hi (c:=3) (by omega)).1
 have h4:=(h.cell hi (c:=4) (by omega)).1
 rw [Nat.zero_add] at h0 h1 h2 h3 h4
 exact ⟨h0,h1,h2,h3,h4⟩
theorem lessG_bids (Bp g n cap:Nat) (s:Int) (d:Array Od) (w:World) (hc:w.cell? ⟨Bp,0,none⟩=some (.slice (some ⟨g,0,none⟩) n cap)) (hne:Bp ≠ g) (hB:Bp < w.heap.size) (hg:g < w.heap.size) (hH:HoldsK (encS s) 5 w g 0 d) (hn:d.size=n) :
  LessG Try.prog 169 #[.pointer (some ⟨Bp,0,none⟩)] (encS s) 5 (ltS s) g 0 n w:=by
 intro W dk hS hd i j hi hj
 have hh:=hS.holds hg hH (hd.trans hn.symm)
 exact less_bids Bp g n cap W (atSide s dk[i]!) (atSide s dk[j]!) i j ((swk_cell hS hne hB).trans hc) (cells5_of hh (by omega) rfl) (cells5_of hh (by omega) rfl) hi hj (Nat.lt_of_lt_of_le hB hS.le) (Nat.lt_of_lt_of_le hg hS.le)
theorem lessG_asks (Bp g n cap:Nat) (s:Int) (d:Array Od) (w:World) (hc:w.cell? ⟨Bp,1,none⟩=some (.slice (some ⟨g,0,none⟩) n cap)) (hne:Bp ≠ g) (hB:Bp < w.heap.size) (hg:g < w.heap.size) (hH:HoldsK (encS s) 5 w g 0 d) (hn:d.size=n) :
  LessG Try.prog 170 #[.pointer (some ⟨Bp,0,none⟩)] (encS s) 5 (ltS s) g 0 n w:=by
 intro W dk hS hd i j hi hj
 have hh:=hS.holds hg hH (hd.trans hn.symm)
 exact less_asks Bp g n cap W (atSide s dk[i]!) (atSide s dk[j]!) i j ((swk_cell hS hne hB).trans hc) (cells5_of hh (by omega) rfl) (cells5_of hh (by omega) rfl) hi hj (Nat.lt_of_lt_of_le hB hS.le) (Nat.lt_of_lt_of_le hg hS.le)
set_option maxHeartbeats 1000000 in
set_option maxRecDepth 100000 in
theorem ins_none (lf:Fn) (la lb:Array Value) (f:Nat) (sb:Array Value) (n:Nat) (hn:n ≤ 1) (w:World) :
  Calls Try.prog 215 #[.agg #[.func lf la lb,.func (.func f) #[] sb],.int .i64 0,.int .i64 n] w fun e w'=>e=.returned (.tuple #[])∧Below w.heap.size w w':=by
 go_enter Try.func215,Try.ntmps215
 go_wp2_with fail
 refine wp_loop_rounds 1 ?_
 rw [rounds_succ]
 go_wp2
 all_goals first | (exfalso;omega) | (go_end0;exact ⟨rfl,(Below.refl _ _).alloc (Nat.le_refl _) _⟩)
set_option maxHeartbeats 1000000 in
set_option maxRecDepth 100000 in
theorem stable_tiny (lf:Fn) (la lb:Array Value) (f:Nat) (sb:Array Value) (n:Nat) (hn:n ≤ 1) (w:World) :
  Calls Try.prog 183 #[.agg #[.func lf la lb,.func (.func f) #[] sb],.int .i64 n] w fun e w'=>e=.returned (.tuple #[])∧Below w.heap.size w w':=by
 go_enter Try.func183,Try.ntmps183
 go_wp2_with fail
 obtain ⟨W1,hW1⟩:∃ W,W=w.alloc (.cells #[.func lf la lb,.func (.func f) #[] sb] 206):=⟨_,rfl⟩
 have BX:Blk W1 w.heap.size 206 #[.func lf la lb,.func (.func f) #[] sb]:=by rw [hW1];exact Blk.new w _ _
 have hb1:Below w.heap.size w W1:=by rw [hW1];exact (Below.refl _ _).alloc (Nat.le_refl _) _
 have c0:=BX.cell 0
 have c1:=BX.cell 1
 have HI:=Lib.hid (ins_none lf la lb f sb n hn W1)
 have hs1:=hb1.size
 rw [← hW1]
 clear hW1 BX
 refine wp_loop_rounds 1 ?_
 rw [rounds_succ]
 go_wp2_with (go_at_call 215;refine HI.out.mono ?_;rintro e w2 ⟨rfl,hb2⟩)
 refine wp_loop_rounds 1 ?_
 rw [rounds_succ]
 go_wp2
 all_goals first | (exfalso;omega) | (go_end0;exact ⟨rfl,hb1.trans (hb2.mono hs1)⟩)
theorem slst_tiny (p:Option Addr) (n c:Nat) (hn:n ≤ 1) (lf:Fn) (la lb:Array Value) (w:World) :
  Calls Try.prog 168 #[.iface 60 (.slice p n c),.func lf la lb] w fun e w'=>e=.returned (.tuple #[])∧Below w.heap.size w w':=by
 have hs:Below w.heap.size w (sortWorld0 p n c w):=by unfold sortWorld0;exact ((Below.refl _ _).alloc (Nat.le_refl _) _).alloc (by simp) _
 have hl:=hs.size
 rcases (show n=0∨n=1 by omega) with rfl | rfl
 ·refine Any.sort_SliceStable_of_stable Try.laysGt8 60 71 odsT odT (by kernel_rfl) (by kernel_rfl) (by kernel_rfl) (by kernel_rfl) 25 (fun _=>by kernel_rfl) p 0 c (by omega) 206 (by kernel_rfl) lf la lb w (fun w'=>Below w.heap.size w w') ?_
  show Calls Try.prog 183 _ (sortWorld0 p 0 c w) _
  exact (stable_tiny lf la lb _ _ 0 (by omega) _).mono fun e w' ⟨h1,h2⟩=>⟨h1,hs.trans (h2.mono hl)⟩
 ·refine Any.sort_SliceStable_of_stable Try.laysGt8 60 71 odsT odT (by kernel_rfl) (by kernel_rfl) (by kernel_rfl) (by kernel_rfl) 25 (fun _=>by kernel_rfl) p 1 c (by omega) 207 (by kernel_rfl) lf la lb w (fun w'=>Below w.heap.size w w') ?_
  show Calls Try.prog 183 _ (sortWorld0 p 1 c w) _
  exact (stable_tiny lf la lb _ _ 1 (by omega) _).mono fun e w' ⟨h1,h2⟩=>⟨h1,hs.trans (h2.mono hl)⟩
theorem perm_list {L:List Od} {d':Array Od} (h:PermIn 0 L.length L.toArray d'):d'.toList.Perm L∧d'.toList.length=L.length:=by
 have h1:=h.2.2
 have hs:d'.size=L.length:=h.1.trans (List.size_toArray ..)
 rw [extract_toList d' 0 L.length (by omega),extract_toList L.toArray 0 L.length (by simp)] at h1
 have q:∀ d:Array Od,(List.range' 0 (d.size - 0)).map (fun i=>d[i]!)=d.toList:=fun d=>by
  rw [← extract_toList d 0 d.size (Nat.le_refl _)]
  simp
 rw [← hs] at h1
 rw [q d'] at h1
 rw [hs,show L.length - 0=L.toArray.size - 0 by simp,q L.toArray] at h1
 exact ⟨h1,by simpa using hs⟩
theorem slst_bids (Bp g n cap base:Nat) (s:Int) (L:List Od) (w:World) (hown:w.ownsRow base 71 5 (.slice (some ⟨g,0,none⟩) n cap) n (L.flatMap (encS s))) (hL:L.length=n) (h2:2 ≤ n) (h40:n ≤ 40)
  (hc:w.cell? ⟨Bp,0,none⟩=some (.slice (some ⟨g,0,none⟩) n cap)) (hne:Bp ≠ g) (hB:Bp < w.heap.size) :
  Calls Try.prog 168 #[.iface 60 (.slice (some ⟨g,0,none⟩) n cap),.func (.func 169) #[] #[.pointer (some ⟨Bp,0,none⟩)]] w fun e w' =>
   e=.returned (.tuple #[])∧∃ L':List Od,(L'.Perm L∧L'.length=n∧SoF (ltS s) 0 n (atA L'.toArray))∧SK (encS s) 5 w g 0 L'.toArray w':=by
 have hg:=(own_lt hown).1
 have hH0:=holds_own (encS_len s) hown hL
 have hsz:L.toArray.size=n:=by simpa using hL
 have hw0:sortWorld0 (some ⟨g,0,none⟩) n cap w=(w.alloc (.cells #[.slice (some ⟨g,0,none⟩) n cap] 60)).alloc (.cells #[.pointer (some ⟨Try.prog.globals.size,60,none⟩),.pointer (some ⟨w.heap.size,0,none⟩),.int .u64 151] 200):=rfl
 have hH:HoldsK (encS s) 5 (sortWorld0 (some ⟨g,0,none⟩) n cap w) g 0 L.toArray:=by rw [hw0];exact holds_alloc (holds_alloc hH0 hg) (by simp;omega)
 have hb:Below w.heap.size w (sortWorld0 (some ⟨g,0,none⟩) n cap w):=by rw [hw0];exact ((Below.refl _ _).alloc (Nat.le_refl _) _).alloc (by simp) _
 have hl:=hb.size
 have hlg:=lessG_bids Bp g n cap s L.toArray (sortWorld0 (some ⟨g,0,none⟩) n cap w) ((hb.cell (p:=⟨Bp,0,none⟩) hB).trans hc) hne (by omega) (by omega) hH hsz
 have hsw:SwapSwapsK Try.prog 214 #[.slice (some ⟨g,0,none⟩) n cap,typeHandle Try.prog 71] (encS s) 5 g 0 n :=
  swapSwapsK_of_literal false 214 (fun args W=>run_callFunc_extern Try.func214 (by kernel_rfl) (by kernel_rfl) (by kernel_rfl) (e:=Extern.ReflectliteSwapper.swap false) (by kernel_rfl) args W)
   71 odT (by kernel_rfl) (encS s) 5 (encS_len s) (by kernel_rfl) (fun _=>by kernel_rfl) (encS_one s) g 0 n cap
 have eg:∀ args w,(callFunc 169 args).run Try.prog w=.ok (.enter 169 args) w:=enters_of Try.func169 (by kernel_rfl) rfl
 have hB:sliceBound Try.prog 71 odT 25 (some ⟨g,0,none⟩) n cap = #[.slice (some ⟨g,0,none⟩) n cap,typeHandle Try.prog 71]:=by
  unfold sliceBound;rw [swapK_od n h2];rfl
 refine Any.sort_SliceStable_of_stable Try.laysGt8 60 71 odsT odT (by kernel_rfl) (by kernel_rfl) (by kernel_rfl) (by kernel_rfl) 25 (fun _=>by kernel_rfl) (some ⟨g,0,none⟩) n cap (by omega) 214 (by rw [swapK_od n h2];kernel_rfl) (.func 169) #[] #[.pointer (some ⟨Bp,0,none⟩)] w _ ?_
 rw [hB]
 show Calls Try.prog 183 _ (sortWorld0 (some ⟨g,0,none⟩) n cap w) _
 have hgo:Calls Try.prog 183 #[.agg #[.func (.func 169) #[] #[.pointer (some ⟨Bp,0,none⟩)],.func (.func 214) #[] #[.slice (some ⟨g,0,none⟩) n cap,typeHandle Try.prog 71]],.int .i64 L.toArray.size] (sortWorld0 (some ⟨g,0,none⟩) n cap w) fun e w' =>
   e=.returned (.tuple #[])∧∃ d',(PermIn 0 L.toArray.size L.toArray d'∧SoF (ltS s) 0 L.toArray.size (atA d'))∧SK (encS s) 5 (sortWorld0 (some ⟨g,0,none⟩) n cap w) g 0 d' w':=by
  rcases (show n < 20∨20 ≤ n∧n < 40∨n=40 by omega) with h | ⟨h,h'⟩ | h
  ·exact stable_lt (encS s) 5 (encS_len s) (ltS s) (swo_s s) _ _ _ _ g 0 L.toArray _ eg (by rw [hsz];exact hlg) (by rw [hsz];exact hsw) hH (by omega) (by omega)
  ·exact stable_ge (encS s) 5 (encS_len s) (ltS s) (swo_s s) _ _ _ _ g 0 L.toArray _ eg (by rw [hsz];exact hlg) (by rw [hsz];exact hsw) hH (by omega) (by omega) (by omega)
  ·exact stable_40 (encS s) 5 (encS_len s) (ltS s) (swo_s s) _ _ _ _ g 0 L.toArray _ eg (by rw [hsz];exact hlg) (by rw [hsz];exact hsw) hH (by omega) (by omega)
 rw [hsz] at hgo
 refine hgo.mono ?_
 rintro e w' ⟨rfl,d',⟨hp,hs⟩,hS⟩
 rw [← hL] at hp
 obtain ⟨p1,p2⟩:=perm_list hp
 refine ⟨rfl,d'.toList,⟨p1,p2.trans hL,by simpa using hs⟩,?_⟩
 rw [hw0] at hS
 have:=swk_base (swk_base hS)
 simpa using this
theorem slst_asks (Bp g n cap base:Nat) (s:Int) (L:List Od) (w:World) (hown:w.ownsRow base 71 5 (.slice (some ⟨g,0,none⟩) n cap) n (L.flatMap (encS s))) (hL:L.length=n) (h2:2 ≤ n) (h40:n ≤ 40)
  (hc:w.cell? ⟨Bp,1,none⟩=some (.slice (some ⟨g,0,none⟩) n cap)) (hne:Bp ≠ g) (hB:Bp < w.heap.size) :
  Calls Try.prog 168 #[.iface 60 (.slice (some ⟨g,0,none⟩) n cap),.func (.func 170) #[] #[.pointer (some ⟨Bp,0,none⟩)]] w fun e w' =>
   e=.returned (.tuple #[])∧∃ L':List Od,(L'.Perm L∧L'.length=n∧SoF (ltS s) 0 n (atA L'.toArray))∧SK (encS s) 5 w g 0 L'.toArray w':=by
 have hg:=(own_lt hown).1
 have hH0:=holds_own (encS_len s) hown hL
 have hsz:L.toArray.size=n:=by simpa using hL
 have hw0:sortWorld0 (some ⟨g,0,none⟩) n cap w=(w.alloc (.cells #[.slice (some ⟨g,0,none⟩) n cap] 60)).alloc (.cells #[.pointer (some ⟨Try.prog.globals.size,60,none⟩),.pointer (some ⟨w.heap.size,0,none⟩),.int .u64 151] 200):=rfl
 have hH:HoldsK (encS s) 5 (sortWorld0 (some ⟨g,0,none⟩) n cap w) g 0 L.toArray:=by rw [hw0];exact holds_alloc (holds_alloc hH0 hg) (by simp;omega)
 have hb:Below w.heap.size w (sortWorld0 (some ⟨g,0,none⟩) n cap w):=by rw [hw0];exact ((Below.refl _ _).alloc (Nat.le_refl _) _).alloc (by simp) _
 have hl:=hb.size
 have hlg:=lessG_asks Bp g n cap s L.toArray (sortWorld0 (some ⟨g,0,none⟩) n cap w) ((hb.cell (p:=⟨Bp,1,none⟩) hB).trans hc) hne (by omega) (by omega) hH hsz
 have hsw:SwapSwapsK Try.prog 214 #[.slice (some ⟨g,0,none⟩) n cap,typeHandle Try.prog 71] (encS s) 5 g 0 n :=
  swapSwapsK_of_literal false 214 (fun args W=>run_callFunc_extern Try.func214 (by kernel_rfl) (by kernel_rfl) (by kernel_rfl) (e:=Extern.ReflectliteSwapper.swap false) (by kernel_rfl) args W)
   71 odT (by kernel_rfl) (encS s) 5 (encS_len s) (by kernel_rfl) (fun _=>by kernel_rfl) (encS_one s) g 0 n cap
 have eg:∀ args w,(callFunc 170 args).run Try.prog w=.ok (.enter 170 args) w:=enters_of Try.func170 (by kernel_rfl) rfl
 have hB:sliceBound Try.prog 71 odT 25 (some ⟨g,0,none⟩) n cap = #[.slice (some ⟨g,0,none⟩) n cap,typeHandle Try.prog 71]:=by
  unfold sliceBound;rw [swapK_od n h2];rfl
 refine Any.sort_SliceStable_of_stable Try.laysGt8 60 71 odsT odT (by kernel_rfl) (by kernel_rfl) (by kernel_rfl) (by kernel_rfl) 25 (fun _=>by kernel_rfl) (some ⟨g,0,none⟩) n cap (by omega) 214 (by rw [swapK_od n h2];kernel_rfl) (.func 170) #[] #[.pointer (some ⟨Bp,0,none⟩)] w _ ?_
 rw [hB]
 show Calls Try.prog 183 _ (sortWorld0 (some ⟨g,0,none⟩) n cap w) _
 have hgo:Calls Try.prog 183 #[.agg #[.func (.func 170) #[] #[.pointer (some ⟨Bp,0,none⟩)],.func (.func 214) #[] #[.slice (some ⟨g,0,none⟩) n cap,typeHandle Try.prog 71]],.int .i64 L.toArray.size] (sortWorld0 (some ⟨g,0,none⟩) n cap w) fun e w' =>
   e=.returned (.tuple #[])∧∃ d',(PermIn 0 L.toArray.size L.toArray d'∧SoF (ltS s) 0 L.toArray.size (atA d'))∧SK (encS s) 5 (sortWorld0 (some ⟨g,0,none⟩) n cap w) g 0 d' w':=by
  rcases (show n < 20∨20 ≤ n∧n < 40∨n=40 by omega) with h | ⟨h,h'⟩ | h
  ·exact stable_lt (encS s) 5 (encS_len s) (ltS s) (swo_s s) _ _ _ _ g 0 L.toArray _ eg (by rw [hsz];exact hlg) (by rw [hsz];exact hsw) hH (by omega) (by omega)
  ·exact stable_ge (encS s) 5 (encS_len s) (ltS s) (swo_s s) _ _ _ _ g 0 L.toArray _ eg (by rw [hsz];exact hlg) (by rw [hsz];exact hsw) hH (by omega) (by omega) (by omega)
  ·exact stable_40 (encS s) 5 (encS_len s) (ltS s) (swo_s s) _ _ _ _ g 0 L.toArray _ eg (by rw [hsz];exact hlg) (by rw [hsz];exact hsw) hH (by omega) (by omega)
 rw [hsz] at hgo
 refine hgo.mono ?_
 rintro e w' ⟨rfl,d',⟨hp,hs⟩,hS⟩
 rw [← hL] at hp
 obtain ⟨p1,p2⟩:=perm_list hp
 refine ⟨rfl,d'.toList,⟨p1,p2.trans hL,by simpa using hs⟩,?_⟩
 rw [hw0] at hS
 have:=swk_base (swk_base hS)
 simpa using this
end
section
structure Fl where
 maker:Int
 taker:Int
 macc:Int
 tacc:Int
 side:Int
 price:Int
 qty:Int
theorem Fl.ext' {a b:Fl} (h1:a.maker=b.maker) (h2:a.taker=b.taker) (h3:a.macc=b.macc) (h4:a.tacc=b.tacc) (h5:a.side=b.side) (h6:a.price=b.price) (h7:a.qty=b.qty):a=b:=by
 obtain ⟨a1,a2,a3,a4,a5,a6,a7⟩:=a
 obtain ⟨b1,b2,b3,b4,b5,b6,b7⟩:=b
 simp only at h1 h2 h3 h4 h5 h6 h7
 subst h1 h2 h3 h4 h5 h6 h7;rfl
def fillOf (o x:Od) (n:Int):Fl:=⟨x.id,o.id,x.acc,o.acc,o.side,x.price,n⟩
def takeL (o:Od):Int→List Od→List Od × List Fl × Int × Bool
 | left,[]=>([],[],left,false)
 | left,x :: l=>if left ≤ 0 then (x :: l,[],left,false) else if crossesB o x.price=false then (x :: l,[],left,false) else if x.acc=o.acc then (x :: l,[],left,true)
  else if left < x.qty then ({ x with qty:=x.qty - left } :: l,[fillOf o x left],0,false)
  else ((takeL o (left - x.qty) l).1,fillOf o x x.qty :: (takeL o (left - x.qty) l).2.1,(takeL o (left - x.qty) l).2.2)
end
section
open Go.RowKit
def flCells:List Fl→List Value
 | []=>[]
 | f :: l=>.int .i64 f.maker :: .int .i64 f.taker :: .int .i64 f.macc :: .int .i64 f.tacc :: .int .i64 f.side :: .int .i64 f.price :: .int .i64 f.qty :: flCells l
theorem step_app {P:Program} {ops:Array Oper} {o:Oper} {a:Act} {w:World} {K:Act→World→Prop} {Q:Exit→Act→World→Prop} {X:Prop} (hgd:o.guard=none) (s x:Operand) (t:TypeId)
  (ho:o.op=.call { callee:=.builtin .append,args:=#[s,x],argTypes:=#[t,t] })
  (base e k bytes:Nat) (E:Elem P t e k bytes) (v:Value) (n:Nat) (xs:List Value) (hs:a.eval s=v) (hown:w.ownsRow base e k v n xs)
  (B:Nat) (A:Option Addr) (m c:Nat) (news:List Value) (hx:a.eval x=.slice A m c) (hr:Rd w B k A m c news) (h1:∀ u ∈ news,u.oneCell'=true)
  (hlen:n + m ≤ maxLen) (hbytes:(n + m) * bytes ≤ 140737488355328) (hbase:base ≤ w.heap.size)
  (h:∀ v' w',w'.ownsRow base e k v' (n + m) (xs ++ news)→Below base w w'→w.grownBy w' v.ownBlock→(v'.ownBlock=v.ownBlock∨v'.ownBlock=some w.heap.size)→K (a.put o.dst v') w') :
  if Region.wanted o (yielded ops a.tmps)=true then Oper.wp P o a w K Q else X:=by
 rw [if_pos (show Region.wanted o (yielded ops a.tmps)=true by simp [Region.wanted,hgd])]
 exact wp_app s x t ho base e k bytes E v n xs hs hown B A m c news hx hr h1 hlen hbytes hbase h
theorem grown_only {w w':World} {b:Option Nat} (h:w.grownBy w' b):Only w w' b:=fun k hk hn=>h.block k hk hn
end
section
open Go.RowKit
def AccCells (w:World) (base:Nat):List Ac→List Value→Prop
 | [],xs=>xs = []
 | a :: L,xs=>∃ A c ys,xs=.int .i64 a.id :: .int .i64 a.bal :: .slice A a.pos.length c :: ys∧w.ownsRow base 3 1 (.slice A a.pos.length c) a.pos.length (ints a.pos)∧a.pos.length * 8 ≤ 140737488355328∧AccCells w base L ys
theorem AccCells.mono {w w':World} {base base':Nat} (hk:∀ v n xs,w.ownsRow base 3 1 v n xs→w'.ownsRow base' 3 1 v n xs):∀ {L:List Ac} {xs:List Value},AccCells w base L xs→AccCells w' base' L xs
 | [],_,h=>h
 | _ :: _,_,⟨A,c,ys,h1,h2,h3,h4⟩=>⟨A,c,ys,h1,hk _ _ _ h2,h3,h4.mono hk⟩
theorem AccCells.append {w:World} {base:Nat} {M:List Ac} {ys:List Value} (h2:AccCells w base M ys):∀ {L:List Ac} {xs:List Value},AccCells w base L xs→AccCells w base (L ++ M) (xs ++ ys)
 | [],_,h=>by
  have h:_ = []:=h
  subst h;exact h2
 | _ :: _,_,⟨A,c,zs,h1,h3,h4,h5⟩=>by subst h1;exact ⟨A,c,zs ++ ys,rfl,h3,h4,AccCells.append h2 h5⟩
theorem AccCells.len {w:World} {base:Nat}:∀ {L:List Ac} {xs:List Value},AccCells w base L xs→xs.length=L.length * 3
 | [],_,h=>by
  have h:_ = []:=h
  subst h;rfl
 | _ :: L,_,⟨A,c,zs,h1,_,_,h5⟩=>by subst h1;have:=h5.len;simp only [List.length_cons];omega
theorem AccCells.at_ {w:World} {base:Nat}:∀ {L:List Ac} {xs:List Value},AccCells w base L xs→∀ {i:Nat} {a:Ac},L[i]?=some a →
  ∃ A c,xs[i * 3]?=some (.int .i64 a.id)∧xs[i * 3 + 1]?=some (.int .i64 a.bal)∧xs[i * 3 + 2]?=some (.slice A a.pos.length c)∧w.ownsRow base 3 1 (.slice A a.pos.length c) a.pos.length (ints a.pos)∧a.pos.length * 8 ≤ 140737488355328
 | [],_,_,i,a,ha=>by simp at ha
 | _ :: _,_,⟨A,c,zs,h1,h3,h4,h5⟩,0,a,ha=>by
  subst h1
  simp only [List.getElem?_cons_zero,Option.some.injEq] at ha
  subst ha
  exact ⟨A,c,rfl,rfl,rfl,h3,h4⟩
 | _ :: _,_,⟨A,c,zs,h1,h3,h4,h5⟩,i + 1,a,ha=>by
  subst h1
  simp only [List.getElem?_cons_succ] at ha
  obtain ⟨A',c',k1,k2,k3,k4⟩:=h5.at_ ha
  refine ⟨A',c',?_,?_,?_,k4⟩
  ·rw [show (i + 1) * 3=i * 3 + 1 + 1 + 1 by omega];exact k1
  ·rw [show (i + 1) * 3 + 1=i * 3 + 1 + 1 + 1 + 1 by omega];exact k2
  ·rw [show (i + 1) * 3 + 2=i * 3 + 2 + 1 + 1 + 1 by omega];exact k3
theorem AccCells.one {w:World} {base:Nat}:∀ {L:List Ac} {xs:List Value},AccCells w base L xs→∀ u ∈ xs,u.oneCell'=true
 | [],_,h=>by
  have h:_ = []:=h
  subst h;simp
 | _ :: L,_,⟨A,c,zs,h1,_,_,h5⟩=>by
  subst h1
  intro u hu
  simp only [List.mem_cons] at hu
  rcases hu with rfl | rfl | rfl | hu
  ·rfl
  ·rfl
  ·rfl
  ·exact h5.one u hu
def OwnAccs (w:World) (base:Nat) (v:Value) (n:Nat) (L:List Ac):Prop:=∃ xs,w.ownsRow base 37 3 v n xs∧AccCells w base L xs
theorem OwnAccs.nil (w:World) (base:Nat):OwnAccs w base (.slice none 0 0) 0 []:=⟨[],World.ownsRow_nil _ _ _ _,rfl⟩
theorem OwnAccs.below {w w':World} {base n B:Nat} {v:Value} {L:List Ac} (h:OwnAccs w base v n L) (hb:Below B w w') (hB:w.heap.size ≤ B):OwnAccs w' base v n L:=by
 obtain ⟨xs,h1,h2⟩:=h
 exact ⟨xs,own_below h1 hb hB,h2.mono fun _ _ _ h=>own_below h hb hB⟩
theorem OwnAccs.len {w:World} {base n:Nat} {v:Value} {L:List Ac} (h:OwnAccs w base v n L):L.length=n:=by
 obtain ⟨xs,h1,h2⟩:=h
 have:=h2.len
 have:=h1.1
 omega
theorem OwnAccs.read {w:World} {base n c:Nat} {A:Option Addr} {L:List Ac} (h:OwnAccs w base (.slice A n c) n L):RdL shAcc w w.heap.size A n c L:=by
 have hl:=h.len
 obtain ⟨xs,h1,h2⟩:=h
 have hr:=Rd.of_own h1
 refine ⟨hl,hr.le,hr.cap,hr.nil,fun hn=>?_⟩
 obtain ⟨b,o,e,hb,hc⟩:=hr.at_ hn
 refine ⟨b,o,e,hb,fun i a ha=>?_⟩
 obtain ⟨A2,c2,k1,k2,k3,k4,k5⟩:=h2.at_ ha
 exact ⟨A2,c2,hc _ _ k1,by rw [Nat.add_assoc];exact hc _ _ k2,by rw [Nat.add_assoc];exact hc _ _ k3,Rd.of_own k4,k5⟩
end
section
open Go.RowKit
structure Tk (w wr:World) (base:Nat) (B1:Array Value) (o:Od) (Lo L0 M:List Od) (fs:List Fl) (left:Int) (NX:Nat) (vf vo vx:Value):Prop where
 bel:Below w.heap.size w wr
 one:Blk wr w.heap.size 62 B1
 two:Blk wr (w.heap.size + 1) 71 #[.int .i64 o.id,.int .i64 o.acc,.int .i64 o.side,.int .i64 o.price,.int .i64 o.qty]
 three:Blk wr (w.heap.size + 1 + 1) 62 #[.slice none 0 0,.slice none 0 0]
 low:w.heap.size + 1 + 1 < base
 high:base ≤ wr.heap.size
 rowO:wr.ownsRow base 71 5 vo Lo.length (odCells Lo)
 rowX:wr.ownsRow base 71 5 vx NX (odCells M)
 lenX:M.length=NX
 rowF:wr.ownsRow base 87 7 vf fs.length (flCells fs)
 ox:∀ k,vo.ownBlock=some k→vx.ownBlock ≠ some k
 fo:∀ k,vo.ownBlock=some k→vf.ownBlock ≠ some k
 fx:∀ k,vx.ownBlock=some k→vf.ownBlock ≠ some k
 side:SideOk (-o.side) M
 take:takeL o o.qty L0=((takeL o left M).1,fs ++ (takeL o left M).2.1,(takeL o left M).2.2)
 left_:0 ≤ left∧left ≤ o.qty
 cnt:fs.length + M.length ≤ 40∨left=0∧fs.length + M.length ≤ 41
theorem Tk.below {w wr w1:World} {base:Nat} {B1:Array Value} {o:Od} {Lo L0 M:List Od} {fs:List Fl} {left:Int} {NX:Nat} {vf vo vx:Value} (h:Tk w wr base B1 o Lo L0 M fs left NX vf vo vx) (hb:Below wr.heap.size wr w1):Tk w w1 base B1 o Lo L0 M fs left NX vf vo vx :=
 ⟨h.bel.trans (hb.mono h.bel.size),h.one.below hb h.one.lt,h.two.below hb h.two.lt,h.three.below hb h.three.lt,h.low,Nat.le_trans h.high hb.size,own_below h.rowO hb (Nat.le_refl _),own_below h.rowX hb (Nat.le_refl _),h.lenX,own_below h.rowF hb (Nat.le_refl _),h.ox,h.fo,h.fx,h.side,h.take,h.left_,h.cnt⟩
theorem Blk.only {w w':World} {g:Nat} {t:TypeId} {cs:Array Value} {b:Option Nat} (h:Blk w g t cs) (ho:Only w w' b) (hne:some g ≠ b):Blk w' g t cs:=(ho g h.lt hne).trans h
end
section
open Go.RowKit
structure Kept (S:List TypeId) (w w':World):Prop where
 size:w.heap.size ≤ w'.heap.size
 blk:∀ g t cs,Blk w g t cs→t ∉ S→Blk w' g t cs
section
variable {S T:List TypeId} {a b c:World}
theorem Kept.refl (S:List TypeId) (w:World):Kept S w w:=⟨Nat.le_refl _,fun _ _ _ h _=>h⟩
theorem Kept.trans (h:Kept S a b) (g:Kept S b c):Kept S a c:=⟨Nat.le_trans h.size g.size,fun x t cs hx ht=>g.blk x t cs (h.blk x t cs hx ht) ht⟩
theorem Kept.mono (h:Kept S a b) (hS:∀ t ∈ S,t ∈ T):Kept T a b:=⟨h.size,fun x t cs hx ht=>h.blk x t cs hx fun hs=>ht (hS t hs)⟩
theorem Kept.of_below (S:List TypeId) (h:Below a.heap.size a b):Kept S a b:=⟨h.size,fun _ _ _ hg _=>hg.below h hg.lt⟩
theorem Kept.below (h:Kept S a b) (g:Below b.heap.size b c):Kept S a c:=h.trans (.of_below S g)
theorem Kept.alloc (h:Kept S a b) (o:Obj):Kept S a (b.alloc o):=h.trans ⟨by simp,fun _ _ _ hg _=>hg.alloc o⟩
theorem Kept.drew (h:Kept S a b):Kept S a b.drew:=⟨h.size,h.blk⟩
theorem Kept.drewN (h:Kept S a b) (q:Nat):Kept S a (b.drewN q):=⟨h.size,h.blk⟩
theorem size_setCell (w:World) (p:Addr) (u:Value):(w.setCell p u).heap.size=w.heap.size:=by simp [World.setCell]
theorem Kept.set (h:Kept S a b) {g:Nat} {t:TypeId} {cs:Array Value} (hg:Blk b g t cs) (ht:t ∈ S) (i:Nat) (u:Value):Kept S a (b.setCell ⟨g,i,none⟩ u):=by
 refine h.trans ⟨by rw [size_setCell];exact Nat.le_refl _,fun x t' cs' hx ht'=>?_⟩
 by_cases e:x=g
 ·subst e
  unfold Blk at hg hx
  rw [hg] at hx
  injection hx with hx
  injection hx with _ hx
  subst hx
  exact absurd ht ht'
 ·exact hx.far e u
theorem Kept.only (h:Kept S a b) {e k n:Nat} {base:Nat} {v:Value} {xs:List Value} (hown:b.ownsRow base e k v n xs) (ho:Only b c v.ownBlock) (hs:b.heap.size ≤ c.heap.size) (he:e ∈ S):Kept S a c:=by
 refine h.trans ⟨hs,fun x t cs hx ht=>?_⟩
 refine hx.only ho fun hv=>?_
 obtain ⟨_,⟨rfl,_⟩ | ⟨g,cap,cur,rfl,_,hg,_⟩⟩:=hown
 ·simp [Value.ownBlock] at hv
 ·have:x=g:=by simpa [Value.ownBlock] using hv
  subst this
  unfold Blk at hx
  rw [hg] at hx
  injection hx with hx
  injection hx with _ hx
  subst hx
  exact absurd he ht
theorem Kept.grown (h:Kept S a b) {e k n:Nat} {base:Nat} {v:Value} {xs:List Value} (hown:b.ownsRow base e k v n xs) (hg:b.grownBy c v.ownBlock) (he:e ∈ S):Kept S a c:=h.only hown (grown_only hg) hg.size he
theorem Kept.own (h:Kept S a b) {e k n:Nat} {base:Nat} {v:Value} {xs:List Value} (ho:a.ownsRow base e k v n xs) (he:e ∉ S):b.ownsRow base e k v n xs:=by
 obtain ⟨hl,h1 | ⟨g,cap,cur,rfl,h1,h2,h3⟩⟩:=ho
 ·exact ⟨hl,.inl h1⟩
 ·exact ⟨hl,.inr ⟨g,cap,cur,rfl,h1,h.blk g e cur h2 he,h3⟩⟩
theorem Blk.kept {g:Nat} {t:TypeId} {cs:Array Value} (hb:Blk a g t cs) (h:Kept S a b) (ht:t ∉ S):Blk b g t cs:=h.blk g t cs hb ht
end
theorem own_store {w:World} {base e k n c g:Nat} {xs:List Value} (h:w.ownsRow base e k (.slice (some ⟨g,0,none⟩) n c) n xs) (j:Nat) (u:Value):(w.setCell ⟨g,j,none⟩ u).ownsRow base e k (.slice (some ⟨g,0,none⟩) n c) n (xs.set j u):=(h.stored j u).1
theorem own_blk {w:World} {base e k n c:Nat} {A:Option Addr} {xs:List Value} (h:w.ownsRow base e k (.slice A n c) n xs) (hn:0 < n):∃ g cs,A=some ⟨g,0,none⟩∧base ≤ g∧Blk w g e cs:=by
 obtain ⟨_,⟨hv,h0⟩ | ⟨g,cap,cur,hv,h1,h2,_⟩⟩:=h
 ·omega
 ·injection hv with hv _ _
  exact ⟨g,cur,hv,h1,h2⟩
end
section
open Go.RowKit
theorem Blk.c7 {w:World} {g:Nat} {t:TypeId} {a0 a1 a2 a3 a4 a5 a6:Value} (h:Blk w g t #[a0,a1,a2,a3,a4,a5,a6]) :
  (w.cell? ⟨g,0,none⟩=some a0∧w.cell? ⟨g,1,none⟩=some a1∧w.cell? ⟨g,2,none⟩=some a2∧w.cell? ⟨g,3,none⟩=some a3∧w.cell? ⟨g,4,none⟩=some a4∧w.cell? ⟨g,5,none⟩=some a5∧w.cell? ⟨g,6,none⟩=some a6) ∧
   w.frozen? ⟨g,0,none⟩=false∧w.frozen? ⟨g,1,none⟩=false∧w.frozen? ⟨g,2,none⟩=false∧w.frozen? ⟨g,3,none⟩=false∧w.frozen? ⟨g,4,none⟩=false∧w.frozen? ⟨g,5,none⟩=false∧w.frozen? ⟨g,6,none⟩=false :=
 ⟨⟨h.cell 0,h.cell 1,h.cell 2,h.cell 3,h.cell 4,h.cell 5,h.cell 6⟩,h.frozen 0,h.frozen 1,h.frozen 2,h.frozen 3,h.frozen 4,h.frozen 5,h.frozen 6⟩
end
section
structure Vn where
 accs:List Ac
 mks:List Mk
 ins:Int
 resid:Int
 next:Int
 inn:Int
 out:Int
structure Ev where
 kind:Int
 err:Int
 market:Int
 id:Int
 acc:Int
 n:Int
 f:Fl
structure Dk where
 v:Vn
 ev:List Ev
end
end Go.Proofs.Ytockodmbhnlheaa
