/-
  THE LAW MatchSays: holds for every input, with no condition. (Joined texts: SSl, ShelfSst, SSo, OwnA, Kept, Blk, VenuePure, VnMem, RBookOf, ROrders.)
-/
import Derived.Test.YtockodmbhnlheaaMatchSaysL
import Derived.Test.YtockodmbhnlheaaMatchSaysJ
import Derived.Test.YtockodmbhnlheaaMatchSaysB
import Derived.Shelf.GgSortFunc.SmallK
import Derived.Laws.Externs
import Derived.Deep.RegionHeld3
import Derived.Test.YtockodmbhnlheaaProg
import Derived.Test.YtockodmbhnlheaaMatchSaysA
import Derived.Maps.AppendAt
import Derived.Laws.AppendOwnNone
import Derived.OwnWalk
import Derived.Maps.Own
import Derived.Maps.OwnOps
import Derived.Maps.Views
import Derived.WalkKit
import Derived.Deep.Draws
import Derived.IntWalk
import Derived.Test.YtockodmbhnlheaaMatchSaysK
import Derived.Shelf.SlSortFuncK.SWK
import Derived.Lib.Hide
import Derived.Deep.QuietTactic
import Derived.BigQuiet
import Derived.Deep.DeepCutAuto
import Derived.WalkSpells
import Derived.WalkLawsBesides
import Derived.Sort.WalkA
import Derived.Deep.Cut
import Derived.Sort.LotA
import Derived.Shelf.GgSortMore.Stable
import Derived.Test.YtockodmbhnlheaaMatchSaysF
import Derived.Test.YtockodmbhnlheaaMatchSaysC
import Derived.Lib.AppendZeros
import Derived.Test.YtockodmbhnlheaaMatchSaysE
import Derived.Laws.CopyOwn
import Derived.Lib.AppendZerosOnto
import Derived.Lib.Overlaps
import Derived.Deep.RegionLaw
import Derived.Test.YtockodmbhnlheaaMatchSaysD
namespace Go.Proofs.Ytockodmbhnlheaa
section
open Go.RowKit Go.Sort Go.Shelf Go.Lib
noncomputable def odsT:TypeInfo:=(Try.prog.info? 60).get (by kernel_rfl)
noncomputable def odT:TypeInfo:=(Try.prog.info? 71).get (by kernel_rfl)
theorem swapK_od (n:Nat) (h2:2 ≤ n):Lib.swapperK n odT 25=9:=by
 have a:odT.hasPointers=false:=by kernel_rfl
 have b:odT.bytes=40:=by kernel_rfl
 have c:(n == 0)=false:=by simp;omega
 have d:(n == 1)=false:=by simp;omega
 simp [Lib.swapperK,a,b,c,d]
noncomputable def sortWorld0 (p:Option Addr) (n c:Nat) (w:World):World :=
 (w.alloc (.cells #[.slice p n c] 60)).alloc (.cells #[.pointer (some ⟨Try.prog.globals.size,60,none⟩),.pointer (some ⟨w.heap.size,0,none⟩),.int .u64 151] 200)
def encS (s:Int) (o:Od):List Value:=[.int .i64 o.id,.int .i64 o.acc,.int .i64 s,.int .i64 o.price,.int .i64 o.qty]
def atSide (s:Int) (o:Od):Od:=⟨o.id,o.acc,s,o.price,o.qty⟩
def ltS (s:Int) (a b:Od):Bool:=aheadB (atSide s a) (atSide s b)
instance:Inhabited Od:=⟨zeroOd⟩
theorem ltS_true {s:Int} {a b:Od}:ltS s a b=true ↔ (a.price=b.price∧a.id < b.id)∨(a.price ≠ b.price∧(s=1∧b.price < a.price∨s ≠ 1∧a.price < b.price)):=by
 unfold ltS aheadB atSide
 by_cases h:a.price=b.price
 ·simp [h]
 ·by_cases hs:s=1
  ·simp [h,hs]
  ·simp [h,hs]
theorem ltS_false {s:Int} {a b:Od}:ltS s a b=false ↔ ¬ ((a.price=b.price∧a.id < b.id)∨(a.price ≠ b.price∧(s=1∧b.price < a.price∨s ≠ 1∧a.price < b.price))):=by
 rw [← ltS_true];simp
theorem swo_s (s:Int):SWO (ltS s) where
 irrefl x:=by rw [ltS_false];omega
 trans x y z h1 h2:=by rw [ltS_true] at *;omega
 ntrans x y z h1 h2:=by rw [ltS_false] at *;omega
def Cells5 (W:World) (g o:Nat) (a:Od):Prop:=W.cell? ⟨g,o,none⟩=some (.int .i64 a.id)∧W.cell? ⟨g,o + 1,none⟩=some (.int .i64 a.acc)∧W.cell? ⟨g,o + 2,none⟩=some (.int .i64 a.side)∧W.cell? ⟨g,o + 3,none⟩=some (.int .i64 a.price)∧W.cell? ⟨g,o + 4,none⟩=some (.int .i64 a.qty)
set_option maxHeartbeats 2000000 in
set_option maxRecDepth 100000 in
theorem less_bids (Bp g n cap:Nat) (W:World) (a b:Od) (i j:Nat) (hc:W.cell? ⟨Bp,0,none⟩=some (.slice (some ⟨g,0,none⟩) n cap)) (ci:Cells5 W g (i * 5) a) (cj:Cells5 W g (j * 5) b) (hi:i < n) (hj:j < n) (hB:Bp < W.heap.size) (hg:g < W.heap.size) :
  Calls Try.prog 169 #[.int .i64 i,.int .i64 j,.pointer (some ⟨Bp,0,none⟩)] W fun e w'=>e=.returned (.bool (aheadB a b))∧Below W.heap.size W w':=by
 have KS:Hid (∀ X,Below W.heap.size W X→Below W.heap.size W X∧X.cell? ⟨Bp,0,none⟩=some (.slice (some ⟨g,0,none⟩) n cap) ∧
   (X.cell? ⟨g,i * 5,none⟩=some (.int .i64 a.id)∧X.cell? ⟨g,i * 5 + 1,none⟩=some (.int .i64 a.acc)∧X.cell? ⟨g,i * 5 + 2,none⟩=some (.int .i64 a.side)∧X.cell? ⟨g,i * 5 + 3,none⟩=some (.int .i64 a.price)∧X.cell? ⟨g,i * 5 + 4,none⟩=some (.int .i64 a.qty)) ∧
   (X.cell? ⟨g,j * 5,none⟩=some (.int .i64 b.id)∧X.cell? ⟨g,j * 5 + 1,none⟩=some (.int .i64 b.acc)∧X.cell? ⟨g,j * 5 + 2,none⟩=some (.int .i64 b.side)∧X.cell? ⟨g,j * 5 + 3,none⟩=some (.int .i64 b.price)∧X.cell? ⟨g,j * 5 + 4,none⟩=some (.int .i64 b.qty))):=by
  obtain ⟨a0,a1,a2,a3,a4⟩:=ci
  obtain ⟨b0,b1,b2,b3,b4⟩:=cj
  intro X hX
  have hq:=fun o=>hX.cell (p:=⟨g,o,none⟩) hg
  exact ⟨hX,(hX.cell (p:=⟨Bp,0,none⟩) hB).trans hc,⟨(hq _).trans a0,(hq _).trans a1,(hq _).trans a2,(hq _).trans a3,(hq _).trans a4⟩,(hq _).trans b0,(hq _).trans b1,(hq _).trans b2,(hq _).trans b3,(hq _).trans b4⟩
 have h0:Below W.heap.size W W:=Below.refl _ _
 clear hc ci cj
 go_enter Try.func169,Try.ntmps169
 go_wp2_with fail
 go_region_held3 (fun X=>Below W.heap.size W X∧X.cell? ⟨Bp,0,none⟩=some (.slice (some ⟨g,0,none⟩) n cap)∧(X.cell? ⟨g,i * 5,none⟩=some (.int .i64 a.id)∧X.cell? ⟨g,i * 5 + 1,none⟩=some (.int .i64 a.acc)∧X.cell? ⟨g,i * 5 + 2,none⟩=some (.int .i64 a.side)∧X.cell? ⟨g,i * 5 + 3,none⟩=some (.int .i64 a.price)∧X.cell? ⟨g,i * 5 + 4,none⟩=some (.int .i64 a.qty))∧(X.cell? ⟨g,j * 5,none⟩=some (.int .i64 b.id)∧X.cell? ⟨g,j * 5 + 1,none⟩=some (.int .i64 b.acc)∧X.cell? ⟨g,j * 5 + 2,none⟩=some (.int .i64 b.side)∧X.cell? ⟨g,j * 5 + 3,none⟩=some (.int .i64 b.price)∧X.cell? ⟨g,j * 5 + 4,none⟩=some (.int .i64 b.qty)))
  (first | (exact KS.out _ (by assumption)) | (exact KS.out _ (below_drew (by assumption))))
  ((first | (go_at_call 87;go_split_ands;(with_reducible refine (rahead_any a b _).mono ?_);rintro e W' ⟨rfl,hb⟩;have hB2:=below_next hb (by assumption))))
 go_split_ands
 clear KS
 go_wp2_with fail
 go_ret
 exact ⟨rfl,by assumption⟩
set_option maxHeartbeats 2000000 in
set_option maxRecDepth 100000 in
theorem less_asks (Bp g n cap:Nat) (W:World) (a b:Od) (i j:Nat) (hc:W.cell? ⟨Bp,1,none⟩=some (.slice (some ⟨g,0,none⟩) n cap)) (ci:Cells5 W g (i * 5) a) (cj:Cells5 W g (j * 5) b) (hi:i < n) (hj:j < n) (hB:Bp < W.heap.size) (hg:g < W.heap.size) :
  Calls Try.prog 170 #[.int .i64 i,.int .i64 j,.pointer (some ⟨Bp,0,none⟩)] W fun e w'=>e=.returned (.bool (aheadB a b))∧Below W.heap.size W w':=by
 have KS:Hid (∀ X,Below W.heap.size W X→Below W.heap.size W X∧X.cell? ⟨Bp,1,none⟩=some (.slice (some ⟨g,0,none⟩) n cap) ∧
   (X.cell? ⟨g,i * 5,none⟩=some (.int .i64 a.id)∧X.cell? ⟨g,i * 5 + 1,none⟩=some (.int .i64 a.acc)∧X.cell? ⟨g,i * 5 + 2,none⟩=some (.int .i64 a.side)∧X.cell? ⟨g,i * 5 + 3,none⟩=some (.int .i64 a.price)∧X.cell? ⟨g,i * 5 + 4,none⟩=some (.int .i64 a.qty)) ∧
   (X.cell? ⟨g,j * 5,none⟩=some (.int .i64 b.id)∧X.cell? ⟨g,j * 5 + 1,none⟩=some (.int .i64 b.acc)∧X.cell? ⟨g,j * 5 + 2,none⟩=some (.int .i64 b.side)∧X.cell? ⟨g,j * 5 + 3,none⟩=some (.int .i64 b.price)∧X.cell? ⟨g,j * 5 + 4,none⟩=some (.int .i64 b.qty))):=by
  obtain ⟨a0,a1,a2,a3,a4⟩:=ci
  obtain ⟨b0,b1,b2,b3,b4⟩:=cj
  intro X hX
  have hq:=fun o=>hX.cell (p:=⟨g,o,none⟩) hg
  exact ⟨hX,(hX.cell (p:=⟨Bp,1,none⟩) hB).trans hc,⟨(hq _).trans a0,(hq _).trans a1,(hq _).trans a2,(hq _).trans a3,(hq _).trans a4⟩,(hq _).trans b0,(hq _).trans b1,(hq _).trans b2,(hq _).trans b3,(hq _).trans b4⟩
 have h0:Below W.heap.size W W:=Below.refl _ _
 clear hc ci cj
 go_enter Try.func170,Try.ntmps170
 go_wp2_with fail
 go_region_held3 (fun X=>Below W.heap.size W X∧X.cell? ⟨Bp,1,none⟩=some (.slice (some ⟨g,0,none⟩) n cap)∧(X.cell? ⟨g,i * 5,none⟩=some (.int .i64 a.id)∧X.cell? ⟨g,i * 5 + 1,none⟩=some (.int .i64 a.acc)∧X.cell? ⟨g,i * 5 + 2,none⟩=some (.int .i64 a.side)∧X.cell? ⟨g,i * 5 + 3,none⟩=some (.int .i64 a.price)∧X.cell? ⟨g,i * 5 + 4,none⟩=some (.int .i64 a.qty))∧(X.cell? ⟨g,j * 5,none⟩=some (.int .i64 b.id)∧X.cell? ⟨g,j * 5 + 1,none⟩=some (.int .i64 b.acc)∧X.cell? ⟨g,j * 5 + 2,none⟩=some (.int .i64 b.side)∧X.cell? ⟨g,j * 5 + 3,none⟩=some (.int .i64 b.price)∧X.cell? ⟨g,j * 5 + 4,none⟩=some (.int .i64 b.qty)))
  (first | (exact KS.out _ (by assumption)) | (exact KS.out _ (below_drew (by assumption))))
  ((first | (go_at_call 87;go_split_ands;(with_reducible refine (rahead_any a b _).mono ?_);rintro e W' ⟨rfl,hb⟩;have hB2:=below_next hb (by assumption))))
 go_split_ands
 clear KS
 go_wp2_with fail
 go_ret
 exact ⟨rfl,by assumption⟩
end
section
open Go.Shelf
def Try.laysGt8_ren:Go.Shelf.Ren:=⟨fun | 8=>168 | 13=>181 | 14=>182 | 16=>184 | 15=>183 | 29=>215 | 30=>216 | 42=>228 | 49=>231 | n=>n,fun | 20=>20 | 26=>190 | 36=>200 | 0=>0 | 38=>202 | 42=>206 | 3=>3 | 4=>4 | 47=>170 | 17=>17 | 33=>197 | 34=>198 | 89=>261 | 12=>12 | 56=>227 | 82=>254 | 5=>5 | 83=>255 | 84=>256 | 85=>257 | 86=>258 | 87=>259 | n=>n,fun | n=>n⟩
theorem Try.laysGt8:Go.Proofs.LaysGt.n8 Try.prog Try.laysGt8_ren:={
 mixed:=by kernel_rfl
 f8:=Try.func168.trans (congrArg some (by kernel_rfl))
 f13:=Try.func181.trans (congrArg some (by kernel_rfl))
 f14:=Try.func182.trans (congrArg some (by kernel_rfl))
 f15:=Try.func183.trans (congrArg some (by kernel_rfl))
 f16:=Try.func184.trans (congrArg some (by kernel_rfl))
 f29:=Try.func215.trans (congrArg some (by kernel_rfl))
 f30:=Try.func216.trans (congrArg some (by kernel_rfl))
 f42:=Try.func228.trans (congrArg some (by kernel_rfl))
 f49:=Try.func231.trans (congrArg some (by kernel_rfl))
 t0:=Try.underlying0
 a0:=Try.isAgg0
 z0:=Try.sizeOf0
 v0:=Try.zeroValue0
 i0:=by kernel_rfl
 t3:=Try.underlying3
 a3:=Try.isAgg3
 z3:=Try.sizeOf3
 v3:=Try.zeroValue3
 i3:=by kernel_rfl
 t4:=Try.underlying4
 a4:=Try.isAgg4
 z4:=Try.sizeOf4
 v4:=Try.zeroValue4
 i4:=by kernel_rfl
 t5:=Try.underlying5
 a5:=Try.isAgg5
 z5:=Try.sizeOf5
 v5:=Try.zeroValue5
 i5:=by kernel_rfl
 t12:=Try.underlying12
 a12:=Try.isAgg12
 z12:=Try.sizeOf12
 v12:=Try.zeroValue12
 i12:=by kernel_rfl
 t17:=Try.underlying17
 a17:=Try.isAgg17
 z17:=Try.sizeOf17
 v17:=Try.zeroValue17
 i17:=by kernel_rfl
 t20:=Try.underlying20
 a20:=Try.isAgg20
 z20:=Try.sizeOf20
 v20:=Try.zeroValue20
 i20:=by kernel_rfl
 t26:=Try.underlying190
 a26:=Try.isAgg190
 z26:=Try.sizeOf190
 v26:=Try.zeroValue190
 i26:=by kernel_rfl
 t33:=Try.underlying197
 a33:=Try.isAgg197
 z33:=Try.sizeOf197
 v33:=Try.zeroValue197
 i33:=by kernel_rfl
 t34:=Try.underlying198
 a34:=Try.isAgg198
 z34:=Try.sizeOf198
 v34:=Try.zeroValue198
 i34:=by kernel_rfl
 t36:=Try.underlying200
 a36:=Try.isAgg200
 z36:=Try.sizeOf200
 v36:=Try.zeroValue200
 i36:=by kernel_rfl
 t38:=Try.underlying202
 a38:=Try.isAgg202
 z38:=Try.sizeOf202
 v38:=Try.zeroValue202
 i38:=by kernel_rfl
 t42:=Try.underlying206
 a42:=Try.isAgg206
 z42:=Try.sizeOf206
 v42:=Try.zeroValue206
 i42:=by kernel_rfl
 t47:=Try.underlying170
 a47:=Try.isAgg170
 z47:=Try.sizeOf170
 v47:=Try.zeroValue170
 i47:=by kernel_rfl
 t56:=Try.underlying227
 a56:=Try.isAgg227
 z56:=Try.sizeOf227
 v56:=Try.zeroValue227
 i56:=by kernel_rfl
 t82:=Try.underlying254
 a82:=Try.isAgg254
 z82:=Try.sizeOf254
 v82:=Try.zeroValue254
 i82:=by kernel_rfl
 t83:=Try.underlying255
 a83:=Try.isAgg255
 z83:=Try.sizeOf255
 v83:=Try.zeroValue255
 i83:=by kernel_rfl
 t84:=Try.underlying256
 a84:=Try.isAgg256
 z84:=Try.sizeOf256
 v84:=Try.zeroValue256
 i84:=by kernel_rfl
 t85:=Try.underlying257
 a85:=Try.isAgg257
 z85:=Try.sizeOf257
 v85:=Try.zeroValue257
 i85:=by kernel_rfl
 t86:=Try.underlying258
 a86:=Try.isAgg258
 z86:=Try.sizeOf258
 v86:=Try.zeroValue258
 i86:=by kernel_rfl
 t87:=Try.underlying259
 a87:=Try.isAgg259
 z87:=Try.sizeOf259
 v87:=Try.zeroValue259
 i87:=by kernel_rfl
 t89:=Try.underlying261
 a89:=Try.isAgg261
 z89:=Try.sizeOf261
 v89:=Try.zeroValue261
 i89:=by kernel_rfl }
end
section
open Go.RowKit Go.Sort Go.Shelf Go.Lib
theorem encS_len (s:Int):∀ x,(encS s x).length=5:=fun _=>rfl
theorem encS_one (s:Int):∀ x,∀ v ∈ encS s x,v.oneCell'=true:=by
 intro x v hv
 simp only [encS,List.mem_cons,List.not_mem_nil,or_false] at hv
 rcases hv with rfl | rfl | rfl | rfl | rfl <;> rfl
theorem cells5_of {W:World} {g s:Nat} {dk:Array Od} {side:Int} (h:HoldsK (encS side) 5 W g 0 dk) {i:Nat} (hi:i < dk.size) (hs:s=i * 5):Cells5 W g s (atSide side dk[i]!):=by
 subst hs
 have h0:=(h.cell hi (c:=0) (by omega)).1
 have h1:=(h.cell hi (c:=1) (by omega)).1
 have h2:=(h.cell hi (c:=2) (by omega)).1
 have h3:=(h.cell hi (c:=3) (by omega)).1
 have h4:=(h.cell hi (c:=4) (by omega)).1
 rw [Nat.zero_add] at h0 h1 h2 h3 h4
 exact ⟨h0,h1,h2,h3,h4⟩
theorem lessG_bids (Bp g n cap:Nat) (s:Int) (d:Array Od) (w:World) (hc:w.cell? ⟨Bp,0,none⟩=some (.slice (some ⟨g,0,none⟩) n cap)) (hne:Bp ≠ g) (hB:Bp < w.heap.size) (hg:g < w.heap.size) (hH:HoldsK (encS s) 5 w g 0 d) (hn:d.size=n) :
  LessG Try.prog 169 #[.pointer (some ⟨Bp,0,none⟩)] (encS s) 5 (ltS s) g 0 n w:=by
 intro W dk hS hd i j hi hj
 have hh:=hS.holds hg hH (hd.trans hn.symm)
 exact less_bids Bp g n cap W (atSide s dk[i]!) (atSide s dk[j]!) i j ((swk_cell hS hne hB).trans hc) (cells5_of hh (by omega) rfl) (cells5_of hh (by omega) rfl) hi hj (Nat.lt_of_lt_of_le hB hS.le) (Nat.lt_of_lt_of_le hg hS.le)
theorem lessG_asks (Bp g n cap:Nat) (s:Int) (d:Array Od) (w:World) (hc:w.cell? ⟨Bp,1,none⟩=some (.slice (some ⟨g,0,none⟩) n cap)) (hne:Bp ≠ g) (hB:Bp < w.heap.size) (hg:g < w.heap.size) (hH:HoldsK (encS s) 5 w g 0 d) (hn:d.size=n) :
  LessG Try.prog 170 #[.pointer (some ⟨Bp,0,none⟩)] (encS s) 5 (ltS s) g 0 n w:=by
 intro W dk hS hd i j hi hj
 have hh:=hS.holds hg hH (hd.trans hn.symm)
 exact less_asks Bp g n cap W (atSide s dk[i]!) (atSide s dk[j]!) i j ((swk_cell hS hne hB).trans hc) (cells5_of hh (by omega) rfl) (cells5_of hh (by omega) rfl) hi hj (Nat.lt_of_lt_of_le hB hS.le) (Nat.lt_of_lt_of_le hg hS.le)
set_option maxHeartbeats 1000000 in
set_option maxRecDepth 100000 in
theorem ins_none (lf:Fn) (la lb:Array Value) (f:Nat) (sb:Array Value) (n:Nat) (hn:n ≤ 1) (w:World) :
  Calls Try.prog 215 #[.agg #[.func lf la lb,.func (.func f) #[] sb],.int .i64 0,.int .i64 n] w fun e w'=>e=.returned (.tuple #[])∧Below w.heap.size w w':=by
 go_enter Try.func215,Try.ntmps215
 go_wp2_with fail
 refine wp_loop_rounds 1 ?_
 rw [rounds_succ]
 go_wp2
 all_goals first | (exfalso;omega) | (go_end0;exact ⟨rfl,(Below.refl _ _).alloc (Nat.le_refl _) _⟩)
set_option maxHeartbeats 1000000 in
set_option maxRecDepth 100000 in
theorem stable_tiny (lf:Fn) (la lb:Array Value) (f:Nat) (sb:Array Value) (n:Nat) (hn:n ≤ 1) (w:World) :
  Calls Try.prog 183 #[.agg #[.func lf la lb,.func (.func f) #[] sb],.int .i64 n] w fun e w'=>e=.returned (.tuple #[])∧Below w.heap.size w w':=by
 go_enter Try.func183,Try.ntmps183
 go_wp2_with fail
 obtain ⟨W1,hW1⟩:∃ W,W=w.alloc (.cells #[.func lf la lb,.func (.func f) #[] sb] 206):=⟨_,rfl⟩
 have BX:Blk W1 w.heap.size 206 #[.func lf la lb,.func (.func f) #[] sb]:=by rw [hW1];exact Blk.new w _ _
 have hb1:Below w.heap.size w W1:=by rw [hW1];exact (Below.refl _ _).alloc (Nat.le_refl _) _
 have c0:=BX.cell 0
 have c1:=BX.cell 1
 have HI:=Lib.hid (ins_none lf la lb f sb n hn W1)
 have hs1:=hb1.size
 rw [← hW1]
 clear hW1 BX
 refine wp_loop_rounds 1 ?_
 rw [rounds_succ]
 go_wp2_with (go_at_call 215;refine HI.out.mono ?_;rintro e w2 ⟨rfl,hb2⟩)
 refine wp_loop_rounds 1 ?_
 rw [rounds_succ]
 go_wp2
 all_goals first | (exfalso;omega) | (go_end0;exact ⟨rfl,hb1.trans (hb2.mono hs1)⟩)
theorem slst_tiny (p:Option Addr) (n c:Nat) (hn:n ≤ 1) (lf:Fn) (la lb:Array Value) (w:World) :
  Calls Try.prog 168 #[.iface 60 (.slice p n c),.func lf la lb] w fun e w'=>e=.returned (.tuple #[])∧Below w.heap.size w w':=by
 have hs:Below w.heap.size w (sortWorld0 p n c w):=by unfold sortWorld0;exact ((Below.refl _ _).alloc (Nat.le_refl _) _).alloc (by simp) _
 have hl:=hs.size
 rcases (show n=0∨n=1 by omega) with rfl | rfl
 ·refine Any.sort_SliceStable_of_stable Try.laysGt8 60 71 odsT odT (by kernel_rfl) (by kernel_rfl) (by kernel_rfl) (by kernel_rfl) 25 (fun _=>by kernel_rfl) p 0 c (by omega) 206 (by kernel_rfl) lf la lb w (fun w'=>Below w.heap.size w w') ?_
  show Calls Try.prog 183 _ (sortWorld0 p 0 c w) _
  exact (stable_tiny lf la lb _ _ 0 (by omega) _).mono fun e w' ⟨h1,h2⟩=>⟨h1,hs.trans (h2.mono hl)⟩
 ·refine Any.sort_SliceStable_of_stable Try.laysGt8 60 71 odsT odT (by kernel_rfl) (by kernel_rfl) (by kernel_rfl) (by kernel_rfl) 25 (fun _=>by kernel_rfl) p 1 c (by omega) 207 (by kernel_rfl) lf la lb w (fun w'=>Below w.heap.size w w') ?_
  show Calls Try.prog 183 _ (sortWorld0 p 1 c w) _
  exact (stable_tiny lf la lb _ _ 1 (by omega) _).mono fun e w' ⟨h1,h2⟩=>⟨h1,hs.trans (h2.mono hl)⟩
theorem perm_list {L:List Od} {d':Array Od} (h:PermIn 0 L.length L.toArray d'):d'.toList.Perm L∧d'.toList.length=L.length:=by
 have h1:=h.2.2
 have hs:d'.size=L.length:=h.1.trans (List.size_toArray ..)
 rw [extract_toList d' 0 L.length (by omega),extract_toList L.toArray 0 L.length (by simp)] at h1
 have q:∀ d:Array Od,(List.range' 0 (d.size - 0)).map (fun i=>d[i]!)=d.toList:=fun d=>by
  rw [← extract_toList d 0 d.size (Nat.le_refl _)]
  simp
 rw [← hs] at h1
 rw [q d'] at h1
 rw [hs,show L.length - 0=L.toArray.size - 0 by simp,q L.toArray] at h1
 exact ⟨h1,by simpa using hs⟩
theorem slst_bids (Bp g n cap base:Nat) (s:Int) (L:List Od) (w:World) (hown:w.ownsRow base 71 5 (.slice (some ⟨g,0,none⟩) n cap) n (L.flatMap (encS s))) (hL:L.length=n) (h2:2 ≤ n) (h40:n ≤ 40)
  (hc:w.cell? ⟨Bp,0,none⟩=some (.slice (some ⟨g,0,none⟩) n cap)) (hne:Bp ≠ g) (hB:Bp < w.heap.size) :
  Calls Try.prog 168 #[.iface 60 (.slice (some ⟨g,0,none⟩) n cap),.func (.func 169) #[] #[.pointer (some ⟨Bp,0,none⟩)]] w fun e w' =>
   e=.returned (.tuple #[])∧∃ L':List Od,(L'.Perm L∧L'.length=n∧SoF (ltS s) 0 n (atA L'.toArray))∧SK (encS s) 5 w g 0 L'.toArray w':=by
 have hg:=(own_lt hown).1
 have hH0:=holds_own (encS_len s) hown hL
 have hsz:L.toArray.size=n:=by simpa using hL
 have hw0:sortWorld0 (some ⟨g,0,none⟩) n cap w=(w.alloc (.cells #[.slice (some ⟨g,0,none⟩) n cap] 60)).alloc (.cells #[.pointer (some ⟨Try.prog.globals.size,60,none⟩),.pointer (some ⟨w.heap.size,0,none⟩),.int .u64 151] 200):=rfl
 have hH:HoldsK (encS s) 5 (sortWorld0 (some ⟨g,0,none⟩) n cap w) g 0 L.toArray:=by rw [hw0];exact holds_alloc (holds_alloc hH0 hg) (by simp;omega)
 have hb:Below w.heap.size w (sortWorld0 (some ⟨g,0,none⟩) n cap w):=by rw [hw0];exact ((Below.refl _ _).alloc (Nat.le_refl _) _).alloc (by simp) _
 have hl:=hb.size
 have hlg:=lessG_bids Bp g n cap s L.toArray (sortWorld0 (some ⟨g,0,none⟩) n cap w) ((hb.cell (p:=⟨Bp,0,none⟩) hB).trans hc) hne (by omega) (by omega) hH hsz
 have hsw:SwapSwapsK Try.prog 214 #[.slice (some ⟨g,0,none⟩) n cap,typeHandle Try.prog 71] (encS s) 5 g 0 n :=
  swapSwapsK_of_literal false 214 (fun args W=>run_callFunc_extern Try.func214 (by kernel_rfl) (by kernel_rfl) (by kernel_rfl) (e:=Extern.ReflectliteSwapper.swap false) (by kernel_rfl) args W)
   71 odT (by kernel_rfl) (encS s) 5 (encS_len s) (by kernel_rfl) (fun _=>by kernel_rfl) (encS_one s) g 0 n cap
 have eg:∀ args w,(callFunc 169 args).run Try.prog w=.ok (.enter 169 args) w:=enters_of Try.func169 (by kernel_rfl) rfl
 have hB:sliceBound Try.prog 71 odT 25 (some ⟨g,0,none⟩) n cap = #[.slice (some ⟨g,0,none⟩) n cap,typeHandle Try.prog 71]:=by
  unfold sliceBound;rw [swapK_od n h2];rfl
 refine Any.sort_SliceStable_of_stable Try.laysGt8 60 71 odsT odT (by kernel_rfl) (by kernel_rfl) (by kernel_rfl) (by kernel_rfl) 25 (fun _=>by kernel_rfl) (some ⟨g,0,none⟩) n cap (by omega) 214 (by rw [swapK_od n h2];kernel_rfl) (.func 169) #[] #[.pointer (some ⟨Bp,0,none⟩)] w _ ?_
 rw [hB]
 show Calls Try.prog 183 _ (sortWorld0 (some ⟨g,0,none⟩) n cap w) _
 have hgo:Calls Try.prog 183 #[.agg #[.func (.func 169) #[] #[.pointer (some ⟨Bp,0,none⟩)],.func (.func 214) #[] #[.slice (some ⟨g,0,none⟩) n cap,typeHandle Try.prog 71]],.int .i64 L.toArray.size] (sortWorld0 (some ⟨g,0,none⟩) n cap w) fun e w' =>
   e=.returned (.tuple #[])∧∃ d',(PermIn 0 L.toArray.size L.toArray d'∧SoF (ltS s) 0 L.toArray.size (atA d'))∧SK (encS s) 5 (sortWorld0 (some ⟨g,0,none⟩) n cap w) g 0 d' w':=by
  rcases (show n < 20∨20 ≤ n∧n < 40∨n=40 by omega) with h | ⟨h,h'⟩ | h
  ·exact stable_lt (encS s) 5 (encS_len s) (ltS s) (swo_s s) _ _ _ _ g 0 L.toArray _ eg (by rw [hsz];exact hlg) (by rw [hsz];exact hsw) hH (by omega) (by omega)
  ·exact stable_ge (encS s) 5 (encS_len s) (ltS s) (swo_s s) _ _ _ _ g 0 L.toArray _ eg (by rw [hsz];exact hlg) (by rw [hsz];exact hsw) hH (by omega) (by omega) (by omega)
  ·exact stable_40 (encS s) 5 (encS_len s) (ltS s) (swo_s s) _ _ _ _ g 0 L.toArray _ eg (by rw [hsz];exact hlg) (by rw [hsz];exact hsw) hH (by omega) (by omega)
 rw [hsz] at hgo
 refine hgo.mono ?_
 rintro e w' ⟨rfl,d',⟨hp,hs⟩,hS⟩
 rw [← hL] at hp
 obtain ⟨p1,p2⟩:=perm_list hp
 refine ⟨rfl,d'.toList,⟨p1,p2.trans hL,by simpa using hs⟩,?_⟩
 rw [hw0] at hS
 have:=swk_base (swk_base hS)
 simpa using this
theorem slst_asks (Bp g n cap base:Nat) (s:Int) (L:List Od) (w:World) (hown:w.ownsRow base 71 5 (.slice (some ⟨g,0,none⟩) n cap) n (L.flatMap (encS s))) (hL:L.length=n) (h2:2 ≤ n) (h40:n ≤ 40)
  (hc:w.cell? ⟨Bp,1,none⟩=some (.slice (some ⟨g,0,none⟩) n cap)) (hne:Bp ≠ g) (hB:Bp < w.heap.size) :
  Calls Try.prog 168 #[.iface 60 (.slice (some ⟨g,0,none⟩) n cap),.func (.func 170) #[] #[.pointer (some ⟨Bp,0,none⟩)]] w fun e w' =>
   e=.returned (.tuple #[])∧∃ L':List Od,(L'.Perm L∧L'.length=n∧SoF (ltS s) 0 n (atA L'.toArray))∧SK (encS s) 5 w g 0 L'.toArray w':=by
 have hg:=(own_lt hown).1
 have hH0:=holds_own (encS_len s) hown hL
 have hsz:L.toArray.size=n:=by simpa using hL
 have hw0:sortWorld0 (some ⟨g,0,none⟩) n cap w=(w.alloc (.cells #[.slice (some ⟨g,0,none⟩) n cap] 60)).alloc (.cells #[.pointer (some ⟨Try.prog.globals.size,60,none⟩),.pointer (some ⟨w.heap.size,0,none⟩),.int .u64 151] 200):=rfl
 have hH:HoldsK (encS s) 5 (sortWorld0 (some ⟨g,0,none⟩) n cap w) g 0 L.toArray:=by rw [hw0];exact holds_alloc (holds_alloc hH0 hg) (by simp;omega)
 have hb:Below w.heap.size w (sortWorld0 (some ⟨g,0,none⟩) n cap w):=by rw [hw0];exact ((Below.refl _ _).alloc (Nat.le_refl _) _).alloc (by simp) _
 have hl:=hb.size
 have hlg:=lessG_asks Bp g n cap s L.toArray (sortWorld0 (some ⟨g,0,none⟩) n cap w) ((hb.cell (p:=⟨Bp,1,none⟩) hB).trans hc) hne (by omega) (by omega) hH hsz
 have hsw:SwapSwapsK Try.prog 214 #[.slice (some ⟨g,0,none⟩) n cap,typeHandle Try.prog 71] (encS s) 5 g 0 n :=
  swapSwapsK_of_literal false 214 (fun args W=>run_callFunc_extern Try.func214 (by kernel_rfl) (by kernel_rfl) (by kernel_rfl) (e:=Extern.ReflectliteSwapper.swap false) (by kernel_rfl) args W)
   71 odT (by kernel_rfl) (encS s) 5 (encS_len s) (by kernel_rfl) (fun _=>by kernel_rfl) (encS_one s) g 0 n cap
 have eg:∀ args w,(callFunc 170 args).run Try.prog w=.ok (.enter 170 args) w:=enters_of Try.func170 (by kernel_rfl) rfl
 have hB:sliceBound Try.prog 71 odT 25 (some ⟨g,0,none⟩) n cap = #[.slice (some ⟨g,0,none⟩) n cap,typeHandle Try.prog 71]:=by
  unfold sliceBound;rw [swapK_od n h2];rfl
 refine Any.sort_SliceStable_of_stable Try.laysGt8 60 71 odsT odT (by kernel_rfl) (by kernel_rfl) (by kernel_rfl) (by kernel_rfl) 25 (fun _=>by kernel_rfl) (some ⟨g,0,none⟩) n cap (by omega) 214 (by rw [swapK_od n h2];kernel_rfl) (.func 170) #[] #[.pointer (some ⟨Bp,0,none⟩)] w _ ?_
 rw [hB]
 show Calls Try.prog 183 _ (sortWorld0 (some ⟨g,0,none⟩) n cap w) _
 have hgo:Calls Try.prog 183 #[.agg #[.func (.func 170) #[] #[.pointer (some ⟨Bp,0,none⟩)],.func (.func 214) #[] #[.slice (some ⟨g,0,none⟩) n cap,typeHandle Try.prog 71]],.int .i64 L.toArray.size] (sortWorld0 (some ⟨g,0,none⟩) n cap w) fun e w' =>
   e=.returned (.tuple #[])∧∃ d',(PermIn 0 L.toArray.size L.toArray d'∧SoF (ltS s) 0 L.toArray.size (atA d'))∧SK (encS s) 5 (sortWorld0 (some ⟨g,0,none⟩) n cap w) g 0 d' w':=by
  rcases (show n < 20∨20 ≤ n∧n < 40∨n=40 by omega) with h | ⟨h,h'⟩ | h
  ·exact stable_lt (encS s) 5 (encS_len s) (ltS s) (swo_s s) _ _ _ _ g 0 L.toArray _ eg (by rw [hsz];exact hlg) (by rw [hsz];exact hsw) hH (by omega) (by omega)
  ·exact stable_ge (encS s) 5 (encS_len s) (ltS s) (swo_s s) _ _ _ _ g 0 L.toArray _ eg (by rw [hsz];exact hlg) (by rw [hsz];exact hsw) hH (by omega) (by omega) (by omega)
  ·exact stable_40 (encS s) 5 (encS_len s) (ltS s) (swo_s s) _ _ _ _ g 0 L.toArray _ eg (by rw [hsz];exact hlg) (by rw [hsz];exact hsw) hH (by omega) (by omega)
 rw [hsz] at hgo
 refine hgo.mono ?_
 rintro e w' ⟨rfl,d',⟨hp,hs⟩,hS⟩
 rw [← hL] at hp
 obtain ⟨p1,p2⟩:=perm_list hp
 refine ⟨rfl,d'.toList,⟨p1,p2.trans hL,by simpa using hs⟩,?_⟩
 rw [hw0] at hS
 have:=swk_base (swk_base hS)
 simpa using this
end
section
open Go.RowKit
def AccCells (w:World) (base:Nat):List Ac→List Value→Prop
 | [],xs=>xs = []
 | a :: L,xs=>∃ A c ys,xs=.int .i64 a.id :: .int .i64 a.bal :: .slice A a.pos.length c :: ys∧w.ownsRow base 3 1 (.slice A a.pos.length c) a.pos.length (ints a.pos)∧a.pos.length * 8 ≤ 140737488355328∧AccCells w base L ys
theorem AccCells.mono {w w':World} {base base':Nat} (hk:∀ v n xs,w.ownsRow base 3 1 v n xs→w'.ownsRow base' 3 1 v n xs):∀ {L:List Ac} {xs:List Value},AccCells w base L xs→AccCells w' base' L xs
 | [],_,h=>h
 | _ :: _,_,⟨A,c,ys,h1,h2,h3,h4⟩=>⟨A,c,ys,h1,hk _ _ _ h2,h3,h4.mono hk⟩
theorem AccCells.append {w:World} {base:Nat} {M:List Ac} {ys:List Value} (h2:AccCells w base M ys):∀ {L:List Ac} {xs:List Value},AccCells w base L xs→AccCells w base (L ++ M) (xs ++ ys)
 | [],_,h=>by
  have h:_ = []:=h
  subst h;exact h2
 | _ :: _,_,⟨A,c,zs,h1,h3,h4,h5⟩=>by subst h1;exact ⟨A,c,zs ++ ys,rfl,h3,h4,AccCells.append h2 h5⟩
theorem AccCells.len {w:World} {base:Nat}:∀ {L:List Ac} {xs:List Value},AccCells w base L xs→xs.length=L.length * 3
 | [],_,h=>by
  have h:_ = []:=h
  subst h;rfl
 | _ :: L,_,⟨A,c,zs,h1,_,_,h5⟩=>by subst h1;have:=h5.len;simp only [List.length_cons];omega
theorem AccCells.at_ {w:World} {base:Nat}:∀ {L:List Ac} {xs:List Value},AccCells w base L xs→∀ {i:Nat} {a:Ac},L[i]?=some a →
  ∃ A c,xs[i * 3]?=some (.int .i64 a.id)∧xs[i * 3 + 1]?=some (.int .i64 a.bal)∧xs[i * 3 + 2]?=some (.slice A a.pos.length c)∧w.ownsRow base 3 1 (.slice A a.pos.length c) a.pos.length (ints a.pos)∧a.pos.length * 8 ≤ 140737488355328
 | [],_,_,i,a,ha=>by simp at ha
 | _ :: _,_,⟨A,c,zs,h1,h3,h4,h5⟩,0,a,ha=>by
  subst h1
  simp only [List.getElem?_cons_zero,Option.some.injEq] at ha
  subst ha
  exact ⟨A,c,rfl,rfl,rfl,h3,h4⟩
 | _ :: _,_,⟨A,c,zs,h1,h3,h4,h5⟩,i + 1,a,ha=>by
  subst h1
  simp only [List.getElem?_cons_succ] at ha
  obtain ⟨A',c',k1,k2,k3,k4⟩:=h5.at_ ha
  refine ⟨A',c',?_,?_,?_,k4⟩
  ·rw [show (i + 1) * 3=i * 3 + 1 + 1 + 1 by omega];exact k1
  ·rw [show (i + 1) * 3 + 1=i * 3 + 1 + 1 + 1 + 1 by omega];exact k2
  ·rw [show (i + 1) * 3 + 2=i * 3 + 2 + 1 + 1 + 1 by omega];exact k3
theorem AccCells.one {w:World} {base:Nat}:∀ {L:List Ac} {xs:List Value},AccCells w base L xs→∀ u ∈ xs,u.oneCell'=true
 | [],_,h=>by
  have h:_ = []:=h
  subst h;simp
 | _ :: L,_,⟨A,c,zs,h1,_,_,h5⟩=>by
  subst h1
  intro u hu
  simp only [List.mem_cons] at hu
  rcases hu with rfl | rfl | rfl | hu
  ·rfl
  ·rfl
  ·rfl
  ·exact h5.one u hu
def OwnAccs (w:World) (base:Nat) (v:Value) (n:Nat) (L:List Ac):Prop:=∃ xs,w.ownsRow base 37 3 v n xs∧AccCells w base L xs
theorem OwnAccs.nil (w:World) (base:Nat):OwnAccs w base (.slice none 0 0) 0 []:=⟨[],World.ownsRow_nil _ _ _ _,rfl⟩
theorem OwnAccs.below {w w':World} {base n B:Nat} {v:Value} {L:List Ac} (h:OwnAccs w base v n L) (hb:Below B w w') (hB:w.heap.size ≤ B):OwnAccs w' base v n L:=by
 obtain ⟨xs,h1,h2⟩:=h
 exact ⟨xs,own_below h1 hb hB,h2.mono fun _ _ _ h=>own_below h hb hB⟩
theorem OwnAccs.len {w:World} {base n:Nat} {v:Value} {L:List Ac} (h:OwnAccs w base v n L):L.length=n:=by
 obtain ⟨xs,h1,h2⟩:=h
 have:=h2.len
 have:=h1.1
 omega
theorem OwnAccs.read {w:World} {base n c:Nat} {A:Option Addr} {L:List Ac} (h:OwnAccs w base (.slice A n c) n L):RdL shAcc w w.heap.size A n c L:=by
 have hl:=h.len
 obtain ⟨xs,h1,h2⟩:=h
 have hr:=Rd.of_own h1
 refine ⟨hl,hr.le,hr.cap,hr.nil,fun hn=>?_⟩
 obtain ⟨b,o,e,hb,hc⟩:=hr.at_ hn
 refine ⟨b,o,e,hb,fun i a ha=>?_⟩
 obtain ⟨A2,c2,k1,k2,k3,k4,k5⟩:=h2.at_ ha
 exact ⟨A2,c2,hc _ _ k1,by rw [Nat.add_assoc];exact hc _ _ k2,by rw [Nat.add_assoc];exact hc _ _ k3,Rd.of_own k4,k5⟩
end
section
open Go.RowKit
structure Kept (S:List TypeId) (w w':World):Prop where
 size:w.heap.size ≤ w'.heap.size
 blk:∀ g t cs,Blk w g t cs→t ∉ S→Blk w' g t cs
section
variable {S T:List TypeId} {a b c:World}
theorem Kept.refl (S:List TypeId) (w:World):Kept S w w:=⟨Nat.le_refl _,fun _ _ _ h _=>h⟩
theorem Kept.trans (h:Kept S a b) (g:Kept S b c):Kept S a c:=⟨Nat.le_trans h.size g.size,fun x t cs hx ht=>g.blk x t cs (h.blk x t cs hx ht) ht⟩
theorem Kept.mono (h:Kept S a b) (hS:∀ t ∈ S,t ∈ T):Kept T a b:=⟨h.size,fun x t cs hx ht=>h.blk x t cs hx fun hs=>ht (hS t hs)⟩
theorem Kept.of_below (S:List TypeId) (h:Below a.heap.size a b):Kept S a b:=⟨h.size,fun _ _ _ hg _=>hg.below h hg.lt⟩
theorem Kept.below (h:Kept S a b) (g:Below b.heap.size b c):Kept S a c:=h.trans (.of_below S g)
theorem Kept.alloc (h:Kept S a b) (o:Obj):Kept S a (b.alloc o):=h.trans ⟨by simp,fun _ _ _ hg _=>hg.alloc o⟩
theorem Kept.drew (h:Kept S a b):Kept S a b.drew:=⟨h.size,h.blk⟩
theorem Kept.drewN (h:Kept S a b) (q:Nat):Kept S a (b.drewN q):=⟨h.size,h.blk⟩
theorem size_setCell (w:World) (p:Addr) (u:Value):(w.setCell p u).heap.size=w.heap.size:=by simp [World.setCell]
theorem Kept.set (h:Kept S a b) {g:Nat} {t:TypeId} {cs:Array Value} (hg:Blk b g t cs) (ht:t ∈ S) (i:Nat) (u:Value):Kept S a (b.setCell ⟨g,i,none⟩ u):=by
 refine h.trans ⟨by rw [size_setCell];exact Nat.le_refl _,fun x t' cs' hx ht'=>?_⟩
 by_cases e:x=g
 ·subst e
  unfold Blk at hg hx
  rw [hg] at hx
  injection hx with hx
  injection hx with _ hx
  subst hx
  exact absurd ht ht'
 ·exact hx.far e u
theorem Kept.only (h:Kept S a b) {e k n:Nat} {base:Nat} {v:Value} {xs:List Value} (hown:b.ownsRow base e k v n xs) (ho:Only b c v.ownBlock) (hs:b.heap.size ≤ c.heap.size) (he:e ∈ S):Kept S a c:=by
 refine h.trans ⟨hs,fun x t cs hx ht=>?_⟩
 refine hx.only ho fun hv=>?_
 obtain ⟨_,⟨rfl,_⟩ | ⟨g,cap,cur,rfl,_,hg,_⟩⟩:=hown
 ·simp [Value.ownBlock] at hv
 ·have:x=g:=by simpa [Value.ownBlock] using hv
  subst this
  unfold Blk at hx
  rw [hg] at hx
  injection hx with hx
  injection hx with _ hx
  subst hx
  exact absurd he ht
theorem Kept.grown (h:Kept S a b) {e k n:Nat} {base:Nat} {v:Value} {xs:List Value} (hown:b.ownsRow base e k v n xs) (hg:b.grownBy c v.ownBlock) (he:e ∈ S):Kept S a c:=h.only hown (grown_only hg) hg.size he
theorem Kept.own (h:Kept S a b) {e k n:Nat} {base:Nat} {v:Value} {xs:List Value} (ho:a.ownsRow base e k v n xs) (he:e ∉ S):b.ownsRow base e k v n xs:=by
 obtain ⟨hl,h1 | ⟨g,cap,cur,rfl,h1,h2,h3⟩⟩:=ho
 ·exact ⟨hl,.inl h1⟩
 ·exact ⟨hl,.inr ⟨g,cap,cur,rfl,h1,h.blk g e cur h2 he,h3⟩⟩
theorem Blk.kept {g:Nat} {t:TypeId} {cs:Array Value} (hb:Blk a g t cs) (h:Kept S a b) (ht:t ∉ S):Blk b g t cs:=h.blk g t cs hb ht
end
theorem own_store {w:World} {base e k n c g:Nat} {xs:List Value} (h:w.ownsRow base e k (.slice (some ⟨g,0,none⟩) n c) n xs) (j:Nat) (u:Value):(w.setCell ⟨g,j,none⟩ u).ownsRow base e k (.slice (some ⟨g,0,none⟩) n c) n (xs.set j u):=(h.stored j u).1
theorem own_blk {w:World} {base e k n c:Nat} {A:Option Addr} {xs:List Value} (h:w.ownsRow base e k (.slice A n c) n xs) (hn:0 < n):∃ g cs,A=some ⟨g,0,none⟩∧base ≤ g∧Blk w g e cs:=by
 obtain ⟨_,⟨hv,h0⟩ | ⟨g,cap,cur,hv,h1,h2,_⟩⟩:=h
 ·omega
 ·injection hv with hv _ _
  exact ⟨g,cur,hv,h1,h2⟩
end
section
open Go.RowKit
theorem Blk.c7 {w:World} {g:Nat} {t:TypeId} {a0 a1 a2 a3 a4 a5 a6:Value} (h:Blk w g t #[a0,a1,a2,a3,a4,a5,a6]) :
  (w.cell? ⟨g,0,none⟩=some a0∧w.cell? ⟨g,1,none⟩=some a1∧w.cell? ⟨g,2,none⟩=some a2∧w.cell? ⟨g,3,none⟩=some a3∧w.cell? ⟨g,4,none⟩=some a4∧w.cell? ⟨g,5,none⟩=some a5∧w.cell? ⟨g,6,none⟩=some a6) ∧
   w.frozen? ⟨g,0,none⟩=false∧w.frozen? ⟨g,1,none⟩=false∧w.frozen? ⟨g,2,none⟩=false∧w.frozen? ⟨g,3,none⟩=false∧w.frozen? ⟨g,4,none⟩=false∧w.frozen? ⟨g,5,none⟩=false∧w.frozen? ⟨g,6,none⟩=false :=
 ⟨⟨h.cell 0,h.cell 1,h.cell 2,h.cell 3,h.cell 4,h.cell 5,h.cell 6⟩,h.frozen 0,h.frozen 1,h.frozen 2,h.frozen 3,h.frozen 4,h.frozen 5,h.frozen 6⟩
end
section
structure Vn where
 accs:List Ac
 mks:List Mk
 ins:Int
 resid:Int
 next:Int
 inn:Int
 out:Int
structure Ev where
 kind:Int
 err:Int
 market:Int
 id:Int
 acc:Int
 n:Int
 f:Fl
structure Dk where
 v:Vn
 ev:List Ev
end
section
open Go.RowKit
def RMk (w:World) (B b o:Nat) (m:Mk):Prop :=
 ∃ A c A' c',w.cell? ⟨b,o,none⟩=some (.slice A m.book.bids.length c)∧w.cell? ⟨b,o + 1,none⟩=some (.slice A' m.book.asks.length c')∧w.cell? ⟨b,o + 2,none⟩=some (.int .i64 m.index)∧w.cell? ⟨b,o + 3,none⟩=some (.int .i64 m.last) ∧
  BkR w B A A' c c' m.book∧m.book.bids.length ≤ 4000000000000∧m.book.asks.length ≤ 4000000000000
theorem BkR.mono {w w':World} {B B' c c':Nat} {A A':Option Addr} {b:Bk} (h:BkR w B A A' c c' b) (hB:B ≤ B') (hk:∀ b o,b < B→w'.cell? ⟨b,o,none⟩=w.cell? ⟨b,o,none⟩):BkR w' B' A A' c c' b:=⟨h.l.mono hB hk,h.r.mono hB hk⟩
def shMk:Shape Mk where
 k:=4
 R:=RMk
 move:=by
  intro w w' B B' b o b' o' a h hc hB hk
  obtain ⟨A,c,A',c',h0,h1,h2,h3,h4,h5,h6⟩:=h
  exact ⟨A,c,A',c',(hc 0 (by omega)).trans h0,(hc 1 (by omega)).trans h1,(hc 2 (by omega)).trans h2,(hc 3 (by omega)).trans h3,h4.mono hB hk,h5,h6⟩
 cells:=by
  intro w B b o a h j hj
  obtain ⟨A,c,A',c',h0,h1,h2,h3,_⟩:=h
  rcases (show j=0∨j=1∨j=2∨j=3 by omega) with rfl | rfl | rfl | rfl
  ·exact ⟨_,h0,rfl⟩
  ·exact ⟨_,h1,rfl⟩
  ·exact ⟨_,h2,rfl⟩
  ·exact ⟨_,h3,rfl⟩
structure VnR (w:World) (B:Nat) (A:Option Addr) (c:Nat) (M:Option Addr) (k:Nat) (v:Vn):Prop where
 accs:RdL shAcc w B A v.accs.length c v.accs
 mks:RdL shMk w B M v.mks.length k v.mks
section
variable {w w':World} {B B' c k:Nat} {A M:Option Addr} {v:Vn}
theorem VnR.below (h:VnR w B A c M k v) (hb:Below B w w'):VnR w' B A c M k v:=⟨h.accs.below hb,h.mks.below hb⟩
theorem VnR.up (h:VnR w B A c M k v) (hB:B ≤ B'):VnR w B' A c M k v:=⟨h.accs.up hB,h.mks.up hB⟩
end
def evCells:List Ev→List Value
 | []=>[]
 | e :: l=>.int .i64 e.kind :: .int .i64 e.err :: .int .i64 e.market :: .int .i64 e.id :: .int .i64 e.acc :: .int .i64 e.n ::
   .int .i64 e.f.maker :: .int .i64 e.f.taker :: .int .i64 e.f.macc :: .int .i64 e.f.tacc :: .int .i64 e.f.side :: .int .i64 e.f.price :: .int .i64 e.f.qty :: evCells l
def AcCell (w:World) (base:Nat) (xs:List Value) (i:Nat) (a:Ac):Prop :=
 ∃ A c,xs[i * 3]?=some (.int .i64 a.id)∧xs[i * 3 + 1]?=some (.int .i64 a.bal)∧xs[i * 3 + 2]?=some (.slice A a.pos.length c)∧w.ownsRow base 3 1 (.slice A a.pos.length c) a.pos.length (ints a.pos)∧a.pos.length * 8 ≤ 140737488355328
structure OwnAc (w:World) (base:Nat) (A:Option Addr) (n c:Nat) (L:List Ac) (xs:List Value):Prop where
 row:w.ownsRow base 37 3 (.slice A n c) n xs
 len:L.length=n
 cell:∀ i a,L[i]?=some a→AcCell w base xs i a
def MkCell (w:World) (base:Nat) (xs:List Value) (i:Nat) (m:Mk):Prop :=
 ∃ A c A' c',xs[i * 4]?=some (.slice A m.book.bids.length c)∧xs[i * 4 + 1]?=some (.slice A' m.book.asks.length c')∧xs[i * 4 + 2]?=some (.int .i64 m.index)∧xs[i * 4 + 3]?=some (.int .i64 m.last)∧OBk w base A A' c c' m.book ∧
  m.book.bids.length ≤ 4000000000000∧m.book.asks.length ≤ 4000000000000
def Apart (xs:List Value):Prop:=∀ i s j t u v g,s < 2→t < 2→xs[i * 4 + s]?=some u→xs[j * 4 + t]?=some v→u.ownBlock=some g→v.ownBlock=some g→i=j∧s=t
structure OwnMk (w:World) (base:Nat) (ap:Bool) (M:Option Addr) (m k:Nat) (L:List Mk) (xs:List Value):Prop where
 row:w.ownsRow base 64 4 (.slice M m k) m xs
 len:L.length=m
 cell:∀ i a,L[i]?=some a→MkCell w base xs i a
 apart:ap=true→Apart xs
section
variable {w w':World} {base n c m k:Nat} {A M:Option Addr} {L:List Ac} {K:List Mk} {xs ys:List Value} {ap:Bool}
theorem AcCell.mono {i:Nat} {a:Ac} (h:AcCell w base xs i a) (hk:∀ v n ys,w.ownsRow base 3 1 v n ys→w'.ownsRow base 3 1 v n ys):AcCell w' base xs i a:=by
 obtain ⟨A,c,h0,h1,h2,h3,h4⟩:=h
 exact ⟨A,c,h0,h1,h2,hk _ _ _ h3,h4⟩
theorem OwnAc.mono (h:OwnAc w base A n c L xs) (h1:w'.ownsRow base 37 3 (.slice A n c) n xs) (hk:∀ v n ys,w.ownsRow base 3 1 v n ys→w'.ownsRow base 3 1 v n ys):OwnAc w' base A n c L xs :=
 ⟨h1,h.len,fun i a ha=>(h.cell i a ha).mono hk⟩
theorem OwnAc.below (h:OwnAc w base A n c L xs) (hb:Below w.heap.size w w'):OwnAc w' base A n c L xs:=h.mono (own_below h.row hb (Nat.le_refl _)) fun _ _ _ hr=>own_below hr hb (Nat.le_refl _)
theorem OwnAc.kept {S:List TypeId} (h:OwnAc w base A n c L xs) (hb:Kept S w w') (h1:37 ∉ S) (h2:3 ∉ S):OwnAc w' base A n c L xs:=h.mono (hb.own h.row h1) fun _ _ _ hr=>hb.own hr h2
theorem MkCell.mono {i:Nat} {a:Mk} (h:MkCell w base xs i a) (hk:∀ v n ys,w.ownsRow base 71 5 v n ys→w'.ownsRow base 71 5 v n ys):MkCell w' base xs i a:=by
 obtain ⟨A,c,A',c',h0,h1,h2,h3,h4,h5⟩:=h
 exact ⟨A,c,A',c',h0,h1,h2,h3,⟨hk _ _ _ h4.l,hk _ _ _ h4.r⟩,h5⟩
theorem OwnMk.mono (h:OwnMk w base ap M m k K xs) (h1:w'.ownsRow base 64 4 (.slice M m k) m xs) (hk:∀ v n ys,w.ownsRow base 71 5 v n ys→w'.ownsRow base 71 5 v n ys):OwnMk w' base ap M m k K xs :=
 ⟨h1,h.len,fun i a ha=>(h.cell i a ha).mono hk,h.apart⟩
theorem OwnMk.below (h:OwnMk w base ap M m k K xs) (hb:Below w.heap.size w w'):OwnMk w' base ap M m k K xs:=h.mono (own_below h.row hb (Nat.le_refl _)) fun _ _ _ hr=>own_below hr hb (Nat.le_refl _)
theorem OwnMk.kept {S:List TypeId} (h:OwnMk w base ap M m k K xs) (hb:Kept S w w') (h1:64 ∉ S) (h2:71 ∉ S):OwnMk w' base ap M m k K xs:=h.mono (hb.own h.row h1) fun _ _ _ hr=>hb.own hr h2
theorem OwnAc.read (h:OwnAc w base A n c L xs):RdL shAcc w w.heap.size A n c L:=by
 have hr:=Rd.of_own h.row
 refine ⟨h.len,hr.le,hr.cap,hr.nil,fun hn=>?_⟩
 obtain ⟨b,o,e,hb,hc⟩:=hr.at_ hn
 refine ⟨b,o,e,hb,fun i a ha=>?_⟩
 obtain ⟨A2,c2,k1,k2,k3,k4,k5⟩:=h.cell i a ha
 exact ⟨A2,c2,hc _ _ k1,by rw [Nat.add_assoc];exact hc _ _ k2,by rw [Nat.add_assoc];exact hc _ _ k3,Rd.of_own k4,k5⟩
theorem OwnMk.read (h:OwnMk w base ap M m k K xs):RdL shMk w w.heap.size M m k K:=by
 have hr:=Rd.of_own h.row
 refine ⟨h.len,hr.le,hr.cap,hr.nil,fun hn=>?_⟩
 obtain ⟨b,o,e,hb,hc⟩:=hr.at_ hn
 refine ⟨b,o,e,hb,fun i a ha=>?_⟩
 obtain ⟨A2,c2,A3,c3,k1,k2,k3,k4,k5,k6⟩:=h.cell i a ha
 exact ⟨A2,c2,A3,c3,hc _ _ k1,by rw [Nat.add_assoc];exact hc _ _ k2,by rw [Nat.add_assoc];exact hc _ _ k3,by rw [Nat.add_assoc];exact hc _ _ k4,k5.read,k6⟩
theorem getElem?_set_ne' {α:Type} {l:List α} {i j:Nat} {a:α} (h:i ≠ j):(l.set i a)[j]?=l[j]?:=List.getElem?_set_ne h
theorem OwnAc.put {g i:Nat} {a:Ac} {A':Option Addr} {c':Nat} (h:OwnAc w base (some ⟨g,0,none⟩) n c L xs) (hi:i < n) (hp:w.ownsRow base 3 1 (.slice A' a.pos.length c') a.pos.length (ints a.pos)) (hl:a.pos.length * 8 ≤ 140737488355328) :
  OwnAc (((w.setCell ⟨g,i * 3,none⟩ (.int .i64 a.id)).setCell ⟨g,i * 3 + 1,none⟩ (.int .i64 a.bal)).setCell ⟨g,i * 3 + 2,none⟩ (.slice A' a.pos.length c')) base (some ⟨g,0,none⟩) n c (L.set i a)
   (((xs.set (i * 3) (.int .i64 a.id)).set (i * 3 + 1) (.int .i64 a.bal)).set (i * 3 + 2) (.slice A' a.pos.length c')):=by
 have hlen:=h.row.1
 have hk:∀ v n ys,w.ownsRow base 3 1 v n ys→(((w.setCell ⟨g,i * 3,none⟩ (.int .i64 a.id)).setCell ⟨g,i * 3 + 1,none⟩ (.int .i64 a.bal)).setCell ⟨g,i * 3 + 2,none⟩ (.slice A' a.pos.length c')).ownsRow base 3 1 v n ys:=by
  intro v n ys hv
  obtain ⟨g',cs,e1,_,hb⟩:=own_blk h.row (by omega)
  injection e1 with e1
  injection e1 with e1
  subst e1
  refine Kept.own (S:=[37]) ?_ hv (by decide)
  exact (((Kept.refl _ _).set hb (by decide) _ _).set (hb.set_ _ _) (by decide) _ _).set ((hb.set_ _ _).set_ _ _) (by decide) _ _
 refine ⟨own_store (own_store (own_store h.row _ _) _ _) _ _,by rw [List.length_set];exact h.len,fun j b hb=>?_⟩
 by_cases e:j=i
 ·subst e
  have:b=a:=by
   rw [List.getElem?_set_self (by rw [h.len];exact hi)] at hb
   injection hb with hb;exact hb.symm
  subst this
  refine ⟨A',c',?_,?_,?_,hk _ _ _ hp,hl⟩
  ·rw [getElem?_set_ne' (by omega),getElem?_set_ne' (by omega),List.getElem?_set_self (by omega)]
  ·rw [getElem?_set_ne' (by omega),List.getElem?_set_self (by rw [List.length_set];omega)]
  ·rw [List.getElem?_set_self (by rw [List.length_set,List.length_set];omega)]
 ·rw [getElem?_set_ne' (Ne.symm e)] at hb
  obtain ⟨A2,c2,k1,k2,k3,k4,k5⟩:=h.cell j b hb
  refine ⟨A2,c2,?_,?_,?_,hk _ _ _ k4,k5⟩
  ·rw [getElem?_set_ne' (by omega),getElem?_set_ne' (by omega),getElem?_set_ne' (by omega)];exact k1
  ·rw [getElem?_set_ne' (by omega),getElem?_set_ne' (by omega),getElem?_set_ne' (by omega)];exact k2
  ·rw [getElem?_set_ne' (by omega),getElem?_set_ne' (by omega),getElem?_set_ne' (by omega)];exact k3
end
theorem Blk.grown {w w':World} {g:Nat} {t:TypeId} {cs:Array Value} {b:Option Nat} (h:Blk w g t cs) (hg:w.grownBy w' b) (hne:b ≠ some g):Blk w' g t cs:=(hg.block g h.lt fun e=>hne e.symm).trans h
structure Desk (w:World) (base D:Nat) (ap:Bool) (d:Dk) (A:Option Addr) (c:Nat) (M:Option Addr) (k:Nat) (vE:Value) (xs ys:List Value):Prop where
 blk:Blk w D 174 #[.slice A d.v.accs.length c,.slice M d.v.mks.length k,.int .i64 d.v.ins,.int .i64 d.v.resid,.int .i64 d.v.next,.int .i64 d.v.inn,.int .i64 d.v.out,vE]
 low:base ≤ D
 accs:OwnAc w base A d.v.accs.length c d.v.accs xs
 mks:OwnMk w base ap M d.v.mks.length k d.v.mks ys
 evs:w.ownsRow base 124 13 vE d.ev.length (evCells d.ev)
section
variable {w w':World} {base D c k:Nat} {ap:Bool} {d:Dk} {A M:Option Addr} {vE:Value} {xs ys:List Value}
theorem Desk.below (h:Desk w base D ap d A c M k vE xs ys) (hb:Below w.heap.size w w'):Desk w' base D ap d A c M k vE xs ys :=
 ⟨h.blk.below hb h.blk.lt,h.low,h.accs.below hb,h.mks.below hb,own_below h.evs hb (Nat.le_refl _)⟩
theorem Desk.lt (h:Desk w base D ap d A c M k vE xs ys):D < w.heap.size:=h.blk.lt
end
end
section
open Go.RowKit Go.Sort Go.Lib
theorem odCells_flat {s:Int}:∀ {L:List Od},(∀ o ∈ L,o.side=s)→odCells L=L.flatMap (encS s)
 | [],_=>rfl
 | o :: l,h=>by
  rw [List.flatMap_cons,← odCells_flat (fun x hx=>h x (List.mem_cons_of_mem _ hx)),odCells,h o List.mem_cons_self]
  rfl
theorem sort_eq {s:Int} {L L' X:List Od} {n:Nat} (hp:L'.Perm L) (hX:X.Perm L) (hs:∀ o ∈ X,o.side=s) (hso:Sorted X) (hnd:(X.map Od.id).Nodup) (hl:L'.length=n) (hF:SoF (ltS s) 0 n (atA L'.toArray)):L'=X:=by
 have hpx:L'.Perm X:=hp.trans hX.symm
 have hs':∀ o ∈ L',o.side=s:=fun o ho=>hs o (hpx.mem_iff.1 ho)
 have hnd':(L'.map Od.id).Nodup:=(hpx.map Od.id).nodup_iff.2 hnd
 refine sorted_ext hs' hs ?_ hso (fun o=>hpx.mem_iff)
 unfold Sorted
 rw [List.pairwise_iff_getElem]
 intro i j hi hj hij
 have h0:=hF i j (Nat.zero_le _) hij (by omega)
 have e1:atA L'.toArray j=L'[j]:=by unfold atA;simp [getElem!_pos L'.toArray j (by simpa using hj)]
 have e2:atA L'.toArray i=L'[i]:=by unfold atA;simp [getElem!_pos L'.toArray i (by simpa using hi)]
 rw [e1,e2] at h0
 have m1:=hs' _ (List.getElem_mem hi)
 have m2:=hs' _ (List.getElem_mem hj)
 have h1:aheadB L'[j] L'[i]=false:=by
  have q1:atSide s L'[j]=L'[j]:=by unfold atSide;rw [← m2]
  have q2:atSide s L'[i]=L'[i]:=by unfold atSide;rw [← m1]
  unfold ltS at h0
  rwa [q1,q2] at h0
 refine ahead_total (m2.trans m1.symm) (fun he=>?_) h1
 have:=List.pairwise_iff_getElem.1 hnd' i j (by simpa using hi) (by simpa using hj) hij
 simp at this
 exact this he.symm
theorem perm_small {L X:List Od} (h:X.Perm L) (hl:L.length ≤ 1):L=X:=by
 match L,hl with
 | [],_=>exact h.eq_nil.symm
 | [a],_=>exact (List.perm_singleton.1 h).symm
def isBid (o:Od):Bool:=decide (o.qty ≠ 0) && decide (o.side=1)
def isAsk (o:Od):Bool:=decide (o.qty ≠ 0) && !decide (o.side=1)
structure BkOf (l:List Od) (X:Bk):Prop where
 pb:X.bids.Perm (l.filter isBid)
 pa:X.asks.Perm (l.filter isAsk)
 sb:Sorted X.bids
 sa:Sorted X.asks
 b1:∀ o ∈ X.bids,o.side=1
 a1:∀ o ∈ X.asks,o.side = -1
 nb:(X.bids.map Od.id).Nodup
 na:(X.asks.map Od.id).Nodup
theorem filter_snoc {l:List Od} {p:Od→Bool} {j:Nat} {x:Od} (hx:l[j]?=some x):(l.take (j + 1)).filter p=(l.take j).filter p ++ if p x then [x] else []:=by
 rw [List.take_add_one,hx,List.filter_append]
 congr 1
 simp only [Option.toList]
 by_cases h:p x <;> simp [h]
theorem filter_len {l:List Od} {p:Od→Bool} (j:Nat):((l.take j).filter p).length ≤ l.length:=Nat.le_trans (List.length_filter_le _ _) (by rw [List.length_take];exact Nat.min_le_right _ _)
structure BoxB (w:World) (base Bp:Nat) (v v':Value) (L M:List Od):Prop where
 bx:Blk w Bp 62 #[v,v']
 l:w.ownsRow base 71 5 v L.length (odCells L)
 r:w.ownsRow base 71 5 v' M.length (odCells M)
 ap:v.ownBlock=none∨v.ownBlock ≠ v'.ownBlock
 ap':v'.ownBlock=none∨v'.ownBlock ≠ v.ownBlock
 lt:Bp < base
theorem own_ge {w:World} {base e k n:Nat} {v:Value} {xs:List Value} (h:w.ownsRow base e k v n xs):v.ownBlock ≠ none→∃ g,v.ownBlock=some g∧base ≤ g∧g < w.heap.size:=by
 intro hv
 obtain ⟨_,⟨h1,_⟩ | ⟨g,cap,cur,h1,hb0,hb,_⟩⟩:=h
 ·rw [h1] at hv;exact absurd rfl hv
 ·exact ⟨g,by rw [h1];rfl,hb0,Blk.lt (t:=e) (cs:=cur) hb⟩
theorem BoxB.ne_l {w:World} {base Bp:Nat} {v v':Value} {L M:List Od} (h:BoxB w base Bp v v' L M) {x:Nat} (hx:x < base):v.ownBlock ≠ some x:=fun e=>by
 obtain ⟨g,e1,e2,_⟩:=own_ge h.l (by rw [e];simp)
 rw [e] at e1;injection e1;omega
theorem BoxB.ne_r {w:World} {base Bp:Nat} {v v':Value} {L M:List Od} (h:BoxB w base Bp v v' L M) {x:Nat} (hx:x < base):v'.ownBlock ≠ some x:=fun e=>by
 obtain ⟨g,e1,e2,_⟩:=own_ge h.r (by rw [e];simp)
 rw [e] at e1;injection e1;omega
theorem BoxB.below {w w1:World} {base Bp:Nat} {v v':Value} {L M:List Od} (h:BoxB w base Bp v v' L M) (hb:Below w.heap.size w w1):BoxB w1 base Bp v v' L M :=
 ⟨h.bx.below hb h.bx.lt,own_below h.l hb (Nat.le_refl _),own_below h.r hb (Nat.le_refl _),h.ap,h.ap',h.lt⟩
theorem at_ne {w:World} {base e k n:Nat} {v v1 v':Value} {xs:List Value} (hr:w.ownsRow base e k v' n xs) (h:v1.ownBlock=v.ownBlock∨v1.ownBlock=some w.heap.size) (ha:v.ownBlock=none∨v.ownBlock ≠ v'.ownBlock):v1.ownBlock=none∨v1.ownBlock ≠ v'.ownBlock:=by
 rcases h with h | h
 ·rw [h];exact ha
 ·right
  intro e
  obtain ⟨g,e1,_,e3⟩:=own_ge hr (by rw [← e,h];simp)
  rw [← e,h] at e1;injection e1;omega
theorem or_flip {a b:Option Nat} (h:a=none∨a ≠ b):b=none∨b ≠ a:=by
 cases b with
 | none=>exact .inl rfl
 | some x =>
  right
  intro e
  rcases h with h | h
  ·rw [h] at e;cases e
  ·exact h e.symm
theorem BoxB.app_l {w w1:World} {base Bp:Nat} {v v' v1:Value} {L M:List Od} {x:Od} (h:BoxB w base Bp v v' L M) (ho:w1.ownsRow base 71 5 v1 (L.length + 1) (odCells L ++ odCells [x])) (hg:w.grownBy w1 v.ownBlock)
  (ha:v1.ownBlock=v.ownBlock∨v1.ownBlock=some w.heap.size):BoxB (w1.setCell ⟨Bp,0,none⟩ v1) base Bp v1 v' (L ++ [x]) M:=by
 have hq:=at_ne h.r ha h.ap
 refine ⟨?_,?_,?_,hq,or_flip hq,h.lt⟩
 ·have:=(h.bx.grown hg (h.ne_l h.lt)).set_ 0 v1
  simpa using this
 ·rw [← odCells_app] at ho
  rw [List.length_append]
  exact ownsRow_setCell_below ho h.lt _
 ·exact ownsRow_setCell_below (World.ownsRow.kept h.r hg h.ap') h.lt _
theorem BoxB.app_r {w w1:World} {base Bp:Nat} {v v' v1:Value} {L M:List Od} {x:Od} (h:BoxB w base Bp v v' L M) (ho:w1.ownsRow base 71 5 v1 (M.length + 1) (odCells M ++ odCells [x])) (hg:w.grownBy w1 v'.ownBlock)
  (ha:v1.ownBlock=v'.ownBlock∨v1.ownBlock=some w.heap.size):BoxB (w1.setCell ⟨Bp,1,none⟩ v1) base Bp v v1 L (M ++ [x]):=by
 have hq:=at_ne h.l ha h.ap'
 refine ⟨?_,?_,?_,or_flip hq,hq,h.lt⟩
 ·have:=(h.bx.grown hg (h.ne_r h.lt)).set_ 1 v1
  simpa using this
 ·exact ownsRow_setCell_below (World.ownsRow.kept h.l hg h.ap) h.lt _
 ·rw [← odCells_app] at ho
  rw [List.length_append]
  exact ownsRow_setCell_below ho h.lt _
end
section
open Go.RowKit
set_option maxHeartbeats 2000000 in
set_option maxRecDepth 100000 in
theorem rorders_any (b:Bk) (A A':Option Addr) (c c' B:Nat) (w:World) (h:BkR w B A A' c c' b) (hB:B ≤ w.heap.size) (hl:(b.bids.length + b.asks.length) * 40 ≤ 140737488355328) :
  Calls Try.prog 148 #[.agg #[.slice A b.bids.length c,.slice A' b.asks.length c']] w (RetRow w 71 5 (b.bids.length + b.asks.length) (odCells (b.bids ++ b.asks))):=by
 have HO:Hid ((((w.alloc (.cells #[.slice A b.bids.length c,.slice A' b.asks.length c'] 62)).alloc (.cells #[] 71)).drewN 1).ownsRow (w.heap.size + 1) 71 5 (.slice (some ⟨w.heap.size + 1,0,none⟩) 0 0) 0 []) :=
  Lib.hid (own_drewN (own_lit_at (w.alloc (.cells #[.slice A b.bids.length c,.slice A' b.asks.length c'] 62)) #[] (w.heap.size + 1) 0 (by simp) (by simp) (by decide) rfl) 1)
 have hbw:Below w.heap.size w (((w.alloc (.cells #[.slice A b.bids.length c,.slice A' b.asks.length c'] 62)).alloc (.cells #[] 71)).drewN 1):=below_drewN (((Below.refl _ _).alloc (Nat.le_refl _) _).alloc (by simp) _) 1
 have HA:=Lib.hid (h.l.below (hbw.mono hB))
 have HA':=Lib.hid (h.r.below (hbw.mono hB))
 have HBW:=Lib.hid hbw
 have HK:Hid (Blk (((w.alloc (.cells #[.slice A b.bids.length c,.slice A' b.asks.length c'] 62)).alloc (.cells #[] 71)).drewN 1) w.heap.size 62 #[.slice A b.bids.length c,.slice A' b.asks.length c']):=Lib.hid (((Blk.new w _ _).alloc _).drewN 1)
 have hm:b.bids.length + b.asks.length ≤ maxLen:=by simp only [maxLen];omega
 have HM:=Lib.hid hm
 clear h hbw hm
 go_enter Try.func148,Try.ntmps148
 go_wp2_with fail
 go_region_law (first
  | (refine step_app rfl (.tmp 3) (.tmp 5) 60 rfl (w.heap.size + 1) 71 5 40 elem_od (.slice (some ⟨w.heap.size + 1,0,none⟩) 0 0) 0 [] (by simp [Act.eval]) HO.out B A b.bids.length c (odCells b.bids) (by simp [Act.eval]) HA.out (odCells_one _) (by have:=HM.out;omega) (by omega) (by simp) ?_;intro v1 w1 hown1 hb1 hgr1 hat1;obtain ⟨A1,c1,rfl⟩:=own_shape hown1;have l1:=(HK.out.below hb1 (by omega)).c2.1.2)
  | (refine step_app rfl (.tmp 6) (.tmp 8) 60 rfl (w.heap.size + 1) 71 5 40 elem_od _ _ _ (by simp [Act.eval]) hown1 B A' b.asks.length c' (odCells b.asks) (by simp [Act.eval]) (HA'.out.below (hb1.mono (by omega))) (odCells_one _) (by have:=HM.out;omega) (by omega) (by have:=hb1.size;simp at this;omega) ?_;intro v2 w2 hown2 hb2 hgr2 hat2))
 all_goals
  have HO2:=Lib.hid (show w2.ownsRow w.heap.size 71 5 v2 (b.bids.length + b.asks.length) (odCells (b.bids ++ b.asks)) from by
   rw [odCells_app]
   have:=own_mono (base:=w.heap.size + 1) (base':=w.heap.size) hown2 (by omega)
   simpa using this)
  have HB2:=Lib.hid (HBW.out.trans ((hb1.trans hb2).mono (by omega)))
  clear hown1 hown2 hb1 hb2 hgr1 hgr2 hat1 hat2 l1
  go_wp2_with fail
  go_ret
  exact ⟨_,rfl,HO2.out,HB2.out⟩
end
end Go.Proofs.Ytockodmbhnlheaa
