/-
  THE LAW MatchSays: holds for every input, with no condition. (Joined texts: Book2.)
-/
import Derived.Test.YtockodmbhnlheaaMatchSaysC
import Derived.Test.YtockodmbhnlheaaProg
import Derived.Test.YtockodmbhnlheaaMatchSaysA
import Derived.Maps.AppendAt
import Derived.Laws.AppendOwnNone
import Derived.OwnWalk
import Derived.Deep.RegionHeld3
import Derived.Test.YtockodmbhnlheaaMatchSaysB
import Derived.Lib.AppendZeros
import Derived.Laws.CopyOwn
import Derived.Lib.AppendZerosOnto
import Derived.Lib.Overlaps
import Derived.Laws.Externs
import Derived.Deep.RegionLaw
import Derived.Maps.Own
import Derived.Maps.OwnOps
import Derived.Maps.Views
import Derived.WalkKit
import Derived.Deep.Draws
import Derived.IntWalk
import Derived.Deep.QuietTactic
import Derived.BigQuiet
import Derived.Deep.DeepCutAuto
import Derived.WalkSpells
import Derived.WalkLawsBesides
import Derived.Lib.Hide
namespace Go.Proofs.Ytockodmbhnlheaa
section
open Go.RowKit
theorem hasB_any (b:Bk) (id:Int):(b.bids ++ b.asks).any (hasId id)=hasB b id:=by
 unfold hasB
 congr 1
set_option maxHeartbeats 1000000 in
theorem has_bk (b:Bk) (id:Int) (A A':Option Addr) (c c' B:Nat) (w:World) (h:BkR w B A A' c c' b) (hB:B ≤ w.heap.size) (hl:(b.bids.length + b.asks.length) * 40 ≤ 140737488355328) :
  Calls Try.prog 134 #[.agg #[.slice A b.bids.length c,.slice A' b.asks.length c'],.int .i64 id] w fun e w'=>e=.returned (.bool (hasB b id))∧Below w.heap.size w w':=by
 have HE:=Lib.hid (hasB_any b id)
 go_enter Try.func134,Try.ntmps134
 go_wp2_with fail
 obtain ⟨w1,hw1⟩:∃ x,x=(w.alloc (.cells #[.slice A b.bids.length c,.slice A' b.asks.length c'] 62)).alloc (.cells #[.int .i64 id] 3):=⟨_,rfl⟩
 have hb1:Below w.heap.size w w1:=by rw [hw1];exact ((Below.refl _ _).alloc (Nat.le_refl _) _).alloc (by simp) _
 have hs1:w1.heap.size=w.heap.size + 1 + 1:=by rw [hw1];simp
 have B2:Blk w1 (w.heap.size + 1) 3 #[.int .i64 id]:=by
  have:=Blk.new (w.alloc (.cells #[.slice A b.bids.length c,.slice A' b.asks.length c'] 62)) 3 #[.int .i64 id]
  rw [World.size_alloc] at this
  rw [hw1];exact this
 rw [← hw1]
 obtain ⟨w2,hw2⟩:∃ x,x=w1.alloc (.cells #[.slice A b.bids.length c,.slice A' b.asks.length c'] 60):=⟨_,rfl⟩
 have hb2:Below w.heap.size w w2:=by rw [hw2];exact hb1.alloc (by omega) _
 have hs2:w2.heap.size=w.heap.size + 1 + 1 + 1:=by rw [hw2];simp [hs1]
 have B3:Blk w2 (w.heap.size + 1 + 1) 60 #[.slice A b.bids.length c,.slice A' b.asks.length c']:=by
  have:=Blk.new w1 60 #[.slice A b.bids.length c,.slice A' b.asks.length c']
  rw [hs1] at this
  rw [hw2];exact this
 have B2':Blk w2 (w.heap.size + 1) 3 #[.int .i64 id]:=by rw [hw2];exact B2.alloc _
 rw [← hw2]
 have hr:=h.below (hb2.mono hB)
 clear hw1 hw2 B2 hb1
 refine (concat_ods A A' b.bids.length c b.asks.length c' b.bids b.asks B w2 hr.l hr.r (by omega) (w.heap.size + 1 + 1) (by omega) B3.c2.1.1 B3.c2.1.2 hl).mono ?_
 rintro e w3 ⟨v,rfl,hown,hb3⟩
 obtain ⟨A1,c1,rfl⟩:=own_shape hown
 have hr3:=Rd.of_own hown
 have hs3:=hb3.size
 have Bi:=B2'.below hb3 (by omega)
 have HB:=Lib.hid (hb2.trans (hb3.mono (by omega)))
 clear hown hb3 hb2 B3 B2'
 go_wp2_with fail
 refine (contains_has A1 (b.bids.length + b.asks.length) c1 (b.bids ++ b.asks) id (w.heap.size + 1) w3.heap.size w3 hr3 (Nat.le_refl _) (by omega) (Bi.cell 0)).mono ?_
 rintro e w4 ⟨rfl,hb4⟩
 go_wp2_with fail
 go_ret
 exact ⟨ret_bb (by rw [← List.any_append];exact HE.out),HB.out.trans (hb4.mono (by omega))⟩
set_option maxHeartbeats 400000 in
theorem of_buy (g:Nat) (w:World) (x y:Value) (_h0:w.cell? ⟨g,0,none⟩=some x) (_h1:w.cell? ⟨g,1,none⟩=some y) :
  Calls Try.prog 136 #[.pointer (some ⟨g,0,none⟩),.int .i64 1] w fun e w'=>e=.returned (.tuple #[.pointer (some ⟨g,0,none⟩),.pointer (some ⟨g,1,none⟩)])∧w'=w.drew:=by
 go_enter Try.func136,Try.ntmps136
 go_wp2_with fail
 go_region
 go_wp2_with fail
 go_ret2
 exact ⟨rfl,rfl⟩
set_option maxHeartbeats 400000 in
theorem of_sell (g:Nat) (s:Int) (w:World) (x y:Value) (_h0:w.cell? ⟨g,0,none⟩=some x) (_h1:w.cell? ⟨g,1,none⟩=some y) (hs:(s == 1)=false) :
  Calls Try.prog 136 #[.pointer (some ⟨g,0,none⟩),.int .i64 s] w fun e w'=>e=.returned (.tuple #[.pointer (some ⟨g,1,none⟩),.pointer (some ⟨g,0,none⟩)])∧w'=w.drew:=by
 go_enter Try.func136,Try.ntmps136
 go_wp2_with fail
 go_region
 go_wp2_with fail
 go_ret2
 exact ⟨rfl,rfl⟩
end
end Go.Proofs.Ytockodmbhnlheaa
