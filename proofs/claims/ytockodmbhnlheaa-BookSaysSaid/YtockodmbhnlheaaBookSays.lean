/-
  THE LAW BookSays: holds for every input, with no condition. (Joined texts: BookSaysW, BookSays.)
-/
import Derived.Test.YtockodmbhnlheaaBookSaysG
import Derived.Test.YtockodmbhnlheaaBookSaysL
import Derived.Test.YtockodmbhnlheaaBookSaysM
import Derived.Test.YtockodmbhnlheaaProg
import Derived.Test.YtockodmbhnlheaaBookSaysA
import Derived.Maps.AppendAt
import Derived.Laws.AppendOwnNone
import Derived.OwnWalk
import Derived.Test.YtockodmbhnlheaaBookSaysD
import Derived.Deep.RegionHeld3
import Derived.Test.YtockodmbhnlheaaBookSaysB
import Derived.Test.YtockodmbhnlheaaBookSaysC
import Derived.Lib.AppendZeros
import Derived.Test.YtockodmbhnlheaaBookSaysF
import Derived.Test.YtockodmbhnlheaaBookSaysJ
import Derived.Test.YtockodmbhnlheaaBookSaysE
import Derived.Laws.CopyOwn
import Derived.Lib.AppendZerosOnto
import Derived.Lib.Overlaps
import Derived.Laws.Externs
import Derived.Deep.RegionLaw
import Derived.Maps.Own
import Derived.Maps.OwnOps
import Derived.Maps.Views
import Derived.WalkKit
import Derived.Deep.Draws
import Derived.IntWalk
import Derived.Test.YtockodmbhnlheaaBookSaysK
import Derived.Deep.DeepCutAuto
import Derived.Deep.Cut
import Derived.Test.YtockodmbhnlheaaBookSaysH
import Derived.Shelf.SlSortFuncK.SWK
import Derived.Lib.Hide
import Derived.Test.YtockodmbhnlheaaBookSaysI
import Derived.Shelf.GgSortFunc.SmallK
import Derived.Shelf.GgSortMore.Stable
import Derived.Deep.QuietTactic
import Derived.BigQuiet
import Derived.WalkSpells
import Derived.WalkLawsBesides
import Derived.Sort.WalkA
import Derived.Sort.LotA
import Derived.Test.YtockodmbhnlheaaRows
import Derived.JoinedOf
import Derived.KernelRfl
import Derived.ProofKit
import Derived.OpenShut
import Derived.SizedLaws
import Derived.Deep.Slices
namespace Go.Proofs.Ytockodmbhnlheaa
section
open Go.RowKit
theorem find_two (b:Bk) (id:Int):∃ o e,findOf b id=(o,e):=⟨_,_,rfl⟩
theorem bne_of {a:Int} (h:¬ a=0):(a != 0)=true:=by simpa using h
theorem headPrice_nil {l:List Od} (h:l.length=0):headPrice l=0:=by
 cases l with
 | nil=>rfl
 | cons a t=>simp at h
theorem headPrice_at {l:List Od} {x:Od} (h:l[0]?=some x):headPrice l=x.price:=by
 cases l with
 | nil=>simp at h
 | cons a t=>simp at h;subst h;rfl
theorem best_tri (b:Bk):∃ x y e,bestOf b=(x,y,e):=⟨_,_,_,rfl⟩
set_option maxHeartbeats 8000000 in
set_option maxRecDepth 100000 in
theorem bookSays_walk (b:Bk) (A A':Option Addr) (c c':Nat) (o p:Od) (id:Int) (d:Bk) (C C':Option Addr) (k k':Nat) (w:World) (h0:Rd w w.heap.size 5 A b.bids.length c (odCells b.bids)) (h0':Rd w w.heap.size 5 A' b.asks.length c' (odCells b.asks)) (s:c * 40 ≤ reachBytes) (s':c' * 40 ≤ reachBytes)
  (g0:Rd w w.heap.size 5 C d.bids.length k (odCells d.bids)) (g0':Rd w w.heap.size 5 C' d.asks.length k' (odCells d.asks)) :
  Calls Try.prog 19 #[.agg #[.slice A b.bids.length c,.slice A' b.asks.length c'],.agg #[.int .i64 o.id,.int .i64 o.acc,.int .i64 o.side,.int .i64 o.price,.int .i64 o.qty],.agg #[.int .i64 p.id,.int .i64 p.acc,.int .i64 p.side,.int .i64 p.price,.int .i64 p.qty],.int .i64 id,.agg #[.slice C d.bids.length k,.slice C' d.asks.length k']] w fun e w'=>e=.returned (.bool true)∧Below w.heap.size w w':=by
 have h:BkR w w.heap.size A A' c c' b:=⟨h0,h0'⟩
 have g:BkR w w.heap.size C C' k k' d:=⟨g0,g0'⟩
 have hl:b.bids.length ≤ 4000000000000:=by have:=h0.le;have:reachBytes=140737488351232:=rfl;omega
 have hl':b.asks.length ≤ 4000000000000:=by have:=h0'.le;have:reachBytes=140737488351232:=rfl;omega
 clear h0 h0' s s' g0 g0'
 obtain ⟨xb,e1,hr1⟩:=rest_pair b o
 obtain ⟨y,e2,hr2⟩:=find_two b id
 obtain ⟨zb,ww,e3,hr3⟩:=remove_tri b id
 obtain ⟨bid,ask,e4,hr4⟩:=best_tri b
 have HR1:=Lib.hid hr1
 have HR2:=Lib.hid hr2
 have HR3:=Lib.hid hr3
 have HR4:=Lib.hid hr4
 clear hr1 hr2 hr3 hr4
 have q:=run_eql_od
 go_enter Try.func19,Try.ntmps19
 go_wp2_with fail
 refine calls_name ?_
 intro w2 hw2
 have hb2:Below w.heap.size w w2:=by rw [hw2];exact ((((Below.refl _ _).alloc (Nat.le_refl _) _).alloc (by simp) _).alloc (by simp;omega) _).alloc (by simp;omega) _
 have hs2:w2.heap.size=w.heap.size + 1 + 1 + 1 + 1:=by rw [hw2];simp
 have X5:Blk w2 w.heap.size 62 #[.slice A b.bids.length c,.slice A' b.asks.length c']:=by rw [hw2];exact (((Blk.new w _ _).alloc _).alloc _).alloc _
 have X6:Blk w2 (w.heap.size + 1) 71 #[.int .i64 o.id,.int .i64 o.acc,.int .i64 o.side,.int .i64 o.price,.int .i64 o.qty]:=by rw [hw2];exact ((Blk.new_at _ _ _ _ (by simp)).alloc _).alloc _
 have X7:Blk w2 (w.heap.size + 1 + 1) 71 #[.int .i64 p.id,.int .i64 p.acc,.int .i64 p.side,.int .i64 p.price,.int .i64 p.qty]:=by rw [hw2];exact (Blk.new_at _ _ _ _ (by simp)).alloc _
 have X9:Blk w2 (w.heap.size + 1 + 1 + 1) 62 #[.slice C d.bids.length k,.slice C' d.asks.length k']:=by rw [hw2];exact Blk.new_at _ _ _ _ (by simp)
 have HH:=Lib.hid h
 have HG:=Lib.hid g
 clear hw2 h g
 refine (rest_bk b o A A' c c' w.heap.size w2 (HH.out.below hb2) (by omega) (by omega) (by omega)).mono ?_
 rw [HR1.out]
 rintro e w3 ⟨v,rfl,hown,hb3⟩
 obtain ⟨P1,p1,P1',p1',rfl,H3⟩:=hown.obk
 have hs3:=hb3.size
 obtain ⟨⟨kX50,kX51⟩,-⟩:=X5.c2
 clear kX50 kX51
 replace X5:=X5.below hb3 X5.lt
 obtain ⟨⟨kX50,kX51⟩,-⟩:=X5.c2
 replace X6:=X6.below hb3 X6.lt
 replace X7:=X7.below hb3 X7.lt
 replace X9:=X9.below hb3 X9.lt
 have hbR:=hb2.trans (hb3.mono (by omega))
 clear hown hb3 hb2
 have x5:w.heap.size < w3.heap.size:=by omega
 go_wp2_with fail
 refine calls_name ?_
 intro w4 hw4
 have hb4:Below w3.heap.size w3 w4:=by rw [hw4];exact (Below.refl _ _).alloc (Nat.le_refl _) _
 have hs4:w4.heap.size=w3.heap.size + 1:=by rw [hw4];simp
 have X11:Blk w4 w3.heap.size 62 #[.slice P1 xb.bids.length p1,.slice P1' xb.asks.length p1']:=by rw [hw4];exact Blk.new w3 _ _
 clear hw4 x5
 clear kX50 kX51
 replace X5:=X5.below hb4 X5.lt
 obtain ⟨⟨kX50,kX51⟩,-⟩:=X5.c2
 replace X6:=X6.below hb4 X6.lt
 replace X7:=X7.below hb4 X7.lt
 replace X9:=X9.below hb4 X9.lt
 replace H3:=H3.below hb4 (Nat.le_refl _)
 replace hbR:=hbR.trans (hb4.mono (by omega))
 clear hb4
 refine (find_bk b id A A' c c' w.heap.size w4 (HH.out.below hbR) (by omega) (by omega) (by omega)).mono ?_
 rw [HR2.out]
 rintro e w5 ⟨rfl,hb5⟩
 have hs5:=hb5.size
 clear kX50 kX51
 replace X5:=X5.below hb5 X5.lt
 obtain ⟨⟨kX50,kX51⟩,-⟩:=X5.c2
 replace X6:=X6.below hb5 X6.lt
 replace X7:=X7.below hb5 X7.lt
 replace X9:=X9.below hb5 X9.lt
 replace X11:=X11.below hb5 X11.lt
 replace H3:=H3.below hb5 (Nat.le_refl _)
 replace hbR:=hbR.trans (hb5.mono (by omega))
 clear hb5
 have x5:w.heap.size < w5.heap.size:=by omega
 go_wp2_with fail
 refine calls_name ?_
 intro w6 hw6
 have hb6:Below w5.heap.size w5 w6:=by rw [hw6];exact (Below.refl _ _).alloc (Nat.le_refl _) _
 have hs6:w6.heap.size=w5.heap.size + 1:=by rw [hw6];simp
 have X13:Blk w6 w5.heap.size 71 #[.int .i64 y.id,.int .i64 y.acc,.int .i64 y.side,.int .i64 y.price,.int .i64 y.qty]:=by rw [hw6];exact Blk.new w5 _ _
 clear hw6 x5
 clear kX50 kX51
 replace X5:=X5.below hb6 X5.lt
 obtain ⟨⟨kX50,kX51⟩,-⟩:=X5.c2
 replace X6:=X6.below hb6 X6.lt
 replace X7:=X7.below hb6 X7.lt
 replace X9:=X9.below hb6 X9.lt
 replace X11:=X11.below hb6 X11.lt
 replace H3:=H3.below hb6 (Nat.le_refl _)
 replace hbR:=hbR.trans (hb6.mono (by omega))
 clear hb6
 refine (remove_bk b id A A' c c' w.heap.size w6 (HH.out.below hbR) (by omega) (by omega) (by omega)).mono ?_
 rw [HR3.out]
 rintro e w7 ⟨v,rfl,hown,hb7⟩
 obtain ⟨Q1,q1,Q1',q1',rfl,H7⟩:=hown.obk
 have hs7:=hb7.size
 clear kX50 kX51
 replace X5:=X5.below hb7 X5.lt
 obtain ⟨⟨kX50,kX51⟩,-⟩:=X5.c2
 replace X6:=X6.below hb7 X6.lt
 replace X7:=X7.below hb7 X7.lt
 replace X9:=X9.below hb7 X9.lt
 replace X11:=X11.below hb7 X11.lt
 replace X13:=X13.below hb7 X13.lt
 replace H3:=H3.below hb7 (Nat.le_refl _)
 replace hbR:=hbR.trans (hb7.mono (by omega))
 clear hown hb7
 have x5:w.heap.size < w7.heap.size:=by omega
 go_wp2_with fail
 refine calls_name ?_
 intro w8 hw8
 have hb8:Below w7.heap.size w7 w8:=by rw [hw8];exact ((Below.refl _ _).alloc (Nat.le_refl _) _).alloc (by simp) _
 have hs8:w8.heap.size=w7.heap.size + 1 + 1:=by rw [hw8];simp
 have X15:Blk w8 w7.heap.size 62 #[.slice Q1 zb.bids.length q1,.slice Q1' zb.asks.length q1']:=by rw [hw8];exact (Blk.new w7 _ _).alloc _
 have X16:Blk w8 (w7.heap.size + 1) 71 #[.int .i64 ww.id,.int .i64 ww.acc,.int .i64 ww.side,.int .i64 ww.price,.int .i64 ww.qty]:=by rw [hw8];exact Blk.new_at _ _ _ _ (by simp)
 clear hw8 x5
 clear kX50 kX51
 replace X5:=X5.below hb8 X5.lt
 obtain ⟨⟨kX50,kX51⟩,-⟩:=X5.c2
 replace X6:=X6.below hb8 X6.lt
 replace X7:=X7.below hb8 X7.lt
 replace X9:=X9.below hb8 X9.lt
 replace X11:=X11.below hb8 X11.lt
 replace X13:=X13.below hb8 X13.lt
 replace H3:=H3.below hb8 (Nat.le_refl _)
 replace H7:=H7.below hb8 (Nat.le_refl _)
 replace hbR:=hbR.trans (hb8.mono (by omega))
 clear hb8
 refine (best_bk b A A' c c' w.heap.size w8 (HH.out.below hbR) (by omega) (by omega) (by omega)).mono ?_
 rw [HR4.out]
 rintro e w9 ⟨rfl,hb9⟩
 have hs9:=hb9.size
 clear kX50 kX51
 replace X5:=X5.below hb9 X5.lt
 obtain ⟨⟨kX50,kX51⟩,-⟩:=X5.c2
 replace X6:=X6.below hb9 X6.lt
 replace X7:=X7.below hb9 X7.lt
 replace X9:=X9.below hb9 X9.lt
 replace X11:=X11.below hb9 X11.lt
 replace X13:=X13.below hb9 X13.lt
 replace X15:=X15.below hb9 X15.lt
 replace X16:=X16.below hb9 X16.lt
 replace H3:=H3.below hb9 (Nat.le_refl _)
 replace H7:=H7.below hb9 (Nat.le_refl _)
 replace hbR:=hbR.trans (hb9.mono (by omega))
 clear hb9
 have x5:w.heap.size < w9.heap.size:=by omega
 go_wp2_with fail
 refine calls_name ?_
 intro wA hwA
 have hbA:Below w9.heap.size w9 wA:=by rw [hwA];exact (Below.refl _ _).alloc (Nat.le_refl _) _
 have hsA:wA.heap.size=w9.heap.size + 1:=by rw [hwA];simp
 have X21:Blk wA w9.heap.size 62 #[.slice none 0 0,.slice none 0 0]:=by rw [hwA];exact Blk.new w9 _ _
 clear hwA x5
 clear kX50 kX51
 replace X5:=X5.below hbA X5.lt
 obtain ⟨⟨kX50,kX51⟩,-⟩:=X5.c2
 replace X6:=X6.below hbA X6.lt
 replace X7:=X7.below hbA X7.lt
 replace X9:=X9.below hbA X9.lt
 replace X11:=X11.below hbA X11.lt
 replace X13:=X13.below hbA X13.lt
 replace X15:=X15.below hbA X15.lt
 replace X16:=X16.below hbA X16.lt
 replace H3:=H3.below hbA (Nat.le_refl _)
 replace H7:=H7.below hbA (Nat.le_refl _)
 replace hbR:=hbR.trans (hbA.mono (by omega))
 clear hbA
 refine (rbook_any b A A' c c' w.heap.size wA ((HH.out.below hbR).l) ((HH.out.below hbR).r) (by omega) (by omega) (by omega)).mono ?_
 rintro e wB ⟨rfl,hbB⟩
 have hsB:=hbB.size
 clear kX50 kX51
 replace X5:=X5.below hbB X5.lt
 obtain ⟨⟨kX50,kX51⟩,-⟩:=X5.c2
 replace X6:=X6.below hbB X6.lt
 replace X7:=X7.below hbB X7.lt
 replace X9:=X9.below hbB X9.lt
 replace X11:=X11.below hbB X11.lt
 replace X13:=X13.below hbB X13.lt
 replace X15:=X15.below hbB X15.lt
 replace X16:=X16.below hbB X16.lt
 replace X21:=X21.below hbB X21.lt
 replace H3:=H3.below hbB (Nat.le_refl _)
 replace H7:=H7.below hbB (Nat.le_refl _)
 replace hbR:=hbR.trans (hbB.mono (by omega))
 clear hbB
 obtain ⟨be,hbe⟩:∃ be,be=bookErr b:=⟨_,rfl⟩
 rw [← hbe]
 have HBE:=Lib.hid hbe
 clear hbe
 go_wp2_with fail
 have hBB:Below wB.heap.size wB wB:=Below.refl _ _
 have KS:Hid (∀ W,Below wB.heap.size wB W→Below wB.heap.size wB W∧(W.cell? ⟨w.heap.size,0,none⟩=some (.slice A b.bids.length c)∧W.cell? ⟨w.heap.size,1,none⟩=some (.slice A' b.asks.length c'))∧(W.cell? ⟨w.heap.size + 1,0,none⟩=some (.int .i64 o.id)∧W.cell? ⟨w.heap.size + 1,1,none⟩=some (.int .i64 o.acc)∧W.cell? ⟨w.heap.size + 1,2,none⟩=some (.int .i64 o.side)∧W.cell? ⟨w.heap.size + 1,3,none⟩=some (.int .i64 o.price)∧W.cell? ⟨w.heap.size + 1,4,none⟩=some (.int .i64 o.qty))∧(W.cell? ⟨w.heap.size + 1 + 1,0,none⟩=some (.int .i64 p.id)∧W.cell? ⟨w.heap.size + 1 + 1,1,none⟩=some (.int .i64 p.acc)∧W.cell? ⟨w.heap.size + 1 + 1,2,none⟩=some (.int .i64 p.side)∧W.cell? ⟨w.heap.size + 1 + 1,3,none⟩=some (.int .i64 p.price)∧W.cell? ⟨w.heap.size + 1 + 1,4,none⟩=some (.int .i64 p.qty))∧(W.cell? ⟨w.heap.size + 1 + 1 + 1,0,none⟩=some (.slice C d.bids.length k)∧W.cell? ⟨w.heap.size + 1 + 1 + 1,1,none⟩=some (.slice C' d.asks.length k'))):=by
  intro W hW
  exact ⟨hW,(X5.below hW X5.lt).c2.1,(X6.below hW X6.lt).c5.1,(X7.below hW X7.lt).c5.1,(X9.below hW X9.lt).c2.1⟩
 have HRB:=Lib.hid hbR
 have HSB:=Lib.hid (show w.heap.size ≤ wB.heap.size by omega)
 obtain ⟨⟨m0,m1⟩,-⟩:=X5.c2
 obtain ⟨⟨n0,n1,n2,n3,n4⟩,-⟩:=X6.c5
 obtain ⟨⟨n5,n6,n7,n8,n9⟩,-⟩:=X7.c5
 obtain ⟨⟨m2,m3⟩,-⟩:=X9.c2
 go_cut [86] (fun v wx=>v=.bool false∧Below wB.heap.size wB wx)
 case first=>as_aux_lemma =>
  have t1:(ordErr o != ordErr o)=false:=by simp
  have t2:(aheadB o p != aheadB o p)=false:=by simp
  have t3:(sameBk b d != sameBk b d)=false:=by simp
  have t4:(be != be)=false:=by simp
  go_region_held3 (fun W=>Below wB.heap.size wB W∧(W.cell? ⟨w.heap.size,0,none⟩=some (.slice A b.bids.length c)∧W.cell? ⟨w.heap.size,1,none⟩=some (.slice A' b.asks.length c'))∧(W.cell? ⟨w.heap.size + 1,0,none⟩=some (.int .i64 o.id)∧W.cell? ⟨w.heap.size + 1,1,none⟩=some (.int .i64 o.acc)∧W.cell? ⟨w.heap.size + 1,2,none⟩=some (.int .i64 o.side)∧W.cell? ⟨w.heap.size + 1,3,none⟩=some (.int .i64 o.price)∧W.cell? ⟨w.heap.size + 1,4,none⟩=some (.int .i64 o.qty))∧(W.cell? ⟨w.heap.size + 1 + 1,0,none⟩=some (.int .i64 p.id)∧W.cell? ⟨w.heap.size + 1 + 1,1,none⟩=some (.int .i64 p.acc)∧W.cell? ⟨w.heap.size + 1 + 1,2,none⟩=some (.int .i64 p.side)∧W.cell? ⟨w.heap.size + 1 + 1,3,none⟩=some (.int .i64 p.price)∧W.cell? ⟨w.heap.size + 1 + 1,4,none⟩=some (.int .i64 p.qty))∧(W.cell? ⟨w.heap.size + 1 + 1 + 1,0,none⟩=some (.slice C d.bids.length k)∧W.cell? ⟨w.heap.size + 1 + 1 + 1,1,none⟩=some (.slice C' d.asks.length k')))
   (first | (exact KS.out _ (by assumption)) | (exact KS.out _ (below_drew (by assumption))))
   ((first
    | (go_at_call 61;go_split_ands;(with_reducible refine (shelved_any _).mono ?_);rintro e W' ⟨rfl,hb⟩;have hB2:=below_next hb (by assumption))
    | (go_at_call 62;go_split_ands;(with_reducible refine (bookCheck_any b A A' c c' w.heap.size _ ((HH.out.below (HRB.out.trans (Below.mono (by assumption) HSB.out))).l) ((HH.out.below (HRB.out.trans (Below.mono (by assumption) HSB.out))).r) (Nat.le_trans HSB.out (Below.size (w:=wB) (by assumption))) (by omega) (by omega)).mono ?_);rintro e W' ⟨rfl,hb⟩;rw [← HBE.out];have hB2:=below_next hb (by assumption))
    | (go_at_call 85;go_split_ands;(with_reducible refine (ordErr_any o _).mono ?_);rintro e W' ⟨rfl,hb⟩;have hB2:=below_next hb (by assumption))
    | (go_at_call 86;go_split_ands;(with_reducible refine (rordErr_any o _).mono ?_);rintro e W' ⟨rfl,hb⟩;have hB2:=below_next hb (by assumption))
    | (go_at_call 83;go_split_ands;(with_reducible refine (ahead_any o p _).mono ?_);rintro e W' ⟨rfl,hb⟩;have hB2:=below_next hb (by assumption))
    | (go_at_call 87;go_split_ands;(with_reducible refine (rahead_any o p _).mono ?_);rintro e W' ⟨rfl,hb⟩;have hB2:=below_next hb (by assumption))
    | (go_at_call 67;go_split_ands;(with_reducible refine (same_bk b d A A' C C' c c' k k' w.heap.size _ (HH.out.below (HRB.out.trans (Below.mono (by assumption) HSB.out))) (HG.out.below (HRB.out.trans (Below.mono (by assumption) HSB.out))) (Nat.le_trans HSB.out (Below.size (w:=wB) (by assumption)))).mono ?_);rintro e W' ⟨rfl,hb⟩;have hB2:=below_next hb (by assumption))
    | (go_at_call 88;go_split_ands;(with_reducible refine (rsame_bk b d A A' C C' c c' k k' w.heap.size _ (HH.out.below (HRB.out.trans (Below.mono (by assumption) HSB.out))) (HG.out.below (HRB.out.trans (Below.mono (by assumption) HSB.out))) (Nat.le_trans HSB.out (Below.size (w:=wB) (by assumption)))).mono ?_);rintro e W' ⟨rfl,hb⟩;have hB2:=below_next hb (by assumption))))
  all_goals
   go_split_ands
   go_wp2_with fail
   go_meet
   exact ⟨rfl,by assumption⟩
 case rest=>as_aux_lemma =>
  obtain ⟨rfl,hbc⟩:=hcut
  have hsc:=hbc.size
  clear m0 m1 n0 n1 n2 n3 n4 n5 n6 n7 n8 n9 m2 m3 KS hBB
  clear kX50 kX51
  replace X5:=X5.below hbc X5.lt
  obtain ⟨⟨kX50,kX51⟩,-⟩:=X5.c2
  replace X6:=X6.below hbc X6.lt
  replace X11:=X11.below hbc X11.lt
  replace X13:=X13.below hbc X13.lt
  replace X15:=X15.below hbc X15.lt
  replace X16:=X16.below hbc X16.lt
  replace X21:=X21.below hbc X21.lt
  obtain ⟨⟨kX60,kX61,kX62,kX63,kX64⟩,-⟩:=X6.c5
  obtain ⟨⟨kX110,kX111⟩,-⟩:=X11.c2
  obtain ⟨⟨kX130,kX131,kX132,kX133,kX134⟩,-⟩:=X13.c5
  obtain ⟨⟨kX150,kX151⟩,-⟩:=X15.c2
  obtain ⟨⟨kX160,kX161,kX162,kX163,kX164⟩,-⟩:=X16.c5
  obtain ⟨⟨kX210,kX211⟩,-⟩:=X21.c2
  clear X7 X9
  replace H3:=H3.below hbc (Nat.le_refl _)
  replace H7:=H7.below hbc (Nat.le_refl _)
  replace hbR:=hbR.trans (hbc.mono (by omega))
  clear hbc HRB HG
  have qz:∀ a w,(binOp .eql 71 (.agg #[.int .i64 a.id,.int .i64 a.acc,.int .i64 a.side,.int .i64 a.price,.int .i64 a.qty]) (.agg #[.int .i64 0,.int .i64 0,.int .i64 0,.int .i64 0,.int .i64 0])).run Try.prog w=.ok (.bool (sameOd a zeroOd)) w:=fun a w=>run_eql_od a zeroOd w
  have hz:sameOd zeroOd zeroOd=true:=by kernel_rfl
  by_cases hbe:be=0
  rotate_left
  ·have hbe0:bookErr b ≠ 0:=by rw [← HBE.out];exact hbe
   have F2:findOf b id=(zeroOd,bookErr b):=by unfold findOf;rw [if_pos hbe0]
   have F1:restOf b o=(zeroBk,bookErr b):=by unfold restOf;rw [if_pos hbe0]
   have F3:removeOf b id=(zeroBk,zeroOd,bookErr b):=by unfold removeOf;rw [F2,if_pos hbe0]
   have F4:bestOf b=(0,0,bookErr b):=by unfold bestOf;rw [if_pos hbe0]
   rw [HR1.out,← HBE.out] at F1
   rw [HR2.out,← HBE.out] at F2
   rw [HR3.out,← HBE.out] at F3
   rw [HR4.out,← HBE.out] at F4
   injection F1 with f1 f2
   injection F2 with f3 f4
   injection F3 with f5 f6
   injection f6 with f6 f7
   injection F4 with f8 f9
   injection f9 with f9 f10
   subst f1 f2 f3 f4 f5 f6 f7 f8 f9 f10
   have hbe':=bne_of hbe
   have hnone:∀ W,BkR W 0 none none 0 0 zeroBk:=fun W=>⟨Rd.none_ _ _ _,Rd.none_ _ _ _⟩
   have HSM:=Lib.hid (sameBk_self zeroBk)
   clear hbe hbe0
   as_aux_lemma =>
   go_wp2_with fail
   refine (rsame_bk zeroBk zeroBk P1 P1' none none p1 p1' 0 0 wc.heap.size wc H3.read ((hnone wc).up (Nat.zero_le _)) (Nat.le_refl _)).mono ?_
   rw [HSM.out]
   rintro e wd ⟨rfl,hbd⟩
   have hsd:=hbd.size
   clear kX130 kX131 kX132 kX133 kX134
   replace X13:=X13.below hbd X13.lt
   obtain ⟨⟨kX130,kX131,kX132,kX133,kX134⟩,-⟩:=X13.c5
   clear kX150 kX151
   replace X15:=X15.below hbd X15.lt
   obtain ⟨⟨kX150,kX151⟩,-⟩:=X15.c2
   clear kX160 kX161 kX162 kX163 kX164
   replace X16:=X16.below hbd X16.lt
   obtain ⟨⟨kX160,kX161,kX162,kX163,kX164⟩,-⟩:=X16.c5
   clear kX210 kX211
   replace X21:=X21.below hbd X21.lt
   obtain ⟨⟨kX210,kX211⟩,-⟩:=X21.c2
   replace H7:=H7.below hbd (Nat.le_refl _)
   replace hbR:=hbR.trans (hbd.mono (by omega))
   clear kX110 kX111 kX50 kX51 kX60 kX61 kX62 kX63 kX64 hbd
   go_wp2_with fail
   refine (rsame_bk zeroBk zeroBk Q1 Q1' none none q1 q1' 0 0 wd.heap.size wd H7.read ((hnone wd).up (Nat.zero_le _)) (Nat.le_refl _)).mono ?_
   rw [HSM.out]
   rintro e wf ⟨rfl,hbf⟩
   have hsf:=hbf.size
   clear kX130 kX131 kX132 kX133 kX134
   replace X13:=X13.below hbf X13.lt
   obtain ⟨⟨kX130,kX131,kX132,kX133,kX134⟩,-⟩:=X13.c5
   clear kX160 kX161 kX162 kX163 kX164
   replace X16:=X16.below hbf X16.lt
   obtain ⟨⟨kX160,kX161,kX162,kX163,kX164⟩,-⟩:=X16.c5
   replace hbR:=hbR.trans (hbf.mono (by omega))
   clear hbf
   go_wp2_with fail
   go_ret
   exact ⟨rfl,hbR⟩
  ·have HBK:=Lib.hid (bookErr_ok.1 (HBE.out.symm.trans hbe))
   have hlen:=HBK.out.len
   have F4:bestOf b=(headPrice b.bids,headPrice b.asks,0):=by unfold bestOf;rw [if_neg (by rw [← HBE.out,hbe];simp)]
   rw [HR4.out] at F4
   injection F4 with f8 f9
   injection f9 with f9 f10
   subst f8 f9 f10 hbe
   clear HR4
   go_wp2_with fail
   refine (rrested_any b o A A' c c' w.heap.size wc (HH.out.below hbR) (by omega) HBK.out).mono ?_
   rw [HR1.out]
   rintro e wd ⟨v,rfl,hown,hbd⟩
   obtain ⟨R1,r1,R1',r1',rfl,H9⟩:=hown.obk
   have hsd:=hbd.size
   clear kX50 kX51
   replace X5:=X5.below hbd X5.lt
   obtain ⟨⟨kX50,kX51⟩,-⟩:=X5.c2
   clear kX60 kX61 kX62 kX63 kX64
   replace X6:=X6.below hbd X6.lt
   obtain ⟨⟨kX60,kX61,kX62,kX63,kX64⟩,-⟩:=X6.c5
   clear kX110 kX111
   replace X11:=X11.below hbd X11.lt
   obtain ⟨⟨kX110,kX111⟩,-⟩:=X11.c2
   clear kX130 kX131 kX132 kX133 kX134
   replace X13:=X13.below hbd X13.lt
   obtain ⟨⟨kX130,kX131,kX132,kX133,kX134⟩,-⟩:=X13.c5
   clear kX150 kX151
   replace X15:=X15.below hbd X15.lt
   obtain ⟨⟨kX150,kX151⟩,-⟩:=X15.c2
   clear kX160 kX161 kX162 kX163 kX164
   replace X16:=X16.below hbd X16.lt
   obtain ⟨⟨kX160,kX161,kX162,kX163,kX164⟩,-⟩:=X16.c5
   clear kX210 kX211
   replace X21:=X21.below hbd X21.lt
   obtain ⟨⟨kX210,kX211⟩,-⟩:=X21.c2
   replace H3:=H3.below hbd (Nat.le_refl _)
   replace H7:=H7.below hbd (Nat.le_refl _)
   replace hbR:=hbR.trans (hbd.mono (by omega))
   clear hbd hown
   go_upto_region 12 with (fail)
   obtain ⟨we,hwe⟩:∃ x,x=wd.alloc (.cells #[.slice R1 xb.bids.length r1,.slice R1' xb.asks.length r1'] 62):=⟨_,rfl⟩
   have hbe:Below wd.heap.size wd we:=by rw [hwe];exact (Below.refl _ _).alloc (Nat.le_refl _) _
   have hse:we.heap.size=wd.heap.size + 1:=by rw [hwe];simp
   have X23:Blk we wd.heap.size 62 #[.slice R1 xb.bids.length r1,.slice R1' xb.asks.length r1']:=by rw [hwe];exact Blk.new wd _ _
   rw [← hwe]
   clear hwe
   clear kX50 kX51
   replace X5:=X5.below hbe X5.lt
   obtain ⟨⟨kX50,kX51⟩,-⟩:=X5.c2
   clear kX60 kX61 kX62 kX63 kX64
   replace X6:=X6.below hbe X6.lt
   obtain ⟨⟨kX60,kX61,kX62,kX63,kX64⟩,-⟩:=X6.c5
   clear kX110 kX111
   replace X11:=X11.below hbe X11.lt
   obtain ⟨⟨kX110,kX111⟩,-⟩:=X11.c2
   clear kX130 kX131 kX132 kX133 kX134
   replace X13:=X13.below hbe X13.lt
   obtain ⟨⟨kX130,kX131,kX132,kX133,kX134⟩,-⟩:=X13.c5
   clear kX150 kX151
   replace X15:=X15.below hbe X15.lt
   obtain ⟨⟨kX150,kX151⟩,-⟩:=X15.c2
   clear kX160 kX161 kX162 kX163 kX164
   replace X16:=X16.below hbe X16.lt
   obtain ⟨⟨kX160,kX161,kX162,kX163,kX164⟩,-⟩:=X16.c5
   clear kX210 kX211
   replace X21:=X21.below hbe X21.lt
   obtain ⟨⟨kX210,kX211⟩,-⟩:=X21.c2
   obtain ⟨⟨kX230,kX231⟩,-⟩:=X23.c2
   replace H3:=H3.below hbe (Nat.le_refl _)
   replace H7:=H7.below hbe (Nat.le_refl _)
   replace H9:=H9.below hbe (Nat.le_refl _)
   replace hbR:=hbR.trans (hbe.mono (by omega))
   clear hbe
   have HBe:=Lib.hid hbR
   have hww:Below we.heap.size we we:=Below.refl _ _
   go_cut [203] (fun v wx=>v=.bool false∧Below we.heap.size we wx)
   case first=>as_aux_lemma =>
    have hne:(e1 != e1)=false:=by simp
    have HSX:=Lib.hid (rsame_bk xb xb P1 P1' R1 R1' p1 p1' r1 r1' we.heap.size we H3.read H9.read (Nat.le_refl _))
    rw [sameBk_self] at HSX
    have HK5:Hid (∀ W,Below we.heap.size we W→W.cell? ⟨w.heap.size,0,none⟩=some (.slice A b.bids.length c)∧W.cell? ⟨w.heap.size,1,none⟩=some (.slice A' b.asks.length c')):=Lib.hid fun W hW=>(X5.below hW X5.lt).c2.1
    have HRb:=Lib.hid (HH.out.below hbR)
    have HLT:=Lib.hid (show w.heap.size ≤ we.heap.size by omega)
    rcases Nat.eq_zero_or_pos b.bids.length with hb0 | hb0
    ·have hp0:(headPrice b.bids != 0)=false:=by rw [headPrice_nil hb0];rfl
     have hE:(b.bids = [])=True:=eq_true (List.length_eq_zero_iff.1 hb0)
     have hD:decide (0 < b.bids.length)=false:=decide_eq_false (by omega)
     clear hb0
     rcases Nat.eq_zero_or_pos b.asks.length with ha0 | ha0
     ·have hp1:(headPrice b.asks != 0)=false:=by rw [headPrice_nil ha0];rfl
      have hF:(b.asks = [])=True:=eq_true (List.length_eq_zero_iff.1 ha0)
      have hG:decide (0 < b.asks.length)=false:=decide_eq_false (by omega)
      clear ha0
      go_wp2_with (go_at_call 88;(with_reducible refine HSX.out.mono ?_);rintro e W' ⟨rfl,hb⟩;obtain ⟨z0,z1⟩:=HK5.out _ hb)
      go_meet
      exact ⟨rfl,by assumption⟩
     ·obtain ⟨ba,oa,xa,rfl,hba,hxa,-,-,-,k3,-⟩:=od_at HRb.out.r ha0
      rw [Nat.zero_mul,Nat.add_zero] at k3
      have hp1:(headPrice b.asks != xa.price)=false:=by rw [headPrice_at hxa];simp
      have hF:b.asks ≠ []:=by intro e;rw [e] at ha0;simp at ha0
      have d1:(0:Int) < (b.asks.length:Int):=by omega
      have d2:(0:Int) ≤ (b.asks.length:Int):=by omega
      have HKA:Hid (∀ W,Below we.heap.size we W→W.cell? ⟨ba,oa + 3,none⟩=some (.int .i64 xa.price)):=Lib.hid fun W hW=>(hW.cell (p:=⟨ba,oa + 3,none⟩) (Nat.lt_of_lt_of_le hba HLT.out)).trans k3
      clear hxa k3
      go_wp2_with (go_at_call 88;(with_reducible refine HSX.out.mono ?_);rintro e W' ⟨rfl,hb⟩;obtain ⟨z0,z1⟩:=HK5.out _ hb;have z3:=HKA.out _ hb)
      go_meet
      exact ⟨rfl,by assumption⟩
    ·obtain ⟨bb,ob,xx,rfl,hbb,hxb,-,-,-,k3,-⟩:=od_at HRb.out.l hb0
     rw [Nat.zero_mul,Nat.add_zero] at k3
     have hp0:(headPrice b.bids != xx.price)=false:=by rw [headPrice_at hxb];simp
     have hE:b.bids ≠ []:=by intro e;rw [e] at hb0;simp at hb0
     have HKB:Hid (∀ W,Below we.heap.size we W→W.cell? ⟨bb,ob + 3,none⟩=some (.int .i64 xx.price)):=Lib.hid fun W hW=>(hW.cell (p:=⟨bb,ob + 3,none⟩) (Nat.lt_of_lt_of_le hbb HLT.out)).trans k3
     have d3:(0:Int) < (b.bids.length:Int):=by omega
     clear hxb k3
     rcases Nat.eq_zero_or_pos b.asks.length with ha0 | ha0
     ·have hp1:(headPrice b.asks != 0)=false:=by rw [headPrice_nil ha0];rfl
      have hF:(b.asks = [])=True:=eq_true (List.length_eq_zero_iff.1 ha0)
      have hG:decide (0 < b.asks.length)=false:=decide_eq_false (by omega)
      clear ha0
      go_wp2_with (go_at_call 88;(with_reducible refine HSX.out.mono ?_);rintro e W' ⟨rfl,hb⟩;obtain ⟨z0,z1⟩:=HK5.out _ hb;have z3:=HKB.out _ hb)
      go_meet
      exact ⟨rfl,by assumption⟩
     ·obtain ⟨ba,oa,xa,rfl,hba,hxa,-,-,-,k3,-⟩:=od_at HRb.out.r ha0
      rw [Nat.zero_mul,Nat.add_zero] at k3
      have hp1:(headPrice b.asks != xa.price)=false:=by rw [headPrice_at hxa];simp
      have hF:b.asks ≠ []:=by intro e;rw [e] at ha0;simp at ha0
      have d1:(0:Int) < (b.asks.length:Int):=by omega
      have HKA:Hid (∀ W,Below we.heap.size we W→W.cell? ⟨ba,oa + 3,none⟩=some (.int .i64 xa.price)):=Lib.hid fun W hW=>(hW.cell (p:=⟨ba,oa + 3,none⟩) (Nat.lt_of_lt_of_le hba HLT.out)).trans k3
      clear hxa k3
      go_wp2_with (go_at_call 88;(with_reducible refine HSX.out.mono ?_);rintro e W' ⟨rfl,hb⟩;obtain ⟨z0,z1⟩:=HK5.out _ hb;have z2:=HKB.out _ hb;have z3:=HKA.out _ hb)
      go_meet
      exact ⟨rfl,by assumption⟩
   case rest=>as_aux_lemma =>
    obtain ⟨rfl,hbc⟩:=hcut
    have hsf:=hbc.size
    obtain ⟨wf,hwf⟩:∃ x,x=wc:=⟨wc,rfl⟩
    rw [← hwf] at hbc hsf ⊢
    clear hwf
    clear kX50 kX51
    replace X5:=X5.below hbc X5.lt
    obtain ⟨⟨kX50,kX51⟩,-⟩:=X5.c2
    clear kX60 kX61 kX62 kX63 kX64
    replace X6:=X6.below hbc X6.lt
    obtain ⟨⟨kX60,kX61,kX62,kX63,kX64⟩,-⟩:=X6.c5
    clear kX110 kX111
    replace X11:=X11.below hbc X11.lt
    obtain ⟨⟨kX110,kX111⟩,-⟩:=X11.c2
    clear kX130 kX131 kX132 kX133 kX134
    replace X13:=X13.below hbc X13.lt
    obtain ⟨⟨kX130,kX131,kX132,kX133,kX134⟩,-⟩:=X13.c5
    clear kX150 kX151
    replace X15:=X15.below hbc X15.lt
    obtain ⟨⟨kX150,kX151⟩,-⟩:=X15.c2
    clear kX160 kX161 kX162 kX163 kX164
    replace X16:=X16.below hbc X16.lt
    obtain ⟨⟨kX160,kX161,kX162,kX163,kX164⟩,-⟩:=X16.c5
    clear kX210 kX211
    replace X21:=X21.below hbc X21.lt
    obtain ⟨⟨kX210,kX211⟩,-⟩:=X21.c2
    clear kX230 kX231
    replace X23:=X23.below hbc X23.lt
    obtain ⟨⟨kX230,kX231⟩,-⟩:=X23.c2
    replace H7:=H7.below hbc (Nat.le_refl _)
    replace hbR:=hbR.trans (hbc.mono (by omega))
    clear X6 kX60 kX61 kX62 kX63 kX64 X11 kX110 kX111 X23 kX230 kX231 H3 H9 hbc hww
    obtain ⟨F,hF⟩:∃ F,F=foundO (b.bids ++ b.asks) id:=⟨_,rfl⟩
    go_wp2_with fail
    refine (rfound_any b id A A' c c' w.heap.size wf (HH.out.below hbR) (by omega) (by omega)).mono ?_
    rw [← hF]
    rintro e wg ⟨rfl,hbg⟩
    have hsg:=hbg.size
    clear kX50 kX51
    replace X5:=X5.below hbg X5.lt
    obtain ⟨⟨kX50,kX51⟩,-⟩:=X5.c2
    clear kX130 kX131 kX132 kX133 kX134
    replace X13:=X13.below hbg X13.lt
    obtain ⟨⟨kX130,kX131,kX132,kX133,kX134⟩,-⟩:=X13.c5
    clear kX150 kX151
    replace X15:=X15.below hbg X15.lt
    obtain ⟨⟨kX150,kX151⟩,-⟩:=X15.c2
    clear kX160 kX161 kX162 kX163 kX164
    replace X16:=X16.below hbg X16.lt
    obtain ⟨⟨kX160,kX161,kX162,kX163,kX164⟩,-⟩:=X16.c5
    clear kX210 kX211
    replace X21:=X21.below hbg X21.lt
    obtain ⟨⟨kX210,kX211⟩,-⟩:=X21.c2
    replace H7:=H7.below hbg (Nat.le_refl _)
    replace hbR:=hbR.trans (hbg.mono (by omega))
    have HF:=Lib.hid hF
    clear hbg hF
    go_upto_region 15 with (fail)
    obtain ⟨wh,hwh⟩:∃ x,x=wg.alloc (.cells #[.int .i64 F.id,.int .i64 F.acc,.int .i64 F.side,.int .i64 F.price,.int .i64 F.qty] 71):=⟨_,rfl⟩
    have hbh:Below wg.heap.size wg wh:=by rw [hwh];exact (Below.refl _ _).alloc (Nat.le_refl _) _
    have hsh:wh.heap.size=wg.heap.size + 1:=by rw [hwh];simp
    have X25:Blk wh wg.heap.size 71 #[.int .i64 F.id,.int .i64 F.acc,.int .i64 F.side,.int .i64 F.price,.int .i64 F.qty]:=by rw [hwh];exact Blk.new wg _ _
    rw [← hwh]
    clear hwh
    clear kX50 kX51
    replace X5:=X5.below hbh X5.lt
    obtain ⟨⟨kX50,kX51⟩,-⟩:=X5.c2
    clear kX130 kX131 kX132 kX133 kX134
    replace X13:=X13.below hbh X13.lt
    obtain ⟨⟨kX130,kX131,kX132,kX133,kX134⟩,-⟩:=X13.c5
    clear kX150 kX151
    replace X15:=X15.below hbh X15.lt
    obtain ⟨⟨kX150,kX151⟩,-⟩:=X15.c2
    clear kX160 kX161 kX162 kX163 kX164
    replace X16:=X16.below hbh X16.lt
    obtain ⟨⟨kX160,kX161,kX162,kX163,kX164⟩,-⟩:=X16.c5
    clear kX210 kX211
    replace X21:=X21.below hbh X21.lt
    obtain ⟨⟨kX210,kX211⟩,-⟩:=X21.c2
    obtain ⟨⟨kX250,kX251,kX252,kX253,kX254⟩,-⟩:=X25.c5
    replace H7:=H7.below hbh (Nat.le_refl _)
    replace hbR:=hbR.trans (hbh.mono (by omega))
    clear hbh
    cases hfo:findO (b.bids ++ b.asks) id with
    | none =>
     have F2:findOf b id=(zeroOd,5):=by unfold findOf;rw [if_neg (by have:=bookErr_ok.2 HBK.out;omega),hfo]
     have F3:=remove_no HBK.out hfo
     have F0:F=zeroOd:=by rw [HF.out];unfold foundO;rw [hfo]
     rw [HR2.out] at F2
     rw [HR3.out] at F3
     injection F2 with f3 f4
     injection F3 with f5 f6
     injection f6 with f6 f7
     clear HF HR2 HR3
     subst f3 f4 f5 f6 f7 F0
     have hnone:∀ W,BkR W 0 none none 0 0 zeroBk:=fun W=>⟨Rd.none_ _ _ _,Rd.none_ _ _ _⟩
     have HSM:=Lib.hid (sameBk_self zeroBk)
     have HRET:=Lib.hid hbR
     have HC:=Lib.hid (rsame_bk zeroBk zeroBk Q1 Q1' none none q1 q1' 0 0 wh.heap.size wh H7.read ((hnone wh).up (Nat.zero_le _)) (Nat.le_refl _))
     rw [HSM.out] at HC
     clear hfo hnone
     have hzi:zeroOd.id=0:=rfl
     by_cases hid:id=0
     ·have hid':(id == 0)=true:=by simpa using hid
      clear hid
      go_wp2_with (go_at_call 88;refine HC.out.mono ?_;rintro e wi ⟨rfl,hbi⟩)
      go_ret
      exact ⟨rfl,HRET.out.trans (hbi.mono (by omega))⟩
     ·have hid':(id == 0)=false:=by simpa using hid
      have hid2:((0:Int) != id)=true:=by simpa using fun h=>hid h.symm
      clear hid
      go_wp2_with (go_at_call 88;refine HC.out.mono ?_;rintro e wi ⟨rfl,hbi⟩)
      go_ret
      exact ⟨rfl,HRET.out.trans (hbi.mono (by omega))⟩
    | some x =>
     obtain ⟨hxm,hxi⟩:=findO_some hfo
     have hx1:1 ≤ x.id:=by
      rcases List.mem_append.1 hxm with m | m
      ·exact (ordErr_ok.1 (HBK.out.bids.ok x m)).1.1
      ·exact (ordErr_ok.1 (HBK.out.asks.ok x m)).1.1
     have F2:findOf b id=(x,0):=by unfold findOf;rw [if_neg (by have:=bookErr_ok.2 HBK.out;omega),hfo]
     obtain ⟨F3,F4,F5⟩:=remove_both HBK.out hfo
     have F0:F=x:=by rw [HF.out];unfold foundO;rw [hfo]
     rw [HR2.out] at F2
     rw [HR3.out] at F3 F4 F5
     simp only at F3 F4 F5
     injection F2 with f3 f4
     rw [← F0] at f3 F4 hxi hx1
     have HZ:=Lib.hid F3
     have HXI:=Lib.hid hxi
     clear HF HR2 HR3 F3 hfo hxm F0 x
     have f3':=f3.symm
     have F4':=F4.symm
     clear f3 F4
     subst f3' F4' f4 F5
     have hid':(id == 0)=false:=by rw [← HXI.out];simp;omega
     have hid2:(F.id != id)=false:=by rw [HXI.out];simp
     have hyy:sameOd F F=true:=sameOd_iff.2 rfl
     have HSM:=Lib.hid (sameBk_self zb)
     have HRET:=Lib.hid hbR
     have HLT:=Lib.hid (show w.heap.size ≤ wh.heap.size by omega)
     have H7H:=Lib.hid H7
     have hwh0:Below wh.heap.size wh wh:=Below.refl _ _
     have KS:Hid (∀ W,Below wh.heap.size wh W→Below wh.heap.size wh W∧(W.cell? ⟨w.heap.size,0,none⟩=some (.slice A b.bids.length c)∧W.cell? ⟨w.heap.size,1,none⟩=some (.slice A' b.asks.length c'))∧(W.cell? ⟨w5.heap.size,0,none⟩=some (.int .i64 F.id)∧W.cell? ⟨w5.heap.size,1,none⟩=some (.int .i64 F.acc)∧W.cell? ⟨w5.heap.size,2,none⟩=some (.int .i64 F.side)∧W.cell? ⟨w5.heap.size,3,none⟩=some (.int .i64 F.price)∧W.cell? ⟨w5.heap.size,4,none⟩=some (.int .i64 F.qty))∧(W.cell? ⟨w7.heap.size + 1,0,none⟩=some (.int .i64 F.id)∧W.cell? ⟨w7.heap.size + 1,1,none⟩=some (.int .i64 F.acc)∧W.cell? ⟨w7.heap.size + 1,2,none⟩=some (.int .i64 F.side)∧W.cell? ⟨w7.heap.size + 1,3,none⟩=some (.int .i64 F.price)∧W.cell? ⟨w7.heap.size + 1,4,none⟩=some (.int .i64 F.qty))∧(W.cell? ⟨wg.heap.size,0,none⟩=some (.int .i64 F.id)∧W.cell? ⟨wg.heap.size,1,none⟩=some (.int .i64 F.acc)∧W.cell? ⟨wg.heap.size,2,none⟩=some (.int .i64 F.side)∧W.cell? ⟨wg.heap.size,3,none⟩=some (.int .i64 F.price)∧W.cell? ⟨wg.heap.size,4,none⟩=some (.int .i64 F.qty))∧(W.cell? ⟨w7.heap.size,0,none⟩=some (.slice Q1 zb.bids.length q1)∧W.cell? ⟨w7.heap.size,1,none⟩=some (.slice Q1' zb.asks.length q1'))):=by
      intro W hW
      exact ⟨hW,(X5.below hW X5.lt).c2.1,(X13.below hW X13.lt).c5.1,(X16.below hW X16.lt).c5.1,(X25.below hW X25.lt).c5.1,(X15.below hW X15.lt).c2.1⟩
     clear hxi hx1 H7 hbR
     go_upto_region 17 with (fail)
     go_region_held3 (fun W=>Below wh.heap.size wh W∧(W.cell? ⟨w.heap.size,0,none⟩=some (.slice A b.bids.length c)∧W.cell? ⟨w.heap.size,1,none⟩=some (.slice A' b.asks.length c'))∧(W.cell? ⟨w5.heap.size,0,none⟩=some (.int .i64 F.id)∧W.cell? ⟨w5.heap.size,1,none⟩=some (.int .i64 F.acc)∧W.cell? ⟨w5.heap.size,2,none⟩=some (.int .i64 F.side)∧W.cell? ⟨w5.heap.size,3,none⟩=some (.int .i64 F.price)∧W.cell? ⟨w5.heap.size,4,none⟩=some (.int .i64 F.qty))∧(W.cell? ⟨w7.heap.size + 1,0,none⟩=some (.int .i64 F.id)∧W.cell? ⟨w7.heap.size + 1,1,none⟩=some (.int .i64 F.acc)∧W.cell? ⟨w7.heap.size + 1,2,none⟩=some (.int .i64 F.side)∧W.cell? ⟨w7.heap.size + 1,3,none⟩=some (.int .i64 F.price)∧W.cell? ⟨w7.heap.size + 1,4,none⟩=some (.int .i64 F.qty))∧(W.cell? ⟨wg.heap.size,0,none⟩=some (.int .i64 F.id)∧W.cell? ⟨wg.heap.size,1,none⟩=some (.int .i64 F.acc)∧W.cell? ⟨wg.heap.size,2,none⟩=some (.int .i64 F.side)∧W.cell? ⟨wg.heap.size,3,none⟩=some (.int .i64 F.price)∧W.cell? ⟨wg.heap.size,4,none⟩=some (.int .i64 F.qty))∧(W.cell? ⟨w7.heap.size,0,none⟩=some (.slice Q1 zb.bids.length q1)∧W.cell? ⟨w7.heap.size,1,none⟩=some (.slice Q1' zb.asks.length q1')))
      (first | (exact KS.out _ (by assumption)) | (exact KS.out _ (below_drew (by assumption))))
      ((first
       | (go_at_call 91;go_split_ands;(with_reducible refine (rremoved_any b id A A' c c' w.heap.size zb _ (HH.out.below (HRET.out.trans (Below.mono (by assumption) HLT.out))) (Nat.le_trans HLT.out (Below.size (w:=wh) (by assumption))) (by omega) (by rw [HZ.out];exact bkOf_del HBK.out id)).mono ?_);rintro e W' ⟨v,rfl,hown,hb⟩;obtain ⟨S1,s1,S1',s1',rfl,HS⟩:=hown.obk;have hB2:=below_next hb (by assumption))
       | (go_at_call 88;go_split_ands;(with_reducible refine (rsame_bk zb zb Q1 Q1' S1 S1' q1 q1' s1 s1' _ _ ((H7H.out.below (by assumption) (Nat.le_refl _)).read) HS.read (Nat.le_refl _)).mono ?_);rw [HSM.out];rintro e W' ⟨rfl,hb⟩;have hB2:=below_next hb (by assumption))))
     all_goals
      go_split_ands
      go_wp2_with fail
      go_ret
      exact ⟨rfl,HRET.out.trans (Below.mono (by assumption) HLT.out)⟩
end
section
open Go.ChangeShapes Go.WideShapes Go.ChangeAt Go.RowKit
set_option maxRecDepth 100000 in
theorem bookSays_lifted (os:Os) (started:os.Started) (H:Type) (enc:TypeId × Value→H) :
  ReturnsInHanded {} Try.checked os 19 .any (Rows.bookSaysSpec.pre6 enc Try.prog Try.f19 Rows.bookSaysRow.domain false) (Rows.bookSaysSpec.post enc Try.prog Try.f19 false true false false):=by
 refine returnsInHanded_of_change_sized (C:=Try.checked) row_own started (by kernel_rfl) Try.func19
  (ChangeSpec.witness6 (enc:=enc) (C:=Try.checked) false ⟨#[],#[.agg #[.slice none 0 0,.slice none 0 0],.agg #[.int .i64 0,.int .i64 0,.int .i64 0,.int .i64 0,.int .i64 0],.agg #[.int .i64 0,.int .i64 0,.int .i64 0,.int .i64 0,.int .i64 0],.int .i64 0,.agg #[.slice none 0 0,.slice none 0 0]],[]⟩ 8 (by kernel_rfl) (by kernel_rfl) (by kernel_rfl) (by kernel_rfl)) ?_
 intro W base args ds gs before hval0 hW hcnd hsz _
 have hval:∀ (j:Nat) t v,Try.f19.params[j]?=some t→args[j]?=some v→Value.okWide Try.prog W .any base t v:=hval0
 have hW':=hW
 obtain ⟨p,q,hA0,hV,rfl,hfz,hnd⟩:=hW
 have hA:DataW.TrodAll enc Try.prog W 0 (fun _=>true) true Try.f19.params.toList args.toList ds p:=hA0
 obtain ⟨rfl,rfl⟩:=trodVars_none hV
 have hkeep:=fun W' (bel:Below W.heap.size W W')=>trodAll_below row_laidOut bel (by kernel_rfl) hA
 rw [Try.params19] at hA hval
 obtain ⟨v0,vs0,d0,ds0,p0,q0,hargs,rfl,rfl,h0,tl0⟩:=trodAll_cons hA
 obtain ⟨v1,vs1,d1,ds1,p1,q1,rfl,rfl,rfl,h1,tl1⟩:=trodAll_cons tl0
 obtain ⟨v2,vs2,d2,ds2,p2,q2,rfl,rfl,rfl,h2,tl2⟩:=trodAll_cons tl1
 obtain ⟨v3,vs3,d3,ds3,p3,q3,rfl,rfl,rfl,h3,tl3⟩:=trodAll_cons tl2
 obtain ⟨v4,vs4,d4,ds4,p4,q4,rfl,rfl,rfl,h4,tl4⟩:=trodAll_cons tl3
 obtain ⟨rfl,rfl,rfl⟩:=trodAll_nil tl4
 obtain rfl:args = #[v0,v1,v2,v3,v4]:=by cases args;simp_all
 clear hargs
 have hs0:(DataW.weightsEach Try.prog (Try.f19.params.toList ++ Rows.bookSaysSpec.plain.varTypes Try.prog) ([d0,d1,d2,d3,d4] ++ [])).all (· ≤ reachBytes)=true:=hsz
 rw [show Rows.bookSaysSpec.plain.varTypes Try.prog = [] from rfl,List.append_nil,List.append_nil] at hs0
 have hsz':(DataW.weightsEach Try.prog Try.f19.params.toList [d0,d1,d2,d3,d4]).all (· ≤ reachBytes)=true:=hs0
 rw [Try.params19] at hsz'
 obtain ⟨y0,t0⟩:=weights_head hsz'
 obtain ⟨y1,t1⟩:=weights_head t0
 obtain ⟨y2,t2⟩:=weights_head t1
 obtain ⟨y3,t3⟩:=weights_head t2
 obtain ⟨y4,t4⟩:=weights_head t3
 obtain ⟨b0,A0,Z0,c0,e0,rfl,r0,q0,⟨s0,t0⟩,i0⟩:=opens_book (hval 0 62 v0 rfl rfl) h0 y0
 obtain ⟨o1,rfl,i1⟩:=opens_order (hval 1 71 v1 rfl rfl) h1
 obtain ⟨o2,rfl,i2⟩:=opens_order (hval 2 71 v2 rfl rfl) h2
 obtain ⟨z3,rfl,i3⟩:=opens_int (hval 3 3 v3 rfl rfl) h3
 obtain ⟨b4,A4,Z4,c4,e4,rfl,r4,q4,⟨s4,t4⟩,i4⟩:=opens_book (hval 4 62 v4 rfl rfl) h4 y4
 refine (bookSays_walk b0 A0 Z0 c0 e0 o1 o2 z3 b4 A4 Z4 c4 e4 W r0 q0 s0 t0 r4 q4).mono fun e W' ⟨he,bel⟩=>?_
 subst he
 exact ⟨_,rfl,_,_,_,[],_,[],hW',trodAll_mk1 (shut_bool Try.underlying4 _),hkeep W' bel,rfl,bel.frame _,fun h=>by cases h⟩
set_option maxHeartbeats 4000000 in
theorem bookSays_closed:joinedFacts Try.prog 19 Try.f19 Rows.bookSaysSpec Rows.bookSaysRow=true :=
 joined_mk _ _ _ _ _ (by as_aux_lemma=>kernel_rfl) closed_laid closed_mapsRowed (by as_aux_lemma=>kernel_rfl) (by as_aux_lemma=>kernel_rfl) (by as_aux_lemma=>kernel_rfl) closed_stops (by as_aux_lemma=>kernel_rfl) closed_stopKnobs (by as_aux_lemma=>kernel_rfl) (by as_aux_lemma=>kernel_rfl) (by as_aux_lemma=>kernel_rfl) (by as_aux_lemma=>kernel_rfl) (by as_aux_lemma=>kernel_rfl) (by as_aux_lemma=>kernel_rfl) (by as_aux_lemma=>kernel_rfl) (by as_aux_lemma=>kernel_rfl) (by as_aux_lemma=>kernel_rfl) (by as_aux_lemma=>kernel_rfl) (by as_aux_lemma=>kernel_rfl) (by as_aux_lemma=>kernel_rfl) (by as_aux_lemma=>kernel_rfl) closed_plainKeys (by as_aux_lemma=>kernel_rfl) closed_stopsHeard closed_mayEnter closed_lifted closed_make (by as_aux_lemma=>kernel_rfl) (by as_aux_lemma=>kernel_rfl) (by as_aux_lemma=>kernel_rfl) (by as_aux_lemma=>kernel_rfl)
set_option maxHeartbeats 4000000 in
theorem bookSays_over:Rows.bookSaysRow.holds Try.pinned (OpenSpec.ofChange Rows.bookSaysSpec) :=
 OpenClaim.holds_of_wide 19 Try.f19 rfl rfl rfl rfl rfl rfl rfl ⟨rfl,rfl,rfl,rfl,rfl⟩ rfl rfl rfl rfl rfl (by as_aux_lemma=>kernel_rfl) Try.func19 bookSays_closed
  (of_decide_eq_true (by as_aux_lemma=>kernel_rfl)) (by unfold Func.isWrapper;first | (rw [if_pos (by decide +kernel)];as_aux_lemma=>kernel_rfl) | (rw [if_neg (by decide +kernel)];exact ⟨rfl,rfl⟩))
  (fun os started H enc _=>bookSays_lifted os started H enc)
theorem bookSays_proved:Rows.BookSaysSaid:=bookSays_over
#print axioms bookSays_proved
end
end Go.Proofs.Ytockodmbhnlheaa
