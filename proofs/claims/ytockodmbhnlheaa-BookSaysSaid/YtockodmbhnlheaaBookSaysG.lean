/-
  THE LAW BookSays: holds for every input, with no condition. (Joined texts: Remove, Shelved, BookBackW, SymP.)
-/
import Derived.Test.YtockodmbhnlheaaBookSaysF
import Derived.Test.YtockodmbhnlheaaProg
import Derived.Test.YtockodmbhnlheaaBookSaysA
import Derived.Maps.AppendAt
import Derived.Laws.AppendOwnNone
import Derived.OwnWalk
import Derived.Test.YtockodmbhnlheaaBookSaysD
import Derived.Deep.RegionHeld3
import Derived.Test.YtockodmbhnlheaaBookSaysB
import Derived.Test.YtockodmbhnlheaaBookSaysC
import Derived.Lib.AppendZeros
import Derived.Test.YtockodmbhnlheaaBookSaysE
import Derived.Laws.CopyOwn
import Derived.Lib.AppendZerosOnto
import Derived.Lib.Overlaps
import Derived.Laws.Externs
import Derived.Deep.RegionLaw
import Derived.Maps.Own
import Derived.Maps.OwnOps
import Derived.Maps.Views
import Derived.WalkKit
import Derived.Deep.Draws
import Derived.IntWalk
import Derived.Deep.QuietTactic
import Derived.BigQuiet
import Derived.Deep.DeepCutAuto
import Derived.WalkSpells
import Derived.WalkLawsBesides
import Derived.Lib.Hide
import Derived.Sort.LotA
namespace Go.Proofs.Ytockodmbhnlheaa
section
open Go.RowKit
def RetBest (w:World) (r:Int × Int × Int) (e:Ending) (w':World):Prop:=e=.returned (.tuple #[.int .i64 r.1,.int .i64 r.2.1,.int .i64 r.2.2])∧Below w.heap.size w w'
theorem retBest_mk {w w':World} {r:Int × Int × Int} {a b c:Int} (h:r=(a,b,c)) (hb:Below w.heap.size w w'):RetBest w r (.returned (.tuple #[.int .i64 a,.int .i64 b,.int .i64 c])) w':=by subst h;exact ⟨rfl,hb⟩
theorem head_at {L:List Od} {x:Od} (h:L[0]?=some x):headPrice L=x.price:=by
 cases L with
 | nil=>simp at h
 | cons y l=>simp at h;subst h;rfl
theorem head_none {L:List Od} (h:L.length=0):headPrice L=0:=by
 rw [List.eq_nil_of_length_eq_zero h];rfl
set_option maxHeartbeats 2000000 in
theorem best_bk (b:Bk) (A A':Option Addr) (c c' B:Nat) (w:World) (h:BkR w B A A' c c' b) (hB:B ≤ w.heap.size) (hl:b.bids.length ≤ 4000000000000) (hl':b.asks.length ≤ 4000000000000) :
  Calls Try.prog 82 #[.agg #[.slice A b.bids.length c,.slice A' b.asks.length c']] w (RetBest w (bestOf b)):=by
 have HE:=Lib.hid (show bestOf b=if bookErr b ≠ 0 then (0,0,bookErr b) else (headPrice b.bids,headPrice b.asks,0) from rfl)
 go_enter Try.func82,Try.ntmps82
 go_wp2_with fail
 refine calls_name ?_
 intro w2 hw2
 have hb2:Below w.heap.size w w2:=by rw [hw2];exact (Below.refl _ _).alloc (Nat.le_refl _) _
 have hs2:w2.heap.size=w.heap.size + 1:=by rw [hw2];simp
 have X1:Blk w2 w.heap.size 62 #[.slice A b.bids.length c,.slice A' b.asks.length c']:=by rw [hw2];exact Blk.new w _ _
 have hr:=h.below (hb2.mono hB)
 clear hw2
 refine (bookCheck_any b A A' c c' B w2 hr.l hr.r (by omega) (by omega) (by omega)).mono ?_
 rintro e w3 ⟨rfl,hb3⟩
 have hs3:=hb3.size
 obtain ⟨⟨kX10,kX11⟩,-⟩:=X1.c2
 clear kX10 kX11
 replace X1:=X1.below hb3 X1.lt
 obtain ⟨⟨kX10,kX11⟩,-⟩:=X1.c2
 have hbw3:=hb2.trans (hb3.mono (by omega))
 have hr3:=hr.below (hb3.mono (by omega))
 clear hb3 hr hb2 X1
 by_cases he:bookErr b=0
 rotate_left
 ·have HE1:=Lib.hid (HE.out.trans (if_pos he))
  have he':(bookErr b != 0)=true:=by simpa using he
  clear he HE
  go_wp2_with fail
  go_ret3
  exact retBest_mk HE1.out hbw3
 ·have HE1:=Lib.hid (HE.out.trans (if_neg (by omega)))
  rw [he]
  clear he HE
  have hlen:∀ n:Nat,n=0∨0 < n:=by omega
  by_cases h1:b.bids.length=0
  ·have HH:=Lib.hid (head_none h1)
   have d1:¬ 0 < b.bids.length:=by omega
   clear h1
   by_cases h2:b.asks.length=0
   ·have HE2:=Lib.hid (HE1.out.trans (by rw [HH.out,head_none h2]))
    have d2:¬ 0 < b.asks.length:=by omega
    clear h2
    go_wp2_with fail
    go_ret3
    exact retBest_mk HE2.out hbw3
   ·have d2:0 < b.asks.length:=by omega
    have d3:(0:Int) < (b.asks.length:Int):=by omega
    obtain ⟨g2,o2,y,rfl,hg2,hy,_,_,_,k2,_⟩:=od_at hr3.r d2
    rw [Nat.zero_mul,Nat.add_zero] at k2
    have HE2:=Lib.hid (HE1.out.trans (by rw [HH.out,head_at hy]))
    clear h2 hy
    go_wp2_with fail
    go_ret3
    exact retBest_mk HE2.out hbw3
  ·have d1:0 < b.bids.length:=by omega
   have d1':(0:Int) < (b.bids.length:Int):=by omega
   obtain ⟨g1,o1,x,rfl,hg1,hx,_,_,_,k1,_⟩:=od_at hr3.l d1
   rw [Nat.zero_mul,Nat.add_zero] at k1
   have HH:=Lib.hid (head_at hx)
   clear h1 hx
   by_cases h2:b.asks.length=0
   ·have HE2:=Lib.hid (HE1.out.trans (by rw [HH.out,head_none h2]))
    have d2:¬ 0 < b.asks.length:=by omega
    clear h2
    go_wp2_with fail
    go_ret3
    exact retBest_mk HE2.out hbw3
   ·have d2:0 < b.asks.length:=by omega
    have d3:(0:Int) < (b.asks.length:Int):=by omega
    obtain ⟨g2,o2,y,rfl,hg2,hy,_,_,_,k2,_⟩:=od_at hr3.r d2
    rw [Nat.zero_mul,Nat.add_zero] at k2
    have HE2:=Lib.hid (HE1.out.trans (by rw [HH.out,head_at hy]))
    clear h2 hy
    go_wp2_with fail
    go_ret3
    exact retBest_mk HE2.out hbw3
def RetRem (w:World) (r:Bk × Od × Int) (e:Ending) (w':World):Prop:=∃ v,e=.returned (.tuple #[v,.agg #[.int .i64 r.2.1.id,.int .i64 r.2.1.acc,.int .i64 r.2.1.side,.int .i64 r.2.1.price,.int .i64 r.2.1.qty],.int .i64 r.2.2])∧OwnBk w' w.heap.size v r.1∧Below w.heap.size w w'
theorem retRem_mk {w w':World} {r:Bk × Od × Int} {b:Bk} {o:Od} {n:Int} {v:Value} (h:r=(b,o,n)) (ho:OwnBk w' w.heap.size v b) (hb:Below w.heap.size w w'):RetRem w r (.returned (.tuple #[v,.agg #[.int .i64 o.id,.int .i64 o.acc,.int .i64 o.side,.int .i64 o.price,.int .i64 o.qty],.int .i64 n])) w':=by subst h;exact ⟨v,rfl,ho,hb⟩
theorem find_pair (b:Bk) (id:Int):∃ o n,findOf b id=(o,n)∧(n=0→BookOk b∧o ∈ b.bids ++ b.asks∧o.id=id):=by
 unfold findOf
 split
 ·rename_i h;exact ⟨_,_,rfl,fun h'=>absurd h' h⟩
 ·rename_i h
  cases hf:findO (b.bids ++ b.asks) id with
  | none=>exact ⟨_,_,rfl,fun h'=>by omega⟩
  | some o=>exact ⟨o,0,rfl,fun _=>⟨bookErr_ok.1 (by omega),findO_some hf⟩⟩
theorem del_filter (id:Int) (L:List Od):L.filter (fun y=>!hasId id y)=delO id L:=rfl
set_option maxHeartbeats 4000000 in
set_option maxRecDepth 100000 in
theorem remove_bk (b:Bk) (id:Int) (A A':Option Addr) (c c' B:Nat) (w:World) (h:BkR w B A A' c c' b) (hB:B ≤ w.heap.size) (hl:b.bids.length ≤ 4000000000000) (hl':b.asks.length ≤ 4000000000000) :
  Calls Try.prog 68 #[.agg #[.slice A b.bids.length c,.slice A' b.asks.length c'],.int .i64 id] w (RetRem w (removeOf b id)):=by
 obtain ⟨o,ef,hfind,hfok⟩:=find_pair b id
 have HFI:=Lib.hid hfind
 have HFO:=Lib.hid hfok
 have HE:=Lib.hid (show removeOf b id=if ef ≠ 0 then (zeroBk,zeroOd,ef) else (setOwn b o.side (delO id (ownOf b o.side)),o,0) by unfold removeOf;rw [hfind])
 clear hfind hfok
 go_enter Try.func68,Try.ntmps68
 go_wp2_with fail
 refine calls_name ?_
 intro w2 hw2
 have hb2:Below w.heap.size w w2:=by rw [hw2];exact ((((Below.refl _ _).alloc (Nat.le_refl _) _).alloc (by simp) _).alloc (by simp;omega) _).alloc (by simp;omega) _
 have hs2:w2.heap.size=w.heap.size + 1 + 1 + 1 + 1:=by rw [hw2];simp
 have X1:Blk w2 w.heap.size 62 #[.slice A b.bids.length c,.slice A' b.asks.length c']:=by rw [hw2];exact (((Blk.new w _ _).alloc _).alloc _).alloc _
 have X2:Blk w2 (w.heap.size + 1) 3 #[.int .i64 id]:=by rw [hw2];exact ((Blk.new_at _ _ _ _ (by simp)).alloc _).alloc _
 have X3:Blk w2 (w.heap.size + 1 + 1) 62 #[.slice none 0 0,.slice none 0 0]:=by rw [hw2];exact (Blk.new_at _ _ _ _ (by simp)).alloc _
 have X4:Blk w2 (w.heap.size + 1 + 1 + 1) 71 #[.int .i64 0,.int .i64 0,.int .i64 0,.int .i64 0,.int .i64 0]:=by rw [hw2];exact Blk.new_at _ _ _ _ (by simp)
 have hr:=h.below (hb2.mono hB)
 clear hw2
 refine (find_bk b id A A' c c' B w2 hr (by omega) hl hl').mono ?_
 rw [HFI.out]
 rintro e w3 ⟨rfl,hb3⟩
 have hs3:=hb3.size
 obtain ⟨⟨kX10,kX11⟩,-⟩:=X1.c2
 clear kX10 kX11
 replace X1:=X1.below hb3 X1.lt
 obtain ⟨⟨kX10,kX11⟩,-⟩:=X1.c2
 replace X2:=X2.below hb3 X2.lt
 replace X3:=X3.below hb3 X3.lt
 replace X4:=X4.below hb3 X4.lt
 have hbw3:=hb2.trans (hb3.mono (by omega))
 have hr3:=hr.below (hb3.mono (by omega))
 clear hb3 hr hb2
 by_cases he:ef=0
 rotate_left
 ·have HE1:=Lib.hid (HE.out.trans (if_pos he))
  have he':(ef != 0)=true:=by simpa using he
  obtain ⟨⟨kX30,kX31⟩,fX30,fX31⟩:=X3.c2
  obtain ⟨⟨kX40,kX41,kX42,kX43,kX44⟩,fX40,fX41,fX42,fX43,fX44⟩:=X4.c5
  have x3:w.heap.size + 1 + 1 < w3.heap.size:=by omega
  have x4:w.heap.size + 1 + 1 + 1 < w3.heap.size:=by omega
  have x0:w.heap.size + 1 + 1 + 1 + 1 ≤ w3.heap.size:=by omega
  clear he HE HFI HFO hs2 hs3 hr3
  go_wp2_with fail
  refine post_name ?_
  intro Z hZ
  have XZ3:Blk Z (w.heap.size + 1 + 1) 62 #[.slice none 0 0,.slice none 0 0]:=by rw [hZ];exact (((((((X3.set_ 0 _).set_ 1 _).far (by simp) _).far (by simp) _).far (by simp) _).far (by simp) _).far (by simp) _).alloc _
  have XZ4:Blk Z (w.heap.size + 1 + 1 + 1) 71 #[.int .i64 0,.int .i64 0,.int .i64 0,.int .i64 0,.int .i64 0]:=by rw [hZ];exact (((((((X4.far (by simp) _).far (by simp) _).set_ 0 _).set_ 1 _).set_ 2 _).set_ 3 _).set_ 4 _).alloc _
  have hbZ:Below w.heap.size w Z:=by rw [hZ];exact (((((((hbw3.setCell (by dsimp only;omega) _).setCell (by dsimp only;omega) _).setCell (by dsimp only;omega) _).setCell (by dsimp only;omega) _).setCell (by dsimp only;omega) _).setCell (by dsimp only;omega) _).setCell (by dsimp only;omega) _).alloc (by simp;omega) _
  clear hZ kX30 kX31 fX30 fX31 kX40 kX41 kX42 kX43 kX44 fX40 fX41 fX42 fX43 fX44
  obtain ⟨⟨kXZ30,kXZ31⟩,-⟩:=XZ3.c2
  obtain ⟨⟨kXZ40,kXZ41,kXZ42,kXZ43,kXZ44⟩,-⟩:=XZ4.c5
  refine bodyPost_ret (v:=.tuple #[.agg #[.slice none 0 0,.slice none 0 0],.agg #[.int .i64 0,.int .i64 0,.int .i64 0,.int .i64 0,.int .i64 0],.int .i64 ef]) (by simp [results,Try.results68,go_sem, *]) rfl ?_
  exact retRem_mk (o:=zeroOd) HE1.out (ownBk_zero _ _) hbZ
 ·subst he
  obtain ⟨hbk,hom,-⟩:=HFO.out rfl
  have HE1:=Lib.hid (HE.out.trans (if_neg (by simp)))
  have HM:=Lib.hid (own_mem hbk hom)
  have hlen:=hbk.len
  clear hbk hom HE HFO
  have hs3':w.heap.size + 1 + 1 + 1 + 1 ≤ w3.heap.size:=by omega
  have x1:w.heap.size < w3.heap.size:=by omega
  go_wp2_with fail
  refine calls_name ?_
  intro w4 hw4
  have hb4:Below w3.heap.size w3 w4:=by rw [hw4];exact (Below.refl _ _).alloc (Nat.le_refl _) _
  have hs4:w4.heap.size=w3.heap.size + 1:=by rw [hw4];simp
  have X5:Blk w4 w3.heap.size 71 #[.int .i64 o.id,.int .i64 o.acc,.int .i64 o.side,.int .i64 o.price,.int .i64 o.qty]:=by rw [hw4];exact Blk.new w3 _ _
  have X1':=X1.below hb4 X1.lt
  have X2':=X2.below hb4 X2.lt
  have X3':=X3.below hb4 X3.lt
  have X4':=X4.below hb4 X4.lt
  have hr4:=hr3.below (hb4.mono (by omega))
  have hbw4:=hbw3.trans (hb4.mono (by omega))
  clear hw4 X1 X2 X3 X4 kX10 kX11 hr3 hbw3 x1
  refine (copy_bk b A A' c c' B w4 hr4 (by omega) (by omega) (by omega)).mono ?_
  rintro e w5 ⟨v1,v2,rfl,hv1,hv2,hd12,hb5⟩
  obtain ⟨P1,p1,rfl⟩:=own_shape hv1
  obtain ⟨P2,p2,rfl⟩:=own_shape hv2
  have hs5:=hb5.size
  have hbw5:=hbw4.trans (hb5.mono (by omega))
  have X1:=X1'.below hb5 X1'.lt
  have X2:=X2'.below hb5 X2'.lt
  have X3:=X3'.below hb5 X3'.lt
  have X4:=X4'.below hb5 X4'.lt
  replace X5:=X5.below hb5 X5.lt
  clear X1' X2' X3' X4' hr4 hbw4 hb4
  obtain ⟨⟨kX10,kX11⟩,fX10,fX11⟩:=X1.c2
  obtain ⟨⟨kX50,kX51,kX52,kX53,kX54⟩,-⟩:=X5.c5
  clear hb5
  go_wp2_with fail
  refine calls_name ?_
  intro w6 hw6
  have hs6:w6.heap.size=w5.heap.size:=by rw [hw6];simp
  have hbw6:Below w.heap.size w w6:=by rw [hw6];exact (hbw5.setCell (Nat.le_refl _) _).setCell (Nat.le_refl _) _
  have Y1:Blk w6 w.heap.size 62 #[.slice P1 b.bids.length p1,.slice P2 b.asks.length p2]:=by rw [hw6];exact (X1.set_ 0 _).set_ 1 _
  have Y2:Blk w6 (w.heap.size + 1) 3 #[.int .i64 id]:=by rw [hw6];exact (X2.far (by simp) _).far (by simp) _
  have Y3:Blk w6 (w.heap.size + 1 + 1) 62 #[.slice none 0 0,.slice none 0 0]:=by rw [hw6];exact (X3.far (by simp;omega) _).far (by simp;omega) _
  have Y4:Blk w6 (w.heap.size + 1 + 1 + 1) 71 #[.int .i64 0,.int .i64 0,.int .i64 0,.int .i64 0,.int .i64 0]:=by rw [hw6];exact (X4.far (by simp;omega) _).far (by simp;omega) _
  have Y5:Blk w6 w3.heap.size 71 #[.int .i64 o.id,.int .i64 o.acc,.int .i64 o.side,.int .i64 o.price,.int .i64 o.qty]:=by rw [hw6];exact (X5.far (by simp;omega) _).far (by simp;omega) _
  have R1:w6.ownsRow w4.heap.size 71 5 (.slice P1 b.bids.length p1) b.bids.length (odCells b.bids):=by rw [hw6];exact ownsRow_setCell_below (ownsRow_setCell_below hv1 (by dsimp only;omega) _) (by dsimp only;omega) _
  have R2:w6.ownsRow w4.heap.size 71 5 (.slice P2 b.asks.length p2) b.asks.length (odCells b.asks):=by rw [hw6];exact ownsRow_setCell_below (ownsRow_setCell_below hv2 (by dsimp only;omega) _) (by dsimp only;omega) _
  clear hw6 hv1 hv2 X1 X2 X3 X4 X5 kX10 kX11 fX10 fX11 kX50 kX51 kX52 kX53 kX54 hbw5
  have HX:=Lib.hid (rest_side o b)
  obtain ⟨⟨m0,m1⟩,-⟩:=Y1.c2
  by_cases hsd:o.side=1
  ·have hs1:(o.side == 1)=true:=by simpa using hsd
   have HY:=Lib.hid (HX.out.1 hsd)
   clear hsd HX
   refine (of_buy' w.heap.size o.side w6 _ _ m0 m1 hs1).mono ?_
   rintro e w7 ⟨rfl,hw7⟩
   have hs7:w7.heap.size=w6.heap.size:=by rw [hw7];rfl
   have V1:Blk w7 w.heap.size 62 #[.slice P1 b.bids.length p1,.slice P2 b.asks.length p2]:=by rw [hw7];exact Y1
   have V2:Blk w7 (w.heap.size + 1) 3 #[.int .i64 id]:=by rw [hw7];exact Y2
   have V3:Blk w7 (w.heap.size + 1 + 1) 62 #[.slice none 0 0,.slice none 0 0]:=by rw [hw7];exact Y3
   have V4:Blk w7 (w.heap.size + 1 + 1 + 1) 71 #[.int .i64 0,.int .i64 0,.int .i64 0,.int .i64 0,.int .i64 0]:=by rw [hw7];exact Y4
   have V5:Blk w7 w3.heap.size 71 #[.int .i64 o.id,.int .i64 o.acc,.int .i64 o.side,.int .i64 o.price,.int .i64 o.qty]:=by rw [hw7];exact Y5
   replace R1:w7.ownsRow w4.heap.size 71 5 (.slice P1 b.bids.length p1) b.bids.length (odCells b.bids):=by rw [hw7];exact own_drewN R1 1
   replace R2:w7.ownsRow w4.heap.size 71 5 (.slice P2 b.asks.length p2) b.asks.length (odCells b.asks):=by rw [hw7];exact own_drewN R2 1
   have hbw7:Below w.heap.size w w7:=by rw [hw7];exact below_drewN hbw6 1
   clear hw7 m0 m1 Y1 Y2 Y3 Y4 Y5 hbw6
   obtain ⟨n1,hn1⟩:∃ n,n=b.bids.length:=⟨_,rfl⟩
   obtain ⟨n2,hn2⟩:∃ n,n=b.asks.length:=⟨_,rfl⟩
   rw [← hn1] at R1 hd12
   rw [← hn2] at R2 hd12
   rw [← hn1,← hn2] at V1
   rw [← hn1,← hn2]
   clear hn1 hn2
   obtain ⟨⟨kV10,kV11⟩,fV10,fV11⟩:=V1.c2
   have kV20:=V2.cell 0
   have HR:=Lib.hid R1
   have HRx:=Lib.hid R2
   have HD12:=Lib.hid hd12
   clear hd12
   go_wp2_with fail
   refine (delfunc_remove_od w4.heap.size (.slice P1 n1 p1) n1 (b.bids) id (w.heap.size + 1) _ HR.out (by omega) (by omega) (fun e=>by have:=(World.ownsRow.lt HR.out _ e).1;omega) kV20).mono ?_
   rintro e w8 ⟨v',rfl,hown',hbk',hbl',honly'⟩
   rw [del_filter] at hown'
   obtain ⟨PN,pN,rfl⟩:=own_shape hown'
   have hs8:=hbl'.size
   have HRN:=Lib.hid hown'
   have HRX:=Lib.hid (own_only HRx.out honly' (fun g h e=>HD12.out _ e h))
   have hbw8:=hbw7.trans (hbl'.mono (by omega))
   have U1:=V1.below hbl' (by omega)
   have U3:=V3.below hbl' (by omega)
   have U4:=V4.below hbl' (by omega)
   have U5:=V5.below hbl' (by omega)
   clear hown' hbk' honly' hbl' V1 V2 V3 V4 V5 R1 R2 HR HRx hbw7 kV10 kV11 fV10 fV11 kV20
   obtain ⟨⟨kU10,kU11⟩,fU10,fU11⟩:=U1.c2
   go_wp2_with fail
   obtain ⟨w9,hw9⟩:∃ x,x=w8.setCell ⟨w.heap.size,0,none⟩ (.slice PN (delO id (b.bids)).length pN):=⟨_,rfl⟩
   rw [← hw9]
   have Z1:Blk w9 w.heap.size 62 #[(.slice PN (delO id b.bids).length pN),(.slice P2 n2 p2)]:=by rw [hw9];exact U1.set_ 0 _
   have Z3:Blk w9 (w.heap.size + 1 + 1) 62 #[.slice none 0 0,.slice none 0 0]:=by rw [hw9];exact U3.far (by simp;omega) _
   have Z4:Blk w9 (w.heap.size + 1 + 1 + 1) 71 #[.int .i64 0,.int .i64 0,.int .i64 0,.int .i64 0,.int .i64 0]:=by rw [hw9];exact U4.far (by simp;omega) _
   have Z5:Blk w9 w3.heap.size 71 #[.int .i64 o.id,.int .i64 o.acc,.int .i64 o.side,.int .i64 o.price,.int .i64 o.qty]:=by rw [hw9];exact U5.far (by simp;omega) _
   have hbw9:Below w.heap.size w w9:=by rw [hw9];exact hbw8.setCell (Nat.le_refl _) _
   have HR0:=Lib.hid (show w9.ownsRow w4.heap.size 71 5 (.slice PN (delO id (b.bids)).length pN) (delO id (b.bids)).length (odCells (delO id (b.bids))) by rw [hw9];exact ownsRow_setCell_below HRN.out (by dsimp only;omega) _)
   have HR1:=Lib.hid (show w9.ownsRow w4.heap.size 71 5 (.slice P2 n2 p2) _ _ by rw [hw9];exact ownsRow_setCell_below HRX.out (by dsimp only;omega) _)
   clear hw9 U1 U3 U4 U5 kU10 kU11 fU10 fU11 HRN HRX hbw8
   obtain ⟨⟨kZ10,kZ11⟩,-⟩:=Z1.c2
   obtain ⟨⟨kZ30,kZ31⟩,fZ30,fZ31⟩:=Z3.c2
   obtain ⟨⟨kZ40,kZ41,kZ42,kZ43,kZ44⟩,fZ40,fZ41,fZ42,fZ43,fZ44⟩:=Z4.c5
   obtain ⟨⟨kZ50,kZ51,kZ52,kZ53,kZ54⟩,-⟩:=Z5.c5
   have hz3:¬ (w.heap.size + 1 + 1=w3.heap.size):=by omega
   have hz4:¬ (w.heap.size + 1 + 1 + 1=w3.heap.size):=by omega
   go_region
   go_wp2_with fail
   refine post_name ?_
   intro Z hZ
   have XZ3:Blk Z (w.heap.size + 1 + 1) 62 #[(.slice PN (delO id b.bids).length pN),(.slice P2 n2 p2)]:=by rw [hZ];exact (((((((Z3.set_ 0 _).set_ 1 _).far (by simp) _).far (by simp) _).far (by simp) _).far (by simp) _).far (by simp) _).drewN 1
   have XZ4:Blk Z (w.heap.size + 1 + 1 + 1) 71 #[.int .i64 o.id,.int .i64 o.acc,.int .i64 o.side,.int .i64 o.price,.int .i64 o.qty]:=by rw [hZ];exact (((((((Z4.far (by simp) _).far (by simp) _).set_ 0 _).set_ 1 _).set_ 2 _).set_ 3 _).set_ 4 _).drewN 1
   have hbZ:Below w.heap.size w Z:=by rw [hZ];exact below_drewN (((((((hbw9.setCell (by dsimp only;omega) _).setCell (by dsimp only;omega) _).setCell (by dsimp only;omega) _).setCell (by dsimp only;omega) _).setCell (by dsimp only;omega) _).setCell (by dsimp only;omega) _).setCell (by dsimp only;omega) _) 1
   have hown:∀ {v:Value} {n:Nat} {xs:List Value},w9.ownsRow w4.heap.size 71 5 v n xs→Z.ownsRow w.heap.size 71 5 v n xs:=by
    intro v n xs hv
    rw [hZ]
    exact own_mono (own_drewN (ownsRow_setCell_below (ownsRow_setCell_below (ownsRow_setCell_below (ownsRow_setCell_below (ownsRow_setCell_below (ownsRow_setCell_below (ownsRow_setCell_below hv (by dsimp only;omega) _) (by dsimp only;omega) _) (by dsimp only;omega) _) (by dsimp only;omega) _) (by dsimp only;omega) _) (by dsimp only;omega) _) (by dsimp only;omega) _) 1) (by omega)
   clear hZ kZ10 kZ11 kZ30 kZ31 fZ30 fZ31 kZ40 kZ41 kZ42 kZ43 kZ44 fZ40 fZ41 fZ42 fZ43 fZ44 kZ50 kZ51 kZ52 kZ53 kZ54 hz3 hz4
   obtain ⟨⟨kXZ30,kXZ31⟩,-⟩:=XZ3.c2
   obtain ⟨⟨kXZ40,kXZ41,kXZ42,kXZ43,kXZ44⟩,-⟩:=XZ4.c5
   refine bodyPost_ret (v:=.tuple #[.agg #[(.slice PN (delO id b.bids).length pN),(.slice P2 n2 p2)],.agg #[.int .i64 o.id,.int .i64 o.acc,.int .i64 o.side,.int .i64 o.price,.int .i64 o.qty],.int .i64 0]) (by simp [results,Try.results68,go_sem, *]) rfl ?_
   refine retRem_mk (o:=o) (b:=mkB b (delO id (b.bids))) ?_ (ownBk_mk (hown HR0.out) (hown HR1.out)) hbZ
   rw [HE1.out,HY.out.2.1,HY.out.2.2]
  ·have hs1:(o.side == 1)=false:=by simpa using hsd
   have HY:=Lib.hid (HX.out.2 hsd)
   clear hsd HX
   refine (of_sell w.heap.size o.side w6 _ _ m0 m1 hs1).mono ?_
   rintro e w7 ⟨rfl,hw7⟩
   have hs7:w7.heap.size=w6.heap.size:=by rw [hw7];rfl
   have V1:Blk w7 w.heap.size 62 #[.slice P1 b.bids.length p1,.slice P2 b.asks.length p2]:=by rw [hw7];exact Y1
   have V2:Blk w7 (w.heap.size + 1) 3 #[.int .i64 id]:=by rw [hw7];exact Y2
   have V3:Blk w7 (w.heap.size + 1 + 1) 62 #[.slice none 0 0,.slice none 0 0]:=by rw [hw7];exact Y3
   have V4:Blk w7 (w.heap.size + 1 + 1 + 1) 71 #[.int .i64 0,.int .i64 0,.int .i64 0,.int .i64 0,.int .i64 0]:=by rw [hw7];exact Y4
   have V5:Blk w7 w3.heap.size 71 #[.int .i64 o.id,.int .i64 o.acc,.int .i64 o.side,.int .i64 o.price,.int .i64 o.qty]:=by rw [hw7];exact Y5
   replace R1:w7.ownsRow w4.heap.size 71 5 (.slice P1 b.bids.length p1) b.bids.length (odCells b.bids):=by rw [hw7];exact own_drewN R1 1
   replace R2:w7.ownsRow w4.heap.size 71 5 (.slice P2 b.asks.length p2) b.asks.length (odCells b.asks):=by rw [hw7];exact own_drewN R2 1
   have hbw7:Below w.heap.size w w7:=by rw [hw7];exact below_drewN hbw6 1
   clear hw7 m0 m1 Y1 Y2 Y3 Y4 Y5 hbw6
   obtain ⟨n1,hn1⟩:∃ n,n=b.bids.length:=⟨_,rfl⟩
   obtain ⟨n2,hn2⟩:∃ n,n=b.asks.length:=⟨_,rfl⟩
   rw [← hn1] at R1 hd12
   rw [← hn2] at R2 hd12
   rw [← hn1,← hn2] at V1
   rw [← hn1,← hn2]
   clear hn1 hn2
   obtain ⟨⟨kV10,kV11⟩,fV10,fV11⟩:=V1.c2
   have kV20:=V2.cell 0
   have HR:=Lib.hid R2
   have HRx:=Lib.hid R1
   have HD12:=Lib.hid hd12
   clear hd12
   go_wp2_with fail
   refine (delfunc_remove_od w4.heap.size (.slice P2 n2 p2) n2 (b.asks) id (w.heap.size + 1) _ HR.out (by omega) (by omega) (fun e=>by have:=(World.ownsRow.lt HR.out _ e).1;omega) kV20).mono ?_
   rintro e w8 ⟨v',rfl,hown',hbk',hbl',honly'⟩
   rw [del_filter] at hown'
   obtain ⟨PN,pN,rfl⟩:=own_shape hown'
   have hs8:=hbl'.size
   have HRN:=Lib.hid hown'
   have HRX:=Lib.hid (own_only HRx.out honly' (fun g h e=>HD12.out _ h e))
   have hbw8:=hbw7.trans (hbl'.mono (by omega))
   have U1:=V1.below hbl' (by omega)
   have U3:=V3.below hbl' (by omega)
   have U4:=V4.below hbl' (by omega)
   have U5:=V5.below hbl' (by omega)
   clear hown' hbk' honly' hbl' V1 V2 V3 V4 V5 R1 R2 HR HRx hbw7 kV10 kV11 fV10 fV11 kV20
   obtain ⟨⟨kU10,kU11⟩,fU10,fU11⟩:=U1.c2
   go_wp2_with fail
   obtain ⟨w9,hw9⟩:∃ x,x=w8.setCell ⟨w.heap.size,1,none⟩ (.slice PN (delO id (b.asks)).length pN):=⟨_,rfl⟩
   rw [← hw9]
   have Z1:Blk w9 w.heap.size 62 #[(.slice P1 n1 p1),(.slice PN (delO id b.asks).length pN)]:=by rw [hw9];exact U1.set_ 1 _
   have Z3:Blk w9 (w.heap.size + 1 + 1) 62 #[.slice none 0 0,.slice none 0 0]:=by rw [hw9];exact U3.far (by simp;omega) _
   have Z4:Blk w9 (w.heap.size + 1 + 1 + 1) 71 #[.int .i64 0,.int .i64 0,.int .i64 0,.int .i64 0,.int .i64 0]:=by rw [hw9];exact U4.far (by simp;omega) _
   have Z5:Blk w9 w3.heap.size 71 #[.int .i64 o.id,.int .i64 o.acc,.int .i64 o.side,.int .i64 o.price,.int .i64 o.qty]:=by rw [hw9];exact U5.far (by simp;omega) _
   have hbw9:Below w.heap.size w w9:=by rw [hw9];exact hbw8.setCell (Nat.le_refl _) _
   have HR0:=Lib.hid (show w9.ownsRow w4.heap.size 71 5 (.slice PN (delO id (b.asks)).length pN) (delO id (b.asks)).length (odCells (delO id (b.asks))) by rw [hw9];exact ownsRow_setCell_below HRN.out (by dsimp only;omega) _)
   have HR1:=Lib.hid (show w9.ownsRow w4.heap.size 71 5 (.slice P1 n1 p1) _ _ by rw [hw9];exact ownsRow_setCell_below HRX.out (by dsimp only;omega) _)
   clear hw9 U1 U3 U4 U5 kU10 kU11 fU10 fU11 HRN HRX hbw8
   obtain ⟨⟨kZ10,kZ11⟩,-⟩:=Z1.c2
   obtain ⟨⟨kZ30,kZ31⟩,fZ30,fZ31⟩:=Z3.c2
   obtain ⟨⟨kZ40,kZ41,kZ42,kZ43,kZ44⟩,fZ40,fZ41,fZ42,fZ43,fZ44⟩:=Z4.c5
   obtain ⟨⟨kZ50,kZ51,kZ52,kZ53,kZ54⟩,-⟩:=Z5.c5
   have hz3:¬ (w.heap.size + 1 + 1=w3.heap.size):=by omega
   have hz4:¬ (w.heap.size + 1 + 1 + 1=w3.heap.size):=by omega
   go_region
   go_wp2_with fail
   refine post_name ?_
   intro Z hZ
   have XZ3:Blk Z (w.heap.size + 1 + 1) 62 #[(.slice P1 n1 p1),(.slice PN (delO id b.asks).length pN)]:=by rw [hZ];exact (((((((Z3.set_ 0 _).set_ 1 _).far (by simp) _).far (by simp) _).far (by simp) _).far (by simp) _).far (by simp) _).drewN 1
   have XZ4:Blk Z (w.heap.size + 1 + 1 + 1) 71 #[.int .i64 o.id,.int .i64 o.acc,.int .i64 o.side,.int .i64 o.price,.int .i64 o.qty]:=by rw [hZ];exact (((((((Z4.far (by simp) _).far (by simp) _).set_ 0 _).set_ 1 _).set_ 2 _).set_ 3 _).set_ 4 _).drewN 1
   have hbZ:Below w.heap.size w Z:=by rw [hZ];exact below_drewN (((((((hbw9.setCell (by dsimp only;omega) _).setCell (by dsimp only;omega) _).setCell (by dsimp only;omega) _).setCell (by dsimp only;omega) _).setCell (by dsimp only;omega) _).setCell (by dsimp only;omega) _).setCell (by dsimp only;omega) _) 1
   have hown:∀ {v:Value} {n:Nat} {xs:List Value},w9.ownsRow w4.heap.size 71 5 v n xs→Z.ownsRow w.heap.size 71 5 v n xs:=by
    intro v n xs hv
    rw [hZ]
    exact own_mono (own_drewN (ownsRow_setCell_below (ownsRow_setCell_below (ownsRow_setCell_below (ownsRow_setCell_below (ownsRow_setCell_below (ownsRow_setCell_below (ownsRow_setCell_below hv (by dsimp only;omega) _) (by dsimp only;omega) _) (by dsimp only;omega) _) (by dsimp only;omega) _) (by dsimp only;omega) _) (by dsimp only;omega) _) (by dsimp only;omega) _) 1) (by omega)
   clear hZ kZ10 kZ11 kZ30 kZ31 fZ30 fZ31 kZ40 kZ41 kZ42 kZ43 kZ44 fZ40 fZ41 fZ42 fZ43 fZ44 kZ50 kZ51 kZ52 kZ53 kZ54 hz3 hz4
   obtain ⟨⟨kXZ30,kXZ31⟩,-⟩:=XZ3.c2
   obtain ⟨⟨kXZ40,kXZ41,kXZ42,kXZ43,kXZ44⟩,-⟩:=XZ4.c5
   refine bodyPost_ret (v:=.tuple #[.agg #[(.slice P1 n1 p1),(.slice PN (delO id b.asks).length pN)],.agg #[.int .i64 o.id,.int .i64 o.acc,.int .i64 o.side,.int .i64 o.price,.int .i64 o.qty],.int .i64 0]) (by simp [results,Try.results68,go_sem, *]) rfl ?_
   refine retRem_mk (o:=o) (b:=mkA b (delO id (b.asks))) ?_ (ownBk_mk (hown HR1.out) (hown HR0.out)) hbZ
   rw [HE1.out,HY.out.2.1,HY.out.2.2]
end
section
open Go.RowKit
structure OBk (w:World) (base:Nat) (A A':Option Addr) (c c':Nat) (b:Bk):Prop where
 l:w.ownsRow base 71 5 (.slice A b.bids.length c) b.bids.length (odCells b.bids)
 r:w.ownsRow base 71 5 (.slice A' b.asks.length c') b.asks.length (odCells b.asks)
theorem OwnBk.obk {w:World} {base:Nat} {v:Value} {b:Bk} (h:OwnBk w base v b):∃ A c A' c',v=.agg #[.slice A b.bids.length c,.slice A' b.asks.length c']∧OBk w base A A' c c' b:=by
 obtain ⟨A,c,A',c',rfl,h1,h2⟩:=h
 exact ⟨A,c,A',c',rfl,h1,h2⟩
theorem OBk.read {w:World} {base:Nat} {A A':Option Addr} {c c':Nat} {b:Bk} (h:OBk w base A A' c c' b):BkR w w.heap.size A A' c c' b:=⟨Rd.of_own h.l,Rd.of_own h.r⟩
theorem OBk.set {w:World} {base:Nat} {A A':Option Addr} {c c':Nat} {b:Bk} (h:OBk w base A A' c c' b) {a:Addr} (ha:a.block < base) (u:Value):OBk (w.setCell a u) base A A' c c' b:=⟨ownsRow_setCell_below h.l ha u,ownsRow_setCell_below h.r ha u⟩
theorem OBk.below {w w1:World} {base B:Nat} {A A':Option Addr} {c c':Nat} {b:Bk} (h:OBk w base A A' c c' b) (hb:Below B w w1) (hB:w.heap.size ≤ B):OBk w1 base A A' c c' b:=⟨own_below h.l hb hB,own_below h.r hb hB⟩
theorem OBk.alloc {w:World} {base:Nat} {A A':Option Addr} {c c':Nat} {b:Bk} (h:OBk w base A A' c c' b) (o:Obj):OBk (w.alloc o) base A A' c c' b:=⟨World.ownsRow.alloc h.l o,World.ownsRow.alloc h.r o⟩
theorem OBk.drewN {w:World} {base:Nat} {A A':Option Addr} {c c':Nat} {b:Bk} (h:OBk w base A A' c c' b) (q:Nat):OBk (w.drewN q) base A A' c c' b:=⟨own_drewN h.l q,own_drewN h.r q⟩
theorem bkR_zero (w:World):BkR w w.heap.size none none 0 0 zeroBk:=⟨Rd.none_ _ _ _,Rd.none_ _ _ _⟩
def sO1:Od:=⟨1,0,1,5,2⟩
def sO2:Od:=⟨3,0,1,6,2⟩
def sO3:Od:=⟨2,0,1,5,2⟩
def sO4:Od:=⟨4,0,-1,6,2⟩
set_option maxHeartbeats 2000000 in
set_option maxRecDepth 100000 in
theorem shelved_any (w:World):Calls Try.prog 61 #[] w fun e w'=>e=.returned (.bool true)∧Below w.heap.size w w':=by
 have F1:=Lib.hid (show restOf zeroBk sO1=(⟨[sO1],[]⟩,0) by kernel_rfl)
 have F2:=Lib.hid (show restOf ⟨[sO1],[]⟩ sO2=(⟨[sO2,sO1],[]⟩,0) by kernel_rfl)
 have F3:=Lib.hid (show restOf ⟨[sO2,sO1],[]⟩ sO3=(⟨[sO2,sO1,sO3],[]⟩,0) by kernel_rfl)
 have F4:=Lib.hid (show restOf ⟨[sO2,sO1,sO3],[]⟩ sO4=(zeroBk,9) by kernel_rfl)
 have F5:=Lib.hid (show bestOf ⟨[sO2,sO1,sO3],[]⟩=(6,0,0) by kernel_rfl)
 go_enter Try.func61,Try.ntmps61
 go_wp2_with fail
 refine (rest_bk zeroBk sO1 none none 0 0 w.heap.size w (bkR_zero w) (Nat.le_refl _) (by decide) (by decide)).mono ?_
 rw [F1.out]
 rintro e w1 ⟨v,rfl,hown,hb1⟩
 obtain ⟨A1,c1,A1',c1',rfl,H1⟩:=hown.obk
 have hs1:=hb1.size
 clear hown
 go_wp2_with fail
 refine calls_name ?_
 intro w2 hw2
 have hb2:Below w1.heap.size w1 w2:=by rw [hw2];exact (Below.refl _ _).alloc (Nat.le_refl _) _
 have hs2:w2.heap.size=w1.heap.size + 1:=by rw [hw2];simp
 have X1:Blk w2 w1.heap.size 62 #[.slice A1 1 c1,.slice A1' 0 c1']:=by rw [hw2];exact Blk.new w1 _ _
 clear hw2
 refine (rest_bk ⟨[sO1],[]⟩ sO2 A1 A1' c1 c1' w1.heap.size w2 (H1.read.below hb2) (by omega) (by decide) (by decide)).mono ?_
 rw [F2.out]
 rintro e w3 ⟨v,rfl,hown,hb3⟩
 obtain ⟨A2,c2,A2',c2',rfl,H3⟩:=hown.obk
 have hs3:=hb3.size
 obtain ⟨⟨kX10,kX11⟩,fX10,fX11⟩:=X1.c2
 clear kX10 kX11 fX10 fX11
 replace X1:=X1.below hb3 X1.lt
 obtain ⟨⟨kX10,kX11⟩,fX10,fX11⟩:=X1.c2
 clear hown
 go_wp2_with fail
 refine calls_name ?_
 intro w4 hw4
 have hs4:w4.heap.size=w3.heap.size:=by rw [hw4];simp
 have Y1:Blk w4 w1.heap.size 62 #[.slice A2 2 c2,.slice A2' 0 c2']:=by rw [hw4];exact (X1.set_ 0 _).set_ 1 _
 have H4:OBk w4 w2.heap.size A2 A2' c2 c2' ⟨[sO2,sO1],[]⟩:=by rw [hw4];exact (H3.set (by dsimp only;omega) _).set (by dsimp only;omega) _
 have hb4:Below w1.heap.size w1 w4:=by rw [hw4];exact ((hb2.trans (hb3.mono (by omega))).setCell (Nat.le_refl _) _).setCell (Nat.le_refl _) _
 clear hw4 X1 kX10 kX11 fX10 fX11 H3 H1 hb2 hb3
 refine (rest_bk ⟨[sO2,sO1],[]⟩ sO3 A2 A2' c2 c2' w4.heap.size w4 H4.read (Nat.le_refl _) (by decide) (by decide)).mono ?_
 rw [F3.out]
 rintro e w5 ⟨v,rfl,hown,hb5⟩
 obtain ⟨A3,c3,A3',c3',rfl,H5⟩:=hown.obk
 have hs5:=hb5.size
 obtain ⟨⟨kY10,kY11⟩,fY10,fY11⟩:=Y1.c2
 clear kY10 kY11 fY10 fY11
 replace Y1:=Y1.below hb5 Y1.lt
 obtain ⟨⟨kY10,kY11⟩,fY10,fY11⟩:=Y1.c2
 clear hown H4
 go_wp2_with fail
 refine calls_name ?_
 intro w6 hw6
 have hs6:w6.heap.size=w5.heap.size:=by rw [hw6];simp
 have Z1:Blk w6 w1.heap.size 62 #[.slice A3 3 c3,.slice A3' 0 c3']:=by rw [hw6];exact (Y1.set_ 0 _).set_ 1 _
 have H6:OBk w6 w4.heap.size A3 A3' c3 c3' ⟨[sO2,sO1,sO3],[]⟩:=by rw [hw6];exact (H5.set (by dsimp only;omega) _).set (by dsimp only;omega) _
 have hb6:Below w1.heap.size w1 w6:=by rw [hw6];exact ((hb4.trans (hb5.mono (by omega))).setCell (Nat.le_refl _) _).setCell (Nat.le_refl _) _
 clear hw6 Y1 kY10 kY11 fY10 fY11 H5 hb4 hb5
 refine (rest_bk ⟨[sO2,sO1,sO3],[]⟩ sO4 A3 A3' c3 c3' w6.heap.size w6 H6.read (Nat.le_refl _) (by decide) (by decide)).mono ?_
 rw [F4.out]
 rintro e w7 ⟨v,rfl,hown,hb7⟩
 obtain ⟨A4,c4,A4',c4',rfl,H7⟩:=hown.obk
 have hs7:=hb7.size
 obtain ⟨⟨kZ10,kZ11⟩,fZ10,fZ11⟩:=Z1.c2
 clear kZ10 kZ11 fZ10 fZ11
 replace Z1:=Z1.below hb7 Z1.lt
 obtain ⟨⟨kZ10,kZ11⟩,fZ10,fZ11⟩:=Z1.c2
 replace H6:=H6.below hb7 (Nat.le_refl _)
 clear hown H7
 have x1:w1.heap.size < w7.heap.size:=by omega
 go_wp2_with fail
 refine calls_name ?_
 intro w8 hw8
 have hb8:Below w7.heap.size w7 w8:=by rw [hw8];exact (Below.refl _ _).alloc (Nat.le_refl _) _
 clear hw8
 replace H6:=H6.below hb8 (Nat.le_refl _)
 clear kZ10 kZ11 fZ10 fZ11
 replace Z1:=Z1.below hb8 Z1.lt
 obtain ⟨⟨kZ10,kZ11⟩,fZ10,fZ11⟩:=Z1.c2
 refine (best_bk ⟨[sO2,sO1,sO3],[]⟩ A3 A3' c3 c3' w8.heap.size w8 H6.read (Nat.le_refl _) (by decide) (by decide)).mono ?_
 rw [F5.out]
 rintro e w9 ⟨rfl,hb9⟩
 have hs8:=hb8.size
 have hs9:=hb9.size
 replace H6:=H6.below hb9 (Nat.le_refl _)
 clear kZ10 kZ11 fZ10 fZ11
 replace Z1:=Z1.below hb9 Z1.lt
 obtain ⟨⟨kZ10,kZ11⟩,fZ10,fZ11⟩:=Z1.c2
 have hbZ:Below w.heap.size w w9:=(((hb1.trans (hb6.mono (by omega))).trans (hb7.mono (by omega))).trans (hb8.mono (by omega))).trans (hb9.mono (by omega))
 obtain ⟨bb,oo,x,rfl,_,hx,k0,_,_,_,_⟩:=od_at H6.read.l (i:=0) (by decide)
 obtain ⟨bb',oo',y,e1,_,hy,m0,_,_,_,_⟩:=od_at H6.read.l (i:=2) (by decide)
 obtain rfl:x=sO2:=by injection hx with hx;exact hx.symm
 obtain rfl:y=sO3:=by injection hy with hy;exact hy.symm
 injection e1 with e1
 injection e1 with e1 e2
 subst e1 e2
 clear hx hy H6 hb1 hb6 hb7 hb8 hb9 Z1
 simp only [sO2,sO3] at k0 m0
 rw [Nat.zero_mul,Nat.add_zero] at k0
 rw [show 2 * 5=10 from rfl] at m0
 go_wp2_with fail
 go_ret
 exact ⟨rfl,hbZ⟩
end
section
open Go.RowKit
theorem rest_pair (b:Bk) (o:Od):∃ x e,restOf b o=(x,e):=⟨_,_,rfl⟩
theorem remove_tri (b:Bk) (id:Int):∃ x o e,removeOf b id=(x,o,e):=⟨_,_,_,rfl⟩
theorem BkR.up {w:World} {B B':Nat} {A A':Option Addr} {c c':Nat} {b:Bk} (h:BkR w B A A' c c' b) (hB:B ≤ B'):BkR w B' A A' c c' b:=⟨h.l.up hB,h.r.up hB⟩
end
section
open Go.Sort
section
variable {α:Type} [Inhabited α]
def swrF (g:Nat→α) (a b n k:Nat):α:=if a ≤ k∧k < a + n then g (k + (b - a)) else if b ≤ k∧k < b + n then g (k - (b - a)) else g k
def rotF (g:Nat→α) (a m b k:Nat):α:=if a ≤ k∧k < a + (b - m) then g (k + (m - a)) else if a + (b - m) ≤ k∧k < b then g (k - (b - m)) else g k
def atA (d:Array α) (k:Nat):α:=d[k]!
omit [Inhabited α] in
theorem swr_zero (g:Nat→α) (a b k:Nat):swrF g a b 0 k=g k:=by
 unfold swrF
 rw [if_neg (by omega),if_neg (by omega)]
theorem swr_step {g:Nat→α} {d:Array α} {a b n:Nat} (h:∀ k,atA d k=swrF g a b n k) (hab:a + n < b) (hb:b + n < d.size):∀ k,atA (swp d (a + n) (b + n)) k=swrF g a b (n + 1) k:=by
 intro k
 have h1:=h (a + n)
 have h2:=h (b + n)
 have h3:=h k
 unfold atA at *
 rw [swp_get d (by omega) hb]
 unfold swrF at *
 rw [if_neg (by omega),if_neg (by omega)] at h1
 rw [if_neg (by omega),if_neg (by omega)] at h2
 by_cases e1:k=b + n
 ·subst e1
  rw [if_pos rfl,if_neg (by omega),if_pos (by omega),h1]
  congr 1;omega
 ·rw [if_neg e1]
  by_cases e2:k=a + n
  ·subst e2
   rw [if_pos rfl,if_pos (by omega),h2]
   congr 1;omega
  ·rw [if_neg e2,h3]
   (repeat' split) <;> first | rfl | (exfalso;omega)
omit [Inhabited α] in
theorem rot_gt (g:Nat→α) {i j m:Nat} (hij:j < i) (hi:i ≤ m) (k:Nat):rotF (swrF g (m - i) m j) (m - (i - j)) m (m + j) k=rotF g (m - i) m (m + j) k:=by
 unfold rotF swrF
 (repeat' split) <;> first | rfl | (exfalso;omega) | (congr 1;omega)
omit [Inhabited α] in
theorem rot_lt (g:Nat→α) {i j m:Nat} (hij:i < j) (hi:i ≤ m) (k:Nat):rotF (swrF g (m - i) (m + j - i) i) (m - i) m (m + (j - i)) k=rotF g (m - i) m (m + j) k:=by
 unfold rotF swrF
 (repeat' split) <;> first | rfl | (exfalso;omega) | (congr 1;omega)
omit [Inhabited α] in
theorem rot_eq (g:Nat→α) {i m:Nat} (hi:i ≤ m) (k:Nat):swrF g (m - i) m i k=rotF g (m - i) m (m + i) k:=by
 unfold rotF swrF
 (repeat' split) <;> first | rfl | (exfalso;omega) | (congr 1;omega)
omit [Inhabited α] in
theorem rot_congr {g f:Nat→α} (h:∀ k,g k=f k) (a m b k:Nat):rotF g a m b k=rotF f a m b k:=by
 rw [show g=f from funext h]
omit [Inhabited α] in
theorem rot_left (g:Nat→α) (m b k:Nat):rotF g m m b k=g k:=by
 unfold rotF
 (repeat' split) <;> first | rfl | (exfalso;omega) | (congr 1;omega)
omit [Inhabited α] in
theorem rot_right (g:Nat→α) (a m k:Nat):rotF g a m m k=g k:=by
 unfold rotF
 (repeat' split) <;> first | rfl | (exfalso;omega) | (congr 1;omega)
theorem up_step {g:Nat→α} {d:Array α} {a k:Nat} (h:∀ x,atA d x=rotF g a (a + 1) (k + 1) x) (hak:a ≤ k) (hk:k + 1 < d.size):∀ x,atA (swp d k (k + 1)) x=rotF g a (a + 1) (k + 1 + 1) x:=by
 intro x
 have h1:=h k
 have h2:=h (k + 1)
 have h3:=h x
 unfold atA at *
 rw [swp_get d (by omega) hk]
 unfold rotF at *
 rw [if_neg (by omega),if_pos (by omega),show k - (k + 1 - (a + 1))=a by omega] at h1
 rw [if_neg (by omega),if_neg (by omega)] at h2
 by_cases e1:x=k + 1
 ·subst e1
  rw [if_pos rfl,if_neg (by omega),if_pos (by omega),h1]
  congr 1;omega
 ·rw [if_neg e1]
  by_cases e2:x=k
  ·subst e2
   rw [if_pos rfl,if_pos (by omega),h2]
   congr 1;omega
  ·rw [if_neg e2,h3]
   (repeat' split) <;> first | rfl | (exfalso;omega) | (congr 1;omega)
theorem down_step {g:Nat→α} {d:Array α} {m k:Nat} (h:∀ x,atA d x=rotF g (k + 1) m (m + 1) x) (hkm:k + 1 ≤ m) (hm:m < d.size):∀ x,atA (swp d (k + 1) k) x=rotF g k m (m + 1) x:=by
 intro x
 have h1:=h (k + 1)
 have h2:=h k
 have h3:=h x
 unfold atA at *
 rw [swp_get d (by omega) (by omega)]
 unfold rotF at *
 rw [if_pos (by omega),show k + 1 + (m - (k + 1))=m by omega] at h1
 rw [if_neg (by omega),if_neg (by omega)] at h2
 by_cases e1:x=k
 ·subst e1
  rw [if_pos rfl,if_pos (by omega),h1]
  congr 1;omega
 ·rw [if_neg e1]
  by_cases e2:x=k + 1
  ·subst e2
   rw [if_pos rfl,if_neg (by omega),if_pos (by omega),h2]
   congr 1;omega
  ·rw [if_neg e2,h3]
   (repeat' split) <;> first | rfl | (exfalso;omega) | (congr 1;omega)
variable {lt:α→α→Bool}
def SoF (lt:α→α→Bool) (a b:Nat) (g:Nat→α):Prop:=∀ i j,a ≤ i→i < j→j < b→lt (g j) (g i)=false
omit [Inhabited α] in
theorem lt_asymm' (hO:SWO lt) {x y:α} (h:lt x y=true):lt y x=false:=by
 cases h2:lt y x
 ·rfl
 ·have:=hO.trans x y x h h2
  rw [hO.irrefl] at this;cases this
omit [Inhabited α] in
theorem SoF.le {a b:Nat} {g:Nat→α} (h:SoF lt a b g) (hO:SWO lt) {i j:Nat} (h1:a ≤ i) (h2:i ≤ j) (h3:j < b):lt (g j) (g i)=false:=by
 rcases Nat.lt_or_ge i j with h4 | h4
 ·exact h i j h1 h4 h3
 ·rw [show j=i by omega];exact hO.irrefl _
omit [Inhabited α] in
theorem one_left (hO:SWO lt) {g:Nat→α} {a b i:Nat} (hs:SoF lt (a + 1) b g) (h1:a + 1 ≤ i) (h2:i ≤ b) (hl:∀ h,a + 1 ≤ h→h < i→lt (g h) (g a)=true) (hr:∀ h,i ≤ h→h < b→lt (g h) (g a)=false) :
  SoF lt a b (rotF g a (a + 1) i):=by
 intro x y hx hxy hy
 unfold rotF
 by_cases c1:x < i - 1
 ·rw [if_pos (show a ≤ x∧x < a + (i - (a + 1)) by omega)]
  by_cases c2:y < i - 1
  ·rw [if_pos (by omega)]
   exact hs _ _ (by omega) (by omega) (by omega)
  ·rw [if_neg (by omega)]
   by_cases c3:y=i - 1
   ·rw [if_pos (by omega),show y - (i - (a + 1))=a by omega]
    exact lt_asymm' hO (hl _ (by omega) (by omega))
   ·rw [if_neg (by omega)]
    exact hs _ _ (by omega) (by omega) (by omega)
 ·rw [if_neg (show ¬ (a ≤ x∧x < a + (i - (a + 1))) by omega),if_neg (show ¬ (a ≤ y∧y < a + (i - (a + 1))) by omega),if_neg (show ¬ (a + (i - (a + 1)) ≤ y∧y < i) by omega)]
  by_cases c3:x=i - 1
  ·rw [if_pos (by omega),show x - (i - (a + 1))=a by omega]
   exact hr _ (by omega) (by omega)
  ·rw [if_neg (by omega)]
   exact hs _ _ (by omega) (by omega) (by omega)
omit [Inhabited α] in
theorem one_right (hO:SWO lt) {g:Nat→α} {a m i:Nat} (hs:SoF lt a m g) (h1:a ≤ i) (h2:i ≤ m) (hl:∀ h,a ≤ h→h < i→lt (g m) (g h)=false) (hr:∀ h,i ≤ h→h < m→lt (g m) (g h)=true) :
  SoF lt a (m + 1) (rotF g i m (m + 1)):=by
 intro x y hx hxy hy
 unfold rotF
 by_cases c1:x < i
 ·rw [if_neg (show ¬ (i ≤ x∧x < i + (m + 1 - m)) by omega),if_neg (show ¬ (i + (m + 1 - m) ≤ x∧x < m + 1) by omega)]
  by_cases c2:y=i
  ·rw [if_pos (by omega),show y + (m - i)=m by omega]
   exact hl _ (by omega) (by omega)
  ·rw [if_neg (by omega)]
   by_cases c3:y < i
   ·rw [if_neg (by omega)]
    exact hs _ _ (by omega) (by omega) (by omega)
   ·rw [if_pos (by omega)]
    exact hs _ _ (by omega) (by omega) (by omega)
 ·rw [if_neg (show ¬ (i ≤ y∧y < i + (m + 1 - m)) by omega),if_pos (show i + (m + 1 - m) ≤ y∧y < m + 1 by omega)]
  by_cases c2:x=i
  ·rw [if_pos (by omega),show x + (m - i)=m by omega]
   exact lt_asymm' hO (hr _ (by omega) (by omega))
  ·rw [if_neg (by omega),if_pos (by omega)]
   exact hs _ _ (by omega) (by omega) (by omega)
structure CutAt (lt:α→α→Bool) (g:Nat→α) (a m b s0 r0:Nat):Prop where
 am:a < m
 mb:m < b
 bd:m > (a + b) / 2∧s0=(a + b) / 2 + m - b∧r0=(a + b) / 2∨m ≤ (a + b) / 2∧s0=a∧r0=m
 sl:SoF lt a m g
 sr:SoF lt m b g
omit [Inhabited α] in
theorem CutAt.ge {g:Nat→α} {a m b s0 r0:Nat} (h:CutAt lt g a m b s0 r0):a ≤ s0∧s0 ≤ r0∧r0 ≤ m∧r0 ≤ (a + b) / 2:=by
 obtain ⟨h1,h2,h3,_,_⟩:=h;omega
omit [Inhabited α] in
theorem CutAt.left (hO:SWO lt) {g:Nat→α} {a m b s0 r0 c:Nat} (h:CutAt lt g a m b s0 r0) (hc:s0 ≤ c∧c < r0) (hl:lt (g ((a + b) / 2 + m - 1 - c)) (g c)=false) {c':Nat} (h1:s0 ≤ c') (h2:c' ≤ c) :
  lt (g ((a + b) / 2 + m - 1 - c')) (g c')=false:=by
 obtain ⟨ham,hmb,hbd,hsl,hsr⟩:=h
 have e1:=hsr.le hO (i:=(a + b) / 2 + m - 1 - c) (j:=(a + b) / 2 + m - 1 - c') (by omega) (by omega) (by omega)
 have e2:=hsl.le hO (i:=c') (j:=c) (by omega) (by omega) (by omega)
 exact hO.ntrans _ _ _ (hO.ntrans _ _ _ e1 hl) e2
omit [Inhabited α] in
theorem CutAt.right (hO:SWO lt) {g:Nat→α} {a m b s0 r0 c:Nat} (h:CutAt lt g a m b s0 r0) (hc:s0 ≤ c∧c < r0) (hl:lt (g ((a + b) / 2 + m - 1 - c)) (g c)=true) {c':Nat} (h1:c ≤ c') (h2:c' < r0) :
  lt (g ((a + b) / 2 + m - 1 - c')) (g c')=true:=by
 obtain ⟨ham,hmb,hbd,hsl,hsr⟩:=h
 cases hx:lt (g ((a + b) / 2 + m - 1 - c')) (g c')
 ·have e1:=hsr.le hO (i:=(a + b) / 2 + m - 1 - c') (j:=(a + b) / 2 + m - 1 - c) (by omega) (by omega) (by omega)
  have e2:=hsl.le hO (i:=c) (j:=c') (by omega) (by omega) (by omega)
  rw [hO.ntrans _ _ _ (hO.ntrans _ _ _ e1 hx) e2] at hl;cases hl
 ·rfl
omit [Inhabited α] in
theorem CutAt.cut (hO:SWO lt) {g:Nat→α} {a m b s0 r0 s:Nat} (h:CutAt lt g a m b s0 r0) (h1:s0 ≤ s) (h2:s ≤ r0) (hl:∀ c,s0 ≤ c→c < s→lt (g ((a + b) / 2 + m - 1 - c)) (g c)=false)
  (hr:∀ c,s ≤ c→c < r0→lt (g ((a + b) / 2 + m - 1 - c)) (g c)=true) :
  SoF lt a s (rotF g s m ((a + b) / 2 + m - s))∧SoF lt s ((a + b) / 2) (rotF g s m ((a + b) / 2 + m - s))∧SoF lt ((a + b) / 2) ((a + b) / 2 + m - s) (rotF g s m ((a + b) / 2 + m - s))∧SoF lt ((a + b) / 2 + m - s) b (rotF g s m ((a + b) / 2 + m - s)) ∧
   (∀ i j,a ≤ i→i < (a + b) / 2→(a + b) / 2 ≤ j→j < b→lt (rotF g s m ((a + b) / 2 + m - s) j) (rotF g s m ((a + b) / 2 + m - s) i)=false):=by
 obtain ⟨ham,hmb,hbd,hsl,hsr⟩:=h
 have q1:∀ x,x < s→rotF g s m ((a + b) / 2 + m - s) x=g x:=fun x hx=>by
  unfold rotF;rw [if_neg (by omega),if_neg (by omega)]
 have q2:∀ x,s ≤ x→x < (a + b) / 2→rotF g s m ((a + b) / 2 + m - s) x=g (x + (m - s)):=fun x hx hx'=>by
  unfold rotF;rw [if_pos (by omega)]
 have q3:∀ x,(a + b) / 2 ≤ x→x < (a + b) / 2 + m - s→rotF g s m ((a + b) / 2 + m - s) x=g (x - ((a + b) / 2 + m - s - m)):=fun x hx hx'=>by
  unfold rotF;rw [if_neg (by omega),if_pos (by omega)]
 have q4:∀ x,(a + b) / 2 + m - s ≤ x→rotF g s m ((a + b) / 2 + m - s) x=g x:=fun x hx=>by
  unfold rotF;rw [if_neg (by omega),if_neg (by omega)]
 refine ⟨?_,?_,?_,?_,?_⟩
 ·intro x y hx hxy hy
  rw [q1 x (by omega),q1 y hy];exact hsl _ _ hx hxy (by omega)
 ·intro x y hx hxy hy
  rw [q2 x hx (by omega),q2 y (by omega) hy];exact hsr _ _ (by omega) (by omega) (by omega)
 ·intro x y hx hxy hy
  rw [q3 x hx (by omega),q3 y (by omega) hy];exact hsl _ _ (by omega) (by omega) (by omega)
 ·intro x y hx hxy hy
  rw [q4 x hx,q4 y (by omega)];exact hsr _ _ (by omega) hxy hy
 ·intro i j hi hi' hj hj'
  by_cases c1:i < s
  ·rw [q1 _ c1]
   by_cases c2:j < (a + b) / 2 + m - s
   ·rw [q3 _ hj c2]
    exact hsl _ _ hi (by omega) (by omega)
   ·rw [q4 _ (by omega)]
    have e0:=hl (s - 1) (by omega) (by omega)
    rw [show (a + b) / 2 + m - 1 - (s - 1)=(a + b) / 2 + m - s by omega] at e0
    have e1:=hsr.le hO (i:=(a + b) / 2 + m - s) (j:=j) (by omega) (by omega) hj'
    have e2:=hsl.le hO (i:=i) (j:=s - 1) hi (by omega) (by omega)
    exact hO.ntrans _ _ _ (hO.ntrans _ _ _ e1 e0) e2
  ·rw [q2 _ (by omega) hi']
   by_cases c2:j < (a + b) / 2 + m - s
   ·rw [q3 _ hj c2]
    have e0:=lt_asymm' hO (hr s (Nat.le_refl _) (by omega))
    have e1:=hsl.le hO (i:=s) (j:=j - ((a + b) / 2 + m - s - m)) (by omega) (by omega) (by omega)
    have e2:=hsr.le hO (i:=i + (m - s)) (j:=(a + b) / 2 + m - 1 - s) (by omega) (by omega) (by omega)
    exact hO.ntrans _ _ _ (hO.ntrans _ _ _ e1 e0) e2
   ·rw [q4 _ (by omega)]
    exact hsr _ _ (by omega) (by omega) hj'
omit [Inhabited α] in
theorem so_join {g:Nat→α} {a c b:Nat} (h1:SoF lt a c g) (h2:SoF lt c b g) (h3:∀ i j,a ≤ i→i < c→c ≤ j→j < b→lt (g j) (g i)=false):SoF lt a b g:=by
 intro x y hx hxy hy
 by_cases c1:x < c
 ·by_cases c2:y < c
  ·exact h1 _ _ hx hxy c2
  ·exact h3 _ _ hx c1 (by omega) hy
 ·exact h2 _ _ (by omega) hxy hy
omit [Inhabited α] in
theorem so_one {g:Nat→α} {a c b:Nat} (h1:SoF lt a c g) (h2:SoF lt c b g) (h:a=c∨c=b):SoF lt a b g:=by
 rcases h with rfl | rfl
 ·exact h2
 ·exact h1
theorem perm_two {d d1 d2:Array α} {a c b:Nat} (h1:PermIn a c d d1) (h2:PermIn c b d1 d2) (hac:a ≤ c) (hcb:c ≤ b) (hb:b ≤ d.size):PermIn a b d d2 :=
 permIn_trans _ _ _ _ _ (permIn_mono _ _ _ _ _ _ (Nat.le_refl a) hcb hb h1) (permIn_mono _ _ _ _ _ _ hac (Nat.le_refl b) (by rw [h1.1];exact hb) h2)
theorem perm_rel {d d1 d2:Array α} {a c b:Nat} (h1:PermIn a c d d1) (h2:PermIn c b d1 d2) (_hac:a ≤ c) (_hcb:c ≤ b) (hb:b ≤ d.size)
  (h:∀ i j,a ≤ i→i < c→c ≤ j→j < b→lt (atA d j) (atA d i)=false):∀ i j,a ≤ i→i < c→c ≤ j→j < b→lt (atA d2 j) (atA d2 i)=false:=by
 intro i j hi hi' hj hj'
 have s1:=h1.1
 have e1:atA d2 i=atA d1 i:=h2.2.1 i (.inl hi')
 rw [e1]
 refine permIn_all d d1 a c (fun x=>lt (atA d2 j) x=false) (by omega) h1 (fun i0 q1 q2=>?_) i hi hi'
 refine permIn_all d1 d2 c b (fun x=>lt x d[i0]! = false) (by omega) h2 (fun j0 p1 p2=>?_) j hj hj'
 have e2:d1[j0]! = d[j0]!:=h1.2.1 j0 (.inr p1)
 rw [e2]
 exact h _ _ q1 q2 p1 p2
omit [Inhabited α] in
theorem so_congr {g f:Nat→α} {a b:Nat} (h:SoF lt a b g) (he:∀ x,a ≤ x→x < b→f x=g x):SoF lt a b f:=by
 intro i j hi hij hj
 rw [he j (by omega) hj,he i hi (by omega)]
 exact h i j hi hij hj
theorem sym_end {d d2 d3 d4:Array α} {a c b:Nat} (h2:PermIn a b d d2) (hr:∀ i j,a ≤ i→i < c→c ≤ j→j < b→lt (atA d2 j) (atA d2 i)=false) (h3:PermIn a c d2 d3) (s3:SoF lt a c (atA d3)) (h4:PermIn c b d3 d4) (s4:SoF lt c b (atA d4))
  (hac:a ≤ c) (hcb:c ≤ b) (hb:b ≤ d.size):PermIn a b d d4∧SoF lt a b (atA d4):=by
 have hb2:b ≤ d2.size:=by rw [h2.1];exact hb
 exact ⟨permIn_trans _ _ _ _ _ h2 (perm_two h3 h4 hac hcb hb2),so_join (so_congr s3 fun x _ hx=>h4.2.1 x (.inl hx)) s4 (perm_rel h3 h4 hac hcb hb2 hr)⟩
end
end
end Go.Proofs.Ytockodmbhnlheaa
