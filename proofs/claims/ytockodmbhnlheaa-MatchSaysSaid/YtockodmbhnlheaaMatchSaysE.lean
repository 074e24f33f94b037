/-
  THE LAW MatchSays: holds for every input, with no condition. (Joined texts: Rest.)
-/
import Derived.Test.YtockodmbhnlheaaMatchSaysD
import Derived.Test.YtockodmbhnlheaaProg
import Derived.Test.YtockodmbhnlheaaMatchSaysA
import Derived.Maps.AppendAt
import Derived.Laws.AppendOwnNone
import Derived.OwnWalk
import Derived.Test.YtockodmbhnlheaaMatchSaysC
import Derived.Deep.RegionHeld3
import Derived.Test.YtockodmbhnlheaaMatchSaysB
import Derived.Lib.AppendZeros
import Derived.Laws.CopyOwn
import Derived.Lib.AppendZerosOnto
import Derived.Lib.Overlaps
import Derived.Laws.Externs
import Derived.Deep.RegionLaw
import Derived.Maps.Own
import Derived.Maps.OwnOps
import Derived.Maps.Views
import Derived.WalkKit
import Derived.Deep.Draws
import Derived.IntWalk
import Derived.Deep.QuietTactic
import Derived.BigQuiet
import Derived.Deep.DeepCutAuto
import Derived.WalkSpells
import Derived.WalkLawsBesides
import Derived.Lib.Hide
namespace Go.Proofs.Ytockodmbhnlheaa
section
open Go.RowKit
theorem insAt_insO (o:Od):∀ (L:List Od),insO o L=insAt L ((L.findIdx? (aheadOf o)).getD L.length) o
 | []=>rfl
 | x :: l=>by
  have ih:=insAt_insO o l
  unfold insO
  rw [List.findIdx?_cons]
  by_cases h:aheadB o x=true
  ·rw [if_pos h,if_pos (show aheadOf o x=true from h)];rfl
  ·rw [if_neg h,if_neg (show ¬ aheadOf o x=true from h),ih]
   cases l.findIdx? (aheadOf o) <;> rfl
theorem idx_cases (o:Od) (L:List Od):(idxOf (aheadOf o) L = -1∧insO o L=insAt L L.length o)∨∃ k:Nat,idxOf (aheadOf o) L=k∧k ≤ L.length∧insO o L=insAt L k o:=by
 have h:=insAt_insO o L
 unfold idxOf
 cases hk:L.findIdx? (aheadOf o) with
 | none=>rw [hk] at h;exact .inl ⟨rfl,h⟩
 | some k =>
  rw [hk] at h
  refine .inr ⟨k,rfl,?_,h⟩
  rw [List.findIdx?_eq_some_iff_getElem] at hk
  exact Nat.le_of_lt hk.1
def OwnBk (w:World) (base:Nat) (v:Value) (b:Bk):Prop :=
 ∃ A c A' c',v=.agg #[.slice A b.bids.length c,.slice A' b.asks.length c']∧w.ownsRow base 71 5 (.slice A b.bids.length c) b.bids.length (odCells b.bids)∧w.ownsRow base 71 5 (.slice A' b.asks.length c') b.asks.length (odCells b.asks)
theorem ownBk_zero (w:World) (base:Nat):OwnBk w base (.agg #[.slice none 0 0,.slice none 0 0]) zeroBk:=⟨_,_,_,_,rfl,World.ownsRow_nil _ _ _ _,World.ownsRow_nil _ _ _ _⟩
def RetRest (w:World) (r:Bk × Int) (e:Ending) (w':World):Prop:=∃ v,e=.returned (.tuple #[v,.int .i64 r.2])∧OwnBk w' w.heap.size v r.1∧Below w.heap.size w w'
def mkB (b:Bk) (l:List Od):Bk:=⟨l,b.asks⟩
def mkA (b:Bk) (l:List Od):Bk:=⟨b.bids,l⟩
theorem rest_side (o:Od) (b:Bk):(o.side=1→otherOf b o.side=b.asks∧ownOf b o.side=b.bids∧∀ l,setOwn b o.side l=mkB b l)∧(o.side ≠ 1→otherOf b o.side=b.bids∧ownOf b o.side=b.asks∧∀ l,setOwn b o.side l=mkA b l):=by
 constructor
 ·intro h;exact ⟨if_pos h,if_pos h,fun l=>if_pos h⟩
 ·intro h;exact ⟨if_neg h,if_neg h,fun l=>if_neg h⟩
theorem ret_zero {r:Bk × Int} {e:Int} (hr:r=(zeroBk,e)) {w w':World} (hb:Below w.heap.size w w'):RetRest w r (.returned (.tuple #[.agg #[.slice none 0 0,.slice none 0 0],.int .i64 e])) w':=by
 subst hr;exact ⟨_,rfl,ownBk_zero _ _,hb⟩
theorem ownBk_mk {w:World} {base n n' c c':Nat} {A A':Option Addr} {L M:List Od} (h:w.ownsRow base 71 5 (.slice A n c) n (odCells L)) (h':w.ownsRow base 71 5 (.slice A' n' c') n' (odCells M)):OwnBk w base (.agg #[.slice A n c,.slice A' n' c']) ⟨L,M⟩:=by
 have e:L.length=n:=by have:=h.1;rw [odCells_len] at this;omega
 have e':M.length=n':=by have:=h'.1;rw [odCells_len] at this;omega
 subst e e'
 exact ⟨_,_,_,_,rfl,h,h'⟩
theorem ret_own {r:Bk × Int} {b':Bk} (hr:r=(b',0)) {w w':World} {v:Value} (h:OwnBk w' w.heap.size v b') (hb:Below w.heap.size w w'):RetRest w r (.returned (.tuple #[v,.int .i64 0])) w':=by
 subst hr;exact ⟨_,rfl,h,hb⟩
theorem own_only {w w':World} {base e k n:Nat} {v:Value} {xs:List Value} {b:Option Nat} (h:w.ownsRow base e k v n xs) (ho:Only w w' b) (hb:∀ g,v.ownBlock=some g→b ≠ some g):w'.ownsRow base e k v n xs:=by
 obtain ⟨hl,h | ⟨g,cap,cur,rfl,h1,h2,h3⟩⟩:=h
 ·exact ⟨hl,.inl h⟩
 ·exact ⟨hl,.inr ⟨g,cap,cur,rfl,h1,(ho g (Blk.lt h2) (fun e=>hb g rfl e.symm)).trans h2,h3⟩⟩
def curV (W:World) (a:Addr):Value:=(W.cell? a).getD undef
theorem curV_some {W:World} {a:Addr} (h:(W.cell? a).isSome=true):W.cell? a=some (curV W a):=by
 unfold curV
 cases hc:W.cell? a with
 | none=>rw [hc] at h;cases h
 | some v=>rfl
theorem own_set2 {w:World} {b b' e k n g:Nat} {v:Value} {xs:List Value} (h:w.ownsRow b e k v n xs) (hg:g < b) (hb:b' ≤ b) (x y:Value):((w.setCell ⟨g,0,none⟩ x).setCell ⟨g,1,none⟩ y).ownsRow b' e k v n xs :=
 own_mono (base:=b) (ownsRow_setCell_below (ownsRow_setCell_below h hg _) hg _) hb
theorem list_cases {α:Type} (l:List α):l = []∨∃ x t,l=x :: t:=by cases l with
 | nil=>exact .inl rfl
 | cons x t=>exact .inr ⟨x,t,rfl⟩
theorem of_buy' (g:Nat) (s:Int) (w:World) (x y:Value) (h0:w.cell? ⟨g,0,none⟩=some x) (h1:w.cell? ⟨g,1,none⟩=some y) (hs:(s == 1)=true) :
  Calls Try.prog 136 #[.pointer (some ⟨g,0,none⟩),.int .i64 s] w fun e w'=>e=.returned (.tuple #[.pointer (some ⟨g,0,none⟩),.pointer (some ⟨g,1,none⟩)])∧w'=w.drew:=by
 obtain rfl:s=1:=by simpa using hs
 exact of_buy g w x y h0 h1
set_option maxHeartbeats 2000000 in
theorem rest_bk (b:Bk) (o:Od) (A A':Option Addr) (c c' B:Nat) (w:World) (h:BkR w B A A' c c' b) (hB:B ≤ w.heap.size) (hl:b.bids.length ≤ 4000000000000) (hl':b.asks.length ≤ 4000000000000) :
  Calls Try.prog 64 #[.agg #[.slice A b.bids.length c,.slice A' b.asks.length c'],.agg #[.int .i64 o.id,.int .i64 o.acc,.int .i64 o.side,.int .i64 o.price,.int .i64 o.qty]] w (RetRest w (restOf b o)):=by
 have HE:=Lib.hid (show restOf b o=if bookErr b ≠ 0 then (zeroBk,bookErr b) else if hasB b o.id then (zeroBk,6) else if ordErr o ≠ 0 then (zeroBk,ordErr o)
  else if b.bids.length + b.asks.length=40 then (zeroBk,7) else if headCrosses o (otherOf b o.side) then (zeroBk,9) else (setOwn b o.side (insO o (ownOf b o.side)),0) from rfl)
 go_enter Try.func64,Try.ntmps64
 go_wp2_with fail
 obtain ⟨w3,hw3⟩:∃ x,x=((w.alloc (.cells #[.slice A b.bids.length c,.slice A' b.asks.length c'] 62)).alloc (.cells #[.int .i64 o.id,.int .i64 o.acc,.int .i64 o.side,.int .i64 o.price,.int .i64 o.qty] 71)).alloc (.cells #[.slice none 0 0,.slice none 0 0] 62):=⟨_,rfl⟩
 have hb3:Below w.heap.size w w3:=by rw [hw3];exact (((Below.refl _ _).alloc (Nat.le_refl _) _).alloc (by simp) _).alloc (by simp;omega) _
 have hs3:w3.heap.size=w.heap.size + 1 + 1 + 1:=by rw [hw3];simp
 have B1:Blk w3 w.heap.size 62 #[.slice A b.bids.length c,.slice A' b.asks.length c']:=by rw [hw3];exact ((Blk.new w _ _).alloc _).alloc _
 have B2:Blk w3 (w.heap.size + 1) 71 #[.int .i64 o.id,.int .i64 o.acc,.int .i64 o.side,.int .i64 o.price,.int .i64 o.qty]:=by
  have:=(Blk.new (w.alloc (.cells #[.slice A b.bids.length c,.slice A' b.asks.length c'] 62)) 71 #[.int .i64 o.id,.int .i64 o.acc,.int .i64 o.side,.int .i64 o.price,.int .i64 o.qty]).alloc (.cells #[.slice none 0 0,.slice none 0 0] 62)
  rw [World.size_alloc] at this
  rw [hw3];exact this
 have B3:Blk w3 (w.heap.size + 1 + 1) 62 #[.slice none 0 0,.slice none 0 0]:=by
  have:=Blk.new ((w.alloc (.cells #[.slice A b.bids.length c,.slice A' b.asks.length c'] 62)).alloc (.cells #[.int .i64 o.id,.int .i64 o.acc,.int .i64 o.side,.int .i64 o.price,.int .i64 o.qty] 71)) 62 #[.slice none 0 0,.slice none 0 0]
  rw [World.size_alloc,World.size_alloc] at this
  rw [hw3];exact this
 rw [← hw3]
 have hr:=h.below (hb3.mono hB)
 clear hw3
 refine (bookCheck_any b A A' c c' B w3 hr.l hr.r (by omega) hl hl').mono ?_
 rintro e w4 ⟨rfl,hb4⟩
 have hs4:=hb4.size
 have hbw4:=hb3.trans (hb4.mono (by omega))
 have C1:=B1.below hb4 (by omega)
 have C2:=B2.below hb4 (by omega)
 have C3:=B3.below hb4 (by omega)
 have hr4:=hr.below (hb4.mono (by omega))
 clear B1 B2 B3 hr hb3 hb4
 by_cases he:bookErr b=0
 ·have HE1:=Lib.hid (HE.out.trans (if_neg (by omega)))
  obtain ⟨⟨k0,k1⟩,_⟩:=C1.c2
  obtain ⟨⟨l0,l1,l2,l3,l4⟩,_⟩:=C2.c5
  obtain ⟨⟨z0,z1⟩,f0,f1⟩:=C3.c2
  have hn:b.bids.length + b.asks.length ≤ 40:=(bookErr_ok.1 he).len
  rw [he]
  clear he
  go_wp2_with fail
  refine (has_bk b o.id A A' c c' B w4 hr4 (by omega) (by omega)).mono ?_
  rintro e w5 ⟨rfl,hb5⟩
  have hs5:=hb5.size
  have hbw5:=hbw4.trans (hb5.mono (by omega))
  have D1:=C1.below hb5 (by omega)
  have D2:=C2.below hb5 (by omega)
  have D3:=C3.below hb5 (by omega)
  have hr5:=hr4.below (hb5.mono (by omega))
  clear C1 C2 C3 hr4 hb5 hbw4 k0 k1 l0 l1 l2 l3 l4 z0 z1 f0 f1
  rcases bool_cs (hasB b o.id) with hp | hp
  rotate_left
  ·have HE2:=Lib.hid (show restOf b o=(zeroBk,6) by rw [HE1.out,if_pos hp])
   rw [hp]
   obtain ⟨⟨z0,z1⟩,f0,f1⟩:=D3.c2
   clear hp
   go_wp2_with fail
   refine bodyPost_ret (v:=.tuple #[.agg #[.slice none 0 0,.slice none 0 0],.int .i64 (6)]) (by simp [results,Try.results64,go_sem, *]) rfl ?_
   exact ret_zero HE2.out (Below.setCell (Below.setCell hbw5 (by dsimp only;omega) _) (by dsimp only;omega) _)
  ·have HE2:=Lib.hid (HE1.out.trans (if_neg (by rw [hp];exact Bool.false_ne_true)))
   rw [hp]
   clear hp HE1
   obtain ⟨⟨k0,k1⟩,_⟩:=D1.c2
   obtain ⟨⟨l0,l1,l2,l3,l4⟩,_⟩:=D2.c5
   go_wp2_with fail
   refine (ordErr_any o w5).mono ?_
   rintro e w6 ⟨rfl,hb6⟩
   have hs6:=hb6.size
   have hbw6:=hbw5.trans (hb6.mono (by omega))
   have E1:=D1.below hb6 (by omega)
   have E2:=D2.below hb6 (by omega)
   have E3:=D3.below hb6 (by omega)
   have hr6:=hr5.below (hb6.mono (by omega))
   clear D1 D2 D3 hr5 hb6 hbw5 k0 k1 l0 l1 l2 l3 l4
   obtain ⟨⟨k0,k1⟩,_⟩:=E1.c2
   obtain ⟨⟨z0,z1⟩,f0,f1⟩:=E3.c2
   by_cases ho:ordErr o=0
   rotate_left
   ·have HE3:=Lib.hid (HE2.out.trans (if_pos ho))
    have ho':(ordErr o != 0)=true:=by simpa using ho
    clear ho HE2 HE
    go_wp2_with fail
    refine bodyPost_ret (v:=.tuple #[.agg #[.slice none 0 0,.slice none 0 0],.int .i64 (ordErr o)]) (by simp [results,Try.results64,go_sem, *]) rfl ?_
    exact ret_zero HE3.out (Below.setCell (Below.setCell hbw6 (by dsimp only;omega) _) (by dsimp only;omega) _)
   ·have HE3:=Lib.hid (HE2.out.trans (if_neg (by omega)))
    have HO:=Lib.hid (ordErr_ok.1 ho)
    rw [ho]
    clear ho HE2 HE
    by_cases h40:b.bids.length + b.asks.length=40
    ·have HE4:=Lib.hid (HE3.out.trans (if_pos h40))
     have h40':(b.bids.length:Int) + (b.asks.length:Int)=40:=by omega
     clear h40 HE3
     go_wp2_with fail
     refine bodyPost_ret (v:=.tuple #[.agg #[.slice none 0 0,.slice none 0 0],.int .i64 (7)]) (by simp [results,Try.results64,go_sem, *]) rfl ?_
     exact ret_zero HE4.out (Below.setCell (Below.setCell hbw6 (by dsimp only;omega) _) (by dsimp only;omega) _)
    ·have HE4:=Lib.hid (HE3.out.trans (if_neg h40))
     have h40':¬ ((b.bids.length:Int) + (b.asks.length:Int)=40):=by omega
     clear h40 HE3
     go_wp2_with fail
     refine (copy_bk b A A' c c' B w6 hr6 (by omega) (by omega) (by omega)).mono ?_
     rintro e w7 ⟨v1,v2,rfl,hv1,hv2,hd12,hb7⟩
     obtain ⟨P1,p1,rfl⟩:=own_shape hv1
     obtain ⟨P2,p2,rfl⟩:=own_shape hv2
     have hs7:=hb7.size
     have hbw7:=hbw6.trans (hb7.mono (by omega))
     have F1:=E1.below hb7 (by omega)
     have F2:=E2.below hb7 (by omega)
     have F3:=E3.below hb7 (by omega)
     clear E1 E2 E3 hb7 hbw6 k0 k1 z0 z1 f0 f1 h40'
     obtain ⟨⟨k0,k1⟩,kf0,kf1⟩:=F1.c2
     obtain ⟨⟨l0,l1,l2,l3,l4⟩,_⟩:=F2.c5
     obtain ⟨w8,hw8⟩:∃ x,x=(w7.setCell ⟨w.heap.size,0,none⟩ (.slice P1 b.bids.length p1)).setCell ⟨w.heap.size,1,none⟩ (.slice P2 b.asks.length p2):=⟨_,rfl⟩
     have hs8:w8.heap.size=w7.heap.size:=by rw [hw8];simp
     have G1:Blk w8 w.heap.size 62 #[.slice P1 b.bids.length p1,.slice P2 b.asks.length p2]:=by rw [hw8];exact (F1.set_ 0 _).set_ 1 _
     have G2:Blk w8 (w.heap.size + 1) 71 #[.int .i64 o.id,.int .i64 o.acc,.int .i64 o.side,.int .i64 o.price,.int .i64 o.qty]:=by rw [hw8];exact (F2.far (by simp) _).far (by simp) _
     have G3:Blk w8 (w.heap.size + 1 + 1) 62 #[.slice none 0 0,.slice none 0 0]:=by rw [hw8];exact (F3.far (by simp;omega) _).far (by simp;omega) _
     have R1:w8.ownsRow w6.heap.size 71 5 (.slice P1 b.bids.length p1) b.bids.length (odCells b.bids):=by rw [hw8];exact ownsRow_setCell_below (ownsRow_setCell_below hv1 (by dsimp only;omega) _) (by dsimp only;omega) _
     have R2:w8.ownsRow w6.heap.size 71 5 (.slice P2 b.asks.length p2) b.asks.length (odCells b.asks):=by rw [hw8];exact ownsRow_setCell_below (ownsRow_setCell_below hv2 (by dsimp only;omega) _) (by dsimp only;omega) _
     have hbw8:Below w.heap.size w w8:=by rw [hw8];exact Below.setCell (Below.setCell hbw7 (Nat.le_refl _) _) (Nat.le_refl _) _
     have HW8:=Lib.hid hw8
     clear hv1 hv2 hbw7 hw8 F3
     have HX:=Lib.hid (rest_side o b)
     clear k0 k1 kf0 kf1 l0 l1 l2 l3 l4
     by_cases hsd:o.side=1
     ·have hs1:(o.side == 1)=true:=by simpa using hsd
      have HY:=Lib.hid (HX.out.1 hsd)
      clear hsd HX
      obtain ⟨⟨k0,k1⟩,kf0,kf1⟩:=F1.c2
      obtain ⟨⟨l0,l1,l2,l3,l4⟩,_⟩:=F2.c5
      obtain ⟨⟨m0,m1⟩,_⟩:=G1.c2
      go_wp2_with fail
      rw [← HW8.out]
      refine (of_buy' w.heap.size o.side w8 _ _ m0 m1 hs1).mono ?_
      rintro e w9 ⟨rfl,hw9⟩
      have hs9:w9.heap.size=w8.heap.size:=by rw [hw9];rfl
      have N1:Blk w9 w.heap.size 62 #[.slice P1 b.bids.length p1,.slice P2 b.asks.length p2]:=by rw [hw9];exact G1
      have N2:Blk w9 (w.heap.size + 1) 71 #[.int .i64 o.id,.int .i64 o.acc,.int .i64 o.side,.int .i64 o.price,.int .i64 o.qty]:=by rw [hw9];exact G2
      have N3:Blk w9 (w.heap.size + 1 + 1) 62 #[.slice none 0 0,.slice none 0 0]:=by rw [hw9];exact G3
      have S1:w9.ownsRow w6.heap.size 71 5 (.slice P1 b.bids.length p1) b.bids.length (odCells b.bids):=by rw [hw9];exact own_drewN R1 1
      have S2:w9.ownsRow w6.heap.size 71 5 (.slice P2 b.asks.length p2) b.asks.length (odCells b.asks):=by rw [hw9];exact own_drewN R2 1
      have hbw9:Below w.heap.size w w9:=by rw [hw9];exact below_drewN hbw8 1
      clear k0 k1 kf0 kf1 l0 l1 l2 l3 l4 m0 m1 G1 G2 G3 R1 R2 hbw8 hw9 HW8
      obtain ⟨⟨k0,k1⟩,kf0,kf1⟩:=N1.c2
      obtain ⟨⟨l0,l1,l2,l3,l4⟩,_⟩:=N2.c5
      obtain ⟨⟨z0,z1⟩,f0,f1⟩:=N3.c2
      obtain ⟨n1,hn1⟩:∃ n,n=b.bids.length:=⟨_,rfl⟩
      obtain ⟨n2,hn2⟩:∃ n,n=b.asks.length:=⟨_,rfl⟩
      rw [← hn1] at S1
      rw [← hn2] at S2
      rw [← hn1,← hn2] at N1 hn
      rw [← hn1] at k0
      rw [← hn2] at k1
      rw [← hn1,← hn2]
      have HPL:=Lib.hid (show ∀ W,Below w9.heap.size w9 W→W.ownsRow w6.heap.size 71 5 (.slice P1 n1 p1) n1 (odCells b.bids)∧W.ownsRow w6.heap.size 71 5 (.slice P2 n2 p2) n2 (odCells b.asks) from fun W hW=>⟨own_below S1 hW (Nat.le_refl _),own_below S2 hW (Nat.le_refl _)⟩)
      have HD:=Lib.hid (show ∀ k,(Value.slice P1 n1 p1).ownBlock=some k→(Value.slice P2 n2 p2).ownBlock ≠ some k by rw [hn1,hn2];exact hd12)
      have HN1:=Lib.hid hn1
      have HN2:=Lib.hid hn2
      have rX:=Rd.of_own S2
      clear S1 S2 hn1 hn2 hd12
      rcases list_cases (b.asks) with hLX | ⟨x,LT,hLX⟩
      ·have HE5:=Lib.hid (show restOf b o=(setOwn b o.side (insO o (ownOf b o.side)),0) by rw [HE4.out,HY.out.1,hLX];rfl)
       obtain rfl:n2=0:=by have:=HN2.out;rw [hLX] at this;exact this
       clear hLX rX HE4
       go_wp2_with fail
       go_region
       obtain ⟨Wt,hWt⟩:∃ x,x=w9.drew:=⟨_,rfl⟩
       rw [← hWt]
       have HT:Below w9.heap.size w9 Wt:=by rw [hWt];exact below_drewN (Below.refl _ _) 1
       clear hWt k0 k1 l0 l1 l2 l3 l4 z0 z1 f0 f1 kf0 kf1
       have hsT:=HT.size
       obtain ⟨T1,T2⟩:=HPL.out _ HT
       have M1:=N1.below HT (by omega)
       have M2:=N2.below HT (by omega)
       have M3:=N3.below HT (by omega)
       have hbT:=hbw9.trans (HT.mono (by omega))
       clear N1 N2 N3 HPL hbw9
       obtain ⟨⟨k0,k1⟩,_⟩:=M1.c2
       obtain ⟨⟨l0,l1,l2,l3,l4⟩,_⟩:=M2.c5
       go_wp2_with fail
       refine (idx_rest P1 n1 p1 b.bids o (w.heap.size + 1) _ _ (Rd.of_own T1) (Nat.le_refl _) (by omega) ⟨l0,l1,l2,l3,l4⟩).mono ?_
       rintro e wi ⟨rfl,hbi⟩
       have hsi:=hbi.size
       have U1:=own_below T1 hbi (Nat.le_refl _)
       have U2:=own_below T2 hbi (Nat.le_refl _)
       have Q1:=M1.below hbi (by omega)
       have Q2:=M2.below hbi (by omega)
       have Q3:=M3.below hbi (by omega)
       have hbI:=hbT.trans (hbi.mono (by omega))
       clear T1 T2 M1 M2 M3 hbT hbi k0 k1 l0 l1 l2 l3 l4
       obtain ⟨⟨k0,k1⟩,kf0,kf1⟩:=Q1.c2
       obtain ⟨⟨l0,l1,l2,l3,l4⟩,_⟩:=Q2.c5
       have HO':=Lib.hid U1
       have HX':=Lib.hid U2
       have hlO:(b.bids).length=n1:=by have:=(U1).1;rw [odCells_len] at this;omega
       clear U1 U2
       rcases idx_cases o (b.bids) with ⟨hi,hins⟩ | ⟨K,hi,hK,hins⟩
       ·rw [hi]
        rw [hlO] at hins
        have hKn:n1 ≤ n1:=Nat.le_refl _
        have HF:=Lib.hid (show restOf b o=(mkB b (insAt (b.bids) n1 o),0) by rw [HE5.out,HY.out.2.1,hins,HY.out.2.2])
        clear hi hins hlO HY
        have hz6:w.heap.size + 3 ≤ w6.heap.size:=by omega
        have hz7:w6.heap.size ≤ wi.heap.size:=by omega
        have hz8:w.heap.size < wi.heap.size:=by omega
        have hz9:w.heap.size + 1 < wi.heap.size:=by omega
        have hb66:Below w6.heap.size wi wi:=Below.refl _ _
        have KS2:Hid (∀ W,Below w6.heap.size wi W→Below w.heap.size w W∧W.frozen? ⟨w.heap.size,0,none⟩=false∧W.cell? ⟨w.heap.size,0,none⟩=some (curV W ⟨w.heap.size,0,none⟩)∧(W.cell? ⟨w.heap.size + 1,0,none⟩=some (.int .i64 o.id)∧W.cell? ⟨w.heap.size + 1,1,none⟩=some (.int .i64 o.acc)∧W.cell? ⟨w.heap.size + 1,2,none⟩=some (.int .i64 o.side)∧W.cell? ⟨w.heap.size + 1,3,none⟩=some (.int .i64 o.price)∧W.cell? ⟨w.heap.size + 1,4,none⟩=some (.int .i64 o.qty))):=by
         intro W hW
         exact ⟨hbI.trans (hW.mono (by omega)),(Q1.below hW (by omega)).frozen 0,curV_some (by rw [(Q1.below hW (by omega)).cell 0];rfl),(Q2.below hW (by omega)).c5.1⟩
        have KT2:Hid (∀ W v,Below w6.heap.size wi W→Below w.heap.size w (W.setCell ⟨w.heap.size,0,none⟩ v)∧(W.setCell ⟨w.heap.size,0,none⟩ v).frozen? ⟨w.heap.size,0,none⟩=false∧(W.setCell ⟨w.heap.size,0,none⟩ v).cell? ⟨w.heap.size,0,none⟩=some (curV (W.setCell ⟨w.heap.size,0,none⟩ v) ⟨w.heap.size,0,none⟩)∧((W.setCell ⟨w.heap.size,0,none⟩ v).cell? ⟨w.heap.size + 1,0,none⟩=some (.int .i64 o.id)∧(W.setCell ⟨w.heap.size,0,none⟩ v).cell? ⟨w.heap.size + 1,1,none⟩=some (.int .i64 o.acc)∧(W.setCell ⟨w.heap.size,0,none⟩ v).cell? ⟨w.heap.size + 1,2,none⟩=some (.int .i64 o.side)∧(W.setCell ⟨w.heap.size,0,none⟩ v).cell? ⟨w.heap.size + 1,3,none⟩=some (.int .i64 o.price)∧(W.setCell ⟨w.heap.size,0,none⟩ v).cell? ⟨w.heap.size + 1,4,none⟩=some (.int .i64 o.qty))):=by
         intro W v hW
         exact ⟨Below.setCell (hbI.trans (hW.mono (by omega))) (Nat.le_refl _) _,((Q1.below hW (by omega)).set_ 0 v).frozen 0,curV_some (by rw [((Q1.below hW (by omega)).set_ 0 v).cell 0];rfl),((Q2.below hW (by omega)).far (by simp) v).c5.1⟩
        have KA:Hid (∀ ob,Below w6.heap.size wi (wi.alloc ob).drew):=fun ob=>below_drewN ((Below.refl _ _).alloc hz7 ob) 1
        have KD:Hid (Below w6.heap.size wi wi.drew):=below_drewN (Below.refl _ _) 1
        have HVB:Hid (Blk ((wi.alloc (.cells #[.int .i64 o.id,.int .i64 o.acc,.int .i64 o.side,.int .i64 o.price,.int .i64 o.qty] 71)).drew) wi.heap.size 71 #[.int .i64 o.id,.int .i64 o.acc,.int .i64 o.side,.int .i64 o.price,.int .i64 o.qty]):=Blk.new wi _ _
        have hal:Below wi.heap.size wi ((wi.alloc (.cells #[.int .i64 o.id,.int .i64 o.acc,.int .i64 o.side,.int .i64 o.price,.int .i64 o.qty] 71)).drew):=below_drewN ((Below.refl wi.heap.size wi).alloc (Nat.le_refl _) _) 1
        have HOA:=Lib.hid (own_below HO'.out hal (Nat.le_refl _))
        have HXA:=Lib.hid (own_below HX'.out hal (Nat.le_refl _))
        have HNE:Hid ((Value.slice P1 n1 p1).ownBlock ≠ some wi.heap.size):=fun e=>by have:=(World.ownsRow.lt HO'.out _ e).2;omega
        have HHZ:Hid (w6.heap.size ≤ ((wi.alloc (.cells #[.int .i64 o.id,.int .i64 o.acc,.int .i64 o.side,.int .i64 o.price,.int .i64 o.qty] 71)).drew).heap.size):=Nat.le_trans hz7 hal.size
        have hcv:curV wi.drew ⟨w.heap.size,0,none⟩=.slice P1 n1 p1:=by unfold curV;rw [show wi.drew.cell? ⟨w.heap.size,0,none⟩=some (.slice P1 n1 p1) from Q1.cell 0];rfl
        have hcv2:curV ((wi.alloc (.cells #[.int .i64 o.id,.int .i64 o.acc,.int .i64 o.side,.int .i64 o.price,.int .i64 o.qty] 71)).drew) ⟨w.heap.size,0,none⟩=.slice P1 n1 p1:=by
         unfold curV;rw [show ((wi.alloc (.cells #[.int .i64 o.id,.int .i64 o.acc,.int .i64 o.side,.int .i64 o.price,.int .i64 o.qty] 71)).drew).cell? ⟨w.heap.size,0,none⟩=some (.slice P1 n1 p1) from (Q1.below hal (by omega)).cell 0];rfl
        have WN:Hid (∀ W,Below w6.heap.size wi W→W.frozen? ⟨w.heap.size,0,none⟩=false∧W.cell? ⟨w.heap.size,0,none⟩=some (.slice P1 n1 p1)):=fun W hW=>⟨(Q1.below hW (by omega)).frozen 0,by rw [(Q1.below hW (by omega)).cell 0];rfl⟩
        have HCV2:=Lib.hid hcv2
        have HCV:=Lib.hid hcv
        clear hal hb66 hcv hcv2
        go_wp2_with fail
        go_region_with ((go_at_call 140;(with_reducible refine (insert_od w6.heap.size (.slice P1 n1 p1) n1 n1 (b.bids) o wi.heap.size 1 71 _ HOA.out HHZ.out HVB.out (Nat.le_refl _) (by simp only [maxLen];omega) HNE.out (by omega) (by omega)).mono ?_);rintro e Wn ⟨v',rfl,hown',hbl',honly'⟩;obtain ⟨PN,pN,rfl⟩:=own_shape hown';have hB':=(KA.out _).trans hbl';have hf':=WN.out _ hB'))
        all_goals
         have HBN:=Lib.hid hB'
         have HON:=Lib.hid hown'
         have HXN:=Lib.hid (own_only HXA.out honly' (fun g h e=>HD.out _ e h))
         clear hB' hown' honly' hbl'
         obtain ⟨Wf,hWf⟩:∃ x,x=Wn.setCell ⟨w.heap.size,0,none⟩ (.slice PN (n1 + 1) pN):=⟨_,rfl⟩
         rw [← hWf]
         have X1:Blk Wf w.heap.size 62 #[(.slice PN (n1 + 1) pN),(.slice P2 0 p2)]:=by rw [hWf];exact (Q1.below HBN.out (by omega)).set_ 0 _
         have X3:Blk Wf (w.heap.size + 1 + 1) 62 #[.slice none 0 0,.slice none 0 0]:=by rw [hWf];exact (Q3.below HBN.out (by omega)).far (by simp;omega) _
         have HR0:=Lib.hid (show Wf.ownsRow w6.heap.size 71 5 (.slice PN (n1 + 1) pN) (n1 + 1) (odCells (insAt (b.bids) n1 o)) by rw [hWf];exact ownsRow_setCell_below HON.out (by dsimp only;omega) _)
         have HR1:=Lib.hid (ownsRow_setCell_below HXN.out (show (⟨w.heap.size,0,none⟩:Addr).block < w6.heap.size by dsimp only;omega) (.slice PN (n1 + 1) pN))
         rw [← hWf] at HR1
         have hbf:Below w.heap.size w Wf:=by rw [hWf];exact Below.setCell (hbI.trans (HBN.out.mono (by omega))) (Nat.le_refl _) _
         clear KS2 KT2 KA KD HVB HOA HXA HNE HHZ k0 k1 kf0 kf1 l0 l1 l2 l3 l4 hWf
         obtain ⟨⟨k0,k1⟩,_⟩:=X1.c2
         obtain ⟨⟨z0,z1⟩,f0,f1⟩:=X3.c2
         go_wp2_with fail
         refine bodyPost_ret (v:=.tuple #[.agg #[(.slice PN (n1 + 1) pN),(.slice P2 0 p2)],.int .i64 0]) (by simp [results,Try.results64,go_sem, *]) rfl ?_
         refine ret_own HF.out (ownBk_mk (own_set2 HR0.out (by omega) (by omega) _ _) (own_set2 HR1.out (by omega) (by omega) _ _)) (Below.setCell (Below.setCell hbf (by dsimp only;omega) _) (by dsimp only;omega) _)
       ·rw [hi]
        rw [hlO] at hK
        have HF:=Lib.hid (show restOf b o=(mkB b (insAt (b.bids) K o),0) by rw [HE5.out,HY.out.2.1,hins,HY.out.2.2])
        clear hi hins hlO HY
        have hz6:w.heap.size + 3 ≤ w6.heap.size:=by omega
        have hz7:w6.heap.size ≤ wi.heap.size:=by omega
        have hz8:w.heap.size < wi.heap.size:=by omega
        have hz9:w.heap.size + 1 < wi.heap.size:=by omega
        have hb66:Below w6.heap.size wi wi:=Below.refl _ _
        have KS2:Hid (∀ W,Below w6.heap.size wi W→Below w.heap.size w W∧W.frozen? ⟨w.heap.size,0,none⟩=false∧W.cell? ⟨w.heap.size,0,none⟩=some (curV W ⟨w.heap.size,0,none⟩)∧(W.cell? ⟨w.heap.size + 1,0,none⟩=some (.int .i64 o.id)∧W.cell? ⟨w.heap.size + 1,1,none⟩=some (.int .i64 o.acc)∧W.cell? ⟨w.heap.size + 1,2,none⟩=some (.int .i64 o.side)∧W.cell? ⟨w.heap.size + 1,3,none⟩=some (.int .i64 o.price)∧W.cell? ⟨w.heap.size + 1,4,none⟩=some (.int .i64 o.qty))):=by
         intro W hW
         exact ⟨hbI.trans (hW.mono (by omega)),(Q1.below hW (by omega)).frozen 0,curV_some (by rw [(Q1.below hW (by omega)).cell 0];rfl),(Q2.below hW (by omega)).c5.1⟩
        have KT2:Hid (∀ W v,Below w6.heap.size wi W→Below w.heap.size w (W.setCell ⟨w.heap.size,0,none⟩ v)∧(W.setCell ⟨w.heap.size,0,none⟩ v).frozen? ⟨w.heap.size,0,none⟩=false∧(W.setCell ⟨w.heap.size,0,none⟩ v).cell? ⟨w.heap.size,0,none⟩=some (curV (W.setCell ⟨w.heap.size,0,none⟩ v) ⟨w.heap.size,0,none⟩)∧((W.setCell ⟨w.heap.size,0,none⟩ v).cell? ⟨w.heap.size + 1,0,none⟩=some (.int .i64 o.id)∧(W.setCell ⟨w.heap.size,0,none⟩ v).cell? ⟨w.heap.size + 1,1,none⟩=some (.int .i64 o.acc)∧(W.setCell ⟨w.heap.size,0,none⟩ v).cell? ⟨w.heap.size + 1,2,none⟩=some (.int .i64 o.side)∧(W.setCell ⟨w.heap.size,0,none⟩ v).cell? ⟨w.heap.size + 1,3,none⟩=some (.int .i64 o.price)∧(W.setCell ⟨w.heap.size,0,none⟩ v).cell? ⟨w.heap.size + 1,4,none⟩=some (.int .i64 o.qty))):=by
         intro W v hW
         exact ⟨Below.setCell (hbI.trans (hW.mono (by omega))) (Nat.le_refl _) _,((Q1.below hW (by omega)).set_ 0 v).frozen 0,curV_some (by rw [((Q1.below hW (by omega)).set_ 0 v).cell 0];rfl),((Q2.below hW (by omega)).far (by simp) v).c5.1⟩
        have KA:Hid (∀ ob,Below w6.heap.size wi (wi.alloc ob).drew):=fun ob=>below_drewN ((Below.refl _ _).alloc hz7 ob) 1
        have KD:Hid (Below w6.heap.size wi wi.drew):=below_drewN (Below.refl _ _) 1
        have HVB:Hid (Blk ((wi.alloc (.cells #[.int .i64 o.id,.int .i64 o.acc,.int .i64 o.side,.int .i64 o.price,.int .i64 o.qty] 71)).drew) wi.heap.size 71 #[.int .i64 o.id,.int .i64 o.acc,.int .i64 o.side,.int .i64 o.price,.int .i64 o.qty]):=Blk.new wi _ _
        have hal:Below wi.heap.size wi ((wi.alloc (.cells #[.int .i64 o.id,.int .i64 o.acc,.int .i64 o.side,.int .i64 o.price,.int .i64 o.qty] 71)).drew):=below_drewN ((Below.refl wi.heap.size wi).alloc (Nat.le_refl _) _) 1
        have HOA:=Lib.hid (own_below HO'.out hal (Nat.le_refl _))
        have HXA:=Lib.hid (own_below HX'.out hal (Nat.le_refl _))
        have HNE:Hid ((Value.slice P1 n1 p1).ownBlock ≠ some wi.heap.size):=fun e=>by have:=(World.ownsRow.lt HO'.out _ e).2;omega
        have HHZ:Hid (w6.heap.size ≤ ((wi.alloc (.cells #[.int .i64 o.id,.int .i64 o.acc,.int .i64 o.side,.int .i64 o.price,.int .i64 o.qty] 71)).drew).heap.size):=Nat.le_trans hz7 hal.size
        have hcv:curV wi.drew ⟨w.heap.size,0,none⟩=.slice P1 n1 p1:=by unfold curV;rw [show wi.drew.cell? ⟨w.heap.size,0,none⟩=some (.slice P1 n1 p1) from Q1.cell 0];rfl
        have hcv2:curV ((wi.alloc (.cells #[.int .i64 o.id,.int .i64 o.acc,.int .i64 o.side,.int .i64 o.price,.int .i64 o.qty] 71)).drew) ⟨w.heap.size,0,none⟩=.slice P1 n1 p1:=by
         unfold curV;rw [show ((wi.alloc (.cells #[.int .i64 o.id,.int .i64 o.acc,.int .i64 o.side,.int .i64 o.price,.int .i64 o.qty] 71)).drew).cell? ⟨w.heap.size,0,none⟩=some (.slice P1 n1 p1) from (Q1.below hal (by omega)).cell 0];rfl
        have WN:Hid (∀ W,Below w6.heap.size wi W→W.frozen? ⟨w.heap.size,0,none⟩=false∧W.cell? ⟨w.heap.size,0,none⟩=some (.slice P1 n1 p1)):=fun W hW=>⟨(Q1.below hW (by omega)).frozen 0,by rw [(Q1.below hW (by omega)).cell 0];rfl⟩
        have HCV2:=Lib.hid hcv2
        have HCV:=Lib.hid hcv
        clear hal hb66 hcv hcv2
        go_wp2_with fail
        go_region_with ((go_at_call 140;(with_reducible refine (insert_od w6.heap.size (.slice P1 n1 p1) n1 K (b.bids) o wi.heap.size 1 71 _ HOA.out HHZ.out HVB.out (Nat.le_refl _) (by simp only [maxLen];omega) HNE.out (by omega) (by omega)).mono ?_);rintro e Wn ⟨v',rfl,hown',hbl',honly'⟩;obtain ⟨PN,pN,rfl⟩:=own_shape hown';have hB':=(KA.out _).trans hbl';have hf':=WN.out _ hB'))
        all_goals
         have HBN:=Lib.hid hB'
         have HON:=Lib.hid hown'
         have HXN:=Lib.hid (own_only HXA.out honly' (fun g h e=>HD.out _ e h))
         clear hB' hown' honly' hbl'
         obtain ⟨Wf,hWf⟩:∃ x,x=Wn.setCell ⟨w.heap.size,0,none⟩ (.slice PN (n1 + 1) pN):=⟨_,rfl⟩
         rw [← hWf]
         have X1:Blk Wf w.heap.size 62 #[(.slice PN (n1 + 1) pN),(.slice P2 0 p2)]:=by rw [hWf];exact (Q1.below HBN.out (by omega)).set_ 0 _
         have X3:Blk Wf (w.heap.size + 1 + 1) 62 #[.slice none 0 0,.slice none 0 0]:=by rw [hWf];exact (Q3.below HBN.out (by omega)).far (by simp;omega) _
         have HR0:=Lib.hid (show Wf.ownsRow w6.heap.size 71 5 (.slice PN (n1 + 1) pN) (n1 + 1) (odCells (insAt (b.bids) K o)) by rw [hWf];exact ownsRow_setCell_below HON.out (by dsimp only;omega) _)
         have HR1:=Lib.hid (ownsRow_setCell_below HXN.out (show (⟨w.heap.size,0,none⟩:Addr).block < w6.heap.size by dsimp only;omega) (.slice PN (n1 + 1) pN))
         rw [← hWf] at HR1
         have hbf:Below w.heap.size w Wf:=by rw [hWf];exact Below.setCell (hbI.trans (HBN.out.mono (by omega))) (Nat.le_refl _) _
         clear KS2 KT2 KA KD HVB HOA HXA HNE HHZ k0 k1 kf0 kf1 l0 l1 l2 l3 l4 hWf
         obtain ⟨⟨k0,k1⟩,_⟩:=X1.c2
         obtain ⟨⟨z0,z1⟩,f0,f1⟩:=X3.c2
         go_wp2_with fail
         refine bodyPost_ret (v:=.tuple #[.agg #[(.slice PN (n1 + 1) pN),(.slice P2 0 p2)],.int .i64 0]) (by simp [results,Try.results64,go_sem, *]) rfl ?_
         refine ret_own HF.out (ownBk_mk (own_set2 HR0.out (by omega) (by omega) _ _) (own_set2 HR1.out (by omega) (by omega) _ _)) (Below.setCell (Below.setCell hbf (by dsimp only;omega) _) (by dsimp only;omega) _)
      ·obtain ⟨m,rfl⟩:∃ m,n2=m + 1:=⟨LT.length,by have:=HN2.out;rw [hLX] at this;exact this⟩
       obtain ⟨bx,ox,x',rfl,hbx,hx,x0,x1,x2,x3,x4⟩:=od_at rX (Nat.succ_pos m)
       obtain rfl:x'=x:=by rw [hLX] at hx;simpa using hx.symm
       have HE5:=Lib.hid (show restOf b o=if crossesB o x'.price then (zeroBk,9) else (setOwn b o.side (insO o (ownOf b o.side)),0) by rw [HE4.out,HY.out.1,hLX];rfl)
       simp only [Nat.zero_mul,Nat.add_zero] at x0 x1 x2 x3 x4
       clear hLX rX hx HE4
       have KS:Hid (∀ W,Below w9.heap.size w9 W→Below w9.heap.size w9 W∧(W.cell? ⟨w.heap.size,0,none⟩=some (.slice P1 n1 p1)∧W.cell? ⟨w.heap.size,1,none⟩=some (.slice (some ⟨bx,ox,none⟩) (m + 1) p2)) ∧
        (W.cell? ⟨w.heap.size + 1,0,none⟩=some (.int .i64 o.id)∧W.cell? ⟨w.heap.size + 1,1,none⟩=some (.int .i64 o.acc)∧W.cell? ⟨w.heap.size + 1,2,none⟩=some (.int .i64 o.side)∧W.cell? ⟨w.heap.size + 1,3,none⟩=some (.int .i64 o.price)∧W.cell? ⟨w.heap.size + 1,4,none⟩=some (.int .i64 o.qty)) ∧
        (W.cell? ⟨bx,ox,none⟩=some (.int .i64 x'.id)∧W.cell? ⟨bx,ox + 1,none⟩=some (.int .i64 x'.acc)∧W.cell? ⟨bx,ox + 2,none⟩=some (.int .i64 x'.side)∧W.cell? ⟨bx,ox + 3,none⟩=some (.int .i64 x'.price)∧W.cell? ⟨bx,ox + 4,none⟩=some (.int .i64 x'.qty))):=by
        intro W hW
        exact ⟨hW,(N1.below hW (by omega)).c2.1,(N2.below hW (by omega)).c5.1,(hW.cell (p:=⟨bx,_,none⟩) hbx).trans x0,(hW.cell (p:=⟨bx,_,none⟩) hbx).trans x1,(hW.cell (p:=⟨bx,_,none⟩) hbx).trans x2,(hW.cell (p:=⟨bx,_,none⟩) hbx).trans x3,(hW.cell (p:=⟨bx,_,none⟩) hbx).trans x4⟩
       have h99:Below w9.heap.size w9 w9:=Below.refl _ _
       go_wp2_with fail
       go_region_held3 (fun W=>Below w9.heap.size w9 W∧(W.cell? ⟨w.heap.size,0,none⟩=some (.slice P1 n1 p1)∧W.cell? ⟨w.heap.size,1,none⟩=some (.slice (some ⟨bx,ox,none⟩) (m + 1) p2)) ∧
        (W.cell? ⟨w.heap.size + 1,0,none⟩=some (.int .i64 o.id)∧W.cell? ⟨w.heap.size + 1,1,none⟩=some (.int .i64 o.acc)∧W.cell? ⟨w.heap.size + 1,2,none⟩=some (.int .i64 o.side)∧W.cell? ⟨w.heap.size + 1,3,none⟩=some (.int .i64 o.price)∧W.cell? ⟨w.heap.size + 1,4,none⟩=some (.int .i64 o.qty)) ∧
        (W.cell? ⟨bx,ox,none⟩=some (.int .i64 x'.id)∧W.cell? ⟨bx,ox + 1,none⟩=some (.int .i64 x'.acc)∧W.cell? ⟨bx,ox + 2,none⟩=some (.int .i64 x'.side)∧W.cell? ⟨bx,ox + 3,none⟩=some (.int .i64 x'.price)∧W.cell? ⟨bx,ox + 4,none⟩=some (.int .i64 x'.qty)))
        (first | (exact KS.out _ (by assumption)) | (exact KS.out _ (below_drew (by assumption))))
        ((first | (go_at_call 137;go_split_ands;(with_reducible refine (crosses_any o x'.price _).mono ?_);rintro e W' ⟨rfl,hb⟩;have hB:=below_next hb (by assumption))))
       go_split_ands
       have HT:Below w9.heap.size w9 W':=by assumption
       rcases bool_cs (crossesB o x'.price) with hp | hp
       rotate_left
       ·have HE6:=Lib.hid (HE5.out.trans (if_pos hp))
        rw [hp]
        obtain ⟨⟨y0,y1⟩,g0,g1⟩:=(N3.below HT (by omega)).c2
        have hbT:=hbw9.trans (HT.mono (by omega))
        clear KS k0 k1 l0 l1 l2 l3 l4 x0 x1 x2 x3 x4 z0 z1 f0 f1 kf0 kf1
        go_wp2_with fail
        refine bodyPost_ret (v:=.tuple #[.agg #[.slice none 0 0,.slice none 0 0],.int .i64 (9)]) (by simp [results,Try.results64,go_sem, *]) rfl ?_
        exact ret_zero HE6.out (Below.setCell (Below.setCell hbT (by dsimp only;omega) _) (by dsimp only;omega) _)
       ·have HE5:=Lib.hid (HE5.out.trans (if_neg (by rw [hp];exact Bool.false_ne_true)))
        rw [hp]
        clear KS k0 k1 l0 l1 l2 l3 l4 x0 x1 x2 x3 x4 z0 z1 f0 f1 kf0 kf1
        have hsT:=HT.size
        obtain ⟨T1,T2⟩:=HPL.out _ HT
        have M1:=N1.below HT (by omega)
        have M2:=N2.below HT (by omega)
        have M3:=N3.below HT (by omega)
        have hbT:=hbw9.trans (HT.mono (by omega))
        clear N1 N2 N3 HPL hbw9
        obtain ⟨⟨k0,k1⟩,_⟩:=M1.c2
        obtain ⟨⟨l0,l1,l2,l3,l4⟩,_⟩:=M2.c5
        go_wp2_with fail
        refine (idx_rest P1 n1 p1 b.bids o (w.heap.size + 1) _ _ (Rd.of_own T1) (Nat.le_refl _) (by omega) ⟨l0,l1,l2,l3,l4⟩).mono ?_
        rintro e wi ⟨rfl,hbi⟩
        have hsi:=hbi.size
        have U1:=own_below T1 hbi (Nat.le_refl _)
        have U2:=own_below T2 hbi (Nat.le_refl _)
        have Q1:=M1.below hbi (by omega)
        have Q2:=M2.below hbi (by omega)
        have Q3:=M3.below hbi (by omega)
        have hbI:=hbT.trans (hbi.mono (by omega))
        clear T1 T2 M1 M2 M3 hbT hbi k0 k1 l0 l1 l2 l3 l4
        obtain ⟨⟨k0,k1⟩,kf0,kf1⟩:=Q1.c2
        obtain ⟨⟨l0,l1,l2,l3,l4⟩,_⟩:=Q2.c5
        have HO':=Lib.hid U1
        have HX':=Lib.hid U2
        have hlO:(b.bids).length=n1:=by have:=(U1).1;rw [odCells_len] at this;omega
        clear U1 U2
        rcases idx_cases o (b.bids) with ⟨hi,hins⟩ | ⟨K,hi,hK,hins⟩
        ·rw [hi]
         rw [hlO] at hins
         have hKn:n1 ≤ n1:=Nat.le_refl _
         have HF:=Lib.hid (show restOf b o=(mkB b (insAt (b.bids) n1 o),0) by rw [HE5.out,HY.out.2.1,hins,HY.out.2.2])
         clear hi hins hlO HY
         have hz6:w.heap.size + 3 ≤ w6.heap.size:=by omega
         have hz7:w6.heap.size ≤ wi.heap.size:=by omega
         have hz8:w.heap.size < wi.heap.size:=by omega
         have hz9:w.heap.size + 1 < wi.heap.size:=by omega
         have hb66:Below w6.heap.size wi wi:=Below.refl _ _
         have KS2:Hid (∀ W,Below w6.heap.size wi W→Below w.heap.size w W∧W.frozen? ⟨w.heap.size,0,none⟩=false∧W.cell? ⟨w.heap.size,0,none⟩=some (curV W ⟨w.heap.size,0,none⟩)∧(W.cell? ⟨w.heap.size + 1,0,none⟩=some (.int .i64 o.id)∧W.cell? ⟨w.heap.size + 1,1,none⟩=some (.int .i64 o.acc)∧W.cell? ⟨w.heap.size + 1,2,none⟩=some (.int .i64 o.side)∧W.cell? ⟨w.heap.size + 1,3,none⟩=some (.int .i64 o.price)∧W.cell? ⟨w.heap.size + 1,4,none⟩=some (.int .i64 o.qty))):=by
          intro W hW
          exact ⟨hbI.trans (hW.mono (by omega)),(Q1.below hW (by omega)).frozen 0,curV_some (by rw [(Q1.below hW (by omega)).cell 0];rfl),(Q2.below hW (by omega)).c5.1⟩
         have KT2:Hid (∀ W v,Below w6.heap.size wi W→Below w.heap.size w (W.setCell ⟨w.heap.size,0,none⟩ v)∧(W.setCell ⟨w.heap.size,0,none⟩ v).frozen? ⟨w.heap.size,0,none⟩=false∧(W.setCell ⟨w.heap.size,0,none⟩ v).cell? ⟨w.heap.size,0,none⟩=some (curV (W.setCell ⟨w.heap.size,0,none⟩ v) ⟨w.heap.size,0,none⟩)∧((W.setCell ⟨w.heap.size,0,none⟩ v).cell? ⟨w.heap.size + 1,0,none⟩=some (.int .i64 o.id)∧(W.setCell ⟨w.heap.size,0,none⟩ v).cell? ⟨w.heap.size + 1,1,none⟩=some (.int .i64 o.acc)∧(W.setCell ⟨w.heap.size,0,none⟩ v).cell? ⟨w.heap.size + 1,2,none⟩=some (.int .i64 o.side)∧(W.setCell ⟨w.heap.size,0,none⟩ v).cell? ⟨w.heap.size + 1,3,none⟩=some (.int .i64 o.price)∧(W.setCell ⟨w.heap.size,0,none⟩ v).cell? ⟨w.heap.size + 1,4,none⟩=some (.int .i64 o.qty))):=by
          intro W v hW
          exact ⟨Below.setCell (hbI.trans (hW.mono (by omega))) (Nat.le_refl _) _,((Q1.below hW (by omega)).set_ 0 v).frozen 0,curV_some (by rw [((Q1.below hW (by omega)).set_ 0 v).cell 0];rfl),((Q2.below hW (by omega)).far (by simp) v).c5.1⟩
         have KA:Hid (∀ ob,Below w6.heap.size wi (wi.alloc ob).drew):=fun ob=>below_drewN ((Below.refl _ _).alloc hz7 ob) 1
         have KD:Hid (Below w6.heap.size wi wi.drew):=below_drewN (Below.refl _ _) 1
         have HVB:Hid (Blk ((wi.alloc (.cells #[.int .i64 o.id,.int .i64 o.acc,.int .i64 o.side,.int .i64 o.price,.int .i64 o.qty] 71)).drew) wi.heap.size 71 #[.int .i64 o.id,.int .i64 o.acc,.int .i64 o.side,.int .i64 o.price,.int .i64 o.qty]):=Blk.new wi _ _
         have hal:Below wi.heap.size wi ((wi.alloc (.cells #[.int .i64 o.id,.int .i64 o.acc,.int .i64 o.side,.int .i64 o.price,.int .i64 o.qty] 71)).drew):=below_drewN ((Below.refl wi.heap.size wi).alloc (Nat.le_refl _) _) 1
         have HOA:=Lib.hid (own_below HO'.out hal (Nat.le_refl _))
         have HXA:=Lib.hid (own_below HX'.out hal (Nat.le_refl _))
         have HNE:Hid ((Value.slice P1 n1 p1).ownBlock ≠ some wi.heap.size):=fun e=>by have:=(World.ownsRow.lt HO'.out _ e).2;omega
         have HHZ:Hid (w6.heap.size ≤ ((wi.alloc (.cells #[.int .i64 o.id,.int .i64 o.acc,.int .i64 o.side,.int .i64 o.price,.int .i64 o.qty] 71)).drew).heap.size):=Nat.le_trans hz7 hal.size
         have hcv:curV wi.drew ⟨w.heap.size,0,none⟩=.slice P1 n1 p1:=by unfold curV;rw [show wi.drew.cell? ⟨w.heap.size,0,none⟩=some (.slice P1 n1 p1) from Q1.cell 0];rfl
         have hcv2:curV ((wi.alloc (.cells #[.int .i64 o.id,.int .i64 o.acc,.int .i64 o.side,.int .i64 o.price,.int .i64 o.qty] 71)).drew) ⟨w.heap.size,0,none⟩=.slice P1 n1 p1:=by
          unfold curV;rw [show ((wi.alloc (.cells #[.int .i64 o.id,.int .i64 o.acc,.int .i64 o.side,.int .i64 o.price,.int .i64 o.qty] 71)).drew).cell? ⟨w.heap.size,0,none⟩=some (.slice P1 n1 p1) from (Q1.below hal (by omega)).cell 0];rfl
         have WN:Hid (∀ W,Below w6.heap.size wi W→W.frozen? ⟨w.heap.size,0,none⟩=false∧W.cell? ⟨w.heap.size,0,none⟩=some (.slice P1 n1 p1)):=fun W hW=>⟨(Q1.below hW (by omega)).frozen 0,by rw [(Q1.below hW (by omega)).cell 0];rfl⟩
         have HCV2:=Lib.hid hcv2
         have HCV:=Lib.hid hcv
         clear hal hb66 hcv hcv2
         go_wp2_with fail
         go_region_with ((go_at_call 140;(with_reducible refine (insert_od w6.heap.size (.slice P1 n1 p1) n1 n1 (b.bids) o wi.heap.size 1 71 _ HOA.out HHZ.out HVB.out (Nat.le_refl _) (by simp only [maxLen];omega) HNE.out (by omega) (by omega)).mono ?_);rintro e Wn ⟨v',rfl,hown',hbl',honly'⟩;obtain ⟨PN,pN,rfl⟩:=own_shape hown';have hB':=(KA.out _).trans hbl';have hf':=WN.out _ hB'))
         all_goals
          have HBN:=Lib.hid hB'
          have HON:=Lib.hid hown'
          have HXN:=Lib.hid (own_only HXA.out honly' (fun g h e=>HD.out _ e h))
          clear hB' hown' honly' hbl'
          obtain ⟨Wf,hWf⟩:∃ x,x=Wn.setCell ⟨w.heap.size,0,none⟩ (.slice PN (n1 + 1) pN):=⟨_,rfl⟩
          rw [← hWf]
          have X1:Blk Wf w.heap.size 62 #[(.slice PN (n1 + 1) pN),(.slice (some ⟨bx,ox,none⟩) (m + 1) p2)]:=by rw [hWf];exact (Q1.below HBN.out (by omega)).set_ 0 _
          have X3:Blk Wf (w.heap.size + 1 + 1) 62 #[.slice none 0 0,.slice none 0 0]:=by rw [hWf];exact (Q3.below HBN.out (by omega)).far (by simp;omega) _
          have HR0:=Lib.hid (show Wf.ownsRow w6.heap.size 71 5 (.slice PN (n1 + 1) pN) (n1 + 1) (odCells (insAt (b.bids) n1 o)) by rw [hWf];exact ownsRow_setCell_below HON.out (by dsimp only;omega) _)
          have HR1:=Lib.hid (ownsRow_setCell_below HXN.out (show (⟨w.heap.size,0,none⟩:Addr).block < w6.heap.size by dsimp only;omega) (.slice PN (n1 + 1) pN))
          rw [← hWf] at HR1
          have hbf:Below w.heap.size w Wf:=by rw [hWf];exact Below.setCell (hbI.trans (HBN.out.mono (by omega))) (Nat.le_refl _) _
          clear KS2 KT2 KA KD HVB HOA HXA HNE HHZ k0 k1 kf0 kf1 l0 l1 l2 l3 l4 hWf
          obtain ⟨⟨k0,k1⟩,_⟩:=X1.c2
          obtain ⟨⟨z0,z1⟩,f0,f1⟩:=X3.c2
          go_wp2_with fail
          refine bodyPost_ret (v:=.tuple #[.agg #[(.slice PN (n1 + 1) pN),(.slice (some ⟨bx,ox,none⟩) (m + 1) p2)],.int .i64 0]) (by simp [results,Try.results64,go_sem, *]) rfl ?_
          refine ret_own HF.out (ownBk_mk (own_set2 HR0.out (by omega) (by omega) _ _) (own_set2 HR1.out (by omega) (by omega) _ _)) (Below.setCell (Below.setCell hbf (by dsimp only;omega) _) (by dsimp only;omega) _)
        ·rw [hi]
         rw [hlO] at hK
         have HF:=Lib.hid (show restOf b o=(mkB b (insAt (b.bids) K o),0) by rw [HE5.out,HY.out.2.1,hins,HY.out.2.2])
         clear hi hins hlO HY
         have hz6:w.heap.size + 3 ≤ w6.heap.size:=by omega
         have hz7:w6.heap.size ≤ wi.heap.size:=by omega
         have hz8:w.heap.size < wi.heap.size:=by omega
         have hz9:w.heap.size + 1 < wi.heap.size:=by omega
         have hb66:Below w6.heap.size wi wi:=Below.refl _ _
         have KS2:Hid (∀ W,Below w6.heap.size wi W→Below w.heap.size w W∧W.frozen? ⟨w.heap.size,0,none⟩=false∧W.cell? ⟨w.heap.size,0,none⟩=some (curV W ⟨w.heap.size,0,none⟩)∧(W.cell? ⟨w.heap.size + 1,0,none⟩=some (.int .i64 o.id)∧W.cell? ⟨w.heap.size + 1,1,none⟩=some (.int .i64 o.acc)∧W.cell? ⟨w.heap.size + 1,2,none⟩=some (.int .i64 o.side)∧W.cell? ⟨w.heap.size + 1,3,none⟩=some (.int .i64 o.price)∧W.cell? ⟨w.heap.size + 1,4,none⟩=some (.int .i64 o.qty))):=by
          intro W hW
          exact ⟨hbI.trans (hW.mono (by omega)),(Q1.below hW (by omega)).frozen 0,curV_some (by rw [(Q1.below hW (by omega)).cell 0];rfl),(Q2.below hW (by omega)).c5.1⟩
         have KT2:Hid (∀ W v,Below w6.heap.size wi W→Below w.heap.size w (W.setCell ⟨w.heap.size,0,none⟩ v)∧(W.setCell ⟨w.heap.size,0,none⟩ v).frozen? ⟨w.heap.size,0,none⟩=false∧(W.setCell ⟨w.heap.size,0,none⟩ v).cell? ⟨w.heap.size,0,none⟩=some (curV (W.setCell ⟨w.heap.size,0,none⟩ v) ⟨w.heap.size,0,none⟩)∧((W.setCell ⟨w.heap.size,0,none⟩ v).cell? ⟨w.heap.size + 1,0,none⟩=some (.int .i64 o.id)∧(W.setCell ⟨w.heap.size,0,none⟩ v).cell? ⟨w.heap.size + 1,1,none⟩=some (.int .i64 o.acc)∧(W.setCell ⟨w.heap.size,0,none⟩ v).cell? ⟨w.heap.size + 1,2,none⟩=some (.int .i64 o.side)∧(W.setCell ⟨w.heap.size,0,none⟩ v).cell? ⟨w.heap.size + 1,3,none⟩=some (.int .i64 o.price)∧(W.setCell ⟨w.heap.size,0,none⟩ v).cell? ⟨w.heap.size + 1,4,none⟩=some (.int .i64 o.qty))):=by
          intro W v hW
          exact ⟨Below.setCell (hbI.trans (hW.mono (by omega))) (Nat.le_refl _) _,((Q1.below hW (by omega)).set_ 0 v).frozen 0,curV_some (by rw [((Q1.below hW (by omega)).set_ 0 v).cell 0];rfl),((Q2.below hW (by omega)).far (by simp) v).c5.1⟩
         have KA:Hid (∀ ob,Below w6.heap.size wi (wi.alloc ob).drew):=fun ob=>below_drewN ((Below.refl _ _).alloc hz7 ob) 1
         have KD:Hid (Below w6.heap.size wi wi.drew):=below_drewN (Below.refl _ _) 1
         have HVB:Hid (Blk ((wi.alloc (.cells #[.int .i64 o.id,.int .i64 o.acc,.int .i64 o.side,.int .i64 o.price,.int .i64 o.qty] 71)).drew) wi.heap.size 71 #[.int .i64 o.id,.int .i64 o.acc,.int .i64 o.side,.int .i64 o.price,.int .i64 o.qty]):=Blk.new wi _ _
         have hal:Below wi.heap.size wi ((wi.alloc (.cells #[.int .i64 o.id,.int .i64 o.acc,.int .i64 o.side,.int .i64 o.price,.int .i64 o.qty] 71)).drew):=below_drewN ((Below.refl wi.heap.size wi).alloc (Nat.le_refl _) _) 1
         have HOA:=Lib.hid (own_below HO'.out hal (Nat.le_refl _))
         have HXA:=Lib.hid (own_below HX'.out hal (Nat.le_refl _))
         have HNE:Hid ((Value.slice P1 n1 p1).ownBlock ≠ some wi.heap.size):=fun e=>by have:=(World.ownsRow.lt HO'.out _ e).2;omega
         have HHZ:Hid (w6.heap.size ≤ ((wi.alloc (.cells #[.int .i64 o.id,.int .i64 o.acc,.int .i64 o.side,.int .i64 o.price,.int .i64 o.qty] 71)).drew).heap.size):=Nat.le_trans hz7 hal.size
         have hcv:curV wi.drew ⟨w.heap.size,0,none⟩=.slice P1 n1 p1:=by unfold curV;rw [show wi.drew.cell? ⟨w.heap.size,0,none⟩=some (.slice P1 n1 p1) from Q1.cell 0];rfl
         have hcv2:curV ((wi.alloc (.cells #[.int .i64 o.id,.int .i64 o.acc,.int .i64 o.side,.int .i64 o.price,.int .i64 o.qty] 71)).drew) ⟨w.heap.size,0,none⟩=.slice P1 n1 p1:=by
          unfold curV;rw [show ((wi.alloc (.cells #[.int .i64 o.id,.int .i64 o.acc,.int .i64 o.side,.int .i64 o.price,.int .i64 o.qty] 71)).drew).cell? ⟨w.heap.size,0,none⟩=some (.slice P1 n1 p1) from (Q1.below hal (by omega)).cell 0];rfl
         have WN:Hid (∀ W,Below w6.heap.size wi W→W.frozen? ⟨w.heap.size,0,none⟩=false∧W.cell? ⟨w.heap.size,0,none⟩=some (.slice P1 n1 p1)):=fun W hW=>⟨(Q1.below hW (by omega)).frozen 0,by rw [(Q1.below hW (by omega)).cell 0];rfl⟩
         have HCV2:=Lib.hid hcv2
         have HCV:=Lib.hid hcv
         clear hal hb66 hcv hcv2
         go_wp2_with fail
         go_region_with ((go_at_call 140;(with_reducible refine (insert_od w6.heap.size (.slice P1 n1 p1) n1 K (b.bids) o wi.heap.size 1 71 _ HOA.out HHZ.out HVB.out (Nat.le_refl _) (by simp only [maxLen];omega) HNE.out (by omega) (by omega)).mono ?_);rintro e Wn ⟨v',rfl,hown',hbl',honly'⟩;obtain ⟨PN,pN,rfl⟩:=own_shape hown';have hB':=(KA.out _).trans hbl';have hf':=WN.out _ hB'))
         all_goals
          have HBN:=Lib.hid hB'
          have HON:=Lib.hid hown'
          have HXN:=Lib.hid (own_only HXA.out honly' (fun g h e=>HD.out _ e h))
          clear hB' hown' honly' hbl'
          obtain ⟨Wf,hWf⟩:∃ x,x=Wn.setCell ⟨w.heap.size,0,none⟩ (.slice PN (n1 + 1) pN):=⟨_,rfl⟩
          rw [← hWf]
          have X1:Blk Wf w.heap.size 62 #[(.slice PN (n1 + 1) pN),(.slice (some ⟨bx,ox,none⟩) (m + 1) p2)]:=by rw [hWf];exact (Q1.below HBN.out (by omega)).set_ 0 _
          have X3:Blk Wf (w.heap.size + 1 + 1) 62 #[.slice none 0 0,.slice none 0 0]:=by rw [hWf];exact (Q3.below HBN.out (by omega)).far (by simp;omega) _
          have HR0:=Lib.hid (show Wf.ownsRow w6.heap.size 71 5 (.slice PN (n1 + 1) pN) (n1 + 1) (odCells (insAt (b.bids) K o)) by rw [hWf];exact ownsRow_setCell_below HON.out (by dsimp only;omega) _)
          have HR1:=Lib.hid (ownsRow_setCell_below HXN.out (show (⟨w.heap.size,0,none⟩:Addr).block < w6.heap.size by dsimp only;omega) (.slice PN (n1 + 1) pN))
          rw [← hWf] at HR1
          have hbf:Below w.heap.size w Wf:=by rw [hWf];exact Below.setCell (hbI.trans (HBN.out.mono (by omega))) (Nat.le_refl _) _
          clear KS2 KT2 KA KD HVB HOA HXA HNE HHZ k0 k1 kf0 kf1 l0 l1 l2 l3 l4 hWf
          obtain ⟨⟨k0,k1⟩,_⟩:=X1.c2
          obtain ⟨⟨z0,z1⟩,f0,f1⟩:=X3.c2
          go_wp2_with fail
          refine bodyPost_ret (v:=.tuple #[.agg #[(.slice PN (n1 + 1) pN),(.slice (some ⟨bx,ox,none⟩) (m + 1) p2)],.int .i64 0]) (by simp [results,Try.results64,go_sem, *]) rfl ?_
          refine ret_own HF.out (ownBk_mk (own_set2 HR0.out (by omega) (by omega) _ _) (own_set2 HR1.out (by omega) (by omega) _ _)) (Below.setCell (Below.setCell hbf (by dsimp only;omega) _) (by dsimp only;omega) _)
     ·have hs1:(o.side == 1)=false:=by simpa using hsd
      have HY:=Lib.hid (HX.out.2 hsd)
      clear hsd HX
      obtain ⟨⟨k0,k1⟩,kf0,kf1⟩:=F1.c2
      obtain ⟨⟨l0,l1,l2,l3,l4⟩,_⟩:=F2.c5
      obtain ⟨⟨m0,m1⟩,_⟩:=G1.c2
      go_wp2_with fail
      rw [← HW8.out]
      refine (of_sell w.heap.size o.side w8 _ _ m0 m1 hs1).mono ?_
      rintro e w9 ⟨rfl,hw9⟩
      have hs9:w9.heap.size=w8.heap.size:=by rw [hw9];rfl
      have N1:Blk w9 w.heap.size 62 #[.slice P1 b.bids.length p1,.slice P2 b.asks.length p2]:=by rw [hw9];exact G1
      have N2:Blk w9 (w.heap.size + 1) 71 #[.int .i64 o.id,.int .i64 o.acc,.int .i64 o.side,.int .i64 o.price,.int .i64 o.qty]:=by rw [hw9];exact G2
      have N3:Blk w9 (w.heap.size + 1 + 1) 62 #[.slice none 0 0,.slice none 0 0]:=by rw [hw9];exact G3
      have S1:w9.ownsRow w6.heap.size 71 5 (.slice P1 b.bids.length p1) b.bids.length (odCells b.bids):=by rw [hw9];exact own_drewN R1 1
      have S2:w9.ownsRow w6.heap.size 71 5 (.slice P2 b.asks.length p2) b.asks.length (odCells b.asks):=by rw [hw9];exact own_drewN R2 1
      have hbw9:Below w.heap.size w w9:=by rw [hw9];exact below_drewN hbw8 1
      clear k0 k1 kf0 kf1 l0 l1 l2 l3 l4 m0 m1 G1 G2 G3 R1 R2 hbw8 hw9 HW8
      obtain ⟨⟨k0,k1⟩,kf0,kf1⟩:=N1.c2
      obtain ⟨⟨l0,l1,l2,l3,l4⟩,_⟩:=N2.c5
      obtain ⟨⟨z0,z1⟩,f0,f1⟩:=N3.c2
      obtain ⟨n1,hn1⟩:∃ n,n=b.bids.length:=⟨_,rfl⟩
      obtain ⟨n2,hn2⟩:∃ n,n=b.asks.length:=⟨_,rfl⟩
      rw [← hn1] at S1
      rw [← hn2] at S2
      rw [← hn1,← hn2] at N1 hn
      rw [← hn1] at k0
      rw [← hn2] at k1
      rw [← hn1,← hn2]
      have HPL:=Lib.hid (show ∀ W,Below w9.heap.size w9 W→W.ownsRow w6.heap.size 71 5 (.slice P1 n1 p1) n1 (odCells b.bids)∧W.ownsRow w6.heap.size 71 5 (.slice P2 n2 p2) n2 (odCells b.asks) from fun W hW=>⟨own_below S1 hW (Nat.le_refl _),own_below S2 hW (Nat.le_refl _)⟩)
      have HD:=Lib.hid (show ∀ k,(Value.slice P1 n1 p1).ownBlock=some k→(Value.slice P2 n2 p2).ownBlock ≠ some k by rw [hn1,hn2];exact hd12)
      have HN1:=Lib.hid hn1
      have HN2:=Lib.hid hn2
      have rX:=Rd.of_own S1
      clear S1 S2 hn1 hn2 hd12
      rcases list_cases (b.bids) with hLX | ⟨x,LT,hLX⟩
      ·have HE5:=Lib.hid (show restOf b o=(setOwn b o.side (insO o (ownOf b o.side)),0) by rw [HE4.out,HY.out.1,hLX];rfl)
       obtain rfl:n1=0:=by have:=HN1.out;rw [hLX] at this;exact this
       clear hLX rX HE4
       go_wp2_with fail
       go_region
       obtain ⟨Wt,hWt⟩:∃ x,x=w9.drew:=⟨_,rfl⟩
       rw [← hWt]
       have HT:Below w9.heap.size w9 Wt:=by rw [hWt];exact below_drewN (Below.refl _ _) 1
       clear hWt k0 k1 l0 l1 l2 l3 l4 z0 z1 f0 f1 kf0 kf1
       have hsT:=HT.size
       obtain ⟨T1,T2⟩:=HPL.out _ HT
       have M1:=N1.below HT (by omega)
       have M2:=N2.below HT (by omega)
       have M3:=N3.below HT (by omega)
       have hbT:=hbw9.trans (HT.mono (by omega))
       clear N1 N2 N3 HPL hbw9
       obtain ⟨⟨k0,k1⟩,_⟩:=M1.c2
       obtain ⟨⟨l0,l1,l2,l3,l4⟩,_⟩:=M2.c5
       go_wp2_with fail
       refine (idx_rest P2 n2 p2 b.asks o (w.heap.size + 1) _ _ (Rd.of_own T2) (Nat.le_refl _) (by omega) ⟨l0,l1,l2,l3,l4⟩).mono ?_
       rintro e wi ⟨rfl,hbi⟩
       have hsi:=hbi.size
       have U1:=own_below T1 hbi (Nat.le_refl _)
       have U2:=own_below T2 hbi (Nat.le_refl _)
       have Q1:=M1.below hbi (by omega)
       have Q2:=M2.below hbi (by omega)
       have Q3:=M3.below hbi (by omega)
       have hbI:=hbT.trans (hbi.mono (by omega))
       clear T1 T2 M1 M2 M3 hbT hbi k0 k1 l0 l1 l2 l3 l4
       obtain ⟨⟨k0,k1⟩,kf0,kf1⟩:=Q1.c2
       obtain ⟨⟨l0,l1,l2,l3,l4⟩,_⟩:=Q2.c5
       have HO':=Lib.hid U2
       have HX':=Lib.hid U1
       have hlO:(b.asks).length=n2:=by have:=(U2).1;rw [odCells_len] at this;omega
       clear U1 U2
       rcases idx_cases o (b.asks) with ⟨hi,hins⟩ | ⟨K,hi,hK,hins⟩
       ·rw [hi]
        rw [hlO] at hins
        have hKn:n2 ≤ n2:=Nat.le_refl _
        have HF:=Lib.hid (show restOf b o=(mkA b (insAt (b.asks) n2 o),0) by rw [HE5.out,HY.out.2.1,hins,HY.out.2.2])
        clear hi hins hlO HY
        have hz6:w.heap.size + 3 ≤ w6.heap.size:=by omega
        have hz7:w6.heap.size ≤ wi.heap.size:=by omega
        have hz8:w.heap.size < wi.heap.size:=by omega
        have hz9:w.heap.size + 1 < wi.heap.size:=by omega
        have hb66:Below w6.heap.size wi wi:=Below.refl _ _
        have KS2:Hid (∀ W,Below w6.heap.size wi W→Below w.heap.size w W∧W.frozen? ⟨w.heap.size,1,none⟩=false∧W.cell? ⟨w.heap.size,1,none⟩=some (curV W ⟨w.heap.size,1,none⟩)∧(W.cell? ⟨w.heap.size + 1,0,none⟩=some (.int .i64 o.id)∧W.cell? ⟨w.heap.size + 1,1,none⟩=some (.int .i64 o.acc)∧W.cell? ⟨w.heap.size + 1,2,none⟩=some (.int .i64 o.side)∧W.cell? ⟨w.heap.size + 1,3,none⟩=some (.int .i64 o.price)∧W.cell? ⟨w.heap.size + 1,4,none⟩=some (.int .i64 o.qty))):=by
         intro W hW
         exact ⟨hbI.trans (hW.mono (by omega)),(Q1.below hW (by omega)).frozen 1,curV_some (by rw [(Q1.below hW (by omega)).cell 1];rfl),(Q2.below hW (by omega)).c5.1⟩
        have KT2:Hid (∀ W v,Below w6.heap.size wi W→Below w.heap.size w (W.setCell ⟨w.heap.size,1,none⟩ v)∧(W.setCell ⟨w.heap.size,1,none⟩ v).frozen? ⟨w.heap.size,1,none⟩=false∧(W.setCell ⟨w.heap.size,1,none⟩ v).cell? ⟨w.heap.size,1,none⟩=some (curV (W.setCell ⟨w.heap.size,1,none⟩ v) ⟨w.heap.size,1,none⟩)∧((W.setCell ⟨w.heap.size,1,none⟩ v).cell? ⟨w.heap.size + 1,0,none⟩=some (.int .i64 o.id)∧(W.setCell ⟨w.heap.size,1,none⟩ v).cell? ⟨w.heap.size + 1,1,none⟩=some (.int .i64 o.acc)∧(W.setCell ⟨w.heap.size,1,none⟩ v).cell? ⟨w.heap.size + 1,2,none⟩=some (.int .i64 o.side)∧(W.setCell ⟨w.heap.size,1,none⟩ v).cell? ⟨w.heap.size + 1,3,none⟩=some (.int .i64 o.price)∧(W.setCell ⟨w.heap.size,1,none⟩ v).cell? ⟨w.heap.size + 1,4,none⟩=some (.int .i64 o.qty))):=by
         intro W v hW
         exact ⟨Below.setCell (hbI.trans (hW.mono (by omega))) (Nat.le_refl _) _,((Q1.below hW (by omega)).set_ 1 v).frozen 1,curV_some (by rw [((Q1.below hW (by omega)).set_ 1 v).cell 1];rfl),((Q2.below hW (by omega)).far (by simp) v).c5.1⟩
        have KA:Hid (∀ ob,Below w6.heap.size wi (wi.alloc ob).drew):=fun ob=>below_drewN ((Below.refl _ _).alloc hz7 ob) 1
        have KD:Hid (Below w6.heap.size wi wi.drew):=below_drewN (Below.refl _ _) 1
        have HVB:Hid (Blk ((wi.alloc (.cells #[.int .i64 o.id,.int .i64 o.acc,.int .i64 o.side,.int .i64 o.price,.int .i64 o.qty] 71)).drew) wi.heap.size 71 #[.int .i64 o.id,.int .i64 o.acc,.int .i64 o.side,.int .i64 o.price,.int .i64 o.qty]):=Blk.new wi _ _
        have hal:Below wi.heap.size wi ((wi.alloc (.cells #[.int .i64 o.id,.int .i64 o.acc,.int .i64 o.side,.int .i64 o.price,.int .i64 o.qty] 71)).drew):=below_drewN ((Below.refl wi.heap.size wi).alloc (Nat.le_refl _) _) 1
        have HOA:=Lib.hid (own_below HO'.out hal (Nat.le_refl _))
        have HXA:=Lib.hid (own_below HX'.out hal (Nat.le_refl _))
        have HNE:Hid ((Value.slice P2 n2 p2).ownBlock ≠ some wi.heap.size):=fun e=>by have:=(World.ownsRow.lt HO'.out _ e).2;omega
        have HHZ:Hid (w6.heap.size ≤ ((wi.alloc (.cells #[.int .i64 o.id,.int .i64 o.acc,.int .i64 o.side,.int .i64 o.price,.int .i64 o.qty] 71)).drew).heap.size):=Nat.le_trans hz7 hal.size
        have hcv:curV wi.drew ⟨w.heap.size,1,none⟩=.slice P2 n2 p2:=by unfold curV;rw [show wi.drew.cell? ⟨w.heap.size,1,none⟩=some (.slice P2 n2 p2) from Q1.cell 1];rfl
        have hcv2:curV ((wi.alloc (.cells #[.int .i64 o.id,.int .i64 o.acc,.int .i64 o.side,.int .i64 o.price,.int .i64 o.qty] 71)).drew) ⟨w.heap.size,1,none⟩=.slice P2 n2 p2:=by
         unfold curV;rw [show ((wi.alloc (.cells #[.int .i64 o.id,.int .i64 o.acc,.int .i64 o.side,.int .i64 o.price,.int .i64 o.qty] 71)).drew).cell? ⟨w.heap.size,1,none⟩=some (.slice P2 n2 p2) from (Q1.below hal (by omega)).cell 1];rfl
        have WN:Hid (∀ W,Below w6.heap.size wi W→W.frozen? ⟨w.heap.size,1,none⟩=false∧W.cell? ⟨w.heap.size,1,none⟩=some (.slice P2 n2 p2)):=fun W hW=>⟨(Q1.below hW (by omega)).frozen 1,by rw [(Q1.below hW (by omega)).cell 1];rfl⟩
        have HCV2:=Lib.hid hcv2
        have HCV:=Lib.hid hcv
        clear hal hb66 hcv hcv2
        go_wp2_with fail
        go_region_with ((go_at_call 140;(with_reducible refine (insert_od w6.heap.size (.slice P2 n2 p2) n2 n2 (b.asks) o wi.heap.size 1 71 _ HOA.out HHZ.out HVB.out (Nat.le_refl _) (by simp only [maxLen];omega) HNE.out (by omega) (by omega)).mono ?_);rintro e Wn ⟨v',rfl,hown',hbl',honly'⟩;obtain ⟨PN,pN,rfl⟩:=own_shape hown';have hB':=(KA.out _).trans hbl';have hf':=WN.out _ hB'))
        all_goals
         have HBN:=Lib.hid hB'
         have HON:=Lib.hid hown'
         have HXN:=Lib.hid (own_only HXA.out honly' (fun g h e=>HD.out _ h e))
         clear hB' hown' honly' hbl'
         obtain ⟨Wf,hWf⟩:∃ x,x=Wn.setCell ⟨w.heap.size,1,none⟩ (.slice PN (n2 + 1) pN):=⟨_,rfl⟩
         rw [← hWf]
         have X1:Blk Wf w.heap.size 62 #[(.slice P1 0 p1),(.slice PN (n2 + 1) pN)]:=by rw [hWf];exact (Q1.below HBN.out (by omega)).set_ 1 _
         have X3:Blk Wf (w.heap.size + 1 + 1) 62 #[.slice none 0 0,.slice none 0 0]:=by rw [hWf];exact (Q3.below HBN.out (by omega)).far (by simp;omega) _
         have HR0:=Lib.hid (show Wf.ownsRow w6.heap.size 71 5 (.slice PN (n2 + 1) pN) (n2 + 1) (odCells (insAt (b.asks) n2 o)) by rw [hWf];exact ownsRow_setCell_below HON.out (by dsimp only;omega) _)
         have HR1:=Lib.hid (ownsRow_setCell_below HXN.out (show (⟨w.heap.size,1,none⟩:Addr).block < w6.heap.size by dsimp only;omega) (.slice PN (n2 + 1) pN))
         rw [← hWf] at HR1
         have hbf:Below w.heap.size w Wf:=by rw [hWf];exact Below.setCell (hbI.trans (HBN.out.mono (by omega))) (Nat.le_refl _) _
         clear KS2 KT2 KA KD HVB HOA HXA HNE HHZ k0 k1 kf0 kf1 l0 l1 l2 l3 l4 hWf
         obtain ⟨⟨k0,k1⟩,_⟩:=X1.c2
         obtain ⟨⟨z0,z1⟩,f0,f1⟩:=X3.c2
         go_wp2_with fail
         refine bodyPost_ret (v:=.tuple #[.agg #[(.slice P1 0 p1),(.slice PN (n2 + 1) pN)],.int .i64 0]) (by simp [results,Try.results64,go_sem, *]) rfl ?_
         refine ret_own HF.out (ownBk_mk (own_set2 HR1.out (by omega) (by omega) _ _) (own_set2 HR0.out (by omega) (by omega) _ _)) (Below.setCell (Below.setCell hbf (by dsimp only;omega) _) (by dsimp only;omega) _)
       ·rw [hi]
        rw [hlO] at hK
        have HF:=Lib.hid (show restOf b o=(mkA b (insAt (b.asks) K o),0) by rw [HE5.out,HY.out.2.1,hins,HY.out.2.2])
        clear hi hins hlO HY
        have hz6:w.heap.size + 3 ≤ w6.heap.size:=by omega
        have hz7:w6.heap.size ≤ wi.heap.size:=by omega
        have hz8:w.heap.size < wi.heap.size:=by omega
        have hz9:w.heap.size + 1 < wi.heap.size:=by omega
        have hb66:Below w6.heap.size wi wi:=Below.refl _ _
        have KS2:Hid (∀ W,Below w6.heap.size wi W→Below w.heap.size w W∧W.frozen? ⟨w.heap.size,1,none⟩=false∧W.cell? ⟨w.heap.size,1,none⟩=some (curV W ⟨w.heap.size,1,none⟩)∧(W.cell? ⟨w.heap.size + 1,0,none⟩=some (.int .i64 o.id)∧W.cell? ⟨w.heap.size + 1,1,none⟩=some (.int .i64 o.acc)∧W.cell? ⟨w.heap.size + 1,2,none⟩=some (.int .i64 o.side)∧W.cell? ⟨w.heap.size + 1,3,none⟩=some (.int .i64 o.price)∧W.cell? ⟨w.heap.size + 1,4,none⟩=some (.int .i64 o.qty))):=by
         intro W hW
         exact ⟨hbI.trans (hW.mono (by omega)),(Q1.below hW (by omega)).frozen 1,curV_some (by rw [(Q1.below hW (by omega)).cell 1];rfl),(Q2.below hW (by omega)).c5.1⟩
        have KT2:Hid (∀ W v,Below w6.heap.size wi W→Below w.heap.size w (W.setCell ⟨w.heap.size,1,none⟩ v)∧(W.setCell ⟨w.heap.size,1,none⟩ v).frozen? ⟨w.heap.size,1,none⟩=false∧(W.setCell ⟨w.heap.size,1,none⟩ v).cell? ⟨w.heap.size,1,none⟩=some (curV (W.setCell ⟨w.heap.size,1,none⟩ v) ⟨w.heap.size,1,none⟩)∧((W.setCell ⟨w.heap.size,1,none⟩ v).cell? ⟨w.heap.size + 1,0,none⟩=some (.int .i64 o.id)∧(W.setCell ⟨w.heap.size,1,none⟩ v).cell? ⟨w.heap.size + 1,1,none⟩=some (.int .i64 o.acc)∧(W.setCell ⟨w.heap.size,1,none⟩ v).cell? ⟨w.heap.size + 1,2,none⟩=some (.int .i64 o.side)∧(W.setCell ⟨w.heap.size,1,none⟩ v).cell? ⟨w.heap.size + 1,3,none⟩=some (.int .i64 o.price)∧(W.setCell ⟨w.heap.size,1,none⟩ v).cell? ⟨w.heap.size + 1,4,none⟩=some (.int .i64 o.qty))):=by
         intro W v hW
         exact ⟨Below.setCell (hbI.trans (hW.mono (by omega))) (Nat.le_refl _) _,((Q1.below hW (by omega)).set_ 1 v).frozen 1,curV_some (by rw [((Q1.below hW (by omega)).set_ 1 v).cell 1];rfl),((Q2.below hW (by omega)).far (by simp) v).c5.1⟩
        have KA:Hid (∀ ob,Below w6.heap.size wi (wi.alloc ob).drew):=fun ob=>below_drewN ((Below.refl _ _).alloc hz7 ob) 1
        have KD:Hid (Below w6.heap.size wi wi.drew):=below_drewN (Below.refl _ _) 1
        have HVB:Hid (Blk ((wi.alloc (.cells #[.int .i64 o.id,.int .i64 o.acc,.int .i64 o.side,.int .i64 o.price,.int .i64 o.qty] 71)).drew) wi.heap.size 71 #[.int .i64 o.id,.int .i64 o.acc,.int .i64 o.side,.int .i64 o.price,.int .i64 o.qty]):=Blk.new wi _ _
        have hal:Below wi.heap.size wi ((wi.alloc (.cells #[.int .i64 o.id,.int .i64 o.acc,.int .i64 o.side,.int .i64 o.price,.int .i64 o.qty] 71)).drew):=below_drewN ((Below.refl wi.heap.size wi).alloc (Nat.le_refl _) _) 1
        have HOA:=Lib.hid (own_below HO'.out hal (Nat.le_refl _))
        have HXA:=Lib.hid (own_below HX'.out hal (Nat.le_refl _))
        have HNE:Hid ((Value.slice P2 n2 p2).ownBlock ≠ some wi.heap.size):=fun e=>by have:=(World.ownsRow.lt HO'.out _ e).2;omega
        have HHZ:Hid (w6.heap.size ≤ ((wi.alloc (.cells #[.int .i64 o.id,.int .i64 o.acc,.int .i64 o.side,.int .i64 o.price,.int .i64 o.qty] 71)).drew).heap.size):=Nat.le_trans hz7 hal.size
        have hcv:curV wi.drew ⟨w.heap.size,1,none⟩=.slice P2 n2 p2:=by unfold curV;rw [show wi.drew.cell? ⟨w.heap.size,1,none⟩=some (.slice P2 n2 p2) from Q1.cell 1];rfl
        have hcv2:curV ((wi.alloc (.cells #[.int .i64 o.id,.int .i64 o.acc,.int .i64 o.side,.int .i64 o.price,.int .i64 o.qty] 71)).drew) ⟨w.heap.size,1,none⟩=.slice P2 n2 p2:=by
         unfold curV;rw [show ((wi.alloc (.cells #[.int .i64 o.id,.int .i64 o.acc,.int .i64 o.side,.int .i64 o.price,.int .i64 o.qty] 71)).drew).cell? ⟨w.heap.size,1,none⟩=some (.slice P2 n2 p2) from (Q1.below hal (by omega)).cell 1];rfl
        have WN:Hid (∀ W,Below w6.heap.size wi W→W.frozen? ⟨w.heap.size,1,none⟩=false∧W.cell? ⟨w.heap.size,1,none⟩=some (.slice P2 n2 p2)):=fun W hW=>⟨(Q1.below hW (by omega)).frozen 1,by rw [(Q1.below hW (by omega)).cell 1];rfl⟩
        have HCV2:=Lib.hid hcv2
        have HCV:=Lib.hid hcv
        clear hal hb66 hcv hcv2
        go_wp2_with fail
        go_region_with ((go_at_call 140;(with_reducible refine (insert_od w6.heap.size (.slice P2 n2 p2) n2 K (b.asks) o wi.heap.size 1 71 _ HOA.out HHZ.out HVB.out (Nat.le_refl _) (by simp only [maxLen];omega) HNE.out (by omega) (by omega)).mono ?_);rintro e Wn ⟨v',rfl,hown',hbl',honly'⟩;obtain ⟨PN,pN,rfl⟩:=own_shape hown';have hB':=(KA.out _).trans hbl';have hf':=WN.out _ hB'))
        all_goals
         have HBN:=Lib.hid hB'
         have HON:=Lib.hid hown'
         have HXN:=Lib.hid (own_only HXA.out honly' (fun g h e=>HD.out _ h e))
         clear hB' hown' honly' hbl'
         obtain ⟨Wf,hWf⟩:∃ x,x=Wn.setCell ⟨w.heap.size,1,none⟩ (.slice PN (n2 + 1) pN):=⟨_,rfl⟩
         rw [← hWf]
         have X1:Blk Wf w.heap.size 62 #[(.slice P1 0 p1),(.slice PN (n2 + 1) pN)]:=by rw [hWf];exact (Q1.below HBN.out (by omega)).set_ 1 _
         have X3:Blk Wf (w.heap.size + 1 + 1) 62 #[.slice none 0 0,.slice none 0 0]:=by rw [hWf];exact (Q3.below HBN.out (by omega)).far (by simp;omega) _
         have HR0:=Lib.hid (show Wf.ownsRow w6.heap.size 71 5 (.slice PN (n2 + 1) pN) (n2 + 1) (odCells (insAt (b.asks) K o)) by rw [hWf];exact ownsRow_setCell_below HON.out (by dsimp only;omega) _)
         have HR1:=Lib.hid (ownsRow_setCell_below HXN.out (show (⟨w.heap.size,1,none⟩:Addr).block < w6.heap.size by dsimp only;omega) (.slice PN (n2 + 1) pN))
         rw [← hWf] at HR1
         have hbf:Below w.heap.size w Wf:=by rw [hWf];exact Below.setCell (hbI.trans (HBN.out.mono (by omega))) (Nat.le_refl _) _
         clear KS2 KT2 KA KD HVB HOA HXA HNE HHZ k0 k1 kf0 kf1 l0 l1 l2 l3 l4 hWf
         obtain ⟨⟨k0,k1⟩,_⟩:=X1.c2
         obtain ⟨⟨z0,z1⟩,f0,f1⟩:=X3.c2
         go_wp2_with fail
         refine bodyPost_ret (v:=.tuple #[.agg #[(.slice P1 0 p1),(.slice PN (n2 + 1) pN)],.int .i64 0]) (by simp [results,Try.results64,go_sem, *]) rfl ?_
         refine ret_own HF.out (ownBk_mk (own_set2 HR1.out (by omega) (by omega) _ _) (own_set2 HR0.out (by omega) (by omega) _ _)) (Below.setCell (Below.setCell hbf (by dsimp only;omega) _) (by dsimp only;omega) _)
      ·obtain ⟨m,rfl⟩:∃ m,n1=m + 1:=⟨LT.length,by have:=HN1.out;rw [hLX] at this;exact this⟩
       obtain ⟨bx,ox,x',rfl,hbx,hx,x0,x1,x2,x3,x4⟩:=od_at rX (Nat.succ_pos m)
       obtain rfl:x'=x:=by rw [hLX] at hx;simpa using hx.symm
       have HE5:=Lib.hid (show restOf b o=if crossesB o x'.price then (zeroBk,9) else (setOwn b o.side (insO o (ownOf b o.side)),0) by rw [HE4.out,HY.out.1,hLX];rfl)
       simp only [Nat.zero_mul,Nat.add_zero] at x0 x1 x2 x3 x4
       clear hLX rX hx HE4
       have KS:Hid (∀ W,Below w9.heap.size w9 W→Below w9.heap.size w9 W∧(W.cell? ⟨w.heap.size,0,none⟩=some (.slice (some ⟨bx,ox,none⟩) (m + 1) p1)∧W.cell? ⟨w.heap.size,1,none⟩=some (.slice P2 n2 p2)) ∧
        (W.cell? ⟨w.heap.size + 1,0,none⟩=some (.int .i64 o.id)∧W.cell? ⟨w.heap.size + 1,1,none⟩=some (.int .i64 o.acc)∧W.cell? ⟨w.heap.size + 1,2,none⟩=some (.int .i64 o.side)∧W.cell? ⟨w.heap.size + 1,3,none⟩=some (.int .i64 o.price)∧W.cell? ⟨w.heap.size + 1,4,none⟩=some (.int .i64 o.qty)) ∧
        (W.cell? ⟨bx,ox,none⟩=some (.int .i64 x'.id)∧W.cell? ⟨bx,ox + 1,none⟩=some (.int .i64 x'.acc)∧W.cell? ⟨bx,ox + 2,none⟩=some (.int .i64 x'.side)∧W.cell? ⟨bx,ox + 3,none⟩=some (.int .i64 x'.price)∧W.cell? ⟨bx,ox + 4,none⟩=some (.int .i64 x'.qty))):=by
        intro W hW
        exact ⟨hW,(N1.below hW (by omega)).c2.1,(N2.below hW (by omega)).c5.1,(hW.cell (p:=⟨bx,_,none⟩) hbx).trans x0,(hW.cell (p:=⟨bx,_,none⟩) hbx).trans x1,(hW.cell (p:=⟨bx,_,none⟩) hbx).trans x2,(hW.cell (p:=⟨bx,_,none⟩) hbx).trans x3,(hW.cell (p:=⟨bx,_,none⟩) hbx).trans x4⟩
       have h99:Below w9.heap.size w9 w9:=Below.refl _ _
       go_wp2_with fail
       go_region_held3 (fun W=>Below w9.heap.size w9 W∧(W.cell? ⟨w.heap.size,0,none⟩=some (.slice (some ⟨bx,ox,none⟩) (m + 1) p1)∧W.cell? ⟨w.heap.size,1,none⟩=some (.slice P2 n2 p2)) ∧
        (W.cell? ⟨w.heap.size + 1,0,none⟩=some (.int .i64 o.id)∧W.cell? ⟨w.heap.size + 1,1,none⟩=some (.int .i64 o.acc)∧W.cell? ⟨w.heap.size + 1,2,none⟩=some (.int .i64 o.side)∧W.cell? ⟨w.heap.size + 1,3,none⟩=some (.int .i64 o.price)∧W.cell? ⟨w.heap.size + 1,4,none⟩=some (.int .i64 o.qty)) ∧
        (W.cell? ⟨bx,ox,none⟩=some (.int .i64 x'.id)∧W.cell? ⟨bx,ox + 1,none⟩=some (.int .i64 x'.acc)∧W.cell? ⟨bx,ox + 2,none⟩=some (.int .i64 x'.side)∧W.cell? ⟨bx,ox + 3,none⟩=some (.int .i64 x'.price)∧W.cell? ⟨bx,ox + 4,none⟩=some (.int .i64 x'.qty)))
        (first | (exact KS.out _ (by assumption)) | (exact KS.out _ (below_drew (by assumption))))
        ((first | (go_at_call 137;go_split_ands;(with_reducible refine (crosses_any o x'.price _).mono ?_);rintro e W' ⟨rfl,hb⟩;have hB:=below_next hb (by assumption))))
       go_split_ands
       have HT:Below w9.heap.size w9 W':=by assumption
       rcases bool_cs (crossesB o x'.price) with hp | hp
       rotate_left
       ·have HE6:=Lib.hid (HE5.out.trans (if_pos hp))
        rw [hp]
        obtain ⟨⟨y0,y1⟩,g0,g1⟩:=(N3.below HT (by omega)).c2
        have hbT:=hbw9.trans (HT.mono (by omega))
        clear KS k0 k1 l0 l1 l2 l3 l4 x0 x1 x2 x3 x4 z0 z1 f0 f1 kf0 kf1
        go_wp2_with fail
        refine bodyPost_ret (v:=.tuple #[.agg #[.slice none 0 0,.slice none 0 0],.int .i64 (9)]) (by simp [results,Try.results64,go_sem, *]) rfl ?_
        exact ret_zero HE6.out (Below.setCell (Below.setCell hbT (by dsimp only;omega) _) (by dsimp only;omega) _)
       ·have HE5:=Lib.hid (HE5.out.trans (if_neg (by rw [hp];exact Bool.false_ne_true)))
        rw [hp]
        clear KS k0 k1 l0 l1 l2 l3 l4 x0 x1 x2 x3 x4 z0 z1 f0 f1 kf0 kf1
        have hsT:=HT.size
        obtain ⟨T1,T2⟩:=HPL.out _ HT
        have M1:=N1.below HT (by omega)
        have M2:=N2.below HT (by omega)
        have M3:=N3.below HT (by omega)
        have hbT:=hbw9.trans (HT.mono (by omega))
        clear N1 N2 N3 HPL hbw9
        obtain ⟨⟨k0,k1⟩,_⟩:=M1.c2
        obtain ⟨⟨l0,l1,l2,l3,l4⟩,_⟩:=M2.c5
        go_wp2_with fail
        refine (idx_rest P2 n2 p2 b.asks o (w.heap.size + 1) _ _ (Rd.of_own T2) (Nat.le_refl _) (by omega) ⟨l0,l1,l2,l3,l4⟩).mono ?_
        rintro e wi ⟨rfl,hbi⟩
        have hsi:=hbi.size
        have U1:=own_below T1 hbi (Nat.le_refl _)
        have U2:=own_below T2 hbi (Nat.le_refl _)
        have Q1:=M1.below hbi (by omega)
        have Q2:=M2.below hbi (by omega)
        have Q3:=M3.below hbi (by omega)
        have hbI:=hbT.trans (hbi.mono (by omega))
        clear T1 T2 M1 M2 M3 hbT hbi k0 k1 l0 l1 l2 l3 l4
        obtain ⟨⟨k0,k1⟩,kf0,kf1⟩:=Q1.c2
        obtain ⟨⟨l0,l1,l2,l3,l4⟩,_⟩:=Q2.c5
        have HO':=Lib.hid U2
        have HX':=Lib.hid U1
        have hlO:(b.asks).length=n2:=by have:=(U2).1;rw [odCells_len] at this;omega
        clear U1 U2
        rcases idx_cases o (b.asks) with ⟨hi,hins⟩ | ⟨K,hi,hK,hins⟩
        ·rw [hi]
         rw [hlO] at hins
         have hKn:n2 ≤ n2:=Nat.le_refl _
         have HF:=Lib.hid (show restOf b o=(mkA b (insAt (b.asks) n2 o),0) by rw [HE5.out,HY.out.2.1,hins,HY.out.2.2])
         clear hi hins hlO HY
         have hz6:w.heap.size + 3 ≤ w6.heap.size:=by omega
         have hz7:w6.heap.size ≤ wi.heap.size:=by omega
         have hz8:w.heap.size < wi.heap.size:=by omega
         have hz9:w.heap.size + 1 < wi.heap.size:=by omega
         have hb66:Below w6.heap.size wi wi:=Below.refl _ _
         have KS2:Hid (∀ W,Below w6.heap.size wi W→Below w.heap.size w W∧W.frozen? ⟨w.heap.size,1,none⟩=false∧W.cell? ⟨w.heap.size,1,none⟩=some (curV W ⟨w.heap.size,1,none⟩)∧(W.cell? ⟨w.heap.size + 1,0,none⟩=some (.int .i64 o.id)∧W.cell? ⟨w.heap.size + 1,1,none⟩=some (.int .i64 o.acc)∧W.cell? ⟨w.heap.size + 1,2,none⟩=some (.int .i64 o.side)∧W.cell? ⟨w.heap.size + 1,3,none⟩=some (.int .i64 o.price)∧W.cell? ⟨w.heap.size + 1,4,none⟩=some (.int .i64 o.qty))):=by
          intro W hW
          exact ⟨hbI.trans (hW.mono (by omega)),(Q1.below hW (by omega)).frozen 1,curV_some (by rw [(Q1.below hW (by omega)).cell 1];rfl),(Q2.below hW (by omega)).c5.1⟩
         have KT2:Hid (∀ W v,Below w6.heap.size wi W→Below w.heap.size w (W.setCell ⟨w.heap.size,1,none⟩ v)∧(W.setCell ⟨w.heap.size,1,none⟩ v).frozen? ⟨w.heap.size,1,none⟩=false∧(W.setCell ⟨w.heap.size,1,none⟩ v).cell? ⟨w.heap.size,1,none⟩=some (curV (W.setCell ⟨w.heap.size,1,none⟩ v) ⟨w.heap.size,1,none⟩)∧((W.setCell ⟨w.heap.size,1,none⟩ v).cell? ⟨w.heap.size + 1,0,none⟩=some (.int .i64 o.id)∧(W.setCell ⟨w.heap.size,1,none⟩ v).cell? ⟨w.heap.size + 1,1,none⟩=some (.int .i64 o.acc)∧(W.setCell ⟨w.heap.size,1,none⟩ v).cell? ⟨w.heap.size + 1,2,none⟩=some (.int .i64 o.side)∧(W.setCell ⟨w.heap.size,1,none⟩ v).cell? ⟨w.heap.size + 1,3,none⟩=some (.int .i64 o.price)∧(W.setCell ⟨w.heap.size,1,none⟩ v).cell? ⟨w.heap.size + 1,4,none⟩=some (.int .i64 o.qty))):=by
          intro W v hW
          exact ⟨Below.setCell (hbI.trans (hW.mono (by omega))) (Nat.le_refl _) _,((Q1.below hW (by omega)).set_ 1 v).frozen 1,curV_some (by rw [((Q1.below hW (by omega)).set_ 1 v).cell 1];rfl),((Q2.below hW (by omega)).far (by simp) v).c5.1⟩
         have KA:Hid (∀ ob,Below w6.heap.size wi (wi.alloc ob).drew):=fun ob=>below_drewN ((Below.refl _ _).alloc hz7 ob) 1
         have KD:Hid (Below w6.heap.size wi wi.drew):=below_drewN (Below.refl _ _) 1
         have HVB:Hid (Blk ((wi.alloc (.cells #[.int .i64 o.id,.int .i64 o.acc,.int .i64 o.side,.int .i64 o.price,.int .i64 o.qty] 71)).drew) wi.heap.size 71 #[.int .i64 o.id,.int .i64 o.acc,.int .i64 o.side,.int .i64 o.price,.int .i64 o.qty]):=Blk.new wi _ _
         have hal:Below wi.heap.size wi ((wi.alloc (.cells #[.int .i64 o.id,.int .i64 o.acc,.int .i64 o.side,.int .i64 o.price,.int .i64 o.qty] 71)).drew):=below_drewN ((Below.refl wi.heap.size wi).alloc (Nat.le_refl _) _) 1
         have HOA:=Lib.hid (own_below HO'.out hal (Nat.le_refl _))
         have HXA:=Lib.hid (own_below HX'.out hal (Nat.le_refl _))
         have HNE:Hid ((Value.slice P2 n2 p2).ownBlock ≠ some wi.heap.size):=fun e=>by have:=(World.ownsRow.lt HO'.out _ e).2;omega
         have HHZ:Hid (w6.heap.size ≤ ((wi.alloc (.cells #[.int .i64 o.id,.int .i64 o.acc,.int .i64 o.side,.int .i64 o.price,.int .i64 o.qty] 71)).drew).heap.size):=Nat.le_trans hz7 hal.size
         have hcv:curV wi.drew ⟨w.heap.size,1,none⟩=.slice P2 n2 p2:=by unfold curV;rw [show wi.drew.cell? ⟨w.heap.size,1,none⟩=some (.slice P2 n2 p2) from Q1.cell 1];rfl
         have hcv2:curV ((wi.alloc (.cells #[.int .i64 o.id,.int .i64 o.acc,.int .i64 o.side,.int .i64 o.price,.int .i64 o.qty] 71)).drew) ⟨w.heap.size,1,none⟩=.slice P2 n2 p2:=by
          unfold curV;rw [show ((wi.alloc (.cells #[.int .i64 o.id,.int .i64 o.acc,.int .i64 o.side,.int .i64 o.price,.int .i64 o.qty] 71)).drew).cell? ⟨w.heap.size,1,none⟩=some (.slice P2 n2 p2) from (Q1.below hal (by omega)).cell 1];rfl
         have WN:Hid (∀ W,Below w6.heap.size wi W→W.frozen? ⟨w.heap.size,1,none⟩=false∧W.cell? ⟨w.heap.size,1,none⟩=some (.slice P2 n2 p2)):=fun W hW=>⟨(Q1.below hW (by omega)).frozen 1,by rw [(Q1.below hW (by omega)).cell 1];rfl⟩
         have HCV2:=Lib.hid hcv2
         have HCV:=Lib.hid hcv
         clear hal hb66 hcv hcv2
         go_wp2_with fail
         go_region_with ((go_at_call 140;(with_reducible refine (insert_od w6.heap.size (.slice P2 n2 p2) n2 n2 (b.asks) o wi.heap.size 1 71 _ HOA.out HHZ.out HVB.out (Nat.le_refl _) (by simp only [maxLen];omega) HNE.out (by omega) (by omega)).mono ?_);rintro e Wn ⟨v',rfl,hown',hbl',honly'⟩;obtain ⟨PN,pN,rfl⟩:=own_shape hown';have hB':=(KA.out _).trans hbl';have hf':=WN.out _ hB'))
         all_goals
          have HBN:=Lib.hid hB'
          have HON:=Lib.hid hown'
          have HXN:=Lib.hid (own_only HXA.out honly' (fun g h e=>HD.out _ h e))
          clear hB' hown' honly' hbl'
          obtain ⟨Wf,hWf⟩:∃ x,x=Wn.setCell ⟨w.heap.size,1,none⟩ (.slice PN (n2 + 1) pN):=⟨_,rfl⟩
          rw [← hWf]
          have X1:Blk Wf w.heap.size 62 #[(.slice (some ⟨bx,ox,none⟩) (m + 1) p1),(.slice PN (n2 + 1) pN)]:=by rw [hWf];exact (Q1.below HBN.out (by omega)).set_ 1 _
          have X3:Blk Wf (w.heap.size + 1 + 1) 62 #[.slice none 0 0,.slice none 0 0]:=by rw [hWf];exact (Q3.below HBN.out (by omega)).far (by simp;omega) _
          have HR0:=Lib.hid (show Wf.ownsRow w6.heap.size 71 5 (.slice PN (n2 + 1) pN) (n2 + 1) (odCells (insAt (b.asks) n2 o)) by rw [hWf];exact ownsRow_setCell_below HON.out (by dsimp only;omega) _)
          have HR1:=Lib.hid (ownsRow_setCell_below HXN.out (show (⟨w.heap.size,1,none⟩:Addr).block < w6.heap.size by dsimp only;omega) (.slice PN (n2 + 1) pN))
          rw [← hWf] at HR1
          have hbf:Below w.heap.size w Wf:=by rw [hWf];exact Below.setCell (hbI.trans (HBN.out.mono (by omega))) (Nat.le_refl _) _
          clear KS2 KT2 KA KD HVB HOA HXA HNE HHZ k0 k1 kf0 kf1 l0 l1 l2 l3 l4 hWf
          obtain ⟨⟨k0,k1⟩,_⟩:=X1.c2
          obtain ⟨⟨z0,z1⟩,f0,f1⟩:=X3.c2
          go_wp2_with fail
          refine bodyPost_ret (v:=.tuple #[.agg #[(.slice (some ⟨bx,ox,none⟩) (m + 1) p1),(.slice PN (n2 + 1) pN)],.int .i64 0]) (by simp [results,Try.results64,go_sem, *]) rfl ?_
          refine ret_own HF.out (ownBk_mk (own_set2 HR1.out (by omega) (by omega) _ _) (own_set2 HR0.out (by omega) (by omega) _ _)) (Below.setCell (Below.setCell hbf (by dsimp only;omega) _) (by dsimp only;omega) _)
        ·rw [hi]
         rw [hlO] at hK
         have HF:=Lib.hid (show restOf b o=(mkA b (insAt (b.asks) K o),0) by rw [HE5.out,HY.out.2.1,hins,HY.out.2.2])
         clear hi hins hlO HY
         have hz6:w.heap.size + 3 ≤ w6.heap.size:=by omega
         have hz7:w6.heap.size ≤ wi.heap.size:=by omega
         have hz8:w.heap.size < wi.heap.size:=by omega
         have hz9:w.heap.size + 1 < wi.heap.size:=by omega
         have hb66:Below w6.heap.size wi wi:=Below.refl _ _
         have KS2:Hid (∀ W,Below w6.heap.size wi W→Below w.heap.size w W∧W.frozen? ⟨w.heap.size,1,none⟩=false∧W.cell? ⟨w.heap.size,1,none⟩=some (curV W ⟨w.heap.size,1,none⟩)∧(W.cell? ⟨w.heap.size + 1,0,none⟩=some (.int .i64 o.id)∧W.cell? ⟨w.heap.size + 1,1,none⟩=some (.int .i64 o.acc)∧W.cell? ⟨w.heap.size + 1,2,none⟩=some (.int .i64 o.side)∧W.cell? ⟨w.heap.size + 1,3,none⟩=some (.int .i64 o.price)∧W.cell? ⟨w.heap.size + 1,4,none⟩=some (.int .i64 o.qty))):=by
          intro W hW
          exact ⟨hbI.trans (hW.mono (by omega)),(Q1.below hW (by omega)).frozen 1,curV_some (by rw [(Q1.below hW (by omega)).cell 1];rfl),(Q2.below hW (by omega)).c5.1⟩
         have KT2:Hid (∀ W v,Below w6.heap.size wi W→Below w.heap.size w (W.setCell ⟨w.heap.size,1,none⟩ v)∧(W.setCell ⟨w.heap.size,1,none⟩ v).frozen? ⟨w.heap.size,1,none⟩=false∧(W.setCell ⟨w.heap.size,1,none⟩ v).cell? ⟨w.heap.size,1,none⟩=some (curV (W.setCell ⟨w.heap.size,1,none⟩ v) ⟨w.heap.size,1,none⟩)∧((W.setCell ⟨w.heap.size,1,none⟩ v).cell? ⟨w.heap.size + 1,0,none⟩=some (.int .i64 o.id)∧(W.setCell ⟨w.heap.size,1,none⟩ v).cell? ⟨w.heap.size + 1,1,none⟩=some (.int .i64 o.acc)∧(W.setCell ⟨w.heap.size,1,none⟩ v).cell? ⟨w.heap.size + 1,2,none⟩=some (.int .i64 o.side)∧(W.setCell ⟨w.heap.size,1,none⟩ v).cell? ⟨w.heap.size + 1,3,none⟩=some (.int .i64 o.price)∧(W.setCell ⟨w.heap.size,1,none⟩ v).cell? ⟨w.heap.size + 1,4,none⟩=some (.int .i64 o.qty))):=by
          intro W v hW
          exact ⟨Below.setCell (hbI.trans (hW.mono (by omega))) (Nat.le_refl _) _,((Q1.below hW (by omega)).set_ 1 v).frozen 1,curV_some (by rw [((Q1.below hW (by omega)).set_ 1 v).cell 1];rfl),((Q2.below hW (by omega)).far (by simp) v).c5.1⟩
         have KA:Hid (∀ ob,Below w6.heap.size wi (wi.alloc ob).drew):=fun ob=>below_drewN ((Below.refl _ _).alloc hz7 ob) 1
         have KD:Hid (Below w6.heap.size wi wi.drew):=below_drewN (Below.refl _ _) 1
         have HVB:Hid (Blk ((wi.alloc (.cells #[.int .i64 o.id,.int .i64 o.acc,.int .i64 o.side,.int .i64 o.price,.int .i64 o.qty] 71)).drew) wi.heap.size 71 #[.int .i64 o.id,.int .i64 o.acc,.int .i64 o.side,.int .i64 o.price,.int .i64 o.qty]):=Blk.new wi _ _
         have hal:Below wi.heap.size wi ((wi.alloc (.cells #[.int .i64 o.id,.int .i64 o.acc,.int .i64 o.side,.int .i64 o.price,.int .i64 o.qty] 71)).drew):=below_drewN ((Below.refl wi.heap.size wi).alloc (Nat.le_refl _) _) 1
         have HOA:=Lib.hid (own_below HO'.out hal (Nat.le_refl _))
         have HXA:=Lib.hid (own_below HX'.out hal (Nat.le_refl _))
         have HNE:Hid ((Value.slice P2 n2 p2).ownBlock ≠ some wi.heap.size):=fun e=>by have:=(World.ownsRow.lt HO'.out _ e).2;omega
         have HHZ:Hid (w6.heap.size ≤ ((wi.alloc (.cells #[.int .i64 o.id,.int .i64 o.acc,.int .i64 o.side,.int .i64 o.price,.int .i64 o.qty] 71)).drew).heap.size):=Nat.le_trans hz7 hal.size
         have hcv:curV wi.drew ⟨w.heap.size,1,none⟩=.slice P2 n2 p2:=by unfold curV;rw [show wi.drew.cell? ⟨w.heap.size,1,none⟩=some (.slice P2 n2 p2) from Q1.cell 1];rfl
         have hcv2:curV ((wi.alloc (.cells #[.int .i64 o.id,.int .i64 o.acc,.int .i64 o.side,.int .i64 o.price,.int .i64 o.qty] 71)).drew) ⟨w.heap.size,1,none⟩=.slice P2 n2 p2:=by
          unfold curV;rw [show ((wi.alloc (.cells #[.int .i64 o.id,.int .i64 o.acc,.int .i64 o.side,.int .i64 o.price,.int .i64 o.qty] 71)).drew).cell? ⟨w.heap.size,1,none⟩=some (.slice P2 n2 p2) from (Q1.below hal (by omega)).cell 1];rfl
         have WN:Hid (∀ W,Below w6.heap.size wi W→W.frozen? ⟨w.heap.size,1,none⟩=false∧W.cell? ⟨w.heap.size,1,none⟩=some (.slice P2 n2 p2)):=fun W hW=>⟨(Q1.below hW (by omega)).frozen 1,by rw [(Q1.below hW (by omega)).cell 1];rfl⟩
         have HCV2:=Lib.hid hcv2
         have HCV:=Lib.hid hcv
         clear hal hb66 hcv hcv2
         go_wp2_with fail
         go_region_with ((go_at_call 140;(with_reducible refine (insert_od w6.heap.size (.slice P2 n2 p2) n2 K (b.asks) o wi.heap.size 1 71 _ HOA.out HHZ.out HVB.out (Nat.le_refl _) (by simp only [maxLen];omega) HNE.out (by omega) (by omega)).mono ?_);rintro e Wn ⟨v',rfl,hown',hbl',honly'⟩;obtain ⟨PN,pN,rfl⟩:=own_shape hown';have hB':=(KA.out _).trans hbl';have hf':=WN.out _ hB'))
         all_goals
          have HBN:=Lib.hid hB'
          have HON:=Lib.hid hown'
          have HXN:=Lib.hid (own_only HXA.out honly' (fun g h e=>HD.out _ h e))
          clear hB' hown' honly' hbl'
          obtain ⟨Wf,hWf⟩:∃ x,x=Wn.setCell ⟨w.heap.size,1,none⟩ (.slice PN (n2 + 1) pN):=⟨_,rfl⟩
          rw [← hWf]
          have X1:Blk Wf w.heap.size 62 #[(.slice (some ⟨bx,ox,none⟩) (m + 1) p1),(.slice PN (n2 + 1) pN)]:=by rw [hWf];exact (Q1.below HBN.out (by omega)).set_ 1 _
          have X3:Blk Wf (w.heap.size + 1 + 1) 62 #[.slice none 0 0,.slice none 0 0]:=by rw [hWf];exact (Q3.below HBN.out (by omega)).far (by simp;omega) _
          have HR0:=Lib.hid (show Wf.ownsRow w6.heap.size 71 5 (.slice PN (n2 + 1) pN) (n2 + 1) (odCells (insAt (b.asks) K o)) by rw [hWf];exact ownsRow_setCell_below HON.out (by dsimp only;omega) _)
          have HR1:=Lib.hid (ownsRow_setCell_below HXN.out (show (⟨w.heap.size,1,none⟩:Addr).block < w6.heap.size by dsimp only;omega) (.slice PN (n2 + 1) pN))
          rw [← hWf] at HR1
          have hbf:Below w.heap.size w Wf:=by rw [hWf];exact Below.setCell (hbI.trans (HBN.out.mono (by omega))) (Nat.le_refl _) _
          clear KS2 KT2 KA KD HVB HOA HXA HNE HHZ k0 k1 kf0 kf1 l0 l1 l2 l3 l4 hWf
          obtain ⟨⟨k0,k1⟩,_⟩:=X1.c2
          obtain ⟨⟨z0,z1⟩,f0,f1⟩:=X3.c2
          go_wp2_with fail
          refine bodyPost_ret (v:=.tuple #[.agg #[(.slice (some ⟨bx,ox,none⟩) (m + 1) p1),(.slice PN (n2 + 1) pN)],.int .i64 0]) (by simp [results,Try.results64,go_sem, *]) rfl ?_
          refine ret_own HF.out (ownBk_mk (own_set2 HR1.out (by omega) (by omega) _ _) (own_set2 HR0.out (by omega) (by omega) _ _)) (Below.setCell (Below.setCell hbf (by dsimp only;omega) _) (by dsimp only;omega) _)
 ·have HE1:=Lib.hid (HE.out.trans (if_pos he))
  have he':(bookErr b != 0)=true:=by simpa using he
  obtain ⟨⟨z0,z1⟩,f0,f1⟩:=C3.c2
  clear he HE
  go_wp2_with fail
  refine bodyPost_ret (v:=.tuple #[.agg #[.slice none 0 0,.slice none 0 0],.int .i64 (bookErr b)]) (by simp [results,Try.results64,go_sem, *]) rfl ?_
  exact ret_zero HE1.out (Below.setCell (Below.setCell hbw4 (by dsimp only;omega) _) (by dsimp only;omega) _)
end
end Go.Proofs.Ytockodmbhnlheaa
