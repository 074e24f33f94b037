/-
  THE LAW MatchSays: holds for every input, with no condition. (Joined texts: RTakeW.)
-/
import Derived.Test.YtockodmbhnlheaaMatchSaysN
import Derived.Test.YtockodmbhnlheaaMatchSaysO
import Derived.Test.YtockodmbhnlheaaProg
import Derived.Test.YtockodmbhnlheaaMatchSaysA
import Derived.Maps.AppendAt
import Derived.Laws.AppendOwnNone
import Derived.OwnWalk
import Derived.Test.YtockodmbhnlheaaMatchSaysC
import Derived.Deep.RegionHeld3
import Derived.Test.YtockodmbhnlheaaMatchSaysB
import Derived.Lib.AppendZeros
import Derived.Test.YtockodmbhnlheaaMatchSaysF
import Derived.Test.YtockodmbhnlheaaMatchSaysE
import Derived.Laws.CopyOwn
import Derived.Lib.AppendZerosOnto
import Derived.Lib.Overlaps
import Derived.Laws.Externs
import Derived.Deep.RegionLaw
import Derived.Test.YtockodmbhnlheaaMatchSaysM
import Derived.Maps.Own
import Derived.Maps.OwnOps
import Derived.Maps.Views
import Derived.WalkKit
import Derived.Deep.Draws
import Derived.IntWalk
import Derived.Deep.DeepCutAuto
import Derived.Deep.Cut
import Derived.Test.YtockodmbhnlheaaMatchSaysD
import Derived.Test.YtockodmbhnlheaaMatchSaysK
import Derived.Shelf.SlSortFuncK.SWK
import Derived.Lib.Hide
import Derived.Test.YtockodmbhnlheaaMatchSaysL
import Derived.Test.YtockodmbhnlheaaMatchSaysJ
import Derived.Shelf.GgSortFunc.SmallK
import Derived.Shelf.GgSortMore.Stable
import Derived.Deep.QuietTactic
import Derived.BigQuiet
import Derived.WalkSpells
import Derived.WalkLawsBesides
import Derived.Sort.WalkA
import Derived.Sort.LotA
namespace Go.Proofs.Ytockodmbhnlheaa
section
open Go.RowKit
def stepB (o:Od) (l:List Od) (j:Nat) (x:Od):Bool:=okT o x && decide (bestV o l j = -1)
theorem step_yes {o:Od} {l:List Od} {j:Nat} {x:Od} (hx:l[j]?=some x) (h:stepB o l j x=true):bestV o l (j + 1)=j:=by
 unfold stepB at h
 simp only [Bool.and_eq_true,decide_eq_true_eq] at h
 exact bestV_first hx h.1 h.2
theorem step_no {o:Od} {l:List Od} {j:Nat} {x:Od} (hx:l[j]?=some x) (h:stepB o l j x=false):bestV o l (j + 1)=bestV o l j:=by
 unfold stepB at h
 rcases bestV_cases o l j with hb | ⟨k,hb⟩
 ·rw [hb] at h
  simp only [decide_true,Bool.and_true] at h
  exact bestV_no hx h
 ·rw [bestV_keep hx hb,hb]
theorem TkSt.price {o:Od} {A Z R C:List Od} (h:TkSt o A Z R C) {x:Od} (hx:x ∈ A ++ (Z ++ R) ++ C) (hs:x.side ≠ o.side) (hq:0 < x.qty):1 ≤ x.price∧x.price ≤ 10000:=by
 rcases List.mem_append.1 hx with hx | hx
 ·rcases List.mem_append.1 hx with hx | hx
  ·exact absurd (h.a x hx) hs
  ·rcases List.mem_append.1 hx with hx | hx
   ·have:=h.z x hx;omega
   ·exact (ordErr_ok.1 (h.r.ok x hx)).2.2.2.1
 ·exact absurd (h.c x hx) hs
theorem InOrder.no {o:Od} {l:List Od} {j k:Nat} {x:Od} (h:InOrder o l) (hx:l[j]?=some x) (hok:okT o x=true) (hb:bestV o l j=k):∃ a,l[k]?=some a∧aheadB x a=false:=by
 obtain ⟨h1,a,h2,h3⟩:=bestV_some hb
 exact ⟨a,h2,h k j a x h1 h2 hx h3 hok⟩
theorem takeOf_eq {b:Bk} {o:Od} {R:List Od} {F:List Fl} {left:Int} {met:Bool} (hb:BookOk b) (ho:ordErr o=0) (h:takeL o o.qty (otherOf b o.side)=(R,F,left,met)):takeOf b o=(setOther b o.side R,F,left,met,0):=by
 unfold takeOf
 rw [if_neg (by have:=bookErr_ok.2 hb;omega),if_neg (by omega),h]
theorem other_le {b:Bk} (hb:BookOk b) (s:Int):(otherOf b s).length ≤ 40:=by
 have:=hb.len
 unfold otherOf;split <;> omega
theorem own_od {w:World} {base n c k:Nat} {A:Option Addr} {l:List Od} {x:Od} (h:w.ownsRow base 71 5 (.slice A n c) n (odCells l)) (hx:l[k]?=some x) :
  ∃ g,A=some ⟨g,0,none⟩∧base ≤ g∧g < w.heap.size∧(w.cell? ⟨g,k * 5,none⟩=some (.int .i64 x.id)∧w.cell? ⟨g,k * 5 + 1,none⟩=some (.int .i64 x.acc)∧w.cell? ⟨g,k * 5 + 2,none⟩=some (.int .i64 x.side) ∧
   w.cell? ⟨g,k * 5 + 3,none⟩=some (.int .i64 x.price)∧w.cell? ⟨g,k * 5 + 4,none⟩=some (.int .i64 x.qty))∧w.frozen? ⟨g,k * 5 + 4,none⟩=false:=by
 have hk:k < l.length:=(List.getElem?_eq_some_iff.1 hx).1
 obtain ⟨hl,⟨_,h0⟩ | ⟨g,cap,cur,hv,hbg,hg,hnc,hcm,hcs,hct⟩⟩:=h
 ·rw [odCells_len] at hl;omega
 ·injection hv with e1 _ e3
  rw [odCells_len] at hl
  have hG:Blk w g 71 cur:=hg
  obtain ⟨c0,c1,c2,c3,c4⟩:=odCells_at hx
  rw [← hct] at c0 c1 c2 c3 c4
  have key:∀ i u,(cur.toList.take (n * 5))[i]?=some u→w.cell? ⟨g,i,none⟩=some u:=by
   intro i u hu
   rw [hG.cell i]
   rw [List.getElem?_take] at hu
   split at hu
   ·rw [← hu,Array.getElem?_toList]
   ·cases hu
  exact ⟨g,e1,hbg,hG.lt,⟨key _ _ c0,key _ _ c1,key _ _ c2,key _ _ c3,key _ _ c4⟩,hG.frozen _⟩
theorem take_at {P:Program} {ops:Array Oper} {Q:Exit→Act→World→Prop} {md:Region.Mode} {S:World→Prop} {i:Nat} {oi:Oper} (d:Option Tmp) {v:Value} {fuel:Nat} {listed:Array Bool} {a:Act} {w:World} (hi:ops[i]?=some oi) (hd:oi.dst=d)
  (hs:Region.noSelect ops=true) (hf:Region.free md ops listed i=true) (hr:(Region.ready md ops listed).contains i=true)
  (hQ:∀ c a w,Q (.panic c) (a.put d v) w→Q (.panic c) a w) (hy:YieldsIf P ops S oi v a) (hS:S w)
  (h:wpAnyH P md ops Q S fuel (listed.setIfInBounds i true) (a.put d v) w):wpAnyH P md ops Q S (fuel + 1) listed a w:=by
 subst hd;exact wpAnyH_take hi hs hf hr hQ hy hS h
set_option maxHeartbeats 4000000 in
set_option maxRecDepth 100000 in
theorem rtaken_any (b:Bk) (o:Od) (A A':Option Addr) (c c' B:Nat) (w:World) (h:BkR w B A A' c c' b) (hB:B ≤ w.heap.size) (hbk:BookOk b) (ho:ordErr o=0) :
  Calls Try.prog 92 #[.agg #[.slice A b.bids.length c,.slice A' b.asks.length c'],.agg #[.int .i64 o.id,.int .i64 o.acc,.int .i64 o.side,.int .i64 o.price,.int .i64 o.qty]] w fun e w'=>∃ v vf,e=.returned (.tuple #[v,vf,.int .i64 (takeOf b o).2.2.1,.bool (takeOf b o).2.2.2.1])∧OwnBk w' w.heap.size v (takeOf b o).1∧w'.ownsRow w.heap.size 87 7 vf (takeOf b o).2.1.length (flCells (takeOf b o).2.1)∧Below w.heap.size w w':=by
 have hlen:=hbk.len
 have HBK:=Lib.hid hbk
 have HO:=Lib.hid ho
 clear hbk ho
 go_enter Try.func92,Try.ntmps92
 go_wp2_with fail
 obtain ⟨w2,hw2⟩:∃ x,x=((w.alloc (.cells #[.slice A b.bids.length c,.slice A' b.asks.length c'] 62)).alloc (.cells #[.int .i64 o.id,.int .i64 o.acc,.int .i64 o.side,.int .i64 o.price,.int .i64 o.qty] 71)).alloc (.cells #[.slice none 0 0,.slice none 0 0] 62):=⟨_,rfl⟩
 have hb2:Below w.heap.size w w2:=by rw [hw2];exact (((Below.refl _ _).alloc (Nat.le_refl _) _).alloc (by simp) _).alloc (by simp;omega) _
 have hs2:w2.heap.size=w.heap.size + 1 + 1 + 1:=by rw [hw2];simp
 have X1:Blk w2 w.heap.size 62 #[.slice A b.bids.length c,.slice A' b.asks.length c']:=by rw [hw2];exact ((Blk.new w _ _).alloc _).alloc _
 have X2:Blk w2 (w.heap.size + 1) 71 #[.int .i64 o.id,.int .i64 o.acc,.int .i64 o.side,.int .i64 o.price,.int .i64 o.qty]:=by rw [hw2];exact (Blk.new_at _ _ _ _ (by simp)).alloc _
 have X3:Blk w2 (w.heap.size + 1 + 1) 62 #[.slice none 0 0,.slice none 0 0]:=by rw [hw2];exact Blk.new_at _ _ _ _ (by simp)
 rw [← hw2]
 have hr:=h.below (hb2.mono hB)
 clear hw2
 refine (rorders_any b A A' c c' B w2 hr (by omega) (by omega)).mono ?_
 rintro e w3 ⟨v,rfl,hown,hb3⟩
 have hs3:=hb3.size
 obtain ⟨A1,c1,rfl⟩:=own_shape hown
 have HTK:Hid (RTk w w3 w2.heap.size #[.slice A b.bids.length c,.slice A' b.asks.length c'] o (.slice A1 (b.bids.length + b.asks.length) c1) (b.bids.length + b.asks.length) (b.bids ++ b.asks) (.slice none 0 0) []) :=
  Lib.hid ⟨hb2.trans (hb3.mono (by omega)),X1.below hb3 X1.lt,X2.below hb3 X2.lt,X3.below hb3 X3.lt,by omega,hs3,hown,World.ownsRow_nil _ _ _ _,fun k _=>nofun⟩
 obtain ⟨n1,hn1⟩:∃ n,n=b.bids.length + b.asks.length:=⟨_,rfl⟩
 rw [← hn1] at HTK hlen
 rw [← hn1]
 have HN:=Lib.hid hn1
 clear hn1 X1 X2 X3 hr hown hb3 hb2
 obtain ⟨⟨k0,k1,k2,k3,k4⟩,-⟩:=HTK.out.two.c5
 go_wp2_with fail
 go_loopw [5,6,7] (fun vf vleft vmet wr=>∃ (Z R:List Od) (F:List Fl) (left:Int),vleft=.int .i64 left∧vmet=.bool false∧0 ≤ left∧left ≤ o.qty∧Hid (TkSt o (ownA b o) Z R (ownC b o))∧Hid (TkDone o (otherOf b o.side) F left R)∧Hid (Z.length + R.length=(otherOf b o.side).length)∧Hid (F.length ≤ Z.length∨left=0∧F.length ≤ Z.length + 1) ∧
   Hid (RTk w wr w2.heap.size #[.slice A b.bids.length c,.slice A' b.asks.length c'] o (.slice A1 n1 c1) n1 (ownA b o ++ (Z ++ R) ++ ownC b o) vf F)) (fun _ vleft _ _=>(intOf vleft).toNat)
 case atStart =>
  have hq:=(ordErr_ok.1 HO.out).2.2.2.2
  exact ⟨[],otherOf b o.side,[],o.qty,rfl,rfl,by omega,by omega,Lib.hid (tkSt_start HBK.out HO.out),Lib.hid (TkDone.start _ _),Lib.hid (by simp),Lib.hid (.inl (by simp)),by rw [parts_of];exact HTK⟩
 case round =>
  obtain ⟨Z,R,F,left,rfl,rfl,hl0,hlq,HST,HDN,HZL,HFZ,HT⟩:=hrel
  obtain ⟨l,hl⟩:∃ l,l=ownA b o ++ (Z ++ R) ++ ownC b o:=⟨_,rfl⟩
  rw [← hl] at HT
  have HLE:=Lib.hid hl
  clear hl
  obtain ⟨AF,cF,rfl⟩:=own_shape HT.out.rowF
  by_cases hl1:0 < left
  ·go_wp2_with fail
   go_loopw [22,9] (fun vi vb wr2=>∃ j:Nat,j ≤ n1∧vi=.int .i64 j∧vb=.int .i64 (bestV o l j)∧Below wr.heap.size wr wr2) (fun vi _ _=>n1 - (intOf vi).toNat)
   case atStart=>exact ⟨0,Nat.zero_le _,rfl,by rw [bestV_zero],Below.refl _ _⟩
   case round =>
    obtain ⟨j,hj,rfl,rfl,hbr⟩:=hrel
    obtain ⟨wi,rfl⟩:∃ wi,wi=wr:=⟨wr,rfl⟩
    have hws:=hbr.size
    have HTi:=Lib.hid (HT.out.below hbr)
    have HR:=Lib.hid (Rd.of_own HTi.out.row)
    by_cases hlt:j < n1
    ·obtain ⟨x,hx⟩:∃ x,l[j]?=some x:=⟨_,List.getElem?_eq_getElem (by rw [rdo_len HR.out];exact hlt)⟩
     obtain ⟨gl,rfl,hgl1,hgl2,⟨k0,k1,k2,k3,k4⟩,-⟩:=own_od HTi.out.row hx
     have HX:=Lib.hid hx
     have x1:=HTi.out.two.lt
     have hlow:=HTi.out.low
     have hhigh:=HTi.out.high
     clear hx
     go_upto_region 8 with (fail)
     obtain ⟨W2,hW2⟩:∃ W,W=wi.alloc (.cells #[.int .i64 x.id,.int .i64 x.acc,.int .i64 x.side,.int .i64 x.price,.int .i64 x.qty] 71):=⟨_,rfl⟩
     have hb2:Below wi.heap.size wi W2:=by rw [hW2];exact (Below.refl _ _).alloc (Nat.le_refl _) _
     have XE:Blk W2 wi.heap.size 71 #[.int .i64 x.id,.int .i64 x.acc,.int .i64 x.side,.int .i64 x.price,.int .i64 x.qty]:=by rw [hW2];exact Blk.new wi _ _
     have hs2':W2.heap.size=wi.heap.size + 1:=by rw [hW2];simp
     have XO:=HTi.out.two.below hb2 x1
     rw [← hW2]
     clear hW2 k0 k1 k2 k3 k4
     obtain ⟨⟨k0,k1,k2,k3,k4⟩,-⟩:=XE.c5
     obtain ⟨⟨q0,q1,q2,q3,q4⟩,-⟩:=XO.c5
     have h22:Below W2.heap.size W2 W2:=Below.refl _ _
     have HPX:Hid (x.side ≠ o.side→0 < x.qty→1 ≤ x.price∧x.price ≤ 10000):=Lib.hid (fun h1 h2=>HST.out.price (by rw [← HLE.out];exact List.mem_of_getElem? HX.out) h1 h2)
     have KS:Hid (∀ W,Below W2.heap.size W2 W→(W.cell? ⟨wi.heap.size,0,none⟩=some (.int .i64 x.id)∧W.cell? ⟨wi.heap.size,1,none⟩=some (.int .i64 x.acc)∧W.cell? ⟨wi.heap.size,2,none⟩=some (.int .i64 x.side)∧W.cell? ⟨wi.heap.size,3,none⟩=some (.int .i64 x.price)∧W.cell? ⟨wi.heap.size,4,none⟩=some (.int .i64 x.qty)) ∧
       (W.cell? ⟨w.heap.size + 1,0,none⟩=some (.int .i64 o.id)∧W.cell? ⟨w.heap.size + 1,1,none⟩=some (.int .i64 o.acc)∧W.cell? ⟨w.heap.size + 1,2,none⟩=some (.int .i64 o.side)∧W.cell? ⟨w.heap.size + 1,3,none⟩=some (.int .i64 o.price)∧W.cell? ⟨w.heap.size + 1,4,none⟩=some (.int .i64 o.qty))):=Lib.hid (fun W hW=>⟨(XE.below hW XE.lt).c5.1,(XO.below hW XO.lt).c5.1⟩)
     go_cut [9,54] (fun v9 v wx=>v9=.int .i64 (bestV o l j)∧v=.bool (stepB o l j x)∧Below W2.heap.size W2 wx)
     case first =>
      by_cases hsd:x.side=o.side
      ·have hs':(x.side != o.side)=false:=by simpa using hsd
       have HV:=Lib.hid (show stepB o l j x=false by unfold stepB okT;simp [hsd])
       clear hsd
       go_quiet (fail)
       go_wp2_with fail
       go_meet
       exact ⟨rfl,by rw [HV.out],below_drewN h22 _⟩
      ·have hs':(x.side != o.side)=true:=by simpa using hsd
       by_cases hq:0 < x.qty
       ·have HME:=Lib.hid (fun W=>rmeets_any o x.price W HO.out (HPX.out hsd hq))
        cases hc:crossesB o x.price with
        | false =>
         have HV:=Lib.hid (show stepB o l j x=false by unfold stepB okT;simp [hc])
         rw [hc] at HME
         clear hsd hc
         refine wp_region_held_drew (S:=fun W=>Below W2.heap.size W2 W) (by kernel_rfl) (below_drew h22) (fun hHeld=>?_)
         refine take_at (i:=0) (some 27) (v:=?_) rfl rfl (by kernel_rfl) (by kernel_rfl) (by kernel_rfl) (fun _ _ _ h=>h) (Or.inl ⟨by rfl,?_⟩) (by assumption) ?_
         rotate_left 1
         ·intro w hSw
          obtain ⟨⟨k0,k1,k2,k3,k4⟩,q0,q1,q2,q3,q4⟩:=KS.out _ hSw
          go_simp
          try with_reducible rfl
         simp only [Act.put,List.setIfInBounds_toArray,List.set_cons_zero,List.set_cons_succ]
         refine take_at (i:=1) (some 28) (v:=?_) rfl rfl (by kernel_rfl) (by kernel_rfl) (by kernel_rfl) (fun _ _ _ h=>h) (Or.inl ⟨by rfl,?_⟩) (by assumption) ?_
         rotate_left 1
         ·intro w hSw
          obtain ⟨⟨k0,k1,k2,k3,k4⟩,q0,q1,q2,q3,q4⟩:=KS.out _ hSw
          go_simp
          try with_reducible rfl
         simp only [Act.put,List.setIfInBounds_toArray,List.set_cons_zero,List.set_cons_succ]
         refine take_at (i:=2) (some 29) (v:=?_) rfl rfl (by kernel_rfl) (by kernel_rfl) (by kernel_rfl) (fun _ _ _ h=>h) (Or.inl ⟨by rfl,?_⟩) (by assumption) ?_
         rotate_left 1
         ·intro w hSw
          obtain ⟨⟨k0,k1,k2,k3,k4⟩,q0,q1,q2,q3,q4⟩:=KS.out _ hSw
          go_simp
          try with_reducible rfl
         simp only [Act.put,List.setIfInBounds_toArray,List.set_cons_zero,List.set_cons_succ]
         refine take_at (i:=3) (some 30) (v:=?_) rfl rfl (by kernel_rfl) (by kernel_rfl) (by kernel_rfl) (fun _ _ _ h=>h) (Or.inl ⟨by rfl,?_⟩) (by assumption) ?_
         rotate_left 1
         ·intro w hSw
          obtain ⟨⟨k0,k1,k2,k3,k4⟩,q0,q1,q2,q3,q4⟩:=KS.out _ hSw
          go_simp
          try with_reducible rfl
         simp only [Act.put,List.setIfInBounds_toArray,List.set_cons_zero,List.set_cons_succ]
         refine take_at (i:=4) (some 31) (v:=?_) rfl rfl (by kernel_rfl) (by kernel_rfl) (by kernel_rfl) (fun _ _ _ h=>h) (Or.inl ⟨by rfl,?_⟩) (by assumption) ?_
         rotate_left 1
         ·intro w hSw
          obtain ⟨⟨k0,k1,k2,k3,k4⟩,q0,q1,q2,q3,q4⟩:=KS.out _ hSw
          go_simp
          try with_reducible rfl
         simp only [Act.put,List.setIfInBounds_toArray,List.set_cons_zero,List.set_cons_succ]
         refine take_at (i:=5) (some 32) (v:=?_) rfl rfl (by kernel_rfl) (by kernel_rfl) (by kernel_rfl) (fun _ _ _ h=>h) (Or.inl ⟨by rfl,?_⟩) (by assumption) ?_
         rotate_left 1
         ·intro w hSw
          obtain ⟨⟨k0,k1,k2,k3,k4⟩,q0,q1,q2,q3,q4⟩:=KS.out _ hSw
          go_simp
          try with_reducible rfl
         simp only [Act.put,List.setIfInBounds_toArray,List.set_cons_zero,List.set_cons_succ]
         refine take_at (i:=6) (some 33) (v:=?_) rfl rfl (by kernel_rfl) (by kernel_rfl) (by kernel_rfl) (fun _ _ _ h=>h) (Or.inl ⟨by rfl,?_⟩) (by assumption) ?_
         rotate_left 1
         ·intro w hSw
          obtain ⟨⟨k0,k1,k2,k3,k4⟩,q0,q1,q2,q3,q4⟩:=KS.out _ hSw
          go_simp
          try with_reducible rfl
         simp only [Act.put,List.setIfInBounds_toArray,List.set_cons_zero,List.set_cons_succ]
         refine take_at (i:=7) (some 34) (v:=?_) rfl rfl (by kernel_rfl) (by kernel_rfl) (by kernel_rfl) (fun _ _ _ h=>h) (Or.inl ⟨by rfl,?_⟩) (by assumption) ?_
         rotate_left 1
         ·intro w hSw
          obtain ⟨⟨k0,k1,k2,k3,k4⟩,q0,q1,q2,q3,q4⟩:=KS.out _ hSw
          go_simp
          try with_reducible rfl
         simp only [Act.put,List.setIfInBounds_toArray,List.set_cons_zero,List.set_cons_succ]
         refine take_at (i:=8) (some 35) (v:=?_) rfl rfl (by kernel_rfl) (by kernel_rfl) (by kernel_rfl) (fun _ _ _ h=>h) (Or.inl ⟨by rfl,?_⟩) (by assumption) ?_
         rotate_left 1
         ·intro w hSw
          obtain ⟨⟨k0,k1,k2,k3,k4⟩,q0,q1,q2,q3,q4⟩:=KS.out _ hSw
          go_simp
          try with_reducible rfl
         simp only [Act.put,List.setIfInBounds_toArray,List.set_cons_zero,List.set_cons_succ]
         refine take_at (i:=9) (some 36) (v:=?_) rfl rfl (by kernel_rfl) (by kernel_rfl) (by kernel_rfl) (fun _ _ _ h=>h) (Or.inl ⟨by rfl,?_⟩) (by assumption) ?_
         rotate_left 1
         ·intro w hSw
          obtain ⟨⟨k0,k1,k2,k3,k4⟩,q0,q1,q2,q3,q4⟩:=KS.out _ hSw
          go_simp
          try with_reducible rfl
         simp only [Act.put,List.setIfInBounds_toArray,List.set_cons_zero,List.set_cons_succ]
         refine take_at (i:=10) (some 37) (v:=?_) rfl rfl (by kernel_rfl) (by kernel_rfl) (by kernel_rfl) (fun _ _ _ h=>h) (Or.inl ⟨by rfl,?_⟩) (by assumption) ?_
         rotate_left 1
         ·intro w hSw
          obtain ⟨⟨k0,k1,k2,k3,k4⟩,q0,q1,q2,q3,q4⟩:=KS.out _ hSw
          go_simp
          try with_reducible rfl
         simp only [Act.put,List.setIfInBounds_toArray,List.set_cons_zero,List.set_cons_succ]
         refine take_at (i:=11) (some 38) (v:=?_) rfl rfl (by kernel_rfl) (by kernel_rfl) (by kernel_rfl) (fun _ _ _ h=>h) (Or.inl ⟨by rfl,?_⟩) (by assumption) ?_
         rotate_left 1
         ·intro w hSw
          obtain ⟨⟨k0,k1,k2,k3,k4⟩,q0,q1,q2,q3,q4⟩:=KS.out _ hSw
          go_simp
          try with_reducible rfl
         simp only [Act.put,List.setIfInBounds_toArray,List.set_cons_zero,List.set_cons_succ]
         refine take_at (i:=12) (some 39) (v:=?_) rfl rfl (by kernel_rfl) (by kernel_rfl) (by kernel_rfl) (fun _ _ _ h=>h) (Or.inl ⟨by rfl,?_⟩) (by assumption) ?_
         rotate_left 1
         ·intro w hSw
          obtain ⟨⟨k0,k1,k2,k3,k4⟩,q0,q1,q2,q3,q4⟩:=KS.out _ hSw
          go_simp
          try with_reducible rfl
         simp only [Act.put,List.setIfInBounds_toArray,List.set_cons_zero,List.set_cons_succ]
         refine take_at (i:=13) (some 40) (v:=?_) rfl rfl (by kernel_rfl) (by kernel_rfl) (by kernel_rfl) (fun _ _ _ h=>h) (Or.inl ⟨by rfl,?_⟩) (by assumption) ?_
         rotate_left 1
         ·intro w hSw
          obtain ⟨⟨k0,k1,k2,k3,k4⟩,q0,q1,q2,q3,q4⟩:=KS.out _ hSw
          go_simp
          try with_reducible rfl
         simp only [Act.put,List.setIfInBounds_toArray,List.set_cons_zero,List.set_cons_succ]
         refine wpAnyH_ready (rs:=[14]) (by kernel_rfl) (by simp) ?_
         refine AllReadyH.cons rfl (fun K hK=>?_) AllReadyH.nil
         go_simp
         go_at_call 149
         refine (HME.out _).mono ?_
         rintro e W' ⟨rfl,hb⟩
         go_wp2_with fail
         refine hK.out _ _ (below_next hb hHeld) (fun hHeld=>?_)
         clear hK K
         try simp only [Act.put,List.setIfInBounds_toArray,List.set_cons_zero,List.set_cons_succ]
         refine take_at (i:=15) (some 42) (v:=?_) rfl rfl (by kernel_rfl) (by kernel_rfl) (by kernel_rfl) (fun _ _ _ h=>h) (Or.inl ⟨by rfl,?_⟩) (by assumption) ?_
         rotate_left 1
         ·intro w hSw
          obtain ⟨⟨k0,k1,k2,k3,k4⟩,q0,q1,q2,q3,q4⟩:=KS.out _ hSw
          go_simp
          try with_reducible rfl
         simp only [Act.put,List.setIfInBounds_toArray,List.set_cons_zero,List.set_cons_succ]
         refine take_at (i:=16) (some 43) (v:=?_) rfl rfl (by kernel_rfl) (by kernel_rfl) (by kernel_rfl) (fun _ _ _ h=>h) (Or.inl ⟨by rfl,?_⟩) (by assumption) ?_
         rotate_left 1
         ·intro w hSw
          obtain ⟨⟨k0,k1,k2,k3,k4⟩,q0,q1,q2,q3,q4⟩:=KS.out _ hSw
          go_simp
          try with_reducible rfl
         simp only [Act.put,List.setIfInBounds_toArray,List.set_cons_zero,List.set_cons_succ]
         refine take_at (i:=17) (some 44) (v:=undef) rfl rfl (by kernel_rfl) (by kernel_rfl) (by kernel_rfl) (fun _ _ _ h=>h) (Or.inr ⟨by rfl,rfl⟩) (by assumption) ?_
         simp only [Act.put,List.setIfInBounds_toArray,List.set_cons_zero,List.set_cons_succ]
         refine take_at (i:=18) (some 45) (v:=undef) rfl rfl (by kernel_rfl) (by kernel_rfl) (by kernel_rfl) (fun _ _ _ h=>h) (Or.inr ⟨by rfl,rfl⟩) (by assumption) ?_
         simp only [Act.put,List.setIfInBounds_toArray,List.set_cons_zero,List.set_cons_succ]
         refine take_at (i:=19) (some 46) (v:=undef) rfl rfl (by kernel_rfl) (by kernel_rfl) (by kernel_rfl) (fun _ _ _ h=>h) (Or.inr ⟨by rfl,rfl⟩) (by assumption) ?_
         simp only [Act.put,List.setIfInBounds_toArray,List.set_cons_zero,List.set_cons_succ]
         refine take_at (i:=20) (some 47) (v:=undef) rfl rfl (by kernel_rfl) (by kernel_rfl) (by kernel_rfl) (fun _ _ _ h=>h) (Or.inr ⟨by rfl,rfl⟩) (by assumption) ?_
         simp only [Act.put,List.setIfInBounds_toArray,List.set_cons_zero,List.set_cons_succ]
         refine take_at (i:=21) (some 48) (v:=undef) rfl rfl (by kernel_rfl) (by kernel_rfl) (by kernel_rfl) (fun _ _ _ h=>h) (Or.inr ⟨by rfl,rfl⟩) (by assumption) ?_
         simp only [Act.put,List.setIfInBounds_toArray,List.set_cons_zero,List.set_cons_succ]
         refine take_at (i:=22) (some 49) (v:=undef) rfl rfl (by kernel_rfl) (by kernel_rfl) (by kernel_rfl) (fun _ _ _ h=>h) (Or.inr ⟨by rfl,rfl⟩) (by assumption) ?_
         simp only [Act.put,List.setIfInBounds_toArray,List.set_cons_zero,List.set_cons_succ]
         refine take_at (i:=23) (some 50) (v:=undef) rfl rfl (by kernel_rfl) (by kernel_rfl) (by kernel_rfl) (fun _ _ _ h=>h) (Or.inr ⟨by rfl,rfl⟩) (by assumption) ?_
         simp only [Act.put,List.setIfInBounds_toArray,List.set_cons_zero,List.set_cons_succ]
         refine take_at (i:=24) (some 51) (v:=undef) rfl rfl (by kernel_rfl) (by kernel_rfl) (by kernel_rfl) (fun _ _ _ h=>h) (Or.inr ⟨by rfl,rfl⟩) (by assumption) ?_
         simp only [Act.put,List.setIfInBounds_toArray,List.set_cons_zero,List.set_cons_succ]
         refine take_at (i:=25) (some 52) (v:=undef) rfl rfl (by kernel_rfl) (by kernel_rfl) (by kernel_rfl) (fun _ _ _ h=>h) (Or.inr ⟨by rfl,rfl⟩) (by assumption) ?_
         simp only [Act.put,List.setIfInBounds_toArray,List.set_cons_zero,List.set_cons_succ]
         refine take_at (i:=26) (some 53) (v:=undef) rfl rfl (by kernel_rfl) (by kernel_rfl) (by kernel_rfl) (fun _ _ _ h=>h) (Or.inr ⟨by rfl,rfl⟩) (by assumption) ?_
         simp only [Act.put,List.setIfInBounds_toArray,List.set_cons_zero,List.set_cons_succ]
         refine take_at (i:=27) (some 54) (v:=?_) rfl rfl (by kernel_rfl) (by kernel_rfl) (by kernel_rfl) (fun _ _ _ h=>h) (Or.inl ⟨by rfl,?_⟩) (by assumption) ?_
         rotate_left 1
         ·intro w hSw
          obtain ⟨⟨k0,k1,k2,k3,k4⟩,q0,q1,q2,q3,q4⟩:=KS.out _ hSw
          go_simp
          try with_reducible rfl
         simp only [Act.put,List.setIfInBounds_toArray,List.set_cons_zero,List.set_cons_succ]
         refine wpAnyH_done (by kernel_rfl) ?_ _
         go_wp2_with fail
         go_meet
         exact ⟨rfl,by rw [HV.out],by assumption⟩
        | true =>
         have hok:okT o x=true:=by unfold okT;simp [hsd,hq,hc]
         have HIO:=Lib.hid (fun k hk=>InOrder.no (k:=k) (by have:=HST.out.order;rw [← HLE.out] at this;exact this) HX.out hok hk)
         rw [hc] at HME
         rcases bestV_cases o l j with hbv | ⟨kb,hbv⟩
         ·have HV:=Lib.hid (show stepB o l j x=true by unfold stepB;rw [hok,hbv];rfl)
          have HBV:=Lib.hid hbv
          rw [hbv]
          clear hsd hc hok hbv
          refine wp_region_held_drew (S:=fun W=>Below W2.heap.size W2 W) (by kernel_rfl) (below_drew h22) (fun hHeld=>?_)
          refine take_at (i:=0) (some 27) (v:=?_) rfl rfl (by kernel_rfl) (by kernel_rfl) (by kernel_rfl) (fun _ _ _ h=>h) (Or.inl ⟨by rfl,?_⟩) (by assumption) ?_
          rotate_left 1
          ·intro w hSw
           obtain ⟨⟨k0,k1,k2,k3,k4⟩,q0,q1,q2,q3,q4⟩:=KS.out _ hSw
           go_simp
           try with_reducible rfl
          simp only [Act.put,List.setIfInBounds_toArray,List.set_cons_zero,List.set_cons_succ]
          refine take_at (i:=1) (some 28) (v:=?_) rfl rfl (by kernel_rfl) (by kernel_rfl) (by kernel_rfl) (fun _ _ _ h=>h) (Or.inl ⟨by rfl,?_⟩) (by assumption) ?_
          rotate_left 1
          ·intro w hSw
           obtain ⟨⟨k0,k1,k2,k3,k4⟩,q0,q1,q2,q3,q4⟩:=KS.out _ hSw
           go_simp
           try with_reducible rfl
          simp only [Act.put,List.setIfInBounds_toArray,List.set_cons_zero,List.set_cons_succ]
          refine take_at (i:=2) (some 29) (v:=?_) rfl rfl (by kernel_rfl) (by kernel_rfl) (by kernel_rfl) (fun _ _ _ h=>h) (Or.inl ⟨by rfl,?_⟩) (by assumption) ?_
          rotate_left 1
          ·intro w hSw
           obtain ⟨⟨k0,k1,k2,k3,k4⟩,q0,q1,q2,q3,q4⟩:=KS.out _ hSw
           go_simp
           try with_reducible rfl
          simp only [Act.put,List.setIfInBounds_toArray,List.set_cons_zero,List.set_cons_succ]
          refine take_at (i:=3) (some 30) (v:=?_) rfl rfl (by kernel_rfl) (by kernel_rfl) (by kernel_rfl) (fun _ _ _ h=>h) (Or.inl ⟨by rfl,?_⟩) (by assumption) ?_
          rotate_left 1
          ·intro w hSw
           obtain ⟨⟨k0,k1,k2,k3,k4⟩,q0,q1,q2,q3,q4⟩:=KS.out _ hSw
           go_simp
           try with_reducible rfl
          simp only [Act.put,List.setIfInBounds_toArray,List.set_cons_zero,List.set_cons_succ]
          refine take_at (i:=4) (some 31) (v:=?_) rfl rfl (by kernel_rfl) (by kernel_rfl) (by kernel_rfl) (fun _ _ _ h=>h) (Or.inl ⟨by rfl,?_⟩) (by assumption) ?_
          rotate_left 1
          ·intro w hSw
           obtain ⟨⟨k0,k1,k2,k3,k4⟩,q0,q1,q2,q3,q4⟩:=KS.out _ hSw
           go_simp
           try with_reducible rfl
          simp only [Act.put,List.setIfInBounds_toArray,List.set_cons_zero,List.set_cons_succ]
          refine take_at (i:=5) (some 32) (v:=?_) rfl rfl (by kernel_rfl) (by kernel_rfl) (by kernel_rfl) (fun _ _ _ h=>h) (Or.inl ⟨by rfl,?_⟩) (by assumption) ?_
          rotate_left 1
          ·intro w hSw
           obtain ⟨⟨k0,k1,k2,k3,k4⟩,q0,q1,q2,q3,q4⟩:=KS.out _ hSw
           go_simp
           try with_reducible rfl
          simp only [Act.put,List.setIfInBounds_toArray,List.set_cons_zero,List.set_cons_succ]
          refine take_at (i:=6) (some 33) (v:=?_) rfl rfl (by kernel_rfl) (by kernel_rfl) (by kernel_rfl) (fun _ _ _ h=>h) (Or.inl ⟨by rfl,?_⟩) (by assumption) ?_
          rotate_left 1
          ·intro w hSw
           obtain ⟨⟨k0,k1,k2,k3,k4⟩,q0,q1,q2,q3,q4⟩:=KS.out _ hSw
           go_simp
           try with_reducible rfl
          simp only [Act.put,List.setIfInBounds_toArray,List.set_cons_zero,List.set_cons_succ]
          refine take_at (i:=7) (some 34) (v:=?_) rfl rfl (by kernel_rfl) (by kernel_rfl) (by kernel_rfl) (fun _ _ _ h=>h) (Or.inl ⟨by rfl,?_⟩) (by assumption) ?_
          rotate_left 1
          ·intro w hSw
           obtain ⟨⟨k0,k1,k2,k3,k4⟩,q0,q1,q2,q3,q4⟩:=KS.out _ hSw
           go_simp
           try with_reducible rfl
          simp only [Act.put,List.setIfInBounds_toArray,List.set_cons_zero,List.set_cons_succ]
          refine take_at (i:=8) (some 35) (v:=?_) rfl rfl (by kernel_rfl) (by kernel_rfl) (by kernel_rfl) (fun _ _ _ h=>h) (Or.inl ⟨by rfl,?_⟩) (by assumption) ?_
          rotate_left 1
          ·intro w hSw
           obtain ⟨⟨k0,k1,k2,k3,k4⟩,q0,q1,q2,q3,q4⟩:=KS.out _ hSw
           go_simp
           try with_reducible rfl
          simp only [Act.put,List.setIfInBounds_toArray,List.set_cons_zero,List.set_cons_succ]
          refine take_at (i:=9) (some 36) (v:=?_) rfl rfl (by kernel_rfl) (by kernel_rfl) (by kernel_rfl) (fun _ _ _ h=>h) (Or.inl ⟨by rfl,?_⟩) (by assumption) ?_
          rotate_left 1
          ·intro w hSw
           obtain ⟨⟨k0,k1,k2,k3,k4⟩,q0,q1,q2,q3,q4⟩:=KS.out _ hSw
           go_simp
           try with_reducible rfl
          simp only [Act.put,List.setIfInBounds_toArray,List.set_cons_zero,List.set_cons_succ]
          refine take_at (i:=10) (some 37) (v:=?_) rfl rfl (by kernel_rfl) (by kernel_rfl) (by kernel_rfl) (fun _ _ _ h=>h) (Or.inl ⟨by rfl,?_⟩) (by assumption) ?_
          rotate_left 1
          ·intro w hSw
           obtain ⟨⟨k0,k1,k2,k3,k4⟩,q0,q1,q2,q3,q4⟩:=KS.out _ hSw
           go_simp
           try with_reducible rfl
          simp only [Act.put,List.setIfInBounds_toArray,List.set_cons_zero,List.set_cons_succ]
          refine take_at (i:=11) (some 38) (v:=?_) rfl rfl (by kernel_rfl) (by kernel_rfl) (by kernel_rfl) (fun _ _ _ h=>h) (Or.inl ⟨by rfl,?_⟩) (by assumption) ?_
          rotate_left 1
          ·intro w hSw
           obtain ⟨⟨k0,k1,k2,k3,k4⟩,q0,q1,q2,q3,q4⟩:=KS.out _ hSw
           go_simp
           try with_reducible rfl
          simp only [Act.put,List.setIfInBounds_toArray,List.set_cons_zero,List.set_cons_succ]
          refine take_at (i:=12) (some 39) (v:=?_) rfl rfl (by kernel_rfl) (by kernel_rfl) (by kernel_rfl) (fun _ _ _ h=>h) (Or.inl ⟨by rfl,?_⟩) (by assumption) ?_
          rotate_left 1
          ·intro w hSw
           obtain ⟨⟨k0,k1,k2,k3,k4⟩,q0,q1,q2,q3,q4⟩:=KS.out _ hSw
           go_simp
           try with_reducible rfl
          simp only [Act.put,List.setIfInBounds_toArray,List.set_cons_zero,List.set_cons_succ]
          refine take_at (i:=13) (some 40) (v:=?_) rfl rfl (by kernel_rfl) (by kernel_rfl) (by kernel_rfl) (fun _ _ _ h=>h) (Or.inl ⟨by rfl,?_⟩) (by assumption) ?_
          rotate_left 1
          ·intro w hSw
           obtain ⟨⟨k0,k1,k2,k3,k4⟩,q0,q1,q2,q3,q4⟩:=KS.out _ hSw
           go_simp
           try with_reducible rfl
          simp only [Act.put,List.setIfInBounds_toArray,List.set_cons_zero,List.set_cons_succ]
          refine wpAnyH_ready (rs:=[14]) (by kernel_rfl) (by simp) ?_
          refine AllReadyH.cons rfl (fun K hK=>?_) AllReadyH.nil
          go_simp
          go_at_call 149
          refine (HME.out _).mono ?_
          rintro e W' ⟨rfl,hb⟩
          go_wp2_with fail
          refine hK.out _ _ (below_next hb hHeld) (fun hHeld=>?_)
          clear hK K
          try simp only [Act.put,List.setIfInBounds_toArray,List.set_cons_zero,List.set_cons_succ]
          refine take_at (i:=15) (some 42) (v:=?_) rfl rfl (by kernel_rfl) (by kernel_rfl) (by kernel_rfl) (fun _ _ _ h=>h) (Or.inl ⟨by rfl,?_⟩) (by assumption) ?_
          rotate_left 1
          ·intro w hSw
           obtain ⟨⟨k0,k1,k2,k3,k4⟩,q0,q1,q2,q3,q4⟩:=KS.out _ hSw
           go_simp
           try with_reducible rfl
          simp only [Act.put,List.setIfInBounds_toArray,List.set_cons_zero,List.set_cons_succ]
          refine take_at (i:=16) (some 43) (v:=?_) rfl rfl (by kernel_rfl) (by kernel_rfl) (by kernel_rfl) (fun _ _ _ h=>h) (Or.inl ⟨by rfl,?_⟩) (by assumption) ?_
          rotate_left 1
          ·intro w hSw
           obtain ⟨⟨k0,k1,k2,k3,k4⟩,q0,q1,q2,q3,q4⟩:=KS.out _ hSw
           go_simp
           try with_reducible rfl
          simp only [Act.put,List.setIfInBounds_toArray,List.set_cons_zero,List.set_cons_succ]
          refine take_at (i:=17) (some 44) (v:=?_) rfl rfl (by kernel_rfl) (by kernel_rfl) (by kernel_rfl) (fun _ _ _ h=>h) (Or.inl ⟨by rfl,?_⟩) (by assumption) ?_
          rotate_left 1
          ·intro w hSw
           obtain ⟨⟨k0,k1,k2,k3,k4⟩,q0,q1,q2,q3,q4⟩:=KS.out _ hSw
           go_simp
           try with_reducible rfl
          simp only [Act.put,List.setIfInBounds_toArray,List.set_cons_zero,List.set_cons_succ]
          refine take_at (i:=18) (some 45) (v:=?_) rfl rfl (by kernel_rfl) (by kernel_rfl) (by kernel_rfl) (fun _ _ _ h=>h) (Or.inl ⟨by rfl,?_⟩) (by assumption) ?_
          rotate_left 1
          ·intro w hSw
           obtain ⟨⟨k0,k1,k2,k3,k4⟩,q0,q1,q2,q3,q4⟩:=KS.out _ hSw
           go_simp
           try with_reducible rfl
          simp only [Act.put,List.setIfInBounds_toArray,List.set_cons_zero,List.set_cons_succ]
          refine take_at (i:=19) (some 46) (v:=?_) rfl rfl (by kernel_rfl) (by kernel_rfl) (by kernel_rfl) (fun _ _ _ h=>h) (Or.inl ⟨by rfl,?_⟩) (by assumption) ?_
          rotate_left 1
          ·intro w hSw
           obtain ⟨⟨k0,k1,k2,k3,k4⟩,q0,q1,q2,q3,q4⟩:=KS.out _ hSw
           go_simp
           try with_reducible rfl
          simp only [Act.put,List.setIfInBounds_toArray,List.set_cons_zero,List.set_cons_succ]
          refine take_at (i:=20) (some 47) (v:=undef) rfl rfl (by kernel_rfl) (by kernel_rfl) (by kernel_rfl) (fun _ _ _ h=>h) (Or.inr ⟨by rfl,rfl⟩) (by assumption) ?_
          simp only [Act.put,List.setIfInBounds_toArray,List.set_cons_zero,List.set_cons_succ]
          refine take_at (i:=21) (some 48) (v:=undef) rfl rfl (by kernel_rfl) (by kernel_rfl) (by kernel_rfl) (fun _ _ _ h=>h) (Or.inr ⟨by rfl,rfl⟩) (by assumption) ?_
          simp only [Act.put,List.setIfInBounds_toArray,List.set_cons_zero,List.set_cons_succ]
          refine take_at (i:=22) (some 49) (v:=undef) rfl rfl (by kernel_rfl) (by kernel_rfl) (by kernel_rfl) (fun _ _ _ h=>h) (Or.inr ⟨by rfl,rfl⟩) (by assumption) ?_
          simp only [Act.put,List.setIfInBounds_toArray,List.set_cons_zero,List.set_cons_succ]
          refine take_at (i:=23) (some 50) (v:=undef) rfl rfl (by kernel_rfl) (by kernel_rfl) (by kernel_rfl) (fun _ _ _ h=>h) (Or.inr ⟨by rfl,rfl⟩) (by assumption) ?_
          simp only [Act.put,List.setIfInBounds_toArray,List.set_cons_zero,List.set_cons_succ]
          refine take_at (i:=24) (some 51) (v:=undef) rfl rfl (by kernel_rfl) (by kernel_rfl) (by kernel_rfl) (fun _ _ _ h=>h) (Or.inr ⟨by rfl,rfl⟩) (by assumption) ?_
          simp only [Act.put,List.setIfInBounds_toArray,List.set_cons_zero,List.set_cons_succ]
          refine take_at (i:=25) (some 52) (v:=undef) rfl rfl (by kernel_rfl) (by kernel_rfl) (by kernel_rfl) (fun _ _ _ h=>h) (Or.inr ⟨by rfl,rfl⟩) (by assumption) ?_
          simp only [Act.put,List.setIfInBounds_toArray,List.set_cons_zero,List.set_cons_succ]
          refine take_at (i:=26) (some 53) (v:=?_) rfl rfl (by kernel_rfl) (by kernel_rfl) (by kernel_rfl) (fun _ _ _ h=>h) (Or.inl ⟨by rfl,?_⟩) (by assumption) ?_
          rotate_left 1
          ·intro w hSw
           obtain ⟨⟨k0,k1,k2,k3,k4⟩,q0,q1,q2,q3,q4⟩:=KS.out _ hSw
           go_simp
           try with_reducible rfl
          simp only [Act.put,List.setIfInBounds_toArray,List.set_cons_zero,List.set_cons_succ]
          refine take_at (i:=27) (some 54) (v:=?_) rfl rfl (by kernel_rfl) (by kernel_rfl) (by kernel_rfl) (fun _ _ _ h=>h) (Or.inl ⟨by rfl,?_⟩) (by assumption) ?_
          rotate_left 1
          ·intro w hSw
           obtain ⟨⟨k0,k1,k2,k3,k4⟩,q0,q1,q2,q3,q4⟩:=KS.out _ hSw
           go_simp
           try with_reducible rfl
          simp only [Act.put,List.setIfInBounds_toArray,List.set_cons_zero,List.set_cons_succ]
          refine wpAnyH_done (by kernel_rfl) ?_ _
          go_wp2_with fail
          go_meet
          exact ⟨by rw [HBV.out],by rw [HV.out],by assumption⟩
         ·have HV:=Lib.hid (show stepB o l j x=false by unfold stepB;rw [hok,hbv];simp)
          obtain ⟨a,ha,hah⟩:=HIO.out kb hbv
          have KA:Hid (∀ W,Below W2.heap.size W2 W→W.cell? ⟨gl,kb * 5,none⟩=some (.int .i64 a.id)∧W.cell? ⟨gl,kb * 5 + 1,none⟩=some (.int .i64 a.acc)∧W.cell? ⟨gl,kb * 5 + 2,none⟩=some (.int .i64 a.side)∧W.cell? ⟨gl,kb * 5 + 3,none⟩=some (.int .i64 a.price)∧W.cell? ⟨gl,kb * 5 + 4,none⟩=some (.int .i64 a.qty)):=Lib.hid (fun W hW=>by
           obtain ⟨g',e1,_,_,e2,_⟩:=own_od (own_below (own_below HTi.out.row hb2 (Nat.le_refl _)) hW (Nat.le_refl _)) ha
           cases e1;exact e2)
          have hkn:kb < n1:=by have:=(bestV_some hbv).1;omega
          have HAH:=Lib.hid (fun W=>rahead_any x a W)
          rw [hah] at HAH
          have HBV:=Lib.hid hbv
          rw [hbv]
          clear hsd hc hok hbv ha hah
          have z0:(0:Int) ≤ (kb:Int):=by omega
          have z1:(kb:Int) < (n1:Int):=by omega
          have z2:decide ((kb:Int) < 0)=false:=decide_eq_false (by omega)
          refine wp_region_held_drew (S:=fun W=>Below W2.heap.size W2 W) (by kernel_rfl) (below_drew h22) (fun hHeld=>?_)
          refine take_at (i:=0) (some 27) (v:=?_) rfl rfl (by kernel_rfl) (by kernel_rfl) (by kernel_rfl) (fun _ _ _ h=>h) (Or.inl ⟨by rfl,?_⟩) (by assumption) ?_
          rotate_left 1
          ·intro w hSw
           obtain ⟨⟨k0,k1,k2,k3,k4⟩,q0,q1,q2,q3,q4⟩:=KS.out _ hSw
           go_simp
           try with_reducible rfl
          simp only [Act.put,List.setIfInBounds_toArray,List.set_cons_zero,List.set_cons_succ]
          refine take_at (i:=1) (some 28) (v:=?_) rfl rfl (by kernel_rfl) (by kernel_rfl) (by kernel_rfl) (fun _ _ _ h=>h) (Or.inl ⟨by rfl,?_⟩) (by assumption) ?_
          rotate_left 1
          ·intro w hSw
           obtain ⟨⟨k0,k1,k2,k3,k4⟩,q0,q1,q2,q3,q4⟩:=KS.out _ hSw
           go_simp
           try with_reducible rfl
          simp only [Act.put,List.setIfInBounds_toArray,List.set_cons_zero,List.set_cons_succ]
          refine take_at (i:=2) (some 29) (v:=?_) rfl rfl (by kernel_rfl) (by kernel_rfl) (by kernel_rfl) (fun _ _ _ h=>h) (Or.inl ⟨by rfl,?_⟩) (by assumption) ?_
          rotate_left 1
          ·intro w hSw
           obtain ⟨⟨k0,k1,k2,k3,k4⟩,q0,q1,q2,q3,q4⟩:=KS.out _ hSw
           go_simp
           try with_reducible rfl
          simp only [Act.put,List.setIfInBounds_toArray,List.set_cons_zero,List.set_cons_succ]
          refine take_at (i:=3) (some 30) (v:=?_) rfl rfl (by kernel_rfl) (by kernel_rfl) (by kernel_rfl) (fun _ _ _ h=>h) (Or.inl ⟨by rfl,?_⟩) (by assumption) ?_
          rotate_left 1
          ·intro w hSw
           obtain ⟨⟨k0,k1,k2,k3,k4⟩,q0,q1,q2,q3,q4⟩:=KS.out _ hSw
           go_simp
           try with_reducible rfl
          simp only [Act.put,List.setIfInBounds_toArray,List.set_cons_zero,List.set_cons_succ]
          refine take_at (i:=4) (some 31) (v:=?_) rfl rfl (by kernel_rfl) (by kernel_rfl) (by kernel_rfl) (fun _ _ _ h=>h) (Or.inl ⟨by rfl,?_⟩) (by assumption) ?_
          rotate_left 1
          ·intro w hSw
           obtain ⟨⟨k0,k1,k2,k3,k4⟩,q0,q1,q2,q3,q4⟩:=KS.out _ hSw
           go_simp
           try with_reducible rfl
          simp only [Act.put,List.setIfInBounds_toArray,List.set_cons_zero,List.set_cons_succ]
          refine take_at (i:=5) (some 32) (v:=?_) rfl rfl (by kernel_rfl) (by kernel_rfl) (by kernel_rfl) (fun _ _ _ h=>h) (Or.inl ⟨by rfl,?_⟩) (by assumption) ?_
          rotate_left 1
          ·intro w hSw
           obtain ⟨⟨k0,k1,k2,k3,k4⟩,q0,q1,q2,q3,q4⟩:=KS.out _ hSw
           go_simp
           try with_reducible rfl
          simp only [Act.put,List.setIfInBounds_toArray,List.set_cons_zero,List.set_cons_succ]
          refine take_at (i:=6) (some 33) (v:=?_) rfl rfl (by kernel_rfl) (by kernel_rfl) (by kernel_rfl) (fun _ _ _ h=>h) (Or.inl ⟨by rfl,?_⟩) (by assumption) ?_
          rotate_left 1
          ·intro w hSw
           obtain ⟨⟨k0,k1,k2,k3,k4⟩,q0,q1,q2,q3,q4⟩:=KS.out _ hSw
           go_simp
           try with_reducible rfl
          simp only [Act.put,List.setIfInBounds_toArray,List.set_cons_zero,List.set_cons_succ]
          refine take_at (i:=7) (some 34) (v:=?_) rfl rfl (by kernel_rfl) (by kernel_rfl) (by kernel_rfl) (fun _ _ _ h=>h) (Or.inl ⟨by rfl,?_⟩) (by assumption) ?_
          rotate_left 1
          ·intro w hSw
           obtain ⟨⟨k0,k1,k2,k3,k4⟩,q0,q1,q2,q3,q4⟩:=KS.out _ hSw
           go_simp
           try with_reducible rfl
          simp only [Act.put,List.setIfInBounds_toArray,List.set_cons_zero,List.set_cons_succ]
          refine take_at (i:=8) (some 35) (v:=?_) rfl rfl (by kernel_rfl) (by kernel_rfl) (by kernel_rfl) (fun _ _ _ h=>h) (Or.inl ⟨by rfl,?_⟩) (by assumption) ?_
          rotate_left 1
          ·intro w hSw
           obtain ⟨⟨k0,k1,k2,k3,k4⟩,q0,q1,q2,q3,q4⟩:=KS.out _ hSw
           go_simp
           try with_reducible rfl
          simp only [Act.put,List.setIfInBounds_toArray,List.set_cons_zero,List.set_cons_succ]
          refine take_at (i:=9) (some 36) (v:=?_) rfl rfl (by kernel_rfl) (by kernel_rfl) (by kernel_rfl) (fun _ _ _ h=>h) (Or.inl ⟨by rfl,?_⟩) (by assumption) ?_
          rotate_left 1
          ·intro w hSw
           obtain ⟨⟨k0,k1,k2,k3,k4⟩,q0,q1,q2,q3,q4⟩:=KS.out _ hSw
           go_simp
           try with_reducible rfl
          simp only [Act.put,List.setIfInBounds_toArray,List.set_cons_zero,List.set_cons_succ]
          refine take_at (i:=10) (some 37) (v:=?_) rfl rfl (by kernel_rfl) (by kernel_rfl) (by kernel_rfl) (fun _ _ _ h=>h) (Or.inl ⟨by rfl,?_⟩) (by assumption) ?_
          rotate_left 1
          ·intro w hSw
           obtain ⟨⟨k0,k1,k2,k3,k4⟩,q0,q1,q2,q3,q4⟩:=KS.out _ hSw
           go_simp
           try with_reducible rfl
          simp only [Act.put,List.setIfInBounds_toArray,List.set_cons_zero,List.set_cons_succ]
          refine take_at (i:=11) (some 38) (v:=?_) rfl rfl (by kernel_rfl) (by kernel_rfl) (by kernel_rfl) (fun _ _ _ h=>h) (Or.inl ⟨by rfl,?_⟩) (by assumption) ?_
          rotate_left 1
          ·intro w hSw
           obtain ⟨⟨k0,k1,k2,k3,k4⟩,q0,q1,q2,q3,q4⟩:=KS.out _ hSw
           go_simp
           try with_reducible rfl
          simp only [Act.put,List.setIfInBounds_toArray,List.set_cons_zero,List.set_cons_succ]
          refine take_at (i:=12) (some 39) (v:=?_) rfl rfl (by kernel_rfl) (by kernel_rfl) (by kernel_rfl) (fun _ _ _ h=>h) (Or.inl ⟨by rfl,?_⟩) (by assumption) ?_
          rotate_left 1
          ·intro w hSw
           obtain ⟨⟨k0,k1,k2,k3,k4⟩,q0,q1,q2,q3,q4⟩:=KS.out _ hSw
           go_simp
           try with_reducible rfl
          simp only [Act.put,List.setIfInBounds_toArray,List.set_cons_zero,List.set_cons_succ]
          refine take_at (i:=13) (some 40) (v:=?_) rfl rfl (by kernel_rfl) (by kernel_rfl) (by kernel_rfl) (fun _ _ _ h=>h) (Or.inl ⟨by rfl,?_⟩) (by assumption) ?_
          rotate_left 1
          ·intro w hSw
           obtain ⟨⟨k0,k1,k2,k3,k4⟩,q0,q1,q2,q3,q4⟩:=KS.out _ hSw
           go_simp
           try with_reducible rfl
          simp only [Act.put,List.setIfInBounds_toArray,List.set_cons_zero,List.set_cons_succ]
          refine wpAnyH_ready (rs:=[14]) (by kernel_rfl) (by simp) ?_
          refine AllReadyH.cons rfl (fun K hK=>?_) AllReadyH.nil
          go_simp
          go_at_call 149
          refine (HME.out _).mono ?_
          rintro e W' ⟨rfl,hb⟩
          go_wp2_with fail
          refine hK.out _ _ (below_next hb hHeld) (fun hHeld=>?_)
          clear hK K
          try simp only [Act.put,List.setIfInBounds_toArray,List.set_cons_zero,List.set_cons_succ]
          refine take_at (i:=15) (some 42) (v:=?_) rfl rfl (by kernel_rfl) (by kernel_rfl) (by kernel_rfl) (fun _ _ _ h=>h) (Or.inl ⟨by rfl,?_⟩) (by assumption) ?_
          rotate_left 1
          ·intro w hSw
           obtain ⟨⟨k0,k1,k2,k3,k4⟩,q0,q1,q2,q3,q4⟩:=KS.out _ hSw
           go_simp
           try with_reducible rfl
          simp only [Act.put,List.setIfInBounds_toArray,List.set_cons_zero,List.set_cons_succ]
          refine take_at (i:=16) (some 43) (v:=?_) rfl rfl (by kernel_rfl) (by kernel_rfl) (by kernel_rfl) (fun _ _ _ h=>h) (Or.inl ⟨by rfl,?_⟩) (by assumption) ?_
          rotate_left 1
          ·intro w hSw
           obtain ⟨⟨k0,k1,k2,k3,k4⟩,q0,q1,q2,q3,q4⟩:=KS.out _ hSw
           go_simp
           try with_reducible rfl
          simp only [Act.put,List.setIfInBounds_toArray,List.set_cons_zero,List.set_cons_succ]
          refine take_at (i:=17) (some 44) (v:=?_) rfl rfl (by kernel_rfl) (by kernel_rfl) (by kernel_rfl) (fun _ _ _ h=>h) (Or.inl ⟨by rfl,?_⟩) (by assumption) ?_
          rotate_left 1
          ·intro w hSw
           obtain ⟨⟨k0,k1,k2,k3,k4⟩,q0,q1,q2,q3,q4⟩:=KS.out _ hSw
           go_simp
           try with_reducible rfl
          simp only [Act.put,List.setIfInBounds_toArray,List.set_cons_zero,List.set_cons_succ]
          refine take_at (i:=18) (some 45) (v:=?_) rfl rfl (by kernel_rfl) (by kernel_rfl) (by kernel_rfl) (fun _ _ _ h=>h) (Or.inl ⟨by rfl,?_⟩) (by assumption) ?_
          rotate_left 1
          ·intro w hSw
           obtain ⟨⟨k0,k1,k2,k3,k4⟩,q0,q1,q2,q3,q4⟩:=KS.out _ hSw
           go_simp
           try with_reducible rfl
          simp only [Act.put,List.setIfInBounds_toArray,List.set_cons_zero,List.set_cons_succ]
          refine take_at (i:=19) (some 46) (v:=?_) rfl rfl (by kernel_rfl) (by kernel_rfl) (by kernel_rfl) (fun _ _ _ h=>h) (Or.inl ⟨by rfl,?_⟩) (by assumption) ?_
          rotate_left 1
          ·intro w hSw
           obtain ⟨⟨k0,k1,k2,k3,k4⟩,q0,q1,q2,q3,q4⟩:=KS.out _ hSw
           go_simp
           try with_reducible rfl
          simp only [Act.put,List.setIfInBounds_toArray,List.set_cons_zero,List.set_cons_succ]
          refine take_at (i:=20) (some 47) (v:=?_) rfl rfl (by kernel_rfl) (by kernel_rfl) (by kernel_rfl) (fun _ _ _ h=>h) (Or.inl ⟨by rfl,?_⟩) (by assumption) ?_
          rotate_left 1
          ·intro w hSw
           obtain ⟨⟨k0,k1,k2,k3,k4⟩,q0,q1,q2,q3,q4⟩:=KS.out _ hSw
           go_simp
           try with_reducible rfl
          simp only [Act.put,List.setIfInBounds_toArray,List.set_cons_zero,List.set_cons_succ]
          refine take_at (i:=21) (some 48) (v:=?_) rfl rfl (by kernel_rfl) (by kernel_rfl) (by kernel_rfl) (fun _ _ _ h=>h) (Or.inl ⟨by rfl,?_⟩) (by assumption) ?_
          rotate_left 1
          ·intro w hSw
           obtain ⟨⟨k0,k1,k2,k3,k4⟩,q0,q1,q2,q3,q4⟩:=KS.out _ hSw
           go_simp
           try with_reducible rfl
          simp only [Act.put,List.setIfInBounds_toArray,List.set_cons_zero,List.set_cons_succ]
          refine take_at (i:=22) (some 49) (v:=?_) rfl rfl (by kernel_rfl) (by kernel_rfl) (by kernel_rfl) (fun _ _ _ h=>h) (Or.inl ⟨by rfl,?_⟩) (by assumption) ?_
          rotate_left 1
          ·intro w hSw
           obtain ⟨⟨k0,k1,k2,k3,k4⟩,q0,q1,q2,q3,q4⟩:=KS.out _ hSw
           go_simp
           try with_reducible rfl
          simp only [Act.put,List.setIfInBounds_toArray,List.set_cons_zero,List.set_cons_succ]
          refine take_at (i:=23) (some 50) (v:=?_) rfl rfl (by kernel_rfl) (by kernel_rfl) (by kernel_rfl) (fun _ _ _ h=>h) (Or.inl ⟨by rfl,?_⟩) (by assumption) ?_
          rotate_left 1
          ·intro w hSw
           obtain ⟨⟨k0,k1,k2,k3,k4⟩,q0,q1,q2,q3,q4⟩:=KS.out _ hSw
           go_simp
           try with_reducible rfl
          simp only [Act.put,List.setIfInBounds_toArray,List.set_cons_zero,List.set_cons_succ]
          refine take_at (i:=24) (some 51) (v:=?_) rfl rfl (by kernel_rfl) (by kernel_rfl) (by kernel_rfl) (fun _ _ _ h=>h) (Or.inl ⟨by rfl,?_⟩) (by assumption) ?_
          rotate_left 1
          ·intro w hSw
           obtain ⟨q0,q1,q2,q3,q4⟩:=KA.out _ hSw
           go_simp
           try with_reducible rfl
          simp only [Act.put,List.setIfInBounds_toArray,List.set_cons_zero,List.set_cons_succ]
          refine wpAnyH_ready (rs:=[25]) (by kernel_rfl) (by simp) ?_
          refine AllReadyH.cons rfl (fun K hK=>?_) AllReadyH.nil
          go_simp
          go_at_call 87
          refine (HAH.out _).mono ?_
          rintro e W' ⟨rfl,hb⟩
          go_wp2_with fail
          refine hK.out _ _ (below_next hb hHeld) (fun hHeld=>?_)
          clear hK K
          try simp only [Act.put,List.setIfInBounds_toArray,List.set_cons_zero,List.set_cons_succ]
          refine take_at (i:=26) (some 53) (v:=?_) rfl rfl (by kernel_rfl) (by kernel_rfl) (by kernel_rfl) (fun _ _ _ h=>h) (Or.inl ⟨by rfl,?_⟩) (by assumption) ?_
          rotate_left 1
          ·intro w hSw
           obtain ⟨⟨k0,k1,k2,k3,k4⟩,q0,q1,q2,q3,q4⟩:=KS.out _ hSw
           go_simp
           try with_reducible rfl
          simp only [Act.put,List.setIfInBounds_toArray,List.set_cons_zero,List.set_cons_succ]
          refine take_at (i:=27) (some 54) (v:=?_) rfl rfl (by kernel_rfl) (by kernel_rfl) (by kernel_rfl) (fun _ _ _ h=>h) (Or.inl ⟨by rfl,?_⟩) (by assumption) ?_
          rotate_left 1
          ·intro w hSw
           obtain ⟨⟨k0,k1,k2,k3,k4⟩,q0,q1,q2,q3,q4⟩:=KS.out _ hSw
           go_simp
           try with_reducible rfl
          simp only [Act.put,List.setIfInBounds_toArray,List.set_cons_zero,List.set_cons_succ]
          refine wpAnyH_done (by kernel_rfl) ?_ _
          go_wp2_with fail
          go_meet
          exact ⟨by rw [HBV.out],by rw [HV.out],by assumption⟩
       ·have hq':decide (0 < x.qty)=false:=decide_eq_false hq
        have HV:=Lib.hid (show stepB o l j x=false by unfold stepB okT;simp [hq])
        clear hsd hq
        go_quiet (fail)
        go_wp2_with fail
        go_meet
        exact ⟨rfl,by rw [HV.out],below_drewN h22 _⟩
     case rest =>
      obtain ⟨rfl,rfl,hbc⟩:=hcut
      rename_i w7
      have hsc:=hbc.size
      have hb7:=hbr.trans (hb2.mono (by omega) |>.trans (hbc.mono (by omega)))
      clear KS XE XO hbc hb2 h22 k0 k1 k2 k3 k4 q0 q1 q2 q3 q4 HPX
      rcases (bool_cs (stepB o l j x)).symm with hs | hs
      ·have HV:=Lib.hid (step_yes HX.out hs)
       rw [hs]
       clear hs
       go_wp2_with fail
       go_roundw
       case rel=>exact ⟨j + 1,by omega,by go_num,by rw [HV.out],hb7⟩
       case measure=>simp [intOf];omega
      ·have HV:=Lib.hid (step_no HX.out hs)
       rw [hs]
       clear hs
       go_wp2_with fail
       go_roundw
       case rel=>exact ⟨j + 1,by omega,by go_num,by rw [HV.out],hb7⟩
       case measure=>simp [intOf];omega
    ·have hjn:j=n1:=by omega
     have hln:l.length=n1:=rdo_len HR.out
     have hbv:=HST.out.best
     rw [← HLE.out,hln] at hbv
     rw [hjn,hbv]
     clear hjn hlt
     have HLN:=Lib.hid hln
     clear hbv hln
     cases hc:headCrosses o R with
     | false =>
      have HTO:=Lib.hid (takeOf_eq HBK.out HO.out (HDN.out.end_ (take_stop hl1 hc)))
      rw [List.append_nil] at HTO
      have HBO:=Lib.hid (bkOf_taken HBK.out HST.out)
      rw [← HLE.out] at HBO
      clear hc
      rw [if_neg (by simp)]
      go_wp2_with fail
      refine (rbookOf_any l _ n1 _ wi.heap.size (setOther b o.side (R)) wi (Rd.of_own HTi.out.row) (Nat.le_refl _) HBO.out (by omega)).mono ?_
      rintro e w9 ⟨v9,rfl,ho9,hb9⟩
      obtain ⟨P1,p1,P1',p1',rfl,H9⟩:=ho9.obk
      have hs9:=hb9.size
      have HT9:=Lib.hid (HTi.out.below hb9)
      have hbig:=HT9.out.low
      have hbig2:=HT9.out.high
      have hbig3:=HTi.out.high
      obtain ⟨⟨z0,z1⟩,fz0,fz1⟩:=HT9.out.three.c2
      go_wp2_with fail
      refine bodyPost_ret (v:=.tuple #[.agg #[.slice P1 (setOther b o.side (R)).bids.length p1,.slice P1' (setOther b o.side (R)).asks.length p1'],.slice AF F.length cF,.int .i64 left,.bool false]) (by simp [results,Try.results92,go_sem, *]) rfl ?_
      rw [HTO.out]
      refine ⟨_,_,rfl,⟨P1,p1,P1',p1',rfl,?_,?_⟩,?_,(HT9.out.bel.setCell (by dsimp only;omega) _).setCell (by dsimp only;omega) _⟩
      ·exact own_mono (ownsRow_setCell_below (ownsRow_setCell_below H9.l (by dsimp only;omega) _) (by dsimp only;omega) _) (by omega)
      ·exact own_mono (ownsRow_setCell_below (ownsRow_setCell_below H9.r (by dsimp only;omega) _) (by dsimp only;omega) _) (by omega)
      ·exact own_mono (ownsRow_setCell_below (ownsRow_setCell_below HT9.out.rowF (by dsimp only;omega) _) (by dsimp only;omega) _) (by omega)
     | true =>
      rw [if_pos rfl]
      obtain ⟨hd,t,rfl⟩:∃ hd t,R=hd :: t:=by cases R with
       | nil=>cases hc
       | cons hd t=>exact ⟨hd,t,rfl⟩
      have hcr:crossesB o hd.price=true:=hc
      have HCR:=Lib.hid hcr
      clear hc hcr
      have hgm:l[(ownA b o).length + Z.length]?=some hd:=by rw [HLE.out];exact get_mid
      obtain ⟨k,hk⟩:∃ k,k=(ownA b o).length + Z.length:=⟨_,rfl⟩
      rw [← hk] at hgm ⊢
      have HK:=Lib.hid hk
      have hkn:k < n1:=by have:=(List.getElem?_eq_some_iff.1 hgm).1;rw [HLN.out] at this;exact this
      have HGM:=Lib.hid hgm
      obtain ⟨g,hA1,hg1,hg2,⟨k0,k1,k2,k3,k4⟩,-⟩:=own_od HTi.out.row hgm
      clear hk hgm
      obtain ⟨hq1,hq2⟩:=(ordErr_ok.1 (HST.out.r.ok hd List.mem_cons_self)).2.2.2.2
      have hoq:=(ordErr_ok.1 HO.out).2.2.2.2.2
      have hFZ:F.length ≤ 40:=by have h1:=HFZ.out;have h2:=HZL.out;have h3:=other_le HBK.out o.side;omega
      have z2:decide ((k:Int) < 0)=false:=decide_eq_false (by omega)
      have x2:=HTi.out.two.lt
      obtain ⟨⟨q0,q1,q2,q3,q4⟩,-⟩:=HTi.out.two.c5
      by_cases hac:hd.acc=o.acc
      ·have HTO:=Lib.hid (takeOf_eq HBK.out HO.out (HDN.out.end_ (take_met hl1 HCR.out hac)))
       rw [List.append_nil] at HTO
       have HBO:=Lib.hid (bkOf_taken HBK.out HST.out)
       rw [← HLE.out] at HBO
       have hac':(hd.acc == o.acc)=true:=by simpa using hac
       clear hac
       subst hA1
       go_upto_region 21 with (fail)
       obtain ⟨W3,hW3⟩:∃ W,W=wi.alloc (.cells #[.int .i64 hd.id,.int .i64 hd.acc,.int .i64 hd.side,.int .i64 hd.price,.int .i64 hd.qty] 71):=⟨_,rfl⟩
       have hb3:Below wi.heap.size wi W3:=by rw [hW3];exact (Below.refl _ _).alloc (Nat.le_refl _) _
       rw [← hW3]
       clear hW3 k0 k1 k2 k3 k4 q0 q1 q2 q3 q4
       have HT3:=Lib.hid (HTi.out.below hb3)
       go_wp2_with fail
       refine (rbookOf_any l _ n1 _ W3.heap.size (setOther b o.side (hd :: t)) W3 (Rd.of_own HT3.out.row) (Nat.le_refl _) HBO.out (by omega)).mono ?_
       rintro e w9 ⟨v9,rfl,ho9,hb9⟩
       obtain ⟨P1,p1,P1',p1',rfl,H9⟩:=ho9.obk
       have hs9:=hb9.size
       have HT9:=Lib.hid (HT3.out.below hb9)
       have hbig:=HT9.out.low
       have hbig2:=HT9.out.high
       have hbig3:=HT3.out.high
       obtain ⟨⟨z0,z1⟩,fz0,fz1⟩:=HT9.out.three.c2
       go_wp2_with fail
       refine bodyPost_ret (v:=.tuple #[.agg #[.slice P1 (setOther b o.side (hd :: t)).bids.length p1,.slice P1' (setOther b o.side (hd :: t)).asks.length p1'],.slice AF F.length cF,.int .i64 left,.bool true]) (by simp [results,Try.results92,go_sem, *]) rfl ?_
       rw [HTO.out]
       refine ⟨_,_,rfl,⟨P1,p1,P1',p1',rfl,?_,?_⟩,?_,(HT9.out.bel.setCell (by dsimp only;omega) _).setCell (by dsimp only;omega) _⟩
       ·exact own_mono (ownsRow_setCell_below (ownsRow_setCell_below H9.l (by dsimp only;omega) _) (by dsimp only;omega) _) (by omega)
       ·exact own_mono (ownsRow_setCell_below (ownsRow_setCell_below H9.r (by dsimp only;omega) _) (by dsimp only;omega) _) (by omega)
       ·exact own_mono (ownsRow_setCell_below (ownsRow_setCell_below HT9.out.rowF (by dsimp only;omega) _) (by dsimp only;omega) _) (by omega)
      ·have hac':(hd.acc == o.acc)=false:=by simpa using hac
       have HAC:=Lib.hid hac
       clear hac
       by_cases hlq':left < hd.qty
       ·have HST':=Lib.hid (HST.out.part hl1 HCR.out HAC.out hlq')
        have HDN':=Lib.hid (HDN.out.part hl1 HCR.out HAC.out hlq')
        subst hA1
        go_upto_region 18 with (fail)
        obtain ⟨W3,hW3⟩:∃ W,W=wi.alloc (.cells #[.int .i64 hd.id,.int .i64 hd.acc,.int .i64 hd.side,.int .i64 hd.price,.int .i64 hd.qty] 71):=⟨_,rfl⟩
        have hb3:Below wi.heap.size wi W3:=by rw [hW3];exact (Below.refl _ _).alloc (Nat.le_refl _) _
        have X4:Blk W3 wi.heap.size 71 #[.int .i64 hd.id,.int .i64 hd.acc,.int .i64 hd.side,.int .i64 hd.price,.int .i64 hd.qty]:=by rw [hW3];exact Blk.new wi _ _
        have hs3:W3.heap.size=wi.heap.size + 1:=by rw [hW3];simp
        rw [← hW3]
        clear hW3
        have HT3:=Lib.hid (HTi.out.below hb3)
        have XO:=HT3.out.two
        obtain ⟨⟨k0,k1,k2,k3,k4⟩,-⟩:=X4.c5
        obtain ⟨⟨q0,q1,q2,q3,q4⟩,-⟩:=XO.c5
        have hlow:=HT3.out.low
        have hhigh:=HT3.out.high
        have hx4:wi.heap.size < W3.heap.size:=by omega
        have hx5:w.heap.size + 1 < W3.heap.size:=by omega
        go_upto_region 19 with (at_builtin;refine wpList_app rfl _ _ _ rfl w2.heap.size _ _ _ elem_fl (.slice AF F.length cF) F.length (flCells F) rfl (World.ownsRow.alloc HT3.out.rowF _) (wi.heap.size + 1 + 1) _ 1 1 (flCells [fillOf o hd left]) rfl (rd_new _ _ (wi.heap.size + 1) 7 hs3.symm rfl _ rfl) (flCells_one _) (by unfold maxLen;omega) (by omega) (by simp;omega) ?_;intro vf' w5 hown5 hbel5 hgr5 hat5)
        have HT5:=Lib.hid ((HT3.out.below ((Below.refl _ _).alloc (Nat.le_refl _) _)).fill (f:=fillOf o hd left) hown5 hbel5 hgr5 hat5)
        clear hown5 hbel5 hgr5 hat5 HT3 k0 k1 k2 k3 k4 q0 q1 q2 q3 q4
        obtain ⟨g2,hA2,hg1,hg2,⟨k0,k1,k2,k3,k4⟩,fk4⟩:=own_od HT5.out.row HGM.out
        cases hA2
        have HT6:=Lib.hid (HT5.out.less (q:=hd.qty - left) HGM.out)
        go_wp2_with fail
        go_roundw
        case rel =>
         refine ⟨Z,{ hd with qty:=hd.qty - left } :: t,F ++ [fillOf o hd left],0,by go_num,rfl,by omega,by omega,HST',HDN',?_,?_,?_⟩
         ·exact Lib.hid (by have:=HZL.out;simpa using this)
         ·exact Lib.hid (.inr ⟨rfl,by have:=HFZ.out;simp;omega⟩)
         ·rw [← set_mid (hd:=hd),← HLE.out,← HK.out];exact HT6
        case measure=>simp [intOf];omega
       ·have HST':=Lib.hid HST.out.all
        have HDN':=Lib.hid (HDN.out.all hl1 HCR.out HAC.out hlq')
        have hlq2:¬ (left < hd.qty):=hlq'
        subst hA1
        go_upto_region 18 with (fail)
        obtain ⟨W3,hW3⟩:∃ W,W=wi.alloc (.cells #[.int .i64 hd.id,.int .i64 hd.acc,.int .i64 hd.side,.int .i64 hd.price,.int .i64 hd.qty] 71):=⟨_,rfl⟩
        have hb3:Below wi.heap.size wi W3:=by rw [hW3];exact (Below.refl _ _).alloc (Nat.le_refl _) _
        have X4:Blk W3 wi.heap.size 71 #[.int .i64 hd.id,.int .i64 hd.acc,.int .i64 hd.side,.int .i64 hd.price,.int .i64 hd.qty]:=by rw [hW3];exact Blk.new wi _ _
        have hs3:W3.heap.size=wi.heap.size + 1:=by rw [hW3];simp
        rw [← hW3]
        clear hW3
        have HT3:=Lib.hid (HTi.out.below hb3)
        have XO:=HT3.out.two
        obtain ⟨⟨k0,k1,k2,k3,k4⟩,-⟩:=X4.c5
        obtain ⟨⟨q0,q1,q2,q3,q4⟩,-⟩:=XO.c5
        have hlow:=HT3.out.low
        have hhigh:=HT3.out.high
        have hx4:wi.heap.size < W3.heap.size:=by omega
        have hx5:w.heap.size + 1 < W3.heap.size:=by omega
        go_upto_region 19 with (at_builtin;refine wpList_app rfl _ _ _ rfl w2.heap.size _ _ _ elem_fl (.slice AF F.length cF) F.length (flCells F) rfl (World.ownsRow.alloc HT3.out.rowF _) (wi.heap.size + 1 + 1) _ 1 1 (flCells [fillOf o hd hd.qty]) rfl (rd_new _ _ (wi.heap.size + 1) 7 hs3.symm rfl _ rfl) (flCells_one _) (by unfold maxLen;omega) (by omega) (by simp;omega) ?_;intro vf' w5 hown5 hbel5 hgr5 hat5)
        have HT5:=Lib.hid ((HT3.out.below ((Below.refl _ _).alloc (Nat.le_refl _) _)).fill (f:=fillOf o hd hd.qty) hown5 hbel5 hgr5 hat5)
        clear hown5 hbel5 hgr5 hat5 HT3 k0 k1 k2 k3 k4 q0 q1 q2 q3 q4
        obtain ⟨g2,hA2,hg1,hg2,⟨k0,k1,k2,k3,k4⟩,fk4⟩:=own_od HT5.out.row HGM.out
        cases hA2
        have HT6:=Lib.hid (HT5.out.less (q:=hd.qty - hd.qty) HGM.out)
        go_wp2_with fail
        go_roundw
        case rel =>
         refine ⟨Z ++ [{ hd with qty:=0 }],t,F ++ [fillOf o hd hd.qty],left - hd.qty,by go_num,rfl,by omega,by omega,HST',HDN',?_,?_,?_⟩
         ·exact Lib.hid (by have:=HZL.out;simp at this ⊢;omega)
         ·exact Lib.hid (.inl (by have:=HFZ.out;simp;omega))
         ·have e:ownA b o ++ (Z ++ [{ hd with qty:=0 }] ++ t) ++ ownC b o=l.set k { hd with qty:=0 }:=by rw [HLE.out,HK.out,set_mid];simp
          rw [e]
          have:=HT6
          rw [Int.sub_self] at this
          exact this
        case measure=>simp [intOf];omega
  ·have hl00:left=0:=by omega
   have HTO:=Lib.hid (takeOf_eq HBK.out HO.out (HDN.out.end_ (show takeL o left R=(R,[],0,false) by rw [hl00];exact takeL_zero _)))
   rw [List.append_nil] at HTO
   have HBO:=Lib.hid (bkOf_taken HBK.out HST.out)
   rw [← HLE.out] at HBO
   subst hl00
   go_wp2_with fail
   refine (rbookOf_any l _ n1 _ wr.heap.size (setOther b o.side (R)) wr (Rd.of_own HT.out.row) (Nat.le_refl _) HBO.out (by omega)).mono ?_
   rintro e w9 ⟨v9,rfl,ho9,hb9⟩
   obtain ⟨P1,p1,P1',p1',rfl,H9⟩:=ho9.obk
   have hs9:=hb9.size
   have HT9:=Lib.hid (HT.out.below hb9)
   have hbig:=HT9.out.low
   have hbig2:=HT9.out.high
   have hbig3:=HT.out.high
   obtain ⟨⟨z0,z1⟩,fz0,fz1⟩:=HT9.out.three.c2
   go_wp2_with fail
   refine bodyPost_ret (v:=.tuple #[.agg #[.slice P1 (setOther b o.side (R)).bids.length p1,.slice P1' (setOther b o.side (R)).asks.length p1'],.slice AF F.length cF,.int .i64 0,.bool false]) (by simp [results,Try.results92,go_sem, *]) rfl ?_
   rw [HTO.out]
   refine ⟨_,_,rfl,⟨P1,p1,P1',p1',rfl,?_,?_⟩,?_,(HT9.out.bel.setCell (by dsimp only;omega) _).setCell (by dsimp only;omega) _⟩
   ·exact own_mono (ownsRow_setCell_below (ownsRow_setCell_below H9.l (by dsimp only;omega) _) (by dsimp only;omega) _) (by omega)
   ·exact own_mono (ownsRow_setCell_below (ownsRow_setCell_below H9.r (by dsimp only;omega) _) (by dsimp only;omega) _) (by omega)
   ·exact own_mono (ownsRow_setCell_below (ownsRow_setCell_below HT9.out.rowF (by dsimp only;omega) _) (by dsimp only;omega) _) (by omega)
end
end Go.Proofs.Ytockodmbhnlheaa
