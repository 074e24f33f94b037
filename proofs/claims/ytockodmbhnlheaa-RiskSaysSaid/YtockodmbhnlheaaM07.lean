/-
  Contracts of the program's functions, and plain facts, that the laws VenueKeeps, VenueOthers, VenueCancels, VenueCash, VenueReady rest on (joined texts): Margins, Mark, Place, Trade, TradeG, VenueStep, DTrade.
-/
import Derived.Test.YtockodmbhnlheaaM06
import Derived.Test.YtockodmbhnlheaaM02
import Derived.Test.YtockodmbhnlheaaM01
import Derived.Deep.QuietTactic
import Derived.BigQuiet
import Derived.Test.YtockodmbhnlheaaProg
import Derived.Maps.AppendAt
import Derived.Laws.AppendOwnNone
import Derived.OwnWalk
import Derived.WalkKit
import Derived.WalkSpells
import Derived.WalkLawsBesides
import Derived.Lib.Hide
import Derived.Deep.Draws
import Derived.Test.YtockodmbhnlheaaM03
import Derived.Maps.Own
import Derived.Maps.OwnOps
import Derived.Maps.Views
import Derived.IntWalk
import Derived.Deep.RegionHeld3
import Derived.Deep.DeepCutAuto
import Derived.Test.YtockodmbhnlheaaM05
import Derived.RegionTactic
import Derived.ChangeAlike
import Derived.Lib.AppendZeros
import Derived.Test.YtockodmbhnlheaaM04
import Derived.Laws.CopyOwn
import Derived.Lib.AppendZerosOnto
import Derived.Lib.Overlaps
import Derived.Laws.Externs
import Derived.Deep.RegionLaw
namespace Go.Proofs.Ytockodmbhnlheaa
section
open Go.RowKit
theorem ix0 (a b c d e f:Value) (w:World):(Instr.index 186 (.agg #[a,b,c,d,e,f]) (.int .i64 0)).run Try.prog w=.ok (.agg #[a,b,c]) w:=by
 kernel_rfl
theorem ix1 (a b c d e f:Value) (w:World):(Instr.index 186 (.agg #[a,b,c,d,e,f]) (.int .i64 1)).run Try.prog w=.ok (.agg #[d,e,f]) w:=by
 kernel_rfl
theorem tier_one {t:Int} (h:t ≤ 100000):tierOf t=(10,5):=by unfold tierOf;rw [if_pos h]
theorem tier_two {t:Int} (h:100000 < t) (h':t ≤ 1000000):tierOf t=(20,10):=by unfold tierOf;rw [if_neg (by omega),if_pos h']
theorem tier_three {t:Int} (h:1000000 < t):tierOf t=(50,25):=by unfold tierOf;rw [if_neg (by omega),if_neg (by omega)]
set_option maxHeartbeats 1000000 in
theorem tier_any (t:Int) (w:World) :
  Calls Try.prog 131 #[.int .i64 t] w fun e w'=>e=.returned (.tuple #[.int .i64 (tierOf t).1,.int .i64 (tierOf t).2])∧Below w.heap.size w w':=by
 have i0:=ix0
 have i1:=ix1
 go_enter Try.func131,Try.ntmps131
 go_wp2_with fail
 go_loopw [9] (fun i wr=>(i=.int .i64 0∨i=.int .i64 1∧100000 < t∨i=.int .i64 2∧1000000 < t)∧Below w.heap.size w wr) (fun i _=>2 - (intOf i).toNat)
 case atStart=>exact ⟨.inl rfl,Below.refl _ _⟩
 case round =>
  obtain ⟨hj,hbr⟩:=hrel
  have hws:=hbr.size
  rcases hj with rfl | ⟨rfl,hj⟩ | ⟨rfl,hj⟩
  ·by_cases h1:t ≤ 100000
   ·have HE:=Lib.hid (tier_one h1)
    go_wp2_with fail
    go_quiet (fail)
    go_wp2_with fail
    go_ret2
    exact ⟨pair_ii (by rw [HE.out]),below_drewN (hbr.alloc hws _) _⟩
   ·have h2:100000 < t:=by omega
    go_wp2_with fail
    go_roundw
    case rel=>exact ⟨.inr (.inl ⟨rfl,h2⟩),hbr.alloc hws _⟩
    case measure=>simp [intOf]
  ·by_cases h1:t ≤ 1000000
   ·have HE:=Lib.hid (tier_two hj h1)
    go_wp2_with fail
    go_quiet (fail)
    go_wp2_with fail
    go_ret2
    exact ⟨pair_ii (by rw [HE.out]),below_drewN (hbr.alloc hws _) _⟩
   ·have h2:1000000 < t:=by omega
    go_wp2_with fail
    go_roundw
    case rel=>exact ⟨.inr (.inr ⟨rfl,h2⟩),hbr.alloc hws _⟩
    case measure=>simp [intOf]
  ·have HE:=Lib.hid (tier_three hj)
   go_wp2_with fail
   go_ret2
   exact ⟨pair_ii (by rw [HE.out]),hbr⟩
theorem triple_iii {a b c a' b' c':Int} (h:(a,b,c)=(a',b',c')):Ending.returned (.tuple #[.int .i64 a,.int .i64 b,.int .i64 c])=.returned (.tuple #[.int .i64 a',.int .i64 b',.int .i64 c']):=by
 injection h with h1 h;injection h with h2 h3;rw [h1,h2,h3]
theorem margins_drop {l marks:List Int} {j:Nat} {z k x y:Int} (hz:l[j]?=some z) (hk:marks[j]?=some k) :
  marginsFrom x y (l.drop j) (marks.drop j)=if (worthOf (max z (-z)) k).2 ≠ 0 then (0,0,(worthOf (max z (-z)) k).2) else marginsFrom (x + wants1 z k) (y + wants2 z k) (l.drop (j + 1)) (marks.drop (j + 1)):=by
 obtain ⟨h1,h2⟩:=List.getElem?_eq_some_iff.1 hz
 obtain ⟨h3,h4⟩:=List.getElem?_eq_some_iff.1 hk
 rw [List.drop_eq_getElem_cons h1,List.drop_eq_getElem_cons h3,h2,h4,margins_step]
theorem wants_parts {z k m t1 t2:Int} (hm:max z (-z)=m) (hw:worthOf m k=(m * k,0)) (ht:tierOf (m * k)=(t1,t2)) :
  partOf (m * k) t1 100 true=(wants1 z k,0)∧partOf (m * k) t2 100 true=(wants2 z k,0)∧(0 ≤ wants1 z k∧wants1 z k ≤ 5000000)∧(0 ≤ wants2 z k∧wants2 z k ≤ 5000000):=by
 subst hm
 obtain ⟨_,_,_,h1,h2⟩:=worth_abs (show (worthOf (max z (-z)) k).2=0 by rw [hw])
 obtain ⟨⟨a1,a2⟩,⟨a3,a4⟩,_⟩:=tier_bd (max z (-z) * k)
 rw [ht] at a1 a2 a3 a4
 simp only at a1 a2 a3 a4
 obtain ⟨p1,p2⟩:=part100 h1 h2 a1 a2
 obtain ⟨p3,p4⟩:=part100 h1 h2 a3 (show t2 ≤ 50 by omega)
 have e1:wants1 z k=(max z (-z) * k * t1 + 99) / 100:=by unfold wants1;rw [ht]
 have e2:wants2 z k=(max z (-z) * k * t2 + 99) / 100:=by unfold wants2;rw [ht]
 exact ⟨by rw [p1,e1],by rw [p3,e2],by omega,by omega⟩
theorem margins_end {l marks:List Int} {j:Nat} {x y:Int} (h:l.length ≤ j):marginsFrom x y (l.drop j) (marks.drop j)=(x,y,0):=by
 rw [List.drop_eq_nil_of_le h];rfl
set_option maxHeartbeats 2000000 in
theorem margins_any (a:Ac) (A A':Option Addr) (c n' c':Nat) (marks:List Int) (B B':Nat) (w:World) (h:Rd w B 1 A a.pos.length c (ints a.pos)) (hB:B ≤ w.heap.size) (h':Rd w B' 1 A' n' c' (ints marks)) (hB':B' ≤ w.heap.size) :
  Calls Try.prog 56 #[.agg #[.int .i64 a.id,.int .i64 a.bal,.slice A a.pos.length c],.slice A' n' c'] w fun e w' =>
   e=.returned (.tuple #[.int .i64 (marginsOf a marks).1,.int .i64 (marginsOf a marks).2.1,.int .i64 (marginsOf a marks).2.2])∧Below w.heap.size w w':=by
 by_cases h0:accCheck a.id a.bal a.pos marks.length=0
 ·have HE:=Lib.hid (show marginsFrom 0 0 (a.pos.drop 0) (marks.drop 0)=marginsOf a marks by unfold marginsOf;rw [if_neg (by rw [h0];simp)];rfl)
  obtain rfl:=h'.ofInts
  have HC:=Lib.hid h0
  obtain ⟨_,⟨hl1,hl2⟩,hl3,_,_⟩:=accCheck_ok h0
  have hl:a.pos.length=marks.length:=by omega
  obtain ⟨n,hn⟩:∃ n,marks.length=n:=⟨_,rfl⟩
  rw [hn] at hl h' hl1 hl2
  have HN:=Lib.hid hn
  have HL:=Lib.hid hl
  have hn2:n ≤ 2:=by omega
  rw [hl] at h
  rw [hl,hn]
  clear h0 hl hn hl3 hl1 hl2
  go_enter Try.func56,Try.ntmps56
  go_wp2_with fail
  refine (accCheck_any _ _ _ _ _ _ _ _ _ (h.alloc hB _) (by simp;omega)).mono ?_
  rintro e w1 ⟨rfl,hb1⟩
  rw [← HN.out,HC.out,HN.out]
  obtain ⟨⟨b0,b1,b2⟩,_⟩:=((Blk.new w 37 #[.int .i64 a.id,.int .i64 a.bal,.slice A n c]).below hb1 (by simp)).c3
  have hw1:w.heap.size < w1.heap.size:=by have:=hb1.size;simp at this;omega
  have h9:Below w.heap.size w w1:=((Below.refl _ _).alloc (Nat.le_refl _) _).trans (hb1.mono (by simp))
  have hp1:=h.below (h9.mono hB)
  have hm1:=h'.below (h9.mono hB')
  clear hb1
  go_wp2_with fail
  go_loopw [4,5,28] (fun s t i wr=>∃ (j:Nat) (x y:Int),j ≤ n∧s=.int .i64 x∧t=.int .i64 y∧i=.int .i64 j∧(0 ≤ x∧x ≤ 5000000 * (j:Int))∧(0 ≤ y∧y ≤ 5000000 * (j:Int))∧Below w1.heap.size w1 wr∧Hid (marginsFrom x y (a.pos.drop j) (marks.drop j)=marginsOf a marks)) (fun _ _ i _=>n - (intOf i).toNat)
  case atStart=>exact ⟨0,0,0,Nat.zero_le _,rfl,rfl,rfl,by omega,by omega,Below.refl _ _,HE⟩
  case round =>
   obtain ⟨j,x,y,hj,rfl,rfl,rfl,hx,hy,hbr,HR⟩:=hrel
   have hsz:=hbr.size
   clear b0 b1 b2
   by_cases hlt:j < n
   ·obtain ⟨b,o,rfl,hb,z,hz,hc⟩:=(hp1.below (hbr.mono (by omega))).int hlt
    obtain ⟨b',o',rfl,hb',k,hk,hc'⟩:=(hm1.below (hbr.mono (by omega))).int hlt
    have HZ:=Lib.hid hz
    have HD:=Lib.hid (HR.out.symm.trans (margins_drop hz hk))
    clear hz hk
    obtain ⟨m,hm,hm1⟩:∃ m,max z (-z)=m∧(z < -z∧m = -z∨-z ≤ z∧m=z):=⟨_,rfl,by omega⟩
    have HM:=Lib.hid hm
    obtain ⟨hz1,hz2⟩:=posOk_get (accCheck_ok HC.out).2.2.2.2 HZ.out
    clear hm
    rcases worth_cases m k with hw | ⟨hw,_,_,hw1,hw2⟩
    ·have HW:=Lib.hid hw
     have HE2:=Lib.hid (show marginsOf a marks=(0,0,3) by rw [HD.out,HM.out,hw];rfl)
     clear hw
     rcases hm1 with ⟨h3,rfl⟩ | ⟨h3,rfl⟩
     all_goals
      go_wp2_with fail
      refine (worth_any _ _ _).mono ?_
      rintro e w' ⟨rfl,rfl⟩
      rw [HW.out]
      go_wp2_with fail
      go_ret3
      exact ⟨triple_iii (by rw [HE2.out]),h9.trans (hbr.mono (by omega))⟩
    ·have HW:=Lib.hid hw
     obtain ⟨t1,t2,ht⟩:∃ t1 t2,tierOf (m * k)=(t1,t2):=⟨_,_,rfl⟩
     have HT:=Lib.hid ht
     obtain ⟨p1,p2,hp3,hp4⟩:=wants_parts HM.out hw ht
     have HP1:=Lib.hid p1
     have HP2:=Lib.hid p2
     have HE2:=Lib.hid (show marginsFrom (x + wants1 z k) (y + wants2 z k) (a.pos.drop (j + 1)) (marks.drop (j + 1))=marginsOf a marks by rw [HD.out,HM.out,hw];rfl)
     clear hw ht p1 p2
     generalize wants1 z k=u1 at *
     generalize wants2 z k=u2 at *
     rcases hm1 with ⟨h3,rfl⟩ | ⟨h3,rfl⟩
     all_goals
      go_wp2_with fail
      refine (worth_any _ _ _).mono ?_
      rintro e w' ⟨rfl,rfl⟩
      rw [HW.out]
      go_wp2_with fail
      refine (tier_any _ _).mono ?_
      rw [HT.out]
      rintro e w2 ⟨rfl,hb2⟩
      go_wp2_with fail
      refine (part_any _ _ _ _ _).mono ?_
      rw [HP1.out]
      rintro e w' ⟨rfl,rfl⟩
      go_wp2_with fail
      refine (part_any _ _ _ _ _).mono ?_
      rw [HP2.out]
      rintro e w' ⟨rfl,rfl⟩
      have hb3:=hbr.trans (hb2.mono hsz)
      clear hb2
      go_wp2_with fail
      go_roundw
      case rel=>exact ⟨j + 1,x + u1,y + u2,by omega,rfl,rfl,by go_num,by omega,by omega,hb3,HE2⟩
      case measure=>simp [intOf];omega
   ·have HE2:=Lib.hid (HR.out.symm.trans (margins_end (by have:=HL.out;omega)))
    go_wp2_with fail
    go_ret3
    exact ⟨triple_iii (by rw [HE2.out]),h9.trans (hbr.mono (by omega))⟩
 ·have HE:=Lib.hid (show marginsOf a marks=(0,0,accCheck a.id a.bal a.pos marks.length) by unfold marginsOf;rw [if_pos h0])
  obtain rfl:=h'.ofInts
  have h1:(accCheck a.id a.bal a.pos marks.length != 0)=true:=by simpa using h0
  clear h0
  go_enter Try.func56,Try.ntmps56
  go_wp2_with fail
  refine (accCheck_any _ _ _ _ _ _ _ _ _ (h.alloc hB _) (by simp;omega)).mono ?_
  rintro e w1 ⟨rfl,hb1⟩
  go_wp2_with fail
  go_ret3
  exact ⟨triple_iii (by rw [HE.out]),((Below.refl _ _).alloc (Nat.le_refl _) _).trans (hb1.mono (by simp))⟩
set_option maxHeartbeats 1000000 in
theorem sound_any (a:Ac) (A A':Option Addr) (c n' c':Nat) (marks:List Int) (B B':Nat) (w:World) (h:Rd w B 1 A a.pos.length c (ints a.pos)) (hB:B ≤ w.heap.size) (h':Rd w B' 1 A' n' c' (ints marks)) (hB':B' ≤ w.heap.size) :
  Calls Try.prog 57 #[.agg #[.int .i64 a.id,.int .i64 a.bal,.slice A a.pos.length c],.slice A' n' c'] w fun e w' =>
   e=.returned (.tuple #[.bool (soundOf a marks).1,.bool (soundOf a marks).2.1,.int .i64 (soundOf a marks).2.2])∧Below w.heap.size w w':=by
 obtain ⟨x,y,em,hm⟩:∃ x y em,marginsOf a marks=(x,y,em):=⟨_,_,_,rfl⟩
 obtain ⟨n,en,hn⟩:∃ n en,equityOf a marks=(n,en):=⟨_,_,rfl⟩
 have HM:=Lib.hid hm
 have HN:=Lib.hid hn
 have HS:=Lib.hid (show soundOf a marks=if em ≠ 0 then (false,false,em) else if en ≠ 0 then (false,false,en) else (decide (x ≤ n),decide (y ≤ n),0) by unfold soundOf;rw [hm,hn])
 clear hm hn
 go_enter Try.func57,Try.ntmps57
 go_wp2_with fail
 refine (margins_any a _ _ _ _ _ marks _ _ _ (h.alloc hB _) (by simp;omega) (h'.alloc hB' _) (by simp;omega)).mono ?_
 rw [HM.out]
 rintro e w1 ⟨rfl,hb1⟩
 obtain ⟨⟨b0,b1,b2⟩,_⟩:=((Blk.new w 37 #[.int .i64 a.id,.int .i64 a.bal,.slice A a.pos.length c]).below hb1 (by simp)).c3
 have hw1:w.heap.size < w1.heap.size:=by have:=hb1.size;simp at this;omega
 have h9:Below w.heap.size w w1:=((Below.refl _ _).alloc (Nat.le_refl _) _).trans (hb1.mono (by simp))
 have hp1:=h.below (h9.mono hB)
 have hm1:=h'.below (h9.mono hB')
 clear hb1
 by_cases hem:em=0
 ·subst hem
  have HS2:=Lib.hid (HS.out.trans (if_neg (by simp)))
  go_wp2_with fail
  refine (equity_any a _ _ _ _ _ marks _ _ _ hp1 (by omega) hm1 (by omega)).mono ?_
  rw [HN.out]
  rintro e w2 ⟨rfl,hb2⟩
  have h10:=h9.trans (hb2.mono (by omega))
  by_cases hen:en=0
  ·subst hen
   have HS3:=Lib.hid (HS2.out.trans (if_neg (by simp)))
   go_wp2_with fail
   go_ret3
   rw [HS3.out]
   exact ⟨rfl,h10⟩
  ·have HS3:=Lib.hid (HS2.out.trans (if_pos hen))
   have hen1:(en != 0)=true:=by simpa using hen
   clear hen
   go_wp2_with fail
   go_ret3
   rw [HS3.out]
   exact ⟨rfl,h10⟩
 ·have HS2:=Lib.hid (HS.out.trans (if_pos hem))
  have hem1:(em != 0)=true:=by simpa using hem
  clear hem
  go_wp2_with fail
  go_ret3
  rw [HS2.out]
  exact ⟨rfl,h9⟩
end
section
open Go.RowKit
theorem Blk.c4 {w:World} {g:Nat} {t:TypeId} {a b c d:Value} (h:Blk w g t #[a,b,c,d]) :
  (w.cell? ⟨g,0,none⟩=some a∧w.cell? ⟨g,1,none⟩=some b∧w.cell? ⟨g,2,none⟩=some c∧w.cell? ⟨g,3,none⟩=some d)∧w.frozen? ⟨g,0,none⟩=false∧w.frozen? ⟨g,1,none⟩=false∧w.frozen? ⟨g,2,none⟩=false∧w.frozen? ⟨g,3,none⟩=false :=
 ⟨⟨h.cell 0,h.cell 1,h.cell 2,h.cell 3⟩,h.frozen 0,h.frozen 1,h.frozen 2,h.frozen 3⟩
set_option maxHeartbeats 1000000 in
theorem marketErr_any (m:Mk) (A A':Option Addr) (c c':Nat) (B:Nat) (w:World) (h:Rd w B 5 A m.book.bids.length c (odCells m.book.bids)) (h':Rd w B 5 A' m.book.asks.length c' (odCells m.book.asks)) (hB:B ≤ w.heap.size) (hl:m.book.bids.length ≤ 4000000000000) (hl':m.book.asks.length ≤ 4000000000000) :
  Calls Try.prog 101 #[.agg #[.slice A m.book.bids.length c,.slice A' m.book.asks.length c',.int .i64 m.index,.int .i64 m.last]] w fun e w'=>e=.returned (.int .i64 (marketErr m))∧Below w.heap.size w w':=by
 have HB:=fun W=>bookCheck_any m.book A A' c c' B W
 have HC:=Lib.hid HB
 clear HB
 by_cases he:bookErr m.book=0
 ·have HE:=Lib.hid (show marketErr m=if m.index < 1∨10000 < m.index∨m.last < 0∨10000 < m.last then 3 else 0 by unfold marketErr;rw [if_neg (by omega)])
  have HZ:=Lib.hid he
  clear he
  have hs:(m.index < 1∨1 ≤ m.index∧10000 < m.index∨1 ≤ m.index∧m.index ≤ 10000∧m.last < 0∨1 ≤ m.index∧m.index ≤ 10000∧0 ≤ m.last∧10000 < m.last)∨(1 ≤ m.index∧m.index ≤ 10000∧0 ≤ m.last∧m.last ≤ 10000):=by omega
  go_enter Try.func101,Try.ntmps101
  go_wp2_with fail
  refine (HC.out _ (h.alloc hB _) (h'.alloc hB _) (by simp;omega) hl hl').mono ?_
  rw [HZ.out]
  rintro e w1 ⟨rfl,hb1⟩
  obtain ⟨⟨b0,b1,b2,b3⟩,_⟩:=((Blk.new w 64 #[.slice A m.book.bids.length c,.slice A' m.book.asks.length c',.int .i64 m.index,.int .i64 m.last]).below hb1 (by simp)).c4
  have h9:Below w.heap.size w w1:=((Below.refl _ _).alloc (Nat.le_refl _) _).trans (hb1.mono (by simp))
  clear hb1
  rcases hs with (g1 | ⟨g1,g2⟩ | ⟨g1,g2,g3⟩ | ⟨g1,g2,g3,g4⟩) | ⟨g1,g2,g3,g4⟩
  rotate_right
  ·have HE2:=Lib.hid (HE.out.trans (if_neg (by omega)))
   go_wp2_with fail
   go_ret
   exact ⟨ret_ii HE2.out.symm,h9⟩
  all_goals
   have HE2:=Lib.hid (HE.out.trans (if_pos (by omega)))
   go_wp2_with fail
   go_ret
   exact ⟨ret_ii HE2.out.symm,h9⟩
 ·have HE:=Lib.hid (show marketErr m=bookErr m.book by unfold marketErr;rw [if_pos he])
  have he':(bookErr m.book != 0)=true:=by simpa using he
  clear he
  go_enter Try.func101,Try.ntmps101
  go_wp2_with fail
  refine (HC.out _ (h.alloc hB _) (h'.alloc hB _) (by simp;omega) hl hl').mono ?_
  rintro e w1 ⟨rfl,hb1⟩
  go_wp2_with fail
  go_ret
  exact ⟨ret_ii HE.out.symm,((Below.refl _ _).alloc (Nat.le_refl _) _).trans (hb1.mono (by simp))⟩
theorem market_ok {m:Mk} (h:marketErr m=0):BookOk m.book∧(1 ≤ m.index∧m.index ≤ 10000)∧(0 ≤ m.last∧m.last ≤ 10000):=by
 unfold marketErr at h
 split at h
 ·rename_i h1;exact absurd h h1
 ·rename_i h1
  split at h
  ·omega
  ·exact ⟨bookErr_ok.1 (by omega),by omega,by omega⟩
theorem zero_or (n:Int):n=0∨(n == 0)=false:=by by_cases h:n=0 <;> simp [h]
theorem mid_nil {m:Mk} (h:m.book.bids.length=0∨m.book.asks.length=0):midPrice m=m.index:=by
 obtain ⟨⟨l,k⟩,i,la⟩:=m
 cases l with
 | nil=>rfl
 | cons x l =>
  cases k with
  | nil=>rfl
  | cons y k=>simp at h
theorem mid_at {m:Mk} {x y:Od} (hx:m.book.bids[0]?=some x) (hy:m.book.asks[0]?=some y):midPrice m=(x.price + y.price) / 2:=by
 obtain ⟨⟨l,k⟩,i,la⟩:=m
 cases l with
 | nil=>simp at hx
 | cons x' l =>
  cases k with
  | nil=>simp at hy
  | cons y' k=>simp at hx hy;subst hx hy;rfl
set_option maxRecDepth 100000 in
set_option maxHeartbeats 2000000 in
theorem mark_any (m:Mk) (A A':Option Addr) (c c':Nat) (B:Nat) (w:World) (h:Rd w B 5 A m.book.bids.length c (odCells m.book.bids)) (h':Rd w B 5 A' m.book.asks.length c' (odCells m.book.asks)) (hB:B ≤ w.heap.size) (hl:m.book.bids.length ≤ 4000000000000) (hl':m.book.asks.length ≤ 4000000000000) :
  Calls Try.prog 59 #[.agg #[.slice A m.book.bids.length c,.slice A' m.book.asks.length c',.int .i64 m.index,.int .i64 m.last]] w fun e w'=>e=.returned (.tuple #[.int .i64 (markOf m).1,.int .i64 (markOf m).2])∧Below w.heap.size w w':=by
 by_cases he:marketErr m=0
 ·obtain ⟨_,⟨i1,i2⟩,⟨i3,i4⟩⟩:=market_ok he
  have hbo:=(market_ok he).1
  have HZ:=Lib.hid he
  clear he
  go_enter Try.func59,Try.ntmps59
  go_wp2_with fail
  refine (marketErr_any m _ _ _ _ _ _ (h.alloc hB _) (h'.alloc hB _) (by simp;omega) hl hl').mono ?_
  rw [HZ.out]
  rintro e w1 ⟨rfl,hb1⟩
  have B1:=(Blk.new w 64 #[.slice A m.book.bids.length c,.slice A' m.book.asks.length c',.int .i64 m.index,.int .i64 m.last]).below hb1 (by simp)
  have h9:Below w.heap.size w w1:=((Below.refl _ _).alloc (Nat.le_refl _) _).trans (hb1.mono (by simp))
  have hw1:w.heap.size < w1.heap.size:=by have:=hb1.size;simp at this;omega
  clear hb1
  obtain ⟨⟨b0,b1,b2,b3⟩,_⟩:=B1.c4
  go_wp2_with fail
  go_quiet (fail)
  obtain ⟨W,hW⟩:∃ W,W=w1.drewN nq:=⟨_,rfl⟩
  rw [← hW]
  have h9:Below w.heap.size w W:=by rw [hW];exact below_drewN h9 _
  have B2:Blk W w.heap.size 64 #[.slice A m.book.bids.length c,.slice A' m.book.asks.length c',.int .i64 m.index,.int .i64 m.last]:=by rw [hW];exact B1.drewN _
  clear hW B1 b0 b1 b2 b3
  obtain ⟨⟨b0,b1,b2,b3⟩,_⟩:=B2.c4
  have ra:=h.below (h9.mono hB)
  have rb:=h'.below (h9.mono hB)
  have q1:IntKind.i64.wrap (m.index - m.index / 20)=m.index - m.index / 20:=IntWalk.i64_in _ (by omega)
  have q2:IntKind.i64.wrap (m.index + m.index / 20)=m.index + m.index / 20:=IntWalk.i64_in _ (by omega)
  by_cases hn:m.book.bids.length=0
  ·have HMID:=Lib.hid (mid_nil (.inl hn))
   have d2:¬ 0 < m.book.bids.length:=by omega
   have d3:decide (0 < m.book.bids.length)=false:=decide_eq_false d2
   clear hn
   rcases zero_or m.last with hz | hz
   ·have HP:=Lib.hid (show markOf m=(midOf (m.index - m.index / 20) (midOf m.index (m.index) m.index) (m.index + m.index / 20),0) by
     unfold markOf
     rw [if_neg (by rw [HZ.out];simp)]
     show (midI _ (midI _ (midPrice m) (lastPrice m)) _,0)=_
     rw [HMID.out,show lastPrice m=m.index by unfold lastPrice;rw [if_pos hz]];rfl)
    have hz1:(m.last == 0)=true:=by simpa using hz
    clear hz
    go_wp2_with fail
    go_quiet (((first | (go_at_call 33;exact quiet_left (middle_any _ _ _ _)))))
    go_wp2_with fail
    go_ret2
    exact ⟨pair_ii (by rw [HP.out]),below_drewN h9 _⟩
   ·have HP:=Lib.hid (show markOf m=(midOf (m.index - m.index / 20) (midOf m.index (m.index) m.last) (m.index + m.index / 20),0) by
     unfold markOf
     rw [if_neg (by rw [HZ.out];simp)]
     show (midI _ (midI _ (midPrice m) (lastPrice m)) _,0)=_
     rw [HMID.out,show lastPrice m=m.last by unfold lastPrice;rw [if_neg (by simpa using hz)]];rfl)
    go_wp2_with fail
    go_quiet (((first | (go_at_call 33;exact quiet_left (middle_any _ _ _ _)))))
    go_wp2_with fail
    go_ret2
    exact ⟨pair_ii (by rw [HP.out]),below_drewN h9 _⟩
  ·have d1:0 < m.book.bids.length:=by omega
   have d2:(0:Int) < (m.book.bids.length:Int):=by omega
   have d3:decide (0 < m.book.bids.length)=true:=decide_eq_true d1
   by_cases hn':m.book.asks.length=0
   ·have HMID:=Lib.hid (mid_nil (.inr hn'))
    have d4:¬ 0 < m.book.asks.length:=by omega
    have d5:decide (0 < m.book.asks.length)=false:=decide_eq_false d4
    clear hn hn'
    rcases zero_or m.last with hz | hz
    ·have HP:=Lib.hid (show markOf m=(midOf (m.index - m.index / 20) (midOf m.index (m.index) m.index) (m.index + m.index / 20),0) by
      unfold markOf
      rw [if_neg (by rw [HZ.out];simp)]
      show (midI _ (midI _ (midPrice m) (lastPrice m)) _,0)=_
      rw [HMID.out,show lastPrice m=m.index by unfold lastPrice;rw [if_pos hz]];rfl)
     have hz1:(m.last == 0)=true:=by simpa using hz
     clear hz
     go_wp2_with fail
     go_quiet (((first | (go_at_call 33;exact quiet_left (middle_any _ _ _ _)))))
     go_wp2_with fail
     go_ret2
     exact ⟨pair_ii (by rw [HP.out]),below_drewN h9 _⟩
    ·have HP:=Lib.hid (show markOf m=(midOf (m.index - m.index / 20) (midOf m.index (m.index) m.last) (m.index + m.index / 20),0) by
      unfold markOf
      rw [if_neg (by rw [HZ.out];simp)]
      show (midI _ (midI _ (midPrice m) (lastPrice m)) _,0)=_
      rw [HMID.out,show lastPrice m=m.last by unfold lastPrice;rw [if_neg (by simpa using hz)]];rfl)
     go_wp2_with fail
     go_quiet (((first | (go_at_call 33;exact quiet_left (middle_any _ _ _ _)))))
     go_wp2_with fail
     go_ret2
     exact ⟨pair_ii (by rw [HP.out]),below_drewN h9 _⟩
   ·have d4:0 < m.book.asks.length:=by omega
    have d5:(0:Int) < (m.book.asks.length:Int):=by omega
    have d6:decide (0 < m.book.asks.length)=true:=decide_eq_true d4
    obtain ⟨g1,o1,x,rfl,hg1,hx,_,_,_,k3,_⟩:=od_at ra (i:=0) (by omega)
    obtain ⟨g2,o2,y,rfl,hg2,hy,_,_,_,m3,_⟩:=od_at rb (i:=0) (by omega)
    have HMID:=Lib.hid (mid_at hx hy)
    have px:=(ordErr_ok.1 (hbo.bids.ok x (List.mem_of_getElem? hx))).2.2.2.1
    have py:=(ordErr_ok.1 (hbo.asks.ok y (List.mem_of_getElem? hy))).2.2.2.1
    obtain ⟨px1,px2⟩:=px
    obtain ⟨py1,py2⟩:=py
    rw [Nat.zero_mul,Nat.add_zero] at k3 m3
    have q3:IntKind.i64.wrap (x.price + y.price)=x.price + y.price:=IntWalk.i64_in _ (by omega)
    have q4:(x.price + y.price).tdiv 2=(x.price + y.price) / 2:=Int.tdiv_eq_ediv_of_nonneg (by omega)
    have q5:IntKind.i64.wrap ((x.price + y.price) / 2)=(x.price + y.price) / 2:=IntWalk.i64_in _ (by omega)
    clear hx hy hn hn'
    go_wp2_with fail
    go_quiet (fail)
    obtain ⟨X,hX⟩:∃ X,X=W.drewN nq:=⟨_,rfl⟩
    rw [← hX]
    have h9:Below w.heap.size w X:=by rw [hX];exact below_drewN h9 _
    have B3:Blk X w.heap.size 64 #[.slice (some ⟨g1,o1,none⟩) m.book.bids.length c,.slice (some ⟨g2,o2,none⟩) m.book.asks.length c',.int .i64 m.index,.int .i64 m.last]:=by rw [hX];exact B2.drewN _
    clear hX B2 b0 b1 b2 b3 k3 m3
    obtain ⟨⟨b0,b1,b2,b3⟩,_⟩:=B3.c4
    rcases zero_or m.last with hz | hz
    ·have HP:=Lib.hid (show markOf m=(midOf (m.index - m.index / 20) (midOf m.index ((x.price + y.price) / 2) m.index) (m.index + m.index / 20),0) by
      unfold markOf
      rw [if_neg (by rw [HZ.out];simp)]
      show (midI _ (midI _ (midPrice m) (lastPrice m)) _,0)=_
      rw [HMID.out,show lastPrice m=m.index by unfold lastPrice;rw [if_pos hz]];rfl)
     have hz1:(m.last == 0)=true:=by simpa using hz
     clear hz
     go_wp2_with fail
     go_quiet (((first | (go_at_call 33;exact quiet_left (middle_any _ _ _ _)))))
     go_wp2_with fail
     go_ret2
     exact ⟨pair_ii (by rw [HP.out]),below_drewN h9 _⟩
    ·have HP:=Lib.hid (show markOf m=(midOf (m.index - m.index / 20) (midOf m.index ((x.price + y.price) / 2) m.last) (m.index + m.index / 20),0) by
      unfold markOf
      rw [if_neg (by rw [HZ.out];simp)]
      show (midI _ (midI _ (midPrice m) (lastPrice m)) _,0)=_
      rw [HMID.out,show lastPrice m=m.last by unfold lastPrice;rw [if_neg (by simpa using hz)]];rfl)
     go_wp2_with fail
     go_quiet (((first | (go_at_call 33;exact quiet_left (middle_any _ _ _ _)))))
     go_wp2_with fail
     go_ret2
     exact ⟨pair_ii (by rw [HP.out]),below_drewN h9 _⟩
 ·have HE:=Lib.hid (show markOf m=(0,marketErr m) by unfold markOf;rw [if_pos he])
  have he':(marketErr m != 0)=true:=by simpa using he
  clear he
  go_enter Try.func59,Try.ntmps59
  go_wp2_with fail
  refine (marketErr_any m _ _ _ _ _ _ (h.alloc hB _) (h'.alloc hB _) (by simp;omega) hl hl').mono ?_
  rintro e w1 ⟨rfl,hb1⟩
  go_wp2_with fail
  go_ret2
  exact ⟨pair_ii (by rw [HE.out]),((Below.refl _ _).alloc (Nat.le_refl _) _).trans (hb1.mono (by simp))⟩
end
section
open Go.RowKit
theorem place_eq {L:List Ac} {id:Int} {i:Nat} (hi:i ≤ L.length) (h1:∀ a ∈ L.take i,a.id < id) (h2:∀ a ∈ L.drop i,id ≤ a.id):placeOf L id=i:=by
 unfold placeOf
 conv=>lhs;rw [← List.take_append_drop i L]
 rw [List.filter_append,List.length_append,List.filter_eq_self.2 (fun a ha=>by simpa using h1 a ha),List.filter_eq_nil_iff.2 (fun a ha=>by have:=h2 a ha;simp only [decide_eq_true_eq];omega),List.length_take,List.length_nil]
 omega
theorem lo_next {L:List Ac} {id:Int} {h:Nat} {a:Ac} (hs:SortedA L) (ha:L[h]?=some a) (hlt:a.id < id):∀ x ∈ L.take (h + 1),x.id < id:=by
 intro x hx
 obtain ⟨i,hi⟩:=List.mem_iff_getElem?.1 hx
 rw [List.getElem?_take] at hi
 split at hi
 ·rename_i hlt2
  obtain ⟨k1,k2⟩:=List.getElem?_eq_some_iff.1 hi
  obtain ⟨k3,k4⟩:=List.getElem?_eq_some_iff.1 ha
  by_cases e:i=h
  ·subst e;rw [hi] at ha;injection ha with ha;rw [ha];exact hlt
  ·have:=List.pairwise_iff_getElem.1 hs i h k1 k3 (by omega)
   rw [k2,k4] at this;omega
 ·cases hi
theorem hi_next {L:List Ac} {id:Int} {h:Nat} {a:Ac} (hs:SortedA L) (ha:L[h]?=some a) (hge:id ≤ a.id):∀ x ∈ L.drop h,id ≤ x.id:=by
 intro x hx
 obtain ⟨i,hi⟩:=List.mem_iff_getElem?.1 hx
 rw [List.getElem?_drop] at hi
 obtain ⟨k1,k2⟩:=List.getElem?_eq_some_iff.1 hi
 obtain ⟨k3,k4⟩:=List.getElem?_eq_some_iff.1 ha
 by_cases e:i=0
 ·subst e;rw [Nat.add_zero] at hi;rw [hi] at ha;injection ha with ha;rw [ha];exact hge
 ·have:=List.pairwise_iff_getElem.1 hs h (h + i) k3 k1 (by omega)
  rw [k2,k4] at this;omega
theorem there_at {L:List Ac} {id:Int} {i:Nat} {a:Ac} (h1:∀ a ∈ L.take i,a.id < id) (ha:L[i]?=some a) (hs:SortedA L) (h2:id ≤ a.id):thereB L id=decide (a.id=id):=by
 rw [Bool.eq_iff_iff,there_iff,decide_eq_true_eq]
 constructor
 ·rintro ⟨x,hx,rfl⟩
  rw [← List.take_append_drop i L,List.mem_append] at hx
  rcases hx with hx | hx
  ·have:=h1 x hx;omega
  ·have h3:=hi_next hs ha (Int.le_refl a.id) x hx
   omega
 ·intro e;exact ⟨a,List.mem_of_getElem? ha,e⟩
theorem there_end {L:List Ac} {id:Int} {i:Nat} (h1:∀ a ∈ L.take i,a.id < id) (hi:L.length ≤ i):thereB L id=false:=by
 refine there_not.2 fun a ha e=>?_
 have:=h1 a (by rw [List.take_of_length_le hi];exact ha)
 omega
theorem ret_ib {i j:Int} {b c:Bool} (h:i=j) (h':b=c):Ending.returned (.tuple #[.int .i64 i,.bool b])=.returned (.tuple #[.int .i64 j,.bool c]):=by rw [h,h']
set_option maxHeartbeats 400000 in
theorem cmp_any (a:Ac) (A:Option Addr) (n c:Nat) (id:Int) (w:World) (h1:0 ≤ a.id∧a.id ≤ 7) (h2:0 ≤ id∧id ≤ 7) :
  Calls Try.prog 193 #[.agg #[.int .i64 a.id,.int .i64 a.bal,.slice A n c],.int .i64 id] w fun e w'=>e=.returned (.int .i64 (a.id - id))∧Below w.heap.size w w':=by
 obtain ⟨h3,h4⟩:=h1
 obtain ⟨h5,h6⟩:=h2
 go_enter Try.func193,Try.ntmps193
 go_wp2_with fail
 go_ret
 exact ⟨rfl,(Below.refl _ _).alloc (Nat.le_refl _) _⟩
set_option maxHeartbeats 2000000 in
set_option maxRecDepth 100000 in
theorem search_accs (A:Option Addr) (n c:Nat) (L:List Ac) (id:Int) (B:Nat) (w:World) (h:RdL shAcc w B A n c L) (hB:B ≤ w.heap.size) (hs:SortedA L) (hid:∀ a ∈ L,0 ≤ a.id∧a.id ≤ 7) (hi:0 ≤ id∧id ≤ 7) (hn:n ≤ 8) :
  Calls Try.prog 192 #[.slice A n c,.int .i64 id,.func (.func 193) #[] #[]] w fun e w'=>e=.returned (.tuple #[.int .i64 (placeOf L id),.bool (thereB L id)])∧Below w.heap.size w w':=by
 have HL:=Lib.hid h.len
 have HS:=Lib.hid hs
 have HID:=Lib.hid hid
 have HI:=Lib.hid hi
 clear hs hid hi
 go_enter Try.func192,Try.ntmps192
 go_wp2_with fail
 go_loopw [9,10] (fun i j wr=>∃ (a b:Nat),i=.int .i64 a∧j=.int .i64 b∧a ≤ b∧b ≤ n∧Hid (∀ x ∈ L.take a,x.id < id)∧Hid (∀ x ∈ L.drop b,id ≤ x.id)∧Below w.heap.size w wr) (fun i j _=>(intOf j - intOf i).toNat)
 case atStart=>exact ⟨0,n,rfl,rfl,Nat.zero_le _,Nat.le_refl _,Lib.hid (by simp),Lib.hid (by rw [List.drop_of_length_le (by rw [HL.out];exact Nat.le_refl _)];simp),Below.refl _ _⟩
 case round =>
  obtain ⟨a,b,rfl,rfl,hab,hbn,HLO,HHI,hbr⟩:=hrel
  have hws:=hbr.size
  by_cases hlt:a < b
  ·obtain ⟨m,hm⟩:∃ m,m=(a + b) / 2:=⟨_,rfl⟩
   have hm1:a ≤ m:=by omega
   have hm2:m < b:=by omega
   have hmi:((a:Int) + (b:Int)) / 2=(m:Int):=by omega
   obtain ⟨bb,oo,x,rfl,hbB,hx,A2,c2,k0,k1,k2,k3,k4⟩:=acc_at (h.below (hbr.mono hB)) (show m < n by omega)
   have hxid:=HID.out x (List.mem_of_getElem? hx)
   have HX:=Lib.hid hx
   have hi0:=HI.out
   have x1:bb < wr.heap.size:=by omega
   clear hm hx
   go_wp2_with fail
   refine (cmp_any x _ _ _ id _ hxid hi0).mono ?_
   rintro e w2 ⟨rfl,hb2⟩
   have hbw:=hbr.trans (hb2.mono hws)
   clear hb2 k0 k1 k2 k3
   by_cases hd:x.id < id
   ·have d1:decide (x.id - id < 0)=true:=decide_eq_true (by omega)
    have d2:x.id - id < 0:=by omega
    have HN:=Lib.hid (lo_next HS.out HX.out hd)
    clear hd hmi
    go_wp2_with fail
    go_roundw
    case rel=>exact ⟨m + 1,b,by go_num,rfl,by omega,hbn,HN,HHI,hbw⟩
    case measure=>simp [intOf];omega
   ·have d1:decide (x.id - id < 0)=false:=decide_eq_false (by omega)
    have d2:¬ x.id - id < 0:=by omega
    have HN:=Lib.hid (hi_next (id:=id) HS.out HX.out (by omega))
    clear hd hmi
    go_wp2_with fail
    go_roundw
    case rel=>exact ⟨a,m,rfl,rfl,by omega,by omega,HLO,HN,hbw⟩
    case measure=>simp [intOf];omega
  ·obtain rfl:b=a:=by omega
   have HP:=Lib.hid (place_eq (by rw [HL.out];exact hbn) HLO.out HHI.out)
   by_cases hn1:b < n
   ·obtain ⟨bb,oo,x,rfl,hbB,hx,A2,c2,k0,k1,k2,k3,k4⟩:=acc_at (h.below (hbr.mono hB)) hn1
    have hxid:=HID.out x (List.mem_of_getElem? hx)
    have hge:=HHI.out x (List.mem_iff_getElem?.2 ⟨0,by rw [List.getElem?_drop,Nat.add_zero];exact hx⟩)
    have HT:=Lib.hid (there_at HLO.out hx HS.out hge)
    have hi0:=HI.out
    have x1:bb < wr.heap.size:=by omega
    clear hx
    go_wp2_with fail
    refine (cmp_any x _ _ _ id _ hxid hi0).mono ?_
    rintro e w2 ⟨rfl,hb2⟩
    have hbw:=hbr.trans (hb2.mono hws)
    clear hb2 k0 k1 k2 k3
    by_cases hd:x.id=id
    ·have d1:(x.id - id == 0)=true:=by simp;omega
     have HT2:=Lib.hid (HT.out.trans (decide_eq_true hd))
     clear hd HT
     go_wp2_with fail
     go_ret2
     exact ⟨ret_ib (by rw [HP.out]) HT2.out.symm,hbw⟩
    ·have d1:(x.id - id == 0)=false:=by simp;omega
     have HT2:=Lib.hid (HT.out.trans (decide_eq_false hd))
     clear hd HT
     go_wp2_with fail
     go_ret2
     exact ⟨ret_ib (by rw [HP.out]) HT2.out.symm,hbw⟩
   ·have HT:=Lib.hid (there_end HLO.out (by rw [HL.out];omega))
    go_wp2_with fail
    go_ret2
    exact ⟨ret_ib (by rw [HP.out]) HT.out.symm,hbr⟩
set_option maxHeartbeats 1000000 in
theorem place_any (v:Vn) (A M:Option Addr) (c k:Nat) (id:Int) (B:Nat) (w:World) (h:RdL shAcc w B A v.accs.length c v.accs) (hB:B ≤ w.heap.size) (hs:SortedA v.accs) (hid:∀ a ∈ v.accs,0 ≤ a.id∧a.id ≤ 7) (hi:0 ≤ id∧id ≤ 7) (hn:v.accs.length ≤ 8) :
  Calls Try.prog 177 #[.agg #[.slice A v.accs.length c,.slice M v.mks.length k,.int .i64 v.ins,.int .i64 v.resid,.int .i64 v.next,.int .i64 v.inn,.int .i64 v.out],.int .i64 id] w fun e w'=>e=.returned (.tuple #[.int .i64 (placeOf v.accs id),.bool (thereB v.accs id)])∧Below w.heap.size w w':=by
 have HS:=Lib.hid hs
 have HID:=Lib.hid hid
 have HI:=Lib.hid hi
 clear hs hid hi
 go_enter Try.func177,Try.ntmps177
 go_wp2_with fail
 refine (search_accs _ _ _ _ _ B _ (h.alloc hB _) (by simp;omega) HS.out HID.out HI.out hn).mono ?_
 rintro e w2 ⟨rfl,hb2⟩
 go_wp2_with fail
 go_ret2
 exact ⟨rfl,((Below.refl _ _).alloc (Nat.le_refl _) _).trans (hb2.mono (by simp))⟩
end
section
open Go.RowKit
def RetTrade (w:World) (r:Ac × Int) (e:Ending) (w':World):Prop :=
 ∃ A c,e=.returned (.tuple #[.agg #[.int .i64 r.1.id,.int .i64 r.1.bal,.slice A r.1.pos.length c],.int .i64 r.2])∧w'.ownsRow w.heap.size 3 1 (.slice A r.1.pos.length c) r.1.pos.length (ints r.1.pos)∧Below w.heap.size w w'
theorem retTrade_err {w w':World} {e:Int} (hb:Below w.heap.size w w'):RetTrade w (zeroAc,e) (.returned (.tuple #[.agg #[.int .i64 0,.int .i64 0,.slice none 0 0],.int .i64 e])) w' :=
 ⟨none,0,rfl,World.ownsRow_nil _ _ _ _,hb⟩
set_option maxHeartbeats 2000000 in
theorem trade_bad1 (a:Ac) (A:Option Addr) (c:Nat) (m q p f:Int) (B:Nat) (w:World) (h:Rd w B 1 A a.pos.length c (ints a.pos)) (hB:B ≤ w.heap.size) (h0:accCheck a.id a.bal a.pos a.pos.length ≠ 0) :
  Calls Try.prog 41 #[.agg #[.int .i64 a.id,.int .i64 a.bal,.slice A a.pos.length c],.int .i64 m,.int .i64 q,.int .i64 p,.int .i64 f] w (RetTrade w (tradeOf a m q p f)):=by
 have HE:=Lib.hid (show tradeOf a m q p f=(zeroAc,accCheck a.id a.bal a.pos a.pos.length) by unfold tradeOf;rw [if_pos h0])
 have h1:(accCheck a.id a.bal a.pos a.pos.length != 0)=true:=by simpa using h0
 clear h0
 go_enter Try.func41,Try.ntmps41
 go_wp2_with fail
 refine (accCheck_any _ _ _ _ _ _ _ _ _ ((h.alloc hB _).alloc (by simp;omega) _) (by simp;omega)).mono ?_
 rintro e w1 ⟨rfl,hb1⟩
 obtain ⟨⟨c0,c1,c2⟩,d0,d1,d2⟩:=((Blk.new (w.alloc (.cells #[.int .i64 a.id,.int .i64 a.bal,.slice A a.pos.length c] 37)) 37 #[.int .i64 0,.int .i64 0,.slice none 0 0]).below hb1 (by simp)).c3
 simp only [World.size_alloc] at c0 c1 c2 d0 d1 d2
 go_wp2_with fail
 refine bodyPost_ret (v:=.tuple #[.agg #[.int .i64 0,.int .i64 0,.slice none 0 0],.int .i64 (accCheck a.id a.bal a.pos a.pos.length)]) (by simp [results,Try.results41,go_sem, *]) rfl ?_
 rw [HE.out]
 refine retTrade_err ?_
 have h9:Below w.heap.size w w1:=(((Below.refl _ _).alloc (Nat.le_refl _) _).alloc (by simp) _).trans (hb1.mono (by simp;omega))
 repeat (first | exact h9 | refine Below.setCell ?_ (by simp) _)
set_option maxHeartbeats 2000000 in
theorem trade_bad2 (a:Ac) (A:Option Addr) (c:Nat) (m q p f:Int) (B:Nat) (w:World) (h:Rd w B 1 A a.pos.length c (ints a.pos)) (hB:B ≤ w.heap.size) (h0:accCheck a.id a.bal a.pos a.pos.length=0) (h1:m < 0∨(a.pos.length:Int) ≤ m) :
  Calls Try.prog 41 #[.agg #[.int .i64 a.id,.int .i64 a.bal,.slice A a.pos.length c],.int .i64 m,.int .i64 q,.int .i64 p,.int .i64 f] w (RetTrade w (tradeOf a m q p f)):=by
 have HE:=Lib.hid (show tradeOf a m q p f=(zeroAc,5) by unfold tradeOf;rw [if_neg (by rw [h0];simp),if_pos h1])
 have HC:=Lib.hid h0
 clear h0
 rcases h1 with h1 | h1
 all_goals
  go_enter Try.func41,Try.ntmps41
  go_wp2_with fail
  refine (accCheck_any _ _ _ _ _ _ _ _ _ ((h.alloc hB _).alloc (by simp;omega) _) (by simp;omega)).mono ?_
  rintro e w1 ⟨rfl,hb1⟩
  rw [HC.out]
  obtain ⟨⟨c0,c1,c2⟩,d0,d1,d2⟩:=((Blk.new (w.alloc (.cells #[.int .i64 a.id,.int .i64 a.bal,.slice A a.pos.length c] 37)) 37 #[.int .i64 0,.int .i64 0,.slice none 0 0]).below hb1 (by simp)).c3
  obtain ⟨⟨b0,b1,b2⟩,e0,e1,e2⟩:=(((Blk.new w 37 #[.int .i64 a.id,.int .i64 a.bal,.slice A a.pos.length c]).alloc (.cells #[.int .i64 0,.int .i64 0,.slice none 0 0] 37)).below hb1 (by simp;omega)).c3
  simp only [World.size_alloc] at c0 c1 c2 d0 d1 d2
  have hz1:w.heap.size + 1 < w1.heap.size:=by have:=hb1.size;simp at this;omega
  go_wp2_with fail
  refine bodyPost_ret (v:=.tuple #[.agg #[.int .i64 0,.int .i64 0,.slice none 0 0],.int .i64 5]) (by simp [results,Try.results41,go_sem, *]) rfl ?_
  rw [HE.out]
  refine retTrade_err ?_
  have h9:Below w.heap.size w w1:=(((Below.refl _ _).alloc (Nat.le_refl _) _).alloc (by simp) _).trans (hb1.mono (by simp;omega))
  repeat (first | exact h9 | refine Below.setCell ?_ (by simp) _)
set_option maxHeartbeats 2000000 in
theorem trade_bad3 (a:Ac) (A:Option Addr) (c:Nat) (m q p f:Int) (B:Nat) (w:World) (h:Rd w B 1 A a.pos.length c (ints a.pos)) (hB:B ≤ w.heap.size) (h0:accCheck a.id a.bal a.pos a.pos.length=0) (h1:0 ≤ m∧m < (a.pos.length:Int)) (h2:worthOf q p=(0,3)) :
  Calls Try.prog 41 #[.agg #[.int .i64 a.id,.int .i64 a.bal,.slice A a.pos.length c],.int .i64 m,.int .i64 q,.int .i64 p,.int .i64 f] w (RetTrade w (tradeOf a m q p f)):=by
 have HE:=Lib.hid (show tradeOf a m q p f=(zeroAc,3) by unfold tradeOf;rw [if_neg (by rw [h0];simp),if_neg (by omega),h2];rfl)
 have HC:=Lib.hid h0
 have HW:=Lib.hid h2
 obtain ⟨h3,h4⟩:=h1
 clear h0 h2
 go_enter Try.func41,Try.ntmps41
 go_wp2_with fail
 refine (accCheck_any _ _ _ _ _ _ _ _ _ ((h.alloc hB _).alloc (by simp;omega) _) (by simp;omega)).mono ?_
 rintro e w1 ⟨rfl,hb1⟩
 rw [HC.out]
 obtain ⟨⟨c0,c1,c2⟩,d0,d1,d2⟩:=((Blk.new (w.alloc (.cells #[.int .i64 a.id,.int .i64 a.bal,.slice A a.pos.length c] 37)) 37 #[.int .i64 0,.int .i64 0,.slice none 0 0]).below hb1 (by simp)).c3
 obtain ⟨⟨b0,b1,b2⟩,e0,e1,e2⟩:=(((Blk.new w 37 #[.int .i64 a.id,.int .i64 a.bal,.slice A a.pos.length c]).alloc (.cells #[.int .i64 0,.int .i64 0,.slice none 0 0] 37)).below hb1 (by simp;omega)).c3
 simp only [World.size_alloc] at c0 c1 c2 d0 d1 d2
 have hz1:w.heap.size + 1 < w1.heap.size:=by have:=hb1.size;simp at this;omega
 go_wp2_with fail
 refine (worth_any _ _ _).mono ?_
 rintro e w' ⟨rfl,rfl⟩
 rw [HW.out]
 go_wp2_with fail
 refine bodyPost_ret (v:=.tuple #[.agg #[.int .i64 0,.int .i64 0,.slice none 0 0],.int .i64 3]) (by simp [results,Try.results41,go_sem, *]) rfl ?_
 rw [HE.out]
 refine retTrade_err ?_
 have h9:Below w.heap.size w w1:=(((Below.refl _ _).alloc (Nat.le_refl _) _).alloc (by simp) _).trans (hb1.mono (by simp;omega))
 repeat (first | exact h9 | refine Below.setCell ?_ (by simp) _)
set_option maxHeartbeats 2000000 in
theorem trade_bad4 (a:Ac) (A:Option Addr) (c:Nat) (m q p f:Int) (B:Nat) (w:World) (h:Rd w B 1 A a.pos.length c (ints a.pos)) (hB:B ≤ w.heap.size) (h0:accCheck a.id a.bal a.pos a.pos.length=0) (h1:0 ≤ m∧m < (a.pos.length:Int)) (h2:worthOf q p=(q * p,0)) (hw:-10000000 ≤ q * p∧q * p ≤ 10000000) (g s es:Int) (hg:-clampFee f=g)
  (hf:f < -1000000000001∧g=1000000000001∨(-1000000000001 ≤ f∧f ≤ 1000000000001)∧g = -f∨1000000000001 < f∧g = -1000000000001) (h3:addAll [a.bal,-(q * p),g]=(s,es)) (h5:es ≠ 0) :
  Calls Try.prog 41 #[.agg #[.int .i64 a.id,.int .i64 a.bal,.slice A a.pos.length c],.int .i64 m,.int .i64 q,.int .i64 p,.int .i64 f] w (RetTrade w (tradeOf a m q p f)):=by
 have HE:=Lib.hid (show tradeOf a m q p f=(zeroAc,es) by rw [trade_sum h0 h1 h2 hg h3,if_pos h5])
 have HC:=Lib.hid h0
 have HW:=Lib.hid h2
 have HS:=Lib.hid h3
 have hes:(es != 0)=true:=by simpa using h5
 have hbal:=(accCheck_ok h0).2.2.2.1
 obtain ⟨h6,h4⟩:=h1
 clear h0 h2 h3 h5 hg
 obtain ⟨hw1,hw2⟩:=hw
 rcases hf with ⟨hf,rfl⟩ | ⟨⟨hf,hf'⟩,rfl⟩ | ⟨hf,rfl⟩
 all_goals
  go_enter Try.func41,Try.ntmps41
  go_wp2_with fail
  refine (accCheck_any _ _ _ _ _ _ _ _ _ ((h.alloc hB _).alloc (by simp;omega) _) (by simp;omega)).mono ?_
  rintro e w1 ⟨rfl,hb1⟩
  rw [HC.out]
  obtain ⟨⟨c0,c1,c2⟩,d0,d1,d2⟩:=((Blk.new (w.alloc (.cells #[.int .i64 a.id,.int .i64 a.bal,.slice A a.pos.length c] 37)) 37 #[.int .i64 0,.int .i64 0,.slice none 0 0]).below hb1 (by simp)).c3
  obtain ⟨⟨b0,b1,b2⟩,e0,e1,e2⟩:=(((Blk.new w 37 #[.int .i64 a.id,.int .i64 a.bal,.slice A a.pos.length c]).alloc (.cells #[.int .i64 0,.int .i64 0,.slice none 0 0] 37)).below hb1 (by simp;omega)).c3
  simp only [World.size_alloc] at c0 c1 c2 d0 d1 d2
  have hz1:w.heap.size + 1 < w1.heap.size:=by have:=hb1.size;simp at this;omega
  go_wp2_with fail
  refine (worth_any _ _ _).mono ?_
  rintro e w' ⟨rfl,rfl⟩
  rw [HW.out]
  go_wp2_with fail
  refine (add_any _ _ _ [a.bal,-(q * p),_] _ _ (Rd.new_at w1 _ _ _ 3 rfl rfl (by decide))).mono ?_
  rintro e w' ⟨rfl,rfl⟩
  rw [HS.out]
  go_wp2_with fail
  refine bodyPost_ret (v:=.tuple #[.agg #[.int .i64 0,.int .i64 0,.slice none 0 0],.int .i64 es]) (by simp [results,Try.results41,go_sem, *]) rfl ?_
  rw [HE.out]
  refine retTrade_err ?_
  have h9:Below w.heap.size w w1:=(((Below.refl _ _).alloc (Nat.le_refl _) _).alloc (by simp) _).trans (hb1.mono (by simp;omega))
  repeat (first | exact h9 | refine Below.setCell ?_ (by simp) _ | refine Below.alloc ?_ (by simp [World.setCell];omega) _)
end
section
open Go.RowKit
def tailOf (a:Ac) (k:Nat) (z q s:Int):Ac × Int :=
 if z + q < -1000∨1000 < z + q then (zeroAc,7) else ({ a with bal:=s,pos:=a.pos.set k (z + q) },0)
set_option maxRecDepth 100000 in
set_option maxHeartbeats 4000000 in
theorem trade_good (a:Ac) (A:Option Addr) (c:Nat) (k:Nat) (z q p f:Int) (B:Nat) (w:World) (h:Rd w B 1 A a.pos.length c (ints a.pos)) (hB:B ≤ w.heap.size) (h0:accCheck a.id a.bal a.pos a.pos.length=0) (hk:a.pos[k]?=some z) (h2:worthOf q p=(q * p,0)) (hq:-1000 ≤ q∧q ≤ 1000) (hw:-10000000 ≤ q * p∧q * p ≤ 10000000) (g s:Int) (hg:-clampFee f=g)
  (hf:f < -1000000000001∧g=1000000000001∨(-1000000000001 ≤ f∧f ≤ 1000000000001)∧g = -f∨1000000000001 < f∧g = -1000000000001) (h3:addAll [a.bal,-(q * p),g]=(s,0)) :
  Calls Try.prog 41 #[.agg #[.int .i64 a.id,.int .i64 a.bal,.slice A a.pos.length c],.int .i64 k,.int .i64 q,.int .i64 p,.int .i64 f] w (RetTrade w (tradeOf a k q p f)):=by
 have hkl:k < a.pos.length:=(List.getElem?_eq_some_iff.1 hk).1
 have hkz:a.pos.getD k 0=z:=by simp [List.getD,hk]
 have HE:=Lib.hid (show tradeOf a k q p f=tailOf a k z q s by rw [trade_sum h0 (by omega) h2 hg h3,if_neg (by simp),Int.toNat_natCast,hkz];rfl)
 have HC:=Lib.hid h0
 have HW:=Lib.hid h2
 have HS:=Lib.hid h3
 have hbal:=(accCheck_ok h0).2.2.2.1
 have hz:=posOk_get (accCheck_ok h0).2.2.2.2 hk
 have HL:=Lib.hid (accCheck_ok h0).2.1
 have HK:=Lib.hid hk
 obtain ⟨hz1,hz2⟩:=hz
 obtain ⟨hq1,hq2⟩:=hq
 clear h0 h2 h3 hg hk hkz
 obtain ⟨hw1,hw2⟩:=hw
 obtain ⟨C3,hC3⟩:∃ C,C=Obj.cells #[.int .i64 a.bal,.int .i64 (-(q * p)),.int .i64 g] 3:=⟨_,rfl⟩
 have HC3:=Lib.hid hC3
 clear hC3
 rcases hf with ⟨hf,rfl⟩ | ⟨⟨hf,hf'⟩,rfl⟩ | ⟨hf,rfl⟩
 all_goals
  go_enter Try.func41,Try.ntmps41
  go_wp2_with fail
  have hrd:=(h.alloc hB (.cells #[.int .i64 a.id,.int .i64 a.bal,.slice A a.pos.length c] 37)).alloc (by simp;omega) (.cells #[.int .i64 0,.int .i64 0,.slice none 0 0] 37)
  refine (accCheck_any _ _ _ _ _ _ _ _ _ hrd (by simp;omega)).mono ?_
  rintro e w1 ⟨rfl,hb1⟩
  rw [HC.out]
  have B0:=(Blk.new (w.alloc (.cells #[.int .i64 a.id,.int .i64 a.bal,.slice A a.pos.length c] 37)) 37 #[.int .i64 0,.int .i64 0,.slice none 0 0]).below hb1 (by simp)
  have B1:=((Blk.new w 37 #[.int .i64 a.id,.int .i64 a.bal,.slice A a.pos.length c]).alloc (.cells #[.int .i64 0,.int .i64 0,.slice none 0 0] 37)).below hb1 (by simp;omega)
  have hr1:=hrd.below (hb1.mono (by simp;omega))
  obtain ⟨⟨c0,c1,c2⟩,d0,d1,d2⟩:=B0.c3
  obtain ⟨⟨b0,b1,b2⟩,e0,e1,e2⟩:=B1.c3
  simp only [World.size_alloc] at c0 c1 c2 d0 d1 d2 B0
  have hz1:w.heap.size + 1 < w1.heap.size:=by have:=hb1.size;simp at this;omega
  have h9:Below w.heap.size w w1:=(((Below.refl _ _).alloc (Nat.le_refl _) _).alloc (by simp) _).trans (hb1.mono (by simp;omega))
  obtain ⟨b,o,hA,hb,hc⟩:=hr1.one (ints_get HK.out)
  subst hA
  clear hb1 hrd
  go_wp2_with fail
  refine (worth_any _ _ _).mono ?_
  rintro e w' ⟨rfl,rfl⟩
  rw [HW.out]
  go_wp2_with fail
  rw [← HC3.out]
  obtain ⟨Y,hY⟩:∃ Y,Y=w1.alloc C3:=⟨_,rfl⟩
  rw [← hY]
  refine (add_any _ _ _ [a.bal,-(q * p),_] _ _ (by rw [hY,HC3.out];exact Rd.new_at w1 _ _ _ 3 rfl rfl (by decide))).mono ?_
  rintro e w' ⟨rfl,rfl⟩
  rw [HS.out]
  have h9:Below w.heap.size w Y:=by rw [hY];exact h9.alloc (by omega) _
  have B0:=B0.alloc C3
  have B1:=B1.alloc C3
  have hr1:=hr1.alloc (by omega) C3
  rw [← hY] at B0 B1 hr1
  have hzY:w.heap.size + 1 < Y.heap.size:=by rw [hY];simp;omega
  clear b0 b1 b2 c0 c1 c2 d0 d1 d2 e0 e1 e2 hc hY
  obtain ⟨⟨c0,c1,c2⟩,d0,d1,d2⟩:=B0.c3
  obtain ⟨⟨b0,b1,b2⟩,e0,e1,e2⟩:=B1.c3
  obtain ⟨b',o',hA,hb,hc⟩:=hr1.one (ints_get HK.out)
  cases hA
  by_cases hx:z + q < -1000∨1000 < z + q
  ·have HE2:=Lib.hid (show tradeOf a k q p f=(zeroAc,7) by rw [HE.out];unfold tailOf;rw [if_pos hx])
   rcases hx with hx | hx
   all_goals
    go_wp2_with fail
    refine bodyPost_ret (v:=.tuple #[.agg #[.int .i64 0,.int .i64 0,.slice none 0 0],.int .i64 7]) (by simp [results,Try.results41,go_sem, *]) rfl ?_
    rw [HE2.out]
    refine retTrade_err ?_
    repeat (first | exact h9 | refine Below.setCell ?_ (by simp) _)
  ·have HE2:=Lib.hid (show tradeOf a k q p f=({ a with bal:=s,pos:=a.pos.set k (z + q) },0) by rw [HE.out];unfold tailOf;rw [if_neg hx])
   have hx1:-1000 ≤ z + q:=by omega
   have hx2:z + q ≤ 1000:=by omega
   clear hx
   have hlen:a.pos.length * 8 ≤ 140737488355328:=by have:=HL.out.2;omega
   go_wp2_with fail
   refine (accCopy_any _ _ _ _ _ _ _ _ hr1 (by omega) hlen).mono ?_
   rintro e w2 ⟨A3,c3,rfl,hown3,hb3⟩
   have B0:=B0.below hb3 hzY
   have B1:=B1.below hb3 (by omega)
   have h9:=h9.trans (hb3.mono (by omega))
   have hzW:w.heap.size + 1 < w2.heap.size:=by have:=hb3.size;omega
   have hYs:w.heap.size + 1 < Y.heap.size:=hzY
   clear b0 b1 b2 c0 c1 c2 d0 d1 d2 e0 e1 e2 hc hb3
   obtain ⟨⟨c0,c1,c2⟩,d0,d1,d2⟩:=B0.c3
   obtain ⟨⟨b0,b1,b2⟩,e0,e1,e2⟩:=B1.c3
   go_wp2_with fail
   obtain ⟨X,hX⟩:∃ X,X=((w2.setCell ⟨w.heap.size,0,none⟩ (.int .i64 a.id)).setCell ⟨w.heap.size,1,none⟩ (.int .i64 a.bal)).setCell ⟨w.heap.size,2,none⟩ (.slice A3 a.pos.length c3):=⟨_,rfl⟩
   rw [← hX]
   have BX:Blk X w.heap.size 37 #[.int .i64 a.id,.int .i64 a.bal,.slice A3 a.pos.length c3]:=by
    rw [hX];exact ((B1.set_ 0 _).set_ 1 _).set_ 2 _
   have BZ:Blk X (w.heap.size + 1) 37 #[.int .i64 0,.int .i64 0,.slice none 0 0]:=by
    rw [hX];exact ((B0.far (by simp) _).far (by simp) _).far (by simp) _
   have h9:Below w.heap.size w X:=by
    rw [hX];repeat (first | exact h9 | refine Below.setCell ?_ (by simp) _)
   have hown:X.ownsRow Y.heap.size 3 1 (.slice A3 a.pos.length c3) a.pos.length (ints a.pos):=by
    rw [hX];exact ownsRow_setCell_below (ownsRow_setCell_below (ownsRow_setCell_below hown3 (by show w.heap.size < _;omega) _) (by show w.heap.size < _;omega) _) (by show w.heap.size < _;omega) _
   obtain ⟨g3,hA3,hg3⟩:∃ g3,A3=some ⟨g3,0,none⟩∧Y.heap.size ≤ g3:=by
    obtain ⟨_,⟨_,hn⟩ | ⟨g,cap,cur,hv,h1,_⟩⟩:=hown
    ·omega
    ·injection hv with hA;exact ⟨g,hA,h1⟩
   subst hA3
   have hk3:=hown.cellAt k (by omega)
   rw [ints_get HK.out] at hk3
   have hf3:=hown.frozenAt k
   have HOWN:=Lib.hid hown
   have hg0:g3 ≠ w.heap.size:=by omega
   have hg1:g3 ≠ w.heap.size + 1:=by omega
   clear hX hown hown3 B0 B1 b0 b1 b2 c0 c1 c2 d0 d1 d2 e0 e1 e2
   obtain ⟨⟨c0,c1,c2⟩,d0,d1,d2⟩:=BZ.c3
   obtain ⟨⟨b0,b1,b2⟩,e0,e1,e2⟩:=BX.c3
   go_wp2_with fail
   go_simp
   apply_assumption
   have hg0':w.heap.size ≠ g3:=by omega
   have hg1':w.heap.size + 1 ≠ g3:=by omega
   go_wp2_with fail
   refine bodyPost_ret (v:=.tuple #[.agg #[.int .i64 a.id,.int .i64 s,.slice (some ⟨g3,0,none⟩) a.pos.length c3],.int .i64 0]) (by simp [results,Try.results41,go_sem, *]) rfl ?_
   rw [HE2.out]
   have hl:(a.pos.set k (z + q)).length=a.pos.length:=List.length_set
   refine ⟨some ⟨g3,0,none⟩,c3,?_,?_,?_⟩
   ·show _=Ending.returned (.tuple #[.agg #[_,_,.slice _ (a.pos.set k (z + q)).length _],_])
    rw [hl]
   ·show World.ownsRow _ _ _ _ (.slice _ (a.pos.set k (z + q)).length _) (a.pos.set k (z + q)).length (ints (a.pos.set k (z + q)))
    rw [hl,show ints (a.pos.set k (z + q))=(ints a.pos).set k (.int .i64 (z + q)) by simp [ints,List.map_set]]
    refine own_mono (base:=Y.heap.size) ?_ (by omega)
    exact ownsRow_setCell_below (ownsRow_setCell_below (ownsRow_setCell_below (World.ownsRow.stored (ownsRow_setCell_below HOWN.out (by show w.heap.size < _;omega) _) k _).1 (by show w.heap.size + 1 < _;omega) _) (by show w.heap.size + 1 < _;omega) _) (by show w.heap.size + 1 < _;omega) _
   ·exact (((((h9.setCell (p:=⟨w.heap.size,1,none⟩) (Nat.le_refl _) _).setCell (p:=⟨g3,k,none⟩) (by show w.heap.size ≤ g3;omega) _).setCell (p:=⟨w.heap.size + 1,0,none⟩) (by show w.heap.size ≤ w.heap.size + 1;omega) _).setCell (p:=⟨w.heap.size + 1,1,none⟩) (by show w.heap.size ≤ w.heap.size + 1;omega) _).setCell (p:=⟨w.heap.size + 1,2,none⟩) (by show w.heap.size ≤ w.heap.size + 1;omega) _)
theorem trade_any (a:Ac) (A:Option Addr) (c:Nat) (m q p f:Int) (B:Nat) (w:World) (h:Rd w B 1 A a.pos.length c (ints a.pos)) (hB:B ≤ w.heap.size) :
  Calls Try.prog 41 #[.agg #[.int .i64 a.id,.int .i64 a.bal,.slice A a.pos.length c],.int .i64 m,.int .i64 q,.int .i64 p,.int .i64 f] w (RetTrade w (tradeOf a m q p f)):=by
 by_cases h0:accCheck a.id a.bal a.pos a.pos.length=0
 ·by_cases h1:0 ≤ m∧m < (a.pos.length:Int)
  ·rcases worth_cases q p with h2 | ⟨h2,hq,_,hw⟩
   ·exact trade_bad3 a A c m q p f B w h hB h0 h1 h2
   ·obtain ⟨s,es,h3⟩:∃ s es,addAll [a.bal,-(q * p),-clampFee f]=(s,es):=⟨_,_,rfl⟩
    by_cases h5:es=0
    ·subst h5
     obtain ⟨k,rfl⟩:∃ k:Nat,m=k:=⟨m.toNat,by omega⟩
     have hk:a.pos[k]?=some a.pos[k]:=List.getElem?_eq_getElem (by omega)
     exact trade_good a A c k _ q p f B w h hB h0 hk h2 hq hw _ s rfl (clamp_cases f) h3
    ·exact trade_bad4 a A c m q p f B w h hB h0 h1 h2 hw _ s es rfl (clamp_cases f) h3 h5
  ·exact trade_bad2 a A c m q p f B w h hB h0 (by omega)
 ·exact trade_bad1 a A c m q p f B w h hB h0
end
section
def accOf (L:List Ac) (id:Int):Ac:=(L.find? fun a=>decide (a.id=id)).getD zeroAc
def balOf (L:List Ac) (id:Int):Int:=(accOf L id).bal
def posOf (L:List Ac) (mk:Nat) (id:Int):Int:=(accOf L id).pos.getD mk 0
theorem accOf_at {L:List Ac} (h:SortedA L) {k:Nat} {a:Ac} (hk:L[k]?=some a):accOf L a.id=a:=by
 unfold accOf
 cases hf:L.find? (fun x=>decide (x.id=a.id)) with
 | none =>
  have:=List.find?_eq_none.1 hf a (List.mem_of_getElem? hk)
  simp at this
 | some b =>
  have h1:=List.mem_of_find?_eq_some hf
  have h2:=List.find?_some hf
  obtain ⟨i,hi⟩:=List.mem_iff_getElem?.1 h1
  have:=sorted_inj h hi hk (by simpa using h2)
  subst this
  rw [hi] at hk;injection hk
theorem accOf_none {L:List Ac} {id:Int} (h:thereB L id=false):accOf L id=zeroAc:=by
 unfold accOf
 rw [List.find?_eq_none.2]
 ·rfl
 ·intro a ha
  have:=there_not.1 h a ha
  simpa using this
theorem set_at {α:Type} {L:List α} {k j:Nat} {a b:α} (hk:L[k]?=some a):(L.set k b)[j]?=if j=k then some b else L[j]?:=by
 rw [List.getElem?_set]
 have:=(List.getElem?_eq_some_iff.1 hk).1
 by_cases h:k=j
 ·subst h;simp [this]
 ·simp [h,Ne.symm h]
theorem accOf_set {m:Nat} {L:List Ac} (h:AOk m L) {k:Nat} {a b:Ac} (hk:L[k]?=some a) (he:b.id=a.id) (id:Int):accOf (L.set k b) id=if id=a.id then b else accOf L id:=by
 have hs:SortedA (L.set k b):=by rw [sortedA_map,ids_set hk he,← sortedA_map];exact h.sorted
 by_cases hid:id=a.id
 ·rw [if_pos hid,hid,← he]
  exact accOf_at hs (k:=k) (by rw [set_at hk,if_pos rfl])
 ·rw [if_neg hid]
  cases ht:thereB L id with
  | false=>rw [accOf_none ht,accOf_none (by rw [there_map (ids_set hk he)];exact ht)]
  | true =>
   obtain ⟨c,hc,hci⟩:=place_there h.sorted ht
   rw [← hci,accOf_at h.sorted hc]
   refine accOf_at hs (k:=placeOf L id) ?_
   rw [set_at hk,if_neg ?_,hc]
   intro e
   rw [e,hk] at hc
   injection hc with hc
   subst hc
   exact hid hci.symm
theorem side_ok {v v':Vn} {mk:Nat} {who q p fee:Int} (ha:AOk v.mks.length v.accs) (h:tradeSide v mk who q p fee=.ok v') :
  ∃ k a x,v.accs[k]?=some a∧a.id=who∧tradeOf a mk q p fee=(x,0)∧x.id=a.id∧x.bal=a.bal - q * p - fee∧x.pos=a.pos.set mk (a.pos.getD mk 0 + q)∧mk < v.mks.length∧v'=setAcc v k x∧AOk v.mks.length v'.accs∧k=placeOf v.accs who:=by
 unfold tradeSide at h
 cases ht:thereB v.accs who with
 | false=>rw [ht,if_pos rfl] at h;cases h
 | true =>
  rw [ht,if_neg (by simp)] at h
  obtain ⟨a,hk,hid⟩:=place_there ha.sorted ht
  have hat:accAt v (placeOf v.accs who)=a:=getD_some hk
  rw [hat] at h
  unfold okIf at h
  split at h
  ·cases h
  rename_i he
  injection h with h
  obtain ⟨x,hx⟩:∃ x,tradeOf a mk q p fee=(x,0):=⟨_,Prod.ext rfl (by simpa using he)⟩
  rw [hx] at h
  obtain ⟨h1,h2,h3,h4,h5,h6,h7,h8,h9⟩:=trade_ok hx
  have hc:=ha.ok a (List.mem_of_getElem? hk)
  obtain ⟨g1,g2,g3,g4,g5⟩:=accCheck_ok hc
  obtain ⟨t1,_,t3,_,t5⟩:=trade_more hx
  have hx1:x.id=a.id:=by rw [h6]
  have hmk:(mk:Int).toNat=mk:=by omega
  rw [hmk] at h6 h8
  refine ⟨_,a,x,hk,hid,hx,hx1,by rw [h6],by rw [h6],by omega,h.symm,?_,rfl⟩
  rw [← h]
  refine aok_set ha hk hx1 (accCheck_mk (by rw [hx1];exact g1) g2 (by rw [t1];exact g3) t3 ?_)
  rw [h6]
  simp only
  simp only [posOk,List.all_eq_true] at g5 ⊢
  intro z hz
  rcases List.mem_or_eq_of_mem_set hz with hz | rfl
  ·exact g5 z hz
  ·exact posOk1_iff.2 h8
structure TradeStep (v v':Vn) (mk:Nat) (t m q p fee:Int):Prop where
 mks:v'.mks=v.mks
 rest:v'.resid=v.resid∧v'.next=v.next∧v'.inn=v.inn∧v'.out=v.out
 ins:v'.ins=v.ins + fee∧isMoney v'.ins=true
 ids:v'.accs.map (·.id)=v.accs.map (·.id)
 accs:AOk v.mks.length v'.accs
 bal:balSum v'.accs=balSum v.accs - fee
 pos:∀ k,posSum k v'.accs=posSum k v.accs
 balOf:∀ id,balOf v'.accs id=balOf v.accs id - (if id=t then q * p + fee else 0) + (if id=m then q * p else 0)
 posOf:∀ k id,posOf v'.accs k id=posOf v.accs k id + (if k=mk∧id=t then q else 0) - (if k=mk∧id=m then q else 0)
 there:thereB v.accs t=true∧thereB v.accs m=true
 mkLt:mk < v.mks.length
theorem set_getD {l:List Int} {mk:Nat} {x:Int} (hk:mk < l.length) (k:Nat):(l.set mk x).getD k 0=if k=mk then x else l.getD k 0:=by
 rw [List.getD,List.getD,List.getElem?_set]
 by_cases h:mk=k
 ·subst h;simp [hk]
 ·simp [h,Ne.symm h]
theorem neg_mul' (q p:Int):-q * p = -(q * p):=Int.neg_mul q p
theorem trade_step {v v':Vn} {mk:Nat} {t m q p fee:Int} (ha:AOk v.mks.length v.accs) (h:tradeE v mk t m q p fee=.ok v'):TradeStep v v' mk t m q p fee:=by
 unfold tradeE at h
 cases h1:tradeSide v mk t q p fee with
 | error e=>rw [h1] at h;cases h
 | ok v1 =>
  rw [h1] at h
  simp only [bindE] at h
  obtain ⟨k1,a1,x1,hk1,hi1,ht1,hx1,hb1,hp1,hm1,rfl,hA1,_⟩:=side_ok ha h1
  cases h2:tradeSide (setAcc v k1 x1) mk m (-q) p 0 with
  | error e=>rw [h2] at h;cases h
  | ok v2 =>
   rw [h2] at h
   simp only [okIf] at h
   obtain ⟨k2,a2,x2,hk2,hi2,ht2,hx2,hb2,hp2,hm2,rfl,hA2,_⟩:=side_ok (v:=setAcc v k1 x1) hA1 h2
   split at h
   ·cases h
   rename_i he
   injection h with h
   obtain ⟨s,hs⟩:∃ s,addAll [v.ins,fee]=(s,0):=⟨_,Prod.ext rfl (by simpa [setAcc] using he)⟩
   have hs':addAll [(setAcc (setAcc v k1 x1) k2 x2).ins,fee]=(s,0):=hs
   rw [hs'] at h
   obtain ⟨hs1,hs2⟩:=add_two hs
   have hk2':(v.accs.set k1 x1)[k2]?=some a2:=hk2
   have idsE:((v.accs.set k1 x1).set k2 x2).map (·.id)=v.accs.map (·.id):=by rw [ids_set hk2' hx2,ids_set hk1 hx1]
   have l1:mk < a1.pos.length:=by
    have:=(accCheck_ok (ha.ok a1 (List.mem_of_getElem? hk1))).2.2.1;omega
   have hA1':AOk v.mks.length (v.accs.set k1 x1):=hA1
   have l2:mk < a2.pos.length:=by
    have:=(accCheck_ok (hA1'.ok a2 (List.mem_of_getElem? hk2'))).2.2.1
    omega
   subst h
   have e1:=neg_mul' q p
   refine ⟨rfl,⟨rfl,rfl,rfl,rfl⟩,⟨hs1,hs2⟩,idsE,hA2,?_,fun k=>?_,fun id=>?_,fun k id=>?_,⟨?_,?_⟩,hm1⟩
   ·show balSum ((v.accs.set k1 x1).set k2 x2)=_
    rw [balSum_set hk2',balSum_set hk1,hb1,hb2,e1];omega
   ·show posSum k ((v.accs.set k1 x1).set k2 x2)=_
    rw [posSum_set hk2',posSum_set hk1,hp1,hp2,set_getD l1,set_getD l2]
    by_cases hk:k=mk
    ·subst hk;rw [if_pos rfl,if_pos rfl];omega
    ·rw [if_neg hk,if_neg hk];omega
   ·show (accOf ((v.accs.set k1 x1).set k2 x2) id).bal=(accOf v.accs id).bal - _ + _
    rw [accOf_set hA1' hk2' hx2,hi2]
    by_cases hm:id=m
    ·rw [if_pos hm,if_pos hm,hb2,e1]
     have e2:a2=accOf (v.accs.set k1 x1) id:=by rw [hm,← hi2];exact (accOf_at hA1'.sorted hk2').symm
     rw [e2,accOf_set ha hk1 hx1,hi1]
     by_cases ht:id=t
     ·rw [if_pos ht,if_pos ht,hb1,ht,← hi1,accOf_at ha.sorted hk1];omega
     ·rw [if_neg ht,if_neg ht];omega
    ·rw [if_neg hm,if_neg hm,accOf_set ha hk1 hx1,hi1]
     by_cases ht:id=t
     ·rw [if_pos ht,if_pos ht,hb1,ht,← hi1,accOf_at ha.sorted hk1];omega
     ·rw [if_neg ht,if_neg ht];omega
   ·show (accOf ((v.accs.set k1 x1).set k2 x2) id).pos.getD k 0=(accOf v.accs id).pos.getD k 0 + _ - _
    rw [accOf_set hA1' hk2' hx2,hi2]
    have e3:∀ (c:Ac) (y:Int),mk < c.pos.length→(c.pos.set mk (c.pos.getD mk 0 + y)).getD k 0=c.pos.getD k 0 + if k=mk then y else 0:=by
     intro c y hl
     rw [set_getD hl]
     by_cases hk:k=mk
     ·rw [if_pos hk,if_pos hk,hk]
     ·rw [if_neg hk,if_neg hk];omega
    by_cases hm:id=m
    ·have e2:a2=accOf (v.accs.set k1 x1) id:=by rw [hm,← hi2];exact (accOf_at hA1'.sorted hk2').symm
     rw [if_pos hm,hp2,e3 a2 _ l2,e2,accOf_set ha hk1 hx1,hi1]
     by_cases ht:id=t
     ·rw [if_pos ht,hp1,e3 a1 _ l1,ht,← hi1,accOf_at ha.sorted hk1]
      rw [ht] at hm
      by_cases hk:k=mk <;> simp [hk,hi1,hm] <;> omega
     ·rw [if_neg ht]
      by_cases hk:k=mk <;> simp [hk,hm] <;> omega
    ·rw [if_neg hm,accOf_set ha hk1 hx1,hi1]
     by_cases ht:id=t
     ·rw [if_pos ht,hp1,e3 a1 _ l1,ht,← hi1,accOf_at ha.sorted hk1]
      rw [ht] at hm
      by_cases hk:k=mk <;> simp [hk,hi1,hm]
     ·rw [if_neg ht]
      by_cases hk:k=mk <;> simp [ht,hm]
   ·rw [← hi1];exact there_iff.2 ⟨a1,List.mem_of_getElem? hk1,rfl⟩
   ·have:thereB (v.accs.set k1 x1) m=true:=there_iff.2 ⟨a2,List.mem_of_getElem? hk2',hi2⟩
    rw [there_map (ids_set hk1 hx1)] at this;exact this
end
section
open Go.RowKit
def ab (A:Option Addr):List Nat:=(A.map (·.block)).toList
def RetDk (w:World) (base D:Nat) (ap:Bool) (A:Option Addr) (c:Nat) (M:Option Addr) (k:Nat) (S:List TypeId) (G:List Nat) (r:Except Int Dk) (e:Ending) (w':World):Prop :=
 match r with
 | .ok d'=>e=.returned (.int .i64 0)∧(∃ vE xs ys,Desk w' base D ap d' A c M k vE xs ys)∧Below base w w'∧Fr S G w w'
 | .error n=>n ≠ 0∧e=.returned (.int .i64 n)∧Below base w w'
theorem retDk_err {w w':World} {base D:Nat} {ap:Bool} {A:Option Addr} {c:Nat} {M:Option Addr} {k:Nat} {S:List TypeId} {G:List Nat} {r:Except Int Dk} {n:Int} (h:r=.error n) (hn:n ≠ 0) (hb:Below base w w') :
  RetDk w base D ap A c M k S G r (.returned (.int .i64 n)) w':=by subst h;exact ⟨hn,rfl,hb⟩
theorem retDk_ok {w w':World} {base D:Nat} {ap:Bool} {A:Option Addr} {c:Nat} {M:Option Addr} {k:Nat} {S:List TypeId} {G:List Nat} {r:Except Int Dk} {d':Dk} {vE:Value} {xs ys:List Value} (h:r=.ok d') (hd:Desk w' base D ap d' A c M k vE xs ys) (hb:Below base w w') (hf:Fr S G w w') :
  RetDk w base D ap A c M k S G r (.returned (.int .i64 0)) w':=by subst h;exact ⟨rfl,⟨_,_,_,hd⟩,hb,hf⟩
theorem oac_at {w:World} {base n c:Nat} {A:Option Addr} {L:List Ac} {xs:List Value} (h:OwnAc w base A n c L xs) {i:Nat} {a:Ac} (hi:L[i]?=some a) :
  ∃ g A2 c2,A=some ⟨g,0,none⟩∧base ≤ g∧g < w.heap.size∧i < n∧(∃ cs,Blk w g 37 cs) ∧
   (w.cell? ⟨g,i * 3,none⟩=some (.int .i64 a.id)∧w.cell? ⟨g,i * 3 + 1,none⟩=some (.int .i64 a.bal)∧w.cell? ⟨g,i * 3 + 2,none⟩=some (.slice A2 a.pos.length c2)) ∧
   (w.frozen? ⟨g,i * 3,none⟩=false∧w.frozen? ⟨g,i * 3 + 1,none⟩=false∧w.frozen? ⟨g,i * 3 + 2,none⟩=false) ∧
   w.ownsRow base 3 1 (.slice A2 a.pos.length c2) a.pos.length (ints a.pos)∧a.pos.length * 8 ≤ 140737488355328:=by
 have hl:=h.len
 have hin:i < n:=by have:=(List.getElem?_eq_some_iff.1 hi).1;omega
 obtain ⟨A2,c2,k0,k1,k2,k3,k4⟩:=h.cell i a hi
 obtain ⟨g,cs,rfl,hb,hg⟩:=own_blk h.row (by omega)
 have hr:=Rd.of_own h.row
 obtain ⟨b,o,e,_,hc⟩:=hr.at_ (by omega)
 injection e with e
 injection e with e1 e2
 subst e1
 subst e2
 have c0:=hc _ _ k0
 have c1:=hc _ _ k1
 have c2':=hc _ _ k2
 rw [Nat.zero_add] at c0
 rw [Nat.zero_add] at c1
 rw [Nat.zero_add] at c2'
 exact ⟨g,A2,c2,rfl,hb,hg.lt,hin,⟨cs,hg⟩,⟨c0,c1,c2'⟩,⟨hg.frozen _,hg.frozen _,hg.frozen _⟩,k3,k4⟩
def tradeFrom (mk:Nat) (t m q p fee:Int) (v:Vn):Nat→Except Int Vn
 | 0=>bindE (tradeSide v mk t q p fee) fun v=>bindE (tradeSide v mk m (-q) p 0) fun v=>okIf (addAll [v.ins,fee]).2 (.ok { v with ins:=(addAll [v.ins,fee]).1 })
 | 1=>bindE (tradeSide v mk m (-q) p 0) fun v=>okIf (addAll [v.ins,fee]).2 (.ok { v with ins:=(addAll [v.ins,fee]).1 })
 | _=>okIf (addAll [v.ins,fee]).2 (.ok { v with ins:=(addAll [v.ins,fee]).1 })
structure TrR (w wr:World) (base D:Nat) (ap:Bool) (d:Dk) (A:Option Addr) (c:Nat) (M:Option Addr) (k:Nat) (vE:Value) (ys:List Value) (mk:Nat) (t m q p fee:Int) (j:Nat) (v:Vn) (xs:List Value):Prop where
 desk:Desk wr base D ap ⟨v,d.ev⟩ A c M k vE xs ys
 low:Below base w wr
 fr:Fr [] (D :: ab A) w wr
 ok:AOk v.mks.length v.accs
 eq:tradeFrom mk t m q p fee v j=tradeE d.v mk t m q p fee
theorem trade_part {mk:Nat} {t m q p fee:Int} {v:Vn} {j:Nat} (hj:j < 2) (ht:0 ≤ t∧t ≤ 7) (hm:0 ≤ m∧m ≤ 7) (hq:-1000 ≤ q∧q ≤ 1000):∃ who q' f':Int,
  (∀ W,(Instr.index 186 (.agg #[.int .i64 t,.int .i64 q,.int .i64 fee,.int .i64 m,.int .i64 (-q),.int .i64 0]) (.int .i64 (j:Int))).run Try.prog W=.ok (.agg #[.int .i64 who,.int .i64 q',.int .i64 f']) W) ∧
  tradeFrom mk t m q p fee v j=bindE (tradeSide v mk who q' p f') (fun v=>tradeFrom mk t m q p fee v (j + 1))∧(0 ≤ who∧who ≤ 7)∧(-1000 ≤ q'∧q' ≤ 1000):=by
 rcases (show j=0∨j=1 by omega) with rfl | rfl
 ·exact ⟨t,q,fee,fun W=>ix0 _ _ _ _ _ _ W,rfl,ht,hq⟩
 ·exact ⟨m,-q,0,fun W=>ix1 _ _ _ _ _ _ W,rfl,hm,by omega⟩
theorem trade_ref {x:Ac} {e':Int} (a:Ac) (A:Option Addr) (c:Nat) (m q p f:Int) (B:Nat) (w:World) (hr:tradeOf a m q p f=(x,e')) (h:Rd w B 1 A a.pos.length c (ints a.pos)) (hB:B ≤ w.heap.size) :
  Calls Try.prog 41 #[.agg #[.int .i64 a.id,.int .i64 a.bal,.slice A a.pos.length c],.int .i64 m,.int .i64 q,.int .i64 p,.int .i64 f] w (RetTrade w (x,e')):=by
 rw [← hr];exact trade_any a A c m q p f B w h hB
theorem aok_ids {m:Nat} {L:List Ac} (h:AOk m L):∀ a ∈ L,0 ≤ a.id∧a.id ≤ 7:=fun a ha=>by have:=(accCheck_ok (h.ok a ha)).1;omega
theorem side_none {v:Vn} {mk:Nat} {who q p fee:Int} (h:thereB v.accs who=false):tradeSide v mk who q p fee=.error 5:=by unfold tradeSide;rw [if_pos h]
theorem exit_name {Q:Exit→Act→World→Prop} {e:Exit} {a:Act} {W:World} (h:∀ Z,Z=W→Q e a Z):Q e a W:=h W rfl
theorem bool_cs' (b:Bool):b=true∨b=false:=by cases b <;> simp
theorem dk_next {w0 W W':World} (hb:Below W.heap.size W W') (h:Below w0.heap.size w0 W):Below w0.heap.size w0 W':=h.trans (hb.mono h.size)
theorem dk_drew {w0 W:World} (h:Below w0.heap.size w0 W):Below w0.heap.size w0 W.drew:=below_drewN h 1
theorem trade_next {v:Vn} {mk i:Nat} {who q p fee:Int} {a x:Ac} (ha:AOk v.mks.length v.accs) (_:v.accs[i]?=some a) (htr:tradeOf a mk q p fee=(x,0)) (hs:tradeSide v mk who q p fee=okIf 0 (.ok (setAcc v i x))) :
  AOk v.mks.length (v.accs.set i x)∧x.pos.length=a.pos.length:=by
 have h:tradeSide v mk who q p fee=.ok (setAcc v i x):=hs
 obtain ⟨_,_,_,_,_,_,_,_,_,_,_,h9,_⟩:=side_ok ha h
 exact ⟨h9,(trade_more htr).1⟩
theorem OwnAc.drew1 {w:World} {base n c:Nat} {A:Option Addr} {L:List Ac} {xs:List Value} (h:OwnAc w base A n c L xs):OwnAc w.drew base A n c L xs:=h.mono (own_drewN h.row 1) fun _ _ _ hr=>own_drewN hr 1
theorem OwnAc.cast {w:World} {base n m c:Nat} {A:Option Addr} {L:List Ac} {xs:List Value} (h:OwnAc w base A n c L xs) (e:n=m):OwnAc w base A m c L xs:=by subst e;exact h
theorem desk_put {w Z:World} {base D c k g i:Nat} {ap:Bool} {d:Dk} {M:Option Addr} {vE:Value} {xs ys:List Value} {x:Ac} {A3:Option Addr} {c3:Nat} {cs:Array Value} (h:Desk w base D ap d (some ⟨g,0,none⟩) c M k vE xs ys) (hi:i < d.v.accs.length)
  (ho:w.ownsRow base 3 1 (.slice A3 x.pos.length c3) x.pos.length (ints x.pos)) (hl:x.pos.length * 8 ≤ 140737488355328) (hg:Blk w g 37 cs)
  (hZ:Z=(((w.setCell ⟨g,i * 3,none⟩ (.int .i64 x.id)).setCell ⟨g,i * 3 + 1,none⟩ (.int .i64 x.bal)).setCell ⟨g,i * 3 + 2,none⟩ (.slice A3 x.pos.length c3)).drew) :
  ∃ xs',Desk Z base D ap ⟨setAcc d.v i x,d.ev⟩ (some ⟨g,0,none⟩) c M k vE xs' ys:=by
 have hK:Kept [37] w Z:=by
  rw [hZ]
  exact (((Kept.refl _ _).set hg (by decide) _ _).set (hg.set_ _ _) (by decide) _ _).set ((hg.set_ _ _).set_ _ _) (by decide) _ _ |>.drew
 have hlen:(setAcc d.v i x).accs.length=d.v.accs.length:=by simp [setAcc]
 have hacc:=((h.accs.put hi ho hl).drew1).cast hlen.symm
 rw [← hZ] at hacc
 refine ⟨_,⟨?_,h.low,hacc,h.mks.kept hK (by decide) (by decide),hK.own h.evs (by decide)⟩⟩
 ·show Blk Z D 174 #[.slice _ (setAcc d.v i x).accs.length c,_,_,_,_,_,_,_]
  rw [hlen]
  exact h.blk.kept hK (by decide)
theorem desk_ins {w Z:World} {base D c k:Nat} {ap:Bool} {d:Dk} {A M:Option Addr} {vE:Value} {xs ys:List Value} {n:Int} {ob:Obj} (h:Desk w base D ap d A c M k vE xs ys) (hZ:Z=(w.setCell ⟨D,2,none⟩ (.int .i64 n)).alloc ob) :
  Desk Z base D ap ⟨{ d.v with ins:=n },d.ev⟩ A c M k vE xs ys:=by
 have hK:Kept [174] w Z:=by rw [hZ];exact ((Kept.refl _ w).set h.blk (by decide) _ _).alloc _
 refine ⟨?_,h.low,h.accs.kept hK (by decide) (by decide),h.mks.kept hK (by decide) (by decide),hK.own h.evs (by decide)⟩
 rw [hZ];exact (h.blk.set_ 2 _).alloc _
theorem trr_next {w wr W3 Z:World} {base D c k g i j:Nat} {ap:Bool} {d:Dk} {M:Option Addr} {vE:Value} {xs ys:List Value} {mk:Nat} {t m q p fee:Int} {v:Vn} {a x:Ac} {A3:Option Addr} {c3:Nat} {cs:Array Value}
  (_:TrR w wr base D ap d (some ⟨g,0,none⟩) c M k vE ys mk t m q p fee j v xs) (hd:Desk W3 base D ap ⟨v,d.ev⟩ (some ⟨g,0,none⟩) c M k vE xs ys) (_:v.accs[i]?=some a) (ho:W3.ownsRow base 3 1 (.slice A3 x.pos.length c3) x.pos.length (ints x.pos))
  (hn:AOk v.mks.length (v.accs.set i x)∧x.pos.length=a.pos.length) (hl:a.pos.length * 8 ≤ 140737488355328) (hg:Blk W3 g 37 cs) (hL:Below base w W3) (hF:Fr [] (D :: ab (some ⟨g,0,none⟩)) w W3)
  (he:tradeFrom mk t m q p fee (setAcc v i x) (j + 1)=tradeE d.v mk t m q p fee) (hin:i < v.accs.length) (hb:base ≤ g)
  (hZ:Z=(((W3.setCell ⟨g,i * 3,none⟩ (.int .i64 x.id)).setCell ⟨g,i * 3 + 1,none⟩ (.int .i64 x.bal)).setCell ⟨g,i * 3 + 2,none⟩ (.slice A3 x.pos.length c3)).drew) :
  ∃ xs',TrR w Z base D ap d (some ⟨g,0,none⟩) c M k vE ys mk t m q p fee (j + 1) (setAcc v i x) xs':=by
 obtain ⟨xs',h1⟩:=desk_put hd hin ho (by rw [hn.2];exact hl) hg hZ
 refine ⟨xs',h1,?_,?_,hn.1,he⟩
 ·rw [hZ];exact below_drewN (((hL.setCell hb _).setCell hb _).setCell hb _) 1
 ·rw [hZ];exact (((hF.set hg (.inr (by simp [ab])) _ _).set (hg.set_ _ _) (.inr (by simp [ab])) _ _).set ((hg.set_ _ _).set_ _ _) (.inr (by simp [ab])) _ _).drewN 1
set_option maxHeartbeats 4000000 in
set_option maxRecDepth 100000 in
theorem trade_dk (base D:Nat) (ap:Bool) (d:Dk) (A:Option Addr) (c:Nat) (M:Option Addr) (k:Nat) (vE:Value) (xs ys:List Value) (mk:Nat) (t m q p fee:Int) (w:World) (h:Desk w base D ap d A c M k vE xs ys) (hb:base ≤ w.heap.size)
  (ha:AOk d.v.mks.length d.v.accs) (ht:0 ≤ t∧t ≤ 7) (hm:0 ≤ m∧m ≤ 7) (hq:-1000 ≤ q∧q ≤ 1000) :
  Calls Try.prog 219 #[.pointer (some ⟨D,0,none⟩),.int .i64 mk,.int .i64 t,.int .i64 m,.int .i64 q,.int .i64 p,.int .i64 fee] w
   (RetDk w base D ap A c M k [] (D :: ab A) ((tradeE d.v mk t m q p fee).map fun v=>⟨v,d.ev⟩)):=by
 have HT:=Lib.hid ht
 have HM:=Lib.hid hm
 have HQ:=Lib.hid hq
 obtain ⟨hq1,hq2⟩:=hq
 have HR0:=Lib.hid (show TrR w w base D ap d A c M k vE ys mk t m q p fee 0 d.v xs from ⟨h,Below.refl _ _,Fr.refl _ _ _,ha,rfl⟩)
 clear h ha ht hm
 go_enter Try.func219,Try.ntmps219
 go_wp2_with fail
 go_loopw [32] (fun i wr=>∃ (j:Nat) (v:Vn) (xs1:List Value),j ≤ 2∧i=.int .i64 j∧Hid (TrR w wr base D ap d A c M k vE ys mk t m q p fee j v xs1)) (fun i _=>2 - (intOf i).toNat)
 case atStart=>exact ⟨0,d.v,xs,by omega,rfl,HR0⟩
 case round =>
  obtain ⟨j,v,xs1,hj,rfl,HR⟩:=hrel
  have hDl:=HR.out.desk.lt
  have hbr:base ≤ wr.heap.size:=Nat.le_trans hb HR.out.fr.size
  by_cases hlt:j < 2
  ·obtain ⟨who,q',f',hix,hst,hwho,hq'⟩:=trade_part (mk:=mk) (p:=p) (fee:=fee) (v:=v) hlt HT.out HM.out HQ.out
   have HST:=Lib.hid hst
   have HWH:=Lib.hid hwho
   have HQ':=Lib.hid hq'
   clear hst hwho hq'
   go_wp2_with fail
   refine wp_name ?_
   intro W0 hW0
   have hB0:Below wr.heap.size wr W0:=by rw [hW0];exact (Below.refl _ _).alloc (Nat.le_refl _) _
   have hs0:W0.heap.size=wr.heap.size + 1:=by rw [hW0];simp
   have X0:Blk W0 wr.heap.size 185 #[.int .i64 who,.int .i64 q',.int .i64 f']:=by rw [hW0];exact Blk.new wr _ _
   have HD0:=Lib.hid (HR.out.desk.below hB0)
   have HL0:=Lib.hid (HR.out.low.trans (hB0.mono hbr))
   have HF0:=Lib.hid (HR.out.fr.below hB0)
   clear hW0 hB0 hix
   obtain ⟨⟨k0,k1,k2,k3,k4,k5,k6,k7⟩,f0,f1,f2,f3,f4,f5,f6,f7⟩:=HD0.out.blk.c8
   have p0:=X0.cell 0
   have y1:D < W0.heap.size:=HD0.out.lt
   have y2:wr.heap.size < W0.heap.size:=X0.lt
   have h00:Below W0.heap.size W0 W0:=Below.refl _ _
   have KS:Hid (∀ W,Below W0.heap.size W0 W→Below W0.heap.size W0 W∧W.cell? ⟨wr.heap.size,0,none⟩=some (.int .i64 who)∧W.cell? ⟨D,0,none⟩=some (.slice A v.accs.length c)∧W.cell? ⟨D,1,none⟩=some (.slice M v.mks.length k) ∧
     W.cell? ⟨D,2,none⟩=some (.int .i64 v.ins)∧W.cell? ⟨D,3,none⟩=some (.int .i64 v.resid)∧W.cell? ⟨D,4,none⟩=some (.int .i64 v.next)∧W.cell? ⟨D,5,none⟩=some (.int .i64 v.inn)∧W.cell? ⟨D,6,none⟩=some (.int .i64 v.out)):=by
    intro W hW
    obtain ⟨⟨k0,k1,k2,k3,k4,k5,k6,k7⟩,-⟩:=(HD0.out.below hW).blk.c8
    exact ⟨hW,(X0.below hW X0.lt).cell 0,k0,k1,k2,k3,k4,k5,k6⟩
   clear k0 k1 k2 k3 k4 k5 k6 k7 p0
   rcases (bool_cs' (thereB v.accs who)).symm with hth | hth
   ·have HTH:=Lib.hid hth
    have HE:=Lib.hid (show (tradeE d.v mk t m q p fee).map (fun v=>(⟨v,d.ev⟩:Dk))=.error 5 by rw [← HR.out.eq,HST.out,side_none hth];rfl)
    clear hth
    go_region_held3 (fun W=>Below W0.heap.size W0 W∧W.cell? ⟨wr.heap.size,0,none⟩=some (.int .i64 who)∧W.cell? ⟨D,0,none⟩=some (.slice A v.accs.length c)∧W.cell? ⟨D,1,none⟩=some (.slice M v.mks.length k) ∧
     W.cell? ⟨D,2,none⟩=some (.int .i64 v.ins)∧W.cell? ⟨D,3,none⟩=some (.int .i64 v.resid)∧W.cell? ⟨D,4,none⟩=some (.int .i64 v.next)∧W.cell? ⟨D,5,none⟩=some (.int .i64 v.inn)∧W.cell? ⟨D,6,none⟩=some (.int .i64 v.out))
     (first | exact KS.out _ (by assumption) | exact KS.out _ (dk_drew (by assumption)))
     ((go_at_call 177;go_split_ands;(with_reducible refine (place_any v A M c k who _ _ (HD0.out.below (by first | assumption | exact dk_drew (by assumption))).accs.read (Nat.le_refl _) HR.out.ok.sorted (aok_ids HR.out.ok) HWH.out (aok_len HR.out.ok)).mono ?_);rintro e W1 ⟨he,hb1⟩;rw [HTH.out] at he;subst he;have hB1:=dk_next (w0:=W0) hb1 (by first | assumption | exact dk_drew (by assumption))))
    refine exit_name ?_
    rintro W hW
    obtain rfl:W1=W:=hW.symm
    clear hb1 hW
    have HD1:=Lib.hid (HD0.out.below hB1)
    have HL1:=Lib.hid (HL0.out.trans (hB1.mono (by omega)))
    have HF1:=Lib.hid (HF0.out.below hB1)
    have X1:=X0.below hB1 (by omega)
    have hs1:=hB1.size
    go_wp2_with fail
    go_ret
    exact retDk_err HE.out (by omega) HL1.out
   ·have HTH:=Lib.hid hth
    obtain ⟨a,hk,hid⟩:=place_there HR.out.ok.sorted hth
    obtain ⟨x,te,htr⟩:∃ x te,tradeOf a mk q' p f'=(x,te):=⟨_,_,rfl⟩
    have HSD:=Lib.hid (show tradeSide v mk who q' p f'=okIf te (.ok (setAcc v (placeOf v.accs who) x)) by unfold tradeSide;rw [hth,if_neg (by simp),show accAt v (placeOf v.accs who)=a from getD_some hk,htr])
    have HTR:=Lib.hid htr
    have HK:=Lib.hid hk
    clear hth hid htr hk
    go_region_held3 (fun W=>Below W0.heap.size W0 W∧W.cell? ⟨wr.heap.size,0,none⟩=some (.int .i64 who)∧W.cell? ⟨D,0,none⟩=some (.slice A v.accs.length c)∧W.cell? ⟨D,1,none⟩=some (.slice M v.mks.length k) ∧
     W.cell? ⟨D,2,none⟩=some (.int .i64 v.ins)∧W.cell? ⟨D,3,none⟩=some (.int .i64 v.resid)∧W.cell? ⟨D,4,none⟩=some (.int .i64 v.next)∧W.cell? ⟨D,5,none⟩=some (.int .i64 v.inn)∧W.cell? ⟨D,6,none⟩=some (.int .i64 v.out))
     (first | exact KS.out _ (by assumption) | exact KS.out _ (dk_drew (by assumption)))
     ((go_at_call 177;go_split_ands;(with_reducible refine (place_any v A M c k who _ _ (HD0.out.below (by first | assumption | exact dk_drew (by assumption))).accs.read (Nat.le_refl _) HR.out.ok.sorted (aok_ids HR.out.ok) HWH.out (aok_len HR.out.ok)).mono ?_);rintro e W1 ⟨he,hb1⟩;rw [HTH.out] at he;subst he;have hB1:=dk_next (w0:=W0) hb1 (by first | assumption | exact dk_drew (by assumption))))
    refine exit_name ?_
    rintro W hW
    obtain rfl:W1=W:=hW.symm
    clear hb1 hW
    have HD1:=Lib.hid (HD0.out.below hB1)
    have HL1:=Lib.hid (HL0.out.trans (hB1.mono (by omega)))
    have HF1:=Lib.hid (HF0.out.below hB1)
    have X1:=X0.below hB1 (by omega)
    have hs1:=hB1.size
    clear HTH
    obtain ⟨i,hi⟩:∃ i,i=placeOf v.accs who:=⟨_,rfl⟩
    rw [← hi] at HSD HK
    rw [← hi]
    clear hi
    go_wp2_with fail
    clear KS hB1 X0 y1 y2 h00 f0 f1 f2 f3 f4 f5 f6 f7
    obtain ⟨g,A2,c2,rfl,hg1,hg2,hin,⟨cs,hgB⟩,⟨q0,q1,q2⟩,⟨r0,r1,r2⟩,hpos,hpl⟩:=oac_at HD1.out.accs HK.out
    have HPO:=Lib.hid (Rd.of_own hpos)
    have HPL:=Lib.hid hpl
    have HGB:=Lib.hid hgB
    have y1:D < W1.heap.size:=HD1.out.lt
    have y2:wr.heap.size < W1.heap.size:=X1.lt
    have h00:Below W1.heap.size W1 W1:=Below.refl _ _
    have hi0:(0:Int) ≤ (i:Int):=by omega
    have hi1:(i:Int) < (v.accs.length:Int):=by have:i < v.accs.length:=hin;omega
    have KS:Hid (∀ W,Below W1.heap.size W1 W→Below W1.heap.size W1 W∧W.cell? ⟨wr.heap.size,1,none⟩=some (.int .i64 q')∧W.cell? ⟨wr.heap.size,2,none⟩=some (.int .i64 f')∧W.cell? ⟨D,0,none⟩=some (.slice (some ⟨g,0,none⟩) v.accs.length c) ∧
      W.cell? ⟨g,i * 3,none⟩=some (.int .i64 a.id)∧W.cell? ⟨g,i * 3 + 1,none⟩=some (.int .i64 a.bal)∧W.cell? ⟨g,i * 3 + 2,none⟩=some (.slice A2 a.pos.length c2)):=by
     intro W hW
     obtain ⟨⟨k0,-⟩,-⟩:=(HD1.out.below hW).blk.c8
     exact ⟨hW,(X1.below hW X1.lt).cell 1,(X1.below hW X1.lt).cell 2,k0,(hW.cell (p:=⟨g,_,none⟩) hg2).trans q0,(hW.cell (p:=⟨g,_,none⟩) hg2).trans q1,(hW.cell (p:=⟨g,_,none⟩) hg2).trans q2⟩
    clear q0 q1 q2 r0 r1 r2 hpos hgB
    go_region_held3 (fun W=>Below W1.heap.size W1 W∧W.cell? ⟨wr.heap.size,1,none⟩=some (.int .i64 q')∧W.cell? ⟨wr.heap.size,2,none⟩=some (.int .i64 f')∧W.cell? ⟨D,0,none⟩=some (.slice (some ⟨g,0,none⟩) v.accs.length c) ∧
      W.cell? ⟨g,i * 3,none⟩=some (.int .i64 a.id)∧W.cell? ⟨g,i * 3 + 1,none⟩=some (.int .i64 a.bal)∧W.cell? ⟨g,i * 3 + 2,none⟩=some (.slice A2 a.pos.length c2))
     (first | exact KS.out _ (by assumption) | exact KS.out _ (dk_drew (by assumption)) | exact KS.out _ (Below.alloc (by assumption) (Below.size (by assumption)) _) | exact KS.out _ (dk_drew (Below.alloc (by assumption) (Below.size (by assumption)) _)) | exact KS.out _ (Below.setCell (Below.setCell (Below.setCell (by first | assumption | exact Below.alloc (by assumption) (by assumption) _) (by dsimp only;omega) _) (by dsimp only;omega) _) (by dsimp only;omega) _))
     ((go_at_call 41;go_split_ands;(with_reducible refine (trade_ref a A2 c2 mk q' p f' W1.heap.size _ HTR.out (HPO.out.below (by assumption)) (Below.size (by assumption))).mono ?_);rintro e W2 ⟨A3,c3,rfl,hown3,hb2⟩;have hB2:=dk_next (w0:=W1) hb2 (by assumption);have hs2:=hB2.size;try have z1:=(Blk.drewN (Blk.new W1 37 #[.int .i64 0,.int .i64 0,.slice none 0 0]) 1).below hb2 (by simp);try have z2:=z1.lt;try obtain ⟨⟨z3,z4,z5⟩,z6,z7,z8⟩:=z1.c3))
    all_goals
     have hbW:base ≤ W1.heap.size:=Nat.le_trans hb HF1.out.size
     refine exit_name ?_
     intro W3 hW3
     have HB3:Below W1.heap.size W1 W3:=by rw [hW3];first | exact hB2.alloc hs2 _ | exact ((hB2.setCell (by dsimp only;omega) _).setCell (by dsimp only;omega) _).setCell (by dsimp only;omega) _
     have HO3:Hid (W3.ownsRow base 3 1 (.slice A3 x.pos.length c3) x.pos.length (ints x.pos)):=by
      rw [hW3]
      first
       | exact own_mono (World.ownsRow.alloc hown3 _) hbW
       | exact own_mono (ownsRow_setCell_below (ownsRow_setCell_below (ownsRow_setCell_below hown3 (by simp) _) (by simp) _) (by simp) _) (by simp;omega)
     first
      | have X3:Blk W3 W2.heap.size 37 #[.int .i64 x.id,.int .i64 x.bal,.slice A3 x.pos.length c3]:=by rw [hW3];exact Blk.new W2 _ _
      | have X3:Blk W3 W1.heap.size 37 #[.int .i64 x.id,.int .i64 x.bal,.slice A3 x.pos.length c3]:=by rw [hW3];exact ((z1.set_ 0 _).set_ 1 _).set_ 2 _
     clear hW3
     have HD3:=Lib.hid (HD1.out.below HB3)
     have HL3:=Lib.hid (HL1.out.trans (HB3.mono hbW))
     have HF3:=Lib.hid (HF1.out.below HB3)
     have hs3:=HB3.size
     clear KS h00 HB3
     obtain ⟨⟨kX30,kX31,kX32⟩,-⟩:=X3.c3
     by_cases he:te=0
     rotate_left
     ·have he':(te != 0)=true:=by simpa using he
      have HE:=Lib.hid (show (tradeE d.v mk t m q p fee).map (fun v=>(⟨v,d.ev⟩:Dk))=.error te by rw [← HR.out.eq,HST.out,HSD.out];unfold okIf;rw [if_pos he];rfl)
      have HN:=Lib.hid he
      clear he
      go_wp2_with fail
      go_ret
      exact retDk_err HE.out HN.out HL3.out
     ·subst he
      have HE:=Lib.hid (show tradeFrom mk t m q p fee (setAcc v i x) (j + 1)=tradeE d.v mk t m q p fee by rw [← HR.out.eq,HST.out,HSD.out];rfl)
      obtain ⟨⟨k0,-⟩,-⟩:=HD3.out.blk.c8
      obtain ⟨g',A4,c4,hg',-,hg4,-,⟨cs',hgB⟩,⟨q0,q1,q2⟩,⟨r0,r1,r2⟩,-,-⟩:=oac_at HD3.out.accs HK.out
      obtain rfl:g'=g:=by injection hg' with hg';injection hg' with hg';exact hg'.symm
      have HGB3:=Lib.hid hgB
      clear hg' hgB
      have y4:D < W3.heap.size:=HD3.out.lt
      have y5:=X3.lt
      go_wp2_with fail
      go_region
      refine exit_name ?_
      intro Z hZ
      have HNX:=Lib.hid (trade_next HR.out.ok HK.out HTR.out HSD.out)
      obtain ⟨xs2,hrn⟩:=(trr_next HR.out (HD3.out) HK.out HO3.out HNX.out HPL.out HGB3.out HL3.out HF3.out HE.out hin hg1 hZ)
      have HRN:=Lib.hid hrn
      clear hZ hrn
      go_wp2_with fail
      go_roundw
      case rel=>exact ⟨j + 1,setAcc v i x,_,by omega,by go_num,HRN⟩
      case measure=>simp [intOf];omega
  ·obtain rfl:j=2:=by omega
   obtain ⟨⟨k0,k1,k2,k3,k4,k5,k6,k7⟩,f0,f1,f2,f3,f4,f5,f6,f7⟩:=HR.out.desk.blk.c8
   obtain ⟨n,en,hn⟩:∃ n en,addAll [v.ins,fee]=(n,en):=⟨_,_,rfl⟩
   have HE:=Lib.hid (show okIf en (.ok { v with ins:=n })=tradeE d.v mk t m q p fee by rw [← HR.out.eq];show _=okIf (addAll [v.ins,fee]).2 (.ok { v with ins:=(addAll [v.ins,fee]).1 });rw [hn])
   have HN:=Lib.hid hn
   clear hn
   go_wp2_with fail
   refine (add_any _ _ _ [v.ins,fee] _ _ (Rd.new wr _ _ 2 rfl (by decide))).mono ?_
   rintro e w' ⟨rfl,rfl⟩
   rw [HN.out]
   go_wp2_with fail
   refine post_name ?_
   intro Z hZ
   have hDZ:=Lib.hid (desk_ins HR.out.desk hZ)
   have hLZ:Below base w Z:=by rw [hZ];exact (HR.out.low.setCell HR.out.desk.low _).alloc (by rw [size_setCell];exact hbr) _
   have hFZ:Fr [] (D :: ab A) w Z:=by rw [hZ];exact (HR.out.fr.set HR.out.desk.blk (.inr (by simp)) _ _).alloc _
   clear hZ
   go_ret
   by_cases he:en=0
   ·subst he
    exact retDk_ok (by rw [← HE.out];rfl) hDZ.out hLZ hFZ
   ·exact retDk_err (by rw [← HE.out];unfold okIf;rw [if_pos he];rfl) he hLZ
end
end Go.Proofs.Ytockodmbhnlheaa
