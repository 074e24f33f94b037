/-
  Contracts of the program's functions, and plain facts, that the laws VenueKeeps, VenueOthers, VenueCancels, VenueCash, VenueReady rest on (joined texts): IdxI, VCheckA, VCheck, VCopyL, VCopy, VenueLaws.
-/
import Derived.Test.YtockodmbhnlheaaM01
import Derived.Test.YtockodmbhnlheaaProg
import Derived.Maps.AppendAt
import Derived.Laws.AppendOwnNone
import Derived.OwnWalk
import Derived.WalkKit
import Derived.Deep.Draws
import Derived.IntWalk
import Derived.WalkSpells
import Derived.WalkLawsBesides
import Derived.Deep.QuietTactic
import Derived.BigQuiet
import Derived.Lib.Hide
import Derived.Test.YtockodmbhnlheaaM16
import Derived.Test.YtockodmbhnlheaaM06
import Derived.Test.YtockodmbhnlheaaM03
import Derived.Deep.RegionHeld3
import Derived.Test.YtockodmbhnlheaaM02
import Derived.Lib.AppendZeros
import Derived.Test.YtockodmbhnlheaaM07
import Derived.Test.YtockodmbhnlheaaM05
import Derived.Test.YtockodmbhnlheaaM04
import Derived.Laws.CopyOwn
import Derived.Lib.AppendZerosOnto
import Derived.Lib.Overlaps
import Derived.Laws.Externs
import Derived.Deep.RegionLaw
import Derived.Laws.MakeOwn
import Derived.Maps.Own
import Derived.Maps.OwnOps
import Derived.Maps.Views
import Derived.Deep.DeepCutAuto
import Derived.RegionTactic
import Derived.ChangeAlike
import Derived.Test.YtockodmbhnlheaaM08
import Derived.Test.YtockodmbhnlheaaM12
import Derived.Test.YtockodmbhnlheaaM15
import Derived.Test.YtockodmbhnlheaaM10
import Derived.Test.YtockodmbhnlheaaM11
import Derived.Test.YtockodmbhnlheaaM09
namespace Go.Proofs.Ytockodmbhnlheaa
section
open Go.RowKit
theorem any_next {p:Int→Bool} {L:List Int} {j:Nat} {x:Int} (hx:L[j]?=some x) (hp:p x=false) (hb:(L.take j).any p=false):(L.take (j + 1)).any p=false:=by
 rw [List.take_add_one,hx]
 simp only [Option.toList,List.any_append,hb,List.any_cons,List.any_nil,hp];rfl
theorem any_found {p:Int→Bool} {L:List Int} {j:Nat} {x:Int} (hx:L[j]?=some x) (hp:p x=true):L.any p=true:=by
 rw [List.any_eq_true];exact ⟨x,List.mem_of_getElem? hx,hp⟩
def nonz (x:Int):Bool:=!(x == 0)
theorem bool_csI (b:Bool):b=true∨b=false:=by cases b <;> simp
set_option maxHeartbeats 400000 in
theorem chk1_any (x:Int) (w:World):Calls Try.prog 156 #[.int .i64 x] w fun e w'=>e=.returned (.bool (nonz x))∧w=w':=by
 go_enter Try.func156,Try.ntmps156
 go_wp2_with fail
 go_ret
 exact ⟨ret_bb (by unfold nonz;rfl),rfl⟩
set_option maxHeartbeats 1000000 in
theorem idx_chk1 (A:Option Addr) (n c:Nat) (L:List Int) (B:Nat) (w:World) (h:Rd w B 1 A n c (ints L)) (_hB:B ≤ w.heap.size) :
  Calls Try.prog 161 #[.slice A n c,.func (.func 156) #[] #[]] w fun e w'=>(∃ j:Int,e=.returned (.int .i64 j)∧decide (0 ≤ j)=L.any nonz)∧w=w':=by
 have hle:=h.le
 have hcap:=h.cap
 have HL:=Lib.hid h.ofInts
 unfold maxLen at hcap
 go_enter Try.func161,Try.ntmps161
 go_wp2_with fail
 go_loopw [8] (fun i wr=>∃ j:Nat,j ≤ n∧i=.int .i64 j∧w=wr∧Hid ((L.take j).any nonz=false)) (fun i _=>n - (intOf i).toNat)
 case atStart=>exact ⟨0,Nat.zero_le _,rfl,rfl,rfl⟩
 case round =>
  obtain ⟨j,hj,rfl,rfl,HP⟩:=hrel
  by_cases hlt:j < n
  ·obtain ⟨b,o',rfl,hb,x,hx,k0⟩:=h.int hlt
   have HX:=Lib.hid hx
   clear hx
   go_wp2_with fail
   refine (chk1_any _ _).mono ?_
   rintro e w1 ⟨rfl,rfl⟩
   rcases bool_csI (nonz x) with hp | hp
   ·have HE:=Lib.hid (any_found HX.out hp)
    rw [hp]
    go_wp2_with fail
    go_ret
    exact ⟨⟨_,rfl,by rw [HE.out];simp⟩,rfl⟩
   ·have HN:=Lib.hid (any_next HX.out hp HP.out)
    rw [hp]
    go_wp2_with fail
    go_roundw
    case rel=>exact ⟨j + 1,by omega,by go_num,trivial,HN⟩
    case measure=>simp [intOf];omega
  ·have hjn:j=n:=by omega
   have HE:=Lib.hid (show L.any nonz=false by have:=HP.out;rw [hjn,List.take_of_length_le (by rw [HL.out];exact Nat.le_refl _)] at this;exact this)
   clear hjn
   go_wp2_with fail
   go_ret
   exact ⟨⟨_,rfl,by rw [HE.out];rfl⟩,rfl⟩
set_option maxHeartbeats 400000 in
theorem contains_chk1 (A:Option Addr) (n c:Nat) (L:List Int) (B:Nat) (w:World) (h:Rd w B 1 A n c (ints L)) (hB:B ≤ w.heap.size) :
  Calls Try.prog 120 #[.slice A n c,.func (.func 156) #[] #[]] w fun e w'=>e=.returned (.bool (L.any nonz))∧w=w':=by
 go_enter Try.func120,Try.ntmps120
 go_wp2_with fail
 refine (idx_chk1 A n c L B _ h hB).mono ?_
 rintro e w1 ⟨⟨j,rfl,hj⟩,rfl⟩
 have HJ:=Lib.hid hj
 go_wp2_with fail
 go_ret
 exact ⟨rfl,rfl⟩
end
section
open Go.RowKit
theorem vmarkets_ref {e:Int} (v:Vn) (A M:Option Addr) (c k:Nat) (B:Nat) (w:World) (hr:mksErr v.accs v.next v.mks=e) (h:VnR w B A c M k v) (hB:B ≤ w.heap.size) (ha:AOk v.mks.length v.accs) :
  Calls Try.prog 157 #[.agg #[.slice A v.accs.length c,.slice M v.mks.length k,.int .i64 v.ins,.int .i64 v.resid,.int .i64 v.next,.int .i64 v.inn,.int .i64 v.out]] w fun e' w'=>e'=.returned (.int .i64 e)∧Below w.heap.size w w':=by rw [← hr];exact vmarkets_any v A M c k B w h hB ha
theorem own_zeros' (w:World) (base m:Nat) (hb:base ≤ w.heap.size) (hm:m ≤ maxLen):(w.alloc (.cells (zeros m) 3)).ownsRow base 3 1 (.slice (some ⟨w.heap.size,0,none⟩) m m) m (ints (List.replicate m 0)) :=
 ⟨by simp [ints],.inr ⟨w.heap.size,m,zeros m,rfl,hb,Blk.new w _ _,Nat.le_refl _,hm,by rw [zeros_size,Nat.mul_one],by rw [zeros_list];exact List.take_of_length_le (by simp [ints])⟩⟩
def GoodN (v:Vn):Prop:=¬ (v.mks.length < 1∨2 < v.mks.length∨8 < v.accs.length)∧¬ (v.ins < 0∨v.resid < 0∨v.next < 1∨100000 < v.next∨v.inn < 0∨v.out < 0∨isMoney v.inn=false∨isMoney v.out=false∨isMoney v.ins=false∨isMoney v.resid=false)
theorem below_self' (w:World) (o:Obj):Below w.heap.size w (w.alloc o):=(Below.refl _ _).alloc (Nat.le_refl _) _
set_option maxHeartbeats 8000000 in
set_option maxRecDepth 100000 in
theorem vcheck_bad (v:Vn) (A M:Option Addr) (c k:Nat) (B:Nat) (w:World) (h:VnR w B A c M k v) (_hB:B ≤ w.heap.size) (hbad:¬ GoodN v) :
  Calls Try.prog 114 #[.agg #[.slice A v.accs.length c,.slice M v.mks.length k,.int .i64 v.ins,.int .i64 v.resid,.int .i64 v.next,.int .i64 v.inn,.int .i64 v.out]] w fun e w'=>e=.returned (.int .i64 (venueErr v))∧Below w.heap.size w w':=by
 have HV:=Lib.hid h
 have HBAD:=Lib.hid hbad
 have hcap:=h.mks.cap
 have hle:=h.mks.le
 have hcap2:=h.accs.cap
 have hle2:=h.accs.le
 unfold maxLen at hcap hcap2
 clear h
 by_cases c1:v.mks.length < 1∨2 < v.mks.length∨8 < v.accs.length
 ·have HE:=Lib.hid (verr_many c1)
  rcases (show v.mks.length=0∨(1 ≤ v.mks.length∧2 < v.mks.length)∨(1 ≤ v.mks.length∧v.mks.length ≤ 2∧8 < v.accs.length) by omega) with h1 | ⟨h1,h2⟩ | ⟨h1,h2,h3⟩
  ·rw [h1]
   clear c1
   go_enter Try.func114,Try.ntmps114
   go_wp2_with fail
   go_ret
   exact ⟨ret_ii HE.out.symm,below_self' _ _⟩
  ·clear c1
   go_enter Try.func114,Try.ntmps114
   go_wp2_with fail
   go_ret
   exact ⟨ret_ii HE.out.symm,below_self' _ _⟩
  ·clear c1
   go_enter Try.func114,Try.ntmps114
   go_wp2_with fail
   go_ret
   exact ⟨ret_ii HE.out.symm,below_self' _ _⟩
 have HC1:=Lib.hid c1
 obtain ⟨c2,c3,c4⟩:1 ≤ v.mks.length∧v.mks.length ≤ 2∧v.accs.length ≤ 8:=by omega
 clear c1
 by_cases r:v.ins < 0∨v.resid < 0∨v.next < 1∨100000 < v.next∨v.inn < 0∨v.out < 0∨isMoney v.inn=false∨isMoney v.out=false∨isMoney v.ins=false∨isMoney v.resid=false
 ·have HE:=Lib.hid (verr_range HC1.out r)
  rcases (show v.ins < 0∨(0 ≤ v.ins∧v.resid < 0)∨(0 ≤ v.ins∧0 ≤ v.resid∧v.next < 1)∨(0 ≤ v.ins∧0 ≤ v.resid∧1 ≤ v.next∧100000 < v.next)∨(0 ≤ v.ins∧0 ≤ v.resid∧1 ≤ v.next∧v.next ≤ 100000∧v.inn < 0)∨(0 ≤ v.ins∧0 ≤ v.resid∧1 ≤ v.next∧v.next ≤ 100000∧0 ≤ v.inn∧v.out < 0) ∨
    (0 ≤ v.ins∧0 ≤ v.resid∧1 ≤ v.next∧v.next ≤ 100000∧0 ≤ v.inn∧0 ≤ v.out) by omega) with h1 | ⟨h1,h2⟩ | ⟨h1,h2,h3⟩ | ⟨h1,h2,h3,h4⟩ | ⟨h1,h2,h3,h4,h5⟩ | ⟨h1,h2,h3,h4,h5,h6⟩ | ⟨h1,h2,h3,h4,h5,h6⟩
  ·skip
   clear r
   go_enter Try.func114,Try.ntmps114
   go_wp2_with fail
   go_ret
   exact ⟨ret_ii HE.out.symm,below_self' _ _⟩
  ·skip
   clear r
   go_enter Try.func114,Try.ntmps114
   go_wp2_with fail
   go_ret
   exact ⟨ret_ii HE.out.symm,below_self' _ _⟩
  ·skip
   clear r
   go_enter Try.func114,Try.ntmps114
   go_wp2_with fail
   go_ret
   exact ⟨ret_ii HE.out.symm,below_self' _ _⟩
  ·skip
   clear r
   go_enter Try.func114,Try.ntmps114
   go_wp2_with fail
   go_ret
   exact ⟨ret_ii HE.out.symm,below_self' _ _⟩
  ·skip
   clear r
   go_enter Try.func114,Try.ntmps114
   go_wp2_with fail
   go_ret
   exact ⟨ret_ii HE.out.symm,below_self' _ _⟩
  ·skip
   clear r
   go_enter Try.func114,Try.ntmps114
   go_wp2_with fail
   go_ret
   exact ⟨ret_ii HE.out.symm,below_self' _ _⟩
  ·have r':isMoney v.inn=false∨isMoney v.inn=true∧isMoney v.out=false∨isMoney v.inn=true∧isMoney v.out=true∧isMoney v.ins=false∨isMoney v.inn=true∧isMoney v.out=true∧isMoney v.ins=true∧isMoney v.resid=false:=by
    rcases r with r | r | r | r | r | r | r | r | r | r
    ·omega
    ·omega
    ·omega
    ·omega
    ·omega
    ·omega
    all_goals
     rcases bool_cs' (isMoney v.inn) with m1 | m1 <;> rcases bool_cs' (isMoney v.out) with m2 | m2 <;> rcases bool_cs' (isMoney v.ins) with m3 | m3 <;> simp_all
   clear r
   rcases r' with m1 | ⟨m1,m2⟩ | ⟨m1,m2,m3⟩ | ⟨m1,m2,m3,m4⟩
   ·go_enter Try.func114,Try.ntmps114
    go_wp2_with fail
    refine (money_any _ _).mono ?_
    rintro e w1 ⟨rfl,rfl⟩
    go_wp2_with fail
    go_ret
    exact ⟨ret_ii HE.out.symm,below_self' _ _⟩
   ·go_enter Try.func114,Try.ntmps114
    go_wp2_with fail
    refine (money_any _ _).mono ?_
    rintro e w1 ⟨rfl,rfl⟩
    go_wp2_with fail
    refine (money_any _ _).mono ?_
    rintro e w1 ⟨rfl,rfl⟩
    go_wp2_with fail
    go_ret
    exact ⟨ret_ii HE.out.symm,below_self' _ _⟩
   ·go_enter Try.func114,Try.ntmps114
    go_wp2_with fail
    refine (money_any _ _).mono ?_
    rintro e w1 ⟨rfl,rfl⟩
    go_wp2_with fail
    refine (money_any _ _).mono ?_
    rintro e w1 ⟨rfl,rfl⟩
    go_wp2_with fail
    refine (money_any _ _).mono ?_
    rintro e w1 ⟨rfl,rfl⟩
    go_wp2_with fail
    go_ret
    exact ⟨ret_ii HE.out.symm,below_self' _ _⟩
   ·go_enter Try.func114,Try.ntmps114
    go_wp2_with fail
    refine (money_any _ _).mono ?_
    rintro e w1 ⟨rfl,rfl⟩
    go_wp2_with fail
    refine (money_any _ _).mono ?_
    rintro e w1 ⟨rfl,rfl⟩
    go_wp2_with fail
    refine (money_any _ _).mono ?_
    rintro e w1 ⟨rfl,rfl⟩
    go_wp2_with fail
    refine (money_any _ _).mono ?_
    rintro e w1 ⟨rfl,rfl⟩
    go_wp2_with fail
    go_ret
    exact ⟨ret_ii HE.out.symm,below_self' _ _⟩
 exact absurd ⟨HC1.out,r⟩ HBAD.out
end
section
open Go.RowKit
theorem ints_set (l:List Int) (j:Nat) (z:Int):(ints l).set j (.int .i64 z)=ints (l.set j z):=by unfold ints;rw [List.map_set]
theorem own_fr {w:World} {base k n c g j:Nat} {e:TypeId} {xs:List Value} (h:w.ownsRow base e k (.slice (some ⟨g,0,none⟩) n c) n xs) (hn:j < n):w.frozen? ⟨g,j,none⟩=false:=by
 obtain ⟨g',cs,e1,_,hb⟩:=own_blk h (by omega)
 injection e1 with e1
 injection e1 with e1
 subst e1
 exact hb.frozen _
theorem posOk_mem' {l:List Int} (h:posOk l=true):∀ n ∈ l,-1000 ≤ n∧n ≤ 1000:=by
 intro n hn
 unfold posOk at h
 rw [List.all_eq_true] at h
 have:=h n hn
 unfold posOk1 at this
 simpa using this
structure ChR (w wr:World) (v:Vn) (A:Option Addr) (c:Nat) (M:Option Addr) (k nm:Nat) (gp:Nat) (P:List Int):Prop where
 blk:Blk wr w.heap.size 111 #[.slice A v.accs.length c,.slice M nm k,.int .i64 v.ins,.int .i64 v.resid,.int .i64 v.next,.int .i64 v.inn,.int .i64 v.out]
 row:wr.ownsRow w.heap.size 3 1 (.slice (some ⟨gp,0,none⟩) nm nm) nm (ints P)
 low:Below w.heap.size w wr
theorem ChR.below {w wr W:World} {v:Vn} {A M:Option Addr} {c k nm gp:Nat} {P:List Int} (h:ChR w wr v A c M k nm gp P) (hb:Below wr.heap.size wr W):ChR w W v A c M k nm gp P :=
 ⟨h.blk.below hb h.blk.lt,own_below h.row hb (Nat.le_refl _),h.low.trans (hb.mono h.low.size)⟩
theorem ChR.put {w wr:World} {v:Vn} {A M:Option Addr} {c k nm gp j:Nat} {P:List Int} {z:Int} (h:ChR w wr v A c M k nm gp P) (hg:w.heap.size < gp):ChR w (wr.setCell ⟨gp,j,none⟩ (.int .i64 z)) v A c M k nm gp (P.set j z) :=
 ⟨h.blk.far (p:=⟨gp,j,none⟩) (by dsimp only;omega) _,by rw [← ints_set];exact own_store h.row _ _,h.low.setCell (by dsimp only;omega) _⟩
set_option maxHeartbeats 8000000 in
set_option maxRecDepth 100000 in
theorem vcheck_good (v:Vn) (A M:Option Addr) (c k:Nat) (B:Nat) (w:World) (h:VnR w B A c M k v) (hB:B ≤ w.heap.size) (hg:GoodN v) :
  Calls Try.prog 114 #[.agg #[.slice A v.accs.length c,.slice M v.mks.length k,.int .i64 v.ins,.int .i64 v.resid,.int .i64 v.next,.int .i64 v.inn,.int .i64 v.out]] w fun e w'=>e=.returned (.int .i64 (venueErr v))∧Below w.heap.size w w':=by
 have HV:=Lib.hid h
 have hcap:=h.mks.cap
 have hle:=h.mks.le
 have hcap2:=h.accs.cap
 have hle2:=h.accs.le
 unfold maxLen at hcap hcap2
 clear h
 obtain ⟨hc1,r⟩:=hg
 have HC1:=Lib.hid hc1
 obtain ⟨c2,c3,c4⟩:1 ≤ v.mks.length∧v.mks.length ≤ 2∧v.accs.length ≤ 8:=by omega
 clear hc1
 have HR:=Lib.hid (verr_rest HC1.out r)
 have HNR:=Lib.hid r
 have hr:0 ≤ v.ins∧0 ≤ v.resid∧1 ≤ v.next∧v.next ≤ 100000∧0 ≤ v.inn∧0 ≤ v.out:=by omega
 obtain ⟨m1,m2,m3,m4⟩:isMoney v.inn=true∧isMoney v.out=true∧isMoney v.ins=true∧isMoney v.resid=true:=by
  refine ⟨?_,?_,?_,?_⟩ <;> (rw [← Bool.not_eq_false];intro e;exact r (by simp [e]))
 obtain ⟨h1,h2,h3,h4,h5,h6⟩:=hr
 have b1:=isMoney_iff.1 m1
 have b2:=isMoney_iff.1 m2
 have b3:=isMoney_iff.1 m3
 have b4:=isMoney_iff.1 m4
 obtain ⟨-,b1⟩:=b1
 obtain ⟨-,b2⟩:=b2
 obtain ⟨-,b3⟩:=b3
 obtain ⟨-,b4⟩:=b4
 clear r
 obtain ⟨nm,hnm⟩:∃ nm,nm=v.mks.length:=⟨_,rfl⟩
 have HNM:=Lib.hid hnm
 have hz:=run_zeros nm (by omega)
 rw [← hnm] at c2 c3 hle ⊢
 clear hnm
 go_enter Try.func114,Try.ntmps114
 go_wp2_with fail
 refine (money_any _ _).mono ?_
 rintro e w1 ⟨rfl,rfl⟩
 go_wp2_with fail
 refine (money_any _ _).mono ?_
 rintro e w1 ⟨rfl,rfl⟩
 go_wp2_with fail
 refine (money_any _ _).mono ?_
 rintro e w1 ⟨rfl,rfl⟩
 go_wp2_with fail
 refine (money_any _ _).mono ?_
 rintro e w1 ⟨rfl,rfl⟩
 go_wp2_with fail
 refine wp_name ?_
 intro W0 hW0
 have HR0:=Lib.hid (show ChR w W0 v A c M k nm (w.heap.size + 1) (rowOf nm v.accs 0) from by
  rw [hW0,rowOf_zero]
  have hz:=own_zeros' (w.alloc (.cells #[.slice A v.accs.length c,.slice M nm k,.int .i64 v.ins,.int .i64 v.resid,.int .i64 v.next,.int .i64 v.inn,.int .i64 v.out] 111)) w.heap.size nm (by simp) (by simp only [maxLen];omega)
  exact ⟨(Blk.new w _ _).alloc _,by simpa using hz,((Below.refl _ _).alloc (Nat.le_refl _) _).alloc (by simp) _⟩)
 have hs0:w.heap.size + 1 < W0.heap.size:=by rw [hW0];simp
 have HF0:=Lib.hid (far_zero nm v.accs)
 clear hW0
 go_loopw [90,3] (fun i z wr=>∃ (j:Nat) (al:Int),j ≤ v.accs.length∧i=.int .i64 j∧z=.int .i64 al∧Hid (al=v.ins + v.resid + balSum (v.accs.take j))∧W0.heap.size ≤ wr.heap.size∧Hid (ChR w wr v A c M k nm (w.heap.size + 1) (rowOf nm v.accs j))∧Hid (FarOk nm v.accs j)) (fun i _ _=>v.accs.length - (intOf i).toNat)
 case atStart=>exact ⟨0,v.ins + v.resid,by omega,rfl,by go_num,Lib.hid (by simp [balSum]),Nat.le_refl _,HR0,HF0⟩
 case round =>
  obtain ⟨j,al,hj,rfl,rfl,HAL,hws,HRJ,HF⟩:=hrel
  have hal:-8000000000000 ≤ al∧al ≤ 10000000000000:=by have:=HAL.out;have:=(far_bounds HF.out (by omega)).1;omega
  obtain ⟨hal1,hal2⟩:=hal
  by_cases hlt:j < v.accs.length
  ·obtain ⟨b,o,a,rfl,hb,ha,A2,c5,q0,q1,q2,q3,q4⟩:=acc_at (HV.out.accs.below (HRJ.out.low.mono hB)) hlt
   have HA:=Lib.hid ha
   have HPO:=Lib.hid q3
   have hbw:b < wr.heap.size:=by omega
   obtain ⟨ea,hea⟩:∃ ea,accCheck a.id a.bal a.pos nm=ea:=⟨_,rfl⟩
   have HEA:=Lib.hid hea
   clear ha q3 hea
   have k1:wr.cell? ⟨w.heap.size,1,none⟩=some (.slice M nm k):=HRJ.out.blk.cell 1
   have y1:=HRJ.out.blk.lt
   go_wp2_with fail
   refine calls_name ?_
   intro W1 hW1
   have hB1:Below wr.heap.size wr W1:=by rw [hW1];first | exact below_self' _ _ | exact ((below_self' wr _).setCell (Nat.le_refl _) _)
   have Y1:Blk W1 wr.heap.size 37 #[.int .i64 a.id,.int .i64 a.bal,.slice A2 a.pos.length c5]:=by rw [hW1];exact Blk.new wr _ _
   have hs1:=hB1.size
   clear hW1 q0 q1 q2 k1
   refine (accCheck_any a.id a.bal A2 a.pos.length c5 a.pos nm B W1 (HPO.out.below (hB1.mono (by omega))) (by omega)).mono ?_
   rintro e W2 ⟨rfl,hb2⟩
   rw [HEA.out]
   have hB2:=hB1.trans (hb2.mono hs1)
   have Y2:=Y1.below hb2 Y1.lt
   have hs2:=hb2.size
   clear hb2 hB1 Y1
   have HR2:=Lib.hid (HRJ.out.below hB2)
   by_cases he:ea=0
   rotate_left
   ·have he':(ea != 0)=true:=by simpa using he
    have HE:=Lib.hid (verr_accs HR.out (by rw [← HNM.out];exact far_bad HF.out HA.out HEA.out he) he)
    clear he
    go_wp2_with fail
    go_ret
    exact ⟨ret_ii HE.out.symm,HR2.out.low⟩
   subst he
   obtain ⟨-,-,hpl,hbal,hpk⟩:=accCheck_ok HEA.out
   have y2:=Y2.lt
   have yv:=HR2.out.blk.lt
   obtain ⟨bt,hbt⟩:∃ bt,bt=decide (∃ q ∈ prevId v.accs j,a.id ≤ q):=⟨_,rfl⟩
   have HBT:=Lib.hid hbt
   have hpl':a.pos.length=nm:=by omega
   go_upto_region 13 with (fail)
   go_cut [116] (fun t wx=>t=.bool bt∧Below W2.heap.size W2 wx)
   case first =>
    obtain ⟨⟨q0,q1,q2⟩,-⟩:=Y2.c3
    have k0:W2.cell? ⟨w.heap.size,0,none⟩=some (.slice (some ⟨b,o,none⟩) v.accs.length c):=HR2.out.blk.cell 0
    have hjz:j=0∨∃ p,j=p + 1:=by cases j with
     | zero=>exact .inl rfl
     | succ p=>exact .inr ⟨p,rfl⟩
    rcases hjz with rfl | ⟨p,rfl⟩
    ·have HB:=Lib.hid (show bt=false by rw [hbt];simp [prevId_zero])
     go_quiet (fail)
     refine exit_name ?_
     intro W3 hW3
     have hB3:Below W2.heap.size W2 W3:=by rw [hW3];exact below_drewN (Below.refl _ _) _
     clear hW3
     go_wp2_with fail
     go_meet
     exact ⟨by rw [HB.out],hB3⟩
    ·obtain ⟨b',o',a',hbo,hb',ha',A3,c3',p0,-⟩:=acc_at (i:=p) (HV.out.accs.below (HR2.out.low.mono hB)) (by omega)
     injection hbo with hbo
     injection hbo with e1 e2
     subst e1
     subst e2
     have HB:=Lib.hid (show bt=decide (a.id ≤ a'.id) by rw [hbt];exact decide_eq_decide.2 (prev_some ha'))
     have hbw2:b < W2.heap.size:=by omega
     have hp0:(0:Int) ≤ (p:Int):=by omega
     have hp1:(p:Int) < (v.accs.length:Int):=by omega
     have hp2:decide ((0:Int) < ((p + 1:Nat):Int))=true:=decide_eq_true (by omega)
     clear ha'
     go_quiet (fail)
     refine exit_name ?_
     intro W3 hW3
     have hB3:Below W2.heap.size W2 W3:=by rw [hW3];exact below_drewN (Below.refl _ _) _
     clear hW3
     go_wp2_with fail
     go_meet
     exact ⟨by rw [HB.out],hB3⟩
   case rest=>as_aux_lemma =>
    obtain ⟨rfl,hB3⟩:=hcut
    obtain ⟨W3,rfl⟩:∃ W3,W3=wc:=⟨wc,rfl⟩
    have HR3:=Lib.hid (HR2.out.below hB3)
    have hs3:=hB3.size
    rcases bool_cs' bt with rfl | rfl
    ·have HE:=Lib.hid (verr_accs (e:=6) HR.out (by rw [← HNM.out];exact far_twice HF.out HA.out HEA.out (of_decide_eq_true HBT.out.symm)) (by omega))
     go_wp2_with fail
     go_ret
     exact ⟨ret_ii HE.out.symm,HR3.out.low⟩
    have HF2:=Lib.hid (far_next HF.out HA.out HEA.out (of_decide_eq_false HBT.out.symm))
    have Y3:=Y2.below hB3 y2
    obtain ⟨⟨q0,q1,q2⟩,-⟩:=Y3.c3
    obtain ⟨hbal1,hbal2⟩:=hbal
    have y3:=Y3.lt
    have hPl:=rowOf_len nm v.accs j
    have HPB:=Lib.hid (far_bounds HF.out (by omega)).2
    have HPK:=Lib.hid hpk
    have HAL2:=Lib.hid (show al + a.bal=v.ins + v.resid + balSum (v.accs.take (j + 1)) by rw [balSum_next HA.out,HAL.out];omega)
    clear hbt
    go_wp2_with fail
    go_loopw [124] (fun i wi=>∃ q:Nat,q ≤ nm∧i=.int .i64 q∧W3.heap.size ≤ wi.heap.size∧Hid (ChR w wi v (some ⟨b,o,none⟩) c M k nm (w.heap.size + 1) (addRow (rowOf nm v.accs j) a.pos q))) (fun i _=>nm - (intOf i).toNat)
    case atStart=>exact ⟨0,by omega,rfl,Nat.le_refl _,HR3⟩
    case round =>
     obtain ⟨q,hq,rfl,hsq,HRQ⟩:=hrel
     obtain ⟨wi,rfl⟩:∃ wi,wi=wr:=⟨wr,rfl⟩
     by_cases hlq:q < nm
     ·obtain ⟨b6,o6,rfl,hb6,x,hx,p0⟩:=(HPO.out.mono (B':=B) (w':=wi) (Nat.le_refl _) fun bb oo hbb=>by
       exact (HRQ.out.low.cell (p:=⟨bb,oo,none⟩) (by dsimp only;omega)).trans (HRJ.out.low.cell (p:=⟨bb,oo,none⟩) (by dsimp only;omega)).symm).int (j:=q) (by omega)
      have HX:=Lib.hid hx
      have hrd:=Rd.of_own HRQ.out.row
      obtain ⟨g6,o7,hg6,-,z,hz,z0⟩:=hrd.int hlq
      injection hg6 with hg6
      injection hg6 with e1 e2
      subst e1
      subst e2
      have HZ:=Lib.hid hz
      have hzv:z=posSum q (v.accs.take j):=by
       have h1:=addRow_get (rowOf nm v.accs j) a.pos q q (by rw [hPl];exact hlq)
       rw [List.getD_eq_getElem?_getD,hz,Option.getD_some,if_neg (Nat.lt_irrefl _),List.getD_eq_getElem?_getD,rowOf_get hlq,Option.getD_some] at h1
       omega
      have hzb:=HPB.out q
      have hxb:=posOk_mem' HPK.out x (List.mem_of_getElem? hx)
      obtain ⟨hzb1,hzb2⟩:-8000 ≤ z∧z ≤ 8000:=by omega
      obtain ⟨hxb1,hxb2⟩:=hxb
      have hg:=own_fr HRQ.out.row hlq
      have hgl:w.heap.size + 1 < wi.heap.size:=by omega
      have hb6w:b6 < wi.heap.size:=by omega
      rw [Nat.zero_add] at z0
      have HN:=Lib.hid (show addRow (rowOf nm v.accs j) a.pos (q + 1)=(addRow (rowOf nm v.accs j) a.pos q).set q (z + x) by
       show (addRow _ _ q).set q _=_
       rw [List.getD_eq_getElem?_getD,HZ.out,List.getD_eq_getElem?_getD,HX.out];rfl)
      clear hx hz hrd hzv
      have HRN:=Lib.hid (show ChR w (wi.setCell ⟨w.heap.size + 1,q,none⟩ (.int .i64 (z + x))) v (some ⟨b,o,none⟩) c M k nm (w.heap.size + 1) (addRow (rowOf nm v.accs j) a.pos (q + 1)) by rw [HN.out];exact HRQ.out.put (Nat.lt_succ_self _))
      have hsn:(wi.setCell ⟨w.heap.size + 1,q,none⟩ (.int .i64 (z + x))).heap.size=wi.heap.size:=size_setCell _ _ _
      go_wp2_with fail
      go_roundw
      case rel=>exact ⟨q + 1,by omega,by go_num,by rw [hsn];exact hsq,HRN⟩
      case measure=>simp [intOf];omega
     ·obtain rfl:q=nm:=by omega
      have HRN:=Lib.hid (show ChR w wi v (some ⟨b,o,none⟩) c M k q (w.heap.size + 1) (rowOf q v.accs (j + 1)) by rw [← row_next HA.out];exact HRQ.out)
      go_wp2_with fail
      go_roundw
      case rel=>exact ⟨j + 1,al + a.bal,by omega,by go_num,by go_num,HAL2,by omega,HRN,HF2⟩
      case measure=>simp [intOf];omega
  ·obtain rfl:j=v.accs.length:=by omega
   have HAC:=Lib.hid (show accsErr v.mks.length none v.accs=0 by rw [← HNM.out];exact far_end HF.out)
   have HT:=Lib.hid (verr_tail HR.out HAC.out)
   have HAL2:=Lib.hid (show al=v.ins + v.resid + balSum v.accs by have:=HAL.out;rw [List.take_length] at this;exact this)
   obtain ⟨⟨k0,k1,k2,k3,k4,k5,k6⟩,-⟩:=HRJ.out.blk.c7
   have y1:=HRJ.out.blk.lt
   by_cases hm:al=v.inn - v.out
   ·have hm':(al != v.inn - v.out)=false:=by simpa using hm
    obtain ⟨bt,hbt⟩:∃ bt,(rowOf nm v.accs v.accs.length).any nonz=bt:=⟨_,rfl⟩
    have HBT:=Lib.hid hbt
    clear hbt
    go_wp2_with fail
    refine (contains_chk1 _ _ _ _ wr.heap.size wr (Rd.of_own HRJ.out.row) (Nat.le_refl _)).mono ?_
    rintro e w1 ⟨rfl,rfl⟩
    rw [HBT.out]
    rcases bool_cs' bt with rfl | rfl
    ·have HE:=Lib.hid (show venueErr v=4 by rw [HT.out];exact tail_pos (by rw [← HNM.out];exact HBT.out))
     go_wp2_with fail
     go_ret
     exact ⟨ret_ii HE.out.symm,HRJ.out.low⟩
    ·have HE:=Lib.hid (show venueErr v=mksErr v.accs v.next v.mks by rw [HT.out];exact tail_mks (by rw [← HAL2.out];exact hm) (by rw [← HNM.out];exact HBT.out))
     have hvm:=vmarkets_ref v A M c k B wr rfl (HV.out.below (HRJ.out.low.mono hB)) (by omega) (accsErr_aok HAC.out)
     rw [← HNM.out] at hvm
     have HVM:=Lib.hid hvm
     clear hvm
     go_wp2_with fail
     refine HVM.out.mono ?_
     rintro e w2 ⟨rfl,hb2⟩
     go_wp2_with fail
     go_ret
     exact ⟨ret_ii HE.out.symm,HRJ.out.low.trans (hb2.mono HRJ.out.low.size)⟩
   ·have hm':(al != v.inn - v.out)=true:=by simpa using hm
    have HE:=Lib.hid (show venueErr v=4 by rw [HT.out];exact tail_money (by rw [← HAL2.out];exact hm))
    clear hm
    go_wp2_with fail
    go_ret
    exact ⟨ret_ii HE.out.symm,HRJ.out.low⟩
theorem vcheck_any (v:Vn) (A M:Option Addr) (c k:Nat) (B:Nat) (w:World) (h:VnR w B A c M k v) (hB:B ≤ w.heap.size) :
  Calls Try.prog 114 #[.agg #[.slice A v.accs.length c,.slice M v.mks.length k,.int .i64 v.ins,.int .i64 v.resid,.int .i64 v.next,.int .i64 v.inn,.int .i64 v.out]] w fun e w'=>e=.returned (.int .i64 (venueErr v))∧Below w.heap.size w w':=by
 by_cases hg:GoodN v
 ·exact vcheck_good v A M c k B w h hB hg
 ·exact vcheck_bad v A M c k B w h hB hg
end
section
open Go.RowKit
theorem flat_cell {w:World} {B k b o n c:Nat} {xs:List Value} (h:Rd w B k (some ⟨b,o,none⟩) n c xs) {j:Nat} (hj:j < xs.length) {u:Value} (hu:w.cell? ⟨b,o + j,none⟩=some u):xs[j]?=some u:=by
 obtain ⟨b',o',e,_,hc⟩:=h.one (List.getElem?_eq_getElem hj)
 injection e with e
 injection e with e1 e2
 subst e1
 subst e2
 rw [hc] at hu
 rw [List.getElem?_eq_getElem hj];exact hu
theorem acc_flat {w:World} {B n c:Nat} {A:Option Addr} {L:List Ac} {xs:List Value} (h:RdL shAcc w B A n c L) (hx:Rd w B 3 A n c xs) {i:Nat} {a:Ac} (ha:L[i]?=some a) :
  ∃ A2 c2,xs[i * 3]?=some (.int .i64 a.id)∧xs[i * 3 + 1]?=some (.int .i64 a.bal)∧xs[i * 3 + 2]?=some (.slice A2 a.pos.length c2)∧Rd w B 1 A2 a.pos.length c2 (ints a.pos)∧a.pos.length * 8 ≤ 140737488355328:=by
 have hl:=(List.getElem?_eq_some_iff.1 ha).1
 have hn:L.length=n:=h.len
 have hxl:=hx.len
 obtain ⟨b,o,a',rfl,_,ha',A2,c2,h0,h1,h2,h3,h4⟩:=acc_at h (i:=i) (by omega)
 rw [ha] at ha'
 injection ha' with ha'
 subst ha'
 exact ⟨A2,c2,flat_cell hx (by omega) h0,flat_cell hx (by omega) h1,flat_cell hx (by omega) h2,h3,h4⟩
theorem mk_flat {w:World} {B n c:Nat} {A:Option Addr} {L:List Mk} {xs:List Value} (h:RdL shMk w B A n c L) (hx:Rd w B 4 A n c xs) {i:Nat} {a:Mk} (ha:L[i]?=some a) :
  ∃ A2 c2 A3 c3,xs[i * 4]?=some (.slice A2 a.book.bids.length c2)∧xs[i * 4 + 1]?=some (.slice A3 a.book.asks.length c3)∧xs[i * 4 + 2]?=some (.int .i64 a.index)∧xs[i * 4 + 3]?=some (.int .i64 a.last)∧BkR w B A2 A3 c2 c3 a.book∧a.book.bids.length ≤ 4000000000000∧a.book.asks.length ≤ 4000000000000:=by
 have hl:=(List.getElem?_eq_some_iff.1 ha).1
 have hn:L.length=n:=h.len
 have hxl:=hx.len
 obtain ⟨b,o,a',rfl,_,ha',A2,c2,A3,c3,h0,h1,h2,h3,h4⟩:=mk_at h (i:=i) (by omega)
 rw [ha] at ha'
 injection ha' with ha'
 subst ha'
 exact ⟨A2,c2,A3,c3,flat_cell hx (by omega) h0,flat_cell hx (by omega) h1,flat_cell hx (by omega) h2,flat_cell hx (by omega) h3,h4⟩
structure PaA (w:World) (base:Nat) (A:Option Addr) (n c:Nat) (L:List Ac) (xs0:List Value) (j:Nat) (xs:List Value):Prop where
 row:w.ownsRow base 37 3 (.slice A n c) n xs
 len:L.length=n
 done:∀ i a,i < j→L[i]?=some a→AcCell w base xs i a
 rest:∀ q,j * 3 ≤ q→xs[q]?=xs0[q]?
section
variable {w w' W Z:World} {base n c j g:Nat} {A:Option Addr} {L:List Ac} {xs0 xs:List Value} {a:Ac}
theorem PaA.below (h:PaA w base A n c L xs0 j xs) (hb:Below w.heap.size w w'):PaA w' base A n c L xs0 j xs :=
 ⟨own_below h.row hb (Nat.le_refl _),h.len,fun i a hi ha=>(h.done i a hi ha).mono fun _ _ _ hr=>own_below hr hb (Nat.le_refl _),h.rest⟩
theorem PaA.kept {S:List TypeId} (h:PaA w base A n c L xs0 j xs) (hb:Kept S w w') (h1:37 ∉ S) (h2:3 ∉ S):PaA w' base A n c L xs0 j xs :=
 ⟨hb.own h.row h1,h.len,fun i a hi ha=>(h.done i a hi ha).mono fun _ _ _ hr=>hb.own hr h2,h.rest⟩
theorem PaA.own (h:PaA w base A n c L xs0 n xs):OwnAc w base A n c L xs:=⟨h.row,h.len,fun i a ha=>h.done i a (by have:=(List.getElem?_eq_some_iff.1 ha).1;rw [h.len] at this;exact this) ha⟩
theorem PaA.at_ (h:PaA w base A n c L xs0 j xs) (hj:j < n):∃ g,A=some ⟨g,0,none⟩∧base ≤ g∧g < w.heap.size∧(∃ cs,Blk w g 37 cs)∧∀ q u,j * 3 ≤ q→xs0[q]?=some u→w.cell? ⟨g,q,none⟩=some u∧w.frozen? ⟨g,q,none⟩=false:=by
 obtain ⟨g,cs,rfl,hb,hg⟩:=own_blk h.row (by omega)
 refine ⟨g,rfl,hb,hg.lt,⟨cs,hg⟩,fun q u hq hu=>⟨?_,hg.frozen _⟩⟩
 rw [← h.rest q hq] at hu
 obtain ⟨b',o',e,_,hc⟩:=(Rd.of_own h.row).one hu
 injection e with e
 injection e with e1 e2
 subst e1
 subst e2
 rw [Nat.zero_add] at hc;exact hc
theorem PaA.next {A3:Option Addr} {c3:Nat} (h:PaA w base (some ⟨g,0,none⟩) n c L xs0 j xs) (hj:j < n) (ha:L[j]?=some a) (ho:w.ownsRow base 3 1 (.slice A3 a.pos.length c3) a.pos.length (ints a.pos)) (hl:a.pos.length * 8 ≤ 140737488355328)
  (hZ:Z=((w.setCell ⟨g,j * 3,none⟩ (.int .i64 a.id)).setCell ⟨g,j * 3 + 1,none⟩ (.int .i64 a.bal)).setCell ⟨g,j * 3 + 2,none⟩ (.slice A3 a.pos.length c3)) :
  ∃ xs',PaA Z base (some ⟨g,0,none⟩) n c L xs0 (j + 1) xs':=by
 have hlen:=h.row.1
 have hK:Kept [37] w Z:=by
  obtain ⟨g',cs,e1,_,hb⟩:=own_blk h.row (by omega)
  injection e1 with e1
  injection e1 with e1
  subst e1
  rw [hZ]
  exact (((Kept.refl _ _).set hb (by decide) _ _).set (hb.set_ _ _) (by decide) _ _).set ((hb.set_ _ _).set_ _ _) (by decide) _ _
 refine ⟨((xs.set (j * 3) (.int .i64 a.id)).set (j * 3 + 1) (.int .i64 a.bal)).set (j * 3 + 2) (.slice A3 a.pos.length c3),?_,h.len,fun i b hi hb=>?_,fun q hq=>?_⟩
 ·rw [hZ];exact own_store (own_store (own_store h.row _ _) _ _) _ _
 ·by_cases e:i=j
  ·subst e
   rw [ha] at hb
   injection hb with hb
   subst hb
   refine ⟨A3,c3,?_,?_,?_,hK.own ho (by decide),hl⟩
   ·rw [getElem?_set_ne' (by omega),getElem?_set_ne' (by omega),List.getElem?_set_self (by omega)]
   ·rw [getElem?_set_ne' (by omega),List.getElem?_set_self (by rw [List.length_set];omega)]
   ·rw [List.getElem?_set_self (by rw [List.length_set,List.length_set];omega)]
  ·obtain ⟨A2,c2,k1,k2,k3,k4,k5⟩:=h.done i b (by omega) hb
   refine ⟨A2,c2,?_,?_,?_,hK.own k4 (by decide),k5⟩
   ·rw [getElem?_set_ne' (by omega),getElem?_set_ne' (by omega),getElem?_set_ne' (by omega)];exact k1
   ·rw [getElem?_set_ne' (by omega),getElem?_set_ne' (by omega),getElem?_set_ne' (by omega)];exact k2
   ·rw [getElem?_set_ne' (by omega),getElem?_set_ne' (by omega),getElem?_set_ne' (by omega)];exact k3
 ·rw [getElem?_set_ne' (by omega),getElem?_set_ne' (by omega),getElem?_set_ne' (by omega)];exact h.rest q (by omega)
end
def ApartTo (xs:List Value) (n:Nat):Prop:=∀ i s j t u v g,i < n→j < n→s < 2→t < 2→xs[i * 4 + s]?=some u→xs[j * 4 + t]?=some v→u.ownBlock=some g→v.ownBlock=some g→i=j∧s=t
structure PaM (w:World) (base:Nat) (A:Option Addr) (n c:Nat) (L:List Mk) (xs0:List Value) (j:Nat) (xs:List Value):Prop where
 row:w.ownsRow base 64 4 (.slice A n c) n xs
 len:L.length=n
 done:∀ i a,i < j→L[i]?=some a→MkCell w base xs i a
 apart:ApartTo xs j
 rest:∀ q,j * 4 ≤ q→xs[q]?=xs0[q]?
section
variable {w w' W Z:World} {base n c j g:Nat} {A:Option Addr} {L:List Mk} {xs0 xs:List Value} {a:Mk}
theorem PaM.below (h:PaM w base A n c L xs0 j xs) (hb:Below w.heap.size w w'):PaM w' base A n c L xs0 j xs :=
 ⟨own_below h.row hb (Nat.le_refl _),h.len,fun i a hi ha=>(h.done i a hi ha).mono fun _ _ _ hr=>own_below hr hb (Nat.le_refl _),h.apart,h.rest⟩
theorem PaM.kept {S:List TypeId} (h:PaM w base A n c L xs0 j xs) (hb:Kept S w w') (h1:64 ∉ S) (h2:71 ∉ S):PaM w' base A n c L xs0 j xs :=
 ⟨hb.own h.row h1,h.len,fun i a hi ha=>(h.done i a hi ha).mono fun _ _ _ hr=>hb.own hr h2,h.apart,h.rest⟩
theorem PaM.own (h:PaM w base A n c L xs0 n xs):OwnMk w base true A n c L xs :=
 ⟨h.row,h.len,fun i a ha=>h.done i a (by have:=(List.getElem?_eq_some_iff.1 ha).1;rw [h.len] at this;exact this) ha,fun _ i s j t u v g hs ht hu hv=>by
  have hl:=h.row.1
  have h1:=(List.getElem?_eq_some_iff.1 hu).1
  have h2:=(List.getElem?_eq_some_iff.1 hv).1
  exact h.apart i s j t u v g (by omega) (by omega) hs ht hu hv⟩
theorem PaM.at_ (h:PaM w base A n c L xs0 j xs) (hj:j < n):∃ g,A=some ⟨g,0,none⟩∧base ≤ g∧g < w.heap.size∧(∃ cs,Blk w g 64 cs)∧∀ q u,j * 4 ≤ q→xs0[q]?=some u→w.cell? ⟨g,q,none⟩=some u∧w.frozen? ⟨g,q,none⟩=false:=by
 obtain ⟨g,cs,rfl,hb,hg⟩:=own_blk h.row (by omega)
 refine ⟨g,rfl,hb,hg.lt,⟨cs,hg⟩,fun q u hq hu=>⟨?_,hg.frozen _⟩⟩
 rw [← h.rest q hq] at hu
 obtain ⟨b',o',e,_,hc⟩:=(Rd.of_own h.row).one hu
 injection e with e
 injection e with e1 e2
 subst e1
 subst e2
 rw [Nat.zero_add] at hc;exact hc
theorem PaM.under (h:PaM w base A n c L xs0 j xs) {i s:Nat} {u:Value} {q:Nat} (hi:i < j) (hs:s < 2) (hu:xs[i * 4 + s]?=some u) (hq:u.ownBlock=some q):q < w.heap.size:=by
 have hl:=(List.getElem?_eq_some_iff.1 hu).1
 have hr:=h.row.1
 obtain ⟨A2,c2,A3,c3,k1,k2,k3,k4,k5,k6,k7⟩:=h.done i _ hi (List.getElem?_eq_getElem (by rw [h.len];omega))
 rcases (show s=0∨s=1 by omega) with rfl | rfl
 ·rw [Nat.add_zero,k1] at hu
  injection hu with hu
  subst hu
  exact (World.ownsRow.lt k5.l _ hq).2
 ·rw [k2] at hu
  injection hu with hu
  subst hu
  exact (World.ownsRow.lt k5.r _ hq).2
theorem PaM.next {W:World} {A2 A3:Option Addr} {c2 c3 nb na:Nat} (h:PaM w base (some ⟨g,0,none⟩) n c L xs0 j xs) (hw:Below w.heap.size w W) (hj:j < n) (ha:L[j]?=some a) (hx:xs0[j * 4 + 2]?=some (.int .i64 a.index)) (hy:xs0[j * 4 + 3]?=some (.int .i64 a.last)) (hnb:nb=a.book.bids.length) (hna:na=a.book.asks.length)
  (hbw:base ≤ w.heap.size) (ho:W.ownsRow w.heap.size 71 5 (.slice A2 nb c2) nb (odCells a.book.bids)) (ho':W.ownsRow w.heap.size 71 5 (.slice A3 na c3) na (odCells a.book.asks))
  (hne:∀ k,(Value.slice A2 nb c2).ownBlock=some k→(Value.slice A3 na c3).ownBlock ≠ some k) (hl:a.book.bids.length ≤ 4000000000000∧a.book.asks.length ≤ 4000000000000)
  (hZ:Z=(W.setCell ⟨g,j * 4,none⟩ (.slice A2 nb c2)).setCell ⟨g,j * 4 + 1,none⟩ (.slice A3 na c3)) :
  ∃ xs',PaM Z base (some ⟨g,0,none⟩) n c L xs0 (j + 1) xs':=by
 subst hnb
 subst hna
 have hW:=h.below hw
 have hlen:=h.row.1
 have hK:Kept [64] W Z:=by
  obtain ⟨g',cs,e1,_,hb⟩:=own_blk hW.row (by omega)
  injection e1 with e1
  injection e1 with e1
  subst e1
  rw [hZ]
  exact ((Kept.refl _ _).set hb (by decide) _ _).set (hb.set_ _ _) (by decide) _ _
 have hold:∀ i s,i < j→s < 2→((xs.set (j * 4) (.slice A2 a.book.bids.length c2)).set (j * 4 + 1) (.slice A3 a.book.asks.length c3))[i * 4 + s]?=xs[i * 4 + s]?:=fun i s hi hs=>by
  rw [getElem?_set_ne' (by omega),getElem?_set_ne' (by omega)]
 have hnew0:((xs.set (j * 4) (.slice A2 a.book.bids.length c2)).set (j * 4 + 1) (.slice A3 a.book.asks.length c3))[j * 4 + 0]?=some (.slice A2 a.book.bids.length c2):=by
  rw [getElem?_set_ne' (by omega),Nat.add_zero,List.getElem?_set_self (by omega)]
 have hnew1:((xs.set (j * 4) (.slice A2 a.book.bids.length c2)).set (j * 4 + 1) (.slice A3 a.book.asks.length c3))[j * 4 + 1]?=some (.slice A3 a.book.asks.length c3):=by
  rw [List.getElem?_set_self (by rw [List.length_set];omega)]
 have hfar:∀ s u q,s < 2→((xs.set (j * 4) (.slice A2 a.book.bids.length c2)).set (j * 4 + 1) (.slice A3 a.book.asks.length c3))[j * 4 + s]?=some u→u.ownBlock=some q→w.heap.size ≤ q:=by
  intro s u q hs hu hq
  rcases (show s=0∨s=1 by omega) with rfl | rfl
  ·rw [hnew0] at hu
   injection hu with hu
   subst hu
   exact (World.ownsRow.lt ho _ hq).1
  ·rw [hnew1] at hu
   injection hu with hu
   subst hu
   exact (World.ownsRow.lt ho' _ hq).1
 refine ⟨(xs.set (j * 4) (.slice A2 a.book.bids.length c2)).set (j * 4 + 1) (.slice A3 a.book.asks.length c3),?_,h.len,fun i b hi hb=>?_,?_,fun q hq=>?_⟩
 ·rw [hZ];exact own_store (own_store hW.row _ _) _ _
 ·by_cases e:i=j
  ·subst e
   rw [ha] at hb
   injection hb with hb
   subst hb
   refine ⟨A2,c2,A3,c3,hnew0,hnew1,?_,?_,⟨hK.own (own_mono ho hbw) (by decide),hK.own (own_mono ho' hbw) (by decide)⟩,hl⟩
   ·rw [getElem?_set_ne' (by omega),getElem?_set_ne' (by omega),h.rest _ (by omega)];exact hx
   ·rw [getElem?_set_ne' (by omega),getElem?_set_ne' (by omega),h.rest _ (by omega)];exact hy
  ·obtain ⟨A4,c4,A5,c5,k1,k2,k3,k4,k5,k6⟩:=hW.done i b (by omega) hb
   refine ⟨A4,c4,A5,c5,?_,?_,?_,?_,⟨hK.own k5.l (by decide),hK.own k5.r (by decide)⟩,k6⟩
   ·rw [getElem?_set_ne' (by omega),getElem?_set_ne' (by omega)];exact k1
   ·rw [getElem?_set_ne' (by omega),getElem?_set_ne' (by omega)];exact k2
   ·rw [getElem?_set_ne' (by omega),getElem?_set_ne' (by omega)];exact k3
   ·rw [getElem?_set_ne' (by omega),getElem?_set_ne' (by omega)];exact k4
 ·intro i s i' t u v q hi hi' hs ht hu hv hqu hqv
  by_cases e:i=j
  ·by_cases e':i'=j
   ·subst e
    subst e'
    rcases (show s=0∨s=1 by omega) with rfl | rfl <;> rcases (show t=0∨t=1 by omega) with rfl | rfl
    ·exact ⟨rfl,rfl⟩
    ·rw [hnew0] at hu
     rw [hnew1] at hv
     injection hu with hu
     injection hv with hv
     subst hu
     subst hv
     exact absurd hqv (hne _ hqu)
    ·rw [hnew1] at hu
     rw [hnew0] at hv
     injection hu with hu
     injection hv with hv
     subst hu
     subst hv
     exact absurd hqu (hne _ hqv)
    ·exact ⟨rfl,rfl⟩
   ·subst e
    have h1:=hfar s u q hs hu hqu
    rw [hold i' t (by omega) ht] at hv
    have h2:=h.under (by omega) ht hv hqv
    omega
  ·by_cases e':i'=j
   ·subst e'
    have h1:=hfar t v q ht hv hqv
    rw [hold i s (by omega) hs] at hu
    have h2:=h.under (by omega) hs hu hqu
    omega
   ·rw [hold i s (by omega) hs] at hu
    rw [hold i' t (by omega) ht] at hv
    exact h.apart i s i' t u v q (by omega) (by omega) hs ht hu hv hqu hqv
 ·rw [getElem?_set_ne' (by omega),getElem?_set_ne' (by omega)];exact h.rest q (by omega)
end
set_option maxHeartbeats 400000 in
theorem clone_mks (A:Option Addr) (n c:Nat) (xs:List Value) (B:Nat) (w:World) (h:Rd w B 4 A n c xs) (h1:∀ u ∈ xs,u.oneCell'=true) (hB:B ≤ w.heap.size) (hb:n * 64 ≤ 140737488355328) :
  Calls Try.prog 171 #[.slice A n c] w (RetRow w 64 4 n xs):=by
 have q:∀ (w:World) (a:Option Addr) (n c n' c':Nat),(binOp .eql 104 (.slice a n c) (.slice none n' c')).run Try.prog w=.ok (.bool a.isNone) w:=fun w a n c n' c'=>Lib.run_eql_slice_nil w _ _ a n c n' c' Try.underlying104
 cases A with
 | none =>
  have h0:=h.nil rfl
  have hle:=h.le
  obtain rfl:n=0:=by omega
  have hx:xs = []:=List.eq_nil_of_length_eq_zero (by simpa using h.len)
  subst hx h0
  go_enter Try.func171,Try.ntmps171
  go_wp2_with fail
  go_ret
  exact ⟨_,rfl,World.ownsRow_nil _ _ _ _,Below.refl _ _⟩
 | some ad =>
  have HR:=Lib.hid h
  have hle:=h.le
  have hcap:=h.cap
  clear h
  go_enter Try.func171,Try.ntmps171
  go_wp2_with (at_builtin;refine wpList_app rfl _ _ _ rfl w.heap.size _ _ _ elem_mk' _ _ _ rfl (World.ownsRow_made w #[] 0 (Nat.le_refl _) (Nat.zero_le _) rfl) B (some ad) n c xs rfl (HR.out.alloc hB _) h1 (by simp only [maxLen] at hcap ⊢;omega) (by omega) (by simp) ?_;intro v' w' hown hbel hg _)
  go_ret
  exact ⟨_,rfl,by simpa using hown,((Below.refl _ _).alloc (Nat.le_refl _) _).trans hbel⟩
structure CpR (w wr:World) (v:Vn) (fa fm:List Value) (Aa:Option Addr) (ca:Nat) (Am:Option Addr) (km:Nat) (i j:Nat) (xs ys:List Value):Prop where
 pa:PaA wr w.heap.size Aa v.accs.length ca v.accs fa i xs
 pm:PaM wr w.heap.size Am v.mks.length km v.mks fm j ys
 x:Blk wr w.heap.size 111 #[.slice Aa v.accs.length ca,.slice Am v.mks.length km,.int .i64 v.ins,.int .i64 v.resid,.int .i64 v.next,.int .i64 v.inn,.int .i64 v.out]
 r:Blk wr (w.heap.size + 1) 111 #[.slice none 0 0,.slice none 0 0,.int .i64 0,.int .i64 0,.int .i64 0,.int .i64 0,.int .i64 0]
 low:Below w.heap.size w wr
section
variable {w wr W Z:World} {v:Vn} {fa fm:List Value} {Aa Am:Option Addr} {ca km i j g:Nat} {xs ys:List Value}
theorem CpR.below (h:CpR w wr v fa fm Aa ca Am km i j xs ys) (hb:Below wr.heap.size wr W):CpR w W v fa fm Aa ca Am km i j xs ys :=
 ⟨h.pa.below hb,h.pm.below hb,h.x.below hb h.x.lt,h.r.below hb h.r.lt,h.low.trans (hb.mono h.low.size)⟩
theorem CpR.acc {a:Ac} {A3:Option Addr} {c3:Nat} (h:CpR w wr v fa fm (some ⟨g,0,none⟩) ca Am km i j xs ys) (hj:i < v.accs.length) (ha:v.accs[i]?=some a) (ho:wr.ownsRow w.heap.size 3 1 (.slice A3 a.pos.length c3) a.pos.length (ints a.pos)) (hl:a.pos.length * 8 ≤ 140737488355328)
  (hZ:Z=((wr.setCell ⟨g,i * 3,none⟩ (.int .i64 a.id)).setCell ⟨g,i * 3 + 1,none⟩ (.int .i64 a.bal)).setCell ⟨g,i * 3 + 2,none⟩ (.slice A3 a.pos.length c3)) :
  ∃ xs',CpR w Z v fa fm (some ⟨g,0,none⟩) ca Am km (i + 1) j xs' ys:=by
 obtain ⟨g',hg',hb,_,⟨cs,hg⟩,_⟩:=h.pa.at_ hj
 injection hg' with hg'
 injection hg' with hg'
 subst hg'
 have hK:Kept [37] wr Z:=by rw [hZ];exact (((Kept.refl _ _).set hg (by decide) _ _).set (hg.set_ _ _) (by decide) _ _).set ((hg.set_ _ _).set_ _ _) (by decide) _ _
 obtain ⟨xs',hn⟩:=h.pa.next hj ha ho hl hZ
 exact ⟨xs',hn,h.pm.kept hK (by decide) (by decide),h.x.kept hK (by decide),h.r.kept hK (by decide),by rw [hZ];exact ((h.low.setCell hb _).setCell hb _).setCell hb _⟩
theorem CpR.mkt {a:Mk} {A2 A3:Option Addr} {c2 c3 nb na:Nat} (h:CpR w wr v fa fm Aa ca (some ⟨g,0,none⟩) km i j xs ys) (hw:Below wr.heap.size wr W) (hj:j < v.mks.length) (ha:v.mks[j]?=some a) (hx:fm[j * 4 + 2]?=some (.int .i64 a.index)) (hy:fm[j * 4 + 3]?=some (.int .i64 a.last)) (hnb:nb=a.book.bids.length) (hna:na=a.book.asks.length)
  (ho:W.ownsRow wr.heap.size 71 5 (.slice A2 nb c2) nb (odCells a.book.bids)) (ho':W.ownsRow wr.heap.size 71 5 (.slice A3 na c3) na (odCells a.book.asks))
  (hne:∀ k,(Value.slice A2 nb c2).ownBlock=some k→(Value.slice A3 na c3).ownBlock ≠ some k) (hl:a.book.bids.length ≤ 4000000000000∧a.book.asks.length ≤ 4000000000000)
  (hZ:Z=(W.setCell ⟨g,j * 4,none⟩ (.slice A2 nb c2)).setCell ⟨g,j * 4 + 1,none⟩ (.slice A3 na c3)) :
  ∃ ys',CpR w Z v fa fm Aa ca (some ⟨g,0,none⟩) km i (j + 1) xs ys':=by
 have h2:=h.below hw
 obtain ⟨g',hg',hb,_,⟨cs,hg⟩,_⟩:=h2.pm.at_ hj
 injection hg' with hg'
 injection hg' with hg'
 subst hg'
 have hK:Kept [64] W Z:=by rw [hZ];exact ((Kept.refl _ _).set hg (by decide) _ _).set (hg.set_ _ _) (by decide) _ _
 obtain ⟨ys',hn⟩:=h.pm.next hw hj ha hx hy hnb hna h.low.size ho ho' hne hl hZ
 exact ⟨ys',h2.pa.kept hK (by decide) (by decide),hn,h2.x.kept hK (by decide),h2.r.kept hK (by decide),by rw [hZ];exact (h2.low.setCell hb _).setCell hb _⟩
end
end
section
open Go.RowKit
def RetCopy (w:World) (v:Vn) (e:Ending) (w':World):Prop :=
 ∃ A c M k xs ys,e=.returned (.agg #[.slice A v.accs.length c,.slice M v.mks.length k,.int .i64 v.ins,.int .i64 v.resid,.int .i64 v.next,.int .i64 v.inn,.int .i64 v.out])∧OwnAc w' w.heap.size A v.accs.length c v.accs xs∧OwnMk w' w.heap.size true M v.mks.length k v.mks ys∧Below w.heap.size w w'
theorem ow_lower {w:World} {b e k n B:Nat} {v:Value} {xs:List Value} (h:w.ownsRow b e k v n xs) (hb:B ≤ b):w.ownsRow B e k v n xs:=own_mono h hb
set_option maxHeartbeats 8000000 in
set_option maxRecDepth 100000 in
theorem vcopy_any (v:Vn) (A M:Option Addr) (c k:Nat) (B:Nat) (w:World) (h:VnR w B A c M k v) (hB:B ≤ w.heap.size) (hv:VOk v) :
  Calls Try.prog 152 #[.agg #[.slice A v.accs.length c,.slice M v.mks.length k,.int .i64 v.ins,.int .i64 v.resid,.int .i64 v.next,.int .i64 v.inn,.int .i64 v.out]] w (RetCopy w v):=by
 have HV:=Lib.hid h
 have HOK:=Lib.hid hv
 have hal:=aok_len hv.accs
 obtain ⟨hm1,hm2⟩:=hv.len
 obtain ⟨fa,hfa,ha1⟩:=h.accs.flat (by decide)
 obtain ⟨fm,hfm,hx1⟩:=h.mks.flat (by decide)
 have HFA:=Lib.hid (show Rd w B 3 A v.accs.length c fa from hfa)
 have HFM:=Lib.hid (show Rd w B 4 M v.mks.length k fm from hfm)
 have HA1:=Lib.hid ha1
 have HX1:=Lib.hid hx1
 clear h hv hfa hfm ha1 hx1
 go_enter Try.func152,Try.ntmps152
 go_wp2_with fail
 refine wp_name ?_
 intro W0 hW0
 have hB0:Below w.heap.size w W0:=by rw [hW0];exact ((Below.refl _ _).alloc (Nat.le_refl _) _).alloc (by simp) _
 have X0:Blk W0 w.heap.size 111 #[.slice A v.accs.length c,.slice M v.mks.length k,.int .i64 v.ins,.int .i64 v.resid,.int .i64 v.next,.int .i64 v.inn,.int .i64 v.out]:=by rw [hW0];exact (Blk.new w _ _).alloc _
 have R0:Blk W0 (w.heap.size + 1) 111 #[.slice none 0 0,.slice none 0 0,.int .i64 0,.int .i64 0,.int .i64 0,.int .i64 0,.int .i64 0]:=by rw [hW0];exact Blk.new_at _ _ _ _ (by simp)
 have hs0:W0.heap.size=w.heap.size + 2:=by rw [hW0];simp
 clear hW0
 have h00:Below W0.heap.size W0 W0:=Below.refl _ _
 have KD:Hid (Below W0.heap.size W0 W0.drew):=dk_drew (Below.refl _ _)
 have KX:Hid (∀ W,Below W0.heap.size W0 W→W.cell? ⟨w.heap.size,0,none⟩=some (.slice A v.accs.length c)∧W.cell? ⟨w.heap.size,1,none⟩=some (.slice M v.mks.length k)∧W.frozen? ⟨w.heap.size,0,none⟩=false∧W.frozen? ⟨w.heap.size,1,none⟩=false):=by
  intro W hW
  have hd:=X0.below hW X0.lt
  exact ⟨hd.cell 0,hd.cell 1,hd.frozen 0,hd.frozen 1⟩
 obtain ⟨z0,z1,z2,z3⟩:=KX.out W0 h00
 have yx0:=X0.lt
 have HKA:Hid (∀ W,Below W0.heap.size W0 W→Calls Try.prog 128 #[.slice A v.accs.length c] W (RetRow W 37 3 v.accs.length fa)):=fun W hW=>clone_accs A v.accs.length c fa B W (HFA.out.below ((hB0.trans (hW.mono (by omega))).mono hB)) HA1.out (by have:=hW.size;omega) (by omega)
 have HKM:Hid (∀ W,Below W0.heap.size W0 W→Calls Try.prog 171 #[.slice M v.mks.length k] W (RetRow W 64 4 v.mks.length fm)):=fun W hW=>clone_mks M v.mks.length k fm B W (HFM.out.below ((hB0.trans (hW.mono (by omega))).mono hB)) HX1.out (by have:=hW.size;omega) (by omega)
 go_upto_region 1 with (fail)
 go_cut [9] (fun _ wx=>∃ (Aa:Option Addr) (ca:Nat) (Am:Option Addr) (km:Nat),Below w.heap.size w wx∧Hid (wx.ownsRow w.heap.size 37 3 (.slice Aa v.accs.length ca) v.accs.length fa)∧Hid (wx.ownsRow w.heap.size 64 4 (.slice Am v.mks.length km) v.mks.length fm) ∧
  Hid (Blk wx w.heap.size 111 #[.slice Aa v.accs.length ca,.slice Am v.mks.length km,.int .i64 v.ins,.int .i64 v.resid,.int .i64 v.next,.int .i64 v.inn,.int .i64 v.out])∧Hid (Blk wx (w.heap.size + 1) 111 #[.slice none 0 0,.slice none 0 0,.int .i64 0,.int .i64 0,.int .i64 0,.int .i64 0,.int .i64 0]))
 case first =>
  go_region_with (first | (go_at_call 128;(first | ((with_reducible refine (HKA.out _ KD.out).mono ?_);rintro e Wa ⟨va,rfl,howna,hba⟩;obtain ⟨Aa,ca,rfl⟩:=own_shape howna;have hBa:=dk_next (w0:=W0) hba KD.out;obtain ⟨zA0,zA1,zA2,zA3⟩:=KX.out _ hBa) | ((with_reducible refine (HKA.out _ hBm).mono ?_);rintro e Wa ⟨va,rfl,howna,hba⟩;obtain ⟨Aa,ca,rfl⟩:=own_shape howna;have hBa:=dk_next (w0:=W0) hba hBm;obtain ⟨zA0,zA1,zA2,zA3⟩:=KX.out _ hBa))) | (go_at_call 171;(first | ((with_reducible refine (HKM.out _ KD.out).mono ?_);rintro e Wm ⟨vm,rfl,hownm,hbm⟩;obtain ⟨Am,km,rfl⟩:=own_shape hownm;have hBm:=dk_next (w0:=W0) hbm KD.out;obtain ⟨zM0,zM1,zM2,zM3⟩:=KX.out _ hBm) | ((with_reducible refine (HKM.out _ hBa).mono ?_);rintro e Wm ⟨vm,rfl,hownm,hbm⟩;obtain ⟨Am,km,rfl⟩:=own_shape hownm;have hBm:=dk_next (w0:=W0) hbm hBa;obtain ⟨zM0,zM1,zM2,zM3⟩:=KX.out _ hBm))))
  all_goals
   refine exit_name ?_
   intro Z hZ
   have hsa:=hBa.size
   have hsm:=hBm.size
   have hsd:W0.drew.heap.size=w.heap.size + 2:=hs0
   have hBl:Below w.heap.size w Z:=by rw [hZ];first | exact ((hB0.trans (hBm.mono (by omega))).setCell (Nat.le_refl _) _).setCell (Nat.le_refl _) _ | exact ((hB0.trans (hBa.mono (by omega))).setCell (Nat.le_refl _) _).setCell (Nat.le_refl _) _
   have HRA:Hid (Z.ownsRow w.heap.size 37 3 (.slice Aa v.accs.length ca) v.accs.length fa):=by
    rw [hZ]
    first
     | exact ow_lower (ownsRow_setCell_below (ownsRow_setCell_below howna (by dsimp only;omega) _) (by dsimp only;omega) _) (by omega)
     | exact ow_lower (ownsRow_setCell_below (ownsRow_setCell_below (own_below howna hbm (Nat.le_refl _)) (by dsimp only;omega) _) (by dsimp only;omega) _) (by omega)
   have HRM:Hid (Z.ownsRow w.heap.size 64 4 (.slice Am v.mks.length km) v.mks.length fm):=by
    rw [hZ]
    first
     | exact ow_lower (ownsRow_setCell_below (ownsRow_setCell_below hownm (by dsimp only;omega) _) (by dsimp only;omega) _) (by omega)
     | exact ow_lower (ownsRow_setCell_below (ownsRow_setCell_below (own_below hownm hba (Nat.le_refl _)) (by dsimp only;omega) _) (by dsimp only;omega) _) (by omega)
   have HXZ:Hid (Blk Z w.heap.size 111 #[.slice Aa v.accs.length ca,.slice Am v.mks.length km,.int .i64 v.ins,.int .i64 v.resid,.int .i64 v.next,.int .i64 v.inn,.int .i64 v.out]):=by
    rw [hZ]
    first
     | exact ((X0.below hBm X0.lt).set_ 0 _).set_ 1 _
     | exact ((X0.below hBa X0.lt).set_ 0 _).set_ 1 _
     | exact ((X0.below hBm X0.lt).set_ 1 _).set_ 0 _
     | exact ((X0.below hBa X0.lt).set_ 1 _).set_ 0 _
   have HRZ:Hid (Blk Z (w.heap.size + 1) 111 #[.slice none 0 0,.slice none 0 0,.int .i64 0,.int .i64 0,.int .i64 0,.int .i64 0,.int .i64 0]):=by
    rw [hZ]
    first
     | exact ((R0.below hBm R0.lt).far (p:=⟨w.heap.size,_,none⟩) (by dsimp only;omega) _).far (p:=⟨w.heap.size,_,none⟩) (by dsimp only;omega) _
     | exact ((R0.below hBa R0.lt).far (p:=⟨w.heap.size,_,none⟩) (by dsimp only;omega) _).far (p:=⟨w.heap.size,_,none⟩) (by dsimp only;omega) _
   clear hZ
   go_wp2_with fail
   go_meet
   exact ⟨_,_,_,_,hBl,HRA,HRM,HXZ,HRZ⟩
 case rest=>as_aux_lemma =>
  obtain ⟨Aa,ca,Am,km,hBl,HRA,HRM,HXZ,HRZ⟩:=hcut
  obtain ⟨W1,rfl⟩:∃ W1,W1=wc:=⟨wc,rfl⟩
  have HR1:=Lib.hid (show CpR w W1 v fa fm Aa ca Am km 0 0 fa fm from
   ⟨⟨HRA.out,rfl,fun i a hi=>absurd hi (by omega),fun _ _=>rfl⟩,⟨HRM.out,rfl,fun i a hi=>absurd hi (by omega),fun i s j t u v g hi=>absurd hi (by omega),fun _ _=>rfl⟩,HXZ.out,HRZ.out,hBl⟩)
  have k0:W1.cell? ⟨w.heap.size,0,none⟩=some (.slice Aa v.accs.length ca):=HXZ.out.cell 0
  have y0:=HXZ.out.lt
  clear HRA HRM HXZ HRZ hBl KX HKA HKM KD h00 X0 R0 z0 z1 z2 z3 yx0
  go_wp2_with fail
  go_loopw [18] (fun i wr=>∃ (j:Nat) (xs:List Value),j ≤ v.accs.length∧i=.int .i64 j∧Hid (CpR w wr v fa fm Aa ca Am km j 0 xs fm)) (fun i _=>v.accs.length - (intOf i).toNat)
  case atStart=>exact ⟨0,fa,by omega,rfl,HR1⟩
  case round =>
   obtain ⟨wo,rfl⟩:∃ x,x=wr:=⟨wr,rfl⟩
   obtain ⟨j,xs,hj,rfl,HR⟩:=hrel
   by_cases hlt:j < v.accs.length
   ·obtain ⟨a,ha⟩:∃ a,v.accs[j]?=some a:=⟨_,List.getElem?_eq_getElem hlt⟩
    obtain ⟨A2,c2,e0,e1,e2,h3,h4⟩:=acc_flat HV.out.accs HFA.out ha
    obtain ⟨g,rfl,hg1,hg2,-,hgc⟩:=HR.out.pa.at_ hlt
    obtain ⟨q0,f0⟩:=hgc _ _ (by omega) e0
    obtain ⟨q1,f1⟩:=hgc _ _ (by omega) e1
    obtain ⟨q2,f2⟩:=hgc _ _ (by omega) e2
    have HGC:=Lib.hid (show ∀ q u,j * 3 ≤ q→fa[q]?=some u→wo.cell? ⟨g,q,none⟩=some u∧wo.frozen? ⟨g,q,none⟩=false from hgc)
    have HE:=Lib.hid (And.intro e0 (And.intro e1 e2))
    have HA:=Lib.hid ha
    have HPO:=Lib.hid h3
    have hx:=HR.out.x.lt
    clear ha e0 e1 e2 h3 hgc f0 f1 f2
    go_wp2_with fail
    refine wp_name ?_
    intro W2 hW2
    have hB2:Below wo.heap.size wo W2:=by rw [hW2];first | exact (Below.refl _ _).alloc (Nat.le_refl _) _ | exact ((Below.refl _ _).alloc (Nat.le_refl _) _).setCell (Nat.le_refl _) _
    have Y2:Blk W2 wo.heap.size 37 #[.int .i64 a.id,.int .i64 a.bal,.slice A2 a.pos.length c2]:=by rw [hW2];exact Blk.new wo _ _
    have hs2:=hB2.size
    clear hW2 q0 q1 q2
    have HR2:=Lib.hid (HR.out.below hB2)
    have y2:=Y2.lt
    have hgl:g < W2.heap.size:=by omega
    have h22:Below W2.heap.size W2 W2:=Below.refl _ _
    have KQ:Hid (∀ W,Below W2.heap.size W2 W→(W.cell? ⟨g,j * 3,none⟩=some (.int .i64 a.id)∧W.cell? ⟨g,j * 3 + 1,none⟩=some (.int .i64 a.bal)∧W.cell? ⟨g,j * 3 + 2,none⟩=some (.slice A2 a.pos.length c2))∧W.frozen? ⟨g,j * 3,none⟩=false∧W.frozen? ⟨g,j * 3 + 1,none⟩=false∧W.frozen? ⟨g,j * 3 + 2,none⟩=false):=by
     intro W hW
     have hb:=hB2.trans (hW.mono hs2)
     have k0:=HGC.out _ _ (by omega) HE.out.1
     have k1:=HGC.out _ _ (by omega) HE.out.2.1
     have k2:=HGC.out _ _ (by omega) HE.out.2.2
     exact ⟨⟨(hb.cell (p:=⟨g,_,none⟩) hg2).trans k0.1,(hb.cell (p:=⟨g,_,none⟩) hg2).trans k1.1,(hb.cell (p:=⟨g,_,none⟩) hg2).trans k2.1⟩,(hb.frozen (p:=⟨g,_,none⟩) hg2).trans k0.2,(hb.frozen (p:=⟨g,_,none⟩) hg2).trans k1.2,(hb.frozen (p:=⟨g,_,none⟩) hg2).trans k2.2⟩
    have hne1:g ≠ w.heap.size:=by
     obtain ⟨g',hg',_,_,⟨cs,hg⟩,_⟩:=HR.out.pa.at_ hlt
     injection hg' with hg'
     injection hg' with hg'
     subst hg'
     exact blk_ne hg HR.out.x (by decide)
    have KS:Hid (∀ W,Below W2.heap.size W2 W→W.cell? ⟨w.heap.size,0,none⟩=some (.slice (some ⟨g,0,none⟩) v.accs.length ca)∧W.cell? ⟨wo.heap.size,0,none⟩=some (.int .i64 a.id)∧W.cell? ⟨wo.heap.size,1,none⟩=some (.int .i64 a.bal)∧W.cell? ⟨wo.heap.size,2,none⟩=some (.slice A2 a.pos.length c2)):=by
     intro W hW
     have hy:=Y2.below hW y2
     exact ⟨(HR2.out.x.below hW HR2.out.x.lt).cell 0,hy.cell 0,hy.cell 1,hy.cell 2⟩
    have KT:Hid (∀ W t0 t1 t2,Below W2.heap.size W2 W→(((W.setCell ⟨g,j * 3,none⟩ t0).setCell ⟨g,j * 3 + 1,none⟩ t1).setCell ⟨g,j * 3 + 2,none⟩ t2).cell? ⟨w.heap.size,0,none⟩=some (.slice (some ⟨g,0,none⟩) v.accs.length ca)∧(((W.setCell ⟨g,j * 3,none⟩ t0).setCell ⟨g,j * 3 + 1,none⟩ t1).setCell ⟨g,j * 3 + 2,none⟩ t2).cell? ⟨wo.heap.size,0,none⟩=some (.int .i64 a.id)∧(((W.setCell ⟨g,j * 3,none⟩ t0).setCell ⟨g,j * 3 + 1,none⟩ t1).setCell ⟨g,j * 3 + 2,none⟩ t2).cell? ⟨wo.heap.size,1,none⟩=some (.int .i64 a.bal)∧(((W.setCell ⟨g,j * 3,none⟩ t0).setCell ⟨g,j * 3 + 1,none⟩ t1).setCell ⟨g,j * 3 + 2,none⟩ t2).cell? ⟨wo.heap.size,2,none⟩=some (.slice A2 a.pos.length c2)):=by
     intro W t0 t1 t2 hW
     have hy:=(((Y2.below hW y2).far (p:=⟨g,j * 3,none⟩) (by dsimp only;omega) t0).far (p:=⟨g,j * 3 + 1,none⟩) (by dsimp only;omega) t1).far (p:=⟨g,j * 3 + 2,none⟩) (by dsimp only;omega) t2
     have hx:=(((HR2.out.x.below hW HR2.out.x.lt).far (p:=⟨g,j * 3,none⟩) (fun e=>hne1 e.symm) t0).far (p:=⟨g,j * 3 + 1,none⟩) (fun e=>hne1 e.symm) t1).far (p:=⟨g,j * 3 + 2,none⟩) (fun e=>hne1 e.symm) t2
     exact ⟨hx.cell 0,hy.cell 0,hy.cell 1,hy.cell 2⟩
    have HCP:Hid (∀ W,Below W2.heap.size W2 W→Calls Try.prog 129 #[.agg #[.int .i64 a.id,.int .i64 a.bal,.slice A2 a.pos.length c2]] W (RetAcc W a.id a.bal a.pos.length (ints a.pos))):=fun W hW=>accCopy_any a.id a.bal A2 a.pos.length c2 a.pos B W (HPO.out.below ((HR2.out.low.trans (hW.mono HR2.out.low.size)).mono hB)) (by have:=hW.size;have:=HR2.out.low.size;omega) h4
    have KD:Hid (Below W2.heap.size W2 W2.drew):=dk_drew (Below.refl _ _)
    have hj0:(0:Int) ≤ (j:Int):=by omega
    have hj1:(j:Int) < (v.accs.length:Int):=by omega
    go_wp2_with fail
    go_region_held3 (fun W=>W.cell? ⟨w.heap.size,0,none⟩=some (.slice (some ⟨g,0,none⟩) v.accs.length ca)∧W.cell? ⟨wo.heap.size,0,none⟩=some (.int .i64 a.id)∧W.cell? ⟨wo.heap.size,1,none⟩=some (.int .i64 a.bal)∧W.cell? ⟨wo.heap.size,2,none⟩=some (.slice A2 a.pos.length c2))
     (first | exact KS.out _ KD.out | exact KS.out _ (by assumption) | exact KT.out _ _ _ _ (by assumption))
     ((go_at_call 129;(with_reducible refine (HCP.out _ KD.out).mono ?_);rintro e W3 ⟨A3,c3,rfl,hown3,hb3⟩;have hB3:=dk_next (w0:=W2) hb3 KD.out;obtain ⟨⟨z0,z1,z2⟩,z3,z4,z5⟩:=KQ.out _ hB3))
    refine exit_name ?_
    intro Z hZ
    have hs3:=hB3.size
    have hs20:=HR2.out.low.size
    obtain ⟨xs',hn⟩:=(HR2.out.below hB3).acc hlt HA.out (ow_lower hown3 (by show w.heap.size ≤ W2.heap.size;omega)) h4 hZ
    have HN:=Lib.hid hn
    clear hZ hn hown3 hb3 z0 z1 z2 z3 z4 z5 KS KT KQ HCP KD h22 HGC
    go_wp2_with fail
    go_roundw
    case rel=>exact ⟨j + 1,xs',by omega,by go_num,HN⟩
    case measure=>simp [intOf];omega
   ·obtain rfl:j=v.accs.length:=by omega
    have k1:wo.cell? ⟨w.heap.size,1,none⟩=some (.slice Am v.mks.length km):=HR.out.x.cell 1
    have y1:=HR.out.x.lt
    have HR0:=Lib.hid (show CpR w wo v fa fm Aa ca Am km v.accs.length 0 xs fm from HR.out)
    clear HR
    go_wp2_with fail
    go_loopw [33] (fun i wr=>∃ (j:Nat) (ys:List Value),j ≤ v.mks.length∧i=.int .i64 j∧Hid (CpR w wr v fa fm Aa ca Am km v.accs.length j xs ys)) (fun i _=>v.mks.length - (intOf i).toNat)
    case atStart=>exact ⟨0,fm,by omega,rfl,HR0⟩
    case round =>
     obtain ⟨wo,rfl⟩:∃ x,x=wr:=⟨wr,rfl⟩
     obtain ⟨j,ys,hj,rfl,HR⟩:=hrel
     by_cases hlt:j < v.mks.length
     ·obtain ⟨m,hm⟩:∃ m,v.mks[j]?=some m:=⟨_,List.getElem?_eq_getElem hlt⟩
      obtain ⟨A2,c2,A3,c3,e0,e1,e2,e3,hbk,hl1,hl2⟩:=mk_flat HV.out.mks HFM.out hm
      obtain ⟨g,rfl,hg1,hg2,-,hgc⟩:=HR.out.pm.at_ hlt
      obtain ⟨q0,-⟩:=hgc _ _ (by omega) e0
      obtain ⟨q1,-⟩:=hgc _ _ (by omega) e1
      obtain ⟨q2,-⟩:=hgc _ _ (by omega) e2
      obtain ⟨q3,-⟩:=hgc _ _ (by omega) e3
      have HGC:=Lib.hid (show ∀ q u,j * 4 ≤ q→fm[q]?=some u→wo.cell? ⟨g,q,none⟩=some u∧wo.frozen? ⟨g,q,none⟩=false from hgc)
      have HE:=Lib.hid (And.intro e0 (And.intro e1 (And.intro e2 e3)))
      have HM:=Lib.hid hm
      have HBK:=Lib.hid hbk
      have hbl:m.book.bids.length + m.book.asks.length ≤ 40:=(marketErr_ok.1 (HOK.out.mks m (List.mem_of_getElem? hm)).1).1.len
      have hx:=HR.out.x.lt
      clear hm e0 e1 e2 e3 hbk hgc
      go_wp2_with fail
      refine wp_name ?_
      intro W2 hW2
      have hB2:Below wo.heap.size wo W2:=by rw [hW2];first | exact (Below.refl _ _).alloc (Nat.le_refl _) _ | exact ((Below.refl _ _).alloc (Nat.le_refl _) _).setCell (Nat.le_refl _) _
      have Y2:Blk W2 wo.heap.size 64 #[.slice A2 m.book.bids.length c2,.slice A3 m.book.asks.length c3,.int .i64 m.index,.int .i64 m.last]:=by rw [hW2];exact Blk.new wo _ _
      have hs2:=hB2.size
      clear hW2 q0 q1 q2 q3
      have HR2:=Lib.hid (HR.out.below hB2)
      have y2:=Y2.lt
      have hgl:g < W2.heap.size:=by omega
      have hs02:=HR2.out.low.size
      have h22:Below W2.heap.size W2 W2:=Below.refl _ _
      have KQ:Hid (∀ W,Below W2.heap.size W2 W→(W.cell? ⟨g,j * 4,none⟩=some (.slice A2 m.book.bids.length c2)∧W.cell? ⟨g,j * 4 + 1,none⟩=some (.slice A3 m.book.asks.length c3))∧W.frozen? ⟨g,j * 4,none⟩=false∧W.frozen? ⟨g,j * 4 + 1,none⟩=false):=by
       intro W hW
       have hb:=hB2.trans (hW.mono hs2)
       have k0:=HGC.out _ _ (by omega) HE.out.1
       have k1:=HGC.out _ _ (by omega) HE.out.2.1
       exact ⟨⟨(hb.cell (p:=⟨g,_,none⟩) hg2).trans k0.1,(hb.cell (p:=⟨g,_,none⟩) hg2).trans k1.1⟩,(hb.frozen (p:=⟨g,_,none⟩) hg2).trans k0.2,(hb.frozen (p:=⟨g,_,none⟩) hg2).trans k1.2⟩
      have hne1:g ≠ w.heap.size:=by
       obtain ⟨g',hg',_,_,⟨cs,hg⟩,_⟩:=HR.out.pm.at_ hlt
       injection hg' with hg'
       injection hg' with hg'
       subst hg'
       exact blk_ne hg HR.out.x (by decide)
      have KS:Hid (∀ W,Below W2.heap.size W2 W→W.cell? ⟨w.heap.size,1,none⟩=some (.slice (some ⟨g,0,none⟩) v.mks.length km)∧W.cell? ⟨wo.heap.size,0,none⟩=some (.slice A2 m.book.bids.length c2)∧W.cell? ⟨wo.heap.size,1,none⟩=some (.slice A3 m.book.asks.length c3)):=by
       intro W hW
       have hy:=Y2.below hW y2
       exact ⟨(HR2.out.x.below hW HR2.out.x.lt).cell 1,hy.cell 0,hy.cell 1⟩
      have KT:Hid (∀ W t0 t1,Below W2.heap.size W2 W→((W.setCell ⟨g,j * 4,none⟩ t0).setCell ⟨g,j * 4 + 1,none⟩ t1).cell? ⟨w.heap.size,1,none⟩=some (.slice (some ⟨g,0,none⟩) v.mks.length km)∧((W.setCell ⟨g,j * 4,none⟩ t0).setCell ⟨g,j * 4 + 1,none⟩ t1).cell? ⟨wo.heap.size,0,none⟩=some (.slice A2 m.book.bids.length c2)∧((W.setCell ⟨g,j * 4,none⟩ t0).setCell ⟨g,j * 4 + 1,none⟩ t1).cell? ⟨wo.heap.size,1,none⟩=some (.slice A3 m.book.asks.length c3)):=by
       intro W t0 t1 hW
       have hy:=((Y2.below hW y2).far (p:=⟨g,j * 4,none⟩) (by dsimp only;omega) t0).far (p:=⟨g,j * 4 + 1,none⟩) (by dsimp only;omega) t1
       have hx:=((HR2.out.x.below hW HR2.out.x.lt).far (p:=⟨g,j * 4,none⟩) (fun e=>hne1 e.symm) t0).far (p:=⟨g,j * 4 + 1,none⟩) (fun e=>hne1 e.symm) t1
       exact ⟨hx.cell 1,hy.cell 0,hy.cell 1⟩
      have HCP:Hid (∀ W,Below W2.heap.size W2 W→Calls Try.prog 135 #[.agg #[.slice A2 m.book.bids.length c2,.slice A3 m.book.asks.length c3]] W fun e w' =>
        ∃ u u',e=.returned (.agg #[u,u'])∧w'.ownsRow W.heap.size 71 5 u m.book.bids.length (odCells m.book.bids)∧w'.ownsRow W.heap.size 71 5 u' m.book.asks.length (odCells m.book.asks)∧(∀ k,u.ownBlock=some k→u'.ownBlock ≠ some k)∧Below W.heap.size W w'):=fun W hW =>
       copy_bk m.book A2 A3 c2 c3 B W (HBK.out.below ((HR2.out.low.trans (hW.mono HR2.out.low.size)).mono hB)) (by have:=hW.size;omega) (by omega) (by omega)
      have KD:Hid (Below W2.heap.size W2 W2.drew):=dk_drew (Below.refl _ _)
      have hj0:(0:Int) ≤ (j:Int):=by omega
      have hj1:(j:Int) < (v.mks.length:Int):=by omega
      go_wp2_with fail
      go_region_held3 (fun W=>W.cell? ⟨w.heap.size,1,none⟩=some (.slice (some ⟨g,0,none⟩) v.mks.length km)∧W.cell? ⟨wo.heap.size,0,none⟩=some (.slice A2 m.book.bids.length c2)∧W.cell? ⟨wo.heap.size,1,none⟩=some (.slice A3 m.book.asks.length c3))
       (first | exact KS.out _ KD.out | exact KS.out _ (by assumption) | exact KT.out _ _ _ (by assumption))
       ((go_at_call 135;(with_reducible refine (HCP.out _ KD.out).mono ?_);rintro e W3 ⟨u,u',rfl,hown3,hown4,hap3,hb3⟩;obtain ⟨P,pc,rfl⟩:=own_shape hown3;obtain ⟨P',pc',rfl⟩:=own_shape hown4;have hB3:=dk_next (w0:=W2) hb3 KD.out;obtain ⟨⟨z0,z1⟩,z3,z4⟩:=KQ.out _ hB3))
      refine exit_name ?_
      intro Z hZ
      have hs3:=hB3.size
      obtain ⟨ys',hn⟩:=HR2.out.mkt hB3 hlt HM.out HE.out.2.2.1 HE.out.2.2.2 rfl rfl hown3 hown4 hap3 ⟨hl1,hl2⟩ hZ
      have HN:=Lib.hid hn
      clear hZ hn hown3 hown4 hap3 hb3 z0 z1 z3 z4 KS KT KQ HCP KD h22 HGC
      go_wp2_with fail
      go_roundw
      case rel=>exact ⟨j + 1,ys',by omega,by go_num,HN⟩
      case measure=>simp [intOf];omega
     ·obtain rfl:j=v.mks.length:=by omega
      have HZ:=Lib.hid (show CpR w wo v fa fm Aa ca Am km v.accs.length v.mks.length xs ys from HR.out)
      obtain ⟨⟨k0,k1,k2,k3,k4,k5,k6⟩,-⟩:=HZ.out.x.c7
      obtain ⟨⟨r0,r1,r2,r3,r4,r5,r6⟩,f0,f1,f2,f3,f4,f5,f6⟩:=HZ.out.r.c7
      have y1:=HZ.out.x.lt
      have y2:=HZ.out.r.lt
      clear HR
      go_wp2_with fail
      refine post_name ?_
      intro Z hZ
      have hK:Kept [111] wo Z:=by
       rw [hZ]
       exact ((((((((Kept.refl _ _).set HZ.out.r (by decide) _ _).set (HZ.out.r.set_ _ _) (by decide) _ _).set ((HZ.out.r.set_ _ _).set_ _ _) (by decide) _ _).set (((HZ.out.r.set_ _ _).set_ _ _).set_ _ _) (by decide) _ _).set ((((HZ.out.r.set_ _ _).set_ _ _).set_ _ _).set_ _ _) (by decide) _ _).set (((((HZ.out.r.set_ _ _).set_ _ _).set_ _ _).set_ _ _).set_ _ _) (by decide) _ _).set ((((((HZ.out.r.set_ _ _).set_ _ _).set_ _ _).set_ _ _).set_ _ _).set_ _ _) (by decide) _ _)
      have RZ:Blk Z (w.heap.size + 1) 111 #[.slice Aa v.accs.length ca,.slice Am v.mks.length km,.int .i64 v.ins,.int .i64 v.resid,.int .i64 v.next,.int .i64 v.inn,.int .i64 v.out]:=by rw [hZ];exact ((((((HZ.out.r.set_ 0 _).set_ 1 _).set_ 2 _).set_ 3 _).set_ 4 _).set_ 5 _).set_ 6 _
      have HL:=Lib.hid (show Below w.heap.size w Z by rw [hZ];exact ((((((HZ.out.low.setCell (by simp) _).setCell (by simp) _).setCell (by simp) _).setCell (by simp) _).setCell (by simp) _).setCell (by simp) _).setCell (by simp) _)
      have HK:=Lib.hid hK
      clear hZ hK k0 k1 k2 k3 k4 k5 k6 r0 r1 r2 r3 r4 r5 r6 f0 f1 f2 f3 f4 f5 f6
      obtain ⟨⟨k0,k1,k2,k3,k4,k5,k6⟩,-⟩:=RZ.c7
      refine bodyPost_ret (v:=.agg #[.slice Aa v.accs.length ca,.slice Am v.mks.length km,.int .i64 v.ins,.int .i64 v.resid,.int .i64 v.next,.int .i64 v.inn,.int .i64 v.out]) (by simp [results,Try.results152,go_sem, *]) rfl ?_
      exact ⟨Aa,ca,Am,km,xs,ys,rfl,HZ.out.pa.own.kept HK.out (by decide) (by decide),HZ.out.pm.own.kept HK.out (by decide) (by decide),HL.out⟩
end
section
def rejB (ev:List Ev):Bool:=match ev with
 | [x]=>decide (x.kind=1)
 | _=>false
def placeB (c:Cm):Bool:=decide (c.kind=3)
theorem does_step {c:Cm} {d d':Dk} (h:VOk d.v) (hc:doesE c d=.ok d'):∃ E,Step (placeB c) d d' E∧d'.v.next ≤ d.v.next + 1:=by
 unfold doesE at hc
 split at hc
 ·rename_i hk
  obtain ⟨m,s,_,_,_,hn,_⟩:=cash_step (place:=placeB c) h hc
  exact ⟨_,s,by omega⟩
 rename_i h1
 split at hc
 ·rename_i hk
  obtain ⟨b,l,left,hcm,_,_,_,_,s,hn,_⟩:=order_ok h hc
  have:placeB c=true:=by unfold placeB;simp [hk]
  rw [this]
  exact ⟨_,s,by omega⟩
 rename_i h2
 split at hc
 ·obtain ⟨j,x,o,_,_,_,_,_,rfl,s⟩:=cancel_step (place:=placeB c) h hc
  exact ⟨_,s,by simp only [tell,setMk];omega⟩
 rename_i h3
 split at hc
 ·obtain ⟨E,s,_,hn,_⟩:=market_step (place:=placeB c) h hc
  exact ⟨E,s,by omega⟩
 rename_i h4
 split at hc
 ·rename_i hk
  obtain ⟨_,E,s,_,_⟩:=sweep_step h hc
  have:placeB c=false:=by unfold placeB;simp [hk]
  rw [this]
  exact ⟨E,s.step,by have:=s.nums.2.1;omega⟩
 ·cases hc
theorem do_ok {v w:Vn} {c:Cm} {ev:List Ev} (h:doOf v c=(w,ev,0)):VOk v∧((∃ e,doesE c ⟨v,[]⟩=.error e∧w=v∧ev = [rejEv e])∨doesE c ⟨v,[]⟩=.ok ⟨w,ev⟩):=by
 unfold doOf at h
 split at h
 ·rename_i h1;injection h with _ h;injection h with _ h;exact absurd h h1
 rename_i h1
 refine ⟨venueErr_ok.1 (by omega),?_⟩
 split at h
 ·rename_i d hd;injection h with e1 h;injection h with e2 _
  right;rw [hd,← e1,← e2]
 ·rename_i e he;injection h with e1 h;injection h with e2 _
  exact .inl ⟨e,he,e1.symm,e2.symm⟩
theorem rej_step {place:Bool} {d d':Dk} {E:List Ev} (h:Step place d d' E):rejB E=false:=by
 unfold rejB
 split
 ·rename_i x
  have:=h.kinds x (by simp)
  simpa using this
 ·rfl
theorem do_done {v w:Vn} {c:Cm} {ev:List Ev} (h:doOf v c=(w,ev,0)) (hr:rejB ev=false):VOk v∧doesE c ⟨v,[]⟩=.ok ⟨w,ev⟩:=by
 obtain ⟨h1,⟨e,_,_,rfl⟩ | h2⟩:=do_ok h
 ·simp [rejB,rejEv] at hr
 ·exact ⟨h1,h2⟩
theorem do_rej {v w:Vn} {c:Cm} {ev:List Ev} (h:doOf v c=(w,ev,0)) (hr:rejB ev=true):VOk v∧w=v∧∃ e,doesE c ⟨v,[]⟩=.error e∧ev = [rejEv e]:=by
 obtain ⟨h1,⟨e,h2,h3,h4⟩ | h2⟩:=do_ok h
 ·exact ⟨h1,h3,e,h2,h4⟩
 ·obtain ⟨E,s,_⟩:=does_step (d:=⟨v,[]⟩) h1 h2
  have he:ev=E:=by have:=s.ev;simpa using this
  subst he
  rw [rej_step s] at hr;cases hr
theorem keeps_law {v w:Vn} {c:Cm} {ev:List Ev} (h:doOf v c=(w,ev,0)) :
  VOk v∧VOk w∧(v.next ≤ w.next∧w.next ≤ v.next + 1)∧v.inn ≤ w.inn∧v.out ≤ w.out∧(rejB ev=true→w=v):=by
 obtain ⟨h1,⟨e,_,rfl,rfl⟩ | h2⟩:=do_ok h
 ·exact ⟨h1,h1,by omega,Int.le_refl _,Int.le_refl _,fun _=>rfl⟩
 ·obtain ⟨E,s,hn⟩:=does_step (d:=⟨v,[]⟩) h1 h2
  have he:ev=E:=by have:=s.ev;simpa using this
  subst he
  have hu:=s.up
  simp only at hu hn
  exact ⟨h1,s.ok,⟨hu.1,hn⟩,hu.2.1,hu.2.2,fun hr=>by rw [rej_step s] at hr;cases hr⟩
theorem acc_mem {m:Nat} {L M:List Ac} {a:Ac} (hL:AOk m L) (hM:AOk m M) (ha:a ∈ L) (ht:thereB M a.id=true) (hb:balOf M a.id=balOf L a.id) (hp:∀ k,posOf M k a.id=posOf L k a.id):a ∈ M:=by
 obtain ⟨i,hi⟩:=List.mem_iff_getElem?.1 ha
 obtain ⟨b,hbm,hbi⟩:=place_there hM.sorted ht
 have e1:accOf L a.id=a:=accOf_at hL.sorted hi
 have e2:accOf M a.id=b:=by rw [← hbi];exact accOf_at hM.sorted hbm
 have hbal:b.bal=a.bal:=by unfold balOf at hb;rw [e1,e2] at hb;exact hb
 have la:=(accCheck_ok (hL.ok a ha)).2.2.1
 have lb:=(accCheck_ok (hM.ok b (List.mem_of_getElem? hbm))).2.2.1
 have hpos:b.pos=a.pos:=by
  apply List.ext_getElem (by omega)
  intro k h1 h2
  have:=hp k
  rw [posOf_def,posOf_def,e1,e2,List.getD,List.getD,List.getElem?_eq_getElem h1,List.getElem?_eq_getElem h2] at this
  exact this
 have hab:b=a:=by
  obtain ⟨b1,b2,b3⟩:=b
  obtain ⟨a1,a2,a3⟩:=a
  simp only at hbi hbal hpos
  subst hbi hbal hpos;rfl
 rw [← hab];exact List.mem_of_getElem? hbm
theorem others_law {v w:Vn} {c:Cm} {ev:List Ev} (h:doOf v c=(w,ev,0)) (hr:rejB ev=false) (h6:c.kind ≠ 6) (h7:c.kind ≠ 7) (hf:∀ x ∈ ev,x.kind ≠ 3) :
  (∀ a ∈ v.accs,a.id=c.acc∧(c.kind=1∨c.kind=2)∨a ∈ w.accs)∧w.ins=v.ins∧w.resid=v.resid:=by
 obtain ⟨hv,hc⟩:=do_done h hr
 unfold doesE at hc
 split at hc
 ·rename_i hk
  obtain ⟨m,s,hm,hi,hre,_⟩:=cash_step (place:=true) (d:=⟨v,[]⟩) hv hc
  refine ⟨fun a ha=>?_,hi,hre⟩
  by_cases hid:a.id=c.acc
  ·exact .inl ⟨hid,hk⟩
  ·right
   have ht:thereB v.accs a.id=true:=there_iff.2 ⟨a,ha,rfl⟩
   have hok:AOk v.mks.length w.accs:=by have:=s.ok.accs;rw [s.len] at this;exact this
   refine acc_mem hv.accs hok ha (s.there _ ht) ?_ fun k=>?_
   ·have:=s.bal a.id
    simp only [moneySum,List.map_cons,List.map_nil,List.sum_cons,List.sum_nil,evMoney_moved] at this
    rw [if_neg hid] at this
    simpa using this
   ·have:=s.pos k a.id
    simp only [posSumE,List.map_cons,List.map_nil,List.sum_cons,List.sum_nil,evPos_moved] at this
    simpa using this
 rename_i h1
 split at hc
 ·obtain ⟨b,l,left,hcm,_,_,_,_,s,_,_⟩:=order_ok (d:=⟨v,[]⟩) hv hc
  have hl:l = []:=by
   cases l with
   | nil=>rfl
   | cons f l =>
    have he:=s.ev
    simp only [List.nil_append] at he
    exact absurd rfl (hf ⟨3,0,c.market.toNat,0,0,0,f⟩ (by rw [he];simp [fillEvs]))
  obtain ⟨e1,e2,_⟩:=hcm.none hl
  have e1':w.accs=v.accs:=e1
  exact ⟨fun a ha=>.inr (by rw [e1'];exact ha),e2,hcm.nums.1⟩
 rename_i h2
 split at hc
 ·obtain ⟨j,x,o,_,_,_,_,_,e,_⟩:=cancel_step (place:=true) (d:=⟨v,[]⟩) hv hc
  have e1:w=setMk v j { mkAt v j with book:=x }:=congrArg Dk.v e
  subst e1
  exact ⟨fun a ha=>.inr ha,rfl,rfl⟩
 rename_i h3
 split at hc
 ·rename_i hk
  obtain ⟨E,s,hi,_,_,_,h5,_⟩:=market_step (place:=true) (d:=⟨v,[]⟩) hv hc
  obtain ⟨_,e2,e3⟩:=h5 (by omega)
  have e2':w.accs=v.accs:=e2
  exact ⟨fun a ha=>.inr (by rw [e2'];exact ha),hi,e3⟩
 rename_i h4
 cases hc
theorem begin_ok {v:Vn} {a:Ac} (h:beginErr v a=0):(marksOf v.mks).2=0∧soundOf a (marksOf v.mks).1=(true,true,0):=by
 unfold beginErr at h
 split at h
 ·rename_i h1;exact absurd h h1
 rename_i h1
 split at h
 ·omega
 rename_i h2
 obtain ⟨b,c,e,hs⟩:∃ b c e,soundOf a (marksOf v.mks).1=(b,c,e):=⟨_,_,_,rfl⟩
 rw [hs] at h h2
 simp only at h h2
 subst h
 have hb:b=true:=by cases b <;> simp_all
 subst hb
 have:=holds2 hs rfl
 subst this
 exact ⟨by omega,hs⟩
theorem trade_zero {a t:Ac} {m p:Int} (h:tradeOf a m 0 p 0=(t,0)):t=a:=by
 obtain ⟨_,h2,_,_,_,h6,_⟩:=trade_ok h
 rw [h6]
 have e:a.pos.set m.toNat (a.pos.getD m.toNat 0 + 0)=a.pos:=by
  apply List.ext_getElem?
  intro i
  rw [List.getElem?_set]
  split
  ·rename_i hi
   subst hi
   rw [if_pos (by omega),Int.add_zero,List.getD]
   rw [List.getElem?_eq_getElem (by omega:m.toNat < a.pos.length)];rfl
  ·rfl
 rw [e]
 obtain ⟨a1,a2,a3⟩:=a
 simp
theorem come_find {b x:Bk} {o:Od} {how left:Int} {l:List Fl} (h:comeOf b o how=(x,l,left,0)) (hi:∀ z ∈ b.bids ++ b.asks,z.id < o.id) :
  findOf x o.id=({ o with qty:=o.qty - left - qtySum l },0)∧left=0∨(findOf x o.id).2=5∧o.qty - left - qtySum l=0∨(findOf x o.id).2=5∧how=2:=by
 obtain ⟨hb,ho,_,hh,L,rem,ht,h4,h3,hc⟩:=come_ok h
 have hs:=(ordErr_ok.1 ho).2.2.1
 have hso:=other_of hb o.side hs
 have hq:∀ x ∈ otherOf b o.side,1 ≤ x.qty:=fun x hx=>(ordErr_ok.1 (hso.ok x hx)).2.2.2.2.1
 have hq0:=(ordErr_ok.1 ho).2.2.2.2
 obtain ⟨_,f2⟩:=takeL_fills (o:=o) (left:=o.qty) hq (by omega)
 obtain ⟨t1,t2⟩:=take_book (o:=o) (left:=o.qty) hb hs
 rw [ht] at f2 t1 t2
 simp only at f2 t1 t2
 have hno:BookOk x→(∀ y ∈ x.bids ++ x.asks,y.id < o.id)→(findOf x o.id).2=5:=by
  intro hx hlt
  unfold findOf
  rw [if_neg (by rw [bookErr_ok.2 hx];simp)]
  cases hf:findO (x.bids ++ x.asks) o.id with
  | none=>rfl
  | some z =>
   obtain ⟨k1,k2⟩:=findO_some hf
   have:=hlt z k1;omega
 rcases hc with ⟨h5,rfl,rfl⟩ | ⟨h5,h6,h7,rfl,hr⟩
 ·right
  have h0:=hno t1 fun y hy=>by
   obtain ⟨z,hz,e,_⟩:=t2 y hy
   rw [← e];exact hi z hz
  rcases h5 with h5 | h5
  ·exact .inl ⟨h0,by omega⟩
  ·exact .inr ⟨h0,h5⟩
 ·left
  have:=(back1 hr).2.2
  simp only at this
  rw [this,show o.qty - 0 - qtySum l=rem by omega]
  exact ⟨rfl,rfl⟩
theorem next_lt {v:Vn} {k:Nat} (h:VOk v) (hk:k < v.mks.length):∀ z ∈ (mkAt v k).book.bids ++ (mkAt v k).book.asks,z.id < v.next:=fun z hz=>((mkAt_ok h hk).2 z hz).2
theorem ready_cash {v w:Vn} {c:Cm} {ev:List Ev} (h:doOf v c=(w,ev,0)) (hr:rejB ev=false) (hk:c.kind=2) :
  VOk w∧thereB w.accs c.acc=true∧(marksOf w.mks).2=0∧soundOf (accOf w.accs c.acc) (marksOf w.mks).1=(true,true,0):=by
 obtain ⟨hv,hc⟩:=do_done h hr
 unfold doesE at hc
 rw [if_pos (.inr hk)] at hc
 obtain ⟨m,s,_,_,_,_,_,_,_,h2⟩:=cash_step (place:=true) (d:=⟨v,[]⟩) hv hc
 obtain ⟨_,_,_,ht,hb⟩:=h2 (by omega)
 obtain ⟨b1,b2⟩:=begin_ok hb
 exact ⟨s.ok,s.there _ ht,b1,b2⟩
theorem accAt_place {v:Vn} {id:Int} (h:SortedA v.accs) (ht:thereB v.accs id=true):accAt v (placeOf v.accs id)=accOf v.accs id:=by
 obtain ⟨a,ha,he⟩:=place_there h ht
 rw [show accAt v (placeOf v.accs id)=a from getD_some ha,← he,accOf_at h ha]
theorem marksFrom_ok:∀ {M:List Mk},(∀ m ∈ M,marketErr m=0)→marksFrom M=(M.map markP,0)
 | [],_=>rfl
 | m :: M,h=>by
  have h1:=h m (by simp)
  have ih:=marksFrom_ok (M:=M) fun x hx=>h x (by simp [hx])
  unfold marksFrom
  have e:markOf m=(markP m,0):=by unfold markOf;rw [if_neg (by omega)]
  rw [e,ih]
  simp
theorem marks_ok {v:Vn} (h:VOk v):marksOf v.mks=(v.mks.map markP,0):=by
 unfold marksOf
 have:=h.len
 rw [if_neg (by omega),marksFrom_ok fun m hm=>(h.mks m hm).1]
theorem posSumE_left (mk k:Nat) (a b c id:Int):posSumE (leftEv mk a b c) k id=0:=by
 unfold leftEv
 split
 ·simp [posSumE,evPos]
 ·rfl
theorem ready_place {v w:Vn} {c:Cm} {ev:List Ev} (h:doOf v c=(w,ev,0)) (hr:rejB ev=false) (hk:c.kind=3) :
  VOk v∧VOk w∧thereB w.accs c.acc=true∧thereB v.accs c.acc=true∧(0 ≤ c.market∧c.market < v.mks.length)∧w.mks.length=v.mks.length∧(marksOf w.mks).2=0 ∧
   (c.reduce=true→0 ≤ posOf v.accs c.market.toNat c.acc * posOf w.accs c.market.toNat c.acc∧(posOf w.accs c.market.toNat c.acc).natAbs ≤ (posOf v.accs c.market.toNat c.acc).natAbs∧posOf v.accs c.market.toNat c.acc * c.o.side < 0) ∧
   (c.reduce=false→∃ t,((findOf (mkAt w c.market.toNat).book v.next).2=0∧tradeOf (accOf w.accs c.acc) c.market.toNat ((findOf (mkAt w c.market.toNat).book v.next).1.side * (findOf (mkAt w c.market.toNat).book v.next).1.qty) (findOf (mkAt w c.market.toNat).book v.next).1.price 0=(t,0)∨(findOf (mkAt w c.market.toNat).book v.next).2=5∧t=accOf w.accs c.acc)∧soundOf t (marksOf w.mks).1=(true,true,0)):=by
 obtain ⟨hv,hc⟩:=do_done h hr
 unfold doesE at hc
 rw [if_neg (by omega),if_pos hk] at hc
 obtain ⟨b,l,left,hcm,hst,hmk,hth,hoe,s,hn,hrd⟩:=order_ok (d:=⟨v,[]⟩) hv hc
 simp only at hcm hth hoe s hn hrd hmk
 have hmkn:c.market.toNat < v.mks.length:=by omega
 have htw:=s.there _ hth
 have hw:=s.ok
 simp only at htw hw
 have hlen:=s.len
 simp only at hlen
 have hat:=accAt_place hv.accs.sorted hth
 have hpo:posOf v.accs c.market.toNat c.acc=(accAt v (placeOf v.accs c.acc)).pos.getD c.market.toNat 0:=by rw [hat];rfl
 have hside:=(ordErr_ok.1 hoe).2.2.1
 simp only at hside
 obtain ⟨oid,oacc,oside,oprice⟩:(orderO c v).id=v.next∧(orderO c v).acc=c.acc∧(orderO c v).side=c.o.side∧(orderO c v).price=c.o.price:=by unfold orderO;cases c.reduce <;> exact ⟨rfl,rfl,rfl,rfl⟩
 have hbk:mkAt (orderD c ⟨v,[]⟩).v c.market.toNat=mkAt v c.market.toNat:=rfl
 have hcome:=hcm.come
 rw [hbk] at hcome
 obtain ⟨_,ho2,_,hf,hl0,hl2,hq,_⟩:=come_more hcome
 refine ⟨hv,hw,htw,hth,hmk,hlen,by rw [marks_ok hw],fun hre=>?_,fun hre=>?_⟩
 ·obtain ⟨h2,hneg⟩:=hrd hre
  rw [← hpo] at hneg
  have hfl:∀ f ∈ l,f.tacc=c.acc∧f.macc ≠ c.acc∧f.side=c.o.side:=by
   intro f hf'
   obtain ⟨z,_,_,g2,_,_,g5,g6,g7⟩:=hf f hf'
   exact ⟨g6.trans oacc,by rw [g2,← oacc];exact g7,g5.trans oside⟩
  obtain ⟨f1,_⟩:=posSumE_fills (mk:=c.market.toNat) hfl
  have hp:=s.pos c.market.toNat c.acc
  simp only at hp
  rw [posSumE_app,posSumE_app,f1,posSumE_left] at hp
  have e0:posSumE [⟨2,0,(c.market.toNat:Int),v.next,c.acc,0,zeroFl⟩] c.market.toNat c.acc=0:=by simp [posSumE,evPos]
  rw [e0] at hp
  have hqo:(orderO c v).qty ≤ max (posOf v.accs c.market.toNat c.acc) (-posOf v.accs c.market.toNat c.acc):=by
   unfold orderO;rw [if_pos hre,hpo];simp only;omega
  have hs0:0 ≤ qtySum l:=hq.1
  generalize posOf w.accs c.market.toNat c.acc=now at *
  generalize posOf v.accs c.market.toNat c.acc=was at *
  generalize qtySum l=s0 at *
  rcases hside with hs | hs
  ·rw [hs] at hp hneg ⊢
   have:was < 0:=by omega
   have hnow:now ≤ 0∧was ≤ now:=by omega
   refine ⟨?_,by omega,by omega⟩
   exact Int.mul_nonneg_of_nonpos_of_nonpos (by omega) hnow.1
  ·rw [hs] at hp hneg ⊢
   have:0 < was:=by omega
   have hnow:0 ≤ now∧now ≤ was:=by omega
   exact ⟨Int.mul_nonneg (by omega) hnow.1,by omega,by omega⟩
 ·obtain ⟨t,ht,hb⟩:=hcm.begin_ hre
  have hatw:accAt w (placeOf v.accs c.acc)=accOf w.accs c.acc:=by
   have hids:w.accs.map (·.id)=v.accs.map (·.id):=hcm.ids
   rw [← place_map hids];exact accAt_place hw.accs.sorted htw
  have ht':tradeOf (accAt w (placeOf v.accs c.acc)) c.market.toNat ((orderO c v).side * ((orderO c v).qty - left - qtySum l)) (orderO c v).price 0=(t,0):=ht
  rw [hatw] at ht'
  have hbw:(mkAt w c.market.toNat).book=b:=hcm.book.1
  rw [hbw]
  refine ⟨t,?_,(begin_ok hb).2⟩
  have hfind:=come_find hcome (by rw [oid];exact next_lt hv hmkn)
  rw [oid] at hfind
  rcases hfind with ⟨h1,h2⟩ | ⟨h1,h2⟩ | ⟨h1,h2⟩
  ·left
   rw [h1]
   exact ⟨rfl,ht'⟩
  ·right
   refine ⟨h1,?_⟩
   rw [h2,Int.mul_zero] at ht'
   exact trade_zero ht'
  ·by_cases hz:(orderO c v).qty - left - qtySum l=0
   ·right
    refine ⟨h1,?_⟩
    rw [hz,Int.mul_zero] at ht'
    exact trade_zero ht'
   ·exfalso
    obtain ⟨_,_,_,_,L,rem,hta,_,_,hcc⟩:=come_ok hcome
    have hso:=other_of (marketErr_ok.1 (mkAt_ok hv hmkn).1).1 (orderO c v).side (by rw [oside];exact hside)
    have hqq:∀ x ∈ otherOf (mkAt v c.market.toNat).book (orderO c v).side,1 ≤ x.qty:=fun x hx=>(ordErr_ok.1 (hso.ok x hx)).2.2.2.2.1
    obtain ⟨_,f2⟩:=takeL_fills (o:=orderO c v) (left:=(orderO c v).qty) hqq (by have:=(ordErr_ok.1 ho2).2.2.2.2;omega)
    rw [hta] at f2
    simp only at f2
    rcases hcc with ⟨_,_,g⟩ | ⟨_,g,_⟩
    ·omega
    ·exact g h2
end
end Go.Proofs.Ytockodmbhnlheaa
