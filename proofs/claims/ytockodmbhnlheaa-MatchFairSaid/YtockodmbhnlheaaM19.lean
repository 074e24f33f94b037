/-
  Contracts of the program's functions, and plain facts, that the laws VenueKeeps, VenueOthers, VenueCancels, VenueCash, VenueReady rest on (joined texts): VSame, LawHead, IdxV, At, VenueLaws3, VenueLaws4, CancelsW.
-/
import Derived.Test.YtockodmbhnlheaaM06
import Derived.Test.YtockodmbhnlheaaM18
import Derived.Test.YtockodmbhnlheaaM03
import Derived.Test.YtockodmbhnlheaaM07
import Derived.Test.YtockodmbhnlheaaM01
import Derived.Test.YtockodmbhnlheaaProg
import Derived.Maps.AppendAt
import Derived.Laws.AppendOwnNone
import Derived.OwnWalk
import Derived.Deep.RegionHeld3
import Derived.Test.YtockodmbhnlheaaM02
import Derived.Lib.AppendZeros
import Derived.Test.YtockodmbhnlheaaM05
import Derived.Test.YtockodmbhnlheaaM04
import Derived.WalkKit
import Derived.WalkSpells
import Derived.WalkLawsBesides
import Derived.Lib.Hide
import Derived.Laws.CopyOwn
import Derived.Lib.AppendZerosOnto
import Derived.Lib.Overlaps
import Derived.Laws.Externs
import Derived.Deep.RegionLaw
import Derived.Maps.Own
import Derived.Maps.OwnOps
import Derived.Maps.Views
import Derived.Deep.QuietTactic
import Derived.BigQuiet
import Derived.Deep.Draws
import Derived.IntWalk
import Derived.Deep.DeepCutAuto
import Derived.RegionTactic
import Derived.ChangeAlike
import Derived.Test.YtockodmbhnlheaaM16
import Derived.Test.YtockodmbhnlheaaM12
import Derived.Test.YtockodmbhnlheaaM08
import Derived.Test.YtockodmbhnlheaaM09
import Derived.Test.YtockodmbhnlheaaM10
import Derived.Test.YtockodmbhnlheaaM11
import Derived.Test.YtockodmbhnlheaaM13
import Derived.Test.YtockodmbhnlheaaM15
import Derived.Test.YtockodmbhnlheaaM14
import Derived.Laws.MakeOwn
import Derived.KernelRfl
import Derived.Test.YtockodmbhnlheaaRows
import Derived.ProofKit
import Derived.OpenShut
import Derived.SizedLaws
import Derived.Deep.Slices
import Derived.Test.YtockodmbhnlheaaM17
namespace Go.Proofs.Ytockodmbhnlheaa
section
open Go.RowKit
def sameMk (a b:Mk):Bool:=decide (a.index=b.index) && decide (a.last=b.last) && sameBk a.book b.book
def sameVn (a b:Vn):Bool:=decide (a.ins=b.ins) && decide (a.resid=b.resid) && decide (a.next=b.next) && decide (a.inn=b.inn) && decide (a.out=b.out) && alikeL sameAc a.accs b.accs && alikeL sameMk a.mks b.mks
theorem sameAc_iff (a b:Ac):sameAc a b=true ↔ a=b:=by
 cases a;cases b
 simp only [sameAc,eqI,Bool.and_eq_true,decide_eq_true_eq,Ac.mk.injEq,and_assoc]
theorem sameBk_iff (a b:Bk):sameBk a b=true ↔ a=b:=by
 cases a;cases b
 simp only [sameBk,sameOds,Bool.and_eq_true,decide_eq_true_eq,Bk.mk.injEq]
theorem sameMk_iff (a b:Mk):sameMk a b=true ↔ a=b:=by
 cases a;cases b
 simp only [sameMk,Bool.and_eq_true,decide_eq_true_eq,Mk.mk.injEq,sameBk_iff]
 constructor
 ·rintro ⟨⟨h1,h2⟩,h3⟩;exact ⟨h3,h1,h2⟩
 ·rintro ⟨h3,h1,h2⟩;exact ⟨⟨h1,h2⟩,h3⟩
theorem sameVn_iff (a b:Vn):sameVn a b=true ↔ a=b:=by
 cases a;cases b
 simp only [sameVn,Bool.and_eq_true,decide_eq_true_eq,Vn.mk.injEq,alike_iff sameAc_iff,alike_iff sameMk_iff]
 constructor
 ·rintro ⟨⟨⟨⟨⟨⟨h1,h2⟩,h3⟩,h4⟩,h5⟩,h6⟩,h7⟩;exact ⟨h6,h7,h1,h2,h3,h4,h5⟩
 ·rintro ⟨h6,h7,h1,h2,h3,h4,h5⟩;exact ⟨⟨⟨⟨⟨⟨h1,h2⟩,h3⟩,h4⟩,h5⟩,h6⟩,h7⟩
theorem bkr_at {w W:World} {B c c':Nat} {A A':Option Addr} {b:Bk} (h:BkR w B A A' c c' b) (hB:B ≤ w.heap.size) (hb:Below w.heap.size w W):BkR W w.heap.size A A' c c' b:=h.mono hB fun bb o hbb=>hb.cell (p:=⟨bb,o,none⟩) (by dsimp only;omega)
theorem ret_bb' {a b:Bool} (h:a=b):Ending.returned (.bool a)=.returned (.bool b):=by rw [h]
set_option maxHeartbeats 1000000 in
theorem eqfunc_same (A A':Option Addr) (n n' c c':Nat) (L M:List Ac) (B B':Nat) (w:World) (h:RdL shAcc w B A n c L) (h':RdL shAcc w B' A' n' c' M) (hB:B ≤ w.heap.size) (hB':B' ≤ w.heap.size) :
  Calls Try.prog 54 #[.slice A n c,.slice A' n' c',.func (.func 51) #[] #[]] w fun e w'=>e=.returned (.bool (alikeL sameAc L M))∧Below w.heap.size w w':=by
 have hle:=h.le
 have hcap:=h.cap
 unfold maxLen at hcap
 by_cases hn:n=n'
 ·subst hn
  have HL:=Lib.hid h.len
  have HL':=Lib.hid h'.len
  go_enter Try.func54,Try.ntmps54
  go_wp2_with fail
  go_loopw [17] (fun i wr=>∃ (j:Nat),j ≤ n∧i=.int .i64 j∧Below w.heap.size w wr∧Hid (alikeL sameAc (L.drop j) (M.drop j)=alikeL sameAc L M)) (fun i _=>n - (intOf i).toNat)
  case atStart=>exact ⟨0,Nat.zero_le _,rfl,Below.refl _ _,rfl⟩
  case round =>
   obtain ⟨j,hj,rfl,hbr,HT⟩:=hrel
   have hws:=hbr.size
   by_cases hlt:j < n
   ·obtain ⟨b,o,a,rfl,hb,ha,A2,c2,k0,k1,k2,k3,k4⟩:=acc_at (h.below (hbr.mono hB)) hlt
    obtain ⟨b',o',a',rfl,hb',ha',A2',c2',k0',k1',k2',k3',k4'⟩:=acc_at (h'.below (hbr.mono hB')) hlt
    have HS:=Lib.hid (HT.out.symm.trans (alike_at ha ha'))
    have x1:b < wr.heap.size:=by omega
    have x2:b' < wr.heap.size:=by omega
    clear ha ha'
    go_wp2_with fail
    refine (same_any a a' _ _ _ _ _ _ _ ((k3.alloc (by omega) _).alloc (by simp;omega) _) ((k3'.alloc (by omega) _).alloc (by simp;omega) _) (by simp;omega) (by simp;omega)).mono ?_
    rintro e w2 ⟨rfl,hb2⟩
    have hb3:Below w.heap.size w w2:=((hbr.alloc hws _).alloc (by simp;omega) _).trans (hb2.mono (by simp;omega))
    rcases bool_cs' (sameAc a a') with m1 | m1
    rotate_left
    ·have HE:=Lib.hid (show alikeL sameAc L M=false by rw [HS.out,m1];rfl)
     go_wp2_with fail
     go_ret
     exact ⟨ret_bb' (by rw [HE.out]),hb3⟩
    ·have HE:=Lib.hid (show alikeL sameAc (L.drop (j + 1)) (M.drop (j + 1))=alikeL sameAc L M by rw [HS.out,m1];rfl)
     clear hb2
     go_wp2_with fail
     go_roundw
     case rel=>exact ⟨j + 1,by omega,by go_num,hb3,HE⟩
     case measure=>simp [intOf];omega
   ·have hjn:j=n:=by omega
    have HE:=Lib.hid (show alikeL sameAc L M=true by
     have:=HT.out
     rw [hjn,List.drop_eq_nil_of_le (by have:=HL.out;omega),List.drop_eq_nil_of_le (by have:=HL'.out;omega)] at this
     rw [← this];rfl)
    clear hjn
    go_wp2_with fail
    go_ret
    exact ⟨ret_bb' (by rw [HE.out]),hbr⟩
 ·have HE:=Lib.hid (alike_len (f:=sameAc) (L:=L) (M:=M) (by rw [h.len,h'.len];exact hn))
  have hne:((n:Int) != (n':Int))=true:=by simp;omega
  go_enter Try.func54,Try.ntmps54
  go_wp2_with fail
  go_ret
  exact ⟨ret_bb' (by rw [HE.out]),Below.refl _ _⟩
set_option maxHeartbeats 1000000 in
theorem same1_any (a b:Mk) (A A' C C':Option Addr) (c c' k k' B B':Nat) (w:World) (h:BkR w B A A' c c' a.book) (h':BkR w B' C C' k k' b.book) (hB:B ≤ w.heap.size) (hB':B' ≤ w.heap.size) :
  Calls Try.prog 159 #[.agg #[.slice A a.book.bids.length c,.slice A' a.book.asks.length c',.int .i64 a.index,.int .i64 a.last],.agg #[.slice C b.book.bids.length k,.slice C' b.book.asks.length k',.int .i64 b.index,.int .i64 b.last]] w fun e w'=>e=.returned (.bool (sameMk a b))∧Below w.heap.size w w':=by
 by_cases h1:a.index=b.index
 ·by_cases h2:a.last=b.last
  ·have HE:=Lib.hid (show sameMk a b=sameBk a.book b.book by simp [sameMk,h1,h2])
   have H:=Lib.hid h
   have H':=Lib.hid h'
   clear h h'
   go_enter Try.func159,Try.ntmps159
   go_wp2_with fail
   refine (same_bk a.book b.book A A' C C' c c' k k' w.heap.size _ (bkr_at H.out hB (((Below.refl _ _).alloc (Nat.le_refl _) _).alloc (by simp) _)) (bkr_at H'.out hB' (((Below.refl _ _).alloc (Nat.le_refl _) _).alloc (by simp) _)) (by simp;omega)).mono ?_
   rintro e w1 ⟨rfl,hb1⟩
   go_wp2_with fail
   go_ret
   exact ⟨ret_bb' HE.out.symm,(((Below.refl _ _).alloc (Nat.le_refl _) _).alloc (by simp) _).trans (hb1.mono (by simp;omega))⟩
  ·have HE:=Lib.hid (show sameMk a b=false by simp [sameMk,h2])
   have e1:(a.last == b.last)=false:=by simpa using h2
   clear h h' h2
   go_enter Try.func159,Try.ntmps159
   go_wp2_with fail
   go_ret
   exact ⟨ret_bb' HE.out.symm,((Below.refl _ _).alloc (Nat.le_refl _) _).alloc (by simp) _⟩
 ·have HE:=Lib.hid (show sameMk a b=false by simp [sameMk,h1])
  have e1:(a.index == b.index)=false:=by simpa using h1
  clear h h' h1
  go_enter Try.func159,Try.ntmps159
  go_wp2_with fail
  go_ret
  exact ⟨ret_bb' HE.out.symm,((Below.refl _ _).alloc (Nat.le_refl _) _).alloc (by simp) _⟩
set_option maxHeartbeats 1000000 in
theorem eqfunc_mks (A A':Option Addr) (n n' c c':Nat) (L M:List Mk) (B B':Nat) (w:World) (h:RdL shMk w B A n c L) (h':RdL shMk w B' A' n' c' M) (hB:B ≤ w.heap.size) (hB':B' ≤ w.heap.size) :
  Calls Try.prog 158 #[.slice A n c,.slice A' n' c',.func (.func 159) #[] #[]] w fun e w'=>e=.returned (.bool (alikeL sameMk L M))∧Below w.heap.size w w':=by
 have hle:=h.le
 have hcap:=h.cap
 unfold maxLen at hcap
 by_cases hn:n=n'
 ·subst hn
  have HL:=Lib.hid h.len
  have HL':=Lib.hid h'.len
  go_enter Try.func158,Try.ntmps158
  go_wp2_with fail
  go_loopw [17] (fun i wr=>∃ (j:Nat),j ≤ n∧i=.int .i64 j∧Below w.heap.size w wr∧Hid (alikeL sameMk (L.drop j) (M.drop j)=alikeL sameMk L M)) (fun i _=>n - (intOf i).toNat)
  case atStart=>exact ⟨0,Nat.zero_le _,rfl,Below.refl _ _,rfl⟩
  case round =>
   obtain ⟨j,hj,rfl,hbr,HT⟩:=hrel
   have hws:=hbr.size
   by_cases hlt:j < n
   ·obtain ⟨b,o,a,rfl,hb,ha,A2,c2,A3,c3,k0,k1,k2,k3,k4,-⟩:=mk_at (h.below (hbr.mono hB)) hlt
    obtain ⟨b',o',a',rfl,hb',ha',A2',c2',A3',c3',k0',k1',k2',k3',k4',-⟩:=mk_at (h'.below (hbr.mono hB')) hlt
    have HS:=Lib.hid (HT.out.symm.trans (alike_at ha ha'))
    have x1:b < wr.heap.size:=by omega
    have x2:b' < wr.heap.size:=by omega
    clear ha ha'
    go_wp2_with fail
    refine (same1_any a a' _ _ _ _ _ _ _ _ wr.heap.size wr.heap.size _ (bkr_at k4 (by omega) (((Below.refl _ _).alloc (Nat.le_refl _) _).alloc (by simp) _)) (bkr_at k4' (by omega) (((Below.refl _ _).alloc (Nat.le_refl _) _).alloc (by simp) _)) (by simp;omega) (by simp;omega)).mono ?_
    rintro e w2 ⟨rfl,hb2⟩
    have hb3:Below w.heap.size w w2:=((hbr.alloc hws _).alloc (by simp;omega) _).trans (hb2.mono (by simp;omega))
    rcases bool_cs' (sameMk a a') with m1 | m1
    rotate_left
    ·have HE:=Lib.hid (show alikeL sameMk L M=false by rw [HS.out,m1];rfl)
     go_wp2_with fail
     go_ret
     exact ⟨ret_bb' (by rw [HE.out]),hb3⟩
    ·have HE:=Lib.hid (show alikeL sameMk (L.drop (j + 1)) (M.drop (j + 1))=alikeL sameMk L M by rw [HS.out,m1];rfl)
     clear hb2
     go_wp2_with fail
     go_roundw
     case rel=>exact ⟨j + 1,by omega,by go_num,hb3,HE⟩
     case measure=>simp [intOf];omega
   ·have hjn:j=n:=by omega
    have HE:=Lib.hid (show alikeL sameMk L M=true by
     have:=HT.out
     rw [hjn,List.drop_eq_nil_of_le (by have:=HL.out;omega),List.drop_eq_nil_of_le (by have:=HL'.out;omega)] at this
     rw [← this];rfl)
    clear hjn
    go_wp2_with fail
    go_ret
    exact ⟨ret_bb' (by rw [HE.out]),hbr⟩
 ·have HE:=Lib.hid (alike_len (f:=sameMk) (L:=L) (M:=M) (by rw [h.len,h'.len];exact hn))
  have hne:((n:Int) != (n':Int))=true:=by simp;omega
  go_enter Try.func158,Try.ntmps158
  go_wp2_with fail
  go_ret
  exact ⟨ret_bb' (by rw [HE.out]),Below.refl _ _⟩
set_option maxHeartbeats 2000000 in
theorem vsame_any (a b:Vn) (A M A' M':Option Addr) (c k c' k' B B':Nat) (w:World) (h:VnR w B A c M k a) (h':VnR w B' A' c' M' k' b) (hB:B ≤ w.heap.size) (hB':B' ≤ w.heap.size) :
  Calls Try.prog 115 #[.agg #[.slice A a.accs.length c,.slice M a.mks.length k,.int .i64 a.ins,.int .i64 a.resid,.int .i64 a.next,.int .i64 a.inn,.int .i64 a.out],.agg #[.slice A' b.accs.length c',.slice M' b.mks.length k',.int .i64 b.ins,.int .i64 b.resid,.int .i64 b.next,.int .i64 b.inn,.int .i64 b.out]] w fun e w'=>e=.returned (.bool (sameVn a b))∧Below w.heap.size w w':=by
 have HB1:Hid (∀ o o',Below w.heap.size w ((w.alloc o).alloc o')):=fun o o'=>((Below.refl _ _).alloc (Nat.le_refl _) _).alloc (by simp) _
 by_cases h1:a.ins=b.ins
 rotate_left
 ·skip
  have HE:=Lib.hid (show sameVn a b=false by simp [sameVn,h1])
  have e1:(a.ins == b.ins)=false:=by simpa using h1
  clear h h' h1
  go_enter Try.func115,Try.ntmps115
  go_wp2_with fail
  go_ret
  exact ⟨ret_bb' HE.out.symm,HB1.out _ _⟩
 have g1:(a.ins == b.ins)=true:=by simpa using h1
 have H1:=Lib.hid h1
 clear h1
 by_cases h1:a.resid=b.resid
 rotate_left
 ·skip
  have HE:=Lib.hid (show sameVn a b=false by simp [sameVn,h1])
  have e1:(a.resid == b.resid)=false:=by simpa using h1
  clear h h' h1
  go_enter Try.func115,Try.ntmps115
  go_wp2_with fail
  go_ret
  exact ⟨ret_bb' HE.out.symm,HB1.out _ _⟩
 have g2:(a.resid == b.resid)=true:=by simpa using h1
 have H2:=Lib.hid h1
 clear h1
 by_cases h1:a.next=b.next
 rotate_left
 ·skip
  have HE:=Lib.hid (show sameVn a b=false by simp [sameVn,h1])
  have e1:(a.next == b.next)=false:=by simpa using h1
  clear h h' h1
  go_enter Try.func115,Try.ntmps115
  go_wp2_with fail
  go_ret
  exact ⟨ret_bb' HE.out.symm,HB1.out _ _⟩
 have g3:(a.next == b.next)=true:=by simpa using h1
 have H3:=Lib.hid h1
 clear h1
 by_cases h1:a.inn=b.inn
 rotate_left
 ·skip
  have HE:=Lib.hid (show sameVn a b=false by simp [sameVn,h1])
  have e1:(a.inn == b.inn)=false:=by simpa using h1
  clear h h' h1
  go_enter Try.func115,Try.ntmps115
  go_wp2_with fail
  go_ret
  exact ⟨ret_bb' HE.out.symm,HB1.out _ _⟩
 have g4:(a.inn == b.inn)=true:=by simpa using h1
 have H4:=Lib.hid h1
 clear h1
 by_cases h1:a.out=b.out
 rotate_left
 ·skip
  have HE:=Lib.hid (show sameVn a b=false by simp [sameVn,h1])
  have e1:(a.out == b.out)=false:=by simpa using h1
  clear h h' h1
  go_enter Try.func115,Try.ntmps115
  go_wp2_with fail
  go_ret
  exact ⟨ret_bb' HE.out.symm,HB1.out _ _⟩
 have g5:(a.out == b.out)=true:=by simpa using h1
 have HE:=Lib.hid (show sameVn a b=(alikeL sameAc a.accs b.accs && alikeL sameMk a.mks b.mks) by simp [sameVn,H1.out,H2.out,H3.out,H4.out,h1])
 clear h1
 have H:=Lib.hid h
 have H':=Lib.hid h'
 clear h h'
 go_enter Try.func115,Try.ntmps115
 go_wp2_with fail
 refine (eqfunc_same A A' _ _ c c' a.accs b.accs B B' _ (H.out.accs.below ((HB1.out _ _).mono hB)) (H'.out.accs.below ((HB1.out _ _).mono hB')) (by simp;omega) (by simp;omega)).mono ?_
 rintro e w1 ⟨rfl,hb1⟩
 have hB1:=(HB1.out _ _).trans (hb1.mono (by simp;omega))
 have X1:=((Blk.new w 111 #[.slice A a.accs.length c,.slice M a.mks.length k,.int .i64 a.ins,.int .i64 a.resid,.int .i64 a.next,.int .i64 a.inn,.int .i64 a.out]).alloc (.cells #[.slice A' b.accs.length c',.slice M' b.mks.length k',.int .i64 b.ins,.int .i64 b.resid,.int .i64 b.next,.int .i64 b.inn,.int .i64 b.out] 111)).below hb1 (by simp;omega)
 have Y1:=(Blk.new_at (w.alloc (.cells #[.slice A a.accs.length c,.slice M a.mks.length k,.int .i64 a.ins,.int .i64 a.resid,.int .i64 a.next,.int .i64 a.inn,.int .i64 a.out] 111)) 111 #[.slice A' b.accs.length c',.slice M' b.mks.length k',.int .i64 b.ins,.int .i64 b.resid,.int .i64 b.next,.int .i64 b.inn,.int .i64 b.out] (w.heap.size + 1) (by simp)).below hb1 (by simp)
 have hs1:w.heap.size + 2 ≤ w1.heap.size:=by have:=hb1.size;simpa using this
 have x1:w1.cell? ⟨w.heap.size,1,none⟩=some (.slice M a.mks.length k):=X1.cell 1
 have y1:w1.cell? ⟨w.heap.size + 1,1,none⟩=some (.slice M' b.mks.length k'):=Y1.cell 1
 have z1:=X1.lt
 have z2:=Y1.lt
 clear hb1 X1 Y1
 rcases bool_cs' (alikeL sameAc a.accs b.accs) with m1 | m1
 rotate_left
 ·have HE2:=Lib.hid (show sameVn a b=false by rw [HE.out,m1];rfl)
  rw [m1]
  go_wp2_with fail
  go_ret
  exact ⟨ret_bb' HE2.out.symm,hB1⟩
 ·have HE2:=Lib.hid (show sameVn a b=alikeL sameMk a.mks b.mks by rw [HE.out,m1];rfl)
  rw [m1]
  go_wp2_with fail
  refine (eqfunc_mks M M' _ _ k k' a.mks b.mks B B' w1 (H.out.mks.below (hB1.mono hB)) (H'.out.mks.below (hB1.mono hB')) (by omega) (by omega)).mono ?_
  rintro e w2 ⟨rfl,hb2⟩
  go_wp2_with fail
  go_ret
  exact ⟨ret_bb' HE2.out.symm,hB1.trans (hb2.mono (by omega))⟩
end
section
open Go.RowKit
theorem vok_pos {v:Vn} (h:VOk v) {i j:Nat} {a:Ac} (ha:v.accs[i]?=some a) (hj:j < v.mks.length):∃ z,a.pos[j]?=some z∧-1000 ≤ z∧z ≤ 1000:=by
 obtain ⟨-,-,hl,-,hp⟩:=accCheck_ok (h.accs.ok a (List.mem_of_getElem? ha))
 have hz:=List.getElem?_eq_getElem (l:=a.pos) (i:=j) (by omega)
 refine ⟨_,hz,?_⟩
 unfold posOk at hp
 rw [List.all_eq_true] at hp
 have:=hp _ (List.mem_of_getElem? hz)
 unfold posOk1 at this
 simpa using this
theorem vok_bal {v:Vn} (h:VOk v) {i:Nat} {a:Ac} (ha:v.accs[i]?=some a):-1000000000000 ≤ a.bal∧a.bal ≤ 1000000000000:=(accCheck_ok (h.accs.ok a (List.mem_of_getElem? ha))).2.2.2.1
theorem vok_far {v:Vn} (h:VOk v) (j:Nat) (hj:j ≤ 8):(-8000000000000 ≤ balSum (v.accs.take j)∧balSum (v.accs.take j) ≤ 8000000000000)∧∀ k,-8000 ≤ posSum k (v.accs.take j)∧posSum k (v.accs.take j) ≤ 8000:=by
 have hl:(v.accs.take j).length ≤ 8:=by rw [List.length_take];omega
 have h1:=balSum_bd (L:=v.accs.take j) fun a ha=>(accCheck_ok (h.accs.ok a (List.mem_of_mem_take ha))).2.2.2.1
 refine ⟨by omega,fun k=>?_⟩
 have h2:=posSum_bd (L:=v.accs.take j) (k:=k) fun a ha n hn=>by
  have hp:=(accCheck_ok (h.accs.ok a (List.mem_of_mem_take ha))).2.2.2.2
  unfold posOk at hp
  rw [List.all_eq_true] at hp
  have:=hp n hn
  unfold posOk1 at this
  simpa using this
 omega
theorem vsame_ref {b:Bool} (x y:Vn) (A M A' M':Option Addr) (c k c' k' B B':Nat) (w:World) (hr:sameVn x y=b) (h:VnR w B A c M k x) (h':VnR w B' A' c' M' k' y) (hB:B ≤ w.heap.size) (hB':B' ≤ w.heap.size) :
  Calls Try.prog 115 #[.agg #[.slice A x.accs.length c,.slice M x.mks.length k,.int .i64 x.ins,.int .i64 x.resid,.int .i64 x.next,.int .i64 x.inn,.int .i64 x.out],.agg #[.slice A' y.accs.length c',.slice M' y.mks.length k',.int .i64 y.ins,.int .i64 y.resid,.int .i64 y.next,.int .i64 y.inn,.int .i64 y.out]] w fun e w'=>e=.returned (.bool b)∧Below w.heap.size w w':=by rw [← hr];exact vsame_any x y A M A' M' c k c' k' B B' w h h' hB hB'
theorem rejected_ref {b:Bool} (A:Option Addr) (n c:Nat) (L:List Ev) (B:Nat) (w:World) (hr:rejB L=b) (h:Rd w B 13 A n c (evCells L)) (hB:B ≤ w.heap.size) :
  Calls Try.prog 105 #[.slice A n c] w fun e w'=>e=.returned (.bool b)∧w=w':=by rw [← hr];exact rejected_any A n c L B w h hB
end
section
open Go.RowKit
def idxL {α:Type} (p:α→Bool) (L:List α):Int:=match L.findIdx? p with
 | some k=>(k:Int)
 | none=>-1
section
variable {α:Type} {p:α→Bool} {L:List α}
theorem idxL_found {j:Nat} {x:α} (hx:L[j]?=some x) (hp:p x=true) (hb:(L.take j).all (fun y=>!p y)=true):idxL p L=j:=by
 obtain ⟨h1,h2⟩:=List.getElem?_eq_some_iff.1 hx
 have:L.findIdx? p=some j:=by
  rw [List.findIdx?_eq_some_iff_getElem]
  refine ⟨h1,by rw [h2];exact hp,fun i hi=>?_⟩
  rw [List.all_eq_true] at hb
  have:=hb L[i] (List.mem_take_iff_getElem.2 ⟨i,by omega,rfl⟩)
  simpa using this
 unfold idxL;rw [this]
theorem idxL_none (hb:L.all (fun y=>!p y)=true):idxL p L = -1:=by
 have:L.findIdx? p=none:=by
  rw [List.findIdx?_eq_none_iff]
  rw [List.all_eq_true] at hb
  intro x hx
  have:=hb x hx
  simpa using this
 unfold idxL;rw [this]
theorem allL_next {j:Nat} {x:α} (hx:L[j]?=some x) (hp:p x=false) (hb:(L.take j).all (fun y=>!p y)=true):(L.take (j + 1)).all (fun y=>!p y)=true:=by
 rw [List.take_add_one,hx]
 simp only [Option.toList,List.all_append,hb,List.all_cons,List.all_nil,hp];rfl
theorem idxL_cases (p:α→Bool) (L:List α):idxL p L = -1∧L.any p=false∨∃ (k:Nat) (x:α),idxL p L=k∧L[k]?=some x∧p x=true∧L.any p=true:=by
 unfold idxL
 cases h:L.findIdx? p with
 | none =>
  rw [List.findIdx?_eq_none_iff] at h
  exact .inl ⟨rfl,by rw [List.any_eq_false];intro x hx;rw [h x hx];simp⟩
 | some k =>
  rw [List.findIdx?_eq_some_iff_getElem] at h
  obtain ⟨h1,h2,_⟩:=h
  exact .inr ⟨k,L[k],rfl,List.getElem?_eq_getElem h1,h2,by rw [List.any_eq_true];exact ⟨_,List.getElem_mem h1,h2⟩⟩
end
theorem below_all (w:World) (o:Obj):Below w.heap.size w (w.alloc o):=(Below.refl _ _).alloc (Nat.le_refl _) _
def hasAc (id:Int) (x:Ac):Bool:=x.id == id
def kind3 (x:Ev):Bool:=x.kind == 3
set_option maxHeartbeats 400000 in
theorem ready1_any (x:Ac) (A2:Option Addr) (n2 c2:Nat) (id:Int) (g:Nat) (w:World) (hg:g < w.heap.size) (h:w.cell? ⟨g,1,none⟩=some (.int .i64 id)) :
  Calls Try.prog 107 #[.agg #[.int .i64 x.id,.int .i64 x.bal,.slice A2 n2 c2],.pointer (some ⟨g,0,none⟩)] w fun e w'=>e=.returned (.bool (hasAc id x))∧Below w.heap.size w w':=by
 go_enter Try.func107,Try.ntmps107
 go_wp2_with fail
 go_ret
 exact ⟨rfl,below_all _ _⟩
set_option maxHeartbeats 400000 in
theorem ready2_any (x:Ac) (A2:Option Addr) (n2 c2:Nat) (id:Int) (g:Nat) (w:World) (hg:g < w.heap.size) (h:w.cell? ⟨g,1,none⟩=some (.int .i64 id)) :
  Calls Try.prog 108 #[.agg #[.int .i64 x.id,.int .i64 x.bal,.slice A2 n2 c2],.pointer (some ⟨g,0,none⟩)] w fun e w'=>e=.returned (.bool (hasAc id x))∧Below w.heap.size w w':=by
 go_enter Try.func108,Try.ntmps108
 go_wp2_with fail
 go_ret
 exact ⟨rfl,below_all _ _⟩
set_option maxHeartbeats 400000 in
theorem cash1_any (x:Ac) (A2:Option Addr) (n2 c2:Nat) (id:Int) (g:Nat) (w:World) (hg:g < w.heap.size) (h:w.cell? ⟨g,0,none⟩=some (.int .i64 id)) :
  Calls Try.prog 122 #[.agg #[.int .i64 x.id,.int .i64 x.bal,.slice A2 n2 c2],.pointer (some ⟨g,0,none⟩)] w fun e w'=>e=.returned (.bool (hasAc id x))∧Below w.heap.size w w':=by
 go_enter Try.func122,Try.ntmps122
 go_wp2_with fail
 go_ret
 exact ⟨rfl,below_all _ _⟩
set_option maxHeartbeats 1000000 in
theorem others2_any (x a:Ac) (A A2:Option Addr) (c c2:Nat) (g B:Nat) (w:World) (hg:g < w.heap.size) (h0:w.cell? ⟨g,0,none⟩=some (.int .i64 a.id)) (h1:w.cell? ⟨g,1,none⟩=some (.int .i64 a.bal)) (h2:w.cell? ⟨g,2,none⟩=some (.slice A a.pos.length c))
  (ha:Rd w B 1 A a.pos.length c (ints a.pos)) (hx:Rd w B 1 A2 x.pos.length c2 (ints x.pos)) (hB:B ≤ w.heap.size) :
  Calls Try.prog 113 #[.agg #[.int .i64 x.id,.int .i64 x.bal,.slice A2 x.pos.length c2],.pointer (some ⟨g,0,none⟩)] w fun e w'=>e=.returned (.bool (sameAc a x))∧Below w.heap.size w w':=by
 go_enter Try.func113,Try.ntmps113
 go_wp2_with fail
 refine (same_any a x A A2 c c2 B B _ (ha.below ((below_all w _).mono hB)) (hx.below ((below_all w _).mono hB)) (by simp;omega) (by simp;omega)).mono ?_
 rintro e w1 ⟨rfl,hb1⟩
 go_wp2_with fail
 go_ret
 exact ⟨rfl,(below_all _ _).trans (hb1.mono (by simp))⟩
set_option maxHeartbeats 400000 in
theorem others1_any (x:Ev) (w:World):Calls Try.prog 111 #[.agg #[.int .i64 x.kind,.int .i64 x.err,.int .i64 x.market,.int .i64 x.id,.int .i64 x.acc,.int .i64 x.n,.int .i64 x.f.maker,.int .i64 x.f.taker,.int .i64 x.f.macc,.int .i64 x.f.tacc,.int .i64 x.f.side,.int .i64 x.f.price,.int .i64 x.f.qty]] w fun e w'=>e=.returned (.bool (kind3 x))∧Below w.heap.size w w':=by
 go_enter Try.func111,Try.ntmps111
 go_wp2_with fail
 go_ret
 exact ⟨rfl,below_all _ _⟩
set_option maxRecDepth 100000 in
set_option maxHeartbeats 1000000 in
theorem idx_ready1 (id:Int) (g:Nat) (A:Option Addr) (n c:Nat) (L:List Ac) (B:Nat) (w:World) (h:RdL shAcc w B A n c L) (hB:B ≤ w.heap.size) (hg:g < w.heap.size) (hc:w.cell? ⟨g,1,none⟩=some (.int .i64 id)) :
  Calls Try.prog 106 #[.slice A n c,.func (.func 107) #[] #[.pointer (some ⟨g,0,none⟩)]] w fun e w'=>e=.returned (.int .i64 (idxL (hasAc id) L))∧Below w.heap.size w w':=by
 have hle:=h.le
 have hcap:=h.cap
 have HL:=Lib.hid (show L.length=n from h.len)
 unfold maxLen at hcap
 go_enter Try.func106,Try.ntmps106
 go_wp2_with fail
 go_loopw [8] (fun i wr=>∃ j:Nat,j ≤ n∧i=.int .i64 j∧Below w.heap.size w wr∧Hid ((L.take j).all (fun y=>!(hasAc id) y)=true)) (fun i _=>n - (intOf i).toNat)
 case atStart=>exact ⟨0,Nat.zero_le _,rfl,Below.refl _ _,rfl⟩
 case round =>
  obtain ⟨j,hj,rfl,hbr,HP⟩:=hrel
  have hws:=hbr.size
  by_cases hlt:j < n
  ·obtain ⟨b,o,x,rfl,hb,hx,A2,c2,k0,k1,k2,k3,k4⟩:=acc_at (h.below (hbr.mono hB)) hlt
   have x1:b < wr.heap.size:=by omega
   have HX:=Lib.hid hx
   clear hx
   clear k3
   go_wp2_with fail
   refine (ready1_any _ _ _ _ _ _ _ (by omega) ((hbr.cell (p:=⟨g,_,none⟩) hg).trans hc)).mono ?_
   rintro e w1 ⟨rfl,hb1⟩
   have hb2:=hbr.trans (hb1.mono hws)
   clear hb1
   rcases bool_cs' ((hasAc id) x) with hp | hp
   ·have HE:=Lib.hid (idxL_found (p:=hasAc id) HX.out hp HP.out)
    rw [hp]
    go_wp2_with fail
    go_ret
    exact ⟨ret_ii HE.out.symm,hb2⟩
   ·have HN:=Lib.hid (allL_next (p:=hasAc id) HX.out hp HP.out)
    rw [hp]
    go_wp2_with fail
    go_roundw
    case rel=>exact ⟨j + 1,by omega,by go_num,hb2,HN⟩
    case measure=>simp [intOf];omega
  ·have hjn:j=n:=by omega
   have HE:=Lib.hid (idxL_none (p:=hasAc id) (L:=L) (by have:=HP.out;rw [hjn,List.take_of_length_le (by rw [HL.out];exact Nat.le_refl _)] at this;exact this))
   clear hjn
   go_wp2_with fail
   go_ret
   exact ⟨ret_ii HE.out.symm,hbr⟩
set_option maxRecDepth 100000 in
set_option maxHeartbeats 1000000 in
theorem idx_ready2 (id:Int) (g:Nat) (A:Option Addr) (n c:Nat) (L:List Ac) (B:Nat) (w:World) (h:RdL shAcc w B A n c L) (hB:B ≤ w.heap.size) (hg:g < w.heap.size) (hc:w.cell? ⟨g,1,none⟩=some (.int .i64 id)) :
  Calls Try.prog 106 #[.slice A n c,.func (.func 108) #[] #[.pointer (some ⟨g,0,none⟩)]] w fun e w'=>e=.returned (.int .i64 (idxL (hasAc id) L))∧Below w.heap.size w w':=by
 have hle:=h.le
 have hcap:=h.cap
 have HL:=Lib.hid (show L.length=n from h.len)
 unfold maxLen at hcap
 go_enter Try.func106,Try.ntmps106
 go_wp2_with fail
 go_loopw [8] (fun i wr=>∃ j:Nat,j ≤ n∧i=.int .i64 j∧Below w.heap.size w wr∧Hid ((L.take j).all (fun y=>!(hasAc id) y)=true)) (fun i _=>n - (intOf i).toNat)
 case atStart=>exact ⟨0,Nat.zero_le _,rfl,Below.refl _ _,rfl⟩
 case round =>
  obtain ⟨j,hj,rfl,hbr,HP⟩:=hrel
  have hws:=hbr.size
  by_cases hlt:j < n
  ·obtain ⟨b,o,x,rfl,hb,hx,A2,c2,k0,k1,k2,k3,k4⟩:=acc_at (h.below (hbr.mono hB)) hlt
   have x1:b < wr.heap.size:=by omega
   have HX:=Lib.hid hx
   clear hx
   clear k3
   go_wp2_with fail
   refine (ready2_any _ _ _ _ _ _ _ (by omega) ((hbr.cell (p:=⟨g,_,none⟩) hg).trans hc)).mono ?_
   rintro e w1 ⟨rfl,hb1⟩
   have hb2:=hbr.trans (hb1.mono hws)
   clear hb1
   rcases bool_cs' ((hasAc id) x) with hp | hp
   ·have HE:=Lib.hid (idxL_found (p:=hasAc id) HX.out hp HP.out)
    rw [hp]
    go_wp2_with fail
    go_ret
    exact ⟨ret_ii HE.out.symm,hb2⟩
   ·have HN:=Lib.hid (allL_next (p:=hasAc id) HX.out hp HP.out)
    rw [hp]
    go_wp2_with fail
    go_roundw
    case rel=>exact ⟨j + 1,by omega,by go_num,hb2,HN⟩
    case measure=>simp [intOf];omega
  ·have hjn:j=n:=by omega
   have HE:=Lib.hid (idxL_none (p:=hasAc id) (L:=L) (by have:=HP.out;rw [hjn,List.take_of_length_le (by rw [HL.out];exact Nat.le_refl _)] at this;exact this))
   clear hjn
   go_wp2_with fail
   go_ret
   exact ⟨ret_ii HE.out.symm,hbr⟩
set_option maxRecDepth 100000 in
set_option maxHeartbeats 1000000 in
theorem idx_cash1 (id:Int) (g:Nat) (A:Option Addr) (n c:Nat) (L:List Ac) (B:Nat) (w:World) (h:RdL shAcc w B A n c L) (hB:B ≤ w.heap.size) (hg:g < w.heap.size) (hc:w.cell? ⟨g,0,none⟩=some (.int .i64 id)) :
  Calls Try.prog 106 #[.slice A n c,.func (.func 122) #[] #[.pointer (some ⟨g,0,none⟩)]] w fun e w'=>e=.returned (.int .i64 (idxL (hasAc id) L))∧Below w.heap.size w w':=by
 have hle:=h.le
 have hcap:=h.cap
 have HL:=Lib.hid (show L.length=n from h.len)
 unfold maxLen at hcap
 go_enter Try.func106,Try.ntmps106
 go_wp2_with fail
 go_loopw [8] (fun i wr=>∃ j:Nat,j ≤ n∧i=.int .i64 j∧Below w.heap.size w wr∧Hid ((L.take j).all (fun y=>!(hasAc id) y)=true)) (fun i _=>n - (intOf i).toNat)
 case atStart=>exact ⟨0,Nat.zero_le _,rfl,Below.refl _ _,rfl⟩
 case round =>
  obtain ⟨j,hj,rfl,hbr,HP⟩:=hrel
  have hws:=hbr.size
  by_cases hlt:j < n
  ·obtain ⟨b,o,x,rfl,hb,hx,A2,c2,k0,k1,k2,k3,k4⟩:=acc_at (h.below (hbr.mono hB)) hlt
   have x1:b < wr.heap.size:=by omega
   have HX:=Lib.hid hx
   clear hx
   clear k3
   go_wp2_with fail
   refine (cash1_any _ _ _ _ _ _ _ (by omega) ((hbr.cell (p:=⟨g,_,none⟩) hg).trans hc)).mono ?_
   rintro e w1 ⟨rfl,hb1⟩
   have hb2:=hbr.trans (hb1.mono hws)
   clear hb1
   rcases bool_cs' ((hasAc id) x) with hp | hp
   ·have HE:=Lib.hid (idxL_found (p:=hasAc id) HX.out hp HP.out)
    rw [hp]
    go_wp2_with fail
    go_ret
    exact ⟨ret_ii HE.out.symm,hb2⟩
   ·have HN:=Lib.hid (allL_next (p:=hasAc id) HX.out hp HP.out)
    rw [hp]
    go_wp2_with fail
    go_roundw
    case rel=>exact ⟨j + 1,by omega,by go_num,hb2,HN⟩
    case measure=>simp [intOf];omega
  ·have hjn:j=n:=by omega
   have HE:=Lib.hid (idxL_none (p:=hasAc id) (L:=L) (by have:=HP.out;rw [hjn,List.take_of_length_le (by rw [HL.out];exact Nat.le_refl _)] at this;exact this))
   clear hjn
   go_wp2_with fail
   go_ret
   exact ⟨ret_ii HE.out.symm,hbr⟩
set_option maxRecDepth 100000 in
set_option maxHeartbeats 1000000 in
theorem idx_others2 (a:Ac) (A0:Option Addr) (c0 g:Nat) (A:Option Addr) (n c:Nat) (L:List Ac) (B:Nat) (w:World) (h:RdL shAcc w B A n c L) (hB:B ≤ w.heap.size) (hg:g < w.heap.size) (hc:w.cell? ⟨g,0,none⟩=some (.int .i64 a.id)∧w.cell? ⟨g,1,none⟩=some (.int .i64 a.bal)∧w.cell? ⟨g,2,none⟩=some (.slice A0 a.pos.length c0)) (har:Rd w B 1 A0 a.pos.length c0 (ints a.pos)) :
  Calls Try.prog 106 #[.slice A n c,.func (.func 113) #[] #[.pointer (some ⟨g,0,none⟩)]] w fun e w'=>e=.returned (.int .i64 (idxL (sameAc a) L))∧Below w.heap.size w w':=by
 have hle:=h.le
 have hcap:=h.cap
 have HL:=Lib.hid (show L.length=n from h.len)
 unfold maxLen at hcap
 go_enter Try.func106,Try.ntmps106
 go_wp2_with fail
 go_loopw [8] (fun i wr=>∃ j:Nat,j ≤ n∧i=.int .i64 j∧Below w.heap.size w wr∧Hid ((L.take j).all (fun y=>!(sameAc a) y)=true)) (fun i _=>n - (intOf i).toNat)
 case atStart=>exact ⟨0,Nat.zero_le _,rfl,Below.refl _ _,rfl⟩
 case round =>
  obtain ⟨j,hj,rfl,hbr,HP⟩:=hrel
  have hws:=hbr.size
  by_cases hlt:j < n
  ·obtain ⟨b,o,x,rfl,hb,hx,A2,c2,k0,k1,k2,k3,k4⟩:=acc_at (h.below (hbr.mono hB)) hlt
   have x1:b < wr.heap.size:=by omega
   have HX:=Lib.hid hx
   clear hx
   have HK3:=Lib.hid k3;clear k3
   go_wp2_with fail
   refine (others2_any x a A0 A2 c0 c2 g B _ (by omega) ((hbr.cell (p:=⟨g,_,none⟩) hg).trans hc.1) ((hbr.cell (p:=⟨g,_,none⟩) hg).trans hc.2.1) ((hbr.cell (p:=⟨g,_,none⟩) hg).trans hc.2.2) (har.below (hbr.mono hB)) HK3.out (by omega)).mono ?_
   rintro e w1 ⟨rfl,hb1⟩
   have hb2:=hbr.trans (hb1.mono hws)
   clear hb1
   rcases bool_cs' ((sameAc a) x) with hp | hp
   ·have HE:=Lib.hid (idxL_found (p:=sameAc a) HX.out hp HP.out)
    rw [hp]
    go_wp2_with fail
    go_ret
    exact ⟨ret_ii HE.out.symm,hb2⟩
   ·have HN:=Lib.hid (allL_next (p:=sameAc a) HX.out hp HP.out)
    rw [hp]
    go_wp2_with fail
    go_roundw
    case rel=>exact ⟨j + 1,by omega,by go_num,hb2,HN⟩
    case measure=>simp [intOf];omega
  ·have hjn:j=n:=by omega
   have HE:=Lib.hid (idxL_none (p:=sameAc a) (L:=L) (by have:=HP.out;rw [hjn,List.take_of_length_le (by rw [HL.out];exact Nat.le_refl _)] at this;exact this))
   clear hjn
   go_wp2_with fail
   go_ret
   exact ⟨ret_ii HE.out.symm,hbr⟩
set_option maxHeartbeats 400000 in
theorem contains_others2 (a:Ac) (A0:Option Addr) (c0 g:Nat) (A:Option Addr) (n c:Nat) (L:List Ac) (B:Nat) (w:World) (h:RdL shAcc w B A n c L) (hB:B ≤ w.heap.size) (hg:g < w.heap.size) (hc:w.cell? ⟨g,0,none⟩=some (.int .i64 a.id)∧w.cell? ⟨g,1,none⟩=some (.int .i64 a.bal)∧w.cell? ⟨g,2,none⟩=some (.slice A0 a.pos.length c0)) (har:Rd w B 1 A0 a.pos.length c0 (ints a.pos)) :
  Calls Try.prog 112 #[.slice A n c,.func (.func 113) #[] #[.pointer (some ⟨g,0,none⟩)]] w fun e w'=>e=.returned (.bool (L.any (sameAc a)))∧Below w.heap.size w w':=by
 have HI:=Lib.hid (idxL_cases (sameAc a) L)
 go_enter Try.func112,Try.ntmps112
 go_wp2_with fail
 refine (idx_others2 a A0 c0 g A n c L B _ h hB hg hc har).mono ?_
 rintro e w1 ⟨rfl,hb1⟩
 rcases HI.out with ⟨h1,h2⟩ | ⟨k,x,h1,_,_,h2⟩
 ·have H2:=Lib.hid h2
  rw [h1]
  clear h1 h2
  go_wp2_with fail
  go_ret
  exact ⟨ret_bb H2.out.symm,hb1⟩
 ·have H2:=Lib.hid h2
  rw [h1]
  clear h1 h2
  go_wp2_with fail
  go_ret
  exact ⟨ret_bb H2.out.symm,hb1⟩
set_option maxRecDepth 100000 in
set_option maxHeartbeats 1000000 in
theorem idx_others1  (A:Option Addr) (n c:Nat) (L:List Ev) (B:Nat) (w:World) (h:Rd w B 13 A n c (evCells L)) (hB:B ≤ w.heap.size)  :
  Calls Try.prog 155 #[.slice A n c,.func (.func 111) #[] #[]] w fun e w'=>e=.returned (.int .i64 (idxL (kind3) L))∧Below w.heap.size w w':=by
 have hle:=h.le
 have hcap:=h.cap
 have HL:=Lib.hid (show L.length=n from (by have h1:=h.len;rw [evCells_len] at h1;omega))
 unfold maxLen at hcap
 go_enter Try.func155,Try.ntmps155
 go_wp2_with fail
 go_loopw [8] (fun i wr=>∃ j:Nat,j ≤ n∧i=.int .i64 j∧Below w.heap.size w wr∧Hid ((L.take j).all (fun y=>!(kind3) y)=true)) (fun i _=>n - (intOf i).toNat)
 case atStart=>exact ⟨0,Nat.zero_le _,rfl,Below.refl _ _,rfl⟩
 case round =>
  obtain ⟨j,hj,rfl,hbr,HP⟩:=hrel
  have hws:=hbr.size
  by_cases hlt:j < n
  ·obtain ⟨b,o,x,rfl,hb,hx,hce⟩:=ev_at (h.below (hbr.mono hB)) hlt
   have x1:b < wr.heap.size:=by omega
   have HX:=Lib.hid hx
   clear hx
   have v0:=hce 0 _ rfl;have v1:=hce 1 _ rfl;have v2:=hce 2 _ rfl;have v3:=hce 3 _ rfl;have v4:=hce 4 _ rfl;have v5:=hce 5 _ rfl;have v6:=hce 6 _ rfl;have v7:=hce 7 _ rfl;have v8:=hce 8 _ rfl;have v9:=hce 9 _ rfl;have v10:=hce 10 _ rfl;have v11:=hce 11 _ rfl;have v12:=hce 12 _ rfl;clear hce;rw [Nat.add_zero] at v0
   go_wp2_with fail
   refine (others1_any x _).mono ?_
   rintro e w1 ⟨rfl,hb1⟩
   have hb2:=hbr.trans (hb1.mono hws)
   clear hb1
   rcases bool_cs' ((kind3) x) with hp | hp
   ·have HE:=Lib.hid (idxL_found (p:=kind3) HX.out hp HP.out)
    rw [hp]
    go_wp2_with fail
    go_ret
    exact ⟨ret_ii HE.out.symm,hb2⟩
   ·have HN:=Lib.hid (allL_next (p:=kind3) HX.out hp HP.out)
    rw [hp]
    go_wp2_with fail
    go_roundw
    case rel=>exact ⟨j + 1,by omega,by go_num,hb2,HN⟩
    case measure=>simp [intOf];omega
  ·have hjn:j=n:=by omega
   have HE:=Lib.hid (idxL_none (p:=kind3) (L:=L) (by have:=HP.out;rw [hjn,List.take_of_length_le (by rw [HL.out];exact Nat.le_refl _)] at this;exact this))
   clear hjn
   go_wp2_with fail
   go_ret
   exact ⟨ret_ii HE.out.symm,hbr⟩
set_option maxHeartbeats 400000 in
theorem contains_others1  (A:Option Addr) (n c:Nat) (L:List Ev) (B:Nat) (w:World) (h:Rd w B 13 A n c (evCells L)) (hB:B ≤ w.heap.size)  :
  Calls Try.prog 110 #[.slice A n c,.func (.func 111) #[] #[]] w fun e w'=>e=.returned (.bool (L.any (kind3)))∧Below w.heap.size w w':=by
 have HI:=Lib.hid (idxL_cases (kind3) L)
 go_enter Try.func110,Try.ntmps110
 go_wp2_with fail
 refine (idx_others1  A n c L B _ h hB ).mono ?_
 rintro e w1 ⟨rfl,hb1⟩
 rcases HI.out with ⟨h1,h2⟩ | ⟨k,x,h1,_,_,h2⟩
 ·have H2:=Lib.hid h2
  rw [h1]
  clear h1 h2
  go_wp2_with fail
  go_ret
  exact ⟨ret_bb H2.out.symm,hb1⟩
 ·have H2:=Lib.hid h2
  rw [h1]
  clear h1 h2
  go_wp2_with fail
  go_ret
  exact ⟨ret_bb H2.out.symm,hb1⟩
end
section
open Go.RowKit
set_option maxHeartbeats 400000 in
theorem atk_any (k n:Int) (w:World) (h1:1 ≤ n) (h2:n ≤ 9223372036854775807) :
  Calls Try.prog 35 #[.int .i64 k,.int .i64 n] w fun e w'=>e=.returned (.int .i64 (k % n))∧w=w':=by
 have HA:=Lib.hid (at_of k n h1)
 have h3:=Int.emod_nonneg k (show n ≠ 0 by omega)
 have h4:=Int.emod_lt_of_pos k (show 0 < n by omega)
 by_cases h0:0 ≤ k
 ·go_enter Try.func35,Try.ntmps35
  go_wp2_with fail
  go_ret
  exact ⟨rfl,rfl⟩
 ·have h5:-n < k.tmod n∧k.tmod n ≤ 0:=by
   rw [tmod_of,if_neg h0]
   have h3:=Int.emod_nonneg (-k) (show n ≠ 0 by omega)
   have h4:=Int.emod_lt_of_pos (-k) (show 0 < n by omega)
   omega
  obtain ⟨h6,h7⟩:=h5
  by_cases h8:k.tmod n < 0
  ·have HE:=Lib.hid (show k % n=k.tmod n + n by rw [HA.out,if_neg h0,if_pos h8])
   go_enter Try.func35,Try.ntmps35
   go_wp2_with fail
   go_ret
   exact ⟨ret_ii HE.out.symm,rfl⟩
  ·have HE:=Lib.hid (show k % n=k.tmod n by rw [HA.out,if_neg h0,if_neg h8])
   go_enter Try.func35,Try.ntmps35
   go_wp2_with fail
   go_ret
   exact ⟨ret_ii HE.out.symm,rfl⟩
end
section
theorem worth_mk {q p:Int} (h1:-1000 ≤ q∧q ≤ 1000) (h2:0 ≤ p∧p ≤ 10000):worthOf q p=(q * p,0):=by
 unfold worthOf;rw [if_pos (worthOk_iff.2 (by omega))]
theorem worths_mk:∀ {l marks:List Int},(∀ n ∈ l,-1000 ≤ n∧n ≤ 1000)→(∀ k ∈ marks,0 ≤ k∧k ≤ 10000)→(worths l marks).2=0
 | [],_,_,_=>by simp [worths]
 | n :: l,[],_,_=>by simp [worths]
 | n :: l,k :: marks,hl,hm=>by
  have ih:=worths_mk (l:=l) (marks:=marks) (fun x hx=>hl x (by simp [hx])) (fun x hx=>hm x (by simp [hx]))
  unfold worths
  rw [worth_mk (hl n (by simp)) (hm k (by simp))]
  simp only
  rw [if_neg (by simp),if_neg (by omega)]
theorem marginsFrom_mk:∀ {l marks:List Int} {x y:Int},(∀ n ∈ l,-1000 ≤ n∧n ≤ 1000)→(∀ k ∈ marks,0 ≤ k∧k ≤ 10000)→(marginsFrom x y l marks).2.2=0
 | [],_,x,y,_,_=>by simp [marginsFrom]
 | n :: l,[],x,y,_,_=>by simp [marginsFrom]
 | n :: l,k :: marks,x,y,hl,hm=>by
  have hn:=hl n (by simp)
  have hw:=worth_mk (q:=max n (-n)) (p:=k) (by omega) (hm k (by simp))
  unfold marginsFrom
  rw [if_neg (by rw [hw];simp)]
  exact marginsFrom_mk (fun x hx=>hl x (by simp [hx])) (fun x hx=>hm x (by simp [hx]))
theorem posOk_mem {l:List Int} (h:posOk l=true):∀ n ∈ l,-1000 ≤ n∧n ≤ 1000:=by
 simp only [posOk,List.all_eq_true] at h
 exact fun n hn=>posOk1_iff.1 (h n hn)
theorem sound_errs {a:Ac} {marks:List Int} (h0:accCheck a.id a.bal a.pos marks.length=0) (hm:∀ k ∈ marks,0 ≤ k∧k ≤ 10000):(soundOf a marks).2.2=0∨(soundOf a marks).2.2=7:=by
 have hp:=posOk_mem (accCheck_ok h0).2.2.2.2
 have h1:(marginsOf a marks).2.2=0:=by unfold marginsOf;rw [if_neg (by omega)];exact marginsFrom_mk hp hm
 unfold soundOf
 rw [if_neg (by omega)]
 rcases equity_errs h0 (worths_mk hp hm) with h | h
 ·rw [if_neg (by omega)];exact .inl rfl
 ·rw [if_pos (by omega)];exact .inr h
theorem mark_bd {m:Mk} (h:marketErr m=0):1 ≤ markP m∧markP m ≤ 10000:=by
 obtain ⟨hb,hi,hl⟩:=marketErr_ok.1 h
 have hmid:1 ≤ midPrice m∧midPrice m ≤ 10000:=by
  unfold midPrice
  split
  ·rename_i x l y k e1 e2
   have h1:=(ordErr_ok.1 (hb.bids.ok x (by rw [e1];simp))).2.2.2.1
   have h2:=(ordErr_ok.1 (hb.asks.ok y (by rw [e2];simp))).2.2.2.1
   omega
  ·exact hi
 have hlast:1 ≤ lastPrice m∧lastPrice m ≤ 10000:=by
  unfold lastPrice;split <;> omega
 unfold markP midI
 omega
theorem marks_bd {v:Vn} (h:VOk v):∀ k ∈ v.mks.map markP,0 ≤ k∧k ≤ 10000:=by
 intro k hk
 obtain ⟨m,hm,rfl⟩:=List.mem_map.1 hk
 have:=mark_bd (h.mks m hm).1
 omega
theorem begin_errs {v:Vn} {a:Ac} (h:VOk v) (h0:accCheck a.id a.bal a.pos v.mks.length=0):beginErr v a=0∨beginErr v a=7∨beginErr v a=8:=by
 unfold beginErr
 rw [marks_ok h]
 simp only
 rw [if_neg (by simp)]
 have:=sound_errs (a:=a) (marks:=v.mks.map markP) (by rw [List.length_map];exact h0) (marks_bd h)
 split
 ·exact .inr (.inr rfl)
 ·rename_i h2;omega
theorem cash_rej2 {v:Vn} {c:Cm} {e:Int} (hv:VOk v) (hk:c.kind=2) (hn:1 ≤ c.n∧c.n ≤ 1000000000000) (ha:0 ≤ c.acc∧c.acc ≤ 7) (ht:thereB v.accs c.acc=true) (hb:isMoney (balOf v.accs c.acc - c.n)=true) (h:doesE c ⟨v,[]⟩=.error e):e=7∨e=8:=by
 unfold doesE cashE at h
 rw [if_pos (.inr hk),if_neg (by omega),if_neg (by omega),if_neg (by omega),if_neg (by simp only;rw [ht];simp)] at h
 have hnum:=hv.nums
 have hmn:isMoney c.n=true:=isMoney_iff.2 (by omega)
 have hmi:isMoney v.out=true:=isMoney_iff.2 (by have:=hnum.out;omega)
 rcases add2_errs v.out c.n hmi hmn with ⟨_,e1,e2⟩ | ⟨e1,_⟩
 ·simp only at h
  rw [e1] at h
  rcases okIf_err h with ⟨g,_⟩ | ⟨_,h⟩
  ·exact absurd rfl g
  obtain ⟨a,ha1,ha2⟩:=place_there hv.accs.sorted ht
  have hbal:balOf v.accs c.acc=a.bal:=by unfold balOf;rw [← ha2,accOf_at hv.accs.sorted ha1]
  rw [hbal] at hb
  have hma:=money_bal hv.accs (List.mem_of_getElem? ha1)
  have hmm:isMoney (-c.n)=true:=isMoney_iff.2 (by omega)
  have hbn:isMoney (a.bal + -c.n)=true:=by rw [show a.bal + -c.n=a.bal - c.n by omega];exact hb
  cases hmv:moveE (placeOf v.accs c.acc) (-c.n) ⟨{ v with out:=v.out + c.n },[]⟩ with
  | error e' =>
   exfalso
   unfold moveE at hmv
   rw [show accAt ({ v with out:=v.out + c.n }:Vn) (placeOf v.accs c.acc)=a from getD_some ha1] at hmv
   rcases add2_errs a.bal (-c.n) hma hmm with ⟨g1,_⟩ | ⟨_,g1⟩
   ·rcases okIf_err hmv with ⟨g,_⟩ | ⟨_,g⟩
    ·exact g g1
    ·cases g
   ·rw [hbn] at g1;cases g1
  | ok d1 =>
   rw [hmv] at h
   obtain ⟨_,m2,rfl⟩:=move_ok (d:=⟨{ v with out:=v.out + c.n },[]⟩) ha1 hmv
   simp only [bindE] at h
   rcases okIf_err h with ⟨g,h⟩ | ⟨_,h⟩
   ·have hv':VOk (setAcc { v with out:=v.out + c.n } (placeOf v.accs c.acc) { a with bal:=a.bal + -c.n }):=by
     have hmo:=hv.money
     have:=isMoney_iff.1 e2
     exact move_vok (v:={ v with out:=v.out + c.n }) (n:=-c.n) hv.len hv.accs ⟨hnum.ins,hnum.resid,hnum.next,hnum.inn,by simp only;have:=hnum.out;omega⟩ (by simp only;omega) hv.pos hv.mks ha1 m2
    have hck:accCheck a.id (a.bal + -c.n) a.pos v.mks.length=0:=by
     have hc:=accCheck_ok (hv.accs.ok a (List.mem_of_getElem? ha1))
     exact accCheck_mk hc.1 hc.2.1 hc.2.2.1 (isMoney_iff.1 hbn) hc.2.2.2.2
    have hat:accAt (setAcc { v with out:=v.out + c.n } (placeOf v.accs c.acc) { a with bal:=a.bal + -c.n }) (placeOf v.accs c.acc) = { a with bal:=a.bal + -c.n }:=by
     refine getD_some ?_
     show (v.accs.set _ _)[_]?=_
     rw [set_at ha1,if_pos rfl]
    have hbe:=begin_errs (a:={ a with bal:=a.bal + -c.n }) hv' hck
    have hg:beginErr (setAcc { v with out:=v.out + c.n } (placeOf v.accs c.acc) { a with bal:=a.bal + -c.n }) (accAt (setAcc { v with out:=v.out + c.n } (placeOf v.accs c.acc) { a with bal:=a.bal + -c.n }) (placeOf v.accs c.acc)) ≠ 0:=g
    have hh:e=beginErr (setAcc { v with out:=v.out + c.n } (placeOf v.accs c.acc) { a with bal:=a.bal + -c.n }) (accAt (setAcc { v with out:=v.out + c.n } (placeOf v.accs c.acc) { a with bal:=a.bal + -c.n }) (placeOf v.accs c.acc)):=h
    rw [hat] at hg hh
    omega
   ·cases h
 ·rcases okIf_err h with ⟨g,h⟩ | ⟨g,_⟩
  ·left;rw [h];exact e1
  ·simp only at g;omega
def depCm (who n:Int):Cm:=⟨1,who,0,n,zeroOd,0,false⟩
def wdCm (who n:Int):Cm:=⟨2,who,0,n,zeroOd,0,false⟩
theorem pos_zero {l:List Int} {m:Nat} (h:l.length=m) (h0:∀ k,l.getD k 0=0):l=List.replicate m 0:=by
 apply List.ext_getElem (by simpa using h)
 intro k h1 h2
 have:=h0 k
 rw [List.getD,List.getElem?_eq_getElem h1] at this
 simp only [List.getElem_replicate]
 exact this
theorem cash_law {v w:Vn} {who n:Int} {ev:List Ev} (h:doOf v (depCm who n)=(w,ev,0)) :
  (rejB ev=true→∃ e,ev = [rejEv e]∧(e=3∨e=5∨e=7)) ∧
  (rejB ev=false→∃ x ev2,doOf w (wdCm who n)=(x,ev2,0)∧(rejB ev2=true→x=w∧∃ e,ev2 = [rejEv e]∧(e=8∨e=7)) ∧
   (rejB ev2=false→(∀ a ∈ x.accs,(thereB v.accs a.id=true→a ∈ v.accs)∧(thereB v.accs a.id=false→a.bal=0∧a.pos=List.replicate a.pos.length 0))∧x.inn=v.inn + n∧x.out=v.out + n∧x.ins=v.ins∧x.resid=v.resid∧VOk v∧VOk x)):=by
 constructor
 ·intro hr
  obtain ⟨hv,_,e,he,hev⟩:=do_rej h hr
  exact ⟨e,hev,cash_rej hv rfl he⟩
 ·intro hr
  obtain ⟨hv,hc⟩:=do_done h hr
  unfold doesE at hc
  rw [if_pos (.inl rfl)] at hc
  obtain ⟨m,s,hmks,hins,hres,hnx,hn,hac,h1,_⟩:=cash_step (place:=true) (d:=⟨v,[]⟩) hv hc
  obtain ⟨hm,hin,hou⟩:=h1 rfl
  have hm:m=n:=hm
  rw [hm] at s
  clear h1 hm
  have hw:=s.ok
  simp only at hw hmks hins hres hnx hin hou
  have hn':1 ≤ n∧n ≤ 1000000000000:=hn
  have hac':0 ≤ who∧who ≤ 7:=hac
  have htw:thereB w.accs who=true:=by
   rw [← Bool.not_eq_false]
   intro hf
   have hbal:=s.bal who
   simp only [moneySum,List.map_cons,List.map_nil,List.sum_cons,List.sum_nil,evMoney_moved] at hbal
   rw [if_pos (show who=(depCm who n).acc from rfl)] at hbal
   have z1:balOf w.accs who=0:=by unfold balOf;rw [accOf_none hf];rfl
   have hfv:thereB v.accs who=false:=by
    rw [← Bool.not_eq_true];intro ht;rw [s.there _ ht] at hf;cases hf
   have z2:balOf v.accs who=0:=by unfold balOf;rw [accOf_none hfv];rfl
   rw [z1,z2] at hbal
   have:(depCm who n).n=n:=rfl
   omega
  have hbw:∀ id,balOf w.accs id=balOf v.accs id + if id=who then n else 0:=by
   intro id
   have hbal:=s.bal id
   simp only [moneySum,List.map_cons,List.map_nil,List.sum_cons,List.sum_nil,evMoney_moved] at hbal
   rw [hbal]
   show _ + ((if id=who then n else 0) + 0)=_
   omega
  have hpw:∀ k id,posOf w.accs k id=posOf v.accs k id:=by
   intro k id
   have hpos:=s.pos k id
   simp only [posSumE,List.map_cons,List.map_nil,List.sum_cons,List.sum_nil,evPos_moved] at hpos
   rw [hpos];simp
  have hbv:isMoney (balOf v.accs who)=true:=by
   cases ht:thereB v.accs who with
   | false=>unfold balOf;rw [accOf_none ht];rfl
   | true =>
    obtain ⟨a,ha1,ha2⟩:=place_there hv.accs.sorted ht
    unfold balOf;rw [← ha2,accOf_at hv.accs.sorted ha1]
    exact money_bal hv.accs (List.mem_of_getElem? ha1)
  obtain ⟨x,ev2,e,hd⟩:∃ x ev2 e,doOf w (wdCm who n)=(x,ev2,e):=⟨_,_,_,rfl⟩
  have he:e=0:=by
   have:=hd
   unfold doOf at this
   rw [if_neg (by rw [venueErr_ok.2 hw];simp)] at this
   split at this
   ·injection this with _ t;injection t with _ t;exact t.symm
   ·injection this with _ t;injection t with _ t;exact t.symm
  subst he
  refine ⟨x,ev2,hd,fun hr2=>?_,fun hr2=>?_⟩
  ·obtain ⟨_,rfl,e,he,hev⟩:=do_rej hd hr2
   have:=cash_rej2 (c:=wdCm who n) hw rfl hn' hac' htw (by
    show isMoney (balOf x.accs who - n)=true
    rw [hbw,if_pos rfl,show balOf v.accs who + n - n=balOf v.accs who by omega];exact hbv) he
   exact ⟨rfl,e,hev,by omega⟩
  ·obtain ⟨_,hc2⟩:=do_done hd hr2
   unfold doesE at hc2
   rw [if_pos (.inr rfl)] at hc2
   obtain ⟨m2,s2,hmks2,hins2,hres2,hnx2,_,_,_,h2⟩:=cash_step (place:=true) (d:=⟨w,[]⟩) hw hc2
   obtain ⟨rfl,hin2,hou2,_,_⟩:=h2 (by show (2:Int) ≠ 1;decide)
   have hx:=s2.ok
   simp only at hx hmks2 hins2 hres2 hnx2 hin2 hou2
   have hbx:∀ id,balOf x.accs id=balOf v.accs id:=by
    intro id
    have hbal:=s2.bal id
    simp only [moneySum,List.map_cons,List.map_nil,List.sum_cons,List.sum_nil,evMoney_moved] at hbal
    rw [hbal,hbw]
    show balOf v.accs id + (if id=who then n else 0) + ((if id=who then -n else 0) + 0)=balOf v.accs id
    split <;> omega
   have hpx:∀ k id,posOf x.accs k id=posOf v.accs k id:=by
    intro k id
    have hpos:=s2.pos k id
    simp only [posSumE,List.map_cons,List.map_nil,List.sum_cons,List.sum_nil,evPos_moved] at hpos
    rw [hpos];simp only [hpw];omega
   have hlen:x.mks.length=v.mks.length:=by rw [hmks2,hmks]
   have hxa:AOk v.mks.length x.accs:=by have:=hx.accs;rw [hlen] at this;exact this
   refine ⟨fun a ha=>⟨fun ht=>acc_mem hxa hv.accs ha ht (hbx _).symm (fun k=>(hpx k _).symm),fun ht=>?_⟩,?_,?_,by rw [hins2,hins],by rw [hres2,hres],hv,hx⟩
   ·obtain ⟨i,hi⟩:=List.mem_iff_getElem?.1 ha
    have e1:accOf x.accs a.id=a:=accOf_at hxa.sorted hi
    have b1:=hbx a.id
    unfold balOf at b1
    rw [e1,accOf_none ht] at b1
    refine ⟨b1,pos_zero rfl fun k=>?_⟩
    have p1:=hpx k a.id
    rw [posOf_def,posOf_def,e1,accOf_none ht] at p1
    rw [p1];rfl
   ·rw [hin2,hin];rfl
   ·rw [hou2,hou];rfl
end
section
theorem takeL_nil {o:Od}:∀ {M:List Od} {left:Int} {L:List Od} {rem:Int} {met:Bool},takeL o left M=(L,[],rem,met)→L=M∧rem=left
 | [],left,L,rem,met,h=>by simp only [takeL] at h;injection h with e1 e;injection e with _ e;injection e with e2 _;exact ⟨e1.symm,e2.symm⟩
 | x :: M,left,L,rem,met,h=>by
  unfold takeL at h
  split at h
  ·injection h with e1 e;injection e with _ e;injection e with e2 _;exact ⟨e1.symm,e2.symm⟩
  split at h
  ·injection h with e1 e;injection e with _ e;injection e with e2 _;exact ⟨e1.symm,e2.symm⟩
  split at h
  ·injection h with e1 e;injection e with _ e;injection e with e2 _;exact ⟨e1.symm,e2.symm⟩
  split at h
  ·injection h with _ e;injection e with e _;cases e
  ·injection h with _ e;injection e with e _;cases e
theorem setOther_self (b:Bk) (s:Int):setOther b s (otherOf b s)=b:=by
 unfold setOther otherOf
 by_cases h:s=1
 ·simp [h]
 ·simp [h]
theorem mks_ext {K M:List Mk} (hl:K.length=M.length) (h:∀ j,j < M.length→K.getD j zeroMk=M.getD j zeroMk):K=M:=by
 apply List.ext_getElem hl
 intro j h1 h2
 have:=h j h2
 rw [List.getD,List.getD,List.getElem?_eq_getElem h1,List.getElem?_eq_getElem h2] at this
 exact this
theorem find_lt {b:Bk} {id:Int} (hb:BookOk b) (h:∀ z ∈ b.bids ++ b.asks,z.id < id):(removeOf b id).2.2=5:=by
 have hf:findOf b id=(zeroOd,5):=by
  unfold findOf
  rw [if_neg (by rw [bookErr_ok.2 hb];simp)]
  cases hc:findO (b.bids ++ b.asks) id with
  | none=>rfl
  | some z=>obtain ⟨k1,k2⟩:=findO_some hc;have:=h z k1;omega
 unfold removeOf
 rw [hf];simp
theorem cancel_none {c:Cm} {d:Dk}:∀ {M:List Mk} {i:Nat},(∀ m ∈ M,¬ ((removeOf m.book c.n).2.2=0∧(removeOf m.book c.n).2.1.acc=c.acc))→cancelE c d i M=.error 5
 | [],i,_=>rfl
 | m :: M,i,h=>by
  unfold cancelE
  rw [if_neg (h m (by simp))]
  exact cancel_none fun x hx=>h x (by simp [hx])
theorem cancel_some {c:Cm} {d:Dk} {m:Mk} {x:Bk} {o:Od}:∀ {M:List Mk} {i j:Nat},M[j]?=some m→(∀ k m',k < j→M[k]?=some m'→¬ ((removeOf m'.book c.n).2.2=0∧(removeOf m'.book c.n).2.1.acc=c.acc))→removeOf m.book c.n=(x,o,0)→o.acc=c.acc →
  cancelE c d i M=.ok (tell ⟨setMk d.v (i + j) { m with book:=x },d.ev⟩ ⟨4,0,((i + j:Nat):Int),o.id,o.acc,o.qty,zeroFl⟩)
 | [],i,j,h,_,_,_=>by simp at h
 | m' :: M,i,0,h,_,hr,ha=>by
  simp at h;subst h
  unfold cancelE
  rw [if_pos (by rw [hr];exact ⟨rfl,ha⟩),hr];rfl
 | m' :: M,i,j + 1,h,hn,hr,ha=>by
  unfold cancelE
  rw [if_neg (hn 0 m' (by omega) rfl),cancel_some (M:=M) (i:=i + 1) (j:=j) (by simpa using h) (fun k m2 hk hm=>hn (k + 1) m2 (by omega) (by simpa using hm)) hr ha]
  rw [show i + 1 + j=i + (j + 1) by omega]
def canCm (who n:Int):Cm:=⟨4,who,0,n,zeroOd,0,false⟩
theorem cancels_law {v w:Vn} {c:Cm} {ev:List Ev} (hk:c.kind=3) (hw:c.how=4) (h:doOf v c=(w,ev,0)) (hr:rejB ev=false) :
  ev.length=1∧VOk w∧VOk v∧(∀ other,other ≠ c.acc→∃ e,doOf w (canCm other v.next)=(w,[rejEv e],0)) ∧
   ∃ g,doOf w (canCm c.acc v.next)=({ v with next:=v.next + 1 },[g],0)∧g.kind=4∧g.id=v.next∧g.n=c.o.qty:=by
 obtain ⟨hv,hc⟩:=do_done h hr
 unfold doesE at hc
 rw [if_neg (by omega),if_pos hk] at hc
 obtain ⟨b,l,left,hcm,hst,hmk,hth,hoe,s,hn,hrd⟩:=order_ok (d:=⟨v,[]⟩) hv hc
 simp only at hcm hth hoe s hn hrd hmk
 have hred:c.reduce=false:=by
  rw [← Bool.not_eq_true];intro hre
  have:=(hrd hre).1;omega
 have hmkn:c.market.toNat < v.mks.length:=by omega
 have hO:orderO c v = { c.o with id:=v.next,acc:=c.acc }:=by unfold orderO;rw [hred];rfl
 have hcome:=hcm.come
 rw [show mkAt (orderD c ⟨v,[]⟩).v c.market.toNat=mkAt v c.market.toNat from rfl,hO,hw] at hcome
 have hbk:=(marketErr_ok.1 (mkAt_ok hv hmkn).1).1
 obtain ⟨_,ho,_,_,L,rem,ht,hl4,_,hcc⟩:=come_ok hcome
 obtain rfl:=hl4 rfl
 obtain ⟨eL,eR⟩:=takeL_nil ht
 rw [eL,setOther_self] at hcc
 have hq:=(ordErr_ok.1 ho).2.2.2.2
 have hrest:restOf (mkAt v c.market.toNat).book { c.o with id:=v.next,acc:=c.acc }=(b,0)∧left=0:=by
  rcases hcc with ⟨h5,_,_⟩ | ⟨_,_,_,h6,h7⟩
  ·rcases h5 with h5 | h5
   ·simp only at eR hq;omega
   ·omega
  ·rw [eR] at h7;exact ⟨h7,h6⟩
 obtain ⟨hrest,hleft⟩:=hrest
 obtain ⟨b1,b2,_⟩:=back1 hrest
 simp only at b2
 have hev:=s.ev
 simp only [List.nil_append] at hev
 have hev1:ev = [⟨2,0,c.market.toNat,v.next,c.acc,0,zeroFl⟩]:=by
  rw [hev,hleft];simp [fillEvs,leftEv]
 obtain ⟨n1,n2,n3⟩:=hcm.none rfl
 obtain ⟨k1,k2,k3,k4⟩:=hcm.nums
 obtain ⟨m1,m2,m3⟩:=hcm.book
 have hwv:=s.ok
 have hlen:=s.len
 simp only at hwv hlen
 have hat:mkAt w c.market.toNat = { mkAt v c.market.toNat with book:=b }:=by
  have e1:(mkAt w c.market.toNat).book=b:=m1
  have e2:(mkAt w c.market.toNat).index=(mkAt v c.market.toNat).index:=m2
  have e3:(mkAt w c.market.toNat).last=(mkAt v c.market.toNat).last:=n3
  cases hm:mkAt w c.market.toNat with
  | mk x y z=>rw [hm] at e1 e2 e3;simp only at e1 e2 e3;rw [e1,e2,e3]
 have hoth:∀ j,j ≠ c.market.toNat→mkAt w j=mkAt v j:=fun j hj=>m3 j hj
 have hfail:∀ j,j < v.mks.length→j ≠ c.market.toNat→(removeOf (mkAt w j).book v.next).2.2=5:=by
  intro j hj hne
  rw [hoth j hne]
  exact find_lt (marketErr_ok.1 (mkAt_ok hv hj).1).1 (next_lt hv hj)
 have hmem:∀ j m,w.mks[j]?=some m→j < v.mks.length∧mkAt w j=m:=by
  intro j m hm
  exact ⟨by have:=(List.getElem?_eq_some_iff.1 hm).1;omega,getD_some hm⟩
 refine ⟨by rw [hev1];rfl,hwv,hv,fun other hother=>?_,?_⟩
 ·have hce:doesE (canCm other v.next) ⟨w,[]⟩=.error 5:=by
   unfold doesE
   rw [if_neg (by simp [canCm]),if_neg (by simp [canCm]),if_pos (by rfl)]
   refine cancel_none fun m hm=>?_
   obtain ⟨j,hj⟩:=List.mem_iff_getElem?.1 hm
   obtain ⟨hj1,hj2⟩:=hmem j m hj
   rintro ⟨h1,h2⟩
   by_cases hjm:j=c.market.toNat
   ·subst hjm
    rw [← hj2,hat] at h2
    have h2':(removeOf b v.next).2.1.acc=other:=h2
    rw [b2] at h2'
    exact hother h2'.symm
   ·have:=hfail j hj1 hjm
    rw [← hj2] at h1
    have h1':(removeOf (mkAt w j).book v.next).2.2=0:=h1
    omega
  refine ⟨5,?_⟩
  unfold doOf
  rw [if_neg (by rw [venueErr_ok.2 hwv];simp),hce]
 ·have hat2:w.mks[c.market.toNat]?=some { mkAt v c.market.toNat with book:=b }:=by
   rw [← hat];exact mkAt_some (by omega)
  have hce:doesE (canCm c.acc v.next) ⟨w,[]⟩=.ok (tell ⟨setMk w (0 + c.market.toNat) { mkAt v c.market.toNat with book:=(mkAt v c.market.toNat).book },[]⟩ ⟨4,0,((0 + c.market.toNat:Nat):Int),v.next,c.acc,c.o.qty,zeroFl⟩):=by
   unfold doesE
   rw [if_neg (by simp [canCm]),if_neg (by simp [canCm]),if_pos (by rfl)]
   refine cancel_some (c:=canCm c.acc v.next) (d:=⟨w,[]⟩) (m:={ mkAt v c.market.toNat with book:=b }) (x:=(mkAt v c.market.toNat).book) (o:={ c.o with id:=v.next,acc:=c.acc }) hat2 (fun k m' hk' hm'=>?_) b2 rfl
   obtain ⟨hj1,hj2⟩:=hmem k m' hm'
   rintro ⟨h1,_⟩
   have:=hfail k hj1 (by omega)
   rw [← hj2] at h1
   have h1':(removeOf (mkAt w k).book v.next).2.2=0:=h1
   omega
  refine ⟨⟨4,0,((c.market.toNat:Nat):Int),v.next,c.acc,c.o.qty,zeroFl⟩,?_,rfl,rfl,rfl⟩
  unfold doOf
  rw [if_neg (by rw [venueErr_ok.2 hwv];simp),hce]
  simp only [tell,List.nil_append,Nat.zero_add]
  have hmks:w.mks.set c.market.toNat { mkAt v c.market.toNat with book:=(mkAt v c.market.toNat).book }=v.mks:=by
   refine mks_ext (by rw [List.length_set];exact hlen) fun j hj=>?_
   have e:=setMk_at (v:=w) (k:=c.market.toNat) (j:=j) (m:=mkAt v c.market.toNat) (by omega)
   by_cases hjm:j=c.market.toNat
   ·rw [if_pos hjm] at e
    rw [hjm] at e ⊢
    exact e
   ·rw [if_neg hjm] at e
    exact e.trans (hoth j hjm)
  have hacc:w.accs=v.accs:=n1
  have hins:w.ins=v.ins:=n2
  have hres:w.resid=v.resid:=k1
  have hin:w.inn=v.inn:=k3
  have hou:w.out=v.out:=k4
  show (({ w with mks:=w.mks.set c.market.toNat _ }:Vn),_,_)=_
  rw [hmks,hacc,hins,hres,hin,hou,hn]
end
section
open Go.RowKit
theorem vdo_read {vd:Vn} {evd:List Ev} {ed:Int} (v:Vn) (cm:Cm) (A M:Option Addr) (c k:Nat) (B:Nat) (w:World) (hr:doOf v cm=(vd,evd,ed)) (h:VnR w B A c M k v) (hB:B ≤ w.heap.size) :
  Calls Try.prog 103 #[.agg #[.slice A v.accs.length c,.slice M v.mks.length k,.int .i64 v.ins,.int .i64 v.resid,.int .i64 v.next,.int .i64 v.inn,.int .i64 v.out],.agg #[.int .i64 cm.kind,.int .i64 cm.acc,.int .i64 cm.market,.int .i64 cm.n,.int .i64 cm.o.id,.int .i64 cm.o.acc,.int .i64 cm.o.side,.int .i64 cm.o.price,.int .i64 cm.o.qty,.int .i64 cm.how,.bool cm.reduce]] w fun e w'=>∃ A5 c5 M5 k5 E5 n5,e=.returned (.tuple #[.agg #[.slice A5 vd.accs.length c5,.slice M5 vd.mks.length k5,.int .i64 vd.ins,.int .i64 vd.resid,.int .i64 vd.next,.int .i64 vd.inn,.int .i64 vd.out],.slice E5 evd.length n5,.int .i64 ed])∧VnR w' w'.heap.size A5 c5 M5 k5 vd∧Rd w' w'.heap.size 13 E5 evd.length n5 (evCells evd)∧Below w.heap.size w w' :=
 (vdo_ref v cm A M c k B w hr h hB).mono fun e w' hq=>by
  obtain ⟨A5,c5,M5,k5,E5,n5,rfl,⟨xs5,ha5⟩,⟨ys5,hm5⟩,he5,hb5⟩:=hq
  exact ⟨A5,c5,M5,k5,E5,n5,rfl,⟨ha5.read,hm5.read⟩,Rd.of_own he5,hb5⟩
theorem vnr_next {w:World} {B c k:Nat} {A M:Option Addr} {v u:Vn} (h:VnR w B A c M k v) (ha:v.accs=u.accs) (hm:v.mks=u.mks):VnR w B A c M k u:=⟨by rw [← ha];exact h.accs,by rw [← hm];exact h.mks⟩
set_option maxHeartbeats 16000000 in
set_option maxRecDepth 100000 in
theorem venueCancels_walk (V:Vn) (A:Option Addr) (c:Nat) (M:Option Addr) (k:Nat) (cm:Cm) (other:Int) (w:World) (h:VnR w w.heap.size A c M k V) :
  Calls Try.prog 27 #[.agg #[.slice A V.accs.length c,.slice M V.mks.length k,.int .i64 V.ins,.int .i64 V.resid,.int .i64 V.next,.int .i64 V.inn,.int .i64 V.out],.agg #[.int .i64 cm.kind,.int .i64 cm.acc,.int .i64 cm.market,.int .i64 cm.n,.int .i64 cm.o.id,.int .i64 cm.o.acc,.int .i64 cm.o.side,.int .i64 cm.o.price,.int .i64 cm.o.qty,.int .i64 cm.how,.bool cm.reduce],.int .i64 other] w fun e w'=>e=.returned (.bool true)∧Below w.heap.size w w':=by
 have HV:=Lib.hid h
 obtain ⟨U,ev,ed,hdo⟩:∃ U ev ed,doOf V ⟨3,cm.acc,cm.market,cm.n,cm.o,4,cm.reduce⟩=(U,ev,ed):=⟨_,_,_,rfl⟩
 have HDO:=Lib.hid hdo
 clear h hdo
 go_enter Try.func27,Try.ntmps27
 go_wp2_with fail
 refine calls_name ?_
 intro W0 hW0
 have hB0:Below w.heap.size w W0:=by rw [hW0];exact ((Below.refl _ _).alloc (Nat.le_refl _) _).alloc (by simp) _
 have X0:Blk W0 w.heap.size 111 #[.slice A V.accs.length c,.slice M V.mks.length k,.int .i64 V.ins,.int .i64 V.resid,.int .i64 V.next,.int .i64 V.inn,.int .i64 V.out]:=by rw [hW0];exact (Blk.new w _ _).alloc _
 have C0:Blk W0 (w.heap.size + 1) 113 #[.int .i64 3,.int .i64 cm.acc,.int .i64 cm.market,.int .i64 cm.n,.int .i64 cm.o.id,.int .i64 cm.o.acc,.int .i64 cm.o.side,.int .i64 cm.o.price,.int .i64 cm.o.qty,.int .i64 4,.bool cm.reduce]:=by
  rw [hW0];exact Blk.new_at _ _ _ _ (by simp)
 have hs0:W0.heap.size=w.heap.size + 2:=by rw [hW0];simp
 clear hW0
 have hcall:Calls Try.prog 103 #[.agg #[.slice A V.accs.length c,.slice M V.mks.length k,.int .i64 V.ins,.int .i64 V.resid,.int .i64 V.next,.int .i64 V.inn,.int .i64 V.out],.agg #[.int .i64 3,.int .i64 cm.acc,.int .i64 cm.market,.int .i64 cm.n,.int .i64 cm.o.id,.int .i64 cm.o.acc,.int .i64 cm.o.side,.int .i64 cm.o.price,.int .i64 cm.o.qty,.int .i64 4,.bool cm.reduce]] W0 fun e w' =>
   ∃ A5 c5 M5 k5 E5 n5,e=.returned (.tuple #[.agg #[.slice A5 U.accs.length c5,.slice M5 U.mks.length k5,.int .i64 U.ins,.int .i64 U.resid,.int .i64 U.next,.int .i64 U.inn,.int .i64 U.out],.slice E5 ev.length n5,.int .i64 ed])∧VnR w' w'.heap.size A5 c5 M5 k5 U∧Rd w' w'.heap.size 13 E5 ev.length n5 (evCells ev)∧Below W0.heap.size W0 w' :=
  vdo_read V ⟨3,cm.acc,cm.market,cm.n,cm.o,4,cm.reduce⟩ A M c k w.heap.size W0 HDO.out (HV.out.below hB0) (by omega)
 have HCALL:=Lib.hid hcall
 clear hcall
 refine HCALL.out.mono ?_
 rintro e W1 ⟨A1,c1,M1,k1,E1,n1,rfl,hu1,he1,hb1⟩
 have hs1:=hb1.size
 clear HCALL
 go_wp2_with fail
 refine calls_name ?_
 intro W2 hW2
 have hB2:Below W1.heap.size W1 W2:=by rw [hW2];exact (Below.refl _ _).alloc (Nat.le_refl _) _
 have Y2:Blk W2 W1.heap.size 111 #[.slice A1 U.accs.length c1,.slice M1 U.mks.length k1,.int .i64 U.ins,.int .i64 U.resid,.int .i64 U.next,.int .i64 U.inn,.int .i64 U.out]:=by rw [hW2];exact Blk.new W1 _ _
 have hs2:=hB2.size
 clear hW2
 refine (opened_any W2).mono ?_
 rintro e W3 ⟨rfl,hb3⟩
 have hs3:=hb3.size
 have hB13:Below W1.heap.size W1 W3:=hB2.trans (hb3.mono hs2)
 have hB3:Below w.heap.size w W3:=hB0.trans ((hb1.mono (by omega)).trans (hB13.mono (by omega)))
 have X3:=X0.below (hb1.trans (hB13.mono hs1)) X0.lt
 have C3:=C0.below (hb1.trans (hB13.mono hs1)) C0.lt
 have Y3:=Y2.below hb3 Y2.lt
 have HU3:=Lib.hid (hu1.below hB13)
 have HE3:=Lib.hid (he1.below hB13)
 have yw:=Y3.lt
 have yc:=C3.lt
 clear hu1 he1 hb1 hb3 hB13 hB2 hB0 X0 C0 Y2
 by_cases he:ed=0
 rotate_left
 ·have he':(ed != 0)=true:=by simpa using he
  clear he
  go_wp2_with fail
  refine (opened_any W3).mono ?_
  rintro e W4 ⟨rfl,hb4⟩
  go_wp2_with fail
  go_ret
  exact ⟨rfl,hB3.trans (hb4.mono (by omega))⟩
 subst he
 obtain ⟨b,hb⟩:∃ b,rejB ev=b:=⟨_,rfl⟩
 have HB:=Lib.hid hb
 clear hb
 go_wp2_with fail
 refine (rejected_ref E1 _ n1 ev W1.heap.size W3 HB.out HE3.out (by omega)).mono ?_
 rintro e w5 ⟨rfl,rfl⟩
 rcases bool_cs' b with rfl | rfl
 ·go_wp2_with fail
  refine (opened_any W3).mono ?_
  rintro e W4 ⟨rfl,hb4⟩
  go_wp2_with fail
  go_ret
  exact ⟨rfl,hB3.trans (hb4.mono (by omega))⟩
 have HL:=Lib.hid (cancels_law (c:=⟨3,cm.acc,cm.market,cm.n,cm.o,4,cm.reduce⟩) rfl rfl HDO.out HB.out)
 obtain ⟨hel,hUo,hVo,-,g,hdg,hg4,hgi,hgn⟩:=HL.out
 simp only at hdg hgn
 have HDG:=Lib.hid hdg
 have hnv:=hVo.nums.next
 obtain ⟨hnv1,hnv2⟩:=hnv
 have HG:=Lib.hid (And.intro hg4 (And.intro hgi hgn))
 have HUO:=Lib.hid hUo
 clear hdg hg4 hgi hgn hUo hVo
 go_wp2_with fail
 refine (atk_any other 8 W3 (by omega) (by omega)).mono ?_
 rintro e w5 ⟨rfl,rfl⟩
 obtain ⟨q,hq⟩:∃ q,other % 8=q:=⟨_,rfl⟩
 rw [hq]
 clear hq
 have c1':W3.cell? ⟨w.heap.size + 1,1,none⟩=some (.int .i64 cm.acc):=C3.cell 1
 go_upto_if 40 with (fail)
 go_cut [10,11,12] (fun _ _ _ wx=>Below W3.heap.size W3 wx)
 case first =>
  by_cases hqa:q=cm.acc
  ·have e1:(q != cm.acc)=false:=by simpa using hqa
   go_wp2_with fail
   go_meet
   exact Below.refl _ _
  ·have e1:(q != cm.acc)=true:=by simpa using hqa
   obtain ⟨er,hre⟩:=HL.out.2.2.2.1 q hqa
   have x4:W3.cell? ⟨w.heap.size,4,none⟩=some (.int .i64 V.next):=X3.cell 4
   have xw:=X3.lt
   obtain ⟨⟨kY30,kY31,kY32,kY33,kY34,kY35,kY36⟩,-⟩:=Y3.c7
   have hcall:Calls Try.prog 103 #[.agg #[.slice A1 U.accs.length c1,.slice M1 U.mks.length k1,.int .i64 U.ins,.int .i64 U.resid,.int .i64 U.next,.int .i64 U.inn,.int .i64 U.out],.agg #[.int .i64 4,.int .i64 q,.int .i64 0,.int .i64 V.next,.int .i64 0,.int .i64 0,.int .i64 0,.int .i64 0,.int .i64 0,.int .i64 0,.bool false]] W3 fun e w' =>
     ∃ A5 c5 M5 k5 E5 n5,e=.returned (.tuple #[.agg #[.slice A5 U.accs.length c5,.slice M5 U.mks.length k5,.int .i64 U.ins,.int .i64 U.resid,.int .i64 U.next,.int .i64 U.inn,.int .i64 U.out],.slice E5 1 n5,.int .i64 0])∧VnR w' w'.heap.size A5 c5 M5 k5 U∧Rd w' w'.heap.size 13 E5 1 n5 (evCells [rejEv er])∧Below W3.heap.size W3 w' :=
    vdo_read U (canCm q V.next) A1 M1 c1 k1 W1.heap.size W3 hre HU3.out (by omega)
   have HCALL:=Lib.hid hcall
   clear hcall hre
   go_wp2_with fail
   refine HCALL.out.mono ?_
   rintro e W4 ⟨A5,c5,M5,k5,E5,n5,rfl,hu4,he4,hb4⟩
   have hs4:=hb4.size
   have Y4:=Y3.below hb4 Y3.lt
   have HU4:=Lib.hid hu4
   have HE4:=Lib.hid he4
   have HU34:=Lib.hid (HU3.out.below (hb4.mono (by omega)))
   clear hu4 he4 kY30 kY31 kY32 kY33 kY34 kY35 kY36 x4 HCALL
   go_wp2_with fail
   refine calls_name ?_
   intro W5 hW5
   have hB5:Below W4.heap.size W4 W5:=by rw [hW5];first | exact (Below.refl _ _).alloc (Nat.le_refl _) _ | exact ((Below.refl _ _).alloc (Nat.le_refl _) _).setCell (Nat.le_refl _) _
   have T5:Blk W5 W4.heap.size 111 #[.slice A5 U.accs.length c5,.slice M5 U.mks.length k5,.int .i64 U.ins,.int .i64 U.resid,.int .i64 U.next,.int .i64 U.inn,.int .i64 U.out]:=by rw [hW5];exact Blk.new W4 _ _
   have hs5:=hB5.size
   have Y5:=Y4.below hB5 Y4.lt
   clear hW5
   refine (rejected_ref E5 1 n5 [rejEv er] W4.heap.size W5 rfl (HE4.out.below hB5) (by omega)).mono ?_
   rintro e w6 ⟨rfl,rfl⟩
   obtain ⟨⟨kY50,kY51,kY52,kY53,kY54,kY55,kY56⟩,-⟩:=Y5.c7
   obtain ⟨⟨kT50,kT51,kT52,kT53,kT54,kT55,kT56⟩,-⟩:=T5.c7
   have t5:=T5.lt
   have y5:=Y5.lt
   go_wp2_with fail
   refine (vsame_ref U U A5 M5 A1 M1 c5 k5 c1 k1 W4.heap.size W1.heap.size W5 ((sameVn_iff _ _).2 rfl) (HU4.out.below hB5) (HU34.out.below (hB5.mono (by omega))) (by omega) (by omega)).mono ?_
   rintro e W7 ⟨rfl,hb7⟩
   go_wp2_with fail
   go_meet
   exact hb4.trans ((hB5.trans (hb7.mono hs5)).mono hs4)
 case rest=>as_aux_lemma =>
  obtain ⟨W4,rfl⟩:∃ W4,W4=wc:=⟨wc,rfl⟩
  have hb4:Below W3.heap.size W3 W4:=hcut
  have hs4:=hb4.size
  have Y4:=Y3.below hb4 Y3.lt
  have X4:=X3.below hb4 X3.lt
  have C4:=C3.below hb4 C3.lt
  have HU4:=Lib.hid (HU3.out.below (hb4.mono (by omega)))
  have hB4:=hB3.trans (hb4.mono (by omega))
  have c1':W4.cell? ⟨w.heap.size + 1,1,none⟩=some (.int .i64 cm.acc):=C4.cell 1
  have x4:W4.cell? ⟨w.heap.size,4,none⟩=some (.int .i64 V.next):=X4.cell 4
  have xw:=X4.lt
  have cw:=C4.lt
  have yw4:=Y4.lt
  have HX4:=Lib.hid X4
  have HC4:=Lib.hid C4
  obtain ⟨⟨kY40,kY41,kY42,kY43,kY44,kY45,kY46⟩,-⟩:=Y4.c7
  have hcall:Calls Try.prog 103 #[.agg #[.slice A1 U.accs.length c1,.slice M1 U.mks.length k1,.int .i64 U.ins,.int .i64 U.resid,.int .i64 U.next,.int .i64 U.inn,.int .i64 U.out],.agg #[.int .i64 4,.int .i64 cm.acc,.int .i64 0,.int .i64 V.next,.int .i64 0,.int .i64 0,.int .i64 0,.int .i64 0,.int .i64 0,.int .i64 0,.bool false]] W4 fun e w' =>
    ∃ A5 c5 M5 k5 E5 n5,e=.returned (.tuple #[.agg #[.slice A5 V.accs.length c5,.slice M5 V.mks.length k5,.int .i64 V.ins,.int .i64 V.resid,.int .i64 (V.next + 1),.int .i64 V.inn,.int .i64 V.out],.slice E5 1 n5,.int .i64 0])∧VnR w' w'.heap.size A5 c5 M5 k5 { V with next:=V.next + 1 }∧Rd w' w'.heap.size 13 E5 1 n5 (evCells [g])∧Below W4.heap.size W4 w' :=
   vdo_read U (canCm cm.acc V.next) A1 M1 c1 k1 W1.heap.size W4 HDG.out HU4.out (by omega)
  have HCALL:=Lib.hid hcall
  clear hcall X3 C3 Y3 HU3 HE3
  go_wp2_with fail
  refine HCALL.out.mono ?_
  rintro e W5 ⟨A5,c5,M5,k5,E5,n5,rfl,hu5,he5,hb5⟩
  have hs5:=hb5.size
  have HU5:=Lib.hid (vnr_next (u:=V) hu5 rfl rfl)
  have HE5:=Lib.hid he5
  clear kY40 kY41 kY42 kY43 kY44 kY45 kY46 c1' x4 HCALL hu5 he5
  go_wp2_with fail
  refine wp_name ?_
  intro W6 hW6
  have hB6:Below W5.heap.size W5 W6:=by rw [hW6];first | exact (Below.refl _ _).alloc (Nat.le_refl _) _ | exact ((Below.refl _ _).alloc (Nat.le_refl _) _).setCell (Nat.le_refl _) _
  have P6:Blk W6 W5.heap.size 111 #[.slice A5 V.accs.length c5,.slice M5 V.mks.length k5,.int .i64 V.ins,.int .i64 V.resid,.int .i64 (V.next + 1),.int .i64 V.inn,.int .i64 V.out]:=by rw [hW6];exact Blk.new W5 _ _
  have hs6:=hB6.size
  have X6:=(HX4.out.below hb5 xw).below hB6 (by omega)
  have C6:=(HC4.out.below hb5 cw).below hB6 (by omega)
  have HB6:=Lib.hid (hB4.trans ((hb5.trans (hB6.mono hs5)).mono (by omega)))
  have HV6:=Lib.hid (HV.out.below HB6.out)
  have HU6:=Lib.hid (HU5.out.below hB6)
  obtain ⟨be,oe,ge,hEe,hbe,hge,hce⟩:=ev_at (HE5.out.below hB6) (i:=0) (by omega)
  obtain rfl:g=ge:=by simpa using hge
  subst hEe
  have v0:=hce 0 _ rfl
  have v3:=hce 3 _ rfl
  have v5:=hce 5 _ rfl
  rw [HG.out.1] at v0
  rw [HG.out.2.1] at v3
  rw [HG.out.2.2] at v5
  simp only [Nat.zero_mul,Nat.add_zero] at v0 v3 v5
  have x4:W6.cell? ⟨w.heap.size,4,none⟩=some (.int .i64 V.next):=X6.cell 4
  have c8:W6.cell? ⟨w.heap.size + 1,8,none⟩=some (.int .i64 cm.o.qty):=C6.cell 8
  have p4:W6.cell? ⟨W5.heap.size,4,none⟩=some (.int .i64 (V.next + 1)):=P6.cell 4
  have z1:=X6.lt
  have z2:=C6.lt
  have z3:=P6.lt
  have z4:be < W6.heap.size:=by omega
  have e5:(ev.length:Int)=1:=by omega
  have e6:((ev.length:Int) != 1)=false:=by simp;omega
  clear hW6 hce hge
  go_quiet (fail)
  refine exit_name ?_
  intro W7 hW7
  have hB7:Below W6.heap.size W6 W7:=by rw [hW7];exact below_drewN (Below.refl _ _) _
  have hs7:=hB7.size
  have X7:=X6.below hB7 z1
  have P7:=P6.below hB7 z3
  have HB7:=Lib.hid (HB6.out.trans (hB7.mono (by omega)))
  clear hW7 v0 v3 v5 x4 c8 p4 X6 P6 C6
  obtain ⟨⟨kX70,kX71,kX72,kX73,kX74,kX75,kX76⟩,-⟩:=X7.c7
  obtain ⟨⟨kP70,kP71,kP72,kP73,kP74,kP75,kP76⟩,fP70,fP71,fP72,fP73,fP74,fP75,fP76⟩:=P7.c7
  have z5:=X7.lt
  have z6:=P7.lt
  go_wp2_with fail
  refine calls_name ?_
  intro W8 hW8
  have hK8:Kept [111] W7 W8:=by rw [hW8];exact (Kept.refl _ _).set P7 (by decide) _ _
  have HB8:=Lib.hid (show Below w.heap.size w W8 by rw [hW8];exact HB7.out.setCell (by dsimp only;omega) _)
  have hL8:Below W5.heap.size W5 W8:=by rw [hW8];exact ((hB6.trans (hB7.mono hs6))).setCell (Nat.le_refl _) _
  have hs8:W8.heap.size=W7.heap.size:=by rw [hW8];exact size_setCell _ _ _
  clear hW8
  refine (vsame_ref V V A5 M5 A M c5 k5 c k W5.heap.size w.heap.size W8 ((sameVn_iff _ _).2 rfl) (HU5.out.below hL8) (HV.out.below HB8.out) (by omega) (by omega)).mono ?_
  rintro e W9 ⟨rfl,hb9⟩
  go_wp2_with fail
  go_ret
  exact ⟨rfl,HB8.out.trans (hb9.mono (by omega))⟩
end
end Go.Proofs.Ytockodmbhnlheaa
