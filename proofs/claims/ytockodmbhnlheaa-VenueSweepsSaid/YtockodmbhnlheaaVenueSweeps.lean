/-
  THE LAW VenueSweeps: holds for every input, with no condition. (Joined texts: IdxI, VenueLaws, IdxV, IdxM, SweepsW, VenueSweeps.)
-/
import Derived.Test.YtockodmbhnlheaaProg
import Derived.Maps.AppendAt
import Derived.Laws.AppendOwnNone
import Derived.OwnWalk
import Derived.WalkKit
import Derived.Deep.Draws
import Derived.IntWalk
import Derived.WalkSpells
import Derived.WalkLawsBesides
import Derived.Deep.QuietTactic
import Derived.BigQuiet
import Derived.Lib.Hide
import Derived.Test.YtockodmbhnlheaaM01
import Derived.Test.YtockodmbhnlheaaM02
import Derived.Test.YtockodmbhnlheaaM03
import Derived.Test.YtockodmbhnlheaaM04
import Derived.Test.YtockodmbhnlheaaM05
import Derived.Test.YtockodmbhnlheaaM06
import Derived.Test.YtockodmbhnlheaaM07
import Derived.Test.YtockodmbhnlheaaM08
import Derived.Test.YtockodmbhnlheaaM09
import Derived.Test.YtockodmbhnlheaaM10
import Derived.Test.YtockodmbhnlheaaM11
import Derived.Test.YtockodmbhnlheaaM12
import Derived.Test.YtockodmbhnlheaaM13
import Derived.Test.YtockodmbhnlheaaM14
import Derived.Test.YtockodmbhnlheaaM15
import Derived.Test.YtockodmbhnlheaaM16
import Derived.Test.YtockodmbhnlheaaM17
import Derived.Test.YtockodmbhnlheaaM18
import Derived.Test.YtockodmbhnlheaaM19
import Derived.Deep.RegionHeld3
import Derived.Lib.AppendZeros
import Derived.Deep.DeepCutAuto
import Derived.Deep.RegionLaw
import Derived.Laws.CopyOwn
import Derived.Lib.AppendZerosOnto
import Derived.Lib.Overlaps
import Derived.Laws.Externs
import Derived.Laws.MakeOwn
import Derived.Maps.Own
import Derived.Maps.OwnOps
import Derived.Maps.Views
import Derived.KernelRfl
import Derived.Test.YtockodmbhnlheaaRows
import Derived.ProofKit
import Derived.OpenShut
import Derived.SizedLaws
import Derived.Deep.Slices
import Derived.RegionTactic
import Derived.ChangeAlike
import Derived.JoinedOf
namespace Go.Proofs.Ytockodmbhnlheaa
section
open Go.RowKit
set_option maxHeartbeats 400000 in
theorem swp2_any (x:Int) (w:World):Calls Try.prog 121 #[.int .i64 x] w fun e w'=>e=.returned (.bool (nonz x))∧w=w':=by
 go_enter Try.func121,Try.ntmps121
 go_wp2_with fail
 go_ret
 exact ⟨ret_bb (by unfold nonz;rfl),rfl⟩
set_option maxHeartbeats 1000000 in
theorem idx_swp2 (A:Option Addr) (n c:Nat) (L:List Int) (B:Nat) (w:World) (h:Rd w B 1 A n c (ints L)) (_hB:B ≤ w.heap.size) :
  Calls Try.prog 161 #[.slice A n c,.func (.func 121) #[] #[]] w fun e w'=>(∃ j:Int,e=.returned (.int .i64 j)∧decide (0 ≤ j)=L.any nonz)∧w=w':=by
 have hle:=h.le
 have hcap:=h.cap
 have HL:=Lib.hid h.ofInts
 unfold maxLen at hcap
 go_enter Try.func161,Try.ntmps161
 go_wp2_with fail
 go_loopw [8] (fun i wr=>∃ j:Nat,j ≤ n∧i=.int .i64 j∧w=wr∧Hid ((L.take j).any nonz=false)) (fun i _=>n - (intOf i).toNat)
 case atStart=>exact ⟨0,Nat.zero_le _,rfl,rfl,rfl⟩
 case round =>
  obtain ⟨j,hj,rfl,rfl,HP⟩:=hrel
  by_cases hlt:j < n
  ·obtain ⟨b,o',rfl,hb,x,hx,k0⟩:=h.int hlt
   have HX:=Lib.hid hx
   clear hx
   go_wp2_with fail
   refine (swp2_any _ _).mono ?_
   rintro e w1 ⟨rfl,rfl⟩
   rcases bool_csI (nonz x) with hp | hp
   ·have HE:=Lib.hid (any_found HX.out hp)
    rw [hp]
    go_wp2_with fail
    go_ret
    exact ⟨⟨_,rfl,by rw [HE.out];simp⟩,rfl⟩
   ·have HN:=Lib.hid (any_next HX.out hp HP.out)
    rw [hp]
    go_wp2_with fail
    go_roundw
    case rel=>exact ⟨j + 1,by omega,by go_num,trivial,HN⟩
    case measure=>simp [intOf];omega
  ·have hjn:j=n:=by omega
   have HE:=Lib.hid (show L.any nonz=false by have:=HP.out;rw [hjn,List.take_of_length_le (by rw [HL.out];exact Nat.le_refl _)] at this;exact this)
   clear hjn
   go_wp2_with fail
   go_ret
   exact ⟨⟨_,rfl,by rw [HE.out];rfl⟩,rfl⟩
set_option maxHeartbeats 400000 in
theorem contains_swp2 (A:Option Addr) (n c:Nat) (L:List Int) (B:Nat) (w:World) (h:Rd w B 1 A n c (ints L)) (hB:B ≤ w.heap.size) :
  Calls Try.prog 120 #[.slice A n c,.func (.func 121) #[] #[]] w fun e w'=>e=.returned (.bool (L.any nonz))∧w=w':=by
 go_enter Try.func120,Try.ntmps120
 go_wp2_with fail
 refine (idx_swp2 A n c L B _ h hB).mono ?_
 rintro e w1 ⟨⟨j,rfl,hj⟩,rfl⟩
 have HJ:=Lib.hid hj
 go_wp2_with fail
 go_ret
 exact ⟨rfl,rfl⟩
end
section
theorem sweeps_law {v w:Vn} {c:Cm} {ev:List Ev} (h:doOf v c=(w,ev,0)) (hr:rejB ev=false) (hk:c.kind=7) :
  VOk v∧VOk w∧(marksOf v.mks).2=0∧w.accs.map (·.id)=v.accs.map (·.id)∧(w.inn=v.inn∧w.out=v.out∧w.resid=v.resid)∧w.ins ≤ v.ins∧w.mks.length=v.mks.length ∧
   (∀ (j:Nat) (a:Ac),v.accs[j]?=some a→(∀ (i:Nat) (b:Ac),i < j→v.accs[i]?=some b→(soundOf b (marksOf v.mks).1).2.1=true)→(soundOf a (marksOf v.mks).1).2.2=0∧((soundOf a (marksOf v.mks).1).2.1=false→Done w a.id)) ∧
   ((∀ (i:Nat) (b:Ac),v.accs[i]?=some b→(soundOf b (marksOf v.mks).1).2.1=true)→w=v∧ev = []):=by
 obtain ⟨hv,hc⟩:=do_done h hr
 unfold doesE at hc
 rw [if_neg (by omega),if_neg (by omega),if_neg (by omega),if_neg (by omega),if_pos hk] at hc
 obtain ⟨h1,E,s,h2,h3⟩:=sweep_step (d:=⟨v,[]⟩) hv hc
 refine ⟨hv,s.step.ok,h1,s.ids,⟨s.nums.2.2.1,s.nums.2.2.2,s.nums.1⟩,s.ins,s.step.len,h2,fun hall=>?_⟩
 have e:=h3 hall
 injection e with e1 e2
 exact ⟨e1,e2⟩
end
section
open Go.RowKit
section
variable {α:Type} {p:α→Bool} {L:List α}
end
def ofAcc (id:Int) (o:Od):Bool:=o.acc == id
def mkHas (id:Int) (m:Mk):Bool:=(m.book.bids ++ m.book.asks).any (ofAcc id)
set_option maxHeartbeats 400000 in
theorem sweeps11_any (x:Od) (id:Int) (g:Nat) (w:World) (hg:g < w.heap.size) (h:w.cell? ⟨g,0,none⟩=some (.int .i64 id)) :
  Calls Try.prog 119 #[.agg #[.int .i64 x.id,.int .i64 x.acc,.int .i64 x.side,.int .i64 x.price,.int .i64 x.qty],.pointer (some ⟨g,0,none⟩)] w fun e w'=>e=.returned (.bool (ofAcc id x))∧Below w.heap.size w w':=by
 go_enter Try.func119,Try.ntmps119
 go_wp2_with fail
 go_ret
 exact ⟨rfl,below_all _ _⟩
set_option maxRecDepth 100000 in
set_option maxHeartbeats 1000000 in
theorem idx_sw11 (id:Int) (g:Nat) (A:Option Addr) (n c:Nat) (L:List Od) (B:Nat) (w:World) (h:Rd w B 5 A n c (odCells L)) (hB:B ≤ w.heap.size) (hg:g < w.heap.size) (hc:w.cell? ⟨g,0,none⟩=some (.int .i64 id)) :
  Calls Try.prog 138 #[.slice A n c,.func (.func 119) #[] #[.pointer (some ⟨g,0,none⟩)]] w fun e w'=>e=.returned (.int .i64 (idxL (ofAcc id) L))∧Below w.heap.size w w':=by
 have hle:=h.le
 have hcap:=h.cap
 have HL:=Lib.hid (show L.length=n from (rdo_len h))
 unfold maxLen at hcap
 go_enter Try.func138,Try.ntmps138
 go_wp2_with fail
 go_loopw [8] (fun i wr=>∃ j:Nat,j ≤ n∧i=.int .i64 j∧Below w.heap.size w wr∧Hid ((L.take j).all (fun y=>!(ofAcc id) y)=true)) (fun i _=>n - (intOf i).toNat)
 case atStart=>exact ⟨0,Nat.zero_le _,rfl,Below.refl _ _,rfl⟩
 case round =>
  obtain ⟨j,hj,rfl,hbr,HP⟩:=hrel
  have hws:=hbr.size
  by_cases hlt:j < n
  ·obtain ⟨b,o,x,rfl,hb,hx,k0,k1,k2,k3,k4⟩:=od_at (h.below (hbr.mono hB)) hlt
   have x1:b < wr.heap.size:=by omega
   have HX:=Lib.hid hx
   clear hx
   skip
   go_wp2_with fail
   refine (sweeps11_any x id g _ (by omega) ((hbr.cell (p:=⟨g,_,none⟩) hg).trans hc)).mono ?_
   rintro e w1 ⟨rfl,hb1⟩
   have hb2:=hbr.trans (hb1.mono hws)
   clear hb1
   rcases bool_cs' ((ofAcc id) x) with hp | hp
   ·have HE:=Lib.hid (idxL_found (p:=ofAcc id) HX.out hp HP.out)
    rw [hp]
    go_wp2_with fail
    go_ret
    exact ⟨ret_ii HE.out.symm,hb2⟩
   ·have HN:=Lib.hid (allL_next (p:=ofAcc id) HX.out hp HP.out)
    rw [hp]
    go_wp2_with fail
    go_roundw
    case rel=>exact ⟨j + 1,by omega,by go_num,hb2,HN⟩
    case measure=>simp [intOf];omega
  ·have hjn:j=n:=by omega
   have HE:=Lib.hid (idxL_none (p:=ofAcc id) (L:=L) (by have:=HP.out;rw [hjn,List.take_of_length_le (by rw [HL.out];exact Nat.le_refl _)] at this;exact this))
   clear hjn
   go_wp2_with fail
   go_ret
   exact ⟨ret_ii HE.out.symm,hbr⟩
set_option maxHeartbeats 400000 in
theorem contains_sw11 (id:Int) (g:Nat) (A:Option Addr) (n c:Nat) (L:List Od) (B:Nat) (w:World) (h:Rd w B 5 A n c (odCells L)) (hB:B ≤ w.heap.size) (hg:g < w.heap.size) (hc:w.cell? ⟨g,0,none⟩=some (.int .i64 id)) :
  Calls Try.prog 118 #[.slice A n c,.func (.func 119) #[] #[.pointer (some ⟨g,0,none⟩)]] w fun e w'=>e=.returned (.bool (L.any (ofAcc id)))∧Below w.heap.size w w':=by
 have HI:=Lib.hid (idxL_cases (ofAcc id) L)
 go_enter Try.func118,Try.ntmps118
 go_wp2_with fail
 refine (idx_sw11 id g A n c L B _ h hB hg hc).mono ?_
 rintro e w1 ⟨rfl,hb1⟩
 rcases HI.out with ⟨h1,h2⟩ | ⟨k,x,h1,_,_,h2⟩
 ·have H2:=Lib.hid h2
  rw [h1]
  clear h1 h2
  go_wp2_with fail
  go_ret
  exact ⟨ret_bb H2.out.symm,hb1⟩
 ·have H2:=Lib.hid h2
  rw [h1]
  clear h1 h2
  go_wp2_with fail
  go_ret
  exact ⟨ret_bb H2.out.symm,hb1⟩
end
section
open Go.RowKit
theorem sweeps_at {V U:Vn} {c:Cm} {ev:List Ev} (h:doOf V c=(U,ev,0)) (hr:rejB ev=false) (hk:c.kind=7) {j:Nat} {a:Ac} (ha:V.accs[j]?=some a)
  (hb:∀ (i:Nat) (b:Ac),i < j→V.accs[i]?=some b→(soundOf b (marksOf V.mks).1).2.1=true) :
  (soundOf a (marksOf V.mks).1).2.2=0∧∃ b,U.accs[j]?=some b∧b.id=a.id ∧
   ((soundOf a (marksOf V.mks).1).2.1=false→U.mks.any (mkHas a.id)=false∧b.pos.any nonz=false∧(b.bal < 0→U.ins=0)):=by
 obtain ⟨_,hu,_,hids,_,_,_,hall,_⟩:=sweeps_law h hr hk
 obtain ⟨h1,h2⟩:=hall j a ha hb
 have hj:(U.accs.map (·.id))[j]?=some a.id:=by rw [hids,List.getElem?_map,ha];rfl
 rw [List.getElem?_map] at hj
 cases hub:U.accs[j]? with
 | none=>rw [hub] at hj;cases hj
 | some b =>
  rw [hub] at hj
  injection hj with hj
  refine ⟨h1,b,rfl,hj,fun hs=>?_⟩
  obtain ⟨⟨hp,ho⟩,hbal⟩:=h2 hs
  have hacc:accOf U.accs a.id=b:=by
   have:=accOf_at hu.accs.sorted hub
   simp only at hj
   rw [← hj];exact this
  refine ⟨?_,?_,?_⟩
  ·rw [List.any_eq_false]
   intro m hm
   obtain ⟨k,hk1,hk2⟩:=List.getElem_of_mem hm
   have hmk:mkAt U k=m:=by have:=mkAt_some hk1;rw [List.getElem?_eq_getElem hk1] at this;injection this with this;rw [← this,hk2]
   unfold mkHas
   rw [Bool.not_eq_true,List.any_eq_false]
   intro o hoo
   have:=ho k o (by rw [hmk];exact hoo)
   unfold ofAcc
   simpa using this
  ·rw [List.any_eq_false]
   intro x hx
   obtain ⟨k,hk1,hk2⟩:=List.getElem_of_mem hx
   have:=hp k
   unfold posOf at this
   rw [hacc,List.getD,List.getElem?_eq_getElem hk1] at this
   simp only [Option.getD_some] at this
   unfold nonz
   rw [← hk2,this];simp
  ·intro hlt
   exact hbal (by unfold balOf;rw [hacc];exact hlt)
set_option maxRecDepth 100000 in
set_option maxHeartbeats 4000000 in
theorem sweeps1_any (m:Mk) (A A':Option Addr) (c c':Nat) (id:Int) (g B:Nat) (w:World) (hg:g < w.heap.size) (h:w.cell? ⟨g,0,none⟩=some (.int .i64 id)) (hb:BkR w B A A' c c' m.book) (hB:B ≤ w.heap.size) (hl:m.book.bids.length + m.book.asks.length ≤ 40) :
  Calls Try.prog 117 #[.agg #[.slice A m.book.bids.length c,.slice A' m.book.asks.length c',.int .i64 m.index,.int .i64 m.last],.pointer (some ⟨g,0,none⟩)] w fun e w'=>e=.returned (.bool (mkHas id m))∧Below w.heap.size w w':=by
 go_enter Try.func117,Try.ntmps117
 go_wp2_with fail
 refine calls_name ?_
 intro W3 hW3
 have hB3:Below w.heap.size w W3:=by rw [hW3];exact ((Below.refl _ _).alloc (Nat.le_refl _) _).alloc (by simp) _
 have Z3:Blk W3 (w.heap.size + 1) 60 #[.slice A m.book.bids.length c,.slice A' m.book.asks.length c']:=by rw [hW3];exact Blk.new_at _ _ _ _ (by simp)
 have hs3:W3.heap.size=w.heap.size + 2:=by rw [hW3];simp
 clear hW3
 have hb3:=hb.below (hB3.mono hB)
 refine (concat_ods A A' m.book.bids.length c m.book.asks.length c' m.book.bids m.book.asks B W3 hb3.l hb3.r (by omega) _ Z3.lt Z3.c2.1.1 Z3.c2.1.2 (by omega)).mono ?_
 rintro e W4 ⟨v4,rfl,hown,hb4⟩
 obtain ⟨A4,c4,rfl⟩:=own_shape hown
 have hr4:=Rd.of_own hown
 have hs4:=hb4.size
 have hB4:Below w.heap.size w W4:=hB3.trans (hb4.mono (by omega))
 clear hown hb4 Z3 hb3 hB3
 go_wp2_with fail
 refine (contains_sw11 id g A4 (m.book.bids.length + m.book.asks.length) c4 (m.book.bids ++ m.book.asks) W4.heap.size W4 hr4 (Nat.le_refl _) (by omega) ((hB4.cell (p:=⟨g,_,none⟩) hg).trans h)).mono ?_
 rintro e W5 ⟨rfl,hb5⟩
 go_wp2_with fail
 go_ret
 exact ⟨ret_bb (by unfold mkHas;rw [List.any_append]),hB4.trans (hb5.mono (by omega))⟩
set_option maxRecDepth 100000 in
set_option maxHeartbeats 1000000 in
theorem idx_sw1 (id:Int) (g:Nat) (A:Option Addr) (n c:Nat) (L:List Mk) (B:Nat) (w:World) (h:RdL shMk w B A n c L) (hB:B ≤ w.heap.size) (hg:g < w.heap.size) (hc:w.cell? ⟨g,0,none⟩=some (.int .i64 id))
  (h40:∀ m ∈ L,m.book.bids.length + m.book.asks.length ≤ 40) :
  Calls Try.prog 160 #[.slice A n c,.func (.func 117) #[] #[.pointer (some ⟨g,0,none⟩)]] w fun e w'=>e=.returned (.int .i64 (idxL (mkHas id) L))∧Below w.heap.size w w':=by
 have hle:=h.le
 have hcap:=h.cap
 have HL:=Lib.hid (show L.length=n from h.len)
 unfold maxLen at hcap
 go_enter Try.func160,Try.ntmps160
 go_wp2_with fail
 go_loopw [8] (fun i wr=>∃ j:Nat,j ≤ n∧i=.int .i64 j∧Below w.heap.size w wr∧Hid ((L.take j).all (fun y=>!(mkHas id) y)=true)) (fun i _=>n - (intOf i).toNat)
 case atStart=>exact ⟨0,Nat.zero_le _,rfl,Below.refl _ _,rfl⟩
 case round =>
  obtain ⟨j,hj,rfl,hbr,HP⟩:=hrel
  have hws:=hbr.size
  by_cases hlt:j < n
  ·obtain ⟨b,o,x,rfl,hb,hx,A2,c2,A3,c3,k0,k1,k2,k3,kb,-,-⟩:=mk_at (h.below (hbr.mono hB)) hlt
   have x1:b < wr.heap.size:=by omega
   have HX:=Lib.hid hx
   have HKB:=Lib.hid kb
   clear hx kb
   go_wp2_with fail
   refine (sweeps1_any x A2 A3 c2 c3 id g B _ (by omega) ((hbr.cell (p:=⟨g,_,none⟩) hg).trans hc) HKB.out (by omega) (h40 x (List.mem_of_getElem? HX.out))).mono ?_
   rintro e w1 ⟨rfl,hb1⟩
   have hb2:=hbr.trans (hb1.mono hws)
   clear hb1
   rcases bool_cs' ((mkHas id) x) with hp | hp
   ·have HE:=Lib.hid (idxL_found (p:=mkHas id) HX.out hp HP.out)
    rw [hp]
    go_wp2_with fail
    go_ret
    exact ⟨ret_ii HE.out.symm,hb2⟩
   ·have HN:=Lib.hid (allL_next (p:=mkHas id) HX.out hp HP.out)
    rw [hp]
    go_wp2_with fail
    go_roundw
    case rel=>exact ⟨j + 1,by omega,by go_num,hb2,HN⟩
    case measure=>simp [intOf];omega
  ·have hjn:j=n:=by omega
   have HE:=Lib.hid (idxL_none (p:=mkHas id) (L:=L) (by have:=HP.out;rw [hjn,List.take_of_length_le (by rw [HL.out];exact Nat.le_refl _)] at this;exact this))
   clear hjn
   go_wp2_with fail
   go_ret
   exact ⟨ret_ii HE.out.symm,hbr⟩
set_option maxHeartbeats 400000 in
theorem contains_sw1 (id:Int) (g:Nat) (A:Option Addr) (n c:Nat) (L:List Mk) (B:Nat) (w:World) (h:RdL shMk w B A n c L) (hB:B ≤ w.heap.size) (hg:g < w.heap.size) (hc:w.cell? ⟨g,0,none⟩=some (.int .i64 id))
  (h40:∀ m ∈ L,m.book.bids.length + m.book.asks.length ≤ 40) :
  Calls Try.prog 116 #[.slice A n c,.func (.func 117) #[] #[.pointer (some ⟨g,0,none⟩)]] w fun e w'=>e=.returned (.bool (L.any (mkHas id)))∧Below w.heap.size w w':=by
 have HI:=Lib.hid (idxL_cases (mkHas id) L)
 go_enter Try.func116,Try.ntmps116
 go_wp2_with fail
 refine (idx_sw1 id g A n c L B _ h hB hg hc h40).mono ?_
 rintro e w1 ⟨rfl,hb1⟩
 rcases HI.out with ⟨h1,h2⟩ | ⟨k,x,h1,_,_,h2⟩
 ·have H2:=Lib.hid h2
  rw [h1]
  clear h1 h2
  go_wp2_with fail
  go_ret
  exact ⟨ret_bb H2.out.symm,hb1⟩
 ·have H2:=Lib.hid h2
  rw [h1]
  clear h1 h2
  go_wp2_with fail
  go_ret
  exact ⟨ret_bb H2.out.symm,hb1⟩
end
section
open Go.RowKit
def swCm:Cm:=⟨7,0,0,0,⟨0,0,0,0,0⟩,0,false⟩
theorem sweeps_next {V:Vn} {ms:List Int} {j:Nat} {a:Ac} (h:∀ (i:Nat) (b:Ac),i < j→V.accs[i]?=some b→(soundOf b ms).2.1=true) (ha:V.accs[j]?=some a) (hs:(soundOf a ms).2.1=true) :
  ∀ (i:Nat) (b:Ac),i < j + 1→V.accs[i]?=some b→(soundOf b ms).2.1=true:=by
 intro i b hi hb
 by_cases he:i=j
 ·subst he;rw [ha] at hb;injection hb with hb;rw [← hb];exact hs
 ·exact h i b (by omega) hb
set_option maxHeartbeats 16000000 in
set_option maxRecDepth 100000 in
theorem venueSweeps_walk (V:Vn) (A:Option Addr) (c:Nat) (M:Option Addr) (k:Nat) (w:World) (h:VnR w w.heap.size A c M k V) :
  Calls Try.prog 26 #[.agg #[.slice A V.accs.length c,.slice M V.mks.length k,.int .i64 V.ins,.int .i64 V.resid,.int .i64 V.next,.int .i64 V.inn,.int .i64 V.out]] w fun e w'=>e=.returned (.bool true)∧Below w.heap.size w w':=by
 have HV:=Lib.hid h
 obtain ⟨ms,em,hms⟩:∃ ms em,marksOf V.mks=(ms,em):=⟨_,_,rfl⟩
 obtain ⟨U,ev,ed,hdo⟩:∃ U ev ed,doOf V swCm=(U,ev,ed):=⟨_,_,_,rfl⟩
 have HDO:=Lib.hid hdo
 have HMS:=Lib.hid hms
 clear h hdo hms
 go_enter Try.func26,Try.ntmps26
 go_wp2_with fail
 refine calls_name ?_
 intro W0 hW0
 have hB0:Below w.heap.size w W0:=by rw [hW0];exact below_all _ _
 have X0:Blk W0 w.heap.size 111 #[.slice A V.accs.length c,.slice M V.mks.length k,.int .i64 V.ins,.int .i64 V.resid,.int .i64 V.next,.int .i64 V.inn,.int .i64 V.out]:=by rw [hW0];exact Blk.new w _ _
 have hs0:W0.heap.size=w.heap.size + 1:=by rw [hW0];simp
 clear hW0
 refine (marks_any M V.mks.length k V.mks w.heap.size W0 (HV.out.mks.below hB0) (by omega)).mono ?_
 rw [HMS.out]
 rintro e W1 ⟨Am,cm,rfl,hm,hb1⟩
 have hm':W1.ownsRow W0.heap.size 3 1 (.slice Am ms.length cm) ms.length (ints ms):=hm
 have HM:=Lib.hid (Rd.of_own hm')
 have hs1:=hb1.size
 have hB1:=hB0.trans (hb1.mono (by omega))
 have X1:=X0.below hb1 X0.lt
 have x1:=X1.lt
 clear hm hm' hb1 X0 hB0
 obtain ⟨⟨kX10,kX11,kX12,kX13,kX14,kX15,kX16⟩,-⟩:=X1.c7
 go_wp2_with fail
 refine (vdo_ref V swCm A M c k w.heap.size W1 HDO.out (HV.out.below hB1) (by omega)).mono ?_
 rintro e W2 ⟨A1,c1,M1,k1,E1,n1,rfl,⟨xs1,ha1⟩,⟨ys1,hm1⟩,he1,hb2⟩
 have hs2:=hb2.size
 go_wp2_with fail
 refine calls_name ?_
 intro W3 hW3
 have hB3:Below W2.heap.size W2 W3:=by rw [hW3];exact (Below.refl _ _).alloc (Nat.le_refl _) _
 have Y3:Blk W3 W2.heap.size 111 #[.slice A1 U.accs.length c1,.slice M1 U.mks.length k1,.int .i64 U.ins,.int .i64 U.resid,.int .i64 U.next,.int .i64 U.inn,.int .i64 U.out]:=by rw [hW3];exact Blk.new W2 _ _
 have hs3:=hB3.size
 clear hW3 kX10 kX11 kX12 kX13 kX14 kX15 kX16
 refine (opened_any W3).mono ?_
 rintro e W4 ⟨rfl,hb4⟩
 have hs4:=hb4.size
 have hB24:Below W2.heap.size W2 W4:=hB3.trans (hb4.mono hs3)
 have hB14:Below W1.heap.size W1 W4:=hb2.trans (hB24.mono hs2)
 have hB4:Below w.heap.size w W4:=hB1.trans (hB14.mono (by omega))
 have X4:=X1.below hB14 X1.lt
 have Y4:=Y3.below hb4 Y3.lt
 have HU4:=Lib.hid (show VnR W4 W4.heap.size A1 c1 M1 k1 U from ⟨(ha1.below hB24).read,(hm1.below hB24).read⟩)
 have HE4:=Lib.hid (Rd.of_own (own_below he1 hB24 (Nat.le_refl _)))
 have HV4:=Lib.hid (HV.out.below hB4)
 have HM4:=Lib.hid (HM.out.below hB14)
 clear ha1 hm1 he1 hb2 hb4 hB24 hB14 hB3 X1 Y3 HM x1 hB1
 by_cases he:em=0
 rotate_left
 ·have he':(em != 0)=true:=by simpa using he
  clear he
  go_wp2_with fail
  refine (opened_any W4).mono ?_
  rintro e W9 ⟨rfl,hb9⟩
  go_wp2_with fail
  go_ret
  exact ⟨rfl,hB4.trans (hb9.mono (by omega))⟩
 subst he
 by_cases he:ed=0
 rotate_left
 ·have he':(ed != 0)=true:=by simpa using he
  clear he
  go_wp2_with fail
  refine (opened_any W4).mono ?_
  rintro e W9 ⟨rfl,hb9⟩
  go_wp2_with fail
  go_ret
  exact ⟨rfl,hB4.trans (hb9.mono (by omega))⟩
 subst he
 obtain ⟨b,hb⟩:∃ b,rejB ev=b:=⟨_,rfl⟩
 have HB:=Lib.hid hb
 clear hb
 go_wp2_with fail
 refine (rejected_ref E1 _ n1 ev W4.heap.size W4 HB.out HE4.out (Nat.le_refl _)).mono ?_
 rintro e w5 ⟨rfl,rfl⟩
 rcases bool_cs' b with rfl | rfl
 ·go_wp2_with fail
  refine (opened_any W4).mono ?_
  rintro e W9 ⟨rfl,hb9⟩
  go_wp2_with fail
  go_ret
  exact ⟨rfl,hB4.trans (hb9.mono (by omega))⟩
 have HLAW:=Lib.hid (sweeps_law HDO.out HB.out rfl)
 obtain ⟨hva,hua,-,hids,⟨hin,hout,hres⟩,hins,-,-,hend⟩:=HLAW.out
 rw [HMS.out] at hend
 have HEND:=Lib.hid hend
 have HUA:=Lib.hid hua
 have hlen:U.accs.length=V.accs.length:=by have:=congrArg List.length hids;simpa using this
 have hal:V.accs.length ≤ 8:=aok_len hva.accs
 have hul:U.accs.length ≤ 8:=by omega
 have l1:((U.accs.length:Int) != (V.accs.length:Int))=false:=by rw [hlen];simp
 have l2:(U.inn != V.inn)=false:=by rw [hin];simp
 have l3:(U.out != V.out)=false:=by rw [hout];simp
 have l4:(U.resid != V.resid)=false:=by rw [hres];simp
 have l5:decide (V.ins < U.ins)=false:=decide_eq_false (by omega)
 have HLEN:=Lib.hid hlen
 have HX4:=Lib.hid X4
 have HY4:=Lib.hid Y4
 clear hva hua hids hin hout hres hins hend hlen HLAW
 have x4:=X4.lt
 have y4:=Y4.lt
 obtain ⟨⟨kX40,kX41,kX42,kX43,kX44,kX45,kX46⟩,-⟩:=X4.c7
 obtain ⟨⟨kY40,kY41,kY42,kY43,kY44,kY45,kY46⟩,-⟩:=Y4.c7
 go_wp2_with fail
 clear kX40 kX41 kX42 kX43 kX44 kX45 kX46 kY40 kY41 kY42 kY43 kY44 kY45 kY46 l1 l2 l3 l4 l5
 go_loopw [81] (fun i wr=>∃ (j:Nat),j ≤ V.accs.length∧i=.int .i64 j∧Below W4.heap.size W4 wr∧Hid (∀ (i:Nat) (b:Ac),i < j→V.accs[i]?=some b→(soundOf b ms).2.1=true)) (fun i _=>V.accs.length - (intOf i).toNat)
 case atStart=>exact ⟨0,by omega,rfl,Below.refl _ _,Lib.hid fun i b hi _=>absurd hi (by omega)⟩
 case round =>
  obtain ⟨j,hj,rfl,hbr,HS⟩:=hrel
  have hws:=hbr.size
  by_cases hlt:j < V.accs.length
  ·have hltu:j < U.accs.length:=by have:=HLEN.out;omega
   obtain ⟨b,o,a,rfl,hb,ha,A2,c2,k0,k1,k2,k3,k4⟩:=acc_at (HV4.out.accs.below (hbr.mono (by omega))) hlt
   obtain ⟨s3,u,hu,hid,hdone⟩:∃ s3:(soundOf a ms).2.2=0,∃ u,U.accs[j]?=some u∧u.id=a.id∧((soundOf a ms).2.1=false→U.mks.any (mkHas a.id)=false∧u.pos.any nonz=false∧(u.bal < 0→U.ins=0)):=by
    have h1:=sweeps_at HDO.out HB.out rfl ha
    rw [HMS.out] at h1
    obtain ⟨h2,u,h3⟩:=h1 HS.out
    exact ⟨h2,u,h3⟩
   obtain ⟨b',o',u',rfl,hb',hu',A3,c3,q0,q1,q2,q3,q4⟩:=acc_at (HU4.out.accs.below (hbr.mono (by omega))) hltu
   obtain rfl:u'=u:=by rw [hu] at hu';injection hu' with hu';exact hu'.symm
   obtain ⟨sa,sb,sc,hsound⟩:∃ x y z,soundOf a ms=(x,y,z):=⟨_,_,_,rfl⟩
   rw [hsound] at s3 hdone
   simp only at s3 hdone
   subst s3
   have HSO:=Lib.hid hsound
   have HA:=Lib.hid ha
   have HK3:=Lib.hid k3
   have HQ3:=Lib.hid q3
   have HDONE:=Lib.hid hdone
   have hbw:b < wr.heap.size:=by omega
   have hbw':b' < wr.heap.size:=by omega
   have e1:(a.id != u'.id)=false:=by rw [hid];simp
   clear ha k3 q3 hu hu' hsound hdone hid
   go_wp2_with fail
   refine calls_name ?_
   intro W6 hW6
   have hB6:Below wr.heap.size wr W6:=by rw [hW6];first | exact below_all _ _ | exact (below_all wr _).setCell (Nat.le_refl _) _
   have Z6:Blk W6 wr.heap.size 37 #[.int .i64 a.id,.int .i64 a.bal,.slice A2 a.pos.length c2]:=by rw [hW6];exact Blk.new wr _ _
   have hs6:=hB6.size
   clear hW6
   have hB46:=hbr.trans (hB6.mono hws)
   refine (sound_any a A2 Am c2 ms.length cm ms wr.heap.size W1.heap.size W6 ((HK3.out.below (hB6.mono (by omega))).up (by omega)) (by omega) (HM4.out.below (hB46.mono (by omega))) (by omega)).mono ?_
   rw [HSO.out]
   rintro e W7 ⟨rfl,hb7⟩
   have hs7:=hb7.size
   have hB67:=hB6.trans (hb7.mono hs6)
   have hB47:=hbr.trans (hB67.mono hws)
   have Z7:=Z6.below hb7 Z6.lt
   have z7:=Z7.lt
   have Y7:=HY4.out.below hB47 HY4.out.lt
   have y7:=Y7.lt
   have m0:=(hB67.cell (p:=⟨b',_,none⟩) hbw').trans q0
   have m1:=(hB67.cell (p:=⟨b',_,none⟩) hbw').trans q1
   have m2:=(hB67.cell (p:=⟨b',_,none⟩) hbw').trans q2
   have hbw7:b' < W7.heap.size:=by omega
   have v0:W7.cell? ⟨W2.heap.size,0,none⟩=some (.slice (some ⟨b',o',none⟩) U.accs.length c1):=Y7.cell 0
   have z0:W7.cell? ⟨wr.heap.size,0,none⟩=some (.int .i64 a.id):=Z7.cell 0
   clear k0 k1 k2 q0 q1 q2 hb7 hB6 hB46
   rcases bool_cs' sb with rfl | rfl
   ·have HN:=Lib.hid (sweeps_next HS.out HA.out (by rw [HSO.out]))
    go_wp2_with fail
    go_roundw
    case rel=>exact ⟨j + 1,by omega,by go_num,hB47.trans ((below_all W7 _).mono (by omega)),HN⟩
    case measure=>simp [intOf];omega
   ·obtain ⟨hh1,hh2,hh3⟩:=HDONE.out rfl
    have HH1:=Lib.hid hh1
    have HH2:=Lib.hid hh2
    have HH3:=Lib.hid hh3
    have v1:W7.cell? ⟨W2.heap.size,1,none⟩=some (.slice M1 U.mks.length k1):=Y7.cell 1
    clear hh1 hh2 hh3
    go_wp2_with fail
    refine calls_name ?_
    intro W8 hW8
    have hB8:Below W7.heap.size W7 W8:=by rw [hW8];exact below_all _ _
    have U8:Blk W8 W7.heap.size 37 #[.int .i64 u'.id,.int .i64 u'.bal,.slice A3 u'.pos.length c3]:=by rw [hW8];exact Blk.new W7 _ _
    have hs8:=hB8.size
    clear hW8
    have hB78:=hB67.trans (hB8.mono (by omega))
    have hB48:=hB47.trans (hB8.mono (by omega))
    refine (contains_sw1 a.id wr.heap.size M1 _ k1 U.mks W4.heap.size W8 (HU4.out.mks.below hB48) (by omega) (by omega) ((hB8.cell (p:=⟨wr.heap.size,0,none⟩) z7).trans z0) (fun m hm=>(marketErr_ok.1 (HUA.out.mks m hm).1).1.len)).mono ?_
    rintro e W9 ⟨rfl,hb9⟩
    rw [HH1.out]
    have hs9:=hb9.size
    have hB49:=hB48.trans (hb9.mono (by omega))
    have U9:=U8.below hb9 U8.lt
    have u9:=U9.lt
    have Y9:=HY4.out.below hB49 HY4.out.lt
    have y9:=Y9.lt
    have p0:W9.cell? ⟨W2.heap.size,2,none⟩=some (.int .i64 U.ins):=Y9.cell 2
    have p1:W9.cell? ⟨W7.heap.size,1,none⟩=some (.int .i64 u'.bal):=U9.cell 1
    have p2:W9.cell? ⟨W7.heap.size,2,none⟩=some (.slice A3 u'.pos.length c3):=U9.cell 2
    have HP9:=Lib.hid ((HQ3.out.below ((hB78.trans (hb9.mono (by omega))).mono (by omega))).up (show _ ≤ wr.heap.size by omega))
    clear v0 v1 z0 m0 m1 m2 Z7 Y7 hb9 U8 hB8
    go_wp2_with fail
    refine (contains_swp2 A3 u'.pos.length c3 u'.pos wr.heap.size W9 HP9.out (by omega)).mono ?_
    rintro e w10 ⟨rfl,rfl⟩
    rw [HH2.out]
    by_cases hbal:0 ≤ u'.bal
    ·have e2:decide (0 ≤ u'.bal)=true:=by simpa using hbal
     go_wp2_with fail
     go_ret
     exact ⟨rfl,hB4.trans (hB49.mono (by omega))⟩
    ·have e2:decide (0 ≤ u'.bal)=false:=by simpa using hbal
     have e3:(U.ins == 0)=true:=by have:=HH3.out (by omega);simpa using this
     clear hbal
     go_wp2_with fail
     go_ret
     exact ⟨rfl,hB4.trans (hB49.mono (by omega))⟩
  ·obtain rfl:j=V.accs.length:=by omega
   obtain ⟨hUV,hev⟩:=HEND.out (fun i b hb=>HS.out i b (List.getElem?_eq_some_iff.1 hb).1 hb)
   have HSAME:=Lib.hid (show sameVn V U=true from (sameVn_iff _ _).2 hUV.symm)
   have hel:ev.length=0:=by rw [hev];rfl
   have XR:=HX4.out.below hbr HX4.out.lt
   have YR:=HY4.out.below hbr HY4.out.lt
   have xr:=XR.lt
   have yr:=YR.lt
   clear hUV hev hlt
   obtain ⟨⟨kXR0,kXR1,kXR2,kXR3,kXR4,kXR5,kXR6⟩,-⟩:=XR.c7
   obtain ⟨⟨kYR0,kYR1,kYR2,kYR3,kYR4,kYR5,kYR6⟩,-⟩:=YR.c7
   go_wp2_with fail
   refine (vsame_ref V U A M A1 M1 c k c1 k1 w.heap.size W4.heap.size wr HSAME.out (HV4.out.below (hbr.mono (by omega))) (HU4.out.below hbr) (by omega) (by omega)).mono ?_
   rintro e W6 ⟨rfl,hb6⟩
   go_wp2_with fail
   go_ret
   exact ⟨rfl,hB4.trans ((hbr.trans (hb6.mono hws)).mono (by omega))⟩
end
section
open Go.ChangeShapes Go.WideShapes Go.ChangeAt Go.RowKit
set_option maxRecDepth 100000 in
theorem venueSweeps_lifted (os:Os) (started:os.Started) (H:Type) (enc:TypeId × Value→H) :
  ReturnsInHanded {} Try.checked os 26 .any (Rows.venueSweepsSpec.pre6 enc Try.prog Try.f26 Rows.venueSweepsRow.domain false) (Rows.venueSweepsSpec.post enc Try.prog Try.f26 false true false false):=by
 refine returnsInHanded_of_change_sized (C:=Try.checked) row_own started (by kernel_rfl) Try.func26
  (ChangeSpec.witness6 (enc:=enc) (C:=Try.checked) false ⟨#[],#[.agg #[.slice none 0 0,.slice none 0 0,.int .i64 0,.int .i64 0,.int .i64 0,.int .i64 0,.int .i64 0]],[]⟩ 8 (by kernel_rfl) (by kernel_rfl) (by kernel_rfl) (by kernel_rfl)) ?_
 intro W base args ds gs before hval0 hW hcnd hsz _
 have hval:∀ (j:Nat) t v,Try.f26.params[j]?=some t→args[j]?=some v→Value.okWide Try.prog W .any base t v:=hval0
 have hW':=hW
 obtain ⟨p,q,hA0,hV,rfl,hfz,hnd⟩:=hW
 have hA:DataW.TrodAll enc Try.prog W 0 (fun _=>true) true Try.f26.params.toList args.toList ds p:=hA0
 obtain ⟨rfl,rfl⟩:=trodVars_none hV
 have hkeep:=fun W' (bel:Below W.heap.size W W')=>trodAll_below row_laidOut bel (by kernel_rfl) hA
 rw [Try.params26] at hA hval
 obtain ⟨v0,vs0,d0,ds0,p0,q0,hargs,rfl,rfl,h0,tl0⟩:=trodAll_cons hA
 obtain ⟨rfl,rfl,rfl⟩:=trodAll_nil tl0
 obtain rfl:args = #[v0]:=by cases args;simp_all
 clear hargs
 have hs0:(DataW.weightsEach Try.prog (Try.f26.params.toList ++ Rows.venueSweepsSpec.plain.varTypes Try.prog) ([d0] ++ [])).all (· ≤ reachBytes)=true:=hsz
 rw [show Rows.venueSweepsSpec.plain.varTypes Try.prog = [] from rfl,List.append_nil,List.append_nil] at hs0
 have hsz':(DataW.weightsEach Try.prog Try.f26.params.toList [d0]).all (· ≤ reachBytes)=true:=hs0
 rw [Try.params26] at hsz'
 obtain ⟨y0,t0⟩:=weights_head hsz'
 obtain ⟨V0,A0,c0,M0,k0,rfl,r0,s0,i0⟩:=opens_venue (hval 0 111 v0 rfl rfl) h0 y0
 refine (venueSweeps_walk V0 A0 c0 M0 k0 W r0).mono fun e W' ⟨he,bel⟩=>?_
 subst he
 exact ⟨_,rfl,_,_,_,[],_,[],hW',trodAll_mk1 (shut_bool Try.underlying4 _),hkeep W' bel,rfl,bel.frame _,fun h=>by cases h⟩
set_option maxHeartbeats 4000000 in
theorem venueSweeps_closed:joinedFacts Try.prog 26 Try.f26 Rows.venueSweepsSpec Rows.venueSweepsRow=true :=
 joined_mk _ _ _ _ _ (by as_aux_lemma=>kernel_rfl) closed_laid closed_mapsRowed (by as_aux_lemma=>kernel_rfl) (by as_aux_lemma=>kernel_rfl) (by as_aux_lemma=>kernel_rfl) closed_stops (by as_aux_lemma=>kernel_rfl) closed_stopKnobs (by as_aux_lemma=>kernel_rfl) (by as_aux_lemma=>kernel_rfl) (by as_aux_lemma=>kernel_rfl) (by as_aux_lemma=>kernel_rfl) (by as_aux_lemma=>kernel_rfl) (by as_aux_lemma=>kernel_rfl) (by as_aux_lemma=>kernel_rfl) (by as_aux_lemma=>kernel_rfl) (by as_aux_lemma=>kernel_rfl) (by as_aux_lemma=>kernel_rfl) (by as_aux_lemma=>kernel_rfl) (by as_aux_lemma=>kernel_rfl) (by as_aux_lemma=>kernel_rfl) closed_plainKeys (by as_aux_lemma=>kernel_rfl) closed_stopsHeard closed_mayEnter closed_lifted closed_make (by as_aux_lemma=>kernel_rfl) (by as_aux_lemma=>kernel_rfl) (by as_aux_lemma=>kernel_rfl) (by as_aux_lemma=>kernel_rfl)
set_option maxHeartbeats 4000000 in
theorem venueSweeps_over:Rows.venueSweepsRow.holds Try.pinned (OpenSpec.ofChange Rows.venueSweepsSpec) :=
 OpenClaim.holds_of_wide 26 Try.f26 rfl rfl rfl rfl rfl rfl rfl ⟨rfl,rfl,rfl,rfl,rfl⟩ rfl rfl rfl rfl rfl (by as_aux_lemma=>kernel_rfl) Try.func26 venueSweeps_closed
  (of_decide_eq_true (by as_aux_lemma=>kernel_rfl)) (by unfold Func.isWrapper;first | (rw [if_pos (by decide +kernel)];as_aux_lemma=>kernel_rfl) | (rw [if_neg (by decide +kernel)];exact ⟨rfl,rfl⟩))
  (fun os started H enc _=>venueSweeps_lifted os started H enc)
theorem venueSweeps_proved:Rows.VenueSweepsSaid:=venueSweeps_over
#print axioms venueSweeps_proved
end
end Go.Proofs.Ytockodmbhnlheaa
