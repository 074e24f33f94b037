/-
  Contracts of the program's functions, and plain facts, that the laws VenueKeeps, VenueOthers, VenueCancels, VenueCash, VenueReady rest on (joined texts): DSweep, OrderPure, DOrder.
-/
import Derived.Test.YtockodmbhnlheaaM13
import Derived.Test.YtockodmbhnlheaaM06
import Derived.Test.YtockodmbhnlheaaM01
import Derived.Test.YtockodmbhnlheaaProg
import Derived.Maps.AppendAt
import Derived.Laws.AppendOwnNone
import Derived.OwnWalk
import Derived.Test.YtockodmbhnlheaaM07
import Derived.Test.YtockodmbhnlheaaM12
import Derived.Test.YtockodmbhnlheaaM05
import Derived.Test.YtockodmbhnlheaaM03
import Derived.Deep.RegionHeld3
import Derived.Test.YtockodmbhnlheaaM02
import Derived.Lib.AppendZeros
import Derived.Test.YtockodmbhnlheaaM09
import Derived.Test.YtockodmbhnlheaaM10
import Derived.Test.YtockodmbhnlheaaM11
import Derived.Test.YtockodmbhnlheaaM08
import Derived.Deep.RegionLaw
import Derived.Test.YtockodmbhnlheaaM04
import Derived.WalkKit
import Derived.WalkSpells
import Derived.WalkLawsBesides
import Derived.Lib.Hide
import Derived.Laws.CopyOwn
import Derived.Lib.AppendZerosOnto
import Derived.Lib.Overlaps
import Derived.Laws.Externs
import Derived.Maps.Own
import Derived.Maps.OwnOps
import Derived.Maps.Views
import Derived.Deep.QuietTactic
import Derived.BigQuiet
import Derived.Deep.Draws
import Derived.IntWalk
import Derived.Deep.DeepCutAuto
import Derived.RegionTactic
import Derived.ChangeAlike
namespace Go.Proofs.Ytockodmbhnlheaa
section
open Go.RowKit
theorem desk_ins0 {w Z:World} {base D c k:Nat} {ap:Bool} {d:Dk} {A M:Option Addr} {vE:Value} {xs ys:List Value} {n:Int} (h:Desk w base D ap d A c M k vE xs ys) (hZ:Z=w.setCell ⟨D,2,none⟩ (.int .i64 n)) :
  Desk Z base D ap ⟨{ d.v with ins:=n },d.ev⟩ A c M k vE xs ys:=by
 have hK:Kept [174] w Z:=by rw [hZ];exact (Kept.refl _ w).set h.blk (by decide) _ _
 refine ⟨?_,h.low,h.accs.kept hK (by decide) (by decide),h.mks.kept hK (by decide) (by decide),hK.own h.evs (by decide)⟩
 rw [hZ];exact h.blk.set_ 2 _
theorem min_if (a b:Int):(if b < a then b else a)=min a b:=by split <;> omega
theorem sweep_eq' {q n kk:Nat} {ms:List Int} {d1:Dk} {a:Ac} {b g:Bool} {es:Int} {R:Except Int Dk} (he:sweepFrom ms q kk d1=R) (hn:q=n + 1) (ha:d1.v.accs[kk]?=some a) (hs:soundOf a ms=(b,g,es)) :
  R=okIf es (if g=true then sweepFrom ms n (kk + 1) d1 else bindE (closeAll kk ms d1.v.mks.length 0 (strip a.id d1)) fun d=>bindE (coverE kk d) fun d=>sweepFrom ms n (kk + 1) d):=by
 subst hn
 rw [← he];exact sweep_one ha hs
theorem closeAll_eq' {q n i k:Nat} {ms:List Int} {d3:Dk} {a:Ac} {p:Int} {R:Except Int Dk} (he:closeAll k ms q i d3=R) (hn:q=n + 1) (ha:d3.v.accs[k]?=some a) (hp:a.pos.getD i 0=p) :
  R=if p=0 then closeAll k ms n (i + 1) d3 else bindE (closesE k i ms d3) fun d=>closeAll k ms n (i + 1) d:=by
 subst hn
 rw [← he];exact closeAll_step ha hp
structure SwR (w wr:World) (base D:Nat) (d:Dk) (A:Option Addr) (c:Nat) (M:Option Addr) (k:Nat) (ms:List Int) (Am:Option Addr) (cm kk:Nat) (d1:Dk) (vE:Value) (xs ys:List Value):Prop where
 desk:Desk wr base D true d1 A c M k vE xs ys
 low:Below base w wr
 fr:Fr [174,124,71] (D :: (ab A ++ ab M)) w wr
 own:wr.ownsRow w.heap.size 3 1 (.slice Am ms.length cm) ms.length (ints ms)
 half:Half d d1 (2200 * kk)
 eq:sweepFrom ms (d.v.accs.length - kk) kk d1=sweepFrom ms d.v.accs.length 0 d
structure SvR (w wr:World) (base D:Nat) (d:Dk) (A:Option Addr) (c:Nat) (M:Option Addr) (k:Nat) (ms:List Int) (Am:Option Addr) (cm kk:Nat) (id:Int) (d1:Dk) (i:Nat) (d3:Dk) (vE:Value) (xs ys:List Value):Prop where
 desk:Desk wr base D true d3 A c M k vE xs ys
 low:Below base w wr
 fr:Fr [174,124,71] (D :: (ab A ++ ab M)) w wr
 own:wr.ownsRow w.heap.size 3 1 (.slice Am ms.length cm) ms.length (ints ms)
 half:Half d d3 (2200 * kk + 80 + 1040 * i)
 eq:closeAll kk ms (d.v.mks.length - i) i d3=closeAll kk ms d.v.mks.length 0 (strip id d1)
theorem own_no {w wr:World} {base D c k e sz n:Nat} {ap:Bool} {d:Dk} {A M:Option Addr} {vE v:Value} {xs ys zs:List Value} (h:Desk w base D ap d A c M k vE xs ys) (hv:wr.ownsRow w.heap.size e sz v n zs):∀ g,v.ownBlock=some g→g ∉ D :: (ab A ++ ab M) :=
 fun g hg=>desk_no h g (own_range hv g hg).1
set_option maxHeartbeats 4000000 in
set_option maxRecDepth 100000 in
theorem sweep_dk (base D:Nat) (d:Dk) (A:Option Addr) (c:Nat) (M:Option Addr) (k:Nat) (vE:Value) (xs ys:List Value) (w:World) (h:Desk w base D true d A c M k vE xs ys) (hb:base ≤ w.heap.size) (hv:VOk d.v) (hl:d.ev.length ≤ 700000) :
  Calls Try.prog 176 #[.pointer (some ⟨D,0,none⟩)] w (RetDk w base D true A c M k [174,124,71] (D :: (ab A ++ ab M)) (sweepE d)):=by
 have HD:=Lib.hid h
 have HV:=Lib.hid hv
 have hDl:=h.lt
 obtain ⟨hm1,hm2⟩:=hv.len
 have hal:d.v.accs.length ≤ 8:=aok_len hv.accs
 obtain ⟨ms,em,hms⟩:∃ ms em,marksOf d.v.mks=(ms,em):=⟨_,_,rfl⟩
 have HE:=Lib.hid (show sweepE d=okIf em (sweepFrom ms d.v.accs.length 0 d) by unfold sweepE;rw [hms])
 have HM:=Lib.hid hms
 obtain ⟨⟨-,k1,-⟩,-⟩:=h.blk.c8
 clear h hv hms
 go_enter Try.func176,Try.ntmps176
 go_wp2_with fail
 refine (marks_ref _ _ _ _ _ w HM.out HD.out.mks.read (Nat.le_refl _)).mono ?_
 rintro e W2 ⟨Am,cm,rfl,hown,hb2⟩
 have HD2:=Lib.hid (HD.out.below hb2)
 have HO2:=Lib.hid hown
 have HB2:=Lib.hid hb2
 clear hown hb2 k1
 by_cases he:em=0
 rotate_left
 ·have he':(em != 0)=true:=by simpa using he
  have HEE:=Lib.hid (show sweepE d=.error em by rw [HE.out];unfold okIf;rw [if_pos he])
  have HN:=Lib.hid he
  clear he
  go_wp2_with fail
  go_ret
  exact retDk_err HEE.out HN.out (HB2.out.mono hb)
 subst he
 have HEE:=Lib.hid (show sweepE d=sweepFrom ms d.v.accs.length 0 d by rw [HE.out];rfl)
 obtain ⟨⟨k0,-⟩,-⟩:=HD2.out.blk.c8
 have y2:D < W2.heap.size:=HD2.out.lt
 have HR0:=Lib.hid (show SwR w W2 base D d A c M k ms Am cm 0 d vE xs ys from ⟨HD2.out,HB2.out.mono hb,Fr.of_below _ _ HB2.out,HO2.out,⟨HV.out,rfl,rfl,by omega⟩,rfl⟩)
 go_wp2_with fail
 go_loopw [31] (fun q wr=>∃ (kk:Nat) (d1:Dk) (vE1:Value) (xs1 ys1:List Value),kk ≤ d.v.accs.length∧q=.int .i64 kk∧Hid (SwR w wr base D d A c M k ms Am cm kk d1 vE1 xs1 ys1)) (fun q _=>d.v.accs.length - (intOf q).toNat)
 case atStart=>exact ⟨0,d,vE,xs,ys,by omega,rfl,HR0⟩
 case round =>
  obtain ⟨wo,rfl⟩:∃ x,x=wr:=⟨wr,rfl⟩
  obtain ⟨kk,d1,vE1,xs1,ys1,hkk,rfl,HR⟩:=hrel
  have hws:=HR.out.fr.size
  clear k0 y2
  by_cases hlt:kk < d.v.accs.length
  ·obtain ⟨a,ha⟩:∃ a,d1.v.accs[kk]?=some a:=⟨_,List.getElem?_eq_getElem (by rw [HR.out.half.accs];exact hlt)⟩
   obtain ⟨b,gg,es,hso⟩:∃ b gg es,soundOf a ms=(b,gg,es):=⟨_,_,_,rfl⟩
   obtain ⟨n,hn⟩:∃ n,d.v.accs.length - kk=n + 1:=⟨d.v.accs.length - kk - 1,by omega⟩
   have HST:=Lib.hid (sweep_eq' HR.out.eq hn ha hso)
   have HA:=Lib.hid ha
   have HS:=Lib.hid hso
   have HNN:=Lib.hid hn
   obtain ⟨g,A2,c2,rfl,hg1,hg2,hin,-,⟨q0,q1,q2⟩,-,hpos,-⟩:=oac_at HR.out.desk.accs ha
   have HPO:=Lib.hid (Rd.of_own hpos)
   obtain ⟨⟨k0,-⟩,-⟩:=HR.out.desk.blk.c8
   have y2:D < wo.heap.size:=HR.out.desk.lt
   have hk0:(0:Int) ≤ (kk:Int):=by omega
   have hk1:(kk:Int) < (d1.v.accs.length:Int):=by omega
   have hal1:d1.v.accs.length ≤ 8:=by have:=HR.out.half.accs;omega
   clear ha hso hn hpos
   go_wp2_with fail
   refine (sound_ref a A2 Am c2 ms.length cm ms wo.heap.size wo.heap.size wo HS.out HPO.out (Nat.le_refl _) (Rd.of_own HR.out.own) (Nat.le_refl _)).mono ?_
   rintro e W3 ⟨rfl,hb3⟩
   have HD3:=Lib.hid (HR.out.desk.below hb3)
   have HL3:=Lib.hid (HR.out.low.trans (hb3.mono (by omega)))
   have HF3:=Lib.hid (HR.out.fr.below hb3)
   have HO3:=Lib.hid (own_below HR.out.own hb3 (Nat.le_refl _))
   have hs3:=hb3.size
   clear hb3 k0 q0 q1 q2
   by_cases hes:es=0
   rotate_left
   ·have hes':(es != 0)=true:=by simpa using hes
    have HEE2:=Lib.hid (show sweepE d=.error es by rw [HEE.out,HST.out];unfold okIf;rw [if_pos hes])
    have HN:=Lib.hid hes
    clear hes
    go_wp2_with fail
    go_ret
    exact retDk_err HEE2.out HN.out HL3.out
   subst hes
   rcases (bool_cs' gg) with rfl | rfl
   ·have HN:=Lib.hid (show SwR w W3 base D d (some ⟨g,0,none⟩) c M k ms Am cm (kk + 1) d1 vE1 xs1 ys1 from ⟨HD3.out,HL3.out,HF3.out,HO3.out,HR.out.half.mono (by omega),by
     rw [HST.out,show d.v.accs.length - (kk + 1)=n by have:=HNN.out;omega];rfl⟩)
    go_wp2_with fail
    go_roundw
    case rel=>exact ⟨kk + 1,_,_,_,_,by omega,by go_num,HN⟩
    case measure=>simp [intOf];omega
   ·have HST2:=Lib.hid (show sweepFrom ms d.v.accs.length 0 d=bindE (closeAll kk ms d1.v.mks.length 0 (strip a.id d1)) fun d=>bindE (coverE kk d) fun d=>sweepFrom ms n (kk + 1) d by rw [HST.out];rfl)
    obtain ⟨g',A4,c4,hg',-,hg4,-,-,⟨q0,q1,q2⟩,-,-⟩:=oac_at HD3.out.accs HA.out
    obtain rfl:g'=g:=by injection hg' with hg';injection hg' with hg';exact hg'.symm
    obtain ⟨⟨k0,-⟩,-⟩:=HD3.out.blk.c8
    have y3:D < W3.heap.size:=HD3.out.lt
    have hbw3:base ≤ W3.heap.size:=by omega
    have hev:d1.ev.length ≤ 800000:=by have:=HR.out.half.ev;omega
    clear hg'
    go_wp2_with fail
    refine (strip_dk base D d1 _ c M k vE1 xs1 ys1 a.id W3 HD3.out hbw3 HR.out.half.ok hev).mono ?_
    rintro e W4 ⟨rfl,⟨vE4,xs4,ys4,hd4⟩,hL4,hF4⟩
    have HHS:=Lib.hid (half_strip (id:=a.id) HR.out.half.ok)
    have HQ0:=Lib.hid (show SvR w W4 base D d (some ⟨g',0,none⟩) c M k ms Am cm kk a.id d1 0 (strip a.id d1) vE4 xs4 ys4 from
     ⟨hd4,HL3.out.trans hL4,HF3.out.trans hF4,hF4.own HO3.out (by decide) (own_no HD.out HO3.out),(HR.out.half.trans HHS.out.1).mono (by omega),rfl⟩)
    have HM1:=Lib.hid HR.out.half.mks
    clear hd4 hL4 hF4 k0 q0 q1 q2
    obtain ⟨⟨-,k1,-⟩,-⟩:=HQ0.out.desk.blk.c8
    rw [show (strip a.id d1).v.mks.length=d.v.mks.length from HHS.out.1.mks.trans HM1.out] at k1
    have y4:D < W4.heap.size:=HQ0.out.desk.lt
    go_wp2_with fail
    go_loopw [69] (fun q wi=>∃ (i:Nat) (d3:Dk) (vE3:Value) (xs3 ys3:List Value),i ≤ d.v.mks.length∧q=.int .i64 i∧Hid (SvR w wi base D d (some ⟨g',0,none⟩) c M k ms Am cm kk a.id d1 i d3 vE3 xs3 ys3)) (fun q _=>d.v.mks.length - (intOf q).toNat)
    case atStart=>exact ⟨0,_,_,_,_,by omega,rfl,HQ0⟩
    case round =>
     obtain ⟨wi,rfl⟩:∃ x,x=wr:=⟨wr,rfl⟩
     obtain ⟨i,d3,vE3,xs3,ys3,hi,rfl,HQ⟩:=hrel
     have hwi:=HQ.out.fr.size
     have hkl:kk < d3.v.accs.length:=by rw [HQ.out.half.accs];exact hlt
     obtain ⟨a3,ha3⟩:∃ a,d3.v.accs[kk]?=some a:=⟨_,List.getElem?_eq_getElem hkl⟩
     have HA3:=Lib.hid ha3
     have hbwi:base ≤ wi.heap.size:=by omega
     have hk2:(kk:Int) < (d3.v.accs.length:Int):=by omega
     have y5:D < wi.heap.size:=HQ.out.desk.lt
     clear k1
     by_cases hli:i < d.v.mks.length
     ·obtain ⟨p,hpp⟩:∃ p,a3.pos.getD i 0=p:=⟨_,rfl⟩
      obtain ⟨g8,B8,c8,b3,o3,hgg,hg8,hin8,⟨q0,q1,q2⟩,rfl,hb3,hz3,hpl3,⟨hy1,hy2⟩,hpc3,-⟩:=pos_at HQ.out.desk ha3 HQ.out.half.ok.accs (mk:=i) (by rw [HQ.out.half.mks];exact hli)
      obtain rfl:g8=g':=by injection hgg with hgg;injection hgg with hgg;exact hgg.symm
      rw [hpp] at hz3 hy1 hy2
      obtain ⟨⟨k0,-⟩,-⟩:=HQ.out.desk.blk.c8
      obtain ⟨n2,hn2⟩:∃ n,d.v.mks.length - i=n + 1:=⟨d.v.mks.length - i - 1,by omega⟩
      have HCS:=Lib.hid (closeAll_eq' HQ.out.eq hn2 ha3 hpp)
      have HN2:=Lib.hid (show d.v.mks.length - (i + 1)=n2 by omega)
      have hmi:(i:Int) < (a3.pos.length:Int):=by have:=HQ.out.half.mks;omega
      have hi0:(0:Int) ≤ (i:Int):=by omega
      have HPP:=Lib.hid hpp
      have hev3:d3.ev.length ≤ 800000:=by have:=HQ.out.half.ev;omega
      clear ha3 hpp hpl3 hgg hn2
      by_cases hp0:p=0
      ·have hp':(p == 0)=true:=by simpa using hp0
       have HN:=Lib.hid (show SvR w wi base D d (some ⟨g8,0,none⟩) c M k ms Am cm kk a.id d1 (i + 1) d3 vE3 xs3 ys3 from ⟨HQ.out.desk,HQ.out.low,HQ.out.fr,HQ.out.own,HQ.out.half.mono (by omega),by rw [HCS.out,HN2.out,if_pos hp0]⟩)
       clear hp0
       go_wp2_with fail
       go_roundw
       case rel=>exact ⟨i + 1,_,_,_,_,by omega,by go_num,HN⟩
       case measure=>simp [intOf];omega
      ·have hp':(p == 0)=false:=by simpa using hp0
       have HP0:=Lib.hid hp0
       have HCS2:=Lib.hid (HCS.out.trans (if_neg hp0))
       clear hp0
       go_wp2_with fail
       refine (closes_dk base D d3 _ c M k vE3 xs3 ys3 kk i ms Am ms.length cm wi.heap.size a3 wi HQ.out.desk hbwi HQ.out.half.ok HA3.out (by rw [HQ.out.half.mks];exact hli) (Rd.of_own HQ.out.own) (Nat.le_refl _) hev3).mono ?_
       intro e W5 hret
       cases hcl:closesE kk i ms d3 with
       | error m =>
        have HEE2:=Lib.hid (show sweepE d=.error m by rw [HEE.out,HST2.out,HM1.out,HCS2.out,hcl];rfl)
        rw [hcl] at hret
        obtain ⟨hn,rfl,hL5⟩:=hret
        have hn':(m != 0)=true:=by simpa using hn
        have HN:=Lib.hid hn
        clear hcl hn
        go_wp2_with fail
        go_ret
        exact retDk_err HEE2.out HN.out (HQ.out.low.trans hL5)
       | ok d4 =>
        have HHC:=Lib.hid (half_closes (q:=2200 * kk + 80 + 1040 * (i + 1)) HQ.out.half HA3.out (by rw [HQ.out.half.mks];exact hli) (by rw [HPP.out];exact HP0.out) hcl (by omega))
        have HCS3:=Lib.hid (show closeAll kk ms n2 (i + 1) d4=closeAll kk ms d.v.mks.length 0 (strip a.id d1) by rw [HCS2.out,hcl];rfl)
        rw [hcl] at hret
        obtain ⟨rfl,⟨vE5,xs5,ys5,hd5⟩,hL5,hF5⟩:=hret
        have HN:=Lib.hid (show SvR w W5 base D d (some ⟨g8,0,none⟩) c M k ms Am cm kk a.id d1 (i + 1) d4 vE5 xs5 ys5 from
         ⟨hd5,HQ.out.low.trans hL5,HQ.out.fr.trans (hF5.mono (by simp) (fun _ h=>h)),hF5.own HQ.out.own (by decide) (own_no HD.out HQ.out.own),HHC.out,by rw [HN2.out];exact HCS3.out⟩)
        clear hcl hd5 hL5 hF5
        go_wp2_with fail
        go_roundw
        case rel=>exact ⟨i + 1,_,_,_,_,by omega,by go_num,HN⟩
        case measure=>simp [intOf];omega
     ·obtain rfl:i=d.v.mks.length:=by omega
      have HCD:=Lib.hid (show closeAll kk ms d.v.mks.length 0 (strip a.id d1)=.ok d3 by have:=HQ.out.eq;rw [Nat.sub_self] at this;exact this.symm)
      obtain ⟨g8,A8,c8,hgg,hg9,hg8,hin8,-,⟨q0,q1,q2⟩,-⟩:=oac_at HQ.out.desk.accs ha3
      obtain rfl:g8=g':=by injection hgg with hgg;injection hgg with hgg;exact hgg.symm
      obtain ⟨⟨k0,-,k2,-⟩,-⟩:=HQ.out.desk.blk.c8
      obtain ⟨nn,hnn⟩:∃ n,min d3.v.ins (-a3.bal)=n:=⟨_,rfl⟩
      have hbal:=(accCheck_ok (HQ.out.half.ok.accs.ok a3 (List.mem_of_getElem? ha3))).2.2.2.1
      have hins:=HQ.out.half.ok.nums.ins
      have HCV:=Lib.hid (cover_eq ha3 hnn)
      have HNN3:=Lib.hid hnn
      have hnb:-1000000000000 ≤ nn∧nn ≤ 1000000000000:=by omega
      clear ha3 hgg hnn
      go_wp2_with fail
      go_quiet (fail)
      refine exit_name ?_
      intro W6 hW6
      rw [min_if,HNN3.out]
      have hB6:Below wi.heap.size wi W6:=by rw [hW6];exact below_drewN (Below.refl _ _) _
      have hs6:=hB6.size
      have HD6:=Lib.hid (HQ.out.desk.below hB6)
      have HL6:=Lib.hid (HQ.out.low.trans (hB6.mono hbwi))
      have HF6:=Lib.hid (HQ.out.fr.below hB6)
      have HO6:=Lib.hid (own_below HQ.out.own hB6 (Nat.le_refl _))
      clear hW6 hB6 k0 k2 q0 q1 q2
      obtain ⟨⟨-,-,k2,-⟩,-,-,f2,-⟩:=HD6.out.blk.c8
      have y6:D < W6.heap.size:=HD6.out.lt
      obtain ⟨hnb1,hnb2⟩:=hnb
      by_cases hnp:0 < nn
      rotate_left
      ·have hnp':decide (0 < nn)=false:=decide_eq_false hnp
       have HX:=Lib.hid (show coverE kk d3=.ok d3 from HCV.out.trans (if_neg hnp))
       have HN:=Lib.hid (show SwR w W6 base D d (some ⟨g8,0,none⟩) c M k ms Am cm (kk + 1) d3 vE3 xs3 ys3 from ⟨HD6.out,HL6.out,HF6.out,HO6.out,HQ.out.half.mono (by omega),by
        rw [HST2.out,HM1.out,HCD.out,show d.v.accs.length - (kk + 1)=n by have:=HNN.out;omega]
        show _=bindE (coverE kk d3) _
        rw [HX.out];rfl⟩)
       go_wp2_with fail
       go_roundw
       case rel=>exact ⟨kk + 1,_,_,_,_,by omega,by go_num,HN⟩
       case measure=>simp [intOf];omega
      ·have hnp':decide (0 < nn)=true:=decide_eq_true hnp
       have HX:=Lib.hid (show coverE kk d3=moveE kk nn ⟨{ d3.v with ins:=d3.v.ins - nn },d3.ev⟩ from HCV.out.trans (if_pos hnp))
       have hsub1:-1000000000000 ≤ d3.v.ins - nn:=by omega
       have hsub2:d3.v.ins - nn ≤ 1000000000000:=by omega
       have hi3:0 ≤ d3.v.ins∧d3.v.ins ≤ 1000000000000:=by omega
       obtain ⟨hi31,hi32⟩:=hi3
       go_wp2_with fail
       refine calls_name ?_
       intro W7 hW7
       have HD7:=Lib.hid (desk_ins0 HD6.out hW7)
       have hL7:Below base W6 W7:=by rw [hW7];exact (Below.refl _ _).setCell HD6.out.low _
       have hF7:Fr [174] [] W6 W7:=by rw [hW7];exact (Fr.refl _ _ _).set HD6.out.blk (.inl (by simp)) _ _
       have HL7:=Lib.hid (HL6.out.trans hL7)
       have HF7:=Lib.hid (HF6.out.trans (hF7.mono (by simp) (by simp)))
       have HO7:=Lib.hid (hF7.own HO6.out (by decide) (by simp))
       have hb7:base ≤ W7.heap.size:=Nat.le_trans (by omega) hF7.size
       have hev7:d3.ev.length ≤ 1000000:=by have:=HQ.out.half.ev;omega
       clear hW7 hL7 hF7 k2 f2
       refine (move_dk base D true ⟨{ d3.v with ins:=d3.v.ins - nn },d3.ev⟩ _ c M k vE3 xs3 ys3 kk nn a3 W7 HD7.out hb7 HA3.out hev7).mono ?_
       intro e W8 hret
       cases hmv:moveE kk nn ⟨{ d3.v with ins:=d3.v.ins - nn },d3.ev⟩ with
       | error m =>
        have HEE2:=Lib.hid (show sweepE d=.error m by
         rw [HEE.out,HST2.out,HM1.out,HCD.out]
         show bindE (coverE kk d3) _=_
         rw [HX.out,hmv];rfl)
        rw [hmv] at hret
        obtain ⟨hn,rfl,hL8⟩:=hret
        have hn':(m != 0)=true:=by simpa using hn
        have HN:=Lib.hid hn
        clear hmv hn
        go_wp2_with fail
        go_ret
        exact retDk_err HEE2.out HN.out (HL7.out.trans hL8)
       | ok d4 =>
        have HHC:=Lib.hid (half_cover HQ.out.half HA3.out (HX.out.trans hmv))
        have HX4:=Lib.hid (HX.out.trans hmv)
        rw [hmv] at hret
        obtain ⟨rfl,⟨vE8,xs8,ys8,hd8⟩,hL8,hF8⟩:=hret
        have HN:=Lib.hid (show SwR w W8 base D d (some ⟨g8,0,none⟩) c M k ms Am cm (kk + 1) d4 vE8 xs8 ys8 from
         ⟨hd8,HL7.out.trans hL8,HF7.out.trans (hF8.mono (by simp) mem_dA),hF8.own HO7.out (by decide) (fun g hg hm=>own_no HD.out HO7.out g hg (mem_dA g hm)),HHC.out.mono (by omega),by
          rw [HST2.out,HM1.out,HCD.out,show d.v.accs.length - (kk + 1)=n by have:=HNN.out;omega]
          show _=bindE (coverE kk d3) _
          rw [HX4.out];rfl⟩)
        clear hmv hd8 hL8 hF8
        go_wp2_with fail
        go_roundw
        case rel=>exact ⟨kk + 1,_,_,_,_,by omega,by go_num,HN⟩
        case measure=>simp [intOf];omega
  ·obtain rfl:kk=d.v.accs.length:=by omega
   have HX:=Lib.hid (show sweepE d=.ok d1 by rw [HEE.out,← HR.out.eq,Nat.sub_self];rfl)
   go_wp2_with fail
   go_ret
   exact retDk_ok HX.out HR.out.desk HR.out.low HR.out.fr
end
section
def ordOf (c:Cm) (v:Vn):Od:=⟨v.next,c.acc,c.o.side,c.o.price,c.o.qty⟩
def ordRed (c:Cm) (v:Vn) (p:Int):Od:=⟨v.next,c.acc,c.o.side,c.o.price,min c.o.qty (max p (-p))⟩
def ordStart (c:Cm) (mk:Nat) (d:Dk):Dk:=tell ⟨{ d.v with next:=d.v.next + 1 },d.ev⟩ ⟨2,0,mk,d.v.next,c.acc,0,zeroFl⟩
theorem order_eq {c:Cm} {d:Dk} {mk:Nat} (hm:mk=c.market.toNat) :
  orderE c d=if ordErr (ordOf c d.v) ≠ 0 then .error (ordErr (ordOf c d.v)) else if c.reduce=true∧c.how ≠ 2 then .error 4
   else if thereB d.v.accs c.acc=false∨c.market < 0∨(d.v.mks.length:Int) ≤ c.market then .error 5
   else if d.v.next=100000 then .error 7
   else if c.reduce=true∧0 ≤ (accAt d.v (placeOf d.v.accs c.acc)).pos.getD mk 0 * c.o.side then .error 12
   else comesE c (if c.reduce then ordRed c d.v ((accAt d.v (placeOf d.v.accs c.acc)).pos.getD mk 0) else ordOf c d.v) (placeOf d.v.accs c.acc) mk (ordStart c mk d):=by
 subst hm;rfl
def comesLeft (c:Cm) (o:Od) (mk:Nat) (left:Int) (d:Dk):Dk:=if 0 < left then tell d ⟨4,0,mk,o.id,c.acc,left,zeroFl⟩ else d
def comesTail (c:Cm) (o:Od) (k mk:Nat) (l:List Fl) (left:Int) (d:Dk):Except Int Dk :=
 let d2:=comesLeft c o mk left d
 if c.reduce then .ok d2
 else okIf (tradeOf (accAt d2.v k) mk (o.side * (o.qty - left - qtySum l)) o.price 0).2 (okIf (beginErr d2.v (tradeOf (accAt d2.v k) mk (o.side * (o.qty - left - qtySum l)) o.price 0).1) (.ok d2))
theorem comes_eq {c:Cm} {o:Od} {k mk:Nat} {d:Dk} {m:Mk} {x:Bk} {l:List Fl} {left te:Int} (hm:d.v.mks[mk]?=some m) (ht:comeOf m.book o c.how=(x,l,left,te)) :
  comesE c o k mk d=okIf te (bindE (fillsE mk false l ⟨setMk d.v mk { m with book:=x },d.ev⟩) (comesTail c o k mk l left)):=by
 have hat:mkAt d.v mk=m:=getD_some hm
 unfold comesE
 rw [hat,ht]
 rfl
theorem tail_red {c:Cm} {o:Od} {k mk:Nat} {d:Dk} {l:List Fl} {left:Int} (hr:c.reduce=true):comesTail c o k mk l left d=.ok (comesLeft c o mk left d):=by unfold comesTail;simp only [hr,if_true]
theorem tail_plain {c:Cm} {o:Od} {k mk:Nat} {d d2:Dk} {l:List Fl} {left te:Int} {a x:Ac} (hr:c.reduce=false) (hd:comesLeft c o mk left d=d2) (ha:d2.v.accs[k]?=some a) (ht:tradeOf a mk (o.side * (o.qty - left - qtySum l)) o.price 0=(x,te)) :
  comesTail c o k mk l left d=okIf te (okIf (beginErr d2.v x) (.ok d2)):=by
 have hat:accAt d2.v k=a:=getD_some ha
 unfold comesTail
 simp only [hd,hat,ht]
 rw [hr];rfl
theorem left_v {c:Cm} {o:Od} {mk:Nat} {left:Int} {d:Dk}:(comesLeft c o mk left d).v=d.v:=by unfold comesLeft;split <;> rfl
theorem comeOf_cnt {b x:Bk} {o:Od} {how left:Int} {l:List Fl} (h:comeOf b o how=(x,l,left,0)):l.length ≤ 40:=by
 obtain ⟨hb,ho,_,hh,L,rem,ht,_⟩:=come_ok h
 have:=takeL_cnt (o:=o) (l:=otherOf b o.side) (left:=o.qty)
 rw [ht] at this
 have hl:=hb.len
 have h2:(otherOf b o.side).length ≤ 40:=by unfold otherOf;split <;> omega
 have h3:l.length ≤ (otherOf b o.side).length:=this
 omega
structure ComePre (d:Dk) (mk:Nat) (m:Mk) (o:Od) (x:Bk) (l:List Fl) (left:Int):Prop where
 lens:x.bids.length ≤ 4000000000000∧x.asks.length ≤ 4000000000000
 cnt:l.length ≤ 40
 fl:∀ f ∈ l,((0 ≤ f.tacc∧f.tacc ≤ 7)∧(0 ≤ f.macc∧f.macc ≤ 7)∧(-1000 ≤ f.side * f.qty∧f.side * f.qty ≤ 1000))
 fs:∀ f ∈ l,(1 ≤ f.qty∧f.qty ≤ 1000)∧(f.side=1∨f.side = -1)∧(0 ≤ f.price∧f.price ≤ 10000)
 lef:0 ≤ left∧left ≤ 1000
 sum:0 ≤ qtySum l∧qtySum l + left ≤ o.qty
 ord:ordErr o=0
 ok:VOk (setMk d.v mk { m with book:=x })
theorem come_pre {d:Dk} {mk:Nat} {m:Mk} {o:Od} {x:Bk} {l:List Fl} {how left:Int} (h:VOk d.v) (hm:d.v.mks[mk]?=some m) (ha:thereB d.v.accs o.acc=true) (hi:o.id < d.v.next) (ht:comeOf m.book o how=(x,l,left,0)):ComePre d mk m o x l left:=by
 obtain ⟨hb,ho,hy,hf,hl0,hl2,hq,_⟩:=come_more ht
 have hop:=ordErr_ok.1 ho
 have hat:mkAt d.v mk=m:=getD_some hm
 have hlt:mk < d.v.mks.length:=(List.getElem?_eq_some_iff.1 hm).1
 have hbk:=(marketErr_ok.1 (mkAt_ok h hlt).1).1
 rw [hat] at hbk
 obtain ⟨m1,m2⟩:=come_mk h hlt hb ha hi (by rw [hat];exact hy)
 rw [hat] at m1
 have s1:=step_mk (place:=true) (d:=d) (k:=mk) (m:={ m with book:=x }) h m1 m2
 have hfo:=fills_ok hbk hop.2.2.1 hf
 refine ⟨by have:=hb.len;omega,comeOf_cnt ht,fun f hf'=>?_,hfo,?_,hq,ho,s1.ok⟩
 ·obtain ⟨z,hz,_,g2,_,_,g5,g6,_⟩:=hf f hf'
  obtain ⟨q1,q2,_⟩:=hfo f hf'
  have hz':=ordErr_ok.1 (own_mem hbk hz).2
  have h1:=hop.2.1
  refine ⟨by omega,by omega,?_⟩
  rcases q2 with q2 | q2 <;> rw [q2] <;> omega
 ·have:=hop.2.2.2.2;omega
theorem fills_keep' {mk:Nat} {l:List Fl} {d d':Dk} (h:VOk d.v) (hl:∀ f ∈ l,(1 ≤ f.qty∧f.qty ≤ 1000)∧(f.side=1∨f.side = -1)∧(0 ≤ f.price∧f.price ≤ 10000)) (hm:mk < d.v.mks.length) (he:fillsE mk false l d=.ok d') :
  VOk d'.v∧d'.v.mks.length=d.v.mks.length∧d'.v.accs.length=d.v.accs.length:=by
 obtain ⟨s,i,_⟩:=step_fills (place:=true) h hl hm he
 refine ⟨s.ok,s.len,?_⟩
 have e:=congrArg List.length i
 simpa only [List.length_map] using e
theorem start_ok {c:Cm} {mk:Nat} {d:Dk} (h:VOk d.v) (hn:d.v.next ≠ 100000):VOk (ordStart c mk d).v :=
 ⟨h.len,h.accs,⟨h.nums.ins,h.nums.resid,by have:=h.nums.next;simp only [ordStart,tell];omega,h.nums.inn,h.nums.out⟩,h.money,h.pos,mok_there h.mks (fun _ h=>h) (by simp only [ordStart,tell];omega)⟩
theorem qtySum_next {l:List Fl} {j:Nat} {f:Fl} (h:l[j]?=some f):qtySum (l.take (j + 1))=qtySum (l.take j) + f.qty:=by
 unfold qtySum
 rw [List.take_add_one,h]
 simp
theorem qtySum_bd {l:List Fl} (h:∀ f ∈ l,1 ≤ f.qty∧f.qty ≤ 1000):0 ≤ qtySum l∧qtySum l ≤ 1000 * l.length:=by
 induction l with
 | nil=>simp [qtySum]
 | cons f l ih =>
  have h1:=h f (by simp)
  obtain ⟨h2,h3⟩:=ih fun g hg=>h g (by simp [hg])
  simp only [qtySum,List.map_cons,List.sum_cons,List.length_cons] at *
  omega
end
section
open Go.RowKit
theorem desk_next {w Z:World} {base D c k:Nat} {ap:Bool} {d:Dk} {A M:Option Addr} {vE:Value} {xs ys:List Value} {n:Int} (h:Desk w base D ap d A c M k vE xs ys) (hZ:Z=w.setCell ⟨D,4,none⟩ (.int .i64 n)) :
  Desk Z base D ap ⟨{ d.v with next:=n },d.ev⟩ A c M k vE xs ys:=by
 have hK:Kept [174] w Z:=by rw [hZ];exact (Kept.refl _ w).set h.blk (by decide) _ _
 refine ⟨?_,h.low,h.accs.kept hK (by decide) (by decide),h.mks.kept hK (by decide) (by decide),hK.own h.evs (by decide)⟩
 rw [hZ];exact h.blk.set_ 4 _
theorem ordErr_ref {n:Int} (o:Od) (w:World) (hr:ordErr o=n):Calls Try.prog 85 #[.agg #[.int .i64 o.id,.int .i64 o.acc,.int .i64 o.side,.int .i64 o.price,.int .i64 o.qty]] w fun e w'=>e=.returned (.int .i64 n)∧Below w.heap.size w w':=by
 have:=ordErr_any o w
 rw [hr] at this;exact this
set_option maxHeartbeats 8000000 in
set_option maxRecDepth 100000 in
theorem order_plain (base D:Nat) (d:Dk) (A:Option Addr) (c:Nat) (M:Option Addr) (k:Nat) (vE:Value) (xs ys:List Value) (cm:Cm) (w:World) (h:Desk w base D false d A c M k vE xs ys) (hb:base ≤ w.heap.size) (hv:VOk d.v) (hl:d.ev.length ≤ 700000) (hr:cm.reduce=false) :
  Calls Try.prog 173 #[.pointer (some ⟨D,0,none⟩),.agg #[.int .i64 cm.kind,.int .i64 cm.acc,.int .i64 cm.market,.int .i64 cm.n,.int .i64 cm.o.id,.int .i64 cm.o.acc,.int .i64 cm.o.side,.int .i64 cm.o.price,.int .i64 cm.o.qty,.int .i64 cm.how,.bool cm.reduce]] w (RetDk w base D false A c M k [174,124] (D :: (ab A ++ ab M)) (orderE cm d)):=by
 have HD:=Lib.hid h
 have HV:=Lib.hid hv
 have hDl:=h.lt
 obtain ⟨hv1,hv2⟩:=hv.len
 have hal:=aok_len hv.accs
 have hnx:=hv.nums.next
 have HE:=Lib.hid (order_eq (c:=cm) (d:=d) rfl)
 have HRD:=Lib.hid hr
 clear h hv
 rw [hr]
 clear hr
 go_enter Try.func173,Try.ntmps173
 go_wp2_with fail
 refine wp_name ?_
 intro W1 hW1
 have hB1:Below w.heap.size w W1:=by rw [hW1];exact ((Below.refl _ _).alloc (Nat.le_refl _) _).alloc (by simp) _
 have X1:Blk W1 w.heap.size 113 #[.int .i64 cm.kind,.int .i64 cm.acc,.int .i64 cm.market,.int .i64 cm.n,.int .i64 cm.o.id,.int .i64 cm.o.acc,.int .i64 cm.o.side,.int .i64 cm.o.price,.int .i64 cm.o.qty,.int .i64 cm.how,.bool false]:=by rw [hW1];exact (Blk.new w _ _).alloc _
 obtain ⟨bo,hbo⟩:∃ bo,bo=w.heap.size + 1:=⟨_,rfl⟩
 have O1:Blk W1 bo 71 #[.int .i64 cm.o.id,.int .i64 cm.o.acc,.int .i64 cm.o.side,.int .i64 cm.o.price,.int .i64 cm.o.qty]:=by rw [hW1];exact Blk.new_at _ _ _ _ (by simp [hbo])
 have hs1:=hB1.size
 have HD1:=Lib.hid (HD.out.below hB1)
 rw [← hbo]
 have hbow:w.heap.size < bo:=by omega
 clear hW1 hbo
 obtain ⟨⟨-,-,-,-,k4,-,-,-⟩,-⟩:=HD1.out.blk.c8
 have x1:W1.cell? ⟨w.heap.size,1,none⟩=some (.int .i64 cm.acc):=X1.cell 1
 obtain ⟨⟨p0,p1,-,-,-⟩,f0,f1,-⟩:=O1.c5
 have y1:=X1.lt
 have y2:=O1.lt
 have y3:D < W1.heap.size:=HD1.out.lt
 go_wp2_with fail
 go_region
 refine exit_name ?_
 intro W2 hW2
 have hB2:Below w.heap.size w W2:=by rw [hW2];exact below_drewN ((hB1.setCell (Nat.le_of_lt hbow) _).setCell (Nat.le_of_lt hbow) _) 1
 have hF2:Fr [] [bo] W1 W2:=by rw [hW2];exact (((Fr.refl _ _ _).set O1 (.inr (by simp)) _ _).set (O1.set_ _ _) (.inr (by simp)) _ _).drewN 1
 have O2:Blk W2 bo 71 #[.int .i64 d.v.next,.int .i64 cm.acc,.int .i64 cm.o.side,.int .i64 cm.o.price,.int .i64 cm.o.qty]:=by rw [hW2];exact Blk.drewN ((O1.set_ 0 _).set_ 1 _) 1
 have X2:=X1.fr hF2 (by simp) (by simp;omega)
 have hs2:=hF2.size
 clear hW2 hF2 O1 X1 hB1 k4 x1 p0 p1 f0 f1
 obtain ⟨eo,heo⟩:∃ eo,ordErr ⟨d.v.next,cm.acc,cm.o.side,cm.o.price,cm.o.qty⟩=eo:=⟨_,rfl⟩
 have HEO:=Lib.hid heo
 clear heo
 obtain ⟨⟨p0,p1,p2,p3,p4⟩,-⟩:=O2.c5
 replace y1:=X2.lt
 replace y2:=O2.lt
 go_wp2_with fail
 refine (ordErr_ref ⟨d.v.next,cm.acc,cm.o.side,cm.o.price,cm.o.qty⟩ W2 HEO.out).mono ?_
 rintro e W3 ⟨rfl,hb3⟩
 have hB3:=hB2.trans (hb3.mono (by omega))
 have X3:=X2.below hb3 y1
 have O3:=O2.below hb3 y2
 have HD3:=Lib.hid (HD.out.below hB3)
 have hs3:=hb3.size
 clear hb3 hB2 X2 O2 p0 p1 p2 p3 p4
 by_cases he:eo=0
 rotate_left
 ·have he':(eo != 0)=true:=by simpa using he
  have HEE:=Lib.hid (show orderE cm d=.error eo from HE.out.trans (by rw [show ordErr (ordOf cm d.v)=eo from HEO.out];exact if_pos he))
  have HN:=Lib.hid he
  clear he
  go_wp2_with fail
  go_ret
  exact retDk_err HEE.out HN.out (hB3.mono hb)
 subst he
 have HE1:=Lib.hid (HE.out.trans (if_neg (by rw [show ordErr (ordOf cm d.v)=0 from HEO.out];simp)))
 have HOK:=Lib.hid (ordErr_ok.1 HEO.out)
 have HE2:=Lib.hid (HE1.out.trans (if_neg (by rw [HRD.out];simp)))
 have x10:W3.cell? ⟨w.heap.size,10,none⟩=some (.bool false):=X3.cell 10
 replace y1:=X3.lt
 replace y2:=O3.lt
 go_wp2_with fail
 obtain ⟨⟨k0,k1,k2,k3,k4,k5,k6,-⟩,-⟩:=HD3.out.blk.c8
 have x1:W3.cell? ⟨w.heap.size,1,none⟩=some (.int .i64 cm.acc):=X3.cell 1
 replace y3:D < W3.heap.size:=HD3.out.lt
 have h00:Below W3.heap.size W3 W3:=Below.refl _ _
 have KS:Hid (∀ W,Below W3.heap.size W3 W→Below W3.heap.size W3 W∧W.cell? ⟨w.heap.size,1,none⟩=some (.int .i64 cm.acc)∧W.cell? ⟨D,0,none⟩=some (.slice A d.v.accs.length c)∧W.cell? ⟨D,1,none⟩=some (.slice M d.v.mks.length k) ∧
   W.cell? ⟨D,2,none⟩=some (.int .i64 d.v.ins)∧W.cell? ⟨D,3,none⟩=some (.int .i64 d.v.resid)∧W.cell? ⟨D,4,none⟩=some (.int .i64 d.v.next)∧W.cell? ⟨D,5,none⟩=some (.int .i64 d.v.inn)∧W.cell? ⟨D,6,none⟩=some (.int .i64 d.v.out)):=by
  intro W hW
  obtain ⟨⟨k0,k1,k2,k3,k4,k5,k6,k7⟩,-⟩:=(HD3.out.below hW).blk.c8
  exact ⟨hW,(X3.below hW X3.lt).cell 1,k0,k1,k2,k3,k4,k5,k6⟩
 clear k0 k1 k2 k3 k4 k5 k6 x1 x10
 have HID:=Lib.hid (show 0 ≤ cm.acc∧cm.acc ≤ 7 from HOK.out.2.1)
 rcases (bool_cs' (thereB d.v.accs cm.acc)).symm with hth | hth
 ·have HTH:=Lib.hid hth
  have HEE:=Lib.hid (HE2.out.trans (if_pos (.inl hth)))
  clear hth
  go_region_held3 (fun W=>Below W3.heap.size W3 W∧W.cell? ⟨w.heap.size,1,none⟩=some (.int .i64 cm.acc)∧W.cell? ⟨D,0,none⟩=some (.slice A d.v.accs.length c)∧W.cell? ⟨D,1,none⟩=some (.slice M d.v.mks.length k) ∧
    W.cell? ⟨D,2,none⟩=some (.int .i64 d.v.ins)∧W.cell? ⟨D,3,none⟩=some (.int .i64 d.v.resid)∧W.cell? ⟨D,4,none⟩=some (.int .i64 d.v.next)∧W.cell? ⟨D,5,none⟩=some (.int .i64 d.v.inn)∧W.cell? ⟨D,6,none⟩=some (.int .i64 d.v.out))
   (first | exact KS.out _ (by assumption) | exact KS.out _ (dk_drew (by assumption)))
   ((go_at_call 177;go_split_ands;(with_reducible refine (place_any d.v A M c k cm.acc _ _ (HD3.out.below (by first | assumption | exact dk_drew (by assumption))).accs.read (Nat.le_refl _) HV.out.accs.sorted (aok_ids HV.out.accs) HID.out hal).mono ?_);rintro e W4 ⟨he,hb4⟩;rw [HTH.out] at he;subst he;have hB4:=dk_next (w0:=W3) hb4 (by first | assumption | exact dk_drew (by assumption))))
  refine exit_name ?_
  rintro W hW
  obtain rfl:W4=W:=hW.symm
  clear hb4 hW KS h00
  have HD4:=Lib.hid (HD3.out.below hB4)
  have hL4:=hB3.trans (hB4.mono (by omega))
  have X4:=X3.below hB4 X3.lt
  have O4:=O3.below hB4 O3.lt
  have hs4:=hB4.size
  clear hB4
  go_wp2_with fail
  go_quiet (fail)
  go_wp2_with fail
  go_ret
  exact retDk_err HEE.out (by omega) ((below_drewN hL4 _).mono hb)
 have HTH:=Lib.hid hth
 obtain ⟨a,hk,hid⟩:=place_there HV.out.accs.sorted hth
 have HK:=Lib.hid hk
 have HTN:=Lib.hid (show ¬ thereB d.v.accs cm.acc=false by rw [hth];simp)
 clear hth hid hk
 go_region_held3 (fun W=>Below W3.heap.size W3 W∧W.cell? ⟨w.heap.size,1,none⟩=some (.int .i64 cm.acc)∧W.cell? ⟨D,0,none⟩=some (.slice A d.v.accs.length c)∧W.cell? ⟨D,1,none⟩=some (.slice M d.v.mks.length k) ∧
   W.cell? ⟨D,2,none⟩=some (.int .i64 d.v.ins)∧W.cell? ⟨D,3,none⟩=some (.int .i64 d.v.resid)∧W.cell? ⟨D,4,none⟩=some (.int .i64 d.v.next)∧W.cell? ⟨D,5,none⟩=some (.int .i64 d.v.inn)∧W.cell? ⟨D,6,none⟩=some (.int .i64 d.v.out))
  (first | exact KS.out _ (by assumption) | exact KS.out _ (dk_drew (by assumption)))
  ((go_at_call 177;go_split_ands;(with_reducible refine (place_any d.v A M c k cm.acc _ _ (HD3.out.below (by first | assumption | exact dk_drew (by assumption))).accs.read (Nat.le_refl _) HV.out.accs.sorted (aok_ids HV.out.accs) HID.out hal).mono ?_);rintro e W4 ⟨he,hb4⟩;rw [HTH.out] at he;subst he;have hB4:=dk_next (w0:=W3) hb4 (by first | assumption | exact dk_drew (by assumption))))
 refine exit_name ?_
 rintro W hW
 obtain rfl:W4=W:=hW.symm
 clear hb4 hW KS h00
 have HD4:=Lib.hid (HD3.out.below hB4)
 have hL4:=hB3.trans (hB4.mono (by omega))
 have X4:=X3.below hB4 X3.lt
 have O4:=O3.below hB4 O3.lt
 have hs4:=hB4.size
 clear hB4
 obtain ⟨i,hi⟩:∃ i,i=placeOf d.v.accs cm.acc:=⟨_,rfl⟩
 have HI:=Lib.hid hi
 rw [← hi]
 have HK':=Lib.hid (show d.v.accs[i]?=some a by rw [hi];exact HK.out)
 clear hi
 have x2:W4.cell? ⟨w.heap.size,2,none⟩=some (.int .i64 cm.market):=X4.cell 2
 obtain ⟨⟨-,k1,-⟩,-⟩:=HD4.out.blk.c8
 have y5:=X4.lt
 have y6:D < W4.heap.size:=HD4.out.lt
 by_cases h1:cm.market < 0
 ·have HEE:=Lib.hid (HE2.out.trans (if_pos (.inr (.inl h1))))
  go_wp2_with fail
  go_quiet (fail)
  go_wp2_with fail
  go_ret
  exact retDk_err HEE.out (by omega) ((below_drewN hL4 _).mono hb)
 by_cases h2:(d.v.mks.length:Int) ≤ cm.market
 ·have HEE:=Lib.hid (HE2.out.trans (if_pos (.inr (.inr h2))))
  have hd1:decide (cm.market < 0)=false:=decide_eq_false h1
  have hd2:decide ((d.v.mks.length:Int) ≤ cm.market)=true:=decide_eq_true h2
  go_wp2_with fail
  go_quiet (fail)
  go_wp2_with fail
  go_ret
  exact retDk_err HEE.out (by omega) ((below_drewN hL4 _).mono hb)
 obtain ⟨mk,hmk⟩:∃ mk:Nat,cm.market=(mk:Int):=⟨cm.market.toNat,by omega⟩
 have HE3:=Lib.hid (HE2.out.trans (if_neg (by rintro (h | h | h);exact HTN.out h;exact h1 h;exact h2 h)))
 have HMK:=Lib.hid hmk
 rw [hmk] at x2 X4
 rw [hmk]
 have h3:mk < d.v.mks.length:=by omega
 have hd1:decide ((mk:Int) < 0)=false:=decide_eq_false (by omega)
 have hd2:decide ((d.v.mks.length:Int) ≤ (mk:Int))=false:=decide_eq_false (by omega)
 have hd3:decide (d.v.mks.length ≤ mk)=false:=decide_eq_false (by omega)
 clear h1 h2 hmk
 go_wp2_with fail
 go_quiet (fail)
 refine exit_name ?_
 intro W5 hW5
 have hB5:Below W4.heap.size W4 W5:=by rw [hW5];exact below_drewN (Below.refl _ _) _
 have HD5:=Lib.hid (HD4.out.below hB5)
 have hL5:=hL4.trans (hB5.mono (by omega))
 have X5:=X4.below hB5 X4.lt
 have O5:=O4.below hB5 O4.lt
 have hs5:=hB5.size
 clear hW5 hB5 k1 x2 hd1 hd2 hd3 hL4 X4 O4
 obtain ⟨⟨-,-,-,-,k4,-⟩,-,-,-,-,f4,-⟩:=HD5.out.blk.c8
 replace y6:D < W5.heap.size:=HD5.out.lt
 replace y5:=X5.lt
 by_cases hn:d.v.next=100000
 ·have hn':(d.v.next == 100000)=true:=by simpa using hn
  have HEE:=Lib.hid (HE3.out.trans (if_pos hn))
  clear hn
  go_wp2_with fail
  go_ret
  exact retDk_err HEE.out (by omega) (hL5.mono hb)
 have hn':(d.v.next == 100000)=false:=by simpa using hn
 have HE4:=Lib.hid (HE3.out.trans (if_neg hn))
 have HNX:=Lib.hid hn
 have hnx1:1 ≤ d.v.next:=by omega
 have hnx2:d.v.next ≤ 99999:=by omega
 have x10:W5.cell? ⟨w.heap.size,10,none⟩=some (.bool false):=X5.cell 10
 have x1:W5.cell? ⟨w.heap.size,1,none⟩=some (.int .i64 cm.acc):=X5.cell 1
 have x2:W5.cell? ⟨w.heap.size,2,none⟩=some (.int .i64 mk):=X5.cell 2
 have o0:W5.cell? ⟨bo,0,none⟩=some (.int .i64 d.v.next):=O5.cell 0
 have y7:=O5.lt
 clear hn
 obtain ⟨q,hq⟩:∃ q,q=cm.o.qty:=⟨_,rfl⟩
 have hq1:1 ≤ q∧q ≤ 1000:=by rw [hq];exact HOK.out.2.2.2.2
 rw [← hq] at O5
 have HC:=Lib.hid (show orderE cm d=comesE cm ⟨d.v.next,cm.acc,cm.o.side,cm.o.price,q⟩ i mk (ordStart cm mk d) by
  rw [HE4.out,if_neg (by rw [HRD.out];simp),HRD.out,if_neg (by simp),HMK.out,hq,HI.out];rfl)
 clear hq
 go_wp2_with fail
 refine calls_name ?_
 intro W6 hW6
 have HD6:=Lib.hid (desk_next HD5.out hW6)
 have hF6:Fr [174] [] W5 W6:=by rw [hW6];exact (Fr.refl _ _ _).set HD5.out.blk (.inl (by simp)) _ _
 have hL6:Below base w W6:=by rw [hW6];exact (hL5.mono hb).setCell HD5.out.low _
 have X6:=X5.fr hF6 (by decide) (by simp)
 have O6:=O5.fr hF6 (by decide) (by simp)
 have hs6:=hF6.size
 have hb6:base ≤ W6.heap.size:=by omega
 have HF6:=Lib.hid ((Fr.of_below [174,124] (D :: (ab A ++ ab M)) hL5).trans (hF6.mono (by simp) (by simp)))
 clear hW6 hF6 hL5 X5 O5 x1 x2 x10 o0 k4 f4
 refine (tell_dk base D false ⟨{ d.v with next:=d.v.next + 1 },d.ev⟩ A c M k vE xs ys ⟨2,0,mk,d.v.next,cm.acc,0,zeroFl⟩ W6 HD6.out hb6 (by show d.ev.length ≤ _;omega)).mono ?_
 rintro e W7 ⟨rfl,⟨vE7,hd7⟩,hL7,hK7⟩
 have HD7:=Lib.hid (show Desk W7 base D false (ordStart cm mk d) A c M k vE7 xs ys from hd7)
 have X7:=X6.kept hK7 (by decide)
 have O7:=O6.kept hK7 (by decide)
 have HL7:=Lib.hid (hL6.trans hL7)
 have HF7:=Lib.hid (HF6.out.trans (hK7.fr _))
 have HV7:=Lib.hid (start_ok (c:=cm) (mk:=mk) HV.out HNX.out)
 have hs7:=hK7.size
 have hev7:(ordStart cm mk d).ev.length=d.ev.length + 1:=by show (d.ev ++ [_]).length=_;rw [List.length_append];rfl
 have hmk7:(ordStart cm mk d).v.mks=d.v.mks:=rfl
 have hac7:(ordStart cm mk d).v.accs=d.v.accs:=rfl
 have hnx7:(ordStart cm mk d).v.next=d.v.next + 1:=rfl
 clear hd7 hL7 hK7 X6 O6 hL6
 obtain ⟨d7,hd7⟩:∃ d7,ordStart cm mk d=d7:=⟨_,rfl⟩
 rw [hd7] at HD7 HV7 HC hev7 hmk7 hac7 hnx7
 clear hd7
 obtain ⟨m,hm⟩:∃ m,d7.v.mks[mk]?=some m:=⟨_,List.getElem?_eq_getElem (by rw [hmk7];exact h3)⟩
 obtain ⟨x,l,left,te,hcm⟩:∃ x l left te,comeOf m.book ⟨d.v.next,cm.acc,cm.o.side,cm.o.price,q⟩ cm.how=(x,l,left,te):=⟨_,_,_,_,rfl⟩
 have HCE:=Lib.hid (HC.out.trans (comes_eq hm hcm))
 have HM:=Lib.hid hm
 have HCM:=Lib.hid hcm
 have HTA:=Lib.hid (show thereB d7.v.accs cm.acc=true by rw [hac7];exact HTH.out)
 have HNN:=Lib.hid (show d.v.next < d7.v.next by rw [hnx7];omega)
 have hml:d7.v.mks.length=d.v.mks.length:=by rw [hmk7]
 have HAL:=Lib.hid (show d7.v.accs.length=d.v.accs.length by rw [hac7])
 obtain ⟨gm,A3,c3,A4,c4,rfl,hg3,hg4,hin4,-,⟨r0,r1,-,-⟩,-,hbk,hl1,hl2,-⟩:=omk_at HD7.out.mks hm
 have HBK4:=Lib.hid hbk.read
 have hm0:(0:Int) ≤ (mk:Int):=by omega
 have hm1:(mk:Int) < (d7.v.mks.length:Int):=by omega
 replace y6:D < W7.heap.size:=HD7.out.lt
 replace y5:=X7.lt
 replace y7:=O7.lt
 have h00:Below W7.heap.size W7 W7:=Below.refl _ _
 have KS:Hid (∀ W,Below W7.heap.size W7 W→Below W7.heap.size W7 W∧W.cell? ⟨D,1,none⟩=some (.slice (some ⟨gm,0,none⟩) d7.v.mks.length k)∧W.cell? ⟨gm,mk * 4,none⟩=some (.slice A3 m.book.bids.length c3)∧W.cell? ⟨gm,mk * 4 + 1,none⟩=some (.slice A4 m.book.asks.length c4) ∧
   W.cell? ⟨bo,0,none⟩=some (.int .i64 d.v.next)∧W.cell? ⟨bo,1,none⟩=some (.int .i64 cm.acc)∧W.cell? ⟨bo,2,none⟩=some (.int .i64 cm.o.side)∧W.cell? ⟨bo,3,none⟩=some (.int .i64 cm.o.price)∧W.cell? ⟨bo,4,none⟩=some (.int .i64 q) ∧
   W.cell? ⟨w.heap.size,2,none⟩=some (.int .i64 mk)∧W.cell? ⟨w.heap.size,9,none⟩=some (.int .i64 cm.how)):=by
  intro W hW
  obtain ⟨⟨-,k1,-⟩,-⟩:=(HD7.out.below hW).blk.c8
  obtain ⟨⟨z0,z1,z2,z3,z4⟩,-⟩:=(O7.below hW O7.lt).c5
  exact ⟨hW,k1,(hW.cell (p:=⟨gm,_,none⟩) hg4).trans r0,(hW.cell (p:=⟨gm,_,none⟩) hg4).trans r1,z0,z1,z2,z3,z4,(X7.below hW X7.lt).cell 2,(X7.below hW X7.lt).cell 9⟩
 clear r0 r1 hbk hm hcm hmk7 hac7 hnx7
 go_upto_region 20 with (fail)
 go_cut [10,11,12,13] (fun vb vl vn ve wx=>∃ (gB:Nat) (P:Option Addr) (pc:Nat) (P':Option Addr) (pc':Nat) (AL:Option Addr) (cL:Nat),vb=.pointer (some ⟨gB,0,none⟩)∧vl=.slice AL l.length cL∧vn=.int .i64 left∧ve=.int .i64 te∧Below W7.heap.size W7 wx ∧
  Hid (OBk wx W7.heap.size P P' pc pc' x)∧Hid (wx.ownsRow W7.heap.size 87 7 (.slice AL l.length cL) l.length (flCells l))∧Hid (Blk wx gB 62 #[.slice P x.bids.length pc,.slice P' x.asks.length pc']))
 case first =>
  go_region_held3 (fun W=>Below W7.heap.size W7 W∧W.cell? ⟨D,1,none⟩=some (.slice (some ⟨gm,0,none⟩) d7.v.mks.length k)∧W.cell? ⟨gm,mk * 4,none⟩=some (.slice A3 m.book.bids.length c3)∧W.cell? ⟨gm,mk * 4 + 1,none⟩=some (.slice A4 m.book.asks.length c4) ∧
    W.cell? ⟨bo,0,none⟩=some (.int .i64 d.v.next)∧W.cell? ⟨bo,1,none⟩=some (.int .i64 cm.acc)∧W.cell? ⟨bo,2,none⟩=some (.int .i64 cm.o.side)∧W.cell? ⟨bo,3,none⟩=some (.int .i64 cm.o.price)∧W.cell? ⟨bo,4,none⟩=some (.int .i64 q) ∧
    W.cell? ⟨w.heap.size,2,none⟩=some (.int .i64 mk)∧W.cell? ⟨w.heap.size,9,none⟩=some (.int .i64 cm.how))
   (first | exact KS.out _ (by assumption) | exact KS.out _ (dk_drew (by assumption)) | exact KS.out _ (Below.alloc (by assumption) (Below.size (by assumption)) _) | exact KS.out _ (dk_drew (Below.alloc (by assumption) (Below.size (by assumption)) _)) | exact KS.out _ (Below.setCell (Below.setCell (by first | assumption | exact Below.alloc (by assumption) (by assumption) _) (by dsimp only;omega) _) (by dsimp only;omega) _))
   ((go_at_call 81;go_split_ands;(with_reducible refine (come_ref m.book ⟨d.v.next,cm.acc,cm.o.side,cm.o.price,q⟩ cm.how A3 A4 c3 c4 W7.heap.size _ HCM.out (HBK4.out.below (by assumption)) (Below.size (by assumption)) hl1 hl2).mono ?_);rintro e W8 ⟨P,pc,P',pc',vf,rfl,hobk,hrow,hb8⟩;obtain ⟨AL,cL,rfl⟩:=own_shape hrow;have hB8:=dk_next (w0:=W7) hb8 (by assumption);have hs8:=hB8.size;try have z1:=(Blk.drewN (Blk.new W7 62 #[.slice none 0 0,.slice none 0 0]) 1).below hb8 (by simp);try have z2:=z1.lt;try obtain ⟨⟨z3,z4⟩,z5,z6⟩:=z1.c2))
  all_goals
   refine exit_name ?_
   intro W9 hW9
   have hbW:base ≤ W7.heap.size:=by omega
   have hB9:Below W7.heap.size W7 W9:=by rw [hW9];first | exact hB8.alloc hs8 _ | exact (hB8.setCell (by dsimp only;omega) _).setCell (by dsimp only;omega) _
   have HO9:Hid (OBk W9 W7.heap.size P P' pc pc' x):=by
    rw [hW9]
    first
     | exact ⟨own_mono (World.ownsRow.alloc hobk.l _) (Nat.le_refl _),own_mono (World.ownsRow.alloc hobk.r _) (Nat.le_refl _)⟩
     | exact ⟨own_mono (ownsRow_setCell_below (ownsRow_setCell_below hobk.l (by simp) _) (by simp) _) (by simp),own_mono (ownsRow_setCell_below (ownsRow_setCell_below hobk.r (by simp) _) (by simp) _) (by simp)⟩
   have HR9:Hid (W9.ownsRow W7.heap.size 87 7 (.slice AL l.length cL) l.length (flCells l)):=by
    rw [hW9]
    first
     | exact own_mono (World.ownsRow.alloc hrow _) (Nat.le_refl _)
     | exact own_mono (ownsRow_setCell_below (ownsRow_setCell_below hrow (by simp) _) (by simp) _) (by simp)
   first
    | have HB9:Hid (Blk W9 W8.heap.size 62 #[.slice P x.bids.length pc,.slice P' x.asks.length pc']):=by rw [hW9];exact Blk.new W8 _ _
    | have HB9:Hid (Blk W9 W7.heap.size 62 #[.slice P x.bids.length pc,.slice P' x.asks.length pc']):=by rw [hW9];exact (z1.set_ 0 _).set_ 1 _
   go_wp2_with fail
   go_meet
   exact ⟨_,_,_,_,_,_,_,rfl,rfl,rfl,rfl,hB9,HO9,HR9,HB9⟩
 case rest=>as_aux_lemma =>
  obtain ⟨gB,P,pc,P',pc',AL,cL,rfl,rfl,rfl,rfl,hB9,HO9,HR9,HB9⟩:=hcut
  obtain ⟨W9,rfl⟩:∃ W9,W9=wc:=⟨wc,rfl⟩
  have hbW:base ≤ W7.heap.size:=by omega
  have B9:=HB9.out
  have HD9:=Lib.hid (HD7.out.below hB9)
  have HL9:=Lib.hid (HL7.out.trans (hB9.mono (by omega)))
  have HF9:=Lib.hid (HF7.out.below hB9)
  have X9:=X7.below hB9 y5
  have O9:=O7.below hB9 y7
  have hs9:=hB9.size
  clear KS h00 HB9
  by_cases he:te=0
  rotate_left
  ·have he':(te != 0)=true:=by simpa using he
   have HEE:=Lib.hid (show orderE cm d=.error te by rw [HCE.out];unfold okIf;rw [if_pos he])
   have HN:=Lib.hid he
   clear he
   go_wp2_with fail
   go_ret
   exact retDk_err HEE.out HN.out HL9.out
  subst he
  have HP:=Lib.hid (come_pre HV7.out HM.out HTA.out HNN.out HCM.out)
  obtain ⟨g',A5,c5,A6,c6,hg',hg5,hg6,hin6,⟨cs,hgB⟩,⟨q0,q1,q2,q3⟩,⟨r0,r1,r2,r3⟩,-⟩:=omk_at HD9.out.mks HM.out
  obtain rfl:g'=gm:=by injection hg' with hg';injection hg' with hg';exact hg'.symm
  have HG:=Lib.hid hgB
  obtain ⟨⟨-,k1,-⟩,-⟩:=HD9.out.blk.c8
  have x2:W9.cell? ⟨w.heap.size,2,none⟩=some (.int .i64 mk):=X9.cell 2
  have y8:D < W9.heap.size:=HD9.out.lt
  have y9:=B9.lt
  have y10:=X9.lt
  clear hg' hgB
  obtain ⟨⟨kB90,kB91⟩,-⟩:=B9.c2
  go_wp2_with fail
  go_region
  refine exit_name ?_
  intro Z hZ
  have HDZ:=Lib.hid (desk_book HD9.out HM.out ⟨own_mono HO9.out.l hbW,own_mono HO9.out.r hbW⟩ HP.out.lens (by simp) HG.out hZ)
  have hFZ:Fr [174,124] (D :: (ab A ++ ab (some ⟨g',0,none⟩))) W9 Z:=by rw [hZ];exact (((Fr.refl _ _ _).set HG.out (.inr (by simp [ab])) _ _).set (HG.out.set_ _ _) (.inr (by simp [ab])) _ _).drewN 1
  have hLZ:Below base W9 Z:=by rw [hZ];exact below_drewN (((Below.refl _ _).setCell hg5 _).setCell hg5 _) 1
  have HRZ:=Lib.hid (hFZ.own HR9.out (by decide) (desk_far HD9.out HR9.out (by decide) (by decide) (by decide)))
  have HXZ:=Lib.hid (X9.fr hFZ (by decide) (desk_far_blk HD9.out X9 (by decide) (by decide) (by decide)))
  have HOZ:=Lib.hid (O9.fr hFZ (by decide) (desk_far_blk HD9.out O9 (by decide) (by decide) (by decide)))
  have HLZ:=Lib.hid (HL9.out.trans hLZ)
  have HFZ:=Lib.hid (HF9.out.trans hFZ)
  have hsZ:=hFZ.size
  have hbZ:base ≤ Z.heap.size:=by omega
  have xz2:Z.cell? ⟨w.heap.size,2,none⟩=some (.int .i64 mk):=HXZ.out.cell 2
  have yz:=HXZ.out.lt
  clear hZ hFZ hLZ k1 q0 q1 q2 q3 r0 r1 r2 r3 kB90 kB91 B9 X9 O9 x2
  go_wp2_with fail
  refine (fills_dk base D false ⟨setMk d7.v mk { m with book:=x },d7.ev⟩ A c _ k vE7 xs _ mk false l W7.heap.size AL cL Z HDZ.out hbZ HP.out.ok.accs (by have:=HP.out.cnt;show d7.ev.length + _ ≤ _;omega) HP.out.fl HRZ.out).mono ?_
  intro e W10 hret
  cases hfl:fillsE mk false l ⟨setMk d7.v mk { m with book:=x },d7.ev⟩ with
  | error n =>
   have HEE:=Lib.hid (show orderE cm d=.error n by rw [HCE.out,hfl];rfl)
   rw [hfl] at hret
   obtain ⟨hn,rfl,hL10⟩:=hret
   have hn':(n != 0)=true:=by simpa using hn
   have HN:=Lib.hid hn
   clear hfl hn
   go_wp2_with fail
   go_ret
   exact retDk_err HEE.out HN.out (HLZ.out.trans hL10)
  | ok d8 =>
   have HK8:=Lib.hid (fills_keep' HP.out.ok HP.out.fs (by show mk < (d7.v.mks.set mk _).length;rw [List.length_set,hml];exact h3) hfl)
   have hk3:=fillsE_len hfl
   replace hk3:d8.ev.length=d7.ev.length + l.length:=hk3
   have HCE8:=Lib.hid (show orderE cm d=comesTail cm ⟨d.v.next,cm.acc,cm.o.side,cm.o.price,q⟩ i mk l left d8 by rw [HCE.out,hfl];rfl)
   rw [hfl] at hret
   obtain ⟨rfl,⟨vE10,xs10,ys10,hd10⟩,hL10,hF10⟩:=hret
   have HD10:=Lib.hid hd10
   have HL10:=Lib.hid (HLZ.out.trans hL10)
   have HF10:=Lib.hid (HFZ.out.trans hF10)
   have HR10:=Lib.hid (hF10.own HRZ.out (by decide) (desk_far HDZ.out HRZ.out (by decide) (by decide) (by decide)))
   have X10:=HXZ.out.fr hF10 (by decide) (desk_far_blk HDZ.out HXZ.out (by decide) (by decide) (by decide))
   have O10:=HOZ.out.fr hF10 (by decide) (desk_far_blk HDZ.out HOZ.out (by decide) (by decide) (by decide))
   have hs10:=hF10.size
   have hlen8:d8.ev.length ≤ 900000:=by have:=HP.out.cnt;omega
   clear hfl hd10 hL10 hF10 xz2
   go_upto_if 163 with (fail)
   have hb10:base ≤ W10.heap.size:=by omega
   have hlf:=HP.out.lef
   go_cut [173] (fun _ wx=>∃ vE11,Hid (Desk wx base D false (comesLeft cm ⟨d.v.next,cm.acc,cm.o.side,cm.o.price,q⟩ mk left d8) A c (some ⟨g',0,none⟩) k vE11 xs10 ys10)∧Below base W10 wx∧Kept [174,124] W10 wx)
   case first =>
    by_cases hlp:0 < left
    ·have hlp':decide (0 < left)=true:=decide_eq_true hlp
     have HLD:=Lib.hid (show comesLeft cm ⟨d.v.next,cm.acc,cm.o.side,cm.o.price,q⟩ mk left d8=tell d8 ⟨4,0,mk,d.v.next,cm.acc,left,zeroFl⟩ from if_pos hlp)
     have x1:W10.cell? ⟨w.heap.size,1,none⟩=some (.int .i64 cm.acc):=X10.cell 1
     have x2:W10.cell? ⟨w.heap.size,2,none⟩=some (.int .i64 mk):=X10.cell 2
     have o0:W10.cell? ⟨bo,0,none⟩=some (.int .i64 d.v.next):=O10.cell 0
     have ya:=X10.lt
     have yb:=O10.lt
     go_wp2_with fail
     refine (tell_dk base D false d8 A c _ k vE10 xs10 ys10 ⟨4,0,mk,d.v.next,cm.acc,left,zeroFl⟩ W10 HD10.out hb10 (by omega)).mono ?_
     rintro e W11 ⟨rfl,⟨vE11,hd11⟩,hL11,hK11⟩
     have HD11:=Lib.hid (show Desk W11 base D false (comesLeft cm ⟨d.v.next,cm.acc,cm.o.side,cm.o.price,q⟩ mk left d8) A c (some ⟨g',0,none⟩) k vE11 xs10 ys10 by rw [HLD.out];exact hd11)
     clear hd11
     go_wp2_with fail
     go_meet
     exact ⟨vE11,HD11,hL11,hK11⟩
    ·have hlp':decide (0 < left)=false:=decide_eq_false hlp
     have HLD:=Lib.hid (show comesLeft cm ⟨d.v.next,cm.acc,cm.o.side,cm.o.price,q⟩ mk left d8=d8 from if_neg hlp)
     have HD11:=Lib.hid (show Desk W10 base D false (comesLeft cm ⟨d.v.next,cm.acc,cm.o.side,cm.o.price,q⟩ mk left d8) A c (some ⟨g',0,none⟩) k vE10 xs10 ys10 by rw [HLD.out];exact HD10.out)
     go_wp2_with fail
     go_meet
     exact ⟨vE10,HD11,Below.refl _ _,Kept.refl _ _⟩
   case rest=>as_aux_lemma =>
    obtain ⟨vE11,HD11,hL11,hK11⟩:=hcut
    obtain ⟨W11,rfl⟩:∃ W11,W11=wc:=⟨wc,rfl⟩
    obtain ⟨d9,hd9⟩:∃ d9,comesLeft cm ⟨d.v.next,cm.acc,cm.o.side,cm.o.price,q⟩ mk left d8=d9:=⟨_,rfl⟩
    rw [hd9] at HD11
    have HD9L:=Lib.hid hd9
    have hv9:d9.v=d8.v:=by rw [← hd9];exact left_v
    have HL11:=Lib.hid (HL10.out.trans hL11)
    have HF11:=Lib.hid (HF10.out.trans (hK11.fr _))
    have HR11:=Lib.hid (hK11.own HR10.out (by decide))
    have X11:=X10.kept hK11 (by decide)
    have O11:=O10.kept hK11 (by decide)
    have hs11:=hK11.size
    have HV9:=Lib.hid (show VOk d9.v∧d9.v.mks.length=d.v.mks.length∧d9.v.accs.length=d.v.accs.length by
     rw [hv9];refine ⟨HK8.out.1,HK8.out.2.1.trans ?_,HK8.out.2.2.trans HAL.out⟩
     show (d7.v.mks.set mk _).length=_
     rw [List.length_set,hml])
    clear hL11 hK11 X10 O10 hd9 hv9
    have x10:W11.cell? ⟨w.heap.size,10,none⟩=some (.bool false):=X11.cell 10
    have o4:W11.cell? ⟨bo,4,none⟩=some (.int .i64 q):=O11.cell 4
    have ya:=X11.lt
    have yb:=O11.lt
    go_wp2_with fail
    obtain ⟨a2,ha2⟩:∃ a,d9.v.accs[i]?=some a:=⟨_,List.getElem?_eq_getElem (by rw [HV9.out.2.2];exact (List.getElem?_eq_some_iff.1 HK'.out).1)⟩
    obtain ⟨Q,hQ⟩:∃ Q,qtySum l=Q:=⟨_,rfl⟩
    have hsum:=HP.out.sum
    rw [hQ] at hsum
    simp only at hsum
    have HQ:=Lib.hid hQ
    clear hQ
    have HFS:=Lib.hid (show ∀ f ∈ l,1 ≤ f.qty∧f.qty ≤ 1000 from fun f hf=>(HP.out.fs f hf).1)
    have hcnt:=HP.out.cnt
    go_loopw [15,182] (fun r t wr=>∃ (j:Nat) (z:Int),j ≤ l.length∧r=.int .i64 z∧t=.int .i64 j∧Hid (z=q - left - qtySum (l.take j))∧Below W11.heap.size W11 wr) (fun _ t _=>l.length - (intOf t).toNat)
    case atStart=>exact ⟨0,q - left,by omega,by go_num,rfl,Lib.hid (by simp [qtySum]),Below.refl _ _⟩
    case round =>
     obtain ⟨j,z,hj,rfl,rfl,HZ,hbr⟩:=hrel
     have hwr:=hbr.size
     by_cases hlt:j < l.length
     ·obtain ⟨bb,oo,f,rfl,hbB,hx,k0,k1,k2,k3,k4,k5,k6⟩:=fl_at (Rd.of_own (own_below HR11.out hbr (Nat.le_refl _))) hlt
      have hfq:=HFS.out f (List.mem_of_getElem? hx)
      have hzb:=qtySum_bd (l:=l.take j) (fun g hg=>HFS.out g (List.mem_of_mem_take hg))
      have hzl:(l.take j).length ≤ 40:=by rw [List.length_take];omega
      have hz1:-50000 ≤ z∧z ≤ 1000:=by have:=HZ.out;omega
      obtain ⟨hz1,hz2⟩:=hz1
      obtain ⟨hfq1,hfq2⟩:=hfq
      have HN:=Lib.hid (show z - f.qty=q - left - qtySum (l.take (j + 1)) by rw [qtySum_next hx,HZ.out];omega)
      clear hx hzb
      go_wp2_with fail
      go_roundw
      case rel=>exact ⟨j + 1,z - f.qty,by omega,rfl,by go_num,HN,hbr.trans (((Below.refl _ _).alloc (Nat.le_refl _) _).mono hwr)⟩
      case measure=>simp [intOf];omega
     ·obtain rfl:j=l.length:=by omega
      have HZ2:=Lib.hid (show z=q - left - Q by rw [HZ.out,List.take_length,HQ.out])
      have hz1:-50000 ≤ z∧z ≤ 1000:=by have:=HZ2.out;omega
      have HDr:=Lib.hid (HD11.out.below hbr)
      have HLr:=Lib.hid (HL11.out.trans (hbr.mono (by omega)))
      have HFr:=Lib.hid (HF11.out.below hbr)
      have Xr:=X11.below hbr ya
      have Or:=O11.below hbr yb
      obtain ⟨ga,A7,c7,rfl,hga1,hga2,hina,-,⟨q0,q1,q2⟩,-,hpos,-⟩:=oac_at HDr.out.accs ha2
      have HPO:=Lib.hid (Rd.of_own hpos)
      obtain ⟨xa,ta,htr⟩:∃ x te,tradeOf a2 mk (cm.o.side * z) cm.o.price 0=(x,te):=⟨_,_,rfl⟩
      have HTR:=Lib.hid htr
      have HEF:=Lib.hid (HCE8.out.trans (tail_plain HRD.out HD9L.out ha2 (by show tradeOf a2 mk (cm.o.side * (q - left - qtySum l)) cm.o.price 0=(xa,ta);rw [HQ.out,← HZ2.out];exact htr)))
      have hsz:-50000 ≤ cm.o.side * z∧cm.o.side * z ≤ 50000:=by
       rcases HOK.out.2.2.1 with e | e
       ·rw [show cm.o.side=1 from e];omega
       ·rw [show cm.o.side = -1 from e];omega
      obtain ⟨hz1,hz2⟩:=hz1
      obtain ⟨hsz1,hsz2⟩:=hsz
      have hwz:IntKind.i64.wrap (cm.o.side * z)=cm.o.side * z:=IntWalk.i64_in _ (by omega)
      have hi0:(0:Int) ≤ (i:Int):=by omega
      have hi1:(i:Int) < (d9.v.accs.length:Int):=by omega
      have h00:Below wr.heap.size wr wr:=Below.refl _ _
      have yr1:D < wr.heap.size:=HDr.out.lt
      have yr2:=Xr.lt
      have yr3:=Or.lt
      have hbwr:base ≤ wr.heap.size:=by omega
      have KS:Hid (∀ W,Below wr.heap.size wr W→Below wr.heap.size wr W∧W.cell? ⟨w.heap.size,2,none⟩=some (.int .i64 mk)∧W.cell? ⟨bo,2,none⟩=some (.int .i64 cm.o.side)∧W.cell? ⟨bo,3,none⟩=some (.int .i64 cm.o.price)∧W.cell? ⟨D,0,none⟩=some (.slice (some ⟨ga,0,none⟩) d9.v.accs.length c) ∧
        W.cell? ⟨ga,i * 3,none⟩=some (.int .i64 a2.id)∧W.cell? ⟨ga,i * 3 + 1,none⟩=some (.int .i64 a2.bal)∧W.cell? ⟨ga,i * 3 + 2,none⟩=some (.slice A7 a2.pos.length c7)):=by
       intro W hW
       obtain ⟨⟨k0,-⟩,-⟩:=(HDr.out.below hW).blk.c8
       exact ⟨hW,(Xr.below hW Xr.lt).cell 2,(Or.below hW Or.lt).cell 2,(Or.below hW Or.lt).cell 3,k0,(hW.cell (p:=⟨ga,_,none⟩) hga2).trans q0,(hW.cell (p:=⟨ga,_,none⟩) hga2).trans q1,(hW.cell (p:=⟨ga,_,none⟩) hga2).trans q2⟩
      clear q0 q1 q2 hpos htr ha2 hsum
      go_upto_region 37 with (fail)
      go_cut [18,13] (fun vb ve wx=>∃ (gB:Nat) (A8:Option Addr) (c8:Nat),vb=.pointer (some ⟨gB,0,none⟩)∧ve=.int .i64 ta∧Below wr.heap.size wr wx∧Hid (wx.ownsRow base 3 1 (.slice A8 xa.pos.length c8) xa.pos.length (ints xa.pos)) ∧
       Hid (Blk wx gB 37 #[.int .i64 xa.id,.int .i64 xa.bal,.slice A8 xa.pos.length c8]))
      case first =>
       go_region_held3 (fun W=>Below wr.heap.size wr W∧W.cell? ⟨w.heap.size,2,none⟩=some (.int .i64 mk)∧W.cell? ⟨bo,2,none⟩=some (.int .i64 cm.o.side)∧W.cell? ⟨bo,3,none⟩=some (.int .i64 cm.o.price)∧W.cell? ⟨D,0,none⟩=some (.slice (some ⟨ga,0,none⟩) d9.v.accs.length c) ∧
         W.cell? ⟨ga,i * 3,none⟩=some (.int .i64 a2.id)∧W.cell? ⟨ga,i * 3 + 1,none⟩=some (.int .i64 a2.bal)∧W.cell? ⟨ga,i * 3 + 2,none⟩=some (.slice A7 a2.pos.length c7))
        (first | exact KS.out _ (by assumption) | exact KS.out _ (dk_drew (by assumption)) | exact KS.out _ (Below.alloc (by assumption) (Below.size (by assumption)) _) | exact KS.out _ (dk_drew (Below.alloc (by assumption) (Below.size (by assumption)) _)) | exact KS.out _ (Below.setCell (Below.setCell (Below.setCell (by first | assumption | exact Below.alloc (by assumption) (by assumption) _) (by dsimp only;omega) _) (by dsimp only;omega) _) (by dsimp only;omega) _))
        ((go_at_call 41;go_split_ands;(with_reducible refine (trade_ref a2 A7 c7 mk (cm.o.side * z) cm.o.price 0 wr.heap.size _ HTR.out (HPO.out.below (by assumption)) (Below.size (by assumption))).mono ?_);rintro e W12 ⟨A8,c8,rfl,hown8,hb12⟩;have hB12:=dk_next (w0:=wr) hb12 (by assumption);have hs12:=hB12.size;try have z1:=(Blk.drewN (Blk.new wr 37 #[.int .i64 0,.int .i64 0,.slice none 0 0]) 1).below hb12 (by simp);try have z2:=z1.lt;try obtain ⟨⟨z3,z4,z5⟩,z6,z7,z8⟩:=z1.c3))
       all_goals
        refine exit_name ?_
        intro W13 hW13
        have HB13:Below wr.heap.size wr W13:=by rw [hW13];first | exact hB12.alloc hs12 _ | exact ((hB12.setCell (by dsimp only;omega) _).setCell (by dsimp only;omega) _).setCell (by dsimp only;omega) _
        have HO13:Hid (W13.ownsRow base 3 1 (.slice A8 xa.pos.length c8) xa.pos.length (ints xa.pos)):=by
         rw [hW13]
         first
          | exact own_mono (World.ownsRow.alloc hown8 _) hbwr
          | exact own_mono (ownsRow_setCell_below (ownsRow_setCell_below (ownsRow_setCell_below hown8 (by simp) _) (by simp) _) (by simp) _) (by simp;omega)
        first
         | have HX13:Hid (Blk W13 W12.heap.size 37 #[.int .i64 xa.id,.int .i64 xa.bal,.slice A8 xa.pos.length c8]):=by rw [hW13];exact Blk.new W12 _ _
         | have HX13:Hid (Blk W13 wr.heap.size 37 #[.int .i64 xa.id,.int .i64 xa.bal,.slice A8 xa.pos.length c8]):=by rw [hW13];exact ((z1.set_ 0 _).set_ 1 _).set_ 2 _
        go_wp2_with fail
        go_meet
        exact ⟨_,_,_,rfl,rfl,HB13,HO13,HX13⟩
      case rest=>as_aux_lemma =>
       obtain ⟨gC,A8,c8,rfl,rfl,HB13,HO13,HX13⟩:=hcut
       obtain ⟨W13,rfl⟩:∃ W13,W13=wc:=⟨wc,rfl⟩
       have X13:=HX13.out
       have HD13:=Lib.hid (HDr.out.below HB13)
       have HL13:=Lib.hid (HLr.out.trans (HB13.mono hbwr))
       have HF13:=Lib.hid (HFr.out.below HB13)
       have hy13:=X13.lt
       clear KS h00 HX13
       by_cases hta:ta=0
       rotate_left
       ·have hta':(ta != 0)=true:=by simpa using hta
        have HEE:=Lib.hid (show orderE cm d=.error ta by rw [HEF.out];unfold okIf;rw [if_pos hta])
        have HN:=Lib.hid hta
        clear hta
        go_wp2_with fail
        go_ret
        exact retDk_err HEE.out HN.out HL13.out
       subst hta
       obtain ⟨⟨kX130,kX131,kX132⟩,-⟩:=X13.c3
       go_wp2_with fail
       refine (begin_dk base D false d9 _ c _ k vE11 xs10 ys10 xa A8 c8 W13.heap.size W13 HD13.out (Rd.of_own HO13.out) (Nat.le_refl _)).mono ?_
       rintro e W14 ⟨rfl,hb14⟩
       have HD14:=Lib.hid (HD13.out.below hb14)
       have HL14:=Lib.hid (HL13.out.trans (hb14.mono (by have:=HB13.size;omega)))
       have HF14:=Lib.hid (HF13.out.below hb14)
       obtain ⟨be,hbe⟩:∃ be,beginErr d9.v xa=be:=⟨_,rfl⟩
       have HEG:=Lib.hid (show orderE cm d=okIf be (.ok d9) by rw [HEF.out,hbe];rfl)
       rw [hbe]
       clear hbe hb14
       go_wp2_with fail
       go_ret
       by_cases hbz:be=0
       ·subst hbz
        exact retDk_ok HEG.out HD14.out HL14.out HF14.out
       ·exact retDk_err (by rw [HEG.out];unfold okIf;rw [if_pos hbz]) hbz HL14.out
end
end Go.Proofs.Ytockodmbhnlheaa
