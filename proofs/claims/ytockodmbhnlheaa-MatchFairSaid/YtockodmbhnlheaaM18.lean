/-
  Contracts of the program's functions, and plain facts, that the laws VenueKeeps, VenueOthers, VenueCancels, VenueCash, VenueReady rest on (joined texts): VDo, VenueLaws2, OpenedP, VNew, VRun, Opened, Same, Alike.
-/
import Derived.Test.YtockodmbhnlheaaM16
import Derived.Test.YtockodmbhnlheaaM17
import Derived.Test.YtockodmbhnlheaaM06
import Derived.Test.YtockodmbhnlheaaM01
import Derived.Test.YtockodmbhnlheaaProg
import Derived.Maps.AppendAt
import Derived.Laws.AppendOwnNone
import Derived.OwnWalk
import Derived.Test.YtockodmbhnlheaaM07
import Derived.Test.YtockodmbhnlheaaM12
import Derived.Test.YtockodmbhnlheaaM05
import Derived.Test.YtockodmbhnlheaaM03
import Derived.Deep.RegionHeld3
import Derived.Test.YtockodmbhnlheaaM02
import Derived.Test.YtockodmbhnlheaaM08
import Derived.Lib.AppendZeros
import Derived.Test.YtockodmbhnlheaaM09
import Derived.Test.YtockodmbhnlheaaM10
import Derived.Test.YtockodmbhnlheaaM11
import Derived.Test.YtockodmbhnlheaaM13
import Derived.Test.YtockodmbhnlheaaM15
import Derived.Deep.DeepCutAuto
import Derived.Test.YtockodmbhnlheaaM14
import Derived.Deep.RegionLaw
import Derived.Test.YtockodmbhnlheaaM04
import Derived.WalkKit
import Derived.WalkSpells
import Derived.WalkLawsBesides
import Derived.Lib.Hide
import Derived.Laws.CopyOwn
import Derived.Lib.AppendZerosOnto
import Derived.Lib.Overlaps
import Derived.Laws.Externs
import Derived.Laws.MakeOwn
import Derived.Maps.Own
import Derived.Maps.OwnOps
import Derived.Maps.Views
import Derived.Deep.QuietTactic
import Derived.BigQuiet
import Derived.Deep.Draws
import Derived.IntWalk
import Derived.RegionTactic
import Derived.ChangeAlike
import Derived.KernelRfl
import Derived.Test.YtockodmbhnlheaaRows
import Derived.ProofKit
import Derived.OpenShut
import Derived.SizedLaws
import Derived.Deep.Slices
namespace Go.Proofs.Ytockodmbhnlheaa
section
open Go.RowKit
def RetDo (w:World) (r:Vn × List Ev × Int) (e:Ending) (w':World):Prop :=
 ∃ A c M k E n,e=.returned (.tuple #[.agg #[.slice A r.1.accs.length c,.slice M r.1.mks.length k,.int .i64 r.1.ins,.int .i64 r.1.resid,.int .i64 r.1.next,.int .i64 r.1.inn,.int .i64 r.1.out],.slice E r.2.1.length n,.int .i64 r.2.2])∧(∃ xs,OwnAc w' w.heap.size A r.1.accs.length c r.1.accs xs)∧(∃ ys,OwnMk w' w.heap.size false M r.1.mks.length k r.1.mks ys) ∧
  w'.ownsRow w.heap.size 124 13 (.slice E r.2.1.length n) r.2.1.length (evCells r.2.1)∧Below w.heap.size w w'
theorem retDo_err {w w':World} {r:Vn × List Ev × Int} {n:Int} (h:r=(zeroVn,[],n)) (hb:Below w.heap.size w w'):RetDo w r (.returned (.tuple #[.agg #[.slice none 0 0,.slice none 0 0,.int .i64 0,.int .i64 0,.int .i64 0,.int .i64 0,.int .i64 0],.slice none 0 0,.int .i64 n])) w':=by
 subst h
 exact ⟨none,0,none,0,none,0,rfl,⟨_,ownAc_nil _ _⟩,⟨[],World.ownsRow_nil _ _ _ _,rfl,(fun i a h=>by simp [zeroVn] at h),nofun⟩,World.ownsRow_nil _ _ _ _,hb⟩
theorem OwnMk.lower {w:World} {base base' m k:Nat} {ap:Bool} {M:Option Addr} {L:List Mk} {xs:List Value} (h:OwnMk w base ap M m k L xs) (hb:base' ≤ base):OwnMk w base' ap M m k L xs :=
 ⟨own_mono h.row hb,h.len,fun i a ha=>by
  obtain ⟨A2,c2,A3,c3,h0,h1,h2,h3,h4,h5⟩:=h.cell i a ha
  exact ⟨A2,c2,A3,c3,h0,h1,h2,h3,⟨own_mono h4.l hb,own_mono h4.r hb⟩,h5⟩,h.apart⟩
theorem dk_drew' {B:Nat} {a w:World} (h:Below B a w):Below B a w.drew:=below_drewN h 1
theorem put7 {w Z:World} {g:Nat} {b0 b1 b2 b3 b4 b5 b6 a0 a1 a2 a3 a4 a5 a6:Value} (h:Blk w g 111 #[b0,b1,b2,b3,b4,b5,b6])
  (hZ:Z=((((((w.setCell ⟨g,0,none⟩ a0).setCell ⟨g,1,none⟩ a1).setCell ⟨g,2,none⟩ a2).setCell ⟨g,3,none⟩ a3).setCell ⟨g,4,none⟩ a4).setCell ⟨g,5,none⟩ a5).setCell ⟨g,6,none⟩ a6) :
  Blk Z g 111 #[a0,a1,a2,a3,a4,a5,a6]∧Kept [111] w Z∧∀ B,B ≤ g→Below B w Z:=by
 have h0:Blk (w.setCell ⟨g,0,none⟩ a0) g 111 #[a0,b1,b2,b3,b4,b5,b6]:=h.set_ 0 a0
 have h1:Blk ((w.setCell ⟨g,0,none⟩ a0).setCell ⟨g,1,none⟩ a1) g 111 #[a0,a1,b2,b3,b4,b5,b6]:=h0.set_ 1 a1
 have h2:Blk (((w.setCell ⟨g,0,none⟩ a0).setCell ⟨g,1,none⟩ a1).setCell ⟨g,2,none⟩ a2) g 111 #[a0,a1,a2,b3,b4,b5,b6]:=h1.set_ 2 a2
 have h3:Blk ((((w.setCell ⟨g,0,none⟩ a0).setCell ⟨g,1,none⟩ a1).setCell ⟨g,2,none⟩ a2).setCell ⟨g,3,none⟩ a3) g 111 #[a0,a1,a2,a3,b4,b5,b6]:=h2.set_ 3 a3
 have h4:Blk (((((w.setCell ⟨g,0,none⟩ a0).setCell ⟨g,1,none⟩ a1).setCell ⟨g,2,none⟩ a2).setCell ⟨g,3,none⟩ a3).setCell ⟨g,4,none⟩ a4) g 111 #[a0,a1,a2,a3,a4,b5,b6]:=h3.set_ 4 a4
 have h5:Blk ((((((w.setCell ⟨g,0,none⟩ a0).setCell ⟨g,1,none⟩ a1).setCell ⟨g,2,none⟩ a2).setCell ⟨g,3,none⟩ a3).setCell ⟨g,4,none⟩ a4).setCell ⟨g,5,none⟩ a5) g 111 #[a0,a1,a2,a3,a4,a5,b6]:=h4.set_ 5 a5
 have h6:Blk (((((((w.setCell ⟨g,0,none⟩ a0).setCell ⟨g,1,none⟩ a1).setCell ⟨g,2,none⟩ a2).setCell ⟨g,3,none⟩ a3).setCell ⟨g,4,none⟩ a4).setCell ⟨g,5,none⟩ a5).setCell ⟨g,6,none⟩ a6) g 111 #[a0,a1,a2,a3,a4,a5,a6]:=h5.set_ 6 a6
 refine ⟨by rw [hZ];exact h6,?_,fun B hB=>?_⟩
 ·rw [hZ]
  exact (((((((Kept.refl _ _).set h (by decide) _ _).set h0 (by decide) _ _).set h1 (by decide) _ _).set h2 (by decide) _ _).set h3 (by decide) _ _).set h4 (by decide) _ _).set h5 (by decide) _ _
 ·rw [hZ]
  exact (((((((Below.refl _ _).setCell (p:=⟨g,0,none⟩) hB _).setCell (p:=⟨g,1,none⟩) hB _).setCell (p:=⟨g,2,none⟩) hB _).setCell (p:=⟨g,3,none⟩) hB _).setCell (p:=⟨g,4,none⟩) hB _).setCell (p:=⟨g,5,none⟩) hB _).setCell (p:=⟨g,6,none⟩) hB _
theorem put7a {w Z:World} {g:Nat} {b0 b1 b2 b3 b4 b5 b6 a0 a1 a2 a3 a4 a5 a6:Value} {o:Obj} (h:Blk w g 111 #[b0,b1,b2,b3,b4,b5,b6]) (hZ:Z=(((((((w.setCell ⟨g,0,none⟩ a0).setCell ⟨g,1,none⟩ a1).setCell ⟨g,2,none⟩ a2).setCell ⟨g,3,none⟩ a3).setCell ⟨g,4,none⟩ a4).setCell ⟨g,5,none⟩ a5).setCell ⟨g,6,none⟩ a6).alloc o) :
  ∃ Y,(Blk Y g 111 #[a0,a1,a2,a3,a4,a5,a6]∧Kept [111] w Y∧∀ B,B ≤ g→Below B w Y)∧Y.heap.size=w.heap.size∧Z=Y.alloc o:=⟨_,put7 h rfl,by simp only [size_setCell],hZ⟩
theorem put7d {w Z:World} {g:Nat} {b0 b1 b2 b3 b4 b5 b6 a0 a1 a2 a3 a4 a5 a6:Value} (h:Blk w g 111 #[b0,b1,b2,b3,b4,b5,b6]) (hZ:Z=(((((((w.setCell ⟨g,0,none⟩ a0).setCell ⟨g,1,none⟩ a1).setCell ⟨g,2,none⟩ a2).setCell ⟨g,3,none⟩ a3).setCell ⟨g,4,none⟩ a4).setCell ⟨g,5,none⟩ a5).setCell ⟨g,6,none⟩ a6).drew) :
  Blk Z g 111 #[a0,a1,a2,a3,a4,a5,a6]∧Kept [111] w Z∧∀ B,B ≤ g→Below B w Z:=by
 obtain ⟨h1,h2,h3⟩:=put7 h (rfl:_=((((((w.setCell ⟨g,0,none⟩ a0).setCell ⟨g,1,none⟩ a1).setCell ⟨g,2,none⟩ a2).setCell ⟨g,3,none⟩ a3).setCell ⟨g,4,none⟩ a4).setCell ⟨g,5,none⟩ a5).setCell ⟨g,6,none⟩ a6)
 rw [hZ]
 exact ⟨h1.drewN 1,h2.drew,fun B hB=>dk_drew' (h3 B hB)⟩
theorem own_one (w:World) (base k:Nat) (t:TypeId) (cs:Array Value) (hb:base ≤ w.heap.size) (hk:cs.size=k):(w.alloc (.cells cs t)).ownsRow base t k (.slice (some ⟨w.heap.size,0,none⟩) 1 1) 1 cs.toList :=
 ⟨by simp [hk],.inr ⟨w.heap.size,1,cs,rfl,hb,Blk.new w _ _,Nat.le_refl _,by simp only [maxLen];omega,by omega,by rw [Nat.one_mul,← hk];exact List.take_of_length_le (by simp)⟩⟩
theorem vcheck_ref {e:Int} (v:Vn) (A M:Option Addr) (c k:Nat) (B:Nat) (w:World) (hr:venueErr v=e) (h:VnR w B A c M k v) (hB:B ≤ w.heap.size) :
  Calls Try.prog 114 #[.agg #[.slice A v.accs.length c,.slice M v.mks.length k,.int .i64 v.ins,.int .i64 v.resid,.int .i64 v.next,.int .i64 v.inn,.int .i64 v.out]] w fun e' w'=>e'=.returned (.int .i64 e)∧Below w.heap.size w w':=by rw [← hr];exact vcheck_any v A M c k B w h hB
set_option maxHeartbeats 4000000 in
set_option maxRecDepth 100000 in
theorem vdo_any (v:Vn) (cm:Cm) (A M:Option Addr) (c k:Nat) (B:Nat) (w:World) (h:VnR w B A c M k v) (hB:B ≤ w.heap.size) :
  Calls Try.prog 103 #[.agg #[.slice A v.accs.length c,.slice M v.mks.length k,.int .i64 v.ins,.int .i64 v.resid,.int .i64 v.next,.int .i64 v.inn,.int .i64 v.out],.agg #[.int .i64 cm.kind,.int .i64 cm.acc,.int .i64 cm.market,.int .i64 cm.n,.int .i64 cm.o.id,.int .i64 cm.o.acc,.int .i64 cm.o.side,.int .i64 cm.o.price,.int .i64 cm.o.qty,.int .i64 cm.how,.bool cm.reduce]] w (RetDo w (doOf v cm)):=by
 have HV:=Lib.hid h
 obtain ⟨ev,hev⟩:∃ ev,venueErr v=ev:=⟨_,rfl⟩
 have HEV:=Lib.hid hev
 clear h hev
 go_enter Try.func103,Try.ntmps103
 go_wp2_with fail
 refine calls_name ?_
 intro W0 hW0
 have hB0:Below w.heap.size w W0:=by rw [hW0];exact (((Below.refl _ _).alloc (Nat.le_refl _) _).alloc (by simp) _).alloc (by simp;omega) _
 have X0:Blk W0 w.heap.size 111 #[.slice A v.accs.length c,.slice M v.mks.length k,.int .i64 v.ins,.int .i64 v.resid,.int .i64 v.next,.int .i64 v.inn,.int .i64 v.out]:=by rw [hW0];exact ((Blk.new w _ _).alloc _).alloc _
 have C0:Blk W0 (w.heap.size + 1) 113 #[.int .i64 cm.kind,.int .i64 cm.acc,.int .i64 cm.market,.int .i64 cm.n,.int .i64 cm.o.id,.int .i64 cm.o.acc,.int .i64 cm.o.side,.int .i64 cm.o.price,.int .i64 cm.o.qty,.int .i64 cm.how,.bool cm.reduce]:=by rw [hW0];exact (Blk.new_at _ _ _ _ (by simp)).alloc _
 have R0:Blk W0 (w.heap.size + 2) 111 #[.slice none 0 0,.slice none 0 0,.int .i64 0,.int .i64 0,.int .i64 0,.int .i64 0,.int .i64 0]:=by rw [hW0];exact Blk.new_at _ _ _ _ (by simp)
 have hs0:W0.heap.size=w.heap.size + 3:=by rw [hW0];simp
 clear hW0
 refine (vcheck_ref v A M c k B W0 HEV.out (HV.out.below (hB0.mono hB)) (by omega)).mono ?_
 rintro e W1 ⟨rfl,hb1⟩
 have hs1:=hb1.size
 have hB1:=hB0.trans (hb1.mono (by omega))
 have X1:=X0.below hb1 X0.lt
 have C1:=C0.below hb1 C0.lt
 have R1:=R0.below hb1 R0.lt
 clear hb1 X0 C0 R0 hB0
 by_cases he:ev=0
 rotate_left
 ·have he':(ev != 0)=true:=by simpa using he
  have HD:=Lib.hid (show doOf v cm=(zeroVn,[],ev) by unfold doOf;rw [HEV.out,if_pos he])
  obtain ⟨⟨r0,r1,r2,r3,r4,r5,r6⟩,f0,f1,f2,f3,f4,f5,f6⟩:=R1.c7
  have y1:=R1.lt
  clear he
  go_wp2_with fail
  refine post_name ?_
  intro Z hZ
  obtain ⟨RZ,hK,hL⟩:=put7 R1 hZ
  have HL:=Lib.hid (hB1.trans (hL _ (by omega)))
  clear hZ hK hL r0 r1 r2 r3 r4 r5 r6 f0 f1 f2 f3 f4 f5 f6 R1
  obtain ⟨⟨r0,r1,r2,r3,r4,r5,r6⟩,-⟩:=RZ.c7
  refine bodyPost_ret (v:=.tuple #[.agg #[.slice none 0 0,.slice none 0 0,.int .i64 0,.int .i64 0,.int .i64 0,.int .i64 0,.int .i64 0],.slice none 0 0,.int .i64 ev]) (by simp [results,Try.results103,go_sem, *]) rfl ?_
  exact retDo_err HD.out HL.out
 subst he
 have HOK:=Lib.hid (venueErr_ok.1 HEV.out)
 obtain ⟨⟨kX10,kX11,kX12,kX13,kX14,kX15,kX16⟩,-⟩:=X1.c7
 have x1:=X1.lt
 go_wp2_with fail
 refine (vcopy_any v A M c k B W1 (HV.out.below (hB1.mono hB)) (by omega) HOK.out).mono ?_
 rintro e W2 ⟨A2,c2,M2,k2,xs,ys,rfl,hoa,hom,hb2⟩
 have hs2:=hb2.size
 have HOA:=Lib.hid hoa
 have HOM:=Lib.hid hom
 have X2:=X1.below hb2 X1.lt
 have C2:=C1.below hb2 C1.lt
 have R2:=R1.below hb2 R1.lt
 have hB2:=hB1.trans (hb2.mono (by omega))
 clear hoa hom kX10 kX11 kX12 kX13 kX14 kX15 kX16 x1 X1 C1 R1
 have p0:W2.cell? ⟨w.heap.size + 1,0,none⟩=some (.int .i64 cm.kind):=C2.cell 0
 have p1:W2.cell? ⟨w.heap.size + 1,1,none⟩=some (.int .i64 cm.acc):=C2.cell 1
 have p2:W2.cell? ⟨w.heap.size + 1,2,none⟩=some (.int .i64 cm.market):=C2.cell 2
 have p3:W2.cell? ⟨w.heap.size + 1,3,none⟩=some (.int .i64 cm.n):=C2.cell 3
 have p4:W2.cell? ⟨w.heap.size + 1,4,none⟩=some (.int .i64 cm.o.id):=C2.cell 4
 have p5:W2.cell? ⟨w.heap.size + 1,5,none⟩=some (.int .i64 cm.o.acc):=C2.cell 5
 have p6:W2.cell? ⟨w.heap.size + 1,6,none⟩=some (.int .i64 cm.o.side):=C2.cell 6
 have p7:W2.cell? ⟨w.heap.size + 1,7,none⟩=some (.int .i64 cm.o.price):=C2.cell 7
 have p8:W2.cell? ⟨w.heap.size + 1,8,none⟩=some (.int .i64 cm.o.qty):=C2.cell 8
 have p9:W2.cell? ⟨w.heap.size + 1,9,none⟩=some (.int .i64 cm.how):=C2.cell 9
 have p10:W2.cell? ⟨w.heap.size + 1,10,none⟩=some (.bool cm.reduce):=C2.cell 10
 have y2:=C2.lt
 go_wp2_with fail
 refine calls_name ?_
 intro W3 hW3
 have hB3:Below W2.heap.size W2 W3:=by rw [hW3];exact (Below.refl _ _).alloc (Nat.le_refl _) _
 have hs3:=hB3.size
 have HDK:=Lib.hid (show Desk W3 W1.heap.size W2.heap.size true ⟨v,[]⟩ A2 c2 M2 k2 (.slice none 0 0) xs ys from
  ⟨by rw [hW3];exact Blk.new W2 _ _,hs2,HOA.out.below hB3,HOM.out.below hB3,World.ownsRow_nil _ _ _ _⟩)
 have X3:=X2.below hB3 X2.lt
 have R3:=R2.below hB3 R2.lt
 clear hW3 p0 p1 p2 p3 p4 p5 p6 p7 p8 p9 p10 y2 X2 R2 C2
 refine (does_dk W1.heap.size W2.heap.size ⟨v,[]⟩ A2 c2 M2 k2 (.slice none 0 0) xs ys cm W3 HDK.out (by omega) HOK.out (by simp)).mono ?_
 intro e W4 hret
 cases hd:doesE cm ⟨v,[]⟩ with
 | error n =>
  rw [hd] at hret
  obtain ⟨hn,rfl,hL4⟩:=hret
  have hn':(n != 0)=true:=by simpa using hn
  have HDO:=Lib.hid (show doOf v cm=(v,[rejEv n],0) by unfold doOf;rw [HEV.out,if_neg (by simp),hd])
  have hs4:=hL4.size
  have X4:=X3.below hL4 (by omega)
  have R4:=R3.below hL4 (by omega)
  have hB4:Below w.heap.size w W4:=(hB2.trans (hB3.mono (by omega))).trans (hL4.mono (by omega))
  obtain ⟨⟨kX40,kX41,kX42,kX43,kX44,kX45,kX46⟩,-⟩:=X4.c7
  have x4:=X4.lt
  clear hd hn hL4 X3 R3
  go_wp2_with fail
  refine (vcopy_any v A M c k B W4 (HV.out.below (hB4.mono hB)) (by omega) HOK.out).mono ?_
  rintro e W5 ⟨A5,c5,M5,k5,xs5,ys5,rfl,hoa,hom,hb5⟩
  have hs5:=hb5.size
  have R5:=R4.below hb5 R4.lt
  obtain ⟨⟨r0,r1,r2,r3,r4,r5,r6⟩,f0,f1,f2,f3,f4,f5,f6⟩:=R5.c7
  have HOA5:=Lib.hid hoa
  have HOM5:=Lib.hid hom
  have hB5:=hB4.trans (hb5.mono (by omega))
  have y5:=R5.lt
  clear hoa hom kX40 kX41 kX42 kX43 kX44 kX45 kX46 x4 X4 R4
  go_wp2_with fail
  refine post_name ?_
  intro Z hZ
  obtain ⟨Y,⟨RY,hKY,hLY⟩,hsY,hZ2⟩:=put7a (g:=w.heap.size + 1 + 1) R5 hZ
  clear hZ
  have hown:=own_one Y w.heap.size 13 124 #[.int .i64 1,.int .i64 n,.int .i64 0,.int .i64 0,.int .i64 0,.int .i64 0,.int .i64 0,.int .i64 0,.int .i64 0,.int .i64 0,.int .i64 0,.int .i64 0,.int .i64 0] (by omega) rfl
  have RZ:Blk Z (w.heap.size + 1 + 1) 111 #[.slice A5 v.accs.length c5,.slice M5 v.mks.length k5,.int .i64 v.ins,.int .i64 v.resid,.int .i64 v.next,.int .i64 v.inn,.int .i64 v.out]:=by rw [hZ2];exact RY.alloc _
  have hKZ:Kept [111] W5 Z:=by rw [hZ2];exact hKY.alloc _
  have HL:=Lib.hid (show Below w.heap.size w Z by rw [hZ2];exact (hB5.trans (hLY _ (by omega))).alloc (by omega) _)
  have HO:=Lib.hid (show Z.ownsRow w.heap.size 124 13 (.slice (some ⟨W5.heap.size,0,none⟩) 1 1) 1 (evCells [rejEv n]) by rw [hZ2,← hsY];exact hown)
  have HK:=Lib.hid hKZ
  clear hZ2 hown hKY hLY RY hKZ r0 r1 r2 r3 r4 r5 r6 f0 f1 f2 f3 f4 f5 f6 R5
  obtain ⟨⟨r0,r1,r2,r3,r4,r5,r6⟩,-⟩:=RZ.c7
  refine bodyPost_ret (v:=.tuple #[.agg #[.slice A5 v.accs.length c5,.slice M5 v.mks.length k5,.int .i64 v.ins,.int .i64 v.resid,.int .i64 v.next,.int .i64 v.inn,.int .i64 v.out],.slice (some ⟨W5.heap.size,0,none⟩) 1 1,.int .i64 0]) (by simp [results,Try.results103,go_sem, *]) rfl ?_
  rw [HDO.out]
  exact ⟨A5,c5,M5,k5,some ⟨W5.heap.size,0,none⟩,1,rfl,⟨xs5,(HOA5.out.kept HK.out (by decide) (by decide)).lower (by omega)⟩,⟨ys5,((HOM5.out.kept HK.out (by decide) (by decide)).weak).lower (by omega)⟩,HO.out,HL.out⟩
 | ok d' =>
  rw [hd] at hret
  obtain ⟨rfl,⟨A4,c4,M4,k4,vE4,hdk⟩,hL4⟩:=hret
  have HDO:=Lib.hid (show doOf v cm=(d'.v,d'.ev,0) by unfold doOf;rw [HEV.out,if_neg (by simp),hd])
  have hs4:=hL4.size
  have R4:=R3.below hL4 (by omega)
  have hB4:Below w.heap.size w W4:=(hB2.trans (hB3.mono (by omega))).trans (hL4.mono (by omega))
  obtain ⟨E4,n4,rfl⟩:=own_shape hdk.evs
  have HDK4:=Lib.hid hdk
  obtain ⟨⟨d0,d1,d2,d3,d4,d5,d6,d7⟩,-⟩:=hdk.blk.c8
  obtain ⟨⟨r0,r1,r2,r3,r4,r5,r6⟩,f0,f1,f2,f3,f4,f5,f6⟩:=R4.c7
  have y4:=hdk.blk.lt
  have y5:=R4.lt
  clear hd hdk hL4 X3 R3
  go_wp2_with fail
  go_region
  refine exit_name ?_
  intro Z hZ
  obtain ⟨RZ,hK,hL⟩:=put7d (g:=w.heap.size + 1 + 1) R4 hZ
  have HL:=Lib.hid (hB4.trans (hL _ (by omega)))
  have HK:=Lib.hid hK
  clear hZ hK hL r0 r1 r2 r3 r4 r5 r6 f0 f1 f2 f3 f4 f5 f6 R4 d0 d1 d2 d3 d4 d5 d6 d7
  obtain ⟨⟨r0,r1,r2,r3,r4,r5,r6⟩,-⟩:=RZ.c7
  go_wp2_with fail
  refine bodyPost_ret (v:=.tuple #[.agg #[.slice A4 d'.v.accs.length c4,.slice M4 d'.v.mks.length k4,.int .i64 d'.v.ins,.int .i64 d'.v.resid,.int .i64 d'.v.next,.int .i64 d'.v.inn,.int .i64 d'.v.out],.slice E4 d'.ev.length n4,.int .i64 0]) (by simp [results,Try.results103,go_sem, *]) rfl ?_
  rw [HDO.out]
  obtain ⟨xs6,hx6⟩:=HDK4.out.accs
  obtain ⟨ys6,hy6⟩:=HDK4.out.mks
  exact ⟨A4,c4,M4,k4,E4,n4,rfl,⟨xs6,(hx6.kept HK.out (by decide) (by decide)).lower (by omega)⟩,⟨ys6,(hy6.kept HK.out (by decide) (by decide)).lower (by omega)⟩,own_mono (HK.out.own HDK4.out.evs (by decide)) (by omega),HL.out⟩
end
section
theorem add2_errs (x y:Int) (hx:isMoney x=true) (hy:isMoney y=true):(addAll [x,y]).2=0∧addAll [x,y]=(x + y,0)∧isMoney (x + y)=true∨(addAll [x,y]).2=7∧isMoney (x + y)=false:=by
 unfold addAll
 simp only [addFrom,Int.zero_add]
 rw [if_pos hx,if_pos hx,if_pos hy]
 cases hm:isMoney (x + y)
 ·right;simp
 ·left;simp
theorem okIf_err {e:Int} {α:Type} {x:Except Int α} {r:Int} (h:okIf e x=.error r):e ≠ 0∧r=e∨e=0∧x=.error r:=by
 unfold okIf at h
 split at h
 ·rename_i h1;injection h with h;exact .inl ⟨h1,h.symm⟩
 ·rename_i h1;exact .inr ⟨by omega,h⟩
theorem money_bal {m:Nat} {L:List Ac} (h:AOk m L) {a:Ac} (ha:a ∈ L):isMoney a.bal=true:=isMoney_iff.2 (accCheck_ok (h.ok a ha)).2.2.2.1
theorem cash_rej {v:Vn} {c:Cm} {e:Int} (hv:VOk v) (hk:c.kind=1) (h:doesE c ⟨v,[]⟩=.error e):e=3∨e=5∨e=7:=by
 unfold doesE cashE at h
 rw [if_pos (.inl hk)] at h
 split at h
 ·injection h with h;omega
 rename_i hn
 split at h
 ·injection h with h;omega
 rename_i hac
 have hnum:=hv.nums
 have hmn:isMoney c.n=true:=isMoney_iff.2 (by omega)
 have hmi:isMoney v.inn=true:=isMoney_iff.2 (by have:=hnum.inn;omega)
 rcases add2_errs v.inn c.n hmi hmn with ⟨e1,_⟩ | ⟨e1,_⟩
 ·rcases okIf_err h with ⟨g,_⟩ | ⟨_,h⟩
  ·exact absurd e1 g
  unfold moveE at h
  rcases okIf_err h with ⟨g,h⟩ | ⟨_,h⟩
  ·have hb:∀ x:Ac,isMoney x.bal=true→(addAll [x.bal,c.n]).2=0∨(addAll [x.bal,c.n]).2=7:=by
    intro x hx
    rcases add2_errs x.bal c.n hx hmn with ⟨k,_⟩ | ⟨k,_⟩
    ·exact .inl k
    ·exact .inr k
   have hx:isMoney (accAt ({ v with accs:=if thereB v.accs c.acc=true then v.accs else insAcc v.accs (placeOf v.accs c.acc) ⟨c.acc,0,List.replicate v.mks.length 0⟩,inn:=(addAll [v.inn,c.n]).1 }:Vn) (placeOf v.accs c.acc)).bal=true:=by
    cases ht:thereB v.accs c.acc with
    | true =>
     obtain ⟨a,ha,_⟩:=place_there hv.accs.sorted ht
     rw [show accAt _ (placeOf v.accs c.acc)=a from getD_some (by simpa using ha)]
     exact money_bal hv.accs (List.mem_of_getElem? ha)
    | false =>
     obtain ⟨i1,i2,_⟩:=ins_spec (a:=⟨c.acc,0,List.replicate v.mks.length 0⟩) hv.accs (accCheck_mk (by simp only;omega) (by have:=hv.len;omega) (by simp) (by simp only;omega) (posOk_replicate _)) ht
     rw [show accAt _ (placeOf v.accs c.acc)=⟨c.acc,0,List.replicate v.mks.length 0⟩ from getD_some (by simpa using i2)]
     rfl
   rcases hb _ hx with k | k
   ·exact absurd k g
   ·simp only at h k ⊢
    right;right
    rw [h];exact k
  ·cases h
 ·rcases okIf_err h with ⟨g,h⟩ | ⟨g,_⟩
  ·right;right;rw [h];exact e1
  ·simp only at g;omega
theorem equity_errs {a:Ac} {marks:List Int} (h0:accCheck a.id a.bal a.pos marks.length=0) (hw:(worths a.pos marks).2=0):(equityOf a marks).2=0∨(equityOf a marks).2=7:=by
 unfold equityOf
 rw [if_neg (by omega),if_neg (by omega)]
 have hm:=addFrom_money (a.bal :: (worths a.pos marks).1) 0 (by
  intro x hx
  rcases List.mem_cons.1 hx with rfl | hx
  ·exact isMoney_iff.2 (accCheck_ok h0).2.2.2.1
  ·exact worths_money hw x hx)
 rcases addFrom_err (a.bal :: (worths a.pos marks).1) 0 with k | k | k
 ·exact .inl k
 ·unfold addAll;rw [k];exact .inr rfl
 ·rw [k] at hm;exact absurd rfl hm
end
section
def freshVn (l:List Int):Vn:=⟨[],l.map fun n=>⟨⟨[],[]⟩,n,0⟩,0,0,1,0,0⟩
def newOf (l:List Int):Vn × Int:=if venueErr (freshVn l) ≠ 0 then (zeroVn,venueErr (freshVn l)) else (freshVn l,0)
def zOd:Od:=⟨0,0,0,0,0⟩
def opCms:List Cm:=[⟨1,0,0,120,zOd,0,false⟩,⟨1,1,0,500,zOd,0,false⟩,⟨3,0,0,0,⟨0,0,1,100,10⟩,1,false⟩,⟨3,1,0,0,⟨0,0,-1,100,10⟩,1,false⟩,⟨5,0,0,80,zOd,0,false⟩,⟨7,0,0,0,zOd,0,false⟩,⟨2,0,0,1,zOd,0,false⟩]
def opVn:Vn:=⟨[⟨0,0,[0]⟩,⟨1,619,[0]⟩],[⟨⟨[],[]⟩,80,100⟩],1,0,3,620,0⟩
def opEvs:List (List Ev):=[[⟨5,0,0,0,0,120,zeroFl⟩],[⟨5,0,0,0,1,500,zeroFl⟩],[⟨2,0,0,1,0,0,zeroFl⟩],[⟨2,0,0,2,1,0,zeroFl⟩,⟨3,0,0,0,0,0,⟨1,2,0,1,-1,100,10⟩⟩],[],[⟨6,0,0,0,1,0,⟨0,0,1,0,-1,88,10⟩⟩],[⟨1,8,0,0,0,0,zeroFl⟩]]
theorem op_new:newOf [100]=(freshVn [100],0):=by kernel_rfl
theorem op_run:runOf (freshVn [100]) opCms=(opVn,opEvs,0):=by kernel_rfl
end
section
open Go.RowKit
def mkRow:List Int→List Value
 | []=>[]
 | n :: l=>.slice none 0 0 :: .slice none 0 0 :: .int .i64 n :: .int .i64 0 :: mkRow l
theorem mkRow_app (m:List Int):∀ l,mkRow (l ++ m)=mkRow l ++ mkRow m
 | []=>rfl
 | n :: l=>by simp only [List.cons_append,mkRow,mkRow_app m l]
theorem mkRow_at:∀ {l:List Int} {i:Nat} {n:Int},l[i]?=some n→(mkRow l)[i * 4]?=some (.slice none 0 0)∧(mkRow l)[i * 4 + 1]?=some (.slice none 0 0)∧(mkRow l)[i * 4 + 2]?=some (.int .i64 n)∧(mkRow l)[i * 4 + 3]?=some (.int .i64 0)
 | [],_,_,h=>by simp at h
 | x :: l,0,n,h=>by
  simp only [List.getElem?_cons_zero,Option.some.injEq] at h
  subst h;exact ⟨rfl,rfl,rfl,rfl⟩
 | x :: l,i + 1,n,h=>by
  simp only [List.getElem?_cons_succ] at h
  rw [show (i + 1) * 4=i * 4 + 1 + 1 + 1 + 1 by omega]
  exact mkRow_at h
theorem mkRow_one:∀ (l:List Int),∀ u ∈ mkRow l,u.oneCell'=true
 | []=>by simp [mkRow]
 | n :: l=>by
  intro u hu
  simp only [mkRow,List.mem_cons] at hu
  rcases hu with rfl | rfl | rfl | rfl | hu
  all_goals first | rfl | exact mkRow_one l u hu
def RetNew (w:World) (r:Vn × Int) (e:Ending) (w':World):Prop :=
 ∃ A c M k,e=.returned (.tuple #[.agg #[.slice A r.1.accs.length c,.slice M r.1.mks.length k,.int .i64 r.1.ins,.int .i64 r.1.resid,.int .i64 r.1.next,.int .i64 r.1.inn,.int .i64 r.1.out],.int .i64 r.2])∧(∃ xs,OwnAc w' w.heap.size A r.1.accs.length c r.1.accs xs)∧(∃ ys,OwnMk w' w.heap.size false M r.1.mks.length k r.1.mks ys)∧Below w.heap.size w w'
structure NwR (w wr:World) (l:List Int) (j:Nat) (M:Option Addr) (k:Nat):Prop where
 x:Blk wr (w.heap.size + 1) 111 #[.slice none 0 0,.slice M j k,.int .i64 0,.int .i64 0,.int .i64 1,.int .i64 0,.int .i64 0]
 r:Blk wr w.heap.size 111 #[.slice none 0 0,.slice none 0 0,.int .i64 0,.int .i64 0,.int .i64 0,.int .i64 0,.int .i64 0]
 row:wr.ownsRow w.heap.size 64 4 (.slice M j k) j (mkRow (l.take j))
 low:Below w.heap.size w wr
theorem NwR.own {w wr:World} {l:List Int} {M:Option Addr} {k:Nat} (h:NwR w wr l l.length M k):OwnMk wr w.heap.size false M (freshVn l).mks.length k (freshVn l).mks (mkRow l):=by
 have hl:(freshVn l).mks.length=l.length:=List.length_map ..
 have hr:=h.row
 rw [List.take_length] at hr
 refine ⟨by rw [hl];exact hr,rfl,fun i m hm=>?_,nofun⟩
 have hm':(l[i]?).map (fun n=>(⟨⟨[],[]⟩,n,0⟩:Mk))=some m:=by rw [← List.getElem?_map];exact hm
 cases hi:l[i]? with
 | none=>rw [hi] at hm';cases hm'
 | some n =>
  rw [hi] at hm'
  injection hm' with hm'
  subst hm'
  obtain ⟨h0,h1,h2,h3⟩:=mkRow_at hi
  exact ⟨none,0,none,0,h0,h1,h2,h3,⟨World.ownsRow_nil _ _ _ _,World.ownsRow_nil _ _ _ _⟩,by simp,by simp⟩
set_option maxHeartbeats 4000000 in
set_option maxRecDepth 100000 in
theorem vnew_any (A:Option Addr) (c:Nat) (l:List Int) (B:Nat) (w:World) (h:Rd w B 1 A l.length c (ints l)) (hB:B ≤ w.heap.size) (hn:l.length ≤ 2000000000000) :
  Calls Try.prog 154 #[.slice A l.length c] w (RetNew w (newOf l)):=by
 have hcap:=h.cap
 have hle:=h.le
 unfold maxLen at hcap
 have HR:=Lib.hid h
 clear h
 go_enter Try.func154,Try.ntmps154
 go_wp2_with fail
 refine wp_name ?_
 intro W0 hW0
 have hz:NwR w W0 l 0 none 0:=by
  rw [hW0]
  exact ⟨Blk.new_at _ _ _ _ (by simp),(Blk.new w _ _).alloc _,World.ownsRow_nil _ _ _ _,((Below.refl _ _).alloc (Nat.le_refl _) _).alloc (by simp) _⟩
 have HZ:=Lib.hid hz
 clear hW0 hz
 go_loopw [11] (fun i wr=>∃ (j:Nat) (M:Option Addr) (k:Nat),j ≤ l.length∧i=.int .i64 j∧Hid (NwR w wr l j M k)) (fun i _=>l.length - (intOf i).toNat)
 case atStart=>exact ⟨0,none,0,by omega,rfl,HZ⟩
 case round =>
  obtain ⟨wo,rfl⟩:∃ x,x=wr:=⟨wr,rfl⟩
  obtain ⟨j,M,k,hj,rfl,HN⟩:=hrel
  have hs0:=HN.out.low.size
  have hxl:=HN.out.x.lt
  by_cases hlt:j < l.length
  ·obtain ⟨b,o,rfl,hb,z,hz,q0⟩:=(HR.out.below (HN.out.low.mono hB)).int hlt
   have HZ:=Lib.hid hz
   have hbw:b < wo.heap.size:=by omega
   clear hz
   obtain ⟨⟨-,k1,-,-,-,-,-⟩,-,f1,-⟩:=HN.out.x.c7
   have hne:=own_blk_ne HN.out.row HN.out.x (by decide)
   have HNE:=Lib.hid hne
   clear hne
   have KX:Hid (∀ Wn,(wo.alloc (.cells #[.slice none 0 0,.slice none 0 0,.int .i64 z,.int .i64 0] 64)).grownBy Wn (Value.slice M j k).ownBlock→Blk Wn (w.heap.size + 1) 111 #[.slice none 0 0,.slice M j k,.int .i64 0,.int .i64 0,.int .i64 1,.int .i64 0,.int .i64 0]):=fun Wn hg=>(HN.out.x.alloc _).grown hg HNE.out
   go_wp2_with (at_builtin;go_must (refine wpList_app rfl _ _ _ rfl w.heap.size _ _ _ elem_mk' _ j (mkRow (l.take j)) rfl (HN.out.row.alloc _) (wo.heap.size + 1) _ _ _ (mkRow [z]) rfl (rd_new _ _ _ 4 rfl rfl _ rfl) (mkRow_one [z]) (by simp only [maxLen];omega) (by omega) (by simp;omega) ?_);intro v' w4 hown hbel hg _;obtain ⟨M',k',rfl⟩:=own_shape hown;have hx4:=KX.out _ hg;obtain ⟨⟨_,z1,_⟩,_,g1,_⟩:=hx4.c7)
   have hr4:=(HN.out.r.alloc (.cells #[.slice none 0 0,.slice none 0 0,.int .i64 z,.int .i64 0] 64)).grown hg (own_blk_ne HN.out.row HN.out.r (by decide))
   have e1:mkRow (l.take j) ++ mkRow [z]=mkRow (l.take (j + 1)):=by rw [List.take_add_one,HZ.out,mkRow_app];rfl
   rw [e1] at hown
   have hn4:NwR w (w4.setCell ⟨w.heap.size + 1,1,none⟩ (.slice M' (j + 1) k')) l (j + 1) M' k' :=
    ⟨hx4.set_ 1 _,hr4.far (p:=⟨w.heap.size + 1,1,none⟩) (by simp) _,((Kept.refl [111] w4).set hx4 (by decide) 1 _).own hown (by decide),((HN.out.low.trans (((Below.refl _ _).alloc (by omega) _).trans hbel))).setCell (by simp) _⟩
   have HN4:=Lib.hid hn4
   clear hn4 hown hbel hg hx4 hr4 k1 f1 KX
   go_wp2_with fail
   go_roundw
   case rel=>exact ⟨j + 1,M',k',by omega,by go_num,HN4⟩
   case measure=>simp [intOf];omega
  ·obtain rfl:j=l.length:=by omega
   obtain ⟨en,hen⟩:∃ en,venueErr (freshVn l)=en:=⟨_,rfl⟩
   have HEN:=Lib.hid hen
   have HOM:=Lib.hid HN.out.own
   have hml:(freshVn l).mks.length=l.length:=List.length_map ..
   have HV:=Lib.hid (show VnR wo wo.heap.size none 0 M k (freshVn l) from ⟨RdL.none_ _ _ _,HOM.out.read⟩)
   obtain ⟨⟨k0,k1,k2,k3,k4,k5,k6⟩,-⟩:=HN.out.x.c7
   have hck:=vcheck_ref (freshVn l) none M 0 k wo.heap.size wo HEN.out HV.out (Nat.le_refl _)
   rw [hml] at hck
   have hck2:Calls Try.prog 114 #[.agg #[.slice none 0 0,.slice M l.length k,.int .i64 0,.int .i64 0,.int .i64 1,.int .i64 0,.int .i64 0]] wo fun e' w'=>e'=.returned (.int .i64 en)∧Below wo.heap.size wo w':=hck
   have HCK:=Lib.hid hck2
   clear hen hck hck2
   go_wp2_with fail
   refine (HCK.out).mono ?_
   rintro e W2 ⟨rfl,hb2⟩
   have hs2:=hb2.size
   have X2:=HN.out.x.below hb2 hxl
   have R2:=HN.out.r.below hb2 HN.out.r.lt
   have HM2:=Lib.hid (HOM.out.below hb2)
   have hB2:=HN.out.low.trans (hb2.mono (by omega))
   clear hb2 k0 k1 k2 k3 k4 k5 k6
   by_cases he:en=0
   rotate_left
   ·have he':(en != 0)=true:=by simpa using he
    have HD:=Lib.hid (show newOf l=(zeroVn,en) by unfold newOf;rw [HEN.out,if_pos he])
    clear he X2
    obtain ⟨⟨r0,r1,r2,r3,r4,r5,r6⟩,f0,f1,f2,f3,f4,f5,f6⟩:=R2.c7
    have y1:=R2.lt
    go_wp2_with fail
    refine post_name ?_
    intro Z hZ
    obtain ⟨RZ,hK,hL⟩:=put7 (g:=w.heap.size) R2 hZ
    have HLZ:=Lib.hid (hB2.trans (hL _ (Nat.le_refl _)))
    have HK:=Lib.hid hK
    clear hZ hK hL r0 r1 r2 r3 r4 r5 r6 f0 f1 f2 f3 f4 f5 f6 R2
    obtain ⟨⟨r0,r1,r2,r3,r4,r5,r6⟩,-⟩:=RZ.c7
    refine bodyPost_ret (v:=.tuple #[.agg #[.slice none 0 0,.slice none 0 0,.int .i64 0,.int .i64 0,.int .i64 0,.int .i64 0,.int .i64 0],.int .i64 en]) (by simp [results,Try.results154,go_sem, *]) rfl ?_
    rw [HD.out]
    exact ⟨none,0,none,0,rfl,⟨_,ownAc_nil _ _⟩,⟨[],World.ownsRow_nil _ _ _ _,rfl,(fun i a h=>by simp [zeroVn] at h),nofun⟩,HLZ.out⟩
   subst he
   have HD:=Lib.hid (show newOf l=(freshVn l,0) by unfold newOf;rw [HEN.out,if_neg (by simp)])
   obtain ⟨⟨k0,k1,k2,k3,k4,k5,k6⟩,-⟩:=X2.c7
   have y2:=X2.lt
   obtain ⟨⟨r0,r1,r2,r3,r4,r5,r6⟩,f0,f1,f2,f3,f4,f5,f6⟩:=R2.c7
   have y1:=R2.lt
   go_wp2_with fail
   refine post_name ?_
   intro Z hZ
   obtain ⟨RZ,hK,hL⟩:=put7 (g:=w.heap.size) R2 hZ
   have HLZ:=Lib.hid (hB2.trans (hL _ (Nat.le_refl _)))
   have HK:=Lib.hid hK
   clear hZ hK hL r0 r1 r2 r3 r4 r5 r6 f0 f1 f2 f3 f4 f5 f6 R2
   obtain ⟨⟨r0,r1,r2,r3,r4,r5,r6⟩,-⟩:=RZ.c7
   refine bodyPost_ret (v:=.tuple #[.agg #[.slice none 0 0,.slice M l.length k,.int .i64 0,.int .i64 0,.int .i64 1,.int .i64 0,.int .i64 0],.int .i64 0]) (by simp [results,Try.results154,go_sem, *]) rfl ?_
   rw [HD.out]
   have hm2:=HM2.out.kept HK.out (by decide) (by decide)
   refine ⟨none,0,M,k,?_,⟨_,ownAc_nil _ _⟩,⟨_,hm2⟩,HLZ.out⟩
   rw [hml];rfl
end
section
open Go.RowKit
def REs (w:World) (B b o:Nat) (l:List Ev):Prop:=∃ A c,w.cell? ⟨b,o,none⟩=some (.slice A l.length c)∧Rd w B 13 A l.length c (evCells l)
def shEs:Shape (List Ev) where
 k:=1
 R:=REs
 move:=by
  intro w w' B B' b o b' o' a h hc hB hk
  obtain ⟨A,c,h0,h1⟩:=h
  exact ⟨A,c,(hc 0 (by omega)).trans h0,h1.mono hB hk⟩
 cells:=by
  intro w B b o a h j hj
  obtain ⟨A,c,h0,_⟩:=h
  rcases (show j=0 by omega) with rfl
  exact ⟨_,h0,rfl⟩
theorem elem_es:Elem Try.prog 139 114 1 24:=elem_mk Try.underlying139 (by kernel_rfl) (by decide)
structure OwnEs (w:World) (base:Nat) (v:Value) (n:Nat) (L:List (List Ev)) (zs:List Value):Prop where
 row:w.ownsRow base 114 1 v n zs
 len:L.length=n
 cell:∀ (i:Nat) (l:List Ev),L[i]?=some l→∃ (A:Option Addr) (c:Nat),zs[i]?=some (Value.slice A l.length c)∧w.ownsRow base 124 13 (.slice A l.length c) l.length (evCells l)
 one:∀ u ∈ zs,u.oneCell'=true
theorem OwnEs.nil (w:World) (base:Nat):OwnEs w base (.slice none 0 0) 0 [] []:=⟨World.ownsRow_nil _ _ _ _,rfl,fun i l h=>by simp at h,by simp⟩
theorem OwnEs.below {w w':World} {base n:Nat} {v:Value} {L:List (List Ev)} {zs:List Value} (h:OwnEs w base v n L zs) (hb:Below w.heap.size w w'):OwnEs w' base v n L zs :=
 ⟨own_below h.row hb (Nat.le_refl _),h.len,fun i l hi=>by obtain ⟨A,c,h0,h1⟩:=h.cell i l hi;exact ⟨A,c,h0,own_below h1 hb (Nat.le_refl _)⟩,h.one⟩
theorem OwnEs.kept {S:List TypeId} {w w':World} {base n:Nat} {v:Value} {L:List (List Ev)} {zs:List Value} (h:OwnEs w base v n L zs) (hb:Kept S w w') (h1:114 ∉ S) (h2:124 ∉ S):OwnEs w' base v n L zs :=
 ⟨hb.own h.row h1,h.len,fun i l hi=>by obtain ⟨A,c,h0,h3⟩:=h.cell i l hi;exact ⟨A,c,h0,hb.own h3 h2⟩,h.one⟩
theorem OwnEs.snoc {w w':World} {base n:Nat} {v v':Value} {L:List (List Ev)} {zs:List Value} {E:Option Addr} {c:Nat} {l:List Ev} (h:OwnEs w base v n L zs) (hk:∀ v n xs,w.ownsRow base 124 13 v n xs→w'.ownsRow base 124 13 v n xs) (hr:w'.ownsRow base 114 1 v' (n + 1) (zs ++ [.slice E l.length c]))
  (he:w'.ownsRow base 124 13 (.slice E l.length c) l.length (evCells l)):OwnEs w' base v' (n + 1) (L ++ [l]) (zs ++ [.slice E l.length c]):=by
 have hzl:=h.row.1
 have hl:=h.len
 refine ⟨hr,by simp [hl],fun i x hx=>?_,fun u hu=>?_⟩
 ·by_cases hi:i < n
  ·rw [List.getElem?_append_left (by omega)] at hx
   obtain ⟨A,c',h0,h1⟩:=h.cell i x hx
   exact ⟨A,c',by rw [List.getElem?_append_left (by omega)];exact h0,hk _ _ _ h1⟩
  ·have hil:=(List.getElem?_eq_some_iff.1 hx).1
   obtain rfl:i=n:=by simp at hil;omega
   rw [List.getElem?_append_right (by omega),hl,Nat.sub_self] at hx
   injection hx with hx
   subst hx
   exact ⟨E,c,by rw [List.getElem?_append_right (by omega)];rw [show i - zs.length=0 by omega];rfl,he⟩
 ·rcases List.mem_append.1 hu with hu | hu
  ·exact h.one u hu
  ·simp only [List.mem_singleton] at hu
   subst hu;rfl
theorem OwnEs.read {w:World} {base n c:Nat} {A:Option Addr} {L:List (List Ev)} {zs:List Value} (h:OwnEs w base (.slice A n c) n L zs):RdL shEs w w.heap.size A n c L:=by
 have hr:=Rd.of_own h.row
 refine ⟨h.len,hr.le,hr.cap,hr.nil,fun hn=>?_⟩
 obtain ⟨b,o,e,hb,hc⟩:=hr.at_ hn
 refine ⟨b,o,e,hb,fun i a ha=>?_⟩
 obtain ⟨A2,c2,k1,k2⟩:=h.cell i a ha
 refine ⟨A2,c2,?_,Rd.of_own k2⟩
 show w.cell? ⟨b,o + i * 1,none⟩=_
 rw [Nat.mul_one];exact hc _ _ k1
def RetRun (w:World) (r:Vn × List (List Ev) × Int) (e:Ending) (w':World):Prop :=
 ∃ A c M k E n,e=.returned (.tuple #[.agg #[.slice A r.1.accs.length c,.slice M r.1.mks.length k,.int .i64 r.1.ins,.int .i64 r.1.resid,.int .i64 r.1.next,.int .i64 r.1.inn,.int .i64 r.1.out],.slice E r.2.1.length n,.int .i64 r.2.2])∧(∃ xs,OwnAc w' w.heap.size A r.1.accs.length c r.1.accs xs)∧(∃ ys,OwnMk w' w.heap.size false M r.1.mks.length k r.1.mks ys) ∧
  (∃ zs,OwnEs w' w.heap.size (.slice E r.2.1.length n) r.2.1.length r.2.1 zs)∧Below w.heap.size w w'
theorem retRun_err {w w':World} {r:Vn × List (List Ev) × Int} {n:Int} (h:r=(zeroVn,[],n)) (hb:Below w.heap.size w w'):RetRun w r (.returned (.tuple #[.agg #[.slice none 0 0,.slice none 0 0,.int .i64 0,.int .i64 0,.int .i64 0,.int .i64 0,.int .i64 0],.slice none 0 0,.int .i64 n])) w':=by
 subst h
 exact ⟨none,0,none,0,none,0,rfl,⟨_,ownAc_nil _ _⟩,⟨[],World.ownsRow_nil _ _ _ _,rfl,(fun i a h=>by simp [zeroVn] at h),nofun⟩,⟨_,OwnEs.nil _ _⟩,hb⟩
structure RnR (w wr:World) (A:Option Addr) (c:Nat) (M:Option Addr) (k:Nat) (vj:Vn) (v:Value) (j:Nat) (L:List (List Ev)):Prop where
 x:Blk wr w.heap.size 111 #[.slice A vj.accs.length c,.slice M vj.mks.length k,.int .i64 vj.ins,.int .i64 vj.resid,.int .i64 vj.next,.int .i64 vj.inn,.int .i64 vj.out]
 r:Blk wr (w.heap.size + 1) 111 #[.slice none 0 0,.slice none 0 0,.int .i64 0,.int .i64 0,.int .i64 0,.int .i64 0,.int .i64 0]
 accs:∃ xs,OwnAc wr w.heap.size A vj.accs.length c vj.accs xs
 mks:∃ ys,OwnMk wr w.heap.size false M vj.mks.length k vj.mks ys
 out:∃ zs,OwnEs wr w.heap.size v j L zs
 low:Below w.heap.size w wr
theorem RnR.below {w wr W:World} {A M:Option Addr} {c k j:Nat} {vj:Vn} {v:Value} {L:List (List Ev)} (h:RnR w wr A c M k vj v j L) (hb:Below wr.heap.size wr W):RnR w W A c M k vj v j L:=by
 obtain ⟨xs,h1⟩:=h.accs
 obtain ⟨ys,h2⟩:=h.mks
 obtain ⟨zs,h3⟩:=h.out
 exact ⟨h.x.below hb h.x.lt,h.r.below hb h.r.lt,⟨xs,h1.below hb⟩,⟨ys,h2.below hb⟩,⟨zs,h3.below hb⟩,h.low.trans (hb.mono h.low.size)⟩
theorem RnR.vnr {w wr:World} {A M:Option Addr} {c k j:Nat} {vj:Vn} {v:Value} {L:List (List Ev)} (h:RnR w wr A c M k vj v j L):VnR wr wr.heap.size A c M k vj:=by
 obtain ⟨xs,h1⟩:=h.accs
 obtain ⟨ys,h2⟩:=h.mks
 exact ⟨h1.read,h2.read⟩
theorem run_step {v:Vn} {out:List (List Ev)} {l:List Cm} {j:Nat} {cm:Cm} {w:Vn} {ev:List Ev} {e:Int} (h:l[j]?=some cm) (hd:doOf v cm=(w,ev,e)) :
  runFrom v out (l.drop j)=if e ≠ 0 then (zeroVn,[],e) else runFrom w (out ++ [ev]) (l.drop (j + 1)):=by
 obtain ⟨h1,h2⟩:=List.getElem?_eq_some_iff.1 h
 rw [List.drop_eq_getElem_cons h1,h2,runFrom,hd]
theorem OwnAc.fr {S:List TypeId} {G:List Nat} {w w':World} {base n c:Nat} {A:Option Addr} {L:List Ac} {xs:List Value} (h:OwnAc w base A n c L xs) (hF:Fr S G w w') (h1:37 ∉ S) (h2:3 ∉ S) (hG:∀ g ∈ G,g < base):OwnAc w' base A n c L xs :=
 h.mono (hF.own h.row h1 fun g hg hm=>by have:=(World.ownsRow.lt h.row g hg).1;have:=hG g hm;omega) fun v n ys hr=>hF.own hr h2 fun g hg hm=>by have:=(World.ownsRow.lt hr g hg).1;have:=hG g hm;omega
theorem OwnMk.fr {S:List TypeId} {G:List Nat} {w w':World} {base m k:Nat} {ap:Bool} {M:Option Addr} {L:List Mk} {xs:List Value} (h:OwnMk w base ap M m k L xs) (hF:Fr S G w w') (h1:64 ∉ S) (h2:71 ∉ S) (hG:∀ g ∈ G,g < base):OwnMk w' base ap M m k L xs :=
 h.mono (hF.own h.row h1 fun g hg hm=>by have:=(World.ownsRow.lt h.row g hg).1;have:=hG g hm;omega) fun v n ys hr=>hF.own hr h2 fun g hg hm=>by have:=(World.ownsRow.lt hr g hg).1;have:=hG g hm;omega
theorem rd_blk1 {w:World} {g B:Nat} {t:TypeId} {u:Value} (h:Blk w g t #[u]) (hB:g < B):Rd w B 1 (some ⟨g,0,none⟩) 1 1 [u] :=
 ⟨rfl,Nat.le_refl _,by decide,nofun,fun _=>⟨g,0,rfl,hB,fun j u' hj=>by
  rw [h.cell,Nat.zero_add]
  simpa using hj⟩⟩
theorem fr_set7 {S:List TypeId} {w:World} {g:Nat} {b0 b1 b2 b3 b4 b5 b6 a0 a1 a2 a3 a4 a5 a6:Value} (h:Blk w g 111 #[b0,b1,b2,b3,b4,b5,b6]) :
  Fr S [g] w (((((((w.setCell ⟨g,0,none⟩ a0).setCell ⟨g,1,none⟩ a1).setCell ⟨g,2,none⟩ a2).setCell ⟨g,3,none⟩ a3).setCell ⟨g,4,none⟩ a4).setCell ⟨g,5,none⟩ a5).setCell ⟨g,6,none⟩ a6):=by
 have h0:=h.set_ 0 a0
 have h1:=h0.set_ 1 a1
 have h2:=h1.set_ 2 a2
 have h3:=h2.set_ 3 a3
 have h4:=h3.set_ 4 a4
 have h5:=h4.set_ 5 a5
 exact (((((((Fr.refl S [g] w).set h (.inr (by simp)) _ _).set h0 (.inr (by simp)) _ _).set h1 (.inr (by simp)) _ _).set h2 (.inr (by simp)) _ _).set h3 (.inr (by simp)) _ _).set h4 (.inr (by simp)) _ _).set h5 (.inr (by simp)) _ _
theorem rn_next {w W Z:World} {A M A5 M5 E E' E5:Option Addr} {c k c5 k5 j en e' n5 B:Nat} {vj vd:Vn} {L:List (List Ev)} {evd:List Ev} {zs xs ys:List Value} (h:RnR w W A c M k vj (.slice E j en) j L) (hz:OwnEs W w.heap.size (.slice E j en) j L zs)
  (ha:OwnAc W B A5 vd.accs.length c5 vd.accs xs) (hm:OwnMk W B false M5 vd.mks.length k5 vd.mks ys) (he:W.ownsRow B 124 13 (.slice E5 evd.length n5) evd.length (evCells evd)) (hB:w.heap.size < B)
  (hF:Fr [114] [w.heap.size] W Z) (hX:Blk Z w.heap.size 111 #[.slice A5 vd.accs.length c5,.slice M5 vd.mks.length k5,.int .i64 vd.ins,.int .i64 vd.resid,.int .i64 vd.next,.int .i64 vd.inn,.int .i64 vd.out]) (ho:Z.ownsRow w.heap.size 114 1 (.slice E' (j + 1) e') (j + 1) (zs ++ [.slice E5 evd.length n5])) (hL:Below w.heap.size W Z) :
  RnR w Z A5 c5 M5 k5 vd (.slice E' (j + 1) e') (j + 1) (L ++ [evd]):=by
 have hev:∀ b v n xs,W.ownsRow b 124 13 v n xs→Z.ownsRow b 124 13 v n xs:=fun b v n xs hr=>hF.own hr (by decide) fun g hg hm=>by
  simp only [List.mem_singleton] at hm
  subst hm
  exact own_blk_ne hr h.x (by decide) hg
 refine ⟨hX,h.r.fr hF (by decide) (by simp),⟨xs,(ha.fr hF (by decide) (by decide) (by simpa using hB)).lower (by omega)⟩,⟨ys,(hm.fr hF (by decide) (by decide) (by simpa using hB)).lower (by omega)⟩,⟨_,hz.snoc (fun v n xs hr=>hev _ v n xs hr) ho (own_mono (hev _ _ _ _ he) (by omega))⟩,h.low.trans hL⟩
theorem vdo_ref {vd:Vn} {evd:List Ev} {ed:Int} (v:Vn) (cm:Cm) (A M:Option Addr) (c k:Nat) (B:Nat) (w:World) (hr:doOf v cm=(vd,evd,ed)) (h:VnR w B A c M k v) (hB:B ≤ w.heap.size) :
  Calls Try.prog 103 #[.agg #[.slice A v.accs.length c,.slice M v.mks.length k,.int .i64 v.ins,.int .i64 v.resid,.int .i64 v.next,.int .i64 v.inn,.int .i64 v.out],.agg #[.int .i64 cm.kind,.int .i64 cm.acc,.int .i64 cm.market,.int .i64 cm.n,.int .i64 cm.o.id,.int .i64 cm.o.acc,.int .i64 cm.o.side,.int .i64 cm.o.price,.int .i64 cm.o.qty,.int .i64 cm.how,.bool cm.reduce]] w (RetDo w (vd,evd,ed)):=by rw [← hr];exact vdo_any v cm A M c k B w h hB
set_option maxHeartbeats 4000000 in
set_option maxRecDepth 100000 in
theorem vrun_any (v:Vn) (l:List Cm) (A M S:Option Addr) (c k n cs:Nat) (B B':Nat) (w:World) (h:VnR w B A c M k v) (hB:B ≤ w.heap.size) (hl:RdL shCm w B' S n cs l) (hB':B' ≤ w.heap.size) :
  Calls Try.prog 123 #[.agg #[.slice A v.accs.length c,.slice M v.mks.length k,.int .i64 v.ins,.int .i64 v.resid,.int .i64 v.next,.int .i64 v.inn,.int .i64 v.out],.slice S n cs] w (RetRun w (runOf v l)):=by
 have HV:=Lib.hid h
 have HL:=Lib.hid hl
 have hln:l.length=n:=hl.len
 have hcap:=hl.cap
 have hle:=hl.le
 unfold maxLen at hcap
 obtain ⟨ev,hev⟩:∃ ev,venueErr v=ev:=⟨_,rfl⟩
 have HEV:=Lib.hid hev
 clear h hev hl
 go_enter Try.func123,Try.ntmps123
 go_wp2_with fail
 refine calls_name ?_
 intro W0 hW0
 have hB0:Below w.heap.size w W0:=by rw [hW0];exact ((Below.refl _ _).alloc (Nat.le_refl _) _).alloc (by simp) _
 have X0:Blk W0 w.heap.size 111 #[.slice A v.accs.length c,.slice M v.mks.length k,.int .i64 v.ins,.int .i64 v.resid,.int .i64 v.next,.int .i64 v.inn,.int .i64 v.out]:=by rw [hW0];exact (Blk.new w _ _).alloc _
 have R0:Blk W0 (w.heap.size + 1) 111 #[.slice none 0 0,.slice none 0 0,.int .i64 0,.int .i64 0,.int .i64 0,.int .i64 0,.int .i64 0]:=by rw [hW0];exact Blk.new_at _ _ _ _ (by simp)
 have hs0:W0.heap.size=w.heap.size + 2:=by rw [hW0];simp
 clear hW0
 refine (vcheck_ref v A M c k B W0 HEV.out (HV.out.below (hB0.mono hB)) (by omega)).mono ?_
 rintro e W1 ⟨rfl,hb1⟩
 have hs1:=hb1.size
 have hB1:=hB0.trans (hb1.mono (by omega))
 have X1:=X0.below hb1 X0.lt
 have R1:=R0.below hb1 R0.lt
 clear hb1 X0 R0 hB0
 by_cases he:ev=0
 rotate_left
 ·have he':(ev != 0)=true:=by simpa using he
  have HD:=Lib.hid (show runOf v l=(zeroVn,[],ev) by unfold runOf;rw [HEV.out,if_pos he])
  clear he
  obtain ⟨⟨r0,r1,r2,r3,r4,r5,r6⟩,f0,f1,f2,f3,f4,f5,f6⟩:=(R1).c7
  have y1:=(R1).lt
  go_wp2_with fail
  refine post_name ?_
  intro Z hZ
  obtain ⟨RZ,hK,hL⟩:=put7 (g:=w.heap.size + 1) (R1) hZ
  have HLZ:=Lib.hid (hB1.trans (hL _ (by omega)))
  clear hZ hK hL r0 r1 r2 r3 r4 r5 r6 f0 f1 f2 f3 f4 f5 f6
  obtain ⟨⟨r0,r1,r2,r3,r4,r5,r6⟩,-⟩:=RZ.c7
  refine bodyPost_ret (v:=.tuple #[.agg #[.slice none 0 0,.slice none 0 0,.int .i64 0,.int .i64 0,.int .i64 0,.int .i64 0,.int .i64 0],.slice none 0 0,.int .i64 ev]) (by simp [results,Try.results123,go_sem, *]) rfl ?_
  exact retRun_err HD.out HLZ.out
 subst he
 have HOK:=Lib.hid (venueErr_ok.1 HEV.out)
 by_cases hn:60 < n
 ·have hn':decide (60 < (n:Int))=true:=decide_eq_true (by omega)
  have HD:=Lib.hid (show runOf v l=(zeroVn,[],2) by unfold runOf;rw [HEV.out,if_neg (by simp),if_pos (by omega)])
  obtain ⟨⟨r0,r1,r2,r3,r4,r5,r6⟩,f0,f1,f2,f3,f4,f5,f6⟩:=(R1).c7
  have y1:=(R1).lt
  go_wp2_with fail
  refine post_name ?_
  intro Z hZ
  obtain ⟨RZ,hK,hL⟩:=put7 (g:=w.heap.size + 1) (R1) hZ
  have HLZ:=Lib.hid (hB1.trans (hL _ (by omega)))
  clear hZ hK hL r0 r1 r2 r3 r4 r5 r6 f0 f1 f2 f3 f4 f5 f6
  obtain ⟨⟨r0,r1,r2,r3,r4,r5,r6⟩,-⟩:=RZ.c7
  refine bodyPost_ret (v:=.tuple #[.agg #[.slice none 0 0,.slice none 0 0,.int .i64 0,.int .i64 0,.int .i64 0,.int .i64 0,.int .i64 0],.slice none 0 0,.int .i64 2]) (by simp [results,Try.results123,go_sem, *]) rfl ?_
  exact retRun_err HD.out HLZ.out
 have hn':decide (60 < (n:Int))=false:=decide_eq_false (by omega)
 have hn2:decide (60 < n)=false:=decide_eq_false (by omega)
 have HD:=Lib.hid (show runOf v l=runFrom v [] l by unfold runOf;rw [HEV.out,if_neg (by simp),if_neg (by omega)])
 obtain ⟨⟨kX10,kX11,kX12,kX13,kX14,kX15,kX16⟩,-⟩:=X1.c7
 have x1:=X1.lt
 go_wp2_with fail
 refine (vcopy_any v A M c k B W1 (HV.out.below (hB1.mono hB)) (by omega) HOK.out).mono ?_
 rintro e W2 ⟨A2,c2,M2,k2,xs,ys,rfl,hoa,hom,hb2⟩
 have hs2:=hb2.size
 have HOA:=Lib.hid hoa
 have HOM:=Lib.hid hom
 have X2:=X1.below hb2 X1.lt
 have R2:=R1.below hb2 R1.lt
 have hB2:=hB1.trans (hb2.mono (by omega))
 obtain ⟨⟨u0,u1,u2,u3,u4,u5,u6⟩,f0,f1,f2,f3,f4,f5,f6⟩:=X2.c7
 have y2:=X2.lt
 clear hoa hom kX10 kX11 kX12 kX13 kX14 kX15 kX16 x1 X1 R1
 go_wp2_with fail
 refine wp_name ?_
 intro W3 hW3
 obtain ⟨X3,hK3,hL3⟩:=put7 (g:=w.heap.size) X2 hW3
 have HR3:=Lib.hid (show RnR w W3 A2 c2 M2 k2 v (.slice none 0 0) 0 [] from
  ⟨X3,by rw [hW3];exact ((((((R2.far (p:=⟨w.heap.size,0,none⟩) (by simp) _).far (p:=⟨w.heap.size,1,none⟩) (by simp) _).far (p:=⟨w.heap.size,2,none⟩) (by simp) _).far (p:=⟨w.heap.size,3,none⟩) (by simp) _).far (p:=⟨w.heap.size,4,none⟩) (by simp) _).far (p:=⟨w.heap.size,5,none⟩) (by simp) _).far (p:=⟨w.heap.size,6,none⟩) (by simp) _,⟨xs,(HOA.out.kept hK3 (by decide) (by decide)).lower (by omega)⟩,⟨ys,((HOM.out.kept hK3 (by decide) (by decide)).weak).lower (by omega)⟩,⟨_,OwnEs.nil _ _⟩,hB2.trans (hL3 _ (Nat.le_refl _))⟩)
 clear hW3 hK3 hL3 X3 X2 R2 u0 u1 u2 u3 u4 u5 u6 f0 f1 f2 f3 f4 f5 f6 HOA HOM
 go_loopw [28,8] (fun i o wr=>∃ (j:Nat) (A:Option Addr) (c:Nat) (M:Option Addr) (k:Nat) (vj:Vn) (L:List (List Ev)),j ≤ n∧i=.int .i64 j∧Hid (RnR w wr A c M k vj o j L)∧Hid (runFrom vj L (l.drop j)=runOf v l)) (fun i _ _=>n - (intOf i).toNat)
 case atStart=>exact ⟨0,A2,c2,M2,k2,v,[],by omega,rfl,HR3,Lib.hid (by rw [HD.out];rfl)⟩
 case round =>
  obtain ⟨wo,rfl⟩:∃ x,x=wr:=⟨wr,rfl⟩
  obtain ⟨j,A,c,M,k,vj,L,hj,rfl,HR,HE⟩:=hrel
  obtain ⟨zs,hz⟩:=HR.out.out
  obtain ⟨E,en,rfl⟩:=own_shape hz.row
  have HZ:=Lib.hid hz
  clear hz
  by_cases hlt:j < n
  ·obtain ⟨b,o,cm,rfl,hb,hcm,q0,q1,q2,q3,q4,q5,q6,q7,q8,q9,q10⟩:=cm_at (HL.out.below (HR.out.low.mono hB')) hlt
   obtain ⟨vd,evd,ed,hd⟩:∃ vd evd ed,doOf vj cm=(vd,evd,ed):=⟨_,_,_,rfl⟩
   have HDO:=Lib.hid hd
   have HST:=Lib.hid (HE.out.symm.trans (run_step hcm hd))
   have hs0':=HR.out.low.size
   have hbw:b < wo.heap.size:=by omega
   clear hcm hd
   obtain ⟨⟨u0,u1,u2,u3,u4,u5,u6⟩,-⟩:=HR.out.x.c7
   have yx:=HR.out.x.lt
   go_wp2_with fail
   refine calls_name ?_
   intro W4 hW4
   have hB4:Below wo.heap.size wo W4:=by rw [hW4];first | exact (Below.refl _ _).alloc (Nat.le_refl _) _ | exact ((Below.refl _ _).alloc (Nat.le_refl _) _).setCell (Nat.le_refl _) _
   have HR4:=Lib.hid (HR.out.below hB4)
   have hs4:=hB4.size
   clear hW4 q0 q1 q2 q3 q4 q5 q6 q7 q8 q9 q10 u0 u1 u2 u3 u4 u5 u6
   refine (vdo_ref vj cm A M c k W4.heap.size W4 HDO.out HR4.out.vnr (Nat.le_refl _)).mono ?_
   rintro e W5 ⟨A5,c5,M5,k5,E5,n5,rfl,⟨xs5,ha5⟩,⟨ys5,hm5⟩,he5,hb5⟩
   have HA5:=Lib.hid ha5
   have HM5:=Lib.hid hm5
   have HE5:=Lib.hid he5
   have HR5:=Lib.hid (HR4.out.below hb5)
   have HZ5:=Lib.hid ((HZ.out.below hB4).below hb5)
   have hs5:=hb5.size
   have hsw:=HR4.out.low.size
   clear ha5 hm5 he5 hb5
   by_cases he:ed=0
   rotate_left
   ·have he':(ed != 0)=true:=by simpa using he
    have HD2:=Lib.hid (show runOf v l=(zeroVn,[],ed) by rw [HST.out,if_pos he])
    clear HD he
    have HD:=HD2
    have RR:=HR5.out.r.alloc (.cells #[.slice A5 vd.accs.length c5,.slice M5 vd.mks.length k5,.int .i64 vd.ins,.int .i64 vd.resid,.int .i64 vd.next,.int .i64 vd.inn,.int .i64 vd.out] 111)
    have hLR:=HR5.out.low.alloc (by omega) (.cells #[.slice A5 vd.accs.length c5,.slice M5 vd.mks.length k5,.int .i64 vd.ins,.int .i64 vd.resid,.int .i64 vd.next,.int .i64 vd.inn,.int .i64 vd.out] 111)
    obtain ⟨⟨r0,r1,r2,r3,r4,r5,r6⟩,f0,f1,f2,f3,f4,f5,f6⟩:=(RR).c7
    have y1:=(RR).lt
    go_wp2_with fail
    refine post_name ?_
    intro Z hZ
    obtain ⟨RZ,hK,hL⟩:=put7 (g:=w.heap.size + 1) (RR) hZ
    have HLZ:=Lib.hid (hLR.trans (hL _ (by omega)))
    clear hZ hK hL r0 r1 r2 r3 r4 r5 r6 f0 f1 f2 f3 f4 f5 f6
    obtain ⟨⟨r0,r1,r2,r3,r4,r5,r6⟩,-⟩:=RZ.c7
    refine bodyPost_ret (v:=.tuple #[.agg #[.slice none 0 0,.slice none 0 0,.int .i64 0,.int .i64 0,.int .i64 0,.int .i64 0,.int .i64 0],.slice none 0 0,.int .i64 ed]) (by simp [results,Try.results123,go_sem, *]) rfl ?_
    exact retRun_err HD.out HLZ.out
   subst he
   have HN:=Lib.hid (show runFrom vd (L ++ [evd]) (l.drop (j + 1))=runOf v l by rw [HST.out,if_neg (by simp)])
   go_wp2_with fail
   refine wp_name ?_
   intro W6 hW6
   have hB6:Below W5.heap.size W5 W6:=by rw [hW6];first | exact (Below.refl _ _).alloc (Nat.le_refl _) _ | exact ((Below.refl _ _).alloc (Nat.le_refl _) _).setCell (Nat.le_refl _) _
   have T6:Blk W6 W5.heap.size 111 #[.slice A5 vd.accs.length c5,.slice M5 vd.mks.length k5,.int .i64 vd.ins,.int .i64 vd.resid,.int .i64 vd.next,.int .i64 vd.inn,.int .i64 vd.out]:=by rw [hW6];exact Blk.new W5 _ _
   have hs6:=hB6.size
   have HR6:=Lib.hid (HR5.out.below hB6)
   have HA6:=Lib.hid (HA5.out.below hB6)
   have HM6:=Lib.hid (HM5.out.below hB6)
   have HE6:=Lib.hid (own_below HE5.out hB6 (Nat.le_refl _))
   have HZ6:=Lib.hid (HZ5.out.below hB6)
   clear hW6 HR5 HA5 HM5 HE5 HZ5 hB6
   have hX6:=HR6.out.x
   have hnx:(Value.slice E j en).ownBlock ≠ some w.heap.size:=own_blk_ne HZ6.out.row hX6 (by decide)
   have hnt:(Value.slice E j en).ownBlock ≠ some W5.heap.size:=own_blk_ne HZ6.out.row T6 (by decide)
   have Xa:Blk ((W6.alloc (.cells #[.slice E5 evd.length n5] 114)).drew) w.heap.size 111 _:=Blk.drewN (hX6.alloc _) 1
   have Fa:Fr [] [w.heap.size] W6 ((W6.alloc (.cells #[.slice E5 evd.length n5] 114)).drew):=((Fr.refl _ _ _).alloc _).drewN 1
   have Fb:Fr [] [w.heap.size] W6 (((((((((W6.setCell ⟨w.heap.size,0,none⟩ (.slice A5 vd.accs.length c5)).setCell ⟨w.heap.size,1,none⟩ (.slice M5 vd.mks.length k5)).setCell ⟨w.heap.size,2,none⟩ (.int .i64 vd.ins)).setCell ⟨w.heap.size,3,none⟩ (.int .i64 vd.resid)).setCell ⟨w.heap.size,4,none⟩ (.int .i64 vd.next)).setCell ⟨w.heap.size,5,none⟩ (.int .i64 vd.inn)).setCell ⟨w.heap.size,6,none⟩ (.int .i64 vd.out)).alloc (.cells #[.slice E5 evd.length n5] 114)).drew):=((fr_set7 hX6).alloc _).drewN 1
   have Fc:Fr [] [w.heap.size] W6 (((((((((W6.alloc (.cells #[.slice E5 evd.length n5] 114)).setCell ⟨w.heap.size,0,none⟩ (.slice A5 vd.accs.length c5)).setCell ⟨w.heap.size,1,none⟩ (.slice M5 vd.mks.length k5)).setCell ⟨w.heap.size,2,none⟩ (.int .i64 vd.ins)).setCell ⟨w.heap.size,3,none⟩ (.int .i64 vd.resid)).setCell ⟨w.heap.size,4,none⟩ (.int .i64 vd.next)).setCell ⟨w.heap.size,5,none⟩ (.int .i64 vd.inn)).setCell ⟨w.heap.size,6,none⟩ (.int .i64 vd.out)).drew):=(((Fr.refl _ _ _).alloc _).trans (fr_set7 (hX6.alloc _))).drewN 1
   have hown:∀ W,Fr [] [w.heap.size] W6 W→W.ownsRow w.heap.size 114 1 (.slice E j en) j zs:=fun W hW=>hW.own HZ6.out.row (by simp) (fun g hg hm=>by simp at hm;subst hm;exact hnx hg)
   have Oa:=Lib.hid (hown _ Fa)
   have Ob:=Lib.hid (hown _ Fb)
   have Oc:=Lib.hid (hown _ Fc)
   have La:=Lib.hid (show Below w.heap.size W6 ((W6.alloc (.cells #[.slice E5 evd.length n5] 114)).drew) from below_drewN ((Below.refl _ _).alloc (by omega) _) 1)
   have Lb:=Lib.hid (show Below w.heap.size W6 (((((((((W6.setCell ⟨w.heap.size,0,none⟩ (.slice A5 vd.accs.length c5)).setCell ⟨w.heap.size,1,none⟩ (.slice M5 vd.mks.length k5)).setCell ⟨w.heap.size,2,none⟩ (.int .i64 vd.ins)).setCell ⟨w.heap.size,3,none⟩ (.int .i64 vd.resid)).setCell ⟨w.heap.size,4,none⟩ (.int .i64 vd.next)).setCell ⟨w.heap.size,5,none⟩ (.int .i64 vd.inn)).setCell ⟨w.heap.size,6,none⟩ (.int .i64 vd.out)).alloc (.cells #[.slice E5 evd.length n5] 114)).drew) from below_drewN (Below.alloc ((put7 (g:=w.heap.size) hX6 rfl).2.2 _ (Nat.le_refl _)) (by simp only [size_setCell];omega) _) 1)
   have Lc:=Lib.hid (show Below w.heap.size W6 (((((((((W6.alloc (.cells #[.slice E5 evd.length n5] 114)).setCell ⟨w.heap.size,0,none⟩ (.slice A5 vd.accs.length c5)).setCell ⟨w.heap.size,1,none⟩ (.slice M5 vd.mks.length k5)).setCell ⟨w.heap.size,2,none⟩ (.int .i64 vd.ins)).setCell ⟨w.heap.size,3,none⟩ (.int .i64 vd.resid)).setCell ⟨w.heap.size,4,none⟩ (.int .i64 vd.next)).setCell ⟨w.heap.size,5,none⟩ (.int .i64 vd.inn)).setCell ⟨w.heap.size,6,none⟩ (.int .i64 vd.out)).drew) from below_drewN (((Below.refl _ _).alloc (by omega) _).trans ((put7 (g:=w.heap.size) (hX6.alloc _) rfl).2.2 _ (Nat.le_refl _))) 1)
   have Oa':=Oa.out
   have Ta:Blk ((W6.alloc (.cells #[.slice E5 evd.length n5] 114)).drew) W5.heap.size 111 #[.slice A5 vd.accs.length c5,.slice M5 vd.mks.length k5,.int .i64 vd.ins,.int .i64 vd.resid,.int .i64 vd.next,.int .i64 vd.inn,.int .i64 vd.out]:=T6.fr Fa (by simp) (by simp;omega)
   have Xb:Blk (((((((((W6.setCell ⟨w.heap.size,0,none⟩ (.slice A5 vd.accs.length c5)).setCell ⟨w.heap.size,1,none⟩ (.slice M5 vd.mks.length k5)).setCell ⟨w.heap.size,2,none⟩ (.int .i64 vd.ins)).setCell ⟨w.heap.size,3,none⟩ (.int .i64 vd.resid)).setCell ⟨w.heap.size,4,none⟩ (.int .i64 vd.next)).setCell ⟨w.heap.size,5,none⟩ (.int .i64 vd.inn)).setCell ⟨w.heap.size,6,none⟩ (.int .i64 vd.out)).alloc (.cells #[.slice E5 evd.length n5] 114)).drew) w.heap.size 111 #[.slice A5 vd.accs.length c5,.slice M5 vd.mks.length k5,.int .i64 vd.ins,.int .i64 vd.resid,.int .i64 vd.next,.int .i64 vd.inn,.int .i64 vd.out]:=Blk.drewN (Blk.alloc (put7 (g:=w.heap.size) hX6 rfl).1 _) 1
   have Xc:Blk (((((((((W6.alloc (.cells #[.slice E5 evd.length n5] 114)).setCell ⟨w.heap.size,0,none⟩ (.slice A5 vd.accs.length c5)).setCell ⟨w.heap.size,1,none⟩ (.slice M5 vd.mks.length k5)).setCell ⟨w.heap.size,2,none⟩ (.int .i64 vd.ins)).setCell ⟨w.heap.size,3,none⟩ (.int .i64 vd.resid)).setCell ⟨w.heap.size,4,none⟩ (.int .i64 vd.next)).setCell ⟨w.heap.size,5,none⟩ (.int .i64 vd.inn)).setCell ⟨w.heap.size,6,none⟩ (.int .i64 vd.out)).drew) w.heap.size 111 #[.slice A5 vd.accs.length c5,.slice M5 vd.mks.length k5,.int .i64 vd.ins,.int .i64 vd.resid,.int .i64 vd.next,.int .i64 vd.inn,.int .i64 vd.out]:=Blk.drewN (put7 (g:=w.heap.size) (hX6.alloc _) rfl).1 1
   have Ra:=Lib.hid (rd_blk1 (B:=W6.heap.size + 1) (show Blk ((W6.alloc (.cells #[.slice E5 evd.length n5] 114)).drew) W6.heap.size 114 #[.slice E5 evd.length n5] from Blk.drewN (Blk.new W6 _ _) 1) (Nat.lt_succ_self _))
   have Rb:=Lib.hid (rd_blk1 (B:=W6.heap.size + 1) (show Blk (((((((((W6.setCell ⟨w.heap.size,0,none⟩ (.slice A5 vd.accs.length c5)).setCell ⟨w.heap.size,1,none⟩ (.slice M5 vd.mks.length k5)).setCell ⟨w.heap.size,2,none⟩ (.int .i64 vd.ins)).setCell ⟨w.heap.size,3,none⟩ (.int .i64 vd.resid)).setCell ⟨w.heap.size,4,none⟩ (.int .i64 vd.next)).setCell ⟨w.heap.size,5,none⟩ (.int .i64 vd.inn)).setCell ⟨w.heap.size,6,none⟩ (.int .i64 vd.out)).alloc (.cells #[.slice E5 evd.length n5] 114)).drew) W6.heap.size 114 #[.slice E5 evd.length n5] from Blk.drewN (Blk.new_at _ _ _ _ (by simp only [size_setCell])) 1) (Nat.lt_succ_self _))
   have Rc:=Lib.hid (rd_blk1 (B:=W6.heap.size + 1) (show Blk (((((((((W6.alloc (.cells #[.slice E5 evd.length n5] 114)).setCell ⟨w.heap.size,0,none⟩ (.slice A5 vd.accs.length c5)).setCell ⟨w.heap.size,1,none⟩ (.slice M5 vd.mks.length k5)).setCell ⟨w.heap.size,2,none⟩ (.int .i64 vd.ins)).setCell ⟨w.heap.size,3,none⟩ (.int .i64 vd.resid)).setCell ⟨w.heap.size,4,none⟩ (.int .i64 vd.next)).setCell ⟨w.heap.size,5,none⟩ (.int .i64 vd.inn)).setCell ⟨w.heap.size,6,none⟩ (.int .i64 vd.out)).drew) W6.heap.size 114 #[.slice E5 evd.length n5] from Blk.drewN (((((((((Blk.new W6 _ _).far (p:=⟨w.heap.size,0,none⟩) (by dsimp only;omega) _).far (p:=⟨w.heap.size,1,none⟩) (by dsimp only;omega) _).far (p:=⟨w.heap.size,2,none⟩) (by dsimp only;omega) _).far (p:=⟨w.heap.size,3,none⟩) (by dsimp only;omega) _).far (p:=⟨w.heap.size,4,none⟩) (by dsimp only;omega) _).far (p:=⟨w.heap.size,5,none⟩) (by dsimp only;omega) _).far (p:=⟨w.heap.size,6,none⟩) (by dsimp only;omega) _)) 1) (Nat.lt_succ_self _))
   have Sa:=Lib.hid (show w.heap.size ≤ ((W6.alloc (.cells #[.slice E5 evd.length n5] 114)).drew).heap.size by have:=Fa.size;omega)
   have Sb:=Lib.hid (show w.heap.size ≤ (((((((((W6.setCell ⟨w.heap.size,0,none⟩ (.slice A5 vd.accs.length c5)).setCell ⟨w.heap.size,1,none⟩ (.slice M5 vd.mks.length k5)).setCell ⟨w.heap.size,2,none⟩ (.int .i64 vd.ins)).setCell ⟨w.heap.size,3,none⟩ (.int .i64 vd.resid)).setCell ⟨w.heap.size,4,none⟩ (.int .i64 vd.next)).setCell ⟨w.heap.size,5,none⟩ (.int .i64 vd.inn)).setCell ⟨w.heap.size,6,none⟩ (.int .i64 vd.out)).alloc (.cells #[.slice E5 evd.length n5] 114)).drew).heap.size by have:=Fb.size;omega)
   have Sc:=Lib.hid (show w.heap.size ≤ (((((((((W6.alloc (.cells #[.slice E5 evd.length n5] 114)).setCell ⟨w.heap.size,0,none⟩ (.slice A5 vd.accs.length c5)).setCell ⟨w.heap.size,1,none⟩ (.slice M5 vd.mks.length k5)).setCell ⟨w.heap.size,2,none⟩ (.int .i64 vd.ins)).setCell ⟨w.heap.size,3,none⟩ (.int .i64 vd.resid)).setCell ⟨w.heap.size,4,none⟩ (.int .i64 vd.next)).setCell ⟨w.heap.size,5,none⟩ (.int .i64 vd.inn)).setCell ⟨w.heap.size,6,none⟩ (.int .i64 vd.out)).drew).heap.size by have:=Fc.size;omega)
   have H1:=Lib.hid (show ∀ u ∈ [Value.slice E5 evd.length n5],u.oneCell'=true by intro u hu;simp at hu;subst hu;rfl)
   have HLEN:=Lib.hid (show j + 1 ≤ maxLen by simp only [maxLen];omega)
   have HBY:=Lib.hid (show (j + 1) * 24 ≤ 140737488355328 by omega)
   have KXa:Hid (∀ Wn,((W6.alloc (.cells #[.slice E5 evd.length n5] 114)).drew).grownBy Wn (Value.slice E j en).ownBlock→Blk Wn w.heap.size 111 #[.slice A vj.accs.length c,.slice M vj.mks.length k,.int .i64 vj.ins,.int .i64 vj.resid,.int .i64 vj.next,.int .i64 vj.inn,.int .i64 vj.out]):=fun Wn hg=>Blk.grown Xa hg hnx
   have KTa:Hid (∀ Wn,((W6.alloc (.cells #[.slice E5 evd.length n5] 114)).drew).grownBy Wn (Value.slice E j en).ownBlock→Blk Wn W5.heap.size 111 #[.slice A5 vd.accs.length c5,.slice M5 vd.mks.length k5,.int .i64 vd.ins,.int .i64 vd.resid,.int .i64 vd.next,.int .i64 vd.inn,.int .i64 vd.out]):=fun Wn hg=>Blk.grown Ta hg hnt
   have KXb:Hid (∀ Wn,(((((((((W6.setCell ⟨w.heap.size,0,none⟩ (.slice A5 vd.accs.length c5)).setCell ⟨w.heap.size,1,none⟩ (.slice M5 vd.mks.length k5)).setCell ⟨w.heap.size,2,none⟩ (.int .i64 vd.ins)).setCell ⟨w.heap.size,3,none⟩ (.int .i64 vd.resid)).setCell ⟨w.heap.size,4,none⟩ (.int .i64 vd.next)).setCell ⟨w.heap.size,5,none⟩ (.int .i64 vd.inn)).setCell ⟨w.heap.size,6,none⟩ (.int .i64 vd.out)).alloc (.cells #[.slice E5 evd.length n5] 114)).drew).grownBy Wn (Value.slice E j en).ownBlock→Blk Wn w.heap.size 111 #[.slice A5 vd.accs.length c5,.slice M5 vd.mks.length k5,.int .i64 vd.ins,.int .i64 vd.resid,.int .i64 vd.next,.int .i64 vd.inn,.int .i64 vd.out]):=fun Wn hg=>Blk.grown Xb hg hnx
   have KXc:Hid (∀ Wn,(((((((((W6.alloc (.cells #[.slice E5 evd.length n5] 114)).setCell ⟨w.heap.size,0,none⟩ (.slice A5 vd.accs.length c5)).setCell ⟨w.heap.size,1,none⟩ (.slice M5 vd.mks.length k5)).setCell ⟨w.heap.size,2,none⟩ (.int .i64 vd.ins)).setCell ⟨w.heap.size,3,none⟩ (.int .i64 vd.resid)).setCell ⟨w.heap.size,4,none⟩ (.int .i64 vd.next)).setCell ⟨w.heap.size,5,none⟩ (.int .i64 vd.inn)).setCell ⟨w.heap.size,6,none⟩ (.int .i64 vd.out)).drew).grownBy Wn (Value.slice E j en).ownBlock→Blk Wn w.heap.size 111 #[.slice A5 vd.accs.length c5,.slice M5 vd.mks.length k5,.int .i64 vd.ins,.int .i64 vd.resid,.int .i64 vd.next,.int .i64 vd.inn,.int .i64 vd.out]):=fun Wn hg=>Blk.grown Xc hg hnx
   have KFa:Hid (∀ Wn,((W6.alloc (.cells #[.slice E5 evd.length n5] 114)).drew).grownBy Wn (Value.slice E j en).ownBlock→Fr [114] [w.heap.size] W6 Wn):=fun Wn hg=>(Fa.mono (by simp) (by simp)).trans (((Kept.refl [114] _).grown Oa.out hg (by simp)).fr _)
   have KFb:Hid (∀ Wn,(((((((((W6.setCell ⟨w.heap.size,0,none⟩ (.slice A5 vd.accs.length c5)).setCell ⟨w.heap.size,1,none⟩ (.slice M5 vd.mks.length k5)).setCell ⟨w.heap.size,2,none⟩ (.int .i64 vd.ins)).setCell ⟨w.heap.size,3,none⟩ (.int .i64 vd.resid)).setCell ⟨w.heap.size,4,none⟩ (.int .i64 vd.next)).setCell ⟨w.heap.size,5,none⟩ (.int .i64 vd.inn)).setCell ⟨w.heap.size,6,none⟩ (.int .i64 vd.out)).alloc (.cells #[.slice E5 evd.length n5] 114)).drew).grownBy Wn (Value.slice E j en).ownBlock→Fr [114] [w.heap.size] W6 Wn):=fun Wn hg=>(Fb.mono (by simp) (by simp)).trans (((Kept.refl [114] _).grown Ob.out hg (by simp)).fr _)
   have KFc:Hid (∀ Wn,(((((((((W6.alloc (.cells #[.slice E5 evd.length n5] 114)).setCell ⟨w.heap.size,0,none⟩ (.slice A5 vd.accs.length c5)).setCell ⟨w.heap.size,1,none⟩ (.slice M5 vd.mks.length k5)).setCell ⟨w.heap.size,2,none⟩ (.int .i64 vd.ins)).setCell ⟨w.heap.size,3,none⟩ (.int .i64 vd.resid)).setCell ⟨w.heap.size,4,none⟩ (.int .i64 vd.next)).setCell ⟨w.heap.size,5,none⟩ (.int .i64 vd.inn)).setCell ⟨w.heap.size,6,none⟩ (.int .i64 vd.out)).drew).grownBy Wn (Value.slice E j en).ownBlock→Fr [114] [w.heap.size] W6 Wn):=fun Wn hg=>(Fc.mono (by simp) (by simp)).trans (((Kept.refl [114] _).grown Oc.out hg (by simp)).fr _)
   have HX6:=Lib.hid hX6
   obtain ⟨⟨t0,t1,t2,t3,t4,t5,t6⟩,-⟩:=T6.c7
   obtain ⟨⟨u0,u1,u2,u3,u4,u5,u6⟩,f0,f1,f2,f3,f4,f5,f6⟩:=hX6.c7
   have yt:=T6.lt
   have yx6:=hX6.lt
   clear hown Oa' Ta Xa Xb Xc Fa Fb Fc hnx hnt hX6 T6
   go_wp2_with fail
   go_region_law (first | (refine step_app rfl _ _ 139 rfl w.heap.size 114 1 24 elem_es (.slice E j en) j zs (by simp [Act.eval]) Oa.out (W6.heap.size + 1) (some ⟨W6.heap.size,0,none⟩) 1 1 [.slice E5 evd.length n5] (by simp [Act.eval]) Ra.out H1.out HLEN.out HBY.out Sa.out ?_;intro vE Wn hown4 hbel4 hgrow hat;obtain ⟨E',e',rfl⟩:=own_shape hown4;obtain ⟨⟨v0,v1,v2,v3,v4,v5,v6⟩,g0,g1,g2,g3,g4,g5,g6⟩:=(KXa.out _ hgrow).c7;obtain ⟨⟨s0,s1,s2,s3,s4,s5,s6⟩,-⟩:=(KTa.out _ hgrow).c7) | (refine step_app rfl _ _ 139 rfl w.heap.size 114 1 24 elem_es (.slice E j en) j zs (by simp [Act.eval,Act.put]) Ob.out (W6.heap.size + 1) (some ⟨W6.heap.size,0,none⟩) 1 1 [.slice E5 evd.length n5] (by simp [Act.eval,Act.put]) Rb.out H1.out HLEN.out HBY.out Sb.out ?_;intro vE Wn hown4 hbel4 hgrow hat;obtain ⟨E',e',rfl⟩:=own_shape hown4;have hmb:=KXb.out _ hgrow) | (refine step_app rfl _ _ 139 rfl w.heap.size 114 1 24 elem_es (.slice E j en) j zs (by simp [Act.eval,Act.put]) Oc.out (W6.heap.size + 1) (some ⟨W6.heap.size,0,none⟩) 1 1 [.slice E5 evd.length n5] (by simp [Act.eval,Act.put]) Rc.out H1.out HLEN.out HBY.out Sc.out ?_;intro vE Wn hown4 hbel4 hgrow hat;obtain ⟨E',e',rfl⟩:=own_shape hown4;have hmc:=KXc.out _ hgrow))
   all_goals
    refine exit_name ?_
    intro Z hZ
    have HRN:Hid (RnR w Z A5 c5 M5 k5 vd (.slice E' (j + 1) e') (j + 1) (L ++ [evd])):=by
     first
      | (obtain ⟨hX,hK,hL⟩:=put7 (g:=w.heap.size) (KXa.out _ hgrow) hZ
         exact rn_next HR6.out HZ6.out HA6.out HM6.out HE6.out (by omega) ((KFa.out _ hgrow).trans (by rw [hZ];exact fr_set7 (KXa.out _ hgrow))) hX (hK.own hown4 (by decide)) ((La.out.trans hbel4).trans (hL _ (Nat.le_refl _))))
      | (rw [hZ];exact rn_next HR6.out HZ6.out HA6.out HM6.out HE6.out (by omega) (KFb.out _ hgrow) hmb hown4 (Lb.out.trans hbel4))
      | (rw [hZ];exact rn_next HR6.out HZ6.out HA6.out HM6.out HE6.out (by omega) (KFc.out _ hgrow) hmc hown4 (Lc.out.trans hbel4))
    clear hZ hown4 hbel4 hgrow hat KXa KXb KXc KTa KFa KFb KFc La Lb Lc Oa Ob Oc Ra Rb Rc Sa Sb Sc HX6 t0 t1 t2 t3 t4 t5 t6 u0 u1 u2 u3 u4 u5 u6 f0 f1 f2 f3 f4 f5 f6
    go_wp2_with fail
    go_roundw
    case rel=>exact ⟨j + 1,A5,c5,M5,k5,vd,L ++ [evd],by omega,by go_num,HRN,HN⟩
    case measure=>simp [intOf];omega
  ·obtain rfl:j=n:=by omega
   have HE2:=Lib.hid (show runOf v l=(vj,L,0) by rw [← HE.out,List.drop_eq_nil_of_le (by omega)];rfl)
   have hL:L.length=j:=HZ.out.len
   obtain ⟨⟨u0,u1,u2,u3,u4,u5,u6⟩,-⟩:=HR.out.x.c7
   obtain ⟨⟨r0,r1,r2,r3,r4,r5,r6⟩,f0,f1,f2,f3,f4,f5,f6⟩:=HR.out.r.c7
   have yx:=HR.out.x.lt
   have yr:=HR.out.r.lt
   go_wp2_with fail
   refine post_name ?_
   intro Z hZ
   obtain ⟨RZ,hK,hLZ⟩:=put7 (g:=w.heap.size + 1) HR.out.r hZ
   have HLZ:=Lib.hid (HR.out.low.trans (hLZ _ (by omega)))
   have HK:=Lib.hid hK
   clear hZ hK hLZ r0 r1 r2 r3 r4 r5 r6 f0 f1 f2 f3 f4 f5 f6 u0 u1 u2 u3 u4 u5 u6
   obtain ⟨⟨r0,r1,r2,r3,r4,r5,r6⟩,-⟩:=RZ.c7
   refine bodyPost_ret (v:=.tuple #[.agg #[.slice A vj.accs.length c,.slice M vj.mks.length k,.int .i64 vj.ins,.int .i64 vj.resid,.int .i64 vj.next,.int .i64 vj.inn,.int .i64 vj.out],.slice E j en,.int .i64 0]) (by simp [results,Try.results123,go_sem, *]) rfl ?_
   obtain ⟨xs6,hx6⟩:=HR.out.accs
   obtain ⟨ys6,hy6⟩:=HR.out.mks
   have hz6:=HZ.out.kept HK.out (by decide) (by decide)
   rw [HE2.out]
   subst hL
   exact ⟨A,c,M,k,E,en,rfl,⟨xs6,hx6.kept HK.out (by decide) (by decide)⟩,⟨ys6,hy6.kept HK.out (by decide) (by decide)⟩,⟨zs,hz6⟩,HLZ.out⟩
end
section
open Go.RowKit
theorem op_rd {w:World} {g:Nat} {t:TypeId} (h:Blk w g t #[.int .i64 1,.int .i64 0,.int .i64 0,.int .i64 120,.int .i64 0,.int .i64 0,.int .i64 0,.int .i64 0,.int .i64 0,.int .i64 0,.bool false,.int .i64 1,.int .i64 1,.int .i64 0,.int .i64 500,.int .i64 0,.int .i64 0,.int .i64 0,.int .i64 0,.int .i64 0,.int .i64 0,.bool false,.int .i64 3,.int .i64 0,.int .i64 0,.int .i64 0,.int .i64 0,.int .i64 0,.int .i64 1,.int .i64 100,.int .i64 10,.int .i64 1,.bool false,.int .i64 3,.int .i64 1,.int .i64 0,.int .i64 0,.int .i64 0,.int .i64 0,.int .i64 (-1),.int .i64 100,.int .i64 10,.int .i64 1,.bool false,.int .i64 5,.int .i64 0,.int .i64 0,.int .i64 80,.int .i64 0,.int .i64 0,.int .i64 0,.int .i64 0,.int .i64 0,.int .i64 0,.bool false,.int .i64 7,.int .i64 0,.int .i64 0,.int .i64 0,.int .i64 0,.int .i64 0,.int .i64 0,.int .i64 0,.int .i64 0,.int .i64 0,.bool false,.int .i64 2,.int .i64 0,.int .i64 0,.int .i64 1,.int .i64 0,.int .i64 0,.int .i64 0,.int .i64 0,.int .i64 0,.int .i64 0,.bool false]):RdL shCm w (g + 1) (some ⟨g,0,none⟩) 7 7 opCms :=
 ⟨rfl,Nat.le_refl _,by decide,nofun,fun _=>⟨g,0,rfl,Nat.lt_succ_self _,fun i a ha=>by
  have hi:=(List.getElem?_eq_some_iff.1 ha).1
  have hl:i < 7:=hi
  rcases (show i=0∨i=1∨i=2∨i=3∨i=4∨i=5∨i=6 by omega) with rfl | rfl | rfl | rfl | rfl | rfl | rfl
  ·obtain rfl:_=a:=Option.some.inj ha
   exact ⟨h.cell 0,h.cell 1,h.cell 2,h.cell 3,h.cell 4,h.cell 5,h.cell 6,h.cell 7,h.cell 8,h.cell 9,h.cell 10⟩
  ·obtain rfl:_=a:=Option.some.inj ha
   exact ⟨h.cell 11,h.cell 12,h.cell 13,h.cell 14,h.cell 15,h.cell 16,h.cell 17,h.cell 18,h.cell 19,h.cell 20,h.cell 21⟩
  ·obtain rfl:_=a:=Option.some.inj ha
   exact ⟨h.cell 22,h.cell 23,h.cell 24,h.cell 25,h.cell 26,h.cell 27,h.cell 28,h.cell 29,h.cell 30,h.cell 31,h.cell 32⟩
  ·obtain rfl:_=a:=Option.some.inj ha
   exact ⟨h.cell 33,h.cell 34,h.cell 35,h.cell 36,h.cell 37,h.cell 38,h.cell 39,h.cell 40,h.cell 41,h.cell 42,h.cell 43⟩
  ·obtain rfl:_=a:=Option.some.inj ha
   exact ⟨h.cell 44,h.cell 45,h.cell 46,h.cell 47,h.cell 48,h.cell 49,h.cell 50,h.cell 51,h.cell 52,h.cell 53,h.cell 54⟩
  ·obtain rfl:_=a:=Option.some.inj ha
   exact ⟨h.cell 55,h.cell 56,h.cell 57,h.cell 58,h.cell 59,h.cell 60,h.cell 61,h.cell 62,h.cell 63,h.cell 64,h.cell 65⟩
  ·obtain rfl:_=a:=Option.some.inj ha
   exact ⟨h.cell 66,h.cell 67,h.cell 68,h.cell 69,h.cell 70,h.cell 71,h.cell 72,h.cell 73,h.cell 74,h.cell 75,h.cell 76⟩
 ⟩⟩
theorem vnew_ref {v:Vn} {e:Int} (A:Option Addr) (c:Nat) (l:List Int) (B:Nat) (w:World) (hr:newOf l=(v,e)) (h:Rd w B 1 A l.length c (ints l)) (hB:B ≤ w.heap.size) (hn:l.length ≤ 2000000000000) :
  Calls Try.prog 154 #[.slice A l.length c] w (RetNew w (v,e)):=by rw [← hr];exact vnew_any A c l B w h hB hn
theorem vrun_ref {u:Vn} {E:List (List Ev)} {e:Int} (v:Vn) (l:List Cm) (A M S:Option Addr) (c k n cs:Nat) (B B':Nat) (w:World) (hr:runOf v l=(u,E,e)) (h:VnR w B A c M k v) (hB:B ≤ w.heap.size) (hl:RdL shCm w B' S n cs l) (hB':B' ≤ w.heap.size) :
  Calls Try.prog 123 #[.agg #[.slice A v.accs.length c,.slice M v.mks.length k,.int .i64 v.ins,.int .i64 v.resid,.int .i64 v.next,.int .i64 v.inn,.int .i64 v.out],.slice S n cs] w (RetRun w (u,E,e)):=by rw [← hr];exact vrun_any v l A M S c k n cs B B' w h hB hl hB'
theorem own_cell {w:World} {base e k n c:Nat} {A:Option Addr} {xs:List Value} (h:w.ownsRow base e k (.slice A n c) n xs) (hn:0 < n):∃ g,A=some ⟨g,0,none⟩∧base ≤ g∧∀ j u,xs[j]?=some u→w.cell? ⟨g,j,none⟩=some u:=by
 obtain ⟨g,cs,rfl,hb,hg⟩:=own_blk h hn
 obtain ⟨b,o,e,_,hc⟩:=(Rd.of_own h).at_ hn
 injection e with e
 injection e with e1 e2
 subst e1
 subst e2
 exact ⟨_,rfl,hb,fun j u hj=>by have:=hc j u hj;rwa [Nat.zero_add] at this⟩
set_option maxHeartbeats 4000000 in
set_option maxRecDepth 100000 in
theorem opened_any (w:World):Calls Try.prog 104 #[] w fun e w'=>e=.returned (.bool true)∧Below w.heap.size w w':=by
 go_enter Try.func104,Try.ntmps104
 go_wp2_with fail
 refine (vnew_ref (some ⟨w.heap.size,0,none⟩) 1 [100] (w.heap.size + 1) _ op_new (Rd.new w _ _ 1 rfl (by decide)) (by simp) (by simp)).mono ?_
 rintro e W1 ⟨A,c,M,k,rfl,⟨xs,ha⟩,⟨ys,hm⟩,hb1⟩
 have hs1:w.heap.size + 1 ≤ W1.heap.size:=by have:=hb1.size;simpa using this
 have hB1:Below w.heap.size w W1:=((Below.refl _ _).alloc (Nat.le_refl _) _).trans (hb1.mono (by simp))
 have HV:=Lib.hid (show VnR W1 W1.heap.size A c M k (freshVn [100]) from ⟨ha.read,hm.read⟩)
 clear ha hm hb1
 go_wp2_with fail
 refine calls_name ?_
 intro W2 hW2
 have hB2:Below W1.heap.size W1 W2:=by rw [hW2];exact ((((Below.refl _ _).alloc (Nat.le_refl _) _).alloc (by simp) _).alloc (by simp;omega) _).alloc (by simp;omega) _
 have X2:Blk W2 W1.heap.size 111 #[.slice A 0 c,.slice M 1 k,.int .i64 0,.int .i64 0,.int .i64 1,.int .i64 0,.int .i64 0]:=by rw [hW2];exact (((Blk.new W1 _ _).alloc _).alloc _).alloc _
 have C2:Blk W2 (W1.heap.size + 1 + 1 + 1) 113 #[.int .i64 1,.int .i64 0,.int .i64 0,.int .i64 120,.int .i64 0,.int .i64 0,.int .i64 0,.int .i64 0,.int .i64 0,.int .i64 0,.bool false,.int .i64 1,.int .i64 1,.int .i64 0,.int .i64 500,.int .i64 0,.int .i64 0,.int .i64 0,.int .i64 0,.int .i64 0,.int .i64 0,.bool false,.int .i64 3,.int .i64 0,.int .i64 0,.int .i64 0,.int .i64 0,.int .i64 0,.int .i64 1,.int .i64 100,.int .i64 10,.int .i64 1,.bool false,.int .i64 3,.int .i64 1,.int .i64 0,.int .i64 0,.int .i64 0,.int .i64 0,.int .i64 (-1),.int .i64 100,.int .i64 10,.int .i64 1,.bool false,.int .i64 5,.int .i64 0,.int .i64 0,.int .i64 80,.int .i64 0,.int .i64 0,.int .i64 0,.int .i64 0,.int .i64 0,.int .i64 0,.bool false,.int .i64 7,.int .i64 0,.int .i64 0,.int .i64 0,.int .i64 0,.int .i64 0,.int .i64 0,.int .i64 0,.int .i64 0,.int .i64 0,.bool false,.int .i64 2,.int .i64 0,.int .i64 0,.int .i64 1,.int .i64 0,.int .i64 0,.int .i64 0,.int .i64 0,.int .i64 0,.int .i64 0,.bool false]:=by rw [hW2];exact Blk.new_at _ _ _ _ (by simp)
 have hs2:W2.heap.size=W1.heap.size + 4:=by rw [hW2];simp
 clear hW2
 have hrun:Calls Try.prog 123 #[.agg #[.slice A 0 c,.slice M 1 k,.int .i64 0,.int .i64 0,.int .i64 1,.int .i64 0,.int .i64 0],.slice (some ⟨W1.heap.size + 1 + 1 + 1,0,none⟩) 7 7] W2 fun e w' =>
   ∃ A c M k E n,e=.returned (.tuple #[.agg #[.slice A 2 c,.slice M 1 k,.int .i64 1,.int .i64 0,.int .i64 3,.int .i64 620,.int .i64 0],.slice E 7 n,.int .i64 0])∧(∃ xs,OwnAc w' W2.heap.size A 2 c opVn.accs xs)∧(∃ zs,OwnEs w' W2.heap.size (.slice E 7 n) 7 opEvs zs)∧Below W2.heap.size W2 w' :=
  (vrun_ref (freshVn [100]) opCms A M (some ⟨W1.heap.size + 1 + 1 + 1,0,none⟩) c k 7 7 W1.heap.size _ W2 op_run (HV.out.below hB2) (by omega) (op_rd C2) (by omega)).mono fun e w' h=>by
   obtain ⟨A,c,M,k,E,n,h1,h2,h3,h4,h5⟩:=h
   exact ⟨A,c,M,k,E,n,h1,h2,h4,h5⟩
 refine hrun.mono ?_
 rintro e W3 ⟨A5,c5,M5,k5,E5,n5,rfl,⟨xs5,ha5⟩,⟨zs5,he5⟩,hb3⟩
 have X3:=X2.below hb3 X2.lt
 have hs3:=hb3.size
 have hB3:Below w.heap.size w W3:=hB1.trans ((hB2.trans (hb3.mono (by omega))).mono (by omega))
 obtain ⟨g,rfl,hg,hgc⟩:=own_cell he5.row (by decide)
 obtain ⟨A3,c3,h30,h31⟩:=he5.cell 3 _ rfl
 obtain ⟨A4,c4,h40,h41⟩:=he5.cell 5 _ rfl
 obtain ⟨A6,c6,h60,h61⟩:=he5.cell 6 _ rfl
 have e3:=hgc _ _ h30
 have e5:=hgc _ _ h40
 have e6:=hgc _ _ h60
 obtain ⟨g3,rfl,hg3,hc3⟩:=own_cell h31 (by decide)
 obtain ⟨g5,rfl,hg5,hc5⟩:=own_cell h41 (by decide)
 obtain ⟨g6,rfl,hg6,hc6⟩:=own_cell h61 (by decide)
 have v3:=hc3 25 _ rfl
 have v5:=hc5 0 _ rfl
 have v5':=hc5 11 _ rfl
 have v6:=hc6 1 _ rfl
 obtain ⟨ga,rfl,hga,hca⟩:=own_cell ha5.row (by decide)
 obtain ⟨Aa,ca,-,a1,-⟩:=ha5.cell 0 _ rfl
 obtain ⟨Ab,cb,-,a2,-⟩:=ha5.cell 1 _ rfl
 have b1:=hca _ _ a1
 have b2:=hca _ _ a2
 have n1:¬ (g=W1.heap.size):=by omega
 have n3:¬ (g3=W1.heap.size):=by omega
 have n5':¬ (g5=W1.heap.size):=by omega
 have n6:¬ (g6=W1.heap.size):=by omega
 have na:¬ (ga=W1.heap.size):=by omega
 obtain ⟨⟨r0,r1,r2,r3,r4,r5,r6⟩,f0,f1,f2,f3,f4,f5,f6⟩:=X3.c7
 have y3:=X3.lt
 have HX3:=Lib.hid X3
 simp only [List.length_cons,List.length_nil] at e3 e5 e6
 clear hgc hc3 hc5 hc6 hca h30 h40 h60 h31 h41 h61 a1 a2 he5 ha5 hb3 hrun X2 C2 hB2 X3
 go_wp2_with fail
 refine post_name ?_
 intro Z hZ
 obtain ⟨-,-,hL⟩:=put7 (g:=W1.heap.size) HX3.out hZ
 have HL:=Lib.hid (hB3.trans (hL _ (by omega)))
 clear hZ hL
 go_ret
 exact ⟨rfl,HL.out⟩
theorem ev_at {w:World} {B n c:Nat} {A:Option Addr} {L:List Ev} (h:Rd w B 13 A n c (evCells L)) {i:Nat} (hi:i < n):∃ b o a,A=some ⟨b,o,none⟩∧b < B∧L[i]?=some a∧∀ j u,[Value.int .i64 a.kind,.int .i64 a.err,.int .i64 a.market,.int .i64 a.id,.int .i64 a.acc,.int .i64 a.n,.int .i64 a.f.maker,.int .i64 a.f.taker,.int .i64 a.f.macc,.int .i64 a.f.tacc,.int .i64 a.f.side,.int .i64 a.f.price,.int .i64 a.f.qty][j]?=some u→w.cell? ⟨b,o + i * 13 + j,none⟩=some u:=by
 have hl:=h.len
 rw [evCells_len] at hl
 obtain ⟨b,o,rfl,hb,hc⟩:=h.at_ (by omega)
 have ha:L[i]?=some L[i]:=List.getElem?_eq_getElem (by omega)
 refine ⟨b,o,L[i],rfl,hb,ha,fun j u hj=>?_⟩
 have key:∀ {L:List Ev} {i:Nat} {a:Ev},L[i]?=some a→∀ j u,[Value.int .i64 a.kind,.int .i64 a.err,.int .i64 a.market,.int .i64 a.id,.int .i64 a.acc,.int .i64 a.n,.int .i64 a.f.maker,.int .i64 a.f.taker,.int .i64 a.f.macc,.int .i64 a.f.tacc,.int .i64 a.f.side,.int .i64 a.f.price,.int .i64 a.f.qty][j]?=some u→(evCells L)[i * 13 + j]?=some u:=by
  intro L
  induction L with
  | nil=>intro i a h;simp at h
  | cons x l ih =>
   intro i a h j u hj
   cases i with
   | zero =>
    simp only [List.getElem?_cons_zero,Option.some.injEq] at h
    subst h
    have hj13:=(List.getElem?_eq_some_iff.1 hj).1
    simp only [List.length_cons,List.length_nil] at hj13
    rw [Nat.zero_mul,Nat.zero_add]
    have e:evCells (x :: l) = [Value.int .i64 x.kind,.int .i64 x.err,.int .i64 x.market,.int .i64 x.id,.int .i64 x.acc,.int .i64 x.n,.int .i64 x.f.maker,.int .i64 x.f.taker,.int .i64 x.f.macc,.int .i64 x.f.tacc,.int .i64 x.f.side,.int .i64 x.f.price,.int .i64 x.f.qty] ++ evCells l:=rfl
    rw [e,List.getElem?_append_left (by simpa using hj13)];exact hj
   | succ i =>
    simp only [List.getElem?_cons_succ] at h
    rw [show (i + 1) * 13 + j=(i * 13 + j) + 1 + 1 + 1 + 1 + 1 + 1 + 1 + 1 + 1 + 1 + 1 + 1 + 1 by omega]
    exact ih h j u hj
 rw [Nat.add_assoc]
 exact hc _ _ (key ha j u hj)
set_option maxHeartbeats 1000000 in
theorem rejected_any (A:Option Addr) (n c:Nat) (L:List Ev) (B:Nat) (w:World) (h:Rd w B 13 A n c (evCells L)) (hB:B ≤ w.heap.size) :
  Calls Try.prog 105 #[.slice A n c] w fun e w'=>e=.returned (.bool (rejB L))∧w=w':=by
 have hl:=h.len
 rw [evCells_len] at hl
 have hn:L.length=n:=by omega
 by_cases h1:n=1
 ·obtain ⟨b,o,a,rfl,hb,ha,hc⟩:=ev_at h (i:=0) (by omega)
  have k0:=hc 0 _ rfl
  simp only [Nat.zero_mul,Nat.add_zero] at k0
  have HE:=Lib.hid (show rejB L=(a.kind == 1) by
   match L,hn,ha with
   | [x],_,ha=>simp at ha;subst ha;rfl
   | [],hn,_=>simp at hn;omega
   | x :: y :: l,hn,_=>simp at hn;omega)
  have hbw:b < w.heap.size:=by omega
  subst h1
  clear ha hc h hl hn
  go_enter Try.func105,Try.ntmps105
  go_wp2_with fail
  go_ret
  exact ⟨ret_bb HE.out.symm,rfl⟩
 ·have HE:=Lib.hid (show rejB L=false by
   match L,hn with
   | [x],hn=>simp at hn;omega
   | [],_=>rfl
   | x :: y :: l,_=>rfl)
  have e1:((n:Int) == 1)=false:=by simp;omega
  clear h hl
  go_enter Try.func105,Try.ntmps105
  go_wp2_with fail
  go_ret
  exact ⟨ret_bb HE.out.symm,rfl⟩
end
section
open Go.RowKit
def sameAc (a b:Ac):Bool:=decide (a.id=b.id) && decide (a.bal=b.bal) && eqI a.pos b.pos
set_option maxHeartbeats 1000000 in
theorem same_any (a b:Ac) (A A':Option Addr) (c c':Nat) (B B':Nat) (w:World) (h:Rd w B 1 A a.pos.length c (ints a.pos)) (h':Rd w B' 1 A' b.pos.length c' (ints b.pos)) (hB:B ≤ w.heap.size) (hB':B' ≤ w.heap.size) :
  Calls Try.prog 51 #[.agg #[.int .i64 a.id,.int .i64 a.bal,.slice A a.pos.length c],.agg #[.int .i64 b.id,.int .i64 b.bal,.slice A' b.pos.length c']] w fun e w'=>e=.returned (.bool (sameAc a b))∧Below w.heap.size w w':=by
 by_cases h1:a.id=b.id
 ·by_cases h2:a.bal=b.bal
  ·have HE:=Lib.hid (show sameAc a b=eqI a.pos b.pos by simp [sameAc,h1,h2])
   have h1':(a.id == b.id)=true:=by simpa using h1
   have h2':(a.bal == b.bal)=true:=by simpa using h2
   clear h1 h2
   go_enter Try.func51,Try.ntmps51
   go_wp2_with fail
   refine (equal_ints _ _ _ _ _ _ _ _ _ _ _ ((h.alloc hB _).alloc (by simp;omega) _) ((h'.alloc hB' _).alloc (by simp;omega) _)).mono ?_
   rintro e w1 ⟨rfl,q,rfl⟩
   go_wp2_with fail
   go_ret
   exact ⟨ret_bb (by rw [HE.out]),below_drewN (((Below.refl _ _).alloc (Nat.le_refl _) _).alloc (by simp) _) q⟩
  ·have HE:=Lib.hid (show sameAc a b=false by simp [sameAc,h2])
   have h1':(a.id == b.id)=true:=by simpa using h1
   have h2':(a.bal == b.bal)=false:=by simpa using h2
   clear h1 h2
   go_enter Try.func51,Try.ntmps51
   go_wp2_with fail
   go_ret
   exact ⟨ret_bb (by rw [HE.out]),((Below.refl _ _).alloc (Nat.le_refl _) _).alloc (by simp) _⟩
 ·have HE:=Lib.hid (show sameAc a b=false by simp [sameAc,h1])
  have h1':(a.id == b.id)=false:=by simpa using h1
  clear h1
  go_enter Try.func51,Try.ntmps51
  go_wp2_with fail
  go_ret
  exact ⟨ret_bb (by rw [HE.out]),((Below.refl _ _).alloc (Nat.le_refl _) _).alloc (by simp) _⟩
end
section
def alikeL {α:Type} (f:α→α→Bool):List α→List α→Bool
 | [],[]=>true
 | a :: L,b :: M=>f a b && alikeL f L M
 | _,_=>false
section
variable {α:Type} {f:α→α→Bool}
theorem alike_len:∀ {L M:List α},L.length ≠ M.length→alikeL f L M=false
 | [],[],h=>absurd rfl h
 | _ :: _,[],_=>rfl
 | [],_ :: _,_=>rfl
 | a :: L,b :: M,h=>by simp only [alikeL];rw [alike_len (L:=L) (M:=M) (by simpa using h)];simp
theorem alike_at:∀ {L M:List α} {j:Nat} {a b:α},L[j]?=some a→M[j]?=some b→alikeL f (L.drop j) (M.drop j)=(f a b && alikeL f (L.drop (j + 1)) (M.drop (j + 1)))
 | [],_,_,_,_,h,_=>by simp at h
 | _ :: _,[],_,_,_,_,h=>by simp at h
 | x :: L,y :: M,0,a,b,h,h'=>by simp at h h';subst h h';rfl
 | x :: L,y :: M,j + 1,a,b,h,h'=>by
  have:=alike_at (L:=L) (M:=M) (j:=j) (a:=a) (b:=b) (by simpa using h) (by simpa using h')
  simpa using this
theorem alike_iff (hf:∀ a b,f a b=true ↔ a=b):∀ {L M:List α},alikeL f L M=true ↔ L=M
 | [],[]=>by simp [alikeL]
 | _ :: _,[]=>by simp [alikeL]
 | [],_ :: _=>by simp [alikeL]
 | a :: L,b :: M=>by
  simp only [alikeL,Bool.and_eq_true,List.cons.injEq]
  rw [alike_iff hf,hf]
end
end
end Go.Proofs.Ytockodmbhnlheaa
