/-
  Contracts of the program's functions, and plain facts, that the laws VenueKeeps, VenueOthers, VenueCancels, VenueCash, VenueReady rest on (joined texts): Come, BkRefs, DCancel, DFillsW, Bankrupt.
-/
import Derived.Test.YtockodmbhnlheaaM10
import Derived.Test.YtockodmbhnlheaaM11
import Derived.Test.YtockodmbhnlheaaProg
import Derived.Test.YtockodmbhnlheaaM01
import Derived.Maps.AppendAt
import Derived.Laws.AppendOwnNone
import Derived.OwnWalk
import Derived.Test.YtockodmbhnlheaaM03
import Derived.Deep.RegionHeld3
import Derived.Test.YtockodmbhnlheaaM02
import Derived.Lib.AppendZeros
import Derived.Test.YtockodmbhnlheaaM05
import Derived.Test.YtockodmbhnlheaaM04
import Derived.Laws.CopyOwn
import Derived.Lib.AppendZerosOnto
import Derived.Lib.Overlaps
import Derived.Laws.Externs
import Derived.Deep.RegionLaw
import Derived.Maps.Own
import Derived.Maps.OwnOps
import Derived.Maps.Views
import Derived.WalkKit
import Derived.Deep.Draws
import Derived.IntWalk
import Derived.Deep.QuietTactic
import Derived.BigQuiet
import Derived.Deep.DeepCutAuto
import Derived.WalkSpells
import Derived.WalkLawsBesides
import Derived.Lib.Hide
import Derived.Test.YtockodmbhnlheaaM08
import Derived.Test.YtockodmbhnlheaaM06
import Derived.Test.YtockodmbhnlheaaM07
import Derived.RegionTactic
import Derived.ChangeAlike
namespace Go.Proofs.Ytockodmbhnlheaa
section
open Go.RowKit
theorem take_bk (b:Bk) (o:Od) (A A':Option Addr) (c c' B:Nat) (w:World) (h:BkR w B A A' c c' b) (hB:B ≤ w.heap.size) (hl:b.bids.length ≤ 4000000000000) (hl':b.asks.length ≤ 4000000000000) :
  Calls Try.prog 70 #[.agg #[.slice A b.bids.length c,.slice A' b.asks.length c'],.agg #[.int .i64 o.id,.int .i64 o.acc,.int .i64 o.side,.int .i64 o.price,.int .i64 o.qty]] w (RetTake w (takeOf b o)):=by
 by_cases hsd:o.side=1
 ·exact take_buy b o A A' c c' B w h hB hl hl' hsd
 ·exact take_sell b o A A' c c' B w h hB hl hl' hsd
set_option maxHeartbeats 400000 in
theorem fail_any (n:Int) (w:World) :
  Calls Try.prog 146 #[.int .i64 n] w fun e w'=>e=.returned (.tuple #[.agg #[.slice none 0 0,.slice none 0 0],.slice none 0 0,.int .i64 0,.int .i64 n])∧Below w.heap.size w w':=by
 go_enter Try.func146,Try.ntmps146
 go_wp2_with fail
 refine bodyPost_ret (v:=.tuple #[.agg #[.slice none 0 0,.slice none 0 0],.slice none 0 0,.int .i64 0,.int .i64 n]) (by simp [results,Try.results146,go_sem]) rfl ⟨rfl,?_⟩
 first | exact (Below.refl _ _).alloc (Nat.le_refl _) _ | exact (((Below.refl _ _).alloc (Nat.le_refl _) _).setCell (Nat.le_refl _) _).setCell (Nat.le_refl _) _
def RetCome (w:World) (r:Bk × List Fl × Int × Int) (e:Ending) (w':World):Prop :=
 ∃ A c A' c' vf,e=.returned (.tuple #[.agg #[.slice A r.1.bids.length c,.slice A' r.1.asks.length c'],vf,.int .i64 r.2.2.1,.int .i64 r.2.2.2])∧OBk w' w.heap.size A A' c c' r.1∧w'.ownsRow w.heap.size 87 7 vf r.2.1.length (flCells r.2.1)∧Below w.heap.size w w'
theorem retCome_mk {w w':World} {r:Bk × List Fl × Int × Int} {x:Bk} {l:List Fl} {left:Int} {n:Int} {A A':Option Addr} {c c' n1 n2 n3:Nat} {vf:Value} (h:r=(x,l,left,n)) (h1:x.bids.length=n1) (h2:x.asks.length=n2) (ho1:w'.ownsRow w.heap.size 71 5 (.slice A n1 c) n1 (odCells x.bids)) (ho2:w'.ownsRow w.heap.size 71 5 (.slice A' n2 c') n2 (odCells x.asks))
  (h3:l.length=n3) (hf:w'.ownsRow w.heap.size 87 7 vf n3 (flCells l)) (hb:Below w.heap.size w w') :
  RetCome w r (.returned (.tuple #[.agg #[.slice A n1 c,.slice A' n2 c'],vf,.int .i64 left,.int .i64 n])) w':=by subst h h1 h2 h3;exact ⟨A,c,A',c',vf,rfl,⟨ho1,ho2⟩,hf,hb⟩
theorem take_tup (b:Bk) (o:Od):∃ x l left met e,takeOf b o=(x,l,left,met,e):=⟨_,_,_,_,_,rfl⟩
theorem take_facts {b x:Bk} {o:Od} {l:List Fl} {left:Int} {met:Bool} (h:takeOf b o=(x,l,left,met,0)):BookOk x∧(0 ≤ left∧left ≤ 1000):=by
 unfold takeOf at h
 split at h
 ·rename_i h1;injection h with _ h;injection h with _ h;injection h with _ h;injection h with _ h;exact absurd h h1
 rename_i h1
 split at h
 ·rename_i h2;injection h with _ h;injection h with _ h;injection h with _ h;injection h with _ h;exact absurd h h2
 rename_i h2
 have hb:=bookErr_ok.1 (show bookErr b=0 by omega)
 have ho:=ordErr_ok.1 (show ordErr o=0 by omega)
 have hs:=ho.2.2.1
 have hso:=other_of hb o.side hs
 have hq:∀ x ∈ otherOf b o.side,1 ≤ x.qty:=fun x hx=>(ordErr_ok.1 (hso.ok x hx)).2.2.2.2.1
 have hrem:=takeL_left (o:=o) (left:=o.qty) hq (by omega)
 injection h with e1 h;injection h with _ h;injection h with e3 _
 rw [e3] at hrem
 exact ⟨by rw [← e1];exact book_take hb o hs o.qty,by omega⟩
theorem own_far {w:World} {base e k n:Nat} {v:Value} {xs:List Value} (h:w.ownsRow base e k v n xs) {p:Addr} (hp:∀ g,v.ownBlock=some g→g=p.block→False) (u:Value):(w.setCell p u).ownsRow base e k v n xs :=
 own_only h (only_set (g:=p.block) (only_refl w _) rfl) (fun g h1 e=>hp g h1 (by injection e with e;exact e.symm))
theorem rest_ref {x':Bk} {e':Int} (b:Bk) (o:Od) (A A':Option Addr) (c c' B:Nat) (w:World) (hr:restOf b o=(x',e')) (h:BkR w B A A' c c' b) (hB:B ≤ w.heap.size) (hl:b.bids.length ≤ 4000000000000) (hl':b.asks.length ≤ 4000000000000) :
  Calls Try.prog 64 #[.agg #[.slice A b.bids.length c,.slice A' b.asks.length c'],.agg #[.int .i64 o.id,.int .i64 o.acc,.int .i64 o.side,.int .i64 o.price,.int .i64 o.qty]] w (RetRest w (x',e')):=by
 rw [← hr];exact rest_bk b o A A' c c' B w h hB hl hl'
theorem rest_pair (b:Bk) (o:Od):∃ x e,restOf b o=(x,e):=⟨_,_,rfl⟩
theorem book_lens {b:Bk} (h:BookOk b):b.bids.length ≤ 4000000000000∧b.asks.length ≤ 4000000000000:=by have:=h.len;omega
set_option maxHeartbeats 8000000 in
set_option maxRecDepth 100000 in
theorem come_bk (b:Bk) (o:Od) (how:Int) (A A':Option Addr) (c c' B:Nat) (w:World) (h:BkR w B A A' c c' b) (hB:B ≤ w.heap.size) (hl:b.bids.length ≤ 4000000000000) (hl':b.asks.length ≤ 4000000000000) :
  Calls Try.prog 81 #[.agg #[.slice A b.bids.length c,.slice A' b.asks.length c'],.agg #[.int .i64 o.id,.int .i64 o.acc,.int .i64 o.side,.int .i64 o.price,.int .i64 o.qty],.int .i64 how] w (RetCome w (comeOf b o how)):=by
 obtain ⟨tx,tl,tleft,tmet,te,htake⟩:=take_tup b o
 have HTK:=Lib.hid htake
 have HE:=Lib.hid (show comeOf b o how=if bookErr b ≠ 0 then (zeroBk,[],0,bookErr b) else if hasB b o.id then (zeroBk,[],0,6) else if how < 1∨4 < how then (zeroBk,[],0,4)
  else if te ≠ 0 then (zeroBk,[],0,te) else if how=4∧(tl ≠ []∨tmet=true) then (zeroBk,[],0,9) else if tmet then (zeroBk,[],0,11) else if how=3∧0 < tleft then (zeroBk,[],0,10)
  else if tleft=0∨how=2 then (tx,tl,tleft,0) else if (restOf tx { o with qty:=tleft }).2 ≠ 0 then (zeroBk,[],0,(restOf tx { o with qty:=tleft }).2) else ((restOf tx { o with qty:=tleft }).1,tl,0,0) by unfold comeOf;rw [htake])
 clear htake
 go_enter Try.func81,Try.ntmps81
 go_wp2_with fail
 refine calls_name ?_
 intro w2 hw2
 have hbw:Below w.heap.size w w2:=by rw [hw2];exact (((Below.refl _ _).alloc (Nat.le_refl _) _).alloc (by simp) _).alloc (by simp;omega) _
 have hs2:w2.heap.size=w.heap.size + 1 + 1 + 1:=by rw [hw2];simp
 have X1:Blk w2 w.heap.size 62 #[.slice A b.bids.length c,.slice A' b.asks.length c']:=by rw [hw2];exact ((Blk.new w _ _).alloc _).alloc _
 have X2:Blk w2 (w.heap.size + 1) 71 #[.int .i64 o.id,.int .i64 o.acc,.int .i64 o.side,.int .i64 o.price,.int .i64 o.qty]:=by rw [hw2];exact (Blk.new_at _ _ _ _ (by simp)).alloc _
 have X3:Blk w2 (w.heap.size + 1 + 1) 62 #[.slice none 0 0,.slice none 0 0]:=by rw [hw2];exact Blk.new_at _ _ _ _ (by simp)
 have hr:=h.below (hbw.mono hB)
 clear hw2
 refine (bookCheck_any b A A' c c' B w2 hr.l hr.r (by omega) hl hl').mono ?_
 rintro e w3 ⟨rfl,hb3⟩
 have hs3:=hb3.size
 obtain ⟨⟨kX10,kX11⟩,-⟩:=X1.c2
 obtain ⟨⟨kX20,kX21,kX22,kX23,kX24⟩,-⟩:=X2.c5
 obtain ⟨⟨kX30,kX31⟩,fX30,fX31⟩:=X3.c2
 clear kX10 kX11
 replace X1:=X1.below hb3 X1.lt
 obtain ⟨⟨kX10,kX11⟩,-⟩:=X1.c2
 clear kX20 kX21 kX22 kX23 kX24
 replace X2:=X2.below hb3 X2.lt
 obtain ⟨⟨kX20,kX21,kX22,kX23,kX24⟩,-⟩:=X2.c5
 clear kX30 kX31 fX30 fX31
 replace X3:=X3.below hb3 X3.lt
 obtain ⟨⟨kX30,kX31⟩,fX30,fX31⟩:=X3.c2
 replace hbw:=hbw.trans (hb3.mono (by omega))
 replace hr:=hr.below (hb3.mono (by omega))
 clear hb3
 by_cases he:bookErr b=0
 rotate_left
 ·have HE1:=Lib.hid (HE.out.trans (if_pos he))
  have he':(bookErr b != 0)=true:=by simpa using he
  clear he HE
  go_wp2_with fail
  refine calls_name ?_
  intro wq hwq
  have Xq3:Blk wq (w.heap.size + 1 + 1) 62 #[.slice none 0 0,.slice none 0 0]:=by rw [hwq];first | exact X3 | exact X3.alloc _ | exact (X3.far (by simp;omega) _).far (by simp;omega) _
  have hbq:Below w.heap.size w wq:=by rw [hwq];first | exact hbw | exact hbw.alloc (by omega) _ | exact (hbw.setCell (by dsimp only;omega) _).setCell (by dsimp only;omega) _
  have hsq:w3.heap.size ≤ wq.heap.size:=by rw [hwq];simp
  clear hwq kX30 kX31 fX30 fX31
  refine (fail_any (bookErr b) wq).mono ?_
  rintro e wf ⟨rfl,hbf⟩
  have hsf:=hbf.size
  replace Xq3:=Xq3.below hbf Xq3.lt
  replace hbq:=hbq.trans (hbf.mono (by omega))
  obtain ⟨⟨kXq30,kXq31⟩,fXq30,fXq31⟩:=Xq3.c2
  clear hbf
  go_wp2_with fail
  refine post_name ?_
  intro Z hZ
  have XZ3:Blk Z (w.heap.size + 1 + 1) 62 #[.slice none 0 0,.slice none 0 0]:=by rw [hZ];exact (Xq3.set_ 0 _).set_ 1 _
  have hbZ:Below w.heap.size w Z:=by rw [hZ];exact (hbq.setCell (by dsimp only;omega) _).setCell (by dsimp only;omega) _
  clear hZ kXq30 kXq31 fXq30 fXq31
  obtain ⟨⟨kXZ30,kXZ31⟩,-⟩:=XZ3.c2
  refine bodyPost_ret (v:=.tuple #[.agg #[.slice none 0 0,.slice none 0 0],.slice none 0 0,.int .i64 0,.int .i64 (bookErr b)]) (by simp [results,Try.results81,go_sem, *]) rfl ?_
  exact retCome_mk (x:=zeroBk) (l:=[]) HE1.out rfl rfl (World.ownsRow_nil _ _ _ _) (World.ownsRow_nil _ _ _ _) rfl (World.ownsRow_nil _ _ _ _) hbZ
 have HE1:=Lib.hid (HE.out.trans (if_neg (by omega)))
 have HBK:=Lib.hid (bookErr_ok.1 he)
 have hlen:=HBK.out.len
 rw [he]
 clear he HE
 go_wp2_with fail
 refine (has_bk b o.id A A' c c' B w3 hr (by omega) (by omega)).mono ?_
 rintro e w4 ⟨rfl,hb4⟩
 have hs4:=hb4.size
 clear kX10 kX11
 replace X1:=X1.below hb4 X1.lt
 obtain ⟨⟨kX10,kX11⟩,-⟩:=X1.c2
 clear kX20 kX21 kX22 kX23 kX24
 replace X2:=X2.below hb4 X2.lt
 obtain ⟨⟨kX20,kX21,kX22,kX23,kX24⟩,-⟩:=X2.c5
 clear kX30 kX31 fX30 fX31
 replace X3:=X3.below hb4 X3.lt
 obtain ⟨⟨kX30,kX31⟩,fX30,fX31⟩:=X3.c2
 replace hbw:=hbw.trans (hb4.mono (by omega))
 replace hr:=hr.below (hb4.mono (by omega))
 clear hb4
 rcases (bool_cs (hasB b o.id)).symm with hh | hh
 ·have HE2:=Lib.hid (HE1.out.trans (if_pos hh))
  rw [hh]
  clear hh HE1
  go_wp2_with fail
  refine calls_name ?_
  intro wq hwq
  have Xq3:Blk wq (w.heap.size + 1 + 1) 62 #[.slice none 0 0,.slice none 0 0]:=by rw [hwq];first | exact X3 | exact X3.alloc _ | exact (X3.far (by simp;omega) _).far (by simp;omega) _
  have hbq:Below w.heap.size w wq:=by rw [hwq];first | exact hbw | exact hbw.alloc (by omega) _ | exact (hbw.setCell (by dsimp only;omega) _).setCell (by dsimp only;omega) _
  have hsq:w4.heap.size ≤ wq.heap.size:=by rw [hwq];simp
  clear hwq kX30 kX31 fX30 fX31
  refine (fail_any (6) wq).mono ?_
  rintro e wf ⟨rfl,hbf⟩
  have hsf:=hbf.size
  replace Xq3:=Xq3.below hbf Xq3.lt
  replace hbq:=hbq.trans (hbf.mono (by omega))
  obtain ⟨⟨kXq30,kXq31⟩,fXq30,fXq31⟩:=Xq3.c2
  clear hbf
  go_wp2_with fail
  refine post_name ?_
  intro Z hZ
  have XZ3:Blk Z (w.heap.size + 1 + 1) 62 #[.slice none 0 0,.slice none 0 0]:=by rw [hZ];exact (Xq3.set_ 0 _).set_ 1 _
  have hbZ:Below w.heap.size w Z:=by rw [hZ];exact (hbq.setCell (by dsimp only;omega) _).setCell (by dsimp only;omega) _
  clear hZ kXq30 kXq31 fXq30 fXq31
  obtain ⟨⟨kXZ30,kXZ31⟩,-⟩:=XZ3.c2
  refine bodyPost_ret (v:=.tuple #[.agg #[.slice none 0 0,.slice none 0 0],.slice none 0 0,.int .i64 0,.int .i64 (6)]) (by simp [results,Try.results81,go_sem, *]) rfl ?_
  exact retCome_mk (x:=zeroBk) (l:=[]) HE2.out rfl rfl (World.ownsRow_nil _ _ _ _) (World.ownsRow_nil _ _ _ _) rfl (World.ownsRow_nil _ _ _ _) hbZ
 have HE2:=Lib.hid (HE1.out.trans (if_neg (by rw [hh];simp)))
 rw [hh]
 clear hh HE1
 by_cases hw:how < 1∨4 < how
 ·have HE3:=Lib.hid (HE2.out.trans (if_pos hw))
  have hw':how < 1∨1 ≤ how∧4 < how:=by omega
  clear hw HE2
  rcases hw' with h1 | ⟨h1,h2⟩
  ·skip
   go_wp2_with fail
   refine calls_name ?_
   intro wq hwq
   have Xq3:Blk wq (w.heap.size + 1 + 1) 62 #[.slice none 0 0,.slice none 0 0]:=by rw [hwq];first | exact X3 | exact X3.alloc _ | exact (X3.far (by simp;omega) _).far (by simp;omega) _
   have hbq:Below w.heap.size w wq:=by rw [hwq];first | exact hbw | exact hbw.alloc (by omega) _ | exact (hbw.setCell (by dsimp only;omega) _).setCell (by dsimp only;omega) _
   have hsq:w4.heap.size ≤ wq.heap.size:=by rw [hwq];simp
   clear hwq kX30 kX31 fX30 fX31
   refine (fail_any (4) wq).mono ?_
   rintro e wf ⟨rfl,hbf⟩
   have hsf:=hbf.size
   replace Xq3:=Xq3.below hbf Xq3.lt
   replace hbq:=hbq.trans (hbf.mono (by omega))
   obtain ⟨⟨kXq30,kXq31⟩,fXq30,fXq31⟩:=Xq3.c2
   clear hbf
   go_wp2_with fail
   refine post_name ?_
   intro Z hZ
   have XZ3:Blk Z (w.heap.size + 1 + 1) 62 #[.slice none 0 0,.slice none 0 0]:=by rw [hZ];exact (Xq3.set_ 0 _).set_ 1 _
   have hbZ:Below w.heap.size w Z:=by rw [hZ];exact (hbq.setCell (by dsimp only;omega) _).setCell (by dsimp only;omega) _
   clear hZ kXq30 kXq31 fXq30 fXq31
   obtain ⟨⟨kXZ30,kXZ31⟩,-⟩:=XZ3.c2
   refine bodyPost_ret (v:=.tuple #[.agg #[.slice none 0 0,.slice none 0 0],.slice none 0 0,.int .i64 0,.int .i64 (4)]) (by simp [results,Try.results81,go_sem, *]) rfl ?_
   exact retCome_mk (x:=zeroBk) (l:=[]) HE3.out rfl rfl (World.ownsRow_nil _ _ _ _) (World.ownsRow_nil _ _ _ _) rfl (World.ownsRow_nil _ _ _ _) hbZ
  ·skip
   go_wp2_with fail
   refine calls_name ?_
   intro wq hwq
   have Xq3:Blk wq (w.heap.size + 1 + 1) 62 #[.slice none 0 0,.slice none 0 0]:=by rw [hwq];first | exact X3 | exact X3.alloc _ | exact (X3.far (by simp;omega) _).far (by simp;omega) _
   have hbq:Below w.heap.size w wq:=by rw [hwq];first | exact hbw | exact hbw.alloc (by omega) _ | exact (hbw.setCell (by dsimp only;omega) _).setCell (by dsimp only;omega) _
   have hsq:w4.heap.size ≤ wq.heap.size:=by rw [hwq];simp
   clear hwq kX30 kX31 fX30 fX31
   refine (fail_any (4) wq).mono ?_
   rintro e wf ⟨rfl,hbf⟩
   have hsf:=hbf.size
   replace Xq3:=Xq3.below hbf Xq3.lt
   replace hbq:=hbq.trans (hbf.mono (by omega))
   obtain ⟨⟨kXq30,kXq31⟩,fXq30,fXq31⟩:=Xq3.c2
   clear hbf
   go_wp2_with fail
   refine post_name ?_
   intro Z hZ
   have XZ3:Blk Z (w.heap.size + 1 + 1) 62 #[.slice none 0 0,.slice none 0 0]:=by rw [hZ];exact (Xq3.set_ 0 _).set_ 1 _
   have hbZ:Below w.heap.size w Z:=by rw [hZ];exact (hbq.setCell (by dsimp only;omega) _).setCell (by dsimp only;omega) _
   clear hZ kXq30 kXq31 fXq30 fXq31
   obtain ⟨⟨kXZ30,kXZ31⟩,-⟩:=XZ3.c2
   refine bodyPost_ret (v:=.tuple #[.agg #[.slice none 0 0,.slice none 0 0],.slice none 0 0,.int .i64 0,.int .i64 (4)]) (by simp [results,Try.results81,go_sem, *]) rfl ?_
   exact retCome_mk (x:=zeroBk) (l:=[]) HE3.out rfl rfl (World.ownsRow_nil _ _ _ _) (World.ownsRow_nil _ _ _ _) rfl (World.ownsRow_nil _ _ _ _) hbZ
 have HE3:=Lib.hid (HE2.out.trans (if_neg hw))
 obtain ⟨hw1,hw2⟩:1 ≤ how∧how ≤ 4:=by omega
 clear hw HE2
 go_wp2_with fail
 refine (take_bk b o A A' c c' B w4 hr (by omega) hl hl').mono ?_
 rw [HTK.out]
 rintro e w5 ⟨P,p,P',p',vf,rfl,hobk,hrow,-,hb5⟩
 have hs5:=hb5.size
 replace X1:=X1.below hb5 X1.lt
 clear kX20 kX21 kX22 kX23 kX24
 replace X2:=X2.below hb5 X2.lt
 obtain ⟨⟨kX20,kX21,kX22,kX23,kX24⟩,-⟩:=X2.c5
 clear kX30 kX31 fX30 fX31
 replace X3:=X3.below hb5 X3.lt
 obtain ⟨⟨kX30,kX31⟩,fX30,fX31⟩:=X3.c2
 replace hbw:=hbw.trans (hb5.mono (by omega))
 clear hb5 hr kX10 kX11
 have x2:w.heap.size + 1 < w5.heap.size:=by omega
 have x3':w.heap.size + 1 + 1 < w5.heap.size:=by omega
 obtain ⟨AF,cF,rfl⟩:=own_shape hrow
 have HOB:=Lib.hid hobk
 have HRW:=Lib.hid hrow
 clear hobk hrow
 by_cases het:te=0
 rotate_left
 ·have HE4:=Lib.hid (HE3.out.trans (if_pos het))
  have he':(te != 0)=true:=by simpa using het
  clear het HE3
  go_wp2_with fail
  refine calls_name ?_
  intro wq hwq
  have Xq3:Blk wq (w.heap.size + 1 + 1) 62 #[.slice none 0 0,.slice none 0 0]:=by rw [hwq];first | exact X3 | exact X3.alloc _ | exact (X3.far (by simp;omega) _).far (by simp;omega) _
  have hbq:Below w.heap.size w wq:=by rw [hwq];first | exact hbw | exact hbw.alloc (by omega) _ | exact (hbw.setCell (by dsimp only;omega) _).setCell (by dsimp only;omega) _
  have hsq:w5.heap.size ≤ wq.heap.size:=by rw [hwq];simp
  clear hwq kX30 kX31 fX30 fX31
  refine (fail_any (te) wq).mono ?_
  rintro e wf ⟨rfl,hbf⟩
  have hsf:=hbf.size
  replace Xq3:=Xq3.below hbf Xq3.lt
  replace hbq:=hbq.trans (hbf.mono (by omega))
  obtain ⟨⟨kXq30,kXq31⟩,fXq30,fXq31⟩:=Xq3.c2
  clear hbf
  go_wp2_with fail
  refine post_name ?_
  intro Z hZ
  have XZ3:Blk Z (w.heap.size + 1 + 1) 62 #[.slice none 0 0,.slice none 0 0]:=by rw [hZ];exact (Xq3.set_ 0 _).set_ 1 _
  have hbZ:Below w.heap.size w Z:=by rw [hZ];exact (hbq.setCell (by dsimp only;omega) _).setCell (by dsimp only;omega) _
  clear hZ kXq30 kXq31 fXq30 fXq31
  obtain ⟨⟨kXZ30,kXZ31⟩,-⟩:=XZ3.c2
  refine bodyPost_ret (v:=.tuple #[.agg #[.slice none 0 0,.slice none 0 0],.slice none 0 0,.int .i64 0,.int .i64 (te)]) (by simp [results,Try.results81,go_sem, *]) rfl ?_
  exact retCome_mk (x:=zeroBk) (l:=[]) HE4.out rfl rfl (World.ownsRow_nil _ _ _ _) (World.ownsRow_nil _ _ _ _) rfl (World.ownsRow_nil _ _ _ _) hbZ
 have HE4:=Lib.hid (HE3.out.trans (if_neg (by omega)))
 subst het
 have HTF:=Lib.hid (take_facts HTK.out)
 obtain ⟨tl0,tl1⟩:=HTF.out.2
 clear HE3
 have HLN:=Lib.hid (book_lens HTF.out.1)
 have hnl:tl.length=0∨0 < tl.length:=by omega
 by_cases hp:how=4∧(tl ≠ []∨tmet=true)
 ·have HE5:=Lib.hid (HE4.out.trans (if_pos hp))
  obtain ⟨hp4,hp5⟩:=hp
  have hq4:(how == 4)=true:=by simpa using hp4
  clear HE4
  have hp6:(0 < tl.length∨tl.length=0∧tmet=true):=by
   rcases hnl with h0 | h0
   ·rcases hp5 with h | h
    ·exact absurd (List.eq_nil_of_length_eq_zero h0) h
    ·exact .inr ⟨h0,h⟩
   ·exact .inl h0
  clear hp5 hnl
  rcases hp6 with h0 | ⟨h0,rfl⟩
  ·have d1:decide ((0:Int) < (tl.length:Int))=true:=decide_eq_true (by omega)
   have d2:decide (0 < tl.length)=true:=decide_eq_true h0
   clear h0 hp4
   go_wp2_with fail
   refine calls_name ?_
   intro wq hwq
   have Xq3:Blk wq (w.heap.size + 1 + 1) 62 #[.slice none 0 0,.slice none 0 0]:=by rw [hwq];first | exact X3 | exact X3.alloc _ | exact (X3.far (by simp;omega) _).far (by simp;omega) _
   have hbq:Below w.heap.size w wq:=by rw [hwq];first | exact hbw | exact hbw.alloc (by omega) _ | exact (hbw.setCell (by dsimp only;omega) _).setCell (by dsimp only;omega) _
   have hsq:w5.heap.size ≤ wq.heap.size:=by rw [hwq];simp
   clear hwq kX30 kX31 fX30 fX31
   refine (fail_any (9) wq).mono ?_
   rintro e wf ⟨rfl,hbf⟩
   have hsf:=hbf.size
   replace Xq3:=Xq3.below hbf Xq3.lt
   replace hbq:=hbq.trans (hbf.mono (by omega))
   obtain ⟨⟨kXq30,kXq31⟩,fXq30,fXq31⟩:=Xq3.c2
   clear hbf
   go_wp2_with fail
   refine post_name ?_
   intro Z hZ
   have XZ3:Blk Z (w.heap.size + 1 + 1) 62 #[.slice none 0 0,.slice none 0 0]:=by rw [hZ];exact (Xq3.set_ 0 _).set_ 1 _
   have hbZ:Below w.heap.size w Z:=by rw [hZ];exact (hbq.setCell (by dsimp only;omega) _).setCell (by dsimp only;omega) _
   clear hZ kXq30 kXq31 fXq30 fXq31
   obtain ⟨⟨kXZ30,kXZ31⟩,-⟩:=XZ3.c2
   refine bodyPost_ret (v:=.tuple #[.agg #[.slice none 0 0,.slice none 0 0],.slice none 0 0,.int .i64 0,.int .i64 (9)]) (by simp [results,Try.results81,go_sem, *]) rfl ?_
   exact retCome_mk (x:=zeroBk) (l:=[]) HE5.out rfl rfl (World.ownsRow_nil _ _ _ _) (World.ownsRow_nil _ _ _ _) rfl (World.ownsRow_nil _ _ _ _) hbZ
  ·have d1:decide ((0:Int) < (tl.length:Int))=false:=decide_eq_false (by omega)
   have d2:decide (0 < tl.length)=false:=decide_eq_false (by omega)
   clear h0 hp4
   go_wp2_with fail
   refine calls_name ?_
   intro wq hwq
   have Xq3:Blk wq (w.heap.size + 1 + 1) 62 #[.slice none 0 0,.slice none 0 0]:=by rw [hwq];first | exact X3 | exact X3.alloc _ | exact (X3.far (by simp;omega) _).far (by simp;omega) _
   have hbq:Below w.heap.size w wq:=by rw [hwq];first | exact hbw | exact hbw.alloc (by omega) _ | exact (hbw.setCell (by dsimp only;omega) _).setCell (by dsimp only;omega) _
   have hsq:w5.heap.size ≤ wq.heap.size:=by rw [hwq];simp
   clear hwq kX30 kX31 fX30 fX31
   refine (fail_any (9) wq).mono ?_
   rintro e wf ⟨rfl,hbf⟩
   have hsf:=hbf.size
   replace Xq3:=Xq3.below hbf Xq3.lt
   replace hbq:=hbq.trans (hbf.mono (by omega))
   obtain ⟨⟨kXq30,kXq31⟩,fXq30,fXq31⟩:=Xq3.c2
   clear hbf
   go_wp2_with fail
   refine post_name ?_
   intro Z hZ
   have XZ3:Blk Z (w.heap.size + 1 + 1) 62 #[.slice none 0 0,.slice none 0 0]:=by rw [hZ];exact (Xq3.set_ 0 _).set_ 1 _
   have hbZ:Below w.heap.size w Z:=by rw [hZ];exact (hbq.setCell (by dsimp only;omega) _).setCell (by dsimp only;omega) _
   clear hZ kXq30 kXq31 fXq30 fXq31
   obtain ⟨⟨kXZ30,kXZ31⟩,-⟩:=XZ3.c2
   refine bodyPost_ret (v:=.tuple #[.agg #[.slice none 0 0,.slice none 0 0],.slice none 0 0,.int .i64 0,.int .i64 (9)]) (by simp [results,Try.results81,go_sem, *]) rfl ?_
   exact retCome_mk (x:=zeroBk) (l:=[]) HE5.out rfl rfl (World.ownsRow_nil _ _ _ _) (World.ownsRow_nil _ _ _ _) rfl (World.ownsRow_nil _ _ _ _) hbZ
 have HE5:=Lib.hid (HE4.out.trans (if_neg hp))
 clear HE4
 have hp7:(how == 4)=false∨(how == 4)=true∧tl.length=0∧tmet=false:=by
  by_cases h4:how=4
  ·right
   have h5:¬ (tl ≠ []∨tmet=true):=fun h=>hp ⟨h4,h⟩
   simp only [not_or,Classical.not_not,Bool.not_eq_true] at h5
   exact ⟨by simpa using h4,by rw [h5.1];rfl,h5.2⟩
  ·exact .inl (by simpa using h4)
 clear hp hnl
 rcases hp7 with hq4 | ⟨hq4,h0,rfl⟩
 ·rcases (bool_cs tmet).symm with rfl | rfl
  ·have HE6:=Lib.hid (HE5.out.trans (if_pos rfl))
   clear HE5
   go_wp2_with fail
   refine calls_name ?_
   intro wq hwq
   have Xq3:Blk wq (w.heap.size + 1 + 1) 62 #[.slice none 0 0,.slice none 0 0]:=by rw [hwq];first | exact X3 | exact X3.alloc _ | exact (X3.far (by simp;omega) _).far (by simp;omega) _
   have hbq:Below w.heap.size w wq:=by rw [hwq];first | exact hbw | exact hbw.alloc (by omega) _ | exact (hbw.setCell (by dsimp only;omega) _).setCell (by dsimp only;omega) _
   have hsq:w5.heap.size ≤ wq.heap.size:=by rw [hwq];simp
   clear hwq kX30 kX31 fX30 fX31
   refine (fail_any (11) wq).mono ?_
   rintro e wf ⟨rfl,hbf⟩
   have hsf:=hbf.size
   replace Xq3:=Xq3.below hbf Xq3.lt
   replace hbq:=hbq.trans (hbf.mono (by omega))
   obtain ⟨⟨kXq30,kXq31⟩,fXq30,fXq31⟩:=Xq3.c2
   clear hbf
   go_wp2_with fail
   refine post_name ?_
   intro Z hZ
   have XZ3:Blk Z (w.heap.size + 1 + 1) 62 #[.slice none 0 0,.slice none 0 0]:=by rw [hZ];exact (Xq3.set_ 0 _).set_ 1 _
   have hbZ:Below w.heap.size w Z:=by rw [hZ];exact (hbq.setCell (by dsimp only;omega) _).setCell (by dsimp only;omega) _
   clear hZ kXq30 kXq31 fXq30 fXq31
   obtain ⟨⟨kXZ30,kXZ31⟩,-⟩:=XZ3.c2
   refine bodyPost_ret (v:=.tuple #[.agg #[.slice none 0 0,.slice none 0 0],.slice none 0 0,.int .i64 0,.int .i64 (11)]) (by simp [results,Try.results81,go_sem, *]) rfl ?_
   exact retCome_mk (x:=zeroBk) (l:=[]) HE6.out rfl rfl (World.ownsRow_nil _ _ _ _) (World.ownsRow_nil _ _ _ _) rfl (World.ownsRow_nil _ _ _ _) hbZ
  ·have HE6:=Lib.hid (HE5.out.trans (if_neg (by simp)))
   clear HE5
   by_cases h3:how=3∧0 < tleft
   ·have HE7:=Lib.hid (HE6.out.trans (if_pos h3))
    obtain ⟨h31,h32⟩:=h3
    have hq3:(how == 3)=true:=by simpa using h31
    clear HE6 h31
    go_wp2_with fail
    refine calls_name ?_
    intro wq hwq
    have Xq3:Blk wq (w.heap.size + 1 + 1) 62 #[.slice none 0 0,.slice none 0 0]:=by rw [hwq];first | exact X3 | exact X3.alloc _ | exact (X3.far (by simp;omega) _).far (by simp;omega) _
    have hbq:Below w.heap.size w wq:=by rw [hwq];first | exact hbw | exact hbw.alloc (by omega) _ | exact (hbw.setCell (by dsimp only;omega) _).setCell (by dsimp only;omega) _
    have hsq:w5.heap.size ≤ wq.heap.size:=by rw [hwq];simp
    clear hwq kX30 kX31 fX30 fX31
    refine (fail_any (10) wq).mono ?_
    rintro e wf ⟨rfl,hbf⟩
    have hsf:=hbf.size
    replace Xq3:=Xq3.below hbf Xq3.lt
    replace hbq:=hbq.trans (hbf.mono (by omega))
    obtain ⟨⟨kXq30,kXq31⟩,fXq30,fXq31⟩:=Xq3.c2
    clear hbf
    go_wp2_with fail
    refine post_name ?_
    intro Z hZ
    have XZ3:Blk Z (w.heap.size + 1 + 1) 62 #[.slice none 0 0,.slice none 0 0]:=by rw [hZ];exact (Xq3.set_ 0 _).set_ 1 _
    have hbZ:Below w.heap.size w Z:=by rw [hZ];exact (hbq.setCell (by dsimp only;omega) _).setCell (by dsimp only;omega) _
    clear hZ kXq30 kXq31 fXq30 fXq31
    obtain ⟨⟨kXZ30,kXZ31⟩,-⟩:=XZ3.c2
    refine bodyPost_ret (v:=.tuple #[.agg #[.slice none 0 0,.slice none 0 0],.slice none 0 0,.int .i64 0,.int .i64 (10)]) (by simp [results,Try.results81,go_sem, *]) rfl ?_
    exact retCome_mk (x:=zeroBk) (l:=[]) HE7.out rfl rfl (World.ownsRow_nil _ _ _ _) (World.ownsRow_nil _ _ _ _) rfl (World.ownsRow_nil _ _ _ _) hbZ
   have HE7:=Lib.hid (HE6.out.trans (if_neg h3))
   have h3':(how == 3)=false∨(how == 3)=true∧¬ 0 < tleft:=by
    by_cases h:how=3
    ·exact .inr ⟨by simpa using h,fun hl=>h3 ⟨h,hl⟩⟩
    ·exact .inl (by simpa using h)
   clear HE6 h3
   by_cases h8:tleft=0∨how=2
   ·have HE8:=Lib.hid (HE7.out.trans (if_pos h8))
    have h8':(tleft == 0)=true∨(tleft == 0)=false∧(how == 2)=true:=by
     by_cases h:tleft=0
     ·exact .inl (by simpa using h)
     ·rcases h8 with h8 | h8
      ·exact absurd h8 h
      ·exact .inr ⟨by simpa using h,by simpa using h8⟩
    clear h8 HE7
    rcases h3' with hq3 | ⟨hq3,hq3'⟩
    ·rcases h8' with h8' | ⟨h8',h9'⟩
     ·skip
      go_wp2_with fail
      refine post_name ?_
      intro Z hZ
      have XZ3:Blk Z (w.heap.size + 1 + 1) 62 #[.slice P tx.bids.length p,.slice P' tx.asks.length p']:=by rw [hZ];exact ((X3.set_ 0 _).set_ 1 _).alloc _
      have hbZ:Below w.heap.size w Z:=by rw [hZ];exact ((hbw.setCell (by dsimp only;omega) _).setCell (by dsimp only;omega) _).alloc (by simp;omega) _
      have hk:∀ {e k n:Nat} {v:Value} {xs:List Value},w5.ownsRow w4.heap.size e k v n xs→Z.ownsRow w.heap.size e k v n xs:=by
       intro e k n v xs hv
       rw [hZ]
       exact own_mono (World.ownsRow.alloc (ownsRow_setCell_below (ownsRow_setCell_below hv (by dsimp only;omega) _) (by dsimp only;omega) _) _) (by omega)
      clear hZ kX30 kX31 fX30 fX31
      obtain ⟨⟨kXZ30,kXZ31⟩,-⟩:=XZ3.c2
      refine bodyPost_ret (v:=.tuple #[.agg #[.slice P tx.bids.length p,.slice P' tx.asks.length p'],.slice AF tl.length cF,.int .i64 tleft,.int .i64 0]) (by simp [results,Try.results81,go_sem, *]) rfl ?_
      exact retCome_mk (x:=tx) (l:=tl) HE8.out rfl rfl (hk HOB.out.l) (hk HOB.out.r) rfl (hk HRW.out) hbZ
     ·skip
      go_wp2_with fail
      refine post_name ?_
      intro Z hZ
      have XZ3:Blk Z (w.heap.size + 1 + 1) 62 #[.slice P tx.bids.length p,.slice P' tx.asks.length p']:=by rw [hZ];exact ((X3.set_ 0 _).set_ 1 _).alloc _
      have hbZ:Below w.heap.size w Z:=by rw [hZ];exact ((hbw.setCell (by dsimp only;omega) _).setCell (by dsimp only;omega) _).alloc (by simp;omega) _
      have hk:∀ {e k n:Nat} {v:Value} {xs:List Value},w5.ownsRow w4.heap.size e k v n xs→Z.ownsRow w.heap.size e k v n xs:=by
       intro e k n v xs hv
       rw [hZ]
       exact own_mono (World.ownsRow.alloc (ownsRow_setCell_below (ownsRow_setCell_below hv (by dsimp only;omega) _) (by dsimp only;omega) _) _) (by omega)
      clear hZ kX30 kX31 fX30 fX31
      obtain ⟨⟨kXZ30,kXZ31⟩,-⟩:=XZ3.c2
      refine bodyPost_ret (v:=.tuple #[.agg #[.slice P tx.bids.length p,.slice P' tx.asks.length p'],.slice AF tl.length cF,.int .i64 tleft,.int .i64 0]) (by simp [results,Try.results81,go_sem, *]) rfl ?_
      exact retCome_mk (x:=tx) (l:=tl) HE8.out rfl rfl (hk HOB.out.l) (hk HOB.out.r) rfl (hk HRW.out) hbZ
    ·rcases h8' with h8' | ⟨h8',h9'⟩
     ·skip
      go_wp2_with fail
      refine post_name ?_
      intro Z hZ
      have XZ3:Blk Z (w.heap.size + 1 + 1) 62 #[.slice P tx.bids.length p,.slice P' tx.asks.length p']:=by rw [hZ];exact ((X3.set_ 0 _).set_ 1 _).alloc _
      have hbZ:Below w.heap.size w Z:=by rw [hZ];exact ((hbw.setCell (by dsimp only;omega) _).setCell (by dsimp only;omega) _).alloc (by simp;omega) _
      have hk:∀ {e k n:Nat} {v:Value} {xs:List Value},w5.ownsRow w4.heap.size e k v n xs→Z.ownsRow w.heap.size e k v n xs:=by
       intro e k n v xs hv
       rw [hZ]
       exact own_mono (World.ownsRow.alloc (ownsRow_setCell_below (ownsRow_setCell_below hv (by dsimp only;omega) _) (by dsimp only;omega) _) _) (by omega)
      clear hZ kX30 kX31 fX30 fX31
      obtain ⟨⟨kXZ30,kXZ31⟩,-⟩:=XZ3.c2
      refine bodyPost_ret (v:=.tuple #[.agg #[.slice P tx.bids.length p,.slice P' tx.asks.length p'],.slice AF tl.length cF,.int .i64 tleft,.int .i64 0]) (by simp [results,Try.results81,go_sem, *]) rfl ?_
      exact retCome_mk (x:=tx) (l:=tl) HE8.out rfl rfl (hk HOB.out.l) (hk HOB.out.r) rfl (hk HRW.out) hbZ
     ·skip
      go_wp2_with fail
      refine post_name ?_
      intro Z hZ
      have XZ3:Blk Z (w.heap.size + 1 + 1) 62 #[.slice P tx.bids.length p,.slice P' tx.asks.length p']:=by rw [hZ];exact ((X3.set_ 0 _).set_ 1 _).alloc _
      have hbZ:Below w.heap.size w Z:=by rw [hZ];exact ((hbw.setCell (by dsimp only;omega) _).setCell (by dsimp only;omega) _).alloc (by simp;omega) _
      have hk:∀ {e k n:Nat} {v:Value} {xs:List Value},w5.ownsRow w4.heap.size e k v n xs→Z.ownsRow w.heap.size e k v n xs:=by
       intro e k n v xs hv
       rw [hZ]
       exact own_mono (World.ownsRow.alloc (ownsRow_setCell_below (ownsRow_setCell_below hv (by dsimp only;omega) _) (by dsimp only;omega) _) _) (by omega)
      clear hZ kX30 kX31 fX30 fX31
      obtain ⟨⟨kXZ30,kXZ31⟩,-⟩:=XZ3.c2
      refine bodyPost_ret (v:=.tuple #[.agg #[.slice P tx.bids.length p,.slice P' tx.asks.length p'],.slice AF tl.length cF,.int .i64 tleft,.int .i64 0]) (by simp [results,Try.results81,go_sem, *]) rfl ?_
      exact retCome_mk (x:=tx) (l:=tl) HE8.out rfl rfl (hk HOB.out.l) (hk HOB.out.r) rfl (hk HRW.out) hbZ
   have HE8:=Lib.hid (HE7.out.trans (if_neg h8))
   have h8':(tleft == 0)=false∧(how == 2)=false:=⟨by simp;omega,by simp;omega⟩
   have htp:0 < tleft:=by omega
   obtain ⟨h8a,h8b⟩:=h8'
   have hq3:(how == 3)=false:=by
    rcases h3' with h | ⟨_,h⟩
    ·exact h
    ·exact absurd htp h
   clear h3' h8 HE7
   obtain ⟨rx,re,hrest⟩:=rest_pair tx { o with qty:=tleft }
   have HE9:=Lib.hid (show comeOf b o how=if re ≠ 0 then (zeroBk,[],0,re) else (rx,tl,0,0) by rw [HE8.out,hrest])
   have HRS:=Lib.hid hrest
   have fX24:=X2.frozen 4
   clear hrest HE8
   go_wp2_with fail
   refine calls_name ?_
   intro w6 hw6
   have hs6:w6.heap.size=w5.heap.size + 1:=by rw [hw6];simp
   have V3:Blk w6 (w.heap.size + 1 + 1) 62 #[.slice none 0 0,.slice none 0 0]:=by rw [hw6];exact (X3.far (by simp) _).alloc _
   have V12:Blk w6 w5.heap.size 62 #[.slice P tx.bids.length p,.slice P' tx.asks.length p']:=by rw [hw6];exact Blk.new_at _ _ _ _ (by simp)
   have hb6:Below w.heap.size w w6:=by rw [hw6];exact (hbw.setCell (by dsimp only;omega) _).alloc (by simp;omega) _
   have HO6:OBk w6 w4.heap.size P P' p p' tx:=by rw [hw6];exact (HOB.out.set (by dsimp only;omega) _).alloc _
   have HR6:w6.ownsRow w4.heap.size 87 7 (.slice AF tl.length cF) tl.length (flCells tl):=by rw [hw6];exact World.ownsRow.alloc (ownsRow_setCell_below HRW.out (by dsimp only;omega) _) _
   have HFB:=Lib.hid (fun g h=>World.ownsRow.lt HRW.out g h)
   clear hw6 X3 X2 kX20 kX21 kX22 kX23 kX24 fX24 kX30 kX31 fX30 fX31 HOB HRW
   refine (rest_ref tx { o with qty:=tleft } P P' p p' w6.heap.size w6 HRS.out HO6.read (Nat.le_refl _) HLN.out.1 HLN.out.2).mono ?_
   rintro e w7 ⟨v,rfl,hown,hb7⟩
   obtain ⟨Q,q,Q',q',rfl,H7⟩:=hown.obk
   have hs7:=hb7.size
   have X3:=V3.below hb7 V3.lt
   replace V12:=V12.below hb7 V12.lt
   have hbw:=hb6.trans (hb7.mono (by omega))
   have HR7:=Lib.hid (own_below HR6 hb7 (Nat.le_refl _))
   clear hown hb7 V3 HO6 HR6 hb6
   obtain ⟨⟨kX30,kX31⟩,fX30,fX31⟩:=X3.c2
   obtain ⟨⟨kV120,kV121⟩,fV120,fV121⟩:=V12.c2
   have x12:w5.heap.size < w7.heap.size:=by omega
   by_cases her:re=0
   rotate_left
   ·have HEA:=Lib.hid (HE9.out.trans (if_pos her))
    have her':(re != 0)=true:=by simpa using her
    clear her HE9
    go_wp2_with fail
    refine calls_name ?_
    intro wq hwq
    have Xq3:Blk wq (w.heap.size + 1 + 1) 62 #[.slice none 0 0,.slice none 0 0]:=by rw [hwq];first | exact X3 | exact X3.alloc _ | exact (X3.far (by simp;omega) _).far (by simp;omega) _
    have hbq:Below w.heap.size w wq:=by rw [hwq];first | exact hbw | exact hbw.alloc (by omega) _ | exact (hbw.setCell (by dsimp only;omega) _).setCell (by dsimp only;omega) _
    have hsq:w7.heap.size ≤ wq.heap.size:=by rw [hwq];simp
    clear hwq kX30 kX31 fX30 fX31
    refine (fail_any (re) wq).mono ?_
    rintro e wf ⟨rfl,hbf⟩
    have hsf:=hbf.size
    replace Xq3:=Xq3.below hbf Xq3.lt
    replace hbq:=hbq.trans (hbf.mono (by omega))
    obtain ⟨⟨kXq30,kXq31⟩,fXq30,fXq31⟩:=Xq3.c2
    clear hbf
    go_wp2_with fail
    refine post_name ?_
    intro Z hZ
    have XZ3:Blk Z (w.heap.size + 1 + 1) 62 #[.slice none 0 0,.slice none 0 0]:=by rw [hZ];exact (Xq3.set_ 0 _).set_ 1 _
    have hbZ:Below w.heap.size w Z:=by rw [hZ];exact (hbq.setCell (by dsimp only;omega) _).setCell (by dsimp only;omega) _
    clear hZ kXq30 kXq31 fXq30 fXq31
    obtain ⟨⟨kXZ30,kXZ31⟩,-⟩:=XZ3.c2
    refine bodyPost_ret (v:=.tuple #[.agg #[.slice none 0 0,.slice none 0 0],.slice none 0 0,.int .i64 0,.int .i64 (re)]) (by simp [results,Try.results81,go_sem, *]) rfl ?_
    exact retCome_mk (x:=zeroBk) (l:=[]) HEA.out rfl rfl (World.ownsRow_nil _ _ _ _) (World.ownsRow_nil _ _ _ _) rfl (World.ownsRow_nil _ _ _ _) hbZ
   ·have HEA:=Lib.hid (HE9.out.trans (if_neg (by omega)))
    subst her
    clear HE9
    have hne:¬ (w.heap.size + 1 + 1=w5.heap.size):=by omega
    go_wp2_with fail
    refine post_name ?_
    intro Z hZ
    have XZ3:Blk Z (w.heap.size + 1 + 1) 62 #[.slice Q rx.bids.length q,.slice Q' rx.asks.length q']:=by rw [hZ];exact (((X3.far (by simp;omega) _).far (by simp;omega) _).set_ 0 _).set_ 1 _
    have hbZ:Below w.heap.size w Z:=by rw [hZ];exact (((hbw.setCell (by dsimp only;omega) _).setCell (by dsimp only;omega) _).setCell (by dsimp only;omega) _).setCell (by dsimp only;omega) _
    have hk:∀ {e k n B:Nat} {v:Value} {xs:List Value},w5.heap.size < B→w7.ownsRow B e k v n xs→Z.ownsRow w.heap.size e k v n xs:=by
     intro e k n B v xs hB hv
     rw [hZ]
     exact own_mono (ownsRow_setCell_below (ownsRow_setCell_below (ownsRow_setCell_below (ownsRow_setCell_below hv (by dsimp only;omega) _) (by dsimp only;omega) _) (by dsimp only;omega) _) (by dsimp only;omega) _) (by omega)
    have hk2:Z.ownsRow w.heap.size 87 7 (.slice AF tl.length cF) tl.length (flCells tl):=by
     rw [hZ]
     exact own_mono (own_far (own_far (own_far (own_far HR7.out (fun g h e=>by have:=HFB.out g h;dsimp only at e;omega) _) (fun g h e=>by have:=HFB.out g h;dsimp only at e;omega) _) (fun g h e=>by have:=HFB.out g h;dsimp only at e;omega) _) (fun g h e=>by have:=HFB.out g h;dsimp only at e;omega) _) (by omega)
    clear hZ kX30 kX31 fX30 fX31 kV120 kV121 fV120 fV121
    obtain ⟨⟨kXZ30,kXZ31⟩,-⟩:=XZ3.c2
    refine bodyPost_ret (v:=.tuple #[.agg #[.slice Q rx.bids.length q,.slice Q' rx.asks.length q'],.slice AF tl.length cF,.int .i64 0,.int .i64 0]) (by simp [results,Try.results81,go_sem, *]) rfl ?_
    exact retCome_mk (x:=rx) (l:=tl) HEA.out rfl rfl (hk (by omega) H7.l) (hk (by omega) H7.r) rfl hk2 hbZ
 ·have d1:decide ((0:Int) < (tl.length:Int))=false:=decide_eq_false (by omega)
  have d2:decide (0 < tl.length)=false:=decide_eq_false (by omega)
  have HE6:=Lib.hid (HE5.out.trans (if_neg (by simp)))
  clear HE5 h0
  by_cases h3:how=3∧0 < tleft
  ·have HE7:=Lib.hid (HE6.out.trans (if_pos h3))
   obtain ⟨h31,h32⟩:=h3
   have hq3:(how == 3)=true:=by simpa using h31
   clear HE6 h31
   go_wp2_with fail
   refine calls_name ?_
   intro wq hwq
   have Xq3:Blk wq (w.heap.size + 1 + 1) 62 #[.slice none 0 0,.slice none 0 0]:=by rw [hwq];first | exact X3 | exact X3.alloc _ | exact (X3.far (by simp;omega) _).far (by simp;omega) _
   have hbq:Below w.heap.size w wq:=by rw [hwq];first | exact hbw | exact hbw.alloc (by omega) _ | exact (hbw.setCell (by dsimp only;omega) _).setCell (by dsimp only;omega) _
   have hsq:w5.heap.size ≤ wq.heap.size:=by rw [hwq];simp
   clear hwq kX30 kX31 fX30 fX31
   refine (fail_any (10) wq).mono ?_
   rintro e wf ⟨rfl,hbf⟩
   have hsf:=hbf.size
   replace Xq3:=Xq3.below hbf Xq3.lt
   replace hbq:=hbq.trans (hbf.mono (by omega))
   obtain ⟨⟨kXq30,kXq31⟩,fXq30,fXq31⟩:=Xq3.c2
   clear hbf
   go_wp2_with fail
   refine post_name ?_
   intro Z hZ
   have XZ3:Blk Z (w.heap.size + 1 + 1) 62 #[.slice none 0 0,.slice none 0 0]:=by rw [hZ];exact (Xq3.set_ 0 _).set_ 1 _
   have hbZ:Below w.heap.size w Z:=by rw [hZ];exact (hbq.setCell (by dsimp only;omega) _).setCell (by dsimp only;omega) _
   clear hZ kXq30 kXq31 fXq30 fXq31
   obtain ⟨⟨kXZ30,kXZ31⟩,-⟩:=XZ3.c2
   refine bodyPost_ret (v:=.tuple #[.agg #[.slice none 0 0,.slice none 0 0],.slice none 0 0,.int .i64 0,.int .i64 (10)]) (by simp [results,Try.results81,go_sem, *]) rfl ?_
   exact retCome_mk (x:=zeroBk) (l:=[]) HE7.out rfl rfl (World.ownsRow_nil _ _ _ _) (World.ownsRow_nil _ _ _ _) rfl (World.ownsRow_nil _ _ _ _) hbZ
  have HE7:=Lib.hid (HE6.out.trans (if_neg h3))
  have h3':(how == 3)=false∨(how == 3)=true∧¬ 0 < tleft:=by
   by_cases h:how=3
   ·exact .inr ⟨by simpa using h,fun hl=>h3 ⟨h,hl⟩⟩
   ·exact .inl (by simpa using h)
  clear HE6 h3
  by_cases h8:tleft=0∨how=2
  ·have HE8:=Lib.hid (HE7.out.trans (if_pos h8))
   have h8':(tleft == 0)=true∨(tleft == 0)=false∧(how == 2)=true:=by
    by_cases h:tleft=0
    ·exact .inl (by simpa using h)
    ·rcases h8 with h8 | h8
     ·exact absurd h8 h
     ·exact .inr ⟨by simpa using h,by simpa using h8⟩
   clear h8 HE7
   rcases h3' with hq3 | ⟨hq3,hq3'⟩
   ·rcases h8' with h8' | ⟨h8',h9'⟩
    ·skip
     go_wp2_with fail
     refine post_name ?_
     intro Z hZ
     have XZ3:Blk Z (w.heap.size + 1 + 1) 62 #[.slice P tx.bids.length p,.slice P' tx.asks.length p']:=by rw [hZ];exact ((X3.set_ 0 _).set_ 1 _).alloc _
     have hbZ:Below w.heap.size w Z:=by rw [hZ];exact ((hbw.setCell (by dsimp only;omega) _).setCell (by dsimp only;omega) _).alloc (by simp;omega) _
     have hk:∀ {e k n:Nat} {v:Value} {xs:List Value},w5.ownsRow w4.heap.size e k v n xs→Z.ownsRow w.heap.size e k v n xs:=by
      intro e k n v xs hv
      rw [hZ]
      exact own_mono (World.ownsRow.alloc (ownsRow_setCell_below (ownsRow_setCell_below hv (by dsimp only;omega) _) (by dsimp only;omega) _) _) (by omega)
     clear hZ kX30 kX31 fX30 fX31
     obtain ⟨⟨kXZ30,kXZ31⟩,-⟩:=XZ3.c2
     refine bodyPost_ret (v:=.tuple #[.agg #[.slice P tx.bids.length p,.slice P' tx.asks.length p'],.slice AF tl.length cF,.int .i64 tleft,.int .i64 0]) (by simp [results,Try.results81,go_sem, *]) rfl ?_
     exact retCome_mk (x:=tx) (l:=tl) HE8.out rfl rfl (hk HOB.out.l) (hk HOB.out.r) rfl (hk HRW.out) hbZ
    ·skip
     go_wp2_with fail
     refine post_name ?_
     intro Z hZ
     have XZ3:Blk Z (w.heap.size + 1 + 1) 62 #[.slice P tx.bids.length p,.slice P' tx.asks.length p']:=by rw [hZ];exact ((X3.set_ 0 _).set_ 1 _).alloc _
     have hbZ:Below w.heap.size w Z:=by rw [hZ];exact ((hbw.setCell (by dsimp only;omega) _).setCell (by dsimp only;omega) _).alloc (by simp;omega) _
     have hk:∀ {e k n:Nat} {v:Value} {xs:List Value},w5.ownsRow w4.heap.size e k v n xs→Z.ownsRow w.heap.size e k v n xs:=by
      intro e k n v xs hv
      rw [hZ]
      exact own_mono (World.ownsRow.alloc (ownsRow_setCell_below (ownsRow_setCell_below hv (by dsimp only;omega) _) (by dsimp only;omega) _) _) (by omega)
     clear hZ kX30 kX31 fX30 fX31
     obtain ⟨⟨kXZ30,kXZ31⟩,-⟩:=XZ3.c2
     refine bodyPost_ret (v:=.tuple #[.agg #[.slice P tx.bids.length p,.slice P' tx.asks.length p'],.slice AF tl.length cF,.int .i64 tleft,.int .i64 0]) (by simp [results,Try.results81,go_sem, *]) rfl ?_
     exact retCome_mk (x:=tx) (l:=tl) HE8.out rfl rfl (hk HOB.out.l) (hk HOB.out.r) rfl (hk HRW.out) hbZ
   ·rcases h8' with h8' | ⟨h8',h9'⟩
    ·skip
     go_wp2_with fail
     refine post_name ?_
     intro Z hZ
     have XZ3:Blk Z (w.heap.size + 1 + 1) 62 #[.slice P tx.bids.length p,.slice P' tx.asks.length p']:=by rw [hZ];exact ((X3.set_ 0 _).set_ 1 _).alloc _
     have hbZ:Below w.heap.size w Z:=by rw [hZ];exact ((hbw.setCell (by dsimp only;omega) _).setCell (by dsimp only;omega) _).alloc (by simp;omega) _
     have hk:∀ {e k n:Nat} {v:Value} {xs:List Value},w5.ownsRow w4.heap.size e k v n xs→Z.ownsRow w.heap.size e k v n xs:=by
      intro e k n v xs hv
      rw [hZ]
      exact own_mono (World.ownsRow.alloc (ownsRow_setCell_below (ownsRow_setCell_below hv (by dsimp only;omega) _) (by dsimp only;omega) _) _) (by omega)
     clear hZ kX30 kX31 fX30 fX31
     obtain ⟨⟨kXZ30,kXZ31⟩,-⟩:=XZ3.c2
     refine bodyPost_ret (v:=.tuple #[.agg #[.slice P tx.bids.length p,.slice P' tx.asks.length p'],.slice AF tl.length cF,.int .i64 tleft,.int .i64 0]) (by simp [results,Try.results81,go_sem, *]) rfl ?_
     exact retCome_mk (x:=tx) (l:=tl) HE8.out rfl rfl (hk HOB.out.l) (hk HOB.out.r) rfl (hk HRW.out) hbZ
    ·skip
     go_wp2_with fail
     refine post_name ?_
     intro Z hZ
     have XZ3:Blk Z (w.heap.size + 1 + 1) 62 #[.slice P tx.bids.length p,.slice P' tx.asks.length p']:=by rw [hZ];exact ((X3.set_ 0 _).set_ 1 _).alloc _
     have hbZ:Below w.heap.size w Z:=by rw [hZ];exact ((hbw.setCell (by dsimp only;omega) _).setCell (by dsimp only;omega) _).alloc (by simp;omega) _
     have hk:∀ {e k n:Nat} {v:Value} {xs:List Value},w5.ownsRow w4.heap.size e k v n xs→Z.ownsRow w.heap.size e k v n xs:=by
      intro e k n v xs hv
      rw [hZ]
      exact own_mono (World.ownsRow.alloc (ownsRow_setCell_below (ownsRow_setCell_below hv (by dsimp only;omega) _) (by dsimp only;omega) _) _) (by omega)
     clear hZ kX30 kX31 fX30 fX31
     obtain ⟨⟨kXZ30,kXZ31⟩,-⟩:=XZ3.c2
     refine bodyPost_ret (v:=.tuple #[.agg #[.slice P tx.bids.length p,.slice P' tx.asks.length p'],.slice AF tl.length cF,.int .i64 tleft,.int .i64 0]) (by simp [results,Try.results81,go_sem, *]) rfl ?_
     exact retCome_mk (x:=tx) (l:=tl) HE8.out rfl rfl (hk HOB.out.l) (hk HOB.out.r) rfl (hk HRW.out) hbZ
  have HE8:=Lib.hid (HE7.out.trans (if_neg h8))
  have h8':(tleft == 0)=false∧(how == 2)=false:=⟨by simp;omega,by simp;omega⟩
  have htp:0 < tleft:=by omega
  obtain ⟨h8a,h8b⟩:=h8'
  have hq3:(how == 3)=false:=by
   rcases h3' with h | ⟨_,h⟩
   ·exact h
   ·exact absurd htp h
  clear h3' h8 HE7
  obtain ⟨rx,re,hrest⟩:=rest_pair tx { o with qty:=tleft }
  have HE9:=Lib.hid (show comeOf b o how=if re ≠ 0 then (zeroBk,[],0,re) else (rx,tl,0,0) by rw [HE8.out,hrest])
  have HRS:=Lib.hid hrest
  have fX24:=X2.frozen 4
  clear hrest HE8
  go_wp2_with fail
  refine calls_name ?_
  intro w6 hw6
  have hs6:w6.heap.size=w5.heap.size + 1:=by rw [hw6];simp
  have V3:Blk w6 (w.heap.size + 1 + 1) 62 #[.slice none 0 0,.slice none 0 0]:=by rw [hw6];exact (X3.far (by simp) _).alloc _
  have V12:Blk w6 w5.heap.size 62 #[.slice P tx.bids.length p,.slice P' tx.asks.length p']:=by rw [hw6];exact Blk.new_at _ _ _ _ (by simp)
  have hb6:Below w.heap.size w w6:=by rw [hw6];exact (hbw.setCell (by dsimp only;omega) _).alloc (by simp;omega) _
  have HO6:OBk w6 w4.heap.size P P' p p' tx:=by rw [hw6];exact (HOB.out.set (by dsimp only;omega) _).alloc _
  have HR6:w6.ownsRow w4.heap.size 87 7 (.slice AF tl.length cF) tl.length (flCells tl):=by rw [hw6];exact World.ownsRow.alloc (ownsRow_setCell_below HRW.out (by dsimp only;omega) _) _
  have HFB:=Lib.hid (fun g h=>World.ownsRow.lt HRW.out g h)
  clear hw6 X3 X2 kX20 kX21 kX22 kX23 kX24 fX24 kX30 kX31 fX30 fX31 HOB HRW
  refine (rest_ref tx { o with qty:=tleft } P P' p p' w6.heap.size w6 HRS.out HO6.read (Nat.le_refl _) HLN.out.1 HLN.out.2).mono ?_
  rintro e w7 ⟨v,rfl,hown,hb7⟩
  obtain ⟨Q,q,Q',q',rfl,H7⟩:=hown.obk
  have hs7:=hb7.size
  have X3:=V3.below hb7 V3.lt
  replace V12:=V12.below hb7 V12.lt
  have hbw:=hb6.trans (hb7.mono (by omega))
  have HR7:=Lib.hid (own_below HR6 hb7 (Nat.le_refl _))
  clear hown hb7 V3 HO6 HR6 hb6
  obtain ⟨⟨kX30,kX31⟩,fX30,fX31⟩:=X3.c2
  obtain ⟨⟨kV120,kV121⟩,fV120,fV121⟩:=V12.c2
  have x12:w5.heap.size < w7.heap.size:=by omega
  by_cases her:re=0
  rotate_left
  ·have HEA:=Lib.hid (HE9.out.trans (if_pos her))
   have her':(re != 0)=true:=by simpa using her
   clear her HE9
   go_wp2_with fail
   refine calls_name ?_
   intro wq hwq
   have Xq3:Blk wq (w.heap.size + 1 + 1) 62 #[.slice none 0 0,.slice none 0 0]:=by rw [hwq];first | exact X3 | exact X3.alloc _ | exact (X3.far (by simp;omega) _).far (by simp;omega) _
   have hbq:Below w.heap.size w wq:=by rw [hwq];first | exact hbw | exact hbw.alloc (by omega) _ | exact (hbw.setCell (by dsimp only;omega) _).setCell (by dsimp only;omega) _
   have hsq:w7.heap.size ≤ wq.heap.size:=by rw [hwq];simp
   clear hwq kX30 kX31 fX30 fX31
   refine (fail_any (re) wq).mono ?_
   rintro e wf ⟨rfl,hbf⟩
   have hsf:=hbf.size
   replace Xq3:=Xq3.below hbf Xq3.lt
   replace hbq:=hbq.trans (hbf.mono (by omega))
   obtain ⟨⟨kXq30,kXq31⟩,fXq30,fXq31⟩:=Xq3.c2
   clear hbf
   go_wp2_with fail
   refine post_name ?_
   intro Z hZ
   have XZ3:Blk Z (w.heap.size + 1 + 1) 62 #[.slice none 0 0,.slice none 0 0]:=by rw [hZ];exact (Xq3.set_ 0 _).set_ 1 _
   have hbZ:Below w.heap.size w Z:=by rw [hZ];exact (hbq.setCell (by dsimp only;omega) _).setCell (by dsimp only;omega) _
   clear hZ kXq30 kXq31 fXq30 fXq31
   obtain ⟨⟨kXZ30,kXZ31⟩,-⟩:=XZ3.c2
   refine bodyPost_ret (v:=.tuple #[.agg #[.slice none 0 0,.slice none 0 0],.slice none 0 0,.int .i64 0,.int .i64 (re)]) (by simp [results,Try.results81,go_sem, *]) rfl ?_
   exact retCome_mk (x:=zeroBk) (l:=[]) HEA.out rfl rfl (World.ownsRow_nil _ _ _ _) (World.ownsRow_nil _ _ _ _) rfl (World.ownsRow_nil _ _ _ _) hbZ
  ·have HEA:=Lib.hid (HE9.out.trans (if_neg (by omega)))
   subst her
   clear HE9
   have hne:¬ (w.heap.size + 1 + 1=w5.heap.size):=by omega
   go_wp2_with fail
   refine post_name ?_
   intro Z hZ
   have XZ3:Blk Z (w.heap.size + 1 + 1) 62 #[.slice Q rx.bids.length q,.slice Q' rx.asks.length q']:=by rw [hZ];exact (((X3.far (by simp;omega) _).far (by simp;omega) _).set_ 0 _).set_ 1 _
   have hbZ:Below w.heap.size w Z:=by rw [hZ];exact (((hbw.setCell (by dsimp only;omega) _).setCell (by dsimp only;omega) _).setCell (by dsimp only;omega) _).setCell (by dsimp only;omega) _
   have hk:∀ {e k n B:Nat} {v:Value} {xs:List Value},w5.heap.size < B→w7.ownsRow B e k v n xs→Z.ownsRow w.heap.size e k v n xs:=by
    intro e k n B v xs hB hv
    rw [hZ]
    exact own_mono (ownsRow_setCell_below (ownsRow_setCell_below (ownsRow_setCell_below (ownsRow_setCell_below hv (by dsimp only;omega) _) (by dsimp only;omega) _) (by dsimp only;omega) _) (by dsimp only;omega) _) (by omega)
   have hk2:Z.ownsRow w.heap.size 87 7 (.slice AF tl.length cF) tl.length (flCells tl):=by
    rw [hZ]
    exact own_mono (own_far (own_far (own_far (own_far HR7.out (fun g h e=>by have:=HFB.out g h;dsimp only at e;omega) _) (fun g h e=>by have:=HFB.out g h;dsimp only at e;omega) _) (fun g h e=>by have:=HFB.out g h;dsimp only at e;omega) _) (fun g h e=>by have:=HFB.out g h;dsimp only at e;omega) _) (by omega)
   clear hZ kX30 kX31 fX30 fX31 kV120 kV121 fV120 fV121
   obtain ⟨⟨kXZ30,kXZ31⟩,-⟩:=XZ3.c2
   refine bodyPost_ret (v:=.tuple #[.agg #[.slice Q rx.bids.length q,.slice Q' rx.asks.length q'],.slice AF tl.length cF,.int .i64 0,.int .i64 0]) (by simp [results,Try.results81,go_sem, *]) rfl ?_
   exact retCome_mk (x:=rx) (l:=tl) HEA.out rfl rfl (hk (by omega) H7.l) (hk (by omega) H7.r) rfl hk2 hbZ
end
section
open Go.RowKit
theorem bkr_up {w:World} {B B' c c':Nat} {A A':Option Addr} {b:Bk} (h:BkR w B A A' c c' b) (hB:B ≤ B'):BkR w B' A A' c c' b:=⟨h.l.up hB,h.r.up hB⟩
theorem find_ref {r:Od × Int} (b:Bk) (id:Int) (A A':Option Addr) (c c' B:Nat) (w:World) (hr:findOf b id=r) (h:BkR w B A A' c c' b) (hB:B ≤ w.heap.size) (hl:b.bids.length ≤ 4000000000000) (hl':b.asks.length ≤ 4000000000000) :
  Calls Try.prog 69 #[.agg #[.slice A b.bids.length c,.slice A' b.asks.length c'],.int .i64 id] w (RetFind w r):=by
 rw [← hr];exact find_bk b id A A' c c' B w h hB hl hl'
theorem remove_ref {r:Bk × Od × Int} (b:Bk) (id:Int) (A A':Option Addr) (c c' B:Nat) (w:World) (hr:removeOf b id=r) (h:BkR w B A A' c c' b) (hB:B ≤ w.heap.size) (hl:b.bids.length ≤ 4000000000000) (hl':b.asks.length ≤ 4000000000000) :
  Calls Try.prog 68 #[.agg #[.slice A b.bids.length c,.slice A' b.asks.length c'],.int .i64 id] w (RetRem w r):=by
 rw [← hr];exact remove_bk b id A A' c c' B w h hB hl hl'
theorem come_ref {x:Bk} {l:List Fl} {left:Int} {e':Int} (b:Bk) (o:Od) (how:Int) (A A':Option Addr) (c c' B:Nat) (w:World) (hr:comeOf b o how=(x,l,left,e')) (h:BkR w B A A' c c' b) (hB:B ≤ w.heap.size) (hl:b.bids.length ≤ 4000000000000) (hl':b.asks.length ≤ 4000000000000) :
  Calls Try.prog 81 #[.agg #[.slice A b.bids.length c,.slice A' b.asks.length c'],.agg #[.int .i64 o.id,.int .i64 o.acc,.int .i64 o.side,.int .i64 o.price,.int .i64 o.qty],.int .i64 how] w (RetCome w (x,l,left,e')):=by
 rw [← hr];exact come_bk b o how A A' c c' B w h hB hl hl'
end
section
open Go.RowKit
theorem OwnMk.put_book {w:World} {base m k g i:Nat} {ap:Bool} {L:List Mk} {xs:List Value} {a:Mk} {b:Bk} {A' A'':Option Addr} {c' c'':Nat} (h:OwnMk w base ap (some ⟨g,0,none⟩) m k L xs) (hi:L[i]?=some a)
  (ho:OBk w base A' A'' c' c'' b) (hl:b.bids.length ≤ 4000000000000∧b.asks.length ≤ 4000000000000) (hap:ap=true→Apart ((xs.set (i * 4) (.slice A' b.bids.length c')).set (i * 4 + 1) (.slice A'' b.asks.length c''))) :
  OwnMk ((w.setCell ⟨g,i * 4,none⟩ (.slice A' b.bids.length c')).setCell ⟨g,i * 4 + 1,none⟩ (.slice A'' b.asks.length c'')) base ap (some ⟨g,0,none⟩) m k (L.set i { a with book:=b })
   ((xs.set (i * 4) (.slice A' b.bids.length c')).set (i * 4 + 1) (.slice A'' b.asks.length c'')):=by
 have hlen:=h.row.1
 have hil:=(List.getElem?_eq_some_iff.1 hi).1
 have hn:i < m:=by have:=h.len;omega
 have hk:∀ v n' ys,w.ownsRow base 71 5 v n' ys→((w.setCell ⟨g,i * 4,none⟩ (.slice A' b.bids.length c')).setCell ⟨g,i * 4 + 1,none⟩ (.slice A'' b.asks.length c'')).ownsRow base 71 5 v n' ys:=by
  intro v n' ys hv
  obtain ⟨g',cs,e1,_,hb⟩:=own_blk h.row (by omega)
  injection e1 with e1
  injection e1 with e1
  subst e1
  exact (((Kept.refl [64] _).set hb (by decide) _ _).set (hb.set_ _ _) (by decide) _ _).own hv (by decide)
 refine ⟨own_store (own_store h.row _ _) _ _,by rw [List.length_set];exact h.len,fun j x hx=>?_,hap⟩
 by_cases e:j=i
 ·subst e
  rw [List.getElem?_set_self hil] at hx
  injection hx with hx
  subst hx
  obtain ⟨A2,c2,A3,c3,k1,k2,k3,k4,k5,k6,k7⟩:=h.cell j a hi
  refine ⟨A',c',A'',c'',?_,?_,?_,?_,⟨hk _ _ _ ho.l,hk _ _ _ ho.r⟩,hl.1,hl.2⟩
  ·rw [getElem?_set_ne' (by omega),List.getElem?_set_self (by omega)]
  ·rw [List.getElem?_set_self (by rw [List.length_set];omega)]
  ·rw [getElem?_set_ne' (by omega),getElem?_set_ne' (by omega)];exact k3
  ·rw [getElem?_set_ne' (by omega),getElem?_set_ne' (by omega)];exact k4
 ·rw [getElem?_set_ne' (Ne.symm e)] at hx
  obtain ⟨A2,c2,A3,c3,k1,k2,k3,k4,k5,k6⟩:=h.cell j x hx
  refine ⟨A2,c2,A3,c3,?_,?_,?_,?_,⟨hk _ _ _ k5.l,hk _ _ _ k5.r⟩,k6⟩
  ·rw [getElem?_set_ne' (by omega),getElem?_set_ne' (by omega)];exact k1
  ·rw [getElem?_set_ne' (by omega),getElem?_set_ne' (by omega)];exact k2
  ·rw [getElem?_set_ne' (by omega),getElem?_set_ne' (by omega)];exact k3
  ·rw [getElem?_set_ne' (by omega),getElem?_set_ne' (by omega)];exact k4
theorem desk_book {w Z:World} {base D c k g i:Nat} {ap:Bool} {d:Dk} {A:Option Addr} {vE:Value} {xs ys:List Value} {a:Mk} {b:Bk} {A' A'':Option Addr} {c' c'':Nat} {cs:Array Value} (h:Desk w base D ap d A c (some ⟨g,0,none⟩) k vE xs ys) (hi:d.v.mks[i]?=some a)
  (ho:OBk w base A' A'' c' c'' b) (hl:b.bids.length ≤ 4000000000000∧b.asks.length ≤ 4000000000000) (hap:ap=true→Apart ((ys.set (i * 4) (.slice A' b.bids.length c')).set (i * 4 + 1) (.slice A'' b.asks.length c''))) (hg:Blk w g 64 cs)
  (hZ:Z=((w.setCell ⟨g,i * 4,none⟩ (.slice A' b.bids.length c')).setCell ⟨g,i * 4 + 1,none⟩ (.slice A'' b.asks.length c'')).drew) :
  Desk Z base D ap ⟨setMk d.v i { a with book:=b },d.ev⟩ A c (some ⟨g,0,none⟩) k vE xs ((ys.set (i * 4) (.slice A' b.bids.length c')).set (i * 4 + 1) (.slice A'' b.asks.length c'')):=by
 have hlen:(setMk d.v i { a with book:=b }).mks.length=d.v.mks.length:=by simp [setMk]
 have hmk:=(h.mks.put_book hi ho hl hap).cast hlen.symm
 have hK:Kept [64] w Z:=by rw [hZ];exact (((Kept.refl _ _).set hg (by decide) _ _).set (hg.set_ _ _) (by decide) _ _).drew
 have hm2:=hmk.drew1
 rw [← hZ] at hm2
 refine ⟨?_,h.low,h.accs.kept hK (by decide) (by decide),hm2,hK.own h.evs (by decide)⟩
 show Blk Z D 174 #[_,.slice _ (setMk d.v i { a with book:=b }).mks.length k,_,_,_,_,_,_]
 rw [hlen]
 exact h.blk.kept hK (by decide)
theorem Desk.weak {w:World} {base D c k:Nat} {ap:Bool} {d:Dk} {A M:Option Addr} {vE:Value} {xs ys:List Value} (h:Desk w base D ap d A c M k vE xs ys):Desk w base D false d A c M k vE xs ys:=⟨h.blk,h.low,h.accs,h.mks.weak,h.evs⟩
theorem remove_lens {b x:Bk} {id n:Int} {o:Od} (h:removeOf b id=(x,o,n)) (h1:b.bids.length ≤ 4000000000000) (h2:b.asks.length ≤ 4000000000000):x.bids.length ≤ 4000000000000∧x.asks.length ≤ 4000000000000:=by
 unfold removeOf at h
 split at h
 ·injection h with h _;subst h;exact ⟨Nat.zero_le _,Nat.zero_le _⟩
 ·injection h with h _
  subst h
  unfold setOwn ownOf
  have hd:∀ l:List Od,(delO id l).length ≤ l.length:=fun l=>by unfold delO;exact List.length_filter_le _ _
  have:=hd b.bids
  have:=hd b.asks
  split <;> simp only <;> omega
theorem cancel_step_eq {c:Cm} {d:Dk} {j:Nat} {m:Mk} {x:Bk} {o:Od} {e:Int} (hm:d.v.mks[j]?=some m) (hr:removeOf m.book c.n=(x,o,e)) :
  cancelE c d j (d.v.mks.drop j)=if e=0∧o.acc=c.acc then .ok (tell ⟨setMk d.v j { m with book:=x },d.ev⟩ ⟨4,0,j,o.id,o.acc,o.qty,zeroFl⟩) else cancelE c d (j + 1) (d.v.mks.drop (j + 1)):=by
 obtain ⟨h1,h2⟩:=List.getElem?_eq_some_iff.1 hm
 rw [List.drop_eq_getElem_cons h1,h2]
 conv=>lhs;unfold cancelE
 rw [hr]
set_option maxHeartbeats 4000000 in
set_option maxRecDepth 100000 in
theorem cancel_dk (base D:Nat) (d:Dk) (A:Option Addr) (c:Nat) (M:Option Addr) (k:Nat) (vE:Value) (xs ys:List Value) (cm:Cm) (w:World) (h:Desk w base D false d A c M k vE xs ys) (hb:base ≤ w.heap.size) (hl:d.ev.length ≤ 900000) (hm2:d.v.mks.length ≤ 2) :
  Calls Try.prog 174 #[.pointer (some ⟨D,0,none⟩),.agg #[.int .i64 cm.kind,.int .i64 cm.acc,.int .i64 cm.market,.int .i64 cm.n,.int .i64 cm.o.id,.int .i64 cm.o.acc,.int .i64 cm.o.side,.int .i64 cm.o.price,.int .i64 cm.o.qty,.int .i64 cm.how,.bool cm.reduce]] w (RetDk w base D false A c M k [174,124] (D :: (ab A ++ ab M)) (cancelE cm d 0 d.v.mks)):=by
 have HD:=Lib.hid h
 have hDl:=h.lt
 obtain ⟨⟨-,k1,-⟩,-⟩:=h.blk.c8
 clear h
 go_enter Try.func174,Try.ntmps174
 go_wp2_with fail
 refine wp_name ?_
 intro W0 hW0
 have hB0:Below w.heap.size w W0:=by rw [hW0];exact (Below.refl _ _).alloc (Nat.le_refl _) _
 have hs0:W0.heap.size=w.heap.size + 1:=by rw [hW0];simp
 have X0:Blk W0 w.heap.size 113 #[.int .i64 cm.kind,.int .i64 cm.acc,.int .i64 cm.market,.int .i64 cm.n,.int .i64 cm.o.id,.int .i64 cm.o.acc,.int .i64 cm.o.side,.int .i64 cm.o.price,.int .i64 cm.o.qty,.int .i64 cm.how,.bool cm.reduce]:=by rw [hW0];exact Blk.new w _ _
 have HD0:=Lib.hid (HD.out.below hB0)
 clear hW0 k1
 go_loopw [16] (fun i wr=>∃ (j:Nat),j ≤ d.v.mks.length∧i=.int .i64 j∧Below W0.heap.size W0 wr∧Hid (cancelE cm d j (d.v.mks.drop j)=cancelE cm d 0 d.v.mks)) (fun i _=>d.v.mks.length - (intOf i).toNat)
 case atStart=>exact ⟨0,by omega,rfl,Below.refl _ _,Lib.hid (by rw [List.drop_zero])⟩
 case round =>
  obtain ⟨j,hj,rfl,hbr,HS⟩:=hrel
  have hws:=hbr.size
  have HDr:=Lib.hid (HD0.out.below hbr)
  have X1:=X0.below hbr X0.lt
  by_cases hlt:j < d.v.mks.length
  ·obtain ⟨m,hm⟩:∃ m,d.v.mks[j]?=some m:=⟨_,List.getElem?_eq_getElem hlt⟩
   obtain ⟨x,o,er,hr⟩:∃ x o er,removeOf m.book cm.n=(x,o,er):=⟨_,_,_,rfl⟩
   have HM:=Lib.hid hm
   have HR:=Lib.hid hr
   have HST:=Lib.hid ((cancel_step_eq (c:=cm) hm hr).symm.trans HS.out)
   obtain ⟨g,A2,c2,A3,c3,rfl,hg1,hg2,hin,-,⟨q0,q1,q2,q3⟩,-,hbk,hl1,hl2,-⟩:=omk_at HDr.out.mks hm
   have HBK:=Lib.hid hbk
   have x3:wr.cell? ⟨w.heap.size,3,none⟩=some (.int .i64 cm.n):=X1.cell 3
   have y1:=X1.lt
   clear hm hr hbk
   go_wp2_with fail
   refine calls_name ?_
   intro W2 hW2
   have hB2:Below wr.heap.size wr W2:=by rw [hW2];exact (Below.refl _ _).alloc (Nat.le_refl _) _
   have hs2:=hB2.size
   clear hW2 x3 q0 q1 q2 q3
   refine (remove_ref m.book cm.n A2 A3 c2 c3 W2.heap.size W2 HR.out ((OBk.below HBK.out hB2 (Nat.le_refl _)).read) (Nat.le_refl _) hl1 hl2).mono ?_
   rintro e W3 ⟨v3,rfl,hown3,hb3⟩
   obtain ⟨P,pc,P',pc',rfl,hobk3⟩:=hown3.obk
   have hB3:=hB2.trans (hb3.mono hs2)
   have hs3:=hb3.size
   have X3:=X1.below hB3 X1.lt
   have HD3:=Lib.hid (HDr.out.below hB3)
   have HB3:=Lib.hid (hB0.trans ((hbr.trans (hB3.mono hws)).mono (by omega)))
   have HO3:=Lib.hid hobk3
   have y2:=X3.lt
   have x1:W3.cell? ⟨w.heap.size,1,none⟩=some (.int .i64 cm.acc):=X3.cell 1
   clear hobk3 hown3 hb3
   by_cases he:er=0∧o.acc=cm.acc
   ·have HE:=Lib.hid (HST.out.symm.trans (if_pos he))
    obtain ⟨rfl,he2⟩:=he
    have he':(o.acc == cm.acc)=true:=by simpa using he2
    clear he2
    go_wp2_with fail
    refine wp_name ?_
    intro W4 hW4
    have hB4:Below W3.heap.size W3 W4:=by rw [hW4];exact ((Below.refl _ _).alloc (Nat.le_refl _) _).alloc (by simp) _
    have V7:Blk W4 W3.heap.size 62 #[.slice P x.bids.length pc,.slice P' x.asks.length pc']:=by rw [hW4];exact (Blk.new W3 _ _).alloc _
    have V8:Blk W4 (W3.heap.size + 1) 71 #[.int .i64 o.id,.int .i64 o.acc,.int .i64 o.side,.int .i64 o.price,.int .i64 o.qty]:=by rw [hW4];exact Blk.new_at _ _ _ _ (by simp)
    have hs4:=hB4.size
    have HD4:=Lib.hid (HD3.out.below hB4)
    have HB4:=Lib.hid (HB3.out.trans (hB4.mono (by omega)))
    have HO4:=Lib.hid (OBk.below HO3.out hB4 (Nat.le_refl _))
    clear hW4 hB4 x1
    obtain ⟨⟨-,k1,-⟩,-⟩:=HD4.out.blk.c8
    obtain ⟨g',A4,c4,A5,c5,hg',hg4,hg5,-,⟨cs,hgB⟩,⟨q0,q1,q2,q3⟩,⟨r0,r1,r2,r3⟩,-⟩:=omk_at HD4.out.mks HM.out
    obtain rfl:g'=g:=by injection hg' with hg';injection hg' with hg';exact hg'.symm
    have HG:=Lib.hid hgB
    have hi0:(0:Int) ≤ (j:Int):=by omega
    have hi1:(j:Int) < (d.v.mks.length:Int):=by omega
    have y4:D < W4.heap.size:=HD4.out.lt
    have y7:=V7.lt
    have y8:=V8.lt
    clear hg' hgB
    obtain ⟨⟨kV70,kV71⟩,-⟩:=V7.c2
    go_wp2_with fail
    go_region
    refine exit_name ?_
    intro Z hZ
    have HLN:=Lib.hid (remove_lens HR.out hl1 hl2)
    have HDZ:=Lib.hid (desk_book HD4.out HM.out ⟨own_mono HO4.out.l (by omega),own_mono HO4.out.r (by omega)⟩ HLN.out (by simp) HG.out hZ)
    have hFZ:Fr [174,124] (D :: (ab A ++ ab (some ⟨g',0,none⟩))) W4 Z:=by rw [hZ];exact (((Fr.refl _ _ _).set HG.out (.inr (by simp [ab])) _ _).set (HG.out.set_ _ _) (.inr (by simp [ab])) _ _).drewN 1
    have hLZ:Below base W4 Z:=by rw [hZ];exact below_drewN (((Below.refl _ _).setCell hg4 _).setCell hg4 _) 1
    have Z8:=V8.fr hFZ (by decide) (desk_far_blk HD4.out V8 (by decide) (by decide) (by decide))
    have hbZ:base ≤ Z.heap.size:=Nat.le_trans (by omega) hFZ.size
    clear hZ q0 q1 q2 q3 r0 r1 r2 r3 k1 kV70 kV71 V7 V8
    obtain ⟨⟨kZ80,kZ81,kZ82,kZ83,kZ84⟩,-⟩:=Z8.c5
    have y9:=Z8.lt
    go_wp2_with fail
    refine (tell_dk base D false _ A c _ k vE xs _ ⟨4,0,j,o.id,o.acc,o.qty,zeroFl⟩ Z HDZ.out hbZ (by show d.ev.length ≤ 1000000;omega)).mono ?_
    rintro e W5 ⟨rfl,⟨vE5,hd5⟩,hL5,hK5⟩
    have HD5:=Lib.hid hd5
    have HL5:=Lib.hid (((HB4.out.mono hb).trans hLZ).trans hL5)
    have HF5:=Lib.hid (((Fr.of_below [174,124] (D :: (ab A ++ ab (some ⟨g',0,none⟩))) HB4.out).trans hFZ).trans (hK5.fr _))
    clear hd5 hL5 hK5 hLZ hFZ kZ80 kZ81 kZ82 kZ83 kZ84
    go_wp2_with fail
    go_ret
    exact retDk_ok HE.out HD5.out HL5.out HF5.out
   ·have HE:=Lib.hid (show cancelE cm d (j + 1) (d.v.mks.drop (j + 1))=cancelE cm d 0 d.v.mks from (if_neg he).symm.trans HST.out)
    have hc:(er == 0)=false∨(er == 0)=true∧(o.acc == cm.acc)=false:=by
     by_cases h1:er=0
     ·exact .inr ⟨by simpa using h1,by simpa using fun h2=>he ⟨h1,h2⟩⟩
     ·exact .inl (by simpa using h1)
    clear he
    rcases hc with h1 | ⟨h1,h2⟩
    all_goals
     go_wp2_with fail
     go_roundw
     case rel=>exact ⟨j + 1,by omega,by go_num,hbr.trans ((((hB3.mono (Nat.le_refl _)).alloc (by omega) _).alloc (by simp;omega) _).mono hws),HE⟩
     case measure=>simp [intOf];omega
  ·obtain rfl:j=d.v.mks.length:=by omega
   have HE:=Lib.hid (show cancelE cm d 0 d.v.mks=.error 5 by rw [← HS.out,List.drop_length];rfl)
   go_wp2_with fail
   go_ret
   exact retDk_err HE.out (by omega) (((Below.refl _ _).trans (hB0.mono hb)).trans (hbr.mono (by omega)))
end
section
open Go.RowKit
def FlDk (f:Fl):Prop:=(0 ≤ f.tacc∧f.tacc ≤ 7)∧(0 ≤ f.macc∧f.macc ≤ 7)∧(-1000 ≤ f.side * f.qty∧f.side * f.qty ≤ 1000)
structure FlR (w wr:World) (base D:Nat) (ap:Bool) (d:Dk) (A:Option Addr) (c:Nat) (M:Option Addr) (k:Nat) (mk:Nat) (free:Bool) (l:List Fl) (base':Nat) (AL:Option Addr) (cL:Nat) (j:Nat) (d1:Dk) (vE:Value) (xs ys:List Value):Prop where
 desk:Desk wr base D ap d1 A c M k vE xs ys
 low:Below base w wr
 fr:Fr [174,124] (D :: (ab A ++ ab M)) w wr
 ok:AOk d1.v.mks.length d1.v.accs
 eq:fillsE mk free (l.drop j) d1=fillsE mk free l d
 len:d1.ev.length=d.ev.length + j
 own:wr.ownsRow base' 87 7 (.slice AL l.length cL) l.length (flCells l)
theorem fills_step {mk:Nat} {free:Bool} {f:Fl} {l:List Fl} {d:Dk} {j:Nat} (h:l[j]?=some f) :
  fillsE mk free (l.drop j) d=bindE (tradeE d.v mk f.tacc f.macc (f.side * f.qty) f.price (if free then 0 else (feeOf f.qty f.price).1)) fun v =>
   fillsE mk free (l.drop (j + 1)) (tell ⟨setMk v mk { mkAt v mk with last:=f.price },d.ev⟩ ⟨3,0,mk,0,0,0,f⟩):=by
 obtain ⟨h1,h2⟩:=List.getElem?_eq_some_iff.1 h
 rw [List.drop_eq_getElem_cons h1,h2]
 rfl
theorem flr_next {w wr W4:World} {base D c k:Nat} {ap:Bool} {d:Dk} {A M:Option Addr} {mk:Nat} {free:Bool} {l:List Fl} {base':Nat} {AL:Option Addr} {cL j:Nat} {d1:Dk} {vE1 vE4:Value} {xs1 ys1 xs4 ys4:List Value} {v':Vn} {f:Fl} {fee:Int} {m:Mk}
  (hr:FlR w wr base D ap d A c M k mk free l base' AL cL j d1 vE1 xs1 ys1) (ht:TradeStep d1.v v' mk f.tacc f.macc (f.side * f.qty) f.price fee) (hm:v'.mks[mk]?=some m)
  (he:fillsE mk free l d=fillsE mk free (l.drop (j + 1)) (tell ⟨setMk v' mk { mkAt v' mk with last:=f.price },d1.ev⟩ ⟨3,0,mk,0,0,0,f⟩))
  (hd:Desk W4 base D ap (tell ⟨setMk v' mk { m with last:=f.price },d1.ev⟩ ⟨3,0,mk,0,0,0,f⟩) A c M k vE4 xs4 ys4) (hL:Below base w W4) (hF:Fr [174,124] (D :: (ab A ++ ab M)) w W4)
  (ho:W4.ownsRow base' 87 7 (.slice AL l.length cL) l.length (flCells l)) :
  FlR w W4 base D ap d A c M k mk free l base' AL cL (j + 1) (tell ⟨setMk v' mk { m with last:=f.price },d1.ev⟩ ⟨3,0,mk,0,0,0,f⟩) vE4 xs4 ys4:=by
 have hat:mkAt v' mk=m:=getD_some hm
 rw [hat] at he
 refine ⟨hd,hL,hF,?_,he.symm,?_,ho⟩
 ·show AOk (v'.mks.set mk _).length v'.accs
  rw [List.length_set,ht.mks];exact ht.accs
 ·show (d1.ev ++ [_]).length=_
  rw [List.length_append,hr.len];simp only [List.length_cons,List.length_nil];omega
set_option maxHeartbeats 4000000 in
set_option maxRecDepth 100000 in
theorem fills_dk (base D:Nat) (ap:Bool) (d:Dk) (A:Option Addr) (c:Nat) (M:Option Addr) (k:Nat) (vE:Value) (xs ys:List Value) (mk:Nat) (free:Bool) (l:List Fl) (base':Nat) (AL:Option Addr) (cL:Nat) (w:World)
  (h:Desk w base D ap d A c M k vE xs ys) (hb:base ≤ w.heap.size) (ha:AOk d.v.mks.length d.v.accs) (hl:d.ev.length + l.length ≤ 900000) (hf:∀ f ∈ l,FlDk f)
  (ho:w.ownsRow base' 87 7 (.slice AL l.length cL) l.length (flCells l)) :
  Calls Try.prog 189 #[.pointer (some ⟨D,0,none⟩),.int .i64 mk,.slice AL l.length cL,.bool free] w
   (RetDk w base D ap A c M k [174,124] (D :: (ab A ++ ab M)) (fillsE mk free l d)):=by
 have HF:=Lib.hid hf
 have HR0:=Lib.hid (show FlR w w base D ap d A c M k mk free l base' AL cL 0 d vE xs ys from ⟨h,Below.refl _ _,Fr.refl _ _ _,ha,rfl,rfl,ho⟩)
 clear h ha hf ho
 rcases bool_cs' free with rfl | rfl
 ·skip
  go_enter Try.func189,Try.ntmps189
  go_wp2_with fail
  go_loopw [15] (fun i wr=>∃ (j:Nat) (d1:Dk) (vE1:Value) (xs1 ys1:List Value),j ≤ l.length∧i=.int .i64 j∧Hid (FlR w wr base D ap d A c M k mk true l base' AL cL j d1 vE1 xs1 ys1)) (fun i _=>l.length - (intOf i).toNat)
  case atStart=>exact ⟨0,d,vE,xs,ys,by omega,rfl,HR0⟩
  case round =>
   obtain ⟨j,d1,vE1,xs1,ys1,hj,rfl,HR⟩:=hrel
   have hDl:=HR.out.desk.lt
   have hbr:base ≤ wr.heap.size:=Nat.le_trans hb HR.out.fr.size
   by_cases hlt:j < l.length
   ·obtain ⟨bb,oo,f,rfl,hbB,hx,k0,k1,k2,k3,k4,k5,k6⟩:=fl_at (Rd.of_own HR.out.own) hlt
    have hfok:=HF.out f (List.mem_of_getElem? hx)
    obtain ⟨ht,hm,hq1,hq2⟩:=hfok
    have HT:=Lib.hid ht
    have HM:=Lib.hid hm
    have HX:=Lib.hid hx
    obtain ⟨fee,fe,hfee⟩:∃ fee fe,feeOf f.qty f.price=(fee,fe):=⟨_,_,rfl⟩
    have hst:=fills_step (mk:=mk) (free:=true) (d:=d1) hx
    rw [HR.out.eq,hfee] at hst
    have HST:=Lib.hid (show fillsE mk true l d=bindE (tradeE d1.v mk f.tacc f.macc (f.side * f.qty) f.price 0) _ from hst)
    have HFE:=Lib.hid hfee
    clear ht hm hx hst hfee
    go_wp2_with fail
    skip
    refine calls_name ?_
    intro W1 hW1
    have hB1:Below wr.heap.size wr W1:=by rw [hW1];exact (Below.refl _ _).alloc (Nat.le_refl _) _
    have hs1:W1.heap.size=wr.heap.size + 1:=by rw [hW1];simp
    have X1:Blk W1 wr.heap.size 87 #[.int .i64 f.maker,.int .i64 f.taker,.int .i64 f.macc,.int .i64 f.tacc,.int .i64 f.side,.int .i64 f.price,.int .i64 f.qty]:=by rw [hW1];exact Blk.new wr _ _
    have HD1:=Lib.hid (HR.out.desk.below hB1)
    have HL1:=Lib.hid (HR.out.low.trans (hB1.mono hbr))
    have HF1:=Lib.hid (HR.out.fr.below hB1)
    have HO1:=Lib.hid (own_below HR.out.own hB1 (Nat.le_refl _))
    clear hW1 hB1 k0 k1 k2 k3 k4 k5 k6
    refine (trade_dk base D ap d1 A c M k vE1 xs1 ys1 mk f.tacc f.macc (f.side * f.qty) f.price 0 W1 HD1.out (by omega) HR.out.ok HT.out HM.out (by omega)).mono ?_
    intro e W2 hret
    cases htr:tradeE d1.v mk f.tacc f.macc (f.side * f.qty) f.price 0 with
    | error n =>
     have HE:=Lib.hid (show fillsE mk true l d=.error n by rw [HST.out,htr];rfl)
     rw [htr] at hret
     obtain ⟨hn,rfl,hL2⟩:=hret
     have hn':(n != 0)=true:=by simpa using hn
     have HN:=Lib.hid hn
     clear htr hn
     go_wp2_with fail
     go_ret
     exact retDk_err HE.out HN.out (HL1.out.trans hL2)
    | ok v' =>
     have HE:=Lib.hid (show fillsE mk true l d=fillsE mk true (l.drop (j + 1)) (tell ⟨setMk v' mk { mkAt v' mk with last:=f.price },d1.ev⟩ ⟨3,0,mk,0,0,0,f⟩) by rw [HST.out,htr];rfl)
     have HTS:=Lib.hid (trade_step HR.out.ok htr)
     rw [htr] at hret
     obtain ⟨rfl,⟨vE2,xs2,ys2,hd2⟩,hL2,hF2⟩:=hret
     have HD2:=Lib.hid hd2
     have HL2:=Lib.hid (HL1.out.trans hL2)
     have HF2:=Lib.hid (HF1.out.trans (hF2.mono (by simp) mem_dA))
     have HO2:=Lib.hid (hF2.own HO1.out (by simp) (fun g hg h=>desk_far HD1.out HO1.out (by decide) (by decide) (by decide) g hg (mem_dA g h)))
     have X2:=X1.fr hF2 (by simp) (fun h=>desk_far_blk HD1.out X1 (by decide) (by decide) (by decide) (mem_dA _ h))
     clear htr hd2 hL2 hF2 X1
     obtain ⟨m,hm⟩:∃ m,v'.mks[mk]?=some m:=⟨_,List.getElem?_eq_getElem (by rw [HTS.out.mks];exact HTS.out.mkLt)⟩
     have HMM:=Lib.hid hm
     obtain ⟨⟨-,k1,-⟩,-⟩:=HD2.out.blk.c8
     obtain ⟨g,A2,c2,A3,c3,rfl,hg1,hg2,hin,⟨cs,hgB⟩,⟨q0,q1,q2,q3⟩,⟨r0,r1,r2,r3⟩,-⟩:=omk_at HD2.out.mks hm
     have HG:=Lib.hid hgB
     have hi0:(0:Int) ≤ (mk:Int):=by omega
     have hi1:(mk:Int) < (v'.mks.length:Int):=by have:mk < v'.mks.length:=hin;omega
     have x5:=X2.cell 5
     have y1:D < W2.heap.size:=HD2.out.lt
     have y2:=X2.lt
     clear hm hgB
     go_wp2_with fail
     go_region
     refine exit_name ?_
     intro Z hZ
     obtain ⟨ys3,hd3⟩:=desk_num HD2.out (a:=m) (a':={ m with last:=f.price }) HMM.out rfl (.inr ⟨rfl,rfl,rfl⟩) HG.out (.inl hZ)
     have HD3:=Lib.hid hd3
     have hF3:Fr [174,124] (D :: (ab A ++ ab (some ⟨g,0,none⟩))) W2 Z:=by rw [hZ];exact ((Fr.refl _ _ _).set HG.out (.inr (by simp [ab])) _ _).drewN 1
     have HL3:=Lib.hid (show Below base w Z by rw [hZ];exact below_drewN (HL2.out.setCell hg1 _) 1)
     have X3:=X2.fr hF3 (by simp) (desk_far_blk HD2.out X2 (by decide) (by decide) (by decide))
     have HO3:=Lib.hid (hF3.own HO2.out (by simp) (desk_far HD2.out HO2.out (by decide) (by decide) (by decide)))
     have HF3:=Lib.hid (HF2.out.trans hF3)
     have hbZ:base ≤ Z.heap.size:=Nat.le_trans hb HF3.out.size
     have hlen1:d1.ev.length ≤ 1000000:=by have:=HR.out.len;omega
     clear hd3 hF3 hZ k1 q0 q1 q2 q3 r0 r1 r2 r3 x5 X2
     obtain ⟨⟨x0,x1,x2,x3,x4,x5,x6⟩,-⟩:=X3.c7
     go_wp2_with fail
     refine (tell_dk base D ap _ A c _ k vE2 xs2 ys3 ⟨3,0,mk,0,0,0,f⟩ Z HD3.out hbZ hlen1).mono ?_
     rintro e W4 ⟨rfl,⟨vE4,hd4⟩,hL4,hK4⟩
     have HN:=Lib.hid (flr_next HR.out HTS.out HMM.out HE.out hd4 (HL3.out.trans hL4) (HF3.out.trans (hK4.fr _)) ((hK4.fr _).own HO3.out (by decide) (desk_far HD3.out HO3.out (by decide) (by decide) (by decide))))
     clear hd4 hL4 hK4 x0 x1 x2 x3 x4 x5 x6 X3
     go_wp2_with fail
     go_roundw
     case rel=>exact ⟨j + 1,_,_,_,_,by omega,by go_num,HN⟩
     case measure=>simp [intOf];omega
   ·obtain rfl:j=l.length:=by omega
    go_wp2_with fail
    go_ret
    exact retDk_ok (d':=d1) (by rw [← HR.out.eq,List.drop_length];rfl) HR.out.desk HR.out.low HR.out.fr
 ·skip
  go_enter Try.func189,Try.ntmps189
  go_wp2_with fail
  go_loopw [15] (fun i wr=>∃ (j:Nat) (d1:Dk) (vE1:Value) (xs1 ys1:List Value),j ≤ l.length∧i=.int .i64 j∧Hid (FlR w wr base D ap d A c M k mk false l base' AL cL j d1 vE1 xs1 ys1)) (fun i _=>l.length - (intOf i).toNat)
  case atStart=>exact ⟨0,d,vE,xs,ys,by omega,rfl,HR0⟩
  case round =>
   obtain ⟨j,d1,vE1,xs1,ys1,hj,rfl,HR⟩:=hrel
   have hDl:=HR.out.desk.lt
   have hbr:base ≤ wr.heap.size:=Nat.le_trans hb HR.out.fr.size
   by_cases hlt:j < l.length
   ·obtain ⟨bb,oo,f,rfl,hbB,hx,k0,k1,k2,k3,k4,k5,k6⟩:=fl_at (Rd.of_own HR.out.own) hlt
    have hfok:=HF.out f (List.mem_of_getElem? hx)
    obtain ⟨ht,hm,hq1,hq2⟩:=hfok
    have HT:=Lib.hid ht
    have HM:=Lib.hid hm
    have HX:=Lib.hid hx
    obtain ⟨fee,fe,hfee⟩:∃ fee fe,feeOf f.qty f.price=(fee,fe):=⟨_,_,rfl⟩
    have hst:=fills_step (mk:=mk) (free:=false) (d:=d1) hx
    rw [HR.out.eq,hfee] at hst
    have HST:=Lib.hid (show fillsE mk false l d=bindE (tradeE d1.v mk f.tacc f.macc (f.side * f.qty) f.price fee) _ from hst)
    have HFE:=Lib.hid hfee
    clear ht hm hx hst hfee
    go_wp2_with fail
    (refine (fee_any _ _ _).mono ?_;rintro e w' ⟨rfl,rfl⟩;rw [HFE.out];go_wp2_with fail)
    refine calls_name ?_
    intro W1 hW1
    have hB1:Below wr.heap.size wr W1:=by rw [hW1];exact (Below.refl _ _).alloc (Nat.le_refl _) _
    have hs1:W1.heap.size=wr.heap.size + 1:=by rw [hW1];simp
    have X1:Blk W1 wr.heap.size 87 #[.int .i64 f.maker,.int .i64 f.taker,.int .i64 f.macc,.int .i64 f.tacc,.int .i64 f.side,.int .i64 f.price,.int .i64 f.qty]:=by rw [hW1];exact Blk.new wr _ _
    have HD1:=Lib.hid (HR.out.desk.below hB1)
    have HL1:=Lib.hid (HR.out.low.trans (hB1.mono hbr))
    have HF1:=Lib.hid (HR.out.fr.below hB1)
    have HO1:=Lib.hid (own_below HR.out.own hB1 (Nat.le_refl _))
    clear hW1 hB1 k0 k1 k2 k3 k4 k5 k6
    refine (trade_dk base D ap d1 A c M k vE1 xs1 ys1 mk f.tacc f.macc (f.side * f.qty) f.price fee W1 HD1.out (by omega) HR.out.ok HT.out HM.out (by omega)).mono ?_
    intro e W2 hret
    cases htr:tradeE d1.v mk f.tacc f.macc (f.side * f.qty) f.price fee with
    | error n =>
     have HE:=Lib.hid (show fillsE mk false l d=.error n by rw [HST.out,htr];rfl)
     rw [htr] at hret
     obtain ⟨hn,rfl,hL2⟩:=hret
     have hn':(n != 0)=true:=by simpa using hn
     have HN:=Lib.hid hn
     clear htr hn
     go_wp2_with fail
     go_ret
     exact retDk_err HE.out HN.out (HL1.out.trans hL2)
    | ok v' =>
     have HE:=Lib.hid (show fillsE mk false l d=fillsE mk false (l.drop (j + 1)) (tell ⟨setMk v' mk { mkAt v' mk with last:=f.price },d1.ev⟩ ⟨3,0,mk,0,0,0,f⟩) by rw [HST.out,htr];rfl)
     have HTS:=Lib.hid (trade_step HR.out.ok htr)
     rw [htr] at hret
     obtain ⟨rfl,⟨vE2,xs2,ys2,hd2⟩,hL2,hF2⟩:=hret
     have HD2:=Lib.hid hd2
     have HL2:=Lib.hid (HL1.out.trans hL2)
     have HF2:=Lib.hid (HF1.out.trans (hF2.mono (by simp) mem_dA))
     have HO2:=Lib.hid (hF2.own HO1.out (by simp) (fun g hg h=>desk_far HD1.out HO1.out (by decide) (by decide) (by decide) g hg (mem_dA g h)))
     have X2:=X1.fr hF2 (by simp) (fun h=>desk_far_blk HD1.out X1 (by decide) (by decide) (by decide) (mem_dA _ h))
     clear htr hd2 hL2 hF2 X1
     obtain ⟨m,hm⟩:∃ m,v'.mks[mk]?=some m:=⟨_,List.getElem?_eq_getElem (by rw [HTS.out.mks];exact HTS.out.mkLt)⟩
     have HMM:=Lib.hid hm
     obtain ⟨⟨-,k1,-⟩,-⟩:=HD2.out.blk.c8
     obtain ⟨g,A2,c2,A3,c3,rfl,hg1,hg2,hin,⟨cs,hgB⟩,⟨q0,q1,q2,q3⟩,⟨r0,r1,r2,r3⟩,-⟩:=omk_at HD2.out.mks hm
     have HG:=Lib.hid hgB
     have hi0:(0:Int) ≤ (mk:Int):=by omega
     have hi1:(mk:Int) < (v'.mks.length:Int):=by have:mk < v'.mks.length:=hin;omega
     have x5:=X2.cell 5
     have y1:D < W2.heap.size:=HD2.out.lt
     have y2:=X2.lt
     clear hm hgB
     go_wp2_with fail
     go_region
     refine exit_name ?_
     intro Z hZ
     obtain ⟨ys3,hd3⟩:=desk_num HD2.out (a:=m) (a':={ m with last:=f.price }) HMM.out rfl (.inr ⟨rfl,rfl,rfl⟩) HG.out (.inl hZ)
     have HD3:=Lib.hid hd3
     have hF3:Fr [174,124] (D :: (ab A ++ ab (some ⟨g,0,none⟩))) W2 Z:=by rw [hZ];exact ((Fr.refl _ _ _).set HG.out (.inr (by simp [ab])) _ _).drewN 1
     have HL3:=Lib.hid (show Below base w Z by rw [hZ];exact below_drewN (HL2.out.setCell hg1 _) 1)
     have X3:=X2.fr hF3 (by simp) (desk_far_blk HD2.out X2 (by decide) (by decide) (by decide))
     have HO3:=Lib.hid (hF3.own HO2.out (by simp) (desk_far HD2.out HO2.out (by decide) (by decide) (by decide)))
     have HF3:=Lib.hid (HF2.out.trans hF3)
     have hbZ:base ≤ Z.heap.size:=Nat.le_trans hb HF3.out.size
     have hlen1:d1.ev.length ≤ 1000000:=by have:=HR.out.len;omega
     clear hd3 hF3 hZ k1 q0 q1 q2 q3 r0 r1 r2 r3 x5 X2
     obtain ⟨⟨x0,x1,x2,x3,x4,x5,x6⟩,-⟩:=X3.c7
     go_wp2_with fail
     refine (tell_dk base D ap _ A c _ k vE2 xs2 ys3 ⟨3,0,mk,0,0,0,f⟩ Z HD3.out hbZ hlen1).mono ?_
     rintro e W4 ⟨rfl,⟨vE4,hd4⟩,hL4,hK4⟩
     have HN:=Lib.hid (flr_next HR.out HTS.out HMM.out HE.out hd4 (HL3.out.trans hL4) (HF3.out.trans (hK4.fr _)) ((hK4.fr _).own HO3.out (by decide) (desk_far HD3.out HO3.out (by decide) (by decide) (by decide))))
     clear hd4 hL4 hK4 x0 x1 x2 x3 x4 x5 x6 X3
     go_wp2_with fail
     go_roundw
     case rel=>exact ⟨j + 1,_,_,_,_,by omega,by go_num,HN⟩
     case measure=>simp [intOf];omega
   ·obtain rfl:j=l.length:=by omega
    go_wp2_with fail
    go_ret
    exact retDk_ok (d':=d1) (by rw [← HR.out.eq,List.drop_length];rfl) HR.out.desk HR.out.low HR.out.fr
end
section
open Go.RowKit
theorem tdiv_facts {r q t:Int} (ht:r.tdiv q=t) (hr:-2000000000000 ≤ r∧r ≤ 2000000000000) :
  (-2000000000000 ≤ t∧t ≤ 2000000000000)∧(-2000000000000 ≤ q * t∧q * t ≤ 2000000000000)∧bankP r q=if r - q * t < 0 then (if 0 < q then -t + 1 else -t - 1) else -t:=by
 subst ht
 have e3:(r.tdiv q).natAbs ≤ r.natAbs:=by rw [Int.natAbs_tdiv];exact Nat.div_le_self _ _
 have e4:(q * r.tdiv q).natAbs ≤ r.natAbs:=by
  rw [Int.natAbs_mul,Int.natAbs_tdiv]
  exact Nat.mul_div_le _ _
 refine ⟨by omega,by omega,?_⟩
 unfold bankP
 rw [Int.neg_tdiv,Int.mul_neg,← Int.sub_eq_add_neg]
set_option maxHeartbeats 2000000 in
theorem bankrupt_any (a:Ac) (A A':Option Addr) (c n' c':Nat) (marks:List Int) (market:Int) (B B':Nat) (w:World) (h:Rd w B 1 A a.pos.length c (ints a.pos)) (hB:B ≤ w.heap.size) (h':Rd w B' 1 A' n' c' (ints marks)) (hB':B' ≤ w.heap.size) :
  Calls Try.prog 60 #[.agg #[.int .i64 a.id,.int .i64 a.bal,.slice A a.pos.length c],.slice A' n' c',.int .i64 market] w fun e w' =>
   e=.returned (.tuple #[.int .i64 (bankruptOf a marks market).1,.int .i64 (bankruptOf a marks market).2])∧Below w.heap.size w w':=by
 obtain ⟨n,en,hn⟩:∃ n en,equityOf a marks=(n,en):=⟨_,_,rfl⟩
 have HN:=Lib.hid hn
 have HML:=Lib.hid h'.ofInts
 have HS:=Lib.hid (show bankruptOf a marks market=if en ≠ 0 then (0,en) else if market < 0∨(n':Int) ≤ market then (0,5) else if a.pos.getD market.toNat 0=0 then (0,12)
   else (max 1 (min (bankP (n - a.pos.getD market.toNat 0 * marks.getD market.toNat 0) (a.pos.getD market.toNat 0)) 10000),0) by unfold bankruptOf;rw [hn,HML.out])
 clear hn
 go_enter Try.func60,Try.ntmps60
 go_wp2_with fail
 refine (equity_any a _ _ _ _ _ marks _ _ _ (h.alloc hB _) (by simp;omega) (h'.alloc hB' _) (by simp;omega)).mono ?_
 rw [HN.out]
 rintro e w1 ⟨rfl,hb1⟩
 have B1:=(Blk.new w 37 #[.int .i64 a.id,.int .i64 a.bal,.slice A a.pos.length c]).below hb1 (by simp)
 have hw1:w.heap.size < w1.heap.size:=by have:=hb1.size;simp at this;omega
 have h9:Below w.heap.size w w1:=((Below.refl _ _).alloc (Nat.le_refl _) _).trans (hb1.mono (by simp))
 have ra:=h.below (h9.mono hB)
 have rm:=h'.below (h9.mono hB')
 clear hb1
 by_cases hen:en=0
 ·subst hen
  have HS2:=Lib.hid (HS.out.trans (if_neg (by simp)))
  by_cases hmk:market < 0∨(n':Int) ≤ market
  ·have HE:=Lib.hid (HS2.out.trans (if_pos hmk))
   rcases hmk with hmk | hmk
   all_goals
    go_wp2_with fail
    go_ret2
    exact ⟨pair_ii (by rw [HE.out]),h9⟩
  ·have HS3:=Lib.hid (HS2.out.trans (if_neg hmk))
   obtain ⟨k,rfl⟩:∃ k:Nat,market=k:=⟨market.toNat,by omega⟩
   rw [Int.toNat_natCast] at HS3
   obtain ⟨k1,k2,k3,k4⟩:=equity_ok HN.out
   obtain ⟨g1,g2,g3,g4,g5⟩:=accCheck_ok k1
   have hkn:k < n':=by omega
   have hml:=HML.out
   have hkp:k < a.pos.length:=by omega
   obtain ⟨b,o,rfl,hb,q,hq,hc⟩:=ra.int hkp
   obtain ⟨b',o',rfl,hb',mk,hm,hc'⟩:=rm.int hkn
   have hq1:=posOk_get g5 hq
   have hm1:=k4 mk (List.mem_of_getElem? hm)
   have e1:a.pos.getD k 0=q:=by simp [List.getD,hq]
   have e2:marks.getD k 0=mk:=by simp [List.getD,hm]
   rw [e1,e2] at HS3
   have hn2:=isMoney_iff.1 k3
   have hkn2:(k:Int) < (n':Int):=by omega
   have hkp2:(k:Int) < (a.pos.length:Int):=by omega
   obtain ⟨⟨b0,b1,b2⟩,_⟩:=B1.c3
   clear hmk hq hm e1 e2 k1 k2 k3 k4 g1 g2 g3 g4 g5 hml
   by_cases hq0:q=0
   ·have HE:=Lib.hid (HS3.out.trans (if_pos hq0))
    subst hq0
    go_wp2_with fail
    go_ret2
    exact ⟨pair_ii (by rw [HE.out]),h9⟩
   ·have HS4:=Lib.hid (HS3.out.trans (if_neg hq0))
    obtain ⟨w1',w2'⟩:=worth_bd hq1.1 hq1.2 hm1.1 hm1.2
    obtain ⟨r,hr⟩:∃ r,r=n - q * mk:=⟨_,rfl⟩
    have hrb:-2000000000000 ≤ n - q * mk∧n - q * mk ≤ 2000000000000:=by omega
    have HR:=Lib.hid hr
    obtain ⟨t,ht⟩:∃ t,(n - q * mk).tdiv q=t:=⟨_,rfl⟩
    obtain ⟨⟨t1,t2⟩,⟨t3,t4⟩,ht5⟩:=tdiv_facts ht hrb
    rw [ht5] at HS4
    have hq2:(q == 0)=false:=by simpa using hq0
    obtain ⟨hq3,hq4⟩:=hq1
    obtain ⟨hr1,hr2⟩:=hrb
    obtain ⟨hn3,hn4⟩:=hn2
    have hqt:q * -t = -(q * t):=Int.mul_neg q t
    clear hr ht5
    by_cases hneg:n - q * mk - q * t < 0
    ·have hneg2:n - q * mk + -(q * t) < 0:=by omega
     by_cases hqp:0 < q
     ·have HE:=Lib.hid (HS4.out.trans (by rw [if_pos hneg,if_pos hqp]))
      go_wp2_with fail
      all_goals (go_ret2;exact ⟨pair_ii (by rw [HE.out];congr 1;omega),h9⟩)
     ·have HE:=Lib.hid (HS4.out.trans (by rw [if_pos hneg,if_neg hqp]))
      have hqn:q ≤ 0:=by omega
      go_wp2_with fail
      all_goals (go_ret2;exact ⟨pair_ii (by rw [HE.out];congr 1;omega),h9⟩)
    ·have HE:=Lib.hid (HS4.out.trans (by rw [if_neg hneg]))
     have hneg2:0 ≤ n - q * mk + -(q * t):=by omega
     have hneg3:0 ≤ n - q * mk - q * t:=by omega
     clear hneg
     go_wp2_with fail
     all_goals (go_ret2;exact ⟨pair_ii (by rw [HE.out];congr 1;omega),h9⟩)
 ·have HS2:=Lib.hid (HS.out.trans (if_pos hen))
  have hen1:(en != 0)=true:=by simpa using hen
  clear hen
  go_wp2_with fail
  go_ret2
  exact ⟨pair_ii (by rw [HS2.out]),h9⟩
end
end Go.Proofs.Ytockodmbhnlheaa
