/-
  THE LAW MatchSays: holds for every input, with no condition. (Joined texts: RCame, FlEq.)
-/
import Derived.Test.YtockodmbhnlheaaMatchSaysP
import Derived.Test.YtockodmbhnlheaaMatchSaysI
import Derived.Test.YtockodmbhnlheaaProg
import Derived.Test.YtockodmbhnlheaaMatchSaysA
import Derived.Maps.AppendAt
import Derived.Laws.AppendOwnNone
import Derived.OwnWalk
import Derived.Test.YtockodmbhnlheaaMatchSaysC
import Derived.Deep.RegionHeld3
import Derived.Test.YtockodmbhnlheaaMatchSaysB
import Derived.Lib.AppendZeros
import Derived.Test.YtockodmbhnlheaaMatchSaysG
import Derived.Test.YtockodmbhnlheaaMatchSaysH
import Derived.Test.YtockodmbhnlheaaMatchSaysF
import Derived.Test.YtockodmbhnlheaaMatchSaysE
import Derived.Laws.CopyOwn
import Derived.Lib.AppendZerosOnto
import Derived.Lib.Overlaps
import Derived.Laws.Externs
import Derived.Deep.RegionLaw
import Derived.Test.YtockodmbhnlheaaMatchSaysM
import Derived.Maps.Own
import Derived.Maps.OwnOps
import Derived.Maps.Views
import Derived.WalkKit
import Derived.Deep.Draws
import Derived.IntWalk
import Derived.Deep.DeepCutAuto
import Derived.Deep.Cut
import Derived.Test.YtockodmbhnlheaaMatchSaysN
import Derived.Test.YtockodmbhnlheaaMatchSaysD
import Derived.Test.YtockodmbhnlheaaMatchSaysO
import Derived.Test.YtockodmbhnlheaaMatchSaysK
import Derived.Shelf.SlSortFuncK.SWK
import Derived.Lib.Hide
import Derived.Test.YtockodmbhnlheaaMatchSaysL
import Derived.Test.YtockodmbhnlheaaMatchSaysJ
import Derived.Shelf.GgSortFunc.SmallK
import Derived.Shelf.GgSortMore.Stable
import Derived.Deep.QuietTactic
import Derived.BigQuiet
import Derived.WalkSpells
import Derived.WalkLawsBesides
import Derived.Sort.WalkA
import Derived.Sort.LotA
namespace Go.Proofs.Ytockodmbhnlheaa
section
open Go.RowKit
set_option maxHeartbeats 400000 in
theorem rfail_any (n:Int) (w:World) :
  Calls Try.prog 151 #[.int .i64 n] w fun e w'=>e=.returned (.tuple #[.agg #[.slice none 0 0,.slice none 0 0],.slice none 0 0,.int .i64 0,.int .i64 n])∧Below w.heap.size w w':=by
 go_enter Try.func151,Try.ntmps151
 go_wp2_with fail
 refine bodyPost_ret (v:=.tuple #[.agg #[.slice none 0 0,.slice none 0 0],.slice none 0 0,.int .i64 0,.int .i64 n]) (by simp [results,Try.results151,go_sem]) rfl ⟨rfl,?_⟩
 first | exact (Below.refl _ _).alloc (Nat.le_refl _) _ | exact (((Below.refl _ _).alloc (Nat.le_refl _) _).setCell (Nat.le_refl _) _).setCell (Nat.le_refl _) _
theorem take_err {b:Bk} (o:Od) (hb:BookOk b):(takeOf b o).2.2.2.2=ordErr o:=by
 unfold takeOf
 rw [if_neg (by have:=bookErr_ok.2 hb;omega)]
 split
 ·rfl
 ·rename_i h;exact (Classical.not_not.1 h).symm
set_option maxHeartbeats 8000000 in
set_option maxRecDepth 100000 in
theorem rcame_any (b:Bk) (o:Od) (how:Int) (A A':Option Addr) (c c' B:Nat) (w:World) (h:BkR w B A A' c c' b) (hB:B ≤ w.heap.size) (hbk:BookOk b) :
  Calls Try.prog 94 #[.agg #[.slice A b.bids.length c,.slice A' b.asks.length c'],.agg #[.int .i64 o.id,.int .i64 o.acc,.int .i64 o.side,.int .i64 o.price,.int .i64 o.qty],.int .i64 how] w (RetCome w (comeOf b o how)):=by
 have hlen:=hbk.len
 obtain ⟨tx,tl,tleft,tmet,te,htake⟩:=take_tup b o
 have hte:te=ordErr o:=by have:=take_err o hbk;rw [htake] at this;exact this
 have HTK:=Lib.hid htake
 have HE:=Lib.hid (show comeOf b o how=if hasB b o.id then (zeroBk,[],0,6) else if how < 1∨4 < how then (zeroBk,[],0,4)
  else if te ≠ 0 then (zeroBk,[],0,te) else if how=4∧(tl ≠ []∨tmet=true) then (zeroBk,[],0,9) else if tmet then (zeroBk,[],0,11) else if how=3∧0 < tleft then (zeroBk,[],0,10)
  else if tleft=0∨how=2 then (tx,tl,tleft,0) else if (restOf tx { o with qty:=tleft }).2 ≠ 0 then (zeroBk,[],0,(restOf tx { o with qty:=tleft }).2) else ((restOf tx { o with qty:=tleft }).1,tl,0,0) by unfold comeOf;rw [htake,if_neg (by have:=bookErr_ok.2 hbk;omega)])
 have HH:=Lib.hid (found_has hbk o.id)
 have HBK:=Lib.hid hbk
 clear htake hbk
 go_enter Try.func94,Try.ntmps94
 go_wp2_with fail
 obtain ⟨w2,hw2⟩:∃ x,x=((w.alloc (.cells #[.slice A b.bids.length c,.slice A' b.asks.length c'] 62)).alloc (.cells #[.int .i64 o.id,.int .i64 o.acc,.int .i64 o.side,.int .i64 o.price,.int .i64 o.qty] 71)).alloc (.cells #[.slice none 0 0,.slice none 0 0] 62):=⟨_,rfl⟩
 have hb2:Below w.heap.size w w2:=by rw [hw2];exact (((Below.refl _ _).alloc (Nat.le_refl _) _).alloc (by simp) _).alloc (by simp;omega) _
 have hs2:w2.heap.size=w.heap.size + 1 + 1 + 1:=by rw [hw2];simp
 have X1:Blk w2 w.heap.size 62 #[.slice A b.bids.length c,.slice A' b.asks.length c']:=by rw [hw2];exact ((Blk.new w _ _).alloc _).alloc _
 have X2:Blk w2 (w.heap.size + 1) 71 #[.int .i64 o.id,.int .i64 o.acc,.int .i64 o.side,.int .i64 o.price,.int .i64 o.qty]:=by rw [hw2];exact (Blk.new_at _ _ _ _ (by simp)).alloc _
 have X3:Blk w2 (w.heap.size + 1 + 1) 62 #[.slice none 0 0,.slice none 0 0]:=by rw [hw2];exact Blk.new_at _ _ _ _ (by simp)
 rw [← hw2]
 have hr:=h.below (hb2.mono hB)
 clear hw2
 have h22:Below w2.heap.size w2 w2:=Below.refl _ _
 have KS:Hid (∀ W,Below w2.heap.size w2 W→Below w2.heap.size w2 W∧(W.cell? ⟨w.heap.size,0,none⟩=some (.slice A b.bids.length c)∧W.cell? ⟨w.heap.size,1,none⟩=some (.slice A' b.asks.length c'))∧(W.cell? ⟨w.heap.size + 1,0,none⟩=some (.int .i64 o.id)∧W.cell? ⟨w.heap.size + 1,1,none⟩=some (.int .i64 o.acc)∧W.cell? ⟨w.heap.size + 1,2,none⟩=some (.int .i64 o.side)∧W.cell? ⟨w.heap.size + 1,3,none⟩=some (.int .i64 o.price)∧W.cell? ⟨w.heap.size + 1,4,none⟩=some (.int .i64 o.qty))):=by
  intro W hW
  exact ⟨hW,(X1.below hW X1.lt).c2.1,(X2.below hW X2.lt).c5.1⟩
 have HR:=Lib.hid hr
 obtain ⟨F,hF⟩:∃ F,F=foundO (b.bids ++ b.asks) o.id:=⟨_,rfl⟩
 rw [← hF] at HH
 have HF:=Lib.hid hF
 obtain ⟨⟨kX10,kX11⟩,-⟩:=X1.c2
 obtain ⟨⟨kX20,kX21,kX22,kX23,kX24⟩,-⟩:=X2.c5
 obtain ⟨⟨kX30,kX31⟩,fX30,fX31⟩:=X3.c2
 clear hF
 go_cut [29] (fun v wx=>v=.bool (hasB b o.id)∧Below w2.heap.size w2 wx)
 case first =>
  by_cases h0:o.id=0
  ·have h0':(o.id != 0)=false:=by simpa using h0
   have HV:=Lib.hid (show hasB b o.id=false by rw [← HH.out];simp [h0])
   clear h0
   go_quiet (fail)
   go_wp2_with fail
   go_meet
   exact ⟨by rw [HV.out],below_drewN h22 _⟩
  ·have h0':(o.id != 0)=true:=by simpa using h0
   have HV:=Lib.hid (show (F.id == o.id)=hasB b o.id by rw [← HH.out,decide_eq_true h0,Bool.true_and];rfl)
   have hfld:=run_field_id F
   clear h0
   have HRD:Hid (BkR w2.drew B A A' c c' b):=Lib.hid (HR.out.below ((below_drew h22).mono (by omega)))
   go_region_with (go_at_call 90;(with_reducible refine (rfound_any b o.id A A' c c' B w2.drew HRD.out (by simp;omega) (by omega)).mono ?_);rintro e W' ⟨rfl,hb⟩;have hB2:=below_next hb (below_drew h22);rw [← HF.out];obtain ⟨-,⟨m0,m1⟩,n0,n1,n2,n3,n4⟩:=KS.out _ hB2)
   all_goals
    go_wp2_with fail
    go_meet
    exact ⟨by rw [← HV.out],by assumption⟩
 case rest =>
  obtain ⟨rfl,hbc⟩:=hcut
  obtain ⟨w3,rfl⟩:∃ x,x=wc:=⟨wc,rfl⟩
  have hs3:=hbc.size
  clear kX10 kX11
  replace X1:=X1.below hbc X1.lt
  obtain ⟨⟨kX10,kX11⟩,-⟩:=X1.c2
  clear kX20 kX21 kX22 kX23 kX24
  replace X2:=X2.below hbc X2.lt
  obtain ⟨⟨kX20,kX21,kX22,kX23,kX24⟩,-⟩:=X2.c5
  clear kX30 kX31 fX30 fX31
  replace X3:=X3.below hbc X3.lt
  obtain ⟨⟨kX30,kX31⟩,fX30,fX31⟩:=X3.c2
  have hbw:=hb2.trans (hbc.mono (by omega))
  replace hr:=HR.out.below (hbc.mono (by omega))
  clear KS HR HF HH h22 hbc hb2 F
  rcases (bool_cs (hasB b o.id)).symm with hh | hh
  ·have HE1:=Lib.hid (HE.out.trans (if_pos hh))
   rw [hh]
   clear hh HE
   go_wp2_with fail
   refine calls_name ?_
   intro wq hwq
   have Xq3:Blk wq (w.heap.size + 1 + 1) 62 #[.slice none 0 0,.slice none 0 0]:=by rw [hwq];first | exact X3 | exact X3.alloc _
   have hbq:Below w.heap.size w wq:=by rw [hwq];first | exact hbw | exact hbw.alloc (by omega) _
   have hsq:w3.heap.size ≤ wq.heap.size:=by rw [hwq];simp
   clear hwq kX30 kX31 fX30 fX31
   refine (rfail_any (6) wq).mono ?_
   rintro e wf ⟨rfl,hbf⟩
   have hsf:=hbf.size
   replace Xq3:=Xq3.below hbf Xq3.lt
   replace hbq:=hbq.trans (hbf.mono (by omega))
   obtain ⟨⟨kXq30,kXq31⟩,fXq30,fXq31⟩:=Xq3.c2
   clear hbf
   go_wp2_with fail
   refine post_name ?_
   intro Z hZ
   have XZ3:Blk Z (w.heap.size + 1 + 1) 62 #[.slice none 0 0,.slice none 0 0]:=by rw [hZ];exact (Xq3.set_ 0 _).set_ 1 _
   have hbZ:Below w.heap.size w Z:=by rw [hZ];exact (hbq.setCell (by dsimp only;omega) _).setCell (by dsimp only;omega) _
   clear hZ kXq30 kXq31 fXq30 fXq31
   obtain ⟨⟨kXZ30,kXZ31⟩,-⟩:=XZ3.c2
   refine bodyPost_ret (v:=.tuple #[.agg #[.slice none 0 0,.slice none 0 0],.slice none 0 0,.int .i64 0,.int .i64 (6)]) (by simp [results,Try.results94,go_sem, *]) rfl ?_
   exact retCome_mk (x:=zeroBk) (l:=[]) HE1.out rfl rfl (World.ownsRow_nil _ _ _ _) (World.ownsRow_nil _ _ _ _) rfl (World.ownsRow_nil _ _ _ _) hbZ
  have HE1:=Lib.hid (HE.out.trans (if_neg (by rw [hh];simp)))
  rw [hh]
  clear hh HE
  go_upto_region 4 with (fail)
  go_cut [41] (fun v wx=>v=.bool (decide (how < 1∨4 < how))∧w3=wx)
  case first =>
   by_cases h1:how < 1
   ·have HV:=Lib.hid (show decide (how < 1∨4 < how)=true from decide_eq_true (.inl h1))
    go_wp2_with fail
    go_meet
    exact ⟨by rw [HV.out],rfl⟩
   ·have HV:=Lib.hid (show decide (how < 1∨4 < how)=decide (4 < how) by congr 1;apply propext;omega)
    have h1':1 ≤ how:=by omega
    go_wp2_with fail
    go_meet
    exact ⟨by rw [HV.out],rfl⟩
  case rest =>
  obtain ⟨rfl,rfl⟩:=hcut
  by_cases hw:how < 1∨4 < how
  ·have HE2:=Lib.hid (HE1.out.trans (if_pos hw))
   rw [decide_eq_true hw]
   clear hw HE1
   go_wp2_with fail
   refine calls_name ?_
   intro wq hwq
   have Xq3:Blk wq (w.heap.size + 1 + 1) 62 #[.slice none 0 0,.slice none 0 0]:=by rw [hwq];first | exact X3 | exact X3.alloc _
   have hbq:Below w.heap.size w wq:=by rw [hwq];first | exact hbw | exact hbw.alloc (by omega) _
   have hsq:w3.heap.size ≤ wq.heap.size:=by rw [hwq];simp
   clear hwq kX30 kX31 fX30 fX31
   refine (rfail_any (4) wq).mono ?_
   rintro e wf ⟨rfl,hbf⟩
   have hsf:=hbf.size
   replace Xq3:=Xq3.below hbf Xq3.lt
   replace hbq:=hbq.trans (hbf.mono (by omega))
   obtain ⟨⟨kXq30,kXq31⟩,fXq30,fXq31⟩:=Xq3.c2
   clear hbf
   go_wp2_with fail
   refine post_name ?_
   intro Z hZ
   have XZ3:Blk Z (w.heap.size + 1 + 1) 62 #[.slice none 0 0,.slice none 0 0]:=by rw [hZ];exact (Xq3.set_ 0 _).set_ 1 _
   have hbZ:Below w.heap.size w Z:=by rw [hZ];exact (hbq.setCell (by dsimp only;omega) _).setCell (by dsimp only;omega) _
   clear hZ kXq30 kXq31 fXq30 fXq31
   obtain ⟨⟨kXZ30,kXZ31⟩,-⟩:=XZ3.c2
   refine bodyPost_ret (v:=.tuple #[.agg #[.slice none 0 0,.slice none 0 0],.slice none 0 0,.int .i64 0,.int .i64 (4)]) (by simp [results,Try.results94,go_sem, *]) rfl ?_
   exact retCome_mk (x:=zeroBk) (l:=[]) HE2.out rfl rfl (World.ownsRow_nil _ _ _ _) (World.ownsRow_nil _ _ _ _) rfl (World.ownsRow_nil _ _ _ _) hbZ
  have HE2:=Lib.hid (HE1.out.trans (if_neg hw))
  obtain ⟨hw1,hw2⟩:1 ≤ how∧how ≤ 4:=by omega
  rw [decide_eq_false hw]
  clear hw HE1
  go_wp2_with fail
  refine (rordErr_any o _).mono ?_
  rintro e w4 ⟨rfl,hb4⟩
  have hs4:=hb4.size
  clear kX10 kX11
  replace X1:=X1.below hb4 X1.lt
  obtain ⟨⟨kX10,kX11⟩,-⟩:=X1.c2
  clear kX20 kX21 kX22 kX23 kX24
  replace X2:=X2.below hb4 X2.lt
  obtain ⟨⟨kX20,kX21,kX22,kX23,kX24⟩,-⟩:=X2.c5
  clear kX30 kX31 fX30 fX31
  replace X3:=X3.below hb4 X3.lt
  obtain ⟨⟨kX30,kX31⟩,fX30,fX31⟩:=X3.c2
  replace hbw:=hbw.trans (hb4.mono (by omega))
  replace hr:=hr.below (hb4.mono (by omega))
  clear hb4
  by_cases he:ordErr o=0
  rotate_left
  ·have HE3:=Lib.hid (HE2.out.trans (if_pos (by rw [hte];exact he)))
   rw [hte] at HE3
   have he':(ordErr o != 0)=true:=by simpa using he
   clear he HE2 hte HTK
   go_wp2_with fail
   refine calls_name ?_
   intro wq hwq
   have Xq3:Blk wq (w.heap.size + 1 + 1) 62 #[.slice none 0 0,.slice none 0 0]:=by rw [hwq];first | exact X3 | exact X3.alloc _
   have hbq:Below w.heap.size w wq:=by rw [hwq];first | exact hbw | exact hbw.alloc (by omega) _
   have hsq:w4.heap.size ≤ wq.heap.size:=by rw [hwq];simp
   clear hwq kX30 kX31 fX30 fX31
   refine (rfail_any (ordErr o) wq).mono ?_
   rintro e wf ⟨rfl,hbf⟩
   have hsf:=hbf.size
   replace Xq3:=Xq3.below hbf Xq3.lt
   replace hbq:=hbq.trans (hbf.mono (by omega))
   obtain ⟨⟨kXq30,kXq31⟩,fXq30,fXq31⟩:=Xq3.c2
   clear hbf
   go_wp2_with fail
   refine post_name ?_
   intro Z hZ
   have XZ3:Blk Z (w.heap.size + 1 + 1) 62 #[.slice none 0 0,.slice none 0 0]:=by rw [hZ];exact (Xq3.set_ 0 _).set_ 1 _
   have hbZ:Below w.heap.size w Z:=by rw [hZ];exact (hbq.setCell (by dsimp only;omega) _).setCell (by dsimp only;omega) _
   clear hZ kXq30 kXq31 fXq30 fXq31
   obtain ⟨⟨kXZ30,kXZ31⟩,-⟩:=XZ3.c2
   refine bodyPost_ret (v:=.tuple #[.agg #[.slice none 0 0,.slice none 0 0],.slice none 0 0,.int .i64 0,.int .i64 (ordErr o)]) (by simp [results,Try.results94,go_sem, *]) rfl ?_
   exact retCome_mk (x:=zeroBk) (l:=[]) HE3.out rfl rfl (World.ownsRow_nil _ _ _ _) (World.ownsRow_nil _ _ _ _) rfl (World.ownsRow_nil _ _ _ _) hbZ
  have HE3:=Lib.hid (HE2.out.trans (if_neg (by omega)))
  rw [hte,he] at HTK
  have HO:=Lib.hid he
  rw [he]
  clear he HE2 hte
  have HTF:=Lib.hid (take_facts HTK.out)
  go_wp2_with fail
  refine (rtaken_any b o A A' c c' B w4 hr (by omega) HBK.out HO.out).mono ?_
  rw [HTK.out]
  rintro e w5 ⟨v,vf,rfl,hown,hrow,hb5⟩
  obtain ⟨P,p,P',p',rfl,hobk⟩:=hown.obk
  have hs5:=hb5.size
  replace X1:=X1.below hb5 X1.lt
  clear kX20 kX21 kX22 kX23 kX24
  replace X2:=X2.below hb5 X2.lt
  obtain ⟨⟨kX20,kX21,kX22,kX23,kX24⟩,-⟩:=X2.c5
  clear kX30 kX31 fX30 fX31
  replace X3:=X3.below hb5 X3.lt
  obtain ⟨⟨kX30,kX31⟩,fX30,fX31⟩:=X3.c2
  replace hbw:=hbw.trans (hb5.mono (by omega))
  clear hb5 hr kX10 kX11 hown
  have x2:w.heap.size + 1 < w5.heap.size:=by omega
  have x3':w.heap.size + 1 + 1 < w5.heap.size:=by omega
  obtain ⟨AF,cF,rfl⟩:=own_shape hrow
  have HOB:=Lib.hid hobk
  have HRW:=Lib.hid hrow
  have HFB:=Lib.hid (fun g h=>World.ownsRow.lt hrow g h)
  clear hobk hrow
  obtain ⟨tl0,tl1⟩:=HTF.out.2
  go_upto_region 10 with (fail)
  obtain ⟨W5,hW5⟩:∃ W,W=w5.alloc (.cells #[.slice P tx.bids.length p,.slice P' tx.asks.length p'] 62):=⟨_,rfl⟩
  rw [← hW5]
  have hb5:Below w5.heap.size w5 W5:=by rw [hW5];exact (Below.refl _ _).alloc (Nat.le_refl _) _
  have hs6:W5.heap.size=w5.heap.size + 1:=by rw [hW5];simp
  have V12:Blk W5 w5.heap.size 62 #[.slice P tx.bids.length p,.slice P' tx.asks.length p']:=by rw [hW5];exact Blk.new _ _ _
  have HO5:Hid (OBk W5 w4.heap.size P P' p p' tx):=by rw [hW5];exact HOB.out.alloc _
  have HR5:Hid (W5.ownsRow w4.heap.size 87 7 (.slice AF tl.length cF) tl.length (flCells tl)):=by rw [hW5];exact World.ownsRow.alloc HRW.out _
  clear hW5 HOB HRW
  replace X1:=X1.below hb5 X1.lt
  clear kX20 kX21 kX22 kX23 kX24
  replace X2:=X2.below hb5 X2.lt
  obtain ⟨⟨kX20,kX21,kX22,kX23,kX24⟩,-⟩:=X2.c5
  clear kX30 kX31 fX30 fX31
  replace X3:=X3.below hb5 X3.lt
  obtain ⟨⟨kX30,kX31⟩,fX30,fX31⟩:=X3.c2
  replace hbw:=hbw.trans (hb5.mono (by omega))
  clear hb5
  obtain ⟨⟨kV0,kV1⟩,-⟩:=V12.c2
  go_cut [15,76] (fun v15 v wx=>v15=.bool tmet∧v=.bool (decide (how=4∧(tl ≠ []∨tmet=true)))∧W5=wx)
  case first =>
   by_cases h4:how=4
   ·have h4':(how == 4)=true:=by simpa using h4
    rcases bool_cs tmet with hm | hm
    ·have HZ:=Lib.hid (show decide (how=4∧(tl ≠ []∨tmet=true))=decide ((0:Int) < (tl.length:Int)) by
      congr 1;apply propext;rw [hm];cases tl <;> simp [h4])
     have HZ2:=Lib.hid (show decide (0 < tl.length)=decide ((0:Int) < (tl.length:Int)) by congr 1;apply propext;omega)
     have HM:=Lib.hid hm
     rw [hm]
     clear hm h4
     go_wp2_with fail
     go_meet
     refine ⟨by rw [HM.out],?_,rfl⟩
     first | rw [HZ.out,← HZ2.out] | rw [HZ.out]
    ·have HZ:=Lib.hid (show decide (how=4∧(tl ≠ []∨tmet=true))=true from decide_eq_true ⟨h4,.inr hm⟩)
     have HM:=Lib.hid hm
     rw [hm]
     clear hm h4
     go_wp2_with fail
     go_meet
     exact ⟨by rw [HM.out],by rw [HZ.out],rfl⟩
   ·have h4':(how == 4)=false:=by simpa using h4
    have HZ:=Lib.hid (show decide (how=4∧(tl ≠ []∨tmet=true))=false from decide_eq_false (fun h=>h4 h.1))
    clear h4
    go_wp2_with fail
    go_meet
    exact ⟨rfl,by rw [HZ.out],rfl⟩
  case rest =>
  obtain ⟨rfl,rfl,rfl⟩:=hcut
  by_cases hp:how=4∧(tl ≠ []∨tmet=true)
  ·have HE4:=Lib.hid (HE3.out.trans (if_pos hp))
   rw [decide_eq_true hp]
   clear hp HE3
   go_wp2_with fail
   refine calls_name ?_
   intro wq hwq
   have Xq3:Blk wq (w.heap.size + 1 + 1) 62 #[.slice none 0 0,.slice none 0 0]:=by rw [hwq];first | exact X3 | exact X3.alloc _
   have hbq:Below w.heap.size w wq:=by rw [hwq];first | exact hbw | exact hbw.alloc (by omega) _
   have hsq:W5.heap.size ≤ wq.heap.size:=by rw [hwq];simp
   clear hwq kX30 kX31 fX30 fX31
   refine (rfail_any (9) wq).mono ?_
   rintro e wf ⟨rfl,hbf⟩
   have hsf:=hbf.size
   replace Xq3:=Xq3.below hbf Xq3.lt
   replace hbq:=hbq.trans (hbf.mono (by omega))
   obtain ⟨⟨kXq30,kXq31⟩,fXq30,fXq31⟩:=Xq3.c2
   clear hbf
   go_wp2_with fail
   refine post_name ?_
   intro Z hZ
   have XZ3:Blk Z (w.heap.size + 1 + 1) 62 #[.slice none 0 0,.slice none 0 0]:=by rw [hZ];exact (Xq3.set_ 0 _).set_ 1 _
   have hbZ:Below w.heap.size w Z:=by rw [hZ];exact (hbq.setCell (by dsimp only;omega) _).setCell (by dsimp only;omega) _
   clear hZ kXq30 kXq31 fXq30 fXq31
   obtain ⟨⟨kXZ30,kXZ31⟩,-⟩:=XZ3.c2
   refine bodyPost_ret (v:=.tuple #[.agg #[.slice none 0 0,.slice none 0 0],.slice none 0 0,.int .i64 0,.int .i64 (9)]) (by simp [results,Try.results94,go_sem, *]) rfl ?_
   exact retCome_mk (x:=zeroBk) (l:=[]) HE4.out rfl rfl (World.ownsRow_nil _ _ _ _) (World.ownsRow_nil _ _ _ _) rfl (World.ownsRow_nil _ _ _ _) hbZ
  have HE4:=Lib.hid (HE3.out.trans (if_neg hp))
  rw [decide_eq_false hp]
  clear hp HE3
  rcases (bool_cs tmet).symm with rfl | rfl
  ·have HE5:=Lib.hid (HE4.out.trans (if_pos rfl))
   clear HE4
   go_wp2_with fail
   refine calls_name ?_
   intro wq hwq
   have Xq3:Blk wq (w.heap.size + 1 + 1) 62 #[.slice none 0 0,.slice none 0 0]:=by rw [hwq];first | exact X3 | exact X3.alloc _
   have hbq:Below w.heap.size w wq:=by rw [hwq];first | exact hbw | exact hbw.alloc (by omega) _
   have hsq:W5.heap.size ≤ wq.heap.size:=by rw [hwq];simp
   clear hwq kX30 kX31 fX30 fX31
   refine (rfail_any (11) wq).mono ?_
   rintro e wf ⟨rfl,hbf⟩
   have hsf:=hbf.size
   replace Xq3:=Xq3.below hbf Xq3.lt
   replace hbq:=hbq.trans (hbf.mono (by omega))
   obtain ⟨⟨kXq30,kXq31⟩,fXq30,fXq31⟩:=Xq3.c2
   clear hbf
   go_wp2_with fail
   refine post_name ?_
   intro Z hZ
   have XZ3:Blk Z (w.heap.size + 1 + 1) 62 #[.slice none 0 0,.slice none 0 0]:=by rw [hZ];exact (Xq3.set_ 0 _).set_ 1 _
   have hbZ:Below w.heap.size w Z:=by rw [hZ];exact (hbq.setCell (by dsimp only;omega) _).setCell (by dsimp only;omega) _
   clear hZ kXq30 kXq31 fXq30 fXq31
   obtain ⟨⟨kXZ30,kXZ31⟩,-⟩:=XZ3.c2
   refine bodyPost_ret (v:=.tuple #[.agg #[.slice none 0 0,.slice none 0 0],.slice none 0 0,.int .i64 0,.int .i64 (11)]) (by simp [results,Try.results94,go_sem, *]) rfl ?_
   exact retCome_mk (x:=zeroBk) (l:=[]) HE5.out rfl rfl (World.ownsRow_nil _ _ _ _) (World.ownsRow_nil _ _ _ _) rfl (World.ownsRow_nil _ _ _ _) hbZ
  have HE5:=Lib.hid (HE4.out.trans (if_neg (by simp)))
  clear HE4
  go_upto_region 14 with (fail)
  go_cut [95] (fun v wx=>v=.bool (decide (how=3∧0 < tleft))∧W5=wx)
  case first =>
   by_cases h3:how=3
   ·have h3':(how == 3)=true:=by simpa using h3
    have HZ:=Lib.hid (show decide (how=3∧0 < tleft)=(tleft != 0) by
     by_cases hz:tleft=0
     ·simp [hz]
     ·have hp:0 < tleft:=by omega
      simp [hz,h3,hp])
    clear h3
    go_wp2_with fail
    go_meet
    exact ⟨by rw [HZ.out],rfl⟩
   ·have h3':(how == 3)=false:=by simpa using h3
    have HZ:=Lib.hid (show decide (how=3∧0 < tleft)=false from decide_eq_false (fun h=>h3 h.1))
    clear h3
    go_wp2_with fail
    go_meet
    exact ⟨by rw [HZ.out],rfl⟩
  case rest =>
  obtain ⟨rfl,rfl⟩:=hcut
  by_cases h3:how=3∧0 < tleft
  ·have HE6:=Lib.hid (HE5.out.trans (if_pos h3))
   rw [decide_eq_true h3]
   clear h3 HE5
   go_wp2_with fail
   refine calls_name ?_
   intro wq hwq
   have Xq3:Blk wq (w.heap.size + 1 + 1) 62 #[.slice none 0 0,.slice none 0 0]:=by rw [hwq];first | exact X3 | exact X3.alloc _
   have hbq:Below w.heap.size w wq:=by rw [hwq];first | exact hbw | exact hbw.alloc (by omega) _
   have hsq:W5.heap.size ≤ wq.heap.size:=by rw [hwq];simp
   clear hwq kX30 kX31 fX30 fX31
   refine (rfail_any (10) wq).mono ?_
   rintro e wf ⟨rfl,hbf⟩
   have hsf:=hbf.size
   replace Xq3:=Xq3.below hbf Xq3.lt
   replace hbq:=hbq.trans (hbf.mono (by omega))
   obtain ⟨⟨kXq30,kXq31⟩,fXq30,fXq31⟩:=Xq3.c2
   clear hbf
   go_wp2_with fail
   refine post_name ?_
   intro Z hZ
   have XZ3:Blk Z (w.heap.size + 1 + 1) 62 #[.slice none 0 0,.slice none 0 0]:=by rw [hZ];exact (Xq3.set_ 0 _).set_ 1 _
   have hbZ:Below w.heap.size w Z:=by rw [hZ];exact (hbq.setCell (by dsimp only;omega) _).setCell (by dsimp only;omega) _
   clear hZ kXq30 kXq31 fXq30 fXq31
   obtain ⟨⟨kXZ30,kXZ31⟩,-⟩:=XZ3.c2
   refine bodyPost_ret (v:=.tuple #[.agg #[.slice none 0 0,.slice none 0 0],.slice none 0 0,.int .i64 0,.int .i64 (10)]) (by simp [results,Try.results94,go_sem, *]) rfl ?_
   exact retCome_mk (x:=zeroBk) (l:=[]) HE6.out rfl rfl (World.ownsRow_nil _ _ _ _) (World.ownsRow_nil _ _ _ _) rfl (World.ownsRow_nil _ _ _ _) hbZ
  have HE6:=Lib.hid (HE5.out.trans (if_neg h3))
  rw [decide_eq_false h3]
  clear h3 HE5
  go_upto_region 16 with (fail)
  go_cut [107] (fun v wx=>v=.bool (decide (tleft=0∨how=2))∧W5=wx)
  case first =>
   by_cases h2:how=2
   ·have h2':(how == 2)=true:=by simpa using h2
    have HZ:=Lib.hid (show decide (tleft=0∨how=2)=true from decide_eq_true (.inr h2))
    clear h2
    go_wp2_with fail
    go_meet
    exact ⟨by rw [HZ.out],rfl⟩
   ·have h2':(how == 2)=false:=by simpa using h2
    have HZ:=Lib.hid (show decide (tleft=0∨how=2)=(tleft == 0) by by_cases hz:tleft=0 <;> simp [hz,h2])
    clear h2
    go_wp2_with fail
    go_meet
    exact ⟨by rw [HZ.out],rfl⟩
  case rest =>
  obtain ⟨rfl,rfl⟩:=hcut
  by_cases h8:tleft=0∨how=2
  ·have HE7:=Lib.hid (HE6.out.trans (if_pos h8))
   rw [decide_eq_true h8]
   clear h8 HE6
   go_wp2_with fail
   refine post_name ?_
   intro Z hZ
   have XZ3:Blk Z (w.heap.size + 1 + 1) 62 #[.slice P tx.bids.length p,.slice P' tx.asks.length p']:=by rw [hZ];exact (X3.set_ 0 _).set_ 1 _
   have hbZ:Below w.heap.size w Z:=by rw [hZ];exact (hbw.setCell (by dsimp only;omega) _).setCell (by dsimp only;omega) _
   have hk:∀ {e k n:Nat} {v:Value} {xs:List Value},W5.ownsRow w4.heap.size e k v n xs→Z.ownsRow w.heap.size e k v n xs:=by
    intro e k n v xs hv
    rw [hZ]
    exact own_mono (ownsRow_setCell_below (ownsRow_setCell_below hv (by dsimp only;omega) _) (by dsimp only;omega) _) (by omega)
   clear hZ kX30 kX31 fX30 fX31
   obtain ⟨⟨kXZ30,kXZ31⟩,-⟩:=XZ3.c2
   refine bodyPost_ret (v:=.tuple #[.agg #[.slice P tx.bids.length p,.slice P' tx.asks.length p'],.slice AF tl.length cF,.int .i64 tleft,.int .i64 0]) (by simp [results,Try.results94,go_sem, *]) rfl ?_
   exact retCome_mk (x:=tx) (l:=tl) HE7.out rfl rfl (hk HO5.out.l) (hk HO5.out.r) rfl (hk HR5.out) hbZ
  have HE7:=Lib.hid (HE6.out.trans (if_neg h8))
  rw [decide_eq_false h8]
  clear h8 HE6
  obtain ⟨rx,re,hrest⟩:=rest_pair tx { o with qty:=tleft }
  have HE8:=Lib.hid (show comeOf b o how=if re ≠ 0 then (zeroBk,[],0,re) else (rx,tl,0,0) by rw [HE7.out,hrest])
  have HRS:=Lib.hid hrest
  have fX24:=X2.frozen 4
  clear hrest HE7
  go_wp2_with fail
  refine calls_name ?_
  intro w6 hw6
  have hs6':w6.heap.size=W5.heap.size:=by rw [hw6];simp
  have V3:Blk w6 (w.heap.size + 1 + 1) 62 #[.slice none 0 0,.slice none 0 0]:=by rw [hw6];exact X3.far (by simp) _
  have U12:Blk w6 w5.heap.size 62 #[.slice P tx.bids.length p,.slice P' tx.asks.length p']:=by rw [hw6];exact V12.far (by simp;omega) _
  have hb6:Below w.heap.size w w6:=by rw [hw6];exact hbw.setCell (by dsimp only;omega) _
  have HO6:OBk w6 w4.heap.size P P' p p' tx:=by rw [hw6];exact HO5.out.set (by dsimp only;omega) _
  have HR6:w6.ownsRow w4.heap.size 87 7 (.slice AF tl.length cF) tl.length (flCells tl):=by rw [hw6];exact ownsRow_setCell_below HR5.out (by dsimp only;omega) _
  clear hw6 X3 X2 kX20 kX21 kX22 kX23 kX24 fX24 kX30 kX31 fX30 fX31 HO5 HR5 V12 kV0 kV1
  have hrr:=rrested_any tx { o with qty:=tleft } P P' p p' w6.heap.size w6 HO6.read (Nat.le_refl _) HTF.out.1
  rw [HRS.out] at hrr
  refine hrr.mono ?_
  rintro e w7 ⟨v,rfl,hown,hb7⟩
  obtain ⟨Q,q,Q',q',rfl,H7⟩:=hown.obk
  have hs7:=hb7.size
  have X3:=V3.below hb7 V3.lt
  have V12:=U12.below hb7 U12.lt
  replace hbw:=hb6.trans (hb7.mono (by omega))
  have HR7:=Lib.hid (own_below HR6 hb7 (Nat.le_refl _))
  clear hown hb7 V3 HO6 HR6 hb6 hrr U12
  obtain ⟨⟨kX30,kX31⟩,fX30,fX31⟩:=X3.c2
  obtain ⟨⟨kV120,kV121⟩,fV120,fV121⟩:=V12.c2
  have x12:w5.heap.size < w7.heap.size:=by omega
  by_cases her:re=0
  rotate_left
  ·have HEA:=Lib.hid (HE8.out.trans (if_pos her))
   have her':(re != 0)=true:=by simpa using her
   clear her HE8
   go_wp2_with fail
   refine calls_name ?_
   intro wq hwq
   have Xq3:Blk wq (w.heap.size + 1 + 1) 62 #[.slice none 0 0,.slice none 0 0]:=by rw [hwq];exact (X3.far (by simp;omega) _).far (by simp;omega) _
   have hbq:Below w.heap.size w wq:=by rw [hwq];exact (hbw.setCell (by dsimp only;omega) _).setCell (by dsimp only;omega) _
   have hsq:w7.heap.size ≤ wq.heap.size:=by rw [hwq];simp
   clear hwq kX30 kX31 fX30 fX31
   refine (rfail_any re wq).mono ?_
   rintro e wf ⟨rfl,hbf⟩
   have hsf:=hbf.size
   replace Xq3:=Xq3.below hbf Xq3.lt
   replace hbq:=hbq.trans (hbf.mono (by omega))
   obtain ⟨⟨kXq30,kXq31⟩,fXq30,fXq31⟩:=Xq3.c2
   clear hbf
   go_wp2_with fail
   refine post_name ?_
   intro Z hZ
   have XZ3:Blk Z (w.heap.size + 1 + 1) 62 #[.slice none 0 0,.slice none 0 0]:=by rw [hZ];exact (Xq3.set_ 0 _).set_ 1 _
   have hbZ:Below w.heap.size w Z:=by rw [hZ];exact (hbq.setCell (by dsimp only;omega) _).setCell (by dsimp only;omega) _
   clear hZ kXq30 kXq31 fXq30 fXq31
   obtain ⟨⟨kXZ30,kXZ31⟩,-⟩:=XZ3.c2
   refine bodyPost_ret (v:=.tuple #[.agg #[.slice none 0 0,.slice none 0 0],.slice none 0 0,.int .i64 0,.int .i64 re]) (by simp [results,Try.results94,go_sem, *]) rfl ?_
   exact retCome_mk (x:=zeroBk) (l:=[]) HEA.out rfl rfl (World.ownsRow_nil _ _ _ _) (World.ownsRow_nil _ _ _ _) rfl (World.ownsRow_nil _ _ _ _) hbZ
  ·have HEA:=Lib.hid (HE8.out.trans (if_neg (by omega)))
   subst her
   clear HE8
   have hne:¬ (w.heap.size + 1 + 1=w5.heap.size):=by omega
   go_wp2_with fail
   refine post_name ?_
   intro Z hZ
   have XZ3:Blk Z (w.heap.size + 1 + 1) 62 #[.slice Q rx.bids.length q,.slice Q' rx.asks.length q']:=by rw [hZ];exact (((X3.far (by simp;omega) _).far (by simp;omega) _).set_ 0 _).set_ 1 _
   have hbZ:Below w.heap.size w Z:=by rw [hZ];exact (((hbw.setCell (by dsimp only;omega) _).setCell (by dsimp only;omega) _).setCell (by dsimp only;omega) _).setCell (by dsimp only;omega) _
   have hk:∀ {e k n B:Nat} {v:Value} {xs:List Value},w5.heap.size < B→w7.ownsRow B e k v n xs→Z.ownsRow w.heap.size e k v n xs:=by
    intro e k n B v xs hB hv
    rw [hZ]
    exact own_mono (ownsRow_setCell_below (ownsRow_setCell_below (ownsRow_setCell_below (ownsRow_setCell_below hv (by dsimp only;omega) _) (by dsimp only;omega) _) (by dsimp only;omega) _) (by dsimp only;omega) _) (by omega)
   have hk2:Z.ownsRow w.heap.size 87 7 (.slice AF tl.length cF) tl.length (flCells tl):=by
    rw [hZ]
    exact own_mono (own_far (own_far (own_far (own_far HR7.out (fun g h e=>by have:=HFB.out g h;dsimp only at e;omega) _) (fun g h e=>by have:=HFB.out g h;dsimp only at e;omega) _) (fun g h e=>by have:=HFB.out g h;dsimp only at e;omega) _) (fun g h e=>by have:=HFB.out g h;dsimp only at e;omega) _) (by omega)
   clear hZ kX30 kX31 fX30 fX31 kV120 kV121 fV120 fV121
   obtain ⟨⟨kXZ30,kXZ31⟩,-⟩:=XZ3.c2
   refine bodyPost_ret (v:=.tuple #[.agg #[.slice Q rx.bids.length q,.slice Q' rx.asks.length q'],.slice AF tl.length cF,.int .i64 0,.int .i64 0]) (by simp [results,Try.results94,go_sem, *]) rfl ?_
   exact retCome_mk (x:=rx) (l:=tl) HEA.out rfl rfl (hk (by omega) H7.l) (hk (by omega) H7.r) rfl hk2 hbZ
end
section
open Go.RowKit
def eqFl (a b:Fl):Bool:=a.maker == b.maker && a.taker == b.taker && a.macc == b.macc && a.tacc == b.tacc && a.side == b.side && a.price == b.price && a.qty == b.qty
theorem eqFl_iff {a b:Fl}:eqFl a b=true ↔ a=b:=by
 constructor
 ·intro h
  simp only [eqFl,Bool.and_eq_true,beq_iff_eq] at h
  obtain ⟨⟨⟨⟨⟨⟨h1,h2⟩,h3⟩,h4⟩,h5⟩,h6⟩,h7⟩:=h
  obtain ⟨a1,a2,a3,a4,a5,a6,a7⟩:=a
  obtain ⟨b1,b2,b3,b4,b5,b6,b7⟩:=b
  simp only at h1 h2 h3 h4 h5 h6 h7
  rw [h1,h2,h3,h4,h5,h6,h7]
 ·intro h;subst h;simp [eqFl]
set_option maxRecDepth 100000 in
theorem eqIn_fl1 (a b:Fl) (w:World):(Op.equalIn 10000 87 (.agg #[.int .i64 a.maker,.int .i64 a.taker,.int .i64 a.macc,.int .i64 a.tacc,.int .i64 a.side,.int .i64 a.price,.int .i64 a.qty]) (.agg #[.int .i64 b.maker,.int .i64 b.taker,.int .i64 b.macc,.int .i64 b.tacc,.int .i64 b.side,.int .i64 b.price,.int .i64 b.qty])).run Try.prog w=.ok (eqFl a b) w:=by
 rw [run_equalIn_struct w 9999 _ _ _ (by rw [fieldsOf_of Try.underlying87];exact Try.underlying87) (by kernel_rfl),fieldsOf_of Try.underlying87]
 have hi:=Try.underlying3
 have p0:∀ (x0 x1 x2 x3 x4 x5 x6:Int) w,(part 3 #[.int .i64 x0,.int .i64 x1,.int .i64 x2,.int .i64 x3,.int .i64 x4,.int .i64 x5,.int .i64 x6] 0).run Try.prog w=.ok (.int .i64 x0) w:=fun _ _ _ _ _ _ _ w=>run_part_int hi _ 0 _ rfl w
 have p1:∀ (x0 x1 x2 x3 x4 x5 x6:Int) w,(part 3 #[.int .i64 x0,.int .i64 x1,.int .i64 x2,.int .i64 x3,.int .i64 x4,.int .i64 x5,.int .i64 x6] 1).run Try.prog w=.ok (.int .i64 x1) w:=fun _ _ _ _ _ _ _ w=>run_part_int hi _ 1 _ rfl w
 have p2:∀ (x0 x1 x2 x3 x4 x5 x6:Int) w,(part 3 #[.int .i64 x0,.int .i64 x1,.int .i64 x2,.int .i64 x3,.int .i64 x4,.int .i64 x5,.int .i64 x6] 2).run Try.prog w=.ok (.int .i64 x2) w:=fun _ _ _ _ _ _ _ w=>run_part_int hi _ 2 _ rfl w
 have p3:∀ (x0 x1 x2 x3 x4 x5 x6:Int) w,(part 3 #[.int .i64 x0,.int .i64 x1,.int .i64 x2,.int .i64 x3,.int .i64 x4,.int .i64 x5,.int .i64 x6] 3).run Try.prog w=.ok (.int .i64 x3) w:=fun _ _ _ _ _ _ _ w=>run_part_int hi _ 3 _ rfl w
 have p4:∀ (x0 x1 x2 x3 x4 x5 x6:Int) w,(part 3 #[.int .i64 x0,.int .i64 x1,.int .i64 x2,.int .i64 x3,.int .i64 x4,.int .i64 x5,.int .i64 x6] 4).run Try.prog w=.ok (.int .i64 x4) w:=fun _ _ _ _ _ _ _ w=>run_part_int hi _ 4 _ rfl w
 have p5:∀ (x0 x1 x2 x3 x4 x5 x6:Int) w,(part 3 #[.int .i64 x0,.int .i64 x1,.int .i64 x2,.int .i64 x3,.int .i64 x4,.int .i64 x5,.int .i64 x6] 5).run Try.prog w=.ok (.int .i64 x5) w:=fun _ _ _ _ _ _ _ w=>run_part_int hi _ 5 _ rfl w
 have p6:∀ (x0 x1 x2 x3 x4 x5 x6:Int) w,(part 3 #[.int .i64 x0,.int .i64 x1,.int .i64 x2,.int .i64 x3,.int .i64 x4,.int .i64 x5,.int .i64 x6] 6).run Try.prog w=.ok (.int .i64 x6) w:=fun _ _ _ _ _ _ _ w=>run_part_int hi _ 6 _ rfl w
 have he:=fun (x y:Int) w=>run_equalIn_int w 9998 3 .i64 .i64 x y hi
 simp only [Op.eqFields]
 rw [if_pos (by decide),if_pos (by decide),if_pos (by decide),if_pos (by decide),if_pos (by decide),if_pos (by decide),if_pos (by decide)]
 simp only [Sem.run_bind,p0,p1,p2,p3,p4,p5,p6,Result.andThen_ok,he,Sem.run_ite,Sem.run_pure]
 unfold eqFl
 obtain ⟨c_maker,h_maker⟩:∃ c,(a.maker == b.maker)=c:=⟨_,rfl⟩
 obtain ⟨c_taker,h_taker⟩:∃ c,(a.taker == b.taker)=c:=⟨_,rfl⟩
 obtain ⟨c_macc,h_macc⟩:∃ c,(a.macc == b.macc)=c:=⟨_,rfl⟩
 obtain ⟨c_tacc,h_tacc⟩:∃ c,(a.tacc == b.tacc)=c:=⟨_,rfl⟩
 obtain ⟨c_side,h_side⟩:∃ c,(a.side == b.side)=c:=⟨_,rfl⟩
 obtain ⟨c_price,h_price⟩:∃ c,(a.price == b.price)=c:=⟨_,rfl⟩
 obtain ⟨c_qty,h_qty⟩:∃ c,(a.qty == b.qty)=c:=⟨_,rfl⟩
 simp only [h_maker,h_taker,h_macc,h_tacc,h_side,h_price,h_qty]
 cases c_maker <;> cases c_taker <;> cases c_macc <;> cases c_tacc <;> cases c_side <;> cases c_price <;> cases c_qty <;> rfl
theorem run_neq_fl (a b:Fl) (w:World):(binOp .neq 87 (.agg #[.int .i64 a.maker,.int .i64 a.taker,.int .i64 a.macc,.int .i64 a.tacc,.int .i64 a.side,.int .i64 a.price,.int .i64 a.qty]) (.agg #[.int .i64 b.maker,.int .i64 b.taker,.int .i64 b.macc,.int .i64 b.tacc,.int .i64 b.side,.int .i64 b.price,.int .i64 b.qty])).run Try.prog w=.ok (.bool (!eqFl a b)) w:=by
 rw [run_neq_struct,eqIn_fl1];rfl
instance:DecidableEq Fl:=fun _ _=>decidable_of_iff _ eqFl_iff
def sameFls (L M:List Fl):Bool:=decide (L=M)
theorem sameFls_self (L:List Fl):sameFls L L=true:=decide_eq_true rfl
theorem sameFls_len {L M:List Fl} (h:L.length ≠ M.length):sameFls L M=false:=by
 unfold sameFls;exact decide_eq_false fun e=>h (by rw [e])
theorem sameFls_at {L M:List Fl} {j:Nat} {x y:Fl} (hx:L[j]?=some x) (hy:M[j]?=some y) (h:eqFl x y=false):sameFls L M=false:=by
 unfold sameFls
 refine decide_eq_false fun e=>?_
 subst e
 rw [hx] at hy;injection hy with hy
 rw [eqFl_iff.2 hy] at h;cases h
theorem take_nextF {L M:List Fl} {j:Nat} {x y:Fl} (hx:L[j]?=some x) (hy:M[j]?=some y) (h:eqFl x y=true) (ht:L.take j=M.take j):L.take (j + 1)=M.take (j + 1):=by
 rw [List.take_add_one,List.take_add_one,hx,hy,ht,eqFl_iff.1 h]
set_option maxHeartbeats 1000000 in
theorem equal_fls (A A':Option Addr) (n c n' c':Nat) (L M:List Fl) (B:Nat) (w:World) (h:Rd w B 7 A n c (flCells L)) (h':Rd w B 7 A' n' c' (flCells M)) (hB:B ≤ w.heap.size) :
  Calls Try.prog 93 #[.slice A n c,.slice A' n' c'] w fun e w'=>e=.returned (.bool (sameFls L M))∧Below w.heap.size w w':=by
 have hle:=h.le
 have hcap:=h.cap
 have hle':=h'.le
 have hcap':=h'.cap
 have HL:=Lib.hid (rdf_len h)
 have HM:=Lib.hid (rdf_len h')
 have q:=run_neq_fl
 unfold maxLen at hcap hcap'
 by_cases hnn:n=n'
 ·subst hnn
  go_enter Try.func93,Try.ntmps93
  go_wp2_with fail
  go_loopw [13] (fun i wr=>∃ j:Nat,j ≤ n∧i=.int .i64 j∧Below w.heap.size w wr∧Hid (L.take j=M.take j)) (fun i _=>n - (intOf i).toNat)
  case atStart=>exact ⟨0,Nat.zero_le _,rfl,Below.refl _ _,Lib.hid (by simp)⟩
  case round =>
   obtain ⟨j,hj,rfl,hbr,HP⟩:=hrel
   have hws:=hbr.size
   by_cases hlt:j < n
   ·obtain ⟨b,o,x,rfl,hb,hx,k0,k1,k2,k3,k4,k5,k6⟩:=fl_at (h.below (hbr.mono hB)) hlt
    obtain ⟨b',o',y,rfl,hb',hy,l0,l1,l2,l3,l4,l5,l6⟩:=fl_at (h'.below (hbr.mono hB)) hlt
    have HX:=Lib.hid hx
    have HY:=Lib.hid hy
    clear hx hy
    go_wp2_with fail
    go_region
    rcases bool_cs (eqFl x y) with hp | hp
    ·have HN:=Lib.hid (sameFls_at HX.out HY.out hp)
     rw [hp]
     go_wp2_with fail
     go_ret
     exact ⟨ret_bb HN.out.symm,(by first | exact below_drew hbr | exact below_drewN hbr _)⟩
    ·have HN:=Lib.hid (take_nextF HX.out HY.out hp HP.out)
     rw [hp]
     go_wp2_with fail
     go_roundw
     case rel=>exact ⟨j + 1,by omega,by go_num,(by first | exact below_drew hbr | exact below_drewN hbr _),HN⟩
     case measure=>simp [intOf];omega
   ·have hjn:j=n:=by omega
    have HE:=Lib.hid (show sameFls L M=true by
     have:=HP.out
     rw [hjn,List.take_of_length_le (by rw [HL.out];exact Nat.le_refl _),List.take_of_length_le (by rw [HM.out];exact Nat.le_refl _)] at this
     exact decide_eq_true this)
    clear hjn
    go_wp2_with fail
    go_ret
    exact ⟨ret_bb HE.out.symm,hbr⟩
 ·have HE:=Lib.hid (sameFls_len (L:=L) (M:=M) (by rw [HL.out,HM.out];exact hnn))
  go_enter Try.func93,Try.ntmps93
  go_wp2_with fail
  go_ret
  exact ⟨ret_bb HE.out.symm,Below.refl _ _⟩
end
end Go.Proofs.Ytockodmbhnlheaa
