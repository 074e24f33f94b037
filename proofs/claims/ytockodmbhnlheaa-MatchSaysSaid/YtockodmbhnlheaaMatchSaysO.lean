/-
  THE LAW MatchSays: holds for every input, with no condition. (Joined texts: Rested.)
-/
import Derived.Test.YtockodmbhnlheaaMatchSaysN
import Derived.Deep.DeepCutAuto
import Derived.Deep.Cut
import Derived.Test.YtockodmbhnlheaaProg
import Derived.Test.YtockodmbhnlheaaMatchSaysA
import Derived.Maps.AppendAt
import Derived.Laws.AppendOwnNone
import Derived.OwnWalk
import Derived.Test.YtockodmbhnlheaaMatchSaysC
import Derived.Deep.RegionHeld3
import Derived.Test.YtockodmbhnlheaaMatchSaysB
import Derived.Lib.AppendZeros
import Derived.Test.YtockodmbhnlheaaMatchSaysF
import Derived.Test.YtockodmbhnlheaaMatchSaysE
import Derived.Laws.CopyOwn
import Derived.Lib.AppendZerosOnto
import Derived.Lib.Overlaps
import Derived.Laws.Externs
import Derived.Deep.RegionLaw
import Derived.Test.YtockodmbhnlheaaMatchSaysM
import Derived.Maps.Own
import Derived.Maps.OwnOps
import Derived.Maps.Views
import Derived.WalkKit
import Derived.Deep.Draws
import Derived.IntWalk
import Derived.Test.YtockodmbhnlheaaMatchSaysD
import Derived.Test.YtockodmbhnlheaaMatchSaysK
import Derived.Shelf.SlSortFuncK.SWK
import Derived.Lib.Hide
import Derived.Test.YtockodmbhnlheaaMatchSaysL
import Derived.Test.YtockodmbhnlheaaMatchSaysJ
import Derived.Shelf.GgSortFunc.SmallK
import Derived.Shelf.GgSortMore.Stable
import Derived.Deep.QuietTactic
import Derived.BigQuiet
import Derived.WalkSpells
import Derived.WalkLawsBesides
import Derived.Sort.WalkA
import Derived.Sort.LotA
namespace Go.Proofs.Ytockodmbhnlheaa
section
open Go.RowKit
set_option maxHeartbeats 1000000 in
theorem rmeets_any (o:Od) (p:Int) (w:World) (ho:ordErr o=0) (hp:1 ≤ p∧p ≤ 10000) :
  Calls Try.prog 149 #[.agg #[.int .i64 o.id,.int .i64 o.acc,.int .i64 o.side,.int .i64 o.price,.int .i64 o.qty],.int .i64 p] w fun e w'=>e=.returned (.bool (crossesB o p))∧Below w.heap.size w w':=by
 obtain ⟨_,_,hs,⟨q1,q2⟩,_⟩:=ordErr_ok.1 ho
 obtain ⟨p1,p2⟩:=hp
 clear ho
 rcases hs with e | e
 ·have HE:=Lib.hid (show crossesB o p=decide (p - o.price ≤ 0) by unfold crossesB;rw [if_pos e];congr 1;apply propext;omega)
  have h1:(p - o.price) * 1=p - o.price:=by omega
  have HS:=Lib.hid e
  obtain ⟨oi,oa,os,op,oq⟩:=o
  simp only at e q1 q2 HE h1
  subst e
  clear HS
  go_enter Try.func149,Try.ntmps149
  go_wp2_with fail
  go_ret
  exact ⟨ret_bb HE.out.symm,(Below.refl _ _).alloc (Nat.le_refl _) _⟩
 ·have HE:=Lib.hid (show crossesB o p=decide (o.price ≤ p) by unfold crossesB;rw [if_neg (by omega)])
  obtain ⟨oi,oa,os,op,oq⟩:=o
  simp only at e q1 q2 HE
  subst e
  go_enter Try.func149,Try.ntmps149
  go_wp2_with fail
  go_ret
  exact ⟨ret_bb HE.out.symm,(Below.refl _ _).alloc (Nat.le_refl _) _⟩
theorem run_field_id (o:Od) (W:World):(Instr.field 71 (.agg #[.int .i64 o.id,.int .i64 o.acc,.int .i64 o.side,.int .i64 o.price,.int .i64 o.qty]) 0).run Try.prog W=.ok (.int .i64 o.id) W:=by
 unfold Instr.field
 simp only [Sem.run_bind,underlying]
 have h:=Try.underlying71
 have ha:∀ w,(isAgg 3).run Try.prog w=.ok false w:=fun _=>by kernel_rfl
 simp [go_sem,h,part,asAgg,Result.andThen]
theorem retRest_zero {w w':World} {r:Bk × Int} {n:Int} (h:r=(zeroBk,n)) (hb:Below w.heap.size w w'):RetRest w r (.returned (.tuple #[.agg #[.slice none 0 0,.slice none 0 0],.int .i64 n])) w':=by
 subst h;exact ⟨_,rfl,ownBk_zero _ _,hb⟩
set_option maxHeartbeats 4000000 in
set_option maxRecDepth 100000 in
theorem rrested_any (b:Bk) (o:Od) (A A':Option Addr) (c c' B:Nat) (w:World) (h:BkR w B A A' c c' b) (hB:B ≤ w.heap.size) (hbk:BookOk b) :
  Calls Try.prog 89 #[.agg #[.slice A b.bids.length c,.slice A' b.asks.length c'],.agg #[.int .i64 o.id,.int .i64 o.acc,.int .i64 o.side,.int .i64 o.price,.int .i64 o.qty]] w (RetRest w (restOf b o)):=by
 have hlen:=hbk.len
 have HE:=Lib.hid (show restOf b o=if hasB b o.id then (zeroBk,6) else if ordErr o ≠ 0 then (zeroBk,ordErr o)
  else if b.bids.length + b.asks.length=40 then (zeroBk,7) else if headCrosses o (otherOf b o.side) then (zeroBk,9)
  else (setOwn b o.side (insO o (ownOf b o.side)),0) by unfold restOf;rw [if_neg (by have:=bookErr_ok.2 hbk;omega)])
 have HH:=Lib.hid (found_has hbk o.id)
 have HBK:=Lib.hid hbk
 clear hbk
 go_enter Try.func89,Try.ntmps89
 go_wp2_with fail
 obtain ⟨w2,hw2⟩:∃ x,x=((w.alloc (.cells #[.slice A b.bids.length c,.slice A' b.asks.length c'] 62)).alloc (.cells #[.int .i64 o.id,.int .i64 o.acc,.int .i64 o.side,.int .i64 o.price,.int .i64 o.qty] 71)).alloc (.cells #[.slice none 0 0,.slice none 0 0] 62):=⟨_,rfl⟩
 have hb2:Below w.heap.size w w2:=by rw [hw2];exact (((Below.refl _ _).alloc (Nat.le_refl _) _).alloc (by simp) _).alloc (by simp;omega) _
 have hs2:w2.heap.size=w.heap.size + 1 + 1 + 1:=by rw [hw2];simp
 have X1:Blk w2 w.heap.size 62 #[.slice A b.bids.length c,.slice A' b.asks.length c']:=by rw [hw2];exact ((Blk.new w _ _).alloc _).alloc _
 have X2:Blk w2 (w.heap.size + 1) 71 #[.int .i64 o.id,.int .i64 o.acc,.int .i64 o.side,.int .i64 o.price,.int .i64 o.qty]:=by rw [hw2];exact (Blk.new_at _ _ _ _ (by simp)).alloc _
 have X3:Blk w2 (w.heap.size + 1 + 1) 62 #[.slice none 0 0,.slice none 0 0]:=by rw [hw2];exact Blk.new_at _ _ _ _ (by simp)
 rw [← hw2]
 have hr:=h.below (hb2.mono hB)
 clear hw2
 have h22:Below w2.heap.size w2 w2:=Below.refl _ _
 have KS:Hid (∀ W,Below w2.heap.size w2 W→Below w2.heap.size w2 W∧(W.cell? ⟨w.heap.size,0,none⟩=some (.slice A b.bids.length c)∧W.cell? ⟨w.heap.size,1,none⟩=some (.slice A' b.asks.length c'))∧(W.cell? ⟨w.heap.size + 1,0,none⟩=some (.int .i64 o.id)∧W.cell? ⟨w.heap.size + 1,1,none⟩=some (.int .i64 o.acc)∧W.cell? ⟨w.heap.size + 1,2,none⟩=some (.int .i64 o.side)∧W.cell? ⟨w.heap.size + 1,3,none⟩=some (.int .i64 o.price)∧W.cell? ⟨w.heap.size + 1,4,none⟩=some (.int .i64 o.qty))):=by
  intro W hW
  exact ⟨hW,(X1.below hW X1.lt).c2.1,(X2.below hW X2.lt).c5.1⟩
 have HR:=Lib.hid hr
 obtain ⟨F,hF⟩:∃ F,F=foundO (b.bids ++ b.asks) o.id:=⟨_,rfl⟩
 rw [← hF] at HH
 have HF:=Lib.hid hF
 obtain ⟨⟨kX10,kX11⟩,-⟩:=X1.c2
 obtain ⟨⟨kX20,kX21,kX22,kX23,kX24⟩,-⟩:=X2.c5
 obtain ⟨⟨kX30,kX31⟩,fX30,fX31⟩:=X3.c2
 clear hF
 go_cut [22] (fun v wx=>v=.bool (hasB b o.id)∧Below w2.heap.size w2 wx)
 case first =>
  by_cases h0:o.id=0
  ·have h0':(o.id != 0)=false:=by simpa using h0
   have HV:=Lib.hid (show hasB b o.id=false by rw [← HH.out];simp [h0])
   clear h0
   go_quiet (fail)
   go_wp2_with fail
   go_meet
   exact ⟨by rw [HV.out],below_drewN h22 _⟩
  ·have h0':(o.id != 0)=true:=by simpa using h0
   have HV:=Lib.hid (show (F.id == o.id)=hasB b o.id by rw [← HH.out,decide_eq_true h0,Bool.true_and];rfl)
   have hfld:=run_field_id F
   clear h0
   have HRD:Hid (BkR w2.drew B A A' c c' b):=Lib.hid (HR.out.below ((below_drew h22).mono (by omega)))
   go_region_with (go_at_call 90;(with_reducible refine (rfound_any b o.id A A' c c' B w2.drew HRD.out (by simp;omega) (by omega)).mono ?_);rintro e W' ⟨rfl,hb⟩;have hB2:=below_next hb (below_drew h22);rw [← HF.out];obtain ⟨-,⟨m0,m1⟩,n0,n1,n2,n3,n4⟩:=KS.out _ hB2)
   all_goals
    go_wp2_with fail
    go_meet
    exact ⟨by rw [← HV.out],by assumption⟩
 case rest =>
  obtain ⟨rfl,hbc⟩:=hcut
  have hsc:=hbc.size
  clear kX10 kX11
  replace X1:=X1.below hbc X1.lt
  obtain ⟨⟨kX10,kX11⟩,-⟩:=X1.c2
  clear kX20 kX21 kX22 kX23 kX24
  replace X2:=X2.below hbc X2.lt
  obtain ⟨⟨kX20,kX21,kX22,kX23,kX24⟩,-⟩:=X2.c5
  clear kX30 kX31 fX30 fX31
  replace X3:=X3.below hbc X3.lt
  obtain ⟨⟨kX30,kX31⟩,fX30,fX31⟩:=X3.c2
  have hbw:=hb2.trans (hbc.mono (by omega))
  have hr2:=HR.out.below (hbc.mono (by omega))
  clear KS HR HF HH h22 hbc hr hb2 F
  rcases (bool_cs (hasB b o.id)).symm with hh | hh
  ·have HE1:=Lib.hid (show restOf b o=(zeroBk,6) by rw [HE.out,if_pos hh])
   rw [hh]
   clear hh HE
   go_wp2_with fail
   refine bodyPost_ret (v:=.tuple #[.agg #[.slice none 0 0,.slice none 0 0],.int .i64 (6)]) (by simp [results,Try.results89,go_sem, *]) rfl ?_
   exact retRest_zero HE1.out ((Below.setCell hbw (by dsimp only;omega) _).setCell (by dsimp only;omega) _)
  ·have HNH:=Lib.hid hh
   have HE1:=Lib.hid (HE.out.trans (if_neg (by rw [hh];simp)))
   rw [hh]
   clear hh HE
   go_wp2_with fail
   refine (rordErr_any o _).mono ?_
   rintro e w3 ⟨rfl,hb3⟩
   have hs3:=hb3.size
   clear kX10 kX11
   replace X1:=X1.below hb3 X1.lt
   obtain ⟨⟨kX10,kX11⟩,-⟩:=X1.c2
   clear kX20 kX21 kX22 kX23 kX24
   replace X2:=X2.below hb3 X2.lt
   obtain ⟨⟨kX20,kX21,kX22,kX23,kX24⟩,-⟩:=X2.c5
   clear kX30 kX31 fX30 fX31
   replace X3:=X3.below hb3 X3.lt
   obtain ⟨⟨kX30,kX31⟩,fX30,fX31⟩:=X3.c2
   replace hbw:=hbw.trans (hb3.mono (by omega))
   replace hr2:=hr2.below (hb3.mono (by omega))
   clear hb3
   by_cases he:ordErr o=0
   rotate_left
   ·have HE2:=Lib.hid (HE1.out.trans (if_pos he))
    have he':(ordErr o != 0)=true:=by simpa using he
    clear he HE1
    go_wp2_with fail
    refine bodyPost_ret (v:=.tuple #[.agg #[.slice none 0 0,.slice none 0 0],.int .i64 (ordErr o)]) (by simp [results,Try.results89,go_sem, *]) rfl ?_
    exact retRest_zero HE2.out ((Below.setCell hbw (by dsimp only;omega) _).setCell (by dsimp only;omega) _)
   ·have HE2:=Lib.hid (HE1.out.trans (if_neg (by omega)))
    have HO:=Lib.hid he
    rw [he]
    clear he HE1
    go_wp2_with fail
    refine (rorders_any b A A' c c' B _ hr2 (by omega) (by omega)).mono ?_
    rintro e w4 ⟨v,rfl,hown,hb4⟩
    have hs4:=hb4.size
    clear kX10 kX11
    replace X1:=X1.below hb4 X1.lt
    obtain ⟨⟨kX10,kX11⟩,-⟩:=X1.c2
    clear kX20 kX21 kX22 kX23 kX24
    replace X2:=X2.below hb4 X2.lt
    obtain ⟨⟨kX20,kX21,kX22,kX23,kX24⟩,-⟩:=X2.c5
    clear kX30 kX31 fX30 fX31
    replace X3:=X3.below hb4 X3.lt
    obtain ⟨⟨kX30,kX31⟩,fX30,fX31⟩:=X3.c2
    replace hbw:=hbw.trans (hb4.mono (by omega))
    obtain ⟨A1,c1,rfl⟩:=own_shape hown
    have hr5:=Rd.of_own hown
    have hle5:=hr5.le
    have hcap5:=hr5.cap
    have HL:=Lib.hid (rdo_len hr5)
    have HR5:=Lib.hid hr5
    have HOW:=Lib.hid hown
    clear hb4 hown hr5 hr2
    obtain ⟨n1,hn1⟩:∃ n,n=b.bids.length + b.asks.length:=⟨_,rfl⟩
    rw [← hn1] at HR5 HL HOW hle5 HE2 hlen
    rw [← hn1]
    clear hn1
    by_cases h40:n1=40
    ·have HE3:=Lib.hid (HE2.out.trans (if_pos h40))
     have h40':((n1:Int) == 40)=true:=by simp;omega
     clear h40 HE2
     go_wp2_with fail
     refine bodyPost_ret (v:=.tuple #[.agg #[.slice none 0 0,.slice none 0 0],.int .i64 (7)]) (by simp [results,Try.results89,go_sem, *]) rfl ?_
     exact retRest_zero HE3.out ((Below.setCell hbw (by dsimp only;omega) _).setCell (by dsimp only;omega) _)
    ·have HE3:=Lib.hid (HE2.out.trans (if_neg h40))
     have h40':((n1:Int) == 40)=false:=by simp;omega
     have h41:n1 < 40:=by omega
     have HM:=Lib.hid (meets_head HBK.out HO.out)
     have HPR:=Lib.hid (show ∀ x ∈ b.bids ++ b.asks,1 ≤ x.price∧x.price ≤ 10000 from fun x hx=>by
      rcases List.mem_append.1 hx with q | q
      ·exact (ordErr_ok.1 (HBK.out.bids.ok x q)).2.2.2.1
      ·exact (ordErr_ok.1 (HBK.out.asks.ok x q)).2.2.2.1)
     have HX1:=Lib.hid X1
     have HX2:=Lib.hid X2
     have HX3:=Lib.hid X3
     clear h40 HE2 X1 X2 X3 kX10 kX11 kX20 kX21 kX22 kX23 kX24 kX30 kX31 fX30 fX31
     go_wp2_with fail
     go_loopw [38] (fun i wr=>∃ j:Nat,j ≤ n1∧i=.int .i64 j∧Below w4.heap.size w4 wr∧Hid (((b.bids ++ b.asks).take j).any (metB o)=false)) (fun i _=>n1 - (intOf i).toNat)
     case atStart=>exact ⟨0,Nat.zero_le _,rfl,Below.refl _ _,rfl⟩
     case round =>
      obtain ⟨j,hj,rfl,hbr,HP⟩:=hrel
      have hws:=hbr.size
      have X1:=HX1.out.below hbr HX1.out.lt
      have X2:=HX2.out.below hbr HX2.out.lt
      have X3:=HX3.out.below hbr HX3.out.lt
      have hbwr:=hbw.trans (hbr.mono (by omega))
      obtain ⟨⟨kX10,kX11⟩,-⟩:=X1.c2
      obtain ⟨⟨kX20,kX21,kX22,kX23,kX24⟩,-⟩:=X2.c5
      obtain ⟨⟨kX30,kX31⟩,fX30,fX31⟩:=X3.c2
      by_cases hlt:j < n1
      ·obtain ⟨bb,oo,x,rfl,hbb,hx,k0,k1,k2,k3,k4⟩:=od_at (HR5.out.below hbr) hlt
       have x1:bb < wr.heap.size:=by omega
       have x2:w.heap.size + 1 < wr.heap.size:=by omega
       have x3:w.heap.size + 1 + 1 < wr.heap.size:=by omega
       have x4:w.heap.size < wr.heap.size:=by omega
       have hpx:=Lib.hid (HPR.out x (List.mem_of_getElem? hx))
       have HX:=Lib.hid hx
       clear hx
       have HMX:Hid (∀ c,metB o x=c→((b.bids ++ b.asks).take (j + 1)).any (metB o)=c):=Lib.hid (fun c hc=>by
        rw [List.take_add_one,HX.out,List.any_append,HP.out,Bool.false_or];simp [hc])
       by_cases hsd:x.side=o.side
       ·have hs':(x.side != o.side)=false:=by simpa using hsd
        have HN:=Lib.hid (HMX.out false (by unfold metB;simp [hsd]))
        clear hsd
        go_wp2_with fail
        go_roundw
        case rel=>exact ⟨j + 1,by omega,by go_num,hbr.alloc (by omega) _,HN⟩
        case measure=>simp [intOf];omega
       ·have hs':(x.side != o.side)=true:=by simpa using hsd
        have HMC:=Lib.hid (show metB o x=crossesB o x.price by unfold metB;simp [hsd])
        have HME:=Lib.hid (rmeets_any o x.price (wr.alloc (.cells #[.int .i64 x.id,.int .i64 x.acc,.int .i64 x.side,.int .i64 x.price,.int .i64 x.qty] 71)) HO.out hpx.out)
        have hb0:Below wr.heap.size wr (wr.alloc (.cells #[.int .i64 x.id,.int .i64 x.acc,.int .i64 x.side,.int .i64 x.price,.int .i64 x.qty] 71)):=(Below.refl _ _).alloc (Nat.le_refl _) _
        clear hsd
        rcases (bool_cs (crossesB o x.price)).symm with hc | hc
        ·have HE4:=Lib.hid (show restOf b o=(zeroBk,9) by
          rw [HE3.out,if_pos]
          rw [← HM.out,← List.take_append_drop (j + 1) (b.bids ++ b.asks),List.any_append,HMX.out true (HMC.out.trans hc),Bool.true_or])
         rw [hc] at HME
         clear hc
         go_wp2_with (go_at_call 149;(with_reducible refine HME.out.mono ?_);rintro e w7 ⟨rfl,hb7⟩;have hb8:=hb0.trans (hb7.mono (by simp));obtain ⟨⟨z0,z1⟩,fz0,fz1⟩:=(X3.below hb8 X3.lt).c2)
         have hs8:=hb8.size
         have hbw8:=hbwr.trans (hb8.mono (by omega))
         refine bodyPost_ret (v:=.tuple #[.agg #[.slice none 0 0,.slice none 0 0],.int .i64 9]) (by simp [results,Try.results89,go_sem, *]) rfl ?_
         exact retRest_zero HE4.out ((Below.setCell hbw8 (by dsimp only;omega) _).setCell (by dsimp only;omega) _)
        ·have HN:=Lib.hid (HMX.out false (HMC.out.trans hc))
         rw [hc] at HME
         clear hc
         go_wp2_with (go_at_call 149;(with_reducible refine HME.out.mono ?_);rintro e w7 ⟨rfl,hb7⟩;have hb8:=hb0.trans (hb7.mono (by simp)))
         have hbr8:=hbr.trans (hb8.mono (by omega))
         clear hb7 hb8 hb0
         go_roundw
         case rel=>exact ⟨j + 1,by omega,by go_num,hbr8,HN⟩
         case measure=>simp [intOf];omega
      ·have hjn:j=n1:=by omega
       have HE4:=Lib.hid (show restOf b o=(setOwn b o.side (insO o (ownOf b o.side)),0) by
        rw [HE3.out,if_neg]
        rw [← HM.out]
        have:=HP.out
        rw [hjn,List.take_of_length_le (by rw [HL.out];exact Nat.le_refl _)] at this
        rw [this];simp)
       have HBO:=Lib.hid (bkOf_rest HBK.out HO.out HNH.out)
       have HOW2:=Lib.hid (own_below HOW.out hbr (Nat.le_refl _))
       clear hjn HE3
       have x2:w.heap.size + 1 < wr.heap.size:=by omega
       have x3:w.heap.size + 1 + 1 < wr.heap.size:=by omega
       go_wp2_with (at_builtin;refine wpList_app rfl _ _ _ rfl w3.heap.size _ _ _ elem_od (.slice A1 n1 c1) _ _ rfl (World.ownsRow.alloc HOW2.out _) (wr.heap.size + 1) _ 1 1 (odCells [o]) rfl (rd_one_od wr o wr.heap.size rfl) (odCells_one _) (by unfold maxLen;omega) (by omega) (by simp;omega) ?_;intro v1 w7 hown7 hbel7 hgr7 hat7;obtain ⟨A7,c7,rfl⟩:=own_shape hown7)
       have hb9:Below w3.heap.size wr w7:=((Below.refl _ _).alloc (by omega) _).trans hbel7
       have hs9:=hb9.size
       have hbw9:=hbwr.trans (hb9.mono (by omega))
       have X39:=X3.below hb9 (by omega)
       rw [← odCells_app] at hown7
       refine (rbookOf_any (b.bids ++ b.asks ++ [o]) _ _ _ w7.heap.size (setOwn b o.side (insO o (ownOf b o.side))) w7 (Rd.of_own hown7) (Nat.le_refl _) HBO.out (by omega)).mono ?_
       rintro e w8 ⟨v8,rfl,ho8,hb8⟩
       obtain ⟨P1,p1,P1',p1',rfl,H8⟩:=ho8.obk
       have hs8:=hb8.size
       have hbw8:=hbw9.trans (hb8.mono (by omega))
       obtain ⟨⟨z0,z1⟩,fz0,fz1⟩:=(X39.below hb8 X39.lt).c2
       clear hown7 hbel7 hgr7 hat7
       go_wp2_with fail
       refine bodyPost_ret (v:=.tuple #[.agg #[.slice P1 (setOwn b o.side (insO o (ownOf b o.side))).bids.length p1,.slice P1' (setOwn b o.side (insO o (ownOf b o.side))).asks.length p1'],.int .i64 0]) (by simp [results,Try.results89,go_sem, *]) rfl ?_
       rw [HE4.out]
       refine ⟨_,rfl,⟨P1,p1,P1',p1',rfl,?_,?_⟩,(hbw8.setCell (by dsimp only;omega) _).setCell (by dsimp only;omega) _⟩
       ·exact own_mono (ownsRow_setCell_below (ownsRow_setCell_below H8.l (by dsimp only;omega) _) (by dsimp only;omega) _) (by omega)
       ·exact own_mono (ownsRow_setCell_below (ownsRow_setCell_below H8.r (by dsimp only;omega) _) (by dsimp only;omega) _) (by omega)
end
end Go.Proofs.Ytockodmbhnlheaa
