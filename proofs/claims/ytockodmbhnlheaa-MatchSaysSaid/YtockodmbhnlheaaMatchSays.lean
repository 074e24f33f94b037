/-
  THE LAW MatchSays: holds for every input, with no condition. (Joined texts: MatchSaysW, MatchSays.)
-/
import Derived.Test.YtockodmbhnlheaaMatchSaysJ
import Derived.Test.YtockodmbhnlheaaMatchSaysQ
import Derived.Test.YtockodmbhnlheaaProg
import Derived.Test.YtockodmbhnlheaaMatchSaysA
import Derived.Maps.AppendAt
import Derived.Laws.AppendOwnNone
import Derived.OwnWalk
import Derived.Test.YtockodmbhnlheaaMatchSaysI
import Derived.Test.YtockodmbhnlheaaMatchSaysC
import Derived.Deep.RegionHeld3
import Derived.Test.YtockodmbhnlheaaMatchSaysB
import Derived.Lib.AppendZeros
import Derived.Test.YtockodmbhnlheaaMatchSaysG
import Derived.Test.YtockodmbhnlheaaMatchSaysH
import Derived.Test.YtockodmbhnlheaaMatchSaysF
import Derived.Test.YtockodmbhnlheaaMatchSaysE
import Derived.Laws.CopyOwn
import Derived.Lib.AppendZerosOnto
import Derived.Lib.Overlaps
import Derived.Laws.Externs
import Derived.Deep.RegionLaw
import Derived.Test.YtockodmbhnlheaaMatchSaysM
import Derived.Maps.Own
import Derived.Maps.OwnOps
import Derived.Maps.Views
import Derived.WalkKit
import Derived.Deep.Draws
import Derived.IntWalk
import Derived.Deep.DeepCutAuto
import Derived.Deep.Cut
import Derived.Test.YtockodmbhnlheaaMatchSaysP
import Derived.Test.YtockodmbhnlheaaMatchSaysN
import Derived.Test.YtockodmbhnlheaaMatchSaysD
import Derived.Test.YtockodmbhnlheaaMatchSaysO
import Derived.Test.YtockodmbhnlheaaMatchSaysK
import Derived.Shelf.SlSortFuncK.SWK
import Derived.Lib.Hide
import Derived.Test.YtockodmbhnlheaaMatchSaysL
import Derived.Shelf.GgSortFunc.SmallK
import Derived.Shelf.GgSortMore.Stable
import Derived.Deep.QuietTactic
import Derived.BigQuiet
import Derived.WalkSpells
import Derived.WalkLawsBesides
import Derived.Sort.WalkA
import Derived.Sort.LotA
import Derived.Test.YtockodmbhnlheaaRows
import Derived.JoinedOf
import Derived.KernelRfl
import Derived.ProofKit
import Derived.OpenShut
import Derived.SizedLaws
import Derived.Deep.Slices
namespace Go.Proofs.Ytockodmbhnlheaa
section
open Go.RowKit
theorem bkr_upM {w:World} {B B' c c':Nat} {A A':Option Addr} {b:Bk} (h:BkR w B A A' c c' b) (hB:B ≤ B'):BkR w B' A A' c c' b:=⟨h.l.up hB,h.r.up hB⟩
set_option maxHeartbeats 8000000 in
set_option maxRecDepth 100000 in
theorem matchSays_walk (b:Bk) (A A':Option Addr) (c c':Nat) (o:Od) (how:Int) (w:World) (h0:Rd w w.heap.size 5 A b.bids.length c (odCells b.bids)) (h0':Rd w w.heap.size 5 A' b.asks.length c' (odCells b.asks)) (s:c * 40 ≤ reachBytes) (s':c' * 40 ≤ reachBytes) :
  Calls Try.prog 20 #[.agg #[.slice A b.bids.length c,.slice A' b.asks.length c'],.agg #[.int .i64 o.id,.int .i64 o.acc,.int .i64 o.side,.int .i64 o.price,.int .i64 o.qty],.int .i64 how] w fun e w'=>e=.returned (.bool true)∧Below w.heap.size w w':=by
 have h:BkR w w.heap.size A A' c c' b:=⟨h0,h0'⟩
 have hl:b.bids.length ≤ 4000000000000:=by have:=h0.le;have:reachBytes=140737488351232:=rfl;omega
 have hl':b.asks.length ≤ 4000000000000:=by have:=h0'.le;have:reachBytes=140737488351232:=rfl;omega
 clear h0 h0' s s'
 obtain ⟨tx,tl,tleft,tmet,te,htake⟩:=take_tup b o
 obtain ⟨cx,cl,cleft,ce,hcome⟩:∃ x l left te,comeOf b o how=(x,l,left,te):=⟨_,_,_,_,rfl⟩
 have HTK:=Lib.hid htake
 have HCM:=Lib.hid hcome
 clear htake hcome
 go_enter Try.func20,Try.ntmps20
 go_wp2_with fail
 refine calls_name ?_
 intro w2 hw2
 have hb2:Below w.heap.size w w2:=by rw [hw2];exact ((Below.refl _ _).alloc (Nat.le_refl _) _).alloc (by simp) _
 have hs2:w2.heap.size=w.heap.size + 1 + 1:=by rw [hw2];simp
 have X1:Blk w2 w.heap.size 62 #[.slice A b.bids.length c,.slice A' b.asks.length c']:=by rw [hw2];exact (Blk.new w _ _).alloc _
 have X2:Blk w2 (w.heap.size + 1) 71 #[.int .i64 o.id,.int .i64 o.acc,.int .i64 o.side,.int .i64 o.price,.int .i64 o.qty]:=by rw [hw2];exact Blk.new_at _ _ _ _ (by simp)
 have HH:=Lib.hid h
 clear hw2 h
 refine (take_bk b o A A' c c' w.heap.size w2 (HH.out.below hb2) (by omega) hl hl').mono ?_
 rw [HTK.out]
 rintro e w3 ⟨P,p,P',p',vf,rfl,hobk,hrow,-,hb3⟩
 have hs3:=hb3.size
 obtain ⟨⟨kX10,kX11⟩,-⟩:=X1.c2
 obtain ⟨⟨kX20,kX21,kX22,kX23,kX24⟩,-⟩:=X2.c5
 clear kX10 kX11
 replace X1:=X1.below hb3 X1.lt
 obtain ⟨⟨kX10,kX11⟩,-⟩:=X1.c2
 clear kX20 kX21 kX22 kX23 kX24
 replace X2:=X2.below hb3 X2.lt
 obtain ⟨⟨kX20,kX21,kX22,kX23,kX24⟩,-⟩:=X2.c5
 have hbR:=hb2.trans (hb3.mono (by omega))
 obtain ⟨AF,cF,rfl⟩:=own_shape hrow
 clear hb2 hb3
 have x1:w.heap.size < w3.heap.size:=by omega
 have x2:w.heap.size + 1 < w3.heap.size:=by omega
 go_wp2_with fail
 refine calls_name ?_
 intro w4 hw4
 have hb4:Below w3.heap.size w3 w4:=by rw [hw4];exact (Below.refl _ _).alloc (Nat.le_refl _) _
 have hs4:w4.heap.size=w3.heap.size + 1:=by rw [hw4];simp
 have X7:Blk w4 w3.heap.size 62 #[.slice P tx.bids.length p,.slice P' tx.asks.length p']:=by rw [hw4];exact Blk.new w3 _ _
 clear kX10 kX11
 replace X1:=X1.below hb4 X1.lt
 obtain ⟨⟨kX10,kX11⟩,-⟩:=X1.c2
 clear kX20 kX21 kX22 kX23 kX24
 replace X2:=X2.below hb4 X2.lt
 obtain ⟨⟨kX20,kX21,kX22,kX23,kX24⟩,-⟩:=X2.c5
 clear hw4
 replace hbR:=hbR.trans (hb4.mono (by omega))
 have HX:=Lib.hid (hobk.read.below hb4)
 have HF:=Lib.hid ((Rd.of_own hrow).below hb4)
 clear hb4 hobk hrow
 refine (come_ref b o how A A' c c' w.heap.size w4 HCM.out (HH.out.below hbR) (by omega) hl hl').mono ?_
 rintro e w5 ⟨Q,q,Q',q',vg,rfl,hobk,hrow,hb5⟩
 have hs5:=hb5.size
 clear kX10 kX11
 replace X1:=X1.below hb5 X1.lt
 obtain ⟨⟨kX10,kX11⟩,-⟩:=X1.c2
 clear kX20 kX21 kX22 kX23 kX24
 replace X2:=X2.below hb5 X2.lt
 obtain ⟨⟨kX20,kX21,kX22,kX23,kX24⟩,-⟩:=X2.c5
 replace X7:=X7.below hb5 X7.lt
 replace hbR:=hbR.trans (hb5.mono (by omega))
 replace HX:=Lib.hid (HX.out.below (hb5.mono (by omega)))
 replace HF:=Lib.hid (HF.out.below (hb5.mono (by omega)))
 obtain ⟨AG,cG,rfl⟩:=own_shape hrow
 clear hb5 x1 x2
 have x1:w.heap.size < w5.heap.size:=by omega
 have x2:w.heap.size + 1 < w5.heap.size:=by omega
 have x3:w3.heap.size < w5.heap.size:=by omega
 go_wp2_with fail
 refine calls_name ?_
 intro w6 hw6
 have hb6:Below w5.heap.size w5 w6:=by rw [hw6];exact ((Below.refl _ _).alloc (Nat.le_refl _) _).alloc (by simp) _
 have hs6:w6.heap.size=w5.heap.size + 1 + 1:=by rw [hw6];simp
 have X12:Blk w6 w5.heap.size 62 #[.slice Q cx.bids.length q,.slice Q' cx.asks.length q']:=by rw [hw6];exact (Blk.new w5 _ _).alloc _
 have X16:Blk w6 (w5.heap.size + 1) 62 #[.slice none 0 0,.slice none 0 0]:=by rw [hw6];exact Blk.new_at _ _ _ _ (by simp)
 clear hw6 x1 x2 x3
 clear kX10 kX11
 replace X1:=X1.below hb6 X1.lt
 obtain ⟨⟨kX10,kX11⟩,-⟩:=X1.c2
 clear kX20 kX21 kX22 kX23 kX24
 replace X2:=X2.below hb6 X2.lt
 obtain ⟨⟨kX20,kX21,kX22,kX23,kX24⟩,-⟩:=X2.c5
 replace X7:=X7.below hb6 X7.lt
 replace hbR:=hbR.trans (hb6.mono (by omega))
 replace HX:=Lib.hid (HX.out.below (hb6.mono (by omega)))
 replace HF:=Lib.hid (HF.out.below (hb6.mono (by omega)))
 have HY:=Lib.hid (hobk.read.below hb6)
 have HG:=Lib.hid ((Rd.of_own hrow).below hb6)
 clear hb6 hobk hrow
 refine (rbook_any b A A' c c' w.heap.size w6 ((HH.out.below hbR).l) ((HH.out.below hbR).r) (by omega) (by omega) (by omega)).mono ?_
 rintro e w7 ⟨rfl,hb7⟩
 have hs7:=hb7.size
 obtain ⟨be,hbe⟩:∃ be,be=bookErr b:=⟨_,rfl⟩
 rw [← hbe]
 have HBE:=Lib.hid hbe
 clear hbe
 clear kX10 kX11
 replace X1:=X1.below hb7 X1.lt
 obtain ⟨⟨kX10,kX11⟩,-⟩:=X1.c2
 clear kX20 kX21 kX22 kX23 kX24
 replace X2:=X2.below hb7 X2.lt
 obtain ⟨⟨kX20,kX21,kX22,kX23,kX24⟩,-⟩:=X2.c5
 replace X7:=X7.below hb7 X7.lt
 replace X12:=X12.below hb7 X12.lt
 replace X16:=X16.below hb7 X16.lt
 replace hbR:=hbR.trans (hb7.mono (by omega))
 replace HX:=Lib.hid (HX.out.below (hb7.mono (by omega)))
 replace HF:=Lib.hid (HF.out.below (hb7.mono (by omega)))
 replace HY:=Lib.hid (HY.out.below (hb7.mono (by omega)))
 replace HG:=Lib.hid (HG.out.below (hb7.mono (by omega)))
 clear hb7
 go_wp2_with fail
 refine (matched_any w7).mono ?_
 rintro e w8 ⟨rfl,hb8⟩
 have hs8:=hb8.size
 clear kX10 kX11
 replace X1:=X1.below hb8 X1.lt
 obtain ⟨⟨kX10,kX11⟩,-⟩:=X1.c2
 clear kX20 kX21 kX22 kX23 kX24
 replace X2:=X2.below hb8 X2.lt
 obtain ⟨⟨kX20,kX21,kX22,kX23,kX24⟩,-⟩:=X2.c5
 replace X7:=X7.below hb8 X7.lt
 replace X12:=X12.below hb8 X12.lt
 replace X16:=X16.below hb8 X16.lt
 obtain ⟨⟨kX70,kX71⟩,-⟩:=X7.c2
 obtain ⟨⟨kX120,kX121⟩,-⟩:=X12.c2
 obtain ⟨⟨kX160,kX161⟩,-⟩:=X16.c2
 replace hbR:=hbR.trans (hb8.mono (by omega))
 replace HX:=Lib.hid (HX.out.below (hb8.mono (by omega)))
 replace HF:=Lib.hid (HF.out.below (hb8.mono (by omega)))
 replace HY:=Lib.hid (HY.out.below (hb8.mono (by omega)))
 replace HG:=Lib.hid (HG.out.below (hb8.mono (by omega)))
 clear hb8
 have hnone:∀ W,BkR W 0 none none 0 0 zeroBk:=fun W=>⟨Rd.none_ _ _ _,Rd.none_ _ _ _⟩
 have HNO:=Lib.hid hnone
 have HSM:=Lib.hid sameBk_self
 clear hnone
 by_cases hbe:be=0
 rotate_left
 ·have hbe0:bookErr b ≠ 0:=by rw [← HBE.out];exact hbe
  have F1:takeOf b o=(zeroBk,[],0,false,bookErr b):=by unfold takeOf;rw [if_pos hbe0]
  have F2:comeOf b o how=(zeroBk,[],0,bookErr b):=by unfold comeOf;rw [if_pos hbe0]
  rw [HTK.out,← HBE.out] at F1
  rw [HCM.out,← HBE.out] at F2
  injection F1 with f1 g1
  injection g1 with f2 g1
  injection g1 with f3 g1
  injection g1 with f4 f5
  injection F2 with f6 g2
  injection g2 with f7 g2
  injection g2 with f8 f9
  clear HTK HCM
  have hbe':(be != 0)=true:=by simpa using hbe
  subst f1 f2 f3 f4 f5 f6 f7 f8 f9
  clear hbe hbe0 HBE
  go_wp2_with fail
  refine (rsame_bk zeroBk zeroBk P P' none none p p' 0 0 w8.heap.size w8 (bkr_upM HX.out (by omega)) (bkr_upM (HNO.out w8) (Nat.zero_le _)) (Nat.le_refl _)).mono ?_
  rw [HSM.out]
  rintro e w9 ⟨rfl,hb9⟩
  have hs9:=hb9.size
  clear kX120 kX121
  replace X12:=X12.below hb9 X12.lt
  obtain ⟨⟨kX120,kX121⟩,-⟩:=X12.c2
  clear kX160 kX161
  replace X16:=X16.below hb9 X16.lt
  obtain ⟨⟨kX160,kX161⟩,-⟩:=X16.c2
  replace hbR:=hbR.trans (hb9.mono (by omega))
  replace HY:=Lib.hid (HY.out.below (hb9.mono (by omega)))
  clear hb9 kX10 kX11 kX20 kX21 kX22 kX23 kX24 kX70 kX71
  go_wp2_with fail
  refine (rsame_bk zeroBk zeroBk Q Q' none none q q' 0 0 w9.heap.size w9 (bkr_upM HY.out (by omega)) (bkr_upM (HNO.out w9) (Nat.zero_le _)) (Nat.le_refl _)).mono ?_
  rw [HSM.out]
  rintro e wa ⟨rfl,hba⟩
  replace hbR:=hbR.trans (hba.mono (by omega))
  clear hba kX120 kX121 kX160 kX161
  go_wp2_with fail
  go_ret
  exact ⟨rfl,hbR⟩
 have HBK:=Lib.hid (bookErr_ok.1 (HBE.out.symm.trans hbe))
 have hlen:=HBK.out.len
 have hte:te=ordErr o:=by have:=take_err o HBK.out;rw [HTK.out] at this;exact this
 subst hbe
 have HTE:=Lib.hid hte
 clear hte HBE
 go_wp2_with fail
 refine (rordErr_any o _).mono ?_
 rintro e w9 ⟨rfl,hb9⟩
 have hs9:=hb9.size
 clear kX10 kX11
 replace X1:=X1.below hb9 X1.lt
 obtain ⟨⟨kX10,kX11⟩,-⟩:=X1.c2
 clear kX20 kX21 kX22 kX23 kX24
 replace X2:=X2.below hb9 X2.lt
 obtain ⟨⟨kX20,kX21,kX22,kX23,kX24⟩,-⟩:=X2.c5
 clear kX70 kX71
 replace X7:=X7.below hb9 X7.lt
 obtain ⟨⟨kX70,kX71⟩,-⟩:=X7.c2
 clear kX120 kX121
 replace X12:=X12.below hb9 X12.lt
 obtain ⟨⟨kX120,kX121⟩,-⟩:=X12.c2
 clear kX160 kX161
 replace X16:=X16.below hb9 X16.lt
 obtain ⟨⟨kX160,kX161⟩,-⟩:=X16.c2
 replace hbR:=hbR.trans (hb9.mono (by omega))
 replace HX:=Lib.hid (HX.out.below (hb9.mono (by omega)))
 replace HF:=Lib.hid (HF.out.below (hb9.mono (by omega)))
 replace HY:=Lib.hid (HY.out.below (hb9.mono (by omega)))
 replace HG:=Lib.hid (HG.out.below (hb9.mono (by omega)))
 clear hb9
 obtain ⟨oe,hoe⟩:∃ e,e=ordErr o:=⟨_,rfl⟩
 have HOE:=Lib.hid hoe
 rw [← hoe] at HTE ⊢
 clear hoe
 have hte:=HTE.out
 subst hte
 clear HTE
 have H99:=Below.refl w9.heap.size w9
 have HHR:=Lib.hid (HH.out.below hbR)
 go_upto_if 88 with (fail)
 go_cut [17] (fun v wx=>v=.int .i64 te∧Below w9.heap.size w9 wx)
 case first =>
  by_cases hoe:te=0
  ·have HO:=Lib.hid (HOE.out.symm.trans hoe)
   subst hoe
   go_wp2_with fail
   refine (rtaken_any b o A A' c c' w.heap.size w9 HHR.out (by omega) HBK.out HO.out).mono ?_
   rw [HTK.out]
   rintro e wa ⟨v,vh,rfl,hown,hrow,hba⟩
   obtain ⟨R,r,R',r',rfl,hobk⟩:=hown.obk
   obtain ⟨AH,cH,rfl⟩:=own_shape hrow
   have hsa:=hba.size
   clear kX70 kX71
   replace X7:=X7.below hba X7.lt
   obtain ⟨⟨kX70,kX71⟩,-⟩:=X7.c2
   replace HX:=Lib.hid (HX.out.below (hba.mono (by omega)))
   replace HF:=Lib.hid (HF.out.below (hba.mono (by omega)))
   clear hown kX10 kX11 kX20 kX21 kX22 kX23 kX24 kX120 kX121 kX160 kX161
   have x7:w3.heap.size < wa.heap.size:=by omega
   go_upto_region 14 with (fail)
   obtain ⟨wb,hwb⟩:∃ x,x=wa.alloc (.cells #[.slice R tx.bids.length r,.slice R' tx.asks.length r'] 62):=⟨_,rfl⟩
   have hbb:Below wa.heap.size wa wb:=by rw [hwb];exact (Below.refl _ _).alloc (Nat.le_refl _) _
   have hsb:wb.heap.size=wa.heap.size + 1:=by rw [hwb];simp
   have X18:Blk wb wa.heap.size 62 #[.slice R tx.bids.length r,.slice R' tx.asks.length r']:=by rw [hwb];exact Blk.new wa _ _
   rw [← hwb]
   clear hwb
   clear kX70 kX71
   replace X7:=X7.below hbb X7.lt
   obtain ⟨⟨kX70,kX71⟩,-⟩:=X7.c2
   obtain ⟨⟨kX180,kX181⟩,-⟩:=X18.c2
   replace HX:=Lib.hid (bkr_upM (HX.out.below (hbb.mono (by omega))) (B':=wb.heap.size) (by omega))
   replace HF:=Lib.hid (Rd.up (HF.out.below (hbb.mono (by omega))) (B':=wb.heap.size) (by omega))
   have HR:=Lib.hid (bkr_upM (hobk.read.below hbb) (B':=wb.heap.size) (by omega))
   have HL:=Lib.hid (Rd.up ((Rd.of_own hrow).below hbb) (B':=wb.heap.size) (by omega))
   have hbz:=hba.trans (hbb.mono (by omega))
   have HS1:=Lib.hid (rsame_bk tx tx P P' R R' p p' r r' wb.heap.size wb HX.out HR.out (Nat.le_refl _))
   rw [HSM.out] at HS1
   have HS2:=Lib.hid (fun W (hW:Below wb.heap.size wb W)=>equal_fls AF AH tl.length cF tl.length cH tl tl wb.heap.size W (HF.out.below hW) (HL.out.below hW) hW.size)
   rw [sameFls_self] at HS2
   have t1:(tleft != tleft)=false:=by simp
   have t2:(tmet != tmet)=false:=by simp
   clear hobk hrow hba hbb
   go_wp2_with (first
    | (go_at_call 88;(with_reducible refine HS1.out.mono ?_);rintro e wd ⟨rfl,hbd⟩)
    | (go_at_call 93;(with_reducible refine (HS2.out _ hbd).mono ?_);rintro e wf ⟨rfl,hbf⟩))
   go_meet
   exact ⟨rfl,hbz.trans ((hbd.trans (hbf.mono hbd.size)).mono (by omega))⟩
  ·have F1:takeOf b o=(zeroBk,[],0,false,te):=by
    rw [HOE.out] at hoe ⊢
    unfold takeOf;rw [if_neg (by have:=bookErr_ok.2 HBK.out;omega),if_pos hoe]
   rw [HTK.out] at F1
   injection F1 with f1 g1
   injection g1 with f2 g1
   injection g1 with f3 g1
   injection g1 with f4 f5
   clear HTK f5
   subst f1 f2 f3 f4
   have t0:(te != 0)=true:=by simpa using hoe
   have t1:(te != te)=false:=by simp
   clear hoe HOE
   have HS1:=Lib.hid (rsame_bk zeroBk zeroBk P P' none none p p' 0 0 w9.heap.size w9 (bkr_upM HX.out (by omega)) (bkr_upM (HNO.out w9) (Nat.zero_le _)) (Nat.le_refl _))
   rw [HSM.out] at HS1
   go_wp2_with (go_at_call 88;refine HS1.out.mono ?_;rintro e wd ⟨rfl,hbd⟩)
   go_meet
   exact ⟨rfl,hbd⟩
 case rest =>
  obtain ⟨rfl,hbc⟩:=hcut
  obtain ⟨wd,rfl⟩:∃ x,x=wc:=⟨wc,rfl⟩
  have hsd:=hbc.size
  clear X7 kX70 kX71 X16 kX160 kX161 HX HF
  clear kX10 kX11
  replace X1:=X1.below hbc X1.lt
  obtain ⟨⟨kX10,kX11⟩,-⟩:=X1.c2
  clear kX20 kX21 kX22 kX23 kX24
  replace X2:=X2.below hbc X2.lt
  obtain ⟨⟨kX20,kX21,kX22,kX23,kX24⟩,-⟩:=X2.c5
  clear kX120 kX121
  replace X12:=X12.below hbc X12.lt
  obtain ⟨⟨kX120,kX121⟩,-⟩:=X12.c2
  replace hbR:=hbR.trans (hbc.mono (by omega))
  replace HY:=Lib.hid (HY.out.below (hbc.mono (by omega)))
  replace HG:=Lib.hid (HG.out.below (hbc.mono (by omega)))
  clear hbc HHR
  go_wp2_with fail
  refine (rcame_any b o how A A' c c' w.heap.size wd (HH.out.below hbR) (by omega) HBK.out).mono ?_
  rw [HCM.out]
  rintro e wa ⟨R,r,R',r',vh,rfl,hobk,hrow,hba⟩
  obtain ⟨AH,cH,rfl⟩:=own_shape hrow
  have hsa:=hba.size
  clear kX120 kX121
  replace X12:=X12.below hba X12.lt
  obtain ⟨⟨kX120,kX121⟩,-⟩:=X12.c2
  replace hbR:=hbR.trans (hba.mono (by omega))
  replace HY:=Lib.hid (HY.out.below (hba.mono (by omega)))
  replace HG:=Lib.hid (HG.out.below (hba.mono (by omega)))
  clear hba kX10 kX11 kX20 kX21 kX22 kX23 kX24
  have x7:w5.heap.size < wa.heap.size:=by omega
  go_upto_region 17 with (fail)
  obtain ⟨wb,hwb⟩:∃ x,x=wa.alloc (.cells #[.slice R cx.bids.length r,.slice R' cx.asks.length r'] 62):=⟨_,rfl⟩
  have hbb:Below wa.heap.size wa wb:=by rw [hwb];exact (Below.refl _ _).alloc (Nat.le_refl _) _
  have hsb:wb.heap.size=wa.heap.size + 1:=by rw [hwb];simp
  have X18:Blk wb wa.heap.size 62 #[.slice R cx.bids.length r,.slice R' cx.asks.length r']:=by rw [hwb];exact Blk.new wa _ _
  rw [← hwb]
  clear hwb
  clear kX120 kX121
  replace X12:=X12.below hbb X12.lt
  obtain ⟨⟨kX120,kX121⟩,-⟩:=X12.c2
  obtain ⟨⟨kX180,kX181⟩,-⟩:=X18.c2
  replace hbR:=hbR.trans (hbb.mono (by omega))
  replace HY:=Lib.hid (bkr_upM (HY.out.below (hbb.mono (by omega))) (B':=wb.heap.size) (by omega))
  replace HG:=Lib.hid (Rd.up (HG.out.below (hbb.mono (by omega))) (B':=wb.heap.size) (by omega))
  have HR:=Lib.hid (bkr_upM (hobk.read.below hbb) (B':=wb.heap.size) (by omega))
  have HL:=Lib.hid (Rd.up ((Rd.of_own hrow).below hbb) (B':=wb.heap.size) (by omega))
  have HS1:=Lib.hid (rsame_bk cx cx Q Q' R R' q q' r r' wb.heap.size wb HY.out HR.out (Nat.le_refl _))
  rw [HSM.out] at HS1
  have HS2:=Lib.hid (fun W (hW:Below wb.heap.size wb W)=>equal_fls AG AH cl.length cG cl.length cH cl cl wb.heap.size W (HG.out.below hW) (HL.out.below hW) hW.size)
  rw [sameFls_self] at HS2
  have t1:(cleft == cleft)=true:=by simp
  have t2:(ce == ce)=true:=by simp
  clear hobk hrow hbb
  go_wp2_with (first
   | (go_at_call 88;(with_reducible refine HS1.out.mono ?_);rintro e wf ⟨rfl,hbf⟩)
   | (go_at_call 93;(with_reducible refine (HS2.out _ hbf).mono ?_);rintro e wg ⟨rfl,hbg⟩))
  go_ret
  exact ⟨rfl,hbR.trans ((hbf.trans (hbg.mono hbf.size)).mono (by omega))⟩
end
section
open Go.ChangeShapes Go.WideShapes Go.ChangeAt Go.RowKit
set_option maxRecDepth 100000 in
theorem matchSays_lifted (os:Os) (started:os.Started) (H:Type) (enc:TypeId × Value→H) :
  ReturnsInHanded {} Try.checked os 20 .any (Rows.matchSaysSpec.pre6 enc Try.prog Try.f20 Rows.matchSaysRow.domain false) (Rows.matchSaysSpec.post enc Try.prog Try.f20 false true false false):=by
 refine returnsInHanded_of_change_sized (C:=Try.checked) row_own started (by kernel_rfl) Try.func20
  (ChangeSpec.witness6 (enc:=enc) (C:=Try.checked) false ⟨#[],#[.agg #[.slice none 0 0,.slice none 0 0],.agg #[.int .i64 0,.int .i64 0,.int .i64 0,.int .i64 0,.int .i64 0],.int .i64 0],[]⟩ 8 (by kernel_rfl) (by kernel_rfl) (by kernel_rfl) (by kernel_rfl)) ?_
 intro W base args ds gs before hval0 hW hcnd hsz _
 have hval:∀ (j:Nat) t v,Try.f20.params[j]?=some t→args[j]?=some v→Value.okWide Try.prog W .any base t v:=hval0
 have hW':=hW
 obtain ⟨p,q,hA0,hV,rfl,hfz,hnd⟩:=hW
 have hA:DataW.TrodAll enc Try.prog W 0 (fun _=>true) true Try.f20.params.toList args.toList ds p:=hA0
 obtain ⟨rfl,rfl⟩:=trodVars_none hV
 have hkeep:=fun W' (bel:Below W.heap.size W W')=>trodAll_below row_laidOut bel (by kernel_rfl) hA
 rw [Try.params20] at hA hval
 obtain ⟨v0,vs0,d0,ds0,p0,q0,hargs,rfl,rfl,h0,tl0⟩:=trodAll_cons hA
 obtain ⟨v1,vs1,d1,ds1,p1,q1,rfl,rfl,rfl,h1,tl1⟩:=trodAll_cons tl0
 obtain ⟨v2,vs2,d2,ds2,p2,q2,rfl,rfl,rfl,h2,tl2⟩:=trodAll_cons tl1
 obtain ⟨rfl,rfl,rfl⟩:=trodAll_nil tl2
 obtain rfl:args = #[v0,v1,v2]:=by cases args;simp_all
 clear hargs
 have hs0:(DataW.weightsEach Try.prog (Try.f20.params.toList ++ Rows.matchSaysSpec.plain.varTypes Try.prog) ([d0,d1,d2] ++ [])).all (· ≤ reachBytes)=true:=hsz
 rw [show Rows.matchSaysSpec.plain.varTypes Try.prog = [] from rfl,List.append_nil,List.append_nil] at hs0
 have hsz':(DataW.weightsEach Try.prog Try.f20.params.toList [d0,d1,d2]).all (· ≤ reachBytes)=true:=hs0
 rw [Try.params20] at hsz'
 obtain ⟨y0,t0⟩:=weights_head hsz'
 obtain ⟨y1,t1⟩:=weights_head t0
 obtain ⟨y2,t2⟩:=weights_head t1
 obtain ⟨b0,A0,Z0,c0,e0,rfl,r0,q0,⟨s0,t0⟩,i0⟩:=opens_book (hval 0 62 v0 rfl rfl) h0 y0
 obtain ⟨o1,rfl,i1⟩:=opens_order (hval 1 71 v1 rfl rfl) h1
 obtain ⟨z2,rfl,i2⟩:=opens_int (hval 2 3 v2 rfl rfl) h2
 refine (matchSays_walk b0 A0 Z0 c0 e0 o1 z2 W r0 q0 s0 t0).mono fun e W' ⟨he,bel⟩=>?_
 subst he
 exact ⟨_,rfl,_,_,_,[],_,[],hW',trodAll_mk1 (shut_bool Try.underlying4 _),hkeep W' bel,rfl,bel.frame _,fun h=>by cases h⟩
set_option maxHeartbeats 4000000 in
theorem matchSays_closed:joinedFacts Try.prog 20 Try.f20 Rows.matchSaysSpec Rows.matchSaysRow=true :=
 joined_mk _ _ _ _ _ (by as_aux_lemma=>kernel_rfl) closed_laid closed_mapsRowed (by as_aux_lemma=>kernel_rfl) (by as_aux_lemma=>kernel_rfl) (by as_aux_lemma=>kernel_rfl) closed_stops (by as_aux_lemma=>kernel_rfl) closed_stopKnobs (by as_aux_lemma=>kernel_rfl) (by as_aux_lemma=>kernel_rfl) (by as_aux_lemma=>kernel_rfl) (by as_aux_lemma=>kernel_rfl) (by as_aux_lemma=>kernel_rfl) (by as_aux_lemma=>kernel_rfl) (by as_aux_lemma=>kernel_rfl) (by as_aux_lemma=>kernel_rfl) (by as_aux_lemma=>kernel_rfl) (by as_aux_lemma=>kernel_rfl) (by as_aux_lemma=>kernel_rfl) (by as_aux_lemma=>kernel_rfl) (by as_aux_lemma=>kernel_rfl) closed_plainKeys (by as_aux_lemma=>kernel_rfl) closed_stopsHeard closed_mayEnter closed_lifted closed_make (by as_aux_lemma=>kernel_rfl) (by as_aux_lemma=>kernel_rfl) (by as_aux_lemma=>kernel_rfl) (by as_aux_lemma=>kernel_rfl)
set_option maxHeartbeats 4000000 in
theorem matchSays_over:Rows.matchSaysRow.holds Try.pinned (OpenSpec.ofChange Rows.matchSaysSpec) :=
 OpenClaim.holds_of_wide 20 Try.f20 rfl rfl rfl rfl rfl rfl rfl ⟨rfl,rfl,rfl,rfl,rfl⟩ rfl rfl rfl rfl rfl (by as_aux_lemma=>kernel_rfl) Try.func20 matchSays_closed
  (of_decide_eq_true (by as_aux_lemma=>kernel_rfl)) (by unfold Func.isWrapper;first | (rw [if_pos (by decide +kernel)];as_aux_lemma=>kernel_rfl) | (rw [if_neg (by decide +kernel)];exact ⟨rfl,rfl⟩))
  (fun os started H enc _=>matchSays_lifted os started H enc)
theorem matchSays_proved:Rows.MatchSaysSaid:=matchSays_over
#print axioms matchSays_proved
end
end Go.Proofs.Ytockodmbhnlheaa
