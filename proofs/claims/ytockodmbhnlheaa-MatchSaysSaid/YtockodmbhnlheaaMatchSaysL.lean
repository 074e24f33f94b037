/-
  THE LAW MatchSays: holds for every input, with no condition. (Joined texts: SymG, Srt, RowK.)
-/
import Derived.Test.YtockodmbhnlheaaMatchSaysK
import Derived.Deep.DeepCutAuto
import Derived.Deep.Cut
import Derived.Test.YtockodmbhnlheaaProg
import Derived.Test.YtockodmbhnlheaaMatchSaysA
import Derived.Maps.AppendAt
import Derived.Laws.AppendOwnNone
import Derived.OwnWalk
import Derived.WalkKit
import Derived.Deep.Draws
import Derived.Shelf.SlSortFuncK.SWK
import Derived.Lib.Hide
import Derived.WalkSpells
import Derived.WalkLawsBesides
import Derived.Deep.QuietTactic
import Derived.BigQuiet
import Derived.Sort.LotA
import Derived.Sort.WalkA
namespace Go.Proofs.Ytockodmbhnlheaa
section
open Go.RowKit Go.Sort Go.Shelf Go.Lib
section
variable {α:Type} [Inhabited α] (enc:α→List Value) (k:Nat) (hk:∀ x,(enc x).length=k) (lt:α→α→Bool) (hO:SWO lt) (g:Nat) (lb:Array Value) (sf:Nat) (sb:Array Value) (blk off:Nat)
include hk hO in
set_option maxHeartbeats 8000000 in
set_option maxRecDepth 100000 in
theorem symMerge_gt 
  (eg:∀ args w,(callFunc g args).run Try.prog w=.ok (.enter g args) w) (n a m b:Nat) (d:Array α) (w:World) (hn:b - a ≤ n + 1) (hless:LessG Try.prog g lb enc k lt blk off d.size w) (hswap:SwapSwapsK Try.prog sf sb enc k blk off d.size)
    (hH:HoldsK enc k w blk off d) (hblk:blk < w.heap.size) (ham:a + 1 < m) (hmb:m + 1 < b) (hb:b ≤ d.size) (hsz:d.size < 4611686018427387904) (hsl:SoF lt a m (atA d)) (hsr:SoF lt m b (atA d))
    (hm:(a + b)/2 < m) (ih:Hid (∀ (a m b:Nat) (d:Array α) (w:World),b - a ≤ n→LessG Try.prog g lb enc k lt blk off d.size w→SwapSwapsK Try.prog sf sb enc k blk off d.size →
     HoldsK enc k w blk off d→blk < w.heap.size→a < m→m < b→b ≤ d.size→d.size < 4611686018427387904→SoF lt a m (atA d)→SoF lt m b (atA d) →
     Calls Try.prog 216 #[.agg #[.func (.func g) #[] lb,.func (.func sf) #[] sb],.int .i64 a,.int .i64 m,.int .i64 b] w fun e w' =>
      e=.returned (.tuple #[])∧∃ d',(PermIn a b d d'∧SoF lt a b (atA d'))∧SK enc k w blk off d' w')) :
    Calls Try.prog 216 #[.agg #[.func (.func g) #[] lb,.func (.func sf) #[] sb],.int .i64 a,.int .i64 m,.int .i64 b] w fun e w' =>
     e=.returned (.tuple #[])∧∃ d',(PermIn a b d d'∧SoF lt a b (atA d'))∧SK enc k w blk off d' w':=by
 have h1:((m:Int) - (a:Int) == 1)=false:=by simp;omega
 have h2:((b:Int) - (m:Int) == 1)=false:=by simp;omega
 obtain ⟨md,emd⟩:∃ md,md=(a + b) / 2:=⟨_,rfl⟩
 rw [← emd] at hm
 obtain ⟨s0,e0⟩:∃ s0,s0=md + m - b:=⟨_,rfl⟩
 obtain ⟨r0,e1⟩:∃ r0,r0=md:=⟨_,rfl⟩
 have HC:=Lib.hid (show CutAt lt (atA d) a m b s0 r0 from ⟨by omega,by omega,.inl ⟨by omega,by omega,by omega⟩,hsl,hsr⟩)
 obtain ⟨g1,g2,g3,g4⟩:=HC.out.ge
 rw [← emd] at g4
 have g5:md + m ≤ s0 + b:=by omega
 have HCL:=Lib.hid (show ∀ c c',s0 ≤ c→c < r0→lt (atA d (md + m - 1 - c)) (atA d c)=false→s0 ≤ c'→c' ≤ c→lt (atA d (md + m - 1 - c')) (atA d c')=false from fun c c' h1 h2 h3 h4 h5=>by rw [emd] at h3 ⊢;exact HC.out.left hO ⟨h1,h2⟩ h3 h4 h5)
 have HCR:=Lib.hid (show ∀ c c',s0 ≤ c→c < r0→lt (atA d (md + m - 1 - c)) (atA d c)=true→c ≤ c'→c' < r0→lt (atA d (md + m - 1 - c')) (atA d c')=true from fun c c' h1 h2 h3 h4 h5=>by rw [emd] at h3 ⊢;exact HC.out.right hO ⟨h1,h2⟩ h3 h4 h5)
 have HCC:=Lib.hid (show ∀ s,s0 ≤ s→s ≤ r0→(∀ c,s0 ≤ c→c < s→lt (atA d (md + m - 1 - c)) (atA d c)=false)→(∀ c,s ≤ c→c < r0→lt (atA d (md + m - 1 - c)) (atA d c)=true) →
   SoF lt a s (rotF (atA d) s m (md + m - s))∧SoF lt s md (rotF (atA d) s m (md + m - s))∧SoF lt md (md + m - s) (rotF (atA d) s m (md + m - s))∧SoF lt (md + m - s) b (rotF (atA d) s m (md + m - s)) ∧
    (∀ i j,a ≤ i→i < md→md ≤ j→j < b→lt (rotF (atA d) s m (md + m - s) j) (rotF (atA d) s m (md + m - s) i)=false) from fun s h1 h2 h3 h4=>by rw [emd] at h3 h4 ⊢;exact HC.out.cut hO h1 h2 h3 h4)
 have g6:a < md:=by omega
 have g7:md < b:=by omega
 clear HC
 have HS0:=Lib.hid e0
 have HR0:=Lib.hid e1
 have g8:b ≤ md + m:=by omega
 have EMD:((a:Int) + (b:Int)) / 2=(md:Int):=by omega
 clear e0 e1 hsl hsr emd
 go_enter Try.func216,Try.ntmps216
 go_wp2_with fail
 clear EMD
 obtain ⟨W1,hW1⟩:∃ W,W=w.alloc (.cells #[.func (.func g) #[] lb,.func (.func sf) #[] sb] 206):=⟨_,rfl⟩
 have hH1:HoldsK enc k W1 blk off d:=by rw [hW1];exact holds_alloc hH hblk
 have hL1:LessG Try.prog g lb enc k lt blk off d.size W1:=by rw [hW1];exact less_alloc hless
 have hb1:blk < W1.heap.size:=by rw [hW1];simp;omega
 have BX:Blk W1 w.heap.size 206 #[.func (.func g) #[] lb,.func (.func sf) #[] sb]:=by rw [hW1];exact Blk.new w _ _
 have hne:w.heap.size ≠ blk:=by omega
 have HB:Hid (∀ (d':Array α) W,SK enc k W1 blk off d' W→SK enc k w blk off d' W):=Lib.hid (fun d' W h=>by rw [hW1] at h;exact swk_base h)
 have hlt1:=BX.lt
 rw [← hW1]
 clear hW1 hH hless
 go_loopw [18,19] (fun vs vr wr=>∃ (s r:Nat),vs=.int .i64 s∧vr=.int .i64 r∧s0 ≤ s∧s ≤ r∧r ≤ r0∧Hid (∀ c,s0 ≤ c→c < s→lt (atA d (md + m - 1 - c)) (atA d c)=false)∧Hid (∀ c,r ≤ c→c < r0→lt (atA d (md + m - 1 - c)) (atA d c)=true)∧Hid (SK enc k W1 blk off d wr)) (fun vs vr _=>(intOf vr).toNat - (intOf vs).toNat)
 case atStart=>exact ⟨s0,r0,by congr 1;have:=HS0.out;omega,by congr 1;have:=HR0.out;omega,by omega,by omega,by omega,Lib.hid (fun h _ _=>by omega),Lib.hid (fun h _ _=>by omega),Lib.hid (SK.start hH1)⟩
 case round =>
  obtain ⟨s,r,rfl,rfl,hs0,hsr,hr0,HL,HR,HS⟩:=hrel
  have c0:=(swk_cell HS.out (i:=0) hne hlt1).trans (BX.cell 0)
  have c1:=(swk_cell HS.out (i:=1) hne hlt1).trans (BX.cell 1)
  by_cases hlt:s < r
  ·have hl:=HS.out.less hL1 rfl (md + m - 1 - (s + r) / 2) ((s + r) / 2) (by omega) (by omega)
   rw [show ((((s + r) / 2:Nat):Int))=((s:Int) + (r:Int)) / 2 by omega,show (((md + m - 1 - (s + r) / 2:Nat):Int))=(md:Int) + (m:Int) - 1 - ((s:Int) + (r:Int)) / 2 by omega] at hl
   have HLL:=Lib.hid hl
   clear hl c1
   rcases bl_cs (lt d[md + m - 1 - (s + r) / 2]! d[(s + r) / 2]!) with hv | hv
   ·rw [hv] at HLL
    have HV:=Lib.hid (show lt (atA d (md + m - 1 - (s + r) / 2)) (atA d ((s + r) / 2))=false from hv)
    clear hv
    go_wp2_with (go_at_fn g;refine HLL.out.mono ?_;rintro e w' ⟨rfl,hbw⟩)
    go_roundw
    case rel=>exact ⟨(s + r) / 2 + 1,r,by congr 1,rfl,by omega,by omega,by omega,Lib.hid (fun c h3 h4=>HCL.out ((s + r) / 2) c (by omega) (by omega) HV.out h3 (by omega)),HR,Lib.hid (HS.out.next hbw)⟩
    case measure=>simp [intOf];omega
   ·rw [hv] at HLL
    have HV:=Lib.hid (show lt (atA d (md + m - 1 - (s + r) / 2)) (atA d ((s + r) / 2))=true from hv)
    clear hv
    go_wp2_with (go_at_fn g;refine HLL.out.mono ?_;rintro e w' ⟨rfl,hbw⟩)
    go_roundw
    case rel=>exact ⟨s,(s + r) / 2,rfl,by congr 1,by omega,by omega,by omega,HL,Lib.hid (fun c h3 h4=>HCR.out ((s + r) / 2) c (by omega) (by omega) HV.out h3 h4),Lib.hid (HS.out.next hbw)⟩
    case measure=>simp [intOf];omega
  ·obtain rfl:s=r:=by omega
   obtain ⟨e,he⟩:∃ e,e=md + m - s:=⟨_,rfl⟩
   have HCUT:=Lib.hid (HCC.out s hs0 hr0 HL.out HR.out)
   rw [← he] at HCUT
   have e1:m ≤ e:=by omega
   have e2:e ≤ b:=by omega
   have e3:md ≤ e:=by omega
   have e4:s ≤ md:=by omega
   have e5:s ≤ m:=by omega
   have e6:a ≤ s:=by omega
   have e7:md < b:=by omega
   have e8:a ≤ md:=by omega
   have HE:(md:Int) + (m:Int) - (s:Int)=(e:Int):=by omega
   clear hlt HL HR hs0 hr0 he HCL HCR HCC
   clear g5 g1 g2 g3 g4
   go_upto_region 40 with (fail)
   clear HE
   go_cut [18,145] (fun v18 v wx=>v18=.int .i64 s∧v=.bool (decide (s < m∧m < e))∧wx=wr)
   case first =>
    by_cases hp:s < m
    ·by_cases hq:m < e
     ·have HD:=Lib.hid (decide_eq_true (show s < m∧m < e from ⟨hp,hq⟩))
      go_wp2_with fail
      go_meet
      exact ⟨rfl,by first | (rw [HD.out];done) | (rw [HD.out,decide_eq_false (by omega)]) | (rw [HD.out,decide_eq_true (by omega)]),rfl⟩
     ·have HD:=Lib.hid (decide_eq_false (show ¬ (s < m∧m < e) by omega))
      have hq':=Nat.le_of_not_lt hq
      clear hq
      go_wp2_with fail
      go_meet
      exact ⟨rfl,by first | (rw [HD.out];done) | (rw [HD.out,decide_eq_false (by omega)]) | (rw [HD.out,decide_eq_true (by omega)]),rfl⟩
    ·first
      | (exfalso;omega)
      | (have HD:=Lib.hid (decide_eq_false (show ¬ (s < m∧m < e) by omega))
         have hp':=Nat.le_of_not_lt hp
         clear hp
         go_wp2_with fail
         go_meet
         exact ⟨rfl,by first | (rw [HD.out];done) | (rw [HD.out,decide_eq_false (by omega)]) | (rw [HD.out,decide_eq_true (by omega)]),rfl⟩)
   obtain ⟨rfl,rfl,rfl⟩:=hcut
   go_upto_if 145 with (fail)
   go_cut [18] (fun v18 wx=>v18=.int .i64 s∧∃ d2:Array α,Hid (PermIn a b d d2)∧Hid (∀ x,atA d2 x=rotF (atA d) s m e x)∧Hid (d2.size=d.size)∧Hid (SK enc k W1 blk off d2 wx))
   case first =>
    by_cases hrot:s < m∧m < e
    ·have HRO:=Lib.hid (rotate_any enc k hk g lb sf sb blk off s m e d _ hswap (HS.out.holds hb1 hH1 rfl) (HS.out.lt hb1) hrot.1 hrot.2 (by omega) hsz)
     rw [decide_eq_true hrot]
     clear hrot
     go_wp2_with (go_at_call 228;refine HRO.out.mono ?_;rintro e' W2 ⟨rfl,d2,⟨hp2,hf2⟩,hS2⟩)
     have HP2:=Lib.hid (permIn_mono _ _ _ _ _ _ e6 e2 hb hp2)
     have HF2:=Lib.hid hf2
     have HZ2:=Lib.hid hp2.1
     have HS2:=Lib.hid (swk_trans HS.out hS2 hp2.1)
     clear hp2 hf2 hS2
     go_meet
     exact ⟨rfl,d2,HP2,HF2,HZ2,HS2⟩
    ·have HF2:Hid (∀ x,atA d x=rotF (atA d) s m e x):=Lib.hid (fun x=>by
      rcases (show s=m∨m=e by omega) with h | h
      ·rw [h];exact (rot_left _ _ _ _).symm
      ·rw [← h];exact (rot_right _ _ _ _).symm)
     rw [decide_eq_false hrot]
     clear hrot
     go_wp2_with fail
     go_meet
     exact ⟨rfl,d,Lib.hid (permIn_refl _ _ _),HF2,Lib.hid rfl,HS⟩
   obtain ⟨rfl,d2,HP2,HF2,HZ2,HS2⟩:=hcut
   obtain ⟨w2,hw2⟩:∃ x,x=wc:=⟨wc,rfl⟩
   rw [← hw2] at HS2 ⊢
   clear c0 c1 HS hw2
   have c0:=(swk_cell HS2.out (i:=0) hne hlt1).trans (BX.cell 0)
   have c1:=(swk_cell HS2.out (i:=1) hne hlt1).trans (BX.cell 1)
   have HQ1:=Lib.hid (so_congr HCUT.out.1 (f:=atA d2) fun x _ _=>HF2.out x)
   have HQ2:=Lib.hid (so_congr HCUT.out.2.1 (f:=atA d2) fun x _ _=>HF2.out x)
   have HRL:=Lib.hid (show ∀ i j,a ≤ i→i < md→md ≤ j→j < b→lt (atA d2 j) (atA d2 i)=false from fun i j h1 h2 h3 h4=>by rw [HF2.out,HF2.out];exact HCUT.out.2.2.2.2 i j h1 h2 h3 h4)
   go_upto_region 42 with (fail)
   go_cut [18,158] (fun v18 v wx=>v18=.int .i64 s∧v=.bool (decide (a < s∧s < md))∧wx=w2)
   case first =>
    by_cases hp:a < s
    ·by_cases hq:s < md
     ·have HD:=Lib.hid (decide_eq_true (show a < s∧s < md from ⟨hp,hq⟩))
      go_wp2_with fail
      go_meet
      exact ⟨rfl,by first | (rw [HD.out];done) | (rw [HD.out,decide_eq_false (by omega)]) | (rw [HD.out,decide_eq_true (by omega)]),rfl⟩
     ·have HD:=Lib.hid (decide_eq_false (show ¬ (a < s∧s < md) by omega))
      have hq':=Nat.le_of_not_lt hq
      clear hq
      go_wp2_with fail
      go_meet
      exact ⟨rfl,by first | (rw [HD.out];done) | (rw [HD.out,decide_eq_false (by omega)]) | (rw [HD.out,decide_eq_true (by omega)]),rfl⟩
    ·first
      | (exfalso;omega)
      | (have HD:=Lib.hid (decide_eq_false (show ¬ (a < s∧s < md) by omega))
         have hp':=Nat.le_of_not_lt hp
         clear hp
         go_wp2_with fail
         go_meet
         exact ⟨rfl,by first | (rw [HD.out];done) | (rw [HD.out,decide_eq_false (by omega)]) | (rw [HD.out,decide_eq_true (by omega)]),rfl⟩)
   obtain ⟨rfl,rfl,rfl⟩:=hcut
   go_upto_if 158 with (fail)
   go_cut [18] (fun v18 wx=>v18=.int .i64 s∧∃ d3:Array α,Hid (PermIn a md d2 d3)∧Hid (SoF lt a md (atA d3))∧Hid (SK enc k W1 blk off d3 wx))
   case first =>
    by_cases hll:a < s∧s < md
    ·have HC:=Lib.hid (ih.out a s md d2 _ (by omega) (by rw [HZ2.out];exact HS2.out.lessReads hL1 HZ2.out) (by rw [HZ2.out];exact hswap) (HS2.out.holds hb1 hH1 HZ2.out) (HS2.out.lt hb1) hll.1 hll.2 (by rw [HZ2.out];omega) (by rw [HZ2.out];exact hsz) HQ1.out HQ2.out)
     rw [decide_eq_true hll]
     clear hll
     go_wp2_with (go_at_call 216;refine HC.out.mono ?_;rintro e' W3 ⟨rfl,d3,⟨hp3,hf3⟩,hS3⟩)
     have HP3:=Lib.hid hp3
     have HSO3:=Lib.hid hf3
     have HS3:=Lib.hid (swk_trans HS2.out hS3 hp3.1)
     clear hp3 hf3 hS3
     go_meet
     exact ⟨rfl,d3,HP3,HSO3,HS3⟩
    ·have HSO3:=Lib.hid (so_one HQ1.out HQ2.out (by omega))
     rw [decide_eq_false hll]
     clear hll
     go_wp2_with fail
     go_meet
     exact ⟨rfl,d2,Lib.hid (permIn_refl _ _ _),HSO3,HS2⟩
   obtain ⟨rfl,d3,HP3,HSO3,HS3⟩:=hcut
   obtain ⟨w3,hw3⟩:∃ x,x=wc:=⟨wc,rfl⟩
   rw [← hw3] at HS3 ⊢
   clear c0 c1 HS2 HQ1 HQ2 hw3
   have c0:=(swk_cell HS3.out (i:=0) hne hlt1).trans (BX.cell 0)
   have c1:=(swk_cell HS3.out (i:=1) hne hlt1).trans (BX.cell 1)
   have HZ3:=Lib.hid (HP3.out.1.trans HZ2.out)
   have HQ1:=Lib.hid (so_congr HCUT.out.2.2.1 (f:=atA d3) fun x hx _=>(HP3.out.2.1 x (.inr hx)).trans (HF2.out x))
   have HQ2:=Lib.hid (so_congr HCUT.out.2.2.2.1 (f:=atA d3) fun x hx _=>(HP3.out.2.1 x (.inr (by omega))).trans (HF2.out x))
   by_cases hrr:md < e∧e < b
   ·have HC:=Lib.hid (ih.out md e b d3 w3 (by omega) (by rw [HZ3.out];exact HS3.out.lessReads hL1 HZ3.out) (by rw [HZ3.out];exact hswap) (HS3.out.holds hb1 hH1 HZ3.out) (HS3.out.lt hb1) hrr.1 hrr.2 (by rw [HZ3.out];exact hb) (by rw [HZ3.out];exact hsz) HQ1.out HQ2.out)
    obtain ⟨r1,r2⟩:=hrr
    go_wp2_with (go_at_call 216;refine HC.out.mono ?_;rintro e' w4 ⟨rfl,d4,⟨hp4,hf4⟩,hS4⟩)
    go_end0
    exact ⟨rfl,d4,sym_end HP2.out HRL.out HP3.out HSO3.out hp4 hf4 e8 (by omega) hb,HB.out _ _ (swk_trans HS3.out hS4 (hp4.1))⟩
   ·have HSO4:=Lib.hid (so_one HQ1.out HQ2.out (by omega))
    rcases (show e ≤ md∨md < e∧b ≤ e by omega) with r1 | ⟨r1,r2⟩
    all_goals first | (exfalso;omega) | (clear hrr;go_wp2_with fail;go_end0;exact ⟨rfl,d3,sym_end HP2.out HRL.out HP3.out HSO3.out (permIn_refl _ _ _) HSO4.out e8 (by omega) hb,HB.out _ _ HS3.out⟩)
include hk hO in
set_option maxHeartbeats 8000000 in
set_option maxRecDepth 100000 in
theorem symMerge_le 
  (eg:∀ args w,(callFunc g args).run Try.prog w=.ok (.enter g args) w) (n a m b:Nat) (d:Array α) (w:World) (hn:b - a ≤ n + 1) (hless:LessG Try.prog g lb enc k lt blk off d.size w) (hswap:SwapSwapsK Try.prog sf sb enc k blk off d.size)
    (hH:HoldsK enc k w blk off d) (hblk:blk < w.heap.size) (ham:a + 1 < m) (hmb:m + 1 < b) (hb:b ≤ d.size) (hsz:d.size < 4611686018427387904) (hsl:SoF lt a m (atA d)) (hsr:SoF lt m b (atA d))
    (hm:m ≤ (a + b)/2) (ih:Hid (∀ (a m b:Nat) (d:Array α) (w:World),b - a ≤ n→LessG Try.prog g lb enc k lt blk off d.size w→SwapSwapsK Try.prog sf sb enc k blk off d.size →
     HoldsK enc k w blk off d→blk < w.heap.size→a < m→m < b→b ≤ d.size→d.size < 4611686018427387904→SoF lt a m (atA d)→SoF lt m b (atA d) →
     Calls Try.prog 216 #[.agg #[.func (.func g) #[] lb,.func (.func sf) #[] sb],.int .i64 a,.int .i64 m,.int .i64 b] w fun e w' =>
      e=.returned (.tuple #[])∧∃ d',(PermIn a b d d'∧SoF lt a b (atA d'))∧SK enc k w blk off d' w')) :
    Calls Try.prog 216 #[.agg #[.func (.func g) #[] lb,.func (.func sf) #[] sb],.int .i64 a,.int .i64 m,.int .i64 b] w fun e w' =>
     e=.returned (.tuple #[])∧∃ d',(PermIn a b d d'∧SoF lt a b (atA d'))∧SK enc k w blk off d' w':=by
 have h1:((m:Int) - (a:Int) == 1)=false:=by simp;omega
 have h2:((b:Int) - (m:Int) == 1)=false:=by simp;omega
 obtain ⟨md,emd⟩:∃ md,md=(a + b) / 2:=⟨_,rfl⟩
 rw [← emd] at hm
 obtain ⟨s0,e0⟩:∃ s0,s0=a:=⟨_,rfl⟩
 obtain ⟨r0,e1⟩:∃ r0,r0=m:=⟨_,rfl⟩
 have HC:=Lib.hid (show CutAt lt (atA d) a m b s0 r0 from ⟨by omega,by omega,.inr ⟨by omega,by omega,by omega⟩,hsl,hsr⟩)
 obtain ⟨g1,g2,g3,g4⟩:=HC.out.ge
 rw [← emd] at g4
 have g5:md + m ≤ s0 + b:=by omega
 have HCL:=Lib.hid (show ∀ c c',s0 ≤ c→c < r0→lt (atA d (md + m - 1 - c)) (atA d c)=false→s0 ≤ c'→c' ≤ c→lt (atA d (md + m - 1 - c')) (atA d c')=false from fun c c' h1 h2 h3 h4 h5=>by rw [emd] at h3 ⊢;exact HC.out.left hO ⟨h1,h2⟩ h3 h4 h5)
 have HCR:=Lib.hid (show ∀ c c',s0 ≤ c→c < r0→lt (atA d (md + m - 1 - c)) (atA d c)=true→c ≤ c'→c' < r0→lt (atA d (md + m - 1 - c')) (atA d c')=true from fun c c' h1 h2 h3 h4 h5=>by rw [emd] at h3 ⊢;exact HC.out.right hO ⟨h1,h2⟩ h3 h4 h5)
 have HCC:=Lib.hid (show ∀ s,s0 ≤ s→s ≤ r0→(∀ c,s0 ≤ c→c < s→lt (atA d (md + m - 1 - c)) (atA d c)=false)→(∀ c,s ≤ c→c < r0→lt (atA d (md + m - 1 - c)) (atA d c)=true) →
   SoF lt a s (rotF (atA d) s m (md + m - s))∧SoF lt s md (rotF (atA d) s m (md + m - s))∧SoF lt md (md + m - s) (rotF (atA d) s m (md + m - s))∧SoF lt (md + m - s) b (rotF (atA d) s m (md + m - s)) ∧
    (∀ i j,a ≤ i→i < md→md ≤ j→j < b→lt (rotF (atA d) s m (md + m - s) j) (rotF (atA d) s m (md + m - s) i)=false) from fun s h1 h2 h3 h4=>by rw [emd] at h3 h4 ⊢;exact HC.out.cut hO h1 h2 h3 h4)
 have g6:a < md:=by omega
 have g7:md < b:=by omega
 clear HC
 have HS0:=Lib.hid e0
 have HR0:=Lib.hid e1
 have hd1:decide (md < m)=false:=decide_eq_false (by omega)
 have hd2:decide ((md:Int) < (m:Int))=false:=decide_eq_false (by omega)
 have EMD:((a:Int) + (b:Int)) / 2=(md:Int):=by omega
 clear e0 e1 hsl hsr emd
 go_enter Try.func216,Try.ntmps216
 go_wp2_with fail
 clear EMD
 obtain ⟨W1,hW1⟩:∃ W,W=w.alloc (.cells #[.func (.func g) #[] lb,.func (.func sf) #[] sb] 206):=⟨_,rfl⟩
 have hH1:HoldsK enc k W1 blk off d:=by rw [hW1];exact holds_alloc hH hblk
 have hL1:LessG Try.prog g lb enc k lt blk off d.size W1:=by rw [hW1];exact less_alloc hless
 have hb1:blk < W1.heap.size:=by rw [hW1];simp;omega
 have BX:Blk W1 w.heap.size 206 #[.func (.func g) #[] lb,.func (.func sf) #[] sb]:=by rw [hW1];exact Blk.new w _ _
 have hne:w.heap.size ≠ blk:=by omega
 have HB:Hid (∀ (d':Array α) W,SK enc k W1 blk off d' W→SK enc k w blk off d' W):=Lib.hid (fun d' W h=>by rw [hW1] at h;exact swk_base h)
 have hlt1:=BX.lt
 rw [← hW1]
 clear hW1 hH hless
 go_loopw [18,19] (fun vs vr wr=>∃ (s r:Nat),vs=.int .i64 s∧vr=.int .i64 r∧s0 ≤ s∧s ≤ r∧r ≤ r0∧Hid (∀ c,s0 ≤ c→c < s→lt (atA d (md + m - 1 - c)) (atA d c)=false)∧Hid (∀ c,r ≤ c→c < r0→lt (atA d (md + m - 1 - c)) (atA d c)=true)∧Hid (SK enc k W1 blk off d wr)) (fun vs vr _=>(intOf vr).toNat - (intOf vs).toNat)
 case atStart=>exact ⟨s0,r0,by congr 1;have:=HS0.out;omega,by congr 1;have:=HR0.out;omega,by omega,by omega,by omega,Lib.hid (fun h _ _=>by omega),Lib.hid (fun h _ _=>by omega),Lib.hid (SK.start hH1)⟩
 case round =>
  obtain ⟨s,r,rfl,rfl,hs0,hsr,hr0,HL,HR,HS⟩:=hrel
  have c0:=(swk_cell HS.out (i:=0) hne hlt1).trans (BX.cell 0)
  have c1:=(swk_cell HS.out (i:=1) hne hlt1).trans (BX.cell 1)
  by_cases hlt:s < r
  ·have hl:=HS.out.less hL1 rfl (md + m - 1 - (s + r) / 2) ((s + r) / 2) (by omega) (by omega)
   rw [show ((((s + r) / 2:Nat):Int))=((s:Int) + (r:Int)) / 2 by omega,show (((md + m - 1 - (s + r) / 2:Nat):Int))=(md:Int) + (m:Int) - 1 - ((s:Int) + (r:Int)) / 2 by omega] at hl
   have HLL:=Lib.hid hl
   clear hl c1
   rcases bl_cs (lt d[md + m - 1 - (s + r) / 2]! d[(s + r) / 2]!) with hv | hv
   ·rw [hv] at HLL
    have HV:=Lib.hid (show lt (atA d (md + m - 1 - (s + r) / 2)) (atA d ((s + r) / 2))=false from hv)
    clear hv
    go_wp2_with (go_at_fn g;refine HLL.out.mono ?_;rintro e w' ⟨rfl,hbw⟩)
    go_roundw
    case rel=>exact ⟨(s + r) / 2 + 1,r,by congr 1,rfl,by omega,by omega,by omega,Lib.hid (fun c h3 h4=>HCL.out ((s + r) / 2) c (by omega) (by omega) HV.out h3 (by omega)),HR,Lib.hid (HS.out.next hbw)⟩
    case measure=>simp [intOf];omega
   ·rw [hv] at HLL
    have HV:=Lib.hid (show lt (atA d (md + m - 1 - (s + r) / 2)) (atA d ((s + r) / 2))=true from hv)
    clear hv
    go_wp2_with (go_at_fn g;refine HLL.out.mono ?_;rintro e w' ⟨rfl,hbw⟩)
    go_roundw
    case rel=>exact ⟨s,(s + r) / 2,rfl,by congr 1,by omega,by omega,by omega,HL,Lib.hid (fun c h3 h4=>HCR.out ((s + r) / 2) c (by omega) (by omega) HV.out h3 h4),Lib.hid (HS.out.next hbw)⟩
    case measure=>simp [intOf];omega
  ·obtain rfl:s=r:=by omega
   obtain ⟨e,he⟩:∃ e,e=md + m - s:=⟨_,rfl⟩
   have HCUT:=Lib.hid (HCC.out s hs0 hr0 HL.out HR.out)
   rw [← he] at HCUT
   have e1:m ≤ e:=by omega
   have e2:e ≤ b:=by omega
   have e3:md ≤ e:=by omega
   have e4:s ≤ md:=by omega
   have e5:s ≤ m:=by omega
   have e6:a ≤ s:=by omega
   have e7:md < b:=by omega
   have e8:a ≤ md:=by omega
   have HE:(md:Int) + (m:Int) - (s:Int)=(e:Int):=by omega
   clear hlt HL HR hs0 hr0 he HCL HCR HCC
   clear g5 g1 g2 g3 g4
   go_upto_region 40 with (fail)
   clear HE
   go_cut [18,145] (fun v18 v wx=>v18=.int .i64 s∧v=.bool (decide (s < m∧m < e))∧wx=wr)
   case first =>
    by_cases hp:s < m
    ·by_cases hq:m < e
     ·have HD:=Lib.hid (decide_eq_true (show s < m∧m < e from ⟨hp,hq⟩))
      go_wp2_with fail
      go_meet
      exact ⟨rfl,by first | (rw [HD.out];done) | (rw [HD.out,decide_eq_false (by omega)]) | (rw [HD.out,decide_eq_true (by omega)]),rfl⟩
     ·have HD:=Lib.hid (decide_eq_false (show ¬ (s < m∧m < e) by omega))
      have hq':=Nat.le_of_not_lt hq
      clear hq
      go_wp2_with fail
      go_meet
      exact ⟨rfl,by first | (rw [HD.out];done) | (rw [HD.out,decide_eq_false (by omega)]) | (rw [HD.out,decide_eq_true (by omega)]),rfl⟩
    ·first
      | (exfalso;omega)
      | (have HD:=Lib.hid (decide_eq_false (show ¬ (s < m∧m < e) by omega))
         have hp':=Nat.le_of_not_lt hp
         clear hp
         go_wp2_with fail
         go_meet
         exact ⟨rfl,by first | (rw [HD.out];done) | (rw [HD.out,decide_eq_false (by omega)]) | (rw [HD.out,decide_eq_true (by omega)]),rfl⟩)
   obtain ⟨rfl,rfl,rfl⟩:=hcut
   go_upto_if 145 with (fail)
   go_cut [18] (fun v18 wx=>v18=.int .i64 s∧∃ d2:Array α,Hid (PermIn a b d d2)∧Hid (∀ x,atA d2 x=rotF (atA d) s m e x)∧Hid (d2.size=d.size)∧Hid (SK enc k W1 blk off d2 wx))
   case first =>
    by_cases hrot:s < m∧m < e
    ·have HRO:=Lib.hid (rotate_any enc k hk g lb sf sb blk off s m e d _ hswap (HS.out.holds hb1 hH1 rfl) (HS.out.lt hb1) hrot.1 hrot.2 (by omega) hsz)
     rw [decide_eq_true hrot]
     clear hrot
     go_wp2_with (go_at_call 228;refine HRO.out.mono ?_;rintro e' W2 ⟨rfl,d2,⟨hp2,hf2⟩,hS2⟩)
     have HP2:=Lib.hid (permIn_mono _ _ _ _ _ _ e6 e2 hb hp2)
     have HF2:=Lib.hid hf2
     have HZ2:=Lib.hid hp2.1
     have HS2:=Lib.hid (swk_trans HS.out hS2 hp2.1)
     clear hp2 hf2 hS2
     go_meet
     exact ⟨rfl,d2,HP2,HF2,HZ2,HS2⟩
    ·have HF2:Hid (∀ x,atA d x=rotF (atA d) s m e x):=Lib.hid (fun x=>by
      rcases (show s=m∨m=e by omega) with h | h
      ·rw [h];exact (rot_left _ _ _ _).symm
      ·rw [← h];exact (rot_right _ _ _ _).symm)
     rw [decide_eq_false hrot]
     clear hrot
     go_wp2_with fail
     go_meet
     exact ⟨rfl,d,Lib.hid (permIn_refl _ _ _),HF2,Lib.hid rfl,HS⟩
   obtain ⟨rfl,d2,HP2,HF2,HZ2,HS2⟩:=hcut
   obtain ⟨w2,hw2⟩:∃ x,x=wc:=⟨wc,rfl⟩
   rw [← hw2] at HS2 ⊢
   clear c0 c1 HS hw2
   have c0:=(swk_cell HS2.out (i:=0) hne hlt1).trans (BX.cell 0)
   have c1:=(swk_cell HS2.out (i:=1) hne hlt1).trans (BX.cell 1)
   have HQ1:=Lib.hid (so_congr HCUT.out.1 (f:=atA d2) fun x _ _=>HF2.out x)
   have HQ2:=Lib.hid (so_congr HCUT.out.2.1 (f:=atA d2) fun x _ _=>HF2.out x)
   have HRL:=Lib.hid (show ∀ i j,a ≤ i→i < md→md ≤ j→j < b→lt (atA d2 j) (atA d2 i)=false from fun i j h1 h2 h3 h4=>by rw [HF2.out,HF2.out];exact HCUT.out.2.2.2.2 i j h1 h2 h3 h4)
   go_upto_region 42 with (fail)
   go_cut [18,158] (fun v18 v wx=>v18=.int .i64 s∧v=.bool (decide (a < s∧s < md))∧wx=w2)
   case first =>
    by_cases hp:a < s
    ·by_cases hq:s < md
     ·have HD:=Lib.hid (decide_eq_true (show a < s∧s < md from ⟨hp,hq⟩))
      go_wp2_with fail
      go_meet
      exact ⟨rfl,by first | (rw [HD.out];done) | (rw [HD.out,decide_eq_false (by omega)]) | (rw [HD.out,decide_eq_true (by omega)]),rfl⟩
     ·have HD:=Lib.hid (decide_eq_false (show ¬ (a < s∧s < md) by omega))
      have hq':=Nat.le_of_not_lt hq
      clear hq
      go_wp2_with fail
      go_meet
      exact ⟨rfl,by first | (rw [HD.out];done) | (rw [HD.out,decide_eq_false (by omega)]) | (rw [HD.out,decide_eq_true (by omega)]),rfl⟩
    ·first
      | (exfalso;omega)
      | (have HD:=Lib.hid (decide_eq_false (show ¬ (a < s∧s < md) by omega))
         have hp':=Nat.le_of_not_lt hp
         clear hp
         go_wp2_with fail
         go_meet
         exact ⟨rfl,by first | (rw [HD.out];done) | (rw [HD.out,decide_eq_false (by omega)]) | (rw [HD.out,decide_eq_true (by omega)]),rfl⟩)
   obtain ⟨rfl,rfl,rfl⟩:=hcut
   go_upto_if 158 with (fail)
   go_cut [18] (fun v18 wx=>v18=.int .i64 s∧∃ d3:Array α,Hid (PermIn a md d2 d3)∧Hid (SoF lt a md (atA d3))∧Hid (SK enc k W1 blk off d3 wx))
   case first =>
    by_cases hll:a < s∧s < md
    ·have HC:=Lib.hid (ih.out a s md d2 _ (by omega) (by rw [HZ2.out];exact HS2.out.lessReads hL1 HZ2.out) (by rw [HZ2.out];exact hswap) (HS2.out.holds hb1 hH1 HZ2.out) (HS2.out.lt hb1) hll.1 hll.2 (by rw [HZ2.out];omega) (by rw [HZ2.out];exact hsz) HQ1.out HQ2.out)
     rw [decide_eq_true hll]
     clear hll
     go_wp2_with (go_at_call 216;refine HC.out.mono ?_;rintro e' W3 ⟨rfl,d3,⟨hp3,hf3⟩,hS3⟩)
     have HP3:=Lib.hid hp3
     have HSO3:=Lib.hid hf3
     have HS3:=Lib.hid (swk_trans HS2.out hS3 hp3.1)
     clear hp3 hf3 hS3
     go_meet
     exact ⟨rfl,d3,HP3,HSO3,HS3⟩
    ·have HSO3:=Lib.hid (so_one HQ1.out HQ2.out (by omega))
     rw [decide_eq_false hll]
     clear hll
     go_wp2_with fail
     go_meet
     exact ⟨rfl,d2,Lib.hid (permIn_refl _ _ _),HSO3,HS2⟩
   obtain ⟨rfl,d3,HP3,HSO3,HS3⟩:=hcut
   obtain ⟨w3,hw3⟩:∃ x,x=wc:=⟨wc,rfl⟩
   rw [← hw3] at HS3 ⊢
   clear c0 c1 HS2 HQ1 HQ2 hw3
   have c0:=(swk_cell HS3.out (i:=0) hne hlt1).trans (BX.cell 0)
   have c1:=(swk_cell HS3.out (i:=1) hne hlt1).trans (BX.cell 1)
   have HZ3:=Lib.hid (HP3.out.1.trans HZ2.out)
   have HQ1:=Lib.hid (so_congr HCUT.out.2.2.1 (f:=atA d3) fun x hx _=>(HP3.out.2.1 x (.inr hx)).trans (HF2.out x))
   have HQ2:=Lib.hid (so_congr HCUT.out.2.2.2.1 (f:=atA d3) fun x hx _=>(HP3.out.2.1 x (.inr (by omega))).trans (HF2.out x))
   by_cases hrr:md < e∧e < b
   ·have HC:=Lib.hid (ih.out md e b d3 w3 (by omega) (by rw [HZ3.out];exact HS3.out.lessReads hL1 HZ3.out) (by rw [HZ3.out];exact hswap) (HS3.out.holds hb1 hH1 HZ3.out) (HS3.out.lt hb1) hrr.1 hrr.2 (by rw [HZ3.out];exact hb) (by rw [HZ3.out];exact hsz) HQ1.out HQ2.out)
    obtain ⟨r1,r2⟩:=hrr
    go_wp2_with (go_at_call 216;refine HC.out.mono ?_;rintro e' w4 ⟨rfl,d4,⟨hp4,hf4⟩,hS4⟩)
    go_end0
    exact ⟨rfl,d4,sym_end HP2.out HRL.out HP3.out HSO3.out hp4 hf4 e8 (by omega) hb,HB.out _ _ (swk_trans HS3.out hS4 (hp4.1))⟩
   ·have HSO4:=Lib.hid (so_one HQ1.out HQ2.out (by omega))
    rcases (show e ≤ md∨md < e∧b ≤ e by omega) with r1 | ⟨r1,r2⟩
    all_goals first | (exfalso;omega) | (clear hrr;go_wp2_with fail;go_end0;exact ⟨rfl,d3,sym_end HP2.out HRL.out HP3.out HSO3.out (permIn_refl _ _ _) HSO4.out e8 (by omega) hb,HB.out _ _ HS3.out⟩)
include hk hO in
theorem symMerge_any (eg:∀ args w,(callFunc g args).run Try.prog w=.ok (.enter g args) w):∀ (n a m b:Nat) (d:Array α) (w:World),b - a ≤ n→LessG Try.prog g lb enc k lt blk off d.size w→SwapSwapsK Try.prog sf sb enc k blk off d.size →
  HoldsK enc k w blk off d→blk < w.heap.size→a < m→m < b→b ≤ d.size→d.size < 4611686018427387904→SoF lt a m (atA d)→SoF lt m b (atA d) →
  Calls Try.prog 216 #[.agg #[.func (.func g) #[] lb,.func (.func sf) #[] sb],.int .i64 a,.int .i64 m,.int .i64 b] w fun e w' =>
   e=.returned (.tuple #[])∧∃ d',(PermIn a b d d'∧SoF lt a b (atA d'))∧SK enc k w blk off d' w'
 | 0,a,m,b,d,w=>fun hn _ _ _ _ ham hmb _ _ _ _=>by omega
 | n + 1,a,m,b,d,w=>fun hn hless hswap hH hblk ham hmb hb hsz hsl hsr=>by
  have ih:=Lib.hid (symMerge_any eg n)
  by_cases h1':m=a + 1
  ·exact symMerge_left enc k hk lt hO g lb sf sb blk off a m b d w eg hless hswap hH hblk h1' hmb hb hsz hsr
  by_cases h2':b=m + 1
  ·exact symMerge_right enc k hk lt hO g lb sf sb blk off a m b d w eg hless hswap hH hblk (by omega) h2' hb hsz hsl
  by_cases hm:(a + b) / 2 < m
  ·exact symMerge_gt enc k hk lt hO g lb sf sb blk off eg n a m b d w hn hless hswap hH hblk (by omega) (by omega) hb hsz hsl hsr hm ih
  ·exact symMerge_le enc k hk lt hO g lb sf sb blk off eg n a m b d w hn hless hswap hH hblk (by omega) (by omega) hb hsz hsl hsr (by omega) ih
end
end
section
open Go.RowKit Go.Sort Go.Shelf Go.Lib
section
variable {α:Type} [Inhabited α] (enc:α→List Value) (k:Nat) (hk:∀ x,(enc x).length=k) (lt:α→α→Bool) (hO:SWO lt) (g:Nat) (lb:Array Value) (sf:Nat) (sb:Array Value) (blk off:Nat)
include hk hO in
set_option maxHeartbeats 4000000 in
set_option maxRecDepth 100000 in
theorem ins_any (a b:Nat) (d:Array α) (w:World) (eg:∀ args w,(callFunc g args).run Try.prog w=.ok (.enter g args) w) (hless:LessG Try.prog g lb enc k lt blk off d.size w) (hswap:SwapSwapsK Try.prog sf sb enc k blk off d.size)
  (hH:HoldsK enc k w blk off d) (hblk:blk < w.heap.size) (hab:a ≤ b) (hb:b ≤ d.size) (hsz:d.size < 4611686018427387904) :
  Calls Try.prog 215 #[.agg #[.func (.func g) #[] lb,.func (.func sf) #[] sb],.int .i64 a,.int .i64 b] w fun e w' =>
   e=.returned (.tuple #[])∧∃ d',(PermIn a b d d'∧SoF lt a b (atA d'))∧SK enc k w blk off d' w':=by
 go_enter Try.func215,Try.ntmps215
 go_wp2_with fail
 obtain ⟨W1,hW1⟩:∃ W,W=w.alloc (.cells #[.func (.func g) #[] lb,.func (.func sf) #[] sb] 206):=⟨_,rfl⟩
 have hH1:HoldsK enc k W1 blk off d:=by rw [hW1];exact holds_alloc hH hblk
 have hL1:LessG Try.prog g lb enc k lt blk off d.size W1:=by rw [hW1];exact less_alloc hless
 have hb1:blk < W1.heap.size:=by rw [hW1];simp;omega
 have BX:Blk W1 w.heap.size 206 #[.func (.func g) #[] lb,.func (.func sf) #[] sb]:=by rw [hW1];exact Blk.new w _ _
 have hne:w.heap.size ≠ blk:=by omega
 have HB:Hid (∀ (d':Array α) W,SK enc k W1 blk off d' W→SK enc k w blk off d' W):=Lib.hid (fun d' W h=>by rw [hW1] at h;exact swk_base h)
 have hlt1:=BX.lt
 rw [← hW1]
 clear hW1 hH hless
 go_loopw [6] (fun vi wr=>∃ (i:Nat) (dk:Array α),vi=.int .i64 i∧a + 1 ≤ i∧i ≤ b + 1∧Hid (dk.size=d.size)∧Hid (insOuter lt a b i dk=insOuter lt a b (a + 1) d)∧Hid (SK enc k W1 blk off dk wr)) (fun vi _=>b + 1 - (intOf vi).toNat)
 case atStart=>exact ⟨a + 1,d,by go_num,by omega,by omega,Lib.hid rfl,Lib.hid rfl,Lib.hid (SK.start hH1)⟩
 case round =>
  obtain ⟨i,dk,rfl,hai,hib,HSK,HI,HS⟩:=hrel
  by_cases hlt:i < b
  ·have d1:decide ((i:Int) < (b:Int))=true:=decide_eq_true (by omega)
   have d2:decide (i < b)=true:=decide_eq_true hlt
   go_wp2_with fail
   go_loopw [7] (fun vj wr=>∃ (j:Nat) (dj:Array α),vj=.int .i64 j∧a ≤ j∧j ≤ i∧Hid (dj.size=d.size)∧Hid (insInner lt a j dj=insInner lt a i dk)∧Hid (SK enc k W1 blk off dj wr)) (fun vj _=>(intOf vj).toNat)
   case atStart=>exact ⟨i,dk,rfl,by omega,by omega,HSK,Lib.hid rfl,HS⟩
   case round =>
    obtain ⟨j,dj,rfl,haj,hji,HSJ,HJ,HSW⟩:=hrel
    have hHw:=HSW.out.holds hb1 hH1 HSJ.out
    have c0:=(swk_cell HSW.out (i:=0) hne hlt1).trans (BX.cell 0)
    have c1:=(swk_cell HSW.out (i:=1) hne hlt1).trans (BX.cell 1)
    by_cases hja:a < j
    ·obtain ⟨u,rfl⟩:∃ u,j=u + 1:=⟨j - 1,by omega⟩
     have hl:=HSW.out.less hL1 HSJ.out (u + 1) u (by omega) (by omega)
     rw [show (((u + 1:Nat):Int))=(u:Int) + 1 by omega] at hl
     have HLL:=Lib.hid hl
     clear hl
     rcases bl_cs (lt dj[u + 1]! dj[u]!) with hv | hv
     ·rw [hv] at HLL
      have HV:=Lib.hid hv
      clear hv hHw c1
      go_wp2_with (go_at_fn g;refine HLL.out.mono ?_;rintro e w' ⟨rfl,hbw⟩)
      go_roundw
      case rel=>exact ⟨i + 1,dj,by go_num,by omega,by omega,HSJ,Lib.hid (by rw [← HI.out,insOuter_go _ _ _ _ _ hlt,← HJ.out,insInner_stop _ _ _ _ (.inr (by rw [Nat.add_sub_cancel];exact HV.out))]),Lib.hid (HSW.out.next hbw)⟩
      case measure=>simp [intOf];omega
     ·rw [hv] at HLL
      have HV:=Lib.hid hv
      clear hv hHw
      have HX9:Hid (∀ W,Below wr.heap.size wr W→W.cell? ⟨w.heap.size,1,none⟩=some (.func (.func sf) #[] sb)∧(callFunc sf (#[.int .i64 ((u:Int) + 1),.int .i64 (u:Int)] ++ sb)).run Try.prog W=.ok (.value (.tuple #[])) ((W.setCells blk (off + (u + 1) * k) (enc dj[u]!)).setCells blk (off + u * k) (enc dj[u + 1]!))):=Lib.hid (fun W hb=>by
       have hn:=HSW.out.next hb
       have hs:=hswap W dj (hn.holds hb1 hH1 HSJ.out) HSJ.out (u + 1) u (by omega) (by omega)
       rw [show (((u + 1:Nat):Int))=(u:Int) + 1 by omega] at hs
       exact ⟨(swk_cell hn (i:=1) hne hlt1).trans (BX.cell 1),hs⟩)
      have HX8:Hid (∀ W,Below wr.heap.size wr W→SK enc k W1 blk off (swp dj (u + 1) u) ((W.setCells blk (off + (u + 1) * k) (enc dj[u]!)).setCells blk (off + u * k) (enc dj[u + 1]!))):=Lib.hid (fun W hb =>
       (HSW.out.next hb).swap hk (u + 1) u (by have:=HSJ.out;omega) (by have:=HSJ.out;omega))
      go_wp2_with (go_at_fn g;refine HLL.out.mono ?_;rintro e w' ⟨rfl,hbw⟩;obtain ⟨c1',hs⟩:=HX9.out _ hbw)
      have HX2:=Lib.hid (HX8.out _ hbw)
      have HX5:=Lib.hid ((size_swp dj (u + 1) u).trans HSJ.out)
      go_roundw
      case rel =>
       exact ⟨u,swp dj (u + 1) u,rfl,by omega,by omega,HX5,Lib.hid (by rw [← HJ.out,insInner_go lt a (u + 1) dj hja (by rw [Nat.add_sub_cancel];exact HV.out),Nat.add_sub_cancel]),HX2⟩
      case measure=>simp [intOf]
    ·clear hHw c0 c1
     go_wp2_with fail
     go_roundw
     case rel=>exact ⟨i + 1,dj,by go_num,by omega,by omega,HSJ,Lib.hid (by rw [← HI.out,insOuter_go _ _ _ _ _ hlt,← HJ.out,insInner_stop _ _ _ _ (.inl (by omega))]),HSW⟩
     case measure=>simp [intOf];omega
  ·go_wp2_with fail
   go_end0
   have hh:=insertionSort_holds hO d a b hab hb
   rw [show insertionSort lt d a b=dk from HI.out.symm.trans (insOuter_stop _ _ _ _ _ hlt)] at hh
   exact ⟨rfl,dk,hh,HB.out _ _ HS.out⟩
include hk hO in
set_option maxHeartbeats 4000000 in
set_option maxRecDepth 100000 in
theorem stable_lt (d:Array α) (w:World) (eg:∀ args w,(callFunc g args).run Try.prog w=.ok (.enter g args) w) (hless:LessG Try.prog g lb enc k lt blk off d.size w) (hswap:SwapSwapsK Try.prog sf sb enc k blk off d.size)
  (hH:HoldsK enc k w blk off d) (hblk:blk < w.heap.size) (hsz:d.size < 20) :
  Calls Try.prog 183 #[.agg #[.func (.func g) #[] lb,.func (.func sf) #[] sb],.int .i64 d.size] w fun e w' =>
   e=.returned (.tuple #[])∧∃ d',(PermIn 0 d.size d d'∧SoF lt 0 d.size (atA d'))∧SK enc k w blk off d' w':=by
 go_enter Try.func183,Try.ntmps183
 go_wp2_with fail
 obtain ⟨W1,hW1⟩:∃ W,W=w.alloc (.cells #[.func (.func g) #[] lb,.func (.func sf) #[] sb] 206):=⟨_,rfl⟩
 have hH1:HoldsK enc k W1 blk off d:=by rw [hW1];exact holds_alloc hH hblk
 have hL1:LessG Try.prog g lb enc k lt blk off d.size W1:=by rw [hW1];exact less_alloc hless
 have hb1:blk < W1.heap.size:=by rw [hW1];simp;omega
 have BX:Blk W1 w.heap.size 206 #[.func (.func g) #[] lb,.func (.func sf) #[] sb]:=by rw [hW1];exact Blk.new w _ _
 have hne:w.heap.size ≠ blk:=by omega
 have HB:Hid (∀ (d':Array α) W,SK enc k W1 blk off d' W→SK enc k w blk off d' W):=Lib.hid (fun d' W h=>by rw [hW1] at h;exact swk_base h)
 have hlt1:=BX.lt
 have c0:=BX.cell 0
 have c1:=BX.cell 1
 rw [← hW1]
 clear hW1 hH hless
 have HI:=Lib.hid (ins_any enc k hk lt hO g lb sf sb blk off 0 d.size d W1 eg hL1 hswap hH1 hb1 (Nat.zero_le _) (Nat.le_refl _) (by omega))
 refine wp_loop_rounds 1 ?_
 rw [rounds_succ]
 go_wp2_with (go_at_call 215;refine HI.out.mono ?_;rintro e w2 ⟨rfl,d2,⟨hp2,hf2⟩,hS2⟩)
 refine wp_loop_rounds 1 ?_
 rw [rounds_succ]
 go_wp2
 all_goals first | (exfalso;omega) | (go_end0;exact ⟨rfl,d2,⟨hp2,hf2⟩,HB.out _ _ hS2⟩)
include hk hO in
set_option maxHeartbeats 4000000 in
set_option maxRecDepth 100000 in
theorem stable_ge (d:Array α) (w:World) (eg:∀ args w,(callFunc g args).run Try.prog w=.ok (.enter g args) w) (hless:LessG Try.prog g lb enc k lt blk off d.size w) (hswap:SwapSwapsK Try.prog sf sb enc k blk off d.size)
  (hH:HoldsK enc k w blk off d) (hblk:blk < w.heap.size) (h20:20 ≤ d.size) (h40:d.size < 40) :
  Calls Try.prog 183 #[.agg #[.func (.func g) #[] lb,.func (.func sf) #[] sb],.int .i64 d.size] w fun e w' =>
   e=.returned (.tuple #[])∧∃ d',(PermIn 0 d.size d d'∧SoF lt 0 d.size (atA d'))∧SK enc k w blk off d' w':=by
 go_enter Try.func183,Try.ntmps183
 go_wp2_with fail
 obtain ⟨W1,hW1⟩:∃ W,W=w.alloc (.cells #[.func (.func g) #[] lb,.func (.func sf) #[] sb] 206):=⟨_,rfl⟩
 have hH1:HoldsK enc k W1 blk off d:=by rw [hW1];exact holds_alloc hH hblk
 have hL1:LessG Try.prog g lb enc k lt blk off d.size W1:=by rw [hW1];exact less_alloc hless
 have hb1:blk < W1.heap.size:=by rw [hW1];simp;omega
 have BX:Blk W1 w.heap.size 206 #[.func (.func g) #[] lb,.func (.func sf) #[] sb]:=by rw [hW1];exact Blk.new w _ _
 have hne:w.heap.size ≠ blk:=by omega
 have HB:Hid (∀ (d':Array α) W,SK enc k W1 blk off d' W→SK enc k w blk off d' W):=Lib.hid (fun d' W h=>by rw [hW1] at h;exact swk_base h)
 have hlt1:=BX.lt
 have c0:=BX.cell 0
 have c1:=BX.cell 1
 rw [← hW1]
 clear hW1 hH hless
 have HI:=Lib.hid (ins_any enc k hk lt hO g lb sf sb blk off 0 20 d W1 eg hL1 hswap hH1 hb1 (Nat.zero_le _) h20 (by omega))
 refine wp_loop_rounds 2 ?_
 rw [rounds_succ]
 go_wp2_with (go_at_call 215;refine HI.out.mono ?_;rintro e w2 ⟨rfl,d2,⟨hp2,hf2⟩,hS2⟩)
 have HS2:=Lib.hid hS2
 have HP2:=Lib.hid hp2
 have HF2:=Lib.hid hf2
 have HZ2:=Lib.hid hp2.1
 have k0:=(swk_cell hS2 (i:=0) hne hlt1).trans c0
 have k1:=(swk_cell hS2 (i:=1) hne hlt1).trans c1
 clear hS2 hp2 hf2 c0 c1 HI
 have HI:=Lib.hid (ins_any enc k hk lt hO g lb sf sb blk off 20 d.size d2 w2 eg (by rw [HZ2.out];exact HS2.out.lessReads hL1 HZ2.out) (by rw [HZ2.out];exact hswap) (HS2.out.holds hb1 hH1 HZ2.out) (HS2.out.lt hb1) h20 (by rw [HZ2.out];exact Nat.le_refl _) (by rw [HZ2.out];omega))
 rw [rounds_succ]
 go_wp2_with (go_at_call 215;refine HI.out.mono ?_;rintro e w3 ⟨rfl,d3,⟨hp3,hf3⟩,hS3⟩)
 have HS3:=Lib.hid (swk_trans HS2.out hS3 hp3.1)
 have HP3:=Lib.hid (perm_two HP2.out hp3 (Nat.zero_le _) h20 (Nat.le_refl _))
 have HF3:=Lib.hid hf3
 have HF3':=Lib.hid (so_congr HF2.out (f:=atA d3) fun x _ hx=>hp3.2.1 x (.inl hx))
 have HZ3:=Lib.hid (hp3.1.trans HZ2.out)
 have l0:=(swk_cell HS3.out (i:=0) hne hlt1).trans (BX.cell 0)
 have l1:=(swk_cell HS3.out (i:=1) hne hlt1).trans (BX.cell 1)
 clear hS3 hp3 hf3 k0 k1 HI HS2 HP2 HF2
 by_cases h21:20 < d.size
 ·have HM:=Lib.hid (symMerge_any enc k hk lt hO g lb sf sb blk off eg d.size 0 20 d.size d3 w3 (by omega) (by rw [HZ3.out];exact HS3.out.lessReads hL1 HZ3.out) (by rw [HZ3.out];exact hswap) (HS3.out.holds hb1 hH1 HZ3.out) (HS3.out.lt hb1) (by omega) h21 (by rw [HZ3.out];exact Nat.le_refl _) (by rw [HZ3.out];omega) HF3'.out HF3.out)
  refine wp_loop_rounds 2 ?_
  rw [rounds_succ]
  go_wp2_with fail
  refine wp_loop_rounds 1 ?_
  rw [rounds_succ]
  go_wp2_with (go_at_call 216;refine HM.out.mono ?_;rintro e w4 ⟨rfl,d4,⟨hp4,hf4⟩,hS4⟩)
  rw [rounds_succ]
  go_wp2
  all_goals first | (exfalso;omega) | (go_end0;exact ⟨rfl,d4,⟨permIn_trans _ _ _ _ _ HP3.out hp4,hf4⟩,HB.out _ _ (swk_trans HS3.out hS4 hp4.1)⟩)
 ·refine wp_loop_rounds 1 ?_
  rw [rounds_succ]
  go_wp2
  all_goals first | (exfalso;omega) | (go_end0;exact ⟨rfl,d3,⟨HP3.out,so_one HF3'.out HF3.out (by omega)⟩,HB.out _ _ HS3.out⟩)
include hk hO in
set_option maxHeartbeats 4000000 in
set_option maxRecDepth 100000 in
theorem stable_40 (d:Array α) (w:World) (eg:∀ args w,(callFunc g args).run Try.prog w=.ok (.enter g args) w) (hless:LessG Try.prog g lb enc k lt blk off d.size w) (hswap:SwapSwapsK Try.prog sf sb enc k blk off d.size)
  (hH:HoldsK enc k w blk off d) (hblk:blk < w.heap.size) (h40:d.size=40) :
  Calls Try.prog 183 #[.agg #[.func (.func g) #[] lb,.func (.func sf) #[] sb],.int .i64 d.size] w fun e w' =>
   e=.returned (.tuple #[])∧∃ d',(PermIn 0 d.size d d'∧SoF lt 0 d.size (atA d'))∧SK enc k w blk off d' w':=by
 have H40:=Lib.hid h40
 have hswap':SwapSwapsK Try.prog sf sb enc k blk off 40:=by rw [← h40];exact hswap
 rw [h40]
 rw [h40] at hless
 clear h40
 go_enter Try.func183,Try.ntmps183
 go_wp2_with fail
 obtain ⟨W1,hW1⟩:∃ W,W=w.alloc (.cells #[.func (.func g) #[] lb,.func (.func sf) #[] sb] 206):=⟨_,rfl⟩
 have hH1:HoldsK enc k W1 blk off d:=by rw [hW1];exact holds_alloc hH hblk
 have hL1:LessG Try.prog g lb enc k lt blk off 40 W1:=by rw [hW1];exact less_alloc hless
 have hb1:blk < W1.heap.size:=by rw [hW1];simp;omega
 have BX:Blk W1 w.heap.size 206 #[.func (.func g) #[] lb,.func (.func sf) #[] sb]:=by rw [hW1];exact Blk.new w _ _
 have hne:w.heap.size ≠ blk:=by omega
 have HB:Hid (∀ (d':Array α) W,SK enc k W1 blk off d' W→SK enc k w blk off d' W):=Lib.hid (fun d' W h=>by rw [hW1] at h;exact swk_base h)
 have hlt1:=BX.lt
 have c0:=BX.cell 0
 have c1:=BX.cell 1
 rw [← hW1]
 clear hW1 hH hless
 have HI:=Lib.hid (ins_any enc k hk lt hO g lb sf sb blk off 0 20 d W1 eg (by rw [H40.out];exact hL1) (by rw [H40.out];exact hswap') hH1 hb1 (Nat.zero_le _) (by rw [H40.out];omega) (by rw [H40.out];omega))
 refine wp_loop_rounds 3 ?_
 rw [rounds_succ]
 go_wp2_with (go_at_call 215;refine HI.out.mono ?_;rintro e w2 ⟨rfl,d2,⟨hp2,hf2⟩,hS2⟩)
 have HS2:=Lib.hid hS2
 have HP2:=Lib.hid hp2
 have HF2:=Lib.hid hf2
 have HZ2:=Lib.hid (hp2.1.trans H40.out)
 have k0:=(swk_cell hS2 (i:=0) hne hlt1).trans c0
 have k1:=(swk_cell hS2 (i:=1) hne hlt1).trans c1
 clear hS2 hp2 hf2 c0 c1 HI
 have HI:=Lib.hid (ins_any enc k hk lt hO g lb sf sb blk off 20 40 d2 w2 eg (by rw [HZ2.out];exact HS2.out.lessReads hL1 HZ2.out) (by rw [HZ2.out];exact hswap') (HS2.out.holds hb1 hH1 (HZ2.out.trans H40.out.symm)) (HS2.out.lt hb1) (by omega) (by rw [HZ2.out];omega) (by rw [HZ2.out];omega))
 rw [rounds_succ]
 go_wp2_with (go_at_call 215;refine HI.out.mono ?_;rintro e w3 ⟨rfl,d3,⟨hp3,hf3⟩,hS3⟩)
 have HS3:=Lib.hid (swk_trans HS2.out hS3 hp3.1)
 have HP3:=Lib.hid (perm_two HP2.out hp3 (Nat.zero_le _) (by omega) (by rw [H40.out];exact Nat.le_refl _))
 have HF3:=Lib.hid hf3
 have HF3':=Lib.hid (so_congr HF2.out (f:=atA d3) fun x _ hx=>hp3.2.1 x (.inl hx))
 have HZ3:=Lib.hid (hp3.1.trans HZ2.out)
 have l0:=(swk_cell HS3.out (i:=0) hne hlt1).trans (BX.cell 0)
 have l1:=(swk_cell HS3.out (i:=1) hne hlt1).trans (BX.cell 1)
 clear hS3 hp3 hf3 k0 k1 HI HS2 HP2 HF2
 have HI:=Lib.hid (ins_any enc k hk lt hO g lb sf sb blk off 40 40 d3 w3 eg (by rw [HZ3.out];exact HS3.out.lessReads hL1 HZ3.out) (by rw [HZ3.out];exact hswap') (HS3.out.holds hb1 hH1 (HZ3.out.trans H40.out.symm)) (HS3.out.lt hb1) (by omega) (by rw [HZ3.out];omega) (by rw [HZ3.out];omega))
 rw [rounds_succ]
 go_wp2_with (go_at_call 215;refine HI.out.mono ?_;rintro e w5 ⟨rfl,d5,⟨hp5,hf5⟩,hS5⟩)
 have HS5:=Lib.hid (swk_trans HS3.out hS5 hp5.1)
 have HP5:=Lib.hid (perm_two HP3.out hp5 (Nat.zero_le _) (by omega) (by rw [H40.out];exact Nat.le_refl _))
 have HF5:=Lib.hid (so_congr HF3.out (f:=atA d5) fun x _ hx=>hp5.2.1 x (.inl hx))
 have HF5':=Lib.hid (so_congr HF3'.out (f:=atA d5) fun x _ hx=>hp5.2.1 x (.inl (by omega)))
 have HZ5:=Lib.hid (hp5.1.trans HZ3.out)
 have m0:=(swk_cell HS5.out (i:=0) hne hlt1).trans (BX.cell 0)
 have m1:=(swk_cell HS5.out (i:=1) hne hlt1).trans (BX.cell 1)
 clear hS5 hp5 hf5 l0 l1 HI HS3 HP3 HF3 HF3'
 have HM:=Lib.hid (symMerge_any enc k hk lt hO g lb sf sb blk off eg 40 0 20 40 d5 w5 (by omega) (by rw [HZ5.out];exact HS5.out.lessReads hL1 HZ5.out) (by rw [HZ5.out];exact hswap') (HS5.out.holds hb1 hH1 (HZ5.out.trans H40.out.symm)) (HS5.out.lt hb1) (by omega) (by omega) (by rw [HZ5.out];omega) (by rw [HZ5.out];omega) HF5'.out HF5.out)
 refine wp_loop_rounds 2 ?_
 rw [rounds_succ]
 go_wp2_with fail
 refine wp_loop_rounds 2 ?_
 rw [rounds_succ]
 go_wp2_with (go_at_call 216;refine HM.out.mono ?_;rintro e w4 ⟨rfl,d4,⟨hp4,hf4⟩,hS4⟩)
 rw [rounds_succ]
 go_wp2
 rw [rounds_succ]
 go_wp2
 go_end0
 exact ⟨rfl,d4,⟨permIn_trans _ _ _ _ _ HP5.out hp4,hf4⟩,HB.out _ _ (swk_trans HS5.out hS4 hp4.1)⟩
end
end
section
open Go.RowKit Go.Sort Go.Shelf Go.Lib
section
variable {α:Type} [Inhabited α] {enc:α→List Value} {k:Nat} (hk:∀ x,(enc x).length=k)
include hk in
omit [Inhabited α] in
theorem flat_len:∀ L:List α,(L.flatMap enc).length=L.length * k
 | []=>by simp
 | a :: L=>by rw [List.flatMap_cons,List.length_append,hk,flat_len L,List.length_cons,Nat.add_mul,Nat.one_mul,Nat.add_comm]
include hk in
theorem flat_get:∀ (L:List α) (t:Nat),t < L.length * k→(L.flatMap enc)[t]?=(enc L[t / k]!)[t % k]?
 | [],t,h=>by simp at h
 | a :: L,t,h=>by
  rw [List.flatMap_cons]
  rw [List.length_cons,Nat.add_mul,Nat.one_mul] at h
  have h0:0 < k:=by
   rcases Nat.eq_zero_or_pos k with h0 | h0
   ·rw [h0] at h;simp at h
   ·exact h0
  by_cases hlt:t < k
  ·rw [List.getElem?_append_left (by rw [hk];exact hlt),Nat.div_eq_of_lt hlt,Nat.mod_eq_of_lt hlt]
   rfl
  ·rw [List.getElem?_append_right (by rw [hk];omega),hk,flat_get L (t - k) (by omega)]
   have e1:t / k=(t - k) / k + 1:=by rw [Nat.div_eq_sub_div h0 (by omega)]
   have e2:(t - k) % k=t % k:=by rw [← Nat.mod_eq_sub_mod (by omega)]
   rw [e1,e2]
   rfl
include hk in
theorem flatK_list (L:List α):(flatK enc k L.toArray).toList=L.flatMap enc:=by
 apply List.ext_getElem?
 intro t
 by_cases ht:t < L.length * k
 ·rw [flat_get hk L t ht]
  have hs:t < (flatK enc k L.toArray).size:=by rw [size_flatK];simpa using ht
  have e:=get_flatK enc k L.toArray t (by simpa using ht)
  rw [getElem!_pos _ t hs] at e
  rw [Array.getElem?_toList,Array.getElem?_eq_getElem hs,e]
  have hm:t % k < (enc L[t / k]!).length:=by
   rw [hk];apply Nat.mod_lt
   rcases Nat.eq_zero_or_pos k with h0 | h0
   ·rw [h0] at ht;simp at ht
   ·exact h0
  have e3:L.toArray[t / k]! = L[t / k]!:=by simp
  rw [e3,List.getElem?_eq_getElem hm,getElem!_pos (enc L[t / k]!) (t % k) hm]
 ·rw [List.getElem?_eq_none (by rw [Array.length_toList,size_flatK];simpa using ht),List.getElem?_eq_none (by rw [flat_len hk];omega)]
variable {w W':World} {base g n cap:Nat} {e:TypeId} {L L':List α}
include hk in
theorem holds_own (h:w.ownsRow base e k (.slice (some ⟨g,0,none⟩) n cap) n (L.flatMap enc)) (hn:L.length=n):HoldsK enc k w g 0 L.toArray:=by
 obtain ⟨_,⟨h1,_⟩ | ⟨g',cap',cur,h1,_,hb,_,_,hcs,ht⟩⟩:=h
 ·cases h1
 ·cases h1
  intro j hj
  have hj':j < n * k:=by rw [size_flatK] at hj;simpa [hn] using hj
  rw [Nat.zero_add]
  refine ⟨?_,Blk.frozen (t:=e) (cs:=cur) hb j⟩
  rw [Blk.cell (t:=e) (cs:=cur) hb j]
  have e1:(L.flatMap enc)[j]?=cur[j]?:=by rw [← ht,List.getElem?_take,if_pos hj'];simp
  have e2:(flatK enc k L.toArray)[j]?=(L.flatMap enc)[j]?:=by rw [← flatK_list hk,Array.getElem?_toList]
  rw [← e1,← e2,Array.getElem?_eq_getElem hj,getElem!_pos _ j hj]
  rfl
omit [Inhabited α] in
theorem own_lt {xs:List Value} (h:w.ownsRow base e k (.slice (some ⟨g,0,none⟩) n cap) n xs):g < w.heap.size∧base ≤ g:=by
 obtain ⟨_,⟨h1,_⟩ | ⟨g',cap',cur,h1,hb0,hb,_⟩⟩:=h
 ·cases h1
 ·cases h1
  exact ⟨Blk.lt (t:=e) (cs:=cur) hb,hb0⟩
include hk in
theorem own_swk (h:w.ownsRow base e k (.slice (some ⟨g,0,none⟩) n cap) n (L.flatMap enc)) (hn':L'.length=n) (hS:SK enc k w g 0 L'.toArray W'):W'.ownsRow base e k (.slice (some ⟨g,0,none⟩) n cap) n (L'.flatMap enc):=by
 have hlt:=(own_lt h).1
 obtain ⟨_,⟨h1,_⟩ | ⟨g',cap',cur,h1,hb0,hb,h2,h3,hcs,ht⟩⟩:=h
 ·cases h1
 ·cases h1
  refine ⟨by rw [flat_len hk,hn'],.inr ⟨g,cap,putCells id 0 (flatK enc k L'.toArray) cur,rfl,hb0,?_,h2,h3,by simp [putCells,hcs],?_⟩⟩
  ·rw [hS.block g hlt]
   show (w.heap.modify g _)[g]?=_
   rw [Array.getElem?_modify,if_pos rfl,hb]
   rfl
  ·have hle:n * k ≤ cap * k:=Nat.mul_le_mul_right k h2
   apply List.ext_getElem?
   intro j
   by_cases hj:j < n * k
   ·rw [List.getElem?_take,if_pos hj]
    have hjf:j < (flatK enc k L'.toArray).size:=by rw [size_flatK];simpa [hn'] using hj
    have e2:(flatK enc k L'.toArray)[j]?=(L'.flatMap enc)[j]?:=by rw [← flatK_list hk,Array.getElem?_toList]
    rw [← e2,Array.getElem?_toList]
    unfold putCells
    rw [Array.getElem?_mapIdx,Array.getElem?_eq_getElem (show j < cur.size by omega),Option.map_some,if_pos ⟨by omega,by omega⟩,Nat.sub_zero,Array.getElem?_eq_getElem hjf,getElem!_pos _ j hjf]
    rfl
   ·rw [List.getElem?_take,if_neg hj,List.getElem?_eq_none (by rw [flat_len hk,hn'];omega)]
theorem swk_below {B:Nat} {d:Array α} (h:SK enc k w g 0 d W') (hB:B ≤ g) (hg:g < w.heap.size):Below B w W' :=
 ⟨h.os,h.tape,h.output,h.le,fun x hx=>h.heap (by omega) (by omega)⟩
omit [Inhabited α] in
theorem own_other {e2:TypeId} {k2 n2 base2:Nat} {v:Value} {xs:List Value} (h:w.ownsRow base2 e2 k2 v n2 xs) (hh:∀ x,x ≠ g→x < w.heap.size→W'.heap[x]?=w.heap[x]?) (hv:v.ownBlock ≠ some g):W'.ownsRow base2 e2 k2 v n2 xs:=by
 obtain ⟨hl,h0 | ⟨g',cap',cur,h1,hb0,hb,h2,h3,hcs,ht⟩⟩:=h
 ·exact ⟨hl,.inl h0⟩
 ·refine ⟨hl,.inr ⟨g',cap',cur,h1,hb0,?_,h2,h3,hcs,ht⟩⟩
  rw [hh g' (fun e=>hv (by rw [h1,e];rfl)) (Blk.lt (t:=e2) (cs:=cur) hb)]
  exact hb
end
end
end Go.Proofs.Ytockodmbhnlheaa
