/-
  THE LAW MatchSays: holds for every input, with no condition. (Joined texts: RBookOfW, RFound, RestedP, RTakeP, RTakeM.)
-/
import Derived.Test.YtockodmbhnlheaaMatchSaysM
import Derived.Deep.DeepCutAuto
import Derived.Deep.Cut
import Derived.Test.YtockodmbhnlheaaProg
import Derived.Test.YtockodmbhnlheaaMatchSaysA
import Derived.Maps.AppendAt
import Derived.Laws.AppendOwnNone
import Derived.OwnWalk
import Derived.Test.YtockodmbhnlheaaMatchSaysC
import Derived.Deep.RegionHeld3
import Derived.Test.YtockodmbhnlheaaMatchSaysB
import Derived.Lib.AppendZeros
import Derived.Test.YtockodmbhnlheaaMatchSaysF
import Derived.Test.YtockodmbhnlheaaMatchSaysE
import Derived.Laws.CopyOwn
import Derived.Lib.AppendZerosOnto
import Derived.Lib.Overlaps
import Derived.Laws.Externs
import Derived.Deep.RegionLaw
import Derived.Maps.Own
import Derived.Maps.OwnOps
import Derived.Maps.Views
import Derived.WalkKit
import Derived.Deep.Draws
import Derived.IntWalk
import Derived.Test.YtockodmbhnlheaaMatchSaysD
import Derived.Test.YtockodmbhnlheaaMatchSaysK
import Derived.Shelf.SlSortFuncK.SWK
import Derived.Lib.Hide
import Derived.Test.YtockodmbhnlheaaMatchSaysL
import Derived.Test.YtockodmbhnlheaaMatchSaysJ
import Derived.Shelf.GgSortFunc.SmallK
import Derived.Shelf.GgSortMore.Stable
import Derived.Deep.QuietTactic
import Derived.BigQuiet
import Derived.WalkSpells
import Derived.WalkLawsBesides
import Derived.Sort.WalkA
import Derived.Sort.LotA
namespace Go.Proofs.Ytockodmbhnlheaa
section
open Go.RowKit Go.Sort Go.Lib
theorem own_some {w:World} {base e k n:Nat} {v:Value} {xs:List Value} (h:w.ownsRow base e k v n xs) (hn:0 < n):∃ g cap,v=.slice (some ⟨g,0,none⟩) n cap∧base ≤ g:=by
 obtain ⟨_,⟨_,h1⟩ | ⟨g,cap,cur,h1,hb0,_⟩⟩:=h
 ·omega
 ·exact ⟨g,cap,h1,hb0⟩
theorem sort_bids {base Bp:Nat} {v v':Value} {L M X:List Od} {w:World} (H:BoxB w base Bp v v' L M) (hB:base ≤ w.heap.size) (h40:L.length ≤ 40) (hX:X.Perm L) (hs:∀ o ∈ X,o.side=1) (hso:Sorted X) (hnd:(X.map Od.id).Nodup) :
  Calls Try.prog 168 #[.iface 60 v,.func (.func 169) #[] #[.pointer (some ⟨Bp,0,none⟩)]] w fun e w'=>e=.returned (.tuple #[])∧BoxB w' base Bp v v' X M∧Below base w w':=by
 have hlen:L.length=X.length:=hX.length_eq.symm
 by_cases h1:L.length ≤ 1
 ·have hLX:=perm_small hX h1
  subst hLX
  obtain ⟨A,c,rfl⟩:=own_shape H.l
  exact (slst_tiny A L.length c h1 _ _ _ w).mono fun e w' ⟨he,hb⟩=>⟨he,H.below hb,hb.mono hB⟩
 ·have hsL:∀ o ∈ L,o.side=1:=fun o ho=>hs o (hX.mem_iff.2 ho)
  obtain ⟨g,cap,rfl,hg⟩:=own_some H.l (by omega)
  have hown:=H.l
  rw [odCells_flat hsL] at hown
  have hgl:=(own_lt hown).1
  have hne:Bp ≠ g:=by have:=H.lt;omega
  refine (slst_bids Bp g L.length cap base 1 L w hown rfl (by omega) h40 (H.bx.cell 0) hne H.bx.lt).mono ?_
  rintro e w' ⟨rfl,L',⟨hp,hl,hF⟩,hS⟩
  have hLX:=sort_eq hp hX hs hso hnd hl hF
  subst hLX
  have hh:∀ x,x ≠ g→x < w.heap.size→w'.heap[x]?=w.heap[x]?:=fun x h1 h2=>hS.heap h1 h2
  refine ⟨rfl,⟨?_,?_,?_,H.ap,H.ap',H.lt⟩,swk_below hS hg hgl⟩
  ·exact (hh Bp hne H.bx.lt).trans H.bx
  ·rw [← hlen,odCells_flat hs]
   exact own_swk (encS_len 1) hown hl hS
  ·refine own_other H.r hh fun e=>?_
   rcases H.ap' with q | q
   ·rw [q] at e;cases e
   ·exact q (e.trans rfl)
theorem sort_asks {base Bp:Nat} {v v':Value} {L M X:List Od} {w:World} (H:BoxB w base Bp v v' M L) (hB:base ≤ w.heap.size) (h40:L.length ≤ 40) (hX:X.Perm L) (hs:∀ o ∈ X,o.side = -1) (hso:Sorted X) (hnd:(X.map Od.id).Nodup) :
  Calls Try.prog 168 #[.iface 60 v',.func (.func 170) #[] #[.pointer (some ⟨Bp,0,none⟩)]] w fun e w'=>e=.returned (.tuple #[])∧BoxB w' base Bp v v' M X∧Below base w w':=by
 have hlen:L.length=X.length:=hX.length_eq.symm
 by_cases h1:L.length ≤ 1
 ·have hLX:=perm_small hX h1
  subst hLX
  obtain ⟨A,c,rfl⟩:=own_shape H.r
  exact (slst_tiny A L.length c h1 _ _ _ w).mono fun e w' ⟨he,hb⟩=>⟨he,H.below hb,hb.mono hB⟩
 ·have hsL:∀ o ∈ L,o.side = -1:=fun o ho=>hs o (hX.mem_iff.2 ho)
  obtain ⟨g,cap,rfl,hg⟩:=own_some H.r (by omega)
  have hown:=H.r
  rw [odCells_flat hsL] at hown
  have hgl:=(own_lt hown).1
  have hne:Bp ≠ g:=by have:=H.lt;omega
  refine (slst_asks Bp g L.length cap base (-1) L w hown rfl (by omega) h40 (H.bx.cell 1) hne H.bx.lt).mono ?_
  rintro e w' ⟨rfl,L',⟨hp,hl,hF⟩,hS⟩
  have hLX:=sort_eq hp hX hs hso hnd hl hF
  subst hLX
  have hh:∀ x,x ≠ g→x < w.heap.size→w'.heap[x]?=w.heap[x]?:=fun x h1 h2=>hS.heap h1 h2
  refine ⟨rfl,⟨?_,?_,?_,H.ap,H.ap',H.lt⟩,swk_below hS hg hgl⟩
  ·exact (hh Bp hne H.bx.lt).trans H.bx
  ·refine own_other H.l hh fun e=>?_
   rcases H.ap with q | q
   ·rw [q] at e;cases e
   ·exact q (e.trans rfl)
  ·rw [← hlen,odCells_flat hs]
   exact own_swk (encS_len (-1)) hown hl hS
set_option maxHeartbeats 4000000 in
set_option maxRecDepth 100000 in
theorem rbookOf_any (l:List Od) (A:Option Addr) (n c B:Nat) (X:Bk) (w:World) (h:Rd w B 5 A n c (odCells l)) (hB:B ≤ w.heap.size) (hX:BkOf l X) (hn:n ≤ 40) :
  Calls Try.prog 150 #[.slice A n c] w fun e w'=>∃ v,e=.returned v∧OwnBk w' w.heap.size v X∧Below w.heap.size w w':=by
 have hl:=rdo_len h
 have HL:=Lib.hid hl
 clear hl
 go_enter Try.func150,Try.ntmps150
 go_wp2_with fail
 obtain ⟨W0,hW0⟩:∃ W,W=(w.alloc (.cells #[.slice none 0 0,.slice none 0 0] 62)).alloc (.cells #[.slice none 0 0,.slice none 0 0] 62):=⟨_,rfl⟩
 have hb0:Below w.heap.size w W0:=by rw [hW0];exact ((Below.refl _ _).alloc (Nat.le_refl _) _).alloc (by simp) _
 have hs0:W0.heap.size=w.heap.size + 1 + 1:=by rw [hW0];simp
 have R0:Blk W0 w.heap.size 62 #[.slice none 0 0,.slice none 0 0]:=by rw [hW0];exact (Blk.new w _ _).alloc _
 have X0:Blk W0 (w.heap.size + 1) 62 #[.slice none 0 0,.slice none 0 0]:=by rw [hW0];exact Blk.new_at _ _ _ _ (by simp)
 rw [← hW0]
 clear hW0
 go_loopw [8] (fun vi wr=>∃ (j:Nat) (v v':Value),vi=.int .i64 j∧j ≤ n∧w.heap.size + 1 + 1 ≤ wr.heap.size∧Hid (BoxB wr (w.heap.size + 1 + 1) (w.heap.size + 1) v v' ((l.take j).filter isBid) ((l.take j).filter isAsk))∧Hid (Blk wr w.heap.size 62 #[.slice none 0 0,.slice none 0 0])∧Hid (Below w.heap.size w wr)) (fun vi _=>n - (intOf vi).toNat)
 case atStart=>exact ⟨0,_,_,rfl,Nat.zero_le _,by omega,Lib.hid ⟨X0,World.ownsRow_nil _ _ _ _,World.ownsRow_nil _ _ _ _,.inl rfl,.inl rfl,by omega⟩,Lib.hid R0,Lib.hid hb0⟩
 case round =>
  obtain ⟨j,v,v',rfl,hj,hz,HX,HR,HB⟩:=hrel
  obtain ⟨L,hL⟩:∃ L,L=(l.take j).filter isBid:=⟨_,rfl⟩
  obtain ⟨M,hM⟩:∃ M,M=(l.take j).filter isAsk:=⟨_,rfl⟩
  have hl40:L.length ≤ n:=by rw [hL,← HL.out];exact filter_len j
  have hm40:M.length ≤ n:=by rw [hM,← HL.out];exact filter_len j
  rw [← hL,← hM] at HX
  have HLL:=Lib.hid hL
  have HMM:=Lib.hid hM
  clear hL hM
  obtain ⟨Av,cv,rfl⟩:=own_shape HX.out.l
  obtain ⟨Aw,cw,rfl⟩:=own_shape HX.out.r
  by_cases hlt:j < n
  ·obtain ⟨g,o,x,rfl,hg,hx,k0,k1,k2,k3,k4⟩:=od_at (h.below (HB.out.mono hB)) hlt
   have HXX:=Lib.hid hx
   clear hx
   have hgs:g < wr.heap.size:=by omega
   go_upto_region 5 with (fail)
   obtain ⟨W2,hW2⟩:∃ W,W=wr.alloc (.cells #[.int .i64 x.id,.int .i64 x.acc,.int .i64 x.side,.int .i64 x.price,.int .i64 x.qty] 71):=⟨_,rfl⟩
   have hb2:Below wr.heap.size wr W2:=by rw [hW2];exact (Below.refl _ _).alloc (Nat.le_refl _) _
   have XE:Blk W2 wr.heap.size 71 #[.int .i64 x.id,.int .i64 x.acc,.int .i64 x.side,.int .i64 x.price,.int .i64 x.qty]:=by rw [hW2];exact Blk.new wr _ _
   have hs2:W2.heap.size=wr.heap.size + 1:=by rw [hW2];simp
   rw [← hW2]
   clear hW2 k0 k1 k2 k3 k4
   have HX2:=Lib.hid (HX.out.below hb2)
   have HR2:=Lib.hid (HR.out.below hb2 HR.out.lt)
   have HB2:=Lib.hid (HB.out.trans (hb2.mono (by omega)))
   obtain ⟨⟨b0,b1,b2,b3,b4⟩,-⟩:=XE.c5
   obtain ⟨⟨c0,c1⟩,f0,f1⟩:=HX2.out.bx.c2
   have hbz:=HX2.out.bx.lt
   by_cases hq:x.qty=0
   ·have hq':(x.qty == 0)=true:=by simpa using hq
    have e1:isBid x=false:=by unfold isBid;simp [hq]
    have e2:isAsk x=false:=by unfold isAsk;simp [hq]
    have HN1:=Lib.hid (show (l.take (j + 1)).filter isBid=L by rw [filter_snoc HXX.out,e1,HLL.out];simp)
    have HN2:=Lib.hid (show (l.take (j + 1)).filter isAsk=M by rw [filter_snoc HXX.out,e2,HMM.out];simp)
    clear hq e1 e2
    go_wp2_with fail
    go_roundw
    case rel=>exact ⟨j + 1,_,_,by go_num,by omega,by omega,by rw [HN1.out,HN2.out];exact HX2,HR2,HB2⟩
    case measure=>simp [intOf];omega
   ·have hq':(x.qty == 0)=false:=by simpa using hq
    by_cases hsd:x.side=1
    ·have hs':(x.side == 1)=true:=by simpa using hsd
     have e1:isBid x=true:=by unfold isBid;simp [hq,hsd]
     have e2:isAsk x=false:=by unfold isAsk;simp [hsd]
     have HN1:=Lib.hid (show (l.take (j + 1)).filter isBid=L ++ [x] by rw [filter_snoc HXX.out,e1,HLL.out];simp)
     have HN2:=Lib.hid (show (l.take (j + 1)).filter isAsk=M by rw [filter_snoc HXX.out,e2,HMM.out];simp)
     clear hq hsd e1 e2
     go_wp2_with (at_builtin;refine wpList_app rfl _ _ _ rfl (w.heap.size + 1 + 1) _ _ _ elem_od (.slice Av L.length cv) _ _ rfl (World.ownsRow.alloc HX2.out.l _) (wr.heap.size + 1 + 1) _ 1 1 (odCells [x]) rfl (rd_one_od W2 x (wr.heap.size + 1) hs2.symm) (odCells_one _) (by unfold maxLen;omega) (by omega) (by simp;omega) ?_;intro v1 w7 hown7 hbel7 hgr7 hat7;obtain ⟨A7,c7,rfl⟩:=own_shape hown7;have HBX:=(HX2.out.below ((Below.refl W2.heap.size W2).alloc (Nat.le_refl _) (.cells #[.int .i64 x.id,.int .i64 x.acc,.int .i64 x.side,.int .i64 x.price,.int .i64 x.qty] 71)));obtain ⟨⟨d0,d1⟩,ff0,ff1⟩:=(HBX.bx.grown hgr7 (HBX.ne_l HBX.lt)).c2;have hs7:=hbel7.size)
     have HX3:=Lib.hid (HBX.app_l hown7 hgr7 (by simpa using hat7))
     have HR3:=Lib.hid ((Blk.below (HR2.out.alloc (.cells #[.int .i64 x.id,.int .i64 x.acc,.int .i64 x.side,.int .i64 x.price,.int .i64 x.qty] 71)) hbel7 (by omega)).far (p:=⟨w.heap.size + 1,0,none⟩) (by simp) (.slice A7 (L.length + 1) c7))
     have HB3:=Lib.hid ((HB2.out.trans (((Below.refl w.heap.size W2).alloc (by omega) (.cells #[.int .i64 x.id,.int .i64 x.acc,.int .i64 x.side,.int .i64 x.price,.int .i64 x.qty] 71)).trans (hbel7.mono (by omega)))).setCell (p:=⟨w.heap.size + 1,0,none⟩) (by simp) (.slice A7 (L.length + 1) c7))
     have hz3:w.heap.size + 1 + 1 ≤ w7.heap.size:=by simp at hs7;omega
     clear hown7 hbel7 hgr7 hat7 HBX
     go_roundw
     case rel=>exact ⟨j + 1,_,_,by go_num,by omega,by simp;omega,by rw [HN1.out,HN2.out];exact HX3,HR3,HB3⟩
     case measure=>simp [intOf];omega
    ·have hs':(x.side == 1)=false:=by simpa using hsd
     have e1:isBid x=false:=by unfold isBid;simp [hsd]
     have e2:isAsk x=true:=by unfold isAsk;simp [hq,hsd]
     have HN1:=Lib.hid (show (l.take (j + 1)).filter isBid=L by rw [filter_snoc HXX.out,e1,HLL.out];simp)
     have HN2:=Lib.hid (show (l.take (j + 1)).filter isAsk=M ++ [x] by rw [filter_snoc HXX.out,e2,HMM.out];simp)
     clear hq hsd e1 e2
     go_wp2_with (at_builtin;refine wpList_app rfl _ _ _ rfl (w.heap.size + 1 + 1) _ _ _ elem_od (.slice Aw M.length cw) _ _ rfl (World.ownsRow.alloc HX2.out.r _) (wr.heap.size + 1 + 1) _ 1 1 (odCells [x]) rfl (rd_one_od W2 x (wr.heap.size + 1) hs2.symm) (odCells_one _) (by unfold maxLen;omega) (by omega) (by simp;omega) ?_;intro v1 w7 hown7 hbel7 hgr7 hat7;obtain ⟨A7,c7,rfl⟩:=own_shape hown7;have HBX:=(HX2.out.below ((Below.refl W2.heap.size W2).alloc (Nat.le_refl _) (.cells #[.int .i64 x.id,.int .i64 x.acc,.int .i64 x.side,.int .i64 x.price,.int .i64 x.qty] 71)));obtain ⟨⟨d0,d1⟩,ff0,ff1⟩:=(HBX.bx.grown hgr7 (HBX.ne_r HBX.lt)).c2;have hs7:=hbel7.size)
     have HX3:=Lib.hid (HBX.app_r hown7 hgr7 (by simpa using hat7))
     have HR3:=Lib.hid ((Blk.below (HR2.out.alloc (.cells #[.int .i64 x.id,.int .i64 x.acc,.int .i64 x.side,.int .i64 x.price,.int .i64 x.qty] 71)) hbel7 (by omega)).far (p:=⟨w.heap.size + 1,1,none⟩) (by simp) (.slice A7 (M.length + 1) c7))
     have HB3:=Lib.hid ((HB2.out.trans (((Below.refl w.heap.size W2).alloc (by omega) (.cells #[.int .i64 x.id,.int .i64 x.acc,.int .i64 x.side,.int .i64 x.price,.int .i64 x.qty] 71)).trans (hbel7.mono (by omega)))).setCell (p:=⟨w.heap.size + 1,1,none⟩) (by simp) (.slice A7 (M.length + 1) c7))
     have hz3:w.heap.size + 1 + 1 ≤ w7.heap.size:=by simp at hs7;omega
     clear hown7 hbel7 hgr7 hat7 HBX
     go_roundw
     case rel=>exact ⟨j + 1,_,_,by go_num,by omega,by simp;omega,by rw [HN1.out,HN2.out];exact HX3,HR3,HB3⟩
     case measure=>simp [intOf];omega
  ·have hjn:j=n:=by omega
   have hLl:L=l.filter isBid:=by rw [HLL.out,hjn,List.take_of_length_le (by rw [HL.out];exact Nat.le_refl _)]
   have hMl:M=l.filter isAsk:=by rw [HMM.out,hjn,List.take_of_length_le (by rw [HL.out];exact Nat.le_refl _)]
   have HP1:=Lib.hid (show X.bids.Perm L by rw [hLl];exact hX.pb)
   have HP2:=Lib.hid (show X.asks.Perm M by rw [hMl];exact hX.pa)
   have HC:=Lib.hid (sort_bids HX.out hz (by omega) HP1.out hX.b1 hX.sb hX.nb)
   obtain ⟨⟨c0,c1⟩,f0,f1⟩:=HX.out.bx.c2
   clear hLl hMl hjn
   go_upto_region 11 with (go_at_call 168;(with_reducible refine HC.out.mono ?_);rintro e w2 ⟨rfl,hx2,hb2⟩;clear c0 c1 f0 f1;obtain ⟨⟨c0,c1⟩,f0,f1⟩:=hx2.bx.c2)
   have HX2:=Lib.hid hx2
   have hs2:=hb2.size
   have HB2:=Lib.hid (HB.out.trans (hb2.mono (by omega)))
   have HR2:=Lib.hid (HR.out.below hb2 (by omega))
   clear hx2 hb2 HC
   have HC:=Lib.hid (sort_asks HX2.out (by omega) (by omega) HP2.out hX.a1 hX.sa hX.na)
   obtain ⟨⟨r0,r1⟩,g0,g1⟩:=HR2.out.c2
   go_wp2_with (go_at_call 168;(with_reducible refine HC.out.mono ?_);rintro e w3 ⟨rfl,hx3,hb3⟩;clear c0 c1 f0 f1 r0 r1 g0 g1;obtain ⟨⟨c0,c1⟩,f0,f1⟩:=hx3.bx.c2;obtain ⟨⟨r0,r1⟩,g0,g1⟩:=(HR2.out.below hb3 (by omega)).c2)
   have HX3:=Lib.hid hx3
   have hs3:=hb3.size
   have HB3:=Lib.hid (HB2.out.trans (hb3.mono (by omega)))
   have HR3:=Lib.hid (HR2.out.below hb3 (by omega))
   clear hx3 hb3 HC
   refine bodyPost_ret (v:=.agg #[.slice Av L.length cv,.slice Aw M.length cw]) (by simp [results,Try.results150,go_sem, *]) rfl ?_
   have e1:L.length=X.bids.length:=HP1.out.length_eq.symm
   have e2:M.length=X.asks.length:=HP2.out.length_eq.symm
   have q1:=HX3.out.l
   have q2:=HX3.out.r
   rw [e1] at q1 ⊢
   rw [e2] at q2 ⊢
   refine ⟨_,rfl,⟨Av,cv,Aw,cw,rfl,?_,?_⟩,(HB3.out.setCell (Nat.le_refl _) _).setCell (Nat.le_refl _) _⟩
   ·exact own_mono (ownsRow_setCell_below (ownsRow_setCell_below q1 (by dsimp only;omega) _) (by dsimp only;omega) _) (by omega)
   ·exact own_mono (ownsRow_setCell_below (ownsRow_setCell_below q2 (by dsimp only;omega) _) (by dsimp only;omega) _) (by omega)
end
section
open Go.RowKit
def foundO (L:List Od) (id:Int):Od:=match findO L id with | some o=>o | none=>zeroOd
def RetOd (w:World) (r:Od) (e:Ending) (w':World):Prop:=e=.returned (.agg #[.int .i64 r.id,.int .i64 r.acc,.int .i64 r.side,.int .i64 r.price,.int .i64 r.qty])∧Below w.heap.size w w'
theorem retOd_mk {w w':World} {r o:Od} (h:r=o) (hb:Below w.heap.size w w'):RetOd w r (.returned (.agg #[.int .i64 o.id,.int .i64 o.acc,.int .i64 o.side,.int .i64 o.price,.int .i64 o.qty])) w':=by subst h;exact ⟨rfl,hb⟩
set_option maxHeartbeats 2000000 in
set_option maxRecDepth 100000 in
theorem rfound_any (b:Bk) (id:Int) (A A':Option Addr) (c c' B:Nat) (w:World) (h:BkR w B A A' c c' b) (hB:B ≤ w.heap.size) (hl:(b.bids.length + b.asks.length) * 40 ≤ 140737488355328) :
  Calls Try.prog 90 #[.agg #[.slice A b.bids.length c,.slice A' b.asks.length c'],.int .i64 id] w (RetOd w (foundO (b.bids ++ b.asks) id)):=by
 go_enter Try.func90,Try.ntmps90
 go_wp2_with fail
 obtain ⟨w2,hw2⟩:∃ x,x=(w.alloc (.cells #[.slice A b.bids.length c,.slice A' b.asks.length c'] 62)).alloc (.cells #[.int .i64 zeroOd.id,.int .i64 zeroOd.acc,.int .i64 zeroOd.side,.int .i64 zeroOd.price,.int .i64 zeroOd.qty] 71):=⟨_,rfl⟩
 have hb2:Below w.heap.size w w2:=by rw [hw2];exact ((Below.refl _ _).alloc (Nat.le_refl _) _).alloc (by simp) _
 have hs2:w2.heap.size=w.heap.size + 1 + 1:=by rw [hw2];simp
 have X2:Blk w2 (w.heap.size + 1) 71 #[.int .i64 zeroOd.id,.int .i64 zeroOd.acc,.int .i64 zeroOd.side,.int .i64 zeroOd.price,.int .i64 zeroOd.qty]:=by
  have:=Blk.new (w.alloc (.cells #[.slice A b.bids.length c,.slice A' b.asks.length c'] 62)) 71 #[.int .i64 zeroOd.id,.int .i64 zeroOd.acc,.int .i64 zeroOd.side,.int .i64 zeroOd.price,.int .i64 zeroOd.qty]
  rw [World.size_alloc] at this
  rw [hw2];exact this
 simp only [zeroOd] at hw2
 rw [← hw2]
 simp only [zeroOd] at X2
 have hr:=h.below (hb2.mono hB)
 clear hw2
 refine (rorders_any b A A' c c' B w2 hr (by omega) hl).mono ?_
 rintro e w5 ⟨v,rfl,hown,hb5⟩
 have hs5:=hb5.size
 replace X2:=X2.below hb5 X2.lt
 have hbw5:=hb2.trans (hb5.mono (by omega))
 obtain ⟨A1,c1,rfl⟩:=own_shape hown
 have hr5:=Rd.of_own hown
 have hle5:=hr5.le
 have hcap5:=hr5.cap
 have HL:=Lib.hid (rdo_len hr5)
 have HR5:=Lib.hid hr5
 have HX2:=Lib.hid X2
 clear hb5 hr hown hr5 X2 hb2
 unfold maxLen at hcap5
 obtain ⟨n1,hn1⟩:∃ n,n=b.bids.length + b.asks.length:=⟨_,rfl⟩
 rw [← hn1] at HR5 HL hle5
 rw [← hn1]
 clear hn1
 go_wp2_with fail
 go_loopw [10] (fun i wr=>∃ j:Nat,j ≤ n1∧i=.int .i64 j∧Below w5.heap.size w5 wr∧Hid (((b.bids ++ b.asks).take j).all (fun y=>!hasId id y)=true)) (fun i _=>n1 - (intOf i).toNat)
 case atStart=>exact ⟨0,Nat.zero_le _,rfl,Below.refl _ _,rfl⟩
 case round =>
  obtain ⟨j,hj,rfl,hbr,HP⟩:=hrel
  have hws:=hbr.size
  have X2:=HX2.out.below hbr HX2.out.lt
  have hbwr:=hbw5.trans (hbr.mono (by omega))
  by_cases hlt:j < n1
  ·obtain ⟨bb,oo,x,rfl,hbb,hx,k0,k1,k2,k3,k4⟩:=od_at (HR5.out.below hbr) hlt
   have x1:bb < wr.heap.size:=by omega
   have x2:w.heap.size + 1 < wr.heap.size:=by omega
   have HX:=Lib.hid hx
   clear hx
   obtain ⟨⟨kX20,kX21,kX22,kX23,kX24⟩,fX20,fX21,fX22,fX23,fX24⟩:=X2.c5
   rcases (bool_cs (hasId id x)).symm with hp | hp
   ·have HF:=Lib.hid (show foundO (b.bids ++ b.asks) id=x by unfold foundO;rw [find_here HX.out hp HP.out])
    have hp':(x.id == id)=true:=hp
    clear hp
    go_wp2_with fail
    refine post_name ?_
    intro Z hZ
    have XZ:Blk Z (w.heap.size + 1) 71 #[.int .i64 x.id,.int .i64 x.acc,.int .i64 x.side,.int .i64 x.price,.int .i64 x.qty]:=by rw [hZ];exact (((((X2.set_ 0 _).set_ 1 _).set_ 2 _).set_ 3 _).set_ 4 _).alloc _
    have hbZ:Below w.heap.size w Z:=by rw [hZ];exact (Below.setCell (Below.setCell (Below.setCell (Below.setCell (Below.setCell hbwr (by dsimp only;omega) _) (by dsimp only;omega) _) (by dsimp only;omega) _) (by dsimp only;omega) _) (by dsimp only;omega) _).alloc (by simp;omega) _
    clear hZ kX20 kX21 kX22 kX23 kX24 fX20 fX21 fX22 fX23 fX24 k0 k1 k2 k3 k4
    obtain ⟨⟨kXZ0,kXZ1,kXZ2,kXZ3,kXZ4⟩,-⟩:=XZ.c5
    refine bodyPost_ret (v:=.agg #[.int .i64 x.id,.int .i64 x.acc,.int .i64 x.side,.int .i64 x.price,.int .i64 x.qty]) (by simp [results,Try.results90,go_sem, *]) rfl ?_
    exact retOd_mk (o:=x) HF.out hbZ
   ·have HN:=Lib.hid (all_next (p:=hasId id) HX.out hp HP.out)
    have hp':(x.id == id)=false:=hp
    clear hp
    go_wp2_with fail
    go_roundw
    case rel=>exact ⟨j + 1,by omega,by go_num,hbr.alloc (by omega) _,HN⟩
    case measure=>simp [intOf];omega
  ·have hjn:j=n1:=by omega
   have HF:=Lib.hid (show foundO (b.bids ++ b.asks) id=zeroOd by
    unfold foundO
    rw [find_none (by have:=HP.out;rw [hjn,List.take_of_length_le (by rw [HL.out];exact Nat.le_refl _)] at this;exact this)])
   clear hjn
   obtain ⟨⟨kX20,kX21,kX22,kX23,kX24⟩,fX20,fX21,fX22,fX23,fX24⟩:=X2.c5
   go_wp2_with fail
   refine bodyPost_ret (v:=.agg #[.int .i64 0,.int .i64 0,.int .i64 0,.int .i64 0,.int .i64 0]) (by simp [results,Try.results90,go_sem, *]) rfl ?_
   exact retOd_mk (o:=zeroOd) HF.out (Below.setCell (Below.setCell (Below.setCell (Below.setCell (Below.setCell hbwr (by dsimp only;omega) _) (by dsimp only;omega) _) (by dsimp only;omega) _) (by dsimp only;omega) _) (by dsimp only;omega) _)
end
section
theorem insO_perm {o:Od}:∀ {l:List Od},(insO o l).Perm (o :: l)
 | []=>List.Perm.refl _
 | x :: l=>by
  unfold insO
  split
  ·exact List.Perm.refl _
  ·exact ((insO_perm (l:=l)).cons x).trans (List.Perm.swap o x l)
theorem filter_all {p:Od→Bool} {l:List Od} (h:∀ x ∈ l,p x=true):l.filter p=l:=List.filter_eq_self.2 h
theorem filter_no {p:Od→Bool} {l:List Od} (h:∀ x ∈ l,p x=false):l.filter p = []:=by
 rw [List.filter_eq_nil_iff];intro x hx;rw [h x hx];simp
theorem ok_qty {o:Od} (h:ordErr o=0):o.qty ≠ 0:=by
 have:=(ordErr_ok.1 h).2.2.2.2;omega
theorem bid_of {x:Od} (h:ordErr x=0) (hs:x.side=1):isBid x=true∧isAsk x=false:=by
 unfold isBid isAsk;simp [ok_qty h,hs]
theorem ask_of {x:Od} (h:ordErr x=0) (hs:x.side = -1):isBid x=false∧isAsk x=true:=by
 unfold isBid isAsk;simp [ok_qty h,hs]
theorem side_bids {l:List Od} (h:SideOk 1 l):l.filter isBid=l∧l.filter isAsk = [] :=
 ⟨filter_all fun x hx=>(bid_of (h.ok x hx) (h.side x hx)).1,filter_no fun x hx=>(bid_of (h.ok x hx) (h.side x hx)).2⟩
theorem side_asks {l:List Od} (h:SideOk (-1) l):l.filter isBid = []∧l.filter isAsk=l :=
 ⟨filter_no fun x hx=>(ask_of (h.ok x hx) (h.side x hx)).1,filter_all fun x hx=>(ask_of (h.ok x hx) (h.side x hx)).2⟩
theorem found_has {b:Bk} (hb:BookOk b) (id:Int):(decide (id ≠ 0) && decide ((foundO (b.bids ++ b.asks) id).id=id))=hasB b id:=by
 have hpos:∀ x ∈ b.bids ++ b.asks,1 ≤ x.id:=fun x hx=>by
  rcases List.mem_append.1 hx with h | h
  ·exact (ordErr_ok.1 (hb.bids.ok x h)).1.1
  ·exact (ordErr_ok.1 (hb.asks.ok x h)).1.1
 cases hf:findO (b.bids ++ b.asks) id with
 | some x =>
  obtain ⟨h1,h2⟩:=findO_some hf
  have h3:=hpos x h1
  have e:foundO (b.bids ++ b.asks) id=x:=by unfold foundO;rw [hf]
  rw [e,show hasB b id=true from hasB_iff.2 ⟨x,List.mem_append.1 h1,h2⟩]
  simp [h2];omega
 | none =>
  have e:foundO (b.bids ++ b.asks) id=zeroOd:=by unfold foundO;rw [hf]
  have hn:=findO_none hf
  rw [e,show hasB b id=false from hasB_not.2 ⟨fun x hx=>hn x (List.mem_append.2 (.inl hx)),fun x hx=>hn x (List.mem_append.2 (.inr hx))⟩]
  by_cases h:id=0
  ·simp [h]
  ·simp [zeroOd,h,Ne.symm h]
theorem head_best {s:Int} {l:List Od} {h:Od} {t:List Od} (hs:SideOk s l) (hl:l=h :: t) {x:Od} (hx:x ∈ l):(s=1→x.price ≤ h.price)∧(s ≠ 1→h.price ≤ x.price):=by
 subst hl
 rcases List.mem_cons.1 hx with rfl | hx
 ·exact ⟨fun _=>Int.le_refl _,fun _=>Int.le_refl _⟩
 ·have ha:=(List.pairwise_cons.1 hs.sorted).1 x hx
  have h1:=hs.side h List.mem_cons_self
  constructor
  ·intro e
   have:=(ahead_buy (h1.trans e)).1 ha;omega
  ·intro e
   have:=(ahead_sell (by rw [h1];exact e)).1 ha;omega
def metB (o x:Od):Bool:=decide (x.side ≠ o.side) && crossesB o x.price
theorem meets_head {b:Bk} (hb:BookOk b) {o:Od} (ho:ordErr o=0):(b.bids ++ b.asks).any (metB o)=headCrosses o (otherOf b o.side):=by
 have hs:=(ordErr_ok.1 ho).2.2.1
 have key:∀ (A L C:List Od) (s:Int),(∀ x ∈ A,x.side=o.side)→(∀ x ∈ C,x.side=o.side)→SideOk s L→s = -o.side→(A ++ L ++ C).any (metB o)=headCrosses o L:=by
  intro A L C s hA hC hL hso
  have f1:∀ (D:List Od),(∀ x ∈ D,x.side=o.side)→D.any (metB o)=false:=fun D hD=>by
   rw [List.any_eq_false];intro x hx;unfold metB;simp [hD x hx]
  rw [List.any_append,List.any_append,f1 A hA,f1 C hC,Bool.false_or,Bool.or_false]
  cases L with
  | nil=>rfl
  | cons h t =>
   show _=crossesB o h.price
   have hm:∀ x ∈ h :: t,metB o x=crossesB o x.price:=fun x hx=>by
    have e:=hL.side x hx
    unfold metB
    rw [show decide (x.side ≠ o.side)=true by simp;omega,Bool.true_and]
   have hh:∀ x ∈ h :: t,(s=1→x.price ≤ h.price)∧(s ≠ 1→h.price ≤ x.price):=fun x hx=>head_best hL rfl hx
   cases hc:crossesB o h.price with
   | true=>rw [List.any_eq_true];exact ⟨h,List.mem_cons_self,by rw [hm h List.mem_cons_self,hc]⟩
   | false =>
    rw [List.any_eq_false]
    intro x hx
    rw [hm x hx]
    obtain ⟨q1,q2⟩:=hh x hx
    unfold crossesB at hc ⊢
    rcases hs with e | e
    ·rw [if_pos e] at hc ⊢
     have:=q2 (by omega)
     simp at hc ⊢;omega
    ·rw [if_neg (by omega)] at hc ⊢
     have:=q1 (by omega)
     simp at hc ⊢;omega
 unfold otherOf
 rcases hs with e | e
 ·rw [if_pos e]
  have:=key b.bids b.asks [] (-1) (fun x hx=>(hb.bids.side x hx).trans e.symm) (by simp) hb.asks (by omega)
  rwa [List.append_nil] at this
 ·rw [if_neg (by omega)]
  have:=key [] b.bids b.asks 1 (by simp) (fun x hx=>(hb.asks.side x hx).trans e.symm) hb.bids (by omega)
  rwa [List.nil_append] at this
theorem bkOf_rest {b:Bk} {o:Od} (hb:BookOk b) (ho:ordErr o=0) (hh:hasB b o.id=false):BkOf (b.bids ++ b.asks ++ [o]) (setOwn b o.side (insO o (ownOf b o.side))):=by
 obtain ⟨n1,n2⟩:=hasB_not.1 hh
 have hs:=(ordErr_ok.1 ho).2.2.1
 obtain ⟨b1,b2⟩:=side_bids hb.bids
 obtain ⟨a1,a2⟩:=side_asks hb.asks
 unfold setOwn ownOf
 rcases hs with e | e
 ·rw [if_pos e,if_pos e]
  have hk:=sideOk_insO hb.bids ho e n1
  obtain ⟨o1,o2⟩:=bid_of ho e
  refine ⟨?_,?_,hk.sorted,hb.asks.sorted,hk.side,hb.asks.side,hk.ids,hb.asks.ids⟩
  ·rw [List.filter_append,List.filter_append,b1,a1]
   simp only [List.filter_cons,o1,if_true,List.filter_nil,List.append_nil]
   exact insO_perm.trans (List.perm_append_singleton o _).symm
  ·rw [List.filter_append,List.filter_append,b2,a2]
   simp [o2]
 ·rw [if_neg (by omega),if_neg (by omega)]
  have hk:=sideOk_insO hb.asks ho e n2
  obtain ⟨o1,o2⟩:=ask_of ho e
  refine ⟨?_,?_,hb.bids.sorted,hk.sorted,hb.bids.side,hk.side,hb.bids.ids,hk.ids⟩
  ·rw [List.filter_append,List.filter_append,b1,a1]
   simp [o1]
  ·rw [List.filter_append,List.filter_append,b2,a2]
   simp only [List.filter_cons,o2,if_true,List.filter_nil,List.nil_append]
   exact insO_perm.trans (List.perm_append_singleton o _).symm
end
section
def okT (o x:Od):Bool:=decide (x.side ≠ o.side) && decide (0 < x.qty) && crossesB o x.price
def bestV (o:Od) (l:List Od) (i:Nat):Int:=match (l.take i).findIdx? (okT o) with | some k=>k | none=>-1
def InOrder (o:Od) (l:List Od):Prop:=∀ (i j:Nat) (a b:Od),i < j→l[i]?=some a→l[j]?=some b→okT o a=true→okT o b=true→aheadB b a=false
theorem bestV_zero (o:Od) (l:List Od):bestV o l 0 = -1:=by unfold bestV;simp
theorem find_take {o:Od} {l:List Od} {i:Nat} {x:Od} (hx:l[i]?=some x):(l.take (i + 1)).findIdx? (okT o)=((l.take i).findIdx? (okT o)).or (if okT o x then some i else none):=by
 have hi:i < l.length:=(List.getElem?_eq_some_iff.1 hx).1
 rw [List.take_add_one,hx,List.findIdx?_append]
 congr 1
 cases h:okT o x <;> simp [h,List.findIdx?_cons,List.length_take,Nat.min_eq_left (Nat.le_of_lt hi)]
theorem bestV_no {o:Od} {l:List Od} {i:Nat} {x:Od} (hx:l[i]?=some x) (h:okT o x=false):bestV o l (i + 1)=bestV o l i:=by
 unfold bestV;rw [find_take hx,h];simp
theorem bestV_some {o:Od} {l:List Od} {i:Nat} {k:Nat} (h:bestV o l i=k):k < i∧∃ a,l[k]?=some a∧okT o a=true:=by
 unfold bestV at h
 cases hf:(l.take i).findIdx? (okT o) with
 | none=>rw [hf] at h;simp at h
 | some m =>
  rw [hf] at h
  simp only at h
  have hmk:m=k:=by omega
  subst hmk
  obtain ⟨hm,ht,_⟩:=List.findIdx?_eq_some_iff_getElem.1 hf
  rw [List.length_take] at hm
  refine ⟨by omega,l[m],List.getElem?_eq_getElem (by omega),?_⟩
  simpa using ht
theorem bestV_cases (o:Od) (l:List Od) (i:Nat):bestV o l i = -1∨∃ k:Nat,bestV o l i=k:=by
 unfold bestV
 cases (l.take i).findIdx? (okT o) with
 | none=>exact .inl rfl
 | some m=>exact .inr ⟨m,rfl⟩
theorem bestV_first {o:Od} {l:List Od} {i:Nat} {x:Od} (hx:l[i]?=some x) (h:okT o x=true) (hb:bestV o l i = -1):bestV o l (i + 1)=i:=by
 unfold bestV at hb ⊢
 rw [find_take hx,h]
 cases hf:(l.take i).findIdx? (okT o) with
 | none=>rfl
 | some m=>rw [hf] at hb;simp only at hb;omega
theorem bestV_keep {o:Od} {l:List Od} {i k:Nat} {x:Od} (hx:l[i]?=some x) (hb:bestV o l i=k):bestV o l (i + 1)=k:=by
 unfold bestV at hb ⊢
 rw [find_take hx]
 cases hf:(l.take i).findIdx? (okT o) with
 | none=>rw [hf] at hb;simp only at hb;omega
 | some m=>rw [hf] at hb;simpa using hb
structure TkSt (o:Od) (A Z R C:List Od):Prop where
 a:∀ x ∈ A,x.side=o.side
 c:∀ x ∈ C,x.side=o.side
 z:∀ x ∈ Z,x.qty=0
 r:SideOk (-o.side) R
 s:o.side=1∨o.side = -1
theorem TkSt.no {o:Od} {A Z R C:List Od} (h:TkSt o A Z R C):(∀ x ∈ A,okT o x=false)∧(∀ x ∈ C,okT o x=false)∧(∀ x ∈ Z,okT o x=false):=by
 refine ⟨fun x hx=>?_,fun x hx=>?_,fun x hx=>?_⟩
 ·unfold okT;simp [h.a x hx]
 ·unfold okT;simp [h.c x hx]
 ·unfold okT;simp [h.z x hx]
theorem TkSt.ok {o:Od} {A Z R C:List Od} (h:TkSt o A Z R C) {x:Od} (hx:x ∈ R):okT o x=crossesB o x.price:=by
 have h1:=h.r.side x hx
 have h2:=(ordErr_ok.1 (h.r.ok x hx)).2.2.2.2
 have h3:=h.s
 unfold okT
 rw [show decide (x.side ≠ o.side)=true by simp;omega,show decide (0 < x.qty)=true by simp;omega]
 rfl
theorem cross_head {o:Od} {A Z C t:List Od} {hd:Od} (h:TkSt o A Z (hd :: t) C) (hc:crossesB o hd.price=false):∀ x ∈ hd :: t,crossesB o x.price=false:=by
 intro x hx
 obtain ⟨q1,q2⟩:=head_best h.r rfl hx
 have hs:=h.s
 unfold crossesB at hc ⊢
 rcases hs with e | e
 ·rw [if_pos e] at hc ⊢
  have:=q2 (by omega)
  simp at hc ⊢;omega
 ·rw [if_neg (by omega)] at hc ⊢
  have:=q1 (by omega)
  simp at hc ⊢;omega
theorem findIdx_no {p:Od→Bool} {L M:List Od} (h:∀ x ∈ L,p x=false):(L ++ M).findIdx? p=(M.findIdx? p).map (· + L.length):=by
 rw [List.findIdx?_append,List.findIdx?_eq_none_iff.2 (fun x hx=>by rw [h x hx]),Option.none_or]
theorem TkSt.best {o:Od} {A Z R C:List Od} (h:TkSt o A Z R C):bestV o (A ++ (Z ++ R) ++ C) (A ++ (Z ++ R) ++ C).length=if headCrosses o R then ((A.length + Z.length:Nat):Int) else -1:=by
 obtain ⟨h1,h2,h3⟩:=h.no
 have hC:C.findIdx? (okT o)=none:=List.findIdx?_eq_none_iff.2 (fun x hx=>by rw [h2 x hx])
 unfold bestV
 rw [List.take_length,List.append_assoc,findIdx_no h1,List.append_assoc,findIdx_no h3,List.findIdx?_append]
 cases R with
 | nil=>simp [hC,headCrosses]
 | cons hd t =>
  have he:=h.ok (x:=hd) List.mem_cons_self
  cases hc:crossesB o hd.price with
  | true =>
   rw [show headCrosses o (hd :: t)=true from hc,if_pos rfl]
   rw [List.findIdx?_cons,he,hc]
   simp;omega
  | false =>
   have hall:=cross_head h hc
   rw [show headCrosses o (hd :: t)=false from hc]
   have hn:(hd :: t).findIdx? (okT o)=none:=List.findIdx?_eq_none_iff.2 (fun x hx=>by rw [h.ok hx,hall x hx])
   rw [hn]
   simp [hC]
theorem TkSt.order {o:Od} {A Z R C:List Od} (h:TkSt o A Z R C):InOrder o (A ++ (Z ++ R) ++ C):=by
 obtain ⟨h1,h2,h3⟩:=h.no
 intro i j a b hij ha hb oa ob
 have key:∀ (k:Nat) (x:Od),(A ++ (Z ++ R) ++ C)[k]?=some x→okT o x=true→A.length + Z.length ≤ k∧R[k - (A.length + Z.length)]?=some x:=by
  intro k x hx hok
  by_cases c1:k < A.length
  ·have:x ∈ A:=by
    rw [List.append_assoc,List.getElem?_append_left c1] at hx
    exact List.mem_of_getElem? hx
   rw [h1 x this] at hok;cases hok
  ·by_cases c2:k < A.length + Z.length
   ·have:x ∈ Z:=by
     rw [List.append_assoc,List.getElem?_append_right (by omega),List.append_assoc,List.getElem?_append_left (by omega)] at hx
     exact List.mem_of_getElem? hx
    rw [h3 x this] at hok;cases hok
   ·by_cases c3:k < A.length + Z.length + R.length
    ·rw [List.append_assoc,List.getElem?_append_right (by omega),List.append_assoc,List.getElem?_append_right (by omega),List.getElem?_append_left (by omega)] at hx
     exact ⟨by omega,by rw [← hx];congr 1;omega⟩
    ·have:x ∈ C:=by
      rw [List.append_assoc,List.getElem?_append_right (by omega),List.append_assoc,List.getElem?_append_right (by omega),List.getElem?_append_right (by omega)] at hx
      exact List.mem_of_getElem? hx
     rw [h2 x this] at hok;cases hok
 obtain ⟨p1,p2⟩:=key i a ha oa
 obtain ⟨p3,p4⟩:=key j b hb ob
 obtain ⟨q1,e1⟩:=List.getElem?_eq_some_iff.1 p2
 obtain ⟨q2,e2⟩:=List.getElem?_eq_some_iff.1 p4
 have hs:=List.pairwise_iff_getElem.1 h.r.sorted _ _ q1 q2 (by omega)
 rw [e1,e2] at hs
 have s1:=h.r.side a (by rw [← e1];exact List.getElem_mem q1)
 have s2:=h.r.side b (by rw [← e2];exact List.getElem_mem q2)
 exact ahead_asymm (s1.trans s2.symm) hs
theorem set_mid {A Z C t:List Od} {hd y:Od}:(A ++ (Z ++ hd :: t) ++ C).set (A.length + Z.length) y=A ++ (Z ++ y :: t) ++ C:=by
 rw [List.append_assoc,List.set_append_right _ _ (by omega),Nat.add_sub_cancel_left,List.append_assoc,List.set_append_right _ _ (by omega),Nat.sub_self]
 simp
theorem get_mid {A Z C t:List Od} {hd:Od}:(A ++ (Z ++ hd :: t) ++ C)[A.length + Z.length]?=some hd:=by
 rw [List.append_assoc,List.getElem?_append_right (by omega),Nat.add_sub_cancel_left,List.append_assoc,List.getElem?_append_right (by omega),Nat.sub_self]
 simp
theorem TkSt.all {o:Od} {A Z C t:List Od} {hd:Od} (h:TkSt o A Z (hd :: t) C):TkSt o A (Z ++ [{ hd with qty:=0 }]) t C :=
 ⟨h.a,h.c,fun x hx=>by
  rcases List.mem_append.1 hx with q | q
  ·exact h.z x q
  ·rw [List.mem_singleton.1 q],sideOk_sub h.r (List.sublist_cons_self _ _),h.s⟩
theorem take_part {o hd:Od} {t:List Od} {left:Int} (h0:0 < left) (hc:crossesB o hd.price=true) (ha:hd.acc ≠ o.acc) (hl:left < hd.qty):takeL o left (hd :: t)=({ hd with qty:=hd.qty - left } :: t,[fillOf o hd left],0,false):=by
 unfold takeL
 rw [if_neg (by omega),if_neg (by rw [hc];simp),if_neg ha,if_pos hl]
theorem take_all {o hd:Od} {t:List Od} {left:Int} (h0:0 < left) (hc:crossesB o hd.price=true) (ha:hd.acc ≠ o.acc) (hl:¬ left < hd.qty):takeL o left (hd :: t)=((takeL o (left - hd.qty) t).1,fillOf o hd hd.qty :: (takeL o (left - hd.qty) t).2.1,(takeL o (left - hd.qty) t).2.2):=by
 conv=>lhs;unfold takeL
 rw [if_neg (by omega),if_neg (by rw [hc];simp),if_neg ha,if_neg hl]
theorem take_met {o hd:Od} {t:List Od} {left:Int} (h0:0 < left) (hc:crossesB o hd.price=true) (ha:hd.acc=o.acc):takeL o left (hd :: t)=(hd :: t,[],left,true):=by
 unfold takeL
 rw [if_neg (by omega),if_neg (by rw [hc];simp),if_pos ha]
theorem take_stop {o:Od} {R:List Od} {left:Int} (h0:0 < left) (hc:headCrosses o R=false):takeL o left R=(R,[],left,false):=by
 cases R with
 | nil=>rfl
 | cons hd t =>
  unfold takeL
  rw [if_neg (by omega),if_pos (show crossesB o hd.price=false from hc)]
theorem TkSt.part {o:Od} {A Z C t:List Od} {hd:Od} (h:TkSt o A Z (hd :: t) C) {left:Int} (h0:0 < left) (hc:crossesB o hd.price=true) (ha:hd.acc ≠ o.acc) (hl:left < hd.qty):TkSt o A Z ({ hd with qty:=hd.qty - left } :: t) C:=by
 have hk:=(takeL_side (o:=o) (left:=left) h.r).1
 rw [take_part h0 hc ha hl] at hk
 exact ⟨h.a,h.c,h.z,hk,h.s⟩
def TkDone (o:Od) (R0:List Od) (F:List Fl) (left:Int) (R:List Od):Prop :=
 takeL o o.qty R0=((takeL o left R).1,F ++ (takeL o left R).2.1,(takeL o left R).2.2)
theorem TkDone.start (o:Od) (R0:List Od):TkDone o R0 [] o.qty R0:=by unfold TkDone;simp
theorem TkDone.all {o hd:Od} {R0 t:List Od} {F:List Fl} {left:Int} (h:TkDone o R0 F left (hd :: t)) (h0:0 < left) (hc:crossesB o hd.price=true) (ha:hd.acc ≠ o.acc) (hl:¬ left < hd.qty):TkDone o R0 (F ++ [fillOf o hd hd.qty]) (left - hd.qty) t:=by
 unfold TkDone at h ⊢
 rw [h,take_all h0 hc ha hl]
 simp
theorem TkDone.part {o hd:Od} {R0 t:List Od} {F:List Fl} {left:Int} (h:TkDone o R0 F left (hd :: t)) (h0:0 < left) (hc:crossesB o hd.price=true) (ha:hd.acc ≠ o.acc) (hl:left < hd.qty):TkDone o R0 (F ++ [fillOf o hd left]) 0 ({ hd with qty:=hd.qty - left } :: t):=by
 unfold TkDone at h ⊢
 rw [h,take_part h0 hc ha hl,takeL_zero]
 simp
theorem TkDone.end_ {o:Od} {R0 R R':List Od} {F F':List Fl} {left left':Int} {met:Bool} (h:TkDone o R0 F left R) (ht:takeL o left R=(R',F',left',met)):takeL o o.qty R0=(R',F ++ F',left',met):=by
 unfold TkDone at h
 rw [h,ht]
theorem zero_bid {x:Od} (h:x.qty=0):isBid x=false∧isAsk x=false:=by unfold isBid isAsk;simp [h]
theorem bkOf_buy {A Z R:List Od} (hA:SideOk 1 A) (hz:∀ x ∈ Z,x.qty=0) (hR:SideOk (-1) R):BkOf (A ++ (Z ++ R) ++ []) ⟨A,R⟩:=by
 obtain ⟨b1,b2⟩:=side_bids hA
 obtain ⟨a1,a2⟩:=side_asks hR
 have z1:Z.filter isBid = []:=filter_no fun x hx=>(zero_bid (hz x hx)).1
 have z2:Z.filter isAsk = []:=filter_no fun x hx=>(zero_bid (hz x hx)).2
 refine ⟨?_,?_,hA.sorted,hR.sorted,hA.side,hR.side,hA.ids,hR.ids⟩
 ·rw [List.append_nil,List.filter_append,List.filter_append,b1,z1,a1];simp
 ·rw [List.append_nil,List.filter_append,List.filter_append,b2,z2,a2];simp
theorem bkOf_sell {Z R C:List Od} (hC:SideOk (-1) C) (hz:∀ x ∈ Z,x.qty=0) (hR:SideOk 1 R):BkOf ([] ++ (Z ++ R) ++ C) ⟨R,C⟩:=by
 obtain ⟨b1,b2⟩:=side_bids hR
 obtain ⟨a1,a2⟩:=side_asks hC
 have z1:Z.filter isBid = []:=filter_no fun x hx=>(zero_bid (hz x hx)).1
 have z2:Z.filter isAsk = []:=filter_no fun x hx=>(zero_bid (hz x hx)).2
 refine ⟨?_,?_,hR.sorted,hC.sorted,hR.side,hC.side,hR.ids,hC.ids⟩
 ·rw [List.nil_append,List.filter_append,List.filter_append,b1,z1,a1];simp
 ·rw [List.nil_append,List.filter_append,List.filter_append,b2,z2,a2];simp
def ownA (b:Bk) (o:Od):List Od:=if o.side=1 then b.bids else []
def ownC (b:Bk) (o:Od):List Od:=if o.side=1 then [] else b.asks
theorem parts_of (b:Bk) (o:Od):ownA b o ++ ([] ++ otherOf b o.side) ++ ownC b o=b.bids ++ b.asks:=by
 unfold ownA ownC otherOf
 by_cases h:o.side=1 <;> simp [h]
theorem tkSt_start {b:Bk} (hb:BookOk b) {o:Od} (ho:ordErr o=0):TkSt o (ownA b o) [] (otherOf b o.side) (ownC b o):=by
 have hs:=(ordErr_ok.1 ho).2.2.1
 refine ⟨fun x hx=>?_,fun x hx=>?_,by simp,other_of hb o.side hs,hs⟩
 ·unfold ownA at hx
  by_cases h:o.side=1
  ·rw [if_pos h] at hx;exact (hb.bids.side x hx).trans h.symm
  ·rw [if_neg h] at hx;simp at hx
 ·unfold ownC at hx
  by_cases h:o.side=1
  ·rw [if_pos h] at hx;simp at hx
  ·rw [if_neg h] at hx;rw [hb.asks.side x hx];omega
theorem bkOf_taken {b:Bk} (hb:BookOk b) {o:Od} {Z R:List Od} (h:TkSt o (ownA b o) Z R (ownC b o)):BkOf (ownA b o ++ (Z ++ R) ++ ownC b o) (setOther b o.side R):=by
 have hr:=h.r
 unfold ownA ownC setOther
 rcases h.s with e | e
 ·rw [if_pos e,if_pos e,if_pos e]
  rw [e] at hr
  exact bkOf_buy hb.bids h.z hr
 ·rw [if_neg (by omega),if_neg (by omega),if_neg (by omega)]
  rw [e] at hr
  exact bkOf_sell hb.asks h.z hr
end
section
open Go.RowKit
theorem odCells_setq:∀ {l:List Od} {k:Nat} {x:Od} {q:Int},l[k]?=some x→(odCells l).set (k * 5 + 4) (.int .i64 q)=odCells (l.set k { x with qty:=q })
 | [],_,_,_,h=>by simp at h
 | o :: l,0,x,q,h=>by
  simp only [List.getElem?_cons_zero,Option.some.injEq] at h
  subst h;rfl
 | o :: l,k + 1,x,q,h=>by
  simp only [List.getElem?_cons_succ] at h
  rw [show (k + 1) * 5 + 4=k * 5 + 4 + 1 + 1 + 1 + 1 + 1 by omega]
  simp only [odCells,List.set_cons_succ]
  rw [odCells_setq h]
theorem own_set_qty {w:World} {base g n c k:Nat} {e:TypeId} {l:List Od} {x:Od} {q:Int} (h:w.ownsRow base e 5 (.slice (some ⟨g,0,none⟩) n c) n (odCells l)) (hx:l[k]?=some x) :
  (w.setCell ⟨g,k * 5 + 4,none⟩ (.int .i64 q)).ownsRow base e 5 (.slice (some ⟨g,0,none⟩) n c) n (odCells (l.set k { x with qty:=q })):=by
 have hk:k < l.length:=(List.getElem?_eq_some_iff.1 hx).1
 obtain ⟨hl,⟨h1,_⟩ | ⟨g',cap',cur,h1,hb0,hb,h2,h3,hcs,ht⟩⟩:=h
 ·cases h1
 ·cases h1
  rw [odCells_len] at hl
  have hB:Blk w g e cur:=hb
  refine ⟨by rw [odCells_len,List.length_set];exact hl,.inr ⟨g,c,cur.setIfInBounds (k * 5 + 4) (.int .i64 q),rfl,hb0,hB.set_ _ _,h2,h3,by simp [hcs],?_⟩⟩
  rw [← odCells_setq hx,← ht]
  apply List.ext_getElem?
  intro i
  by_cases hi:i < n * 5
  ·rw [List.getElem?_take,if_pos hi,Array.getElem?_toList,Array.getElem?_setIfInBounds,List.getElem?_set,List.getElem?_take,if_pos hi,Array.getElem?_toList,List.length_take]
   by_cases e1:k * 5 + 4=i
   ·rw [if_pos e1,if_pos e1]
    have hle:n * 5 ≤ cur.size:=by rw [hcs];exact Nat.mul_le_mul_right 5 h2
    rw [if_pos (by omega),if_pos (by rw [Array.length_toList];omega)]
   ·rw [if_neg e1,if_neg e1]
  ·rw [List.getElem?_take,if_neg hi,List.getElem?_eq_none (by rw [List.length_set,List.length_take];omega)]
structure RTk (w wr:World) (base:Nat) (B1:Array Value) (o:Od) (vl:Value) (n1:Nat) (l:List Od) (vf:Value) (fs:List Fl):Prop where
 bel:Below w.heap.size w wr
 one:Blk wr w.heap.size 62 B1
 two:Blk wr (w.heap.size + 1) 71 #[.int .i64 o.id,.int .i64 o.acc,.int .i64 o.side,.int .i64 o.price,.int .i64 o.qty]
 three:Blk wr (w.heap.size + 1 + 1) 62 #[.slice none 0 0,.slice none 0 0]
 low:w.heap.size + 1 + 1 < base
 high:base ≤ wr.heap.size
 row:wr.ownsRow base 71 5 vl n1 (odCells l)
 rowF:wr.ownsRow base 87 7 vf fs.length (flCells fs)
 ap:∀ k,vl.ownBlock=some k→vf.ownBlock ≠ some k
theorem RTk.below {w wr w1:World} {base n1:Nat} {B1:Array Value} {o:Od} {vl vf:Value} {l:List Od} {fs:List Fl} (h:RTk w wr base B1 o vl n1 l vf fs) (hb:Below wr.heap.size wr w1):RTk w w1 base B1 o vl n1 l vf fs :=
 ⟨h.bel.trans (hb.mono h.bel.size),h.one.below hb h.one.lt,h.two.below hb h.two.lt,h.three.below hb h.three.lt,h.low,Nat.le_trans h.high hb.size,own_below h.row hb (Nat.le_refl _),own_below h.rowF hb (Nat.le_refl _),h.ap⟩
theorem RTk.fill {w wr w1:World} {base n1:Nat} {B1:Array Value} {o:Od} {vl vf v1:Value} {l:List Od} {fs:List Fl} {f:Fl} (h:RTk w wr base B1 o vl n1 l vf fs) (ho:w1.ownsRow base 87 7 v1 (fs.length + 1) (flCells fs ++ flCells [f])) (hb:Below base wr w1) (hg:wr.grownBy w1 vf.ownBlock)
  (ha:v1.ownBlock=vf.ownBlock∨v1.ownBlock=some wr.heap.size):RTk w w1 base B1 o vl n1 l v1 (fs ++ [f]):=by
 have hl:=h.low
 have ne:∀ x,x < base→vf.ownBlock ≠ some x:=fun x hx e=>by
  obtain ⟨g,e1,e2,_⟩:=own_ge h.rowF (by rw [e];simp)
  rw [e] at e1;injection e1;omega
 refine ⟨h.bel.trans (hb.mono (by omega)),h.one.below hb (by omega),h.two.below hb (by omega),h.three.below hb (by omega),h.low,Nat.le_trans h.high hg.size,?_,?_,?_⟩
 ·refine World.ownsRow.kept h.row hg ?_
  cases hv:vl.ownBlock with
  | none=>exact .inl rfl
  | some k=>exact .inr fun e=>h.ap k hv e.symm
 ·rw [← flCells_app] at ho
  rw [List.length_append]
  exact ho
 ·intro k hk e
  obtain ⟨g,e1,_,e3⟩:=own_ge h.row (by rw [hk];simp)
  rcases ha with ha | ha
  ·rw [ha] at e;exact h.ap k hk e
  ·rw [ha] at e;rw [hk] at e1;injection e with e;injection e1 with e1;omega
theorem RTk.less {w wr:World} {base n1 g c k:Nat} {B1:Array Value} {o x:Od} {vf:Value} {l:List Od} {fs:List Fl} {q:Int} (h:RTk w wr base B1 o (.slice (some ⟨g,0,none⟩) n1 c) n1 l vf fs) (hx:l[k]?=some x) :
  RTk w (wr.setCell ⟨g,k * 5 + 4,none⟩ (.int .i64 q)) base B1 o (.slice (some ⟨g,0,none⟩) n1 c) n1 (l.set k { x with qty:=q }) vf fs:=by
 have hl:=h.low
 have hg:=(own_lt h.row).2
 refine ⟨h.bel.setCell (by dsimp only;omega) _,h.one.far (by dsimp only;omega) _,h.two.far (by dsimp only;omega) _,h.three.far (by dsimp only;omega) _,h.low,by rw [size_setCell];exact h.high,own_set_qty h.row hx,?_,h.ap⟩
 obtain ⟨hl2,h0 | ⟨g',cap',cur,h1,hb0,hb,h2,h3,hcs,ht⟩⟩:=h.rowF
 ·exact ⟨hl2,.inl h0⟩
 ·have hne:g' ≠ g:=fun e=>h.ap g rfl (by rw [h1,e];rfl)
  exact ⟨hl2,.inr ⟨g',cap',cur,h1,hb0,Blk.far (t:=87) (cs:=cur) hb hne _,h2,h3,hcs,ht⟩⟩
end
end Go.Proofs.Ytockodmbhnlheaa
