/-
  THE LAW BookSays: holds for every input, with no condition. (Joined texts: Ins3, BookCheck, Book, Book2, BookLaws.)
-/
import Derived.Test.YtockodmbhnlheaaBookSaysC
import Derived.Test.YtockodmbhnlheaaProg
import Derived.Test.YtockodmbhnlheaaBookSaysA
import Derived.Maps.AppendAt
import Derived.Laws.AppendOwnNone
import Derived.OwnWalk
import Derived.Lib.AppendZeros
import Derived.Test.YtockodmbhnlheaaBookSaysB
import Derived.Laws.CopyOwn
import Derived.Lib.AppendZerosOnto
import Derived.Lib.Overlaps
import Derived.Laws.Externs
import Derived.Deep.RegionLaw
import Derived.Maps.Own
import Derived.Maps.OwnOps
import Derived.Maps.Views
import Derived.WalkKit
import Derived.Deep.Draws
import Derived.IntWalk
import Derived.Deep.RegionHeld3
import Derived.Deep.QuietTactic
import Derived.BigQuiet
import Derived.Deep.DeepCutAuto
import Derived.WalkSpells
import Derived.WalkLawsBesides
import Derived.Lib.Hide
namespace Go.Proofs.Ytockodmbhnlheaa
section
open Go.RowKit
theorem app_zeros_onto {P:Program} {t e tn k bytes:Nat} {kn:IntKind} (E:Elem P t e k bytes) (htn:P.underlying tn=some (.int kn)) (w:World) (g c i m B:Nat) (cur:List Value) (hg:Blk w g e cur.toArray) (hcl:cur.length=c * k) (hic:i ≤ c) (hm:c < i + m)
  (h48:(i + m) * bytes ≤ 140737488355328) (hml:i + m ≤ maxLen) (hB:B ≤ w.heap.size) :
  ∃ (c':Nat) (ROW:List Value) (W:World),(∀ ty,(Builtin.append_ #[t,tn] ty #[.slice (some ⟨g,0,none⟩) i c,.int .i64 m]).run P w=.ok (.slice (some ⟨w.heap.size,0,none⟩) (i + m) c') W)∧i + m ≤ c'∧c' ≤ maxLen∧ROW.length=c' * k∧ROW.take (i * k)=cur.take (i * k) ∧
   Blk W w.heap.size e ROW.toArray∧Below B w W∧(∀ j,j < w.heap.size→W.heap[j]?=w.heap[j]?):=by
 obtain ⟨ii,z,hi,hz,hk,hb,hzk⟩:=E.hi
 have hik:i * k ≤ cur.length:=by rw [hcl];exact Nat.mul_le_mul_right _ hic
 have hlen:(cur.take (i * k)).length=i * k:=by rw [List.length_take];omega
 have hold:(Builtin.firstCells ii.size i (.slice (some ⟨g,0,none⟩) i c)).run P w.drew=.ok (cur.take (i * k)).toArray w.drew:=by
  rw [hk]
  refine run_firstCells_some w.drew k i ⟨g,0,none⟩ i c _ hlen fun j v hj=>?_
  rw [Addr.add_lit,Blk.cell (show Blk w.drew g e cur.toArray from hg)]
  rw [List.getElem?_take] at hj
  split at hj
  ·simpa using hj
  ·cases hj
 have hm48:m * bytes ≤ (i + m) * bytes:=Nat.mul_le_mul_right _ (by omega)
 have hr:=fun ty=>Lib.run_append_grow_zeros (P:=P) w t tn ty e ii z .i64 kn E.ht htn hi hz (some ⟨g,0,none⟩) i c _ hold m (by omega) (by rw [hk];exact E.pos) (by omega) (by simp only [maxLen] at hml;omega) (by rw [hb];omega) (by rw [hb];exact growslice_fits hm h48)
 have hge:=grownCap_ge w (i + m) c e
 refine ⟨_,(cur.take (i * k)) ++ ((Builtin.zeroCells z.cells m).toList ++ (Builtin.zeroCells z.cells (grownCap w (i + m) c e - (i + m))).toList),_,hr,hge,grownCap_le_maxLen _ _ _ _ hml,?_,?_,?_,?_,?_⟩
 ·simp only [List.length_append,hlen,Array.length_toList,size_zeroCells,hzk,← Nat.add_mul]
  rw [show i + (m + (grownCap w (i + m) c e - (i + m)))=grownCap w (i + m) c e by omega]
 ·rw [List.take_append_of_le_length (by omega)];exact List.take_of_length_le (by omega)
 ·unfold Blk
  rw [show w.heap.size=w.drew.heap.size from rfl,heap_alloc_new]
  congr 2
  apply Array.toList_inj.1
  simp
 ·exact ((below_drew (Below.refl _ _)).alloc (Nat.le_refl _) _).mono hB
 ·intro j hj
  exact heap_alloc_old w.drew _ (r:=j) hj
set_option maxHeartbeats 1000000 in
set_option maxRecDepth 100000 in
theorem insert_new (base g n c i:Nat) (L:List Od) (o:Od) (cur:List Value) (vb vc:Nat) (tv:TypeId) (w:World) (hg:Blk w g 71 cur.toArray) (hcl:cur.length=c * 5) (hcur:cur.take (n * 5)=odCells L) (hnc0:n ≤ c) (hnc:c < n + 1) (hc:c ≤ maxLen)
  (hb:base ≤ w.heap.size) (hv:Blk w vb tv #[.int .i64 o.id,.int .i64 o.acc,.int .i64 o.side,.int .i64 o.price,.int .i64 o.qty]) (_hne:vb ≠ g) (hin:i < n) (hm:(n + 1) * 40 ≤ 140737488355328) :
  Calls Try.prog 140 #[.slice (some ⟨g,0,none⟩) n c,.int .i64 i,.slice (some ⟨vb,0,none⟩) 1 vc] w fun e w'=>∃ v',e=.returned v'∧w'.ownsRow base 71 5 v' (n + 1) (odCells (insAt L i o))∧Below base w w'∧Only w w' (some g):=by
 obtain ⟨hX,hXl,hDl,hOl,hsrc,hL⟩:=ins_cells o hcur (show n * 5 ≤ cur.length by omega) (Nat.le_of_lt hin)
 obtain ⟨c',ROW,W1,hrz,hc1,hc2,hRl,hRX,hW1,hB1,hO1⟩:=app_zeros_onto (P:=Try.prog) elem_od Try.underlying3 w g c i (n + 1 - i) base cur hg hcl (by omega) (by omega) (by omega) (by simp only [maxLen];omega) hb
 have hin1:i + (n + 1 - i)=n + 1:=by omega
 rw [hin1] at hrz hc1
 rw [show ((n + 1 - i:Nat):Int)=(n:Int) + 1 - (i:Int) by omega] at hrz
 clear hin1
 have HF:=Lib.hid (show (splice (splice ROW (i * 5) (odCells [o])) ((i + 1) * 5) (odCells (L.drop i))).take ((n + 1) * 5)=odCells (insAt L i o) by
  have:=ins_new (cur:=ROW) (X:=odCells (L.take i)) (D:=odCells (L.drop i)) (O:=odCells [o]) (by rw [hXl,hRX];exact hX) (by rw [hXl,hDl,hOl];omega)
  rw [hXl,hDl,hOl,show i * 5 + 5=(i + 1) * 5 by omega,show (i + 1) * 5 + (n - i) * 5=(n + 1) * 5 by omega] at this
  rw [this,odCells_ins])
 have HLI:=Lib.hid (show (insAt L i o).length=n + 1 by unfold insAt;simp;omega)
 have HS:=Lib.hid hsrc
 have HD:=Lib.hid hDl
 have HOl:=Lib.hid hOl
 have HR:=Lib.hid hRl
 have HC2:=Lib.hid hc2
 have HBW:=Lib.hid hb
 obtain ⟨G,hG⟩:∃ G,G=w.heap.size:=⟨_,rfl⟩
 have HGG:=Lib.hid hG
 have hgG:g < G:=by rw [hG];exact Blk.lt hg
 have hvG:vb < G:=by rw [hG];exact Blk.lt hv
 rw [← hG] at hW1 hO1 hrz hb
 have HV1:=Lib.hid (show Blk W1 vb tv #[.int .i64 o.id,.int .i64 o.acc,.int .i64 o.side,.int .i64 o.price,.int .i64 o.qty] from (hO1 vb hvG).trans hv)
 have HG1:=Lib.hid (show Blk W1 g 71 cur.toArray from (hO1 g hgG).trans hg)
 have HW1:=Lib.hid hW1
 have HO1:=Lib.hid hO1
 have HRZ:=Lib.hid hrz
 simp only [maxLen] at hc hc2
 clear hg hv hX hXl hsrc hcur hcl hDl hOl hL hRl hRX hW1 hO1 hG hrz
 have hw1:IntKind.i64.wrap ((i:Int) + 1)=(i:Int) + 1:=IntWalk.i64_in _ (by omega)
 have hw2:IntKind.i64.wrap ((n:Int) + 1)=(n:Int) + 1:=IntWalk.i64_in _ (by omega)
 have hw3:IntKind.i64.wrap ((n:Int) + 1 - (i:Int))=(n:Int) + 1 - (i:Int):=IntWalk.i64_in _ (by omega)
 have hz2:¬ ((i:Int)=(n:Int)):=by omega
 have htn:((i:Int) + 1).toNat=i + 1:=by omega
 have hb2:¬ (c'=i + 1):=by omega
 have hb4:¬ (c=i):=by omega
 have hb5:¬ (c'=i):=by omega
 have hb3:(i:Int) ≤ (n:Int) + 1:=by omega
 have hb1:(0:Int) ≤ (i:Int) + 1:=by omega
 have hin2:i ≤ n:=by omega
 have hin3:(i:Int) ≤ (n:Int):=by omega
 go_enter Try.func140,Try.ntmps140
 have hf1:i * 5 + (odCells [o]).length ≤ ROW.length:=by rw [HOl.out,HR.out];omega
 have HF1:=Lib.hid hf1
 have HS1:=Lib.hid (show ∀ j v,(odCells [o])[j]?=some v→W1.cell? ⟨vb,0 + j,none⟩=some v from fun j v hj=>by
  rw [Blk.cell HV1.out,Nat.zero_add]
  simpa [odCells] using hj)
 clear hf1
 go_wp2_with (first | (at_builtin;refine Lib.wpList_append_run _ rfl _ _ _ _ rfl _ _ rfl rfl _ _ (HRZ.out _) ?_) | (refine wpList_copyK rfl (.tmp 43) (.tmp 44) 60 60 rfl 71 5 40 elem_od G (i * 5) (n + 1 - i) (c' - i) vb 0 1 vc (by rfl) (by rfl) 1 (i * 5) 0 ⟨rfl,rfl,Nat.le_refl _,by omega,by omega⟩ ROW 71 HW1.out (odCells [o]) rfl HS1.out HF1.out (odCells_one _) base w hB1 hb ?_;intro w2 HG2 hB2 hO2))
 have HG2':Hid (w2.drew.heap[G]?=some (.cells (splice ROW (i * 5) (odCells [o])).toArray 71 (0,0))):=HG2
 have hg2:Blk w2.drew g 71 cur.toArray:=(hO2 g (by omega)).trans HG1.out
 have hs2:∀ j v,(odCells (L.drop i))[j]?=some v→w2.drew.cell? ⟨g,i * 5 + j,none⟩=some v:=fun j v hj=>by
  have:=HS.out j v hj
  rw [Blk.cell hg2]
  simpa using this
 have HS2:=Lib.hid hs2
 have hf2:(i + 1) * 5 + (odCells (L.drop i)).length ≤ (splice ROW (i * 5) (odCells [o])).length:=by rw [length_splice _ _ _ HF1.out,HD.out,HR.out];omega
 have HF2:=Lib.hid hf2
 have hBd:Below base w w2.drew:=hB2.trans ((below_drew (Below.refl _ _)).mono (Nat.le_trans HBW.out hB2.size))
 have HO2:=Lib.hid hO2
 clear hg2 hs2 hf2 hO2
 go_region_law (refine step_copyK rfl _ _ 60 60 rfl 71 5 40 elem_od G ((i + 1) * 5) (n + 1 - (i + 1)) (c' - (i + 1)) g (i * 5) (n - i) (c - i) (by simp [Act.eval,Act.put]) (by simp [Act.eval,Act.put]) (n - i) ((i + 1) * 5) (i * 5) ⟨rfl,rfl,by omega,by omega,by omega⟩ (splice ROW (i * 5) (odCells [o])) 71 HG2'.out (odCells (L.drop i)) HD.out HS2.out HF2.out (odCells_one _) base w hBd hb ?_;intro w3 HG3 hB3 hO3)
 have HO3:=Lib.hid hO3
 clear hO3
 go_wp2_with fail
 go_ret
 refine ⟨_,rfl,⟨?_,.inr ⟨G,c',_,rfl,hb,HG3.out,hc1,HC2.out,?_,?_⟩⟩,hB3,fun k hk _=>?_⟩
 ·rw [odCells_len,HLI.out]
 ·rw [List.size_toArray,length_splice _ _ _ HF2.out,length_splice _ _ _ HF1.out,HR.out]
 ·exact HF.out
 ·have hkG:k < G:=by rw [HGG.out];exact hk
  exact ((HO3.out k (by omega)).trans (HO2.out k (by omega))).trans (HO1.out k hkG)
theorem insert_od (base:Nat) (v:Value) (n i:Nat) (L:List Od) (o:Od) (vb vc:Nat) (tv:TypeId) (w:World) (hown:w.ownsRow base 71 5 v n (odCells L)) (hb:base ≤ w.heap.size) (hv:Blk w vb tv #[.int .i64 o.id,.int .i64 o.acc,.int .i64 o.side,.int .i64 o.price,.int .i64 o.qty]) (hvc:1 ≤ vc) (hvc':vc ≤ maxLen) (hne:v.ownBlock ≠ some vb) (hi:i ≤ n) (hm:(n + 1) * 40 ≤ 140737488355328) :
  Calls Try.prog 140 #[v,.int .i64 i,.slice (some ⟨vb,0,none⟩) 1 vc] w fun e w'=>∃ v',e=.returned v'∧w'.ownsRow base 71 5 v' (n + 1) (odCells (insAt L i o))∧Below base w w'∧Only w w' v.ownBlock:=by
 by_cases hin:i=n
 ·subst hin
  refine insert_end base v i L o (some ⟨vb,0,none⟩) vc w.heap.size w hown hb ⟨rfl,hvc,hvc',nofun,fun _=>⟨vb,0,rfl,Blk.lt hv,fun j u hj=>?_⟩⟩ hm
  rw [Blk.cell hv,Nat.zero_add]
  simpa [odCells] using hj
 ·obtain ⟨hl,⟨rfl,h0⟩ | ⟨g,c,cur,rfl,hbg,hg,hnc,hcm,hcs,hct⟩⟩:=hown
  ·omega
  ·have hne':vb ≠ g:=fun e=>hne (by rw [e];rfl)
   have hgb:Blk w g 71 cur.toList.toArray:=by rw [Array.toArray_toList];exact hg
   by_cases hr:n + 1 ≤ c
   ·exact insert_shift base g n c i L o cur.toList vb vc tv w hgb (by rw [Array.length_toList];exact hcs) hct hr hcm hbg hv hne' (by omega)
   ·exact insert_new base g n c i L o cur.toList vb vc tv w hgb (by rw [Array.length_toList];exact hcs) hct hnc (by omega) hcm hb hv hne' (by omega) hm
end
section
open Go.RowKit
theorem Seen.made_at (w:World) (g:Nat) (hg:g=w.heap.size):Seen (w.alloc (.map #[] 0)) g 0 []:=by subst hg;exact Seen.made w
theorem below_of_grown1 {w w1:World} {m B:Nat} (h:w.grownBy w1 (some m)) (hB:B ≤ w.heap.size) (hm:B ≤ m):Below B w w1 :=
 (Below.refl B w).grown h hB fun k hk=>by injection hk with hk;omega
theorem crossed_nil {b:Bk} (h:b.bids.length=0∨b.asks.length=0):crossedB b=false:=by
 obtain ⟨l,m⟩:=b
 cases l with
 | nil=>rfl
 | cons x l =>
  cases m with
  | nil=>rfl
  | cons y m=>simp at h
theorem crossed_at {b:Bk} {x y:Od} (hx:b.bids[0]?=some x) (hy:b.asks[0]?=some y):crossedB b=decide (y.price ≤ x.price):=by
 obtain ⟨l,m⟩:=b
 cases l with
 | nil=>simp at hx
 | cons x' l =>
  cases m with
  | nil=>simp at hy
  | cons y' m=>simp at hx hy;subst hx hy;rfl
set_option maxHeartbeats 2000000 in
theorem bookCheck_any (b:Bk) (A A':Option Addr) (c c':Nat) (B:Nat) (w:World) (h:Rd w B 5 A b.bids.length c (odCells b.bids)) (h':Rd w B 5 A' b.asks.length c' (odCells b.asks)) (hB:B ≤ w.heap.size) (hl:b.bids.length ≤ 4000000000000) (hl':b.asks.length ≤ 4000000000000) :
  Calls Try.prog 62 #[.agg #[.slice A b.bids.length c,.slice A' b.asks.length c']] w fun e w'=>e=.returned (.int .i64 (bookErr b))∧Below w.heap.size w w':=by
 have hmk:=make_set
 by_cases h40:40 < b.bids.length + b.asks.length
 ·have HE:=Lib.hid (show bookErr b=2 by unfold bookErr;rw [if_pos h40])
  have h41:(40:Int) < (b.bids.length:Int) + (b.asks.length:Int):=by omega
  clear h40
  go_enter Try.func62,Try.ntmps62
  go_wp2_with fail
  go_ret
  exact ⟨ret_ii HE.out.symm,(Below.refl _ _).alloc (Nat.le_refl _) _⟩
 ·have HE:=Lib.hid (show bookErr b=if sideErr 1 none [] b.bids ≠ 0 then sideErr 1 none [] b.bids
   else if sideErr (-1) none (b.bids.map Od.id).reverse b.asks ≠ 0 then sideErr (-1) none (b.bids.map Od.id).reverse b.asks else if crossedB b then 4 else 0 by
   unfold bookErr;rw [if_neg h40])
  have h41:(b.bids.length:Int) + (b.asks.length:Int) ≤ 40:=by omega
  have h42:b.bids.length + b.asks.length ≤ 40:=by omega
  obtain ⟨r1,hr1⟩:∃ r,sideErr 1 none [] b.bids=r:=⟨_,rfl⟩
  obtain ⟨r2,hr2⟩:∃ r,sideErr (-1) none (b.bids.map Od.id).reverse b.asks=r:=⟨_,rfl⟩
  rw [hr1,hr2] at HE
  have HR1:=Lib.hid hr1
  have HR2:=Lib.hid hr2
  clear h40 hr1 hr2
  go_enter Try.func62,Try.ntmps62
  go_wp2_with fail
  refine (side_any _ _ _ b.bids 1 _ 0 [] _ _ ((h.alloc hB _).alloc (by simp;omega) _) (by omega) (Seen.made_at (w.alloc _) (w.heap.size + 1) (by simp)) (by omega) (by omega)).mono ?_
  rw [HR1.out]
  rintro e w1 ⟨rfl,hg1,hs1⟩
  have hb1:=below_of_grown1 (B:=w.heap.size + 1) hg1 (by simp) (Nat.le_refl _)
  have hw1:w.heap.size + 1 < w1.heap.size:=by have:=hg1.size;simp at this;omega
  have h91:Below w.heap.size w w1:=(((Below.refl _ _).alloc (Nat.le_refl _) _).alloc (by simp) _).trans (hb1.mono (by omega))
  have B1:=((Blk.new w 62 #[.slice A b.bids.length c,.slice A' b.asks.length c']).alloc (.map #[] 0)).below hb1 (by omega)
  have HS1:=Lib.hid hs1
  clear hg1 hs1 hb1
  by_cases hr:r1=0
  ·subst hr
   have HE2:=Lib.hid (HE.out.trans (if_neg (by simp)))
   obtain ⟨⟨b0,b1⟩,_⟩:=B1.c2
   go_wp2_with fail
   refine (side_any _ _ _ b.asks (-1) _ _ _ _ _ (h'.below (h91.mono hB)) (by omega) (HS1.out trivial) (by omega) (by omega)).mono ?_
   rw [List.append_nil,HR2.out]
   rintro e w2 ⟨rfl,hg2,_⟩
   have hb2:=below_of_grown1 (B:=w.heap.size + 1) hg2 (by omega) (Nat.le_refl _)
   have hw2:w.heap.size + 1 < w2.heap.size:=by have:=hg2.size;omega
   have h92:Below w.heap.size w w2:=h91.trans (hb2.mono (by omega))
   have B2:=B1.below hb2 (by omega)
   have ra:=h.below (h92.mono hB)
   have rb:=h'.below (h92.mono hB)
   clear b0 b1 B1 hg2 hb2 HS1
   by_cases hr':r2=0
   ·subst hr'
    have HE3:=Lib.hid (HE2.out.trans (if_neg (by simp)))
    obtain ⟨⟨b0,b1⟩,_⟩:=B2.c2
    by_cases hn:b.bids.length=0
    ·have HE4:=Lib.hid (show bookErr b=0 by rw [HE3.out,crossed_nil (.inl hn)];rfl)
     have d1:decide ((0:Int) < (b.bids.length:Int))=false:=decide_eq_false (by omega)
     have d2:decide (0 < b.bids.length)=false:=decide_eq_false (by omega)
     clear hn
     go_wp2_with fail
     go_quiet (fail)
     go_wp2_with fail
     go_ret
     exact ⟨ret_ii HE4.out.symm,below_drewN h92 _⟩
    ·have d1:decide ((0:Int) < (b.bids.length:Int))=true:=decide_eq_true (by omega)
     have d2:decide (0 < b.bids.length)=true:=decide_eq_true (by omega)
     by_cases hn':b.asks.length=0
     ·have HE4:=Lib.hid (show bookErr b=0 by rw [HE3.out,crossed_nil (.inr hn')];rfl)
      have d3:decide ((0:Int) < (b.asks.length:Int))=false:=decide_eq_false (by omega)
      have d4:decide (0 < b.asks.length)=false:=decide_eq_false (by omega)
      clear hn hn'
      go_wp2_with fail
      go_quiet (fail)
      go_wp2_with fail
      go_ret
      exact ⟨ret_ii HE4.out.symm,below_drewN h92 _⟩
     ·have d3:decide ((0:Int) < (b.asks.length:Int))=true:=decide_eq_true (by omega)
      have d4:decide (0 < b.asks.length)=true:=decide_eq_true (by omega)
      obtain ⟨g1,o1,x,rfl,hg1,hx,_,_,_,k3,_⟩:=od_at ra (i:=0) (by omega)
      obtain ⟨g2,o2,y,rfl,hg2,hy,_,_,_,m3,_⟩:=od_at rb (i:=0) (by omega)
      have HX:=Lib.hid (crossed_at hx hy)
      rw [Nat.zero_mul,Nat.add_zero] at k3 m3
      have e1:0 < b.bids.length:=by omega
      have e2:0 < b.asks.length:=by omega
      have e3:(0:Int) < (b.bids.length:Int):=by omega
      have e4:(0:Int) < (b.asks.length:Int):=by omega
      clear hx hy hn hn'
      by_cases hp:y.price ≤ x.price
      ·have HE4:=Lib.hid (show bookErr b=4 by rw [HE3.out,HX.out];simp [hp])
       go_wp2_with fail
       go_quiet (fail)
       go_wp2_with fail
       go_ret
       exact ⟨ret_ii HE4.out.symm,below_drewN h92 _⟩
      ·have HE4:=Lib.hid (show bookErr b=0 by rw [HE3.out,HX.out];simp [hp])
       have hp':decide (y.price ≤ x.price)=false:=by simpa using hp
       have hp2:x.price < y.price:=by omega
       clear hp
       go_wp2_with fail
       go_quiet (fail)
       go_wp2_with fail
       go_ret
       exact ⟨ret_ii HE4.out.symm,below_drewN h92 _⟩
   ·have HE3:=Lib.hid (HE2.out.trans (if_pos hr'))
    have hr2:(r2 != 0)=true:=by simpa using hr'
    clear hr'
    go_wp2_with fail
    go_ret
    exact ⟨ret_ii HE3.out.symm,h92⟩
  ·have HE2:=Lib.hid (HE.out.trans (if_pos hr))
   have hr2:(r1 != 0)=true:=by simpa using hr
   clear hr
   go_wp2_with fail
   go_ret
   exact ⟨ret_ii HE2.out.symm,h91⟩
end
section
open Go.RowKit
structure BkR (w:World) (B:Nat) (A A':Option Addr) (c c':Nat) (b:Bk):Prop where
 l:Rd w B 5 A b.bids.length c (odCells b.bids)
 r:Rd w B 5 A' b.asks.length c' (odCells b.asks)
theorem BkR.below {w w':World} {B:Nat} {A A':Option Addr} {c c':Nat} {b:Bk} (h:BkR w B A A' c c' b) (hb:Below B w w'):BkR w' B A A' c c' b:=⟨h.l.below hb,h.r.below hb⟩
def sameBk (a b:Bk):Bool:=sameOds a.bids b.bids && sameOds a.asks b.asks
theorem sameBk_self (a:Bk):sameBk a a=true:=by unfold sameBk sameOds;simp
set_option maxHeartbeats 1000000 in
theorem copy_bk (b:Bk) (A A':Option Addr) (c c' B:Nat) (w:World) (h:BkR w B A A' c c' b) (hB:B ≤ w.heap.size) (hl:b.bids.length ≤ 3500000000000) (hl':b.asks.length ≤ 3500000000000) :
  Calls Try.prog 135 #[.agg #[.slice A b.bids.length c,.slice A' b.asks.length c']] w fun e w' =>
   ∃ v v',e=.returned (.agg #[v,v'])∧w'.ownsRow w.heap.size 71 5 v b.bids.length (odCells b.bids)∧w'.ownsRow w.heap.size 71 5 v' b.asks.length (odCells b.asks)∧(∀ k,v.ownBlock=some k→v'.ownBlock ≠ some k)∧Below w.heap.size w w':=by
 go_enter Try.func135,Try.ntmps135
 go_wp2_with fail
 obtain ⟨w2,hw2⟩:∃ x,x=(w.alloc (.cells #[.slice A b.bids.length c,.slice A' b.asks.length c'] 62)).alloc (.cells #[.slice none 0 0,.slice none 0 0] 62):=⟨_,rfl⟩
 have hb2:Below w.heap.size w w2:=by rw [hw2];exact ((Below.refl _ _).alloc (Nat.le_refl _) _).alloc (by simp) _
 have hs2:w2.heap.size=w.heap.size + 1 + 1:=by rw [hw2];simp
 have B1:Blk w2 w.heap.size 62 #[.slice A b.bids.length c,.slice A' b.asks.length c']:=by rw [hw2];exact (Blk.new w _ _).alloc _
 have B2:Blk w2 (w.heap.size + 1) 62 #[.slice none 0 0,.slice none 0 0]:=by
  have:=Blk.new (w.alloc (.cells #[.slice A b.bids.length c,.slice A' b.asks.length c'] 62)) 62 #[.slice none 0 0,.slice none 0 0]
  rw [World.size_alloc] at this
  rw [hw2];exact this
 rw [← hw2]
 have HB2:=Lib.hid hb2
 have hr:=h.below (hb2.mono hB)
 have hBw:B ≤ w2.heap.size:=by omega
 have KS:Hid (∀ W,Below w2.heap.size w2 W→Below w.heap.size w W∧(W.cell? ⟨w.heap.size,0,none⟩=some (.slice A b.bids.length c)∧W.cell? ⟨w.heap.size,1,none⟩=some (.slice A' b.asks.length c'))):=by
  intro W hW
  exact ⟨hb2.trans (hW.mono (by omega)),(B1.below hW (by omega)).c2.1⟩
 have KB:Hid (∀ W,Below w2.heap.size w2 W→((W.cell? ⟨w.heap.size + 1,0,none⟩=some (.slice none 0 0)∧W.cell? ⟨w.heap.size + 1,1,none⟩=some (.slice none 0 0))∧W.frozen? ⟨w.heap.size + 1,0,none⟩=false∧W.frozen? ⟨w.heap.size + 1,1,none⟩=false)):=by
  intro W hW
  exact (B2.below hW (by omega)).c2
 have KT:Hid (∀ W v v',Below w2.heap.size w2 W →
   Below w.heap.size w ((W.setCell ⟨w.heap.size + 1,0,none⟩ v).setCell ⟨w.heap.size + 1,1,none⟩ v')∧(((W.setCell ⟨w.heap.size + 1,0,none⟩ v).setCell ⟨w.heap.size + 1,1,none⟩ v').cell? ⟨w.heap.size,0,none⟩=some (.slice A b.bids.length c)∧((W.setCell ⟨w.heap.size + 1,0,none⟩ v).setCell ⟨w.heap.size + 1,1,none⟩ v').cell? ⟨w.heap.size,1,none⟩=some (.slice A' b.asks.length c'))):=by
  intro W v v' hW'
  obtain ⟨hW,h1,h2⟩:=KS.out W hW'
  refine ⟨Below.setCell (Below.setCell hW (by simp) _) (by simp) _,?_,?_⟩
  ·simp [go_sem,h1]
  ·simp [go_sem,h2]
 have h22:Below w2.heap.size w2 w2:=Below.refl _ _
 clear hw2 hb2 B1 B2
 go_region_held3 (fun W=>Below w.heap.size w W∧(W.cell? ⟨w.heap.size,0,none⟩=some (.slice A b.bids.length c)∧W.cell? ⟨w.heap.size,1,none⟩=some (.slice A' b.asks.length c')))
  (first | (exact KS.out _ (by assumption)) | (exact KS.out _ (below_drew (by assumption))) | (exact KT.out _ _ _ (by assumption)))
  ((first
   | (go_at_call 66;go_split_ands;(with_reducible refine (clone_ods A b.bids.length c _ B _ (h.l.below (Below.mono (by assumption) hB)) (odCells_one _) (Nat.le_trans hB (Below.size (w:=w) (by assumption))) (by omega)).mono ?_);rintro e W' ⟨v,rfl,hown,hb⟩;obtain ⟨Ax,cx,rfl⟩:=own_shape hown;have hB2:=below_next (w0:=w2) hb (by first | assumption | exact below_drew (by assumption));have hB3:=KB.out _ hB2)
   | (go_at_call 66;go_split_ands;(with_reducible refine (clone_ods A' b.asks.length c' _ B _ (h.r.below (Below.mono (by assumption) hB)) (odCells_one _) (Nat.le_trans hB (Below.size (w:=w) (by assumption))) (by omega)).mono ?_);rintro e W' ⟨v,rfl,hown,hb⟩;obtain ⟨Ax,cx,rfl⟩:=own_shape hown;have hB2:=below_next (w0:=w2) hb (by first | assumption | exact below_drew (by assumption));have hB3:=KB.out _ hB2)))
 rename_i WA hbA AA cA hownA hBA _ _ _ _ _ _ _ _
 have R2:W'.ownsRow w2.heap.size 71 5 (.slice Ax b.asks.length cx) b.asks.length (odCells b.asks):=own_mono hown hBA.size
 have R1:W'.ownsRow w2.heap.size 71 5 (.slice AA b.bids.length cA) b.bids.length (odCells b.bids):=own_mono (own_below hownA hb (Nat.le_refl _)) (Nat.le_refl _)
 have D:∀ k,(Value.slice AA b.bids.length cA).ownBlock=some k→(Value.slice Ax b.asks.length cx).ownBlock ≠ some k:=fun k h1 h2=>by
  have:=(World.ownsRow.lt hownA k h1).2
  have:=(World.ownsRow.lt hown k h2).1
  omega
 have HR1:=Lib.hid R1
 have HR2:=Lib.hid R2
 have HD:=Lib.hid D
 have HBW:=Lib.hid hB2
 clear R1 R2 D hown hownA hb hbA hBA hB2
 go_wp2_with fail
 refine bodyPost_ret (v:=.agg #[.slice AA b.bids.length cA,.slice Ax b.asks.length cx]) (by simp [results,Try.results135,go_sem, *]) rfl ?_
 refine ⟨_,_,rfl,?_,?_,HD.out,(KT.out _ _ _ HBW.out).1⟩
 ·exact own_mono (base:=w2.heap.size) (ownsRow_setCell_below (ownsRow_setCell_below HR1.out (by simp;omega) _) (by simp;omega) _) (by omega)
 ·exact own_mono (base:=w2.heap.size) (ownsRow_setCell_below (ownsRow_setCell_below HR2.out (by simp;omega) _) (by simp;omega) _) (by omega)
end
section
open Go.RowKit
set_option maxHeartbeats 1000000 in
theorem same_bk (a b:Bk) (A A' C C':Option Addr) (c c' k k' B:Nat) (w:World) (h:BkR w B A A' c c' a) (h':BkR w B C C' k k' b) (hB:B ≤ w.heap.size) :
  Calls Try.prog 67 #[.agg #[.slice A a.bids.length c,.slice A' a.asks.length c'],.agg #[.slice C b.bids.length k,.slice C' b.asks.length k']] w fun e w'=>e=.returned (.bool (sameBk a b))∧Below w.heap.size w w':=by
 have HE:=Lib.hid (show sameBk a b=(sameOds a.bids b.bids && sameOds a.asks b.asks) from rfl)
 go_enter Try.func67,Try.ntmps67
 go_wp2_with fail
 obtain ⟨w2,hw2⟩:∃ x,x=(w.alloc (.cells #[.slice A a.bids.length c,.slice A' a.asks.length c'] 62)).alloc (.cells #[.slice C b.bids.length k,.slice C' b.asks.length k'] 62):=⟨_,rfl⟩
 have hb2:Below w.heap.size w w2:=by rw [hw2];exact ((Below.refl _ _).alloc (Nat.le_refl _) _).alloc (by simp) _
 have hs2:w2.heap.size=w.heap.size + 1 + 1:=by rw [hw2];simp
 have B1:Blk w2 w.heap.size 62 #[.slice A a.bids.length c,.slice A' a.asks.length c']:=by rw [hw2];exact (Blk.new w _ _).alloc _
 have B2:Blk w2 (w.heap.size + 1) 62 #[.slice C b.bids.length k,.slice C' b.asks.length k']:=by
  have:=Blk.new (w.alloc (.cells #[.slice A a.bids.length c,.slice A' a.asks.length c'] 62)) 62 #[.slice C b.bids.length k,.slice C' b.asks.length k']
  rw [World.size_alloc] at this
  rw [hw2];exact this
 rw [← hw2]
 have hr:=h.below (hb2.mono hB)
 have hr':=h'.below (hb2.mono hB)
 clear hw2
 refine (equal_ods A C a.bids.length c b.bids.length k a.bids b.bids B w2 hr.l hr'.l (by omega)).mono ?_
 rintro e w3 ⟨rfl,hb3⟩
 obtain ⟨⟨k0,k1⟩,_⟩:=(B1.below hb3 (by omega)).c2
 obtain ⟨⟨l0,l1⟩,_⟩:=(B2.below hb3 (by omega)).c2
 have hs3:=hb3.size
 rcases bool_cs (sameOds a.bids b.bids) with hp | hp
 ·have HE':=Lib.hid (show sameBk a b=false by rw [HE.out,hp];rfl)
  rw [hp]
  clear hp
  go_wp2_with fail
  go_ret
  exact ⟨ret_bb HE'.out.symm,hb2.trans (hb3.mono (by omega))⟩
 ·have HE':=Lib.hid (show sameBk a b=sameOds a.asks b.asks by rw [HE.out,hp];rfl)
  rw [hp]
  clear hp
  go_wp2_with fail
  refine (equal_ods A' C' a.asks.length c' b.asks.length k' a.asks b.asks B w3 (hr.r.below (hb3.mono (by omega))) (hr'.r.below (hb3.mono (by omega))) (by omega)).mono ?_
  rintro e w4 ⟨rfl,hb4⟩
  go_wp2_with fail
  go_ret
  exact ⟨ret_bb HE'.out.symm,(hb2.trans (hb3.mono (by omega))).trans (hb4.mono (by omega))⟩
theorem hasB_any (b:Bk) (id:Int):(b.bids ++ b.asks).any (hasId id)=hasB b id:=by
 unfold hasB
 congr 1
set_option maxHeartbeats 1000000 in
theorem has_bk (b:Bk) (id:Int) (A A':Option Addr) (c c' B:Nat) (w:World) (h:BkR w B A A' c c' b) (hB:B ≤ w.heap.size) (hl:(b.bids.length + b.asks.length) * 40 ≤ 140737488355328) :
  Calls Try.prog 134 #[.agg #[.slice A b.bids.length c,.slice A' b.asks.length c'],.int .i64 id] w fun e w'=>e=.returned (.bool (hasB b id))∧Below w.heap.size w w':=by
 have HE:=Lib.hid (hasB_any b id)
 go_enter Try.func134,Try.ntmps134
 go_wp2_with fail
 obtain ⟨w1,hw1⟩:∃ x,x=(w.alloc (.cells #[.slice A b.bids.length c,.slice A' b.asks.length c'] 62)).alloc (.cells #[.int .i64 id] 3):=⟨_,rfl⟩
 have hb1:Below w.heap.size w w1:=by rw [hw1];exact ((Below.refl _ _).alloc (Nat.le_refl _) _).alloc (by simp) _
 have hs1:w1.heap.size=w.heap.size + 1 + 1:=by rw [hw1];simp
 have B2:Blk w1 (w.heap.size + 1) 3 #[.int .i64 id]:=by
  have:=Blk.new (w.alloc (.cells #[.slice A b.bids.length c,.slice A' b.asks.length c'] 62)) 3 #[.int .i64 id]
  rw [World.size_alloc] at this
  rw [hw1];exact this
 rw [← hw1]
 obtain ⟨w2,hw2⟩:∃ x,x=w1.alloc (.cells #[.slice A b.bids.length c,.slice A' b.asks.length c'] 60):=⟨_,rfl⟩
 have hb2:Below w.heap.size w w2:=by rw [hw2];exact hb1.alloc (by omega) _
 have hs2:w2.heap.size=w.heap.size + 1 + 1 + 1:=by rw [hw2];simp [hs1]
 have B3:Blk w2 (w.heap.size + 1 + 1) 60 #[.slice A b.bids.length c,.slice A' b.asks.length c']:=by
  have:=Blk.new w1 60 #[.slice A b.bids.length c,.slice A' b.asks.length c']
  rw [hs1] at this
  rw [hw2];exact this
 have B2':Blk w2 (w.heap.size + 1) 3 #[.int .i64 id]:=by rw [hw2];exact B2.alloc _
 rw [← hw2]
 have hr:=h.below (hb2.mono hB)
 clear hw1 hw2 B2 hb1
 refine (concat_ods A A' b.bids.length c b.asks.length c' b.bids b.asks B w2 hr.l hr.r (by omega) (w.heap.size + 1 + 1) (by omega) B3.c2.1.1 B3.c2.1.2 hl).mono ?_
 rintro e w3 ⟨v,rfl,hown,hb3⟩
 obtain ⟨A1,c1,rfl⟩:=own_shape hown
 have hr3:=Rd.of_own hown
 have hs3:=hb3.size
 have Bi:=B2'.below hb3 (by omega)
 have HB:=Lib.hid (hb2.trans (hb3.mono (by omega)))
 clear hown hb3 hb2 B3 B2'
 go_wp2_with fail
 refine (contains_has A1 (b.bids.length + b.asks.length) c1 (b.bids ++ b.asks) id (w.heap.size + 1) w3.heap.size w3 hr3 (Nat.le_refl _) (by omega) (Bi.cell 0)).mono ?_
 rintro e w4 ⟨rfl,hb4⟩
 go_wp2_with fail
 go_ret
 exact ⟨ret_bb (by rw [← List.any_append];exact HE.out),HB.out.trans (hb4.mono (by omega))⟩
set_option maxHeartbeats 400000 in
theorem of_buy (g:Nat) (w:World) (x y:Value) (_h0:w.cell? ⟨g,0,none⟩=some x) (_h1:w.cell? ⟨g,1,none⟩=some y) :
  Calls Try.prog 136 #[.pointer (some ⟨g,0,none⟩),.int .i64 1] w fun e w'=>e=.returned (.tuple #[.pointer (some ⟨g,0,none⟩),.pointer (some ⟨g,1,none⟩)])∧w'=w.drew:=by
 go_enter Try.func136,Try.ntmps136
 go_wp2_with fail
 go_region
 go_wp2_with fail
 go_ret2
 exact ⟨rfl,rfl⟩
set_option maxHeartbeats 400000 in
theorem of_sell (g:Nat) (s:Int) (w:World) (x y:Value) (_h0:w.cell? ⟨g,0,none⟩=some x) (_h1:w.cell? ⟨g,1,none⟩=some y) (hs:(s == 1)=false) :
  Calls Try.prog 136 #[.pointer (some ⟨g,0,none⟩),.int .i64 s] w fun e w'=>e=.returned (.tuple #[.pointer (some ⟨g,1,none⟩),.pointer (some ⟨g,0,none⟩)])∧w'=w.drew:=by
 go_enter Try.func136,Try.ntmps136
 go_wp2_with fail
 go_region
 go_wp2_with fail
 go_ret2
 exact ⟨rfl,rfl⟩
end
section
theorem own_mem {b:Bk} (h:BookOk b) {o:Od} (ho:o ∈ b.bids ++ b.asks):o ∈ ownOf b o.side∧ordErr o=0:=by
 rcases List.mem_append.1 ho with ho | ho
 ·have hs:=h.bids.side o ho
  unfold ownOf;rw [if_pos hs];exact ⟨ho,h.bids.ok o ho⟩
 ·have hs:=h.asks.side o ho
  unfold ownOf;rw [if_neg (by omega)];exact ⟨ho,h.asks.ok o ho⟩
end
end Go.Proofs.Ytockodmbhnlheaa
