/-
  Contracts of the program's functions, and plain facts, that the laws VenueKeeps, VenueOthers, VenueCancels, VenueCash, VenueReady rest on (joined texts): InsA, MakeI, CashPure, DCash, Does, CheckPure, VMks.
-/
import Derived.Test.YtockodmbhnlheaaM03
import Derived.Test.YtockodmbhnlheaaM01
import Derived.Test.YtockodmbhnlheaaProg
import Derived.Maps.AppendAt
import Derived.Laws.AppendOwnNone
import Derived.OwnWalk
import Derived.Test.YtockodmbhnlheaaM02
import Derived.Lib.AppendZeros
import Derived.Laws.CopyOwn
import Derived.Lib.AppendZerosOnto
import Derived.Lib.Overlaps
import Derived.Laws.Externs
import Derived.Deep.RegionLaw
import Derived.Maps.Own
import Derived.Maps.OwnOps
import Derived.Maps.Views
import Derived.WalkKit
import Derived.Deep.Draws
import Derived.IntWalk
import Derived.Deep.RegionHeld3
import Derived.Deep.QuietTactic
import Derived.BigQuiet
import Derived.Deep.DeepCutAuto
import Derived.WalkSpells
import Derived.WalkLawsBesides
import Derived.Lib.Hide
import Derived.Laws.MakeOwn
import Derived.Test.YtockodmbhnlheaaM08
import Derived.Test.YtockodmbhnlheaaM06
import Derived.Test.YtockodmbhnlheaaM07
import Derived.Test.YtockodmbhnlheaaM05
import Derived.Test.YtockodmbhnlheaaM13
import Derived.Test.YtockodmbhnlheaaM15
import Derived.Test.YtockodmbhnlheaaM09
import Derived.Test.YtockodmbhnlheaaM04
import Derived.RegionTactic
import Derived.ChangeAlike
import Derived.Test.YtockodmbhnlheaaM12
import Derived.Test.YtockodmbhnlheaaM10
import Derived.Test.YtockodmbhnlheaaM11
import Derived.Test.YtockodmbhnlheaaM14
namespace Go.Proofs.Ytockodmbhnlheaa
section
open Go.RowKit
structure Av where
 id:Int
 bal:Int
 A:Option Addr
 n:Nat
 c:Nat
def avCells:List Av→List Value
 | []=>[]
 | o :: l=>.int .i64 o.id :: .int .i64 o.bal :: .slice o.A o.n o.c :: avCells l
theorem avCells_len:∀ L,(avCells L).length=L.length * 3
 | []=>rfl
 | o :: l=>by simp only [avCells,List.length_cons,avCells_len l];omega
theorem avCells_app (M:List Av):∀ L,avCells (L ++ M)=avCells L ++ avCells M
 | []=>rfl
 | o :: l=>by simp only [List.cons_append,avCells,avCells_app M l]
theorem avCells_take:∀ (L:List Av) (k:Nat),(avCells L).take (k * 3)=avCells (L.take k)
 | [],k=>by simp [avCells]
 | o :: l,0=>by simp [avCells]
 | o :: l,k + 1=>by
  rw [show (k + 1) * 3=k * 3 + 1 + 1 + 1 by omega]
  simp only [avCells,List.take_succ_cons,avCells_take l k]
theorem avCells_drop:∀ (L:List Av) (k:Nat),(avCells L).drop (k * 3)=avCells (L.drop k)
 | [],k=>by simp [avCells]
 | o :: l,0=>by simp [avCells]
 | o :: l,k + 1=>by
  rw [show (k + 1) * 3=k * 3 + 1 + 1 + 1 by omega]
  simp only [avCells,List.drop_succ_cons,avCells_drop l k]
theorem avCells_at:∀ {L:List Av} {i:Nat} {a:Av},L[i]?=some a→(avCells L)[i * 3]?=some (.int .i64 a.id)∧(avCells L)[i * 3 + 1]?=some (.int .i64 a.bal)∧(avCells L)[i * 3 + 2]?=some (.slice a.A a.n a.c)
 | [],_,_,h=>by simp at h
 | o :: l,0,a,h=>by
  simp only [List.getElem?_cons_zero,Option.some.injEq] at h
  subst h;exact ⟨rfl,rfl,rfl⟩
 | o :: l,i + 1,a,h=>by
  simp only [List.getElem?_cons_succ] at h
  rw [show (i + 1) * 3=i * 3 + 1 + 1 + 1 by omega]
  exact avCells_at h
theorem avCells_one:∀ (L:List Av),∀ u ∈ avCells L,u.oneCell'=true
 | []=>by simp [avCells]
 | o :: l=>by
  intro u hu
  simp only [avCells,List.mem_cons] at hu
  rcases hu with rfl | rfl | rfl | hu
  all_goals first | rfl | exact avCells_one l u hu
def insAv (L:List Av) (i:Nat) (o:Av):List Av:=L.take i ++ o :: L.drop i
theorem avCells_ins (L:List Av) (i:Nat) (o:Av):avCells (insAv L i o)=avCells (L.take i) ++ (avCells [o] ++ avCells (L.drop i)):=by
 unfold insAv
 rw [avCells_app,show o :: L.drop i = [o] ++ L.drop i from rfl,avCells_app]
theorem size_ac:(Try.prog.info? 37).map (·.size)=some 3:=by kernel_rfl
theorem run_sizeOf_ac (w:World):(Go.sizeOf 37).run Try.prog w=.ok 3 w:=by
 have h:=size_ac
 cases hq:Try.prog.info? 37 with
 | none=>simp [hq] at h
 | some i =>
  have hi:i.size=3:=by simpa [hq] using h
  simp [sizeOf,typeInfo,hq,hi]
theorem run_overlaps_ac (w:World) (vb b off lb cb vc:Nat) (cs cs':Array Value) (t t':TypeId) (hne:vb ≠ b) (h1:Blk w vb t cs) (h2:Blk w b t' cs') (h0:cs'.size ≠ 0) :
  (callFunc 217 #[.slice (some ⟨vb,0,none⟩) 1 vc,.slice (some ⟨b,off,none⟩) lb cb]).run Try.prog w=.ok (.value (.bool false)) w:=by
 unfold Blk at h1 h2
 rw [run_callFunc_extern Try.func217 (by kernel_rfl) (by kernel_rfl) (by kernel_rfl) (e:=Extern.SlicesOverlaps.overlaps #[39,39] #[4]) (by kernel_rfl),
  Lib.run_overlaps_apart w 39 4 37 Try.underlying39 3 run_sizeOf_ac ⟨vb,0,none⟩ ⟨b,off,none⟩ 1 vc lb cb hne t t' cs.size cs'.size (by simp [World.shape?,h1]) (by simp [World.shape?,h2]) h0 (by simp [World.frozen?,h1]) (by simp [World.frozen?,h1])]
 rfl
set_option maxHeartbeats 1000000 in
set_option maxRecDepth 100000 in
theorem insertA_end (base:Nat) (v:Value) (n:Nat) (L:List Av) (o:Av) (A:Option Addr) (c B:Nat) (w:World) (hown:w.ownsRow base 37 3 v n (avCells L)) (hb:base ≤ w.heap.size) (h:Rd w B 3 A 1 c (avCells [o])) (hm:(n + 1) * 40 ≤ 140737488355328) :
  Calls Try.prog 185 #[v,.int .i64 n,.slice A 1 c] w fun e w'=>∃ v',e=.returned v'∧w'.ownsRow base 37 3 v' (n + 1) (avCells (insAv L n o))∧Below base w w'∧Only w w' v.ownBlock:=by
 have hL:L.length=n:=by have:=hown.1;rw [avCells_len] at this;omega
 have HI:=Lib.hid (show avCells L ++ avCells [o]=avCells (insAv L n o) by
  rw [← avCells_app];unfold insAv;rw [List.take_of_length_le (by omega),List.drop_of_length_le (by omega)])
 clear hL
 obtain ⟨A0,c0,rfl⟩:=own_shape hown
 have hr:=Rd.of_own hown
 have hle:=hr.le
 have hcap:=hr.cap
 simp only [maxLen] at hcap
 obtain ⟨A1,hcut,_⟩:=cut_l elem_acc hr n (Nat.le_refl _)
 have HO:=Lib.hid hown
 have HR:=Lib.hid h
 clear hown h hr
 go_enter Try.func185,Try.ntmps185
 go_wp2_with (at_builtin;refine wpList_app rfl _ _ _ rfl base _ _ _ elem_acc _ _ _ rfl HO.out B A 1 c (avCells [o]) rfl HR.out (avCells_one _) (by simp only [maxLen];omega) (by omega) hb ?_;intro v' w' hown' hbel' hgr _)
 go_ret
 exact ⟨_,rfl,HI.out ▸ hown',hbel',hgr.block⟩
theorem insA_cells {cur:List Value} {n i:Nat} {L:List Av} (o:Av) (hc:cur.take (n * 3)=avCells L) (hn:n * 3 ≤ cur.length) (hi:i ≤ n):cur.take (i * 3)=avCells (L.take i)∧(avCells (L.take i)).length=i * 3∧(avCells (L.drop i)).length=(n - i) * 3∧(avCells [o]).length=3 ∧
  (∀ j v,(avCells (L.drop i))[j]?=some v→cur[i * 3 + j]?=some v)∧L.length=n:=by
 have hL:L.length=n:=by
  have:=congrArg List.length hc
  rw [avCells_len,List.length_take] at this;omega
 refine ⟨?_,?_,?_,rfl,?_,hL⟩
 ·rw [← avCells_take,← hc,List.take_take,Nat.min_eq_left (by omega)]
 ·rw [avCells_len,List.length_take];omega
 ·rw [avCells_len,List.length_drop];omega
 ·intro j v hj
  rw [← avCells_drop,← hc,List.getElem?_drop,List.getElem?_take] at hj
  split at hj
  ·exact hj
  ·cases hj
set_option maxHeartbeats 600000 in
set_option maxRecDepth 100000 in
theorem insertA_shift (base g n c i:Nat) (L:List Av) (o:Av) (cur:List Value) (vb vc:Nat) (tv:TypeId) (w:World) (hg:Blk w g 37 cur.toArray) (hcl:cur.length=c * 3) (hcur:cur.take (n * 3)=avCells L) (hnc:n + 1 ≤ c) (hc:c ≤ maxLen)
  (hb:base ≤ g) (hv:Blk w vb tv #[.int .i64 o.id,.int .i64 o.bal,.slice o.A o.n o.c]) (hne:vb ≠ g) (hin:i < n) :
  Calls Try.prog 185 #[.slice (some ⟨g,0,none⟩) n c,.int .i64 i,.slice (some ⟨vb,0,none⟩) 1 vc] w fun e w'=>∃ v',e=.returned v'∧w'.ownsRow base 37 3 v' (n + 1) (avCells (insAv L i o))∧Below base w w'∧Only w w' (some g):=by
 obtain ⟨hX,hXl,hDl,hOl,hsrc,hL⟩:=insA_cells o hcur (show n * 3 ≤ cur.length by omega) (Nat.le_of_lt hin)
 have HF:=Lib.hid (show (splice (splice cur ((i + 1) * 3) (avCells (L.drop i))) (i * 3) (avCells [o])).take ((n + 1) * 3)=avCells (insAv L i o) by
  have:=ins_shift (cur:=cur) (X:=avCells (L.take i)) (D:=avCells (L.drop i)) (O:=avCells [o]) (by rw [hXl];exact hX) (by rw [hXl,hDl,hOl];omega)
  rw [hXl,hDl,hOl,show i * 3 + 3=(i + 1) * 3 by omega,show (i + 1) * 3 + (n - i) * 3=(n + 1) * 3 by omega] at this
  rw [this,avCells_ins])
 have hov:∀ W lb cb,Blk W vb tv #[.int .i64 o.id,.int .i64 o.bal,.slice o.A o.n o.c]→Blk W g 37 cur.toArray→(callFunc 217 #[.slice (some ⟨vb,0,none⟩) 1 vc,.slice (some ⟨g,(i + 1) * 3,none⟩) lb cb]).run Try.prog W=.ok (.value (.bool false)) W:=fun W lb cb h1 h2 =>
  run_overlaps_ac W vb g _ lb cb vc _ _ _ _ hne h1 h2 (by rw [List.size_toArray];omega)
 have hov':=fun lb cb=>hov w lb cb hv hg
 have HLI:=Lib.hid (show (insAv L i o).length=n + 1 by unfold insAv;simp;omega)
 have HOl:=Lib.hid hOl
 have hBd:Below base w w.drew:=(below_drew (Below.refl _ _)).mono (Nat.le_trans hb (Nat.le_of_lt (Blk.lt hg)))
 have HG:=Lib.hid hg
 have HV:=Lib.hid hv
 have HS:=Lib.hid hsrc
 have HC:=Lib.hid hcl
 have HD:=Lib.hid hDl
 have HCM:=Lib.hid hc
 simp only [maxLen] at hc
 clear hg hv hX hXl hsrc hcur hov hcl hDl hOl hL
 have hw1:IntKind.i64.wrap ((i:Int) + 1)=(i:Int) + 1:=IntWalk.i64_in _ (by omega)
 have hw2:IntKind.i64.wrap ((n:Int) + 1)=(n:Int) + 1:=IntWalk.i64_in _ (by omega)
 have hz2:¬ ((i:Int)=(n:Int)):=by omega
 have htn:((i:Int) + 1).toNat=i + 1:=by omega
 have hb2:¬ (c=i + 1):=by omega
 have hb4:¬ (c=i):=by omega
 have hb3:(i:Int) ≤ (n:Int) + 1:=by omega
 have hb1:(0:Int) ≤ (i:Int) + 1:=by omega
 have hin2:i ≤ n:=by omega
 have hin3:(i:Int) ≤ (n:Int):=by omega
 go_enter Try.func185,Try.ntmps185
 go_wp2_with (simp only [hov'])
 have hsrc1:∀ j v,(avCells (L.drop i))[j]?=some v→w.drew.cell? ⟨g,i * 3 + j,none⟩=some v:=fun j v hj=>by
  have:=HS.out j v hj
  rw [Blk.cell (show Blk w.drew g 37 cur.toArray from HG.out)]
  simpa using this
 have hfit1:(i + 1) * 3 + (avCells (L.drop i)).length ≤ cur.length:=by rw [HD.out,HC.out];omega
 have hg1:Hid (w.drew.heap[g]?=some (.cells cur.toArray 37 (0,0))):=HG
 have hN1:(i + 1) * 3=(i + 1) * 3∧i * 3=i * 3∧n - i ≤ n + 1 - i∧n - i ≤ n + 1 - (i + 1)∧(n + 1 - i ≤ n - i∨n + 1 - (i + 1) ≤ n - i):=by omega
 go_region_law (refine step_copyK rfl _ _ 39 39 rfl 37 3 40 elem_acc g ((i + 1) * 3) (n + 1 - (i + 1)) (c - (i + 1)) g (i * 3) (n + 1 - i) (c - i) (by simp [Act.eval,Act.put]) (by simp [Act.eval,Act.put]) (n - i) ((i + 1) * 3) (i * 3) hN1 cur 37 hg1.out (avCells (L.drop i)) HD.out hsrc1 hfit1 (avCells_one _) base w hBd hb ?_;intro w2 HG2 hB2 hO2)
 have HO2:=Lib.hid hO2
 have hN2:i * 3=i * 3∧0=0∧1 ≤ 1∧1 ≤ n + 1 - i∧(1 ≤ 1∨n + 1 - i ≤ 1):=by omega
 have hsrc2:∀ j v,(avCells [o])[j]?=some v→w2.cell? ⟨vb,0 + j,none⟩=some v:=fun j v hj=>by
  rw [Blk.cell (show Blk w2 vb tv #[.int .i64 o.id,.int .i64 o.bal,.slice o.A o.n o.c] from (HO2.out vb hne).trans HV.out),Nat.zero_add]
  simpa [avCells] using hj
 have hfit2:i * 3 + (avCells [o]).length ≤ (splice cur ((i + 1) * 3) (avCells (L.drop i))).length:=by rw [length_splice _ _ _ hfit1,HC.out,HOl.out];omega
 have HFT:=Lib.hid hfit2
 have HS2:=Lib.hid hsrc2
 clear hN2 hsrc2 hfit2 hO2 hN1 hsrc1 hg1 hov'
 go_wp2_with (refine wpList_copyK rfl (.tmp 80) (.tmp 81) 39 39 rfl 37 3 40 elem_acc g (i * 3) (n + 1 - i) (c - i) vb 0 1 vc (by rfl) (by rfl) 1 (i * 3) 0 ⟨rfl,rfl,Nat.le_refl _,by omega,by omega⟩ (splice cur ((i + 1) * 3) (avCells (L.drop i))) 37 HG2.out (avCells [o]) rfl HS2.out HFT.out (avCells_one _) base w hB2 hb ?_;intro w3 HG3 hB3 hO3)
 have HO3:=Lib.hid hO3
 clear hO3
 go_ret
 refine ⟨_,rfl,⟨?_,.inr ⟨g,c,_,rfl,hb,HG3.out,hnc,HCM.out,?_,?_⟩⟩,hB3,fun k _ hk=>(HO3.out k (fun e=>hk (by rw [e]))).trans (HO2.out k (fun e=>hk (by rw [e])))⟩
 ·rw [avCells_len,HLI.out]
 ·rw [List.size_toArray,length_splice _ _ _ HFT.out,length_splice _ _ _ hfit1,HC.out]
 ·exact HF.out
set_option maxHeartbeats 1000000 in
set_option maxRecDepth 100000 in
theorem insertA_new (base g n c i:Nat) (L:List Av) (o:Av) (cur:List Value) (vb vc:Nat) (tv:TypeId) (w:World) (hg:Blk w g 37 cur.toArray) (hcl:cur.length=c * 3) (hcur:cur.take (n * 3)=avCells L) (hnc0:n ≤ c) (hnc:c < n + 1) (hc:c ≤ maxLen)
  (hb:base ≤ w.heap.size) (hv:Blk w vb tv #[.int .i64 o.id,.int .i64 o.bal,.slice o.A o.n o.c]) (_hne:vb ≠ g) (hin:i < n) (hm:(n + 1) * 40 ≤ 140737488355328) :
  Calls Try.prog 185 #[.slice (some ⟨g,0,none⟩) n c,.int .i64 i,.slice (some ⟨vb,0,none⟩) 1 vc] w fun e w'=>∃ v',e=.returned v'∧w'.ownsRow base 37 3 v' (n + 1) (avCells (insAv L i o))∧Below base w w'∧Only w w' (some g):=by
 obtain ⟨hX,hXl,hDl,hOl,hsrc,hL⟩:=insA_cells o hcur (show n * 3 ≤ cur.length by omega) (Nat.le_of_lt hin)
 obtain ⟨c',ROW,W1,hrz,hc1,hc2,hRl,hRX,hW1,hB1,hO1⟩:=app_zeros_onto (P:=Try.prog) elem_acc Try.underlying3 w g c i (n + 1 - i) base cur hg hcl (by omega) (by omega) (by omega) (by simp only [maxLen];omega) hb
 have hin1:i + (n + 1 - i)=n + 1:=by omega
 rw [hin1] at hrz hc1
 rw [show ((n + 1 - i:Nat):Int)=(n:Int) + 1 - (i:Int) by omega] at hrz
 clear hin1
 have HF:=Lib.hid (show (splice (splice ROW (i * 3) (avCells [o])) ((i + 1) * 3) (avCells (L.drop i))).take ((n + 1) * 3)=avCells (insAv L i o) by
  have:=ins_new (cur:=ROW) (X:=avCells (L.take i)) (D:=avCells (L.drop i)) (O:=avCells [o]) (by rw [hXl,hRX];exact hX) (by rw [hXl,hDl,hOl];omega)
  rw [hXl,hDl,hOl,show i * 3 + 3=(i + 1) * 3 by omega,show (i + 1) * 3 + (n - i) * 3=(n + 1) * 3 by omega] at this
  rw [this,avCells_ins])
 have HLI:=Lib.hid (show (insAv L i o).length=n + 1 by unfold insAv;simp;omega)
 have HS:=Lib.hid hsrc
 have HD:=Lib.hid hDl
 have HOl:=Lib.hid hOl
 have HR:=Lib.hid hRl
 have HC2:=Lib.hid hc2
 have HBW:=Lib.hid hb
 obtain ⟨G,hG⟩:∃ G,G=w.heap.size:=⟨_,rfl⟩
 have HGG:=Lib.hid hG
 have hgG:g < G:=by rw [hG];exact Blk.lt hg
 have hvG:vb < G:=by rw [hG];exact Blk.lt hv
 rw [← hG] at hW1 hO1 hrz hb
 have HV1:=Lib.hid (show Blk W1 vb tv #[.int .i64 o.id,.int .i64 o.bal,.slice o.A o.n o.c] from (hO1 vb hvG).trans hv)
 have HG1:=Lib.hid (show Blk W1 g 37 cur.toArray from (hO1 g hgG).trans hg)
 have HW1:=Lib.hid hW1
 have HO1:=Lib.hid hO1
 have HRZ:=Lib.hid hrz
 simp only [maxLen] at hc hc2
 clear hg hv hX hXl hsrc hcur hcl hDl hOl hL hRl hRX hW1 hO1 hG hrz
 have hw1:IntKind.i64.wrap ((i:Int) + 1)=(i:Int) + 1:=IntWalk.i64_in _ (by omega)
 have hw2:IntKind.i64.wrap ((n:Int) + 1)=(n:Int) + 1:=IntWalk.i64_in _ (by omega)
 have hw3:IntKind.i64.wrap ((n:Int) + 1 - (i:Int))=(n:Int) + 1 - (i:Int):=IntWalk.i64_in _ (by omega)
 have hz2:¬ ((i:Int)=(n:Int)):=by omega
 have htn:((i:Int) + 1).toNat=i + 1:=by omega
 have hb2:¬ (c'=i + 1):=by omega
 have hb4:¬ (c=i):=by omega
 have hb5:¬ (c'=i):=by omega
 have hb3:(i:Int) ≤ (n:Int) + 1:=by omega
 have hb1:(0:Int) ≤ (i:Int) + 1:=by omega
 have hin2:i ≤ n:=by omega
 have hin3:(i:Int) ≤ (n:Int):=by omega
 go_enter Try.func185,Try.ntmps185
 have hf1:i * 3 + (avCells [o]).length ≤ ROW.length:=by rw [HOl.out,HR.out];omega
 have HF1:=Lib.hid hf1
 have HS1:=Lib.hid (show ∀ j v,(avCells [o])[j]?=some v→W1.cell? ⟨vb,0 + j,none⟩=some v from fun j v hj=>by
  rw [Blk.cell HV1.out,Nat.zero_add]
  simpa [avCells] using hj)
 clear hf1
 go_wp2_with (first | (at_builtin;refine Lib.wpList_append_run _ rfl _ _ _ _ rfl _ _ rfl rfl _ _ (HRZ.out _) ?_) | (refine wpList_copyK rfl (.tmp 43) (.tmp 44) 39 39 rfl 37 3 40 elem_acc G (i * 3) (n + 1 - i) (c' - i) vb 0 1 vc (by rfl) (by rfl) 1 (i * 3) 0 ⟨rfl,rfl,Nat.le_refl _,by omega,by omega⟩ ROW 37 HW1.out (avCells [o]) rfl HS1.out HF1.out (avCells_one _) base w hB1 hb ?_;intro w2 HG2 hB2 hO2))
 have HG2':Hid (w2.drew.heap[G]?=some (.cells (splice ROW (i * 3) (avCells [o])).toArray 37 (0,0))):=HG2
 have hg2:Blk w2.drew g 37 cur.toArray:=(hO2 g (by omega)).trans HG1.out
 have hs2:∀ j v,(avCells (L.drop i))[j]?=some v→w2.drew.cell? ⟨g,i * 3 + j,none⟩=some v:=fun j v hj=>by
  have:=HS.out j v hj
  rw [Blk.cell hg2]
  simpa using this
 have HS2:=Lib.hid hs2
 have hf2:(i + 1) * 3 + (avCells (L.drop i)).length ≤ (splice ROW (i * 3) (avCells [o])).length:=by rw [length_splice _ _ _ HF1.out,HD.out,HR.out];omega
 have HF2:=Lib.hid hf2
 have hBd:Below base w w2.drew:=hB2.trans ((below_drew (Below.refl _ _)).mono (Nat.le_trans HBW.out hB2.size))
 have HO2:=Lib.hid hO2
 clear hg2 hs2 hf2 hO2
 go_region_law (refine step_copyK rfl _ _ 39 39 rfl 37 3 40 elem_acc G ((i + 1) * 3) (n + 1 - (i + 1)) (c' - (i + 1)) g (i * 3) (n - i) (c - i) (by simp [Act.eval,Act.put]) (by simp [Act.eval,Act.put]) (n - i) ((i + 1) * 3) (i * 3) ⟨rfl,rfl,by omega,by omega,by omega⟩ (splice ROW (i * 3) (avCells [o])) 37 HG2'.out (avCells (L.drop i)) HD.out HS2.out HF2.out (avCells_one _) base w hBd hb ?_;intro w3 HG3 hB3 hO3)
 have HO3:=Lib.hid hO3
 clear hO3
 go_wp2_with fail
 go_ret
 refine ⟨_,rfl,⟨?_,.inr ⟨G,c',_,rfl,hb,HG3.out,hc1,HC2.out,?_,?_⟩⟩,hB3,fun k hk _=>?_⟩
 ·rw [avCells_len,HLI.out]
 ·rw [List.size_toArray,length_splice _ _ _ HF2.out,length_splice _ _ _ HF1.out,HR.out]
 ·exact HF.out
 ·have hkG:k < G:=by rw [HGG.out];exact hk
  exact ((HO3.out k (by omega)).trans (HO2.out k (by omega))).trans (HO1.out k hkG)
theorem insertA_od (base:Nat) (v:Value) (n i:Nat) (L:List Av) (o:Av) (vb vc:Nat) (tv:TypeId) (w:World) (hown:w.ownsRow base 37 3 v n (avCells L)) (hb:base ≤ w.heap.size) (hv:Blk w vb tv #[.int .i64 o.id,.int .i64 o.bal,.slice o.A o.n o.c]) (hvc:1 ≤ vc) (hvc':vc ≤ maxLen) (hne:v.ownBlock ≠ some vb) (hi:i ≤ n) (hm:(n + 1) * 40 ≤ 140737488355328) :
  Calls Try.prog 185 #[v,.int .i64 i,.slice (some ⟨vb,0,none⟩) 1 vc] w fun e w'=>∃ v',e=.returned v'∧w'.ownsRow base 37 3 v' (n + 1) (avCells (insAv L i o))∧Below base w w'∧Only w w' v.ownBlock:=by
 by_cases hin:i=n
 ·subst hin
  refine insertA_end base v i L o (some ⟨vb,0,none⟩) vc w.heap.size w hown hb ⟨rfl,hvc,hvc',nofun,fun _=>⟨vb,0,rfl,Blk.lt hv,fun j u hj=>?_⟩⟩ hm
  rw [Blk.cell hv,Nat.zero_add]
  simpa [avCells] using hj
 ·obtain ⟨hl,⟨rfl,h0⟩ | ⟨g,c,cur,rfl,hbg,hg,hnc,hcm,hcs,hct⟩⟩:=hown
  ·omega
  ·have hne':vb ≠ g:=fun e=>hne (by rw [e];rfl)
   have hgb:Blk w g 37 cur.toList.toArray:=by rw [Array.toArray_toList];exact hg
   by_cases hr:n + 1 ≤ c
   ·exact insertA_shift base g n c i L o cur.toList vb vc tv w hgb (by rw [Array.length_toList];exact hcs) hct hr hcm hbg hv hne' (by omega)
   ·exact insertA_new base g n c i L o cur.toList vb vc tv w hgb (by rw [Array.length_toList];exact hcs) hct hnc (by omega) hcm hb hv hne' (by omega) hm
end
section
open Go.RowKit
def zeros (k:Nat):Array Value:=(ints (List.replicate k 0)).toArray
theorem zeros_size (k:Nat):(zeros k).size=k:=by simp [zeros,ints]
theorem zeros_list (k:Nat):(zeros k).toList=ints (List.replicate k 0):=by simp [zeros]
theorem info_int:(Try.prog.info? 3).map (fun i=>(i.zero,i.size,i.bytes))=some (some (.int .i64 0),1,8):=by kernel_rfl
theorem run_zeros (k:Nat) (hk:k ≤ 1000000) (w:World):(Instr.makeSlice 24 (.int .i64 (k:Int)) (.int .i64 (k:Int))).run Try.prog w=.ok (.slice (some ⟨w.heap.size,0,none⟩) k k) (w.alloc (.cells (zeros k) 3)):=by
 have hi:=info_int
 cases h:Try.prog.info? 3 with
 | none=>rw [h] at hi;cases hi
 | some i =>
  rw [h] at hi
  simp only [Option.map_some,Option.some.injEq,Prod.mk.injEq] at hi
  obtain ⟨h1,h2,h3⟩:=hi
  have hr:=run_make (P:=Try.prog) (w:=w) 24 3 i (.int .i64 0) Try.underlying24 h h1 .i64 .i64 k k (by omega) (by omega) (by rw [h3];omega) (by omega)
  rw [hr,h2]
  simp only [Int.toNat_natCast,Nat.mul_one]
  have:madeCells (Value.cells (.int .i64 0)) k=zeros k:=by
   apply Array.ext
   ·simp [madeCells,zeros,ints]
   ·intro j h1 h2
    simp [madeCells,zeros,ints,Value.cells,Nat.mod_one]
  rw [this]
theorem rd_zeros (w:World) (k g:Nat) (hg:g=w.heap.size) (hk:k ≤ maxLen):Rd (w.alloc (.cells (zeros k) 3)) (g + 1) 1 (some ⟨g,0,none⟩) k k (ints (List.replicate k 0)):=by
 have:=Rd.new_at w (zeros k) 3 g k hg (zeros_size k) hk
 rwa [zeros_list] at this
end
section
theorem ins_get {α:Type} (l:List α) (k:Nat) (x:α) (hk:k ≤ l.length) (i:Nat):(l.take k ++ x :: l.drop k)[i]?=if i < k then l[i]? else if i=k then some x else l[i - 1]?:=by
 have hl:(l.take k).length=k:=by rw [List.length_take];omega
 by_cases h1:i < k
 ·rw [if_pos h1,List.getElem?_append_left (by omega),List.getElem?_take,if_pos h1]
 ·rw [if_neg h1,List.getElem?_append_right (by omega),hl]
  by_cases h2:i=k
  ·subst h2;rw [if_pos rfl,Nat.sub_self];rfl
  ·rw [if_neg h2,show i - k=(i - k - 1) + 1 by omega,List.getElem?_cons_succ,List.getElem?_drop]
   congr 1;omega
theorem insAcc_get (L:List Ac) (k:Nat) (a:Ac) (hk:k ≤ L.length) (i:Nat):(insAcc L k a)[i]?=if i < k then L[i]? else if i=k then some a else L[i - 1]?:=ins_get L k a hk i
theorem insAcc_len (L:List Ac) (k:Nat) (a:Ac) (hk:k ≤ L.length):(insAcc L k a).length=L.length + 1:=by
 unfold insAcc
 rw [List.length_append,List.length_cons,List.length_take,List.length_drop];omega
theorem cash_n {c:Cm} {d:Dk} (h:c.n < 1∨1000000000000 < c.n):cashE c d=.error 3:=by unfold cashE;rw [if_pos h]
theorem cash_who {c:Cm} {d:Dk} (h:¬ (c.n < 1∨1000000000000 < c.n)) (ha:c.acc < 0∨8 ≤ c.acc):cashE c d=.error 5:=by unfold cashE;rw [if_neg h,if_pos ha]
theorem cash_dep {c:Cm} {d:Dk} {s e:Int} {i:Nat} (h:¬ (c.n < 1∨1000000000000 < c.n)) (ha:¬ (c.acc < 0∨8 ≤ c.acc)) (hk:c.kind=1) (hs:addAll [d.v.inn,c.n]=(s,e)) (hi:i=placeOf d.v.accs c.acc) :
  cashE c d=okIf e (moveE i c.n ⟨{ d.v with accs:=if thereB d.v.accs c.acc then d.v.accs else insAcc d.v.accs i ⟨c.acc,0,List.replicate d.v.mks.length 0⟩,inn:=s },d.ev⟩):=by
 unfold cashE;rw [if_neg h,if_neg ha,if_pos hk,hs,hi]
theorem cash_none {c:Cm} {d:Dk} (h:¬ (c.n < 1∨1000000000000 < c.n)) (ha:¬ (c.acc < 0∨8 ≤ c.acc)) (hk:c.kind=2) (ht:thereB d.v.accs c.acc=false):cashE c d=.error 5:=by
 unfold cashE;rw [if_neg h,if_neg ha,if_neg (by omega),if_pos ht]
theorem cash_out {c:Cm} {d:Dk} {s e:Int} {i:Nat} (h:¬ (c.n < 1∨1000000000000 < c.n)) (ha:¬ (c.acc < 0∨8 ≤ c.acc)) (hk:c.kind=2) (ht:thereB d.v.accs c.acc=true) (hs:addAll [d.v.out,c.n]=(s,e)) (hi:i=placeOf d.v.accs c.acc) :
  cashE c d=okIf e (bindE (moveE i (-c.n) ⟨{ d.v with out:=s },d.ev⟩) fun d'=>okIf (beginErr d'.v (accAt d'.v i)) (.ok d')):=by
 unfold cashE;rw [if_neg h,if_neg ha,if_neg (by omega),if_neg (by rw [ht];simp),hs,hi]
theorem move_at {i:Nat} {n:Int} {d d':Dk} {a:Ac} (ha:d.v.accs[i]?=some a) (h:moveE i n d=.ok d'):∃ a',d'.v.accs[i]?=some a'∧a'.pos=a.pos:=by
 have hl:i < d.v.accs.length:=(List.getElem?_eq_some_iff.1 ha).1
 have hac:accAt d.v i=a:=by unfold accAt;rw [List.getD_eq_getElem?_getD,ha];rfl
 unfold moveE okIf at h
 split at h
 ·cases h
 ·injection h with h
  subst h
  refine ⟨{ a with bal:=(addAll [a.bal,n]).1 },?_,rfl⟩
  show (d.v.accs.set i _)[i]?=_
  rw [hac,List.getElem?_set_self hl]
end
section
open Go.RowKit
theorem own_zeros (w:World) (base m:Nat) (hb:base ≤ w.heap.size) (hm:m ≤ maxLen):(w.alloc (.cells (zeros m) 3)).ownsRow base 3 1 (.slice (some ⟨w.heap.size,0,none⟩) m m) m (ints (List.replicate m 0)) :=
 ⟨by simp [ints],.inr ⟨w.heap.size,m,zeros m,rfl,hb,Blk.new w _ _,Nat.le_refl _,hm,by rw [zeros_size,Nat.mul_one],by rw [zeros_list];exact List.take_of_length_le (by simp [ints])⟩⟩
theorem take3 {xs:List Value} {i:Nat} {a b c:Value} (h0:xs[i]?=some a) (h1:xs[i + 1]?=some b) (h2:xs[i + 2]?=some c):xs.take (i + 3)=xs.take i ++ [a,b,c]:=by
 rw [show i + 3=i + 1 + 1 + 1 by omega,List.take_add_one,List.take_add_one,List.take_add_one,h0,h1,show i + 1 + 1=i + 2 by omega,h2]
 simp
theorem ac_views {w:World} {base n c:Nat} {A:Option Addr} {L:List Ac} {xs:List Value} (h:OwnAc w base A n c L xs):∃ LV:List Av,xs=avCells LV∧LV.length=n ∧
  ∀ (i:Nat) (a:Ac),L[i]?=some a→∃ A2 c2,LV[i]?=some ⟨a.id,a.bal,A2,a.pos.length,c2⟩∧w.ownsRow base 3 1 (.slice A2 a.pos.length c2) a.pos.length (ints a.pos)∧a.pos.length * 8 ≤ 140737488355328:=by
 have key:∀ k,k ≤ n→∃ LV:List Av,LV.length=k∧avCells LV=xs.take (k * 3) ∧
   ∀ (i:Nat) (a:Ac),i < k→L[i]?=some a→∃ A2 c2,LV[i]?=some ⟨a.id,a.bal,A2,a.pos.length,c2⟩∧w.ownsRow base 3 1 (.slice A2 a.pos.length c2) a.pos.length (ints a.pos)∧a.pos.length * 8 ≤ 140737488355328:=by
  intro k
  induction k with
  | zero=>intro _;exact ⟨[],rfl,by simp [avCells],fun i a hi=>absurd hi (by omega)⟩
  | succ k ih =>
   intro hk
   obtain ⟨LV,h1,h2,h3⟩:=ih (by omega)
   have hl:k < L.length:=by rw [h.len];omega
   have ha:L[k]?=some L[k]:=List.getElem?_eq_getElem hl
   obtain ⟨A2,c2,k0,k1,k2,k3,k4⟩:=h.cell k _ ha
   refine ⟨LV ++ [⟨L[k].id,L[k].bal,A2,L[k].pos.length,c2⟩],by simp [h1],?_,fun i a hi hia=>?_⟩
   ·rw [avCells_app,h2,show (k + 1) * 3=k * 3 + 3 by omega,take3 k0 k1 k2];rfl
   ·by_cases e:i=k
    ·subst e
     rw [ha] at hia
     injection hia with hia
     subst hia
     exact ⟨A2,c2,by rw [List.getElem?_append_right (by omega),h1,Nat.sub_self];rfl,k3,k4⟩
    ·obtain ⟨A3,c3,j1,j2,j3⟩:=h3 i a (by omega) hia
     exact ⟨A3,c3,by rw [List.getElem?_append_left (by omega)];exact j1,j2,j3⟩
 obtain ⟨LV,h1,h2,h3⟩:=key n (Nat.le_refl _)
 refine ⟨LV,?_,h1,fun i a hi=>h3 i a (by have:=(List.getElem?_eq_some_iff.1 hi).1;rw [h.len] at this;exact this) hi⟩
 rw [h2,List.take_of_length_le]
 have:=h.row.1;omega
theorem ac_ins {w:World} {base n c k c0 m:Nat} {A A0:Option Addr} {L:List Ac} {LV:List Av} {a:Ac} (hm:m=a.pos.length) (hr:w.ownsRow base 37 3 (.slice A (n + 1) c) (n + 1) (avCells (insAv LV k ⟨a.id,a.bal,A0,m,c0⟩))) (hv:LV.length=n) (hL:L.length=n) (hk:k ≤ n)
  (hc:∀ (i:Nat) (x:Ac),L[i]?=some x→∃ A2 c2,LV[i]?=some ⟨x.id,x.bal,A2,x.pos.length,c2⟩∧w.ownsRow base 3 1 (.slice A2 x.pos.length c2) x.pos.length (ints x.pos)∧x.pos.length * 8 ≤ 140737488355328)
  (h0:w.ownsRow base 3 1 (.slice A0 m c0) m (ints a.pos)) (h1:m * 8 ≤ 140737488355328):OwnAc w base A (n + 1) c (insAcc L k a) (avCells (insAv LV k ⟨a.id,a.bal,A0,m,c0⟩)):=by
 subst hm
 refine ⟨hr,by rw [insAcc_len _ _ _ (by omega),hL],fun i x hx=>?_⟩
 rw [insAcc_get _ _ _ (by omega)] at hx
 have hv':∀ i,(insAv LV k ⟨a.id,a.bal,A0,a.pos.length,c0⟩)[i]?=_:=ins_get LV k ⟨a.id,a.bal,A0,a.pos.length,c0⟩ (by omega)
 by_cases e1:i < k
 ·rw [if_pos e1] at hx
  obtain ⟨A2,c2,j1,j2,j3⟩:=hc i x hx
  obtain ⟨q0,q1,q2⟩:=avCells_at ((hv' i).trans ((if_pos e1).trans j1))
  exact ⟨A2,c2,q0,q1,q2,j2,j3⟩
 ·rw [if_neg e1] at hx
  by_cases e2:i=k
  ·rw [if_pos e2] at hx
   injection hx with hx
   subst hx
   obtain ⟨q0,q1,q2⟩:=avCells_at ((hv' i).trans ((if_neg e1).trans (if_pos e2)))
   exact ⟨A0,c0,q0,q1,q2,h0,h1⟩
  ·rw [if_neg e2] at hx
   obtain ⟨A2,c2,j1,j2,j3⟩:=hc _ x hx
   obtain ⟨q0,q1,q2⟩:=avCells_at ((hv' i).trans ((if_neg e1).trans ((if_neg e2).trans j1)))
   exact ⟨A2,c2,q0,q1,q2,j2,j3⟩
theorem desk_inn {w Z:World} {base D c k:Nat} {ap:Bool} {d:Dk} {A M:Option Addr} {vE:Value} {xs ys:List Value} {n:Int} (h:Desk w base D ap d A c M k vE xs ys) (hZ:Z=w.setCell ⟨D,5,none⟩ (.int .i64 n)) :
  Desk Z base D ap ⟨{ d.v with inn:=n },d.ev⟩ A c M k vE xs ys:=by
 have hK:Kept [174] w Z:=by rw [hZ];exact (Kept.refl _ w).set h.blk (by decide) _ _
 refine ⟨?_,h.low,h.accs.kept hK (by decide) (by decide),h.mks.kept hK (by decide) (by decide),hK.own h.evs (by decide)⟩
 rw [hZ];exact h.blk.set_ 5 _
theorem desk_out {w Z:World} {base D c k:Nat} {ap:Bool} {d:Dk} {A M:Option Addr} {vE:Value} {xs ys:List Value} {n:Int} (h:Desk w base D ap d A c M k vE xs ys) (hZ:Z=w.setCell ⟨D,6,none⟩ (.int .i64 n)) :
  Desk Z base D ap ⟨{ d.v with out:=n },d.ev⟩ A c M k vE xs ys:=by
 have hK:Kept [174] w Z:=by rw [hZ];exact (Kept.refl _ w).set h.blk (by decide) _ _
 refine ⟨?_,h.low,h.accs.kept hK (by decide) (by decide),h.mks.kept hK (by decide) (by decide),hK.own h.evs (by decide)⟩
 rw [hZ];exact h.blk.set_ 6 _
theorem desk_accs {w w1 Z:World} {base D c k c' n:Nat} {ap:Bool} {d:Dk} {A M A':Option Addr} {vE:Value} {xs ys xs':List Value} {L:List Ac} (h:Desk w base D ap d A c M k vE xs ys) (hK:Kept [37] w w1) (ho:OwnAc w1 base A' n c' L xs') (hn:L.length=n) (hZ:Z=w1.setCell ⟨D,0,none⟩ (.slice A' n c')) :
  Desk Z base D ap ⟨{ d.v with accs:=L },d.ev⟩ A' c' M k vE xs' ys:=by
 subst hn
 have hD:=h.blk.kept hK (by decide)
 have hK2:Kept [174] w1 Z:=by rw [hZ];exact (Kept.refl _ w1).set hD (by decide) _ _
 refine ⟨?_,h.low,ho.kept hK2 (by decide) (by decide),(h.mks.kept hK (by decide) (by decide)).kept hK2 (by decide) (by decide),hK2.own (hK.own h.evs (by decide)) (by decide)⟩
 rw [hZ];exact hD.set_ 0 _
theorem retDr_map {w w1 w':World} {base D:Nat} {r:Except Int Dk} {e:Ending} (h:RetDr w1 base D r e w') (hb:Below base w w1):RetDr w base D r e w':=by
 cases r with
 | error n=>exact ⟨h.1,h.2.1,hb.trans h.2.2⟩
 | ok d'=>exact ⟨h.1,h.2.1,hb.trans h.2.2⟩
set_option maxHeartbeats 8000000 in
set_option maxRecDepth 100000 in
theorem cash_dk (base D:Nat) (d:Dk) (A:Option Addr) (c:Nat) (M:Option Addr) (k:Nat) (vE:Value) (xs ys:List Value) (cm:Cm) (w:World) (h:Desk w base D false d A c M k vE xs ys) (hb:base ≤ w.heap.size) (hv:VOk d.v) (hl:d.ev.length ≤ 900000) (hk:cm.kind=1∨cm.kind=2) :
  Calls Try.prog 172 #[.pointer (some ⟨D,0,none⟩),.agg #[.int .i64 cm.kind,.int .i64 cm.acc,.int .i64 cm.market,.int .i64 cm.n,.int .i64 cm.o.id,.int .i64 cm.o.acc,.int .i64 cm.o.side,.int .i64 cm.o.price,.int .i64 cm.o.qty,.int .i64 cm.how,.bool cm.reduce]] w (RetDr w base D (cashE cm d)):=by
 have HD:=Lib.hid h
 have HV:=Lib.hid hv
 have hDl:=h.lt
 have hal:=aok_len hv.accs
 obtain ⟨hv1,hv2⟩:=hv.len
 clear h hv
 have HKD:=Lib.hid hk
 by_cases h1:cm.n < 1
 ·have HE:=Lib.hid (cash_n (d:=d) (.inl h1))
  clear hk
  go_enter Try.func172,Try.ntmps172
  go_wp2_with fail
  go_ret
  exact retDr_err HE.out (by omega) ((Below.refl _ _).alloc hb _)
 by_cases h2:1000000000000 < cm.n
 ·have HE:=Lib.hid (cash_n (d:=d) (.inr h2))
  have hd1:decide (cm.n < 1)=false:=decide_eq_false h1
  have hd2:decide (1000000000000 < cm.n)=true:=decide_eq_true h2
  clear hk
  go_enter Try.func172,Try.ntmps172
  go_wp2_with fail
  go_ret
  exact retDr_err HE.out (by omega) ((Below.refl _ _).alloc hb _)
 have hd1:decide (cm.n < 1)=false:=decide_eq_false h1
 have hd2:decide (1000000000000 < cm.n)=false:=decide_eq_false h2
 have HN1:=Lib.hid (show ¬ (cm.n < 1∨1000000000000 < cm.n) by omega)
 have hn1:1 ≤ cm.n:=by omega
 have hn2:cm.n ≤ 1000000000000:=by omega
 clear h1 h2
 by_cases h3:cm.acc < 0
 ·have HE:=Lib.hid (cash_who (d:=d) HN1.out (.inl h3))
  clear hk
  go_enter Try.func172,Try.ntmps172
  go_wp2_with fail
  go_ret
  exact retDr_err HE.out (by omega) ((Below.refl _ _).alloc hb _)
 by_cases h4:8 ≤ cm.acc
 ·have HE:=Lib.hid (cash_who (d:=d) HN1.out (.inr h4))
  have hd3:decide (cm.acc < 0)=false:=decide_eq_false h3
  have hd4:decide (8 ≤ cm.acc)=true:=decide_eq_true h4
  clear hk
  go_enter Try.func172,Try.ntmps172
  go_wp2_with fail
  go_ret
  exact retDr_err HE.out (by omega) ((Below.refl _ _).alloc hb _)
 have hd3:decide (cm.acc < 0)=false:=decide_eq_false h3
 have hd4:decide (8 ≤ cm.acc)=false:=decide_eq_false h4
 have HN2:=Lib.hid (show ¬ (cm.acc < 0∨8 ≤ cm.acc) by omega)
 have HID:=Lib.hid (show 0 ≤ cm.acc∧cm.acc ≤ 7 by omega)
 clear h3 h4
 obtain ⟨i,hi⟩:∃ i,i=placeOf d.v.accs cm.acc:=⟨_,rfl⟩
 have HI:=Lib.hid hi
 rcases hk with hk | hk
 ·rw [hk]
  obtain ⟨bt,hbt⟩:∃ bt,thereB d.v.accs cm.acc=bt:=⟨_,rfl⟩
  have HTH:=Lib.hid hbt
  clear hbt hi
  go_enter Try.func172,Try.ntmps172
  go_wp2_with fail
  refine wp_name ?_
  intro W0 hW0
  have hB0:Below w.heap.size w W0:=by rw [hW0];exact (Below.refl _ _).alloc (Nat.le_refl _) _
  have X0:Blk W0 w.heap.size 113 #[.int .i64 1,.int .i64 cm.acc,.int .i64 cm.market,.int .i64 cm.n,.int .i64 cm.o.id,.int .i64 cm.o.acc,.int .i64 cm.o.side,.int .i64 cm.o.price,.int .i64 cm.o.qty,.int .i64 cm.how,.bool cm.reduce]:=by rw [hW0];exact Blk.new w _ _
  have HD0:=Lib.hid (HD.out.below hB0)
  have hs0:=hB0.size
  clear hW0
  obtain ⟨⟨k0,k1,k2,k3,k4,k5,k6,-⟩,-⟩:=HD0.out.blk.c8
  have x1:W0.cell? ⟨w.heap.size,1,none⟩=some (.int .i64 cm.acc):=X0.cell 1
  have y0:=X0.lt
  have y3:D < W0.heap.size:=HD0.out.lt
  have h00:Below W0.heap.size W0 W0:=Below.refl _ _
  have KS:Hid (∀ W,Below W0.heap.size W0 W→Below W0.heap.size W0 W∧W.cell? ⟨w.heap.size,1,none⟩=some (.int .i64 cm.acc)∧W.cell? ⟨D,0,none⟩=some (.slice A d.v.accs.length c)∧W.cell? ⟨D,1,none⟩=some (.slice M d.v.mks.length k) ∧
    W.cell? ⟨D,2,none⟩=some (.int .i64 d.v.ins)∧W.cell? ⟨D,3,none⟩=some (.int .i64 d.v.resid)∧W.cell? ⟨D,4,none⟩=some (.int .i64 d.v.next)∧W.cell? ⟨D,5,none⟩=some (.int .i64 d.v.inn)∧W.cell? ⟨D,6,none⟩=some (.int .i64 d.v.out)):=by
   intro W hW
   obtain ⟨⟨k0,k1,k2,k3,k4,k5,k6,k7⟩,-⟩:=(HD0.out.below hW).blk.c8
   exact ⟨hW,(X0.below hW X0.lt).cell 1,k0,k1,k2,k3,k4,k5,k6⟩
  clear k0 k1 k2 k3 k4 k5 k6 x1
  go_region_held3 (fun W=>Below W0.heap.size W0 W∧W.cell? ⟨w.heap.size,1,none⟩=some (.int .i64 cm.acc)∧W.cell? ⟨D,0,none⟩=some (.slice A d.v.accs.length c)∧W.cell? ⟨D,1,none⟩=some (.slice M d.v.mks.length k) ∧
    W.cell? ⟨D,2,none⟩=some (.int .i64 d.v.ins)∧W.cell? ⟨D,3,none⟩=some (.int .i64 d.v.resid)∧W.cell? ⟨D,4,none⟩=some (.int .i64 d.v.next)∧W.cell? ⟨D,5,none⟩=some (.int .i64 d.v.inn)∧W.cell? ⟨D,6,none⟩=some (.int .i64 d.v.out))
   (first | exact KS.out _ (by assumption) | exact KS.out _ (dk_drew (by assumption)))
   ((go_at_call 177;go_split_ands;(with_reducible refine (place_any d.v A M c k cm.acc _ _ (HD0.out.below (by first | assumption | exact dk_drew (by assumption))).accs.read (Nat.le_refl _) HV.out.accs.sorted (aok_ids HV.out.accs) HID.out hal).mono ?_);rintro e W1 ⟨he,hb1⟩;rw [HTH.out,← HI.out] at he;subst he;have hB1:=dk_next (w0:=W0) hb1 (by first | assumption | exact dk_drew (by assumption))))
  refine exit_name ?_
  rintro W hW
  obtain rfl:W1=W:=hW.symm
  clear hb1 hW KS h00
  have HD1:=Lib.hid (HD0.out.below hB1)
  have hL1:=hB0.trans (hB1.mono (by omega))
  have X1:=X0.below hB1 X0.lt
  have hs1:=hB1.size
  have hbW1:base ≤ W1.heap.size:=by omega
  have x0:W1.cell? ⟨w.heap.size,0,none⟩=some (.int .i64 1):=X1.cell 0
  replace y0:=X1.lt
  clear hB1 y3
  obtain ⟨s,es,had⟩:∃ s es,addAll [d.v.inn,cm.n]=(s,es):=⟨_,_,rfl⟩
  have HAD:=Lib.hid had
  clear had
  have y3:D < W1.heap.size:=HD1.out.lt
  have KRD:Hid (∀ W:World,Rd (W.alloc (.cells #[.int .i64 d.v.inn,.int .i64 cm.n] 3)) (W.heap.size + 1) 1 (some ⟨W.heap.size,0,none⟩) 2 2 (ints [d.v.inn,cm.n])):=fun W=>Rd.new W _ _ 2 rfl (by decide)
  have KRE:Hid (∀ W:World,Rd (W.alloc (.cells #[.int .i64 d.v.inn,.int .i64 cm.n] 3)).drew (W.heap.size + 1) 1 (some ⟨W.heap.size,0,none⟩) 2 2 (ints [d.v.inn,cm.n])):=fun W=>(Rd.new W _ _ 2 rfl (by decide)).drewN 1
  have h00:Below W1.heap.size W1 W1:=Below.refl _ _
  have KS:Hid (∀ W,Below W1.heap.size W1 W→Below W1.heap.size W1 W∧W.cell? ⟨w.heap.size,3,none⟩=some (.int .i64 cm.n)∧W.cell? ⟨D,5,none⟩=some (.int .i64 d.v.inn)):=by
   intro W hW
   exact ⟨hW,(X1.below hW X1.lt).cell 3,(HD1.out.below hW).blk.cell 5⟩
  go_wp2_with fail
  go_region_held3 (fun W=>Below W1.heap.size W1 W∧W.cell? ⟨w.heap.size,3,none⟩=some (.int .i64 cm.n)∧W.cell? ⟨D,5,none⟩=some (.int .i64 d.v.inn))
   (first | exact KS.out _ (by assumption) | exact KS.out _ (dk_drew (by assumption)) | exact KS.out _ (Below.alloc (by assumption) (Below.size (by assumption)) _) | exact KS.out _ (dk_drew (Below.alloc (by assumption) (Below.size (by assumption)) _)))
   ((go_at_call 34;go_split_ands;(first | (with_reducible refine (add_any _ _ _ [d.v.inn,cm.n] _ _ (KRD.out _)).mono ?_) | (with_reducible refine (add_any _ _ _ [d.v.inn,cm.n] _ _ (KRE.out _)).mono ?_));rintro e W2 ⟨he,rfl⟩;rw [HAD.out] at he;subst he))
  refine exit_name ?_
  rintro W2 hW2
  have hB2:Below W1.heap.size W1 W2:=by rw [hW2];first | assumption | exact dk_drew (Below.alloc (by assumption) (Below.size (by assumption)) _) | exact Below.alloc (by assumption) (Below.size (by assumption)) _ | exact Below.alloc (dk_drew (by assumption)) (Below.size (by assumption)) _
  clear hW2 KS h00
  have HD2:=Lib.hid (HD1.out.below hB2)
  have hL2:=hL1.trans (hB2.mono (by omega))
  have X2:=X1.below hB2 X1.lt
  have hs2:=hB2.size
  clear hB2 x0 X1 hL1 X0 hB0
  have HEQ:=Lib.hid (cash_dep HN1.out HN2.out hk HAD.out HI.out)
  rw [HTH.out] at HEQ
  by_cases he:es=0
  rotate_left
  ·skip
   have he':(es != 0)=true:=by simpa using he
   have HEE:=Lib.hid (show cashE cm d=.error es by rw [HEQ.out];unfold okIf;rw [if_pos he])
   have HN:=Lib.hid he
   clear he
   go_wp2_with fail
   go_ret
   exact retDr_err HEE.out HN.out (hL2.mono hb)
  subst he
  obtain ⟨⟨k0,k1,-,-,-,k5,-,-⟩,f0,-,-,-,-,f5,-⟩:=HD2.out.blk.c8
  have x3:W2.cell? ⟨w.heap.size,3,none⟩=some (.int .i64 cm.n):=X2.cell 3
  replace y0:=X2.lt
  replace y3:D < W2.heap.size:=HD2.out.lt
  rcases bool_cs' bt with rfl | rfl
  ·obtain ⟨a,ha,-⟩:=place_there HV.out.accs.sorted HTH.out
   rw [← HI.out] at ha
   have HA:=Lib.hid ha
   clear ha
   go_wp2_with fail
   refine calls_name ?_
   intro W3 hW3
   have HD3:=Lib.hid (desk_inn HD2.out hW3)
   have HL3:=Lib.hid (show Below base w W3 by rw [hW3];exact (hL2.mono hb).setCell HD2.out.low _)
   have hb3:base ≤ W3.heap.size:=by rw [hW3,size_setCell];omega
   clear hW3 k0 k1 k5 f0 f5 x3
   refine (move_dk base D false ⟨{ d.v with inn:=s },d.ev⟩ A c M k vE xs ys i cm.n a W3 HD3.out hb3 HA.out (by show d.ev.length ≤ _;omega)).mono ?_
   intro e W4 hret
   have hret':=retDr_map (retDk_dr hret) HL3.out
   clear hret
   cases hm:moveE i cm.n ⟨{ d.v with inn:=s },d.ev⟩ with
   | error n =>
    rw [hm] at hret'
    obtain ⟨hn,rfl,hL4⟩:=hret'
    have HEE:=Lib.hid (show cashE cm d=.error n by rw [HEQ.out];exact hm)
    have HN:=Lib.hid hn
    clear hm hn
    go_wp2_with fail
    go_ret
    exact retDr_err HEE.out HN.out hL4
   | ok d4 =>
    rw [hm] at hret'
    obtain ⟨rfl,⟨A4,c4,M4,k4,vE4,hd4⟩,hL4⟩:=hret'
    have HEE:=Lib.hid (show cashE cm d=.ok d4 by rw [HEQ.out];exact hm)
    have HD4:=Lib.hid hd4
    clear hm hd4
    go_wp2_with fail
    go_ret
    exact retDr_ok HEE.out HD4.out hL4
  ·have x1:W2.cell? ⟨w.heap.size,1,none⟩=some (.int .i64 cm.acc):=X2.cell 1
   have hmk:=fun W=>run_zeros d.v.mks.length (by omega) W
   obtain ⟨LV,hLV,hlv,hcv⟩:=ac_views HD2.out.accs
   have HLV:=Lib.hid hlv
   have HCV:=Lib.hid hcv
   have hii:i ≤ d.v.accs.length:=by rw [HI.out];exact (place_spec HV.out.accs.sorted).1
   obtain ⟨m,hmn⟩:∃ m,m=d.v.mks.length:=⟨_,rfl⟩
   have HMN:=Lib.hid hmn
   rw [← hmn] at k1 hmk
   have HV2:=Lib.hid (show 1 ≤ m∧m ≤ 2 by omega)
   clear hlv hcv hv1 hv2 hmn
   obtain ⟨Wb,hWb⟩:∃ Wb,Wb=((W2.alloc (.cells (zeros m) 3)).alloc (.cells #[.int .i64 cm.acc,.int .i64 0,.slice (some ⟨W2.heap.size,0,none⟩) m m] 37)).drew:=⟨_,rfl⟩
   have hBb:Below W2.heap.size W2 Wb:=by rw [hWb];exact dk_drew (((Below.refl _ _).alloc (Nat.le_refl _) _).alloc (by simp) _)
   have HZR:Hid (Wb.ownsRow base 3 1 (.slice (some ⟨W2.heap.size,0,none⟩) m m) m (ints (List.replicate m 0))):=by rw [hWb];exact own_drewN (World.ownsRow.alloc (own_zeros W2 base m (by omega) (by have:=HV2.out;simp only [maxLen];omega)) _) 1
   have HVB:Hid (Blk Wb (W2.heap.size + 1) 37 #[.int .i64 cm.acc,.int .i64 0,.slice (some ⟨W2.heap.size,0,none⟩) m m]):=by rw [hWb];exact Blk.drewN (Blk.new_at _ _ _ _ (by simp)) 1
   have HRB:Hid (Wb.ownsRow base 37 3 (.slice A d.v.accs.length c) d.v.accs.length (avCells LV)):=by rw [← hLV];exact (HD2.out.below hBb).accs.row
   have hsb:base ≤ Wb.heap.size:=by have:=hBb.size;omega
   have hne:(Value.slice A d.v.accs.length c).ownBlock ≠ some (W2.heap.size + 1):=fun e=>by have:=(World.ownsRow.lt HD2.out.accs.row _ e).2;omega
   have hKb:Kept [37] W2 Wb:=Kept.of_below _ hBb
   have hm40:(d.v.accs.length + 1) * 40 ≤ 140737488355328:=by omega
   have hone:1 ≤ maxLen:=by simp only [maxLen];omega
   have hmem:37 ∈ [37]:=by simp
   have KS:Hid (∀ W,Kept [37] W2 W→W.cell? ⟨w.heap.size,1,none⟩=some (.int .i64 cm.acc)∧W.cell? ⟨D,0,none⟩=some (.slice A d.v.accs.length c)∧W.cell? ⟨D,1,none⟩=some (.slice M m k)∧W.frozen? ⟨D,0,none⟩=false):=by
    intro W hW
    have hd:=HD2.out.blk.kept hW (by decide)
    exact ⟨(X2.kept hW (by decide)).cell 1,hd.cell 0,(hd.cell 1).trans (by rw [HMN.out];rfl),hd.frozen 0⟩
   have HINS:=Lib.hid (insertA_od base (.slice A d.v.accs.length c) d.v.accs.length i LV ⟨cm.acc,0,some ⟨W2.heap.size,0,none⟩,m,m⟩ (W2.heap.size + 1) 1 37 Wb HRB.out hsb HVB.out (Nat.le_refl _) hone hne hii hm40)
   rw [hWb] at HINS
   have HWB:=Lib.hid hWb
   have HKB:=Lib.hid hKb
   have HWO:Hid (∀ W b,Only (((W2.alloc (.cells (zeros m) 3)).alloc (.cells #[.int .i64 cm.acc,.int .i64 0,.slice (some ⟨W2.heap.size,0,none⟩) m m] 37)).drew) W b→Only Wb W b):=by rw [hWb];exact fun _ _ h=>h
   have HWS:Hid (∀ W,Below base (((W2.alloc (.cells (zeros m) 3)).alloc (.cells #[.int .i64 cm.acc,.int .i64 0,.slice (some ⟨W2.heap.size,0,none⟩) m m] 37)).drew) W→Wb.heap.size ≤ W.heap.size):=by rw [hWb];exact fun _ h=>h.size
   have HKB2:Hid (∀ W,Only (((W2.alloc (.cells (zeros m) 3)).alloc (.cells #[.int .i64 cm.acc,.int .i64 0,.slice (some ⟨W2.heap.size,0,none⟩) m m] 37)).drew) W (Value.slice A d.v.accs.length c).ownBlock→Wb.heap.size ≤ W.heap.size→Kept [37] Wb W):=by rw [← hWb];exact fun W ho hs=>(Kept.refl _ _).only HRB.out ho hs hmem
   have HWL:Hid (∀ W,Below base (((W2.alloc (.cells (zeros m) 3)).alloc (.cells #[.int .i64 cm.acc,.int .i64 0,.slice (some ⟨W2.heap.size,0,none⟩) m m] 37)).drew) W→Below base W2 W):=by
    have hb2:base ≤ W2.heap.size:=by omega
    rw [← hWb];exact fun _ h=>(hBb.mono hb2).trans h
   clear hWb hKb HVB hne hBb
   go_upto_region 11 with (fail)
   go_cut [76] (fun _ wx=>∃ (A3:Option Addr) (c3:Nat) (xs3:List Value),Hid (Desk wx base D false ⟨{ d.v with accs:=insAcc d.v.accs i ⟨cm.acc,0,List.replicate d.v.mks.length 0⟩ },d.ev⟩ A3 c3 M k vE xs3 ys)∧Hid (Blk wx w.heap.size 113 #[.int .i64 1,.int .i64 cm.acc,.int .i64 cm.market,.int .i64 cm.n,.int .i64 cm.o.id,.int .i64 cm.o.acc,.int .i64 cm.o.side,.int .i64 cm.o.price,.int .i64 cm.o.qty,.int .i64 cm.how,.bool cm.reduce])∧Hid (Below base w wx)∧base ≤ wx.heap.size)
   case first =>
    go_region_with ((go_at_call 185;(with_reducible refine (HINS.out).mono ?_);rintro e Wc ⟨v',rfl,hown3,hbl3,honly3⟩;obtain ⟨A3,c3,rfl⟩:=own_shape hown3;have hK3:=HKB.out.only HRB.out (HWO.out _ _ honly3) (HWS.out _ hbl3) hmem;obtain ⟨z1,z0,z2,z3⟩:=KS.out _ hK3))
    all_goals
     refine exit_name ?_
     intro Z hZ
     have HKC:=Lib.hid hK3
     have HLC:=Lib.hid (HWL.out _ hbl3)
     have HOC:=Lib.hid (show OwnAc Wc base A3 (d.v.accs.length + 1) c3 (insAcc d.v.accs i ⟨cm.acc,0,List.replicate d.v.mks.length 0⟩) (avCells (insAv LV i ⟨cm.acc,0,some ⟨W2.heap.size,0,none⟩,m,m⟩)) from
      ac_ins (a:=⟨cm.acc,0,List.replicate d.v.mks.length 0⟩) (by rw [HMN.out];exact List.length_replicate.symm) hown3 HLV.out rfl hii (fun j x hx=>by obtain ⟨A2,c2,j1,j2,j3⟩:=HCV.out j x hx;exact ⟨A2,c2,j1,hK3.own j2 (by decide),j3⟩)
       (by rw [← HMN.out];exact (HKB2.out _ honly3 (HWS.out _ hbl3)).own HZR.out (by decide)) (by have:=HV2.out;omega))
     have HDZ:=Lib.hid (desk_accs HD2.out hK3 HOC.out (insAcc_len _ _ _ hii) hZ)
     have XZ:=(X2.kept hK3 (by decide)).far (p:=⟨D,0,none⟩) (blk_ne X2 HD2.out.blk (by decide)) (.slice A3 (d.v.accs.length + 1) c3)
     rw [← hZ] at XZ
     have HLZ:=Lib.hid (show Below base w Z by rw [hZ];exact ((hL2.mono hb).trans HLC.out).setCell HD2.out.low _)
     have hsz:base ≤ Z.heap.size:=by rw [hZ,size_setCell];have:=hK3.size;omega
     clear hZ hK3 hown3 hbl3 honly3
     go_wp2_with fail
     go_meet
     exact ⟨_,_,_,HDZ,Lib.hid XZ,HLZ,hsz⟩
   case rest=>as_aux_lemma =>
    obtain ⟨A3,c3,xs3,HDZ,HXZ,HLZ,hsz⟩:=hcut
    obtain ⟨Z,rfl⟩:∃ Z,Z=wc:=⟨wc,rfl⟩
    have XZ:=HXZ.out
    clear k0 k1 k5 f0 f5 x1 x3 hmk HXZ
    obtain ⟨⟨-,-,-,-,-,k5,-,-⟩,-,-,-,-,-,f5,-⟩:=HDZ.out.blk.c8
    have x3:Z.cell? ⟨w.heap.size,3,none⟩=some (.int .i64 cm.n):=XZ.cell 3
    have yz:=XZ.lt
    have yd:D < Z.heap.size:=HDZ.out.lt
    go_wp2_with fail
    refine calls_name ?_
    intro W3 hW3
    have HD3:=Lib.hid (desk_inn HDZ.out hW3)
    have HL3:=Lib.hid (show Below base w W3 by rw [hW3];exact HLZ.out.setCell HD2.out.low _)
    have hb3:base ≤ W3.heap.size:=by rw [hW3,size_setCell];exact hsz
    have HA:=Lib.hid (show (insAcc d.v.accs i ⟨cm.acc,0,List.replicate d.v.mks.length 0⟩)[i]?=some ⟨cm.acc,0,List.replicate d.v.mks.length 0⟩ by rw [insAcc_get _ _ _ hii,if_neg (Nat.lt_irrefl _),if_pos rfl])
    clear hW3 k5 f5 x3
    refine (move_dk base D false ⟨{ d.v with accs:=insAcc d.v.accs i ⟨cm.acc,0,List.replicate d.v.mks.length 0⟩,inn:=s },d.ev⟩ A3 c3 M k vE xs3 ys i cm.n _ W3 HD3.out hb3 HA.out (by show d.ev.length ≤ _;omega)).mono ?_
    intro e W4 hret
    have hret':=retDr_map (retDk_dr hret) HL3.out
    clear hret
    cases hm:moveE i cm.n ⟨{ d.v with accs:=insAcc d.v.accs i ⟨cm.acc,0,List.replicate d.v.mks.length 0⟩,inn:=s },d.ev⟩ with
    | error n =>
     rw [hm] at hret'
     obtain ⟨hn,rfl,hL4⟩:=hret'
     have HEE:=Lib.hid (show cashE cm d=.error n by rw [HEQ.out];exact hm)
     have HN:=Lib.hid hn
     clear hm hn
     go_wp2_with fail
     go_ret
     exact retDr_err HEE.out HN.out hL4
    | ok d4 =>
     rw [hm] at hret'
     obtain ⟨rfl,⟨A4,c4,M4,k4,vE4,hd4⟩,hL4⟩:=hret'
     have HEE:=Lib.hid (show cashE cm d=.ok d4 by rw [HEQ.out];exact hm)
     have HD4:=Lib.hid hd4
     clear hm hd4
     go_wp2_with fail
     go_ret
     exact retDr_ok HEE.out HD4.out hL4
 ·rw [hk]
  obtain ⟨bt,hbt⟩:∃ bt,thereB d.v.accs cm.acc=bt:=⟨_,rfl⟩
  have HTH:=Lib.hid hbt
  clear hbt hi
  go_enter Try.func172,Try.ntmps172
  go_wp2_with fail
  refine wp_name ?_
  intro W0 hW0
  have hB0:Below w.heap.size w W0:=by rw [hW0];exact (Below.refl _ _).alloc (Nat.le_refl _) _
  have X0:Blk W0 w.heap.size 113 #[.int .i64 2,.int .i64 cm.acc,.int .i64 cm.market,.int .i64 cm.n,.int .i64 cm.o.id,.int .i64 cm.o.acc,.int .i64 cm.o.side,.int .i64 cm.o.price,.int .i64 cm.o.qty,.int .i64 cm.how,.bool cm.reduce]:=by rw [hW0];exact Blk.new w _ _
  have HD0:=Lib.hid (HD.out.below hB0)
  have hs0:=hB0.size
  clear hW0
  obtain ⟨⟨k0,k1,k2,k3,k4,k5,k6,-⟩,-⟩:=HD0.out.blk.c8
  have x1:W0.cell? ⟨w.heap.size,1,none⟩=some (.int .i64 cm.acc):=X0.cell 1
  have y0:=X0.lt
  have y3:D < W0.heap.size:=HD0.out.lt
  have h00:Below W0.heap.size W0 W0:=Below.refl _ _
  have KS:Hid (∀ W,Below W0.heap.size W0 W→Below W0.heap.size W0 W∧W.cell? ⟨w.heap.size,1,none⟩=some (.int .i64 cm.acc)∧W.cell? ⟨D,0,none⟩=some (.slice A d.v.accs.length c)∧W.cell? ⟨D,1,none⟩=some (.slice M d.v.mks.length k) ∧
    W.cell? ⟨D,2,none⟩=some (.int .i64 d.v.ins)∧W.cell? ⟨D,3,none⟩=some (.int .i64 d.v.resid)∧W.cell? ⟨D,4,none⟩=some (.int .i64 d.v.next)∧W.cell? ⟨D,5,none⟩=some (.int .i64 d.v.inn)∧W.cell? ⟨D,6,none⟩=some (.int .i64 d.v.out)):=by
   intro W hW
   obtain ⟨⟨k0,k1,k2,k3,k4,k5,k6,k7⟩,-⟩:=(HD0.out.below hW).blk.c8
   exact ⟨hW,(X0.below hW X0.lt).cell 1,k0,k1,k2,k3,k4,k5,k6⟩
  clear k0 k1 k2 k3 k4 k5 k6 x1
  go_region_held3 (fun W=>Below W0.heap.size W0 W∧W.cell? ⟨w.heap.size,1,none⟩=some (.int .i64 cm.acc)∧W.cell? ⟨D,0,none⟩=some (.slice A d.v.accs.length c)∧W.cell? ⟨D,1,none⟩=some (.slice M d.v.mks.length k) ∧
    W.cell? ⟨D,2,none⟩=some (.int .i64 d.v.ins)∧W.cell? ⟨D,3,none⟩=some (.int .i64 d.v.resid)∧W.cell? ⟨D,4,none⟩=some (.int .i64 d.v.next)∧W.cell? ⟨D,5,none⟩=some (.int .i64 d.v.inn)∧W.cell? ⟨D,6,none⟩=some (.int .i64 d.v.out))
   (first | exact KS.out _ (by assumption) | exact KS.out _ (dk_drew (by assumption)))
   ((go_at_call 177;go_split_ands;(with_reducible refine (place_any d.v A M c k cm.acc _ _ (HD0.out.below (by first | assumption | exact dk_drew (by assumption))).accs.read (Nat.le_refl _) HV.out.accs.sorted (aok_ids HV.out.accs) HID.out hal).mono ?_);rintro e W1 ⟨he,hb1⟩;rw [HTH.out,← HI.out] at he;subst he;have hB1:=dk_next (w0:=W0) hb1 (by first | assumption | exact dk_drew (by assumption))))
  refine exit_name ?_
  rintro W hW
  obtain rfl:W1=W:=hW.symm
  clear hb1 hW KS h00
  have HD1:=Lib.hid (HD0.out.below hB1)
  have hL1:=hB0.trans (hB1.mono (by omega))
  have X1:=X0.below hB1 X0.lt
  have hs1:=hB1.size
  have hbW1:base ≤ W1.heap.size:=by omega
  have x0:W1.cell? ⟨w.heap.size,0,none⟩=some (.int .i64 2):=X1.cell 0
  replace y0:=X1.lt
  clear hB1 y3
  rcases (bool_cs' bt).symm with rfl | rfl
  ·have HEE:=Lib.hid (cash_none HN1.out HN2.out hk HTH.out)
   go_wp2_with fail
   go_ret
   exact retDr_err HEE.out (by omega) (hL1.mono hb)
  obtain ⟨s,es,had⟩:∃ s es,addAll [d.v.out,cm.n]=(s,es):=⟨_,_,rfl⟩
  have HAD:=Lib.hid had
  clear had
  have y3:D < W1.heap.size:=HD1.out.lt
  have KRD:Hid (∀ W:World,Rd (W.alloc (.cells #[.int .i64 d.v.out,.int .i64 cm.n] 3)) (W.heap.size + 1) 1 (some ⟨W.heap.size,0,none⟩) 2 2 (ints [d.v.out,cm.n])):=fun W=>Rd.new W _ _ 2 rfl (by decide)
  have KRE:Hid (∀ W:World,Rd (W.alloc (.cells #[.int .i64 d.v.out,.int .i64 cm.n] 3)).drew (W.heap.size + 1) 1 (some ⟨W.heap.size,0,none⟩) 2 2 (ints [d.v.out,cm.n])):=fun W=>(Rd.new W _ _ 2 rfl (by decide)).drewN 1
  have h00:Below W1.heap.size W1 W1:=Below.refl _ _
  have KS:Hid (∀ W,Below W1.heap.size W1 W→Below W1.heap.size W1 W∧W.cell? ⟨w.heap.size,3,none⟩=some (.int .i64 cm.n)∧W.cell? ⟨D,6,none⟩=some (.int .i64 d.v.out)):=by
   intro W hW
   exact ⟨hW,(X1.below hW X1.lt).cell 3,(HD1.out.below hW).blk.cell 6⟩
  go_wp2_with fail
  go_region_held3 (fun W=>Below W1.heap.size W1 W∧W.cell? ⟨w.heap.size,3,none⟩=some (.int .i64 cm.n)∧W.cell? ⟨D,6,none⟩=some (.int .i64 d.v.out))
   (first | exact KS.out _ (by assumption) | exact KS.out _ (dk_drew (by assumption)) | exact KS.out _ (Below.alloc (by assumption) (Below.size (by assumption)) _) | exact KS.out _ (dk_drew (Below.alloc (by assumption) (Below.size (by assumption)) _)))
   ((go_at_call 34;go_split_ands;(first | (with_reducible refine (add_any _ _ _ [d.v.out,cm.n] _ _ (KRD.out _)).mono ?_) | (with_reducible refine (add_any _ _ _ [d.v.out,cm.n] _ _ (KRE.out _)).mono ?_));rintro e W2 ⟨he,rfl⟩;rw [HAD.out] at he;subst he))
  refine exit_name ?_
  rintro W2 hW2
  have hB2:Below W1.heap.size W1 W2:=by rw [hW2];first | assumption | exact dk_drew (Below.alloc (by assumption) (Below.size (by assumption)) _) | exact Below.alloc (by assumption) (Below.size (by assumption)) _ | exact Below.alloc (dk_drew (by assumption)) (Below.size (by assumption)) _
  clear hW2 KS h00
  have HD2:=Lib.hid (HD1.out.below hB2)
  have hL2:=hL1.trans (hB2.mono (by omega))
  have X2:=X1.below hB2 X1.lt
  have hs2:=hB2.size
  clear hB2 x0 X1 hL1 X0 hB0
  have HEQ:=Lib.hid (cash_out HN1.out HN2.out hk HTH.out HAD.out HI.out)
  by_cases he:es=0
  rotate_left
  ·skip
   have he':(es != 0)=true:=by simpa using he
   have HEE:=Lib.hid (show cashE cm d=.error es by rw [HEQ.out];unfold okIf;rw [if_pos he])
   have HN:=Lib.hid he
   clear he
   go_wp2_with fail
   go_ret
   exact retDr_err HEE.out HN.out (hL2.mono hb)
  subst he
  obtain ⟨⟨-,-,-,-,-,-,k6,-⟩,-,-,-,-,-,-,f6,-⟩:=HD2.out.blk.c8
  have x3:W2.cell? ⟨w.heap.size,3,none⟩=some (.int .i64 cm.n):=X2.cell 3
  replace y0:=X2.lt
  replace y3:D < W2.heap.size:=HD2.out.lt
  obtain ⟨a,ha,-⟩:=place_there HV.out.accs.sorted HTH.out
  rw [← HI.out] at ha
  have HA:=Lib.hid ha
  clear ha
  go_wp2_with fail
  refine calls_name ?_
  intro W3 hW3
  have HD3:=Lib.hid (desk_out HD2.out hW3)
  have HL3:=Lib.hid (show Below base w W3 by rw [hW3];exact (hL2.mono hb).setCell HD2.out.low _)
  have hb3:base ≤ W3.heap.size:=by rw [hW3,size_setCell];omega
  clear hW3 k6 f6 x3
  refine (move_dk base D false ⟨{ d.v with out:=s },d.ev⟩ A c M k vE xs ys i (-cm.n) a W3 HD3.out hb3 HA.out (by show d.ev.length ≤ _;omega)).mono ?_
  intro e W4 hret
  cases hm:moveE i (-cm.n) ⟨{ d.v with out:=s },d.ev⟩ with
  | error n =>
   rw [hm] at hret
   obtain ⟨hn,rfl,hL4⟩:=hret
   have HEE:=Lib.hid (show cashE cm d=.error n by rw [HEQ.out,hm];rfl)
   have hn':(n != 0)=true:=by simpa using hn
   have HN:=Lib.hid hn
   clear hm hn
   go_wp2_with fail
   go_ret
   exact retDr_err HEE.out HN.out (HL3.out.trans hL4)
  | ok d4 =>
   rw [hm] at hret
   obtain ⟨rfl,⟨vE4,xs4,ys4,hd4⟩,hL4,hF4⟩:=hret
   have HD4:=Lib.hid hd4
   have HL4:=Lib.hid (HL3.out.trans hL4)
   obtain ⟨a',ha',hp'⟩:=move_at (d:=⟨{ d.v with out:=s },d.ev⟩) HA.out hm
   have HEE:=Lib.hid (show cashE cm d=okIf (beginErr d4.v a') (.ok d4) by rw [HEQ.out,hm];show okIf (beginErr d4.v (accAt d4.v i)) _=_;rw [show accAt d4.v i=a' from getD_some ha'])
   obtain ⟨g,A2,c2,rfl,hg1,hg2,hin,⟨cs,hgB⟩,⟨q0,q1,q2⟩,-,hpos,-⟩:=oac_at HD4.out.accs ha'
   have HPO:=Lib.hid (Rd.of_own hpos)
   obtain ⟨⟨k0,-⟩,-⟩:=HD4.out.blk.c8
   have hi0:(0:Int) ≤ (i:Int):=by omega
   have hi1:(i:Int) < (d4.v.accs.length:Int):=by omega
   have y4:D < W4.heap.size:=HD4.out.lt
   clear hm hd4 hL4 hF4 ha' hp' hgB hpos
   go_wp2_with fail
   refine (begin_dk base D false d4 _ c M k vE4 xs4 ys4 a' A2 c2 W4.heap.size W4 HD4.out HPO.out (Nat.le_refl _)).mono ?_
   rintro e W5 ⟨rfl,hb5⟩
   have HD5:=Lib.hid (HD4.out.below hb5)
   have HL5:=Lib.hid (HL4.out.trans (hb5.mono (by have:=HD4.out.low;omega)))
   obtain ⟨be,hbe⟩:∃ be,beginErr d4.v a'=be:=⟨_,rfl⟩
   have HEG:=Lib.hid (show cashE cm d=okIf be (.ok d4) by rw [HEE.out,hbe])
   rw [hbe]
   clear hbe hb5
   go_wp2_with fail
   go_ret
   by_cases hbz:be=0
   ·subst hbz
    exact retDr_ok HEG.out HD5.out.dr HL5.out
   ·exact retDr_err (by rw [HEG.out];unfold okIf;rw [if_pos hbz]) hbz HL5.out
end
section
open Go.RowKit
theorem retDr_form {w w':World} {base D:Nat} {r:Except Int Dk} {e:Ending} (h:RetDr w base D r e w'):∃ n,e=.returned (.int .i64 n)∧RetDr w base D r (.returned (.int .i64 n)) w':=by
 cases r with
 | error n=>obtain ⟨h1,rfl,h2⟩:=h;exact ⟨n,rfl,h1,rfl,h2⟩
 | ok d=>obtain ⟨rfl,h1,h2⟩:=h;exact ⟨0,rfl,rfl,h1,h2⟩
theorem calls_dr {P:Program} {f:Nat} {args:Array Value} {w w1:World} {base D:Nat} {r r':Except Int Dk} (h:Calls P f args w1 (RetDr w1 base D r)) (hb:Below base w w1) (hr:r=r'):Calls P f args w1 fun e w'=>∃ n,e=.returned (.int .i64 n)∧RetDr w base D r' (.returned (.int .i64 n)) w':=by
 subst hr
 exact h.mono fun e w' hq=>retDr_form (retDr_map hq hb)
theorem does_none {c:Cm} {d:Dk} (h:¬ (1 ≤ c.kind∧c.kind ≤ 7)):doesE c d=.error 4:=by
 unfold doesE
 rw [if_neg (by omega),if_neg (by omega),if_neg (by omega),if_neg (by omega),if_neg (by omega)]
set_option maxHeartbeats 4000000 in
set_option maxRecDepth 100000 in
theorem does_dk (base D:Nat) (d:Dk) (A:Option Addr) (c:Nat) (M:Option Addr) (k:Nat) (vE:Value) (xs ys:List Value) (cm:Cm) (w:World) (h:Desk w base D true d A c M k vE xs ys) (hb:base ≤ w.heap.size) (hv:VOk d.v) (hl:d.ev.length ≤ 700000) :
  Calls Try.prog 153 #[.pointer (some ⟨D,0,none⟩),.agg #[.int .i64 cm.kind,.int .i64 cm.acc,.int .i64 cm.market,.int .i64 cm.n,.int .i64 cm.o.id,.int .i64 cm.o.acc,.int .i64 cm.o.side,.int .i64 cm.o.price,.int .i64 cm.o.qty,.int .i64 cm.how,.bool cm.reduce]] w (RetDr w base D (doesE cm d)):=by
 have HD:=Lib.hid h
 have HV:=Lib.hid hv
 have hDl:=h.lt
 have hm2:=hv.len.2
 clear h hv
 by_cases hk:1 ≤ cm.kind∧cm.kind ≤ 7
 ·obtain ⟨W1,hW1⟩:∃ W,W=w.alloc (.cells #[.int .i64 cm.kind,.int .i64 cm.acc,.int .i64 cm.market,.int .i64 cm.n,.int .i64 cm.o.id,.int .i64 cm.o.acc,.int .i64 cm.o.side,.int .i64 cm.o.price,.int .i64 cm.o.qty,.int .i64 cm.how,.bool cm.reduce] 113):=⟨_,rfl⟩
  have hB1:Below w.heap.size w W1:=by rw [hW1];exact (Below.refl _ _).alloc (Nat.le_refl _) _
  have HD1:=HD.out.below hB1
  have hb1:base ≤ W1.heap.size:=by have:=hB1.size;omega
  have hL1:=hB1.mono hb
  rcases (show cm.kind=1∨cm.kind=2∨cm.kind=3∨cm.kind=4∨cm.kind=5∨cm.kind=6∨cm.kind=7 by omega) with h7 | h7 | h7 | h7 | h7 | h7 | h7
  ·skip
   have hc:=calls_dr (cash_dk base D d A c M k vE xs ys cm W1 HD1.weak hb1 HV.out (by omega) (.inl h7)) hL1 (show _=doesE cm d by unfold doesE;rw [if_pos (by omega)])
   rw [hW1] at hc
   have HC:=Lib.hid hc
   have e1:(cm.kind == 1)=true:=by simp [h7]
   have e2:(cm.kind == 2)=false:=by simp [h7]
   have e3:(cm.kind == 3)=false:=by simp [h7]
   have e4:(cm.kind == 4)=false:=by simp [h7]
   have e5:(cm.kind == 5)=false:=by simp [h7]
   have e6:(cm.kind == 6)=false:=by simp [h7]
   have e7:(cm.kind == 7)=false:=by simp [h7]
   clear hk h7 hc hW1 HD1 hL1 hb1 hB1
   go_enter Try.func153,Try.ntmps153
   go_wp2_with fail
   refine HC.out.mono ?_
   rintro e w' ⟨n,rfl,hret⟩
   have HR:=Lib.hid hret
   clear hret
   go_wp2_with fail
   go_ret
   exact HR.out
  ·skip
   have hc:=calls_dr (cash_dk base D d A c M k vE xs ys cm W1 HD1.weak hb1 HV.out (by omega) (.inr h7)) hL1 (show _=doesE cm d by unfold doesE;rw [if_pos (by omega)])
   rw [hW1] at hc
   have HC:=Lib.hid hc
   have e1:(cm.kind == 1)=false:=by simp [h7]
   have e2:(cm.kind == 2)=true:=by simp [h7]
   have e3:(cm.kind == 3)=false:=by simp [h7]
   have e4:(cm.kind == 4)=false:=by simp [h7]
   have e5:(cm.kind == 5)=false:=by simp [h7]
   have e6:(cm.kind == 6)=false:=by simp [h7]
   have e7:(cm.kind == 7)=false:=by simp [h7]
   clear hk h7 hc hW1 HD1 hL1 hb1 hB1
   go_enter Try.func153,Try.ntmps153
   go_wp2_with fail
   refine HC.out.mono ?_
   rintro e w' ⟨n,rfl,hret⟩
   have HR:=Lib.hid hret
   clear hret
   go_wp2_with fail
   go_ret
   exact HR.out
  ·have hord:Calls Try.prog 173 #[.pointer (some ⟨D,0,none⟩),.agg #[.int .i64 cm.kind,.int .i64 cm.acc,.int .i64 cm.market,.int .i64 cm.n,.int .i64 cm.o.id,.int .i64 cm.o.acc,.int .i64 cm.o.side,.int .i64 cm.o.price,.int .i64 cm.o.qty,.int .i64 cm.how,.bool cm.reduce]] W1 (RetDk W1 base D false A c M k [174,124] (D :: (ab A ++ ab M)) (orderE cm d)):=by
    cases hr:cm.reduce with
    | false=>have:=order_plain base D d A c M k vE xs ys cm W1 HD1.weak hb1 HV.out hl hr;rw [hr] at this;exact this
    | true=>have:=order_reduce base D d A c M k vE xs ys cm W1 HD1.weak hb1 HV.out hl hr;rw [hr] at this;exact this
   have hc:=calls_dr (hord.mono fun e w' hq=>retDk_dr hq) hL1 (show _=doesE cm d by unfold doesE;rw [if_neg (by omega),if_pos (by omega)])
   rw [hW1] at hc
   have HC:=Lib.hid hc
   have e1:(cm.kind == 1)=false:=by simp [h7]
   have e2:(cm.kind == 2)=false:=by simp [h7]
   have e3:(cm.kind == 3)=true:=by simp [h7]
   have e4:(cm.kind == 4)=false:=by simp [h7]
   have e5:(cm.kind == 5)=false:=by simp [h7]
   have e6:(cm.kind == 6)=false:=by simp [h7]
   have e7:(cm.kind == 7)=false:=by simp [h7]
   clear hk h7 hc hW1 HD1 hL1 hb1 hB1
   go_enter Try.func153,Try.ntmps153
   go_wp2_with fail
   refine HC.out.mono ?_
   rintro e w' ⟨n,rfl,hret⟩
   have HR:=Lib.hid hret
   clear hret
   go_wp2_with fail
   go_ret
   exact HR.out
  ·skip
   have hc:=calls_dr ((cancel_dk base D d A c M k vE xs ys cm W1 HD1.weak hb1 (by omega) hm2).mono fun e w' hq=>retDk_dr hq) hL1 (show _=doesE cm d by unfold doesE;rw [if_neg (by omega),if_neg (by omega),if_pos (by omega)])
   rw [hW1] at hc
   have HC:=Lib.hid hc
   have e1:(cm.kind == 1)=false:=by simp [h7]
   have e2:(cm.kind == 2)=false:=by simp [h7]
   have e3:(cm.kind == 3)=false:=by simp [h7]
   have e4:(cm.kind == 4)=true:=by simp [h7]
   have e5:(cm.kind == 5)=false:=by simp [h7]
   have e6:(cm.kind == 6)=false:=by simp [h7]
   have e7:(cm.kind == 7)=false:=by simp [h7]
   clear hk h7 hc hW1 HD1 hL1 hb1 hB1
   go_enter Try.func153,Try.ntmps153
   go_wp2_with fail
   refine HC.out.mono ?_
   rintro e w' ⟨n,rfl,hret⟩
   have HR:=Lib.hid hret
   clear hret
   go_wp2_with fail
   go_ret
   exact HR.out
  ·skip
   have hc:=calls_dr (market_dk base D d A c M k vE xs ys cm W1 HD1.weak hb1 HV.out (by omega)) hL1 (show _=doesE cm d by unfold doesE;rw [if_neg (by omega),if_neg (by omega),if_neg (by omega),if_pos (by omega)])
   rw [hW1] at hc
   have HC:=Lib.hid hc
   have e1:(cm.kind == 1)=false:=by simp [h7]
   have e2:(cm.kind == 2)=false:=by simp [h7]
   have e3:(cm.kind == 3)=false:=by simp [h7]
   have e4:(cm.kind == 4)=false:=by simp [h7]
   have e5:(cm.kind == 5)=true:=by simp [h7]
   have e6:(cm.kind == 6)=false:=by simp [h7]
   have e7:(cm.kind == 7)=false:=by simp [h7]
   clear hk h7 hc hW1 HD1 hL1 hb1 hB1
   go_enter Try.func153,Try.ntmps153
   go_wp2_with fail
   refine HC.out.mono ?_
   rintro e w' ⟨n,rfl,hret⟩
   have HR:=Lib.hid hret
   clear hret
   go_wp2_with fail
   go_ret
   exact HR.out
  ·skip
   have hc:=calls_dr (market_dk base D d A c M k vE xs ys cm W1 HD1.weak hb1 HV.out (by omega)) hL1 (show _=doesE cm d by unfold doesE;rw [if_neg (by omega),if_neg (by omega),if_neg (by omega),if_pos (by omega)])
   rw [hW1] at hc
   have HC:=Lib.hid hc
   have e1:(cm.kind == 1)=false:=by simp [h7]
   have e2:(cm.kind == 2)=false:=by simp [h7]
   have e3:(cm.kind == 3)=false:=by simp [h7]
   have e4:(cm.kind == 4)=false:=by simp [h7]
   have e5:(cm.kind == 5)=false:=by simp [h7]
   have e6:(cm.kind == 6)=true:=by simp [h7]
   have e7:(cm.kind == 7)=false:=by simp [h7]
   clear hk h7 hc hW1 HD1 hL1 hb1 hB1
   go_enter Try.func153,Try.ntmps153
   go_wp2_with fail
   refine HC.out.mono ?_
   rintro e w' ⟨n,rfl,hret⟩
   have HR:=Lib.hid hret
   clear hret
   go_wp2_with fail
   go_ret
   exact HR.out
  ·skip
   have hc:=calls_dr ((sweep_dk base D d A c M k vE xs ys W1 HD1 hb1 HV.out hl).mono fun e w' hq=>retDk_dr hq) hL1 (show _=doesE cm d by unfold doesE;rw [if_neg (by omega),if_neg (by omega),if_neg (by omega),if_neg (by omega),if_pos (by omega)])
   rw [hW1] at hc
   have HC:=Lib.hid hc
   have e1:(cm.kind == 1)=false:=by simp [h7]
   have e2:(cm.kind == 2)=false:=by simp [h7]
   have e3:(cm.kind == 3)=false:=by simp [h7]
   have e4:(cm.kind == 4)=false:=by simp [h7]
   have e5:(cm.kind == 5)=false:=by simp [h7]
   have e6:(cm.kind == 6)=false:=by simp [h7]
   have e7:(cm.kind == 7)=true:=by simp [h7]
   clear hk h7 hc hW1 HD1 hL1 hb1 hB1
   go_enter Try.func153,Try.ntmps153
   go_wp2_with fail
   refine HC.out.mono ?_
   rintro e w' ⟨n,rfl,hret⟩
   have HR:=Lib.hid hret
   clear hret
   go_wp2_with fail
   go_ret
   exact HR.out
 ·have HE:=Lib.hid (does_none (d:=d) hk)
  have e1:(cm.kind == 1)=false:=by simp;omega
  have e2:(cm.kind == 2)=false:=by simp;omega
  have e3:(cm.kind == 3)=false:=by simp;omega
  have e4:(cm.kind == 4)=false:=by simp;omega
  have e5:(cm.kind == 5)=false:=by simp;omega
  have e6:(cm.kind == 6)=false:=by simp;omega
  have e7:(cm.kind == 7)=false:=by simp;omega
  clear hk
  go_enter Try.func153,Try.ntmps153
  go_wp2_with fail
  go_ret
  exact retDr_err HE.out (by omega) ((Below.refl _ _).alloc hb _)
end
section
def prevId (L:List Ac) (i:Nat):Option Int:=if i=0 then none else (L[i - 1]?).map (·.id)
theorem prevId_zero (L:List Ac):prevId L 0=none:=rfl
theorem prevId_succ {L:List Ac} {i:Nat} {a:Ac} (h:L[i]?=some a):prevId L (i + 1)=some a.id:=by
 unfold prevId;rw [if_neg (by omega),Nat.add_sub_cancel,h];rfl
theorem accsErr_step {m:Int} {L:List Ac} {i:Nat} {a:Ac} (h:L[i]?=some a) :
  accsErr m (prevId L i) (L.drop i)=if accCheck a.id a.bal a.pos m ≠ 0 then accCheck a.id a.bal a.pos m else if (∃ q ∈ prevId L i,a.id ≤ q) then 6 else accsErr m (prevId L (i + 1)) (L.drop (i + 1)):=by
 obtain ⟨h1,h2⟩:=List.getElem?_eq_some_iff.1 h
 rw [List.drop_eq_getElem_cons h1,h2,prevId_succ h];rfl
theorem accsErr_end {m:Int} {L:List Ac} {i:Nat} (h:L.length ≤ i):accsErr m (prevId L i) (L.drop i)=0:=by
 rw [List.drop_eq_nil_of_le h];rfl
theorem prev_some {L:List Ac} {i:Nat} {b:Ac} (h:L[i]?=some b) {x:Int}:(∃ q ∈ prevId L (i + 1),x ≤ q) ↔ x ≤ b.id:=by
 rw [prevId_succ h];simp
def addRow (P ps:List Int):Nat→List Int
 | 0=>P
 | j + 1=>(addRow P ps j).set j ((addRow P ps j).getD j 0 + ps.getD j 0)
theorem addRow_len (P ps:List Int):∀ j,(addRow P ps j).length=P.length
 | 0=>rfl
 | j + 1=>by unfold addRow;rw [List.length_set,addRow_len P ps j]
theorem addRow_get (P ps:List Int):∀ j k,k < P.length→(addRow P ps j).getD k 0=P.getD k 0 + if k < j then ps.getD k 0 else 0
 | 0,k,_=>by simp [addRow]
 | j + 1,k,hk=>by
  have h1:=addRow_get P ps j
  have hl:=addRow_len P ps j
  unfold addRow
  by_cases e:k=j
  ·subst e
   rw [List.getD_eq_getElem?_getD,List.getElem?_set_self (by omega)]
   have:=h1 k hk
   rw [if_neg (Nat.lt_irrefl _)] at this
   rw [if_pos (by omega)]
   simp only [Option.getD_some];omega
  ·rw [List.getD_eq_getElem?_getD,List.getElem?_set_ne (by omega),← List.getD_eq_getElem?_getD,h1 k hk]
   by_cases h2:k < j
   ·rw [if_pos h2,if_pos (by omega)]
   ·rw [if_neg h2,if_neg (by omega)]
def rowOf (nm:Nat) (L:List Ac) (i:Nat):List Int:=(List.range nm).map fun k=>posSum k (L.take i)
theorem rowOf_len (nm:Nat) (L:List Ac) (i:Nat):(rowOf nm L i).length=nm:=by simp [rowOf]
theorem rowOf_get {nm:Nat} {L:List Ac} {i k:Nat} (h:k < nm):(rowOf nm L i)[k]?=some (posSum k (L.take i)):=by simp [rowOf,h]
theorem rowOf_zero (nm:Nat) (L:List Ac):rowOf nm L 0=List.replicate nm 0:=by
 apply List.ext_getElem?
 intro k
 by_cases h:k < nm
 ·rw [rowOf_get h,List.getElem?_replicate,if_pos h];simp [posSum]
 ·rw [List.getElem?_eq_none (by rw [rowOf_len];omega),List.getElem?_eq_none (by simp;omega)]
theorem row_next {nm:Nat} {L:List Ac} {i:Nat} {a:Ac} (h:L[i]?=some a):addRow (rowOf nm L i) a.pos nm=rowOf nm L (i + 1):=by
 apply List.ext_getElem?
 intro k
 by_cases hk:k < nm
 ·have h1:=addRow_get (rowOf nm L i) a.pos nm k (by rw [rowOf_len];exact hk)
  have hl:k < (addRow (rowOf nm L i) a.pos nm).length:=by rw [addRow_len,rowOf_len];exact hk
  rw [List.getD_eq_getElem?_getD,List.getElem?_eq_getElem hl,Option.getD_some,List.getD_eq_getElem?_getD,rowOf_get hk,Option.getD_some,if_pos hk] at h1
  rw [List.getElem?_eq_getElem hl,h1,rowOf_get hk,posSum_next h]
 ·rw [List.getElem?_eq_none (by rw [addRow_len,rowOf_len];omega),List.getElem?_eq_none (by rw [rowOf_len];omega)]
theorem posSum_bd {L:List Ac} {k:Nat} (h:∀ a ∈ L,∀ n ∈ a.pos,-1000 ≤ n∧n ≤ 1000):-(1000 * (L.length:Int)) ≤ posSum k L∧posSum k L ≤ 1000 * L.length:=by
 induction L with
 | nil=>simp [posSum]
 | cons a l ih =>
  have h1:=ih fun x hx=>h x (by simp [hx])
  have h2:-1000 ≤ a.pos.getD k 0∧a.pos.getD k 0 ≤ 1000:=by
   rw [List.getD_eq_getElem?_getD]
   cases hg:a.pos[k]? with
   | none=>simp
   | some z=>exact h a (by simp) z (List.mem_of_getElem? hg)
  rw [posSum_cons,List.length_cons]
  omega
theorem balSum_bd {L:List Ac} (h:∀ a ∈ L,-1000000000000 ≤ a.bal∧a.bal ≤ 1000000000000):-(1000000000000 * (L.length:Int)) ≤ balSum L∧balSum L ≤ 1000000000000 * L.length:=by
 induction L with
 | nil=>simp [balSum]
 | cons a l ih =>
  have h1:=ih fun x hx=>h x (by simp [hx])
  have h2:=h a (by simp)
  rw [balSum_cons,List.length_cons]
  omega
def FarOk (m:Int) (L:List Ac) (i:Nat):Prop:=accsErr m (prevId L i) (L.drop i)=accsErr m none L∧∀ a ∈ L.take i,accCheck a.id a.bal a.pos m=0
theorem far_zero (m:Int) (L:List Ac):FarOk m L 0:=⟨rfl,by simp⟩
theorem far_next {m:Int} {L:List Ac} {i:Nat} {a:Ac} (h:FarOk m L i) (ha:L[i]?=some a) (h1:accCheck a.id a.bal a.pos m=0) (h2:¬ ∃ q ∈ prevId L i,a.id ≤ q):FarOk m L (i + 1):=by
 refine ⟨?_,fun x hx=>?_⟩
 ·have:=accsErr_step (m:=m) ha
  rw [if_neg (by omega),if_neg h2] at this
  rw [← this];exact h.1
 ·rw [List.take_add_one,ha] at hx
  rcases List.mem_append.1 hx with hx | hx
  ·exact h.2 x hx
  ·simp only [Option.toList,List.mem_singleton] at hx
   subst hx;exact h1
theorem far_bad {m:Int} {L:List Ac} {i:Nat} {a:Ac} {e:Int} (h:FarOk m L i) (ha:L[i]?=some a) (h1:accCheck a.id a.bal a.pos m=e) (he:e ≠ 0):accsErr m none L=e:=by
 rw [← h.1,accsErr_step ha,if_pos (by rw [h1];exact he),h1]
theorem far_twice {m:Int} {L:List Ac} {i:Nat} {a:Ac} (h:FarOk m L i) (ha:L[i]?=some a) (h1:accCheck a.id a.bal a.pos m=0) (h2:∃ q ∈ prevId L i,a.id ≤ q):accsErr m none L=6:=by
 rw [← h.1,accsErr_step ha,if_neg (by omega),if_pos h2]
theorem far_end {m:Int} {L:List Ac} (h:FarOk m L L.length):accsErr m none L=0:=by rw [← h.1,accsErr_end (Nat.le_refl _)]
theorem far_bounds {m:Int} {L:List Ac} {i:Nat} (h:FarOk m L i) (hi:i ≤ 8):(-8000000000000 ≤ balSum (L.take i)∧balSum (L.take i) ≤ 8000000000000)∧∀ k,-8000 ≤ posSum k (L.take i)∧posSum k (L.take i) ≤ 8000:=by
 have hl:(L.take i).length ≤ 8:=by rw [List.length_take];omega
 have h1:=balSum_bd (L:=L.take i) fun a ha=>by have:=(accCheck_ok (h.2 a ha)).2.2.2.1;exact this
 refine ⟨by omega,fun k=>?_⟩
 have h2:=posSum_bd (L:=L.take i) (k:=k) fun a ha n hn=>by
  have:=(accCheck_ok (h.2 a ha)).2.2.2.2
  unfold posOk at this
  rw [List.all_eq_true] at this
  have:=this n hn
  unfold posOk1 at this
  simpa using this
 omega
def tailErr (v:Vn):Int:=if v.ins + v.resid + balSum v.accs ≠ v.inn - v.out∨(∃ k,k < v.mks.length∧posSum k v.accs ≠ 0) then 4 else mksErr v.accs v.next v.mks
theorem row_any {nm:Nat} {L:List Ac}:(rowOf nm L L.length).any (fun x=>!(x == 0))=true ↔ ∃ k,k < nm∧posSum k L ≠ 0:=by
 rw [List.any_eq_true]
 unfold rowOf
 constructor
 ·rintro ⟨x,hx,h⟩
  obtain ⟨k,hk,rfl⟩:=List.mem_map.1 hx
  rw [List.take_length] at h
  exact ⟨k,List.mem_range.1 hk,by simpa using h⟩
 ·rintro ⟨k,hk,h⟩
  exact ⟨_,List.mem_map.2 ⟨k,List.mem_range.2 hk,rfl⟩,by rw [List.take_length];simpa using h⟩
def badOd (L:List Ac) (next:Int) (o:Od):Bool:=!thereB L o.acc || decide (next ≤ o.id)
theorem mksErr_step {L:List Ac} {next:Int} {M:List Mk} {j:Nat} {m:Mk} (h:M[j]?=some m) :
  mksErr L next (M.drop j)=if marketErr m ≠ 0 then marketErr m else if (m.book.bids ++ m.book.asks).any (badOd L next) then 5 else mksErr L next (M.drop (j + 1)):=by
 obtain ⟨h1,h2⟩:=List.getElem?_eq_some_iff.1 h
 rw [List.drop_eq_getElem_cons h1,h2];rfl
theorem anyOd_next {p:Od→Bool} {L:List Od} {j:Nat} {x:Od} (hx:L[j]?=some x) (hp:p x=false) (hb:(L.take j).any p=false):(L.take (j + 1)).any p=false:=by
 rw [List.take_add_one,hx]
 simp only [Option.toList,List.any_append,hb,List.any_cons,List.any_nil,hp];rfl
theorem anyOd_found {p:Od→Bool} {L:List Od} {j:Nat} {x:Od} (hx:L[j]?=some x) (hp:p x=true):L.any p=true:=by
 rw [List.any_eq_true];exact ⟨x,List.mem_of_getElem? hx,hp⟩
theorem verr_many {v:Vn} (h:v.mks.length < 1∨2 < v.mks.length∨8 < v.accs.length):venueErr v=2:=by unfold venueErr;rw [if_pos h]
theorem verr_range {v:Vn} (h:¬ (v.mks.length < 1∨2 < v.mks.length∨8 < v.accs.length)) (h2:v.ins < 0∨v.resid < 0∨v.next < 1∨100000 < v.next∨v.inn < 0∨v.out < 0∨isMoney v.inn=false∨isMoney v.out=false∨isMoney v.ins=false∨isMoney v.resid=false):venueErr v=3:=by
 unfold venueErr;rw [if_neg h,if_pos h2]
theorem verr_rest {v:Vn} (h:¬ (v.mks.length < 1∨2 < v.mks.length∨8 < v.accs.length)) (h2:¬ (v.ins < 0∨v.resid < 0∨v.next < 1∨100000 < v.next∨v.inn < 0∨v.out < 0∨isMoney v.inn=false∨isMoney v.out=false∨isMoney v.ins=false∨isMoney v.resid=false)) :
  venueErr v=if accsErr v.mks.length none v.accs ≠ 0 then accsErr v.mks.length none v.accs else tailErr v:=by
 unfold venueErr;rw [if_neg h,if_neg h2];rfl
theorem verr_accs {v:Vn} {e:Int} (h:venueErr v=if accsErr v.mks.length none v.accs ≠ 0 then accsErr v.mks.length none v.accs else tailErr v) (ha:accsErr v.mks.length none v.accs=e) (he:e ≠ 0):venueErr v=e:=by rw [h,ha,if_pos he]
theorem verr_tail {v:Vn} (h:venueErr v=if accsErr v.mks.length none v.accs ≠ 0 then accsErr v.mks.length none v.accs else tailErr v) (ha:accsErr v.mks.length none v.accs=0):venueErr v=tailErr v:=by rw [h,ha,if_neg (by simp)]
theorem tail_money {v:Vn} (h:v.ins + v.resid + balSum v.accs ≠ v.inn - v.out):tailErr v=4:=by unfold tailErr;rw [if_pos (.inl h)]
theorem tail_pos {v:Vn} (h:(rowOf v.mks.length v.accs v.accs.length).any (fun x=>!(x == 0))=true):tailErr v=4:=by unfold tailErr;rw [if_pos (.inr (row_any.1 h))]
theorem tail_mks {v:Vn} (h:v.ins + v.resid + balSum v.accs=v.inn - v.out) (h2:(rowOf v.mks.length v.accs v.accs.length).any (fun x=>!(x == 0))=false):tailErr v=mksErr v.accs v.next v.mks:=by
 unfold tailErr;rw [if_neg]
 rintro (h3 | h3)
 ·exact h3 h
 ·rw [row_any.2 h3] at h2;cases h2
theorem accsErr_aok {v:Vn} (h:accsErr v.mks.length none v.accs=0):AOk v.mks.length v.accs:=(accsErr_ok.1 h).1
end
section
open Go.RowKit
theorem book_odOk {b:Bk} (h:BookOk b):∀ o ∈ b.bids ++ b.asks,ordErr o=0:=by
 intro o ho
 rcases List.mem_append.1 ho with ho | ho
 ·exact h.bids.ok o ho
 ·exact h.asks.ok o ho
theorem below_self (w:World) (o:Obj):Below w.heap.size w (w.alloc o):=(Below.refl _ _).alloc (Nat.le_refl _) _
theorem marketErr_ref {e:Int} (m:Mk) (A A':Option Addr) (c c':Nat) (B:Nat) (w:World) (hr:marketErr m=e) (h:BkR w B A A' c c' m.book) (hB:B ≤ w.heap.size) (hl:m.book.bids.length ≤ 4000000000000) (hl':m.book.asks.length ≤ 4000000000000) :
  Calls Try.prog 101 #[.agg #[.slice A m.book.bids.length c,.slice A' m.book.asks.length c',.int .i64 m.index,.int .i64 m.last]] w fun e' w'=>e'=.returned (.int .i64 e)∧Below w.heap.size w w':=by
 rw [← hr];exact marketErr_any m A A' c c' B w h.l h.r hB hl hl'
set_option maxHeartbeats 4000000 in
set_option maxRecDepth 100000 in
theorem vmarkets_any (v:Vn) (A M:Option Addr) (c k:Nat) (B:Nat) (w:World) (h:VnR w B A c M k v) (hB:B ≤ w.heap.size) (ha:AOk v.mks.length v.accs) :
  Calls Try.prog 157 #[.agg #[.slice A v.accs.length c,.slice M v.mks.length k,.int .i64 v.ins,.int .i64 v.resid,.int .i64 v.next,.int .i64 v.inn,.int .i64 v.out]] w fun e w'=>e=.returned (.int .i64 (mksErr v.accs v.next v.mks))∧Below w.heap.size w w':=by
 have HV:=Lib.hid h
 have HA:=Lib.hid ha
 have hal:=aok_len ha
 have hcap:=h.mks.cap
 have hle:=h.mks.le
 unfold maxLen at hcap
 clear h ha
 go_enter Try.func157,Try.ntmps157
 go_wp2_with fail
 refine wp_name ?_
 intro W0 hW0
 have hB0:Below w.heap.size w W0:=by rw [hW0];exact below_self _ _
 have X0:Blk W0 w.heap.size 111 #[.slice A v.accs.length c,.slice M v.mks.length k,.int .i64 v.ins,.int .i64 v.resid,.int .i64 v.next,.int .i64 v.inn,.int .i64 v.out]:=by rw [hW0];exact Blk.new w _ _
 have hs0:=hB0.size
 clear hW0
 have k1:W0.cell? ⟨w.heap.size,1,none⟩=some (.slice M v.mks.length k):=X0.cell 1
 have y0:=X0.lt
 go_wp2_with fail
 go_loopw [13] (fun i wr=>∃ j:Nat,j ≤ v.mks.length∧i=.int .i64 j∧Below W0.heap.size W0 wr∧Hid (mksErr v.accs v.next (v.mks.drop j)=mksErr v.accs v.next v.mks)) (fun i _=>v.mks.length - (intOf i).toNat)
 case atStart=>exact ⟨0,by omega,rfl,Below.refl _ _,Lib.hid rfl⟩
 case round =>
  obtain ⟨j,hj,rfl,hbr,HS⟩:=hrel
  have hws:=hbr.size
  have hBw:Below w.heap.size w wr:=hB0.trans (hbr.mono hs0)
  by_cases hlt:j < v.mks.length
  ·obtain ⟨b,o,m,rfl,hb,hm,A2,c2,A3,c3,q0,q1,q2,q3,hbk,hl1,hl2⟩:=mk_at (HV.out.mks.below (hBw.mono hB)) hlt
   have HM:=Lib.hid hm
   have HBK:=Lib.hid hbk
   obtain ⟨em,hem⟩:∃ em,marketErr m=em:=⟨_,rfl⟩
   have HEM:=Lib.hid hem
   have HST:=Lib.hid (HS.out.symm.trans (mksErr_step hm))
   have hbw:b < wr.heap.size:=by omega
   clear hm hbk hem
   go_wp2_with fail
   refine calls_name ?_
   intro W1 hW1
   have hB1:Below wr.heap.size wr W1:=by rw [hW1];first | exact below_self _ _ | exact ((below_self wr _).setCell (Nat.le_refl _) _)
   have Y1:Blk W1 wr.heap.size 64 #[.slice A2 m.book.bids.length c2,.slice A3 m.book.asks.length c3,.int .i64 m.index,.int .i64 m.last]:=by rw [hW1];exact Blk.new wr _ _
   have hs1:=hB1.size
   clear hW1 q0 q1 q2 q3
   refine (marketErr_ref m A2 A3 c2 c3 B W1 HEM.out (HBK.out.below (hB1.mono (by omega))) (by omega) hl1 hl2).mono ?_
   rintro e W2 ⟨rfl,hb2⟩
   have hB2:=hB1.trans (hb2.mono hs1)
   have Y2:=Y1.below hb2 Y1.lt
   have hs2:=hb2.size
   clear hb2 hB1 Y1
   by_cases he:em=0
   rotate_left
   ·have he':(em != 0)=true:=by simpa using he
    have HE:=Lib.hid (show mksErr v.accs v.next v.mks=em by rw [HST.out,if_pos (by rw [HEM.out];exact he),HEM.out])
    clear he
    go_wp2_with fail
    go_ret
    exact ⟨ret_ii HE.out.symm,hBw.trans (hB2.mono (by omega))⟩
   subst he
   have HST2:=Lib.hid (HST.out.trans (if_neg (by rw [HEM.out];simp)))
   have HOK:=Lib.hid (marketErr_ok.1 HEM.out)
   have hlen:=HOK.out.1.len
   obtain ⟨⟨q0,q1,-,-⟩,-⟩:=Y2.c4
   have y2:=Y2.lt
   go_wp2_with fail
   refine calls_name ?_
   intro W3 hW3
   have hB3:Below W2.heap.size W2 W3:=by rw [hW3];exact below_self _ _
   have Z3:Blk W3 W2.heap.size 60 #[.slice A2 m.book.bids.length c2,.slice A3 m.book.asks.length c3]:=by rw [hW3];exact Blk.new W2 _ _
   have hs3:=hB3.size
   have hBK3:=HBK.out.below ((hB2.trans (hB3.mono (by omega))).mono (show B ≤ wr.heap.size by omega))
   clear hW3 q0 q1
   refine (concat_ods A2 A3 m.book.bids.length c2 m.book.asks.length c3 m.book.bids m.book.asks B W3 hBK3.l hBK3.r (by omega) W2.heap.size Z3.lt Z3.c2.1.1 Z3.c2.1.2 (by omega)).mono ?_
   rintro e W4 ⟨v4,rfl,hown,hb4⟩
   obtain ⟨A4,c4,rfl⟩:=own_shape hown
   have HO4:=Lib.hid hown
   have hs4:=hb4.size
   have hB4:Below w.heap.size w W4:=(hBw.trans (hB2.mono (by omega))).trans ((hB3.trans (hb4.mono hs3)).mono (by omega))
   have hBo4:Below W0.heap.size W0 W4:=(hbr.trans (hB2.mono (by omega))).trans ((hB3.trans (hb4.mono hs3)).mono (by omega))
   have X4:Blk W4 w.heap.size 111 _:=((X0.below hbr y0).below (hB2.trans ((hB3.trans (hb4.mono hs3)).mono (by omega))) (by omega))
   obtain ⟨L,hL⟩:∃ L,L=m.book.bids ++ m.book.asks:=⟨_,rfl⟩
   have hLl:m.book.bids.length + m.book.asks.length=L.length:=by rw [hL,List.length_append]
   have HL:=Lib.hid hL
   have hL40:L.length ≤ 40:=by omega
   clear hB3 hb4 Z3 hBK3 hown
   rw [← hL] at HO4 HST2
   have HIDS:=Lib.hid (show ∀ o ∈ L,0 ≤ o.acc∧o.acc ≤ 7 from fun o ho=>(ordErr_ok.1 (book_odOk HOK.out.1 o (by rw [← hL];exact ho))).2.1)
   rw [hLl] at HO4
   rw [hLl]
   clear hL hLl hlen
   have x1:W4.cell? ⟨w.heap.size,1,none⟩=some (.slice (some ⟨b,o,none⟩) v.mks.length k):=X4.cell 1
   go_wp2_with fail
   go_loopw [31] (fun i wi=>∃ q:Nat,q ≤ L.length∧i=.int .i64 q∧Below W4.heap.size W4 wi∧Hid ((L.take q).any (badOd v.accs v.next)=false)) (fun i _=>L.length - (intOf i).toNat)
   case atStart=>exact ⟨0,by omega,rfl,Below.refl _ _,Lib.hid rfl⟩
   case round =>
    obtain ⟨q,hq,rfl,hbi,HNB⟩:=hrel
    obtain ⟨wi,rfl⟩:∃ wi,wi=wr:=⟨wr,rfl⟩
    have hwi:=hbi.size
    by_cases hlq:q < L.length
    ·obtain ⟨b5,o5,x,rfl,hb5,hx,p0,p1,p2,p3,p4⟩:=od_at (Rd.of_own (own_below HO4.out hbi (Nat.le_refl _))) hlq
     have HX:=Lib.hid hx
     have XI:=X4.below hbi X4.lt
     have yi:=XI.lt
     obtain ⟨⟨g0,g1,g2,g3,g4,g5,g6⟩,-⟩:=XI.c7
     have HXI:=Lib.hid (HIDS.out x (List.mem_of_getElem? hx))
     clear hx
     go_wp2_with fail
     refine calls_name ?_
     intro W5 hW5
     have hB5:Below wi.heap.size wi W5:=by rw [hW5];first | exact below_self _ _ | exact ((below_self wi _).setCell (Nat.le_refl _) _)
     have Z5:Blk W5 wi.heap.size 71 #[.int .i64 x.id,.int .i64 x.acc,.int .i64 x.side,.int .i64 x.price,.int .i64 x.qty]:=by rw [hW5];exact Blk.new wi _ _
     have hs5:=hB5.size
     have hBw5:Below w.heap.size w W5:=hB4.trans ((hbi.trans (hB5.mono hwi)).mono (by omega))
     clear hW5 p0 p1 p2 p3 p4
     obtain ⟨bt,hbt⟩:∃ bt,thereB v.accs x.acc=bt:=⟨_,rfl⟩
     have HBT:=Lib.hid hbt
     refine (place_any v A (some ⟨b,o,none⟩) c k x.acc B W5 (HV.out.accs.below (hBw5.mono hB)) (by omega) HA.out.sorted (aok_ids HA.out) HXI.out hal).mono ?_
     rintro e W6 ⟨rfl,hb6⟩
     rw [hbt]
     have hB6:=hB5.trans (hb6.mono hs5)
     have X6:=XI.below hB6 yi
     have Z6:=Z5.below hb6 Z5.lt
     have hs6:=hb6.size
     have hbn:=hbi.trans (hB6.mono hwi)
     obtain ⟨⟨z0,-⟩,-⟩:=Z6.c5
     have x4:W6.cell? ⟨w.heap.size,4,none⟩=some (.int .i64 v.next):=X6.cell 4
     have y6:=X6.lt
     have y7:=Z6.lt
     clear hbt hb6 hB5 Z5
     rcases bool_cs' bt with rfl | rfl
     ·by_cases hid:v.next ≤ x.id
      ·have hd:decide (v.next ≤ x.id)=true:=decide_eq_true hid
       have HE:=Lib.hid (show mksErr v.accs v.next v.mks=5 by rw [HST2.out,if_pos (anyOd_found HX.out (by unfold badOd;rw [hd];simp))])
       go_wp2_with fail
       go_ret
       exact ⟨ret_ii HE.out.symm,hB4.trans (hbn.mono (by omega))⟩
      ·have hd:decide (v.next ≤ x.id)=false:=decide_eq_false hid
       have HN:=Lib.hid (anyOd_next HX.out (by unfold badOd;rw [HBT.out,hd];rfl) HNB.out)
       clear hid
       go_wp2_with fail
       go_roundw
       case rel=>exact ⟨q + 1,by omega,by go_num,hbn,HN⟩
       case measure=>simp [intOf];omega
     ·have HE:=Lib.hid (show mksErr v.accs v.next v.mks=5 by rw [HST2.out,if_pos (anyOd_found HX.out (by unfold badOd;rw [HBT.out];rfl))])
      go_wp2_with fail
      go_ret
      exact ⟨ret_ii HE.out.symm,hB4.trans (hbn.mono (by omega))⟩
    ·obtain rfl:q=L.length:=by omega
     have HN:=Lib.hid (show mksErr v.accs v.next (v.mks.drop (j + 1))=mksErr v.accs v.next v.mks by
      have hf:=HNB.out
      rw [List.take_length] at hf
      rw [HST2.out,if_neg (by rw [hf];simp)])
     have hbo:Below W0.heap.size W0 wi:=hBo4.trans (hbi.mono (by omega))
     go_wp2_with fail
     go_roundw
     case rel=>exact ⟨j + 1,by omega,by go_num,hbo,HN⟩
     case measure=>simp [intOf];omega
  ·obtain rfl:j=v.mks.length:=by omega
   have HE:=Lib.hid (show mksErr v.accs v.next v.mks=0 by rw [← HS.out,List.drop_length];rfl)
   go_wp2_with fail
   go_ret
   exact ⟨ret_ii HE.out.symm,hBw⟩
end
end Go.Proofs.Ytockodmbhnlheaa
