/-
  THE LAW MatchFair: holds for every input, with no condition. (Joined texts: BookPure, RowB, BookLaws, MatchPure, Book, Remove, Matched, BkRefs, FairPure, FairEnd, FairW, MatchFair.)
-/
import Derived.Test.YtockodmbhnlheaaM01
import Derived.Test.YtockodmbhnlheaaM02
import Derived.Test.YtockodmbhnlheaaM03
import Derived.Test.YtockodmbhnlheaaM04
import Derived.Test.YtockodmbhnlheaaM05
import Derived.Test.YtockodmbhnlheaaM06
import Derived.Test.YtockodmbhnlheaaM07
import Derived.Test.YtockodmbhnlheaaM08
import Derived.Test.YtockodmbhnlheaaM09
import Derived.Test.YtockodmbhnlheaaM10
import Derived.Test.YtockodmbhnlheaaM11
import Derived.Test.YtockodmbhnlheaaM12
import Derived.Test.YtockodmbhnlheaaM13
import Derived.Test.YtockodmbhnlheaaM14
import Derived.Test.YtockodmbhnlheaaM15
import Derived.Test.YtockodmbhnlheaaM16
import Derived.Test.YtockodmbhnlheaaM17
import Derived.Test.YtockodmbhnlheaaM18
import Derived.Test.YtockodmbhnlheaaM19
import Derived.Test.YtockodmbhnlheaaProg
import Derived.Maps.AppendAt
import Derived.Laws.AppendOwnNone
import Derived.OwnWalk
import Derived.WalkKit
import Derived.Deep.Draws
import Derived.IntWalk
import Derived.Test.YtockodmbhnlheaaRows
import Derived.ProofKit
import Derived.OpenShut
import Derived.SizedLaws
import Derived.Deep.Slices
import Derived.WalkSpells
import Derived.WalkLawsBesides
import Derived.Deep.QuietTactic
import Derived.BigQuiet
import Derived.Lib.Hide
import Derived.Deep.RegionHeld3
import Derived.Lib.AppendZeros
import Derived.Laws.CopyOwn
import Derived.Lib.AppendZerosOnto
import Derived.Lib.Overlaps
import Derived.Laws.Externs
import Derived.Deep.RegionLaw
import Derived.Maps.Own
import Derived.Maps.OwnOps
import Derived.Maps.Views
import Derived.Deep.DeepCutAuto
import Derived.JoinedOf
import Derived.KernelRfl
namespace Go.Proofs.Ytockodmbhnlheaa
section
theorem ins_del {s:Int} {o:Od} {l:List Od} (h:SideOk s l) (ho:o ∈ l):insO o (delO o.id l)=l:=by
 have h2:=sideOk_delO (id:=o.id) h
 have h1:=sideOk_insO h2 (h.ok o ho) (h.side o ho) (fun x hx=>(mem_delO.1 hx).2)
 refine sorted_ext (s:=s) h1.side h.side h1.sorted h.sorted fun x=>?_
 rw [mem_insO,mem_delO]
 constructor
 ·rintro (rfl | ⟨hx,_⟩)
  ·exact ho
  ·exact hx
 ·intro hx
  by_cases he:x.id=o.id
  ·exact .inl (id_inj h hx ho he)
  ·exact .inr ⟨hx,he⟩
def headPrice (l:List Od):Int:=match l with
 | x :: _=>x.price
 | []=>0
def bestOf (b:Bk):Int × Int × Int:=if bookErr b ≠ 0 then (0,0,bookErr b) else (headPrice b.bids,headPrice b.asks,0)
end
section
open Go.ChangeShapes Go.WideShapes Go.ChangeAt Go.RowKit
section
variable {H:Type} {enc:TypeId × Value→H} {W:World}
set_option maxRecDepth 100000 in
theorem opens_order {base:Nat} {v:Value} {d:DataW H} {p:List MemPlace} (hv:Value.okWide Try.prog W .any base 71 v) (h:DataW.Trod enc Try.prog W 0 (fun _=>true) true 71 v d p) :
  ∃ o:Od,v=.agg #[.int .i64 o.id,.int .i64 o.acc,.int .i64 o.side,.int .i64 o.price,.int .i64 o.qty]∧FitOd o:=by
 obtain ⟨cs,rfl,_⟩:=okWide_struct Try.underlying71 hv
 obtain ⟨fuel,hf⟩:=h
 obtain ⟨o,hcs,hi⟩:=core_order hf
 refine ⟨o,?_,hi⟩
 obtain ⟨l⟩:=cs
 simp only [Value.cells] at hcs
 rw [← hcs]
set_option maxRecDepth 100000 in
theorem opens_book {base:Nat} {v:Value} {d:DataW H} {p:List MemPlace} (hv:Value.okWide Try.prog W .any base 62 v) (h:DataW.Trod enc Try.prog W 0 (fun _=>true) true 62 v d p)
  (hs:∀ x ∈ d.weights Try.prog 62,x ≤ reachBytes) :
  ∃ (b:Bk) (A A':Option Addr) (c c':Nat),v=.agg #[.slice A b.bids.length c,.slice A' b.asks.length c']∧Rd W W.heap.size 5 A b.bids.length c (odCells b.bids)∧Rd W W.heap.size 5 A' b.asks.length c' (odCells b.asks) ∧
   (c * 40 ≤ reachBytes∧c' * 40 ≤ reachBytes)∧FitBk b:=by
 obtain ⟨cs,rfl,_⟩:=okWide_struct Try.underlying62 hv
 obtain ⟨fuel,hf⟩:=h
 obtain ⟨b,A,A',c,c',hcs,hr⟩:=core_book hf hs
 refine ⟨b,A,A',c,c',?_,hr⟩
 obtain ⟨l⟩:=cs
 simp only [Value.cells] at hcs
 rw [← hcs]
end
end
section
theorem back2 {b x:Bk} {id:Int} {o:Od} (h:removeOf b id=(x,o,0)):restOf x o=(b,0)∧bookErr x=0:=by
 obtain ⟨hb,hm,hi,rfl⟩:=remove_ok h
 obtain ⟨hm2,ho⟩:=own_mem hb hm
 have hx:=book_del hb o.side o.id
 have hs:=(ordErr_ok.1 ho).2.2.1
 refine ⟨?_,bookErr_ok.2 hx⟩
 obtain ⟨e1,e2,e3⟩:=own_set b o.side (delO o.id (ownOf b o.side))
 have hso:=own_of hb o.side hs
 have hr:=(rest_book hx ho (hasB_not.2 ?_) ?_ ?_).1
 ·rw [hr,e1,set_set,ins_del hso hm2,e3]
 ·unfold setOwn ownOf
  rcases hs with hs | hs
  ·rw [if_pos hs,if_pos hs]
   refine ⟨fun y hy=>(mem_delO.1 hy).2,fun y hy e=>?_⟩
   unfold ownOf at hm2;rw [if_pos hs] at hm2
   exact hb.apart o hm2 y hy e.symm
  ·have hs1:¬ o.side=1:=by omega
   rw [if_neg hs1,if_neg hs1]
   refine ⟨fun y hy e=>?_,fun y hy=>(mem_delO.1 hy).2⟩
   unfold ownOf at hm2;rw [if_neg hs1] at hm2
   exact hb.apart y hy o hm2 e
 ·have hlt:(delO o.id (ownOf b o.side)).length < (ownOf b o.side).length:=by
   have h1:(delO o.id (ownOf b o.side)).length=(ownOf b o.side).length - 1:=by
    have:=ins_del hso hm2
    have h2:(insO o (delO o.id (ownOf b o.side))).length=(ownOf b o.side).length:=by rw [this]
    rw [length_insO] at h2;omega
   have h2:0 < (ownOf b o.side).length:=List.length_pos_of_mem hm2
   omega
  have hll:=hb.len
  unfold setOwn
  unfold ownOf at hlt ⊢
  split
  ·rename_i hs1;rw [if_pos hs1] at hlt;simp only;omega
  ·rename_i hs1;rw [if_neg hs1] at hlt;simp only;omega
 ·rw [e2]
  intro y hy
  have hf:=free_all hb
  unfold otherOf at hy
  unfold ownOf at hm2
  unfold crossesB
  rcases hs with hs | hs
  ·rw [if_pos hs] at hy hm2 ⊢
   have:=hf o hm2 y hy
   simp only [decide_eq_false_iff_not];omega
  ·have hs1:¬ o.side=1:=by omega
   rw [if_neg hs1] at hy hm2 ⊢
   have:=hf y hy o hm2
   simp only [decide_eq_false_iff_not];omega
end
section
theorem other_set (b:Bk) (s:Int) (l:List Od):otherOf (setOther b s l) s=l∧setOther (setOther b s l) s=setOther b s:=by
 unfold otherOf setOther
 by_cases h:s=1
 ·simp [h]
 ·simp [h]
end
section
open Go.RowKit
theorem sameBk_self (a:Bk):sameBk a a=true:=by unfold sameBk sameOds;simp
end
section
open Go.RowKit
def RetBest (w:World) (r:Int × Int × Int) (e:Ending) (w':World):Prop:=e=.returned (.tuple #[.int .i64 r.1,.int .i64 r.2.1,.int .i64 r.2.2])∧Below w.heap.size w w'
theorem retBest_mk {w w':World} {r:Int × Int × Int} {a b c:Int} (h:r=(a,b,c)) (hb:Below w.heap.size w w'):RetBest w r (.returned (.tuple #[.int .i64 a,.int .i64 b,.int .i64 c])) w':=by subst h;exact ⟨rfl,hb⟩
theorem head_at {L:List Od} {x:Od} (h:L[0]?=some x):headPrice L=x.price:=by
 cases L with
 | nil=>simp at h
 | cons y l=>simp at h;subst h;rfl
theorem head_none {L:List Od} (h:L.length=0):headPrice L=0:=by
 rw [List.eq_nil_of_length_eq_zero h];rfl
set_option maxHeartbeats 2000000 in
theorem best_bk (b:Bk) (A A':Option Addr) (c c' B:Nat) (w:World) (h:BkR w B A A' c c' b) (hB:B ≤ w.heap.size) (hl:b.bids.length ≤ 4000000000000) (hl':b.asks.length ≤ 4000000000000) :
  Calls Try.prog 82 #[.agg #[.slice A b.bids.length c,.slice A' b.asks.length c']] w (RetBest w (bestOf b)):=by
 have HE:=Lib.hid (show bestOf b=if bookErr b ≠ 0 then (0,0,bookErr b) else (headPrice b.bids,headPrice b.asks,0) from rfl)
 go_enter Try.func82,Try.ntmps82
 go_wp2_with fail
 refine calls_name ?_
 intro w2 hw2
 have hb2:Below w.heap.size w w2:=by rw [hw2];exact (Below.refl _ _).alloc (Nat.le_refl _) _
 have hs2:w2.heap.size=w.heap.size + 1:=by rw [hw2];simp
 have X1:Blk w2 w.heap.size 62 #[.slice A b.bids.length c,.slice A' b.asks.length c']:=by rw [hw2];exact Blk.new w _ _
 have hr:=h.below (hb2.mono hB)
 clear hw2
 refine (bookCheck_any b A A' c c' B w2 hr.l hr.r (by omega) (by omega) (by omega)).mono ?_
 rintro e w3 ⟨rfl,hb3⟩
 have hs3:=hb3.size
 obtain ⟨⟨kX10,kX11⟩,-⟩:=X1.c2
 clear kX10 kX11
 replace X1:=X1.below hb3 X1.lt
 obtain ⟨⟨kX10,kX11⟩,-⟩:=X1.c2
 have hbw3:=hb2.trans (hb3.mono (by omega))
 have hr3:=hr.below (hb3.mono (by omega))
 clear hb3 hr hb2 X1
 by_cases he:bookErr b=0
 rotate_left
 ·have HE1:=Lib.hid (HE.out.trans (if_pos he))
  have he':(bookErr b != 0)=true:=by simpa using he
  clear he HE
  go_wp2_with fail
  go_ret3
  exact retBest_mk HE1.out hbw3
 ·have HE1:=Lib.hid (HE.out.trans (if_neg (by omega)))
  rw [he]
  clear he HE
  have hlen:∀ n:Nat,n=0∨0 < n:=by omega
  by_cases h1:b.bids.length=0
  ·have HH:=Lib.hid (head_none h1)
   have d1:¬ 0 < b.bids.length:=by omega
   clear h1
   by_cases h2:b.asks.length=0
   ·have HE2:=Lib.hid (HE1.out.trans (by rw [HH.out,head_none h2]))
    have d2:¬ 0 < b.asks.length:=by omega
    clear h2
    go_wp2_with fail
    go_ret3
    exact retBest_mk HE2.out hbw3
   ·have d2:0 < b.asks.length:=by omega
    have d3:(0:Int) < (b.asks.length:Int):=by omega
    obtain ⟨g2,o2,y,rfl,hg2,hy,_,_,_,k2,_⟩:=od_at hr3.r d2
    rw [Nat.zero_mul,Nat.add_zero] at k2
    have HE2:=Lib.hid (HE1.out.trans (by rw [HH.out,head_at hy]))
    clear h2 hy
    go_wp2_with fail
    go_ret3
    exact retBest_mk HE2.out hbw3
  ·have d1:0 < b.bids.length:=by omega
   have d1':(0:Int) < (b.bids.length:Int):=by omega
   obtain ⟨g1,o1,x,rfl,hg1,hx,_,_,_,k1,_⟩:=od_at hr3.l d1
   rw [Nat.zero_mul,Nat.add_zero] at k1
   have HH:=Lib.hid (head_at hx)
   clear h1 hx
   by_cases h2:b.asks.length=0
   ·have HE2:=Lib.hid (HE1.out.trans (by rw [HH.out,head_none h2]))
    have d2:¬ 0 < b.asks.length:=by omega
    clear h2
    go_wp2_with fail
    go_ret3
    exact retBest_mk HE2.out hbw3
   ·have d2:0 < b.asks.length:=by omega
    have d3:(0:Int) < (b.asks.length:Int):=by omega
    obtain ⟨g2,o2,y,rfl,hg2,hy,_,_,_,k2,_⟩:=od_at hr3.r d2
    rw [Nat.zero_mul,Nat.add_zero] at k2
    have HE2:=Lib.hid (HE1.out.trans (by rw [HH.out,head_at hy]))
    clear h2 hy
    go_wp2_with fail
    go_ret3
    exact retBest_mk HE2.out hbw3
end
section
open Go.RowKit
def mA1:Od:=⟨1,1,-1,100,3⟩
def mA2:Od:=⟨2,1,-1,101,4⟩
def mB:Bk:=⟨[],[mA1,mA2]⟩
def mO1:Od:=⟨3,0,1,101,5⟩
def mO2:Od:=⟨3,1,1,101,5⟩
def mF1:Fl:=⟨1,3,1,0,1,100,3⟩
def mF2:Fl:=⟨2,3,1,0,1,101,2⟩
def mX:Bk:=⟨[],[{ mA2 with qty:=2 }]⟩
set_option maxHeartbeats 2000000 in
set_option maxRecDepth 100000 in
theorem matched_any (w:World):Calls Try.prog 71 #[] w fun e w'=>e=.returned (.bool true)∧Below w.heap.size w w':=by
 have F1:=Lib.hid (show comeOf mB mO1 1=(mX,[mF1,mF2],0,0) by kernel_rfl)
 have F2:=Lib.hid (show comeOf mB mO2 1=(zeroBk,[],0,11) by kernel_rfl)
 go_enter Try.func71,Try.ntmps71
 go_wp2_with fail
 refine calls_name ?_
 intro w2 hw2
 have hb2:Below w.heap.size w w2:=by rw [hw2];exact ((Below.refl _ _).alloc (Nat.le_refl _) _).alloc (by simp) _
 have hs2:w2.heap.size=w.heap.size + 1 + 1:=by rw [hw2];simp
 have hra:Rd w2 w2.heap.size 5 (some ⟨w.heap.size,0,none⟩) 2 2 (odCells [mA1,mA2]):=by
  have X0:Blk w2 w.heap.size 71 (odCells [mA1,mA2]).toArray:=by rw [hw2];exact (Blk.new w _ _).alloc _
  exact ⟨rfl,by decide,by decide,nofun,fun _=>⟨w.heap.size,0,rfl,by omega,fun j u hj=>by rw [X0.cell,Nat.zero_add];simpa using hj⟩⟩
 have X1:Blk w2 (w.heap.size + 1) 62 #[.slice none 0 0,.slice (some ⟨w.heap.size,0,none⟩) 2 2]:=by rw [hw2];exact Blk.new_at _ _ _ _ (by simp)
 have hr:BkR w2 w2.heap.size none (some ⟨w.heap.size,0,none⟩) 0 2 mB:=⟨Rd.none_ _ _ _,hra⟩
 clear hw2 hra
 refine (come_bk mB mO1 1 none (some ⟨w.heap.size,0,none⟩) 0 2 w2.heap.size w2 hr (Nat.le_refl _) (by decide) (by decide)).mono ?_
 rw [F1.out]
 rintro e w3 ⟨A1,c1,A1',c1',vf,rfl,H3,hrow,hb3⟩
 obtain ⟨AF,cF,rfl⟩:=own_shape hrow
 have HF3:=Lib.hid (Rd.of_own hrow)
 have hs3:=hb3.size
 obtain ⟨⟨kX10,kX11⟩,-⟩:=X1.c2
 clear kX10 kX11
 replace X1:=X1.below hb3 X1.lt
 obtain ⟨⟨kX10,kX11⟩,-⟩:=X1.c2
 replace hb2:=hb2.trans (hb3.mono (by omega))
 replace hr:=hr.below hb3
 clear hb3 hrow
 have x1:w.heap.size + 1 < w3.heap.size:=by omega
 go_wp2_with fail
 refine calls_name ?_
 intro w4 hw4
 have hb4:Below w3.heap.size w3 w4:=by rw [hw4];exact (Below.refl _ _).alloc (Nat.le_refl _) _
 have hs4:w4.heap.size=w3.heap.size + 1:=by rw [hw4];simp
 have X2:Blk w4 w3.heap.size 62 #[.slice A1 0 c1,.slice A1' 1 c1']:=by rw [hw4];exact Blk.new w3 _ _
 clear hw4 x1
 replace hr:=hr.below (hb4.mono (by omega))
 replace hb2:=hb2.trans (hb4.mono (by omega))
 replace HF3:=Lib.hid (HF3.out.below hb4)
 have HX:=Lib.hid (H3.read.below hb4)
 refine (come_bk mB mO2 1 none (some ⟨w.heap.size,0,none⟩) 0 2 w2.heap.size w4 hr (by omega) (by decide) (by decide)).mono ?_
 rw [F2.out]
 rintro e w5 ⟨A2,c2,A2',c2',vf,rfl,H5,hrow,hb5⟩
 obtain ⟨AG,cG,rfl⟩:=own_shape hrow
 have hs5:=hb5.size
 obtain ⟨⟨kX20,kX21⟩,-⟩:=X2.c2
 clear kX20 kX21
 replace X2:=X2.below hb5 X2.lt
 obtain ⟨⟨kX20,kX21⟩,-⟩:=X2.c2
 replace hb2:=hb2.trans (hb5.mono (by omega))
 replace HF3:=Lib.hid (HF3.out.below (hb5.mono (by omega)))
 replace HX:=Lib.hid (HX.out.below (hb5.mono (by omega)))
 clear hb5 hrow hb4 H3 H5 X1 kX10 kX11
 obtain ⟨g1,o1,f1,rfl,hg1,hf1,_,_,_,_,_,k5,k6⟩:=fl_at HF3.out (i:=0) (by decide)
 obtain ⟨g1',o1',f2,e1,_,hf2,_,_,_,_,_,m5,m6⟩:=fl_at HF3.out (i:=1) (by decide)
 obtain ⟨g2,o2,x,rfl,hg2,hx,_,_,_,_,n4⟩:=od_at HX.out.r (i:=0) (by decide)
 obtain rfl:f1=mF1:=by injection hf1 with hf1;exact hf1.symm
 obtain rfl:f2=mF2:=by injection hf2 with hf2;exact hf2.symm
 obtain rfl:x = { mA2 with qty:=2 }:=by injection hx with hx;exact hx.symm
 injection e1 with e1
 injection e1 with e1 e2
 subst e1 e2
 clear hf1 hf2 hx HF3 HX
 simp only [mF1,mF2,Nat.zero_mul,Nat.add_zero,Nat.one_mul] at k5 k6 m5 m6 n4
 rw [Nat.add_assoc] at m5 m6
 have y1:g1 < w5.heap.size:=by omega
 have y2:g2 < w5.heap.size:=by omega
 have y3:w3.heap.size < w5.heap.size:=by omega
 go_wp2_with fail
 go_ret
 refine ⟨rfl,?_⟩
 first | exact hb2 | exact hb2.alloc (by omega) _
end
section
open Go.RowKit
theorem best_ref {r:Int × Int × Int} (b:Bk) (A A':Option Addr) (c c' B:Nat) (w:World) (hr:bestOf b=r) (h:BkR w B A A' c c' b) (hB:B ≤ w.heap.size) (hl:b.bids.length ≤ 4000000000000) (hl':b.asks.length ≤ 4000000000000) :
  Calls Try.prog 82 #[.agg #[.slice A b.bids.length c,.slice A' b.asks.length c']] w (RetBest w r):=by
 rw [← hr];exact best_bk b A A' c c' B w h hB hl hl'
end
section
structure Fair (b:Bk) (o:Od) (L:List Od) (rem:Int) (l:List Fl) (L':List Od) (rem':Int):Prop where
 book:BookOk (setOther b o.side L)
 side:o.side=1∨o.side = -1
 bd:0 ≤ rem∧rem ≤ o.qty
 take:takeL o rem L=(L',l,rem',false)
theorem fair_other {b:Bk} {o:Od} {L:List Od} {rem:Int} {l:List Fl} {L':List Od} {rem':Int} (h:Fair b o L rem l L' rem'):SideOk (-o.side) L:=by
 have:=other_of h.book o.side h.side
 rw [(other_set b o.side L).1] at this
 exact this
theorem fair_end {b:Bk} {o:Od} {L:List Od} {rem:Int} {L':List Od} {rem':Int} (h:Fair b o L rem [] L' rem'):L'=L∧rem'=rem:=by
 have ht:=h.take
 have hso:=fair_other h
 cases L with
 | nil=>simp only [takeL] at ht;injection ht with e1 e;injection e with _ e;injection e with e2 _;exact ⟨e1.symm,e2.symm⟩
 | cons x L =>
  unfold takeL at ht
  split at ht
  ·injection ht with e1 e;injection e with _ e;injection e with e2 _;exact ⟨e1.symm,e2.symm⟩
  split at ht
  ·injection ht with e1 e;injection e with _ e;injection e with e2 _;exact ⟨e1.symm,e2.symm⟩
  split at ht
  ·injection ht with _ e;injection e with _ e;injection e with _ e;cases e
  split at ht
  ·injection ht with _ e;injection e with e _;cases e
  ·injection ht with _ e;injection e with e _;cases e
theorem setOther_set (b:Bk) (s:Int) (hs:s=1∨s = -1) (l m:List Od):setOwn (setOther b s l) (-s) m=setOther b s m∧ownOf (setOther b s l) (-s)=l:=by
 unfold setOwn setOther ownOf
 rcases hs with hs | hs <;> simp [hs]
theorem fair_step {b:Bk} {o:Od} {L:List Od} {rem:Int} {f:Fl} {l:List Fl} {L':List Od} {rem':Int} (h:Fair b o L rem (f :: l) L' rem') :
  ∃ y M k,L=y :: M∧f=fillOf o y k∧(1 ≤ k∧k ≤ y.qty∧k ≤ rem)∧y.acc ≠ o.acc∧y.side = -o.side∧crossesB o y.price=true∧ordErr y=0 ∧
   findOf (setOther b o.side L) y.id=(y,0)∧(∀ q ∈ (setOther b o.side L).bids ++ (setOther b o.side L).asks,q.side=y.side→q.id ≠ y.id→aheadB q y=false) ∧
   removeOf (setOther b o.side L) y.id=(setOther b o.side M,y,0) ∧
   (k=y.qty∧Fair b o M (rem - k) l L' rem'∨k < y.qty∧restOf (setOther b o.side M) { y with qty:=y.qty - k }=(setOther b o.side ({ y with qty:=y.qty - k } :: M),0)∧Fair b o ({ y with qty:=y.qty - k } :: M) (rem - k) l L' rem'):=by
 have hso:=fair_other h
 have hbk:=h.book
 have ht:=h.take
 have hbd:=h.bd
 cases L with
 | nil=>simp only [takeL] at ht;injection ht with _ e;injection e with e _;cases e
 | cons y M =>
  have hy:=ordErr_ok.1 (hso.ok y (by simp))
  have hys:=hso.side y (by simp)
  have hmem:y ∈ (setOther b o.side (y :: M)).bids ++ (setOther b o.side (y :: M)).asks:=by
   refine mem_own (s:=-o.side) ?_
   rw [(setOther_set b o.side h.side (y :: M) []).2];simp
  have hnin:∀ z ∈ M,z.id ≠ y.id:=by
   have:=hso.ids
   rw [List.map_cons,List.nodup_cons] at this
   intro z hz e
   exact this.1 (List.mem_map.2 ⟨z,hz,e⟩)
  have hdel:delO y.id (y :: M)=M:=by
   unfold delO
   rw [List.filter_cons_of_neg (by simp)]
   exact List.filter_eq_self.2 fun z hz=>by simp [hnin z hz]
  have hrem:removeOf (setOther b o.side (y :: M)) y.id=(setOther b o.side M,y,0):=by
   rw [remove_in hbk hmem,hys,(setOther_set b o.side h.side (y :: M) []).2,hdel,(setOther_set b o.side h.side (y :: M) M).1]
  have hbM:BookOk (setOther b o.side M):=by
   have:=book_del hbk (-o.side) y.id
   rw [(setOther_set b o.side h.side (y :: M) []).2,hdel,(setOther_set b o.side h.side (y :: M) M).1] at this
   exact this
  have hahead:∀ q ∈ (setOther b o.side (y :: M)).bids ++ (setOther b o.side (y :: M)).asks,q.side=y.side→q.id ≠ y.id→aheadB q y=false:=by
   intro q hq hqs hqi
   obtain ⟨hq2,_⟩:=own_mem hbk hq
   rw [hqs,hys,(setOther_set b o.side h.side (y :: M) []).2] at hq2
   rcases List.mem_cons.1 hq2 with rfl | hq2
   ·exact absurd rfl hqi
   ·exact ahead_asymm hqs.symm ((List.pairwise_cons.1 hso.sorted).1 q hq2)
  have key:∀ y':Od,y'.id=y.id→y'.side = -o.side→BookOk (setOther b o.side (y' :: M))→restOf (setOther b o.side M) y'=(setOther b o.side (y' :: M),0):=by
   intro y' e1 e2 hb'
   have hm2:y' ∈ (setOther b o.side (y' :: M)).bids ++ (setOther b o.side (y' :: M)).asks:=by
    refine mem_own (s:=-o.side) ?_
    rw [(setOther_set b o.side h.side _ []).2];simp
   have hr2:=remove_in hb' hm2
   rw [e2,(setOther_set b o.side h.side _ []).2] at hr2
   have hdel2:delO y'.id (y' :: M)=M:=by
    unfold delO
    rw [List.filter_cons_of_neg (by simp)]
    exact List.filter_eq_self.2 fun z hz=>by simp [e1,hnin z hz]
   rw [hdel2,(setOther_set b o.side h.side _ M).1] at hr2
   exact (back2 hr2).1
  unfold takeL at ht
  split at ht
  ·injection ht with _ e;injection e with e _;cases e
  rename_i h1
  split at ht
  ·injection ht with _ e;injection e with e _;cases e
  rename_i h2
  split at ht
  ·injection ht with _ e;injection e with e _;cases e
  rename_i h3
  split at ht
  ·rename_i h4
   injection ht with e1 e;injection e with e2 e;injection e with e3 e4
   injection e2 with e5 e6
   have hye:ordErr { y with qty:=y.qty - rem }=0:=by rw [ordErr_ok];simp only;omega
   have hbM2:BookOk (setOther b o.side ({ y with qty:=y.qty - rem } :: M)):=by
    have:=book_take hbk o h.side rem
    rw [(other_set b o.side (y :: M)).1,(other_set b o.side (y :: M)).2] at this
    unfold takeL at this
    rw [if_neg h1,if_neg h2,if_neg h3,if_pos h4] at this
    exact this
   refine ⟨y,M,rem,rfl,e5.symm,by omega,h3,hys,by simpa using h2,hso.ok y (by simp),find_in hbk hmem,hahead,hrem,.inr ⟨h4,?_,hbM2,h.side,by omega,?_⟩⟩
   ·exact key _ rfl hys hbM2
   ·rw [show rem - rem=0 by omega,takeL_zero,e1,e6,e3]
  ·rename_i h4
   injection ht with e1 e;injection e with e2 e3
   injection e2 with e5 e6
   refine ⟨y,M,y.qty,rfl,e5.symm,by omega,h3,hys,by simpa using h2,hso.ok y (by simp),find_in hbk hmem,hahead,hrem,.inl ⟨rfl,hbM,h.side,by omega,?_⟩⟩
   rw [← e1,← e6]
   exact Prod.ext rfl (Prod.ext rfl e3)
end
section
theorem setOther_self' (b:Bk) (s:Int):setOther b s (otherOf b s)=b:=by
 unfold setOther otherOf
 split <;> rfl
theorem takeL_ids {s:Int} {o:Od} {l:List Od} {left:Int} (hs:SideOk s l):∀ y ∈ (takeL o left l).1,∃ x ∈ l,x.id=y.id:=by
 intro y hy
 obtain ⟨x,hx,hb,_⟩:=(takeL_side (o:=o) (left:=left) hs).2.1 y hy
 exact ⟨x,hx,hb.1⟩
theorem takeL_none {o:Od}:∀ {M:List Od} {left:Int} {L:List Od} {rem:Int} {met:Bool},takeL o left M=(L,[],rem,met)→rem=left
 | [],left,L,rem,met,h=>by simp only [takeL] at h;injection h with _ h;injection h with _ h;injection h with h _;exact h.symm
 | x :: l,left,L,rem,met,h=>by
  unfold takeL at h
  split at h
  ·injection h with _ h;injection h with _ h;injection h with h _;exact h.symm
  split at h
  ·injection h with _ h;injection h with _ h;injection h with h _;exact h.symm
  split at h
  ·injection h with _ h;injection h with _ h;injection h with h _;exact h.symm
  split at h
  ·injection h with _ h;injection h with h _;cases h
  ·injection h with _ h;injection h with h _;cases h
structure Ends (b x:Bk) (o:Od) (how left:Int) (l:List Fl) (L:List Od) (rem:Int):Prop where
 book:BookOk b
 xok:BookOk x
 ord:ordErr o=0
 fair:Fair b o (otherOf b o.side) o.qty l L rem
 how4:how=4→l = []
 lefts:0 ≤ left∧(0 < left→how=2)
 fin:x=setOther b o.side L∧left=rem∧findOf x o.id=(zeroOd,5)∧(how=3→l ≠ [])∨0 < rem∧left=0∧how ≠ 3∧restOf (setOther b o.side L) { o with qty:=rem }=(x,0)∧findOf x o.id=({ o with qty:=rem },0)
theorem come_ends {b x:Bk} {o:Od} {how left:Int} {l:List Fl} (h:comeOf b o how=(x,l,left,0)):∃ L rem,Ends b x o how left l L rem:=by
 obtain ⟨hb,ho,hh,_,L,rem,ht,h4,h3,hf⟩:=come_ok h
 have hs:=(ordErr_ok.1 ho).2.2.1
 have hq:=(ordErr_ok.1 ho).2.2.2.2
 have hso:=other_of hb o.side hs
 have hbk:=book_take hb o hs o.qty
 rw [ht] at hbk
 have hqs:∀ y ∈ otherOf b o.side,1 ≤ y.qty:=fun y hy=>(ordErr_ok.1 (hso.ok y hy)).2.2.2.2.1
 have hr:=takeL_left (o:=o) (left:=o.qty) hqs (by omega)
 rw [ht] at hr
 have hr':0 ≤ rem∧rem ≤ o.qty:=hr
 have hfair:Fair b o (otherOf b o.side) o.qty l L rem:=⟨by rw [setOther_self'];exact hb,hs,by omega,ht⟩
 refine ⟨L,rem,?_⟩
 rcases hf with ⟨h5,rfl,rfl⟩ | ⟨h5,h6,h7,rfl,h8⟩
 ·refine ⟨hb,hbk,ho,hfair,h4,by omega,.inl ⟨rfl,rfl,?_,fun h33=>?_⟩⟩
  ·unfold findOf
   rw [if_neg (by rw [bookErr_ok.2 hbk];simp)]
   cases hc:findO ((setOther b o.side L).bids ++ (setOther b o.side L).asks) o.id with
   | none=>rfl
   | some z =>
    exfalso
    obtain ⟨k1,k2⟩:=findO_some hc
    obtain ⟨n1,n2⟩:=hasB_not.1 hh
    rcases mem_setOther k1 with hm | hm
    ·rcases List.mem_append.1 hm with hm | hm
     ·exact n1 z hm k2
     ·exact n2 z hm k2
    ·have:=takeL_ids (o:=o) (left:=o.qty) hso z (by rw [ht];exact hm)
     obtain ⟨y,hy,e⟩:=this
     rcases List.mem_append.1 (mem_other hy) with hm | hm
     ·exact n1 y hm (by omega)
     ·exact n2 y hm (by omega)
  ·intro e
   subst e
   have:=takeL_none ht
   have:=h3 h33
   omega
 ·obtain ⟨e1,_,e3⟩:=back1 h8
  exact ⟨hb,bookErr_ok.1 e1,ho,hfair,h4,by omega,.inr ⟨h5,rfl,h7,h8,e3⟩⟩
structure Round (b:Bk) (o:Od) (L1:List Od) (rem1:Int) (f:Fl) (ls:List Fl) (L:List Od) (rem:Int) (y:Od) (k bp ap:Int) (nb mb nx:Bk) (L2:List Od):Prop where
 fill:f=fillOf o y k
 nbE:setOther b o.side L1=nb
 nok:BookOk nb
 best:bestOf nb=(bp,ap,0)
 side:(o.side == -1)=true∧bp=y.price∨(o.side == -1)=false∧ap=y.price
 find:findOf nb y.id=(y,0)
 none_:∀ (i:Nat) q,(nb.bids ++ nb.asks)[i]?=some q→(q.side == y.side)=false∨(q.side == y.side)=true∧(q.id != y.id)=false∨(q.side == y.side)=true∧(q.id != y.id)=true∧aheadB q y=false
 rem_:removeOf nb y.id=(mb,y,0)
 t1:(y.side == o.side)=false
 t2:1 ≤ k∧k ≤ y.qty∧k ≤ rem1
 t3:(y.acc == o.acc)=false
 t4:(-10000 ≤ (y.price - o.price) * o.side∧(y.price - o.price) * o.side ≤ 0)∧(1 ≤ y.price∧y.price ≤ 10000)∧y.qty ≤ 1000
 next:y.qty - k=0∧nx=mb∨0 < y.qty - k∧restOf mb { y with qty:=y.qty - k }=(nx,0)
 nxE:setOther b o.side L2=nx
 fair:Fair b o L2 (rem1 - k) ls L rem
theorem fair_round {b:Bk} {o:Od} {L1:List Od} {rem1:Int} {f:Fl} {ls:List Fl} {L:List Od} {rem:Int} (ho:ordErr o=0) (h:Fair b o L1 rem1 (f :: ls) L rem):∃ y k bp ap nb mb nx L2,Round b o L1 rem1 f ls L rem y k bp ap nb mb nx L2:=by
 obtain ⟨y,M,k,e1,e2,e3,e4,e5,e6,e7,e8,e9,e10,e11⟩:=fair_step h
 have hp:=(ordErr_ok.1 ho).2.2.2.1
 have hy:=(ordErr_ok.1 e7).2.2.2
 have hb:bestOf (setOther b o.side L1)=(headPrice (setOther b o.side L1).bids,headPrice (setOther b o.side L1).asks,0):=by
  unfold bestOf;rw [if_neg (by rw [bookErr_ok.2 h.book];simp)]
 have hside:(o.side == -1)=true∧headPrice (setOther b o.side L1).bids=y.price∨(o.side == -1)=false∧headPrice (setOther b o.side L1).asks=y.price:=by
  subst e1
  rcases h.side with hs | hs
  ·right;unfold setOther;rw [hs];exact ⟨rfl,rfl⟩
  ·left;unfold setOther;rw [hs];exact ⟨rfl,rfl⟩
 have ht4:-10000 ≤ (y.price - o.price) * o.side∧(y.price - o.price) * o.side ≤ 0:=by
  unfold crossesB at e6
  rcases h.side with hs | hs
  ·rw [hs] at e6 ⊢;simp at e6;omega
  ·rw [hs] at e6 ⊢;simp at e6;omega
 have hcom:∀ L2 nx,(y.qty - k=0∧nx=setOther b o.side M∨0 < y.qty - k∧restOf (setOther b o.side M) { y with qty:=y.qty - k }=(nx,0))→setOther b o.side L2=nx→Fair b o L2 (rem1 - k) ls L rem →
   Round b o L1 rem1 f ls L rem y k (headPrice (setOther b o.side L1).bids) (headPrice (setOther b o.side L1).asks) (setOther b o.side L1) (setOther b o.side M) nx L2:=by
  intro L2 nx h1 h2 h3
  refine ⟨e2,rfl,h.book,hb,hside,e8,fun i q hq=>?_,e10,?_,e3,?_,⟨ht4,hy.1,hy.2.2⟩,h1,h2,h3⟩
  ·have hm:=List.mem_of_getElem? hq
   by_cases h1:q.side=y.side
   ·by_cases h2:q.id=y.id
    ·exact .inr (.inl ⟨by simpa using h1,by simpa using h2⟩)
    ·exact .inr (.inr ⟨by simpa using h1,by simpa using h2,e9 q hm h1 h2⟩)
   ·exact .inl (by simpa using h1)
  ·rcases h.side with hs | hs
   ·rw [e5,hs];rfl
   ·rw [e5,hs];rfl
  ·simpa using e4
 rcases e11 with ⟨h1,h2⟩ | ⟨h1,h2,h3⟩
 ·exact ⟨_,_,_,_,_,_,_,_,hcom M _ (.inl ⟨by omega,rfl⟩) rfl h2⟩
 ·exact ⟨_,_,_,_,_,_,_,_,hcom _ _ (.inr ⟨by omega,h2⟩) rfl h3⟩
end
section
open Go.RowKit
theorem exit_nameF {Q:Exit→Act→World→Prop} {e:Exit} {a:Act} {W:World} (h:∀ Z,Z=W→Q e a Z):Q e a W:=h W rfl
theorem boxes9 {W Z:World} {g o:Nat} {u x0 x1:Value} {cs:Array Value} (hZ:Z=((W.setCell ⟨g,o,none⟩ u).alloc (.cells #[x0,x1] 62)).alloc (.cells cs 71)) :
  Blk Z W.heap.size 62 #[x0,x1]∧(∀ B,B ≤ g→B ≤ W.heap.size→Below B W Z)∧Z.heap.size=W.heap.size + 2:=by
 obtain ⟨V,hV⟩:∃ V,V=W.setCell ⟨g,o,none⟩ u:=⟨_,rfl⟩
 have hs:V.heap.size=W.heap.size:=by rw [hV];simp
 rw [← hV] at hZ
 refine ⟨by rw [hZ,← hs];exact (Blk.new V _ _).alloc _,fun B h1 h2=>?_,by rw [hZ];simp [hs]⟩
 have hb:Below B W V:=by rw [hV];exact (Below.refl _ _).setCell h1 _
 rw [hZ];exact (hb.alloc (by omega) _).alloc (by rw [World.size_alloc];omega) _
theorem bkr_lift {w:World} {B B' c c':Nat} {A A':Option Addr} {b:Bk} (h:BkR w B A A' c c' b) (hB:B ≤ B'):BkR w B' A A' c c' b:=⟨h.l.up hB,h.r.up hB⟩
theorem dk_drewF {B:Nat} {a w:World} (h:Below B a w):Below B a w.drew:=below_drewN h 1
theorem rest_src {b x:Bk} {o:Od} (h:restOf b o=(x,0)):BookOk b:=by
 refine bookErr_ok.1 ?_
 unfold restOf at h
 split at h
 ·rename_i h1;simp only [Prod.mk.injEq] at h;exact absurd h.2 h1
 ·omega
set_option maxHeartbeats 8000000 in
set_option maxRecDepth 100000 in
theorem matchFair_walk (b:Bk) (A A':Option Addr) (c c':Nat) (o:Od) (how:Int) (w:World) (h0:Rd w w.heap.size 5 A b.bids.length c (odCells b.bids)) (h0':Rd w w.heap.size 5 A' b.asks.length c' (odCells b.asks)) (s:c * 40 ≤ reachBytes) (s':c' * 40 ≤ reachBytes) :
  Calls Try.prog 18 #[.agg #[.slice A b.bids.length c,.slice A' b.asks.length c'],.agg #[.int .i64 o.id,.int .i64 o.acc,.int .i64 o.side,.int .i64 o.price,.int .i64 o.qty],.int .i64 how] w fun e w'=>e=.returned (.bool true)∧Below w.heap.size w w':=by
 have h:BkR w w.heap.size A A' c c' b:=⟨h0,h0'⟩
 have hl:b.bids.length ≤ 4000000000000:=by have:=h0.le;have:reachBytes=140737488351232:=rfl;omega
 have hl':b.asks.length ≤ 4000000000000:=by have:=h0'.le;have:reachBytes=140737488351232:=rfl;omega
 clear h0 h0' s s'
 obtain ⟨x,l,left,te,hcome⟩:∃ x l left te,comeOf b o how=(x,l,left,te):=⟨_,_,_,_,rfl⟩
 have HTK:=Lib.hid hcome
 clear hcome
 go_enter Try.func18,Try.ntmps18
 go_wp2_with fail
 refine calls_name ?_
 intro w2 hw2
 have hb2:Below w.heap.size w w2:=by rw [hw2];exact ((Below.refl _ _).alloc (Nat.le_refl _) _).alloc (by simp) _
 have hs2:w2.heap.size=w.heap.size + 1 + 1:=by rw [hw2];simp
 have X1:Blk w2 w.heap.size 62 #[.slice A b.bids.length c,.slice A' b.asks.length c']:=by rw [hw2];exact (Blk.new w _ _).alloc _
 have X2:Blk w2 (w.heap.size + 1) 71 #[.int .i64 o.id,.int .i64 o.acc,.int .i64 o.side,.int .i64 o.price,.int .i64 o.qty]:=by rw [hw2];exact Blk.new_at _ _ _ _ (by simp)
 clear hw2
 refine (come_ref b o how A A' c c' w.heap.size w2 HTK.out (h.below hb2) (by omega) hl hl').mono ?_
 rintro e w3 ⟨P,p,P',p',vf,rfl,hobk,hrow,hb3⟩
 have hs3:=hb3.size
 obtain ⟨⟨kX10,kX11⟩,-⟩:=X1.c2
 obtain ⟨⟨kX20,kX21,kX22,kX23,kX24⟩,-⟩:=X2.c5
 clear kX10 kX11
 replace X1:=X1.below hb3 X1.lt
 obtain ⟨⟨kX10,kX11⟩,-⟩:=X1.c2
 clear kX20 kX21 kX22 kX23 kX24
 replace X2:=X2.below hb3 X2.lt
 obtain ⟨⟨kX20,kX21,kX22,kX23,kX24⟩,-⟩:=X2.c5
 replace hb2:=hb2.trans (hb3.mono (by omega))
 obtain ⟨AF,cF,rfl⟩:=own_shape hrow
 go_wp2_with fail
 refine calls_name ?_
 intro w4 hw4
 have hb4:Below w3.heap.size w3 w4:=by rw [hw4];exact (Below.refl _ _).alloc (Nat.le_refl _) _
 have hs4:w4.heap.size=w3.heap.size + 1:=by rw [hw4];simp
 have X3:Blk w4 w3.heap.size 62 #[.slice P x.bids.length p,.slice P' x.asks.length p']:=by rw [hw4];exact Blk.new w3 _ _
 clear kX10 kX11
 replace X1:=X1.below hb4 X1.lt
 obtain ⟨⟨kX10,kX11⟩,-⟩:=X1.c2
 clear kX20 kX21 kX22 kX23 kX24
 replace X2:=X2.below hb4 X2.lt
 obtain ⟨⟨kX20,kX21,kX22,kX23,kX24⟩,-⟩:=X2.c5
 clear hw4
 replace hb2:=hb2.trans (hb4.mono (by omega))
 have HXR:=Lib.hid (hobk.read.below hb4)
 have HLR:=Lib.hid ((Rd.of_own hrow).below hb4)
 clear hb3 hb4 hobk hrow
 refine (matched_any w4).mono ?_
 rintro e w5 ⟨rfl,hb5⟩
 have hs5:=hb5.size
 clear kX10 kX11
 replace X1:=X1.below hb5 X1.lt
 obtain ⟨⟨kX10,kX11⟩,-⟩:=X1.c2
 clear kX20 kX21 kX22 kX23 kX24
 replace X2:=X2.below hb5 X2.lt
 obtain ⟨⟨kX20,kX21,kX22,kX23,kX24⟩,-⟩:=X2.c5
 replace X3:=X3.below hb5 X3.lt
 replace hb2:=hb2.trans (hb5.mono (by omega))
 replace HXR:=Lib.hid (HXR.out.below (hb5.mono (by omega)))
 replace HLR:=Lib.hid (HLR.out.below (hb5.mono (by omega)))
 clear hb5
 by_cases ht:te=0
 rotate_left
 ·have he':(te != 0)=true:=by simpa using ht
  clear ht
  go_wp2_with fail
  refine (matched_any w5).mono ?_
  rintro e w6 ⟨rfl,hb6⟩
  go_wp2_with fail
  go_ret
  exact ⟨rfl,hb2.trans (hb6.mono (by omega))⟩
 subst ht
 obtain ⟨L,rem,hends⟩:=come_ends HTK.out
 have HEN:=Lib.hid hends
 have HXL:=Lib.hid (book_lens hends.xok)
 have HBL:=Lib.hid (book_lens hends.book)
 have hlf:=hends.lefts
 have hXE:=bookErr_ok.2 hends.xok
 have h4:=hends.how4
 clear hends HTK
 have x1:w.heap.size < w5.heap.size:=by omega
 have x2:w.heap.size + 1 < w5.heap.size:=by omega
 have x3:w3.heap.size < w5.heap.size:=by omega
 have HXE:=Lib.hid hXE
 have hcs:(0 < left∧how=2)∨(left=0∧how=4∧l.length=0)∨(left=0∧(how == 4)=false):=by
  by_cases hp:0 < left
  ·exact .inl ⟨hp,hlf.2 hp⟩
  ·have h00:left=0:=by omega
   by_cases hw:how=4
   ·exact .inr (.inl ⟨h00,hw,by rw [h4 hw];rfl⟩)
   ·exact .inr (.inr ⟨h00,by simpa using hw⟩)
 have HLF:=Lib.hid hlf
 clear hlf h4 hXE
 obtain ⟨⟨kX30,kX31⟩,-⟩:=X3.c2
 go_upto_region 4 with (fail)
 go_cut [65] (fun v wx=>v=.bool false∧Below w5.heap.size w5 wx)
 case first =>
  have hcs':(0 < left∧how=2)∨(left=0∧how=4∧decide ((0:Int) < (l.length:Int))=false∧decide (0 < l.length)=false)∨(left=0∧(how == 4)=false):=by
   rcases hcs with h | ⟨h1,h2,h3⟩ | h
   ·exact .inl h
   ·exact .inr (.inl ⟨h1,h2,decide_eq_false (by omega),decide_eq_false (by omega)⟩)
   ·exact .inr (.inr h)
  clear hcs
  rcases hcs' with ⟨hp,rfl⟩ | ⟨rfl,rfl,hp,hp'⟩ | ⟨rfl,hp⟩
  all_goals
   go_wp2_with fail
   refine (bookCheck_any x P P' p p' w3.heap.size w5 HXR.out.l HXR.out.r (by omega) HXL.out.1 HXL.out.2).mono ?_
   rw [HXE.out]
   rintro e w6 ⟨rfl,hb6⟩
  ·have hn:¬ left < 0:=by omega
   have hn1:decide (left < 0)=false:=decide_eq_false hn
   go_wp2_with fail
   go_meet
   exact ⟨rfl,hb6⟩
  ·go_wp2_with fail
   go_meet
   exact ⟨rfl,hb6⟩
  ·go_wp2_with fail
   go_meet
   exact ⟨rfl,hb6⟩
 case rest=>as_aux_lemma =>
  clear hcs
  obtain ⟨rfl,hbx⟩:=hcut
  obtain ⟨w7,rfl⟩:∃ w7,w7=wc:=⟨wc,rfl⟩
  have hsx:=hbx.size
  clear kX10 kX11
  replace X1:=X1.below hbx X1.lt
  obtain ⟨⟨kX10,kX11⟩,-⟩:=X1.c2
  clear kX20 kX21 kX22 kX23 kX24
  replace X2:=X2.below hbx X2.lt
  obtain ⟨⟨kX20,kX21,kX22,kX23,kX24⟩,-⟩:=X2.c5
  clear kX30 kX31
  replace X3:=X3.below hbx X3.lt
  obtain ⟨⟨kX30,kX31⟩,-⟩:=X3.c2
  replace hb2:=hb2.trans (hbx.mono (by omega))
  replace HXR:=Lib.hid (HXR.out.below (hbx.mono (by omega)))
  replace HLR:=Lib.hid (HLR.out.below (hbx.mono (by omega)))
  go_wp2_with fail
  refine wp_name ?_
  intro wS hwS
  have hbS:Below w7.heap.size w7 wS:=by rw [hwS];exact (Below.refl _ _).alloc (Nat.le_refl _) _
  have hsS:wS.heap.size=w7.heap.size + 1:=by rw [hwS];simp
  have X4:Blk wS w7.heap.size 62 #[.slice A b.bids.length c,.slice A' b.asks.length c']:=by rw [hwS];exact Blk.new w7 _ _
  clear hwS hbx
  replace X1:=X1.below hbS X1.lt
  clear kX20 kX21 kX22 kX23 kX24
  replace X2:=X2.below hbS X2.lt
  obtain ⟨⟨kX20,kX21,kX22,kX23,kX24⟩,-⟩:=X2.c5
  clear kX30 kX31
  replace X3:=X3.below hbS X3.lt
  obtain ⟨⟨kX30,kX31⟩,-⟩:=X3.c2
  replace hb2:=hb2.trans (hbS.mono (by omega))
  replace HXR:=Lib.hid (HXR.out.below (hbS.mono (by omega)))
  replace HLR:=Lib.hid (HLR.out.below (hbS.mono (by omega)))
  have HB0:=Lib.hid (show BkR wS wS.heap.size A A' c c' b from bkr_up (h.below hb2) (by omega))
  have hq:=(ordErr_ok.1 HEN.out.ord).2.2.2.2
  have hleft:0 ≤ left∧left ≤ 1000:=by
   have h1:=HLF.out
   have h2:=HEN.out.fair.bd
   rcases HEN.out.fin with ⟨_,e,_⟩ | ⟨_,e,_⟩
   ·have:=takeL_left (o:=o) (left:=o.qty) (l:=otherOf b o.side) (fun y hy=>(ordErr_ok.1 ((other_of HEN.out.book o.side HEN.out.fair.side).ok y hy)).2.2.2.2.1) (by omega)
    rw [HEN.out.fair.take] at this
    have h3:rem ≤ o.qty:=this.2
    omega
   ·omega
  obtain ⟨hq1,hq2⟩:=hq
  obtain ⟨hle1,hle2⟩:=hleft
  have HWS:Hid (Below w.heap.size w wS):=hb2
  clear hb2 kX20 kX21 kX22 kX23 kX24 kX30 kX31 hbS
  go_wp2_with fail
  go_loopw [12,70] (fun n i wr=>∃ (j:Nat) (z rem1:Int) (L1:List Od) (nb:Bk) (Q Q':Option Addr) (q q':Nat),j ≤ l.length∧i=.int .i64 j∧n=.int .i64 z∧Hid (z=left + (o.qty - rem1))∧(0 ≤ rem1∧rem1 ≤ o.qty)∧(0 ≤ z∧z ≤ 2000)∧Below w7.heap.size wS wr∧w7.heap.size < wr.heap.size ∧
    Hid (Blk wr w7.heap.size 62 #[.slice Q nb.bids.length q,.slice Q' nb.asks.length q'])∧Hid (BkR wr wr.heap.size Q Q' q q' nb)∧Hid (setOther b o.side L1=nb)∧Hid (Fair b o L1 rem1 (l.drop j) L rem)) (fun _ i _=>l.length - (intOf i).toNat)
  case atStart=>exact ⟨0,left,o.qty,otherOf b o.side,b,A,A',c,c',Nat.zero_le _,rfl,rfl,Lib.hid (by omega),by omega,by omega,Below.refl _ _,by omega,X4,HB0,Lib.hid (setOther_self' _ _),HEN.out.fair⟩
  case round=>as_aux_lemma =>
   obtain ⟨j,z,rem1,L1,nb,Q,Q',q,q',hj,rfl,rfl,HZ,⟨hr0,hr1⟩,⟨hz0,hz1⟩,hbr,hws,HX4,HNB,HNE,HFR⟩:=hrel
   have Z2:=X2.below hbr (by omega)
   have Z3:=X3.below hbr (by omega)
   have Z4:=HX4.out
   by_cases hlt:j < l.length
   ·obtain ⟨bb,oo,f,rfl,hb,hf,k0,k1,k2,k3,k4,k5,k6⟩:=fl_at (HLR.out.below (hbr.mono (by omega))) hlt
    have x5:bb < wr.heap.size:=by omega
    have hcl:=HLR.out.le
    have hcp:=HLR.out.cap
    unfold maxLen at hcp
    obtain ⟨hd1,hd2⟩:=List.getElem?_eq_some_iff.1 hf
    have hfr:=HFR.out
    rw [List.drop_eq_getElem_cons hd1,hd2] at hfr
    obtain ⟨y,k,bp,ap,nb',mb,nx,L2,hR⟩:=fair_round HEN.out.ord hfr
    obtain rfl:nb'=nb:=by rw [← hR.nbE];exact HNE.out
    obtain rfl:=hR.fill
    have HR:=Lib.hid hR
    simp only [fillOf] at k0 k1 k2 k3 k4 k5 k6
    clear hf hfr hR HFR
    have HNL:=Lib.hid (book_lens HR.out.nok)
    have hn40:nb'.bids.length + nb'.asks.length ≤ 40:=HR.out.nok.len
    obtain ⟨⟨kZ40,kZ41⟩,-⟩:=Z4.c2
    go_wp2_with fail
    refine calls_name ?_
    intro W1 hW1
    have hB1:Below wr.heap.size wr W1:=by rw [hW1];exact (Below.refl _ _).alloc (Nat.le_refl _) _
    have hS1:W1.heap.size=wr.heap.size + 1:=by rw [hW1];simp
    have F1:Blk W1 wr.heap.size 87 #[.int .i64 (fillOf o y k).maker,.int .i64 (fillOf o y k).taker,.int .i64 (fillOf o y k).macc,.int .i64 (fillOf o y k).tacc,.int .i64 (fillOf o y k).side,.int .i64 (fillOf o y k).price,.int .i64 (fillOf o y k).qty]:=by rw [hW1];exact Blk.new wr _ _
    clear hW1 k0 k1 k2 k3 k4 k5 k6
    replace Z2:=Z2.below hB1 Z2.lt
    replace Z3:=Z3.below hB1 Z3.lt
    clear kZ40 kZ41
    replace Z4:=Z4.below hB1 Z4.lt
    obtain ⟨⟨kZ40,kZ41⟩,-⟩:=Z4.c2
    refine (best_ref nb' Q Q' q q' wr.heap.size W1 HR.out.best (HNB.out.below hB1) (by omega) HNL.out.1 HNL.out.2).mono ?_
    rintro e W2 ⟨rfl,hB2⟩
    have hS2:=hB2.size
    replace Z2:=Z2.below hB2 Z2.lt
    replace Z3:=Z3.below hB2 Z3.lt
    clear kZ40 kZ41
    replace Z4:=Z4.below hB2 Z4.lt
    obtain ⟨⟨kZ40,kZ41⟩,-⟩:=Z4.c2
    replace F1:=F1.below hB2 F1.lt
    obtain ⟨⟨kZ20,kZ21,kZ22,kZ23,kZ24⟩,-⟩:=Z2.c5
    replace hB2:=hB1.trans (hB2.mono (by omega))
    clear hB1
    obtain ⟨⟨g0,g1,g2,g3,g4,g5,g6⟩,-⟩:=F1.c7
    simp only [fillOf] at g0 g1 g2 g3 g4 g5 g6
    have y1:w.heap.size + 1 < W2.heap.size:=Z2.lt
    have y4:w7.heap.size < W2.heap.size:=Z4.lt
    have y5:wr.heap.size < W2.heap.size:=F1.lt
    go_wp2_with fail
    refine (find_ref nb' y.id Q Q' q q' wr.heap.size W2 HR.out.find (HNB.out.below hB2) (by omega) HNL.out.1 HNL.out.2).mono ?_
    rintro e W3 ⟨rfl,hB3⟩
    have hS3:=hB3.size
    clear g0 g1 g2 g3 g4 g5 g6
    clear kZ20 kZ21 kZ22 kZ23 kZ24
    replace Z2:=Z2.below hB3 Z2.lt
    obtain ⟨⟨kZ20,kZ21,kZ22,kZ23,kZ24⟩,-⟩:=Z2.c5
    replace Z3:=Z3.below hB3 Z3.lt
    clear kZ40 kZ41
    replace Z4:=Z4.below hB3 Z4.lt
    obtain ⟨⟨kZ40,kZ41⟩,-⟩:=Z4.c2
    replace F1:=F1.below hB3 F1.lt
    replace hB2:=hB2.trans (hB3.mono (by omega))
    clear hB3
    obtain ⟨⟨g0,g1,g2,g3,g4,g5,g6⟩,-⟩:=F1.c7
    simp only [fillOf] at g0 g1 g2 g3 g4 g5 g6
    replace y1:w.heap.size + 1 < W3.heap.size:=Z2.lt
    replace y4:w7.heap.size < W3.heap.size:=Z4.lt
    replace y5:wr.heap.size < W3.heap.size:=F1.lt
    have t1:=HR.out.t1
    have t3:=HR.out.t3
    obtain ⟨t2,t2',t2''⟩:=HR.out.t2
    obtain ⟨⟨t4,t4'⟩,⟨t5,t5'⟩,t6⟩:=HR.out.t4
    obtain ⟨t10,t10'⟩:=(ordErr_ok.1 HEN.out.ord).2.2.2.1
    have t7:decide (0 < (y.price - o.price) * o.side)=false:=decide_eq_false (by omega)
    go_upto_if 90 with (fail)
    refine wp_name ?_
    intro W4 hW4
    have hB4:Below W3.heap.size W3 W4:=by rw [hW4];exact (Below.refl _ _).alloc (Nat.le_refl _) _
    have hS4:W4.heap.size=W3.heap.size + 1:=by rw [hW4];simp
    have Y1:Blk W4 W3.heap.size 71 #[.int .i64 y.id,.int .i64 y.acc,.int .i64 y.side,.int .i64 y.price,.int .i64 y.qty]:=by rw [hW4];exact Blk.new W3 _ _
    clear hW4
    clear g0 g1 g2 g3 g4 g5 g6
    clear kZ20 kZ21 kZ22 kZ23 kZ24
    replace Z2:=Z2.below hB4 Z2.lt
    obtain ⟨⟨kZ20,kZ21,kZ22,kZ23,kZ24⟩,-⟩:=Z2.c5
    replace Z3:=Z3.below hB4 Z3.lt
    clear kZ40 kZ41
    replace Z4:=Z4.below hB4 Z4.lt
    obtain ⟨⟨kZ40,kZ41⟩,-⟩:=Z4.c2
    replace F1:=F1.below hB4 F1.lt
    replace hB2:=hB2.trans (hB4.mono (by omega))
    clear hB4
    obtain ⟨⟨g0,g1,g2,g3,g4,g5,g6⟩,-⟩:=F1.c7
    simp only [fillOf] at g0 g1 g2 g3 g4 g5 g6
    obtain ⟨⟨kY10,kY11,kY12,kY13,kY14⟩,fY10,fY11,fY12,fY13,fY14⟩:=Y1.c5
    have t8:decide (k < 1)=false:=decide_eq_false (by omega)
    have t9:decide (y.qty < k)=false:=decide_eq_false (by omega)
    go_cut [20] (fun v wx=>v=.int .i64 y.price∧W4=wx)
    case first =>
     rcases HR.out.side with ⟨hs,hp⟩ | ⟨hs,hp⟩
     all_goals
      have HP:=Lib.hid hp
      clear hp
      go_wp2_with fail
      go_meet
      exact ⟨by rw [HP.out],rfl⟩
    case rest=>as_aux_lemma =>
     obtain ⟨rfl,rfl⟩:=hcut
     go_wp2_with fail
     refine calls_name ?_
     intro W5 hW5
     have hB5:Below W4.heap.size W4 W5:=by rw [hW5];exact (Below.refl _ _).alloc (Nat.le_refl _) _
     have hS5:W5.heap.size=W4.heap.size + 1:=by rw [hW5];simp
     have Y2:Blk W5 W4.heap.size 60 #[.slice Q nb'.bids.length q,.slice Q' nb'.asks.length q']:=by rw [hW5];exact Blk.new W4 _ _
     clear hW5 t7 t8 t9
     clear g0 g1 g2 g3 g4 g5 g6
     replace Z2:=Z2.below hB5 Z2.lt
     replace Z3:=Z3.below hB5 Z3.lt
     replace Z4:=Z4.below hB5 Z4.lt
     replace F1:=F1.below hB5 F1.lt
     replace Y1:=Y1.below hB5 Y1.lt
     clear kZ20 kZ21 kZ22 kZ23 kZ24 kZ40 kZ41 kY10 kY11 kY12 kY13 kY14 fY10 fY11 fY12 fY13 fY14
     replace hB2:=hB2.trans (hB5.mono (by omega))
     clear hB5
     obtain ⟨⟨kY20,kY21⟩,-⟩:=Y2.c2
     have HNB5:=Lib.hid (HNB.out.below hB2)
     rw [hS4] at kY20 kY21
     refine (concat_ods Q Q' nb'.bids.length q nb'.asks.length q' nb'.bids nb'.asks wr.heap.size W5 HNB5.out.l HNB5.out.r (by omega) _ (by omega) kY20 kY21 (by omega)).mono ?_
     rintro e W6 ⟨vc,rfl,hownC,hB6⟩
     obtain ⟨AC,cC,rfl⟩:=own_shape hownC
     have hS6:=hB6.size
     clear kY20 kY21 Y2
     replace Z2:=Z2.below hB6 Z2.lt
     replace Z3:=Z3.below hB6 Z3.lt
     replace Z4:=Z4.below hB6 Z4.lt
     replace F1:=F1.below hB6 F1.lt
     replace Y1:=Y1.below hB6 Y1.lt
     replace hB2:=hB2.trans (hB6.mono (by omega))
     have HOC:=Lib.hid (Rd.of_own hownC)
     clear hownC hB6
     obtain ⟨⟨kY10,kY11,kY12,kY13,kY14⟩,-⟩:=Y1.c5
     have y6:W3.heap.size < W6.heap.size:=Y1.lt
     obtain ⟨N,hN⟩:∃ N,N=nb'.bids.length + nb'.asks.length:=⟨_,rfl⟩
     have HN:=Lib.hid hN
     rw [← hN] at HOC
     rw [← hN]
     have hN8:N ≤ 8000000000000:=by have:=HNL.out.1;have:=HNL.out.2;omega
     clear hN
     go_wp2_with fail
     go_loopw [175] (fun i wi=>∃ t:Nat,t ≤ N∧i=.int .i64 t∧Below W6.heap.size W6 wi) (fun i _=>N - (intOf i).toNat)
     case atStart=>exact ⟨0,Nat.zero_le _,rfl,Below.refl _ _⟩
     case round=>as_aux_lemma =>
      obtain ⟨t,ht,rfl,hbi⟩:=hrel
      obtain ⟨wi,rfl⟩:∃ wi,wi=wr:=⟨wr,rfl⟩
      have hwi:=hbi.size
      by_cases htl:t < N
      ·obtain ⟨b2,o2,v,rfl,hb2',hv,v0,v1,v2,v3,v4⟩:=od_at (HOC.out.below hbi) htl
       have y7:b2 < wi.heap.size:=by omega
       have GY:=Y1.below hbi y6
       have y66:=GY.lt
       obtain ⟨⟨g0,g1,g2,g3,g4⟩,-⟩:=GY.c5
       have hno:=HR.out.none_ t v hv
       clear hv
       rcases hno with n1 | ⟨n1,n2⟩ | ⟨n1,n2,n3⟩
       ·go_wp2_with fail
        go_roundw
        case rel=>exact ⟨t + 1,by omega,by go_num,hbi.trans ((Below.refl _ _).alloc hwi _)⟩
        case measure=>simp [intOf];omega
       ·go_wp2_with fail
        go_roundw
        case rel=>exact ⟨t + 1,by omega,by go_num,hbi.trans ((Below.refl _ _).alloc hwi _)⟩
        case measure=>simp [intOf];omega
       ·go_wp2_with fail
        refine (ahead_any v y _).mono ?_
        rw [n3]
        rintro e W7 ⟨rfl,hB7⟩
        go_wp2_with fail
        go_roundw
        case rel=>exact ⟨t + 1,by omega,by go_num,hbi.trans (((Below.refl _ _).alloc hwi _).trans (hB7.mono (by simp;omega)))⟩
        case measure=>simp [intOf];omega
      ·
       have V2:=Z2.below hbi (by omega)
       have V3:=Z3.below hbi (by omega)
       have V4:=Z4.below hbi (by omega)
       have G1:=F1.below hbi (by omega)
       have G2:=Y1.below hbi (by omega)
       have hBi:=hB2.trans (hbi.mono (by omega))
       have HNBi:=Lib.hid (HNB.out.below hBi)
       have y8:w7.heap.size < wi.heap.size:=V4.lt
       have y9:wr.heap.size < wi.heap.size:=G1.lt
       have y10:W3.heap.size < wi.heap.size:=G2.lt
       clear kY10 kY11 kY12 kY13 kY14
       obtain ⟨⟨kV40,kV41⟩,-⟩:=V4.c2
       have u0:wi.cell? ⟨wr.heap.size,0,none⟩=some (.int .i64 y.id):=G1.cell 0
       go_wp2_with fail
       refine (remove_ref nb' y.id Q Q' q q' wr.heap.size wi HR.out.rem_ HNBi.out (by omega) HNL.out.1 HNL.out.2).mono ?_
       rintro e W8 ⟨v8,rfl,hown8,hB8⟩
       obtain ⟨P5,p5,P5',p5',rfl,hobk5⟩:=hown8.obk
       have hS8:=hB8.size
       clear u0 kV40 kV41
       replace V2:=V2.below hB8 V2.lt
       replace V3:=V3.below hB8 V3.lt
       replace V4:=V4.below hB8 V4.lt
       replace G1:=G1.below hB8 G1.lt
       replace G2:=G2.below hB8 G2.lt
       replace hBi:=hBi.trans (hB8.mono (by omega))
       have HO8:=Lib.hid hobk5
       clear hown8 hobk5 hB8
       have y11:w7.heap.size < W8.heap.size:=V4.lt
       have y12:wr.heap.size < W8.heap.size:=G1.lt
       have y13:W3.heap.size < W8.heap.size:=G2.lt
       obtain ⟨⟨kG20,kG21,kG22,kG23,kG24⟩,fG20,fG21,fG22,fG23,fG24⟩:=G2.c5
       have u6:W8.cell? ⟨wr.heap.size,6,none⟩=some (.int .i64 k):=G1.cell 6
       have hnx:=HR.out.next
       rcases hnx with ⟨hn,hx⟩ | ⟨hn,hx⟩
       ·have hn0:y.qty - k ≤ 0:=by omega
        have hn1:decide (0 < y.qty - k)=false:=decide_eq_false (by omega)
        have HX:=Lib.hid hx
        clear hn hx
        go_wp2_with fail
        refine wp_name ?_
        intro W9 hW9
        obtain ⟨N9,hb9,hs9⟩:=boxes9 hW9
        have hB89:=hb9 W3.heap.size (Nat.le_refl _) (by omega)
        have HO9:Hid (OBk W9 wi.heap.size P5 P5' p5 p5' mb):=by rw [hW9];exact ((HO8.out.set (by dsimp only;omega) _).alloc _).alloc _
        have V49:=V4.below hB89 (by omega)
        have G19:=G1.below hB89 (by omega)
        have hBi9:=hBi.trans (hB89.mono (by omega))
        have l1:=V49.lt
        have l2:=G19.lt
        have l3:=N9.lt
        clear hW9 hb9 hB89
        clear kG20 kG21 kG22 kG23 kG24 fG20 fG21 fG22 fG23 fG24 u6
        obtain ⟨⟨kN90,kN91⟩,-⟩:=N9.c2
        obtain ⟨⟨kV490,kV491⟩,fV490,fV491⟩:=V49.c2
        have u6:W9.cell? ⟨wr.heap.size,6,none⟩=some (.int .i64 k):=G19.cell 6
        go_region
        refine exit_nameF ?_
        intro Wm hWm
        have hBm:Below w7.heap.size W9 Wm:=by rw [hWm];first | exact dk_drewF (((Below.refl w7.heap.size W9).setCell (by dsimp only;omega) _).setCell (by dsimp only;omega) _) | exact ((Below.refl w7.heap.size W9).setCell (by dsimp only;omega) _).setCell (by dsimp only;omega) _
        have HBm:Hid (Blk Wm w7.heap.size 62 #[.slice P5 mb.bids.length p5,.slice P5' mb.asks.length p5']):=by rw [hWm];first | exact Blk.drewN ((V49.set_ 0 _).set_ 1 _) 1 | exact (V49.set_ 0 _).set_ 1 _
        have HOm:Hid (BkR Wm Wm.heap.size P5 P5' p5 p5' mb):=by rw [hWm];first | exact (((HO9.out.set (by dsimp only;omega) _).set (by dsimp only;omega) _).drewN 1).read | exact ((HO9.out.set (by dsimp only;omega) _).set (by dsimp only;omega) _).read
        have HNXE:=Lib.hid (HX.out ▸ HR.out.nxE)
        have HFR2:=Lib.hid HR.out.fair
        have hsm:=hBm.size
        have HZ2:Hid (z + k=left + (o.qty - (rem1 - k))):=by have:=HZ.out;exact (show z + k=left + (o.qty - (rem1 - k)) by omega)
        have hz2:z + k ≤ 2000:=by have:=HZ2.out;omega
        clear hWm
        go_wp2_with fail
        go_roundw
        case rel=>exact ⟨j + 1,z + k,rem1 - k,L2,mb,P5,P5',p5,p5',by omega,by go_num,by go_num,HZ2,by omega,by omega,hbr.trans ((hBi9.mono (by omega)).trans hBm),by omega,HBm,HOm,HNXE,HFR2⟩
        case measure=>simp [intOf];omega
       ·have hn1:decide (0 < y.qty - k)=true:=decide_eq_true hn
        have HX:=Lib.hid hx
        clear hx
        go_wp2_with fail
        refine calls_name ?_
        intro W9 hW9
        obtain ⟨N9,hb9,hs9⟩:=boxes9 hW9
        have hB89:=hb9 W3.heap.size (Nat.le_refl _) (by omega)
        have HO9:Hid (OBk W9 wi.heap.size P5 P5' p5 p5' mb):=by rw [hW9];exact ((HO8.out.set (by dsimp only;omega) _).alloc _).alloc _
        have V49:=V4.below hB89 (by omega)
        have G19:=G1.below hB89 (by omega)
        have hBi9:=hBi.trans (hB89.mono (by omega))
        have l1:=V49.lt
        have l2:=G19.lt
        have l3:=N9.lt
        clear hW9 hb9 hB89
        clear kG20 kG21 kG22 kG23 kG24 fG20 fG21 fG22 fG23 fG24 u6
        obtain ⟨⟨kN90,kN91⟩,fN90,fN91⟩:=N9.c2
        have hml:=(rest_src HX.out).len
        refine (rest_ref mb { y with qty:=y.qty - k } P5 P5' p5 p5' W9.heap.size W9 HX.out HO9.out.read (Nat.le_refl _) (by omega) (by omega)).mono ?_
        rintro e WA ⟨vA,rfl,hownA,hBA⟩
        obtain ⟨P6,p6,P6',p6',rfl,hobk6⟩:=hownA.obk
        have hsA:=hBA.size
        clear kN90 kN91 fN90 fN91
        replace N9:=N9.below hBA N9.lt
        obtain ⟨⟨kN90,kN91⟩,fN90,fN91⟩:=N9.c2
        replace V49:=V49.below hBA V49.lt
        replace G19:=G19.below hBA G19.lt
        have hBiA:=hBi9.trans (hBA.mono (by omega))
        have HOA:=Lib.hid hobk6
        have l4:=V49.lt
        have l5:=G19.lt
        have l6:=N9.lt
        clear hownA hobk6 hBA HO9
        go_wp2_with fail
        refine wp_name ?_
        intro WB hWB
        have NB:Blk WB W8.heap.size 62 #[.slice P6 nx.bids.length p6,.slice P6' nx.asks.length p6']:=by rw [hWB];exact (N9.set_ 0 _).set_ 1 _
        have hBB:Below W8.heap.size WA WB:=by rw [hWB];exact ((Below.refl W8.heap.size WA).setCell (by dsimp only;omega) _).setCell (by dsimp only;omega) _
        have HOB:Hid (OBk WB W9.heap.size P6 P6' p6 p6' nx):=by rw [hWB];exact (HOA.out.set (by dsimp only;omega) _).set (by dsimp only;omega) _
        have V4B:=V49.below hBB (by omega)
        have G1B:=G19.below hBB (by omega)
        have hBiB:=hBiA.trans (hBB.mono (by omega))
        have l7:=V4B.lt
        have l8:=G1B.lt
        have l9:=NB.lt
        clear kN90 kN91 fN90 fN91 hWB hBB HOA
        obtain ⟨⟨kNB0,kNB1⟩,-⟩:=NB.c2
        obtain ⟨⟨kV4B0,kV4B1⟩,fV4B0,fV4B1⟩:=V4B.c2
        have u6:WB.cell? ⟨wr.heap.size,6,none⟩=some (.int .i64 k):=G1B.cell 6
        go_region
        refine exit_nameF ?_
        intro Wm hWm
        have hBm:Below w7.heap.size WB Wm:=by rw [hWm];first | exact dk_drewF (((Below.refl w7.heap.size WB).setCell (by dsimp only;omega) _).setCell (by dsimp only;omega) _) | exact ((Below.refl w7.heap.size WB).setCell (by dsimp only;omega) _).setCell (by dsimp only;omega) _
        have HBm:Hid (Blk Wm w7.heap.size 62 #[.slice P6 nx.bids.length p6,.slice P6' nx.asks.length p6']):=by rw [hWm];first | exact Blk.drewN ((V4B.set_ 0 _).set_ 1 _) 1 | exact (V4B.set_ 0 _).set_ 1 _
        have HOm:Hid (BkR Wm Wm.heap.size P6 P6' p6 p6' nx):=by rw [hWm];first | exact (((HOB.out.set (by dsimp only;omega) _).set (by dsimp only;omega) _).drewN 1).read | exact ((HOB.out.set (by dsimp only;omega) _).set (by dsimp only;omega) _).read
        have HNXE:=Lib.hid (HR.out.nxE)
        have HFR2:=Lib.hid HR.out.fair
        have hsm:=hBm.size
        have HZ2:Hid (z + k=left + (o.qty - (rem1 - k))):=by have:=HZ.out;exact (show z + k=left + (o.qty - (rem1 - k)) by omega)
        have hz2:z + k ≤ 2000:=by have:=HZ2.out;omega
        clear hWm
        go_wp2_with fail
        go_roundw
        case rel=>exact ⟨j + 1,z + k,rem1 - k,L2,nx,P6,P6',p6,p6',by omega,by go_num,by go_num,HZ2,by omega,by omega,hbr.trans ((hBiB.mono (by omega)).trans hBm),by omega,HBm,HOm,HNXE,HFR2⟩
        case measure=>simp [intOf];omega
   ·obtain rfl:j=l.length:=by omega
    have hfr:=HFR.out
    rw [List.drop_length] at hfr
    obtain ⟨rfl,rfl⟩:=fair_end hfr
    have HN:=Lib.hid HNE.out
    have HBW:=Lib.hid (HWS.out.trans (hbr.mono (by omega)))
    have HXW:=Lib.hid (HXR.out.below (hbr.mono (by omega)))
    have r1:=Z2.lt
    have r2:=Z3.lt
    have r3:=Z4.lt
    clear hfr HFR
    rcases HEN.out.fin with ⟨f1,f2,f3,f4⟩ | ⟨f1,f2,f3,f4,f5⟩
    ·have HF1:=Lib.hid (HNE.out.symm.trans f1.symm)
     have HF3:=Lib.hid f3
     have HF4:=Lib.hid f4
     have ez:(z == o.qty)=true:=by have:=HZ.out;simp;omega
     clear f1 f2 f3 f4
     obtain ⟨⟨kZ20,kZ21,kZ22,kZ23,kZ24⟩,-⟩:=Z2.c5
     obtain ⟨⟨kZ30,kZ31⟩,-⟩:=Z3.c2
     obtain ⟨⟨kZ40,kZ41⟩,-⟩:=Z4.c2
     go_wp2_with fail
     refine (find_ref x o.id P P' p p' w3.heap.size wr HF3.out HXW.out (by omega) HXL.out.1 HXL.out.2).mono ?_
     rintro e WF ⟨rfl,hBF⟩
     have hsF:=hBF.size
     clear kZ20 kZ21 kZ22 kZ23 kZ24
     replace Z2:=Z2.below hBF Z2.lt
     obtain ⟨⟨kZ20,kZ21,kZ22,kZ23,kZ24⟩,-⟩:=Z2.c5
     clear kZ30 kZ31
     replace Z3:=Z3.below hBF Z3.lt
     obtain ⟨⟨kZ30,kZ31⟩,-⟩:=Z3.c2
     clear kZ40 kZ41
     replace Z4:=Z4.below hBF Z4.lt
     obtain ⟨⟨kZ40,kZ41⟩,-⟩:=Z4.c2
     have r4:=Z2.lt
     have r5:=Z3.lt
     have r6:=Z4.lt
     have hxl:=HXL.out
     go_wp2_with fail
     refine calls_name ?_
     intro WG hWG
     have hBG:Below wr.heap.size wr WG:=by rw [hWG];exact hBF.alloc hsF _
     have B25:WG.cell? ⟨WF.heap.size,0,none⟩=some (.int .i64 0):=by rw [hWG];exact (Blk.new WF _ _).cell 0
     have hsG:WG.heap.size=WF.heap.size + 1:=by rw [hWG];simp
     clear hWG
     refine (same_bk nb x Q Q' P P' q q' p p' wr.heap.size WG (HNB.out.below hBG) (bkr_lift (HXW.out.below (hBG.mono (by omega))) (by omega)) (by omega)).mono ?_
     rw [show sameBk nb x=true from by rw [HF1.out];exact sameBk_self _]
     rintro e WH ⟨rfl,hBH⟩
     have B26:=(hBH.cell (p:=⟨WF.heap.size,0,none⟩) (by dsimp only;omega)).trans B25
     have r7:WF.heap.size < WH.heap.size:=by have:=hBH.size;omega
     by_cases hh:how=3
     ·have eh:(how != 3)=false:=by simpa using hh
      have hl0:0 < l.length:=by have:=HF4.out hh;exact List.length_pos_iff.2 this
      have el:decide (0 < (l.length:Int))=true:=decide_eq_true (by omega)
      clear hh
      go_wp2_with fail
      go_ret
      exact ⟨rfl,HBW.out.trans ((hBG.mono (by omega)).trans (hBH.mono (by omega)))⟩
     ·have eh:(how != 3)=true:=by simpa using hh
      clear hh
      go_wp2_with fail
      go_ret
      exact ⟨rfl,HBW.out.trans ((hBG.mono (by omega)).trans (hBH.mono (by omega)))⟩
    ·have HF4:=Lib.hid (show restOf nb { o with qty:=rem }=(x,0) by rw [← HNE.out];exact f4)
     have HF5:=Lib.hid f5
     have ez:(z + rem == o.qty)=true:=by have:=HZ.out;simp;omega
     have eh:(how != 3)=true:=by simpa using f3
     have hnl:=(rest_src HF4.out).len
     clear f1 f2 f3 f4 f5
     obtain ⟨⟨kZ20,kZ21,kZ22,kZ23,kZ24⟩,-⟩:=Z2.c5
     obtain ⟨⟨kZ30,kZ31⟩,-⟩:=Z3.c2
     obtain ⟨⟨kZ40,kZ41⟩,fZ40,fZ41⟩:=Z4.c2
     go_wp2_with fail
     refine (find_ref x o.id P P' p p' w3.heap.size wr HF5.out HXW.out (by omega) HXL.out.1 HXL.out.2).mono ?_
     rintro e WF ⟨rfl,hBF⟩
     have hsF:=hBF.size
     clear kZ20 kZ21 kZ22 kZ23 kZ24
     replace Z2:=Z2.below hBF Z2.lt
     obtain ⟨⟨kZ20,kZ21,kZ22,kZ23,kZ24⟩,-⟩:=Z2.c5
     clear kZ30 kZ31
     replace Z3:=Z3.below hBF Z3.lt
     obtain ⟨⟨kZ30,kZ31⟩,-⟩:=Z3.c2
     clear kZ40 kZ41 fZ40 fZ41
     replace Z4:=Z4.below hBF Z4.lt
     obtain ⟨⟨kZ40,kZ41⟩,fZ40,fZ41⟩:=Z4.c2
     have r4:=Z2.lt
     have r5:=Z3.lt
     have r6:=Z4.lt
     go_wp2_with fail
     refine calls_name ?_
     intro WG hWG
     have hBG:Below wr.heap.size wr WG:=by rw [hWG];exact hBF.alloc hsF _
     have hsG:WG.heap.size=WF.heap.size + 1:=by rw [hWG];simp
     have hFG:Below WF.heap.size WF WG:=by rw [hWG];exact (Below.refl _ _).alloc (Nat.le_refl _) _
     clear hWG
     clear kZ20 kZ21 kZ22 kZ23 kZ24
     replace Z2:=Z2.below hFG Z2.lt
     obtain ⟨⟨kZ20,kZ21,kZ22,kZ23,kZ24⟩,-⟩:=Z2.c5
     clear kZ30 kZ31
     replace Z3:=Z3.below hFG Z3.lt
     obtain ⟨⟨kZ30,kZ31⟩,-⟩:=Z3.c2
     clear kZ40 kZ41 fZ40 fZ41
     replace Z4:=Z4.below hFG Z4.lt
     obtain ⟨⟨kZ40,kZ41⟩,fZ40,fZ41⟩:=Z4.c2
     refine (rest_ref nb { o with qty:=rem } Q Q' q q' wr.heap.size WG HF4.out (HNB.out.below hBG) (by omega) (by omega) (by omega)).mono ?_
     rintro e WI ⟨vI,rfl,hownI,hBI⟩
     obtain ⟨P6,p6,P6',p6',rfl,hobk6⟩:=hownI.obk
     have hsI:=hBI.size
     clear kZ20 kZ21 kZ22 kZ23 kZ24
     replace Z2:=Z2.below hBI Z2.lt
     obtain ⟨⟨kZ20,kZ21,kZ22,kZ23,kZ24⟩,-⟩:=Z2.c5
     clear kZ30 kZ31
     replace Z3:=Z3.below hBI Z3.lt
     obtain ⟨⟨kZ30,kZ31⟩,-⟩:=Z3.c2
     clear kZ40 kZ41 fZ40 fZ41
     replace Z4:=Z4.below hBI Z4.lt
     obtain ⟨⟨kZ40,kZ41⟩,fZ40,fZ41⟩:=Z4.c2
     have HOI:=Lib.hid hobk6
     have r7:=Z2.lt
     have r8:=Z3.lt
     have r9:=Z4.lt
     clear hownI hobk6
     go_wp2_with fail
     refine calls_name ?_
     intro WJ hWJ
     have hBJ:Below w7.heap.size WI WJ:=by rw [hWJ];exact ((Below.refl w7.heap.size WI).setCell (by dsimp only;omega) _).setCell (by dsimp only;omega) _
     have HOJ:Hid (OBk WJ WG.heap.size P6 P6' p6 p6' x):=by rw [hWJ];exact (HOI.out.set (by dsimp only;omega) _).set (by dsimp only;omega) _
     have hsJ:=hBJ.size
     have hBrJ:Below w7.heap.size wr WJ:=(hBG.mono (by omega)).trans ((hBI.mono (by omega)).trans hBJ)
     clear hWJ
     refine (same_bk x x P6 P6' P P' p6 p6' p p' WJ.heap.size WJ HOJ.out.read (bkr_lift (HXW.out.below (hBrJ.mono (by omega))) (by omega)) (Nat.le_refl _)).mono ?_
     rw [show sameBk x x=true from sameBk_self _]
     rintro e WH ⟨rfl,hBH⟩
     go_wp2_with fail
     go_ret
     exact ⟨rfl,HBW.out.trans ((hBrJ.mono (by omega)).trans (hBH.mono (by omega)))⟩
end
section
open Go.ChangeShapes Go.WideShapes Go.ChangeAt Go.RowKit
set_option maxRecDepth 100000 in
theorem matchFair_lifted (os:Os) (started:os.Started) (H:Type) (enc:TypeId × Value→H) :
  ReturnsInHanded {} Try.checked os 18 .any (Rows.matchFairSpec.pre6 enc Try.prog Try.f18 Rows.matchFairRow.domain false) (Rows.matchFairSpec.post enc Try.prog Try.f18 false true false false):=by
 refine returnsInHanded_of_change_sized (C:=Try.checked) row_own started (by kernel_rfl) Try.func18
  (ChangeSpec.witness6 (enc:=enc) (C:=Try.checked) false ⟨#[],#[.agg #[.slice none 0 0,.slice none 0 0],.agg #[.int .i64 0,.int .i64 0,.int .i64 0,.int .i64 0,.int .i64 0],.int .i64 0],[]⟩ 8 (by kernel_rfl) (by kernel_rfl) (by kernel_rfl) (by kernel_rfl)) ?_
 intro W base args ds gs before hval0 hW hcnd hsz _
 have hval:∀ (j:Nat) t v,Try.f18.params[j]?=some t→args[j]?=some v→Value.okWide Try.prog W .any base t v:=hval0
 have hW':=hW
 obtain ⟨p,q,hA0,hV,rfl,hfz,hnd⟩:=hW
 have hA:DataW.TrodAll enc Try.prog W 0 (fun _=>true) true Try.f18.params.toList args.toList ds p:=hA0
 obtain ⟨rfl,rfl⟩:=trodVars_none hV
 have hkeep:=fun W' (bel:Below W.heap.size W W')=>trodAll_below row_laidOut bel (by kernel_rfl) hA
 rw [Try.params18] at hA hval
 obtain ⟨v0,vs0,d0,ds0,p0,q0,hargs,rfl,rfl,h0,tl0⟩:=trodAll_cons hA
 obtain ⟨v1,vs1,d1,ds1,p1,q1,rfl,rfl,rfl,h1,tl1⟩:=trodAll_cons tl0
 obtain ⟨v2,vs2,d2,ds2,p2,q2,rfl,rfl,rfl,h2,tl2⟩:=trodAll_cons tl1
 obtain ⟨rfl,rfl,rfl⟩:=trodAll_nil tl2
 obtain rfl:args = #[v0,v1,v2]:=by cases args;simp_all
 clear hargs
 have hs0:(DataW.weightsEach Try.prog (Try.f18.params.toList ++ Rows.matchFairSpec.plain.varTypes Try.prog) ([d0,d1,d2] ++ [])).all (· ≤ reachBytes)=true:=hsz
 rw [show Rows.matchFairSpec.plain.varTypes Try.prog = [] from rfl,List.append_nil,List.append_nil] at hs0
 have hsz':(DataW.weightsEach Try.prog Try.f18.params.toList [d0,d1,d2]).all (· ≤ reachBytes)=true:=hs0
 rw [Try.params18] at hsz'
 obtain ⟨y0,t0⟩:=weights_head hsz'
 obtain ⟨y1,t1⟩:=weights_head t0
 obtain ⟨y2,t2⟩:=weights_head t1
 obtain ⟨b0,A0,Z0,c0,e0,rfl,r0,q0,⟨s0,t0⟩,i0⟩:=opens_book (hval 0 62 v0 rfl rfl) h0 y0
 obtain ⟨o1,rfl,i1⟩:=opens_order (hval 1 71 v1 rfl rfl) h1
 obtain ⟨z2,rfl,i2⟩:=opens_int (hval 2 3 v2 rfl rfl) h2
 refine (matchFair_walk b0 A0 Z0 c0 e0 o1 z2 W r0 q0 s0 t0).mono fun e W' ⟨he,bel⟩=>?_
 subst he
 exact ⟨_,rfl,_,_,_,[],_,[],hW',trodAll_mk1 (shut_bool Try.underlying4 _),hkeep W' bel,rfl,bel.frame _,fun h=>by cases h⟩
set_option maxHeartbeats 4000000 in
theorem matchFair_closed:joinedFacts Try.prog 18 Try.f18 Rows.matchFairSpec Rows.matchFairRow=true :=
 joined_mk _ _ _ _ _ (by as_aux_lemma=>kernel_rfl) closed_laid closed_mapsRowed (by as_aux_lemma=>kernel_rfl) (by as_aux_lemma=>kernel_rfl) (by as_aux_lemma=>kernel_rfl) closed_stops (by as_aux_lemma=>kernel_rfl) closed_stopKnobs (by as_aux_lemma=>kernel_rfl) (by as_aux_lemma=>kernel_rfl) (by as_aux_lemma=>kernel_rfl) (by as_aux_lemma=>kernel_rfl) (by as_aux_lemma=>kernel_rfl) (by as_aux_lemma=>kernel_rfl) (by as_aux_lemma=>kernel_rfl) (by as_aux_lemma=>kernel_rfl) (by as_aux_lemma=>kernel_rfl) (by as_aux_lemma=>kernel_rfl) (by as_aux_lemma=>kernel_rfl) (by as_aux_lemma=>kernel_rfl) (by as_aux_lemma=>kernel_rfl) closed_plainKeys (by as_aux_lemma=>kernel_rfl) closed_stopsHeard closed_mayEnter closed_lifted closed_make (by as_aux_lemma=>kernel_rfl) (by as_aux_lemma=>kernel_rfl) (by as_aux_lemma=>kernel_rfl) (by as_aux_lemma=>kernel_rfl)
set_option maxHeartbeats 4000000 in
theorem matchFair_over:Rows.matchFairRow.holds Try.pinned (OpenSpec.ofChange Rows.matchFairSpec) :=
 OpenClaim.holds_of_wide 18 Try.f18 rfl rfl rfl rfl rfl rfl rfl ⟨rfl,rfl,rfl,rfl,rfl⟩ rfl rfl rfl rfl rfl (by as_aux_lemma=>kernel_rfl) Try.func18 matchFair_closed
  (of_decide_eq_true (by as_aux_lemma=>kernel_rfl)) (by unfold Func.isWrapper;first | (rw [if_pos (by decide +kernel)];as_aux_lemma=>kernel_rfl) | (rw [if_neg (by decide +kernel)];exact ⟨rfl,rfl⟩))
  (fun os started H enc _=>matchFair_lifted os started H enc)
theorem matchFair_proved:Rows.MatchFairSaid:=matchFair_over
#print axioms matchFair_proved
end
end Go.Proofs.Ytockodmbhnlheaa
