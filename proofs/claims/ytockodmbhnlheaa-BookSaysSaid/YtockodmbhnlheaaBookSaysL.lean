/-
  THE LAW BookSays: holds for every input, with no condition. (Joined texts: RestedP, Rested, IdxI, CtI.)
-/
import Derived.Test.YtockodmbhnlheaaBookSaysK
import Derived.Test.YtockodmbhnlheaaBookSaysJ
import Derived.Test.YtockodmbhnlheaaProg
import Derived.Test.YtockodmbhnlheaaBookSaysA
import Derived.Maps.AppendAt
import Derived.Laws.AppendOwnNone
import Derived.OwnWalk
import Derived.Test.YtockodmbhnlheaaBookSaysD
import Derived.Deep.RegionHeld3
import Derived.Test.YtockodmbhnlheaaBookSaysB
import Derived.Test.YtockodmbhnlheaaBookSaysC
import Derived.Lib.AppendZeros
import Derived.Test.YtockodmbhnlheaaBookSaysF
import Derived.Test.YtockodmbhnlheaaBookSaysG
import Derived.Test.YtockodmbhnlheaaBookSaysE
import Derived.Laws.CopyOwn
import Derived.Lib.AppendZerosOnto
import Derived.Lib.Overlaps
import Derived.Laws.Externs
import Derived.Deep.RegionLaw
import Derived.Maps.Own
import Derived.Maps.OwnOps
import Derived.Maps.Views
import Derived.WalkKit
import Derived.Deep.Draws
import Derived.IntWalk
import Derived.Deep.DeepCutAuto
import Derived.Deep.Cut
import Derived.Test.YtockodmbhnlheaaBookSaysH
import Derived.Shelf.SlSortFuncK.SWK
import Derived.Lib.Hide
import Derived.Test.YtockodmbhnlheaaBookSaysI
import Derived.Shelf.GgSortFunc.SmallK
import Derived.Shelf.GgSortMore.Stable
import Derived.Deep.QuietTactic
import Derived.BigQuiet
import Derived.WalkSpells
import Derived.WalkLawsBesides
import Derived.Sort.WalkA
import Derived.Sort.LotA
namespace Go.Proofs.Ytockodmbhnlheaa
section
theorem insO_perm {o:Od}:∀ {l:List Od},(insO o l).Perm (o :: l)
 | []=>List.Perm.refl _
 | x :: l=>by
  unfold insO
  split
  ·exact List.Perm.refl _
  ·exact ((insO_perm (l:=l)).cons x).trans (List.Perm.swap o x l)
theorem filter_all {p:Od→Bool} {l:List Od} (h:∀ x ∈ l,p x=true):l.filter p=l:=List.filter_eq_self.2 h
theorem filter_no {p:Od→Bool} {l:List Od} (h:∀ x ∈ l,p x=false):l.filter p = []:=by
 rw [List.filter_eq_nil_iff];intro x hx;rw [h x hx];simp
theorem ok_qty {o:Od} (h:ordErr o=0):o.qty ≠ 0:=by
 have:=(ordErr_ok.1 h).2.2.2.2;omega
theorem bid_of {x:Od} (h:ordErr x=0) (hs:x.side=1):isBid x=true∧isAsk x=false:=by
 unfold isBid isAsk;simp [ok_qty h,hs]
theorem ask_of {x:Od} (h:ordErr x=0) (hs:x.side = -1):isBid x=false∧isAsk x=true:=by
 unfold isBid isAsk;simp [ok_qty h,hs]
theorem side_bids {l:List Od} (h:SideOk 1 l):l.filter isBid=l∧l.filter isAsk = [] :=
 ⟨filter_all fun x hx=>(bid_of (h.ok x hx) (h.side x hx)).1,filter_no fun x hx=>(bid_of (h.ok x hx) (h.side x hx)).2⟩
theorem side_asks {l:List Od} (h:SideOk (-1) l):l.filter isBid = []∧l.filter isAsk=l :=
 ⟨filter_no fun x hx=>(ask_of (h.ok x hx) (h.side x hx)).1,filter_all fun x hx=>(ask_of (h.ok x hx) (h.side x hx)).2⟩
theorem found_has {b:Bk} (hb:BookOk b) (id:Int):(decide (id ≠ 0) && decide ((foundO (b.bids ++ b.asks) id).id=id))=hasB b id:=by
 have hpos:∀ x ∈ b.bids ++ b.asks,1 ≤ x.id:=fun x hx=>by
  rcases List.mem_append.1 hx with h | h
  ·exact (ordErr_ok.1 (hb.bids.ok x h)).1.1
  ·exact (ordErr_ok.1 (hb.asks.ok x h)).1.1
 cases hf:findO (b.bids ++ b.asks) id with
 | some x =>
  obtain ⟨h1,h2⟩:=findO_some hf
  have h3:=hpos x h1
  have e:foundO (b.bids ++ b.asks) id=x:=by unfold foundO;rw [hf]
  rw [e,show hasB b id=true from hasB_iff.2 ⟨x,List.mem_append.1 h1,h2⟩]
  simp [h2];omega
 | none =>
  have e:foundO (b.bids ++ b.asks) id=zeroOd:=by unfold foundO;rw [hf]
  have hn:=findO_none hf
  rw [e,show hasB b id=false from hasB_not.2 ⟨fun x hx=>hn x (List.mem_append.2 (.inl hx)),fun x hx=>hn x (List.mem_append.2 (.inr hx))⟩]
  by_cases h:id=0
  ·simp [h]
  ·simp [zeroOd,h,Ne.symm h]
theorem head_best {s:Int} {l:List Od} {h:Od} {t:List Od} (hs:SideOk s l) (hl:l=h :: t) {x:Od} (hx:x ∈ l):(s=1→x.price ≤ h.price)∧(s ≠ 1→h.price ≤ x.price):=by
 subst hl
 rcases List.mem_cons.1 hx with rfl | hx
 ·exact ⟨fun _=>Int.le_refl _,fun _=>Int.le_refl _⟩
 ·have ha:=(List.pairwise_cons.1 hs.sorted).1 x hx
  have h1:=hs.side h List.mem_cons_self
  constructor
  ·intro e
   have:=(ahead_buy (h1.trans e)).1 ha;omega
  ·intro e
   have:=(ahead_sell (by rw [h1];exact e)).1 ha;omega
def metB (o x:Od):Bool:=decide (x.side ≠ o.side) && crossesB o x.price
theorem meets_head {b:Bk} (hb:BookOk b) {o:Od} (ho:ordErr o=0):(b.bids ++ b.asks).any (metB o)=headCrosses o (otherOf b o.side):=by
 have hs:=(ordErr_ok.1 ho).2.2.1
 have key:∀ (A L C:List Od) (s:Int),(∀ x ∈ A,x.side=o.side)→(∀ x ∈ C,x.side=o.side)→SideOk s L→s = -o.side→(A ++ L ++ C).any (metB o)=headCrosses o L:=by
  intro A L C s hA hC hL hso
  have f1:∀ (D:List Od),(∀ x ∈ D,x.side=o.side)→D.any (metB o)=false:=fun D hD=>by
   rw [List.any_eq_false];intro x hx;unfold metB;simp [hD x hx]
  rw [List.any_append,List.any_append,f1 A hA,f1 C hC,Bool.false_or,Bool.or_false]
  cases L with
  | nil=>rfl
  | cons h t =>
   show _=crossesB o h.price
   have hm:∀ x ∈ h :: t,metB o x=crossesB o x.price:=fun x hx=>by
    have e:=hL.side x hx
    unfold metB
    rw [show decide (x.side ≠ o.side)=true by simp;omega,Bool.true_and]
   have hh:∀ x ∈ h :: t,(s=1→x.price ≤ h.price)∧(s ≠ 1→h.price ≤ x.price):=fun x hx=>head_best hL rfl hx
   cases hc:crossesB o h.price with
   | true=>rw [List.any_eq_true];exact ⟨h,List.mem_cons_self,by rw [hm h List.mem_cons_self,hc]⟩
   | false =>
    rw [List.any_eq_false]
    intro x hx
    rw [hm x hx]
    obtain ⟨q1,q2⟩:=hh x hx
    unfold crossesB at hc ⊢
    rcases hs with e | e
    ·rw [if_pos e] at hc ⊢
     have:=q2 (by omega)
     simp at hc ⊢;omega
    ·rw [if_neg (by omega)] at hc ⊢
     have:=q1 (by omega)
     simp at hc ⊢;omega
 unfold otherOf
 rcases hs with e | e
 ·rw [if_pos e]
  have:=key b.bids b.asks [] (-1) (fun x hx=>(hb.bids.side x hx).trans e.symm) (by simp) hb.asks (by omega)
  rwa [List.append_nil] at this
 ·rw [if_neg (by omega)]
  have:=key [] b.bids b.asks 1 (by simp) (fun x hx=>(hb.asks.side x hx).trans e.symm) hb.bids (by omega)
  rwa [List.nil_append] at this
theorem bkOf_rest {b:Bk} {o:Od} (hb:BookOk b) (ho:ordErr o=0) (hh:hasB b o.id=false):BkOf (b.bids ++ b.asks ++ [o]) (setOwn b o.side (insO o (ownOf b o.side))):=by
 obtain ⟨n1,n2⟩:=hasB_not.1 hh
 have hs:=(ordErr_ok.1 ho).2.2.1
 obtain ⟨b1,b2⟩:=side_bids hb.bids
 obtain ⟨a1,a2⟩:=side_asks hb.asks
 unfold setOwn ownOf
 rcases hs with e | e
 ·rw [if_pos e,if_pos e]
  have hk:=sideOk_insO hb.bids ho e n1
  obtain ⟨o1,o2⟩:=bid_of ho e
  refine ⟨?_,?_,hk.sorted,hb.asks.sorted,hk.side,hb.asks.side,hk.ids,hb.asks.ids⟩
  ·rw [List.filter_append,List.filter_append,b1,a1]
   simp only [List.filter_cons,o1,if_true,List.filter_nil,List.append_nil]
   exact insO_perm.trans (List.perm_append_singleton o _).symm
  ·rw [List.filter_append,List.filter_append,b2,a2]
   simp [o2]
 ·rw [if_neg (by omega),if_neg (by omega)]
  have hk:=sideOk_insO hb.asks ho e n2
  obtain ⟨o1,o2⟩:=ask_of ho e
  refine ⟨?_,?_,hb.bids.sorted,hk.sorted,hb.bids.side,hk.side,hb.bids.ids,hk.ids⟩
  ·rw [List.filter_append,List.filter_append,b1,a1]
   simp [o1]
  ·rw [List.filter_append,List.filter_append,b2,a2]
   simp only [List.filter_cons,o2,if_true,List.filter_nil,List.nil_append]
   exact insO_perm.trans (List.perm_append_singleton o _).symm
theorem bkOf_del {b:Bk} (hb:BookOk b) (id:Int):BkOf (delO id (b.bids ++ b.asks)) ⟨delO id b.bids,delO id b.asks⟩:=by
 have h1:=sideOk_delO (id:=id) hb.bids
 have h2:=sideOk_delO (id:=id) hb.asks
 obtain ⟨b1,b2⟩:=side_bids h1
 obtain ⟨a1,a2⟩:=side_asks h2
 have e:delO id (b.bids ++ b.asks)=delO id b.bids ++ delO id b.asks:=by unfold delO;rw [List.filter_append]
 refine ⟨?_,?_,h1.sorted,h2.sorted,h1.side,h2.side,h1.ids,h2.ids⟩
 ·rw [e,List.filter_append,b1,a1,List.append_nil]
 ·rw [e,List.filter_append,b2,a2,List.nil_append]
theorem del_none {l:List Od} {id:Int} (h:∀ x ∈ l,x.id ≠ id):delO id l=l:=by
 unfold delO;exact filter_all fun x hx=>by simp [h x hx]
theorem remove_both {b:Bk} (hb:BookOk b) {id:Int} {x:Od} (hx:findO (b.bids ++ b.asks) id=some x):(removeOf b id).1=⟨delO id b.bids,delO id b.asks⟩∧(removeOf b id).2.1=x∧(removeOf b id).2.2=0:=by
 have he:bookErr b=0:=bookErr_ok.2 hb
 have hf:findOf b id=(x,0):=by unfold findOf;rw [if_neg (by omega),hx]
 obtain ⟨h1,h2⟩:=findO_some hx
 have hr:removeOf b id=(setOwn b x.side (delO id (ownOf b x.side)),x,0):=by unfold removeOf;rw [hf];simp
 rw [hr]
 refine ⟨?_,rfl,rfl⟩
 rcases List.mem_append.1 h1 with h | h
 ·have hs:=hb.bids.side x h
  show setOwn b x.side (delO id (ownOf b x.side))=_
  unfold setOwn ownOf
  rw [if_pos hs,if_pos hs,del_none (l:=b.asks) (fun y hy e=>hb.apart x h y hy (h2.trans e.symm))]
 ·have hs:=hb.asks.side x h
  show setOwn b x.side (delO id (ownOf b x.side))=_
  unfold setOwn ownOf
  rw [if_neg (by omega),if_neg (by omega),del_none (l:=b.bids) (fun y hy e=>hb.apart y hy x h (e.trans h2.symm))]
theorem remove_no {b:Bk} (hb:BookOk b) {id:Int} (hx:findO (b.bids ++ b.asks) id=none):removeOf b id=(zeroBk,zeroOd,5):=by
 have he:bookErr b=0:=bookErr_ok.2 hb
 have hf:findOf b id=(zeroOd,5):=by unfold findOf;rw [if_neg (by omega),hx]
 unfold removeOf
 rw [hf];simp
end
section
open Go.RowKit
set_option maxHeartbeats 1000000 in
theorem rmeets_any (o:Od) (p:Int) (w:World) (ho:ordErr o=0) (hp:1 ≤ p∧p ≤ 10000) :
  Calls Try.prog 149 #[.agg #[.int .i64 o.id,.int .i64 o.acc,.int .i64 o.side,.int .i64 o.price,.int .i64 o.qty],.int .i64 p] w fun e w'=>e=.returned (.bool (crossesB o p))∧Below w.heap.size w w':=by
 obtain ⟨_,_,hs,⟨q1,q2⟩,_⟩:=ordErr_ok.1 ho
 obtain ⟨p1,p2⟩:=hp
 clear ho
 rcases hs with e | e
 ·have HE:=Lib.hid (show crossesB o p=decide (p - o.price ≤ 0) by unfold crossesB;rw [if_pos e];congr 1;apply propext;omega)
  have h1:(p - o.price) * 1=p - o.price:=by omega
  have HS:=Lib.hid e
  obtain ⟨oi,oa,os,op,oq⟩:=o
  simp only at e q1 q2 HE h1
  subst e
  clear HS
  go_enter Try.func149,Try.ntmps149
  go_wp2_with fail
  go_ret
  exact ⟨ret_bb HE.out.symm,(Below.refl _ _).alloc (Nat.le_refl _) _⟩
 ·have HE:=Lib.hid (show crossesB o p=decide (o.price ≤ p) by unfold crossesB;rw [if_neg (by omega)])
  obtain ⟨oi,oa,os,op,oq⟩:=o
  simp only at e q1 q2 HE
  subst e
  go_enter Try.func149,Try.ntmps149
  go_wp2_with fail
  go_ret
  exact ⟨ret_bb HE.out.symm,(Below.refl _ _).alloc (Nat.le_refl _) _⟩
theorem run_field_id (o:Od) (W:World):(Instr.field 71 (.agg #[.int .i64 o.id,.int .i64 o.acc,.int .i64 o.side,.int .i64 o.price,.int .i64 o.qty]) 0).run Try.prog W=.ok (.int .i64 o.id) W:=by
 unfold Instr.field
 simp only [Sem.run_bind,underlying]
 have h:=Try.underlying71
 have ha:∀ w,(isAgg 3).run Try.prog w=.ok false w:=fun _=>by kernel_rfl
 simp [go_sem,h,part,asAgg,Result.andThen]
theorem retRest_zero {w w':World} {r:Bk × Int} {n:Int} (h:r=(zeroBk,n)) (hb:Below w.heap.size w w'):RetRest w r (.returned (.tuple #[.agg #[.slice none 0 0,.slice none 0 0],.int .i64 n])) w':=by
 subst h;exact ⟨_,rfl,ownBk_zero _ _,hb⟩
set_option maxHeartbeats 4000000 in
set_option maxRecDepth 100000 in
theorem rrested_any (b:Bk) (o:Od) (A A':Option Addr) (c c' B:Nat) (w:World) (h:BkR w B A A' c c' b) (hB:B ≤ w.heap.size) (hbk:BookOk b) :
  Calls Try.prog 89 #[.agg #[.slice A b.bids.length c,.slice A' b.asks.length c'],.agg #[.int .i64 o.id,.int .i64 o.acc,.int .i64 o.side,.int .i64 o.price,.int .i64 o.qty]] w (RetRest w (restOf b o)):=by
 have hlen:=hbk.len
 have HE:=Lib.hid (show restOf b o=if hasB b o.id then (zeroBk,6) else if ordErr o ≠ 0 then (zeroBk,ordErr o)
  else if b.bids.length + b.asks.length=40 then (zeroBk,7) else if headCrosses o (otherOf b o.side) then (zeroBk,9)
  else (setOwn b o.side (insO o (ownOf b o.side)),0) by unfold restOf;rw [if_neg (by have:=bookErr_ok.2 hbk;omega)])
 have HH:=Lib.hid (found_has hbk o.id)
 have HBK:=Lib.hid hbk
 clear hbk
 go_enter Try.func89,Try.ntmps89
 go_wp2_with fail
 obtain ⟨w2,hw2⟩:∃ x,x=((w.alloc (.cells #[.slice A b.bids.length c,.slice A' b.asks.length c'] 62)).alloc (.cells #[.int .i64 o.id,.int .i64 o.acc,.int .i64 o.side,.int .i64 o.price,.int .i64 o.qty] 71)).alloc (.cells #[.slice none 0 0,.slice none 0 0] 62):=⟨_,rfl⟩
 have hb2:Below w.heap.size w w2:=by rw [hw2];exact (((Below.refl _ _).alloc (Nat.le_refl _) _).alloc (by simp) _).alloc (by simp;omega) _
 have hs2:w2.heap.size=w.heap.size + 1 + 1 + 1:=by rw [hw2];simp
 have X1:Blk w2 w.heap.size 62 #[.slice A b.bids.length c,.slice A' b.asks.length c']:=by rw [hw2];exact ((Blk.new w _ _).alloc _).alloc _
 have X2:Blk w2 (w.heap.size + 1) 71 #[.int .i64 o.id,.int .i64 o.acc,.int .i64 o.side,.int .i64 o.price,.int .i64 o.qty]:=by rw [hw2];exact (Blk.new_at _ _ _ _ (by simp)).alloc _
 have X3:Blk w2 (w.heap.size + 1 + 1) 62 #[.slice none 0 0,.slice none 0 0]:=by rw [hw2];exact Blk.new_at _ _ _ _ (by simp)
 rw [← hw2]
 have hr:=h.below (hb2.mono hB)
 clear hw2
 have h22:Below w2.heap.size w2 w2:=Below.refl _ _
 have KS:Hid (∀ W,Below w2.heap.size w2 W→Below w2.heap.size w2 W∧(W.cell? ⟨w.heap.size,0,none⟩=some (.slice A b.bids.length c)∧W.cell? ⟨w.heap.size,1,none⟩=some (.slice A' b.asks.length c'))∧(W.cell? ⟨w.heap.size + 1,0,none⟩=some (.int .i64 o.id)∧W.cell? ⟨w.heap.size + 1,1,none⟩=some (.int .i64 o.acc)∧W.cell? ⟨w.heap.size + 1,2,none⟩=some (.int .i64 o.side)∧W.cell? ⟨w.heap.size + 1,3,none⟩=some (.int .i64 o.price)∧W.cell? ⟨w.heap.size + 1,4,none⟩=some (.int .i64 o.qty))):=by
  intro W hW
  exact ⟨hW,(X1.below hW X1.lt).c2.1,(X2.below hW X2.lt).c5.1⟩
 have HR:=Lib.hid hr
 obtain ⟨F,hF⟩:∃ F,F=foundO (b.bids ++ b.asks) o.id:=⟨_,rfl⟩
 rw [← hF] at HH
 have HF:=Lib.hid hF
 obtain ⟨⟨kX10,kX11⟩,-⟩:=X1.c2
 obtain ⟨⟨kX20,kX21,kX22,kX23,kX24⟩,-⟩:=X2.c5
 obtain ⟨⟨kX30,kX31⟩,fX30,fX31⟩:=X3.c2
 clear hF
 go_cut [22] (fun v wx=>v=.bool (hasB b o.id)∧Below w2.heap.size w2 wx)
 case first =>
  by_cases h0:o.id=0
  ·have h0':(o.id != 0)=false:=by simpa using h0
   have HV:=Lib.hid (show hasB b o.id=false by rw [← HH.out];simp [h0])
   clear h0
   go_quiet (fail)
   go_wp2_with fail
   go_meet
   exact ⟨by rw [HV.out],below_drewN h22 _⟩
  ·have h0':(o.id != 0)=true:=by simpa using h0
   have HV:=Lib.hid (show (F.id == o.id)=hasB b o.id by rw [← HH.out,decide_eq_true h0,Bool.true_and];rfl)
   have hfld:=run_field_id F
   clear h0
   have HRD:Hid (BkR w2.drew B A A' c c' b):=Lib.hid (HR.out.below ((below_drew h22).mono (by omega)))
   go_region_with (go_at_call 90;(with_reducible refine (rfound_any b o.id A A' c c' B w2.drew HRD.out (by simp;omega) (by omega)).mono ?_);rintro e W' ⟨rfl,hb⟩;have hB2:=below_next hb (below_drew h22);rw [← HF.out];obtain ⟨-,⟨m0,m1⟩,n0,n1,n2,n3,n4⟩:=KS.out _ hB2)
   all_goals
    go_wp2_with fail
    go_meet
    exact ⟨by rw [← HV.out],by assumption⟩
 case rest =>
  obtain ⟨rfl,hbc⟩:=hcut
  have hsc:=hbc.size
  clear kX10 kX11
  replace X1:=X1.below hbc X1.lt
  obtain ⟨⟨kX10,kX11⟩,-⟩:=X1.c2
  clear kX20 kX21 kX22 kX23 kX24
  replace X2:=X2.below hbc X2.lt
  obtain ⟨⟨kX20,kX21,kX22,kX23,kX24⟩,-⟩:=X2.c5
  clear kX30 kX31 fX30 fX31
  replace X3:=X3.below hbc X3.lt
  obtain ⟨⟨kX30,kX31⟩,fX30,fX31⟩:=X3.c2
  have hbw:=hb2.trans (hbc.mono (by omega))
  have hr2:=HR.out.below (hbc.mono (by omega))
  clear KS HR HF HH h22 hbc hr hb2 F
  rcases (bool_cs (hasB b o.id)).symm with hh | hh
  ·have HE1:=Lib.hid (show restOf b o=(zeroBk,6) by rw [HE.out,if_pos hh])
   rw [hh]
   clear hh HE
   go_wp2_with fail
   refine bodyPost_ret (v:=.tuple #[.agg #[.slice none 0 0,.slice none 0 0],.int .i64 (6)]) (by simp [results,Try.results89,go_sem, *]) rfl ?_
   exact retRest_zero HE1.out ((Below.setCell hbw (by dsimp only;omega) _).setCell (by dsimp only;omega) _)
  ·have HNH:=Lib.hid hh
   have HE1:=Lib.hid (HE.out.trans (if_neg (by rw [hh];simp)))
   rw [hh]
   clear hh HE
   go_wp2_with fail
   refine (rordErr_any o _).mono ?_
   rintro e w3 ⟨rfl,hb3⟩
   have hs3:=hb3.size
   clear kX10 kX11
   replace X1:=X1.below hb3 X1.lt
   obtain ⟨⟨kX10,kX11⟩,-⟩:=X1.c2
   clear kX20 kX21 kX22 kX23 kX24
   replace X2:=X2.below hb3 X2.lt
   obtain ⟨⟨kX20,kX21,kX22,kX23,kX24⟩,-⟩:=X2.c5
   clear kX30 kX31 fX30 fX31
   replace X3:=X3.below hb3 X3.lt
   obtain ⟨⟨kX30,kX31⟩,fX30,fX31⟩:=X3.c2
   replace hbw:=hbw.trans (hb3.mono (by omega))
   replace hr2:=hr2.below (hb3.mono (by omega))
   clear hb3
   by_cases he:ordErr o=0
   rotate_left
   ·have HE2:=Lib.hid (HE1.out.trans (if_pos he))
    have he':(ordErr o != 0)=true:=by simpa using he
    clear he HE1
    go_wp2_with fail
    refine bodyPost_ret (v:=.tuple #[.agg #[.slice none 0 0,.slice none 0 0],.int .i64 (ordErr o)]) (by simp [results,Try.results89,go_sem, *]) rfl ?_
    exact retRest_zero HE2.out ((Below.setCell hbw (by dsimp only;omega) _).setCell (by dsimp only;omega) _)
   ·have HE2:=Lib.hid (HE1.out.trans (if_neg (by omega)))
    have HO:=Lib.hid he
    rw [he]
    clear he HE1
    go_wp2_with fail
    refine (rorders_any b A A' c c' B _ hr2 (by omega) (by omega)).mono ?_
    rintro e w4 ⟨v,rfl,hown,hb4⟩
    have hs4:=hb4.size
    clear kX10 kX11
    replace X1:=X1.below hb4 X1.lt
    obtain ⟨⟨kX10,kX11⟩,-⟩:=X1.c2
    clear kX20 kX21 kX22 kX23 kX24
    replace X2:=X2.below hb4 X2.lt
    obtain ⟨⟨kX20,kX21,kX22,kX23,kX24⟩,-⟩:=X2.c5
    clear kX30 kX31 fX30 fX31
    replace X3:=X3.below hb4 X3.lt
    obtain ⟨⟨kX30,kX31⟩,fX30,fX31⟩:=X3.c2
    replace hbw:=hbw.trans (hb4.mono (by omega))
    obtain ⟨A1,c1,rfl⟩:=own_shape hown
    have hr5:=Rd.of_own hown
    have hle5:=hr5.le
    have hcap5:=hr5.cap
    have HL:=Lib.hid (rdo_len hr5)
    have HR5:=Lib.hid hr5
    have HOW:=Lib.hid hown
    clear hb4 hown hr5 hr2
    obtain ⟨n1,hn1⟩:∃ n,n=b.bids.length + b.asks.length:=⟨_,rfl⟩
    rw [← hn1] at HR5 HL HOW hle5 HE2 hlen
    rw [← hn1]
    clear hn1
    by_cases h40:n1=40
    ·have HE3:=Lib.hid (HE2.out.trans (if_pos h40))
     have h40':((n1:Int) == 40)=true:=by simp;omega
     clear h40 HE2
     go_wp2_with fail
     refine bodyPost_ret (v:=.tuple #[.agg #[.slice none 0 0,.slice none 0 0],.int .i64 (7)]) (by simp [results,Try.results89,go_sem, *]) rfl ?_
     exact retRest_zero HE3.out ((Below.setCell hbw (by dsimp only;omega) _).setCell (by dsimp only;omega) _)
    ·have HE3:=Lib.hid (HE2.out.trans (if_neg h40))
     have h40':((n1:Int) == 40)=false:=by simp;omega
     have h41:n1 < 40:=by omega
     have HM:=Lib.hid (meets_head HBK.out HO.out)
     have HPR:=Lib.hid (show ∀ x ∈ b.bids ++ b.asks,1 ≤ x.price∧x.price ≤ 10000 from fun x hx=>by
      rcases List.mem_append.1 hx with q | q
      ·exact (ordErr_ok.1 (HBK.out.bids.ok x q)).2.2.2.1
      ·exact (ordErr_ok.1 (HBK.out.asks.ok x q)).2.2.2.1)
     have HX1:=Lib.hid X1
     have HX2:=Lib.hid X2
     have HX3:=Lib.hid X3
     clear h40 HE2 X1 X2 X3 kX10 kX11 kX20 kX21 kX22 kX23 kX24 kX30 kX31 fX30 fX31
     go_wp2_with fail
     go_loopw [38] (fun i wr=>∃ j:Nat,j ≤ n1∧i=.int .i64 j∧Below w4.heap.size w4 wr∧Hid (((b.bids ++ b.asks).take j).any (metB o)=false)) (fun i _=>n1 - (intOf i).toNat)
     case atStart=>exact ⟨0,Nat.zero_le _,rfl,Below.refl _ _,rfl⟩
     case round =>
      obtain ⟨j,hj,rfl,hbr,HP⟩:=hrel
      have hws:=hbr.size
      have X1:=HX1.out.below hbr HX1.out.lt
      have X2:=HX2.out.below hbr HX2.out.lt
      have X3:=HX3.out.below hbr HX3.out.lt
      have hbwr:=hbw.trans (hbr.mono (by omega))
      obtain ⟨⟨kX10,kX11⟩,-⟩:=X1.c2
      obtain ⟨⟨kX20,kX21,kX22,kX23,kX24⟩,-⟩:=X2.c5
      obtain ⟨⟨kX30,kX31⟩,fX30,fX31⟩:=X3.c2
      by_cases hlt:j < n1
      ·obtain ⟨bb,oo,x,rfl,hbb,hx,k0,k1,k2,k3,k4⟩:=od_at (HR5.out.below hbr) hlt
       have x1:bb < wr.heap.size:=by omega
       have x2:w.heap.size + 1 < wr.heap.size:=by omega
       have x3:w.heap.size + 1 + 1 < wr.heap.size:=by omega
       have x4:w.heap.size < wr.heap.size:=by omega
       have hpx:=Lib.hid (HPR.out x (List.mem_of_getElem? hx))
       have HX:=Lib.hid hx
       clear hx
       have HMX:Hid (∀ c,metB o x=c→((b.bids ++ b.asks).take (j + 1)).any (metB o)=c):=Lib.hid (fun c hc=>by
        rw [List.take_add_one,HX.out,List.any_append,HP.out,Bool.false_or];simp [hc])
       by_cases hsd:x.side=o.side
       ·have hs':(x.side != o.side)=false:=by simpa using hsd
        have HN:=Lib.hid (HMX.out false (by unfold metB;simp [hsd]))
        clear hsd
        go_wp2_with fail
        go_roundw
        case rel=>exact ⟨j + 1,by omega,by go_num,hbr.alloc (by omega) _,HN⟩
        case measure=>simp [intOf];omega
       ·have hs':(x.side != o.side)=true:=by simpa using hsd
        have HMC:=Lib.hid (show metB o x=crossesB o x.price by unfold metB;simp [hsd])
        have HME:=Lib.hid (rmeets_any o x.price (wr.alloc (.cells #[.int .i64 x.id,.int .i64 x.acc,.int .i64 x.side,.int .i64 x.price,.int .i64 x.qty] 71)) HO.out hpx.out)
        have hb0:Below wr.heap.size wr (wr.alloc (.cells #[.int .i64 x.id,.int .i64 x.acc,.int .i64 x.side,.int .i64 x.price,.int .i64 x.qty] 71)):=(Below.refl _ _).alloc (Nat.le_refl _) _
        clear hsd
        rcases (bool_cs (crossesB o x.price)).symm with hc | hc
        ·have HE4:=Lib.hid (show restOf b o=(zeroBk,9) by
          rw [HE3.out,if_pos]
          rw [← HM.out,← List.take_append_drop (j + 1) (b.bids ++ b.asks),List.any_append,HMX.out true (HMC.out.trans hc),Bool.true_or])
         rw [hc] at HME
         clear hc
         go_wp2_with (go_at_call 149;(with_reducible refine HME.out.mono ?_);rintro e w7 ⟨rfl,hb7⟩;have hb8:=hb0.trans (hb7.mono (by simp));obtain ⟨⟨z0,z1⟩,fz0,fz1⟩:=(X3.below hb8 X3.lt).c2)
         have hs8:=hb8.size
         have hbw8:=hbwr.trans (hb8.mono (by omega))
         refine bodyPost_ret (v:=.tuple #[.agg #[.slice none 0 0,.slice none 0 0],.int .i64 9]) (by simp [results,Try.results89,go_sem, *]) rfl ?_
         exact retRest_zero HE4.out ((Below.setCell hbw8 (by dsimp only;omega) _).setCell (by dsimp only;omega) _)
        ·have HN:=Lib.hid (HMX.out false (HMC.out.trans hc))
         rw [hc] at HME
         clear hc
         go_wp2_with (go_at_call 149;(with_reducible refine HME.out.mono ?_);rintro e w7 ⟨rfl,hb7⟩;have hb8:=hb0.trans (hb7.mono (by simp)))
         have hbr8:=hbr.trans (hb8.mono (by omega))
         clear hb7 hb8 hb0
         go_roundw
         case rel=>exact ⟨j + 1,by omega,by go_num,hbr8,HN⟩
         case measure=>simp [intOf];omega
      ·have hjn:j=n1:=by omega
       have HE4:=Lib.hid (show restOf b o=(setOwn b o.side (insO o (ownOf b o.side)),0) by
        rw [HE3.out,if_neg]
        rw [← HM.out]
        have:=HP.out
        rw [hjn,List.take_of_length_le (by rw [HL.out];exact Nat.le_refl _)] at this
        rw [this];simp)
       have HBO:=Lib.hid (bkOf_rest HBK.out HO.out HNH.out)
       have HOW2:=Lib.hid (own_below HOW.out hbr (Nat.le_refl _))
       clear hjn HE3
       have x2:w.heap.size + 1 < wr.heap.size:=by omega
       have x3:w.heap.size + 1 + 1 < wr.heap.size:=by omega
       go_wp2_with (at_builtin;refine wpList_app rfl _ _ _ rfl w3.heap.size _ _ _ elem_od (.slice A1 n1 c1) _ _ rfl (World.ownsRow.alloc HOW2.out _) (wr.heap.size + 1) _ 1 1 (odCells [o]) rfl (rd_one_od wr o wr.heap.size rfl) (odCells_one _) (by unfold maxLen;omega) (by omega) (by simp;omega) ?_;intro v1 w7 hown7 hbel7 hgr7 hat7;obtain ⟨A7,c7,rfl⟩:=own_shape hown7)
       have hb9:Below w3.heap.size wr w7:=((Below.refl _ _).alloc (by omega) _).trans hbel7
       have hs9:=hb9.size
       have hbw9:=hbwr.trans (hb9.mono (by omega))
       have X39:=X3.below hb9 (by omega)
       rw [← odCells_app] at hown7
       refine (rbookOf_any (b.bids ++ b.asks ++ [o]) _ _ _ w7.heap.size (setOwn b o.side (insO o (ownOf b o.side))) w7 (Rd.of_own hown7) (Nat.le_refl _) HBO.out (by omega)).mono ?_
       rintro e w8 ⟨v8,rfl,ho8,hb8⟩
       obtain ⟨P1,p1,P1',p1',rfl,H8⟩:=ho8.obk
       have hs8:=hb8.size
       have hbw8:=hbw9.trans (hb8.mono (by omega))
       obtain ⟨⟨z0,z1⟩,fz0,fz1⟩:=(X39.below hb8 X39.lt).c2
       clear hown7 hbel7 hgr7 hat7
       go_wp2_with fail
       refine bodyPost_ret (v:=.tuple #[.agg #[.slice P1 (setOwn b o.side (insO o (ownOf b o.side))).bids.length p1,.slice P1' (setOwn b o.side (insO o (ownOf b o.side))).asks.length p1'],.int .i64 0]) (by simp [results,Try.results89,go_sem, *]) rfl ?_
       rw [HE4.out]
       refine ⟨_,rfl,⟨P1,p1,P1',p1',rfl,?_,?_⟩,(hbw8.setCell (by dsimp only;omega) _).setCell (by dsimp only;omega) _⟩
       ·exact own_mono (ownsRow_setCell_below (ownsRow_setCell_below H8.l (by dsimp only;omega) _) (by dsimp only;omega) _) (by omega)
       ·exact own_mono (ownsRow_setCell_below (ownsRow_setCell_below H8.r (by dsimp only;omega) _) (by dsimp only;omega) _) (by omega)
end
section
open Go.RowKit
theorem any_next {p:Int→Bool} {L:List Int} {j:Nat} {x:Int} (hx:L[j]?=some x) (hp:p x=false) (hb:(L.take j).any p=false):(L.take (j + 1)).any p=false:=by
 rw [List.take_add_one,hx]
 simp only [Option.toList,List.any_append,hb,List.any_cons,List.any_nil,hp];rfl
theorem any_found {p:Int→Bool} {L:List Int} {j:Nat} {x:Int} (hx:L[j]?=some x) (hp:p x=true):L.any p=true:=by
 rw [List.any_eq_true];exact ⟨x,List.mem_of_getElem? hx,hp⟩
theorem bool_csI (b:Bool):b=true∨b=false:=by cases b <;> simp
end
section
open Go.RowKit
set_option maxHeartbeats 1000000 in
theorem index_int (v:Int) (A:Option Addr) (n c:Nat) (L:List Int) (B:Nat) (w:World) (h:Rd w B 1 A n c (ints L)) (_hB:B ≤ w.heap.size) :
  Calls Try.prog 167 #[.slice A n c,.int .i64 v] w fun e w'=>(∃ j:Int,e=.returned (.int .i64 j)∧decide (0 ≤ j)=L.any (fun x=>v == x))∧w=w':=by
 have hle:=h.le
 have hcap:=h.cap
 have HL:=Lib.hid h.ofInts
 unfold maxLen at hcap
 go_enter Try.func167,Try.ntmps167
 go_wp2_with fail
 go_loopw [8] (fun i wr=>∃ j:Nat,j ≤ n∧i=.int .i64 j∧w=wr∧Hid ((L.take j).any (fun x=>v == x)=false)) (fun i _=>n - (intOf i).toNat)
 case atStart=>exact ⟨0,Nat.zero_le _,rfl,rfl,rfl⟩
 case round =>
  obtain ⟨j,hj,rfl,rfl,HP⟩:=hrel
  by_cases hlt:j < n
  ·obtain ⟨b,o',rfl,hb,x,hx,k0⟩:=h.int hlt
   have HX:=Lib.hid hx
   clear hx
   rcases bool_csI (v == x) with hp | hp
   ·have HE:=Lib.hid (any_found (p:=fun x=>v == x) HX.out hp)
    go_wp2_with fail
    go_ret
    exact ⟨⟨_,rfl,by rw [HE.out];simp⟩,rfl⟩
   ·have HN:=Lib.hid (any_next (p:=fun x=>v == x) HX.out hp HP.out)
    go_wp2_with fail
    go_roundw
    case rel=>exact ⟨j + 1,by omega,by go_num,trivial,HN⟩
    case measure=>simp [intOf];omega
  ·have hjn:j=n:=by omega
   have HE:=Lib.hid (show L.any (fun x=>v == x)=false by have:=HP.out;rw [hjn,List.take_of_length_le (by rw [HL.out];exact Nat.le_refl _)] at this;exact this)
   clear hjn
   go_wp2_with fail
   go_ret
   exact ⟨⟨_,rfl,by rw [HE.out];rfl⟩,rfl⟩
set_option maxHeartbeats 400000 in
theorem contains_int (v:Int) (A:Option Addr) (n c:Nat) (L:List Int) (B:Nat) (w:World) (h:Rd w B 1 A n c (ints L)) (hB:B ≤ w.heap.size) :
  Calls Try.prog 147 #[.slice A n c,.int .i64 v] w fun e w'=>e=.returned (.bool (decide (v ∈ L)))∧w=w':=by
 have HD:=Lib.hid (show L.any (fun x=>v == x)=decide (v ∈ L) by
  rw [Bool.eq_iff_iff,List.any_eq_true,decide_eq_true_iff]
  constructor
  ·rintro ⟨x,hx,e⟩;rw [show v=x by simpa using e];exact hx
  ·intro hv;exact ⟨v,hv,beq_self_eq_true v⟩)
 go_enter Try.func147,Try.ntmps147
 go_wp2_with fail
 refine (index_int v A n c L B _ h hB).mono ?_
 rintro e w1 ⟨⟨j,rfl,hj⟩,rfl⟩
 have HJ:=Lib.hid hj
 go_wp2_with fail
 go_ret
 exact ⟨ret_bb HD.out,rfl⟩
end
end Go.Proofs.Ytockodmbhnlheaa
