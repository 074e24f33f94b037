/-
  Contracts of the program's functions, and plain facts, that the laws VenueKeeps, VenueOthers, VenueCancels, VenueCash, VenueReady rest on (joined texts): VenueOps3, VenueSweep, DOther.
-/
import Derived.Test.YtockodmbhnlheaaM08
import Derived.Test.YtockodmbhnlheaaM01
import Derived.Test.YtockodmbhnlheaaM02
import Derived.Test.YtockodmbhnlheaaM06
import Derived.Test.YtockodmbhnlheaaM07
import Derived.Test.YtockodmbhnlheaaM05
import Derived.Test.YtockodmbhnlheaaProg
import Derived.Maps.AppendAt
import Derived.Laws.AppendOwnNone
import Derived.OwnWalk
import Derived.Test.YtockodmbhnlheaaM03
import Derived.Deep.RegionHeld3
import Derived.Lib.AppendZeros
import Derived.Test.YtockodmbhnlheaaM04
import Derived.WalkKit
import Derived.WalkSpells
import Derived.WalkLawsBesides
import Derived.Lib.Hide
import Derived.Laws.CopyOwn
import Derived.Lib.AppendZerosOnto
import Derived.Lib.Overlaps
import Derived.Laws.Externs
import Derived.Deep.RegionLaw
import Derived.Maps.Own
import Derived.Maps.OwnOps
import Derived.Maps.Views
import Derived.Deep.QuietTactic
import Derived.BigQuiet
import Derived.Deep.Draws
import Derived.IntWalk
import Derived.Deep.DeepCutAuto
import Derived.RegionTactic
import Derived.ChangeAlike
namespace Go.Proofs.Ytockodmbhnlheaa
section
theorem come_mk {v:Vn} {mk:Nat} {o:Od} {x:Bk} (h:VOk v) (hm:mk < v.mks.length) (hx:BookOk x) (ha:thereB v.accs o.acc=true) (hi:o.id < v.next)
  (hy:∀ y ∈ x.bids ++ x.asks,(∃ z ∈ (mkAt v mk).book.bids ++ (mkAt v mk).book.asks,sameBut z y)∨y.id=o.id∧y.acc=o.acc) :
  marketErr { mkAt v mk with book:=x }=0∧∀ y ∈ x.bids ++ x.asks,thereB v.accs y.acc=true∧y.id < v.next:=by
 obtain ⟨k1,k2⟩:=mkAt_ok h hm
 have:=marketErr_ok.1 k1
 refine ⟨marketErr_ok.2 ⟨hx,this.2⟩,fun y hy'=>?_⟩
 rcases hy y hy' with ⟨z,hz,e1,e2,_⟩ | ⟨e1,e2⟩
 ·rw [← e1,← e2];exact k2 z hz
 ·rw [e1,e2];exact ⟨ha,hi⟩
theorem fills_ok {b:Bk} {o:Od} {l:List Fl} (hb:BookOk b) (hs:o.side=1∨o.side = -1) (hf:∀ f ∈ l,∃ z ∈ b.bids ++ b.asks,f.maker=z.id∧f.macc=z.acc∧f.price=z.price∧(1 ≤ f.qty∧f.qty ≤ z.qty)∧f.side=o.side∧f.tacc=o.acc∧z.acc ≠ o.acc) :
  ∀ f ∈ l,(1 ≤ f.qty∧f.qty ≤ 1000)∧(f.side=1∨f.side = -1)∧(0 ≤ f.price∧f.price ≤ 10000):=by
 intro f hf'
 obtain ⟨z,hz,_,_,e3,e4,e5,_⟩:=hf f hf'
 have:=ordErr_ok.1 (own_mem hb hz).2
 exact ⟨by omega,by rw [e5];exact hs,by omega⟩
def leftEv (mk:Nat) (id acc left:Int):List Ev:=if 0 < left then [⟨4,0,mk,id,acc,left,zeroFl⟩] else []
structure Came (c:Cm) (o:Od) (k mk:Nat) (d d':Dk) (b:Bk) (l:List Fl) (left:Int):Prop where
 come:comeOf (mkAt d.v mk).book o c.how=(b,l,left,0)
 step:Step true d d' (fillEvs mk l ++ leftEv mk o.id c.acc left)
 ids:d'.v.accs.map (·.id)=d.v.accs.map (·.id)
 book:(mkAt d'.v mk).book=b∧(mkAt d'.v mk).index=(mkAt d.v mk).index∧∀ j,j ≠ mk→mkAt d'.v j=mkAt d.v j
 nums:d'.v.resid=d.v.resid∧d'.v.next=d.v.next∧d'.v.inn=d.v.inn∧d'.v.out=d.v.out
 none:l = []→d'.v.accs=d.v.accs∧d'.v.ins=d.v.ins∧(mkAt d'.v mk).last=(mkAt d.v mk).last
 begin_:c.reduce=false→∃ t,tradeOf (accAt d'.v k) mk (o.side * (o.qty - left - qtySum l)) o.price 0=(t,0)∧beginErr d'.v t=0
theorem setMk_at {v:Vn} {k j:Nat} {m:Mk} (h:k < v.mks.length):mkAt (setMk v k m) j=if j=k then m else mkAt v j:=by
 show ((v.mks.set k m)[j]?).getD zeroMk=_
 rw [set_at (mkAt_some h)]
 by_cases hj:j=k
 ·rw [if_pos hj,if_pos hj];rfl
 ·rw [if_neg hj,if_neg hj];rfl
theorem comes_ok {c:Cm} {o:Od} {k mk:Nat} {d d':Dk} (h:VOk d.v) (hm:mk < d.v.mks.length) (ha:thereB d.v.accs o.acc=true) (hi:o.id < d.v.next) (hc:comesE c o k mk d=.ok d') :
  ∃ b l left,Came c o k mk d d' b l left:=by
 unfold comesE at hc
 obtain ⟨e1,hc⟩:=okIf_ok hc
 obtain ⟨b,l,left,e,hcm⟩:∃ b l left e,comeOf (mkAt d.v mk).book o c.how=(b,l,left,e):=⟨_,_,_,_,rfl⟩
 rw [hcm] at e1 hc
 simp only at e1 hc
 subst e1
 obtain ⟨hb,ho,hy,hf,hl0,hl2,hq,_⟩:=come_more hcm
 have hbk:=(marketErr_ok.1 (mkAt_ok h hm).1).1
 obtain ⟨m1,m2⟩:=come_mk h hm hb ha hi hy
 have s1:=step_mk (place:=true) (d:=d) (k:=mk) (m:={ mkAt d.v mk with book:=b }) h m1 m2
 obtain ⟨d1,hd1,hc⟩:=bindE_ok hc
 obtain ⟨s2,i2,b2,r2,n2,_,e2⟩:=step_fills (place:=true) (mk:=mk) (l:=l) (d:=⟨setMk d.v mk { mkAt d.v mk with book:=b },d.ev⟩) s1.ok (fills_ok hbk (ordErr_ok.1 ho).2.2.1 hf) (by rw [s1.len];exact hm) hd1
 have s12:=s1.trans s2
 rw [List.nil_append] at s12
 obtain ⟨d2,hd2⟩:∃ d2,d2=(if 0 < left then tell d1 ⟨4,0,mk,o.id,c.acc,left,zeroFl⟩ else d1):=⟨_,rfl⟩
 have hv2:d2.v=d1.v:=by rw [hd2];split <;> rfl
 have s3:Step true d1 d2 (leftEv mk o.id c.acc left):=by
  rw [hd2];unfold leftEv
  split
  ·exact step_tell s2.ok (.inr rfl)
  ·exact Step.refl s2.ok
 rw [← hd2] at hc
 have hat:=fun j=>setMk_at (v:=d.v) (k:=mk) (j:=j) (m:={ mkAt d.v mk with book:=b }) hm
 have hd':d'=d2∧(c.reduce=false→∃ t,tradeOf (accAt d2.v k) mk (o.side * (o.qty - left - qtySum l)) o.price 0=(t,0)∧beginErr d2.v t=0):=by
  cases hr:c.reduce with
  | true=>rw [hr,if_pos rfl] at hc;injection hc with hc;exact ⟨hc.symm,fun h=>by cases h⟩
  | false =>
   rw [hr,if_neg (by simp)] at hc
   obtain ⟨g1,hc⟩:=okIf_ok hc
   obtain ⟨g2,hc⟩:=okIf_ok hc
   injection hc with hc
   exact ⟨hc.symm,fun _=>⟨_,Prod.ext rfl g1,g2⟩⟩
 obtain ⟨rfl,hbg⟩:=hd'
 refine ⟨b,l,left,hcm,s12.trans s3,by rw [hv2];exact i2,?_,by rw [hv2];exact r2,fun hl=>?_,hbg⟩
 ·rw [hv2]
  have b0:=b2 mk
  rw [hat,if_pos rfl] at b0
  refine ⟨b0.1,b0.2.1,fun j hj=>?_⟩
  have b1:=(b2 j).2.2 hj
  rw [b1,hat,if_neg hj]
 ·rw [hv2,e2 hl]
  exact ⟨rfl,rfl,by rw [hat,if_pos rfl]⟩
def orderO (c:Cm) (v:Vn):Od :=
 let o:Od:={ c.o with id:=v.next,acc:=c.acc }
 if c.reduce then { o with qty:=min o.qty (max ((accAt v (placeOf v.accs c.acc)).pos.getD c.market.toNat 0) (-(accAt v (placeOf v.accs c.acc)).pos.getD c.market.toNat 0)) } else o
def orderD (c:Cm) (d:Dk):Dk:=tell ⟨{ d.v with next:=d.v.next + 1 },d.ev⟩ ⟨2,0,c.market.toNat,d.v.next,c.acc,0,zeroFl⟩
theorem order_ok {c:Cm} {d d':Dk} (h:VOk d.v) (hc:orderE c d=.ok d') :
  ∃ b l left,Came c (orderO c d.v) (placeOf d.v.accs c.acc) c.market.toNat (orderD c d) d' b l left∧VOk (orderD c d).v∧(0 ≤ c.market∧c.market < d.v.mks.length)∧thereB d.v.accs c.acc=true∧ordErr { c.o with id:=d.v.next,acc:=c.acc }=0 ∧
   Step true d d' ([⟨2,0,c.market.toNat,d.v.next,c.acc,0,zeroFl⟩] ++ (fillEvs c.market.toNat l ++ leftEv c.market.toNat d.v.next c.acc left))∧d'.v.next=d.v.next + 1 ∧
   (c.reduce=true→c.how=2∧(accAt d.v (placeOf d.v.accs c.acc)).pos.getD c.market.toNat 0 * c.o.side < 0):=by
 unfold orderE at hc
 simp only at hc
 split at hc
 ·cases hc
 rename_i h1
 split at hc
 ·cases hc
 rename_i h2
 split at hc
 ·cases hc
 rename_i h3
 split at hc
 ·cases hc
 rename_i h4
 split at hc
 ·cases hc
 rename_i h5
 have hnx:=h.nums.next
 have hacc:thereB d.v.accs c.acc=true:=by
  rw [← Bool.not_eq_false];intro h;exact h3 (.inl h)
 have hst:VOk (orderD c d).v:=⟨h.len,h.accs,⟨h.nums.ins,h.nums.resid,by simp only [orderD,tell];omega,h.nums.inn,h.nums.out⟩,h.money,h.pos,mok_there h.mks (fun _ h=>h) (by simp only [orderD,tell];omega)⟩
 have e:(if c.reduce=true then { id:=d.v.next,acc:=c.acc,side:=c.o.side,price:=c.o.price,qty:=min c.o.qty (max ((accAt d.v (placeOf d.v.accs c.acc)).pos.getD c.market.toNat 0) (-(accAt d.v (placeOf d.v.accs c.acc)).pos.getD c.market.toNat 0)) } else { id:=d.v.next,acc:=c.acc,side:=c.o.side,price:=c.o.price,qty:=c.o.qty:Od })=orderO c d.v:=rfl
 rw [e] at hc
 have hO:(orderO c d.v).acc=c.acc∧(orderO c d.v).id=d.v.next:=by unfold orderO;cases c.reduce <;> exact ⟨rfl,rfl⟩
 obtain ⟨b,l,left,hcm⟩:=comes_ok (d:=orderD c d) (d':=d') hst (by simp only [orderD,tell];omega) (by rw [hO.1];exact hacc) (by rw [hO.2];simp only [orderD,tell];omega) hc
 have s1:Step true d (orderD c d) [⟨2,0,c.market.toNat,d.v.next,c.acc,0,zeroFl⟩]:=by
  refine ⟨hst,rfl,by simp,by simp,by simp,fun id=>?_,fun k id=>?_,rfl,fun _ h=>h,?_⟩
  ·simp [moneySum,evMoney,orderD,tell]
  ·simp [posSumE,evPos,orderD,tell]
  ·simp only [orderD,tell];omega
 have s2:=hcm.step
 rw [hO.2] at s2
 refine ⟨b,l,left,hcm,hst,by omega,hacc,Classical.not_not.1 h1,s1.trans s2,hcm.nums.2.1,fun hr=>⟨?_,?_⟩⟩
 ·by_cases hh:c.how=2
  ·exact hh
  ·exact absurd ⟨hr,hh⟩ h2
 ·by_cases hh:(accAt d.v (placeOf d.v.accs c.acc)).pos.getD c.market.toNat 0 * c.o.side < 0
  ·exact hh
  ·exact absurd ⟨hr,by omega⟩ h5
theorem remove_sub {b x:Bk} {id:Int} {o:Od} (h:removeOf b id=(x,o,0)):BookOk x∧∀ y ∈ x.bids ++ x.asks,y ∈ b.bids ++ b.asks:=by
 obtain ⟨hb,hm,_,rfl⟩:=remove_ok h
 refine ⟨book_del hb _ _,fun y hy=>?_⟩
 rcases mem_setOwn hy with hy | hy
 ·exact hy
 ·exact mem_own (mem_delO.1 hy).1
theorem cancel_at {c:Cm} {d d':Dk} (h:VOk d.v):∀ {M:List Mk} {i:Nat},(∀ j m,M[j]?=some m→d.v.mks[i + j]?=some m)→cancelE c d i M=.ok d' →
  ∃ j x o,removeOf (mkAt d.v j).book c.n=(x,o,0)∧o.acc=c.acc∧o.id=c.n∧j < d.v.mks.length∧i ≤ j∧(∀ k,i ≤ k→k < j→¬ ((removeOf (mkAt d.v k).book c.n).2.2=0∧(removeOf (mkAt d.v k).book c.n).2.1.acc=c.acc))∧d'=tell ⟨setMk d.v j { mkAt d.v j with book:=x },d.ev⟩ ⟨4,0,j,o.id,o.acc,o.qty,zeroFl⟩
 | [],i,_,hc=>by cases hc
 | m :: M,i,hM,hc=>by
  unfold cancelE at hc
  have hat:=hM 0 m rfl
  rw [Nat.add_zero] at hat
  have hm:mkAt d.v i=m:=getD_some hat
  split at hc
  ·rename_i h1
   injection hc with hc
   obtain ⟨x,o,e,hr⟩:∃ x o e,removeOf m.book c.n=(x,o,e):=⟨_,_,_,rfl⟩
   rw [hr] at h1 hc
   simp only at h1 hc
   obtain ⟨rfl,h2⟩:=h1
   exact ⟨i,x,o,by rw [hm];exact hr,h2,(remove_ok hr).2.2.1,(List.getElem?_eq_some_iff.1 hat).1,Nat.le_refl _,fun k h1 h2=>by omega,by rw [← hc,hm]⟩
  ·rename_i h1
   obtain ⟨j,x,o,k1,k2,k3,k4,k5,k6,k7⟩:=cancel_at h (M:=M) (i:=i + 1) (fun j m' hj=>by have:=hM (j + 1) m' (by simpa using hj);rw [show i + 1 + j=i + (j + 1) by omega];exact this) hc
   refine ⟨j,x,o,k1,k2,k3,k4,by omega,fun k h1' h2'=>?_,k7⟩
   by_cases hk:k=i
   ·rw [hk,hm];exact h1
   ·exact k6 k (by omega) h2'
theorem cancel_step {place:Bool} {c:Cm} {d d':Dk} (h:VOk d.v) (hc:cancelE c d 0 d.v.mks=.ok d') :
  ∃ j x o,removeOf (mkAt d.v j).book c.n=(x,o,0)∧o.acc=c.acc∧o.id=c.n∧j < d.v.mks.length∧(∀ k,k < j→¬ ((removeOf (mkAt d.v k).book c.n).2.2=0∧(removeOf (mkAt d.v k).book c.n).2.1.acc=c.acc))∧d'=tell ⟨setMk d.v j { mkAt d.v j with book:=x },d.ev⟩ ⟨4,0,j,o.id,o.acc,o.qty,zeroFl⟩ ∧
   Step place d d' [⟨4,0,j,o.id,o.acc,o.qty,zeroFl⟩]:=by
 obtain ⟨j,x,o,k1,k2,k3,k4,_,k6,rfl⟩:=cancel_at (i:=0) h (fun j m hj=>by rw [Nat.zero_add];exact hj) hc
 obtain ⟨x1,x2⟩:=remove_sub k1
 obtain ⟨m1,m2⟩:=mkAt_ok h k4
 have hm:=marketErr_ok.1 m1
 have s1:=step_mk (place:=place) (d:=d) (k:=j) (m:={ mkAt d.v j with book:=x }) h (marketErr_ok.2 ⟨x1,hm.2⟩) (fun y hy=>m2 y (x2 y hy))
 have s2:=step_tell (place:=place) (d:=⟨setMk d.v j { mkAt d.v j with book:=x },d.ev⟩) (x:=⟨4,0,j,o.id,o.acc,o.qty,zeroFl⟩) s1.ok (.inr rfl)
 exact ⟨j,x,o,k1,k2,k3,k4,fun k hk=>k6 k (Nat.zero_le _) hk,rfl,by have:=s1.trans s2;simpa using this⟩
theorem settled_ids {market mark rate:Int}:∀ {L out:List Ac},out.length=L.length→(∀ (i:Nat) (a b:Ac),L[i]?=some a→out[i]?=some b→∃ p,Settled market mark rate a b p)→out.map (·.id)=L.map (·.id)∧(∀ m,AOk m L→AOk m out)∧(∀ k,posSum k out=posSum k L)
 | [],[],_,_=>⟨rfl,fun _ h=>h,fun _=>rfl⟩
 | [],b :: out,hl,_=>by simp at hl
 | a :: L,[],hl,_=>by simp at hl
 | a :: L,b :: out,hl,hs=>by
  obtain ⟨p,hp⟩:=hs 0 a b rfl rfl
  obtain ⟨k1,k2,k3⟩:=settled_ids (L:=L) (out:=out) (by simpa using hl) (fun i x y hx hy=>hs (i + 1) x y (by simpa using hx) (by simpa using hy))
  have e:=hp.eq
  have e1:b.id=a.id:=by rw [e]
  have e2:b.pos=a.pos:=by rw [e]
  have hids:(b :: out).map (·.id)=(a :: L).map (·.id):=by simp only [List.map_cons,k1,e1]
  refine ⟨hids,fun m hm=>?_,fun k=>by rw [posSum_cons,posSum_cons,k3,e2]⟩
  have hsub:AOk m L:=⟨fun x hx=>hm.ok x (by simp [hx]),(List.pairwise_cons.1 hm.sorted).2⟩
  refine ⟨fun x hx=>?_,?_⟩
  ·rcases List.mem_cons.1 hx with rfl | hx
   ·have hc:=accCheck_ok (hm.ok a (by simp))
    exact accCheck_mk (by rw [e1];exact hc.1) hc.2.1 (by rw [e2];exact hc.2.2.1) (isMoney_iff.1 hp.money) (by rw [e2];exact hc.2.2.2.2)
   ·exact (k2 m hsub).ok x hx
  ·rw [sortedA_map,hids,← sortedA_map];exact hm.sorted
theorem settled_bal {place:Bool} {market mark rate:Int} {m:Nat}:∀ {L out:List Ac},out.length=L.length→AOk m L→AOk m out→(∀ (i:Nat) (a b:Ac),L[i]?=some a→out[i]?=some b→∃ p,Settled market mark rate a b p) →
  (∀ id,balOf out id=balOf L id + moneySum place (movedEvs out L) id)∧(∀ k id,posOf out k id=posOf L k id)∧(∀ x ∈ movedEvs out L,x.kind=5∧(0 ≤ x.acc∧x.acc ≤ 7)∧(-2000000000000 ≤ x.n∧x.n ≤ 2000000000000))∧∀ k id,posSumE (movedEvs out L) k id=0
 | [],[],_,_,_,_=>⟨fun _=>by simp [movedEvs,moneySum],fun _ _=>rfl,by simp [movedEvs],fun _ _=>by simp [movedEvs,posSumE]⟩
 | [],b :: out,hl,_,_,_=>by simp at hl
 | a :: L,[],hl,_,_,_=>by simp at hl
 | a :: L,b :: out,hl,ha,hb,hs=>by
  obtain ⟨p,hp⟩:=hs 0 a b rfl rfl
  have ha':AOk m L:=⟨fun x hx=>ha.ok x (by simp [hx]),(List.pairwise_cons.1 ha.sorted).2⟩
  have hb':AOk m out:=⟨fun x hx=>hb.ok x (by simp [hx]),(List.pairwise_cons.1 hb.sorted).2⟩
  obtain ⟨k1,k2,k3,k4⟩:=settled_bal (place:=place) (L:=L) (out:=out) (by simpa using hl) ha' hb' (fun i x y hx hy=>hs (i + 1) x y (by simpa using hx) (by simpa using hy))
  have e:=hp.eq
  have e1:b.id=a.id:=by rw [e]
  have e2:b.pos=a.pos:=by rw [e]
  have c1:=accCheck_ok (ha.ok a (by simp))
  have c2:=accCheck_ok (hb.ok b (by simp))
  have hof:∀ (x:Ac) (l:List Ac) (id:Int),accOf (x :: l) id=if x.id=id then x else accOf l id:=by
   intro x l id
   unfold accOf
   by_cases h:x.id=id
   ·rw [List.find?_cons_of_pos (by simpa using h),if_pos h];rfl
   ·rw [List.find?_cons_of_neg (by simpa using h),if_neg h]
  have hz:∀ id,id=a.id→moneySum place (movedEvs out L) id=0:=by
   intro id hid
   have n1:thereB L id=false:=there_not.2 fun x hx e=>by have:=(List.pairwise_cons.1 ha.sorted).1 x hx;omega
   have n2:thereB out id=false:=there_not.2 fun x hx e=>by have:=(List.pairwise_cons.1 hb.sorted).1 x hx;omega
   have:=k1 id
   unfold balOf at this
   rw [accOf_none n1,accOf_none n2] at this
   omega
  refine ⟨fun id=>?_,fun k id=>?_,?_,?_⟩
  ·show (accOf (b :: out) id).bal=(accOf (a :: L) id).bal + moneySum place (_ ++ movedEvs out L) id
   rw [hof,hof,moneySum_app]
   by_cases hid:a.id=id
   ·rw [if_pos (e1.trans hid),if_pos hid,hz id hid.symm]
    split
    ·simp [moneySum,evMoney_moved,← hid];omega
    ·simp [moneySum];omega
   ·rw [if_neg (by rw [e1];exact hid),if_neg hid]
    have:=k1 id
    unfold balOf at this
    rw [this]
    have hne:¬ id=a.id:=fun e=>hid e.symm
    split
    ·simp [moneySum,evMoney_moved,e1,hne]
    ·simp [moneySum]
  ·rw [posOf_def,posOf_def,hof,hof]
   by_cases hid:a.id=id
   ·rw [if_pos (e1.trans hid),if_pos hid,e2]
   ·rw [if_neg (by rw [e1];exact hid),if_neg hid];exact k2 k id
  ·intro x hx
   rcases List.mem_append.1 hx with hx | hx
   ·split at hx
    ·simp only [List.mem_singleton] at hx;subst hx;exact ⟨rfl,by simp only;rw [e1];exact c1.1,by simp only;omega⟩
    ·cases hx
   ·exact k3 x hx
  ·intro k id
   show posSumE (_ ++ movedEvs out L) k id=0
   rw [posSumE_app,k4]
   split
   ·simp [posSumE,evPos_moved]
   ·simp [posSumE]
theorem market_step {place:Bool} {c:Cm} {d d':Dk} (h:VOk d.v) (hc:marketE c d=.ok d'):∃ E,Step place d d' E∧d'.v.ins=d.v.ins∧d'.v.next=d.v.next∧d'.v.inn=d.v.inn∧d'.v.out=d.v.out∧(c.kind=5→E = []∧d'.v.accs=d.v.accs∧d'.v.resid=d.v.resid)∧∀ x ∈ E,x.kind=5:=by
 unfold marketE at hc
 split at hc
 ·cases hc
 rename_i hm
 have hmk:c.market.toNat < d.v.mks.length:=by omega
 obtain ⟨m1,m2⟩:=mkAt_ok h hmk
 have hmo:=marketErr_ok.1 m1
 split at hc
 ·rename_i hk
  split at hc
  ·cases hc
  rename_i hn
  injection hc with hc
  subst hc
  exact ⟨[],step_mk h (marketErr_ok.2 ⟨hmo.1,by simp only;omega,hmo.2.2⟩) m2,rfl,rfl,rfl,rfl,fun _=>⟨rfl,rfl,rfl⟩,by simp⟩
 ·rename_i hk
  obtain ⟨e1,hc⟩:=okIf_ok hc
  obtain ⟨e2,hc⟩:=okIf_ok hc
  obtain ⟨e3,hc⟩:=okIf_ok hc
  injection hc with hc
  obtain ⟨mark,hmark⟩:∃ mark,mark=(markOf (mkAt d.v c.market.toNat)).1:=⟨_,rfl⟩
  rw [← hmark] at e2 e3 hc
  obtain ⟨out,left,e,hs⟩:∃ out left e,settleOf d.v.accs c.market mark c.n=(out,left,e):=⟨_,_,_,rfl⟩
  rw [hs] at e2 e3 hc
  simp only at e2 e3 hc
  subst e2
  obtain ⟨s,hadd⟩:∃ s,addAll [d.v.resid,left]=(s,0):=⟨_,Prod.ext rfl e3⟩
  rw [hadd] at hc
  simp only at hc
  obtain ⟨a1,a2⟩:=add_two hadd
  rw [isMoney_iff] at a2
  obtain ⟨g1,g2,g3,g4,g5⟩:=settle_even hs
  obtain ⟨i1,i2,i3⟩:=settled_ids g1 g3
  have hAo:=i2 _ h.accs
  obtain ⟨b1,b2,b3,b4⟩:=settled_bal (place:=place) g1 h.accs hAo g3
  have hp0:=h.pos _ hmk
  have hn:=h.nums
  have hr:=hn.resid
  have hmoney:=h.money
  have hleft:0 ≤ left:=by
   rcases g5 with g5 | g5
   ·exact absurd hp0 g5
   ·exact g5.1
  subst hc
  refine ⟨movedEvs out d.v.accs,⟨⟨h.len,hAo,⟨hn.ins,by simp only;omega,hn.next,hn.inn,hn.out⟩,by simp only;omega,fun k hk=>by rw [i3];exact h.pos k hk,mok_there h.mks (fun id hi=>by rw [there_map i1];exact hi) (Int.le_refl _)⟩,rfl,?_,?_,?_,b1,fun k id=>?_,rfl,fun id hi=>?_,⟨Int.le_refl _,Int.le_refl _,Int.le_refl _⟩⟩,rfl,rfl,rfl,rfl,fun h5=>absurd h5 hk,fun x hx=>(b3 x hx).1⟩
  ·intro x hx;have:=(b3 x hx).1;omega
  ·intro x hx;have:=(b3 x hx).1;omega
  ·intro x hx _;have:=(b3 x hx).2;omega
  ·rw [b4];show posOf out k id=_;rw [b2];omega
  ·show thereB out id=true;rw [there_map i1];exact hi
end
section
def Quiet (id:Int) (E:List Ev):Prop:=∀ x ∈ E,((x.kind=3∨x.kind=6)→x.f.macc ≠ id∧x.f.tacc ≠ id)∧(x.kind=5→x.acc ≠ id)
theorem quiet_sum {place:Bool} {id:Int}:∀ {E:List Ev},Quiet id E→moneySum place E id=0∧∀ k,posSumE E k id=0
 | [],_=>⟨rfl,fun _=>rfl⟩
 | x :: E,h=>by
  obtain ⟨h1,h2⟩:=h x (by simp)
  obtain ⟨k1,k2⟩:=quiet_sum (place:=place) (id:=id) (E:=E) fun y hy=>h y (by simp [hy])
  have e1:evMoney place x id=0:=by
   unfold evMoney
   by_cases hk:x.kind=5
   ·rw [if_pos hk,if_neg (fun e=>h2 hk e.symm)]
   ·rw [if_neg hk]
    by_cases hf:x.kind=3∨x.kind=6
    ·rw [if_pos hf,if_neg (fun e=>(h1 hf).1 e.symm),if_neg (fun e=>(h1 hf).2 e.symm)];rfl
    ·rw [if_neg hf]
  have e2:∀ k,evPos x k id=0:=by
   intro k
   unfold evPos
   by_cases hf:(x.kind=3∨x.kind=6)∧x.market=k
   ·rw [if_pos hf,if_neg (fun e=>(h1 hf.1).2 e.symm),if_neg (fun e=>(h1 hf.1).1 e.symm)];rfl
   ·rw [if_neg hf]
  refine ⟨?_,fun k=>?_⟩
  ·simp only [moneySum,List.map_cons,List.sum_cons] at k1 ⊢;omega
  ·have:=k2 k
   have:=e2 k
   simp only [posSumE,List.map_cons,List.sum_cons] at *;omega
structure Clean (v:Vn) (id:Int):Prop where
 pos:∀ k,posOf v.accs k id=0
 ords:∀ k,∀ o ∈ (mkAt v k).book.bids ++ (mkAt v k).book.asks,o.acc ≠ id
def Less (v v':Vn):Prop:=∀ k,∀ y ∈ (mkAt v' k).book.bids ++ (mkAt v' k).book.asks,∃ z ∈ (mkAt v k).book.bids ++ (mkAt v k).book.asks,sameBut z y
theorem Less.refl (v:Vn):Less v v:=fun _ y hy=>⟨y,hy,rfl,rfl,rfl,rfl⟩
theorem Less.trans {a b c:Vn} (h:Less a b) (g:Less b c):Less a c:=by
 intro k y hy
 obtain ⟨z,hz,e1,e2,e3,e4⟩:=g k y hy
 obtain ⟨u,hu,f1,f2,f3,f4⟩:=h k z hz
 exact ⟨u,hu,f1.trans e1,f2.trans e2,f3.trans e3,f4.trans e4⟩
structure Swept (d d':Dk) (E:List Ev):Prop where
 step:Step false d d' E
 ids:d'.v.accs.map (·.id)=d.v.accs.map (·.id)
 nums:d'.v.resid=d.v.resid∧d'.v.next=d.v.next∧d'.v.inn=d.v.inn∧d'.v.out=d.v.out
 ins:d'.v.ins ≤ d.v.ins
 less:Less d.v d'.v
theorem Swept.refl {d:Dk} (h:VOk d.v):Swept d d []:=⟨Step.refl h,rfl,⟨rfl,rfl,rfl,rfl⟩,Int.le_refl _,Less.refl _⟩
theorem Swept.trans {a b c:Dk} {E F:List Ev} (h:Swept a b E) (g:Swept b c F):Swept a c (E ++ F) :=
 ⟨h.step.trans g.step,g.ids.trans h.ids,⟨g.nums.1.trans h.nums.1,g.nums.2.1.trans h.nums.2.1,g.nums.2.2.1.trans h.nums.2.2.1,g.nums.2.2.2.trans h.nums.2.2.2⟩,Int.le_trans g.ins h.ins,h.less.trans g.less⟩
theorem Swept.clean {d d':Dk} {E:List Ev} {id:Int} (h:Swept d d' E) (hc:Clean d.v id) (hq:Quiet id E):Clean d'.v id∧balOf d'.v.accs id=balOf d.v.accs id:=by
 obtain ⟨q1,q2⟩:=quiet_sum (place:=false) hq
 refine ⟨⟨fun k=>?_,fun k o ho e=>?_⟩,?_⟩
 ·rw [h.step.pos,q2,hc.pos];rfl
 ·obtain ⟨z,hz,_,e2,_⟩:=h.less k o ho
  exact hc.ords k z hz (e2.trans e)
 ·rw [h.step.bal,q1];omega
theorem goneEvs_kind {i:Nat} {id:Int} {l:List Od}:∀ x ∈ goneEvs i id l,x.kind=4:=by
 intro x hx
 unfold goneEvs at hx
 obtain ⟨o,_,rfl⟩:=List.mem_map.1 hx
 rfl
theorem step_tells {place:Bool}:∀ {E:List Ev} {d:Dk},VOk d.v→(∀ x ∈ E,x.kind=4)→Step place d ⟨d.v,d.ev ++ E⟩ E
 | [],d,h,_=>by simpa using Step.refl h
 | x :: E,d,h,hk=>by
  have s1:=step_tell (place:=place) (d:=d) (x:=x) h (.inr (hk x (by simp)))
  have s2:=step_tells (place:=place) (E:=E) (d:=tell d x) s1.ok fun y hy=>hk y (by simp [hy])
  have:=s1.trans s2
  simpa [tell] using this
theorem mem_notOf {id:Int} {l:List Od} {o:Od}:o ∈ notOf id l ↔ o ∈ l∧o.acc ≠ id:=by simp [notOf]
theorem strip_at {id:Int} {i:Nat} {d:Dk} (h:VOk d.v) (hi:i < d.v.mks.length) :
  Swept d (stripAt id i d) (goneEvs i id (mkAt d.v i).book.bids ++ goneEvs i id (mkAt d.v i).book.asks)∧(stripAt id i d).v.accs=d.v.accs∧(stripAt id i d).v.ins=d.v.ins∧(∀ o ∈ (mkAt (stripAt id i d).v i).book.bids ++ (mkAt (stripAt id i d).v i).book.asks,o.acc ≠ id):=by
 obtain ⟨m1,m2⟩:=mkAt_ok h hi
 have hm:=marketErr_ok.1 m1
 have hbk:BookOk ⟨notOf id (mkAt d.v i).book.bids,notOf id (mkAt d.v i).book.asks⟩:=book_sub hm.1 List.filter_sublist List.filter_sublist
 have hsub:∀ y ∈ notOf id (mkAt d.v i).book.bids ++ notOf id (mkAt d.v i).book.asks,y ∈ (mkAt d.v i).book.bids ++ (mkAt d.v i).book.asks∧y.acc ≠ id:=by
  intro y hy
  rcases List.mem_append.1 hy with hy | hy
  ·obtain ⟨k1,k2⟩:=mem_notOf.1 hy;exact ⟨by simp [k1],k2⟩
  ·obtain ⟨k1,k2⟩:=mem_notOf.1 hy;exact ⟨by simp [k1],k2⟩
 have s1:=step_mk (place:=false) (d:=d) (k:=i) (m:={ mkAt d.v i with book:=⟨notOf id (mkAt d.v i).book.bids,notOf id (mkAt d.v i).book.asks⟩ }) h (marketErr_ok.2 ⟨hbk,hm.2⟩) (fun y hy=>m2 y (hsub y hy).1)
 have s2:=step_tells (place:=false) (E:=goneEvs i id (mkAt d.v i).book.bids ++ goneEvs i id (mkAt d.v i).book.asks) (d:=⟨setMk d.v i { mkAt d.v i with book:=⟨notOf id (mkAt d.v i).book.bids,notOf id (mkAt d.v i).book.asks⟩ },d.ev⟩) s1.ok (by
  intro x hx
  rcases List.mem_append.1 hx with hx | hx
  ·exact goneEvs_kind x hx
  ·exact goneEvs_kind x hx)
 have hat:=fun k=>setMk_at (v:=d.v) (k:=i) (j:=k) (m:={ mkAt d.v i with book:=⟨notOf id (mkAt d.v i).book.bids,notOf id (mkAt d.v i).book.asks⟩ }) hi
 have hst:stripAt id i d=⟨setMk d.v i { mkAt d.v i with book:=⟨notOf id (mkAt d.v i).book.bids,notOf id (mkAt d.v i).book.asks⟩ },d.ev ++ (goneEvs i id (mkAt d.v i).book.bids ++ goneEvs i id (mkAt d.v i).book.asks)⟩:=by
  unfold stripAt;rw [List.append_assoc]
 rw [hst]
 refine ⟨⟨by have:=s1.trans s2;simpa using this,rfl,⟨rfl,rfl,rfl,rfl⟩,Int.le_refl _,?_⟩,rfl,rfl,?_⟩
 ·intro k y hy
  simp only at hy
  rw [hat] at hy
  by_cases hk:k=i
  ·subst hk
   rw [if_pos rfl] at hy
   exact ⟨y,(hsub y hy).1,rfl,rfl,rfl,rfl⟩
  ·rw [if_neg hk] at hy
   exact ⟨y,hy,rfl,rfl,rfl,rfl⟩
 ·simp only
  rw [hat,if_pos rfl]
  intro o ho
  exact (hsub o ho).2
theorem strip_from {id:Int}:∀ {n i:Nat} {d:Dk},VOk d.v→i + n ≤ d.v.mks.length →
  ∃ E,Swept d (stripFrom id n i d) E∧(stripFrom id n i d).v.accs=d.v.accs∧(stripFrom id n i d).v.ins=d.v.ins∧(∀ x ∈ E,x.kind=4)∧∀ k,i ≤ k→k < i + n→∀ o ∈ (mkAt (stripFrom id n i d).v k).book.bids ++ (mkAt (stripFrom id n i d).v k).book.asks,o.acc ≠ id
 | 0,i,d,h,_=>⟨[],Swept.refl h,rfl,rfl,by simp,fun k h1 h2=>by omega⟩
 | n + 1,i,d,h,hl=>by
  obtain ⟨s1,a1,b1,c1⟩:=strip_at (id:=id) (i:=i) h (by omega)
  obtain ⟨E,s2,a2,b2,k2,c2⟩:=strip_from (id:=id) (n:=n) (i:=i + 1) (d:=stripAt id i d) s1.step.ok (by rw [s1.step.len];omega)
  refine ⟨_,s1.trans s2,a2.trans a1,b2.trans b1,?_,fun k h1 h2 o ho=>?_⟩
  ·intro x hx
   rcases List.mem_append.1 hx with hx | hx
   ·rcases List.mem_append.1 hx with hx | hx
    ·exact goneEvs_kind x hx
    ·exact goneEvs_kind x hx
   ·exact k2 x hx
  ·by_cases hk:k=i
   ·subst hk
    obtain ⟨z,hz,_,e,_⟩:=s2.less k o ho
    rw [← e];exact c1 z hz
   ·exact c2 k (by omega) (by omega) o ho
theorem mkAt_none {v:Vn} {k:Nat} (h:v.mks.length ≤ k):mkAt v k=zeroMk:=by
 unfold mkAt;rw [List.getD,List.getElem?_eq_none h];rfl
theorem strip_ok {id:Int} {d:Dk} (h:VOk d.v):∃ E,Swept d (strip id d) E∧(strip id d).v.accs=d.v.accs∧(strip id d).v.ins=d.v.ins∧(∀ x ∈ E,x.kind=4)∧∀ k,∀ o ∈ (mkAt (strip id d).v k).book.bids ++ (mkAt (strip id d).v k).book.asks,o.acc ≠ id:=by
 obtain ⟨E,s,a,b,k,c⟩:=strip_from (id:=id) (n:=d.v.mks.length) (i:=0) (d:=d) h (by omega)
 refine ⟨E,s,a,b,k,fun j o ho=>?_⟩
 by_cases hj:j < d.v.mks.length
 ·exact c j (Nat.zero_le _) (by omega) o ho
 ·have hl:(strip id d).v.mks.length ≤ j:=by rw [show (strip id d).v.mks.length=d.v.mks.length from s.step.len];omega
  rw [mkAt_none hl] at ho;cases ho
theorem other_spec {market:Nat} {side:Int}:∀ {L:List Ac} {i:Nat} {best r:Option (Nat × Int)},otherFrom market side best i L=r→(∀ q ∈ best,0 < q.2) →
  ∀ q ∈ r,0 < q.2∧(r=best∨∃ j a,L[j]?=some a∧q.1=i + j∧q.2=a.pos.getD market 0 * side)
 | [],i,best,r,h,hb=>by
  intro q hq
  unfold otherFrom at h
  subst h
  exact ⟨hb q hq,.inl rfl⟩
 | a :: L,i,best,r,h,hb=>by
  intro q hq
  unfold otherFrom at h
  split at h
  ·rename_i h1
   obtain ⟨k1,k2⟩:=other_spec (L:=L) h (fun q hq=>by injection hq with hq;rw [← hq];exact h1.1) q hq
   refine ⟨k1,.inr ?_⟩
   rcases k2 with k2 | ⟨j,b,k3,k4,k5⟩
   ·rw [k2] at hq;injection hq with hq
    exact ⟨0,a,rfl,by rw [← hq];rfl,by rw [← hq]⟩
   ·exact ⟨j + 1,b,by simpa using k3,by omega,k5⟩
  ·obtain ⟨k1,k2⟩:=other_spec (L:=L) h hb q hq
   refine ⟨k1,?_⟩
   rcases k2 with k2 | ⟨j,b,k3,k4,k5⟩
   ·exact .inl k2
   ·exact .inr ⟨j + 1,b,by simpa using k3,by omega,k5⟩
theorem other_some {v:Vn} {market i:Nat} {side x:Int} (h:otherOfV v market side=some (i,x)):∃ a,v.accs[i]?=some a∧0 < a.pos.getD market 0 * side:=by
 unfold otherOfV at h
 obtain ⟨k1,k2⟩:=other_spec h (by simp) (i,x) rfl
 rcases k2 with k2 | ⟨j,a,k3,k4,k5⟩
 ·cases k2
 ·have hij:i=j:=by simpa using k4
  subst hij
  exact ⟨a,k3,by rw [← k5];exact k1⟩
theorem pos_bd {m:Nat} {L:List Ac} (h:AOk m L) {i:Nat} {a:Ac} (hi:L[i]?=some a) (k:Nat):-1000 ≤ a.pos.getD k 0∧a.pos.getD k 0 ≤ 1000 :=
 posOk_getD (accCheck_ok (h.ok a (List.mem_of_getElem? hi))).2.2.2.2 k
theorem posOf_at {m:Nat} {L:List Ac} (h:AOk m L) {i:Nat} {a:Ac} (hi:L[i]?=some a) (k:Nat):posOf L k a.id=a.pos.getD k 0:=by
 rw [posOf_def,accOf_at h.sorted hi]
theorem close_one {d:Dk} {v':Vn} {market:Nat} {id other side price n:Int} (h:VOk d.v) (hs:side=1∨side = -1) (hp:0 ≤ price∧price ≤ 10000) (hn:1 ≤ n∧n ≤ 1000)
  (ht:tradeE d.v market id other (side * n) price 0=.ok v') :
  Swept d (tell ⟨v',d.ev⟩ ⟨6,0,market,0,other,0,⟨0,0,other,id,side,price,n⟩⟩) [⟨6,0,market,0,other,0,⟨0,0,other,id,side,price,n⟩⟩]∧v'.ins=d.v.ins∧v'.mks=d.v.mks:=by
 obtain ⟨s1,t1⟩:=step_trade (place:=false) (d:=d) (x:=⟨6,0,market,0,other,0,⟨0,0,other,id,side,price,n⟩⟩) h (Int.le_refl 0) (.inr rfl) rfl rfl hn hs hp ht
 have hi:=t1.ins.1
 refine ⟨⟨s1,t1.ids,t1.rest,?_,?_⟩,by omega,t1.mks⟩
 ·show v'.ins ≤ d.v.ins;omega
 ·intro k y hy
  have:mkAt v' k=mkAt d.v k:=by unfold mkAt;rw [t1.mks]
  exact ⟨y,by rw [← this];exact hy,rfl,rfl,rfl,rfl⟩
theorem close_loop {market:Nat} {id side price:Int} (hs:side=1∨side = -1) (hp:0 ≤ price∧price ≤ 10000):∀ {fuel:Nat} {left:Int} {d d':Dk},VOk d.v→0 ≤ left→left.toNat ≤ fuel→posOf d.v.accs market id = -(side * left)→closeLoop market id side price fuel left d=.ok d' →
  ∃ E,Swept d d' E∧d'.v.ins=d.v.ins∧posOf d'.v.accs market id=0∧(∀ x ∈ E,x.kind=6∧x.market=market)∧∀ j,j ≠ id→Clean d.v j→Quiet j E
 | 0,left,d,d',h,h0,hf,hpos,hc=>by
  injection hc with hc;subst hc
  have:left=0:=by omega
  subst this
  exact ⟨[],Swept.refl h,rfl,by rw [hpos];omega,by simp,fun _ _ _=>by simp [Quiet]⟩
 | fuel + 1,left,d,d',h,h0,hf,hpos,hc=>by
  unfold closeLoop at hc
  split at hc
  ·injection hc with hc;subst hc
   have:left=0:=by omega
   subst this
   exact ⟨[],Swept.refl h,rfl,by rw [hpos];omega,by simp,fun _ _ _=>by simp [Quiet]⟩
  rename_i hl
  split at hc
  ·cases hc
  rename_i i y ho
  obtain ⟨a,ha,hpa⟩:=other_some ho
  have hat:accAt d.v i=a:=getD_some ha
  rw [hat] at hc
  obtain ⟨v1,h1,hc⟩:=bindE_ok hc
  have hpb:=pos_bd h.accs ha market
  have hp0:a.pos.getD market 0 ≠ 0:=by intro e;rw [e] at hpa;omega
  have hpos2:=posOf_at h.accs ha market
  have hn:1 ≤ min left (max (a.pos.getD market 0) (-a.pos.getD market 0))∧min left (max (a.pos.getD market 0) (-a.pos.getD market 0)) ≤ 1000:=by omega
  have hne:a.id ≠ id:=by
   intro e
   rw [e,hpos] at hpos2
   rcases hs with hs | hs <;> subst hs <;> omega
  obtain ⟨n,hnn⟩:∃ n,n=min left (max (a.pos.getD market 0) (-a.pos.getD market 0)):=⟨_,rfl⟩
  rw [← hnn] at hn h1 hc
  obtain ⟨s1,i1,m1⟩:=close_one (d:=d) h hs hp hn h1
  have hpos3:posOf v1.accs market id = -(side * (left - n)):=by
   have:=s1.step.pos market id
   have e:posOf v1.accs market id=posOf d.v.accs market id + posSumE [⟨6,0,market,0,a.id,0,⟨0,0,a.id,id,side,price,n⟩⟩] market id:=this
   rw [e,hpos]
   simp only [posSumE,List.map_cons,List.map_nil,List.sum_cons,List.sum_nil,evPos]
   simp only [if_true,or_true,and_self]
   rw [if_neg (fun e=>hne e.symm)]
   rcases hs with hs | hs <;> subst hs <;> omega
  obtain ⟨E,s2,i2,p2,k2,q2⟩:=close_loop hs hp (fuel:=fuel) (left:=left - n) (d:=tell ⟨v1,d.ev⟩ ⟨6,0,market,0,a.id,0,⟨0,0,a.id,id,side,price,n⟩⟩) (d':=d') s1.step.ok (by omega) (by omega) hpos3 hc
  refine ⟨_,s1.trans s2,i2.trans i1,p2,?_,fun j hj hcl=>?_⟩
  ·intro x hx
   rcases List.mem_append.1 hx with hx | hx
   ·simp only [List.mem_singleton] at hx;subst hx;exact ⟨rfl,rfl⟩
   ·exact k2 x hx
  ·have hq1:Quiet j [⟨6,0,market,0,a.id,0,⟨0,0,a.id,id,side,price,n⟩⟩]:=by
    intro x hx
    simp only [List.mem_singleton] at hx;subst hx
    refine ⟨fun _=>⟨fun e=>?_,fun e=>hj e.symm⟩,fun e=>by simp at e⟩
    have e':a.id=j:=e
    rw [e',hcl.pos] at hpos2
    exact hp0 hpos2.symm
   have hq2:=q2 j hj (s1.clean hcl hq1).1
   intro x hx
   rcases List.mem_append.1 hx with hx | hx
   ·exact hq1 x hx
   ·exact hq2 x hx
theorem posSumE_fills {mk:Nat} {id side:Int}:∀ {l:List Fl},(∀ f ∈ l,f.tacc=id∧f.macc ≠ id∧f.side=side)→posSumE (fillEvs mk l) mk id=side * qtySum l∧∀ k j,k ≠ mk→posSumE (fillEvs mk l) k j=0
 | [],_=>by simp [posSumE,fillEvs,qtySum]
 | f :: l,h=>by
  obtain ⟨e1,e2,e3⟩:=h f (by simp)
  obtain ⟨k1,k2⟩:=posSumE_fills (mk:=mk) (id:=id) (side:=side) (l:=l) fun g hg=>h g (by simp [hg])
  refine ⟨?_,fun k j hk=>?_⟩
  ·simp only [posSumE,fillEvs,List.map_cons,List.sum_cons,qtySum,evPos] at k1 ⊢
   rw [k1,if_pos (by simp),if_pos e1.symm,if_neg (fun e=>e2 e.symm),e3,Int.mul_add];omega
  ·have:=k2 k j hk
   simp only [posSumE,fillEvs,List.map_cons,List.sum_cons,evPos] at this ⊢
   rw [this,if_neg (by intro h;have:=h.2;omega)];rfl
theorem take_more {b x:Bk} {o:Od} {l:List Fl} {left:Int} {met:Bool} (h:takeOf b o=(x,l,left,met,0)) :
  BookOk b∧BookOk x∧ordErr o=0∧(∀ y ∈ x.bids ++ x.asks,∃ z ∈ b.bids ++ b.asks,sameBut z y) ∧
   (∀ f ∈ l,∃ z ∈ b.bids ++ b.asks,f.maker=z.id∧f.macc=z.acc∧f.price=z.price∧(1 ≤ f.qty∧f.qty ≤ z.qty)∧f.side=o.side∧f.tacc=o.acc∧z.acc ≠ o.acc)∧(0 ≤ left∧left ≤ o.qty)∧qtySum l + left=o.qty:=by
 unfold takeOf at h
 split at h
 ·rename_i h1;injection h with _ h;injection h with _ h;injection h with _ h;injection h with _ h;exact absurd h h1
 rename_i h1
 split at h
 ·rename_i h2;injection h with _ h;injection h with _ h;injection h with _ h;injection h with _ h;exact absurd h h2
 rename_i h2
 have hb:=bookErr_ok.1 (show bookErr b=0 by omega)
 have ho:=ordErr_ok.1 (show ordErr o=0 by omega)
 have hs:=ho.2.2.1
 have hso:=other_of hb o.side hs
 have hq:∀ x ∈ otherOf b o.side,1 ≤ x.qty:=fun x hx=>(ordErr_ok.1 (hso.ok x hx)).2.2.2.2.1
 obtain ⟨f1,f2⟩:=takeL_fills (o:=o) (left:=o.qty) hq (by omega)
 obtain ⟨t1,t2⟩:=take_book (o:=o) (left:=o.qty) hb hs
 have hrem:=takeL_left (o:=o) (left:=o.qty) hq (by omega)
 injection h with e1 h;injection h with e2 h;injection h with e3 h;injection h with e4 _
 rw [e1] at t1 t2
 rw [e2] at f1 f2
 rw [e3] at f2 hrem
 exact ⟨hb,t1,by omega,t2,fun f hf=>by obtain ⟨z,hz,h⟩:=f1 f hf;exact ⟨z,mem_other hz,h⟩,hrem,f2⟩
theorem closes_ok {k market:Nat} {marks:List Int} {d d':Dk} {a:Ac} (h:VOk d.v) (hm:market < d.v.mks.length) (ha:d.v.accs[k]?=some a) (hp:a.pos.getD market 0 ≠ 0) (hc:closesE k market marks d=.ok d') :
  ∃ E,Swept d d' E∧d'.v.ins=d.v.ins∧posOf d'.v.accs market a.id=0∧(∀ x ∈ E,(x.kind=3∨x.kind=6)∧x.market=market)∧∀ j,j ≠ a.id→Clean d.v j→Quiet j E:=by
 unfold closesE at hc
 have hat:accAt d.v k=a:=getD_some ha
 simp only at hc
 rw [hat] at hc
 obtain ⟨e1,hc⟩:=okIf_ok hc
 obtain ⟨e2,hc⟩:=okIf_ok hc
 obtain ⟨price,hpr⟩:∃ price,bankruptOf a marks market=(price,0):=⟨_,Prod.ext rfl e1⟩
 rw [hpr] at hc e2
 simp only at hc e2
 obtain ⟨side,hside⟩:∃ side:Int,side=if a.pos.getD market 0 < 0 then 1 else -1:=⟨_,rfl⟩
 rw [← hside] at hc e2
 obtain ⟨o,ho⟩:∃ o:Od,o=⟨100000,a.id,side,price,max (a.pos.getD market 0) (-a.pos.getD market 0)⟩:=⟨_,rfl⟩
 rw [← ho] at hc e2
 obtain ⟨x,l,left,met,e,ht⟩:∃ x l left met e,takeOf (mkAt d.v market).book o=(x,l,left,met,e):=⟨_,_,_,_,_,rfl⟩
 rw [ht] at hc e2
 simp only at hc e2
 subst e2
 have hs:side=1∨side = -1:=by rw [hside];split <;> omega
 obtain ⟨b1,b2,b3,b4,b5,b6,b7⟩:=take_more ht
 have hop:=ordErr_ok.1 b3
 have oq:o.qty=max (a.pos.getD market 0) (-a.pos.getD market 0):=by rw [ho]
 have os:o.side=side:=by rw [ho]
 have oa:o.acc=a.id:=by rw [ho]
 have op:o.price=price:=by rw [ho]
 obtain ⟨m1,m2⟩:=mkAt_ok h hm
 have hmo:=marketErr_ok.1 m1
 have s1:=step_mk (place:=false) (d:=d) (k:=market) (m:={ mkAt d.v market with book:=x }) h (marketErr_ok.2 ⟨b2,hmo.2⟩) (fun y hy=>by
  obtain ⟨z,hz,g1,g2,_⟩:=b4 y hy
  rw [← g1,← g2];exact m2 z hz)
 have hat2:=fun j=>setMk_at (v:=d.v) (k:=market) (j:=j) (m:={ mkAt d.v market with book:=x }) hm
 have w1:Swept d ⟨setMk d.v market { mkAt d.v market with book:=x },d.ev⟩ []:=⟨s1,rfl,⟨rfl,rfl,rfl,rfl⟩,Int.le_refl _,by
  intro j y hy
  simp only at hy
  rw [hat2] at hy
  by_cases hj:j=market
  ·subst hj;rw [if_pos rfl] at hy;exact b4 y hy
  ·rw [if_neg hj] at hy;exact ⟨y,hy,rfl,rfl,rfl,rfl⟩⟩
 obtain ⟨d1,hd1,hc⟩:=bindE_ok hc
 obtain ⟨s2,i2,k2,r2,n2,p2,_⟩:=step_fills (place:=false) (mk:=market) (l:=l) (d:=⟨setMk d.v market { mkAt d.v market with book:=x },d.ev⟩) s1.ok (fills_ok b1 (by rw [os];exact hs) b5) (by rw [s1.len];exact hm) hd1
 have hn2:=p2 rfl
 have w2:Swept ⟨setMk d.v market { mkAt d.v market with book:=x },d.ev⟩ d1 (fillEvs market l):=⟨s2,i2,r2,by rw [hn2];exact Int.le_refl _,by
  intro j y hy
  rw [(k2 j).1] at hy
  exact ⟨y,hy,rfl,rfl,rfl,rfl⟩⟩
 have w12:=w1.trans w2
 rw [List.nil_append] at w12
 have hfl:∀ f ∈ l,f.tacc=a.id∧f.macc ≠ a.id∧f.side=side:=by
  intro f hf
  obtain ⟨z,_,_,g2,_,_,g5,g6,g7⟩:=b5 f hf
  exact ⟨g6.trans oa,by rw [g2,← oa];exact g7,g5.trans os⟩
 obtain ⟨f1,f2⟩:=posSumE_fills (mk:=market) hfl
 have hpos:posOf d1.v.accs market a.id = -(side * left):=by
  rw [w12.step.pos,f1,posOf_at h.accs ha]
  have hq:qtySum l=o.qty - left:=by omega
  rw [hq,oq]
  have hpb:(side=1∧a.pos.getD market 0 < 0)∨(side = -1∧0 < a.pos.getD market 0):=by
   rw [hside];split <;> omega
  rcases hpb with ⟨hs1,hpb⟩ | ⟨hs1,hpb⟩ <;> rw [hs1] <;> omega
 obtain ⟨E,s3,i3,p3,k3,q3⟩:=close_loop hs (by rw [← op];omega) (fuel:=left.toNat) (left:=left) (d:=d1) (d':=d') s2.ok b6.1 (Nat.le_refl _) hpos hc
 refine ⟨_,w12.trans s3,i3.trans hn2,p3,?_,fun j hj hcl=>?_⟩
 ·intro y hy
  rcases List.mem_append.1 hy with hy | hy
  ·obtain ⟨f,_,rfl⟩:=List.mem_map.1 hy;exact ⟨.inl rfl,rfl⟩
  ·exact ⟨.inr (k3 y hy).1,(k3 y hy).2⟩
 ·have hq1:Quiet j (fillEvs market l):=by
   intro y hy
   obtain ⟨f,hf,rfl⟩:=List.mem_map.1 hy
   obtain ⟨z,hz,_,g2,_⟩:=b5 f hf
   refine ⟨fun _=>⟨?_,?_⟩,fun e=>by simp at e⟩
   ·show f.macc ≠ j;rw [g2];exact hcl.ords market z hz
   ·show f.tacc ≠ j;rw [(hfl f hf).1];exact fun e=>hj e.symm
  have hq2:=q3 j hj (w12.clean hcl hq1).1
  intro y hy
  rcases List.mem_append.1 hy with hy | hy
  ·exact hq1 y hy
  ·exact hq2 y hy
theorem posSumE_other {mk:Nat} {id:Int}:∀ {E:List Ev},(∀ x ∈ E,x.market ≠ mk)→posSumE E mk id=0
 | [],_=>rfl
 | x :: E,h=>by
  have:=posSumE_other (mk:=mk) (id:=id) (E:=E) fun y hy=>h y (by simp [hy])
  have e:evPos x mk id=0:=by unfold evPos;rw [if_neg (fun e=>h x (by simp) e.2)]
  simp only [posSumE,List.map_cons,List.sum_cons] at this ⊢;omega
theorem close_all {k:Nat} {marks:List Int} {id:Int}:∀ {n i:Nat} {d d':Dk},VOk d.v→i + n=d.v.mks.length→(∃ a,d.v.accs[k]?=some a∧a.id=id)→(∀ j,j < i→posOf d.v.accs j id=0)→closeAll k marks n i d=.ok d' →
  ∃ E,Swept d d' E∧d'.v.ins=d.v.ins∧(∀ j,j < d.v.mks.length→posOf d'.v.accs j id=0)∧(∀ x ∈ E,x.kind=3∨x.kind=6)∧∀ j,j ≠ id→Clean d.v j→Quiet j E
 | 0,i,d,d',h,hl,hk,hp,hc=>by
  injection hc with hc;subst hc
  exact ⟨[],Swept.refl h,rfl,fun j hj=>hp j (by omega),by simp,fun _ _ _=>by simp [Quiet]⟩
 | n + 1,i,d,d',h,hl,⟨a,ha,hid⟩,hp,hc=>by
  unfold closeAll at hc
  have hat:accAt d.v k=a:=getD_some ha
  rw [hat] at hc
  split at hc
  ·rename_i h0
   obtain ⟨E,s,i1,p1,k1,q1⟩:=close_all (n:=n) (i:=i + 1) (d:=d) (d':=d') h (by omega) ⟨a,ha,hid⟩ (fun j hj=>by
    by_cases hji:j=i
    ·rw [hji,← hid,posOf_at h.accs ha];exact h0
    ·exact hp j (by omega)) hc
   exact ⟨E,s,i1,p1,k1,q1⟩
  ·rename_i h0
   obtain ⟨d1,hd1,hc⟩:=bindE_ok hc
   obtain ⟨E1,s1,i1,p1,k1,q1⟩:=closes_ok h (by omega) ha h0 hd1
   rw [hid] at p1 q1
   have ha1:∃ a,d1.v.accs[k]?=some a∧a.id=id:=by
    have hlen:k < d1.v.accs.length:=by
     have e:=congrArg List.length s1.ids
     simp only [List.length_map] at e
     rw [e];exact (List.getElem?_eq_some_iff.1 ha).1
    refine ⟨_,List.getElem?_eq_getElem hlen,?_⟩
    have e:=congrArg (fun l=>l[k]?) s1.ids
    simp only [List.getElem?_map,ha,List.getElem?_eq_getElem hlen,Option.map_some] at e
    injection e with e
    exact e.trans hid
   obtain ⟨E2,s2,i2,p2,k2,q2⟩:=close_all (n:=n) (i:=i + 1) (d:=d1) (d':=d') s1.step.ok (by rw [s1.step.len];omega) ha1 (fun j hj=>by
    by_cases hji:j=i
    ·rw [hji];exact p1
    ·rw [s1.step.pos,hp j (by omega),posSumE_other fun x hx=>by rw [(k1 x hx).2];omega];rfl) hc
   refine ⟨_,s1.trans s2,i2.trans i1,fun j hj=>p2 j (by rw [s1.step.len];exact hj),?_,fun j hj hcl=>?_⟩
   ·intro x hx
    rcases List.mem_append.1 hx with hx | hx
    ·exact (k1 x hx).1
    ·exact k2 x hx
   ·have hq1:=q1 j hj hcl
    have hq2:=q2 j hj (s1.clean hcl hq1).1
    intro x hx
    rcases List.mem_append.1 hx with hx | hx
    ·exact hq1 x hx
    ·exact hq2 x hx
theorem cover_ok {k:Nat} {d d':Dk} {a:Ac} (h:VOk d.v) (ha:d.v.accs[k]?=some a) (hc:coverE k d=.ok d') :
  ∃ E,Swept d d' E∧(balOf d'.v.accs a.id < 0→d'.v.ins=0)∧(d.v.ins=0→d'.v.ins=0)∧(∀ x ∈ E,x.kind=5∧x.acc=a.id)∧∀ j,posOf d'.v.accs j=posOf d.v.accs j:=by
 unfold coverE at hc
 have hat:accAt d.v k=a:=getD_some ha
 simp only at hc
 rw [hat] at hc
 have hn:=h.nums
 have hi:=hn.ins
 have hb:balOf d.v.accs a.id=a.bal:=by unfold balOf;rw [accOf_at h.accs.sorted ha]
 have hbd:=(accCheck_ok (h.accs.ok a (List.mem_of_getElem? ha))).2.2.2.1
 split at hc
 ·rename_i h0
  obtain ⟨n,hnn⟩:∃ n,n=min d.v.ins (-a.bal):=⟨_,rfl⟩
  rw [← hnn] at h0 hc
  obtain ⟨m1,m2,rfl⟩:=move_ok (d:=⟨{ d.v with ins:=d.v.ins - n },d.ev⟩) ha hc
  have hmoney:=h.money
  have hv:=move_vok (v:={ d.v with ins:=d.v.ins - n }) (n:=n) h.len h.accs ⟨by simp only;omega,hn.resid,hn.next,hn.inn,hn.out⟩ (by simp only;omega) h.pos h.mks ha m2
  have hbal:∀ id,balOf (d.v.accs.set k { a with bal:=a.bal + n }) id=balOf d.v.accs id + if id=a.id then n else 0:=by
   intro id
   unfold balOf
   rw [accOf_set h.accs ha (b:={ a with bal:=a.bal + n }) rfl]
   by_cases hid:id=a.id
   ·rw [if_pos hid,if_pos hid,hid,accOf_at h.accs.sorted ha]
   ·rw [if_neg hid,if_neg hid];omega
  refine ⟨[⟨5,0,0,0,a.id,n,zeroFl⟩],⟨⟨hv,rfl,by simp,by simp,?_,fun id=>?_,fun j id=>?_,rfl,fun id hi=>?_,⟨Int.le_refl _,Int.le_refl _,Int.le_refl _⟩⟩,ids_set ha (b:={ a with bal:=a.bal + n }) rfl,⟨rfl,rfl,rfl,rfl⟩,?_,Less.refl _⟩,?_,?_,by simp,fun j=>?_⟩
  ·intro x hx _;simp only [List.mem_singleton] at hx;subst hx
   have:=(accCheck_ok (h.accs.ok a (List.mem_of_getElem? ha))).1
   simp only;omega
  ·show balOf (d.v.accs.set k _) id=_
   rw [hbal]
   simp only [moneySum,List.map_cons,List.map_nil,List.sum_cons,List.sum_nil,evMoney_moved];omega
  ·show posOf (d.v.accs.set k _) j id=_
   rw [posOf_bal h.accs ha (b:={ a with bal:=a.bal + n }) rfl rfl]
   simp [posSumE,evPos_moved]
  ·show thereB (d.v.accs.set k _) id=true
   rw [there_map (ids_set ha (b:={ a with bal:=a.bal + n }) rfl)];exact hi
  ·show d.v.ins - n ≤ d.v.ins;omega
  ·show balOf (d.v.accs.set k _) a.id < 0→d.v.ins - n=0
   rw [hbal,if_pos rfl,hb];omega
  ·show d.v.ins=0→d.v.ins - n=0
   omega
  ·funext id
   show posOf (d.v.accs.set k _) j id=_
   rw [posOf_bal h.accs ha (b:={ a with bal:=a.bal + n }) rfl rfl]
 ·rename_i h0
  injection hc with hc;subst hc
  exact ⟨[],Swept.refl h,by rw [hb];omega,fun h=>h,by simp,fun _=>rfl⟩
structure Done (v:Vn) (id:Int):Prop where
 clean:Clean v id
 bal:balOf v.accs id < 0→v.ins=0
theorem one_ok {k:Nat} {marks:List Int} {d d1 d':Dk} {a:Ac} (h:VOk d.v) (ha:d.v.accs[k]?=some a) (hc:closeAll k marks d.v.mks.length 0 (strip a.id d)=.ok d1) (hc2:coverE k d1=.ok d') :
  ∃ E,Swept d d' E∧Done d'.v a.id∧∀ j,j ≠ a.id→Done d.v j→Done d'.v j:=by
 obtain ⟨E1,s1,a1,b1,k1,c1⟩:=strip_ok (id:=a.id) h
 obtain ⟨E2,s2,b2,p2,k2,q2⟩:=close_all (d:=strip a.id d) (id:=a.id) s1.step.ok (by rw [s1.step.len];omega) ⟨a,by rw [a1];exact ha,rfl⟩ (fun j hj=>by omega) hc
 have s12:=s1.trans s2
 have hlen:k < d1.v.accs.length:=by
  have e:=congrArg List.length s12.ids
  simp only [List.length_map] at e
  rw [e];exact (List.getElem?_eq_some_iff.1 ha).1
 obtain ⟨a',ha'⟩:∃ a',d1.v.accs[k]?=some a':=⟨_,List.getElem?_eq_getElem hlen⟩
 have hid:a'.id=a.id:=by
  have e:=congrArg (fun l=>l[k]?) s12.ids
  simp only [List.getElem?_map,ha,ha',Option.map_some] at e
  injection e
 obtain ⟨E3,s3,c3,i3,k3,p3⟩:=cover_ok s12.step.ok ha' hc2
 rw [hid] at c3 k3
 refine ⟨_,s12.trans s3,⟨⟨fun j=>?_,fun j o ho e=>?_⟩,c3⟩,fun j hj hd=>?_⟩
 ·rw [p3]
  by_cases hj:j < d.v.mks.length
  ·exact p2 j (by rw [s1.step.len];exact hj)
  ·have hbd:(accOf d1.v.accs a.id).pos.length=d.v.mks.length:=by
    rw [← hid,accOf_at s12.step.ok.accs.sorted ha']
    have:=(accCheck_ok (s12.step.ok.accs.ok a' (List.mem_of_getElem? ha'))).2.2.1
    rw [s12.step.len] at this;omega
   rw [posOf_def,List.getD,List.getElem?_eq_none (by omega)];rfl
 ·obtain ⟨z,hz,_,e2,_⟩:=(s2.trans s3).less j o ho
  exact c1 j z hz (e2.trans e)
 ·have hq1:Quiet j E1:=fun x hx=>by have:=k1 x hx;exact ⟨fun h=>by omega,fun h=>by omega⟩
  obtain ⟨cl1,bl1⟩:=s1.clean hd.clean hq1
  obtain ⟨cl2,bl2⟩:=s2.clean cl1 (q2 j hj cl1)
  have hq3:Quiet j E3:=fun x hx=>by
   have:=k3 x hx
   exact ⟨fun h=>by omega,fun _ e=>hj (e.symm.trans this.2)⟩
  obtain ⟨cl3,bl3⟩:=s3.clean cl2 hq3
  refine ⟨cl3,fun hb=>?_⟩
  rw [bl3,bl2,bl1] at hb
  exact i3 (by rw [b2,b1];exact hd.bal hb)
theorem sweep_from {marks:List Int}:∀ {n k:Nat} {d d':Dk},VOk d.v→k + n=d.v.accs.length→sweepFrom marks n k d=.ok d' →
  ∃ E,Swept d d' E∧(∀ id,(∀ j a,k ≤ j→d.v.accs[j]?=some a→a.id ≠ id)→Done d.v id→Done d'.v id) ∧
   (∀ j a,k ≤ j→d.v.accs[j]?=some a→(∀ i b,k ≤ i→i < j→d.v.accs[i]?=some b→(soundOf b marks).2.1=true)→(soundOf a marks).2.2=0∧((soundOf a marks).2.1=false→Done d'.v a.id)) ∧
   ((∀ i b,k ≤ i→d.v.accs[i]?=some b→(soundOf b marks).2.1=true)→d'=d)
 | 0,k,d,d',h,hl,hc=>by
  injection hc with hc;subst hc
  exact ⟨[],Swept.refl h,fun _ _ h=>h,fun j a hj ha _=>by have:=(List.getElem?_eq_some_iff.1 ha).1;omega,fun _=>rfl⟩
 | n + 1,k,d,d',h,hl,hc=>by
  unfold sweepFrom at hc
  obtain ⟨a,ha⟩:∃ a,d.v.accs[k]?=some a:=⟨_,List.getElem?_eq_getElem (by omega)⟩
  have hat:accAt d.v k=a:=getD_some ha
  rw [hat] at hc
  obtain ⟨e1,hc⟩:=okIf_ok hc
  by_cases hok:(soundOf a marks).2.1=true
  ·rw [if_pos hok] at hc
   obtain ⟨E,s,q,f,g⟩:=sweep_from (n:=n) (k:=k + 1) (d:=d) (d':=d') h (by omega) hc
   refine ⟨E,s,fun id hid hd=>q id (fun j b hj=>hid j b (by omega)) hd,fun j b hj hb hall=>?_,fun hall=>g fun i b hi=>hall i b (by omega)⟩
   by_cases hjk:j=k
   ·subst hjk
    rw [ha] at hb;injection hb with hb;subst hb
    exact ⟨e1,fun h=>by rw [h] at hok;cases hok⟩
   ·exact f j b (by omega) hb fun i c hi=>hall i c (by omega)
  ·rw [if_neg hok] at hc
   obtain ⟨d1,hd1,hc⟩:=bindE_ok hc
   obtain ⟨d2,hd2,hc⟩:=bindE_ok hc
   obtain ⟨E1,s1,dn1,dj1⟩:=one_ok h ha hd1 hd2
   have hlen:d2.v.accs.length=d.v.accs.length:=by
    have e:=congrArg List.length s1.ids
    simpa using e
   obtain ⟨E2,s2,q2,f2,g2⟩:=sweep_from (n:=n) (k:=k + 1) (d:=d2) (d':=d') s1.step.ok (by omega) hc
   have hids:∀ (j:Nat) (b:Ac),d2.v.accs[j]?=some b→∃ c:Ac,d.v.accs[j]?=some c∧c.id=b.id:=by
    intro j b hb
    have hj:j < d.v.accs.length:=by have:=(List.getElem?_eq_some_iff.1 hb).1;omega
    refine ⟨_,List.getElem?_eq_getElem hj,?_⟩
    have e:=congrArg (fun l=>l[j]?) s1.ids
    simp only [List.getElem?_map,hb,List.getElem?_eq_getElem hj,Option.map_some] at e
    injection e with e;exact e.symm
   refine ⟨_,s1.trans s2,fun id hid hd=>?_,fun j b hj hb hall=>?_,fun hall=>absurd (hall k a (Nat.le_refl _) ha) hok⟩
   ·refine q2 id (fun j b hj hb=>?_) (dj1 id (fun e=>hid k a (Nat.le_refl _) ha e.symm) hd)
    obtain ⟨c,hc1,hc2⟩:=hids j b hb
    rw [← hc2];exact hid j c (by omega) hc1
   ·by_cases hjk:j=k
    ·subst hjk
     rw [ha] at hb;injection hb with hb;subst hb
     refine ⟨e1,fun _=>q2 _ (fun i c hi hc e=>?_) dn1⟩
     obtain ⟨c',hc1,hc2⟩:=hids i c hc
     have:=sorted_inj h.accs.sorted hc1 ha (hc2.trans e)
     omega
    ·exact absurd (hall k a (Nat.le_refl _) (by omega) ha) hok
theorem sweep_step {d d':Dk} (h:VOk d.v) (hc:sweepE d=.ok d') :
  (marksOf d.v.mks).2=0∧∃ E,Swept d d' E∧(∀ (j:Nat) (a:Ac),d.v.accs[j]?=some a→(∀ (i:Nat) (b:Ac),i < j→d.v.accs[i]?=some b→(soundOf b (marksOf d.v.mks).1).2.1=true)→(soundOf a (marksOf d.v.mks).1).2.2=0∧((soundOf a (marksOf d.v.mks).1).2.1=false→Done d'.v a.id)) ∧
   ((∀ (i:Nat) (b:Ac),d.v.accs[i]?=some b→(soundOf b (marksOf d.v.mks).1).2.1=true)→d'=d):=by
 unfold sweepE at hc
 obtain ⟨e1,hc⟩:=okIf_ok hc
 obtain ⟨E,s,_,f,g⟩:=sweep_from h (by omega) hc
 exact ⟨e1,E,s,fun j a ha hall=>f j a (Nat.zero_le _) ha (fun i b _=>hall i b),fun hall=>g fun i b _=>hall i b⟩
end
section
open Go.RowKit
def otherI:Option (Nat × Int)→Int
 | none=>-1
 | some (i,_)=>i
theorem other_next {L:List Ac} {mk j:Nat} {side:Int} {a:Ac} {best:Option (Nat × Int)} (ha:L[j]?=some a) :
  otherFrom mk side best j (L.drop j)=otherFrom mk side (if 0 < a.pos.getD mk 0 * side∧(∀ q ∈ best,q.2 < a.pos.getD mk 0 * side) then some (j,a.pos.getD mk 0 * side) else best) (j + 1) (L.drop (j + 1)):=by
 obtain ⟨h1,h2⟩:=List.getElem?_eq_some_iff.1 ha
 rw [List.drop_eq_getElem_cons h1,h2]
 rfl
structure OtR (w wr:World) (L:List Ac) (mk:Nat) (side:Int) (j:Nat) (best:Option (Nat × Int)):Prop where
 low:Below w.heap.size w wr
 eq:otherFrom mk side best j (L.drop j)=otherFrom mk side none 0 L
 val:∀ q ∈ best,∃ a,L[q.1]?=some a∧q.2=a.pos.getD mk 0 * side
theorem otr_no {w wr W:World} {L:List Ac} {mk j:Nat} {side z:Int} {best:Option (Nat × Int)} {a:Ac} (h:OtR w wr L mk side j best) (ha:L[j]?=some a) (hb:Below wr.heap.size wr W) (hz:z=a.pos.getD mk 0)
  (hc:¬ (0 < z * side∧∀ q ∈ best,q.2 < z * side)):OtR w W L mk side (j + 1) best:=by
 refine ⟨h.low.trans (hb.mono h.low.size),?_,h.val⟩
 rw [← h.eq,other_next ha,← hz,if_neg hc]
theorem otr_yes {w wr W:World} {L:List Ac} {mk j:Nat} {side z:Int} {best:Option (Nat × Int)} {a:Ac} (h:OtR w wr L mk side j best) (ha:L[j]?=some a) (hb:Below wr.heap.size wr W) (hz:z=a.pos.getD mk 0)
  (hc:0 < z * side∧∀ q ∈ best,q.2 < z * side):OtR w W L mk side (j + 1) (some (j,z * side)):=by
 refine ⟨h.low.trans (hb.mono h.low.size),?_,?_⟩
 ·rw [← h.eq,other_next ha,← hz,if_pos hc]
 ·intro q hq
  simp only [Option.mem_def,Option.some.injEq] at hq
  subst hq
  exact ⟨a,ha,by rw [hz]⟩
theorem pos_at {w:World} {base D c k mk i:Nat} {ap:Bool} {d:Dk} {A M:Option Addr} {vE:Value} {xs ys:List Value} {a:Ac} (h:Desk w base D ap d A c M k vE xs ys) (hi:d.v.accs[i]?=some a) (ha:AOk d.v.mks.length d.v.accs) (hm:mk < d.v.mks.length) :
  ∃ g A2 c2 b o,A=some ⟨g,0,none⟩∧g < w.heap.size∧i < d.v.accs.length∧(w.cell? ⟨g,i * 3,none⟩=some (.int .i64 a.id)∧w.cell? ⟨g,i * 3 + 1,none⟩=some (.int .i64 a.bal)∧w.cell? ⟨g,i * 3 + 2,none⟩=some (.slice A2 a.pos.length c2)) ∧
   A2=some ⟨b,o,none⟩∧b < w.heap.size∧w.cell? ⟨b,o + mk,none⟩=some (.int .i64 (a.pos.getD mk 0))∧a.pos.length=d.v.mks.length∧(-1000 ≤ a.pos.getD mk 0∧a.pos.getD mk 0 ≤ 1000)∧a.pos.length ≤ c2∧Rd w w.heap.size 1 A2 a.pos.length c2 (ints a.pos):=by
 obtain ⟨g,A2,c2,rfl,hg1,hg2,hin,-,hq,-,hpos,-⟩:=oac_at h.accs hi
 have hl:=(accCheck_ok (ha.ok a (List.mem_of_getElem? hi))).2.2.1
 have hr:=Rd.of_own hpos
 obtain ⟨b,o,e,hb,z,hz,hc⟩:=hr.int (show mk < a.pos.length by omega)
 have hz':a.pos.getD mk 0=z:=by simp [List.getD,hz]
 exact ⟨g,A2,c2,b,o,rfl,hg2,hin,hq,e,hb,by rw [hz'];exact hc,by omega,pos_bd ha hi mk,hr.le,hr⟩
set_option maxHeartbeats 4000000 in
set_option maxRecDepth 100000 in
theorem other_dk (base D:Nat) (ap:Bool) (d:Dk) (A:Option Addr) (c:Nat) (M:Option Addr) (k:Nat) (vE:Value) (xs ys:List Value) (mk:Nat) (side:Int) (w:World) (h:Desk w base D ap d A c M k vE xs ys)
  (ha:AOk d.v.mks.length d.v.accs) (hs:side=1∨side = -1) (hm:mk < d.v.mks.length) :
  Calls Try.prog 221 #[.pointer (some ⟨D,0,none⟩),.int .i64 mk,.int .i64 side] w fun e w'=>e=.returned (.int .i64 (otherI (otherOfV d.v mk side)))∧Below w.heap.size w w':=by
 have HD:=Lib.hid h
 have HA:=Lib.hid ha
 have HS:=Lib.hid hs
 have hDl:=h.lt
 have hl8:=aok_len ha
 obtain ⟨⟨k0,-⟩,-⟩:=h.blk.c8
 have HR0:=Lib.hid (show OtR w w d.v.accs mk side 0 none from ⟨Below.refl _ _,rfl,by simp⟩)
 have hmk0:(0:Int) ≤ (mk:Int):=by omega
 clear h ha hs
 go_enter Try.func221,Try.ntmps221
 go_wp2_with fail
 go_loopw [7,17] (fun b i wr=>∃ (j:Nat) (best:Option (Nat × Int)),j ≤ d.v.accs.length∧i=.int .i64 j∧b=.int .i64 (otherI best)∧Hid (OtR w wr d.v.accs mk side j best)) (fun _ i _=>d.v.accs.length - (intOf i).toNat)
 case atStart=>exact ⟨0,none,Nat.zero_le _,rfl,rfl,HR0⟩
 case round =>
  obtain ⟨j,best,hj,rfl,rfl,HR⟩:=hrel
  have hws:=HR.out.low.size
  by_cases hlt:j < d.v.accs.length
  ·obtain ⟨a,ha⟩:∃ a,d.v.accs[j]?=some a:=⟨_,List.getElem?_eq_getElem hlt⟩
   have HDr:=Lib.hid (HD.out.below HR.out.low)
   have HAA:=Lib.hid ha
   obtain ⟨g,A2,c2,b,o,rfl,hg2,hin,⟨q0,q1,q2⟩,rfl,hb,hz,hpl,⟨hz1,hz2⟩,hpc,-⟩:=pos_at HDr.out ha HA.out hm
   obtain ⟨n,hn⟩:∃ n,n=a.pos.length:=⟨_,rfl⟩
   obtain ⟨z,hzz⟩:∃ z,z=a.pos.getD mk 0:=⟨_,rfl⟩
   rw [← hn] at q2 hpc
   rw [← hzz] at hz hz1 hz2
   have HZ:=Lib.hid hzz
   have hmn:(mk:Int) < (n:Int):=by omega
   have hsz:-1000 ≤ z * side∧z * side ≤ 1000:=by rcases HS.out with e | e <;> rw [e] <;> omega
   obtain ⟨hsz1,hsz2⟩:=hsz
   have y1:D < wr.heap.size:=HDr.out.lt
   have hi1:(j:Int) < (d.v.accs.length:Int):=by omega
   obtain ⟨⟨d0,-⟩,-⟩:=HDr.out.blk.c8
   clear ha hpl hn hzz k0
   by_cases hp:0 < z * side
   rotate_left
   ·have hp':decide (0 < z * side)=false:=decide_eq_false hp
    have HN:∀ W,Below wr.heap.size wr W→Hid (OtR w W d.v.accs mk side (j + 1) best):=fun W hW=>Lib.hid (otr_no HR.out HAA.out hW HZ.out (fun h=>hp h.1))
    go_wp2_with fail
    go_roundw
    case rel=>exact ⟨j + 1,best,by omega,by go_num,rfl,HN _ ((Below.refl _ _).alloc (Nat.le_refl _) _)⟩
    case measure=>simp [intOf];omega
   ·have hp':decide (0 < z * side)=true:=decide_eq_true hp
    cases hbe:best with
    | none =>
     subst hbe
     have HN:∀ W,Below wr.heap.size wr W→Hid (OtR w W d.v.accs mk side (j + 1) (some (j,z * side))):=fun W hW=>Lib.hid (otr_yes HR.out HAA.out hW HZ.out ⟨hp,by simp⟩)
     simp only [otherI]
     go_wp2_with fail
     go_roundw
     case rel=>exact ⟨j + 1,_,by omega,by go_num,rfl,HN _ ((Below.refl _ _).alloc (Nat.le_refl _) _)⟩
     case measure=>simp [intOf];omega
    | some bq =>
     subst hbe
     obtain ⟨i2,x⟩:=bq
     obtain ⟨a2,ha2,hx⟩:=HR.out.val _ rfl
     simp only at ha2 hx
     have HA2:=Lib.hid ha2
     obtain ⟨g',B2,e2,b2,o2,hgg,hg2',hin',⟨r0,r1,r2⟩,rfl,hb2,hz',hpl',⟨hy1,hy2⟩,hpc',-⟩:=pos_at HDr.out ha2 HA.out hm
     obtain rfl:g'=g:=by injection hgg with hgg;injection hgg with hgg;exact hgg.symm
     obtain ⟨n2,hn2⟩:∃ n,n=a2.pos.length:=⟨_,rfl⟩
     obtain ⟨z2,hzz2⟩:∃ z,z=a2.pos.getD mk 0:=⟨_,rfl⟩
     rw [← hn2] at r2 hpc'
     rw [← hzz2] at hz' hy1 hy2 hx
     have hmn2:(mk:Int) < (n2:Int):=by omega
     have hi2:(i2:Int) < (d.v.accs.length:Int):=by omega
     have hi20:(0:Int) ≤ (i2:Int):=by omega
     have hi2n:decide ((i2:Int) < 0)=false:=decide_eq_false (by omega)
     subst hx
     have hsz':-1000 ≤ z2 * side∧z2 * side ≤ 1000:=by rcases HS.out with e | e <;> rw [e] <;> omega
     obtain ⟨hsz1',hsz2'⟩:=hsz'
     simp only [otherI]
     clear ha2 hpl' hn2 hzz2 hgg
     by_cases hq:z2 * side < z * side
     ·have hq':decide (z2 * side < z * side)=true:=decide_eq_true hq
      have HN:∀ W,Below wr.heap.size wr W→Hid (OtR w W d.v.accs mk side (j + 1) (some (j,z * side))):=fun W hW=>Lib.hid (otr_yes HR.out HAA.out hW HZ.out ⟨hp,by intro q hq2;simp only [Option.mem_def,Option.some.injEq] at hq2;subst hq2;exact hq⟩)
      go_wp2_with fail
      go_roundw
      case rel=>exact ⟨j + 1,_,by omega,by go_num,rfl,HN _ ((Below.refl _ _).alloc (Nat.le_refl _) _)⟩
      case measure=>simp [intOf];omega
     ·have hq':decide (z2 * side < z * side)=false:=decide_eq_false hq
      have HN:∀ W,Below wr.heap.size wr W→Hid (OtR w W d.v.accs mk side (j + 1) (some (i2,z2 * side))):=fun W hW=>Lib.hid (otr_no HR.out HAA.out hW HZ.out (fun h=>hq (h.2 _ rfl)))
      go_wp2_with fail
      go_roundw
      case rel=>exact ⟨j + 1,_,by omega,by go_num,rfl,HN _ ((Below.refl _ _).alloc (Nat.le_refl _) _)⟩
      case measure=>simp [intOf];omega
  ·obtain rfl:j=d.v.accs.length:=by omega
   have e:otherI best=otherI (otherOfV d.v mk side):=by
    have:=HR.out.eq
    rw [List.drop_length] at this
    unfold otherOfV
    rw [← this];rfl
   have HE:=Lib.hid e
   clear e
   go_wp2_with fail
   go_ret
   exact ⟨ret_ii HE.out,HR.out.low⟩
end
end Go.Proofs.Ytockodmbhnlheaa
