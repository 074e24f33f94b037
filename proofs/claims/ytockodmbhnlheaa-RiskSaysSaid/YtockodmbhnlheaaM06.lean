/-
  Contracts of the program's functions, and plain facts, that the laws VenueKeeps, VenueOthers, VenueCancels, VenueCash, VenueReady rest on (joined texts): RiskLaws, FundPure, VenuePure, VenueInv, VnMem, RowV, Closed, Fr, Fix, Acc, Equity.
-/
import Derived.Test.YtockodmbhnlheaaM02
import Derived.Test.YtockodmbhnlheaaM01
import Derived.Test.YtockodmbhnlheaaM05
import Derived.Test.YtockodmbhnlheaaProg
import Derived.Maps.AppendAt
import Derived.Laws.AppendOwnNone
import Derived.OwnWalk
import Derived.Test.YtockodmbhnlheaaM03
import Derived.Deep.RegionHeld3
import Derived.Lib.AppendZeros
import Derived.Test.YtockodmbhnlheaaM04
import Derived.Laws.CopyOwn
import Derived.Lib.AppendZerosOnto
import Derived.Lib.Overlaps
import Derived.Laws.Externs
import Derived.Deep.RegionLaw
import Derived.Maps.Own
import Derived.Maps.OwnOps
import Derived.Maps.Views
import Derived.WalkKit
import Derived.Deep.Draws
import Derived.IntWalk
import Derived.Deep.QuietTactic
import Derived.BigQuiet
import Derived.Deep.DeepCutAuto
import Derived.WalkSpells
import Derived.WalkLawsBesides
import Derived.Lib.Hide
import Derived.Test.YtockodmbhnlheaaRows
import Derived.ProofKit
import Derived.OpenShut
import Derived.SizedLaws
import Derived.Deep.Slices
import Derived.JoinedOf
import Derived.KernelRfl
namespace Go.Proofs.Ytockodmbhnlheaa
section
theorem margins_ok {a:Ac} {marks:List Int} {x y:Int} (h:marginsOf a marks=(x,y,0)):accCheck a.id a.bal a.pos marks.length=0∧marginsFrom 0 0 a.pos marks=(x,y,0):=by
 unfold marginsOf at h
 split at h
 ·rename_i h1;injection h with _ h;injection h with _ h;exact absurd h h1
 ·rename_i h1;exact ⟨by omega,h⟩
theorem posOk_getD {l:List Int} (h:posOk l=true) (j:Nat):-1000 ≤ l.getD j 0∧l.getD j 0 ≤ 1000:=by
 by_cases hj:j < l.length
 ·have:=posOk_get h (List.getElem?_eq_getElem hj)
  simpa [List.getD,hj] using this
 ·simp [List.getD,hj]
theorem margins_order:∀ {l marks:List Int} {x y p q:Int},0 ≤ y→y ≤ x→marginsFrom x y l marks=(p,q,0)→0 ≤ q∧q ≤ p
 | [],_,x,y,p,q,h1,h2,h=>by
  simp only [marginsFrom] at h
  injection h with e1 h;injection h with e2 _
  omega
 | n :: l,[],x,y,p,q,h1,h2,h=>by
  simp only [marginsFrom] at h
  injection h with e1 h;injection h with e2 _
  omega
 | n :: l,k :: marks,x,y,p,q,h1,h2,h=>by
  rw [margins_step] at h
  split at h
  ·rename_i h4;injection h with _ h;injection h with _ h;exact absurd h h4
  rename_i h4
  obtain ⟨_,hn,hk,hw0,hw1⟩:=worth_abs (show (worthOf (max n (-n)) k).2=0 by omega)
  have hb:0 ≤ wants2 n k∧wants2 n k ≤ wants1 n k:=by
   unfold wants1 wants2
   generalize max n (-n) * k=w at *
   obtain ⟨_,⟨a1,_⟩,a2⟩:=tier_bd w
   have h5:w * (tierOf w).2 ≤ w * (tierOf w).1:=Int.mul_le_mul_of_nonneg_left a2 hw0
   have h6:0 ≤ w * (tierOf w).2:=Int.mul_nonneg hw0 a1
   omega
  exact margins_order (by omega) (by omega) h
theorem holds1 {a:Ac} {marks:List Int} {x y:Int} (h:marginsOf a marks=(x,y,0)):0 ≤ y∧y ≤ x:=margins_order (Int.le_refl _) (Int.le_refl _) (margins_ok h).2
theorem holds2 {a:Ac} {marks:List Int} {b c:Bool} (h:soundOf a marks=(b,c,0)):b=true→c=true:=by
 unfold soundOf at h
 split at h
 ·rename_i h1;injection h with _ h;injection h with _ h;exact absurd h h1
 rename_i h1
 split at h
 ·rename_i h2;injection h with _ h;injection h with _ h;exact absurd h h2
 injection h with e1 h;injection h with e2 _
 obtain ⟨x,y,z,hm⟩:∃ x y z,marginsOf a marks=(x,y,z):=⟨_,_,_,rfl⟩
 rw [hm] at h1 e1 e2
 simp only at h1 e1 e2
 have:z=0:=by omega
 subst this
 have:=holds1 hm
 rw [← e1,← e2]
 simp only [decide_eq_true_eq]
 omega
theorem worths_money:∀ {l marks:List Int},(worths l marks).2=0→∀ x ∈ (worths l marks).1,isMoney x=true
 | [],_,_=>by simp [worths]
 | _ :: _,[],_=>by simp [worths]
 | n :: l,m :: marks,h=>by
  unfold worths at h ⊢
  rcases worth_cases n m with hw | ⟨hw,hq,hp,hb⟩
  ·rw [hw] at h;simp at h
  rw [hw] at h ⊢
  simp only at h ⊢
  rw [if_neg (by simp)] at h ⊢
  split at h
  ·rename_i h1;exact absurd h h1
  rename_i h1
  rw [if_neg h1]
  intro x hx
  rcases List.mem_cons.1 hx with rfl | hx
  ·exact isMoney_iff.2 (by omega)
  ·exact worths_money (by omega) x hx
end
section
def balSum (l:List Ac):Int:=(l.map (·.bal)).sum
def posSum (market:Nat) (l:List Ac):Int:=(l.map fun a=>a.pos.getD market 0).sum
theorem balSum_cons (a:Ac) (l:List Ac):balSum (a :: l)=a.bal + balSum l:=by simp [balSum]
theorem posSum_cons (m:Nat) (a:Ac) (l:List Ac):posSum m (a :: l)=a.pos.getD m 0 + posSum m l:=by simp [posSum]
theorem balSum_next {l:List Ac} {j:Nat} {a:Ac} (h:l[j]?=some a):balSum (l.take (j + 1))=balSum (l.take j) + a.bal:=by
 rw [List.take_add_one,h];simp [balSum]
theorem posSum_next {l:List Ac} {j m:Nat} {a:Ac} (h:l[j]?=some a):posSum m (l.take (j + 1))=posSum m (l.take j) + a.pos.getD m 0:=by
 rw [List.take_add_one,h];simp [posSum]
structure Settled (market mark rate:Int) (a b:Ac) (p:Int):Prop where
 pays:pays a market mark rate=(p,0)
 eq:b = { a with bal:=a.bal - p }
 money:isMoney b.bal=true
theorem add_two {x y z:Int} (h:addAll [x,y]=(z,0)):z=x + y∧isMoney z=true:=by
 have h1:=addFrom_ok _ _ _ h
 exact ⟨by simpa using h1.1,h1.2.2 (by decide)⟩
theorem settle_ok (market mark rate:Int):∀ (rest done out:List Ac) (left lf:Int),settleAcc market mark rate done left rest=(out,lf,0) →
  ∃ news,out=done ++ news∧news.length=rest.length∧(∀ (i:Nat) (a b:Ac),rest[i]?=some a→news[i]?=some b→∃ p,Settled market mark rate a b p)∧lf=left + balSum rest - balSum news ∧
   posSum market.toNat rest * (mark * rate) ≤ 10000 * (lf - left)∧10000 * (lf - left) ≤ posSum market.toNat rest * (mark * rate) + 9999 * (rest.length:Int)
 | [],done,out,left,lf,h=>by
  injection h with h1 h2
  injection h2 with h2 _
  subst h1 h2
  exact ⟨[],by simp,rfl,by simp,by simp [balSum],by simp [posSum],by simp [posSum]⟩
 | a :: rest,done,out,left,lf,h=>by
  unfold settleAcc at h
  split at h
  ·rename_i h1;injection h with _ h;injection h with _ h;exact absurd h h1
  ·rename_i h1
   split at h
   ·rename_i h2;injection h with _ h;injection h with _ h;exact absurd h h2
   ·rename_i h2
    obtain ⟨p,ep,hp⟩:∃ p ep,pays a market mark rate=(p,ep):=⟨_,_,rfl⟩
    rw [hp] at h h1 h2
    simp only [Classical.not_not] at h1 h2
    subst h1
    obtain ⟨q,eq,hq⟩:∃ q eq,addAll [a.bal,-p]=(q,eq):=⟨_,_,rfl⟩
    simp only at h h2
    rw [hq] at h h2
    simp only at h h2
    subst h2
    obtain ⟨hq1,hq2⟩:=add_two hq
    obtain ⟨news,h3,h4,h5,h6,h7,h8⟩:=settle_ok market mark rate rest _ out _ lf h
    refine ⟨{ a with bal:=q } :: news,by rw [h3];simp,by simp [h4],?_,?_,?_⟩
    ·intro i b c hb hc
     cases i with
     | zero =>
      simp at hb hc
      subst hb hc
      exact ⟨p,hp,by rw [hq1];rfl,hq2⟩
     | succ i=>exact h5 i b c (by simpa using hb) (by simpa using hc)
    ·rw [balSum_cons,balSum_cons,h6,hq1];simp;omega
    ·obtain ⟨k1,k2,k3,k4,k5,k6,k7⟩:=pays_ok (show paysOf a.id a.bal a.pos market mark rate=(p,0) from hp)
     rw [part_small k4 k3] at k7
     injection k7 with k7 _
     rw [posSum_cons,Int.add_mul,List.length_cons]
     have e1:a.pos.getD market.toNat 0 * mark * rate=a.pos.getD market.toNat 0 * (mark * rate):=by rw [Int.mul_assoc]
     rw [e1] at k7
     generalize a.pos.getD market.toNat 0 * (mark * rate)=y at *
     generalize posSum market.toNat rest * (mark * rate)=s at *
     omega
theorem settle_even {L out:List Ac} {market mark rate left:Int} (h:settleOf L market mark rate=(out,left,0)) :
  out.length=L.length∧L.length ≤ 8∧(∀ (i:Nat) (a b:Ac),L[i]?=some a→out[i]?=some b→∃ p,Settled market mark rate a b p)∧balSum L=balSum out + left ∧
   (posSum market.toNat L ≠ 0∨0 ≤ left∧(left=0∨left < L.length)):=by
 unfold settleOf at h
 split at h
 ·injection h with _ h;injection h with _ h;omega
 ·rename_i h8
  obtain ⟨news,h3,h4,h5,h6,h7,h9⟩:=settle_ok market mark rate L [] out 0 left h
  rw [List.nil_append] at h3
  subst h3
  refine ⟨h4,by omega,h5,by omega,?_⟩
  by_cases h0:posSum market.toNat L=0
  ·right
   rw [h0] at h7 h9
   simp at h7 h9
   omega
  ·exact .inl h0
end
section
structure Vn where
 accs:List Ac
 mks:List Mk
 ins:Int
 resid:Int
 next:Int
 inn:Int
 out:Int
structure Cm where
 kind:Int
 acc:Int
 market:Int
 n:Int
 o:Od
 how:Int
 reduce:Bool
structure Ev where
 kind:Int
 err:Int
 market:Int
 id:Int
 acc:Int
 n:Int
 f:Fl
structure Dk where
 v:Vn
 ev:List Ev
def zeroFl:Fl:=⟨0,0,0,0,0,0,0⟩
def zeroVn:Vn:=⟨[],[],0,0,0,0,0⟩
def placeOf (L:List Ac) (id:Int):Nat:=(L.filter fun a=>decide (a.id < id)).length
def thereB (L:List Ac) (id:Int):Bool:=L.any fun a=>decide (a.id=id)
def accsErr (m:Int):Option Int→List Ac→Int
 | _,[]=>0
 | p,a :: l=>if accCheck a.id a.bal a.pos m ≠ 0 then accCheck a.id a.bal a.pos m else if (∃ q ∈ p,a.id ≤ q) then 6 else accsErr m (some a.id) l
def mksErr (L:List Ac) (next:Int):List Mk→Int
 | []=>0
 | m :: l=>if marketErr m ≠ 0 then marketErr m else if (m.book.bids ++ m.book.asks).any (fun o=>!thereB L o.acc || decide (next ≤ o.id)) then 5 else mksErr L next l
def venueErr (v:Vn):Int :=
 if v.mks.length < 1∨2 < v.mks.length∨8 < v.accs.length then 2
 else if v.ins < 0∨v.resid < 0∨v.next < 1∨100000 < v.next∨v.inn < 0∨v.out < 0∨isMoney v.inn=false∨isMoney v.out=false∨isMoney v.ins=false∨isMoney v.resid=false then 3
 else if accsErr v.mks.length none v.accs ≠ 0 then accsErr v.mks.length none v.accs
 else if v.ins + v.resid + balSum v.accs ≠ v.inn - v.out∨(∃ k,k < v.mks.length∧posSum k v.accs ≠ 0) then 4
 else mksErr v.accs v.next v.mks
def tell (d:Dk) (x:Ev):Dk:=⟨d.v,d.ev ++ [x]⟩
def setAcc (v:Vn) (k:Nat) (a:Ac):Vn:={ v with accs:=v.accs.set k a }
def setMk (v:Vn) (k:Nat) (m:Mk):Vn:={ v with mks:=v.mks.set k m }
def mkAt (v:Vn) (k:Nat):Mk:=v.mks.getD k zeroMk
def accAt (v:Vn) (k:Nat):Ac:=v.accs.getD k zeroAc
def bindE {α β:Type} (x:Except Int α) (f:α→Except Int β):Except Int β:=match x with
 | .ok a=>f a
 | .error e=>.error e
def okIf (e:Int) {α:Type} (x:Except Int α):Except Int α:=if e ≠ 0 then .error e else x
def tradeSide (v:Vn) (market:Nat) (who qty price fee:Int):Except Int Vn :=
 if thereB v.accs who=false then .error 5
 else okIf (tradeOf (accAt v (placeOf v.accs who)) market qty price fee).2 (.ok (setAcc v (placeOf v.accs who) (tradeOf (accAt v (placeOf v.accs who)) market qty price fee).1))
def tradeE (v:Vn) (market:Nat) (taker maker qty price fee:Int):Except Int Vn :=
 bindE (tradeSide v market taker qty price fee) fun v=>bindE (tradeSide v market maker (-qty) price 0) fun v =>
  okIf (addAll [v.ins,fee]).2 (.ok { v with ins:=(addAll [v.ins,fee]).1 })
def fillsE (market:Nat) (free:Bool):List Fl→Dk→Except Int Dk
 | [],d=>.ok d
 | f :: l,d=>bindE (tradeE d.v market f.tacc f.macc (f.side * f.qty) f.price (if free then 0 else (feeOf f.qty f.price).1)) fun v =>
   fillsE market free l (tell ⟨setMk v market { mkAt v market with last:=f.price },d.ev⟩ ⟨3,0,market,0,0,0,f⟩)
def moveE (k:Nat) (n:Int) (d:Dk):Except Int Dk :=
 okIf (addAll [(accAt d.v k).bal,n]).2 (.ok (tell ⟨setAcc d.v k { accAt d.v k with bal:=(addAll [(accAt d.v k).bal,n]).1 },d.ev⟩ ⟨5,0,0,0,(accAt d.v k).id,n,zeroFl⟩))
def beginErr (v:Vn) (a:Ac):Int :=
 if (marksOf v.mks).2 ≠ 0 then (marksOf v.mks).2
 else if (soundOf a (marksOf v.mks).1).2.2=0∧(soundOf a (marksOf v.mks).1).1=false then 8 else (soundOf a (marksOf v.mks).1).2.2
def insAcc (L:List Ac) (k:Nat) (a:Ac):List Ac:=L.take k ++ a :: L.drop k
def cashE (c:Cm) (d:Dk):Except Int Dk :=
 if c.n < 1∨1000000000000 < c.n then .error 3 else if c.acc < 0∨8 ≤ c.acc then .error 5
 else if c.kind=1 then
  okIf (addAll [d.v.inn,c.n]).2 (moveE (placeOf d.v.accs c.acc) c.n
   ⟨{ d.v with accs:=if thereB d.v.accs c.acc then d.v.accs else insAcc d.v.accs (placeOf d.v.accs c.acc) ⟨c.acc,0,List.replicate d.v.mks.length 0⟩,inn:=(addAll [d.v.inn,c.n]).1 },d.ev⟩)
 else if thereB d.v.accs c.acc=false then .error 5
 else okIf (addAll [d.v.out,c.n]).2 (bindE (moveE (placeOf d.v.accs c.acc) (-c.n) ⟨{ d.v with out:=(addAll [d.v.out,c.n]).1 },d.ev⟩) fun d' =>
  okIf (beginErr d'.v (accAt d'.v (placeOf d.v.accs c.acc))) (.ok d'))
def qtySum (l:List Fl):Int:=(l.map (·.qty)).sum
def comesE (c:Cm) (o:Od) (k mk:Nat) (d:Dk):Except Int Dk :=
 okIf (comeOf (mkAt d.v mk).book o c.how).2.2.2 (bindE (fillsE mk false (comeOf (mkAt d.v mk).book o c.how).2.1 ⟨setMk d.v mk { mkAt d.v mk with book:=(comeOf (mkAt d.v mk).book o c.how).1 },d.ev⟩) fun d' =>
  let left:=(comeOf (mkAt d.v mk).book o c.how).2.2.1
  let d2:=if 0 < left then tell d' ⟨4,0,mk,o.id,c.acc,left,zeroFl⟩ else d'
  if c.reduce then .ok d2
  else let t:=tradeOf (accAt d2.v k) mk (o.side * (o.qty - left - qtySum (comeOf (mkAt d.v mk).book o c.how).2.1)) o.price 0
   okIf t.2 (okIf (beginErr d2.v t.1) (.ok d2)))
def orderE (c:Cm) (d:Dk):Except Int Dk :=
 let o:Od:={ c.o with id:=d.v.next,acc:=c.acc }
 let k:=placeOf d.v.accs c.acc
 let mk:=c.market.toNat
 let p:=(accAt d.v k).pos.getD mk 0
 if ordErr o ≠ 0 then .error (ordErr o) else if c.reduce=true∧c.how ≠ 2 then .error 4
 else if thereB d.v.accs c.acc=false∨c.market < 0∨(d.v.mks.length:Int) ≤ c.market then .error 5
 else if d.v.next=100000 then .error 7
 else if c.reduce=true∧0 ≤ p * o.side then .error 12
 else comesE c (if c.reduce then { o with qty:=min o.qty (max p (-p)) } else o) k mk (tell ⟨{ d.v with next:=d.v.next + 1 },d.ev⟩ ⟨2,0,mk,o.id,c.acc,0,zeroFl⟩)
def cancelE (c:Cm) (d:Dk):Nat→List Mk→Except Int Dk
 | _,[]=>.error 5
 | i,m :: l=>if (removeOf m.book c.n).2.2=0∧(removeOf m.book c.n).2.1.acc=c.acc then
   .ok (tell ⟨setMk d.v i { m with book:=(removeOf m.book c.n).1 },d.ev⟩ ⟨4,0,i,(removeOf m.book c.n).2.1.id,(removeOf m.book c.n).2.1.acc,(removeOf m.book c.n).2.1.qty,zeroFl⟩)
  else cancelE c d (i + 1) l
def movedEvs:List Ac→List Ac→List Ev
 | a :: l,b :: m=>(if a.bal - b.bal ≠ 0 then [⟨5,0,0,0,a.id,a.bal - b.bal,zeroFl⟩] else []) ++ movedEvs l m
 | _,_=>[]
def marketE (c:Cm) (d:Dk):Except Int Dk :=
 if c.market < 0∨(d.v.mks.length:Int) ≤ c.market then .error 5
 else if c.kind=5 then (if c.n < 1∨10000 < c.n then .error 3 else .ok ⟨setMk d.v c.market.toNat { mkAt d.v c.market.toNat with index:=c.n },d.ev⟩)
 else okIf (markOf (mkAt d.v c.market.toNat)).2
  (okIf (settleOf d.v.accs c.market (markOf (mkAt d.v c.market.toNat)).1 c.n).2.2
   (okIf (addAll [d.v.resid,(settleOf d.v.accs c.market (markOf (mkAt d.v c.market.toNat)).1 c.n).2.1]).2
    (.ok ⟨{ d.v with accs:=(settleOf d.v.accs c.market (markOf (mkAt d.v c.market.toNat)).1 c.n).1,resid:=(addAll [d.v.resid,(settleOf d.v.accs c.market (markOf (mkAt d.v c.market.toNat)).1 c.n).2.1]).1 },
     d.ev ++ movedEvs (settleOf d.v.accs c.market (markOf (mkAt d.v c.market.toNat)).1 c.n).1 d.v.accs⟩)))
def notOf (id:Int) (l:List Od):List Od:=l.filter fun o=>!(decide (o.acc=id))
def goneEvs (market:Nat) (id:Int) (l:List Od):List Ev:=(l.filter fun o=>decide (o.acc=id)).map fun o=>⟨4,0,market,o.id,id,o.qty,zeroFl⟩
def stripAt (id:Int) (i:Nat) (d:Dk):Dk :=
 ⟨setMk d.v i { mkAt d.v i with book:=⟨notOf id (mkAt d.v i).book.bids,notOf id (mkAt d.v i).book.asks⟩ },d.ev ++ goneEvs i id (mkAt d.v i).book.bids ++ goneEvs i id (mkAt d.v i).book.asks⟩
def stripFrom (id:Int):Nat→Nat→Dk→Dk
 | 0,_,d=>d
 | n + 1,i,d=>stripFrom id n (i + 1) (stripAt id i d)
def strip (id:Int) (d:Dk):Dk:=stripFrom id d.v.mks.length 0 d
def otherFrom (market:Nat) (side:Int):Option (Nat × Int)→Nat→List Ac→Option (Nat × Int)
 | best,_,[]=>best
 | best,i,a :: l=>otherFrom market side (if 0 < a.pos.getD market 0 * side∧(∀ q ∈ best,q.2 < a.pos.getD market 0 * side) then some (i,a.pos.getD market 0 * side) else best) (i + 1) l
def otherOfV (v:Vn) (market:Nat) (side:Int):Option (Nat × Int):=otherFrom market side none 0 v.accs
def closeLoop (market:Nat) (id side price:Int):Nat→Int→Dk→Except Int Dk
 | 0,_,d=>.ok d
 | fuel + 1,left,d=>if left ≤ 0 then .ok d else match otherOfV d.v market side with
  | none=>.error 4
  | some (i,_) =>
   let n:=min left (max ((accAt d.v i).pos.getD market 0) (-(accAt d.v i).pos.getD market 0))
   bindE (tradeE d.v market id (accAt d.v i).id (side * n) price 0) fun v =>
    closeLoop market id side price fuel (left - n) (tell ⟨v,d.ev⟩ ⟨6,0,market,0,(accAt d.v i).id,0,⟨0,0,(accAt d.v i).id,id,side,price,n⟩⟩)
def closesE (k market:Nat) (marks:List Int) (d:Dk):Except Int Dk :=
 let a:=accAt d.v k
 let p:=a.pos.getD market 0
 let side:Int:=if p < 0 then 1 else -1
 okIf (bankruptOf a marks market).2
  (let t:=takeOf (mkAt d.v market).book ⟨100000,a.id,side,(bankruptOf a marks market).1,max p (-p)⟩
   okIf t.2.2.2.2 (bindE (fillsE market true t.2.1 ⟨setMk d.v market { mkAt d.v market with book:=t.1 },d.ev⟩) fun d =>
    closeLoop market a.id side (bankruptOf a marks market).1 t.2.2.1.toNat t.2.2.1 d))
def closeAll (k:Nat) (marks:List Int):Nat→Nat→Dk→Except Int Dk
 | 0,_,d=>.ok d
 | n + 1,i,d=>if (accAt d.v k).pos.getD i 0=0 then closeAll k marks n (i + 1) d else bindE (closesE k i marks d) fun d=>closeAll k marks n (i + 1) d
def coverE (k:Nat) (d:Dk):Except Int Dk :=
 let n:=min d.v.ins (-(accAt d.v k).bal)
 if 0 < n then moveE k n ⟨{ d.v with ins:=d.v.ins - n },d.ev⟩ else .ok d
def sweepFrom (marks:List Int):Nat→Nat→Dk→Except Int Dk
 | 0,_,d=>.ok d
 | n + 1,k,d=>okIf (soundOf (accAt d.v k) marks).2.2
  (if (soundOf (accAt d.v k) marks).2.1 then sweepFrom marks n (k + 1) d
   else bindE (closeAll k marks d.v.mks.length 0 (strip (accAt d.v k).id d)) fun d=>bindE (coverE k d) fun d=>sweepFrom marks n (k + 1) d)
def sweepE (d:Dk):Except Int Dk:=okIf (marksOf d.v.mks).2 (sweepFrom (marksOf d.v.mks).1 d.v.accs.length 0 d)
def doesE (c:Cm) (d:Dk):Except Int Dk :=
 if c.kind=1∨c.kind=2 then cashE c d else if c.kind=3 then orderE c d else if c.kind=4 then cancelE c d 0 d.v.mks
 else if c.kind=5∨c.kind=6 then marketE c d else if c.kind=7 then sweepE d else .error 4
def rejEv (e:Int):Ev:=⟨1,e,0,0,0,0,zeroFl⟩
def doOf (v:Vn) (c:Cm):Vn × List Ev × Int :=
 if venueErr v ≠ 0 then (zeroVn,[],venueErr v) else match doesE c ⟨v,[]⟩ with
 | .ok d=>(d.v,d.ev,0)
 | .error e=>(v,[rejEv e],0)
def runFrom (v:Vn) (out:List (List Ev)):List Cm→Vn × List (List Ev) × Int
 | []=>(v,out,0)
 | c :: l=>if (doOf v c).2.2 ≠ 0 then (zeroVn,[],(doOf v c).2.2) else runFrom (doOf v c).1 (out ++ [(doOf v c).2.1]) l
def runOf (v:Vn) (l:List Cm):Vn × List (List Ev) × Int :=
 if venueErr v ≠ 0 then (zeroVn,[],venueErr v) else if 60 < l.length then (zeroVn,[],2) else runFrom v [] l
end
section
def SortedA (L:List Ac):Prop:=L.Pairwise fun a b=>a.id < b.id
structure AOk (m:Nat) (L:List Ac):Prop where
 ok:∀ a ∈ L,accCheck a.id a.bal a.pos m=0
 sorted:SortedA L
structure NOk (v:Vn):Prop where
 ins:0 ≤ v.ins∧v.ins ≤ 1000000000000
 resid:0 ≤ v.resid∧v.resid ≤ 1000000000000
 next:1 ≤ v.next∧v.next ≤ 100000
 inn:0 ≤ v.inn∧v.inn ≤ 1000000000000
 out:0 ≤ v.out∧v.out ≤ 1000000000000
def MOk (L:List Ac) (next:Int) (M:List Mk):Prop:=∀ m ∈ M,marketErr m=0∧∀ o ∈ m.book.bids ++ m.book.asks,thereB L o.acc=true∧o.id < next
structure VOk (v:Vn):Prop where
 len:1 ≤ v.mks.length∧v.mks.length ≤ 2
 accs:AOk v.mks.length v.accs
 nums:NOk v
 money:v.ins + v.resid + balSum v.accs=v.inn - v.out
 pos:∀ k,k < v.mks.length→posSum k v.accs=0
 mks:MOk v.accs v.next v.mks
theorem accsErr_ok {m:Nat}:∀ {L:List Ac} {p:Option Int},accsErr m p L=0 ↔ AOk m L∧∀ q ∈ p,∀ a ∈ L,q < a.id
 | [],p=>by
  simp only [accsErr,true_iff]
  exact ⟨⟨by simp,List.Pairwise.nil⟩,by simp⟩
 | a :: l,p=>by
  unfold accsErr
  by_cases h1:accCheck a.id a.bal a.pos m=0
  ·rw [if_neg (by omega)]
   by_cases h2:∃ q ∈ p,a.id ≤ q
   ·rw [if_pos h2]
    constructor
    ·intro h;omega
    ·rintro ⟨_,h⟩
     obtain ⟨q,hq,hle⟩:=h2
     have:=h q hq a (by simp)
     omega
   ·rw [if_neg h2,accsErr_ok]
    constructor
    ·rintro ⟨⟨k1,k2⟩,k3⟩
     refine ⟨⟨?_,List.pairwise_cons.2 ⟨fun x hx=>k3 a.id rfl x hx,k2⟩⟩,?_⟩
     ·intro x hx
      rcases List.mem_cons.1 hx with rfl | hx
      ·exact h1
      ·exact k1 x hx
     ·intro q hq x hx
      have h3:q < a.id:=by
       rcases Int.lt_or_le q a.id with h | h
       ·exact h
       ·exact absurd ⟨q,hq,h⟩ h2
      rcases List.mem_cons.1 hx with rfl | hx
      ·exact h3
      ·have:=k3 a.id rfl x hx;omega
    ·rintro ⟨⟨k1,k2⟩,k3⟩
     obtain ⟨k4,k5⟩:=List.pairwise_cons.1 k2
     exact ⟨⟨fun x hx=>k1 x (by simp [hx]),k5⟩,fun q hq x hx=>by injection hq with hq;subst hq;exact k4 x hx⟩
  ·rw [if_pos h1]
   constructor
   ·intro h;exact absurd h h1
   ·rintro ⟨k,_⟩;exact absurd (k.ok a (by simp)) h1
theorem there_iff {L:List Ac} {id:Int}:thereB L id=true ↔ ∃ a ∈ L,a.id=id:=by simp [thereB]
theorem there_not {L:List Ac} {id:Int}:thereB L id=false ↔ ∀ a ∈ L,a.id ≠ id:=by
 rw [← Bool.not_eq_true,there_iff]
 constructor
 ·intro h a ha e;exact h ⟨a,ha,e⟩
 ·rintro h ⟨a,ha,e⟩;exact h a ha e
theorem place_spec:∀ {L:List Ac} {id:Int},SortedA L→placeOf L id ≤ L.length∧(∀ a ∈ L.take (placeOf L id),a.id < id)∧∀ a ∈ L.drop (placeOf L id),id ≤ a.id
 | [],id,_=>by simp [placeOf]
 | a :: l,id,h=>by
  obtain ⟨h1,h2⟩:=List.pairwise_cons.1 h
  obtain ⟨k1,k2,k3⟩:=place_spec (L:=l) (id:=id) h2
  by_cases ha:a.id < id
  ·have e:placeOf (a :: l) id=placeOf l id + 1:=by
    unfold placeOf;rw [List.filter_cons_of_pos (by simpa using ha)];rfl
   rw [e]
   refine ⟨by simp only [List.length_cons];omega,?_,?_⟩
   ·intro x hx
    rw [List.take_succ_cons] at hx
    rcases List.mem_cons.1 hx with rfl | hx
    ·exact ha
    ·exact k2 x hx
   ·intro x hx
    rw [List.drop_succ_cons] at hx
    exact k3 x hx
  ·have e:placeOf (a :: l) id=0:=by
    unfold placeOf
    rw [List.filter_cons_of_neg (by simpa using ha),List.filter_eq_nil_iff.2]
    ·rfl
    ·intro x hx
     have:=h1 x hx
     simp only [decide_eq_true_eq];omega
   rw [e]
   refine ⟨Nat.zero_le _,by simp,?_⟩
   intro x hx
   rw [List.drop_zero] at hx
   rcases List.mem_cons.1 hx with rfl | hx
   ·omega
   ·have:=h1 x hx;omega
theorem place_there {L:List Ac} {id:Int} (h:SortedA L) (ht:thereB L id=true):∃ a,L[placeOf L id]?=some a∧a.id=id:=by
 obtain ⟨k1,k2,k3⟩:=place_spec (id:=id) h
 obtain ⟨a,ha,hid⟩:=there_iff.1 ht
 rw [← List.take_append_drop (placeOf L id) L] at ha
 rcases List.mem_append.1 ha with ha | ha
 ·have:=k2 a ha;omega
 ·cases hd:L.drop (placeOf L id) with
  | nil=>rw [hd] at ha;cases ha
  | cons b M =>
   have hb:L[placeOf L id]?=some b:=by
    have:=List.getElem?_drop (xs:=L) (i:=placeOf L id) (j:=0)
    rw [hd,Nat.add_zero] at this
    rw [← this];rfl
   refine ⟨b,hb,?_⟩
   have hle:=k3 b (by rw [hd];simp)
   rw [hd] at ha
   rcases List.mem_cons.1 ha with rfl | ha
   ·exact hid
   ·have hs:SortedA (L.drop (placeOf L id)):=List.Pairwise.sublist (List.drop_sublist _ _) h
    rw [hd] at hs
    have:=(List.pairwise_cons.1 hs).1 a ha
    omega
theorem sorted_inj {L:List Ac} (h:SortedA L) {i j:Nat} {a b:Ac} (hi:L[i]?=some a) (hj:L[j]?=some b) (he:a.id=b.id):i=j:=by
 obtain ⟨h1,h2⟩:=List.getElem?_eq_some_iff.1 hi
 obtain ⟨h3,h4⟩:=List.getElem?_eq_some_iff.1 hj
 have hp:=List.pairwise_iff_getElem.1 h
 rcases Nat.lt_trichotomy i j with hl | hl | hl
 ·have:=hp i j h1 h3 hl;rw [h2,h4] at this;omega
 ·exact hl
 ·have:=hp j i h3 h1 hl;rw [h2,h4] at this;omega
theorem sum_set {α:Type} (f:α→Int):∀ {L:List α} {k:Nat} {a b:α},L[k]?=some a→((L.set k b).map f).sum=(L.map f).sum - f a + f b
 | [],k,a,b,h=>by simp at h
 | x :: l,0,a,b,h=>by
  simp at h;subst h
  simp only [List.set_cons_zero,List.map_cons,List.sum_cons];omega
 | x :: l,k + 1,a,b,h=>by
  simp at h
  simp only [List.set_cons_succ,List.map_cons,List.sum_cons,sum_set f h (b:=b)];omega
theorem balSum_set {L:List Ac} {k:Nat} {a b:Ac} (h:L[k]?=some a):balSum (L.set k b)=balSum L - a.bal + b.bal:=sum_set (fun x:Ac=>x.bal) h
theorem posSum_set {L:List Ac} {m k:Nat} {a b:Ac} (h:L[k]?=some a):posSum m (L.set k b)=posSum m L - a.pos.getD m 0 + b.pos.getD m 0:=sum_set (fun x:Ac=>x.pos.getD m 0) h
theorem getD_some {α:Type} {L:List α} {k:Nat} {a d:α} (h:L[k]?=some a):L.getD k d=a:=by rw [List.getD,h];rfl
theorem ids_set {L:List Ac} {k:Nat} {a b:Ac} (h:L[k]?=some a) (he:b.id=a.id):(L.set k b).map (·.id)=L.map (·.id):=by
 rw [List.map_set]
 apply List.ext_getElem?
 intro i
 rw [List.getElem?_set]
 split
 ·rename_i hi;subst hi
  rw [List.getElem?_map,h]
  have:=(List.getElem?_eq_some_iff.1 h).1
  simp [he,this]
 ·rfl
theorem sortedA_map {L:List Ac}:SortedA L ↔ (L.map (·.id)).Pairwise (· < ·):=by unfold SortedA;rw [List.pairwise_map]
theorem there_map {L M:List Ac} (h:M.map (·.id)=L.map (·.id)) (id:Int):thereB M id=thereB L id:=by
 rw [Bool.eq_iff_iff,there_iff,there_iff]
 have key:∀ K:List Ac,(∃ a ∈ K,a.id=id) ↔ id ∈ K.map (·.id):=by intro K;simp
 rw [key,key,h]
theorem place_map {L M:List Ac} (h:M.map (·.id)=L.map (·.id)) (id:Int):placeOf M id=placeOf L id:=by
 have key:∀ K:List Ac,placeOf K id=((K.map (·.id)).filter fun x=>decide (x < id)).length:=by
  intro K;unfold placeOf;rw [List.filter_map];simp [Function.comp_def]
 rw [key,key,h]
theorem aok_set {m:Nat} {L:List Ac} {k:Nat} {a b:Ac} (h:AOk m L) (hk:L[k]?=some a) (he:b.id=a.id) (hb:accCheck b.id b.bal b.pos m=0):AOk m (L.set k b):=by
 refine ⟨fun x hx=>?_,?_⟩
 ·rcases List.mem_or_eq_of_mem_set hx with hx | rfl
  ·exact h.ok x hx
  ·exact hb
 ·rw [sortedA_map,ids_set hk he,← sortedA_map];exact h.sorted
theorem mok_there {L M:List Ac} {next next':Int} {K:List Mk} (h:MOk L next K) (ht:∀ id,thereB L id=true→thereB M id=true) (hn:next ≤ next'):MOk M next' K:=by
 intro m hm
 obtain ⟨h1,h2⟩:=h m hm
 exact ⟨h1,fun o ho=>⟨ht _ (h2 o ho).1,by have:=(h2 o ho).2;omega⟩⟩
theorem mok_set {L:List Ac} {next:Int} {K:List Mk} {k:Nat} {m:Mk} (h:MOk L next K) (h1:marketErr m=0) (h2:∀ o ∈ m.book.bids ++ m.book.asks,thereB L o.acc=true∧o.id < next):MOk L next (K.set k m):=by
 intro x hx
 rcases List.mem_or_eq_of_mem_set hx with hx | rfl
 ·exact h x hx
 ·exact ⟨h1,h2⟩
theorem nodup_le:∀ (n:Nat) (l:List Int),l.Pairwise (· < ·)→(∀ x ∈ l,0 ≤ x∧x < n)→l.length ≤ n
 | 0,[],_,_=>Nat.le_refl _
 | 0,x :: l,_,h=>by have:=h x (by simp);omega
 | n + 1,l,hs,h=>by
  rcases List.eq_nil_or_concat l with rfl | ⟨l',x,rfl⟩
  ·simp
  ·rw [List.concat_eq_append] at hs h ⊢
   obtain ⟨h1,_,h3⟩:=List.pairwise_append.1 hs
   have hx:=h x (by simp)
   have:=nodup_le n l' h1 fun y hy=>by
    have k1:=h3 y hy x (by simp)
    have k2:=h y (by simp [hy])
    omega
   simp;omega
theorem aok_len {m:Nat} {L:List Ac} (h:AOk m L):L.length ≤ 8:=by
 have:=nodup_le 8 (L.map (·.id)) (sortedA_map.1 h.sorted) (by
  intro x hx
  obtain ⟨a,ha,rfl⟩:=List.mem_map.1 hx
  have:=(accCheck_ok (h.ok a ha)).1
  omega)
 simpa using this
theorem mksErr_ok {L:List Ac} {next:Int}:∀ {M:List Mk},mksErr L next M=0 ↔ MOk L next M
 | []=>by simp [mksErr,MOk]
 | m :: l=>by
  unfold mksErr
  have ih:=mksErr_ok (L:=L) (next:=next) (M:=l)
  by_cases h1:marketErr m=0
  ·rw [if_neg (by omega)]
   by_cases h2:(m.book.bids ++ m.book.asks).any (fun o=>!thereB L o.acc || decide (next ≤ o.id))=true
   ·rw [if_pos h2]
    constructor
    ·intro h;omega
    ·intro h
     rw [List.any_eq_true] at h2
     obtain ⟨o,ho,hb⟩:=h2
     have:=(h m (by simp)).2 o ho
     simp [this.1] at hb
     omega
   ·rw [if_neg h2,ih]
    constructor
    ·intro h x hx
     rcases List.mem_cons.1 hx with rfl | hx
     ·refine ⟨h1,fun o ho=>?_⟩
      rw [Bool.not_eq_true,List.any_eq_false] at h2
      have:=h2 o ho
      simp at this
      exact this
     ·exact h x hx
    ·intro h x hx;exact h x (by simp [hx])
  ·rw [if_pos h1]
   constructor
   ·intro h;exact absurd h h1
   ·intro h;exact absurd (h m (by simp)).1 h1
theorem venueErr_ok {v:Vn}:venueErr v=0 ↔ VOk v:=by
 unfold venueErr
 have e1:=accsErr_ok (m:=v.mks.length) (L:=v.accs) (p:=none)
 constructor
 ·intro h
  split at h
  ·omega
  rename_i h1
  split at h
  ·omega
  rename_i h2
  split at h
  ·rename_i h3;exact absurd h h3
  rename_i h3
  split at h
  ·omega
  rename_i h4
  have h3:=(e1.1 (by omega)).1
  have i1:isMoney v.inn=true:=by cases hb:isMoney v.inn <;> simp_all
  have i2:isMoney v.out=true:=by cases hb:isMoney v.out <;> simp_all
  have i3:isMoney v.ins=true:=by cases hb:isMoney v.ins <;> simp_all
  have i4:isMoney v.resid=true:=by cases hb:isMoney v.resid <;> simp_all
  rw [isMoney_iff] at i1 i2 i3 i4
  simp only [not_or,Int.not_lt] at h2
  obtain ⟨g1,g2,g3,g4,g5,g6,_⟩:=h2
  simp only [not_or,not_exists,not_and,Classical.not_not] at h4
  exact ⟨by omega,h3,⟨⟨g1,i3.2⟩,⟨g2,i4.2⟩,⟨g3,g4⟩,⟨g5,i1.2⟩,⟨g6,i2.2⟩⟩,h4.1,h4.2,mksErr_ok.1 h⟩
 ·intro h
  have hl:=aok_len h.accs
  have hn:=h.nums
  have k1:=hn.ins;have k2:=hn.resid;have k3:=hn.next;have k4:=hn.inn;have k5:=hn.out;have k6:=h.len
  rw [if_neg (by omega),if_neg ?_,if_neg (by rw [e1.2 ⟨h.accs,by simp⟩];simp),if_neg ?_]
  ·exact mksErr_ok.2 h.mks
  ·rintro (h1 | ⟨k,hk,h1⟩)
   ·exact h1 h.money
   ·exact h1 (h.pos k hk)
  ·have i1:isMoney v.inn=true:=isMoney_iff.2 (by omega)
   have i2:isMoney v.out=true:=isMoney_iff.2 (by omega)
   have i3:isMoney v.ins=true:=isMoney_iff.2 (by omega)
   have i4:isMoney v.resid=true:=isMoney_iff.2 (by omega)
   rw [i1,i2,i3,i4]
   simp only [Bool.true_eq_false,or_false]
   omega
end
section
open Go.RowKit
def RMk (w:World) (B b o:Nat) (m:Mk):Prop :=
 ∃ A c A' c',w.cell? ⟨b,o,none⟩=some (.slice A m.book.bids.length c)∧w.cell? ⟨b,o + 1,none⟩=some (.slice A' m.book.asks.length c')∧w.cell? ⟨b,o + 2,none⟩=some (.int .i64 m.index)∧w.cell? ⟨b,o + 3,none⟩=some (.int .i64 m.last) ∧
  BkR w B A A' c c' m.book∧m.book.bids.length ≤ 4000000000000∧m.book.asks.length ≤ 4000000000000
theorem BkR.mono {w w':World} {B B' c c':Nat} {A A':Option Addr} {b:Bk} (h:BkR w B A A' c c' b) (hB:B ≤ B') (hk:∀ b o,b < B→w'.cell? ⟨b,o,none⟩=w.cell? ⟨b,o,none⟩):BkR w' B' A A' c c' b:=⟨h.l.mono hB hk,h.r.mono hB hk⟩
def shMk:Shape Mk where
 k:=4
 R:=RMk
 move:=by
  intro w w' B B' b o b' o' a h hc hB hk
  obtain ⟨A,c,A',c',h0,h1,h2,h3,h4,h5,h6⟩:=h
  exact ⟨A,c,A',c',(hc 0 (by omega)).trans h0,(hc 1 (by omega)).trans h1,(hc 2 (by omega)).trans h2,(hc 3 (by omega)).trans h3,h4.mono hB hk,h5,h6⟩
 cells:=by
  intro w B b o a h j hj
  obtain ⟨A,c,A',c',h0,h1,h2,h3,_⟩:=h
  rcases (show j=0∨j=1∨j=2∨j=3 by omega) with rfl | rfl | rfl | rfl
  ·exact ⟨_,h0,rfl⟩
  ·exact ⟨_,h1,rfl⟩
  ·exact ⟨_,h2,rfl⟩
  ·exact ⟨_,h3,rfl⟩
theorem mk_at {w:World} {B n c:Nat} {A:Option Addr} {L:List Mk} (h:RdL shMk w B A n c L) {i:Nat} (hi:i < n):∃ b o m,A=some ⟨b,o,none⟩∧b < B∧L[i]?=some m ∧
  ∃ A2 c2 A3 c3,w.cell? ⟨b,o + i * 4,none⟩=some (.slice A2 m.book.bids.length c2)∧w.cell? ⟨b,o + i * 4 + 1,none⟩=some (.slice A3 m.book.asks.length c3)∧w.cell? ⟨b,o + i * 4 + 2,none⟩=some (.int .i64 m.index)∧w.cell? ⟨b,o + i * 4 + 3,none⟩=some (.int .i64 m.last) ∧
   BkR w B A2 A3 c2 c3 m.book∧m.book.bids.length ≤ 4000000000000∧m.book.asks.length ≤ 4000000000000:=by
 obtain ⟨b,o,a,h1,h2,h3,h4⟩:=h.one hi
 exact ⟨b,o,a,h1,h2,h3,h4⟩
theorem elem_mk':Elem Try.prog 104 64 4 64:=elem_mk Try.underlying104 (by kernel_rfl) (by decide)
structure VnR (w:World) (B:Nat) (A:Option Addr) (c:Nat) (M:Option Addr) (k:Nat) (v:Vn):Prop where
 accs:RdL shAcc w B A v.accs.length c v.accs
 mks:RdL shMk w B M v.mks.length k v.mks
section
variable {w w':World} {B B' c k:Nat} {A M:Option Addr} {v:Vn}
theorem VnR.below (h:VnR w B A c M k v) (hb:Below B w w'):VnR w' B A c M k v:=⟨h.accs.below hb,h.mks.below hb⟩
theorem VnR.up (h:VnR w B A c M k v) (hB:B ≤ B'):VnR w B' A c M k v:=⟨h.accs.up hB,h.mks.up hB⟩
end
def evCells:List Ev→List Value
 | []=>[]
 | e :: l=>.int .i64 e.kind :: .int .i64 e.err :: .int .i64 e.market :: .int .i64 e.id :: .int .i64 e.acc :: .int .i64 e.n ::
   .int .i64 e.f.maker :: .int .i64 e.f.taker :: .int .i64 e.f.macc :: .int .i64 e.f.tacc :: .int .i64 e.f.side :: .int .i64 e.f.price :: .int .i64 e.f.qty :: evCells l
theorem evCells_len:∀ L,(evCells L).length=L.length * 13
 | []=>rfl
 | o :: l=>by simp only [evCells,List.length_cons,evCells_len l];omega
theorem evCells_app (M:List Ev):∀ L,evCells (L ++ M)=evCells L ++ evCells M
 | []=>rfl
 | o :: l=>by simp only [List.cons_append,evCells,evCells_app M l]
theorem evCells_one:∀ (L:List Ev),∀ u ∈ evCells L,u.oneCell'=true
 | []=>by simp [evCells]
 | o :: l=>by
  intro u hu
  simp only [evCells,List.mem_cons] at hu
  rcases hu with rfl | rfl | rfl | rfl | rfl | rfl | rfl | rfl | rfl | rfl | rfl | rfl | rfl | hu
  all_goals first | rfl | exact evCells_one l u hu
theorem elem_ev:Elem Try.prog 114 124 13 104:=elem_mk Try.underlying114 (by kernel_rfl) (by decide)
def AcCell (w:World) (base:Nat) (xs:List Value) (i:Nat) (a:Ac):Prop :=
 ∃ A c,xs[i * 3]?=some (.int .i64 a.id)∧xs[i * 3 + 1]?=some (.int .i64 a.bal)∧xs[i * 3 + 2]?=some (.slice A a.pos.length c)∧w.ownsRow base 3 1 (.slice A a.pos.length c) a.pos.length (ints a.pos)∧a.pos.length * 8 ≤ 140737488355328
structure OwnAc (w:World) (base:Nat) (A:Option Addr) (n c:Nat) (L:List Ac) (xs:List Value):Prop where
 row:w.ownsRow base 37 3 (.slice A n c) n xs
 len:L.length=n
 cell:∀ i a,L[i]?=some a→AcCell w base xs i a
def MkCell (w:World) (base:Nat) (xs:List Value) (i:Nat) (m:Mk):Prop :=
 ∃ A c A' c',xs[i * 4]?=some (.slice A m.book.bids.length c)∧xs[i * 4 + 1]?=some (.slice A' m.book.asks.length c')∧xs[i * 4 + 2]?=some (.int .i64 m.index)∧xs[i * 4 + 3]?=some (.int .i64 m.last)∧OBk w base A A' c c' m.book ∧
  m.book.bids.length ≤ 4000000000000∧m.book.asks.length ≤ 4000000000000
def Apart (xs:List Value):Prop:=∀ i s j t u v g,s < 2→t < 2→xs[i * 4 + s]?=some u→xs[j * 4 + t]?=some v→u.ownBlock=some g→v.ownBlock=some g→i=j∧s=t
structure OwnMk (w:World) (base:Nat) (ap:Bool) (M:Option Addr) (m k:Nat) (L:List Mk) (xs:List Value):Prop where
 row:w.ownsRow base 64 4 (.slice M m k) m xs
 len:L.length=m
 cell:∀ i a,L[i]?=some a→MkCell w base xs i a
 apart:ap=true→Apart xs
section
variable {w w':World} {base n c m k:Nat} {A M:Option Addr} {L:List Ac} {K:List Mk} {xs ys:List Value} {ap:Bool}
theorem AcCell.mono {i:Nat} {a:Ac} (h:AcCell w base xs i a) (hk:∀ v n ys,w.ownsRow base 3 1 v n ys→w'.ownsRow base 3 1 v n ys):AcCell w' base xs i a:=by
 obtain ⟨A,c,h0,h1,h2,h3,h4⟩:=h
 exact ⟨A,c,h0,h1,h2,hk _ _ _ h3,h4⟩
theorem OwnAc.mono (h:OwnAc w base A n c L xs) (h1:w'.ownsRow base 37 3 (.slice A n c) n xs) (hk:∀ v n ys,w.ownsRow base 3 1 v n ys→w'.ownsRow base 3 1 v n ys):OwnAc w' base A n c L xs :=
 ⟨h1,h.len,fun i a ha=>(h.cell i a ha).mono hk⟩
theorem OwnAc.below (h:OwnAc w base A n c L xs) (hb:Below w.heap.size w w'):OwnAc w' base A n c L xs:=h.mono (own_below h.row hb (Nat.le_refl _)) fun _ _ _ hr=>own_below hr hb (Nat.le_refl _)
theorem OwnAc.kept {S:List TypeId} (h:OwnAc w base A n c L xs) (hb:Kept S w w') (h1:37 ∉ S) (h2:3 ∉ S):OwnAc w' base A n c L xs:=h.mono (hb.own h.row h1) fun _ _ _ hr=>hb.own hr h2
theorem MkCell.mono {i:Nat} {a:Mk} (h:MkCell w base xs i a) (hk:∀ v n ys,w.ownsRow base 71 5 v n ys→w'.ownsRow base 71 5 v n ys):MkCell w' base xs i a:=by
 obtain ⟨A,c,A',c',h0,h1,h2,h3,h4,h5⟩:=h
 exact ⟨A,c,A',c',h0,h1,h2,h3,⟨hk _ _ _ h4.l,hk _ _ _ h4.r⟩,h5⟩
theorem OwnMk.mono (h:OwnMk w base ap M m k K xs) (h1:w'.ownsRow base 64 4 (.slice M m k) m xs) (hk:∀ v n ys,w.ownsRow base 71 5 v n ys→w'.ownsRow base 71 5 v n ys):OwnMk w' base ap M m k K xs :=
 ⟨h1,h.len,fun i a ha=>(h.cell i a ha).mono hk,h.apart⟩
theorem OwnMk.below (h:OwnMk w base ap M m k K xs) (hb:Below w.heap.size w w'):OwnMk w' base ap M m k K xs:=h.mono (own_below h.row hb (Nat.le_refl _)) fun _ _ _ hr=>own_below hr hb (Nat.le_refl _)
theorem OwnMk.kept {S:List TypeId} (h:OwnMk w base ap M m k K xs) (hb:Kept S w w') (h1:64 ∉ S) (h2:71 ∉ S):OwnMk w' base ap M m k K xs:=h.mono (hb.own h.row h1) fun _ _ _ hr=>hb.own hr h2
theorem OwnMk.weak (h:OwnMk w base ap M m k K xs):OwnMk w base false M m k K xs:=⟨h.row,h.len,h.cell,nofun⟩
theorem OwnAc.read (h:OwnAc w base A n c L xs):RdL shAcc w w.heap.size A n c L:=by
 have hr:=Rd.of_own h.row
 refine ⟨h.len,hr.le,hr.cap,hr.nil,fun hn=>?_⟩
 obtain ⟨b,o,e,hb,hc⟩:=hr.at_ hn
 refine ⟨b,o,e,hb,fun i a ha=>?_⟩
 obtain ⟨A2,c2,k1,k2,k3,k4,k5⟩:=h.cell i a ha
 exact ⟨A2,c2,hc _ _ k1,by rw [Nat.add_assoc];exact hc _ _ k2,by rw [Nat.add_assoc];exact hc _ _ k3,Rd.of_own k4,k5⟩
theorem OwnMk.read (h:OwnMk w base ap M m k K xs):RdL shMk w w.heap.size M m k K:=by
 have hr:=Rd.of_own h.row
 refine ⟨h.len,hr.le,hr.cap,hr.nil,fun hn=>?_⟩
 obtain ⟨b,o,e,hb,hc⟩:=hr.at_ hn
 refine ⟨b,o,e,hb,fun i a ha=>?_⟩
 obtain ⟨A2,c2,A3,c3,k1,k2,k3,k4,k5,k6⟩:=h.cell i a ha
 exact ⟨A2,c2,A3,c3,hc _ _ k1,by rw [Nat.add_assoc];exact hc _ _ k2,by rw [Nat.add_assoc];exact hc _ _ k3,by rw [Nat.add_assoc];exact hc _ _ k4,k5.read,k6⟩
theorem getElem?_set_ne' {α:Type} {l:List α} {i j:Nat} {a:α} (h:i ≠ j):(l.set i a)[j]?=l[j]?:=List.getElem?_set_ne h
theorem OwnAc.put {g i:Nat} {a:Ac} {A':Option Addr} {c':Nat} (h:OwnAc w base (some ⟨g,0,none⟩) n c L xs) (hi:i < n) (hp:w.ownsRow base 3 1 (.slice A' a.pos.length c') a.pos.length (ints a.pos)) (hl:a.pos.length * 8 ≤ 140737488355328) :
  OwnAc (((w.setCell ⟨g,i * 3,none⟩ (.int .i64 a.id)).setCell ⟨g,i * 3 + 1,none⟩ (.int .i64 a.bal)).setCell ⟨g,i * 3 + 2,none⟩ (.slice A' a.pos.length c')) base (some ⟨g,0,none⟩) n c (L.set i a)
   (((xs.set (i * 3) (.int .i64 a.id)).set (i * 3 + 1) (.int .i64 a.bal)).set (i * 3 + 2) (.slice A' a.pos.length c')):=by
 have hlen:=h.row.1
 have hk:∀ v n ys,w.ownsRow base 3 1 v n ys→(((w.setCell ⟨g,i * 3,none⟩ (.int .i64 a.id)).setCell ⟨g,i * 3 + 1,none⟩ (.int .i64 a.bal)).setCell ⟨g,i * 3 + 2,none⟩ (.slice A' a.pos.length c')).ownsRow base 3 1 v n ys:=by
  intro v n ys hv
  obtain ⟨g',cs,e1,_,hb⟩:=own_blk h.row (by omega)
  injection e1 with e1
  injection e1 with e1
  subst e1
  refine Kept.own (S:=[37]) ?_ hv (by decide)
  exact (((Kept.refl _ _).set hb (by decide) _ _).set (hb.set_ _ _) (by decide) _ _).set ((hb.set_ _ _).set_ _ _) (by decide) _ _
 refine ⟨own_store (own_store (own_store h.row _ _) _ _) _ _,by rw [List.length_set];exact h.len,fun j b hb=>?_⟩
 by_cases e:j=i
 ·subst e
  have:b=a:=by
   rw [List.getElem?_set_self (by rw [h.len];exact hi)] at hb
   injection hb with hb;exact hb.symm
  subst this
  refine ⟨A',c',?_,?_,?_,hk _ _ _ hp,hl⟩
  ·rw [getElem?_set_ne' (by omega),getElem?_set_ne' (by omega),List.getElem?_set_self (by omega)]
  ·rw [getElem?_set_ne' (by omega),List.getElem?_set_self (by rw [List.length_set];omega)]
  ·rw [List.getElem?_set_self (by rw [List.length_set,List.length_set];omega)]
 ·rw [getElem?_set_ne' (Ne.symm e)] at hb
  obtain ⟨A2,c2,k1,k2,k3,k4,k5⟩:=h.cell j b hb
  refine ⟨A2,c2,?_,?_,?_,hk _ _ _ k4,k5⟩
  ·rw [getElem?_set_ne' (by omega),getElem?_set_ne' (by omega),getElem?_set_ne' (by omega)];exact k1
  ·rw [getElem?_set_ne' (by omega),getElem?_set_ne' (by omega),getElem?_set_ne' (by omega)];exact k2
  ·rw [getElem?_set_ne' (by omega),getElem?_set_ne' (by omega),getElem?_set_ne' (by omega)];exact k3
end
theorem own_blk_ne {w:World} {base e k n g:Nat} {t:TypeId} {v:Value} {xs:List Value} {cs:Array Value} (h:w.ownsRow base e k v n xs) (hb:Blk w g t cs) (hne:t ≠ e):v.ownBlock ≠ some g:=by
 obtain ⟨_,⟨rfl,_⟩ | ⟨g',cap,cur,rfl,_,hg,_⟩⟩:=h
 ·simp [Value.ownBlock]
 ·intro he
  have:g'=g:=by simpa [Value.ownBlock] using he
  subst this
  unfold Blk at hb
  rw [hg] at hb
  injection hb with hb
  injection hb with _ hb
  exact hne hb.symm
theorem Blk.grown {w w':World} {g:Nat} {t:TypeId} {cs:Array Value} {b:Option Nat} (h:Blk w g t cs) (hg:w.grownBy w' b) (hne:b ≠ some g):Blk w' g t cs:=(hg.block g h.lt fun e=>hne e.symm).trans h
structure Desk (w:World) (base D:Nat) (ap:Bool) (d:Dk) (A:Option Addr) (c:Nat) (M:Option Addr) (k:Nat) (vE:Value) (xs ys:List Value):Prop where
 blk:Blk w D 174 #[.slice A d.v.accs.length c,.slice M d.v.mks.length k,.int .i64 d.v.ins,.int .i64 d.v.resid,.int .i64 d.v.next,.int .i64 d.v.inn,.int .i64 d.v.out,vE]
 low:base ≤ D
 accs:OwnAc w base A d.v.accs.length c d.v.accs xs
 mks:OwnMk w base ap M d.v.mks.length k d.v.mks ys
 evs:w.ownsRow base 124 13 vE d.ev.length (evCells d.ev)
section
variable {w w':World} {base D c k:Nat} {ap:Bool} {d:Dk} {A M:Option Addr} {vE:Value} {xs ys:List Value}
theorem Desk.below (h:Desk w base D ap d A c M k vE xs ys) (hb:Below w.heap.size w w'):Desk w' base D ap d A c M k vE xs ys :=
 ⟨h.blk.below hb h.blk.lt,h.low,h.accs.below hb,h.mks.below hb,own_below h.evs hb (Nat.le_refl _)⟩
theorem Desk.lt (h:Desk w base D ap d A c M k vE xs ys):D < w.heap.size:=h.blk.lt
theorem Desk.vnr (h:Desk w base D ap d A c M k vE xs ys):VnR w w.heap.size A c M k d.v:=⟨h.accs.read,h.mks.read⟩
theorem Desk.form (h:Desk w base D ap d A c M k vE xs ys):∃ E e,vE=.slice E d.ev.length e:=own_shape h.evs
end
end
section
open Go.ChangeShapes Go.WideShapes Go.ChangeAt Go.RowKit
def RCm (w:World) (_ b o:Nat) (c:Cm):Prop :=
 w.cell? ⟨b,o,none⟩=some (.int .i64 c.kind)∧w.cell? ⟨b,o + 1,none⟩=some (.int .i64 c.acc)∧w.cell? ⟨b,o + 2,none⟩=some (.int .i64 c.market)∧w.cell? ⟨b,o + 3,none⟩=some (.int .i64 c.n) ∧
  w.cell? ⟨b,o + 4,none⟩=some (.int .i64 c.o.id)∧w.cell? ⟨b,o + 5,none⟩=some (.int .i64 c.o.acc)∧w.cell? ⟨b,o + 6,none⟩=some (.int .i64 c.o.side)∧w.cell? ⟨b,o + 7,none⟩=some (.int .i64 c.o.price)∧w.cell? ⟨b,o + 8,none⟩=some (.int .i64 c.o.qty) ∧
  w.cell? ⟨b,o + 9,none⟩=some (.int .i64 c.how)∧w.cell? ⟨b,o + 10,none⟩=some (.bool c.reduce)
def shCm:Shape Cm where
 k:=11
 R:=RCm
 move:=by
  intro w w' B B' b o b' o' a h hc _ _
  obtain ⟨h0,h1,h2,h3,h4,h5,h6,h7,h8,h9,h10⟩:=h
  exact ⟨(hc 0 (by omega)).trans h0,(hc 1 (by omega)).trans h1,(hc 2 (by omega)).trans h2,(hc 3 (by omega)).trans h3,(hc 4 (by omega)).trans h4,(hc 5 (by omega)).trans h5,(hc 6 (by omega)).trans h6,(hc 7 (by omega)).trans h7,(hc 8 (by omega)).trans h8,(hc 9 (by omega)).trans h9,(hc 10 (by omega)).trans h10⟩
 cells:=by
  intro w B b o a h j hj
  obtain ⟨h0,h1,h2,h3,h4,h5,h6,h7,h8,h9,h10⟩:=h
  rcases (show j=0∨j=1∨j=2∨j=3∨j=4∨j=5∨j=6∨j=7∨j=8∨j=9∨j=10 by omega) with rfl | rfl | rfl | rfl | rfl | rfl | rfl | rfl | rfl | rfl | rfl
  ·exact ⟨_,h0,rfl⟩
  ·exact ⟨_,h1,rfl⟩
  ·exact ⟨_,h2,rfl⟩
  ·exact ⟨_,h3,rfl⟩
  ·exact ⟨_,h4,rfl⟩
  ·exact ⟨_,h5,rfl⟩
  ·exact ⟨_,h6,rfl⟩
  ·exact ⟨_,h7,rfl⟩
  ·exact ⟨_,h8,rfl⟩
  ·exact ⟨_,h9,rfl⟩
  ·exact ⟨_,h10,rfl⟩
theorem cm_at {w:World} {B n c:Nat} {A:Option Addr} {L:List Cm} (h:RdL shCm w B A n c L) {i:Nat} (hi:i < n):∃ b o a,A=some ⟨b,o,none⟩∧b < B∧L[i]?=some a∧RCm w B b (o + i * 11) a:=h.one hi
structure FitCm (c:Cm):Prop where
 kind:inI64 c.kind
 acc:inI64 c.acc
 market:inI64 c.market
 n:inI64 c.n
 o:FitOd c.o
 how:inI64 c.how
structure FitMk (m:Mk):Prop where
 book:FitBk m.book
 index:inI64 m.index
 last:inI64 m.last
structure FitVn (v:Vn):Prop where
 accs:∀ a ∈ v.accs,FitAc a
 mks:∀ m ∈ v.mks,FitMk m
 ins:inI64 v.ins
 resid:inI64 v.resid
 next:inI64 v.next
 inn:inI64 v.inn
 out:inI64 v.out
section
variable {H:Type} {enc:TypeId × Value→H} {W:World}
theorem core_bool {fuel:Nat} {cs:List Value} {x:DataW H × List MemPlace} (h:DataW.trod enc Try.prog W 0 (fun _=>true) true fuel 4 cs=some x):∃ z,cs = [.bool z]:=by
 obtain ⟨z,h1,_⟩:=DataW.trod_bool Try.underlying4 h
 exact ⟨z,h1⟩
set_option maxRecDepth 100000 in
theorem core_cm {fuel:Nat} {cs:List Value} {x:DataW H × List MemPlace} (h:DataW.trod enc Try.prog W 0 (fun _=>true) true fuel 113 cs=some x) :
  ∃ c:Cm,cs = [.int .i64 c.kind,.int .i64 c.acc,.int .i64 c.market,.int .i64 c.n,.int .i64 c.o.id,.int .i64 c.o.acc,.int .i64 c.o.side,.int .i64 c.o.price,.int .i64 c.o.qty,.int .i64 c.how,.bool c.reduce]∧FitCm c:=by
 obtain ⟨xs,m,_,hx,hlen,hxl,hf⟩:=DataW.trod_struct Try.underlying113 h
 rw [show Try.prog.cellsOf 113=11 by kernel_rfl] at hlen
 have h0:DataW.trod enc Try.prog W 0 (fun _=>true) true m 3 ((cs.drop 0).take (Try.prog.cellsOf 3))=xs[0]?:=hf 0 _ rfl
 have h1:DataW.trod enc Try.prog W 0 (fun _=>true) true m 3 ((cs.drop 1).take (Try.prog.cellsOf 3))=xs[1]?:=hf 1 _ rfl
 have h2:DataW.trod enc Try.prog W 0 (fun _=>true) true m 3 ((cs.drop 2).take (Try.prog.cellsOf 3))=xs[2]?:=hf 2 _ rfl
 have h3:DataW.trod enc Try.prog W 0 (fun _=>true) true m 3 ((cs.drop 3).take (Try.prog.cellsOf 3))=xs[3]?:=hf 3 _ rfl
 have h4:DataW.trod enc Try.prog W 0 (fun _=>true) true m 71 ((cs.drop 4).take (Try.prog.cellsOf 71))=xs[4]?:=hf 4 _ rfl
 have h5:DataW.trod enc Try.prog W 0 (fun _=>true) true m 3 ((cs.drop 9).take (Try.prog.cellsOf 3))=xs[5]?:=hf 5 _ rfl
 have h6:DataW.trod enc Try.prog W 0 (fun _=>true) true m 4 ((cs.drop 10).take (Try.prog.cellsOf 4))=xs[6]?:=hf 6 _ rfl
 rw [show Try.prog.cellsOf 3=1 by kernel_rfl] at h0 h1 h2 h3 h5
 rw [show Try.prog.cellsOf 71=5 by kernel_rfl] at h4
 rw [show Try.prog.cellsOf 4=1 by kernel_rfl] at h6
 match cs,hlen,xs,hxl with
 | [c0,c1,c2,c3,c4,c5,c6,c7,c8,c9,c10],_,[y0,y1,y2,y3,y4,y5,y6],_ =>
  obtain ⟨z0,e0,i0⟩:=core_int (x:=y0) (by simpa using h0)
  obtain ⟨z1,e1,i1⟩:=core_int (x:=y1) (by simpa using h1)
  obtain ⟨z2,e2,i2⟩:=core_int (x:=y2) (by simpa using h2)
  obtain ⟨z3,e3,i3⟩:=core_int (x:=y3) (by simpa using h3)
  obtain ⟨o,e4,i4⟩:=core_order (x:=y4) (by simpa using h4)
  obtain ⟨z5,e5,i5⟩:=core_int (x:=y5) (by simpa using h5)
  obtain ⟨z6,e6⟩:=core_bool (x:=y6) (by simpa using h6)
  simp only [List.cons.injEq,and_true] at e0 e1 e2 e3 e4 e5 e6
  obtain ⟨e40,e41,e42,e43,e44⟩:=e4
  subst e0 e1 e2 e3 e40 e41 e42 e43 e44 e5 e6
  exact ⟨⟨z0,z1,z2,z3,o,z5,z6⟩,rfl,⟨i0,i1,i2,i3,i4,i5⟩⟩
theorem addr_add (ad:Addr) (hsp:ad.spot=none):∀ q,(ad.add q).block=ad.block∧(ad.add q).off=ad.off + q∧(ad.add q).spot=none:=by
 intro q;unfold Addr.add;split
 ·rename_i h0;subst h0;exact ⟨rfl,rfl,hsp⟩
 ·exact ⟨rfl,rfl,rfl⟩
theorem core_mks {fuel:Nat} {cs:List Value} {x:DataW H × List MemPlace} (h:DataW.trod enc Try.prog W 0 (fun _=>true) true fuel 104 cs=some x)
  (hs:∀ y ∈ x.1.weights Try.prog 104,y ≤ reachBytes) :
  ∃ A n c L,cs = [.slice A n c]∧RdL shMk W W.heap.size A n c L∧c * 64 ≤ reachBytes∧∀ a ∈ L,FitMk a:=by
 rcases Go.Deep.open_slice Try.underlying104 h with ⟨hcs,hx⟩ | ⟨ad,n,c,m,f,D,Pl,hcs,_,hl,hm,hmm,hx,hi⟩
 ·exact ⟨none,0,0,[],hcs,RdL.none_ _ _ _,by simp,by simp⟩
 ·simp only [if_true] at hmm
  subst hmm
  rw [show Try.prog.cellsOf 64=4 by kernel_rfl] at hi
  have hw:∀ i,i < n→∀ y ∈ (D i).weights Try.prog 64,y ≤ reachBytes:=by
   intro i hin y hy
   refine hs y ?_
   subst hx
   simp only [DataW.weights,Try.underlying104]
   refine List.mem_cons_of_mem _ (List.mem_append_left _ (weights_all (d:=D i) ?_ hy))
   exact List.mem_map.2 ⟨i,List.mem_range.2 hin,rfl⟩
  have hel:∀ i,i < n→∃ a:Mk,FitMk a∧∃ A2 c2 A3 c3,(∀ j u,[.slice A2 a.book.bids.length c2,.slice A3 a.book.asks.length c3,.int .i64 a.index,.int .i64 a.last][j]?=some u→W.cell? ((ad.add (i * 4)).add j)=some u) ∧
    BkR W W.heap.size A2 A3 c2 c3 a.book∧a.book.bids.length ≤ 4000000000000∧a.book.asks.length ≤ 4000000000000:=by
   intro i hin
   obtain ⟨cs',hc,ht⟩:=hi i (by omega)
   obtain ⟨_,hcl,hat⟩:=World.cells?_some hc
   obtain ⟨a,A2,A3,c2,c3,he,hr,hr',⟨hc2,hc3⟩,f1,f2,f3⟩:=core_market ht (hw i hin)
   refine ⟨a,⟨f1,f2,f3⟩,A2,c2,A3,c3,fun j u hu=>?_,⟨hr,hr'⟩,(len_of_reach hr hc2).1,(len_of_reach hr' hc3).1⟩
   have hj:j < 4:=by have:=(List.getElem?_eq_some_iff.1 hu).1;simpa using this
   rw [hat j hj,he];exact hu
  obtain ⟨L,hL,hall⟩:=exists_list _ n hel
  refine ⟨some ad,n,m,L,hcs,⟨hL,hl,hm,nofun,fun hn=>?_⟩,?_,fun a ha=>?_⟩
  ·obtain ⟨a,_,_,_,_,_,kk,_⟩:=hel 0 hn
   have k0:=kk 0 _ rfl
   rw [show (ad.add (0 * 4)).add 0=ad by simp [Addr.add]] at k0
   have hsp:=spot_of_cell k0
   refine ⟨ad.block,ad.off,?_,lt_of_cell k0,fun i a ha=>?_⟩
   ·obtain ⟨b,o,sp⟩:=ad;simp only at hsp;subst hsp;rfl
   ·obtain ⟨_,A2,c2,A3,c3,kk,h1,h2,h3⟩:=hall i a ha
    obtain ⟨b1,b2,b3⟩:=addr_add ad hsp (i * 4)
    have e:∀ j u,[.slice A2 a.book.bids.length c2,.slice A3 a.book.asks.length c3,.int .i64 a.index,.int .i64 a.last][j]?=some u→W.cell? ⟨ad.block,ad.off + i * 4 + j,none⟩=some u:=by
     intro j u hu
     have:=add_of_cell b3 (kk j u hu)
     rw [b1,b2] at this;exact this
    exact ⟨A2,c2,A3,c3,e 0 _ rfl,e 1 _ rfl,e 2 _ rfl,e 3 _ rfl,h1,h2,h3⟩
  ·subst hx
   have hb:=hs ((((List.range n).map D).length + ((List.range (m - n)).map fun j=>D (n + j)).length) * 64) (by
    simp only [DataW.weights,Try.underlying104]
    rw [show Try.prog.bytesOf 64=64 by kernel_rfl]
    simp)
   simp at hb
   rw [show n + (m - n)=m by omega] at hb
   exact hb
  ·obtain ⟨i,hi⟩:=List.mem_iff_getElem?.1 ha
   exact (hall i a hi).1
set_option maxRecDepth 100000 in
theorem core_vn {fuel:Nat} {cs:List Value} {x:DataW H × List MemPlace} (h:DataW.trod enc Try.prog W 0 (fun _=>true) true fuel 111 cs=some x)
  (hs:∀ y ∈ x.1.weights Try.prog 111,y ≤ reachBytes) :
  ∃ (v:Vn) (A:Option Addr) (c:Nat) (M:Option Addr) (k:Nat),cs = [.slice A v.accs.length c,.slice M v.mks.length k,.int .i64 v.ins,.int .i64 v.resid,.int .i64 v.next,.int .i64 v.inn,.int .i64 v.out]∧VnR W W.heap.size A c M k v ∧
   (c * 40 ≤ reachBytes∧k * 64 ≤ reachBytes)∧FitVn v:=by
 obtain ⟨xs,m,_,hx,hlen,hxl,hf⟩:=DataW.trod_struct Try.underlying111 h
 rw [show Try.prog.cellsOf 111=7 by kernel_rfl] at hlen
 have h0:DataW.trod enc Try.prog W 0 (fun _=>true) true m 39 ((cs.drop 0).take (Try.prog.cellsOf 39))=xs[0]?:=hf 0 _ rfl
 have h1:DataW.trod enc Try.prog W 0 (fun _=>true) true m 104 ((cs.drop 1).take (Try.prog.cellsOf 104))=xs[1]?:=hf 1 _ rfl
 have h2:DataW.trod enc Try.prog W 0 (fun _=>true) true m 3 ((cs.drop 2).take (Try.prog.cellsOf 3))=xs[2]?:=hf 2 _ rfl
 have h3:DataW.trod enc Try.prog W 0 (fun _=>true) true m 3 ((cs.drop 3).take (Try.prog.cellsOf 3))=xs[3]?:=hf 3 _ rfl
 have h4:DataW.trod enc Try.prog W 0 (fun _=>true) true m 3 ((cs.drop 4).take (Try.prog.cellsOf 3))=xs[4]?:=hf 4 _ rfl
 have h5:DataW.trod enc Try.prog W 0 (fun _=>true) true m 3 ((cs.drop 5).take (Try.prog.cellsOf 3))=xs[5]?:=hf 5 _ rfl
 have h6:DataW.trod enc Try.prog W 0 (fun _=>true) true m 3 ((cs.drop 6).take (Try.prog.cellsOf 3))=xs[6]?:=hf 6 _ rfl
 rw [show Try.prog.cellsOf 3=1 by kernel_rfl] at h2 h3 h4 h5 h6
 rw [show Try.prog.cellsOf 39=1 by kernel_rfl] at h0
 rw [show Try.prog.cellsOf 104=1 by kernel_rfl] at h1
 match cs,hlen,xs,hxl with
 | [c0,c1,c2,c3,c4,c5,c6],_,[y0,y1,y2,y3,y4,y5,y6],_ =>
  have hs0:∀ y ∈ y0.1.weights Try.prog 39,y ≤ reachBytes:=by
   intro y hy
   refine hs y ?_
   subst hx
   simp only [DataW.weights,Try.underlying111]
   simp [DataW.weightsEach,hy]
  have hs1:∀ y ∈ y1.1.weights Try.prog 104,y ≤ reachBytes:=by
   intro y hy
   refine hs y ?_
   subst hx
   simp only [DataW.weights,Try.underlying111]
   simp [DataW.weightsEach,hy]
  obtain ⟨A,n,c,L,e0,r0,s0,i0⟩:=core_accs (x:=y0) (by simpa using h0) hs0
  obtain ⟨M,n',k,K,e1,r1,s1,i1⟩:=core_mks (x:=y1) (by simpa using h1) hs1
  obtain ⟨z2,e2,i2⟩:=core_int (x:=y2) (by simpa using h2)
  obtain ⟨z3,e3,i3⟩:=core_int (x:=y3) (by simpa using h3)
  obtain ⟨z4,e4,i4⟩:=core_int (x:=y4) (by simpa using h4)
  obtain ⟨z5,e5,i5⟩:=core_int (x:=y5) (by simpa using h5)
  obtain ⟨z6,e6,i6⟩:=core_int (x:=y6) (by simpa using h6)
  obtain rfl:L.length=n:=r0.len
  obtain rfl:K.length=n':=r1.len
  simp only [List.cons.injEq,and_true] at e0 e1 e2 e3 e4 e5 e6
  subst e0 e1 e2 e3 e4 e5 e6
  exact ⟨⟨L,K,z2,z3,z4,z5,z6⟩,A,c,M,k,rfl,⟨r0,r1⟩,⟨s0,s1⟩,⟨i0,i1,i2,i3,i4,i5,i6⟩⟩
set_option maxRecDepth 100000 in
theorem opens_venue {base:Nat} {v:Value} {d:DataW H} {p:List MemPlace} (hv:Value.okWide Try.prog W .any base 111 v) (h:DataW.Trod enc Try.prog W 0 (fun _=>true) true 111 v d p)
  (hs:∀ x ∈ d.weights Try.prog 111,x ≤ reachBytes) :
  ∃ (u:Vn) (A:Option Addr) (c:Nat) (M:Option Addr) (k:Nat),v=.agg #[.slice A u.accs.length c,.slice M u.mks.length k,.int .i64 u.ins,.int .i64 u.resid,.int .i64 u.next,.int .i64 u.inn,.int .i64 u.out]∧VnR W W.heap.size A c M k u ∧
   (c * 40 ≤ reachBytes∧k * 64 ≤ reachBytes)∧FitVn u:=by
 obtain ⟨cs,rfl,_⟩:=okWide_struct Try.underlying111 hv
 obtain ⟨fuel,hf⟩:=h
 obtain ⟨u,A,c,M,k,hcs,hr⟩:=core_vn hf hs
 refine ⟨u,A,c,M,k,?_,hr⟩
 obtain ⟨l⟩:=cs
 simp only [Value.cells] at hcs
 rw [← hcs]
set_option maxRecDepth 100000 in
theorem opens_command {base:Nat} {v:Value} {d:DataW H} {p:List MemPlace} (hv:Value.okWide Try.prog W .any base 113 v) (h:DataW.Trod enc Try.prog W 0 (fun _=>true) true 113 v d p) :
  ∃ c:Cm,v=.agg #[.int .i64 c.kind,.int .i64 c.acc,.int .i64 c.market,.int .i64 c.n,.int .i64 c.o.id,.int .i64 c.o.acc,.int .i64 c.o.side,.int .i64 c.o.price,.int .i64 c.o.qty,.int .i64 c.how,.bool c.reduce]∧FitCm c:=by
 obtain ⟨cs,rfl,_⟩:=okWide_struct Try.underlying113 hv
 obtain ⟨fuel,hf⟩:=h
 obtain ⟨o,hcs,hi⟩:=core_cm hf
 refine ⟨o,?_,hi⟩
 obtain ⟨l⟩:=cs
 simp only [Value.cells] at hcs
 rw [← hcs]
end
end
section
theorem head_of {P:Program} {l:List Char} (h:P.initOrder=String.ofList l) (hw:behindMainWord (wordsSigns l) = "cut".toList :: (behindMainWord (wordsSigns l)).tail) :
  behindMainWord (wordsSigns P.initOrder.toList) = "cut".toList :: (behindMainWord (wordsSigns l)).tail:=by
 rw [h,String.toList_ofList];exact hw
set_option maxRecDepth 100000 in
theorem closed_head:∃ r,behindMainWord (wordsSigns Try.prog.initOrder.toList) = "cut".toList :: r:=by
 refine ⟨_,head_of (rfl:Try.prog.initOrder=_) ?_⟩
 kernel_rfl
theorem strip_cut (r:List (List Char)):stripLifts liftWords ("cut".toList :: r)=([],"cut".toList :: r):=by
 simp [stripLifts,liftWords]
theorem mayEnter_of {P:Program} (h:∃ r,behindMainWord (wordsSigns P.initOrder.toList) = "cut".toList :: r) (h1:P.laysLater=false) (h2:P.bearsReflect=false) (h3:P.doorFits []=true):P.mayEnter=true:=by
 obtain ⟨r,h⟩:=h
 unfold Program.mayEnter
 rw [h]
 simp only [strip_cut,h1,h2,h3]
 simp
theorem liftsFinal_of {P:Program} (h:∃ r,behindMainWord (wordsSigns P.initOrder.toList) = "cut".toList :: r):P.liftsFinal=false:=by
 obtain ⟨r,h⟩:=h
 unfold Program.liftsFinal Program.headLifts
 rw [h]
 simp only [strip_cut]
 simp
theorem make_of {P:Program} (h:∃ r,behindMainWord (wordsSigns P.initOrder.toList) = "cut".toList :: r):P.make=some .cut:=by
 obtain ⟨r,h⟩:=h
 unfold Program.make
 rw [h]
 simp
theorem closed_laid:laidOutB Try.prog=true:=by kernel_rfl
theorem closed_mapsRowed:mapsRowed Try.prog=true:=by kernel_rfl
theorem closed_stops:(Try.prog.stops == [])=true:=by kernel_rfl
theorem closed_stopKnobs:(Try.prog.stopKnobs == [])=true:=by kernel_rfl
theorem closed_plainKeys:(Rows.namesRow.plainKeys == Try.prog.plainKeys)=true:=by kernel_rfl
theorem closed_stopsHeard:Try.prog.stopsHeard=true:=by kernel_rfl
theorem closed_mayEnter:Try.prog.mayEnter=true:=mayEnter_of closed_head (by kernel_rfl) (by kernel_rfl) (by kernel_rfl)
theorem closed_lifted:(Rows.namesRow.lifted == Try.prog.liftsFinal)=true:=by rw [liftsFinal_of closed_head];rfl
theorem closed_make:(Try.prog.make == some Rows.namesRow.make)=true:=by rw [make_of closed_head];rfl
theorem joined_mk (P:Program) (f:FuncId) (fn:Func) (s:ChangeSpec) (c:OpenClaim)
  (h0:c.wf (OpenSpec.ofChange s)=true)
  (h1:laidOutB P=true)
  (h2:mapsRowed P=true)
  (h3:fn.params.all (P.readableRec ·)=true)
  (h4:namedTie P c.named s.vars=true)
  (h5:(c.stops == [])=true)
  (h6:(P.stops == [])=true)
  (h7:(c.knobs == [])=true)
  (h8:(P.stopKnobs == [])=true)
  (h9:(c.inPlace == P.inPlace f)=true)
  (h10:(c.unfollowed == P.unfollowed f)=true)
  (h11:(c.recurses == P.recurses f)=true)
  (h12:(c.named == P.varsNamed f)=true)
  (h13:(c.maps == (fn.params.toList ++ s.plain.varTypes P).any (P.mapsRec ·))=true)
  (h14:(c.ifaces == (fn.params.toList ++ s.plain.varTypes P).any (P.ifacesRec ·))=true)
  (h15:(c.mapsOut == P.mapsAmong fn.resultTypes.toList)=true)
  (h16:(c.loops == (fn.params.toList ++ s.plain.varTypes P).any (P.loopsFrom ·))=true)
  (h17:(c.wideKeys == (fn.params.toList ++ s.plain.varTypes P ++ fn.resultTypes.toList).any (P.wideKeysFrom ·))=true)
  (h18:s.vars.all (P.varReadable ·)=true)
  (h19:fn.resultTypes.all (fun t=>P.readableRec t && decide (t < P.types.size))=true)
  (h20:(c.ifacesOut == fn.resultTypes.toList.any (P.ifacesRec ·))=true)
  (h21:(c.loopsOut == fn.resultTypes.toList.any (P.loopsFrom ·))=true)
  (h22:(c.plainKeys == P.plainKeys)=true)
  (h23:c.shortTexts.isNone=true)
  (h24:P.stopsHeard=true)
  (h25:P.mayEnter=true)
  (h26:(c.lifted == P.liftsFinal)=true)
  (h27:(P.make == some c.make)=true)
  (h28:(c.kinds == (if c.domain.isEmpty then [] else fn.params.toList.map fun t=>match P.underlying t with | some (.int k)=>some k | _=>none))=true)
  (h29:(c.pinned == c.pinnedBy)=true)
  (h30:(c.veiled == (fn.params.toList ++ s.plain.varTypes P ++ fn.resultTypes.toList).any (P.veiledRec ·))=true)
  (h31:c.veiledFits P fn.params.toList (fn.params.toList ++ s.plain.varTypes P ++ fn.resultTypes.toList)=true)
  : joinedFacts P f fn s c=true:=by
 simp only [joinedFacts,Bool.and_eq_true]
 exact ⟨⟨⟨⟨⟨⟨⟨⟨⟨⟨⟨⟨⟨⟨⟨⟨⟨⟨⟨⟨⟨⟨⟨⟨⟨⟨⟨⟨⟨⟨⟨h0,h1⟩,h2⟩,h3⟩,h4⟩,h5⟩,h6⟩,h7⟩,h8⟩,h9⟩,h10⟩,h11⟩,h12⟩,h13⟩,h14⟩,h15⟩,h16⟩,h17⟩,h18⟩,h19⟩,h20⟩,h21⟩,h22⟩,h23⟩,h24⟩,h25⟩,h26⟩,h27⟩,h28⟩,h29⟩,h30⟩,h31⟩
end
section
open Go.RowKit
structure Fr (S:List TypeId) (G:List Nat) (w w':World):Prop where
 size:w.heap.size ≤ w'.heap.size
 blk:∀ g t cs,Blk w g t cs→t ∉ S→g ∉ G→Blk w' g t cs
section
variable {S T:List TypeId} {G H:List Nat} {a b c:World}
theorem Fr.refl (S:List TypeId) (G:List Nat) (w:World):Fr S G w w:=⟨Nat.le_refl _,fun _ _ _ h _ _=>h⟩
theorem Fr.trans (h:Fr S G a b) (g:Fr S G b c):Fr S G a c:=⟨Nat.le_trans h.size g.size,fun x t cs hx ht hg=>g.blk x t cs (h.blk x t cs hx ht hg) ht hg⟩
theorem Fr.mono (h:Fr S G a b) (hS:∀ t ∈ S,t ∈ T) (hG:∀ g ∈ G,g ∈ H):Fr T H a b:=⟨h.size,fun x t cs hx ht hg=>h.blk x t cs hx (fun hs=>ht (hS t hs)) fun hs=>hg (hG x hs)⟩
theorem Kept.fr (h:Kept S a b) (G:List Nat):Fr S G a b:=⟨h.size,fun x t cs hx ht _=>h.blk x t cs hx ht⟩
theorem Fr.of_below (S:List TypeId) (G:List Nat) (h:Below a.heap.size a b):Fr S G a b:=(Kept.of_below S h).fr G
theorem Fr.below (h:Fr S G a b) (g:Below b.heap.size b c):Fr S G a c:=h.trans (.of_below S G g)
theorem Fr.alloc (h:Fr S G a b) (o:Obj):Fr S G a (b.alloc o):=h.trans (((Kept.refl S b).alloc o).fr G)
theorem Fr.drewN (h:Fr S G a b) (q:Nat):Fr S G a (b.drewN q):=⟨h.size,h.blk⟩
theorem Fr.set (h:Fr S G a b) {g:Nat} {t:TypeId} {cs:Array Value} (hg:Blk b g t cs) (ht:t ∈ S∨g ∈ G) (i:Nat) (u:Value):Fr S G a (b.setCell ⟨g,i,none⟩ u):=by
 refine h.trans ⟨by rw [size_setCell];exact Nat.le_refl _,fun x t' cs' hx ht' hx'=>?_⟩
 by_cases e:x=g
 ·subst e
  unfold Blk at hg hx
  rw [hg] at hx
  injection hx with hx
  injection hx with _ hx
  subst hx
  rcases ht with ht | ht
  ·exact absurd ht ht'
  ·exact absurd ht hx'
 ·exact hx.far e u
theorem Fr.own (h:Fr S G a b) {e k n:Nat} {base:Nat} {v:Value} {xs:List Value} (ho:a.ownsRow base e k v n xs) (he:e ∉ S) (hg:∀ g,v.ownBlock=some g→g ∉ G):b.ownsRow base e k v n xs:=by
 obtain ⟨hl,h1 | ⟨g,cap,cur,rfl,h1,h2,h3⟩⟩:=ho
 ·exact ⟨hl,.inl h1⟩
 ·exact ⟨hl,.inr ⟨g,cap,cur,rfl,h1,h.blk g e cur h2 he (hg g rfl),h3⟩⟩
theorem Blk.fr {g:Nat} {t:TypeId} {cs:Array Value} (hb:Blk a g t cs) (h:Fr S G a b) (ht:t ∉ S) (hg:g ∉ G):Blk b g t cs:=h.blk g t cs hb ht hg
theorem blk_ne {w:World} {g g':Nat} {t t':TypeId} {cs cs':Array Value} (h:Blk w g t cs) (h':Blk w g' t' cs') (hne:t ≠ t'):g ≠ g':=by
 intro e
 subst e
 unfold Blk at h h'
 rw [h] at h'
 injection h' with h'
 injection h' with _ h'
 exact hne h'
end
end
section
open Go.RowKit
set_option maxHeartbeats 400000 in
theorem money_any (n:Int) (w:World) :
  Calls Try.prog 78 #[.int .i64 n] w fun e w'=>e=.returned (.bool (isMoney n))∧w=w':=by
 by_cases h1:-1000000000000 ≤ n
 ·go_enter Try.func78,Try.ntmps78
  go_wp2
  go_ret
  exact ⟨by simp [isMoney,h1],rfl⟩
 ·go_enter Try.func78,Try.ntmps78
  go_wp2
  go_ret
  exact ⟨by simp [isMoney];omega,rfl⟩
set_option maxHeartbeats 400000 in
theorem part_bad (n a b:Int) (up:Bool) (w:World) (h:partOk n a b=false) :
  Calls Try.prog 31 #[.int .i64 n,.int .i64 a,.int .i64 b,.bool up] w fun e w'=>e=.returned (.tuple #[.int .i64 0,.int .i64 3])∧w=w':=by
 have h0:isMoney n=false∨isMoney n=true∧a < -10000∨isMoney n=true∧-10000 ≤ a∧10000 < a∨isMoney n=true∧-10000 ≤ a∧a ≤ 10000∧b < 1∨isMoney n=true∧-10000 ≤ a∧a ≤ 10000∧1 ≤ b∧10000 < b:=by
  rw [← Bool.not_eq_true,partOk_iff] at h
  rw [isMoney_iff,isMoney_not];omega
 clear h
 rcases h0 with h1 | ⟨h1,h2⟩ | ⟨h1,h2,h3⟩ | ⟨h1,h2,h3,h4⟩ | ⟨h1,h2,h3,h4,h5⟩
 all_goals
  go_enter Try.func31,Try.ntmps31
  go_wp2_with (go_at_call 78;refine (money_any _ _).mono ?_;rintro e w' ⟨rfl,rfl⟩)
  go_ret2
  exact ⟨rfl,rfl⟩
theorem part_end {n a b q:Int} {up:Bool} (h:partOk n a b=true) (hq:partQ n a b up=q):partOf n a b up=if isMoney q then (q,0) else (0,7):=by
 unfold partOf;rw [if_pos h,hq]
set_option maxHeartbeats 1000000 in
theorem part_good (n a b:Int) (up:Bool) (w:World) (h:partOk n a b=true) :
  Calls Try.prog 31 #[.int .i64 n,.int .i64 a,.int .i64 b,.bool up] w fun e w'=>e=.returned (.tuple #[.int .i64 (partOf n a b up).1,.int .i64 (partOf n a b up).2])∧w=w':=by
 obtain ⟨⟨h1,h2⟩,h3,h4,h5,h6⟩:=partOk_iff.1 h
 have hM:=isMoney_iff.2 ⟨h1,h2⟩
 obtain ⟨hb1,hb2⟩:=mul_bd h1 h2 h3 h4
 by_cases h0:0 ≤ n * a
 ·obtain ⟨d1,d2⟩:=ediv_bd (n * a) b h0 h5
  by_cases hr:n * a % b=0
  ·have HQ:=Lib.hid (part_end (up:=up) h (partQ_pos_exact h5 hr))
   have hr':(n * a % b != 0)=false:=by simpa using hr
   clear h hr
   go_enter Try.func31,Try.ntmps31
   go_wp2_with (go_at_call 78;refine (money_any _ _).mono ?_;rintro e w' ⟨rfl,rfl⟩)
   all_goals (go_ret2;exact ⟨pair_ii (by rw [HQ.out];simp_all),rfl⟩)
  ·have hr':(n * a % b != 0)=true:=by simpa using hr
   have hp:0 < n * a:=by
    rcases Int.lt_or_eq_of_le h0 with h' | h'
    ·exact h'
    ·rw [← h'] at hr;simp at hr
   cases up
   ·have HQ:=Lib.hid (part_end (up:=false) h partQ_pos_down)
    clear h hr
    go_enter Try.func31,Try.ntmps31
    go_wp2_with (go_at_call 78;refine (money_any _ _).mono ?_;rintro e w' ⟨rfl,rfl⟩)
    all_goals (go_ret2;exact ⟨pair_ii (by rw [HQ.out];simp_all),rfl⟩)
   ·have HQ:=Lib.hid (part_end h (partQ_pos_up h5 hr))
    clear h hr
    go_enter Try.func31,Try.ntmps31
    go_wp2_with (go_at_call 78;refine (money_any _ _).mono ?_;rintro e w' ⟨rfl,rfl⟩)
    all_goals (go_ret2;exact ⟨pair_ii (by rw [HQ.out];simp_all),rfl⟩)
 ·have hp:n * a < 0:=by omega
  have hp':¬ 0 < n * a:=by omega
  have hd:decide (0 < n * a)=false:=by simpa using hp'
  obtain ⟨d1,d2⟩:=tdiv_bd (n * a) b hp h5
  by_cases hr:(n * a).tmod b=0
  ·have HQ:=Lib.hid (part_end (up:=up) h (partQ_neg_exact hp h5 hr))
   have hr':((n * a).tmod b != 0)=false:=by simpa using hr
   clear h hr
   go_enter Try.func31,Try.ntmps31
   go_wp2_with (go_at_call 78;refine (money_any _ _).mono ?_;rintro e w' ⟨rfl,rfl⟩)
   all_goals (go_ret2;exact ⟨pair_ii (by rw [HQ.out];simp_all),rfl⟩)
  ·have hr':((n * a).tmod b != 0)=true:=by simpa using hr
   cases up
   ·have HQ:=Lib.hid (part_end h (partQ_neg_down hp h5 hr))
    clear h hr
    go_enter Try.func31,Try.ntmps31
    go_wp2_with (go_at_call 78;refine (money_any _ _).mono ?_;rintro e w' ⟨rfl,rfl⟩)
    all_goals (go_ret2;exact ⟨pair_ii (by rw [HQ.out];simp_all),rfl⟩)
   ·have HQ:=Lib.hid (part_end h (partQ_neg_up hp))
    clear h hr
    go_enter Try.func31,Try.ntmps31
    go_wp2_with (go_at_call 78;refine (money_any _ _).mono ?_;rintro e w' ⟨rfl,rfl⟩)
    all_goals (go_ret2;exact ⟨pair_ii (by rw [HQ.out];simp_all),rfl⟩)
theorem part_any (n a b:Int) (up:Bool) (w:World) :
  Calls Try.prog 31 #[.int .i64 n,.int .i64 a,.int .i64 b,.bool up] w fun e w'=>e=.returned (.tuple #[.int .i64 (partOf n a b up).1,.int .i64 (partOf n a b up).2])∧w=w':=by
 cases h:partOk n a b
 ·have e0:partOf n a b up=(0,3):=by simp [partOf,h]
  rw [e0];exact part_bad n a b up w h
 ·exact part_good n a b up w h
theorem addFrom_step {s z:Int} {l:List Int} {j:Nat} (hz:l[j]?=some z):addFrom s (l.drop j)=if isMoney z then (if isMoney (s + z) then addFrom (s + z) (l.drop (j + 1)) else (0,7)) else (0,3):=by
 have hj:=(List.getElem?_eq_some_iff.1 hz).1
 rw [List.drop_eq_getElem_cons hj,addFrom,(List.getElem?_eq_some_iff.1 hz).2]
set_option maxHeartbeats 1000000 in
theorem add_any (A:Option Addr) (n c:Nat) (l:List Int) (B:Nat) (w:World) (h:Rd w B 1 A n c (ints l)) :
  Calls Try.prog 34 #[.slice A n c] w fun e w'=>e=.returned (.tuple #[.int .i64 (addAll l).1,.int .i64 (addAll l).2])∧w=w':=by
 have hcap:=h.cap
 have hle:=h.le
 have HL:=Lib.hid h.ofInts
 unfold maxLen at hcap
 go_enter Try.func34,Try.ntmps34
 go_wp2_with fail
 go_loop [4,9] (fun s i=>∃ (j:Nat) (t:Int),j ≤ n∧s=.int .i64 t∧i=.int .i64 j∧(-1000000000000 ≤ t∧t ≤ 1000000000000)∧Hid (addFrom t (l.drop j)=addAll l)) (fun _ i=>n - (intOf i).toNat)
 case atStart=>exact ⟨0,0,Nat.zero_le _,rfl,rfl,by omega,rfl⟩
 case round =>
  obtain ⟨j,t,hj,rfl,rfl,ht,HA⟩:=hrel
  obtain ⟨ht1,ht2⟩:=ht
  by_cases hlt:j < n
  ·obtain ⟨b,o,rfl,hb,z,hz,hc⟩:=h.int hlt
   have HS:=Lib.hid (addFrom_step (s:=t) hz)
   clear hz
   cases hm:isMoney z
   ·have HE:=Lib.hid (show addAll l=(0,3) by rw [← HA.out,HS.out,hm];rfl)
    clear HS HA
    go_wp2_with (go_at_call 78;refine (money_any _ _).mono ?_;rintro e w' ⟨rfl,rfl⟩)
    go_ret2
    exact ⟨pair_ii (by rw [HE.out]),rfl⟩
   ·obtain ⟨hz1,hz2⟩:=isMoney_iff.1 hm
    cases hm':isMoney (t + z)
    ·have HE:=Lib.hid (show addAll l=(0,7) by rw [← HA.out,HS.out,hm,hm'];rfl)
     clear HS HA
     go_wp2_with (go_at_call 78;refine (money_any _ _).mono ?_;rintro e w' ⟨rfl,rfl⟩)
     go_ret2
     exact ⟨pair_ii (by rw [HE.out]),rfl⟩
    ·have HE:=Lib.hid (show addFrom (t + z) (l.drop (j + 1))=addAll l by rw [← HA.out,HS.out,hm,hm'];rfl)
     have HT:=Lib.hid (isMoney_iff.1 hm')
     clear HS HA
     go_wp2_with (go_at_call 78;refine (money_any _ _).mono ?_;rintro e w' ⟨rfl,rfl⟩)
     go_round
     case rel=>exact ⟨j + 1,t + z,by omega,rfl,by go_num,HT.out,HE⟩
     case measure=>simp [intOf];omega
  ·have hjn:j=n:=by omega
   have HE:=Lib.hid (show addAll l=(t,0) by rw [← HA.out,hjn,List.drop_eq_nil_of_le (by have:=HL.out;omega)];rfl)
   clear HA hjn
   go_wp2_with (go_at_call 78;refine (money_any _ _).mono ?_;rintro e w' ⟨rfl,rfl⟩)
   go_ret2
   exact ⟨pair_ii (by rw [HE.out]),rfl⟩
def midOf (a b c:Int):Int:=max (min a b) (min (max a b) c)
set_option maxHeartbeats 400000 in
theorem middle_any (a b c:Int) (w:World) :
  Calls Try.prog 33 #[.int .i64 a,.int .i64 b,.int .i64 c] w fun e w'=>e=.returned (.int .i64 (midOf a b c))∧w=w':=by
 go_enter Try.func33,Try.ntmps33
 go_wp2_with fail
 all_goals (go_ret;exact ⟨ret_ii (by unfold midOf;omega),rfl⟩)
set_option maxHeartbeats 400000 in
theorem worth_any (q p:Int) (w:World) :
  Calls Try.prog 74 #[.int .i64 q,.int .i64 p] w fun e w'=>e=.returned (.tuple #[.int .i64 (worthOf q p).1,.int .i64 (worthOf q p).2])∧w=w':=by
 cases h:worthOk q p
 ·have HE:=Lib.hid (show worthOf q p=(0,3) by unfold worthOf;rw [h];rfl)
  have h0:q < -1000∨-1000 ≤ q∧1000 < q∨-1000 ≤ q∧q ≤ 1000∧p < 0∨-1000 ≤ q∧q ≤ 1000∧0 ≤ p∧10000 < p:=by
   rw [← Bool.not_eq_true,worthOk_iff] at h;omega
  clear h
  rcases h0 with h1 | ⟨h1,h2⟩ | ⟨h1,h2,h3⟩ | ⟨h1,h2,h3,h4⟩
  all_goals
   go_enter Try.func74,Try.ntmps74
   go_wp2_with fail
   go_ret2
   exact ⟨pair_ii (by rw [HE.out]),rfl⟩
 ·have HE:=Lib.hid (show worthOf q p=(q * p,0) by unfold worthOf;rw [h];rfl)
  obtain ⟨h1,h2,h3,h4⟩:=worthOk_iff.1 h
  obtain ⟨b1,b2⟩:=worth_bd h1 h2 h3 h4
  clear h
  go_enter Try.func74,Try.ntmps74
  go_wp2_with fail
  go_ret2
  exact ⟨pair_ii (by rw [HE.out]),rfl⟩
end
section
open Go.RowKit
set_option maxHeartbeats 1000000 in
theorem accCheck_any (id bal:Int) (A:Option Addr) (n c:Nat) (l:List Int) (m:Int) (B:Nat) (w:World) (h:Rd w B 1 A n c (ints l)) (hB:B ≤ w.heap.size) :
  Calls Try.prog 49 #[.agg #[.int .i64 id,.int .i64 bal,.slice A n c],.int .i64 m] w fun e w'=>e=.returned (.int .i64 (accCheck id bal l m))∧Below w.heap.size w w':=by
 have hle:=h.le
 have hcap:=h.cap
 have hl:=h.ofInts
 unfold maxLen at hcap
 by_cases h1:id < 0∨8 ≤ id
 ·have HE:=Lib.hid (show accCheck id bal l m=5 by unfold accCheck;rw [if_pos h1])
  clear hl
  by_cases h1':id < 0
  all_goals
   go_enter Try.func49,Try.ntmps49
   go_wp2_with fail
   go_ret
   exact ⟨ret_ii HE.out.symm,(Below.refl _ _).alloc (Nat.le_refl _) _⟩
 ·by_cases h2:m < 1∨2 < m∨(l.length:Int) ≠ m
  ·have HE:=Lib.hid (show accCheck id bal l m=4 by unfold accCheck;rw [if_neg h1,if_pos h2])
   have h3:m < 1∨1 ≤ m∧2 < m∨1 ≤ m∧m ≤ 2∧((n:Int) != m)=true:=by
    by_cases a1:m < 1
    ·exact .inl a1
    ·by_cases a2:2 < m
     ·exact .inr (.inl ⟨by omega,a2⟩)
     ·exact .inr (.inr ⟨by omega,by omega,by simp;omega⟩)
   have h5:0 ≤ id∧id < 8:=by omega
   obtain ⟨h6,h7⟩:=h5
   clear h1 h2 hl
   rcases h3 with h3 | ⟨h3,h4⟩ | ⟨h3,h4,h5⟩
   all_goals
    go_enter Try.func49,Try.ntmps49
    go_wp2_with fail
    go_ret
    exact ⟨ret_ii HE.out.symm,(Below.refl _ _).alloc (Nat.le_refl _) _⟩
  ·have h5:0 ≤ id∧id < 8:=by omega
   obtain ⟨h6,h7⟩:=h5
   obtain rfl:m=(n:Int):=by omega
   have h8:1 ≤ n∧n ≤ 2:=by omega
   obtain ⟨h8,h9⟩:=h8
   have HL:=Lib.hid hl
   have HN1:=Lib.hid h1
   have HN2:=Lib.hid h2
   clear h1 h2 hl
   cases hm:isMoney bal
   ·have HE:=Lib.hid (show accCheck id bal l n=3 by unfold accCheck;rw [if_neg HN1.out,if_neg HN2.out,if_pos hm])
    go_enter Try.func49,Try.ntmps49
    go_wp2_with (go_at_call 78;refine (money_any _ _).mono ?_;rintro e w' ⟨rfl,rfl⟩)
    go_ret
    exact ⟨ret_ii HE.out.symm,(Below.refl _ _).alloc (Nat.le_refl _) _⟩
   ·have HE:=Lib.hid (show accCheck id bal l n=if posOk l=false then 3 else 0 by unfold accCheck;rw [if_neg HN1.out,if_neg HN2.out,if_neg (by rw [hm];simp)])
    go_enter Try.func49,Try.ntmps49
    go_wp2_with (go_at_call 78;refine (money_any _ _).mono ?_;rintro e w' ⟨rfl,rfl⟩)
    go_loop [35] (fun i=>∃ j:Nat,j ≤ n∧i=.int .i64 j∧Hid (posOk (l.take j)=true)) (fun i=>n - (intOf i).toNat)
    case atStart=>exact ⟨0,Nat.zero_le _,rfl,rfl⟩
    case round =>
     obtain ⟨j,hj,rfl,HP⟩:=hrel
     by_cases hlt:j < n
     ·obtain ⟨b,o,rfl,hb,z,hz,hc⟩:=h.int hlt
      have hbw:b < w.heap.size:=by omega
      have HN:=Lib.hid (posOk_next hz HP.out)
      cases hp:posOk1 z
      ·have HE':=Lib.hid (show accCheck id bal l n=3 by rw [HE.out,if_pos (posOk_bad hz hp)])
       clear hz HN
       rcases posOk1_not.1 hp with hp' | hp'
       ·go_wp2_with fail
        go_ret
        exact ⟨ret_ii HE'.out.symm,(Below.refl _ _).alloc (Nat.le_refl _) _⟩
       ·have hp3:-1000 ≤ z:=by omega
        go_wp2_with fail
        go_ret
        exact ⟨ret_ii HE'.out.symm,(Below.refl _ _).alloc (Nat.le_refl _) _⟩
      ·obtain ⟨hp1,hp2⟩:=posOk1_iff.1 hp
       have HN':=Lib.hid (HN.out.trans hp)
       clear hz HN hp
       go_wp2_with fail
       go_round
       case rel=>exact ⟨j + 1,by omega,by go_num,HN'⟩
       case measure=>simp [intOf];omega
     ·have HE':=Lib.hid (show accCheck id bal l n=0 by
       rw [HE.out,if_neg]
       have:=HP.out
       rw [show j=l.length by have:=HL.out;omega,List.take_length] at this
       rw [this];simp)
      go_wp2_with fail
      go_ret
      exact ⟨ret_ii HE'.out.symm,(Below.refl _ _).alloc (Nat.le_refl _) _⟩
def RetAcc (w:World) (id bal:Int) (n:Nat) (xs:List Value) (e:Ending) (w':World):Prop :=
 ∃ A c,e=.returned (.agg #[.int .i64 id,.int .i64 bal,.slice A n c])∧w'.ownsRow w.heap.size 3 1 (.slice A n c) n xs∧Below w.heap.size w w'
set_option maxHeartbeats 1000000 in
theorem accCopy_any (id bal:Int) (A:Option Addr) (n c:Nat) (l:List Int) (B:Nat) (w:World) (h:Rd w B 1 A n c (ints l)) (hB:B ≤ w.heap.size) (hb:n * 8 ≤ 140737488355328) :
  Calls Try.prog 129 #[.agg #[.int .i64 id,.int .i64 bal,.slice A n c]] w (RetAcc w id bal n (ints l)):=by
 go_enter Try.func129,Try.ntmps129
 go_wp2_with fail
 refine (clone_ints _ _ _ _ B _ ((h.alloc hB _).alloc (by simp;omega) _) (one_ints l) (by simp;omega) hb).mono ?_
 rintro e w1 ⟨v1,rfl,hown,hb1⟩
 obtain ⟨A1,c1,rfl⟩:=own_shape hown
 obtain ⟨⟨k0,k1,k2⟩,f0,f1,f2⟩:=(((Blk.new w 37 #[.int .i64 id,.int .i64 bal,.slice A n c]).alloc (.cells #[.int .i64 0,.int .i64 0,.slice none 0 0] 37)).below hb1 (by simp;omega)).c3
 obtain ⟨⟨j0,j1,j2⟩,g0,g1,g2⟩:=((Blk.new (w.alloc (.cells #[.int .i64 id,.int .i64 bal,.slice A n c] 37)) 37 #[.int .i64 0,.int .i64 0,.slice none 0 0]).below hb1 (by simp)).c3
 simp only [World.size_alloc] at j0 j1 j2 g0 g1 g2
 have hz:w.heap.size + 1 < w1.heap.size:=by have:=hb1.size;simp at this;omega
 go_wp2_with fail
 refine bodyPost_ret (v:=.agg #[.int .i64 id,.int .i64 bal,.slice A1 n c1]) (by simp [results,Try.results129,go_sem, *]) rfl ?_
 refine ⟨A1,c1,rfl,own_mono (base:=_) ?_ (Nat.le_refl _),?_⟩
 ·refine own_mono (base:=((w.alloc (.cells #[.int .i64 id,.int .i64 bal,.slice A n c] 37)).alloc (.cells #[.int .i64 0,.int .i64 0,.slice none 0 0] 37)).heap.size) ?_ (by simp;omega)
  repeat (first | exact hown | refine ownsRow_setCell_below ?_ (by simp <;> omega) _)
 ·have h0:Below w.heap.size w w1:=(((Below.refl _ _).alloc (Nat.le_refl _) _).alloc (by simp) _).trans (hb1.mono (by simp;omega))
  repeat (first | exact h0 | refine Below.setCell ?_ (by simp) _)
end
section
open Go.RowKit
set_option maxHeartbeats 1000000 in
theorem equity_bad1 (a:Ac) (A A':Option Addr) (c n' c':Nat) (marks:List Int) (B B':Nat) (w:World) (h:Rd w B 1 A a.pos.length c (ints a.pos)) (hB:B ≤ w.heap.size) (h':Rd w B' 1 A' n' c' (ints marks)) (h0:accCheck a.id a.bal a.pos marks.length ≠ 0) :
  Calls Try.prog 43 #[.agg #[.int .i64 a.id,.int .i64 a.bal,.slice A a.pos.length c],.slice A' n' c'] w fun e w'=>e=.returned (.tuple #[.int .i64 (equityOf a marks).1,.int .i64 (equityOf a marks).2])∧Below w.heap.size w w':=by
 have HE:=Lib.hid (show equityOf a marks=(0,accCheck a.id a.bal a.pos marks.length) by unfold equityOf;rw [if_pos h0])
 obtain rfl:=h'.ofInts
 have h1:(accCheck a.id a.bal a.pos marks.length != 0)=true:=by simpa using h0
 clear h0
 go_enter Try.func43,Try.ntmps43
 go_wp2_with fail
 refine (accCheck_any _ _ _ _ _ _ _ _ _ (h.alloc hB _) (by simp;omega)).mono ?_
 rintro e w1 ⟨rfl,hb1⟩
 go_wp2_with fail
 go_ret2
 exact ⟨by rw [HE.out];rfl,((Below.refl _ _).alloc (Nat.le_refl _) _).trans (hb1.mono (by simp))⟩
set_option maxHeartbeats 2000000 in
theorem equity_good (a:Ac) (A A':Option Addr) (c n' c':Nat) (marks:List Int) (B B':Nat) (w:World) (h:Rd w B 1 A a.pos.length c (ints a.pos)) (hB:B ≤ w.heap.size) (h':Rd w B' 1 A' n' c' (ints marks)) (hB':B' ≤ w.heap.size) (h0:accCheck a.id a.bal a.pos marks.length=0) :
  Calls Try.prog 43 #[.agg #[.int .i64 a.id,.int .i64 a.bal,.slice A a.pos.length c],.slice A' n' c'] w fun e w'=>e=.returned (.tuple #[.int .i64 (equityOf a marks).1,.int .i64 (equityOf a marks).2])∧Below w.heap.size w w':=by
 have HE:=Lib.hid (eqRest_start h0)
 obtain rfl:=h'.ofInts
 have HC:=Lib.hid h0
 obtain ⟨_,⟨hl1,hl2⟩,hl3,hbal,_⟩:=accCheck_ok h0
 have hl:a.pos.length=marks.length:=by omega
 obtain ⟨n,hn⟩:∃ n,marks.length=n:=⟨_,rfl⟩
 rw [hn] at hl h' hl1 hl2
 have HN:=Lib.hid hn
 have HL:=Lib.hid hl
 have hn2:n ≤ 2:=by omega
 rw [hl] at h
 rw [hl,hn]
 clear h0 hl hn hl3 hl1 hl2
 go_enter Try.func43,Try.ntmps43
 go_wp2_with fail
 refine (accCheck_any _ _ _ _ _ _ _ _ _ (h.alloc hB _) (by simp;omega)).mono ?_
 rintro e w1 ⟨rfl,hb1⟩
 rw [← HN.out,HC.out,HN.out]
 have HB1:=Lib.hid ((Blk.new w 37 #[.int .i64 a.id,.int .i64 a.bal,.slice A n c]).below hb1 (by simp))
 obtain ⟨⟨b0,b1,b2⟩,e0,e1,e2⟩:=HB1.out.c3
 have hw1:w.heap.size < w1.heap.size:=by have:=hb1.size;simp at this;omega
 have h9:Below w.heap.size w w1:=((Below.refl _ _).alloc (Nat.le_refl _) _).trans (hb1.mono (by simp))
 have hp1:=h.below (h9.mono hB)
 have hm1:=h'.below (h9.mono hB')
 clear hb1
 go_wp2_with fail
 go_loopw [7,25] (fun l i wr=>∃ (j:Nat) (done:List Int),j ≤ n∧i=.int .i64 j∧Hid (wr.ownsRow w1.heap.size 3 1 l (j + 1) (ints (a.bal :: done)))∧Below w1.heap.size w1 wr∧Hid (done.length=j)∧Hid (eqRest a marks done j=equityOf a marks)) (fun _ i _=>n - (intOf i).toNat)
 case atStart=>exact ⟨0,[],Nat.zero_le _,rfl,World.ownsRow_lit w1 #[.int .i64 a.bal] 1 (Nat.le_refl _) (by decide) rfl,(Below.refl _ _).alloc (Nat.le_refl _) _,rfl,HE⟩
 case round =>
  obtain ⟨j,done,hj,rfl,HO,hbr,HD,HR⟩:=hrel
  have hsz:=hbr.size
  obtain ⟨A3,c3,rfl⟩:=own_shape HO.out
  clear b0 b1 b2 e0 e1 e2
  by_cases hlt:j < n
  ·obtain ⟨b,o,rfl,hb,z,hz,hc⟩:=(hp1.below (hbr.mono (by omega))).int hlt
   obtain ⟨b',o',rfl,hb',k,hk,hc'⟩:=(hm1.below (hbr.mono (by omega))).int hlt
   have HZ:=Lib.hid hz
   have HM:=Lib.hid hk
   clear hz hk
   rcases worth_cases z k with hw | ⟨hw,_,_,hw1,hw2⟩
   ·have HW:=Lib.hid hw
    have HE2:=Lib.hid (HR.out.symm.trans (eqRest_bad HZ.out HM.out hw))
    clear hw
    go_wp2_with fail
    refine (worth_any _ _ _).mono ?_
    rintro e w' ⟨rfl,rfl⟩
    rw [HW.out]
    go_wp2_with fail
    go_ret2
    exact ⟨by rw [HE2.out];rfl,h9.trans (hbr.mono (by omega))⟩
   ·have HW:=Lib.hid hw
    have HE2:=Lib.hid ((eqRest_step (done:=done) HZ.out HM.out hw).symm.trans HR.out)
    clear hw
    go_wp2_with fail
    refine (worth_any _ _ _).mono ?_
    rintro e w' ⟨rfl,rfl⟩
    rw [HW.out]
    go_wp2_with (at_builtin;go_must (refine wpList_app rfl _ _ _ rfl w1.heap.size _ _ _ elem_int _ (j + 1) (ints (a.bal :: done)) rfl (HO.out.alloc _) (wr.heap.size + 1) _ _ _ [.int .i64 (z * k)] rfl (Rd.new wr #[.int .i64 (z * k)] 3 1 rfl (by decide)) (one_ints [z * k]) (by simp only [maxLen];omega) (by omega) (by simp;omega) ?_);intro v' w2 hown hbel hg _)
    have hb2:Below w1.heap.size w1 w2:=hbr.trans (((Below.refl _ _).alloc hsz _).trans hbel)
    have HO2:=Lib.hid (show w2.ownsRow w1.heap.size 3 1 v' (j + 1 + 1) (ints (a.bal :: (done ++ [z * k]))) by simpa [ints] using hown)
    clear hown hbel hg
    go_wp2_with fail
    go_roundw
    case rel=>exact ⟨j + 1,done ++ [z * k],by omega,by go_num,HO2,hb2,by show _=_;rw [List.length_append,HD.out];rfl,HE2⟩
    case measure=>simp [intOf];omega
  ·have HE2:=Lib.hid (HR.out.symm.trans (eqRest_end (by have:=HL.out;omega)))
   go_wp2_with fail
   refine (add_any _ _ _ (a.bal :: done) _ _ (Rd.of_own HO.out)).mono ?_
   rintro e w' ⟨rfl,rfl⟩
   go_wp2_with fail
   go_ret2
   exact ⟨by rw [HE2.out];rfl,h9.trans (hbr.mono (by omega))⟩
theorem equity_any (a:Ac) (A A':Option Addr) (c n' c':Nat) (marks:List Int) (B B':Nat) (w:World) (h:Rd w B 1 A a.pos.length c (ints a.pos)) (hB:B ≤ w.heap.size) (h':Rd w B' 1 A' n' c' (ints marks)) (hB':B' ≤ w.heap.size) :
  Calls Try.prog 43 #[.agg #[.int .i64 a.id,.int .i64 a.bal,.slice A a.pos.length c],.slice A' n' c'] w fun e w'=>e=.returned (.tuple #[.int .i64 (equityOf a marks).1,.int .i64 (equityOf a marks).2])∧Below w.heap.size w w':=by
 by_cases h0:accCheck a.id a.bal a.pos marks.length=0
 ·exact equity_good a A A' c n' c' marks B B' w h hB h' hB' h0
 ·exact equity_bad1 a A A' c n' c' marks B B' w h hB h' h0
end
end Go.Proofs.Ytockodmbhnlheaa
