/-
  Contracts of the program's functions, and plain facts, that the laws VenueKeeps, VenueOthers, VenueCancels, VenueCash, VenueReady rest on (joined texts): EvenPure, RiskPure, RowB, OwnA, BookLaws, MatchPure, MapB, Side, Idx, OSlc, Cat.
-/
import Derived.Test.YtockodmbhnlheaaM01
import Derived.Test.YtockodmbhnlheaaProg
import Derived.Maps.AppendAt
import Derived.Laws.AppendOwnNone
import Derived.OwnWalk
import Derived.WalkKit
import Derived.Deep.Draws
import Derived.IntWalk
import Derived.Test.YtockodmbhnlheaaRows
import Derived.ProofKit
import Derived.OpenShut
import Derived.SizedLaws
import Derived.Deep.Slices
import Derived.WalkSpells
import Derived.WalkLawsBesides
import Derived.Deep.QuietTactic
import Derived.BigQuiet
import Derived.Lib.Hide
import Derived.Maps.Own
import Derived.Maps.OwnOps
import Derived.Maps.Views
import Derived.Deep.RegionHeld3
import Derived.Deep.DeepCutAuto
import Derived.Lib.AppendZeros
namespace Go.Proofs.Ytockodmbhnlheaa
section
theorem add3_ok {a b c s:Int} (h:addAll [a,b,c]=(s,0)):s=a + b + c∧isMoney a=true∧isMoney b=true∧isMoney c=true∧isMoney s=true:=by
 obtain ⟨h1,h2,h3⟩:=addFrom_ok _ _ _ h
 refine ⟨by rw [h1];simp;omega,h2 a (by simp),h2 b (by simp),h2 c (by simp),h3 (by decide)⟩
theorem trade_ok {a x:Ac} {m q p f:Int} (h:tradeOf a m q p f=(x,0)) :
  accCheck a.id a.bal a.pos a.pos.length=0∧(0 ≤ m∧m < (a.pos.length:Int))∧(-1000 ≤ q∧q ≤ 1000)∧(0 ≤ p∧p ≤ 10000)∧(-1000000000000 ≤ f∧f ≤ 1000000000000) ∧
   x=⟨a.id,a.bal - q * p - f,a.pos.set m.toNat (a.pos.getD m.toNat 0 + q)⟩∧isMoney (a.bal - q * p - f)=true∧(-1000 ≤ a.pos.getD m.toNat 0 + q∧a.pos.getD m.toNat 0 + q ≤ 1000)∧(-10000000 ≤ q * p∧q * p ≤ 10000000):=by
 unfold tradeOf at h
 split at h
 ·rename_i h1;injection h with _ h2;exact absurd h2 h1
 rename_i h1
 split at h
 ·injection h with _ h2;omega
 rename_i h2
 split at h
 ·rename_i h3;injection h with _ h4;exact absurd h4 h3
 rename_i h3
 split at h
 ·rename_i h4;injection h with _ h5;exact absurd h5 h4
 rename_i h4
 split at h
 ·injection h with _ h5;omega
 rename_i h5
 rcases worth_cases q p with hw | ⟨hw,hq,hp,hb⟩
 ·rw [hw] at h3;simp at h3
 rw [hw] at h h4
 simp only at h h4
 obtain ⟨s,e,hs⟩:∃ s e,addAll [a.bal,-(q * p),-clampFee f]=(s,e):=⟨_,_,rfl⟩
 rw [hs] at h h4
 simp only at h h4
 have he:e=0:=by omega
 subst he
 obtain ⟨e1,e2,e3,e4,e5⟩:=add3_ok hs
 rw [isMoney_iff] at e4
 have hc:=clamp_cases f
 have hf:-clampFee f = -f:=by omega
 injection h with h6 _
 refine ⟨by simpa using h1,by omega,hq,hp,by omega,?_,?_,by omega,hb⟩
 ·rw [← h6,e1,hf]
  have:a.bal + -(q * p) + -f=a.bal - q * p - f:=by omega
  rw [this]
 ·have:a.bal - q * p - f=s:=by omega
  rw [this];exact e5
def dot:List Int→List Int→Int
 | n :: l,k :: marks=>n * k + dot l marks
 | _,_=>0
theorem worths_ok:∀ {l marks:List Int},(worths l marks).2=0→(worths l marks).1.sum=dot l marks∧(l.length=marks.length→∀ k ∈ marks,0 ≤ k∧k ≤ 10000)
 | [],marks,_=>⟨by simp [worths,dot],fun h=>by have:=List.eq_nil_of_length_eq_zero h.symm;subst this;simp⟩
 | n :: l,[],_=>⟨by simp [worths,dot],fun h=>by simp at h⟩
 | n :: l,k :: marks,h=>by
  unfold worths at h ⊢
  rcases worth_cases n k with hw | ⟨hw,hq,hp,hb⟩
  ·rw [hw] at h;simp at h
  rw [hw] at h ⊢
  simp only at h ⊢
  rw [if_neg (by simp)] at h ⊢
  split at h
  ·rename_i h1;exact absurd h h1
  rename_i h1
  rw [if_neg h1]
  obtain ⟨i1,i2⟩:=worths_ok (l:=l) (marks:=marks) (by simpa using h1)
  refine ⟨by simp [dot,i1],fun hl=>?_⟩
  intro k' hk'
  rcases List.mem_cons.1 hk' with rfl | hk'
  ·exact hp
  ·exact i2 (by simpa using hl) k' hk'
theorem equity_ok {a:Ac} {marks:List Int} {n:Int} (h:equityOf a marks=(n,0)) :
  accCheck a.id a.bal a.pos marks.length=0∧n=a.bal + dot a.pos marks∧isMoney n=true∧∀ k ∈ marks,0 ≤ k∧k ≤ 10000:=by
 unfold equityOf at h
 split at h
 ·rename_i h1;injection h with _ h2;exact absurd h2 h1
 rename_i h1
 split at h
 ·rename_i h2;injection h with _ h3;exact absurd h3 h2
 rename_i h2
 have h1:accCheck a.id a.bal a.pos marks.length=0:=by omega
 have h2:(worths a.pos marks).2=0:=by omega
 obtain ⟨w1,w2⟩:=worths_ok h2
 obtain ⟨h3,_,h4⟩:=addFrom_ok _ _ _ h
 have hl:=(accCheck_ok h1).2.2.1
 refine ⟨h1,?_,h4 (by decide),w2 (by omega)⟩
 rw [h3,List.sum_cons,w1];omega
theorem trade_more {a x:Ac} {m q p f:Int} (h:tradeOf a m q p f=(x,0)) :
  x.pos.length=a.pos.length∧(-1000000000000 ≤ a.bal∧a.bal ≤ 1000000000000)∧(-1000000000000 ≤ x.bal∧x.bal ≤ 1000000000000)∧(-1000 ≤ a.pos.getD m.toNat 0∧a.pos.getD m.toNat 0 ≤ 1000)∧(-1000 ≤ x.pos.getD m.toNat 0∧x.pos.getD m.toNat 0 ≤ 1000):=by
 obtain ⟨h1,h2,h3,h4,h5,rfl,h7,h8,h9⟩:=trade_ok h
 obtain ⟨_,_,_,g4,g5⟩:=accCheck_ok h1
 have hk:m.toNat < a.pos.length:=by omega
 have e1:(a.pos.set m.toNat (a.pos.getD m.toNat 0 + q)).getD m.toNat 0=a.pos.getD m.toNat 0 + q:=by
  show ((a.pos.set m.toNat (a.pos.getD m.toNat 0 + q))[m.toNat]?).getD 0=_
  rw [List.getElem?_set_self hk];rfl
 have g6:-1000 ≤ a.pos.getD m.toNat 0∧a.pos.getD m.toNat 0 ≤ 1000:=by
  have:=posOk_get g5 (List.getElem?_eq_getElem hk)
  simpa [List.getD,hk] using this
 rw [isMoney_iff] at h7
 simp only
 rw [e1,List.length_set]
 exact ⟨rfl,g4,h7,g6,h8⟩
end
section
def tierOf (w:Int):Int × Int:=if w ≤ 100000 then (10,5) else if w ≤ 1000000 then (20,10) else (50,25)
def marginsFrom (x y:Int):List Int→List Int→Int × Int × Int
 | n :: l,k :: marks=>if (worthOf (max n (-n)) k).2 ≠ 0 then (0,0,(worthOf (max n (-n)) k).2)
  else marginsFrom (x + (partOf (worthOf (max n (-n)) k).1 (tierOf (worthOf (max n (-n)) k).1).1 100 true).1) (y + (partOf (worthOf (max n (-n)) k).1 (tierOf (worthOf (max n (-n)) k).1).2 100 true).1) l marks
 | _,_=>(x,y,0)
def marginsOf (a:Ac) (marks:List Int):Int × Int × Int :=
 if accCheck a.id a.bal a.pos marks.length ≠ 0 then (0,0,accCheck a.id a.bal a.pos marks.length) else marginsFrom 0 0 a.pos marks
def soundOf (a:Ac) (marks:List Int):Bool × Bool × Int :=
 if (marginsOf a marks).2.2 ≠ 0 then (false,false,(marginsOf a marks).2.2) else if (equityOf a marks).2 ≠ 0 then (false,false,(equityOf a marks).2)
 else (decide ((marginsOf a marks).1 ≤ (equityOf a marks).1),decide ((marginsOf a marks).2.1 ≤ (equityOf a marks).1),0)
def bankP (rest q:Int):Int:=if rest + q * ((-rest).tdiv q) < 0 then (if 0 < q then (-rest).tdiv q + 1 else (-rest).tdiv q - 1) else (-rest).tdiv q
def bankruptOf (a:Ac) (marks:List Int) (market:Int):Int × Int :=
 if (equityOf a marks).2 ≠ 0 then (0,(equityOf a marks).2) else if market < 0∨(marks.length:Int) ≤ market then (0,5)
 else if a.pos.getD market.toNat 0=0 then (0,12)
 else (max 1 (min (bankP ((equityOf a marks).1 - a.pos.getD market.toNat 0 * marks.getD market.toNat 0) (a.pos.getD market.toNat 0)) 10000),0)
structure Mk where
 book:Bk
 index:Int
 last:Int
def zeroMk:Mk:=⟨zeroBk,0,0⟩
def marketErr (m:Mk):Int:=if bookErr m.book ≠ 0 then bookErr m.book else if m.index < 1∨10000 < m.index∨m.last < 0∨10000 < m.last then 3 else 0
def midPrice (m:Mk):Int:=match m.book.bids,m.book.asks with
 | x :: _,y :: _=>(x.price + y.price) / 2
 | _,_=>m.index
def lastPrice (m:Mk):Int:=if m.last=0 then m.index else m.last
def midI (a b c:Int):Int:=max (min a b) (min (max a b) c)
def markP (m:Mk):Int:=midI (m.index - m.index / 20) (midI m.index (midPrice m) (lastPrice m)) (m.index + m.index / 20)
def markOf (m:Mk):Int × Int:=if marketErr m ≠ 0 then (0,marketErr m) else (markP m,0)
def marksFrom:List Mk→List Int × Int
 | []=>([],0)
 | m :: l=>if (markOf m).2 ≠ 0 then ([],(markOf m).2) else if (marksFrom l).2 ≠ 0 then ([],(marksFrom l).2) else ((markOf m).1 :: (marksFrom l).1,0)
def marksOf (l:List Mk):List Int × Int:=if l.length < 1∨2 < l.length then ([],2) else marksFrom l
theorem tier_bd (w:Int):(0 ≤ (tierOf w).1∧(tierOf w).1 ≤ 50)∧(0 ≤ (tierOf w).2∧(tierOf w).2 ≤ 25)∧(tierOf w).2 ≤ (tierOf w).1:=by
 unfold tierOf;split
 ·simp only;omega
 ·split <;> simp only <;> omega
theorem part100 {w p:Int} (h1:0 ≤ w) (h2:w ≤ 10000000) (h3:0 ≤ p) (h4:p ≤ 50):partOf w p 100 true=((w * p + 99) / 100,0)∧(0 ≤ w * p∧w * p ≤ 500000000):=by
 have hn:(w * p).natAbs ≤ 10000000 * 50:=by rw [Int.natAbs_mul];exact Nat.mul_le_mul (by omega) (by omega)
 have hp:0 ≤ w * p:=Int.mul_nonneg h1 h3
 unfold partOf
 have hq:partQ w p 100 true=(w * p + 99) / 100:=by
  simp only [partQ,if_true]
  generalize w * p=y at *
  omega
 rw [if_pos (partOk_iff.2 ⟨by omega,by omega,by omega,by omega,by omega⟩),hq,if_pos (isMoney_iff.2 (by omega))]
 exact ⟨rfl,hp,by omega⟩
def wants1 (n k:Int):Int:=(max n (-n) * k * (tierOf (max n (-n) * k)).1 + 99) / 100
def wants2 (n k:Int):Int:=(max n (-n) * k * (tierOf (max n (-n) * k)).2 + 99) / 100
theorem worth_abs {n k:Int} (h:(worthOf (max n (-n)) k).2=0):worthOf (max n (-n)) k=(max n (-n) * k,0)∧(-1000 ≤ n∧n ≤ 1000)∧(0 ≤ k∧k ≤ 10000)∧0 ≤ max n (-n) * k∧max n (-n) * k ≤ 10000000:=by
 rcases worth_cases (max n (-n)) k with hw | ⟨hw,hq,hp,hb⟩
 ·rw [hw] at h;simp at h
 ·exact ⟨hw,by omega,hp,Int.mul_nonneg (by omega) hp.1,hb.2⟩
theorem margins_step {n k x y:Int} {l marks:List Int}:marginsFrom x y (n :: l) (k :: marks)=if (worthOf (max n (-n)) k).2 ≠ 0 then (0,0,(worthOf (max n (-n)) k).2) else marginsFrom (x + wants1 n k) (y + wants2 n k) l marks:=by
 unfold marginsFrom
 split
 ·rfl
 ·rename_i h
  obtain ⟨hw,_,_,h1,h2⟩:=worth_abs (show (worthOf (max n (-n)) k).2=0 by omega)
  rw [hw]
  simp only
  obtain ⟨t1,t2,_⟩:=tier_bd (max n (-n) * k)
  rw [(part100 h1 h2 t1.1 t1.2).1,(part100 h1 h2 t2.1 (by omega)).1]
  conv=>lhs;unfold marginsFrom
  rfl
end
section
open Go.ChangeShapes Go.WideShapes Go.ChangeAt Go.RowKit
structure FitOd (o:Od):Prop where
 id:inI64 o.id
 acc:inI64 o.acc
 side:inI64 o.side
 price:inI64 o.price
 qty:inI64 o.qty
section
variable {H:Type} {enc:TypeId × Value→H} {W:World}
set_option maxRecDepth 100000 in
theorem core_order {fuel:Nat} {cs:List Value} {x:DataW H × List MemPlace} (h:DataW.trod enc Try.prog W 0 (fun _=>true) true fuel 71 cs=some x) :
  ∃ o:Od,cs = [.int .i64 o.id,.int .i64 o.acc,.int .i64 o.side,.int .i64 o.price,.int .i64 o.qty]∧FitOd o:=by
 obtain ⟨xs,m,_,hx,hlen,hxl,hf⟩:=DataW.trod_struct Try.underlying71 h
 rw [show Try.prog.cellsOf 71=5 by kernel_rfl] at hlen
 have h0:DataW.trod enc Try.prog W 0 (fun _=>true) true m 3 ((cs.drop 0).take (Try.prog.cellsOf 3))=xs[0]?:=hf 0 _ rfl
 have h1:DataW.trod enc Try.prog W 0 (fun _=>true) true m 3 ((cs.drop 1).take (Try.prog.cellsOf 3))=xs[1]?:=hf 1 _ rfl
 have h2:DataW.trod enc Try.prog W 0 (fun _=>true) true m 3 ((cs.drop 2).take (Try.prog.cellsOf 3))=xs[2]?:=hf 2 _ rfl
 have h3:DataW.trod enc Try.prog W 0 (fun _=>true) true m 3 ((cs.drop 3).take (Try.prog.cellsOf 3))=xs[3]?:=hf 3 _ rfl
 have h4:DataW.trod enc Try.prog W 0 (fun _=>true) true m 3 ((cs.drop 4).take (Try.prog.cellsOf 3))=xs[4]?:=hf 4 _ rfl
 rw [show Try.prog.cellsOf 3=1 by kernel_rfl] at h0 h1 h2 h3 h4
 match cs,hlen,xs,hxl with
 | [c0,c1,c2,c3,c4],_,[y0,y1,y2,y3,y4],_ =>
  obtain ⟨z0,e0,i0⟩:=core_int (x:=y0) (by simpa using h0)
  obtain ⟨z1,e1,i1⟩:=core_int (x:=y1) (by simpa using h1)
  obtain ⟨z2,e2,i2⟩:=core_int (x:=y2) (by simpa using h2)
  obtain ⟨z3,e3,i3⟩:=core_int (x:=y3) (by simpa using h3)
  obtain ⟨z4,e4,i4⟩:=core_int (x:=y4) (by simpa using h4)
  injection e0 with e0 _
  injection e1 with e1 _
  injection e2 with e2 _
  injection e3 with e3 _
  injection e4 with e4 _
  subst e0 e1 e2 e3 e4
  exact ⟨⟨z0,z1,z2,z3,z4⟩,rfl,⟨i0,i1,i2,i3,i4⟩⟩
theorem odCells_of {L:List Od} {f:Nat→Option Value} (hf:∀ i a,L[i]?=some a→f (i * 5)=some (.int .i64 a.id)∧f (i * 5 + 1)=some (.int .i64 a.acc)∧f (i * 5 + 2)=some (.int .i64 a.side)∧f (i * 5 + 3)=some (.int .i64 a.price)∧f (i * 5 + 4)=some (.int .i64 a.qty)) :
  ∀ j u,(odCells L)[j]?=some u→f j=some u:=by
 intro j u hj
 have hlt:j < L.length * 5:=by rw [← odCells_len];exact (List.getElem?_eq_some_iff.1 hj).1
 have hi:j / 5 < L.length:=by omega
 have ha:L[j / 5]?=some L[j / 5]:=List.getElem?_eq_getElem hi
 obtain ⟨k0,k1,k2,k3,k4⟩:=odCells_at ha
 obtain ⟨m0,m1,m2,m3,m4⟩:=hf _ _ ha
 have hm:j=j / 5 * 5∨j=j / 5 * 5 + 1∨j=j / 5 * 5 + 2∨j=j / 5 * 5 + 3∨j=j / 5 * 5 + 4:=by omega
 generalize j / 5=i at *
 rcases hm with e | e | e | e | e <;> subst e
 ·rw [m0,← k0,hj]
 ·rw [m1,← k1,hj]
 ·rw [m2,← k2,hj]
 ·rw [m3,← k3,hj]
 ·rw [m4,← k4,hj]
theorem core_orders {fuel:Nat} {cs:List Value} {x:DataW H × List MemPlace} (h:DataW.trod enc Try.prog W 0 (fun _=>true) true fuel 60 cs=some x)
  (hs:∀ y ∈ x.1.weights Try.prog 60,y ≤ reachBytes) :
  ∃ A n c L,cs = [.slice A n c]∧Rd W W.heap.size 5 A n c (odCells L)∧c * 40 ≤ reachBytes∧∀ a ∈ L,FitOd a:=by
 rcases Go.Deep.open_slice Try.underlying60 h with ⟨hcs,hx⟩ | ⟨ad,n,c,m,f,D,Pl,hcs,_,hl,hm,hmm,hx,hi⟩
 ·exact ⟨none,0,0,[],hcs,Rd.none_ _ _ _,by simp,by simp⟩
 ·simp only [if_true] at hmm
  subst hmm
  rw [show Try.prog.cellsOf 71=5 by kernel_rfl] at hi
  have hel:∀ i,i < n→∃ a:Od,FitOd a∧W.cell? (ad.add (i * 5))=some (.int .i64 a.id)∧W.cell? ((ad.add (i * 5)).add 1)=some (.int .i64 a.acc)∧W.cell? ((ad.add (i * 5)).add 2)=some (.int .i64 a.side) ∧
    W.cell? ((ad.add (i * 5)).add 3)=some (.int .i64 a.price)∧W.cell? ((ad.add (i * 5)).add 4)=some (.int .i64 a.qty):=by
   intro i hin
   obtain ⟨cs',hc,ht⟩:=hi i (by omega)
   obtain ⟨_,hcl,hat⟩:=World.cells?_some hc
   obtain ⟨a,he,hfit⟩:=core_order ht
   subst he
   have e0:=hat 0 (by omega)
   rw [show (ad.add (i * 5)).add 0=ad.add (i * 5) by simp [Addr.add]] at e0
   exact ⟨a,hfit,e0,hat 1 (by omega),hat 2 (by omega),hat 3 (by omega),hat 4 (by omega)⟩
  obtain ⟨L,hL,hall⟩:=exists_list _ n hel
  refine ⟨some ad,n,m,L,hcs,⟨by rw [odCells_len,hL],hl,hm,nofun,fun hn=>?_⟩,?_,fun a ha=>?_⟩
  ·obtain ⟨a,_,k0,_⟩:=hel 0 hn
   rw [show ad.add (0 * 5)=ad by simp [Addr.add]] at k0
   have hsp:=spot_of_cell k0
   refine ⟨ad.block,ad.off,?_,lt_of_cell k0,?_⟩
   ·obtain ⟨b,o,sp⟩:=ad;simp only at hsp;subst hsp;rfl
   ·refine odCells_of (f:=fun j=>W.cell? ⟨ad.block,ad.off + j,none⟩) fun i a ha=>?_
    obtain ⟨_,k0,k1,k2,k3,k4⟩:=hall i a ha
    have hb:∀ q,(ad.add q).block=ad.block∧(ad.add q).off=ad.off + q∧(ad.add q).spot=none:=by
     intro q;unfold Addr.add;split
     ·rename_i h0;subst h0;exact ⟨rfl,rfl,hsp⟩
     ·exact ⟨rfl,rfl,rfl⟩
    obtain ⟨b1,b2,b3⟩:=hb (i * 5)
    have e0:=add_of_cell hsp k0
    have e1:=add_of_cell b3 k1
    have e2:=add_of_cell b3 k2
    have e3:=add_of_cell b3 k3
    have e4:=add_of_cell b3 k4
    rw [b1,b2] at e1 e2 e3 e4
    exact ⟨e0,e1,e2,e3,e4⟩
  ·subst hx
   have hb:=hs ((((List.range n).map D).length + ((List.range (m - n)).map fun j=>D (n + j)).length) * 40) (by
    simp only [DataW.weights,Try.underlying60]
    rw [show Try.prog.bytesOf 71=40 by kernel_rfl]
    simp)
   simp at hb
   rw [show n + (m - n)=m by omega] at hb
   exact hb
  ·obtain ⟨i,hi⟩:=List.mem_iff_getElem?.1 ha
   exact (hall i a hi).1
structure FitBk (b:Bk):Prop where
 bids:∀ o ∈ b.bids,FitOd o
 asks:∀ o ∈ b.asks,FitOd o
set_option maxRecDepth 100000 in
theorem core_book {fuel:Nat} {cs:List Value} {x:DataW H × List MemPlace} (h:DataW.trod enc Try.prog W 0 (fun _=>true) true fuel 62 cs=some x)
  (hs:∀ y ∈ x.1.weights Try.prog 62,y ≤ reachBytes) :
  ∃ (b:Bk) (A A':Option Addr) (c c':Nat),cs = [.slice A b.bids.length c,.slice A' b.asks.length c']∧Rd W W.heap.size 5 A b.bids.length c (odCells b.bids)∧Rd W W.heap.size 5 A' b.asks.length c' (odCells b.asks) ∧
   (c * 40 ≤ reachBytes∧c' * 40 ≤ reachBytes)∧FitBk b:=by
 obtain ⟨xs,m,_,hx,hlen,hxl,hf⟩:=DataW.trod_struct Try.underlying62 h
 rw [show Try.prog.cellsOf 62=2 by kernel_rfl] at hlen
 have h0:DataW.trod enc Try.prog W 0 (fun _=>true) true m 60 ((cs.drop 0).take (Try.prog.cellsOf 60))=xs[0]?:=hf 0 _ rfl
 have h1:DataW.trod enc Try.prog W 0 (fun _=>true) true m 60 ((cs.drop 1).take (Try.prog.cellsOf 60))=xs[1]?:=hf 1 _ rfl
 rw [show Try.prog.cellsOf 60=1 by kernel_rfl] at h0 h1
 match cs,hlen,xs,hxl with
 | [c0,c1],_,[y0,y1],_ =>
  have hs0:∀ y ∈ y0.1.weights Try.prog 60,y ≤ reachBytes:=by
   intro y hy
   refine hs y ?_
   subst hx
   simp only [DataW.weights,Try.underlying62]
   simp [DataW.weightsEach,hy]
  have hs1:∀ y ∈ y1.1.weights Try.prog 60,y ≤ reachBytes:=by
   intro y hy
   refine hs y ?_
   subst hx
   simp only [DataW.weights,Try.underlying62]
   simp [DataW.weightsEach,hy]
  obtain ⟨A,n,c,L,e0,r0,s0,i0⟩:=core_orders (x:=y0) (by simpa using h0) hs0
  obtain ⟨A',n',c',L',e1,r1,s1,i1⟩:=core_orders (x:=y1) (by simpa using h1) hs1
  obtain rfl:L.length=n:=rdo_len r0
  obtain rfl:L'.length=n':=rdo_len r1
  injection e0 with e0 _
  injection e1 with e1 _
  subst e0 e1
  exact ⟨⟨L,L'⟩,A,A',c,c',rfl,r0,r1,⟨s0,s1⟩,⟨i0,i1⟩⟩
set_option maxRecDepth 100000 in
theorem core_market {fuel:Nat} {cs:List Value} {x:DataW H × List MemPlace} (h:DataW.trod enc Try.prog W 0 (fun _=>true) true fuel 64 cs=some x)
  (hs:∀ y ∈ x.1.weights Try.prog 64,y ≤ reachBytes) :
  ∃ (m:Mk) (A A':Option Addr) (c c':Nat),cs = [.slice A m.book.bids.length c,.slice A' m.book.asks.length c',.int .i64 m.index,.int .i64 m.last]∧Rd W W.heap.size 5 A m.book.bids.length c (odCells m.book.bids)∧Rd W W.heap.size 5 A' m.book.asks.length c' (odCells m.book.asks) ∧
   (c * 40 ≤ reachBytes∧c' * 40 ≤ reachBytes)∧FitBk m.book∧inI64 m.index∧inI64 m.last:=by
 obtain ⟨xs,m,_,hx,hlen,hxl,hf⟩:=DataW.trod_struct Try.underlying64 h
 rw [show Try.prog.cellsOf 64=4 by kernel_rfl] at hlen
 have h0:DataW.trod enc Try.prog W 0 (fun _=>true) true m 62 ((cs.drop 0).take (Try.prog.cellsOf 62))=xs[0]?:=hf 0 _ rfl
 have h1:DataW.trod enc Try.prog W 0 (fun _=>true) true m 3 ((cs.drop 2).take (Try.prog.cellsOf 3))=xs[1]?:=hf 1 _ rfl
 have h2:DataW.trod enc Try.prog W 0 (fun _=>true) true m 3 ((cs.drop 3).take (Try.prog.cellsOf 3))=xs[2]?:=hf 2 _ rfl
 rw [show Try.prog.cellsOf 3=1 by kernel_rfl] at h1 h2
 rw [show Try.prog.cellsOf 62=2 by kernel_rfl] at h0
 match cs,hlen,xs,hxl with
 | [c0,c1,c2,c3],_,[y0,y1,y2],_ =>
  have hs0:∀ y ∈ y0.1.weights Try.prog 62,y ≤ reachBytes:=by
   intro y hy
   refine hs y ?_
   subst hx
   simp only [DataW.weights,Try.underlying64]
   simp [DataW.weightsEach,hy]
  obtain ⟨b,A,A',c,c',e0,r0,r1,s0,i0⟩:=core_book (x:=y0) (by simpa using h0) hs0
  obtain ⟨z1,e1,i1⟩:=core_int (x:=y1) (by simpa using h1)
  obtain ⟨z2,e2,i2⟩:=core_int (x:=y2) (by simpa using h2)
  injection e0 with e0 e0'
  injection e0' with e0' _
  injection e1 with e1 _
  injection e2 with e2 _
  subst e0 e0' e1 e2
  exact ⟨⟨b,z1,z2⟩,A,A',c,c',rfl,r0,r1,s0,i0,i1,i2⟩
theorem len_of_reach {A:Option Addr} {B n c:Nat} {xs:List Value} (h:Rd W B 5 A n c xs) (hc:c * 40 ≤ reachBytes):n ≤ 4000000000000∧n * 40 ≤ 140737488355328:=by
 have:=h.le
 have:reachBytes=140737488351232:=rfl
 omega
end
end
section
open Go.RowKit
def AccCells (w:World) (base:Nat):List Ac→List Value→Prop
 | [],xs=>xs = []
 | a :: L,xs=>∃ A c ys,xs=.int .i64 a.id :: .int .i64 a.bal :: .slice A a.pos.length c :: ys∧w.ownsRow base 3 1 (.slice A a.pos.length c) a.pos.length (ints a.pos)∧a.pos.length * 8 ≤ 140737488355328∧AccCells w base L ys
theorem AccCells.mono {w w':World} {base base':Nat} (hk:∀ v n xs,w.ownsRow base 3 1 v n xs→w'.ownsRow base' 3 1 v n xs):∀ {L:List Ac} {xs:List Value},AccCells w base L xs→AccCells w' base' L xs
 | [],_,h=>h
 | _ :: _,_,⟨A,c,ys,h1,h2,h3,h4⟩=>⟨A,c,ys,h1,hk _ _ _ h2,h3,h4.mono hk⟩
theorem AccCells.append {w:World} {base:Nat} {M:List Ac} {ys:List Value} (h2:AccCells w base M ys):∀ {L:List Ac} {xs:List Value},AccCells w base L xs→AccCells w base (L ++ M) (xs ++ ys)
 | [],_,h=>by
  have h:_ = []:=h
  subst h;exact h2
 | _ :: _,_,⟨A,c,zs,h1,h3,h4,h5⟩=>by subst h1;exact ⟨A,c,zs ++ ys,rfl,h3,h4,AccCells.append h2 h5⟩
theorem AccCells.len {w:World} {base:Nat}:∀ {L:List Ac} {xs:List Value},AccCells w base L xs→xs.length=L.length * 3
 | [],_,h=>by
  have h:_ = []:=h
  subst h;rfl
 | _ :: L,_,⟨A,c,zs,h1,_,_,h5⟩=>by subst h1;have:=h5.len;simp only [List.length_cons];omega
theorem AccCells.at_ {w:World} {base:Nat}:∀ {L:List Ac} {xs:List Value},AccCells w base L xs→∀ {i:Nat} {a:Ac},L[i]?=some a →
  ∃ A c,xs[i * 3]?=some (.int .i64 a.id)∧xs[i * 3 + 1]?=some (.int .i64 a.bal)∧xs[i * 3 + 2]?=some (.slice A a.pos.length c)∧w.ownsRow base 3 1 (.slice A a.pos.length c) a.pos.length (ints a.pos)∧a.pos.length * 8 ≤ 140737488355328
 | [],_,_,i,a,ha=>by simp at ha
 | _ :: _,_,⟨A,c,zs,h1,h3,h4,h5⟩,0,a,ha=>by
  subst h1
  simp only [List.getElem?_cons_zero,Option.some.injEq] at ha
  subst ha
  exact ⟨A,c,rfl,rfl,rfl,h3,h4⟩
 | _ :: _,_,⟨A,c,zs,h1,h3,h4,h5⟩,i + 1,a,ha=>by
  subst h1
  simp only [List.getElem?_cons_succ] at ha
  obtain ⟨A',c',k1,k2,k3,k4⟩:=h5.at_ ha
  refine ⟨A',c',?_,?_,?_,k4⟩
  ·rw [show (i + 1) * 3=i * 3 + 1 + 1 + 1 by omega];exact k1
  ·rw [show (i + 1) * 3 + 1=i * 3 + 1 + 1 + 1 + 1 by omega];exact k2
  ·rw [show (i + 1) * 3 + 2=i * 3 + 2 + 1 + 1 + 1 by omega];exact k3
theorem AccCells.one {w:World} {base:Nat}:∀ {L:List Ac} {xs:List Value},AccCells w base L xs→∀ u ∈ xs,u.oneCell'=true
 | [],_,h=>by
  have h:_ = []:=h
  subst h;simp
 | _ :: L,_,⟨A,c,zs,h1,_,_,h5⟩=>by
  subst h1
  intro u hu
  simp only [List.mem_cons] at hu
  rcases hu with rfl | rfl | rfl | hu
  ·rfl
  ·rfl
  ·rfl
  ·exact h5.one u hu
def OwnAccs (w:World) (base:Nat) (v:Value) (n:Nat) (L:List Ac):Prop:=∃ xs,w.ownsRow base 37 3 v n xs∧AccCells w base L xs
theorem OwnAccs.nil (w:World) (base:Nat):OwnAccs w base (.slice none 0 0) 0 []:=⟨[],World.ownsRow_nil _ _ _ _,rfl⟩
theorem OwnAccs.below {w w':World} {base n B:Nat} {v:Value} {L:List Ac} (h:OwnAccs w base v n L) (hb:Below B w w') (hB:w.heap.size ≤ B):OwnAccs w' base v n L:=by
 obtain ⟨xs,h1,h2⟩:=h
 exact ⟨xs,own_below h1 hb hB,h2.mono fun _ _ _ h=>own_below h hb hB⟩
theorem own_ne {w:World} {base base' e e' k k' n n':Nat} {v v':Value} {xs ys:List Value} (h:w.ownsRow base e k v n xs) (h':w.ownsRow base' e' k' v' n' ys) (hne:e ≠ e'):v.ownBlock=none∨v.ownBlock ≠ v'.ownBlock:=by
 obtain ⟨_,⟨rfl,_⟩ | ⟨g,cap,cur,rfl,_,hg,_⟩⟩:=h
 ·exact .inl rfl
 ·right
  obtain ⟨_,⟨rfl,_⟩ | ⟨g',cap',cur',rfl,_,hg',_⟩⟩:=h'
  ·simp [Value.ownBlock]
  ·intro he
   have:g=g':=by simpa [Value.ownBlock] using he
   subst this
   rw [hg] at hg'
   injection hg' with hg'
   injection hg' with _ ht
   exact hne ht
theorem OwnAccs.form {w:World} {base n:Nat} {v:Value} {L:List Ac} (h:OwnAccs w base v n L):∃ A c,v=.slice A n c:=own_shape h.choose_spec.1
theorem OwnAccs.len {w:World} {base n:Nat} {v:Value} {L:List Ac} (h:OwnAccs w base v n L):L.length=n:=by
 obtain ⟨xs,h1,h2⟩:=h
 have:=h2.len
 have:=h1.1
 omega
theorem OwnAccs.snoc {w w':World} {base n:Nat} {v v':Value} {L:List Ac} {a:Ac} {A:Option Addr} {c:Nat} {xs:List Value} (h:w.ownsRow base 37 3 v n xs) (hc:AccCells w base L xs)
  (ha:w.ownsRow base 3 1 (.slice A a.pos.length c) a.pos.length (ints a.pos)) (hl:a.pos.length * 8 ≤ 140737488355328) (hg:w.grownBy w' v.ownBlock) (hown:w'.ownsRow base 37 3 v' (n + 1) (xs ++ [.int .i64 a.id,.int .i64 a.bal,.slice A a.pos.length c])) :
  OwnAccs w' base v' (n + 1) (L ++ [a]):=by
 refine ⟨_,hown,AccCells.append ?_ (hc.mono fun _ _ _ h1=>World.ownsRow.kept h1 hg (own_ne h1 h (by decide)))⟩
 exact ⟨A,c,[],rfl,World.ownsRow.kept ha hg (own_ne ha h (by decide)),hl,rfl⟩
theorem OwnAccs.read {w:World} {base n c:Nat} {A:Option Addr} {L:List Ac} (h:OwnAccs w base (.slice A n c) n L):RdL shAcc w w.heap.size A n c L:=by
 have hl:=h.len
 obtain ⟨xs,h1,h2⟩:=h
 have hr:=Rd.of_own h1
 refine ⟨hl,hr.le,hr.cap,hr.nil,fun hn=>?_⟩
 obtain ⟨b,o,e,hb,hc⟩:=hr.at_ hn
 refine ⟨b,o,e,hb,fun i a ha=>?_⟩
 obtain ⟨A2,c2,k1,k2,k3,k4,k5⟩:=h2.at_ ha
 exact ⟨A2,c2,hc _ _ k1,by rw [Nat.add_assoc];exact hc _ _ k2,by rw [Nat.add_assoc];exact hc _ _ k3,Rd.of_own k4,k5⟩
end
section
theorem rest_ok {b x:Bk} {o:Od} (h:restOf b o=(x,0)) :
  BookOk b∧ordErr o=0∧hasB b o.id=false∧b.bids.length + b.asks.length < 40∧headCrosses o (otherOf b o.side)=false∧x=setOwn b o.side (insO o (ownOf b o.side)):=by
 unfold restOf at h
 split at h
 ·rename_i h1;injection h with _ h2;exact absurd h2 h1
 rename_i h1
 have hb:=bookErr_ok.1 (show bookErr b=0 by omega)
 split at h
 ·injection h with _ h2;omega
 rename_i h2
 split at h
 ·rename_i h3;injection h with _ h4;exact absurd h4 h3
 rename_i h3
 split at h
 ·injection h with _ h4;omega
 rename_i h4
 split at h
 ·injection h with _ h5;omega
 rename_i h5
 injection h with h6 _
 have:=hb.len
 exact ⟨hb,by omega,by simpa using h2,by omega,by simpa using h5,h6.symm⟩
theorem cross_all {b:Bk} {o:Od} (h:BookOk b) (hs:o.side=1∨o.side = -1) (hc:headCrosses o (otherOf b o.side)=false):∀ y ∈ otherOf b o.side,crossesB o y.price=false:=by
 rcases hs with hs | hs
 ·have e:otherOf b o.side=b.asks:=by unfold otherOf;rw [if_pos hs]
  rw [e] at hc ⊢
  intro y hy
  have hso:=h.asks
  cases hb:b.asks with
  | nil=>rw [hb] at hy;cases hy
  | cons z l =>
   rw [hb] at hc hy hso
   simp only [headCrosses,crossesB] at hc
   rw [if_pos hs] at hc
   unfold crossesB
   rw [if_pos hs]
   simp only [decide_eq_false_iff_not] at hc ⊢
   rcases List.mem_cons.1 hy with rfl | hy
   ·exact hc
   ·have:=(List.pairwise_cons.1 hso.sorted).1 y hy
    rw [ahead_sell (by rw [hso.side z (by simp)];decide)] at this
    omega
 ·have hs1:¬ o.side=1:=by omega
  have e:otherOf b o.side=b.bids:=by unfold otherOf;rw [if_neg hs1]
  rw [e] at hc ⊢
  intro y hy
  have hso:=h.bids
  cases hb:b.bids with
  | nil=>rw [hb] at hy;cases hy
  | cons z l =>
   rw [hb] at hc hy hso
   simp only [headCrosses,crossesB] at hc
   rw [if_neg hs1] at hc
   unfold crossesB
   rw [if_neg hs1]
   simp only [decide_eq_false_iff_not] at hc ⊢
   rcases List.mem_cons.1 hy with rfl | hy
   ·exact hc
   ·have:=(List.pairwise_cons.1 hso.sorted).1 y hy
    rw [ahead_buy (hso.side z (by simp))] at this
    omega
theorem rest_book {b:Bk} {o:Od} (h:BookOk b) (ho:ordErr o=0) (hi:hasB b o.id=false) (hl:b.bids.length + b.asks.length < 40) (hc:∀ y ∈ otherOf b o.side,crossesB o y.price=false) :
  restOf b o=(setOwn b o.side (insO o (ownOf b o.side)),0)∧BookOk (setOwn b o.side (insO o (ownOf b o.side))):=by
 obtain ⟨hi1,hi2⟩:=hasB_not.1 hi
 have hs:=(ordErr_ok.1 ho).2.2.1
 constructor
 ·unfold restOf
  rw [if_neg (by rw [bookErr_ok.2 h];simp),if_neg (by rw [hi];simp),if_neg (by rw [ho];simp),if_neg (by omega),if_neg ?_]
  rw [Bool.not_eq_true]
  cases hh:otherOf b o.side with
  | nil=>rfl
  | cons z l=>rw [hh] at hc;exact hc z (by simp)
 ·have hf:=free_all h
  rcases hs with hs | hs
  ·have e1:ownOf b o.side=b.bids:=by unfold ownOf;rw [if_pos hs]
   have e2:∀ l,setOwn b o.side l = { b with bids:=l }:=by intro l;unfold setOwn;rw [if_pos hs]
   have e3:otherOf b o.side=b.asks:=by unfold otherOf;rw [if_pos hs]
   rw [e1,e2]
   rw [e3] at hc
   refine ⟨by simp only [length_insO];omega,sideOk_insO h.bids ho hs hi1,h.asks,?_,free_of ?_⟩
   ·intro x hx y hy
    rcases mem_insO.1 hx with rfl | hx
    ·exact fun e=>hi2 y hy e.symm
    ·exact h.apart x hx y hy
   ·intro x hx y hy
    rcases mem_insO.1 hx with rfl | hx
    ·have:=hc y hy
     unfold crossesB at this
     rw [if_pos hs] at this
     simp only [decide_eq_false_iff_not] at this
     omega
    ·exact hf x hx y hy
  ·have hs1:¬ o.side=1:=by omega
   have e1:ownOf b o.side=b.asks:=by unfold ownOf;rw [if_neg hs1]
   have e2:∀ l,setOwn b o.side l = { b with asks:=l }:=by intro l;unfold setOwn;rw [if_neg hs1]
   have e3:otherOf b o.side=b.bids:=by unfold otherOf;rw [if_neg hs1]
   rw [e1,e2]
   rw [e3] at hc
   refine ⟨by simp only [length_insO];omega,h.bids,sideOk_insO h.asks ho hs hi2,?_,free_of ?_⟩
   ·intro x hx y hy
    rcases mem_insO.1 hy with rfl | hy
    ·exact hi1 x hx
    ·exact h.apart x hx y hy
   ·intro x hx y hy
    rcases mem_insO.1 hy with rfl | hy
    ·have:=hc x hx
     unfold crossesB at this
     rw [if_neg hs1] at this
     simp only [decide_eq_false_iff_not] at this
     omega
    ·exact hf x hx y hy
theorem own_mem {b:Bk} (h:BookOk b) {o:Od} (ho:o ∈ b.bids ++ b.asks):o ∈ ownOf b o.side∧ordErr o=0:=by
 rcases List.mem_append.1 ho with ho | ho
 ·have hs:=h.bids.side o ho
  unfold ownOf;rw [if_pos hs];exact ⟨ho,h.bids.ok o ho⟩
 ·have hs:=h.asks.side o ho
  unfold ownOf;rw [if_neg (by omega)];exact ⟨ho,h.asks.ok o ho⟩
theorem own_of {b:Bk} (h:BookOk b) (s:Int) (hs:s=1∨s = -1):SideOk s (ownOf b s):=by
 unfold ownOf
 rcases hs with hs | hs
 ·rw [if_pos hs,hs];exact h.bids
 ·rw [if_neg (by omega),hs];exact h.asks
theorem own_set (b:Bk) (s:Int) (l:List Od):ownOf (setOwn b s l) s=l∧otherOf (setOwn b s l) s=otherOf b s∧setOwn b s (ownOf b s)=b:=by
 unfold ownOf setOwn otherOf
 by_cases h:s=1
 ·simp [h]
 ·simp [h]
theorem set_set (b:Bk) (s:Int) (l m:List Od):setOwn (setOwn b s l) s m=setOwn b s m:=by
 unfold setOwn
 by_cases h:s=1
 ·simp [h]
 ·simp [h]
theorem mem_own {b:Bk} {s:Int} {o:Od} (ho:o ∈ ownOf b s):o ∈ b.bids ++ b.asks:=by
 unfold ownOf at ho
 split at ho
 ·exact List.mem_append.2 (.inl ho)
 ·exact List.mem_append.2 (.inr ho)
theorem find_in {b:Bk} (h:BookOk b) {o:Od} (ho:o ∈ b.bids ++ b.asks):findOf b o.id=(o,0):=by
 unfold findOf
 rw [if_neg (by rw [bookErr_ok.2 h];simp),findO_of h ho]
theorem remove_in {b:Bk} (h:BookOk b) {o:Od} (ho:o ∈ b.bids ++ b.asks):removeOf b o.id=(setOwn b o.side (delO o.id (ownOf b o.side)),o,0):=by
 unfold removeOf
 rw [find_in h ho]
 simp
theorem back1 {b x:Bk} {o:Od} (h:restOf b o=(x,0)):bookErr x=0∧removeOf x o.id=(b,o,0)∧findOf x o.id=(o,0):=by
 obtain ⟨hb,ho,hi,hl,hc,rfl⟩:=rest_ok h
 have hs:=(ordErr_ok.1 ho).2.2.1
 obtain ⟨_,hx⟩:=rest_book hb ho hi hl (cross_all hb hs hc)
 obtain ⟨e1,e2,e3⟩:=own_set b o.side (insO o (ownOf b o.side))
 have hm:o ∈ ownOf (setOwn b o.side (insO o (ownOf b o.side))) o.side:=by rw [e1];exact mem_insO.2 (.inl rfl)
 have hm:=mem_own hm
 refine ⟨bookErr_ok.2 hx,?_,find_in hx hm⟩
 rw [remove_in hx hm,e1,set_set]
 obtain ⟨hi1,hi2⟩:=hasB_not.1 hi
 have hid:∀ y ∈ ownOf b o.side,y.id ≠ o.id:=by
  intro y hy
  unfold ownOf at hy
  split at hy
  ·exact hi1 y hy
  ·exact hi2 y hy
 rw [del_ins (own_of hb o.side hs) ho rfl hid,e3]
theorem remove_ok {b x:Bk} {id:Int} {o:Od} (h:removeOf b id=(x,o,0)):BookOk b∧o ∈ b.bids ++ b.asks∧o.id=id∧x=setOwn b o.side (delO o.id (ownOf b o.side)):=by
 unfold removeOf at h
 split at h
 ·rename_i h1;injection h with _ h;injection h with _ h2;exact absurd h2 h1
 rename_i h1
 injection h with h2 h;injection h with h3 _
 unfold findOf at h1 h2 h3
 split at h1
 ·rename_i h4;simp at h1;exact absurd h1 h4
 rename_i h4
 have hb:=bookErr_ok.1 (show bookErr b=0 by omega)
 rw [if_neg h4] at h2 h3
 cases hf:findO (b.bids ++ b.asks) id with
 | none=>rw [hf] at h1;simp at h1
 | some z =>
  rw [hf] at h2 h3
  simp only at h2 h3
  subst h3
  obtain ⟨k1,k2⟩:=findO_some hf
  exact ⟨hb,k1,k2,by rw [← h2,k2]⟩
theorem book_sub {b:Bk} (h:BookOk b) {l m:List Od} (hl:l.Sublist b.bids) (hm:m.Sublist b.asks):BookOk ⟨l,m⟩:=by
 refine ⟨?_,sideOk_sub h.bids hl,sideOk_sub h.asks hm,fun x hx y hy=>h.apart x (hl.subset hx) y (hm.subset hy),free_of fun x hx y hy=>free_all h x (hl.subset hx) y (hm.subset hy)⟩
 have:=h.len
 have:=hl.length_le
 have:=hm.length_le
 simp only
 omega
theorem book_del {b:Bk} (h:BookOk b) (s id:Int):BookOk (setOwn b s (delO id (ownOf b s))):=by
 unfold setOwn ownOf
 split
 ·exact book_sub h List.filter_sublist (List.Sublist.refl _)
 ·exact book_sub h (List.Sublist.refl _) List.filter_sublist
end
section
structure Fl where
 maker:Int
 taker:Int
 macc:Int
 tacc:Int
 side:Int
 price:Int
 qty:Int
theorem Fl.ext' {a b:Fl} (h1:a.maker=b.maker) (h2:a.taker=b.taker) (h3:a.macc=b.macc) (h4:a.tacc=b.tacc) (h5:a.side=b.side) (h6:a.price=b.price) (h7:a.qty=b.qty):a=b:=by
 obtain ⟨a1,a2,a3,a4,a5,a6,a7⟩:=a
 obtain ⟨b1,b2,b3,b4,b5,b6,b7⟩:=b
 simp only at h1 h2 h3 h4 h5 h6 h7
 subst h1 h2 h3 h4 h5 h6 h7;rfl
def fillOf (o x:Od) (n:Int):Fl:=⟨x.id,o.id,x.acc,o.acc,o.side,x.price,n⟩
def takeL (o:Od):Int→List Od→List Od × List Fl × Int × Bool
 | left,[]=>([],[],left,false)
 | left,x :: l=>if left ≤ 0 then (x :: l,[],left,false) else if crossesB o x.price=false then (x :: l,[],left,false) else if x.acc=o.acc then (x :: l,[],left,true)
  else if left < x.qty then ({ x with qty:=x.qty - left } :: l,[fillOf o x left],0,false)
  else ((takeL o (left - x.qty) l).1,fillOf o x x.qty :: (takeL o (left - x.qty) l).2.1,(takeL o (left - x.qty) l).2.2)
def takeOf (b:Bk) (o:Od):Bk × List Fl × Int × Bool × Int :=
 if bookErr b ≠ 0 then (zeroBk,[],0,false,bookErr b) else if ordErr o ≠ 0 then (zeroBk,[],0,false,ordErr o)
 else (setOther b o.side (takeL o o.qty (otherOf b o.side)).1,(takeL o o.qty (otherOf b o.side)).2.1,(takeL o o.qty (otherOf b o.side)).2.2.1,(takeL o o.qty (otherOf b o.side)).2.2.2,0)
def comeOf (b:Bk) (o:Od) (how:Int):Bk × List Fl × Int × Int :=
 if bookErr b ≠ 0 then (zeroBk,[],0,bookErr b) else if hasB b o.id then (zeroBk,[],0,6) else if how < 1∨4 < how then (zeroBk,[],0,4)
 else if (takeOf b o).2.2.2.2 ≠ 0 then (zeroBk,[],0,(takeOf b o).2.2.2.2)
 else if how=4∧((takeOf b o).2.1 ≠ []∨(takeOf b o).2.2.2.1=true) then (zeroBk,[],0,9)
 else if (takeOf b o).2.2.2.1 then (zeroBk,[],0,11)
 else if how=3∧0 < (takeOf b o).2.2.1 then (zeroBk,[],0,10)
 else if (takeOf b o).2.2.1=0∨how=2 then ((takeOf b o).1,(takeOf b o).2.1,(takeOf b o).2.2.1,0)
 else if (restOf (takeOf b o).1 { o with qty:=(takeOf b o).2.2.1 }).2 ≠ 0 then (zeroBk,[],0,(restOf (takeOf b o).1 { o with qty:=(takeOf b o).2.2.1 }).2)
 else ((restOf (takeOf b o).1 { o with qty:=(takeOf b o).2.2.1 }).1,(takeOf b o).2.1,0,0)
def sameBut (x y:Od):Prop:=x.id=y.id∧x.acc=y.acc∧x.side=y.side∧x.price=y.price
theorem ahead_but {x x' y:Od} (h:sameBut x x'):aheadB x y=aheadB x' y∧aheadB y x=aheadB y x':=by
 obtain ⟨h1,h2,h3,h4⟩:=h
 unfold aheadB
 rw [h1,h3,h4];exact ⟨rfl,rfl⟩
theorem takeL_side {s:Int} {o:Od}:∀ {l:List Od} {left:Int},SideOk s l→SideOk s (takeL o left l).1∧(∀ y ∈ (takeL o left l).1,∃ x ∈ l,sameBut x y∧y.qty ≤ x.qty)∧(takeL o left l).1.length ≤ l.length
 | [],_,h=>⟨h,by simp [takeL],by simp [takeL]⟩
 | x :: l,left,h=>by
  have hid:∀ y ∈ x :: l,∃ z ∈ x :: l,sameBut z y∧y.qty ≤ z.qty:=fun y hy=>⟨y,hy,⟨rfl,rfl,rfl,rfl⟩,Int.le_refl _⟩
  unfold takeL
  split
  ·exact ⟨h,hid,Nat.le_refl _⟩
  split
  ·exact ⟨h,hid,Nat.le_refl _⟩
  split
  ·exact ⟨h,hid,Nat.le_refl _⟩
  split
  ·rename_i h1 h2 h3 h4
   have hx:=ordErr_ok.1 (h.ok x (by simp))
   refine ⟨⟨?_,?_,?_,?_⟩,?_,by simp⟩
   ·intro y hy
    rcases List.mem_cons.1 hy with rfl | hy
    ·rw [ordErr_ok];simp only;omega
    ·exact h.ok y (by simp [hy])
   ·intro y hy
    rcases List.mem_cons.1 hy with rfl | hy
    ·exact h.side x (by simp)
    ·exact h.side y (by simp [hy])
   ·obtain ⟨k1,k2⟩:=List.pairwise_cons.1 h.sorted
    refine List.pairwise_cons.2 ⟨fun y hy=>?_,k2⟩
    rw [← (ahead_but (x:=x) (y:=y) (by exact ⟨rfl,rfl,rfl,rfl⟩)).1]
    exact k1 y hy
   ·have:=h.ids
    simpa using this
   ·intro y hy
    rcases List.mem_cons.1 hy with rfl | hy
    ·exact ⟨x,by simp,⟨rfl,rfl,rfl,rfl⟩,by simp only;omega⟩
    ·exact hid y (by simp [hy])
  ·obtain ⟨k1,k2,k3⟩:=takeL_side (o:=o) (l:=l) (left:=left - x.qty) (sideOk_sub h (List.sublist_cons_self x l))
   refine ⟨k1,fun y hy=>?_,by simp only [List.length_cons];omega⟩
   obtain ⟨z,hz,hs⟩:=k2 y hy
   exact ⟨z,by simp [hz],hs⟩
theorem other_of {b:Bk} (h:BookOk b) (s:Int) (hs:s=1∨s = -1):SideOk (-s) (otherOf b s):=by
 unfold otherOf
 rcases hs with hs | hs
 ·rw [if_pos hs,hs];exact h.asks
 ·rw [if_neg (by omega),hs];exact h.bids
theorem book_take {b:Bk} (h:BookOk b) (o:Od) (hs:o.side=1∨o.side = -1) (left:Int):BookOk (setOther b o.side (takeL o left (otherOf b o.side)).1):=by
 obtain ⟨k1,k2,k3⟩:=takeL_side (o:=o) (left:=left) (other_of h o.side hs)
 have hl:=h.len
 have hf:=free_all h
 unfold setOther
 unfold otherOf at k1 k2 k3 ⊢
 rcases hs with hs | hs
 ·rw [if_pos hs] at k1 k2 k3 ⊢
  rw [if_pos hs]
  rw [hs] at k1
  refine ⟨by simp only;omega,h.bids,k1,fun x hx y hy=>?_,free_of fun x hx y hy=>?_⟩
  ·obtain ⟨z,hz,hzy,_⟩:=k2 y hy
   rw [← hzy.1];exact h.apart x hx z hz
  ·obtain ⟨z,hz,hzy,_⟩:=k2 y hy
   rw [← hzy.2.2.2];exact hf x hx z hz
 ·have hs1:¬ o.side=1:=by omega
  rw [if_neg hs1] at k1 k2 k3 ⊢
  rw [if_neg hs1]
  rw [hs] at k1
  refine ⟨by simp only;omega,k1,h.asks,fun x hx y hy=>?_,free_of fun x hx y hy=>?_⟩
  ·obtain ⟨z,hz,hzy,_⟩:=k2 x hx
   rw [← hzy.1];exact h.apart z hz y hy
  ·obtain ⟨z,hz,hzy,_⟩:=k2 x hx
   rw [← hzy.2.2.2];exact hf z hz y hy
theorem takeL_left {o:Od}:∀ {l:List Od} {left:Int},(∀ x ∈ l,1 ≤ x.qty)→0 ≤ left→0 ≤ (takeL o left l).2.2.1∧(takeL o left l).2.2.1 ≤ left
 | [],left,_,h=>by simp [takeL,h]
 | x :: l,left,hq,h=>by
  unfold takeL
  split
  ·exact ⟨h,Int.le_refl _⟩
  split
  ·exact ⟨h,Int.le_refl _⟩
  split
  ·exact ⟨h,Int.le_refl _⟩
  split
  ·exact ⟨Int.le_refl _,h⟩
  ·have h1:=hq x (by simp)
   obtain ⟨k1,k2⟩:=takeL_left (o:=o) (l:=l) (left:=left - x.qty) (fun y hy=>hq y (by simp [hy])) (by omega)
   exact ⟨k1,by simp only;omega⟩
theorem takeL_zero {o:Od} (l:List Od):takeL o 0 l=(l,[],0,false):=by
 cases l with
 | nil=>rfl
 | cons x l=>simp [takeL]
end
section
open Go.RowKit Go.Maps
theorem wf_i64 {x:Int} (h1:-9223372036854775808 ≤ x) (h2:x ≤ 9223372036854775807):(Lit.int .i64 x).wf=true:=by
 simp [Lit.wf,IntKind.min,IntKind.max,IntKind.signed,IntKind.bits];omega
def seenD:List Int→DataW Unit
 | []=>.map []
 | x :: l=>(seenD l).put (.int .i64 x) (.lit (.bool true))
theorem seenD_map:∀ l:List Int,IsMap (seenD l)
 | []=>isMap_empty
 | _ :: l=>(seenD_map l).put _ _
theorem seenD_at (x:Int):∀ l:List Int,(seenD l).atKey (.int .i64 x) (.lit (.bool false))=.lit (.bool (decide (x ∈ l)))
 | []=>by simp [seenD];rfl
 | y :: l=>by
  unfold seenD
  by_cases h:x=y
  ·subst h
   rw [atKey_put_same (seenD_map l) (show WideAt.IsKeyLit (.int .i64 x) from trivial)];simp
  ·rw [atKey_put_other (by intro e;injection e with _ e;exact h e)]
   rw [seenD_at x l]
   simp [h]
def Seen (w:World) (b n:Nat) (l:List Int):Prop:=w.ownsMap Try.prog 3 (plainElem (H:=Unit) Try.prog 4) b n (seenD l)
theorem Seen.made (w:World):Seen (w.alloc (.map #[] 0)) w.heap.size 0 []:=World.ownsMap_made _ _ _ _
theorem Seen.lt {w:World} {b n:Nat} {l:List Int} (h:Seen w b n l):b < w.heap.size:=World.ownsMap.lt h
theorem Seen.kept {w w':World} {b n:Nat} {l:List Int} {row:Option Nat} (h:Seen w b n l) (hg:w.grownBy w' row) (hne:some b ≠ row):Seen w' b n l:=World.ownsMap.kept h hg hne
theorem Seen.below {w w':World} {b n B:Nat} {l:List Int} (h:Seen w b n l) (hb:Below B w w') (hB:b < B):Seen w' b n l:=by
 obtain ⟨es,clock,h1,h2⟩:=h
 exact ⟨es,clock,(hb.block b hB).trans h1,h2⟩
set_option maxRecDepth 100000 in
theorem Seen.look {w:World} {b n:Nat} {l:List Int} (h:Seen w b n l) (x:Int) (hx:-9223372036854775808 ≤ x∧x ≤ 9223372036854775807) :
  (Instr.lookup 149 (.map (some b)) (.int .i64 x) false).run Try.prog w=.ok (.bool (decide (x ∈ l))) w:=by
 have hz:(zeroValue 4).run Try.prog w=.ok (.bool false) w:=by kernel_rfl
 obtain ⟨v,ps,hrun,hv⟩:=World.ownsMap.lookup (R:=plainElem (H:=Unit) Try.prog 4) h (int_keyed Try.underlying3) Try.underlying149 hz (plainElem_bool Try.underlying4 false) (keyOf_int_mk Try.underlying3 (wf_i64 hx.1 hx.2))
 rw [seenD_at] at hv
 have:v=.bool (decide (x ∈ l)):=by
  unfold plainElem at hv
  rw [Try.underlying4] at hv
  cases v <;> simp at hv
  rename_i c
  obtain ⟨hv,_⟩:=hv
  cases c <;> simp_all
 rw [← this];exact hrun
set_option maxRecDepth 100000 in
theorem Seen.put {w:World} {b n:Nat} {l:List Int} (h:Seen w b n l) (x:Int) (hx:-9223372036854775808 ≤ x∧x ≤ 9223372036854775807) (hn:n < maxLen) :
  ∃ w',(Instr.mapUpdate 149 (.map (some b)) (.int .i64 x) (.bool true)).run Try.prog w=.ok () w'∧Seen w' b (n + 1) (x :: l)∧w.grownBy w' (some b) :=
 World.ownsMap.update h (int_keyed Try.underlying3) Try.underlying149 hn (keyOf_int_mk Try.underlying3 (wf_i64 hx.1 hx.2)) (plainElem_bool Try.underlying4 true)
theorem make_set (w:World):(Instr.makeMap 149 none).run Try.prog w=.ok (.map (some w.heap.size)) (w.alloc (.map #[] 0)):=run_makeMap _ w
end
section
open Go.RowKit
theorem below_next {w0 W W':World} (hb:Below W.heap.size W W') (h:Below w0.heap.size w0 W):Below w0.heap.size w0 W':=h.trans (hb.mono h.size)
theorem below_drew {w0 W:World} (h:Below w0.heap.size w0 W):Below w0.heap.size w0 W.drew:=below_drewN h 1
def sideAt (s:Int) (L:List Od) (seen:List Int) (j:Nat):Int:=sideErr s (if j=0 then none else L[j - 1]?) (((L.take j).map Od.id).reverse ++ seen) (L.drop j)
theorem sideAt_zero (s:Int) (L:List Od) (seen:List Int):sideAt s L seen 0=sideErr s none seen L:=by simp [sideAt]
theorem sideAt_step {s:Int} {L:List Od} {seen:List Int} {j:Nat} {o:Od} (h:L[j]?=some o) :
  sideAt s L seen j=if ordErr o ≠ 0 then ordErr o else if o.side ≠ s∨(∃ q ∈ (if j=0 then none else L[j - 1]?),aheadB q o=false) then 4 else if o.id ∈ ((L.take j).map Od.id).reverse ++ seen then 6 else sideAt s L seen (j + 1):=by
 obtain ⟨h1,h2⟩:=List.getElem?_eq_some_iff.1 h
 have hd:L.drop j=o :: L.drop (j + 1):=by rw [List.drop_eq_getElem_cons h1,h2]
 have e:sideAt s L seen (j + 1)=sideErr s (some o) (o.id :: (((L.take j).map Od.id).reverse ++ seen)) (L.drop (j + 1)):=by
  unfold sideAt
  rw [if_neg (by omega),Nat.add_sub_cancel,h,List.take_add_one,h]
  simp
 rw [e]
 unfold sideAt
 rw [hd]
 rfl
theorem sideAt_end {s:Int} {L:List Od} {seen:List Int} {j:Nat} (h:L.length ≤ j):sideAt s L seen j=0:=by
 unfold sideAt;rw [List.drop_eq_nil_of_le h];rfl
def RetSide (w:World) (m k:Nat) (L:List Od) (seen:List Int) (r:Int) (e:Ending) (w':World):Prop :=
 e=.returned (.int .i64 r)∧w.grownBy w' (some m)∧(r=0→Seen w' m (k + L.length) ((L.map Od.id).reverse ++ seen))
theorem grown_below {w w1 w2:World} {m:Nat} (h:w.grownBy w1 (some m)) (hb:Below w1.heap.size w1 w2):w.grownBy w2 (some m) :=
 ⟨hb.os.trans h.os,hb.tape.trans h.tape,hb.output.trans h.output,Nat.le_trans h.size hb.size,fun i hi hn=>(hb.block i (Nat.lt_of_lt_of_le hi h.size)).trans (h.block i hi hn)⟩
theorem grown_grown {w w1 w2:World} {m:Nat} (h:w.grownBy w1 (some m)) (hg:w1.grownBy w2 (some m)):w.grownBy w2 (some m) :=
 ⟨hg.os.trans h.os,hg.tape.trans h.tape,hg.output.trans h.output,Nat.le_trans h.size hg.size,fun i hi hn=>(hg.block i (Nat.lt_of_lt_of_le hi h.size) hn).trans (h.block i hi hn)⟩
theorem rd_grown {w w1:World} {m B k n c:Nat} {A:Option Addr} {xs:List Value} (h:Rd w B k A n c xs) (hg:w.grownBy w1 (some m)) (hm:B ≤ m) (hB:B ≤ w.heap.size):Rd w1 B k A n c xs :=
 h.mono (Nat.le_refl _) fun b o hb=>World.cell?_of_block (hg.block b (by omega) (fun e=>by injection e;omega))
theorem bool_cs (b:Bool):b=false∨b=true:=by cases b <;> simp
theorem mem_or (x:Int) (l:List Int):decide (x ∈ l)=false∧x ∉ l∨decide (x ∈ l)=true∧x ∈ l:=by by_cases h:x ∈ l <;> simp [h]
set_option maxRecDepth 100000 in
set_option maxHeartbeats 4000000 in
theorem side_any (A:Option Addr) (n c:Nat) (L:List Od) (s:Int) (m k:Nat) (seen:List Int) (B:Nat) (w:World) (h:Rd w B 5 A n c (odCells L)) (hB:B ≤ m) (hs:Seen w m k seen) (hk:k ≤ 1000) (hn:n ≤ 1000) :
  Calls Try.prog 132 #[.slice A n c,.int .i64 s,.map (some m)] w (RetSide w m k L seen (sideErr s none seen L)):=by
 have hmw:=hs.lt
 have HL:=Lib.hid (rdo_len h)
 have HE:=Lib.hid (sideAt_zero s L seen)
 go_enter Try.func132,Try.ntmps132
 go_wp2_with fail
 go_loopw [12] (fun i wr=>∃ j:Nat,j ≤ n∧i=.int .i64 j∧w.grownBy wr (some m)∧Hid (Seen wr m (k + j) (((L.take j).map Od.id).reverse ++ seen))∧Hid (sideAt s L seen j=sideErr s none seen L)) (fun i _=>n - (intOf i).toNat)
 case atStart=>exact ⟨0,Nat.zero_le _,rfl,World.grownBy.refl w _,hs,HE⟩
 case round =>
  obtain ⟨j,hj,rfl,hg,HS,HT⟩:=hrel
  have hws:=hg.size
  by_cases hlt:j < n
  ·have hr:=rd_grown h hg hB (by omega)
   obtain ⟨b,o,x,rfl,hb,hx,k0,k1,k2,k3,k4⟩:=od_at hr hlt
   have HD:=Lib.hid (HT.out.symm.trans (sideAt_step hx))
   have HX:=Lib.hid hx
   have x1:b < wr.heap.size:=by omega
   clear hx
   go_wp2_with fail
   refine (ordErr_any x _).mono ?_
   rintro e w1 ⟨rfl,hb1⟩
   have hb2:Below wr.heap.size wr w1:=((Below.refl _ _).alloc (Nat.le_refl _) _).trans (hb1.mono (by simp))
   have hg1:w.grownBy w1 (some m):=grown_below hg hb2
   have Bx:=(Blk.new wr 71 #[.int .i64 x.id,.int .i64 x.acc,.int .i64 x.side,.int .i64 x.price,.int .i64 x.qty]).below hb1 (by simp)
   have hw1:wr.heap.size < w1.heap.size:=by have:=hb1.size;simp at this;omega
   have HS1:=Lib.hid (HS.out.below hb2 HS.out.lt)
   have hr1:=hr.below (hb2.mono (by omega))
   clear k0 k1 k2 k3 k4 hb1 hr
   by_cases he:ordErr x=0
   ·have HD2:=Lib.hid (HD.out.trans (if_neg (by omega)))
    obtain ⟨⟨hi1,hi2⟩,_⟩:=ordErr_ok.1 he
    have HZ:=Lib.hid he
    have he':(ordErr x != 0)=false:=by simpa using he
    clear he HD
    obtain ⟨⟨b0,b1,b2,b3,b4⟩,_⟩:=Bx.c5
    by_cases hside:x.side=s
    ·have hs':(x.side != s)=false:=by simpa using hside
     have HSD:=Lib.hid hside
     clear hside
     by_cases hj0:j=0
     ·subst hj0
      have HD4:=Lib.hid (show sideErr s none seen L=if x.id ∈ ((L.take 0).map Od.id).reverse ++ seen then 6 else sideAt s L seen (0 + 1) by
       rw [HD2.out,if_neg]
       rintro (h | ⟨q,hq,_⟩)
       ·exact h HSD.out
       ·simp at hq)
      go_wp2_with fail
      go_quiet (fail)
      obtain ⟨W',hW⟩:∃ W',W'=w1.drewN nq:=⟨_,rfl⟩
      rw [← hW]
      have hB:Below w1.heap.size w1 W':=by rw [hW];exact below_drewN (Below.refl _ _) _
      clear hW b0 b1 b2 b3 b4
      obtain ⟨⟨b0,b1,b2,b3,b4⟩,_⟩:=(Bx.below hB hw1).c5
      have HS2:=Lib.hid (HS1.out.below hB HS1.out.lt)
      have hB2:Below wr.heap.size wr W':=hb2.trans (hB.mono (by omega))
      have hg3:w.grownBy W' (some m):=grown_below hg hb2 |> fun h=>grown_below h hB
      have hl:=HS2.out.look x.id (by omega)
      rcases mem_or x.id (((L.take (0)).map Od.id).reverse ++ seen) with ⟨hm1,hm2⟩ | ⟨hm1,hm2⟩
      ·obtain ⟨w2,hrun,hs2,hg2⟩:=HS2.out.put x.id (by omega) (by unfold maxLen;omega)
       have HS3:=Lib.hid (show Seen w2 m (k + (0 + 1)) (((L.take (0 + 1)).map Od.id).reverse ++ seen) by
        rw [List.take_add_one,HX.out]
        have:=hs2
        simp only [Option.toList,List.map_append,List.map_cons,List.map_nil,List.reverse_append,List.reverse_cons,List.reverse_nil,List.nil_append,List.cons_append]
        rw [← Nat.add_assoc];exact this)
       have HE2:=Lib.hid (show sideAt s L seen (0 + 1)=sideErr s none seen L by rw [HD4.out,if_neg hm2])
       have hg4:w.grownBy w2 (some m):=grown_grown hg3 hg2
       rw [hm1] at hl
       clear hm1 hm2 hs2 hg2
       go_wp2_with fail
       go_roundw
       case rel=>exact ⟨0 + 1,by omega,by go_num,hg4,HS3,HE2⟩
       case measure=>simp [intOf];omega
      ·have HE2:=Lib.hid (show sideErr s none seen L=6 by rw [HD4.out,if_pos hm2])
       rw [hm1] at hl
       clear hm1 hm2
       go_wp2_with fail
       go_ret
       exact ⟨ret_ii HE2.out.symm,hg3,fun h=>by rw [HE2.out] at h;omega⟩
     ·obtain ⟨jj,rfl⟩:∃ jj,j=jj + 1:=⟨j - 1,by omega⟩
      obtain ⟨b',o',q,hA,hb',hq,q0,q1,q2,q3,q4⟩:=od_at hr1 (show jj < n by omega)
      cases hA
      have HD3:=Lib.hid (show sideErr s none seen L=if aheadB q x=false then 4 else if x.id ∈ ((L.take (jj + 1)).map Od.id).reverse ++ seen then 6 else sideAt s L seen (jj + 1 + 1) by
       rw [HD2.out]
       by_cases ha:aheadB q x=false
       ·rw [if_pos ha,if_pos (.inr ⟨q,by rw [if_neg (by omega),Nat.add_sub_cancel];exact hq,ha⟩)]
       ·rw [if_neg ha,if_neg]
        rintro (h | ⟨q',hq',h⟩)
        ·exact h HSD.out
        ·rw [if_neg (by omega),Nat.add_sub_cancel,hq] at hq'
         injection hq' with hq'
         rw [hq'] at ha;exact ha h)
      clear hq
      have h11:Below w1.heap.size w1 w1:=Below.refl _ _
      have x2:b < w1.heap.size:=by omega
      have KS:Hid (∀ W,Below w1.heap.size w1 W→Below w1.heap.size w1 W∧(W.cell? ⟨wr.heap.size,0,none⟩=some (.int .i64 x.id)∧W.cell? ⟨wr.heap.size,1,none⟩=some (.int .i64 x.acc)∧W.cell? ⟨wr.heap.size,2,none⟩=some (.int .i64 x.side)∧W.cell? ⟨wr.heap.size,3,none⟩=some (.int .i64 x.price)∧W.cell? ⟨wr.heap.size,4,none⟩=some (.int .i64 x.qty)) ∧
       (W.cell? ⟨b,o + jj * 5,none⟩=some (.int .i64 q.id)∧W.cell? ⟨b,o + jj * 5 + 1,none⟩=some (.int .i64 q.acc)∧W.cell? ⟨b,o + jj * 5 + 2,none⟩=some (.int .i64 q.side)∧W.cell? ⟨b,o + jj * 5 + 3,none⟩=some (.int .i64 q.price)∧W.cell? ⟨b,o + jj * 5 + 4,none⟩=some (.int .i64 q.qty))):=by
       intro W hW
       exact ⟨hW,(Bx.below hW hw1).c5.1,(hW.cell (p:=⟨b,_,none⟩) x2).trans q0,(hW.cell (p:=⟨b,_,none⟩) x2).trans q1,(hW.cell (p:=⟨b,_,none⟩) x2).trans q2,(hW.cell (p:=⟨b,_,none⟩) x2).trans q3,(hW.cell (p:=⟨b,_,none⟩) x2).trans q4⟩
      have i1:IntKind.i64.wrap ((jj:Int) + 1 - 1)=(jj:Int):=by rw [show (jj:Int) + 1 - 1=(jj:Int) by omega];exact IntWalk.i64_in _ (by omega)
      have i2:(0:Int) ≤ (jj:Int):=by omega
      have i3:(jj:Int) < (n:Int):=by omega
      have i4:decide ((0:Int) < (jj:Int) + 1)=true:=by simp
      have i5:IntKind.i64.wrap (jj:Int)=(jj:Int):=IntWalk.i64_in _ (by omega)
      go_wp2_with fail
      go_region_held3 (fun W=>Below w1.heap.size w1 W∧(W.cell? ⟨wr.heap.size,0,none⟩=some (.int .i64 x.id)∧W.cell? ⟨wr.heap.size,1,none⟩=some (.int .i64 x.acc)∧W.cell? ⟨wr.heap.size,2,none⟩=some (.int .i64 x.side)∧W.cell? ⟨wr.heap.size,3,none⟩=some (.int .i64 x.price)∧W.cell? ⟨wr.heap.size,4,none⟩=some (.int .i64 x.qty)) ∧
       (W.cell? ⟨b,o + jj * 5,none⟩=some (.int .i64 q.id)∧W.cell? ⟨b,o + jj * 5 + 1,none⟩=some (.int .i64 q.acc)∧W.cell? ⟨b,o + jj * 5 + 2,none⟩=some (.int .i64 q.side)∧W.cell? ⟨b,o + jj * 5 + 3,none⟩=some (.int .i64 q.price)∧W.cell? ⟨b,o + jj * 5 + 4,none⟩=some (.int .i64 q.qty)))
       (first | (exact KS.out _ (by assumption)) | (exact KS.out _ (below_drew (by assumption))))
       ((first | (go_at_call 83;go_split_ands;(with_reducible refine (ahead_any q x _).mono ?_);rintro e W' ⟨rfl,hb⟩;have hB:=below_next hb (by assumption))))
      go_split_ands
      clear KS b0 b1 b2 b3 b4 q0 q1 q2 q3 q4 i1 i2 i3 i4 i5
      rcases bool_cs (aheadB q x) with ha | ha
      ·have HE2:=Lib.hid (show sideErr s none seen L=4 by rw [HD3.out,if_pos ha])
       have hg3:w.grownBy W' (some m):=grown_below hg1 hB
       rw [ha]
       go_wp2_with fail
       go_ret
       exact ⟨ret_ii HE2.out.symm,hg3,fun h=>by rw [HE2.out] at h;omega⟩
      ·have HD4:=Lib.hid (HD3.out.trans (if_neg (by rw [ha];simp)))
       rw [ha]
       have HS2:=Lib.hid (HS1.out.below hB HS1.out.lt)
       have hB2:Below wr.heap.size wr W':=hb2.trans (hB.mono (by omega))
       have hg3:w.grownBy W' (some m):=grown_below hg hb2 |> fun h=>grown_below h hB
       have hl:=HS2.out.look x.id (by omega)
       rcases mem_or x.id (((L.take (jj + 1)).map Od.id).reverse ++ seen) with ⟨hm1,hm2⟩ | ⟨hm1,hm2⟩
       ·obtain ⟨w2,hrun,hs2,hg2⟩:=HS2.out.put x.id (by omega) (by unfold maxLen;omega)
        have HS3:=Lib.hid (show Seen w2 m (k + (jj + 1 + 1)) (((L.take (jj + 1 + 1)).map Od.id).reverse ++ seen) by
         rw [List.take_add_one,HX.out]
         have:=hs2
         simp only [Option.toList,List.map_append,List.map_cons,List.map_nil,List.reverse_append,List.reverse_cons,List.reverse_nil,List.nil_append,List.cons_append]
         rw [← Nat.add_assoc];exact this)
        have HE2:=Lib.hid (show sideAt s L seen (jj + 1 + 1)=sideErr s none seen L by rw [HD4.out,if_neg hm2])
        have hg4:w.grownBy w2 (some m):=grown_grown hg3 hg2
        rw [hm1] at hl
        clear hm1 hm2 hs2 hg2
        go_wp2_with fail
        go_roundw
        case rel=>exact ⟨jj + 1 + 1,by omega,by go_num,hg4,HS3,HE2⟩
        case measure=>simp [intOf];omega
       ·have HE2:=Lib.hid (show sideErr s none seen L=6 by rw [HD4.out,if_pos hm2])
        rw [hm1] at hl
        clear hm1 hm2
        go_wp2_with fail
        go_ret
        exact ⟨ret_ii HE2.out.symm,hg3,fun h=>by rw [HE2.out] at h;omega⟩
    ·have HE2:=Lib.hid (show sideErr s none seen L=4 by rw [HD2.out,if_pos (.inl hside)])
     have hs':(x.side != s)=true:=by simpa using hside
     clear hside
     go_wp2_with fail
     go_quiet (fail)
     go_wp2_with fail
     go_ret
     exact ⟨ret_ii HE2.out.symm,grown_below hg1 (below_drewN (Below.refl _ _) _),fun h=>by rw [HE2.out] at h;omega⟩
   ·have HE2:=Lib.hid (show sideErr s none seen L=ordErr x by rw [HD.out,if_pos he])
    have HN:=Lib.hid he
    have he':(ordErr x != 0)=true:=by simpa using he
    clear he
    go_wp2_with fail
    go_ret
    exact ⟨ret_ii HE2.out.symm,hg1,fun h=>absurd (HE2.out.symm.trans h) HN.out⟩
  ·have hjn:j=n:=by omega
   have hjl:L.length=j:=by have:=HL.out;omega
   have HE2:=Lib.hid (show sideErr s none seen L=0 by rw [← HT.out,sideAt_end (by omega)])
   have HSE:=Lib.hid (show Seen wr m (k + L.length) ((L.map Od.id).reverse ++ seen) by
    have:=HS.out
    rw [← hjl,List.take_length] at this
    exact this)
   clear hjn hjl
   go_wp2_with fail
   go_ret
   exact ⟨ret_ii HE2.out.symm,hg,fun _=>HSE.out⟩
end
section
open Go.RowKit
def idxOf (p:Od→Bool) (L:List Od):Int:=match L.findIdx? p with
 | some k=>(k:Int)
 | none=>-1
theorem idxOf_found {p:Od→Bool} {L:List Od} {j:Nat} {x:Od} (hx:L[j]?=some x) (hp:p x=true) (hb:(L.take j).all (fun y=>!p y)=true):idxOf p L=j:=by
 obtain ⟨h1,h2⟩:=List.getElem?_eq_some_iff.1 hx
 have:L.findIdx? p=some j:=by
  rw [List.findIdx?_eq_some_iff_getElem]
  refine ⟨h1,by rw [h2];exact hp,fun i hi=>?_⟩
  rw [List.all_eq_true] at hb
  have:=hb L[i] (List.mem_take_iff_getElem.2 ⟨i,by omega,rfl⟩)
  simpa using this
 unfold idxOf;rw [this]
theorem idxOf_none {p:Od→Bool} {L:List Od} (hb:L.all (fun y=>!p y)=true):idxOf p L = -1:=by
 have:L.findIdx? p=none:=by
  rw [List.findIdx?_eq_none_iff]
  rw [List.all_eq_true] at hb
  intro x hx
  have:=hb x hx
  simpa using this
 unfold idxOf;rw [this]
theorem all_next {p:Od→Bool} {L:List Od} {j:Nat} {x:Od} (hx:L[j]?=some x) (hp:p x=false) (hb:(L.take j).all (fun y=>!p y)=true):(L.take (j + 1)).all (fun y=>!p y)=true:=by
 rw [List.take_add_one,hx]
 simp only [Option.toList,List.all_append,hb,List.all_cons,List.all_nil,hp];rfl
theorem idxOf_lt {p:Od→Bool} {L:List Od}:idxOf p L = -1∧L.any p=false∨(∃ k:Nat,idxOf p L=k∧k < L.length)∧L.any p=true:=by
 unfold idxOf
 cases h:L.findIdx? p with
 | none =>
  rw [List.findIdx?_eq_none_iff] at h
  exact .inl ⟨rfl,by rw [List.any_eq_false];intro x hx;rw [h x hx];simp⟩
 | some k =>
  rw [List.findIdx?_eq_some_iff_getElem] at h
  obtain ⟨h1,h2,_⟩:=h
  exact .inr ⟨⟨k,rfl,h1⟩,by rw [List.any_eq_true];exact ⟨_,List.getElem_mem h1,h2⟩⟩
def hasId (id:Int) (x:Od):Bool:=x.id == id
def aheadOf (o x:Od):Bool:=aheadB o x
set_option maxHeartbeats 400000 in
theorem has1_any (x:Od) (id:Int) (g:Nat) (w:World) (hg:g < w.heap.size) (h:w.cell? ⟨g,0,none⟩=some (.int .i64 id)) :
  Calls Try.prog 163 #[.agg #[.int .i64 x.id,.int .i64 x.acc,.int .i64 x.side,.int .i64 x.price,.int .i64 x.qty],.pointer (some ⟨g,0,none⟩)] w fun e w'=>e=.returned (.bool (hasId id x))∧Below w.heap.size w w':=by
 go_enter Try.func163,Try.ntmps163
 go_wp2_with fail
 go_ret
 exact ⟨rfl,(Below.refl _ _).alloc (Nat.le_refl _) _⟩
set_option maxHeartbeats 400000 in
theorem remove1_any (x:Od) (id:Int) (g:Nat) (w:World) (hg:g < w.heap.size) (h:w.cell? ⟨g,0,none⟩=some (.int .i64 id)) :
  Calls Try.prog 143 #[.agg #[.int .i64 x.id,.int .i64 x.acc,.int .i64 x.side,.int .i64 x.price,.int .i64 x.qty],.pointer (some ⟨g,0,none⟩)] w fun e w'=>e=.returned (.bool (hasId id x))∧Below w.heap.size w w':=by
 go_enter Try.func143,Try.ntmps143
 go_wp2_with fail
 go_ret
 exact ⟨rfl,(Below.refl _ _).alloc (Nat.le_refl _) _⟩
set_option maxHeartbeats 400000 in
theorem rest1_any (x o:Od) (g:Nat) (w:World) (hg:g < w.heap.size) (h0:w.cell? ⟨g,0,none⟩=some (.int .i64 o.id)) (h1:w.cell? ⟨g,1,none⟩=some (.int .i64 o.acc)) (h2:w.cell? ⟨g,2,none⟩=some (.int .i64 o.side)) (h3:w.cell? ⟨g,3,none⟩=some (.int .i64 o.price)) (h4:w.cell? ⟨g,4,none⟩=some (.int .i64 o.qty)) :
  Calls Try.prog 139 #[.agg #[.int .i64 x.id,.int .i64 x.acc,.int .i64 x.side,.int .i64 x.price,.int .i64 x.qty],.pointer (some ⟨g,0,none⟩)] w fun e w'=>e=.returned (.bool (aheadOf o x))∧Below w.heap.size w w':=by
 go_enter Try.func139,Try.ntmps139
 go_wp2_with fail
 refine (ahead_any o x _).mono ?_
 rintro e w1 ⟨rfl,hb1⟩
 go_wp2_with fail
 go_ret
 exact ⟨rfl,((Below.refl _ _).alloc (Nat.le_refl _) _).trans (hb1.mono (by simp))⟩
set_option maxHeartbeats 1000000 in
theorem idx_has (A:Option Addr) (n c:Nat) (L:List Od) (id:Int) (g:Nat) (B:Nat) (w:World) (h:Rd w B 5 A n c (odCells L)) (hB:B ≤ w.heap.size) (hg:g < w.heap.size) (hc:w.cell? ⟨g,0,none⟩=some (.int .i64 id)) :
  Calls Try.prog 138 #[.slice A n c,.func (.func 163) #[] #[.pointer (some ⟨g,0,none⟩)]] w fun e w'=>e=.returned (.int .i64 (idxOf (hasId id) L))∧Below w.heap.size w w':=by
 have hle:=h.le
 have hcap:=h.cap
 have HL:=Lib.hid (rdo_len h)
 unfold maxLen at hcap
 go_enter Try.func138,Try.ntmps138
 go_wp2_with fail
 go_loopw [8] (fun i wr=>∃ j:Nat,j ≤ n∧i=.int .i64 j∧Below w.heap.size w wr∧Hid ((L.take j).all (fun y=>!(hasId id) y)=true)) (fun i _=>n - (intOf i).toNat)
 case atStart=>exact ⟨0,Nat.zero_le _,rfl,Below.refl _ _,rfl⟩
 case round =>
  obtain ⟨j,hj,rfl,hbr,HP⟩:=hrel
  have hws:=hbr.size
  by_cases hlt:j < n
  ·obtain ⟨b,o',x,rfl,hb,hx,k0,k1,k2,k3,k4⟩:=od_at (h.below (hbr.mono hB)) hlt
   have x1:b < wr.heap.size:=by omega
   have HX:=Lib.hid hx
   clear hx
   go_wp2_with fail
   refine (has1_any _ _ _ _ (by omega) ((hbr.cell (p:=⟨g,0,none⟩) hg).trans hc)).mono ?_
   rintro e w1 ⟨rfl,hb1⟩
   have hb2:=hbr.trans (hb1.mono hws)
   clear hb1
   rcases bool_cs ((hasId id) x) with hp | hp
   ·have HN:=Lib.hid (all_next (p:=hasId id) HX.out hp HP.out)
    rw [hp]
    go_wp2_with fail
    go_roundw
    case rel=>exact ⟨j + 1,by omega,by go_num,hb2,HN⟩
    case measure=>simp [intOf];omega
   ·have HE:=Lib.hid (idxOf_found (p:=hasId id) HX.out hp HP.out)
    rw [hp]
    go_wp2_with fail
    go_ret
    exact ⟨ret_ii HE.out.symm,hb2⟩
  ·have hjn:j=n:=by omega
   have HE:=Lib.hid (idxOf_none (p:=hasId id) (L:=L) (by have:=HP.out;rw [hjn,List.take_of_length_le (by rw [HL.out];exact Nat.le_refl _)] at this;exact this))
   clear hjn
   go_wp2_with fail
   go_ret
   exact ⟨ret_ii HE.out.symm,hbr⟩
set_option maxHeartbeats 1000000 in
theorem idx_remove (A:Option Addr) (n c:Nat) (L:List Od) (id:Int) (g:Nat) (B:Nat) (w:World) (h:Rd w B 5 A n c (odCells L)) (hB:B ≤ w.heap.size) (hg:g < w.heap.size) (hc:w.cell? ⟨g,0,none⟩=some (.int .i64 id)) :
  Calls Try.prog 138 #[.slice A n c,.func (.func 143) #[] #[.pointer (some ⟨g,0,none⟩)]] w fun e w'=>e=.returned (.int .i64 (idxOf (hasId id) L))∧Below w.heap.size w w':=by
 have hle:=h.le
 have hcap:=h.cap
 have HL:=Lib.hid (rdo_len h)
 unfold maxLen at hcap
 go_enter Try.func138,Try.ntmps138
 go_wp2_with fail
 go_loopw [8] (fun i wr=>∃ j:Nat,j ≤ n∧i=.int .i64 j∧Below w.heap.size w wr∧Hid ((L.take j).all (fun y=>!(hasId id) y)=true)) (fun i _=>n - (intOf i).toNat)
 case atStart=>exact ⟨0,Nat.zero_le _,rfl,Below.refl _ _,rfl⟩
 case round =>
  obtain ⟨j,hj,rfl,hbr,HP⟩:=hrel
  have hws:=hbr.size
  by_cases hlt:j < n
  ·obtain ⟨b,o',x,rfl,hb,hx,k0,k1,k2,k3,k4⟩:=od_at (h.below (hbr.mono hB)) hlt
   have x1:b < wr.heap.size:=by omega
   have HX:=Lib.hid hx
   clear hx
   go_wp2_with fail
   refine (remove1_any _ _ _ _ (by omega) ((hbr.cell (p:=⟨g,0,none⟩) hg).trans hc)).mono ?_
   rintro e w1 ⟨rfl,hb1⟩
   have hb2:=hbr.trans (hb1.mono hws)
   clear hb1
   rcases bool_cs ((hasId id) x) with hp | hp
   ·have HN:=Lib.hid (all_next (p:=hasId id) HX.out hp HP.out)
    rw [hp]
    go_wp2_with fail
    go_roundw
    case rel=>exact ⟨j + 1,by omega,by go_num,hb2,HN⟩
    case measure=>simp [intOf];omega
   ·have HE:=Lib.hid (idxOf_found (p:=hasId id) HX.out hp HP.out)
    rw [hp]
    go_wp2_with fail
    go_ret
    exact ⟨ret_ii HE.out.symm,hb2⟩
  ·have hjn:j=n:=by omega
   have HE:=Lib.hid (idxOf_none (p:=hasId id) (L:=L) (by have:=HP.out;rw [hjn,List.take_of_length_le (by rw [HL.out];exact Nat.le_refl _)] at this;exact this))
   clear hjn
   go_wp2_with fail
   go_ret
   exact ⟨ret_ii HE.out.symm,hbr⟩
set_option maxHeartbeats 1000000 in
theorem idx_rest (A:Option Addr) (n c:Nat) (L:List Od) (o:Od) (g:Nat) (B:Nat) (w:World) (h:Rd w B 5 A n c (odCells L)) (hB:B ≤ w.heap.size) (hg:g < w.heap.size) (hc:(w.cell? ⟨g,0,none⟩=some (.int .i64 o.id)∧w.cell? ⟨g,1,none⟩=some (.int .i64 o.acc)∧w.cell? ⟨g,2,none⟩=some (.int .i64 o.side)∧w.cell? ⟨g,3,none⟩=some (.int .i64 o.price)∧w.cell? ⟨g,4,none⟩=some (.int .i64 o.qty))) :
  Calls Try.prog 138 #[.slice A n c,.func (.func 139) #[] #[.pointer (some ⟨g,0,none⟩)]] w fun e w'=>e=.returned (.int .i64 (idxOf (aheadOf o) L))∧Below w.heap.size w w':=by
 have hle:=h.le
 have hcap:=h.cap
 have HL:=Lib.hid (rdo_len h)
 unfold maxLen at hcap
 go_enter Try.func138,Try.ntmps138
 go_wp2_with fail
 go_loopw [8] (fun i wr=>∃ j:Nat,j ≤ n∧i=.int .i64 j∧Below w.heap.size w wr∧Hid ((L.take j).all (fun y=>!(aheadOf o) y)=true)) (fun i _=>n - (intOf i).toNat)
 case atStart=>exact ⟨0,Nat.zero_le _,rfl,Below.refl _ _,rfl⟩
 case round =>
  obtain ⟨j,hj,rfl,hbr,HP⟩:=hrel
  have hws:=hbr.size
  by_cases hlt:j < n
  ·obtain ⟨b,o',x,rfl,hb,hx,k0,k1,k2,k3,k4⟩:=od_at (h.below (hbr.mono hB)) hlt
   have x1:b < wr.heap.size:=by omega
   have HX:=Lib.hid hx
   clear hx
   go_wp2_with fail
   refine (rest1_any _ o _ _ (by omega) ((hbr.cell (p:=⟨g,_,none⟩) hg).trans hc.1) ((hbr.cell (p:=⟨g,_,none⟩) hg).trans hc.2.1) ((hbr.cell (p:=⟨g,_,none⟩) hg).trans hc.2.2.1) ((hbr.cell (p:=⟨g,_,none⟩) hg).trans hc.2.2.2.1) ((hbr.cell (p:=⟨g,_,none⟩) hg).trans hc.2.2.2.2)).mono ?_
   rintro e w1 ⟨rfl,hb1⟩
   have hb2:=hbr.trans (hb1.mono hws)
   clear hb1
   rcases bool_cs ((aheadOf o) x) with hp | hp
   ·have HN:=Lib.hid (all_next (p:=aheadOf o) HX.out hp HP.out)
    rw [hp]
    go_wp2_with fail
    go_roundw
    case rel=>exact ⟨j + 1,by omega,by go_num,hb2,HN⟩
    case measure=>simp [intOf];omega
   ·have HE:=Lib.hid (idxOf_found (p:=aheadOf o) HX.out hp HP.out)
    rw [hp]
    go_wp2_with fail
    go_ret
    exact ⟨ret_ii HE.out.symm,hb2⟩
  ·have hjn:j=n:=by omega
   have HE:=Lib.hid (idxOf_none (p:=aheadOf o) (L:=L) (by have:=HP.out;rw [hjn,List.take_of_length_le (by rw [HL.out];exact Nat.le_refl _)] at this;exact this))
   clear hjn
   go_wp2_with fail
   go_ret
   exact ⟨ret_ii HE.out.symm,hbr⟩
set_option maxHeartbeats 400000 in
theorem contains_has (A:Option Addr) (n c:Nat) (L:List Od) (id:Int) (g:Nat) (B:Nat) (w:World) (h:Rd w B 5 A n c (odCells L)) (hB:B ≤ w.heap.size) (hg:g < w.heap.size) (hc:w.cell? ⟨g,0,none⟩=some (.int .i64 id)) :
  Calls Try.prog 118 #[.slice A n c,.func (.func 163) #[] #[.pointer (some ⟨g,0,none⟩)]] w fun e w'=>e=.returned (.bool (L.any (hasId id)))∧Below w.heap.size w w':=by
 have HI:=Lib.hid (idxOf_lt (p:=hasId id) (L:=L))
 go_enter Try.func118,Try.ntmps118
 go_wp2_with fail
 refine (idx_has A n c L id g B _ h hB hg hc).mono ?_
 rintro e w1 ⟨rfl,hb1⟩
 rcases HI.out with ⟨h1,h2⟩ | ⟨⟨k,h1,_⟩,h2⟩
 ·have H2:=Lib.hid h2
  rw [h1]
  clear h1 h2
  go_wp2_with fail
  go_ret
  exact ⟨ret_bb H2.out.symm,hb1⟩
 ·have H2:=Lib.hid h2
  rw [h1]
  clear h1 h2
  go_wp2_with fail
  go_ret
  exact ⟨ret_bb H2.out.symm,hb1⟩
end
section
open Go.RowKit
set_option maxHeartbeats 400000 in
theorem clone_ods (A:Option Addr) (n c:Nat) (xs:List Value) (B:Nat) (w:World) (h:Rd w B 5 A n c xs) (h1:∀ u ∈ xs,u.oneCell'=true) (hB:B ≤ w.heap.size) (hb:n * 40 ≤ 140737488355328) :
  Calls Try.prog 66 #[.slice A n c] w (RetRow w 71 5 n xs):=by
 have q:∀ (w:World) (a:Option Addr) (n c n' c':Nat),(binOp .eql 60 (.slice a n c) (.slice none n' c')).run Try.prog w=.ok (.bool a.isNone) w:=fun w a n c n' c'=>Lib.run_eql_slice_nil w _ _ a n c n' c' Try.underlying60
 cases A with
 | none =>
  have h0:=h.nil rfl
  have hle:=h.le
  obtain rfl:n=0:=by omega
  have hx:xs = []:=List.eq_nil_of_length_eq_zero (by simpa using h.len)
  subst hx h0
  go_enter Try.func66,Try.ntmps66
  go_wp2_with fail
  go_ret
  exact ⟨_,rfl,World.ownsRow_nil _ _ _ _,Below.refl _ _⟩
 | some ad =>
  have HR:=Lib.hid h
  have hle:=h.le
  have hcap:=h.cap
  clear h
  go_enter Try.func66,Try.ntmps66
  go_wp2_with (at_builtin;refine wpList_app rfl _ _ _ rfl w.heap.size _ _ _ elem_od _ _ _ rfl (World.ownsRow_made w #[] 0 (Nat.le_refl _) (Nat.zero_le _) rfl) B (some ad) n c xs rfl (HR.out.alloc hB _) h1 (by simp only [maxLen] at hcap ⊢;omega) (by omega) (by simp) ?_;intro v' w' hown hbel hg _)
  go_ret
  exact ⟨_,rfl,by simpa using hown,((Below.refl _ _).alloc (Nat.le_refl _) _).trans hbel⟩
theorem fieldsOf_of {P:Program} {t:TypeId} {fs:Array Field} (h:P.underlying t=some (.struct fs)):P.fieldsOf t=fs:=by unfold Program.fieldsOf;rw [h]
theorem run_part_int {P:Program} {t:TypeId} {k:IntKind} (h:P.underlying t=some (.int k)) (cs:Array Value) (off:Nat) (v:Value) (hv:cs[off]?=some v) (w:World):(part t cs off).run P w=.ok v w:=by
 simp [part,isAgg,run_underlying h,Result.andThen,hv]
theorem eqIn_od (a b:Od) (w:World):(Op.equalIn 10000 71 (.agg #[.int .i64 a.id,.int .i64 a.acc,.int .i64 a.side,.int .i64 a.price,.int .i64 a.qty]) (.agg #[.int .i64 b.id,.int .i64 b.acc,.int .i64 b.side,.int .i64 b.price,.int .i64 b.qty])).run Try.prog w=.ok (sameOd a b) w:=by
 rw [run_equalIn_struct w 9999 _ _ _ (by rw [fieldsOf_of Try.underlying71];exact Try.underlying71) (by kernel_rfl),fieldsOf_of Try.underlying71]
 have hi:=Try.underlying3
 have p0:∀ (x0 x1 x2 x3 x4:Int) w,(part 3 #[.int .i64 x0,.int .i64 x1,.int .i64 x2,.int .i64 x3,.int .i64 x4] 0).run Try.prog w=.ok (.int .i64 x0) w:=fun _ _ _ _ _ w=>run_part_int hi _ 0 _ rfl w
 have p1:∀ (x0 x1 x2 x3 x4:Int) w,(part 3 #[.int .i64 x0,.int .i64 x1,.int .i64 x2,.int .i64 x3,.int .i64 x4] 1).run Try.prog w=.ok (.int .i64 x1) w:=fun _ _ _ _ _ w=>run_part_int hi _ 1 _ rfl w
 have p2:∀ (x0 x1 x2 x3 x4:Int) w,(part 3 #[.int .i64 x0,.int .i64 x1,.int .i64 x2,.int .i64 x3,.int .i64 x4] 2).run Try.prog w=.ok (.int .i64 x2) w:=fun _ _ _ _ _ w=>run_part_int hi _ 2 _ rfl w
 have p3:∀ (x0 x1 x2 x3 x4:Int) w,(part 3 #[.int .i64 x0,.int .i64 x1,.int .i64 x2,.int .i64 x3,.int .i64 x4] 3).run Try.prog w=.ok (.int .i64 x3) w:=fun _ _ _ _ _ w=>run_part_int hi _ 3 _ rfl w
 have p4:∀ (x0 x1 x2 x3 x4:Int) w,(part 3 #[.int .i64 x0,.int .i64 x1,.int .i64 x2,.int .i64 x3,.int .i64 x4] 4).run Try.prog w=.ok (.int .i64 x4) w:=fun _ _ _ _ _ w=>run_part_int hi _ 4 _ rfl w
 have he:=fun (x y:Int) w=>run_equalIn_int w 9998 3 .i64 .i64 x y hi
 simp only [Op.eqFields]
 rw [if_pos (by decide),if_pos (by decide),if_pos (by decide),if_pos (by decide),if_pos (by decide)]
 simp only [Sem.run_bind,p0,p1,p2,p3,p4,Result.andThen_ok,he,Sem.run_ite,Sem.run_pure]
 unfold sameOd
 rw [show (a.id == b.id)=decide (a.id=b.id) from rfl,show (a.acc == b.acc)=decide (a.acc=b.acc) from rfl,show (a.side == b.side)=decide (a.side=b.side) from rfl,show (a.price == b.price)=decide (a.price=b.price) from rfl,show (a.qty == b.qty)=decide (a.qty=b.qty) from rfl]
 cases decide (a.id=b.id) <;> cases decide (a.acc=b.acc) <;> cases decide (a.side=b.side) <;> cases decide (a.price=b.price) <;> cases decide (a.qty=b.qty) <;> rfl
theorem run_neq_od (a b:Od) (w:World):(binOp .neq 71 (.agg #[.int .i64 a.id,.int .i64 a.acc,.int .i64 a.side,.int .i64 a.price,.int .i64 a.qty]) (.agg #[.int .i64 b.id,.int .i64 b.acc,.int .i64 b.side,.int .i64 b.price,.int .i64 b.qty])).run Try.prog w=.ok (.bool (!sameOd a b)) w:=by
 rw [run_neq_struct,eqIn_od];rfl
instance:DecidableEq Od:=fun _ _=>decidable_of_iff _ sameOd_iff
def sameOds (L M:List Od):Bool:=decide (L=M)
theorem sameOds_len {L M:List Od} (h:L.length ≠ M.length):sameOds L M=false:=by
 unfold sameOds;exact decide_eq_false fun e=>h (by rw [e])
theorem sameOds_at {L M:List Od} {j:Nat} {x y:Od} (hx:L[j]?=some x) (hy:M[j]?=some y) (h:sameOd x y=false):sameOds L M=false:=by
 unfold sameOds
 refine decide_eq_false fun e=>?_
 subst e
 rw [hx] at hy;injection hy with hy
 rw [sameOd_iff.2 hy] at h;cases h
theorem take_nextO {L M:List Od} {j:Nat} {x y:Od} (hx:L[j]?=some x) (hy:M[j]?=some y) (h:sameOd x y=true) (ht:L.take j=M.take j):L.take (j + 1)=M.take (j + 1):=by
 rw [List.take_add_one,List.take_add_one,hx,hy,ht,sameOd_iff.1 h]
set_option maxHeartbeats 1000000 in
theorem equal_ods (A A':Option Addr) (n c n' c':Nat) (L M:List Od) (B:Nat) (w:World) (h:Rd w B 5 A n c (odCells L)) (h':Rd w B 5 A' n' c' (odCells M)) (hB:B ≤ w.heap.size) :
  Calls Try.prog 141 #[.slice A n c,.slice A' n' c'] w fun e w'=>e=.returned (.bool (sameOds L M))∧Below w.heap.size w w':=by
 have hle:=h.le
 have hcap:=h.cap
 have hle':=h'.le
 have hcap':=h'.cap
 have HL:=Lib.hid (rdo_len h)
 have HM:=Lib.hid (rdo_len h')
 have q:=run_neq_od
 unfold maxLen at hcap hcap'
 by_cases hnn:n=n'
 ·subst hnn
  go_enter Try.func141,Try.ntmps141
  go_wp2_with fail
  go_loopw [13] (fun i wr=>∃ j:Nat,j ≤ n∧i=.int .i64 j∧Below w.heap.size w wr∧Hid (L.take j=M.take j)) (fun i _=>n - (intOf i).toNat)
  case atStart=>exact ⟨0,Nat.zero_le _,rfl,Below.refl _ _,Lib.hid (by simp)⟩
  case round =>
   obtain ⟨j,hj,rfl,hbr,HP⟩:=hrel
   have hws:=hbr.size
   by_cases hlt:j < n
   ·obtain ⟨b,o,x,rfl,hb,hx,k0,k1,k2,k3,k4⟩:=od_at (h.below (hbr.mono hB)) hlt
    obtain ⟨b',o',y,rfl,hb',hy,l0,l1,l2,l3,l4⟩:=od_at (h'.below (hbr.mono hB)) hlt
    have HX:=Lib.hid hx
    have HY:=Lib.hid hy
    clear hx hy
    go_wp2_with fail
    go_region
    rcases bool_cs (sameOd x y) with hp | hp
    ·have HN:=Lib.hid (sameOds_at HX.out HY.out hp)
     rw [hp]
     go_wp2_with fail
     go_ret
     exact ⟨ret_bb HN.out.symm,(by first | exact below_drew hbr | exact below_drewN hbr _)⟩
    ·have HN:=Lib.hid (take_nextO HX.out HY.out hp HP.out)
     rw [hp]
     go_wp2_with fail
     go_roundw
     case rel=>exact ⟨j + 1,by omega,by go_num,(by first | exact below_drew hbr | exact below_drewN hbr _),HN⟩
     case measure=>simp [intOf];omega
   ·have hjn:j=n:=by omega
    have HE:=Lib.hid (show sameOds L M=true by
     have:=HP.out
     rw [hjn,List.take_of_length_le (by rw [HL.out];exact Nat.le_refl _),List.take_of_length_le (by rw [HM.out];exact Nat.le_refl _)] at this
     exact decide_eq_true this)
    clear hjn
    go_wp2_with fail
    go_ret
    exact ⟨ret_bb HE.out.symm,hbr⟩
 ·have HE:=Lib.hid (sameOds_len (L:=L) (M:=M) (by rw [HL.out,HM.out];exact hnn))
  go_enter Try.func141,Try.ntmps141
  go_wp2_with fail
  go_ret
  exact ⟨ret_bb HE.out.symm,Below.refl _ _⟩
end
section
open Go.RowKit
theorem app_zeros {P:Program} {t e tn k bytes:Nat} {kn:IntKind} (E:Elem P t e k bytes) (htn:P.underlying tn=some (.int kn)) (w:World) (n:Nat) (h0:0 < n) (h48:n * bytes ≤ 140737488355328) (hn:n ≤ maxLen) :
  ∃ c cur,(∀ ty,(Builtin.append_ #[t,tn] ty #[.slice none 0 0,.int .i64 n]).run P w=.ok (.slice (some ⟨w.heap.size,0,none⟩) n c) (w.drew.alloc (.cells cur e)))∧n ≤ c∧c ≤ maxLen∧cur.size=c * k:=by
 obtain ⟨i,z,hi,hz,hk,hb,hzk⟩:=E.hi
 have hr:=fun ty=>Lib.run_append_nil_zeros (P:=P) w t tn ty e i z .i64 kn E.ht htn hi hz n h0 (by rw [hk];exact E.pos) (by unfold maxLen at hn;omega) (by rw [hb];omega)
 refine ⟨_,_,hr,grownCap_ge _ _ _ _,grownCap_le_maxLen _ _ _ _ hn,?_⟩
 have:=grownCap_ge w n 0 e
 simp only [Array.size_append,size_zeroCells,hzk,← Nat.add_mul]
 rw [Nat.add_sub_cancel' this]
set_option maxHeartbeats 400000 in
set_option maxRecDepth 100000 in
theorem grow_nil (n:Nat) (hn:n * 40 ≤ 140737488355328) (w:World) :
  Calls Try.prog 133 #[.slice none 0 0,.int .i64 n] w (RetRow w 71 5 0 []):=by
 have hm:n ≤ maxLen:=by simp only [maxLen];omega
 by_cases h0:n=0
 ·subst h0
  go_enter Try.func133,Try.ntmps133
  go_wp2_with fail
  go_ret
  exact ⟨_,rfl,World.ownsRow_nil _ _ _ _,Below.refl _ _⟩
 ·obtain ⟨c,cur,hr,hc1,hc2,hc3⟩:=app_zeros (P:=Try.prog) elem_od Try.underlying3 w n (by omega) hn hm
  have HR:=Lib.hid hr
  clear hr
  go_enter Try.func133,Try.ntmps133
  go_wp2_with (at_builtin;refine Lib.wpList_append_run _ rfl _ _ _ _ rfl _ _ rfl rfl _ _ (HR.out _) ?_)
  go_ret
  exact ⟨_,rfl,World.ownsRow_made _ _ _ (Nat.le_refl _) hc2 hc3,(below_drew (Below.refl _ _)).alloc (Nat.le_refl _) _⟩
set_option maxHeartbeats 2000000 in
set_option maxRecDepth 100000 in
theorem concat_ods (A A':Option Addr) (n c n' c':Nat) (L M:List Od) (B:Nat) (w:World) (h:Rd w B 5 A n c (odCells L)) (h':Rd w B 5 A' n' c' (odCells M)) (hB:B ≤ w.heap.size)
  (g:Nat) (hg:g < w.heap.size) (c0:w.cell? ⟨g,0,none⟩=some (.slice A n c)) (c1:w.cell? ⟨g,1,none⟩=some (.slice A' n' c')) (hb:(n + n') * 40 ≤ 140737488355328) :
  Calls Try.prog 63 #[.slice (some ⟨g,0,none⟩) 2 2] w (RetRow w 71 5 (n + n') (odCells (L ++ M))):=by
 have HR:=Lib.hid h
 have HR':=Lib.hid h'
 have hm:n + n' ≤ maxLen:=by simp only [maxLen];omega
 have HM:=Lib.hid hm
 clear h h' hm
 go_enter Try.func63,Try.ntmps63
 go_wp2_with fail
 go_loopw [11,3] (fun i s wr=>w=wr∧(i=.int .i64 0∧s=.int .i64 0∨i=.int .i64 1∧s=.int .i64 n∨i=.int .i64 2∧s=.int .i64 (n + n':Nat))) (fun i _ _=>2 - (intOf i).toNat)
 case atStart=>exact ⟨rfl,.inl ⟨rfl,rfl⟩⟩
 case round =>
  obtain ⟨rfl,⟨rfl,rfl⟩ | ⟨rfl,rfl⟩ | ⟨rfl,rfl⟩⟩:=hrel
  ·go_wp2_with fail
   go_roundw
   case rel=>exact ⟨(by first | rfl | trivial),.inr (.inl ⟨rfl,by go_num⟩)⟩
   case measure=>simp [intOf]
  ·go_wp2_with fail
   go_roundw
   case rel=>exact ⟨(by first | rfl | trivial),.inr (.inr ⟨rfl,by go_num⟩)⟩
   case measure=>simp [intOf]
  ·go_wp2_with fail
   refine (grow_nil (n + n') hb _).mono ?_
   rintro e w1 ⟨v,rfl,hown,hbl⟩
   have HO:=Lib.hid hown
   clear hown
   go_wp2_with fail
   go_loopw [27,6] (fun i v wr=>Below w.heap.size w wr∧(i=.int .i64 0∧Hid (wr.ownsRow w.heap.size 71 5 v 0 [])∨i=.int .i64 1∧Hid (wr.ownsRow w.heap.size 71 5 v n (odCells L))∨i=.int .i64 2∧Hid (wr.ownsRow w.heap.size 71 5 v (n + n') (odCells (L ++ M))))) (fun i _ _=>2 - (intOf i).toNat)
   case atStart=>exact ⟨hbl,.inl ⟨rfl,HO⟩⟩
   case round =>
    obtain ⟨hbr,⟨rfl,HV⟩ | ⟨rfl,HV⟩ | ⟨rfl,HV⟩⟩:=hrel
    ·have d0:=(hbr.cell (p:=⟨g,0,none⟩) hg).trans c0
     go_wp2_with (at_builtin;refine wpList_app rfl _ _ _ rfl w.heap.size _ _ _ elem_od _ _ _ rfl HV.out B A n c (odCells L) rfl (HR.out.below (hbr.mono hB)) (odCells_one _) (by have:=HM.out;omega) (by omega) hbr.size ?_;intro v' w' hown' hbel' _ _)
     have HO':=Lib.hid (by simpa using hown')
     go_roundw
     case rel=>exact ⟨hbr.trans hbel',.inr (.inl ⟨rfl,HO'⟩)⟩
     case measure=>simp [intOf]
    ·have d0:=(hbr.cell (p:=⟨g,1,none⟩) hg).trans c1
     go_wp2_with (at_builtin;refine wpList_app rfl _ _ _ rfl w.heap.size _ _ _ elem_od _ _ _ rfl HV.out B A' n' c' (odCells M) rfl (HR'.out.below (hbr.mono hB)) (odCells_one _) (by have:=HM.out;omega) (by omega) hbr.size ?_;intro v' w' hown' hbel' _ _)
     rw [← odCells_app] at hown'
     have HO':=Lib.hid hown'
     go_roundw
     case rel=>exact ⟨hbr.trans hbel',.inr (.inr ⟨rfl,HO'⟩)⟩
     case measure=>simp [intOf]
    ·go_wp2_with fail
     go_ret
     exact ⟨_,rfl,HV.out,hbr⟩
end
end Go.Proofs.Ytockodmbhnlheaa
