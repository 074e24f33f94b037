/-
  PLAIN LEAN, no program in sight: chapter 7: venues, commands, events; what a command does, as the code goes.
-/
import Derived.Test.YtockodmbhnlheaaDoorFairPure
import Derived.Test.YtockodmbhnlheaaDoorRiskLaws
import Derived.Test.YtockodmbhnlheaaDoorFundPure
namespace Go.Proofs.YtockodmbhnlheaaDoor

structure Vn where
  accs : List Ac
  mks : List Mk
  ins : Int
  resid : Int
  next : Int
  inn : Int
  out : Int
structure Cm where
  kind : Int
  acc : Int
  market : Int
  n : Int
  o : Od
  how : Int
  reduce : Bool
structure Ev where
  kind : Int
  err : Int
  market : Int
  id : Int
  acc : Int
  n : Int
  f : Fl
structure Dk where
  v : Vn
  ev : List Ev
def zeroFl : Fl := ⟨0, 0, 0, 0, 0, 0, 0⟩
def zeroVn : Vn := ⟨[], [], 0, 0, 0, 0, 0⟩

/-- the place of an account among those that stand in order. -/
def placeOf (L : List Ac) (id : Int) : Nat := (L.filter fun a => decide (a.id < id)).length
def thereB (L : List Ac) (id : Int) : Bool := L.any fun a => decide (a.id = id)

/-! ### the check -/
def accsErr (m : Int) : Option Int → List Ac → Int
  | _, [] => 0
  | p, a :: l => if accCheck a.id a.bal a.pos m ≠ 0 then accCheck a.id a.bal a.pos m else if (∃ q ∈ p, a.id ≤ q) then 6 else accsErr m (some a.id) l
def mksErr (L : List Ac) (next : Int) : List Mk → Int
  | [] => 0
  | m :: l => if marketErr m ≠ 0 then marketErr m else if (m.book.bids ++ m.book.asks).any (fun o => !thereB L o.acc || decide (next ≤ o.id)) then 5 else mksErr L next l
def venueErr (v : Vn) : Int :=
  if v.mks.length < 1 ∨ 2 < v.mks.length ∨ 8 < v.accs.length then 2
  else if v.ins < 0 ∨ v.resid < 0 ∨ v.next < 1 ∨ 100000 < v.next ∨ v.inn < 0 ∨ v.out < 0 ∨ isMoney v.inn = false ∨ isMoney v.out = false ∨ isMoney v.ins = false ∨ isMoney v.resid = false then 3
  else if accsErr v.mks.length none v.accs ≠ 0 then accsErr v.mks.length none v.accs
  else if v.ins + v.resid + balSum v.accs ≠ v.inn - v.out ∨ (∃ k, k < v.mks.length ∧ posSum k v.accs ≠ 0) then 4
  else mksErr v.accs v.next v.mks

/-! ### the desk at work -/
def tell (d : Dk) (x : Ev) : Dk := ⟨d.v, d.ev ++ [x]⟩
def setAcc (v : Vn) (k : Nat) (a : Ac) : Vn := { v with accs := v.accs.set k a }
def setMk (v : Vn) (k : Nat) (m : Mk) : Vn := { v with mks := v.mks.set k m }
def mkAt (v : Vn) (k : Nat) : Mk := v.mks.getD k zeroMk
def accAt (v : Vn) (k : Nat) : Ac := v.accs.getD k zeroAc
def bindE {α β : Type} (x : Except Int α) (f : α → Except Int β) : Except Int β := match x with
  | .ok a => f a
  | .error e => .error e
def okIf (e : Int) {α : Type} (x : Except Int α) : Except Int α := if e ≠ 0 then .error e else x

def tradeSide (v : Vn) (market : Nat) (who qty price fee : Int) : Except Int Vn :=
  if thereB v.accs who = false then .error 5
  else okIf (tradeOf (accAt v (placeOf v.accs who)) market qty price fee).2 (.ok (setAcc v (placeOf v.accs who) (tradeOf (accAt v (placeOf v.accs who)) market qty price fee).1))
def tradeE (v : Vn) (market : Nat) (taker maker qty price fee : Int) : Except Int Vn :=
  bindE (tradeSide v market taker qty price fee) fun v => bindE (tradeSide v market maker (-qty) price 0) fun v =>
    okIf (addAll [v.ins, fee]).2 (.ok { v with ins := (addAll [v.ins, fee]).1 })
def fillsE (market : Nat) (free : Bool) : List Fl → Dk → Except Int Dk
  | [], d => .ok d
  | f :: l, d => bindE (tradeE d.v market f.tacc f.macc (f.side * f.qty) f.price (if free then 0 else (feeOf f.qty f.price).1)) fun v =>
      fillsE market free l (tell ⟨setMk v market { mkAt v market with last := f.price }, d.ev⟩ ⟨3, 0, market, 0, 0, 0, f⟩)
def moveE (k : Nat) (n : Int) (d : Dk) : Except Int Dk :=
  okIf (addAll [(accAt d.v k).bal, n]).2 (.ok (tell ⟨setAcc d.v k { accAt d.v k with bal := (addAll [(accAt d.v k).bal, n]).1 }, d.ev⟩ ⟨5, 0, 0, 0, (accAt d.v k).id, n, zeroFl⟩))
def beginErr (v : Vn) (a : Ac) : Int :=
  if (marksOf v.mks).2 ≠ 0 then (marksOf v.mks).2
  else if (soundOf a (marksOf v.mks).1).2.2 = 0 ∧ (soundOf a (marksOf v.mks).1).1 = false then 8 else (soundOf a (marksOf v.mks).1).2.2
def insAcc (L : List Ac) (k : Nat) (a : Ac) : List Ac := L.take k ++ a :: L.drop k
def cashE (c : Cm) (d : Dk) : Except Int Dk :=
  if c.n < 1 ∨ 1000000000000 < c.n then .error 3 else if c.acc < 0 ∨ 8 ≤ c.acc then .error 5
  else if c.kind = 1 then
    okIf (addAll [d.v.inn, c.n]).2 (moveE (placeOf d.v.accs c.acc) c.n
      ⟨{ d.v with accs := if thereB d.v.accs c.acc then d.v.accs else insAcc d.v.accs (placeOf d.v.accs c.acc) ⟨c.acc, 0, List.replicate d.v.mks.length 0⟩, inn := (addAll [d.v.inn, c.n]).1 }, d.ev⟩)
  else if thereB d.v.accs c.acc = false then .error 5
  else okIf (addAll [d.v.out, c.n]).2 (bindE (moveE (placeOf d.v.accs c.acc) (-c.n) ⟨{ d.v with out := (addAll [d.v.out, c.n]).1 }, d.ev⟩) fun d' =>
    okIf (beginErr d'.v (accAt d'.v (placeOf d.v.accs c.acc))) (.ok d'))
def qtySum (l : List Fl) : Int := (l.map (·.qty)).sum
/-- what an order does behind what was checked: it comes, its fills are paid for, what is left of it goes; what rests must be had. -/
def comesE (c : Cm) (o : Od) (k mk : Nat) (d : Dk) : Except Int Dk :=
  okIf (comeOf (mkAt d.v mk).book o c.how).2.2.2 (bindE (fillsE mk false (comeOf (mkAt d.v mk).book o c.how).2.1 ⟨setMk d.v mk { mkAt d.v mk with book := (comeOf (mkAt d.v mk).book o c.how).1 }, d.ev⟩) fun d' =>
    let left := (comeOf (mkAt d.v mk).book o c.how).2.2.1
    let d2 := if 0 < left then tell d' ⟨4, 0, mk, o.id, c.acc, left, zeroFl⟩ else d'
    if c.reduce then .ok d2
    else let t := tradeOf (accAt d2.v k) mk (o.side * (o.qty - left - qtySum (comeOf (mkAt d.v mk).book o c.how).2.1)) o.price 0
      okIf t.2 (okIf (beginErr d2.v t.1) (.ok d2)))
def orderE (c : Cm) (d : Dk) : Except Int Dk :=
  let o : Od := { c.o with id := d.v.next, acc := c.acc }
  let k := placeOf d.v.accs c.acc
  let mk := c.market.toNat
  let p := (accAt d.v k).pos.getD mk 0
  if ordErr o ≠ 0 then .error (ordErr o) else if c.reduce = true ∧ c.how ≠ 2 then .error 4
  else if thereB d.v.accs c.acc = false ∨ c.market < 0 ∨ (d.v.mks.length : Int) ≤ c.market then .error 5
  else if d.v.next = 100000 then .error 7
  else if c.reduce = true ∧ 0 ≤ p * o.side then .error 12
  else comesE c (if c.reduce then { o with qty := min o.qty (max p (-p)) } else o) k mk (tell ⟨{ d.v with next := d.v.next + 1 }, d.ev⟩ ⟨2, 0, mk, o.id, c.acc, 0, zeroFl⟩)
def cancelE (c : Cm) (d : Dk) : Nat → List Mk → Except Int Dk
  | _, [] => .error 5
  | i, m :: l => if (removeOf m.book c.n).2.2 = 0 ∧ (removeOf m.book c.n).2.1.acc = c.acc then
      .ok (tell ⟨setMk d.v i { m with book := (removeOf m.book c.n).1 }, d.ev⟩ ⟨4, 0, i, (removeOf m.book c.n).2.1.id, (removeOf m.book c.n).2.1.acc, (removeOf m.book c.n).2.1.qty, zeroFl⟩)
    else cancelE c d (i + 1) l
def movedEvs : List Ac → List Ac → List Ev
  | a :: l, b :: m => (if a.bal - b.bal ≠ 0 then [⟨5, 0, 0, 0, a.id, a.bal - b.bal, zeroFl⟩] else []) ++ movedEvs l m
  | _, _ => []
def marketE (c : Cm) (d : Dk) : Except Int Dk :=
  if c.market < 0 ∨ (d.v.mks.length : Int) ≤ c.market then .error 5
  else if c.kind = 5 then (if c.n < 1 ∨ 10000 < c.n then .error 3 else .ok ⟨setMk d.v c.market.toNat { mkAt d.v c.market.toNat with index := c.n }, d.ev⟩)
  else okIf (markOf (mkAt d.v c.market.toNat)).2
    (okIf (settleOf d.v.accs c.market (markOf (mkAt d.v c.market.toNat)).1 c.n).2.2
      (okIf (addAll [d.v.resid, (settleOf d.v.accs c.market (markOf (mkAt d.v c.market.toNat)).1 c.n).2.1]).2
        (.ok ⟨{ d.v with accs := (settleOf d.v.accs c.market (markOf (mkAt d.v c.market.toNat)).1 c.n).1, resid := (addAll [d.v.resid, (settleOf d.v.accs c.market (markOf (mkAt d.v c.market.toNat)).1 c.n).2.1]).1 },
          d.ev ++ movedEvs (settleOf d.v.accs c.market (markOf (mkAt d.v c.market.toNat)).1 c.n).1 d.v.accs⟩)))
/-- without an account's orders; the events of these. -/
def notOf (id : Int) (l : List Od) : List Od := l.filter fun o => !(decide (o.acc = id))
def goneEvs (market : Nat) (id : Int) (l : List Od) : List Ev := (l.filter fun o => decide (o.acc = id)).map fun o => ⟨4, 0, market, o.id, id, o.qty, zeroFl⟩
def stripAt (id : Int) (i : Nat) (d : Dk) : Dk :=
  ⟨setMk d.v i { mkAt d.v i with book := ⟨notOf id (mkAt d.v i).book.bids, notOf id (mkAt d.v i).book.asks⟩ }, d.ev ++ goneEvs i id (mkAt d.v i).book.bids ++ goneEvs i id (mkAt d.v i).book.asks⟩
def stripFrom (id : Int) : Nat → Nat → Dk → Dk
  | 0, _, d => d
  | n + 1, i, d => stripFrom id n (i + 1) (stripAt id i d)
def strip (id : Int) (d : Dk) : Dk := stripFrom id d.v.mks.length 0 d
/-- of those with a position of a sign in a market the one that has most of it, the first of such. -/
def otherFrom (market : Nat) (side : Int) : Option (Nat × Int) → Nat → List Ac → Option (Nat × Int)
  | best, _, [] => best
  | best, i, a :: l => otherFrom market side (if 0 < a.pos.getD market 0 * side ∧ (∀ q ∈ best, q.2 < a.pos.getD market 0 * side) then some (i, a.pos.getD market 0 * side) else best) (i + 1) l
def otherOfV (v : Vn) (market : Nat) (side : Int) : Option (Nat × Int) := otherFrom market side none 0 v.accs
def closeLoop (market : Nat) (id side price : Int) : Nat → Int → Dk → Except Int Dk
  | 0, _, d => .ok d
  | fuel + 1, left, d => if left ≤ 0 then .ok d else match otherOfV d.v market side with
    | none => .error 4
    | some (i, _) =>
      let n := min left (max ((accAt d.v i).pos.getD market 0) (-(accAt d.v i).pos.getD market 0))
      bindE (tradeE d.v market id (accAt d.v i).id (side * n) price 0) fun v =>
        closeLoop market id side price fuel (left - n) (tell ⟨v, d.ev⟩ ⟨6, 0, market, 0, (accAt d.v i).id, 0, ⟨0, 0, (accAt d.v i).id, id, side, price, n⟩⟩)
def closesE (k market : Nat) (marks : List Int) (d : Dk) : Except Int Dk :=
  let a := accAt d.v k
  let p := a.pos.getD market 0
  let side : Int := if p < 0 then 1 else -1
  okIf (bankruptOf a marks market).2
    (let t := takeOf (mkAt d.v market).book ⟨100000, a.id, side, (bankruptOf a marks market).1, max p (-p)⟩
     okIf t.2.2.2.2 (bindE (fillsE market true t.2.1 ⟨setMk d.v market { mkAt d.v market with book := t.1 }, d.ev⟩) fun d =>
       closeLoop market a.id side (bankruptOf a marks market).1 t.2.2.1.toNat t.2.2.1 d))
def closeAll (k : Nat) (marks : List Int) : Nat → Nat → Dk → Except Int Dk
  | 0, _, d => .ok d
  | n + 1, i, d => if (accAt d.v k).pos.getD i 0 = 0 then closeAll k marks n (i + 1) d else bindE (closesE k i marks d) fun d => closeAll k marks n (i + 1) d
def coverE (k : Nat) (d : Dk) : Except Int Dk :=
  let n := min d.v.ins (-(accAt d.v k).bal)
  if 0 < n then moveE k n ⟨{ d.v with ins := d.v.ins - n }, d.ev⟩ else .ok d
def sweepFrom (marks : List Int) : Nat → Nat → Dk → Except Int Dk
  | 0, _, d => .ok d
  | n + 1, k, d => okIf (soundOf (accAt d.v k) marks).2.2
    (if (soundOf (accAt d.v k) marks).2.1 then sweepFrom marks n (k + 1) d
     else bindE (closeAll k marks d.v.mks.length 0 (strip (accAt d.v k).id d)) fun d => bindE (coverE k d) fun d => sweepFrom marks n (k + 1) d)
def sweepE (d : Dk) : Except Int Dk := okIf (marksOf d.v.mks).2 (sweepFrom (marksOf d.v.mks).1 d.v.accs.length 0 d)
def doesE (c : Cm) (d : Dk) : Except Int Dk :=
  if c.kind = 1 ∨ c.kind = 2 then cashE c d else if c.kind = 3 then orderE c d else if c.kind = 4 then cancelE c d 0 d.v.mks
  else if c.kind = 5 ∨ c.kind = 6 then marketE c d else if c.kind = 7 then sweepE d else .error 4
def rejEv (e : Int) : Ev := ⟨1, e, 0, 0, 0, 0, zeroFl⟩
/-- chapter 7's Do. -/
def doOf (v : Vn) (c : Cm) : Vn × List Ev × Int :=
  if venueErr v ≠ 0 then (zeroVn, [], venueErr v) else match doesE c ⟨v, []⟩ with
  | .ok d => (d.v, d.ev, 0)
  | .error e => (v, [rejEv e], 0)
def runFrom (v : Vn) (out : List (List Ev)) : List Cm → Vn × List (List Ev) × Int
  | [] => (v, out, 0)
  | c :: l => if (doOf v c).2.2 ≠ 0 then (zeroVn, [], (doOf v c).2.2) else runFrom (doOf v c).1 (out ++ [(doOf v c).2.1]) l
def runOf (v : Vn) (l : List Cm) : Vn × List (List Ev) × Int :=
  if venueErr v ≠ 0 then (zeroVn, [], venueErr v) else if 60 < l.length then (zeroVn, [], 2) else runFrom v [] l
end Go.Proofs.YtockodmbhnlheaaDoor
