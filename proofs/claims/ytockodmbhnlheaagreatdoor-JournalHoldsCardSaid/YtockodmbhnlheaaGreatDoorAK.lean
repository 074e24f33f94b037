import Derived.Test.YtockodmbhnlheaaGreatDoorAJ
import Derived.Test.YtockodmbhnlheaaGreatDoorRows
import Derived.ProofKit
import Derived.OpenShut
import Derived.SizedLaws
namespace Go.Proofs.YtockodmbhnlheaaGreatDoor
section
theorem zoz {l:List Int} (h:zde l=true) (j:Nat):-1000 ≤ l.getD j 0∧l.getD j 0 ≤ 1000:=by
 by_cases hj:j < l.length
 ·have:=ze7 h (List.getElem?_eq_getElem hj);simpa [List.getD,hj] using this
 ·simp [List.getD,hj]
end
section
structure Vn where
 accs:List Ac
 mks:List Mk
 ins:Int
 resid:Int
 next:Int
 inn:Int
 out:Int
structure Cm where
 kind:Int
 acc:Int
 market:Int
 n:Int
 o:Od
 how:Int
 reduce:Bool
structure Ev where
 kind:Int
 err:Int
 market:Int
 id:Int
 acc:Int
 n:Int
 f:Fl
structure Dk where
 v:Vn
 ev:List Ev
def zba:Fl:=⟨0,0,0,0,0,0,0⟩
def zdm:Vn:=⟨[],[],0,0,0,0,0⟩
def zam (L:List Ac) (id:Int):Nat:=(L.filter fun a=>decide (a.id < id)).length
def zas (L:List Ac) (id:Int):Bool:=L.any fun a=>decide (a.id=id)
def zbH (m:Int):Option Int→List Ac→Int
 | _,[]=>0
 | p,a :: l=>if zaj a.id a.bal a.pos m ≠ 0 then zaj a.id a.bal a.pos m else if (∃ q ∈ p,a.id ≤ q) then 6 else zbH m (some a.id) l
def zcC (L:List Ac) (next:Int):List Mk→Int
 | []=>0
 | m :: l=>if zaN m ≠ 0 then zaN m else if (m.book.bids ++ m.book.asks).any (fun o=>!zas L o.acc || decide (next ≤ o.id)) then 5 else zcC L next l
def zbi (v:Vn):Int :=
 if v.mks.length < 1∨2 < v.mks.length∨8 < v.accs.length then 2
 else if v.ins < 0∨v.resid < 0∨v.next < 1∨100000 < v.next∨v.inn < 0∨v.out < 0∨zag v.inn=false∨zag v.out=false∨zag v.ins=false∨zag v.resid=false then 3
 else if zbH v.mks.length none v.accs ≠ 0 then zbH v.mks.length none v.accs
 else if v.ins + v.resid + zbd v.accs ≠ v.inn - v.out∨(∃ k,k < v.mks.length∧za5 k v.accs ≠ 0) then 4
 else zcC v.accs v.next v.mks
def tell (d:Dk) (x:Ev):Dk:=⟨d.v,d.ev ++ [x]⟩
def zbK (v:Vn) (k:Nat) (a:Ac):Vn:={ v with accs:=v.accs.set k a }
def zaD (v:Vn) (k:Nat) (m:Mk):Vn:={ v with mks:=v.mks.set k m }
def mkAt (v:Vn) (k:Nat):Mk:=v.mks.getD k zjC
def zaR (v:Vn) (k:Nat):Ac:=v.accs.getD k zc2
def zby {α β:Type} (x:Except Int α) (f:α→Except Int β):Except Int β:=match x with
 | .ok a=>f a
 | .error e=>.error e
def okIf (e:Int) {α:Type} (x:Except Int α):Except Int α:=if e ≠ 0 then .error e else x
def zb3 (v:Vn) (market:Nat) (who qty price fee:Int):Except Int Vn :=
 if zas v.accs who=false then .error 5
 else okIf (zaZ (zaR v (zam v.accs who)) market qty price fee).2 (.ok (zbK v (zam v.accs who) (zaZ (zaR v (zam v.accs who)) market qty price fee).1))
def zcD (v:Vn) (market:Nat) (taker maker qty price fee:Int):Except Int Vn :=
 zby (zb3 v market taker qty price fee) fun v=>zby (zb3 v market maker (-qty) price 0) fun v =>
  okIf (zaB [v.ins,fee]).2 (.ok { v with ins:=(zaB [v.ins,fee]).1 })
def zbz (market:Nat) (free:Bool):List Fl→Dk→Except Int Dk
 | [],d=>.ok d
 | f :: l,d=>zby (zcD d.v market f.tacc f.macc (f.side * f.qty) f.price (if free then 0 else (zdB f.qty f.price).1)) fun v =>
   zbz market free l (tell ⟨zaD v market { mkAt v market with last:=f.price },d.ev⟩ ⟨3,0,market,0,0,0,f⟩)
def zc0 (k:Nat) (n:Int) (d:Dk):Except Int Dk :=
 okIf (zaB [(zaR d.v k).bal,n]).2 (.ok (tell ⟨zbK d.v k { zaR d.v k with bal:=(zaB [(zaR d.v k).bal,n]).1 },d.ev⟩ ⟨5,0,0,0,(zaR d.v k).id,n,zba⟩))
def zb9 (v:Vn) (a:Ac):Int :=
 if (zbG v.mks).2 ≠ 0 then (zbG v.mks).2
 else if (zbF a (zbG v.mks).1).2.2=0∧(zbF a (zbG v.mks).1).1=false then 8 else (zbF a (zbG v.mks).1).2.2
def zbZ (L:List Ac) (k:Nat) (a:Ac):List Ac:=L.take k ++ a :: L.drop k
def zcL (c:Cm) (d:Dk):Except Int Dk :=
 if c.n < 1∨1000000000000 < c.n then .error 3 else if c.acc < 0∨8 ≤ c.acc then .error 5
 else if c.kind=1 then
  okIf (zaB [d.v.inn,c.n]).2 (zc0 (zam d.v.accs c.acc) c.n
   ⟨{ d.v with accs:=if zas d.v.accs c.acc then d.v.accs else zbZ d.v.accs (zam d.v.accs c.acc) ⟨c.acc,0,List.replicate d.v.mks.length 0⟩,inn:=(zaB [d.v.inn,c.n]).1 },d.ev⟩)
 else if zas d.v.accs c.acc=false then .error 5
 else okIf (zaB [d.v.out,c.n]).2 (zby (zc0 (zam d.v.accs c.acc) (-c.n) ⟨{ d.v with out:=(zaB [d.v.out,c.n]).1 },d.ev⟩) fun d' =>
  okIf (zb9 d'.v (zaR d'.v (zam d.v.accs c.acc))) (.ok d'))
def zbg (l:List Fl):Int:=(l.map (·.qty)).sum
def zfu (c:Cm) (o:Od) (k mk:Nat) (d:Dk):Except Int Dk :=
 okIf (zcs (mkAt d.v mk).book o c.how).2.2.2 (zby (zbz mk false (zcs (mkAt d.v mk).book o c.how).2.1 ⟨zaD d.v mk { mkAt d.v mk with book:=(zcs (mkAt d.v mk).book o c.how).1 },d.ev⟩) fun d' =>
  let left:=(zcs (mkAt d.v mk).book o c.how).2.2.1
  let d2:=if 0 < left then tell d' ⟨4,0,mk,o.id,c.acc,left,zba⟩ else d'
  if c.reduce then .ok d2
  else let t:=zaZ (zaR d2.v k) mk (o.side * (o.qty - left - zbg (zcs (mkAt d.v mk).book o c.how).2.1)) o.price 0
   okIf t.2 (okIf (zb9 d2.v t.1) (.ok d2)))
def zcE (c:Cm) (d:Dk):Except Int Dk :=
 let o:Od:={ c.o with id:=d.v.next,acc:=c.acc }
 let k:=zam d.v.accs c.acc
 let mk:=c.market.toNat
 let p:=(zaR d.v k).pos.getD mk 0
 if zax o ≠ 0 then .error (zax o) else if c.reduce=true∧c.how ≠ 2 then .error 4
 else if zas d.v.accs c.acc=false∨c.market < 0∨(d.v.mks.length:Int) ≤ c.market then .error 5
 else if d.v.next=100000 then .error 7
 else if c.reduce=true∧0 ≤ p * o.side then .error 12
 else zfu c (if c.reduce then { o with qty:=min o.qty (max p (-p)) } else o) k mk (tell ⟨{ d.v with next:=d.v.next + 1 },d.ev⟩ ⟨2,0,mk,o.id,c.acc,0,zba⟩)
def zc9 (c:Cm) (d:Dk):Nat→List Mk→Except Int Dk
 | _,[]=>.error 5
 | i,m :: l=>if (zbk m.book c.n).2.2=0∧(zbk m.book c.n).2.1.acc=c.acc then
   .ok (tell ⟨zaD d.v i { m with book:=(zbk m.book c.n).1 },d.ev⟩ ⟨4,0,i,(zbk m.book c.n).2.1.id,(zbk m.book c.n).2.1.acc,(zbk m.book c.n).2.1.qty,zba⟩)
  else zc9 c d (i + 1) l
def zaW:List Ac→List Ac→List Ev
 | a :: l,b :: m=>(if a.bal - b.bal ≠ 0 then [⟨5,0,0,0,a.id,a.bal - b.bal,zba⟩] else []) ++ zaW l m
 | _,_=>[]
def zcU (c:Cm) (d:Dk):Except Int Dk :=
 if c.market < 0∨(d.v.mks.length:Int) ≤ c.market then .error 5
 else if c.kind=5 then (if c.n < 1∨10000 < c.n then .error 3 else .ok ⟨zaD d.v c.market.toNat { mkAt d.v c.market.toNat with index:=c.n },d.ev⟩)
 else okIf (za9 (mkAt d.v c.market.toNat)).2
  (okIf (zbQ d.v.accs c.market (za9 (mkAt d.v c.market.toNat)).1 c.n).2.2
   (okIf (zaB [d.v.resid,(zbQ d.v.accs c.market (za9 (mkAt d.v c.market.toNat)).1 c.n).2.1]).2
    (.ok ⟨{ d.v with accs:=(zbQ d.v.accs c.market (za9 (mkAt d.v c.market.toNat)).1 c.n).1,resid:=(zaB [d.v.resid,(zbQ d.v.accs c.market (za9 (mkAt d.v c.market.toNat)).1 c.n).2.1]).1 },
     d.ev ++ zaW (zbQ d.v.accs c.market (za9 (mkAt d.v c.market.toNat)).1 c.n).1 d.v.accs⟩)))
def zbu (id:Int) (l:List Od):List Od:=l.filter fun o=>!(decide (o.acc=id))
def zaF (market:Nat) (id:Int) (l:List Od):List Ev:=(l.filter fun o=>decide (o.acc=id)).map fun o=>⟨4,0,market,o.id,id,o.qty,zba⟩
def zcV (id:Int) (i:Nat) (d:Dk):Dk :=
 ⟨zaD d.v i { mkAt d.v i with book:=⟨zbu id (mkAt d.v i).book.bids,zbu id (mkAt d.v i).book.asks⟩ },d.ev ++ zaF i id (mkAt d.v i).book.bids ++ zaF i id (mkAt d.v i).book.asks⟩
def zc4 (id:Int):Nat→Nat→Dk→Dk
 | 0,_,d=>d
 | n + 1,i,d=>zc4 id n (i + 1) (zcV id i d)
def zcH (id:Int) (d:Dk):Dk:=zc4 id d.v.mks.length 0 d
def zdC (market:Nat) (side:Int):Option (Nat × Int)→Nat→List Ac→Option (Nat × Int)
 | best,_,[]=>best
 | best,i,a :: l=>zdC market side (if 0 < a.pos.getD market 0 * side∧(∀ q ∈ best,q.2 < a.pos.getD market 0 * side) then some (i,a.pos.getD market 0 * side) else best) (i + 1) l
def zd7 (v:Vn) (market:Nat) (side:Int):Option (Nat × Int):=zdC market side none 0 v.accs
def zbA (market:Nat) (id side price:Int):Nat→Int→Dk→Except Int Dk
 | 0,_,d=>.ok d
 | fuel + 1,left,d=>if left ≤ 0 then .ok d else match zd7 d.v market side with
  | none=>.error 4
  | some (i,_) =>
   let n:=min left (max ((zaR d.v i).pos.getD market 0) (-(zaR d.v i).pos.getD market 0))
   zby (zcD d.v market id (zaR d.v i).id (side * n) price 0) fun v =>
    zbA market id side price fuel (left - n) (tell ⟨v,d.ev⟩ ⟨6,0,market,0,(zaR d.v i).id,0,⟨0,0,(zaR d.v i).id,id,side,price,n⟩⟩)
def zce (k market:Nat) (marks:List Int) (d:Dk):Except Int Dk :=
 let a:=zaR d.v k
 let p:=a.pos.getD market 0
 let side:Int:=if p < 0 then 1 else -1
 okIf (zcd a marks market).2
  (let t:=za1 (mkAt d.v market).book ⟨100000,a.id,side,(zcd a marks market).1,max p (-p)⟩
   okIf t.2.2.2.2 (zby (zbz market true t.2.1 ⟨zaD d.v market { mkAt d.v market with book:=t.1 },d.ev⟩) fun d =>
    zbA market a.id side (zcd a marks market).1 t.2.2.1.toNat t.2.2.1 d))
def zbD (k:Nat) (marks:List Int):Nat→Nat→Dk→Except Int Dk
 | 0,_,d=>.ok d
 | n + 1,i,d=>if (zaR d.v k).pos.getD i 0=0 then zbD k marks n (i + 1) d else zby (zce k i marks d) fun d=>zbD k marks n (i + 1) d
def zdn (k:Nat) (d:Dk):Except Int Dk :=
 let n:=min d.v.ins (-(zaR d.v k).bal)
 if 0 < n then zc0 k n ⟨{ d.v with ins:=d.v.ins - n },d.ev⟩ else .ok d
def zbL (marks:List Int):Nat→Nat→Dk→Except Int Dk
 | 0,_,d=>.ok d
 | n + 1,k,d=>okIf (zbF (zaR d.v k) marks).2.2
  (if (zbF (zaR d.v k) marks).2.1 then zbL marks n (k + 1) d
   else zby (zbD k marks d.v.mks.length 0 (zcH (zaR d.v k).id d)) fun d=>zby (zdn k d) fun d=>zbL marks n (k + 1) d)
def zed (d:Dk):Except Int Dk:=okIf (zbG d.v.mks).2 (zbL (zbG d.v.mks).1 d.v.accs.length 0 d)
def zcM (c:Cm) (d:Dk):Except Int Dk :=
 if c.kind=1∨c.kind=2 then zcL c d else if c.kind=3 then zcE c d else if c.kind=4 then zc9 c d 0 d.v.mks
 else if c.kind=5∨c.kind=6 then zcU c d else if c.kind=7 then zed d else .error 4
def zlY (e:Int):Ev:=⟨1,e,0,0,0,0,zba⟩
def doOf (v:Vn) (c:Cm):Vn × List Ev × Int :=
 if zbi v ≠ 0 then (zdm,[],zbi v) else match zcM c ⟨v,[]⟩ with
 | .ok d=>(d.v,d.ev,0)
 | .error e=>(v,[zlY e],0)
def zcN (v:Vn) (out:List (List Ev)):List Cm→Vn × List (List Ev) × Int
 | []=>(v,out,0)
 | c :: l=>if (doOf v c).2.2 ≠ 0 then (zdm,[],(doOf v c).2.2) else zcN (doOf v c).1 (out ++ [(doOf v c).2.1]) l
def zdV (v:Vn) (l:List Cm):Vn × List (List Ev) × Int :=
 if zbi v ≠ 0 then (zdm,[],zbi v) else if 60 < l.length then (zdm,[],2) else zcN v [] l
end
section
open Go.RowKit
set_option maxHeartbeats 1000000 in
theorem zs0 (q p:Int) (w:World) :
  Calls Tryz.prog 131 #[.int .i64 q,.int .i64 p] w fun e w'=>e=.returned (.tuple #[.int .i64 (zdB q p).1,.int .i64 (zdB q p).2])∧w=w':=by
 rcases zcI q p with h | ⟨h,_,_,h1,h2⟩
 ·have HE:=zi (show (zdB q p).1=0∧(zdB q p).2=3 by unfold zdB;rw [h];exact ⟨rfl,rfl⟩);have HW:=zi h;clear h;go_enter Tryz.func131,Tryz.ntmps131
  go_wp2_with fail
  refine (zc3 _ _ _).mono ?_;rintro e w' ⟨rfl,rfl⟩;rw [HW.out];go_wp2_with fail
  go_ret2
  exact ⟨by rw [HE.out.1,HE.out.2];rfl,rfl⟩
 ·obtain ⟨m,hm,hm1⟩:∃ m,max (q * p) (-(q * p))=m∧(q * p < -(q * p)∧m = -(q * p)∨-(q * p) ≤ q * p∧m=q * p):=⟨_,rfl,by omega⟩;have HE:=zi (show zdB q p=zbY m 5 10000 true by unfold zdB;rw [h,if_neg (by simp)];show zbY (max (q * p) (-(q * p))) 5 10000 true=_;rw [hm]);have HW:=zi h;clear h hm;rcases hm1 with ⟨h3,rfl⟩ | ⟨h3,rfl⟩;all_goals
   go_enter Tryz.func131,Tryz.ntmps131
   go_wp2_with fail
   refine (zc3 _ _ _).mono ?_;rintro e w' ⟨rfl,rfl⟩;rw [HW.out];go_wp2_with fail
   refine (zhC _ _ _ _ _).mono ?_;rintro e w' ⟨rfl,rfl⟩;go_wp2_with fail
   go_ret2
   exact ⟨by rw [HE.out];rfl,rfl⟩
end
section
open Go.RowKit
theorem zrw {w w1:World} {o:Obj} (hb:Below (w.alloc o).heap.size (w.alloc o) w1):w.heap.size < w1.heap.size:=by have:=hb.size;simp at this;omega
set_option maxHeartbeats 2000000 in
theorem zmc (id bal:Int) (A:Option Addr) (n c:Nat) (l:List Int) (market mark rate:Int) (B:Nat) (w:World) (h:Rd w B 1 A n c (ints l)) (hB:B ≤ w.heap.size) :
  Calls Tryz.prog 139 #[.agg #[.int .i64 id,.int .i64 bal,.slice A n c],.int .i64 market,.int .i64 mark,.int .i64 rate] w fun e w' =>
   e=.returned (.tuple #[.int .i64 (zdl id bal l market mark rate).1,.int .i64 (zdl id bal l market mark rate).2])∧Below w.heap.size w w':=by
 have hl:=h.ofInts;have hle:=h.le;have hcap:=h.cap;unfold maxLen at hcap;have HL:=zi hl;by_cases h0:zaj id bal l n=0
 ·obtain ⟨k1,k2,_,k4,k5⟩:=zaw h0;have HU:Hid (zdl id bal l market mark rate=if market < 0∨(n:Int) ≤ market then (0,5)
    else if rate < -100∨100 < rate then (0,3)
    else if (zaC (l.getD market.toNat 0) mark).2 ≠ 0 then (0,(zaC (l.getD market.toNat 0) mark).2)
    else zbY (zaC (l.getD market.toNat 0) mark).1 rate 10000 true):=by
   show zdl id bal l market mark rate=_;unfold zdl;rw [hl,if_neg (by rw [h0];simp)]
  have HC:=zi h0;clear h0 hl;by_cases h1:market < 0∨(n:Int) ≤ market
  ·have HE:=zi (HU.out.trans (if_pos h1));rcases h1 with h1 | h1;all_goals
    go_enter Tryz.func139,Tryz.ntmps139
    go_wp2_with fail
    refine (zbn _ _ _ _ _ _ _ _ _ (h.alloc hB _) (by simp;omega)).mono ?_;rintro e w1 ⟨rfl,hb1⟩;rw [HC.out];obtain ⟨⟨c0,c1,c2⟩,_⟩:=((Blk.new w 78 #[.int .i64 id,.int .i64 bal,.slice A n c]).below hb1 (by simp)).c3;go_wp2_with fail
    go_ret2
    exact ⟨za6 (by rw [HE.out]),((Below.refl _ _).alloc (zl _) _).trans (hb1.mono (by simp))⟩
  ·have HU2:=zi (HU.out.trans (if_neg h1));obtain ⟨mk,rfl⟩:∃ mk:Nat,market=(mk:Int):=⟨market.toNat,by omega⟩;have hmk:mk < n:=by omega
   obtain ⟨b,o,rfl,hb,z,hz,hc⟩:=h.int hmk;have hbw:b < w.heap.size:=by omega
   have hgz:l.getD ((mk:Int)).toNat 0=z:=by simp [List.getD,hz]
   rw [hgz] at HU2;have hzb:=ze7 k5 hz;clear h1 hz hgz;by_cases h2:rate < -100∨100 < rate
   ·have HE:=zi (HU2.out.trans (if_pos h2));clear HU HU2;rcases h2 with h2 | h2;all_goals
     go_enter Tryz.func139,Tryz.ntmps139
     go_wp2_with fail
     refine (zbn _ _ _ _ _ _ _ _ _ (h.alloc hB _) (by simp;omega)).mono ?_;rintro e w1 ⟨rfl,hb1⟩;rw [HC.out];obtain ⟨⟨c0,c1,c2⟩,_⟩:=((Blk.new w 78 #[.int .i64 id,.int .i64 bal,.slice (some ⟨b,o,none⟩) n c]).below hb1 (by simp)).c3;go_wp2_with fail
     go_ret2
     exact ⟨za6 (by rw [HE.out]),((Below.refl _ _).alloc (zl _) _).trans (hb1.mono (by simp))⟩
   ·have HU3:=zi (HU2.out.trans (if_neg h2));have h3:-100 ≤ rate∧rate ≤ 100:=by omega
    obtain ⟨h3,h4⟩:=h3;clear HU HU2 h2;rcases zcI z mark with h5 | ⟨h5,h6,h7,h8⟩
    ·have HW:=zi h5;have HE:=zi (show zdl id bal l mk mark rate=(0,3) by rw [HU3.out,h5];rfl);clear h5;go_enter Tryz.func139,Tryz.ntmps139
     go_wp2_with fail
     refine (zbn _ _ _ _ _ _ _ _ _ (h.alloc hB _) (by simp;omega)).mono ?_;rintro e w1 ⟨rfl,hb1⟩;rw [HC.out];obtain ⟨⟨c0,c1,c2⟩,_⟩:=((Blk.new w 78 #[.int .i64 id,.int .i64 bal,.slice (some ⟨b,o,none⟩) n c]).below hb1 (by simp)).c3;have hbb:Below w.heap.size w w1:=((Below.refl _ _).alloc (zl _) _).trans (hb1.mono (by simp));have hc1:=(hbb.cell (p:=⟨b,o + mk,none⟩) hbw).trans hc;go_wp2_with fail
     refine (zc3 _ _ _).mono ?_;rintro e w' ⟨rfl,rfl⟩;rw [HW.out];go_wp2_with fail
     go_ret2
     exact ⟨za6 (by rw [HE.out]),hbb⟩
    ·have HW:=zi h5;have HE:=zi (show zdl id bal l mk mark rate=zbY (z * mark) rate 10000 true by rw [HU3.out,h5];rfl);clear h5;go_enter Tryz.func139,Tryz.ntmps139
     go_wp2_with fail
     refine (zbn _ _ _ _ _ _ _ _ _ (h.alloc hB _) (by simp;omega)).mono ?_;rintro e w1 ⟨rfl,hb1⟩;rw [HC.out];obtain ⟨⟨c0,c1,c2⟩,_⟩:=((Blk.new w 78 #[.int .i64 id,.int .i64 bal,.slice (some ⟨b,o,none⟩) n c]).below hb1 (by simp)).c3;have hbb:Below w.heap.size w w1:=((Below.refl _ _).alloc (zl _) _).trans (hb1.mono (by simp));have hc1:=(hbb.cell (p:=⟨b,o + mk,none⟩) hbw).trans hc;go_wp2_with fail
     refine (zc3 _ _ _).mono ?_;rintro e w' ⟨rfl,rfl⟩;rw [HW.out];go_wp2_with fail
     refine (zhC _ _ _ _ _).mono ?_;rintro e w' ⟨rfl,rfl⟩;go_wp2_with fail
     go_ret2
     exact ⟨za6 (by rw [HE.out]),hbb⟩
 ·have HE:=zi (show zdl id bal l market mark rate=(0,zaj id bal l n) by
   unfold zdl;rw [hl,if_pos h0])
  have h1:(zaj id bal l n != 0)=true:=by simpa using h0
  clear h0 hl;go_enter Tryz.func139,Tryz.ntmps139
  go_wp2_with fail
  refine (zbn _ _ _ _ _ _ _ _ _ (h.alloc hB _) (by simp;omega)).mono ?_;rintro e w1 ⟨rfl,hb1⟩;go_wp2_with fail
  go_ret2
  exact ⟨za6 (by rw [HE.out]),((Below.refl _ _).alloc (zl _) _).trans (hb1.mono (by simp))⟩
end
section
open Go.ChangeShapes Go.WideShapes Go.ChangeAt Go.RowKit
theorem zs1:ownKnob Tryz.prog.godebug=none:=by kernel_rfl
theorem zni:laidOutB Tryz.prog=true:=by kernel_rfl
section
variable {H:Type} {enc:TypeId × Value→H} {P:Program}
theorem zhW (hl:laidOutB P=true) {W W':World} (bel:Below W.heap.size W W'):∀ {ts:List TypeId} {vs:List Value} {ds:List (DataW H)} {p:List MemPlace},
  ts.all (fun t=>P.readableRec t && decide (t < P.types.size))=true→DataW.TrodAll enc P W 0 (fun _=>true) true ts vs ds p →
  DataW.TrodAll enc P W' 0 (fun b=>decide (b < W.heap.size)) true ts vs ds p
 | [],[],[],_,_,h=>h
 | t :: ts,v :: vs,d :: ds,ps,ht,h=>by
  obtain ⟨p,q,h1,h2,rfl⟩:=h;simp only [List.all_cons,Bool.and_eq_true,decide_eq_true_eq] at ht;obtain ⟨⟨hr,hs⟩,ht⟩:=ht;exact ⟨p,q,Below.trod hl hr hs h1 bel (by obtain ⟨m,hm⟩:=h1;exact DataW.trod_lt m _ _ _ hm),zhW hl bel ht h2,rfl⟩
 | [],[],_ :: _,_,_,h | [],_ :: _,_,_,_,h | _ :: _,[],_,_,_,h | _ :: _,_ :: _,[],_,_,h=>h.elim
theorem zfv {t:TypeId} {ts:List TypeId} {d:DataW H} {ds:List (DataW H)} (h:(DataW.weightsEach P (t :: ts) (d :: ds)).all (· ≤ reachBytes)=true) :
  (∀ x ∈ d.weights P t,x ≤ reachBytes)∧(DataW.weightsEach P ts ds).all (· ≤ reachBytes)=true:=by
 rw [show DataW.weightsEach P (t :: ts) (d :: ds)=d.weights P t ++ DataW.weightsEach P ts ds by rw [DataW.weightsEach]] at h;simp only [List.all_append,Bool.and_eq_true,List.all_eq_true,decide_eq_true_eq] at h ⊢;exact h
def zcf (z:Int):Prop:=-9223372036854775808 ≤ z∧z ≤ 9223372036854775807
theorem zjc {z:Int} (h:(Lit.int .i64 z).wf=true):zcf z:=by
 unfold zcf;exact bounds_i64 h
set_option maxRecDepth 100000 in
theorem zk0 {W:World} {base:Nat} {v:Value} {d:DataW H} {p:List MemPlace} (hv:Value.okWide Tryz.prog W .any base 3 v) (h:DataW.Trod enc Tryz.prog W 0 (fun _=>true) true 3 v d p) :
  ∃ z,v=.int .i64 z∧zcf z:=by
 obtain ⟨z,rfl,rfl,rfl,wz⟩:=open_int Tryz.underlying3 hv h;exact ⟨z,rfl,zjc wz⟩
theorem zcv {W:World} {a:Addr} {i:Nat} {u:Value} (hs:a.spot=none) (h:W.cell? (a.add i)=some u):W.cell? ⟨a.block,a.off + i,none⟩=some u:=by
 obtain ⟨b,o,s⟩:=a;simp only at hs;subst hs;unfold Addr.add at h;by_cases h0:i=0
 ·subst h0;simpa using h
 ·simpa [h0] using h
theorem zfw {W:World} {a:Addr} {u:Value} (h:W.cell? a=some u):a.block < W.heap.size:=by
 rcases Nat.lt_or_ge a.block W.heap.size with h0 | h0
 ·exact h0
 ·simp [World.cell?,Array.getElem?_eq_none h0] at h
theorem zey {W:World} {a:Addr} {u:Value} (h:W.cell? a=some u):a.spot=none:=World.cell?_spot h
end
end
section
open Go.RowKit
set_option maxHeartbeats 400000 in
theorem znU (k n:Int) (w:World) (h1:1 ≤ n) (h2:n ≤ 9223372036854775807) :
  Calls Tryz.prog 4 #[.int .i64 k,.int .i64 n] w fun e w'=>e=.returned (.int .i64 (k % n))∧w=w':=by
 have HA:=zi (ztZ k n h1);have h3:=Int.emod_nonneg k (show n ≠ 0 by omega);have h4:=Int.emod_lt_of_pos k (show 0 < n by omega);by_cases h0:0 ≤ k
 ·go_enter Tryz.func4,Tryz.ntmps4
  go_wp2_with fail
  go_ret;exact ⟨rfl,rfl⟩
 ·have h5:-n < k.tmod n∧k.tmod n ≤ 0:=by
   rw [zkk,if_neg h0];have h3:=Int.emod_nonneg (-k) (show n ≠ 0 by omega);have h4:=Int.emod_lt_of_pos (-k) (show 0 < n by omega);omega
  obtain ⟨h6,h7⟩:=h5;by_cases h8:k.tmod n < 0
  ·have HE:=zi (show k % n=k.tmod n + n by rw [HA.out,if_neg h0,if_pos h8]);go_enter Tryz.func4,Tryz.ntmps4
   go_wp2_with fail
   go_ret;exact ⟨zay HE.out.symm,rfl⟩
  ·have HE:=zi (show k % n=k.tmod n by rw [HA.out,if_neg h0,if_neg h8]);go_enter Tryz.func4,Tryz.ntmps4
   go_wp2_with fail
   go_ret;exact ⟨zay HE.out.symm,rfl⟩
end
end Go.Proofs.YtockodmbhnlheaaGreatDoor
