/-
  THE LAW MatchSays: holds for every input, with no condition. (Joined texts: RowB, Closed, MatchPure, MapB, Side, Idx.)
-/
import Derived.Test.YtockodmbhnlheaaMatchSaysA
import Derived.Test.YtockodmbhnlheaaProg
import Derived.Maps.AppendAt
import Derived.Laws.AppendOwnNone
import Derived.OwnWalk
import Derived.WalkKit
import Derived.Deep.Draws
import Derived.IntWalk
import Derived.Test.YtockodmbhnlheaaRows
import Derived.ProofKit
import Derived.OpenShut
import Derived.SizedLaws
import Derived.Deep.Slices
import Derived.WalkSpells
import Derived.WalkLawsBesides
import Derived.Deep.QuietTactic
import Derived.BigQuiet
import Derived.Lib.Hide
import Derived.JoinedOf
import Derived.KernelRfl
import Derived.Maps.Own
import Derived.Maps.OwnOps
import Derived.Maps.Views
import Derived.Deep.RegionHeld3
import Derived.Deep.DeepCutAuto
namespace Go.Proofs.Ytockodmbhnlheaa
section
open Go.ChangeShapes Go.WideShapes Go.ChangeAt Go.RowKit
structure FitOd (o:Od):Prop where
 id:inI64 o.id
 acc:inI64 o.acc
 side:inI64 o.side
 price:inI64 o.price
 qty:inI64 o.qty
section
variable {H:Type} {enc:TypeId × Value→H} {W:World}
set_option maxRecDepth 100000 in
theorem core_order {fuel:Nat} {cs:List Value} {x:DataW H × List MemPlace} (h:DataW.trod enc Try.prog W 0 (fun _=>true) true fuel 71 cs=some x) :
  ∃ o:Od,cs = [.int .i64 o.id,.int .i64 o.acc,.int .i64 o.side,.int .i64 o.price,.int .i64 o.qty]∧FitOd o:=by
 obtain ⟨xs,m,_,hx,hlen,hxl,hf⟩:=DataW.trod_struct Try.underlying71 h
 rw [show Try.prog.cellsOf 71=5 by kernel_rfl] at hlen
 have h0:DataW.trod enc Try.prog W 0 (fun _=>true) true m 3 ((cs.drop 0).take (Try.prog.cellsOf 3))=xs[0]?:=hf 0 _ rfl
 have h1:DataW.trod enc Try.prog W 0 (fun _=>true) true m 3 ((cs.drop 1).take (Try.prog.cellsOf 3))=xs[1]?:=hf 1 _ rfl
 have h2:DataW.trod enc Try.prog W 0 (fun _=>true) true m 3 ((cs.drop 2).take (Try.prog.cellsOf 3))=xs[2]?:=hf 2 _ rfl
 have h3:DataW.trod enc Try.prog W 0 (fun _=>true) true m 3 ((cs.drop 3).take (Try.prog.cellsOf 3))=xs[3]?:=hf 3 _ rfl
 have h4:DataW.trod enc Try.prog W 0 (fun _=>true) true m 3 ((cs.drop 4).take (Try.prog.cellsOf 3))=xs[4]?:=hf 4 _ rfl
 rw [show Try.prog.cellsOf 3=1 by kernel_rfl] at h0 h1 h2 h3 h4
 match cs,hlen,xs,hxl with
 | [c0,c1,c2,c3,c4],_,[y0,y1,y2,y3,y4],_ =>
  obtain ⟨z0,e0,i0⟩:=core_int (x:=y0) (by simpa using h0)
  obtain ⟨z1,e1,i1⟩:=core_int (x:=y1) (by simpa using h1)
  obtain ⟨z2,e2,i2⟩:=core_int (x:=y2) (by simpa using h2)
  obtain ⟨z3,e3,i3⟩:=core_int (x:=y3) (by simpa using h3)
  obtain ⟨z4,e4,i4⟩:=core_int (x:=y4) (by simpa using h4)
  injection e0 with e0 _
  injection e1 with e1 _
  injection e2 with e2 _
  injection e3 with e3 _
  injection e4 with e4 _
  subst e0 e1 e2 e3 e4
  exact ⟨⟨z0,z1,z2,z3,z4⟩,rfl,⟨i0,i1,i2,i3,i4⟩⟩
theorem odCells_of {L:List Od} {f:Nat→Option Value} (hf:∀ i a,L[i]?=some a→f (i * 5)=some (.int .i64 a.id)∧f (i * 5 + 1)=some (.int .i64 a.acc)∧f (i * 5 + 2)=some (.int .i64 a.side)∧f (i * 5 + 3)=some (.int .i64 a.price)∧f (i * 5 + 4)=some (.int .i64 a.qty)) :
  ∀ j u,(odCells L)[j]?=some u→f j=some u:=by
 intro j u hj
 have hlt:j < L.length * 5:=by rw [← odCells_len];exact (List.getElem?_eq_some_iff.1 hj).1
 have hi:j / 5 < L.length:=by omega
 have ha:L[j / 5]?=some L[j / 5]:=List.getElem?_eq_getElem hi
 obtain ⟨k0,k1,k2,k3,k4⟩:=odCells_at ha
 obtain ⟨m0,m1,m2,m3,m4⟩:=hf _ _ ha
 have hm:j=j / 5 * 5∨j=j / 5 * 5 + 1∨j=j / 5 * 5 + 2∨j=j / 5 * 5 + 3∨j=j / 5 * 5 + 4:=by omega
 generalize j / 5=i at *
 rcases hm with e | e | e | e | e <;> subst e
 ·rw [m0,← k0,hj]
 ·rw [m1,← k1,hj]
 ·rw [m2,← k2,hj]
 ·rw [m3,← k3,hj]
 ·rw [m4,← k4,hj]
theorem core_orders {fuel:Nat} {cs:List Value} {x:DataW H × List MemPlace} (h:DataW.trod enc Try.prog W 0 (fun _=>true) true fuel 60 cs=some x)
  (hs:∀ y ∈ x.1.weights Try.prog 60,y ≤ reachBytes) :
  ∃ A n c L,cs = [.slice A n c]∧Rd W W.heap.size 5 A n c (odCells L)∧c * 40 ≤ reachBytes∧∀ a ∈ L,FitOd a:=by
 rcases Go.Deep.open_slice Try.underlying60 h with ⟨hcs,hx⟩ | ⟨ad,n,c,m,f,D,Pl,hcs,_,hl,hm,hmm,hx,hi⟩
 ·exact ⟨none,0,0,[],hcs,Rd.none_ _ _ _,by simp,by simp⟩
 ·simp only [if_true] at hmm
  subst hmm
  rw [show Try.prog.cellsOf 71=5 by kernel_rfl] at hi
  have hel:∀ i,i < n→∃ a:Od,FitOd a∧W.cell? (ad.add (i * 5))=some (.int .i64 a.id)∧W.cell? ((ad.add (i * 5)).add 1)=some (.int .i64 a.acc)∧W.cell? ((ad.add (i * 5)).add 2)=some (.int .i64 a.side) ∧
    W.cell? ((ad.add (i * 5)).add 3)=some (.int .i64 a.price)∧W.cell? ((ad.add (i * 5)).add 4)=some (.int .i64 a.qty):=by
   intro i hin
   obtain ⟨cs',hc,ht⟩:=hi i (by omega)
   obtain ⟨_,hcl,hat⟩:=World.cells?_some hc
   obtain ⟨a,he,hfit⟩:=core_order ht
   subst he
   have e0:=hat 0 (by omega)
   rw [show (ad.add (i * 5)).add 0=ad.add (i * 5) by simp [Addr.add]] at e0
   exact ⟨a,hfit,e0,hat 1 (by omega),hat 2 (by omega),hat 3 (by omega),hat 4 (by omega)⟩
  obtain ⟨L,hL,hall⟩:=exists_list _ n hel
  refine ⟨some ad,n,m,L,hcs,⟨by rw [odCells_len,hL],hl,hm,nofun,fun hn=>?_⟩,?_,fun a ha=>?_⟩
  ·obtain ⟨a,_,k0,_⟩:=hel 0 hn
   rw [show ad.add (0 * 5)=ad by simp [Addr.add]] at k0
   have hsp:=spot_of_cell k0
   refine ⟨ad.block,ad.off,?_,lt_of_cell k0,?_⟩
   ·obtain ⟨b,o,sp⟩:=ad;simp only at hsp;subst hsp;rfl
   ·refine odCells_of (f:=fun j=>W.cell? ⟨ad.block,ad.off + j,none⟩) fun i a ha=>?_
    obtain ⟨_,k0,k1,k2,k3,k4⟩:=hall i a ha
    have hb:∀ q,(ad.add q).block=ad.block∧(ad.add q).off=ad.off + q∧(ad.add q).spot=none:=by
     intro q;unfold Addr.add;split
     ·rename_i h0;subst h0;exact ⟨rfl,rfl,hsp⟩
     ·exact ⟨rfl,rfl,rfl⟩
    obtain ⟨b1,b2,b3⟩:=hb (i * 5)
    have e0:=add_of_cell hsp k0
    have e1:=add_of_cell b3 k1
    have e2:=add_of_cell b3 k2
    have e3:=add_of_cell b3 k3
    have e4:=add_of_cell b3 k4
    rw [b1,b2] at e1 e2 e3 e4
    exact ⟨e0,e1,e2,e3,e4⟩
  ·subst hx
   have hb:=hs ((((List.range n).map D).length + ((List.range (m - n)).map fun j=>D (n + j)).length) * 40) (by
    simp only [DataW.weights,Try.underlying60]
    rw [show Try.prog.bytesOf 71=40 by kernel_rfl]
    simp)
   simp at hb
   rw [show n + (m - n)=m by omega] at hb
   exact hb
  ·obtain ⟨i,hi⟩:=List.mem_iff_getElem?.1 ha
   exact (hall i a hi).1
structure FitBk (b:Bk):Prop where
 bids:∀ o ∈ b.bids,FitOd o
 asks:∀ o ∈ b.asks,FitOd o
set_option maxRecDepth 100000 in
theorem core_book {fuel:Nat} {cs:List Value} {x:DataW H × List MemPlace} (h:DataW.trod enc Try.prog W 0 (fun _=>true) true fuel 62 cs=some x)
  (hs:∀ y ∈ x.1.weights Try.prog 62,y ≤ reachBytes) :
  ∃ (b:Bk) (A A':Option Addr) (c c':Nat),cs = [.slice A b.bids.length c,.slice A' b.asks.length c']∧Rd W W.heap.size 5 A b.bids.length c (odCells b.bids)∧Rd W W.heap.size 5 A' b.asks.length c' (odCells b.asks) ∧
   (c * 40 ≤ reachBytes∧c' * 40 ≤ reachBytes)∧FitBk b:=by
 obtain ⟨xs,m,_,hx,hlen,hxl,hf⟩:=DataW.trod_struct Try.underlying62 h
 rw [show Try.prog.cellsOf 62=2 by kernel_rfl] at hlen
 have h0:DataW.trod enc Try.prog W 0 (fun _=>true) true m 60 ((cs.drop 0).take (Try.prog.cellsOf 60))=xs[0]?:=hf 0 _ rfl
 have h1:DataW.trod enc Try.prog W 0 (fun _=>true) true m 60 ((cs.drop 1).take (Try.prog.cellsOf 60))=xs[1]?:=hf 1 _ rfl
 rw [show Try.prog.cellsOf 60=1 by kernel_rfl] at h0 h1
 match cs,hlen,xs,hxl with
 | [c0,c1],_,[y0,y1],_ =>
  have hs0:∀ y ∈ y0.1.weights Try.prog 60,y ≤ reachBytes:=by
   intro y hy
   refine hs y ?_
   subst hx
   simp only [DataW.weights,Try.underlying62]
   simp [DataW.weightsEach,hy]
  have hs1:∀ y ∈ y1.1.weights Try.prog 60,y ≤ reachBytes:=by
   intro y hy
   refine hs y ?_
   subst hx
   simp only [DataW.weights,Try.underlying62]
   simp [DataW.weightsEach,hy]
  obtain ⟨A,n,c,L,e0,r0,s0,i0⟩:=core_orders (x:=y0) (by simpa using h0) hs0
  obtain ⟨A',n',c',L',e1,r1,s1,i1⟩:=core_orders (x:=y1) (by simpa using h1) hs1
  obtain rfl:L.length=n:=rdo_len r0
  obtain rfl:L'.length=n':=rdo_len r1
  injection e0 with e0 _
  injection e1 with e1 _
  subst e0 e1
  exact ⟨⟨L,L'⟩,A,A',c,c',rfl,r0,r1,⟨s0,s1⟩,⟨i0,i1⟩⟩
set_option maxRecDepth 100000 in
theorem opens_order {base:Nat} {v:Value} {d:DataW H} {p:List MemPlace} (hv:Value.okWide Try.prog W .any base 71 v) (h:DataW.Trod enc Try.prog W 0 (fun _=>true) true 71 v d p) :
  ∃ o:Od,v=.agg #[.int .i64 o.id,.int .i64 o.acc,.int .i64 o.side,.int .i64 o.price,.int .i64 o.qty]∧FitOd o:=by
 obtain ⟨cs,rfl,_⟩:=okWide_struct Try.underlying71 hv
 obtain ⟨fuel,hf⟩:=h
 obtain ⟨o,hcs,hi⟩:=core_order hf
 refine ⟨o,?_,hi⟩
 obtain ⟨l⟩:=cs
 simp only [Value.cells] at hcs
 rw [← hcs]
set_option maxRecDepth 100000 in
theorem opens_book {base:Nat} {v:Value} {d:DataW H} {p:List MemPlace} (hv:Value.okWide Try.prog W .any base 62 v) (h:DataW.Trod enc Try.prog W 0 (fun _=>true) true 62 v d p)
  (hs:∀ x ∈ d.weights Try.prog 62,x ≤ reachBytes) :
  ∃ (b:Bk) (A A':Option Addr) (c c':Nat),v=.agg #[.slice A b.bids.length c,.slice A' b.asks.length c']∧Rd W W.heap.size 5 A b.bids.length c (odCells b.bids)∧Rd W W.heap.size 5 A' b.asks.length c' (odCells b.asks) ∧
   (c * 40 ≤ reachBytes∧c' * 40 ≤ reachBytes)∧FitBk b:=by
 obtain ⟨cs,rfl,_⟩:=okWide_struct Try.underlying62 hv
 obtain ⟨fuel,hf⟩:=h
 obtain ⟨b,A,A',c,c',hcs,hr⟩:=core_book hf hs
 refine ⟨b,A,A',c,c',?_,hr⟩
 obtain ⟨l⟩:=cs
 simp only [Value.cells] at hcs
 rw [← hcs]
end
end
section
theorem head_of {P:Program} {l:List Char} (h:P.initOrder=String.ofList l) (hw:behindMainWord (wordsSigns l) = "cut".toList :: (behindMainWord (wordsSigns l)).tail) :
  behindMainWord (wordsSigns P.initOrder.toList) = "cut".toList :: (behindMainWord (wordsSigns l)).tail:=by
 rw [h,String.toList_ofList];exact hw
set_option maxRecDepth 100000 in
theorem closed_head:∃ r,behindMainWord (wordsSigns Try.prog.initOrder.toList) = "cut".toList :: r:=by
 refine ⟨_,head_of (rfl:Try.prog.initOrder=_) ?_⟩
 kernel_rfl
theorem strip_cut (r:List (List Char)):stripLifts liftWords ("cut".toList :: r)=([],"cut".toList :: r):=by
 simp [stripLifts,liftWords]
theorem mayEnter_of {P:Program} (h:∃ r,behindMainWord (wordsSigns P.initOrder.toList) = "cut".toList :: r) (h1:P.laysLater=false) (h2:P.bearsReflect=false) (h3:P.doorFits []=true):P.mayEnter=true:=by
 obtain ⟨r,h⟩:=h
 unfold Program.mayEnter
 rw [h]
 simp only [strip_cut,h1,h2,h3]
 simp
theorem liftsFinal_of {P:Program} (h:∃ r,behindMainWord (wordsSigns P.initOrder.toList) = "cut".toList :: r):P.liftsFinal=false:=by
 obtain ⟨r,h⟩:=h
 unfold Program.liftsFinal Program.headLifts
 rw [h]
 simp only [strip_cut]
 simp
theorem make_of {P:Program} (h:∃ r,behindMainWord (wordsSigns P.initOrder.toList) = "cut".toList :: r):P.make=some .cut:=by
 obtain ⟨r,h⟩:=h
 unfold Program.make
 rw [h]
 simp
theorem closed_laid:laidOutB Try.prog=true:=by kernel_rfl
theorem closed_mapsRowed:mapsRowed Try.prog=true:=by kernel_rfl
theorem closed_stops:(Try.prog.stops == [])=true:=by kernel_rfl
theorem closed_stopKnobs:(Try.prog.stopKnobs == [])=true:=by kernel_rfl
theorem closed_plainKeys:(Rows.namesRow.plainKeys == Try.prog.plainKeys)=true:=by kernel_rfl
theorem closed_stopsHeard:Try.prog.stopsHeard=true:=by kernel_rfl
theorem closed_mayEnter:Try.prog.mayEnter=true:=mayEnter_of closed_head (by kernel_rfl) (by kernel_rfl) (by kernel_rfl)
theorem closed_lifted:(Rows.namesRow.lifted == Try.prog.liftsFinal)=true:=by rw [liftsFinal_of closed_head];rfl
theorem closed_make:(Try.prog.make == some Rows.namesRow.make)=true:=by rw [make_of closed_head];rfl
theorem joined_mk (P:Program) (f:FuncId) (fn:Func) (s:ChangeSpec) (c:OpenClaim)
  (h0:c.wf (OpenSpec.ofChange s)=true)
  (h1:laidOutB P=true)
  (h2:mapsRowed P=true)
  (h3:fn.params.all (P.readableRec ·)=true)
  (h4:namedTie P c.named s.vars=true)
  (h5:(c.stops == [])=true)
  (h6:(P.stops == [])=true)
  (h7:(c.knobs == [])=true)
  (h8:(P.stopKnobs == [])=true)
  (h9:(c.inPlace == P.inPlace f)=true)
  (h10:(c.unfollowed == P.unfollowed f)=true)
  (h11:(c.recurses == P.recurses f)=true)
  (h12:(c.named == P.varsNamed f)=true)
  (h13:(c.maps == (fn.params.toList ++ s.plain.varTypes P).any (P.mapsRec ·))=true)
  (h14:(c.ifaces == (fn.params.toList ++ s.plain.varTypes P).any (P.ifacesRec ·))=true)
  (h15:(c.mapsOut == P.mapsAmong fn.resultTypes.toList)=true)
  (h16:(c.loops == (fn.params.toList ++ s.plain.varTypes P).any (P.loopsFrom ·))=true)
  (h17:(c.wideKeys == (fn.params.toList ++ s.plain.varTypes P ++ fn.resultTypes.toList).any (P.wideKeysFrom ·))=true)
  (h18:s.vars.all (P.varReadable ·)=true)
  (h19:fn.resultTypes.all (fun t=>P.readableRec t && decide (t < P.types.size))=true)
  (h20:(c.ifacesOut == fn.resultTypes.toList.any (P.ifacesRec ·))=true)
  (h21:(c.loopsOut == fn.resultTypes.toList.any (P.loopsFrom ·))=true)
  (h22:(c.plainKeys == P.plainKeys)=true)
  (h23:c.shortTexts.isNone=true)
  (h24:P.stopsHeard=true)
  (h25:P.mayEnter=true)
  (h26:(c.lifted == P.liftsFinal)=true)
  (h27:(P.make == some c.make)=true)
  (h28:(c.kinds == (if c.domain.isEmpty then [] else fn.params.toList.map fun t=>match P.underlying t with | some (.int k)=>some k | _=>none))=true)
  (h29:(c.pinned == c.pinnedBy)=true)
  (h30:(c.veiled == (fn.params.toList ++ s.plain.varTypes P ++ fn.resultTypes.toList).any (P.veiledRec ·))=true)
  (h31:c.veiledFits P fn.params.toList (fn.params.toList ++ s.plain.varTypes P ++ fn.resultTypes.toList)=true)
  : joinedFacts P f fn s c=true:=by
 simp only [joinedFacts,Bool.and_eq_true]
 exact ⟨⟨⟨⟨⟨⟨⟨⟨⟨⟨⟨⟨⟨⟨⟨⟨⟨⟨⟨⟨⟨⟨⟨⟨⟨⟨⟨⟨⟨⟨⟨h0,h1⟩,h2⟩,h3⟩,h4⟩,h5⟩,h6⟩,h7⟩,h8⟩,h9⟩,h10⟩,h11⟩,h12⟩,h13⟩,h14⟩,h15⟩,h16⟩,h17⟩,h18⟩,h19⟩,h20⟩,h21⟩,h22⟩,h23⟩,h24⟩,h25⟩,h26⟩,h27⟩,h28⟩,h29⟩,h30⟩,h31⟩
end
section
structure Fl where
 maker:Int
 taker:Int
 macc:Int
 tacc:Int
 side:Int
 price:Int
 qty:Int
theorem Fl.ext' {a b:Fl} (h1:a.maker=b.maker) (h2:a.taker=b.taker) (h3:a.macc=b.macc) (h4:a.tacc=b.tacc) (h5:a.side=b.side) (h6:a.price=b.price) (h7:a.qty=b.qty):a=b:=by
 obtain ⟨a1,a2,a3,a4,a5,a6,a7⟩:=a
 obtain ⟨b1,b2,b3,b4,b5,b6,b7⟩:=b
 simp only at h1 h2 h3 h4 h5 h6 h7
 subst h1 h2 h3 h4 h5 h6 h7;rfl
def fillOf (o x:Od) (n:Int):Fl:=⟨x.id,o.id,x.acc,o.acc,o.side,x.price,n⟩
def takeL (o:Od):Int→List Od→List Od × List Fl × Int × Bool
 | left,[]=>([],[],left,false)
 | left,x :: l=>if left ≤ 0 then (x :: l,[],left,false) else if crossesB o x.price=false then (x :: l,[],left,false) else if x.acc=o.acc then (x :: l,[],left,true)
  else if left < x.qty then ({ x with qty:=x.qty - left } :: l,[fillOf o x left],0,false)
  else ((takeL o (left - x.qty) l).1,fillOf o x x.qty :: (takeL o (left - x.qty) l).2.1,(takeL o (left - x.qty) l).2.2)
def takeOf (b:Bk) (o:Od):Bk × List Fl × Int × Bool × Int :=
 if bookErr b ≠ 0 then (zeroBk,[],0,false,bookErr b) else if ordErr o ≠ 0 then (zeroBk,[],0,false,ordErr o)
 else (setOther b o.side (takeL o o.qty (otherOf b o.side)).1,(takeL o o.qty (otherOf b o.side)).2.1,(takeL o o.qty (otherOf b o.side)).2.2.1,(takeL o o.qty (otherOf b o.side)).2.2.2,0)
def comeOf (b:Bk) (o:Od) (how:Int):Bk × List Fl × Int × Int :=
 if bookErr b ≠ 0 then (zeroBk,[],0,bookErr b) else if hasB b o.id then (zeroBk,[],0,6) else if how < 1∨4 < how then (zeroBk,[],0,4)
 else if (takeOf b o).2.2.2.2 ≠ 0 then (zeroBk,[],0,(takeOf b o).2.2.2.2)
 else if how=4∧((takeOf b o).2.1 ≠ []∨(takeOf b o).2.2.2.1=true) then (zeroBk,[],0,9)
 else if (takeOf b o).2.2.2.1 then (zeroBk,[],0,11)
 else if how=3∧0 < (takeOf b o).2.2.1 then (zeroBk,[],0,10)
 else if (takeOf b o).2.2.1=0∨how=2 then ((takeOf b o).1,(takeOf b o).2.1,(takeOf b o).2.2.1,0)
 else if (restOf (takeOf b o).1 { o with qty:=(takeOf b o).2.2.1 }).2 ≠ 0 then (zeroBk,[],0,(restOf (takeOf b o).1 { o with qty:=(takeOf b o).2.2.1 }).2)
 else ((restOf (takeOf b o).1 { o with qty:=(takeOf b o).2.2.1 }).1,(takeOf b o).2.1,0,0)
def sameBut (x y:Od):Prop:=x.id=y.id∧x.acc=y.acc∧x.side=y.side∧x.price=y.price
theorem ahead_but {x x' y:Od} (h:sameBut x x'):aheadB x y=aheadB x' y∧aheadB y x=aheadB y x':=by
 obtain ⟨h1,h2,h3,h4⟩:=h
 unfold aheadB
 rw [h1,h3,h4];exact ⟨rfl,rfl⟩
theorem takeL_side {s:Int} {o:Od}:∀ {l:List Od} {left:Int},SideOk s l→SideOk s (takeL o left l).1∧(∀ y ∈ (takeL o left l).1,∃ x ∈ l,sameBut x y∧y.qty ≤ x.qty)∧(takeL o left l).1.length ≤ l.length
 | [],_,h=>⟨h,by simp [takeL],by simp [takeL]⟩
 | x :: l,left,h=>by
  have hid:∀ y ∈ x :: l,∃ z ∈ x :: l,sameBut z y∧y.qty ≤ z.qty:=fun y hy=>⟨y,hy,⟨rfl,rfl,rfl,rfl⟩,Int.le_refl _⟩
  unfold takeL
  split
  ·exact ⟨h,hid,Nat.le_refl _⟩
  split
  ·exact ⟨h,hid,Nat.le_refl _⟩
  split
  ·exact ⟨h,hid,Nat.le_refl _⟩
  split
  ·rename_i h1 h2 h3 h4
   have hx:=ordErr_ok.1 (h.ok x (by simp))
   refine ⟨⟨?_,?_,?_,?_⟩,?_,by simp⟩
   ·intro y hy
    rcases List.mem_cons.1 hy with rfl | hy
    ·rw [ordErr_ok];simp only;omega
    ·exact h.ok y (by simp [hy])
   ·intro y hy
    rcases List.mem_cons.1 hy with rfl | hy
    ·exact h.side x (by simp)
    ·exact h.side y (by simp [hy])
   ·obtain ⟨k1,k2⟩:=List.pairwise_cons.1 h.sorted
    refine List.pairwise_cons.2 ⟨fun y hy=>?_,k2⟩
    rw [← (ahead_but (x:=x) (y:=y) (by exact ⟨rfl,rfl,rfl,rfl⟩)).1]
    exact k1 y hy
   ·have:=h.ids
    simpa using this
   ·intro y hy
    rcases List.mem_cons.1 hy with rfl | hy
    ·exact ⟨x,by simp,⟨rfl,rfl,rfl,rfl⟩,by simp only;omega⟩
    ·exact hid y (by simp [hy])
  ·obtain ⟨k1,k2,k3⟩:=takeL_side (o:=o) (l:=l) (left:=left - x.qty) (sideOk_sub h (List.sublist_cons_self x l))
   refine ⟨k1,fun y hy=>?_,by simp only [List.length_cons];omega⟩
   obtain ⟨z,hz,hs⟩:=k2 y hy
   exact ⟨z,by simp [hz],hs⟩
theorem other_of {b:Bk} (h:BookOk b) (s:Int) (hs:s=1∨s = -1):SideOk (-s) (otherOf b s):=by
 unfold otherOf
 rcases hs with hs | hs
 ·rw [if_pos hs,hs];exact h.asks
 ·rw [if_neg (by omega),hs];exact h.bids
theorem book_take {b:Bk} (h:BookOk b) (o:Od) (hs:o.side=1∨o.side = -1) (left:Int):BookOk (setOther b o.side (takeL o left (otherOf b o.side)).1):=by
 obtain ⟨k1,k2,k3⟩:=takeL_side (o:=o) (left:=left) (other_of h o.side hs)
 have hl:=h.len
 have hf:=free_all h
 unfold setOther
 unfold otherOf at k1 k2 k3 ⊢
 rcases hs with hs | hs
 ·rw [if_pos hs] at k1 k2 k3 ⊢
  rw [if_pos hs]
  rw [hs] at k1
  refine ⟨by simp only;omega,h.bids,k1,fun x hx y hy=>?_,free_of fun x hx y hy=>?_⟩
  ·obtain ⟨z,hz,hzy,_⟩:=k2 y hy
   rw [← hzy.1];exact h.apart x hx z hz
  ·obtain ⟨z,hz,hzy,_⟩:=k2 y hy
   rw [← hzy.2.2.2];exact hf x hx z hz
 ·have hs1:¬ o.side=1:=by omega
  rw [if_neg hs1] at k1 k2 k3 ⊢
  rw [if_neg hs1]
  rw [hs] at k1
  refine ⟨by simp only;omega,k1,h.asks,fun x hx y hy=>?_,free_of fun x hx y hy=>?_⟩
  ·obtain ⟨z,hz,hzy,_⟩:=k2 x hx
   rw [← hzy.1];exact h.apart z hz y hy
  ·obtain ⟨z,hz,hzy,_⟩:=k2 x hx
   rw [← hzy.2.2.2];exact hf z hz y hy
theorem takeL_left {o:Od}:∀ {l:List Od} {left:Int},(∀ x ∈ l,1 ≤ x.qty)→0 ≤ left→0 ≤ (takeL o left l).2.2.1∧(takeL o left l).2.2.1 ≤ left
 | [],left,_,h=>by simp [takeL,h]
 | x :: l,left,hq,h=>by
  unfold takeL
  split
  ·exact ⟨h,Int.le_refl _⟩
  split
  ·exact ⟨h,Int.le_refl _⟩
  split
  ·exact ⟨h,Int.le_refl _⟩
  split
  ·exact ⟨Int.le_refl _,h⟩
  ·have h1:=hq x (by simp)
   obtain ⟨k1,k2⟩:=takeL_left (o:=o) (l:=l) (left:=left - x.qty) (fun y hy=>hq y (by simp [hy])) (by omega)
   exact ⟨k1,by simp only;omega⟩
theorem takeL_zero {o:Od} (l:List Od):takeL o 0 l=(l,[],0,false):=by
 cases l with
 | nil=>rfl
 | cons x l=>simp [takeL]
end
section
open Go.RowKit Go.Maps
theorem wf_i64 {x:Int} (h1:-9223372036854775808 ≤ x) (h2:x ≤ 9223372036854775807):(Lit.int .i64 x).wf=true:=by
 simp [Lit.wf,IntKind.min,IntKind.max,IntKind.signed,IntKind.bits];omega
def seenD:List Int→DataW Unit
 | []=>.map []
 | x :: l=>(seenD l).put (.int .i64 x) (.lit (.bool true))
theorem seenD_map:∀ l:List Int,IsMap (seenD l)
 | []=>isMap_empty
 | _ :: l=>(seenD_map l).put _ _
theorem seenD_at (x:Int):∀ l:List Int,(seenD l).atKey (.int .i64 x) (.lit (.bool false))=.lit (.bool (decide (x ∈ l)))
 | []=>by simp [seenD];rfl
 | y :: l=>by
  unfold seenD
  by_cases h:x=y
  ·subst h
   rw [atKey_put_same (seenD_map l) (show WideAt.IsKeyLit (.int .i64 x) from trivial)];simp
  ·rw [atKey_put_other (by intro e;injection e with _ e;exact h e)]
   rw [seenD_at x l]
   simp [h]
def Seen (w:World) (b n:Nat) (l:List Int):Prop:=w.ownsMap Try.prog 3 (plainElem (H:=Unit) Try.prog 4) b n (seenD l)
theorem Seen.made (w:World):Seen (w.alloc (.map #[] 0)) w.heap.size 0 []:=World.ownsMap_made _ _ _ _
theorem Seen.lt {w:World} {b n:Nat} {l:List Int} (h:Seen w b n l):b < w.heap.size:=World.ownsMap.lt h
theorem Seen.kept {w w':World} {b n:Nat} {l:List Int} {row:Option Nat} (h:Seen w b n l) (hg:w.grownBy w' row) (hne:some b ≠ row):Seen w' b n l:=World.ownsMap.kept h hg hne
theorem Seen.below {w w':World} {b n B:Nat} {l:List Int} (h:Seen w b n l) (hb:Below B w w') (hB:b < B):Seen w' b n l:=by
 obtain ⟨es,clock,h1,h2⟩:=h
 exact ⟨es,clock,(hb.block b hB).trans h1,h2⟩
set_option maxRecDepth 100000 in
theorem Seen.look {w:World} {b n:Nat} {l:List Int} (h:Seen w b n l) (x:Int) (hx:-9223372036854775808 ≤ x∧x ≤ 9223372036854775807) :
  (Instr.lookup 149 (.map (some b)) (.int .i64 x) false).run Try.prog w=.ok (.bool (decide (x ∈ l))) w:=by
 have hz:(zeroValue 4).run Try.prog w=.ok (.bool false) w:=by kernel_rfl
 obtain ⟨v,ps,hrun,hv⟩:=World.ownsMap.lookup (R:=plainElem (H:=Unit) Try.prog 4) h (int_keyed Try.underlying3) Try.underlying149 hz (plainElem_bool Try.underlying4 false) (keyOf_int_mk Try.underlying3 (wf_i64 hx.1 hx.2))
 rw [seenD_at] at hv
 have:v=.bool (decide (x ∈ l)):=by
  unfold plainElem at hv
  rw [Try.underlying4] at hv
  cases v <;> simp at hv
  rename_i c
  obtain ⟨hv,_⟩:=hv
  cases c <;> simp_all
 rw [← this];exact hrun
set_option maxRecDepth 100000 in
theorem Seen.put {w:World} {b n:Nat} {l:List Int} (h:Seen w b n l) (x:Int) (hx:-9223372036854775808 ≤ x∧x ≤ 9223372036854775807) (hn:n < maxLen) :
  ∃ w',(Instr.mapUpdate 149 (.map (some b)) (.int .i64 x) (.bool true)).run Try.prog w=.ok () w'∧Seen w' b (n + 1) (x :: l)∧w.grownBy w' (some b) :=
 World.ownsMap.update h (int_keyed Try.underlying3) Try.underlying149 hn (keyOf_int_mk Try.underlying3 (wf_i64 hx.1 hx.2)) (plainElem_bool Try.underlying4 true)
theorem make_set (w:World):(Instr.makeMap 149 none).run Try.prog w=.ok (.map (some w.heap.size)) (w.alloc (.map #[] 0)):=run_makeMap _ w
end
section
open Go.RowKit
theorem below_next {w0 W W':World} (hb:Below W.heap.size W W') (h:Below w0.heap.size w0 W):Below w0.heap.size w0 W':=h.trans (hb.mono h.size)
theorem below_drew {w0 W:World} (h:Below w0.heap.size w0 W):Below w0.heap.size w0 W.drew:=below_drewN h 1
def sideAt (s:Int) (L:List Od) (seen:List Int) (j:Nat):Int:=sideErr s (if j=0 then none else L[j - 1]?) (((L.take j).map Od.id).reverse ++ seen) (L.drop j)
theorem sideAt_zero (s:Int) (L:List Od) (seen:List Int):sideAt s L seen 0=sideErr s none seen L:=by simp [sideAt]
theorem sideAt_step {s:Int} {L:List Od} {seen:List Int} {j:Nat} {o:Od} (h:L[j]?=some o) :
  sideAt s L seen j=if ordErr o ≠ 0 then ordErr o else if o.side ≠ s∨(∃ q ∈ (if j=0 then none else L[j - 1]?),aheadB q o=false) then 4 else if o.id ∈ ((L.take j).map Od.id).reverse ++ seen then 6 else sideAt s L seen (j + 1):=by
 obtain ⟨h1,h2⟩:=List.getElem?_eq_some_iff.1 h
 have hd:L.drop j=o :: L.drop (j + 1):=by rw [List.drop_eq_getElem_cons h1,h2]
 have e:sideAt s L seen (j + 1)=sideErr s (some o) (o.id :: (((L.take j).map Od.id).reverse ++ seen)) (L.drop (j + 1)):=by
  unfold sideAt
  rw [if_neg (by omega),Nat.add_sub_cancel,h,List.take_add_one,h]
  simp
 rw [e]
 unfold sideAt
 rw [hd]
 rfl
theorem sideAt_end {s:Int} {L:List Od} {seen:List Int} {j:Nat} (h:L.length ≤ j):sideAt s L seen j=0:=by
 unfold sideAt;rw [List.drop_eq_nil_of_le h];rfl
def RetSide (w:World) (m k:Nat) (L:List Od) (seen:List Int) (r:Int) (e:Ending) (w':World):Prop :=
 e=.returned (.int .i64 r)∧w.grownBy w' (some m)∧(r=0→Seen w' m (k + L.length) ((L.map Od.id).reverse ++ seen))
theorem grown_below {w w1 w2:World} {m:Nat} (h:w.grownBy w1 (some m)) (hb:Below w1.heap.size w1 w2):w.grownBy w2 (some m) :=
 ⟨hb.os.trans h.os,hb.tape.trans h.tape,hb.output.trans h.output,Nat.le_trans h.size hb.size,fun i hi hn=>(hb.block i (Nat.lt_of_lt_of_le hi h.size)).trans (h.block i hi hn)⟩
theorem grown_grown {w w1 w2:World} {m:Nat} (h:w.grownBy w1 (some m)) (hg:w1.grownBy w2 (some m)):w.grownBy w2 (some m) :=
 ⟨hg.os.trans h.os,hg.tape.trans h.tape,hg.output.trans h.output,Nat.le_trans h.size hg.size,fun i hi hn=>(hg.block i (Nat.lt_of_lt_of_le hi h.size) hn).trans (h.block i hi hn)⟩
theorem rd_grown {w w1:World} {m B k n c:Nat} {A:Option Addr} {xs:List Value} (h:Rd w B k A n c xs) (hg:w.grownBy w1 (some m)) (hm:B ≤ m) (hB:B ≤ w.heap.size):Rd w1 B k A n c xs :=
 h.mono (Nat.le_refl _) fun b o hb=>World.cell?_of_block (hg.block b (by omega) (fun e=>by injection e;omega))
theorem bool_cs (b:Bool):b=false∨b=true:=by cases b <;> simp
theorem mem_or (x:Int) (l:List Int):decide (x ∈ l)=false∧x ∉ l∨decide (x ∈ l)=true∧x ∈ l:=by by_cases h:x ∈ l <;> simp [h]
set_option maxRecDepth 100000 in
set_option maxHeartbeats 4000000 in
theorem side_any (A:Option Addr) (n c:Nat) (L:List Od) (s:Int) (m k:Nat) (seen:List Int) (B:Nat) (w:World) (h:Rd w B 5 A n c (odCells L)) (hB:B ≤ m) (hs:Seen w m k seen) (hk:k ≤ 1000) (hn:n ≤ 1000) :
  Calls Try.prog 132 #[.slice A n c,.int .i64 s,.map (some m)] w (RetSide w m k L seen (sideErr s none seen L)):=by
 have hmw:=hs.lt
 have HL:=Lib.hid (rdo_len h)
 have HE:=Lib.hid (sideAt_zero s L seen)
 go_enter Try.func132,Try.ntmps132
 go_wp2_with fail
 go_loopw [12] (fun i wr=>∃ j:Nat,j ≤ n∧i=.int .i64 j∧w.grownBy wr (some m)∧Hid (Seen wr m (k + j) (((L.take j).map Od.id).reverse ++ seen))∧Hid (sideAt s L seen j=sideErr s none seen L)) (fun i _=>n - (intOf i).toNat)
 case atStart=>exact ⟨0,Nat.zero_le _,rfl,World.grownBy.refl w _,hs,HE⟩
 case round =>
  obtain ⟨j,hj,rfl,hg,HS,HT⟩:=hrel
  have hws:=hg.size
  by_cases hlt:j < n
  ·have hr:=rd_grown h hg hB (by omega)
   obtain ⟨b,o,x,rfl,hb,hx,k0,k1,k2,k3,k4⟩:=od_at hr hlt
   have HD:=Lib.hid (HT.out.symm.trans (sideAt_step hx))
   have HX:=Lib.hid hx
   have x1:b < wr.heap.size:=by omega
   clear hx
   go_wp2_with fail
   refine (ordErr_any x _).mono ?_
   rintro e w1 ⟨rfl,hb1⟩
   have hb2:Below wr.heap.size wr w1:=((Below.refl _ _).alloc (Nat.le_refl _) _).trans (hb1.mono (by simp))
   have hg1:w.grownBy w1 (some m):=grown_below hg hb2
   have Bx:=(Blk.new wr 71 #[.int .i64 x.id,.int .i64 x.acc,.int .i64 x.side,.int .i64 x.price,.int .i64 x.qty]).below hb1 (by simp)
   have hw1:wr.heap.size < w1.heap.size:=by have:=hb1.size;simp at this;omega
   have HS1:=Lib.hid (HS.out.below hb2 HS.out.lt)
   have hr1:=hr.below (hb2.mono (by omega))
   clear k0 k1 k2 k3 k4 hb1 hr
   by_cases he:ordErr x=0
   ·have HD2:=Lib.hid (HD.out.trans (if_neg (by omega)))
    obtain ⟨⟨hi1,hi2⟩,_⟩:=ordErr_ok.1 he
    have HZ:=Lib.hid he
    have he':(ordErr x != 0)=false:=by simpa using he
    clear he HD
    obtain ⟨⟨b0,b1,b2,b3,b4⟩,_⟩:=Bx.c5
    by_cases hside:x.side=s
    ·have hs':(x.side != s)=false:=by simpa using hside
     have HSD:=Lib.hid hside
     clear hside
     by_cases hj0:j=0
     ·subst hj0
      have HD4:=Lib.hid (show sideErr s none seen L=if x.id ∈ ((L.take 0).map Od.id).reverse ++ seen then 6 else sideAt s L seen (0 + 1) by
       rw [HD2.out,if_neg]
       rintro (h | ⟨q,hq,_⟩)
       ·exact h HSD.out
       ·simp at hq)
      go_wp2_with fail
      go_quiet (fail)
      obtain ⟨W',hW⟩:∃ W',W'=w1.drewN nq:=⟨_,rfl⟩
      rw [← hW]
      have hB:Below w1.heap.size w1 W':=by rw [hW];exact below_drewN (Below.refl _ _) _
      clear hW b0 b1 b2 b3 b4
      obtain ⟨⟨b0,b1,b2,b3,b4⟩,_⟩:=(Bx.below hB hw1).c5
      have HS2:=Lib.hid (HS1.out.below hB HS1.out.lt)
      have hB2:Below wr.heap.size wr W':=hb2.trans (hB.mono (by omega))
      have hg3:w.grownBy W' (some m):=grown_below hg hb2 |> fun h=>grown_below h hB
      have hl:=HS2.out.look x.id (by omega)
      rcases mem_or x.id (((L.take (0)).map Od.id).reverse ++ seen) with ⟨hm1,hm2⟩ | ⟨hm1,hm2⟩
      ·obtain ⟨w2,hrun,hs2,hg2⟩:=HS2.out.put x.id (by omega) (by unfold maxLen;omega)
       have HS3:=Lib.hid (show Seen w2 m (k + (0 + 1)) (((L.take (0 + 1)).map Od.id).reverse ++ seen) by
        rw [List.take_add_one,HX.out]
        have:=hs2
        simp only [Option.toList,List.map_append,List.map_cons,List.map_nil,List.reverse_append,List.reverse_cons,List.reverse_nil,List.nil_append,List.cons_append]
        rw [← Nat.add_assoc];exact this)
       have HE2:=Lib.hid (show sideAt s L seen (0 + 1)=sideErr s none seen L by rw [HD4.out,if_neg hm2])
       have hg4:w.grownBy w2 (some m):=grown_grown hg3 hg2
       rw [hm1] at hl
       clear hm1 hm2 hs2 hg2
       go_wp2_with fail
       go_roundw
       case rel=>exact ⟨0 + 1,by omega,by go_num,hg4,HS3,HE2⟩
       case measure=>simp [intOf];omega
      ·have HE2:=Lib.hid (show sideErr s none seen L=6 by rw [HD4.out,if_pos hm2])
       rw [hm1] at hl
       clear hm1 hm2
       go_wp2_with fail
       go_ret
       exact ⟨ret_ii HE2.out.symm,hg3,fun h=>by rw [HE2.out] at h;omega⟩
     ·obtain ⟨jj,rfl⟩:∃ jj,j=jj + 1:=⟨j - 1,by omega⟩
      obtain ⟨b',o',q,hA,hb',hq,q0,q1,q2,q3,q4⟩:=od_at hr1 (show jj < n by omega)
      cases hA
      have HD3:=Lib.hid (show sideErr s none seen L=if aheadB q x=false then 4 else if x.id ∈ ((L.take (jj + 1)).map Od.id).reverse ++ seen then 6 else sideAt s L seen (jj + 1 + 1) by
       rw [HD2.out]
       by_cases ha:aheadB q x=false
       ·rw [if_pos ha,if_pos (.inr ⟨q,by rw [if_neg (by omega),Nat.add_sub_cancel];exact hq,ha⟩)]
       ·rw [if_neg ha,if_neg]
        rintro (h | ⟨q',hq',h⟩)
        ·exact h HSD.out
        ·rw [if_neg (by omega),Nat.add_sub_cancel,hq] at hq'
         injection hq' with hq'
         rw [hq'] at ha;exact ha h)
      clear hq
      have h11:Below w1.heap.size w1 w1:=Below.refl _ _
      have x2:b < w1.heap.size:=by omega
      have KS:Hid (∀ W,Below w1.heap.size w1 W→Below w1.heap.size w1 W∧(W.cell? ⟨wr.heap.size,0,none⟩=some (.int .i64 x.id)∧W.cell? ⟨wr.heap.size,1,none⟩=some (.int .i64 x.acc)∧W.cell? ⟨wr.heap.size,2,none⟩=some (.int .i64 x.side)∧W.cell? ⟨wr.heap.size,3,none⟩=some (.int .i64 x.price)∧W.cell? ⟨wr.heap.size,4,none⟩=some (.int .i64 x.qty)) ∧
       (W.cell? ⟨b,o + jj * 5,none⟩=some (.int .i64 q.id)∧W.cell? ⟨b,o + jj * 5 + 1,none⟩=some (.int .i64 q.acc)∧W.cell? ⟨b,o + jj * 5 + 2,none⟩=some (.int .i64 q.side)∧W.cell? ⟨b,o + jj * 5 + 3,none⟩=some (.int .i64 q.price)∧W.cell? ⟨b,o + jj * 5 + 4,none⟩=some (.int .i64 q.qty))):=by
       intro W hW
       exact ⟨hW,(Bx.below hW hw1).c5.1,(hW.cell (p:=⟨b,_,none⟩) x2).trans q0,(hW.cell (p:=⟨b,_,none⟩) x2).trans q1,(hW.cell (p:=⟨b,_,none⟩) x2).trans q2,(hW.cell (p:=⟨b,_,none⟩) x2).trans q3,(hW.cell (p:=⟨b,_,none⟩) x2).trans q4⟩
      have i1:IntKind.i64.wrap ((jj:Int) + 1 - 1)=(jj:Int):=by rw [show (jj:Int) + 1 - 1=(jj:Int) by omega];exact IntWalk.i64_in _ (by omega)
      have i2:(0:Int) ≤ (jj:Int):=by omega
      have i3:(jj:Int) < (n:Int):=by omega
      have i4:decide ((0:Int) < (jj:Int) + 1)=true:=by simp
      have i5:IntKind.i64.wrap (jj:Int)=(jj:Int):=IntWalk.i64_in _ (by omega)
      go_wp2_with fail
      go_region_held3 (fun W=>Below w1.heap.size w1 W∧(W.cell? ⟨wr.heap.size,0,none⟩=some (.int .i64 x.id)∧W.cell? ⟨wr.heap.size,1,none⟩=some (.int .i64 x.acc)∧W.cell? ⟨wr.heap.size,2,none⟩=some (.int .i64 x.side)∧W.cell? ⟨wr.heap.size,3,none⟩=some (.int .i64 x.price)∧W.cell? ⟨wr.heap.size,4,none⟩=some (.int .i64 x.qty)) ∧
       (W.cell? ⟨b,o + jj * 5,none⟩=some (.int .i64 q.id)∧W.cell? ⟨b,o + jj * 5 + 1,none⟩=some (.int .i64 q.acc)∧W.cell? ⟨b,o + jj * 5 + 2,none⟩=some (.int .i64 q.side)∧W.cell? ⟨b,o + jj * 5 + 3,none⟩=some (.int .i64 q.price)∧W.cell? ⟨b,o + jj * 5 + 4,none⟩=some (.int .i64 q.qty)))
       (first | (exact KS.out _ (by assumption)) | (exact KS.out _ (below_drew (by assumption))))
       ((first | (go_at_call 83;go_split_ands;(with_reducible refine (ahead_any q x _).mono ?_);rintro e W' ⟨rfl,hb⟩;have hB:=below_next hb (by assumption))))
      go_split_ands
      clear KS b0 b1 b2 b3 b4 q0 q1 q2 q3 q4 i1 i2 i3 i4 i5
      rcases bool_cs (aheadB q x) with ha | ha
      ·have HE2:=Lib.hid (show sideErr s none seen L=4 by rw [HD3.out,if_pos ha])
       have hg3:w.grownBy W' (some m):=grown_below hg1 hB
       rw [ha]
       go_wp2_with fail
       go_ret
       exact ⟨ret_ii HE2.out.symm,hg3,fun h=>by rw [HE2.out] at h;omega⟩
      ·have HD4:=Lib.hid (HD3.out.trans (if_neg (by rw [ha];simp)))
       rw [ha]
       have HS2:=Lib.hid (HS1.out.below hB HS1.out.lt)
       have hB2:Below wr.heap.size wr W':=hb2.trans (hB.mono (by omega))
       have hg3:w.grownBy W' (some m):=grown_below hg hb2 |> fun h=>grown_below h hB
       have hl:=HS2.out.look x.id (by omega)
       rcases mem_or x.id (((L.take (jj + 1)).map Od.id).reverse ++ seen) with ⟨hm1,hm2⟩ | ⟨hm1,hm2⟩
       ·obtain ⟨w2,hrun,hs2,hg2⟩:=HS2.out.put x.id (by omega) (by unfold maxLen;omega)
        have HS3:=Lib.hid (show Seen w2 m (k + (jj + 1 + 1)) (((L.take (jj + 1 + 1)).map Od.id).reverse ++ seen) by
         rw [List.take_add_one,HX.out]
         have:=hs2
         simp only [Option.toList,List.map_append,List.map_cons,List.map_nil,List.reverse_append,List.reverse_cons,List.reverse_nil,List.nil_append,List.cons_append]
         rw [← Nat.add_assoc];exact this)
        have HE2:=Lib.hid (show sideAt s L seen (jj + 1 + 1)=sideErr s none seen L by rw [HD4.out,if_neg hm2])
        have hg4:w.grownBy w2 (some m):=grown_grown hg3 hg2
        rw [hm1] at hl
        clear hm1 hm2 hs2 hg2
        go_wp2_with fail
        go_roundw
        case rel=>exact ⟨jj + 1 + 1,by omega,by go_num,hg4,HS3,HE2⟩
        case measure=>simp [intOf];omega
       ·have HE2:=Lib.hid (show sideErr s none seen L=6 by rw [HD4.out,if_pos hm2])
        rw [hm1] at hl
        clear hm1 hm2
        go_wp2_with fail
        go_ret
        exact ⟨ret_ii HE2.out.symm,hg3,fun h=>by rw [HE2.out] at h;omega⟩
    ·have HE2:=Lib.hid (show sideErr s none seen L=4 by rw [HD2.out,if_pos (.inl hside)])
     have hs':(x.side != s)=true:=by simpa using hside
     clear hside
     go_wp2_with fail
     go_quiet (fail)
     go_wp2_with fail
     go_ret
     exact ⟨ret_ii HE2.out.symm,grown_below hg1 (below_drewN (Below.refl _ _) _),fun h=>by rw [HE2.out] at h;omega⟩
   ·have HE2:=Lib.hid (show sideErr s none seen L=ordErr x by rw [HD.out,if_pos he])
    have HN:=Lib.hid he
    have he':(ordErr x != 0)=true:=by simpa using he
    clear he
    go_wp2_with fail
    go_ret
    exact ⟨ret_ii HE2.out.symm,hg1,fun h=>absurd (HE2.out.symm.trans h) HN.out⟩
  ·have hjn:j=n:=by omega
   have hjl:L.length=j:=by have:=HL.out;omega
   have HE2:=Lib.hid (show sideErr s none seen L=0 by rw [← HT.out,sideAt_end (by omega)])
   have HSE:=Lib.hid (show Seen wr m (k + L.length) ((L.map Od.id).reverse ++ seen) by
    have:=HS.out
    rw [← hjl,List.take_length] at this
    exact this)
   clear hjn hjl
   go_wp2_with fail
   go_ret
   exact ⟨ret_ii HE2.out.symm,hg,fun _=>HSE.out⟩
end
section
open Go.RowKit
def idxOf (p:Od→Bool) (L:List Od):Int:=match L.findIdx? p with
 | some k=>(k:Int)
 | none=>-1
theorem idxOf_found {p:Od→Bool} {L:List Od} {j:Nat} {x:Od} (hx:L[j]?=some x) (hp:p x=true) (hb:(L.take j).all (fun y=>!p y)=true):idxOf p L=j:=by
 obtain ⟨h1,h2⟩:=List.getElem?_eq_some_iff.1 hx
 have:L.findIdx? p=some j:=by
  rw [List.findIdx?_eq_some_iff_getElem]
  refine ⟨h1,by rw [h2];exact hp,fun i hi=>?_⟩
  rw [List.all_eq_true] at hb
  have:=hb L[i] (List.mem_take_iff_getElem.2 ⟨i,by omega,rfl⟩)
  simpa using this
 unfold idxOf;rw [this]
theorem idxOf_none {p:Od→Bool} {L:List Od} (hb:L.all (fun y=>!p y)=true):idxOf p L = -1:=by
 have:L.findIdx? p=none:=by
  rw [List.findIdx?_eq_none_iff]
  rw [List.all_eq_true] at hb
  intro x hx
  have:=hb x hx
  simpa using this
 unfold idxOf;rw [this]
theorem all_next {p:Od→Bool} {L:List Od} {j:Nat} {x:Od} (hx:L[j]?=some x) (hp:p x=false) (hb:(L.take j).all (fun y=>!p y)=true):(L.take (j + 1)).all (fun y=>!p y)=true:=by
 rw [List.take_add_one,hx]
 simp only [Option.toList,List.all_append,hb,List.all_cons,List.all_nil,hp];rfl
theorem idxOf_lt {p:Od→Bool} {L:List Od}:idxOf p L = -1∧L.any p=false∨(∃ k:Nat,idxOf p L=k∧k < L.length)∧L.any p=true:=by
 unfold idxOf
 cases h:L.findIdx? p with
 | none =>
  rw [List.findIdx?_eq_none_iff] at h
  exact .inl ⟨rfl,by rw [List.any_eq_false];intro x hx;rw [h x hx];simp⟩
 | some k =>
  rw [List.findIdx?_eq_some_iff_getElem] at h
  obtain ⟨h1,h2,_⟩:=h
  exact .inr ⟨⟨k,rfl,h1⟩,by rw [List.any_eq_true];exact ⟨_,List.getElem_mem h1,h2⟩⟩
def hasId (id:Int) (x:Od):Bool:=x.id == id
def aheadOf (o x:Od):Bool:=aheadB o x
set_option maxHeartbeats 400000 in
theorem has1_any (x:Od) (id:Int) (g:Nat) (w:World) (hg:g < w.heap.size) (h:w.cell? ⟨g,0,none⟩=some (.int .i64 id)) :
  Calls Try.prog 163 #[.agg #[.int .i64 x.id,.int .i64 x.acc,.int .i64 x.side,.int .i64 x.price,.int .i64 x.qty],.pointer (some ⟨g,0,none⟩)] w fun e w'=>e=.returned (.bool (hasId id x))∧Below w.heap.size w w':=by
 go_enter Try.func163,Try.ntmps163
 go_wp2_with fail
 go_ret
 exact ⟨rfl,(Below.refl _ _).alloc (Nat.le_refl _) _⟩
set_option maxHeartbeats 400000 in
theorem rest1_any (x o:Od) (g:Nat) (w:World) (hg:g < w.heap.size) (h0:w.cell? ⟨g,0,none⟩=some (.int .i64 o.id)) (h1:w.cell? ⟨g,1,none⟩=some (.int .i64 o.acc)) (h2:w.cell? ⟨g,2,none⟩=some (.int .i64 o.side)) (h3:w.cell? ⟨g,3,none⟩=some (.int .i64 o.price)) (h4:w.cell? ⟨g,4,none⟩=some (.int .i64 o.qty)) :
  Calls Try.prog 139 #[.agg #[.int .i64 x.id,.int .i64 x.acc,.int .i64 x.side,.int .i64 x.price,.int .i64 x.qty],.pointer (some ⟨g,0,none⟩)] w fun e w'=>e=.returned (.bool (aheadOf o x))∧Below w.heap.size w w':=by
 go_enter Try.func139,Try.ntmps139
 go_wp2_with fail
 refine (ahead_any o x _).mono ?_
 rintro e w1 ⟨rfl,hb1⟩
 go_wp2_with fail
 go_ret
 exact ⟨rfl,((Below.refl _ _).alloc (Nat.le_refl _) _).trans (hb1.mono (by simp))⟩
set_option maxHeartbeats 1000000 in
theorem idx_has (A:Option Addr) (n c:Nat) (L:List Od) (id:Int) (g:Nat) (B:Nat) (w:World) (h:Rd w B 5 A n c (odCells L)) (hB:B ≤ w.heap.size) (hg:g < w.heap.size) (hc:w.cell? ⟨g,0,none⟩=some (.int .i64 id)) :
  Calls Try.prog 138 #[.slice A n c,.func (.func 163) #[] #[.pointer (some ⟨g,0,none⟩)]] w fun e w'=>e=.returned (.int .i64 (idxOf (hasId id) L))∧Below w.heap.size w w':=by
 have hle:=h.le
 have hcap:=h.cap
 have HL:=Lib.hid (rdo_len h)
 unfold maxLen at hcap
 go_enter Try.func138,Try.ntmps138
 go_wp2_with fail
 go_loopw [8] (fun i wr=>∃ j:Nat,j ≤ n∧i=.int .i64 j∧Below w.heap.size w wr∧Hid ((L.take j).all (fun y=>!(hasId id) y)=true)) (fun i _=>n - (intOf i).toNat)
 case atStart=>exact ⟨0,Nat.zero_le _,rfl,Below.refl _ _,rfl⟩
 case round =>
  obtain ⟨j,hj,rfl,hbr,HP⟩:=hrel
  have hws:=hbr.size
  by_cases hlt:j < n
  ·obtain ⟨b,o',x,rfl,hb,hx,k0,k1,k2,k3,k4⟩:=od_at (h.below (hbr.mono hB)) hlt
   have x1:b < wr.heap.size:=by omega
   have HX:=Lib.hid hx
   clear hx
   go_wp2_with fail
   refine (has1_any _ _ _ _ (by omega) ((hbr.cell (p:=⟨g,0,none⟩) hg).trans hc)).mono ?_
   rintro e w1 ⟨rfl,hb1⟩
   have hb2:=hbr.trans (hb1.mono hws)
   clear hb1
   rcases bool_cs ((hasId id) x) with hp | hp
   ·have HN:=Lib.hid (all_next (p:=hasId id) HX.out hp HP.out)
    rw [hp]
    go_wp2_with fail
    go_roundw
    case rel=>exact ⟨j + 1,by omega,by go_num,hb2,HN⟩
    case measure=>simp [intOf];omega
   ·have HE:=Lib.hid (idxOf_found (p:=hasId id) HX.out hp HP.out)
    rw [hp]
    go_wp2_with fail
    go_ret
    exact ⟨ret_ii HE.out.symm,hb2⟩
  ·have hjn:j=n:=by omega
   have HE:=Lib.hid (idxOf_none (p:=hasId id) (L:=L) (by have:=HP.out;rw [hjn,List.take_of_length_le (by rw [HL.out];exact Nat.le_refl _)] at this;exact this))
   clear hjn
   go_wp2_with fail
   go_ret
   exact ⟨ret_ii HE.out.symm,hbr⟩
set_option maxHeartbeats 1000000 in
theorem idx_rest (A:Option Addr) (n c:Nat) (L:List Od) (o:Od) (g:Nat) (B:Nat) (w:World) (h:Rd w B 5 A n c (odCells L)) (hB:B ≤ w.heap.size) (hg:g < w.heap.size) (hc:(w.cell? ⟨g,0,none⟩=some (.int .i64 o.id)∧w.cell? ⟨g,1,none⟩=some (.int .i64 o.acc)∧w.cell? ⟨g,2,none⟩=some (.int .i64 o.side)∧w.cell? ⟨g,3,none⟩=some (.int .i64 o.price)∧w.cell? ⟨g,4,none⟩=some (.int .i64 o.qty))) :
  Calls Try.prog 138 #[.slice A n c,.func (.func 139) #[] #[.pointer (some ⟨g,0,none⟩)]] w fun e w'=>e=.returned (.int .i64 (idxOf (aheadOf o) L))∧Below w.heap.size w w':=by
 have hle:=h.le
 have hcap:=h.cap
 have HL:=Lib.hid (rdo_len h)
 unfold maxLen at hcap
 go_enter Try.func138,Try.ntmps138
 go_wp2_with fail
 go_loopw [8] (fun i wr=>∃ j:Nat,j ≤ n∧i=.int .i64 j∧Below w.heap.size w wr∧Hid ((L.take j).all (fun y=>!(aheadOf o) y)=true)) (fun i _=>n - (intOf i).toNat)
 case atStart=>exact ⟨0,Nat.zero_le _,rfl,Below.refl _ _,rfl⟩
 case round =>
  obtain ⟨j,hj,rfl,hbr,HP⟩:=hrel
  have hws:=hbr.size
  by_cases hlt:j < n
  ·obtain ⟨b,o',x,rfl,hb,hx,k0,k1,k2,k3,k4⟩:=od_at (h.below (hbr.mono hB)) hlt
   have x1:b < wr.heap.size:=by omega
   have HX:=Lib.hid hx
   clear hx
   go_wp2_with fail
   refine (rest1_any _ o _ _ (by omega) ((hbr.cell (p:=⟨g,_,none⟩) hg).trans hc.1) ((hbr.cell (p:=⟨g,_,none⟩) hg).trans hc.2.1) ((hbr.cell (p:=⟨g,_,none⟩) hg).trans hc.2.2.1) ((hbr.cell (p:=⟨g,_,none⟩) hg).trans hc.2.2.2.1) ((hbr.cell (p:=⟨g,_,none⟩) hg).trans hc.2.2.2.2)).mono ?_
   rintro e w1 ⟨rfl,hb1⟩
   have hb2:=hbr.trans (hb1.mono hws)
   clear hb1
   rcases bool_cs ((aheadOf o) x) with hp | hp
   ·have HN:=Lib.hid (all_next (p:=aheadOf o) HX.out hp HP.out)
    rw [hp]
    go_wp2_with fail
    go_roundw
    case rel=>exact ⟨j + 1,by omega,by go_num,hb2,HN⟩
    case measure=>simp [intOf];omega
   ·have HE:=Lib.hid (idxOf_found (p:=aheadOf o) HX.out hp HP.out)
    rw [hp]
    go_wp2_with fail
    go_ret
    exact ⟨ret_ii HE.out.symm,hb2⟩
  ·have hjn:j=n:=by omega
   have HE:=Lib.hid (idxOf_none (p:=aheadOf o) (L:=L) (by have:=HP.out;rw [hjn,List.take_of_length_le (by rw [HL.out];exact Nat.le_refl _)] at this;exact this))
   clear hjn
   go_wp2_with fail
   go_ret
   exact ⟨ret_ii HE.out.symm,hbr⟩
set_option maxHeartbeats 400000 in
theorem contains_has (A:Option Addr) (n c:Nat) (L:List Od) (id:Int) (g:Nat) (B:Nat) (w:World) (h:Rd w B 5 A n c (odCells L)) (hB:B ≤ w.heap.size) (hg:g < w.heap.size) (hc:w.cell? ⟨g,0,none⟩=some (.int .i64 id)) :
  Calls Try.prog 118 #[.slice A n c,.func (.func 163) #[] #[.pointer (some ⟨g,0,none⟩)]] w fun e w'=>e=.returned (.bool (L.any (hasId id)))∧Below w.heap.size w w':=by
 have HI:=Lib.hid (idxOf_lt (p:=hasId id) (L:=L))
 go_enter Try.func118,Try.ntmps118
 go_wp2_with fail
 refine (idx_has A n c L id g B _ h hB hg hc).mono ?_
 rintro e w1 ⟨rfl,hb1⟩
 rcases HI.out with ⟨h1,h2⟩ | ⟨⟨k,h1,_⟩,h2⟩
 ·have H2:=Lib.hid h2
  rw [h1]
  clear h1 h2
  go_wp2_with fail
  go_ret
  exact ⟨ret_bb H2.out.symm,hb1⟩
 ·have H2:=Lib.hid h2
  rw [h1]
  clear h1 h2
  go_wp2_with fail
  go_ret
  exact ⟨ret_bb H2.out.symm,hb1⟩
end
end Go.Proofs.Ytockodmbhnlheaa
