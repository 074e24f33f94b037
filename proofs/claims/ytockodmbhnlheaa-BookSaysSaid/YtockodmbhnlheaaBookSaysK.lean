/-
  THE LAW BookSays: holds for every input, with no condition. (Joined texts: VnMem, RBookOf, ROrders, RBookOfW, RFound.)
-/
import Derived.Test.YtockodmbhnlheaaBookSaysJ
import Derived.Test.YtockodmbhnlheaaProg
import Derived.Test.YtockodmbhnlheaaBookSaysA
import Derived.Maps.AppendAt
import Derived.Laws.AppendOwnNone
import Derived.OwnWalk
import Derived.Test.YtockodmbhnlheaaBookSaysD
import Derived.Deep.RegionHeld3
import Derived.Test.YtockodmbhnlheaaBookSaysB
import Derived.Test.YtockodmbhnlheaaBookSaysC
import Derived.Lib.AppendZeros
import Derived.Test.YtockodmbhnlheaaBookSaysF
import Derived.Test.YtockodmbhnlheaaBookSaysG
import Derived.Test.YtockodmbhnlheaaBookSaysE
import Derived.Laws.CopyOwn
import Derived.Lib.AppendZerosOnto
import Derived.Lib.Overlaps
import Derived.Laws.Externs
import Derived.Deep.RegionLaw
import Derived.Maps.Own
import Derived.Maps.OwnOps
import Derived.Maps.Views
import Derived.WalkKit
import Derived.Deep.Draws
import Derived.IntWalk
import Derived.Deep.QuietTactic
import Derived.BigQuiet
import Derived.Deep.DeepCutAuto
import Derived.WalkSpells
import Derived.WalkLawsBesides
import Derived.Lib.Hide
import Derived.Test.YtockodmbhnlheaaBookSaysH
import Derived.Shelf.SlSortFuncK.SWK
import Derived.Test.YtockodmbhnlheaaBookSaysI
import Derived.Shelf.GgSortFunc.SmallK
import Derived.Shelf.GgSortMore.Stable
import Derived.Sort.WalkA
import Derived.Deep.Cut
import Derived.Sort.LotA
namespace Go.Proofs.Ytockodmbhnlheaa
section
open Go.RowKit
def RMk (w:World) (B b o:Nat) (m:Mk):Prop :=
 ∃ A c A' c',w.cell? ⟨b,o,none⟩=some (.slice A m.book.bids.length c)∧w.cell? ⟨b,o + 1,none⟩=some (.slice A' m.book.asks.length c')∧w.cell? ⟨b,o + 2,none⟩=some (.int .i64 m.index)∧w.cell? ⟨b,o + 3,none⟩=some (.int .i64 m.last) ∧
  BkR w B A A' c c' m.book∧m.book.bids.length ≤ 4000000000000∧m.book.asks.length ≤ 4000000000000
theorem BkR.mono {w w':World} {B B' c c':Nat} {A A':Option Addr} {b:Bk} (h:BkR w B A A' c c' b) (hB:B ≤ B') (hk:∀ b o,b < B→w'.cell? ⟨b,o,none⟩=w.cell? ⟨b,o,none⟩):BkR w' B' A A' c c' b:=⟨h.l.mono hB hk,h.r.mono hB hk⟩
def shMk:Shape Mk where
 k:=4
 R:=RMk
 move:=by
  intro w w' B B' b o b' o' a h hc hB hk
  obtain ⟨A,c,A',c',h0,h1,h2,h3,h4,h5,h6⟩:=h
  exact ⟨A,c,A',c',(hc 0 (by omega)).trans h0,(hc 1 (by omega)).trans h1,(hc 2 (by omega)).trans h2,(hc 3 (by omega)).trans h3,h4.mono hB hk,h5,h6⟩
 cells:=by
  intro w B b o a h j hj
  obtain ⟨A,c,A',c',h0,h1,h2,h3,_⟩:=h
  rcases (show j=0∨j=1∨j=2∨j=3 by omega) with rfl | rfl | rfl | rfl
  ·exact ⟨_,h0,rfl⟩
  ·exact ⟨_,h1,rfl⟩
  ·exact ⟨_,h2,rfl⟩
  ·exact ⟨_,h3,rfl⟩
structure VnR (w:World) (B:Nat) (A:Option Addr) (c:Nat) (M:Option Addr) (k:Nat) (v:Vn):Prop where
 accs:RdL shAcc w B A v.accs.length c v.accs
 mks:RdL shMk w B M v.mks.length k v.mks
section
variable {w w':World} {B B' c k:Nat} {A M:Option Addr} {v:Vn}
theorem VnR.below (h:VnR w B A c M k v) (hb:Below B w w'):VnR w' B A c M k v:=⟨h.accs.below hb,h.mks.below hb⟩
theorem VnR.up (h:VnR w B A c M k v) (hB:B ≤ B'):VnR w B' A c M k v:=⟨h.accs.up hB,h.mks.up hB⟩
end
def evCells:List Ev→List Value
 | []=>[]
 | e :: l=>.int .i64 e.kind :: .int .i64 e.err :: .int .i64 e.market :: .int .i64 e.id :: .int .i64 e.acc :: .int .i64 e.n ::
   .int .i64 e.f.maker :: .int .i64 e.f.taker :: .int .i64 e.f.macc :: .int .i64 e.f.tacc :: .int .i64 e.f.side :: .int .i64 e.f.price :: .int .i64 e.f.qty :: evCells l
def AcCell (w:World) (base:Nat) (xs:List Value) (i:Nat) (a:Ac):Prop :=
 ∃ A c,xs[i * 3]?=some (.int .i64 a.id)∧xs[i * 3 + 1]?=some (.int .i64 a.bal)∧xs[i * 3 + 2]?=some (.slice A a.pos.length c)∧w.ownsRow base 3 1 (.slice A a.pos.length c) a.pos.length (ints a.pos)∧a.pos.length * 8 ≤ 140737488355328
structure OwnAc (w:World) (base:Nat) (A:Option Addr) (n c:Nat) (L:List Ac) (xs:List Value):Prop where
 row:w.ownsRow base 37 3 (.slice A n c) n xs
 len:L.length=n
 cell:∀ i a,L[i]?=some a→AcCell w base xs i a
def MkCell (w:World) (base:Nat) (xs:List Value) (i:Nat) (m:Mk):Prop :=
 ∃ A c A' c',xs[i * 4]?=some (.slice A m.book.bids.length c)∧xs[i * 4 + 1]?=some (.slice A' m.book.asks.length c')∧xs[i * 4 + 2]?=some (.int .i64 m.index)∧xs[i * 4 + 3]?=some (.int .i64 m.last)∧OBk w base A A' c c' m.book ∧
  m.book.bids.length ≤ 4000000000000∧m.book.asks.length ≤ 4000000000000
def Apart (xs:List Value):Prop:=∀ i s j t u v g,s < 2→t < 2→xs[i * 4 + s]?=some u→xs[j * 4 + t]?=some v→u.ownBlock=some g→v.ownBlock=some g→i=j∧s=t
structure OwnMk (w:World) (base:Nat) (ap:Bool) (M:Option Addr) (m k:Nat) (L:List Mk) (xs:List Value):Prop where
 row:w.ownsRow base 64 4 (.slice M m k) m xs
 len:L.length=m
 cell:∀ i a,L[i]?=some a→MkCell w base xs i a
 apart:ap=true→Apart xs
section
variable {w w':World} {base n c m k:Nat} {A M:Option Addr} {L:List Ac} {K:List Mk} {xs ys:List Value} {ap:Bool}
theorem AcCell.mono {i:Nat} {a:Ac} (h:AcCell w base xs i a) (hk:∀ v n ys,w.ownsRow base 3 1 v n ys→w'.ownsRow base 3 1 v n ys):AcCell w' base xs i a:=by
 obtain ⟨A,c,h0,h1,h2,h3,h4⟩:=h
 exact ⟨A,c,h0,h1,h2,hk _ _ _ h3,h4⟩
theorem OwnAc.mono (h:OwnAc w base A n c L xs) (h1:w'.ownsRow base 37 3 (.slice A n c) n xs) (hk:∀ v n ys,w.ownsRow base 3 1 v n ys→w'.ownsRow base 3 1 v n ys):OwnAc w' base A n c L xs :=
 ⟨h1,h.len,fun i a ha=>(h.cell i a ha).mono hk⟩
theorem OwnAc.below (h:OwnAc w base A n c L xs) (hb:Below w.heap.size w w'):OwnAc w' base A n c L xs:=h.mono (own_below h.row hb (Nat.le_refl _)) fun _ _ _ hr=>own_below hr hb (Nat.le_refl _)
theorem OwnAc.kept {S:List TypeId} (h:OwnAc w base A n c L xs) (hb:Kept S w w') (h1:37 ∉ S) (h2:3 ∉ S):OwnAc w' base A n c L xs:=h.mono (hb.own h.row h1) fun _ _ _ hr=>hb.own hr h2
theorem MkCell.mono {i:Nat} {a:Mk} (h:MkCell w base xs i a) (hk:∀ v n ys,w.ownsRow base 71 5 v n ys→w'.ownsRow base 71 5 v n ys):MkCell w' base xs i a:=by
 obtain ⟨A,c,A',c',h0,h1,h2,h3,h4,h5⟩:=h
 exact ⟨A,c,A',c',h0,h1,h2,h3,⟨hk _ _ _ h4.l,hk _ _ _ h4.r⟩,h5⟩
theorem OwnMk.mono (h:OwnMk w base ap M m k K xs) (h1:w'.ownsRow base 64 4 (.slice M m k) m xs) (hk:∀ v n ys,w.ownsRow base 71 5 v n ys→w'.ownsRow base 71 5 v n ys):OwnMk w' base ap M m k K xs :=
 ⟨h1,h.len,fun i a ha=>(h.cell i a ha).mono hk,h.apart⟩
theorem OwnMk.below (h:OwnMk w base ap M m k K xs) (hb:Below w.heap.size w w'):OwnMk w' base ap M m k K xs:=h.mono (own_below h.row hb (Nat.le_refl _)) fun _ _ _ hr=>own_below hr hb (Nat.le_refl _)
theorem OwnMk.kept {S:List TypeId} (h:OwnMk w base ap M m k K xs) (hb:Kept S w w') (h1:64 ∉ S) (h2:71 ∉ S):OwnMk w' base ap M m k K xs:=h.mono (hb.own h.row h1) fun _ _ _ hr=>hb.own hr h2
theorem OwnAc.read (h:OwnAc w base A n c L xs):RdL shAcc w w.heap.size A n c L:=by
 have hr:=Rd.of_own h.row
 refine ⟨h.len,hr.le,hr.cap,hr.nil,fun hn=>?_⟩
 obtain ⟨b,o,e,hb,hc⟩:=hr.at_ hn
 refine ⟨b,o,e,hb,fun i a ha=>?_⟩
 obtain ⟨A2,c2,k1,k2,k3,k4,k5⟩:=h.cell i a ha
 exact ⟨A2,c2,hc _ _ k1,by rw [Nat.add_assoc];exact hc _ _ k2,by rw [Nat.add_assoc];exact hc _ _ k3,Rd.of_own k4,k5⟩
theorem OwnMk.read (h:OwnMk w base ap M m k K xs):RdL shMk w w.heap.size M m k K:=by
 have hr:=Rd.of_own h.row
 refine ⟨h.len,hr.le,hr.cap,hr.nil,fun hn=>?_⟩
 obtain ⟨b,o,e,hb,hc⟩:=hr.at_ hn
 refine ⟨b,o,e,hb,fun i a ha=>?_⟩
 obtain ⟨A2,c2,A3,c3,k1,k2,k3,k4,k5,k6⟩:=h.cell i a ha
 exact ⟨A2,c2,A3,c3,hc _ _ k1,by rw [Nat.add_assoc];exact hc _ _ k2,by rw [Nat.add_assoc];exact hc _ _ k3,by rw [Nat.add_assoc];exact hc _ _ k4,k5.read,k6⟩
theorem getElem?_set_ne' {α:Type} {l:List α} {i j:Nat} {a:α} (h:i ≠ j):(l.set i a)[j]?=l[j]?:=List.getElem?_set_ne h
theorem OwnAc.put {g i:Nat} {a:Ac} {A':Option Addr} {c':Nat} (h:OwnAc w base (some ⟨g,0,none⟩) n c L xs) (hi:i < n) (hp:w.ownsRow base 3 1 (.slice A' a.pos.length c') a.pos.length (ints a.pos)) (hl:a.pos.length * 8 ≤ 140737488355328) :
  OwnAc (((w.setCell ⟨g,i * 3,none⟩ (.int .i64 a.id)).setCell ⟨g,i * 3 + 1,none⟩ (.int .i64 a.bal)).setCell ⟨g,i * 3 + 2,none⟩ (.slice A' a.pos.length c')) base (some ⟨g,0,none⟩) n c (L.set i a)
   (((xs.set (i * 3) (.int .i64 a.id)).set (i * 3 + 1) (.int .i64 a.bal)).set (i * 3 + 2) (.slice A' a.pos.length c')):=by
 have hlen:=h.row.1
 have hk:∀ v n ys,w.ownsRow base 3 1 v n ys→(((w.setCell ⟨g,i * 3,none⟩ (.int .i64 a.id)).setCell ⟨g,i * 3 + 1,none⟩ (.int .i64 a.bal)).setCell ⟨g,i * 3 + 2,none⟩ (.slice A' a.pos.length c')).ownsRow base 3 1 v n ys:=by
  intro v n ys hv
  obtain ⟨g',cs,e1,_,hb⟩:=own_blk h.row (by omega)
  injection e1 with e1
  injection e1 with e1
  subst e1
  refine Kept.own (S:=[37]) ?_ hv (by decide)
  exact (((Kept.refl _ _).set hb (by decide) _ _).set (hb.set_ _ _) (by decide) _ _).set ((hb.set_ _ _).set_ _ _) (by decide) _ _
 refine ⟨own_store (own_store (own_store h.row _ _) _ _) _ _,by rw [List.length_set];exact h.len,fun j b hb=>?_⟩
 by_cases e:j=i
 ·subst e
  have:b=a:=by
   rw [List.getElem?_set_self (by rw [h.len];exact hi)] at hb
   injection hb with hb;exact hb.symm
  subst this
  refine ⟨A',c',?_,?_,?_,hk _ _ _ hp,hl⟩
  ·rw [getElem?_set_ne' (by omega),getElem?_set_ne' (by omega),List.getElem?_set_self (by omega)]
  ·rw [getElem?_set_ne' (by omega),List.getElem?_set_self (by rw [List.length_set];omega)]
  ·rw [List.getElem?_set_self (by rw [List.length_set,List.length_set];omega)]
 ·rw [getElem?_set_ne' (Ne.symm e)] at hb
  obtain ⟨A2,c2,k1,k2,k3,k4,k5⟩:=h.cell j b hb
  refine ⟨A2,c2,?_,?_,?_,hk _ _ _ k4,k5⟩
  ·rw [getElem?_set_ne' (by omega),getElem?_set_ne' (by omega),getElem?_set_ne' (by omega)];exact k1
  ·rw [getElem?_set_ne' (by omega),getElem?_set_ne' (by omega),getElem?_set_ne' (by omega)];exact k2
  ·rw [getElem?_set_ne' (by omega),getElem?_set_ne' (by omega),getElem?_set_ne' (by omega)];exact k3
end
theorem Blk.grown {w w':World} {g:Nat} {t:TypeId} {cs:Array Value} {b:Option Nat} (h:Blk w g t cs) (hg:w.grownBy w' b) (hne:b ≠ some g):Blk w' g t cs:=(hg.block g h.lt fun e=>hne e.symm).trans h
structure Desk (w:World) (base D:Nat) (ap:Bool) (d:Dk) (A:Option Addr) (c:Nat) (M:Option Addr) (k:Nat) (vE:Value) (xs ys:List Value):Prop where
 blk:Blk w D 174 #[.slice A d.v.accs.length c,.slice M d.v.mks.length k,.int .i64 d.v.ins,.int .i64 d.v.resid,.int .i64 d.v.next,.int .i64 d.v.inn,.int .i64 d.v.out,vE]
 low:base ≤ D
 accs:OwnAc w base A d.v.accs.length c d.v.accs xs
 mks:OwnMk w base ap M d.v.mks.length k d.v.mks ys
 evs:w.ownsRow base 124 13 vE d.ev.length (evCells d.ev)
section
variable {w w':World} {base D c k:Nat} {ap:Bool} {d:Dk} {A M:Option Addr} {vE:Value} {xs ys:List Value}
theorem Desk.below (h:Desk w base D ap d A c M k vE xs ys) (hb:Below w.heap.size w w'):Desk w' base D ap d A c M k vE xs ys :=
 ⟨h.blk.below hb h.blk.lt,h.low,h.accs.below hb,h.mks.below hb,own_below h.evs hb (Nat.le_refl _)⟩
theorem Desk.lt (h:Desk w base D ap d A c M k vE xs ys):D < w.heap.size:=h.blk.lt
end
end
section
open Go.RowKit Go.Sort Go.Lib
theorem odCells_flat {s:Int}:∀ {L:List Od},(∀ o ∈ L,o.side=s)→odCells L=L.flatMap (encS s)
 | [],_=>rfl
 | o :: l,h=>by
  rw [List.flatMap_cons,← odCells_flat (fun x hx=>h x (List.mem_cons_of_mem _ hx)),odCells,h o List.mem_cons_self]
  rfl
theorem sort_eq {s:Int} {L L' X:List Od} {n:Nat} (hp:L'.Perm L) (hX:X.Perm L) (hs:∀ o ∈ X,o.side=s) (hso:Sorted X) (hnd:(X.map Od.id).Nodup) (hl:L'.length=n) (hF:SoF (ltS s) 0 n (atA L'.toArray)):L'=X:=by
 have hpx:L'.Perm X:=hp.trans hX.symm
 have hs':∀ o ∈ L',o.side=s:=fun o ho=>hs o (hpx.mem_iff.1 ho)
 have hnd':(L'.map Od.id).Nodup:=(hpx.map Od.id).nodup_iff.2 hnd
 refine sorted_ext hs' hs ?_ hso (fun o=>hpx.mem_iff)
 unfold Sorted
 rw [List.pairwise_iff_getElem]
 intro i j hi hj hij
 have h0:=hF i j (Nat.zero_le _) hij (by omega)
 have e1:atA L'.toArray j=L'[j]:=by unfold atA;simp [getElem!_pos L'.toArray j (by simpa using hj)]
 have e2:atA L'.toArray i=L'[i]:=by unfold atA;simp [getElem!_pos L'.toArray i (by simpa using hi)]
 rw [e1,e2] at h0
 have m1:=hs' _ (List.getElem_mem hi)
 have m2:=hs' _ (List.getElem_mem hj)
 have h1:aheadB L'[j] L'[i]=false:=by
  have q1:atSide s L'[j]=L'[j]:=by unfold atSide;rw [← m2]
  have q2:atSide s L'[i]=L'[i]:=by unfold atSide;rw [← m1]
  unfold ltS at h0
  rwa [q1,q2] at h0
 refine ahead_total (m2.trans m1.symm) (fun he=>?_) h1
 have:=List.pairwise_iff_getElem.1 hnd' i j (by simpa using hi) (by simpa using hj) hij
 simp at this
 exact this he.symm
theorem perm_small {L X:List Od} (h:X.Perm L) (hl:L.length ≤ 1):L=X:=by
 match L,hl with
 | [],_=>exact h.eq_nil.symm
 | [a],_=>exact (List.perm_singleton.1 h).symm
def isBid (o:Od):Bool:=decide (o.qty ≠ 0) && decide (o.side=1)
def isAsk (o:Od):Bool:=decide (o.qty ≠ 0) && !decide (o.side=1)
structure BkOf (l:List Od) (X:Bk):Prop where
 pb:X.bids.Perm (l.filter isBid)
 pa:X.asks.Perm (l.filter isAsk)
 sb:Sorted X.bids
 sa:Sorted X.asks
 b1:∀ o ∈ X.bids,o.side=1
 a1:∀ o ∈ X.asks,o.side = -1
 nb:(X.bids.map Od.id).Nodup
 na:(X.asks.map Od.id).Nodup
theorem filter_snoc {l:List Od} {p:Od→Bool} {j:Nat} {x:Od} (hx:l[j]?=some x):(l.take (j + 1)).filter p=(l.take j).filter p ++ if p x then [x] else []:=by
 rw [List.take_add_one,hx,List.filter_append]
 congr 1
 simp only [Option.toList]
 by_cases h:p x <;> simp [h]
theorem filter_len {l:List Od} {p:Od→Bool} (j:Nat):((l.take j).filter p).length ≤ l.length:=Nat.le_trans (List.length_filter_le _ _) (by rw [List.length_take];exact Nat.min_le_right _ _)
structure BoxB (w:World) (base Bp:Nat) (v v':Value) (L M:List Od):Prop where
 bx:Blk w Bp 62 #[v,v']
 l:w.ownsRow base 71 5 v L.length (odCells L)
 r:w.ownsRow base 71 5 v' M.length (odCells M)
 ap:v.ownBlock=none∨v.ownBlock ≠ v'.ownBlock
 ap':v'.ownBlock=none∨v'.ownBlock ≠ v.ownBlock
 lt:Bp < base
theorem own_ge {w:World} {base e k n:Nat} {v:Value} {xs:List Value} (h:w.ownsRow base e k v n xs):v.ownBlock ≠ none→∃ g,v.ownBlock=some g∧base ≤ g∧g < w.heap.size:=by
 intro hv
 obtain ⟨_,⟨h1,_⟩ | ⟨g,cap,cur,h1,hb0,hb,_⟩⟩:=h
 ·rw [h1] at hv;exact absurd rfl hv
 ·exact ⟨g,by rw [h1];rfl,hb0,Blk.lt (t:=e) (cs:=cur) hb⟩
theorem BoxB.ne_l {w:World} {base Bp:Nat} {v v':Value} {L M:List Od} (h:BoxB w base Bp v v' L M) {x:Nat} (hx:x < base):v.ownBlock ≠ some x:=fun e=>by
 obtain ⟨g,e1,e2,_⟩:=own_ge h.l (by rw [e];simp)
 rw [e] at e1;injection e1;omega
theorem BoxB.ne_r {w:World} {base Bp:Nat} {v v':Value} {L M:List Od} (h:BoxB w base Bp v v' L M) {x:Nat} (hx:x < base):v'.ownBlock ≠ some x:=fun e=>by
 obtain ⟨g,e1,e2,_⟩:=own_ge h.r (by rw [e];simp)
 rw [e] at e1;injection e1;omega
theorem BoxB.below {w w1:World} {base Bp:Nat} {v v':Value} {L M:List Od} (h:BoxB w base Bp v v' L M) (hb:Below w.heap.size w w1):BoxB w1 base Bp v v' L M :=
 ⟨h.bx.below hb h.bx.lt,own_below h.l hb (Nat.le_refl _),own_below h.r hb (Nat.le_refl _),h.ap,h.ap',h.lt⟩
theorem at_ne {w:World} {base e k n:Nat} {v v1 v':Value} {xs:List Value} (hr:w.ownsRow base e k v' n xs) (h:v1.ownBlock=v.ownBlock∨v1.ownBlock=some w.heap.size) (ha:v.ownBlock=none∨v.ownBlock ≠ v'.ownBlock):v1.ownBlock=none∨v1.ownBlock ≠ v'.ownBlock:=by
 rcases h with h | h
 ·rw [h];exact ha
 ·right
  intro e
  obtain ⟨g,e1,_,e3⟩:=own_ge hr (by rw [← e,h];simp)
  rw [← e,h] at e1;injection e1;omega
theorem or_flip {a b:Option Nat} (h:a=none∨a ≠ b):b=none∨b ≠ a:=by
 cases b with
 | none=>exact .inl rfl
 | some x =>
  right
  intro e
  rcases h with h | h
  ·rw [h] at e;cases e
  ·exact h e.symm
theorem BoxB.app_l {w w1:World} {base Bp:Nat} {v v' v1:Value} {L M:List Od} {x:Od} (h:BoxB w base Bp v v' L M) (ho:w1.ownsRow base 71 5 v1 (L.length + 1) (odCells L ++ odCells [x])) (hg:w.grownBy w1 v.ownBlock)
  (ha:v1.ownBlock=v.ownBlock∨v1.ownBlock=some w.heap.size):BoxB (w1.setCell ⟨Bp,0,none⟩ v1) base Bp v1 v' (L ++ [x]) M:=by
 have hq:=at_ne h.r ha h.ap
 refine ⟨?_,?_,?_,hq,or_flip hq,h.lt⟩
 ·have:=(h.bx.grown hg (h.ne_l h.lt)).set_ 0 v1
  simpa using this
 ·rw [← odCells_app] at ho
  rw [List.length_append]
  exact ownsRow_setCell_below ho h.lt _
 ·exact ownsRow_setCell_below (World.ownsRow.kept h.r hg h.ap') h.lt _
theorem BoxB.app_r {w w1:World} {base Bp:Nat} {v v' v1:Value} {L M:List Od} {x:Od} (h:BoxB w base Bp v v' L M) (ho:w1.ownsRow base 71 5 v1 (M.length + 1) (odCells M ++ odCells [x])) (hg:w.grownBy w1 v'.ownBlock)
  (ha:v1.ownBlock=v'.ownBlock∨v1.ownBlock=some w.heap.size):BoxB (w1.setCell ⟨Bp,1,none⟩ v1) base Bp v v1 L (M ++ [x]):=by
 have hq:=at_ne h.l ha h.ap'
 refine ⟨?_,?_,?_,or_flip hq,hq,h.lt⟩
 ·have:=(h.bx.grown hg (h.ne_r h.lt)).set_ 1 v1
  simpa using this
 ·exact ownsRow_setCell_below (World.ownsRow.kept h.l hg h.ap) h.lt _
 ·rw [← odCells_app] at ho
  rw [List.length_append]
  exact ownsRow_setCell_below ho h.lt _
end
section
open Go.RowKit
set_option maxHeartbeats 2000000 in
set_option maxRecDepth 100000 in
theorem rorders_any (b:Bk) (A A':Option Addr) (c c' B:Nat) (w:World) (h:BkR w B A A' c c' b) (hB:B ≤ w.heap.size) (hl:(b.bids.length + b.asks.length) * 40 ≤ 140737488355328) :
  Calls Try.prog 148 #[.agg #[.slice A b.bids.length c,.slice A' b.asks.length c']] w (RetRow w 71 5 (b.bids.length + b.asks.length) (odCells (b.bids ++ b.asks))):=by
 have HO:Hid ((((w.alloc (.cells #[.slice A b.bids.length c,.slice A' b.asks.length c'] 62)).alloc (.cells #[] 71)).drewN 1).ownsRow (w.heap.size + 1) 71 5 (.slice (some ⟨w.heap.size + 1,0,none⟩) 0 0) 0 []) :=
  Lib.hid (own_drewN (own_lit_at (w.alloc (.cells #[.slice A b.bids.length c,.slice A' b.asks.length c'] 62)) #[] (w.heap.size + 1) 0 (by simp) (by simp) (by decide) rfl) 1)
 have hbw:Below w.heap.size w (((w.alloc (.cells #[.slice A b.bids.length c,.slice A' b.asks.length c'] 62)).alloc (.cells #[] 71)).drewN 1):=below_drewN (((Below.refl _ _).alloc (Nat.le_refl _) _).alloc (by simp) _) 1
 have HA:=Lib.hid (h.l.below (hbw.mono hB))
 have HA':=Lib.hid (h.r.below (hbw.mono hB))
 have HBW:=Lib.hid hbw
 have HK:Hid (Blk (((w.alloc (.cells #[.slice A b.bids.length c,.slice A' b.asks.length c'] 62)).alloc (.cells #[] 71)).drewN 1) w.heap.size 62 #[.slice A b.bids.length c,.slice A' b.asks.length c']):=Lib.hid (((Blk.new w _ _).alloc _).drewN 1)
 have hm:b.bids.length + b.asks.length ≤ maxLen:=by simp only [maxLen];omega
 have HM:=Lib.hid hm
 clear h hbw hm
 go_enter Try.func148,Try.ntmps148
 go_wp2_with fail
 go_region_law (first
  | (refine step_app rfl (.tmp 3) (.tmp 5) 60 rfl (w.heap.size + 1) 71 5 40 elem_od (.slice (some ⟨w.heap.size + 1,0,none⟩) 0 0) 0 [] (by simp [Act.eval]) HO.out B A b.bids.length c (odCells b.bids) (by simp [Act.eval]) HA.out (odCells_one _) (by have:=HM.out;omega) (by omega) (by simp) ?_;intro v1 w1 hown1 hb1 hgr1 hat1;obtain ⟨A1,c1,rfl⟩:=own_shape hown1;have l1:=(HK.out.below hb1 (by omega)).c2.1.2)
  | (refine step_app rfl (.tmp 6) (.tmp 8) 60 rfl (w.heap.size + 1) 71 5 40 elem_od _ _ _ (by simp [Act.eval]) hown1 B A' b.asks.length c' (odCells b.asks) (by simp [Act.eval]) (HA'.out.below (hb1.mono (by omega))) (odCells_one _) (by have:=HM.out;omega) (by omega) (by have:=hb1.size;simp at this;omega) ?_;intro v2 w2 hown2 hb2 hgr2 hat2))
 all_goals
  have HO2:=Lib.hid (show w2.ownsRow w.heap.size 71 5 v2 (b.bids.length + b.asks.length) (odCells (b.bids ++ b.asks)) from by
   rw [odCells_app]
   have:=own_mono (base:=w.heap.size + 1) (base':=w.heap.size) hown2 (by omega)
   simpa using this)
  have HB2:=Lib.hid (HBW.out.trans ((hb1.trans hb2).mono (by omega)))
  clear hown1 hown2 hb1 hb2 hgr1 hgr2 hat1 hat2 l1
  go_wp2_with fail
  go_ret
  exact ⟨_,rfl,HO2.out,HB2.out⟩
end
section
open Go.RowKit Go.Sort Go.Lib
theorem own_some {w:World} {base e k n:Nat} {v:Value} {xs:List Value} (h:w.ownsRow base e k v n xs) (hn:0 < n):∃ g cap,v=.slice (some ⟨g,0,none⟩) n cap∧base ≤ g:=by
 obtain ⟨_,⟨_,h1⟩ | ⟨g,cap,cur,h1,hb0,_⟩⟩:=h
 ·omega
 ·exact ⟨g,cap,h1,hb0⟩
theorem sort_bids {base Bp:Nat} {v v':Value} {L M X:List Od} {w:World} (H:BoxB w base Bp v v' L M) (hB:base ≤ w.heap.size) (h40:L.length ≤ 40) (hX:X.Perm L) (hs:∀ o ∈ X,o.side=1) (hso:Sorted X) (hnd:(X.map Od.id).Nodup) :
  Calls Try.prog 168 #[.iface 60 v,.func (.func 169) #[] #[.pointer (some ⟨Bp,0,none⟩)]] w fun e w'=>e=.returned (.tuple #[])∧BoxB w' base Bp v v' X M∧Below base w w':=by
 have hlen:L.length=X.length:=hX.length_eq.symm
 by_cases h1:L.length ≤ 1
 ·have hLX:=perm_small hX h1
  subst hLX
  obtain ⟨A,c,rfl⟩:=own_shape H.l
  exact (slst_tiny A L.length c h1 _ _ _ w).mono fun e w' ⟨he,hb⟩=>⟨he,H.below hb,hb.mono hB⟩
 ·have hsL:∀ o ∈ L,o.side=1:=fun o ho=>hs o (hX.mem_iff.2 ho)
  obtain ⟨g,cap,rfl,hg⟩:=own_some H.l (by omega)
  have hown:=H.l
  rw [odCells_flat hsL] at hown
  have hgl:=(own_lt hown).1
  have hne:Bp ≠ g:=by have:=H.lt;omega
  refine (slst_bids Bp g L.length cap base 1 L w hown rfl (by omega) h40 (H.bx.cell 0) hne H.bx.lt).mono ?_
  rintro e w' ⟨rfl,L',⟨hp,hl,hF⟩,hS⟩
  have hLX:=sort_eq hp hX hs hso hnd hl hF
  subst hLX
  have hh:∀ x,x ≠ g→x < w.heap.size→w'.heap[x]?=w.heap[x]?:=fun x h1 h2=>hS.heap h1 h2
  refine ⟨rfl,⟨?_,?_,?_,H.ap,H.ap',H.lt⟩,swk_below hS hg hgl⟩
  ·exact (hh Bp hne H.bx.lt).trans H.bx
  ·rw [← hlen,odCells_flat hs]
   exact own_swk (encS_len 1) hown hl hS
  ·refine own_other H.r hh fun e=>?_
   rcases H.ap' with q | q
   ·rw [q] at e;cases e
   ·exact q (e.trans rfl)
theorem sort_asks {base Bp:Nat} {v v':Value} {L M X:List Od} {w:World} (H:BoxB w base Bp v v' M L) (hB:base ≤ w.heap.size) (h40:L.length ≤ 40) (hX:X.Perm L) (hs:∀ o ∈ X,o.side = -1) (hso:Sorted X) (hnd:(X.map Od.id).Nodup) :
  Calls Try.prog 168 #[.iface 60 v',.func (.func 170) #[] #[.pointer (some ⟨Bp,0,none⟩)]] w fun e w'=>e=.returned (.tuple #[])∧BoxB w' base Bp v v' M X∧Below base w w':=by
 have hlen:L.length=X.length:=hX.length_eq.symm
 by_cases h1:L.length ≤ 1
 ·have hLX:=perm_small hX h1
  subst hLX
  obtain ⟨A,c,rfl⟩:=own_shape H.r
  exact (slst_tiny A L.length c h1 _ _ _ w).mono fun e w' ⟨he,hb⟩=>⟨he,H.below hb,hb.mono hB⟩
 ·have hsL:∀ o ∈ L,o.side = -1:=fun o ho=>hs o (hX.mem_iff.2 ho)
  obtain ⟨g,cap,rfl,hg⟩:=own_some H.r (by omega)
  have hown:=H.r
  rw [odCells_flat hsL] at hown
  have hgl:=(own_lt hown).1
  have hne:Bp ≠ g:=by have:=H.lt;omega
  refine (slst_asks Bp g L.length cap base (-1) L w hown rfl (by omega) h40 (H.bx.cell 1) hne H.bx.lt).mono ?_
  rintro e w' ⟨rfl,L',⟨hp,hl,hF⟩,hS⟩
  have hLX:=sort_eq hp hX hs hso hnd hl hF
  subst hLX
  have hh:∀ x,x ≠ g→x < w.heap.size→w'.heap[x]?=w.heap[x]?:=fun x h1 h2=>hS.heap h1 h2
  refine ⟨rfl,⟨?_,?_,?_,H.ap,H.ap',H.lt⟩,swk_below hS hg hgl⟩
  ·exact (hh Bp hne H.bx.lt).trans H.bx
  ·refine own_other H.l hh fun e=>?_
   rcases H.ap with q | q
   ·rw [q] at e;cases e
   ·exact q (e.trans rfl)
  ·rw [← hlen,odCells_flat hs]
   exact own_swk (encS_len (-1)) hown hl hS
set_option maxHeartbeats 4000000 in
set_option maxRecDepth 100000 in
theorem rbookOf_any (l:List Od) (A:Option Addr) (n c B:Nat) (X:Bk) (w:World) (h:Rd w B 5 A n c (odCells l)) (hB:B ≤ w.heap.size) (hX:BkOf l X) (hn:n ≤ 40) :
  Calls Try.prog 150 #[.slice A n c] w fun e w'=>∃ v,e=.returned v∧OwnBk w' w.heap.size v X∧Below w.heap.size w w':=by
 have hl:=rdo_len h
 have HL:=Lib.hid hl
 clear hl
 go_enter Try.func150,Try.ntmps150
 go_wp2_with fail
 obtain ⟨W0,hW0⟩:∃ W,W=(w.alloc (.cells #[.slice none 0 0,.slice none 0 0] 62)).alloc (.cells #[.slice none 0 0,.slice none 0 0] 62):=⟨_,rfl⟩
 have hb0:Below w.heap.size w W0:=by rw [hW0];exact ((Below.refl _ _).alloc (Nat.le_refl _) _).alloc (by simp) _
 have hs0:W0.heap.size=w.heap.size + 1 + 1:=by rw [hW0];simp
 have R0:Blk W0 w.heap.size 62 #[.slice none 0 0,.slice none 0 0]:=by rw [hW0];exact (Blk.new w _ _).alloc _
 have X0:Blk W0 (w.heap.size + 1) 62 #[.slice none 0 0,.slice none 0 0]:=by rw [hW0];exact Blk.new_at _ _ _ _ (by simp)
 rw [← hW0]
 clear hW0
 go_loopw [8] (fun vi wr=>∃ (j:Nat) (v v':Value),vi=.int .i64 j∧j ≤ n∧w.heap.size + 1 + 1 ≤ wr.heap.size∧Hid (BoxB wr (w.heap.size + 1 + 1) (w.heap.size + 1) v v' ((l.take j).filter isBid) ((l.take j).filter isAsk))∧Hid (Blk wr w.heap.size 62 #[.slice none 0 0,.slice none 0 0])∧Hid (Below w.heap.size w wr)) (fun vi _=>n - (intOf vi).toNat)
 case atStart=>exact ⟨0,_,_,rfl,Nat.zero_le _,by omega,Lib.hid ⟨X0,World.ownsRow_nil _ _ _ _,World.ownsRow_nil _ _ _ _,.inl rfl,.inl rfl,by omega⟩,Lib.hid R0,Lib.hid hb0⟩
 case round =>
  obtain ⟨j,v,v',rfl,hj,hz,HX,HR,HB⟩:=hrel
  obtain ⟨L,hL⟩:∃ L,L=(l.take j).filter isBid:=⟨_,rfl⟩
  obtain ⟨M,hM⟩:∃ M,M=(l.take j).filter isAsk:=⟨_,rfl⟩
  have hl40:L.length ≤ n:=by rw [hL,← HL.out];exact filter_len j
  have hm40:M.length ≤ n:=by rw [hM,← HL.out];exact filter_len j
  rw [← hL,← hM] at HX
  have HLL:=Lib.hid hL
  have HMM:=Lib.hid hM
  clear hL hM
  obtain ⟨Av,cv,rfl⟩:=own_shape HX.out.l
  obtain ⟨Aw,cw,rfl⟩:=own_shape HX.out.r
  by_cases hlt:j < n
  ·obtain ⟨g,o,x,rfl,hg,hx,k0,k1,k2,k3,k4⟩:=od_at (h.below (HB.out.mono hB)) hlt
   have HXX:=Lib.hid hx
   clear hx
   have hgs:g < wr.heap.size:=by omega
   go_upto_region 5 with (fail)
   obtain ⟨W2,hW2⟩:∃ W,W=wr.alloc (.cells #[.int .i64 x.id,.int .i64 x.acc,.int .i64 x.side,.int .i64 x.price,.int .i64 x.qty] 71):=⟨_,rfl⟩
   have hb2:Below wr.heap.size wr W2:=by rw [hW2];exact (Below.refl _ _).alloc (Nat.le_refl _) _
   have XE:Blk W2 wr.heap.size 71 #[.int .i64 x.id,.int .i64 x.acc,.int .i64 x.side,.int .i64 x.price,.int .i64 x.qty]:=by rw [hW2];exact Blk.new wr _ _
   have hs2:W2.heap.size=wr.heap.size + 1:=by rw [hW2];simp
   rw [← hW2]
   clear hW2 k0 k1 k2 k3 k4
   have HX2:=Lib.hid (HX.out.below hb2)
   have HR2:=Lib.hid (HR.out.below hb2 HR.out.lt)
   have HB2:=Lib.hid (HB.out.trans (hb2.mono (by omega)))
   obtain ⟨⟨b0,b1,b2,b3,b4⟩,-⟩:=XE.c5
   obtain ⟨⟨c0,c1⟩,f0,f1⟩:=HX2.out.bx.c2
   have hbz:=HX2.out.bx.lt
   by_cases hq:x.qty=0
   ·have hq':(x.qty == 0)=true:=by simpa using hq
    have e1:isBid x=false:=by unfold isBid;simp [hq]
    have e2:isAsk x=false:=by unfold isAsk;simp [hq]
    have HN1:=Lib.hid (show (l.take (j + 1)).filter isBid=L by rw [filter_snoc HXX.out,e1,HLL.out];simp)
    have HN2:=Lib.hid (show (l.take (j + 1)).filter isAsk=M by rw [filter_snoc HXX.out,e2,HMM.out];simp)
    clear hq e1 e2
    go_wp2_with fail
    go_roundw
    case rel=>exact ⟨j + 1,_,_,by go_num,by omega,by omega,by rw [HN1.out,HN2.out];exact HX2,HR2,HB2⟩
    case measure=>simp [intOf];omega
   ·have hq':(x.qty == 0)=false:=by simpa using hq
    by_cases hsd:x.side=1
    ·have hs':(x.side == 1)=true:=by simpa using hsd
     have e1:isBid x=true:=by unfold isBid;simp [hq,hsd]
     have e2:isAsk x=false:=by unfold isAsk;simp [hsd]
     have HN1:=Lib.hid (show (l.take (j + 1)).filter isBid=L ++ [x] by rw [filter_snoc HXX.out,e1,HLL.out];simp)
     have HN2:=Lib.hid (show (l.take (j + 1)).filter isAsk=M by rw [filter_snoc HXX.out,e2,HMM.out];simp)
     clear hq hsd e1 e2
     go_wp2_with (at_builtin;refine wpList_app rfl _ _ _ rfl (w.heap.size + 1 + 1) _ _ _ elem_od (.slice Av L.length cv) _ _ rfl (World.ownsRow.alloc HX2.out.l _) (wr.heap.size + 1 + 1) _ 1 1 (odCells [x]) rfl (rd_one_od W2 x (wr.heap.size + 1) hs2.symm) (odCells_one _) (by unfold maxLen;omega) (by omega) (by simp;omega) ?_;intro v1 w7 hown7 hbel7 hgr7 hat7;obtain ⟨A7,c7,rfl⟩:=own_shape hown7;have HBX:=(HX2.out.below ((Below.refl W2.heap.size W2).alloc (Nat.le_refl _) (.cells #[.int .i64 x.id,.int .i64 x.acc,.int .i64 x.side,.int .i64 x.price,.int .i64 x.qty] 71)));obtain ⟨⟨d0,d1⟩,ff0,ff1⟩:=(HBX.bx.grown hgr7 (HBX.ne_l HBX.lt)).c2;have hs7:=hbel7.size)
     have HX3:=Lib.hid (HBX.app_l hown7 hgr7 (by simpa using hat7))
     have HR3:=Lib.hid ((Blk.below (HR2.out.alloc (.cells #[.int .i64 x.id,.int .i64 x.acc,.int .i64 x.side,.int .i64 x.price,.int .i64 x.qty] 71)) hbel7 (by omega)).far (p:=⟨w.heap.size + 1,0,none⟩) (by simp) (.slice A7 (L.length + 1) c7))
     have HB3:=Lib.hid ((HB2.out.trans (((Below.refl w.heap.size W2).alloc (by omega) (.cells #[.int .i64 x.id,.int .i64 x.acc,.int .i64 x.side,.int .i64 x.price,.int .i64 x.qty] 71)).trans (hbel7.mono (by omega)))).setCell (p:=⟨w.heap.size + 1,0,none⟩) (by simp) (.slice A7 (L.length + 1) c7))
     have hz3:w.heap.size + 1 + 1 ≤ w7.heap.size:=by simp at hs7;omega
     clear hown7 hbel7 hgr7 hat7 HBX
     go_roundw
     case rel=>exact ⟨j + 1,_,_,by go_num,by omega,by simp;omega,by rw [HN1.out,HN2.out];exact HX3,HR3,HB3⟩
     case measure=>simp [intOf];omega
    ·have hs':(x.side == 1)=false:=by simpa using hsd
     have e1:isBid x=false:=by unfold isBid;simp [hsd]
     have e2:isAsk x=true:=by unfold isAsk;simp [hq,hsd]
     have HN1:=Lib.hid (show (l.take (j + 1)).filter isBid=L by rw [filter_snoc HXX.out,e1,HLL.out];simp)
     have HN2:=Lib.hid (show (l.take (j + 1)).filter isAsk=M ++ [x] by rw [filter_snoc HXX.out,e2,HMM.out];simp)
     clear hq hsd e1 e2
     go_wp2_with (at_builtin;refine wpList_app rfl _ _ _ rfl (w.heap.size + 1 + 1) _ _ _ elem_od (.slice Aw M.length cw) _ _ rfl (World.ownsRow.alloc HX2.out.r _) (wr.heap.size + 1 + 1) _ 1 1 (odCells [x]) rfl (rd_one_od W2 x (wr.heap.size + 1) hs2.symm) (odCells_one _) (by unfold maxLen;omega) (by omega) (by simp;omega) ?_;intro v1 w7 hown7 hbel7 hgr7 hat7;obtain ⟨A7,c7,rfl⟩:=own_shape hown7;have HBX:=(HX2.out.below ((Below.refl W2.heap.size W2).alloc (Nat.le_refl _) (.cells #[.int .i64 x.id,.int .i64 x.acc,.int .i64 x.side,.int .i64 x.price,.int .i64 x.qty] 71)));obtain ⟨⟨d0,d1⟩,ff0,ff1⟩:=(HBX.bx.grown hgr7 (HBX.ne_r HBX.lt)).c2;have hs7:=hbel7.size)
     have HX3:=Lib.hid (HBX.app_r hown7 hgr7 (by simpa using hat7))
     have HR3:=Lib.hid ((Blk.below (HR2.out.alloc (.cells #[.int .i64 x.id,.int .i64 x.acc,.int .i64 x.side,.int .i64 x.price,.int .i64 x.qty] 71)) hbel7 (by omega)).far (p:=⟨w.heap.size + 1,1,none⟩) (by simp) (.slice A7 (M.length + 1) c7))
     have HB3:=Lib.hid ((HB2.out.trans (((Below.refl w.heap.size W2).alloc (by omega) (.cells #[.int .i64 x.id,.int .i64 x.acc,.int .i64 x.side,.int .i64 x.price,.int .i64 x.qty] 71)).trans (hbel7.mono (by omega)))).setCell (p:=⟨w.heap.size + 1,1,none⟩) (by simp) (.slice A7 (M.length + 1) c7))
     have hz3:w.heap.size + 1 + 1 ≤ w7.heap.size:=by simp at hs7;omega
     clear hown7 hbel7 hgr7 hat7 HBX
     go_roundw
     case rel=>exact ⟨j + 1,_,_,by go_num,by omega,by simp;omega,by rw [HN1.out,HN2.out];exact HX3,HR3,HB3⟩
     case measure=>simp [intOf];omega
  ·have hjn:j=n:=by omega
   have hLl:L=l.filter isBid:=by rw [HLL.out,hjn,List.take_of_length_le (by rw [HL.out];exact Nat.le_refl _)]
   have hMl:M=l.filter isAsk:=by rw [HMM.out,hjn,List.take_of_length_le (by rw [HL.out];exact Nat.le_refl _)]
   have HP1:=Lib.hid (show X.bids.Perm L by rw [hLl];exact hX.pb)
   have HP2:=Lib.hid (show X.asks.Perm M by rw [hMl];exact hX.pa)
   have HC:=Lib.hid (sort_bids HX.out hz (by omega) HP1.out hX.b1 hX.sb hX.nb)
   obtain ⟨⟨c0,c1⟩,f0,f1⟩:=HX.out.bx.c2
   clear hLl hMl hjn
   go_upto_region 11 with (go_at_call 168;(with_reducible refine HC.out.mono ?_);rintro e w2 ⟨rfl,hx2,hb2⟩;clear c0 c1 f0 f1;obtain ⟨⟨c0,c1⟩,f0,f1⟩:=hx2.bx.c2)
   have HX2:=Lib.hid hx2
   have hs2:=hb2.size
   have HB2:=Lib.hid (HB.out.trans (hb2.mono (by omega)))
   have HR2:=Lib.hid (HR.out.below hb2 (by omega))
   clear hx2 hb2 HC
   have HC:=Lib.hid (sort_asks HX2.out (by omega) (by omega) HP2.out hX.a1 hX.sa hX.na)
   obtain ⟨⟨r0,r1⟩,g0,g1⟩:=HR2.out.c2
   go_wp2_with (go_at_call 168;(with_reducible refine HC.out.mono ?_);rintro e w3 ⟨rfl,hx3,hb3⟩;clear c0 c1 f0 f1 r0 r1 g0 g1;obtain ⟨⟨c0,c1⟩,f0,f1⟩:=hx3.bx.c2;obtain ⟨⟨r0,r1⟩,g0,g1⟩:=(HR2.out.below hb3 (by omega)).c2)
   have HX3:=Lib.hid hx3
   have hs3:=hb3.size
   have HB3:=Lib.hid (HB2.out.trans (hb3.mono (by omega)))
   have HR3:=Lib.hid (HR2.out.below hb3 (by omega))
   clear hx3 hb3 HC
   refine bodyPost_ret (v:=.agg #[.slice Av L.length cv,.slice Aw M.length cw]) (by simp [results,Try.results150,go_sem, *]) rfl ?_
   have e1:L.length=X.bids.length:=HP1.out.length_eq.symm
   have e2:M.length=X.asks.length:=HP2.out.length_eq.symm
   have q1:=HX3.out.l
   have q2:=HX3.out.r
   rw [e1] at q1 ⊢
   rw [e2] at q2 ⊢
   refine ⟨_,rfl,⟨Av,cv,Aw,cw,rfl,?_,?_⟩,(HB3.out.setCell (Nat.le_refl _) _).setCell (Nat.le_refl _) _⟩
   ·exact own_mono (ownsRow_setCell_below (ownsRow_setCell_below q1 (by dsimp only;omega) _) (by dsimp only;omega) _) (by omega)
   ·exact own_mono (ownsRow_setCell_below (ownsRow_setCell_below q2 (by dsimp only;omega) _) (by dsimp only;omega) _) (by omega)
end
section
open Go.RowKit
def foundO (L:List Od) (id:Int):Od:=match findO L id with | some o=>o | none=>zeroOd
def RetOd (w:World) (r:Od) (e:Ending) (w':World):Prop:=e=.returned (.agg #[.int .i64 r.id,.int .i64 r.acc,.int .i64 r.side,.int .i64 r.price,.int .i64 r.qty])∧Below w.heap.size w w'
theorem retOd_mk {w w':World} {r o:Od} (h:r=o) (hb:Below w.heap.size w w'):RetOd w r (.returned (.agg #[.int .i64 o.id,.int .i64 o.acc,.int .i64 o.side,.int .i64 o.price,.int .i64 o.qty])) w':=by subst h;exact ⟨rfl,hb⟩
set_option maxHeartbeats 2000000 in
set_option maxRecDepth 100000 in
theorem rfound_any (b:Bk) (id:Int) (A A':Option Addr) (c c' B:Nat) (w:World) (h:BkR w B A A' c c' b) (hB:B ≤ w.heap.size) (hl:(b.bids.length + b.asks.length) * 40 ≤ 140737488355328) :
  Calls Try.prog 90 #[.agg #[.slice A b.bids.length c,.slice A' b.asks.length c'],.int .i64 id] w (RetOd w (foundO (b.bids ++ b.asks) id)):=by
 go_enter Try.func90,Try.ntmps90
 go_wp2_with fail
 obtain ⟨w2,hw2⟩:∃ x,x=(w.alloc (.cells #[.slice A b.bids.length c,.slice A' b.asks.length c'] 62)).alloc (.cells #[.int .i64 zeroOd.id,.int .i64 zeroOd.acc,.int .i64 zeroOd.side,.int .i64 zeroOd.price,.int .i64 zeroOd.qty] 71):=⟨_,rfl⟩
 have hb2:Below w.heap.size w w2:=by rw [hw2];exact ((Below.refl _ _).alloc (Nat.le_refl _) _).alloc (by simp) _
 have hs2:w2.heap.size=w.heap.size + 1 + 1:=by rw [hw2];simp
 have X2:Blk w2 (w.heap.size + 1) 71 #[.int .i64 zeroOd.id,.int .i64 zeroOd.acc,.int .i64 zeroOd.side,.int .i64 zeroOd.price,.int .i64 zeroOd.qty]:=by
  have:=Blk.new (w.alloc (.cells #[.slice A b.bids.length c,.slice A' b.asks.length c'] 62)) 71 #[.int .i64 zeroOd.id,.int .i64 zeroOd.acc,.int .i64 zeroOd.side,.int .i64 zeroOd.price,.int .i64 zeroOd.qty]
  rw [World.size_alloc] at this
  rw [hw2];exact this
 simp only [zeroOd] at hw2
 rw [← hw2]
 simp only [zeroOd] at X2
 have hr:=h.below (hb2.mono hB)
 clear hw2
 refine (rorders_any b A A' c c' B w2 hr (by omega) hl).mono ?_
 rintro e w5 ⟨v,rfl,hown,hb5⟩
 have hs5:=hb5.size
 replace X2:=X2.below hb5 X2.lt
 have hbw5:=hb2.trans (hb5.mono (by omega))
 obtain ⟨A1,c1,rfl⟩:=own_shape hown
 have hr5:=Rd.of_own hown
 have hle5:=hr5.le
 have hcap5:=hr5.cap
 have HL:=Lib.hid (rdo_len hr5)
 have HR5:=Lib.hid hr5
 have HX2:=Lib.hid X2
 clear hb5 hr hown hr5 X2 hb2
 unfold maxLen at hcap5
 obtain ⟨n1,hn1⟩:∃ n,n=b.bids.length + b.asks.length:=⟨_,rfl⟩
 rw [← hn1] at HR5 HL hle5
 rw [← hn1]
 clear hn1
 go_wp2_with fail
 go_loopw [10] (fun i wr=>∃ j:Nat,j ≤ n1∧i=.int .i64 j∧Below w5.heap.size w5 wr∧Hid (((b.bids ++ b.asks).take j).all (fun y=>!hasId id y)=true)) (fun i _=>n1 - (intOf i).toNat)
 case atStart=>exact ⟨0,Nat.zero_le _,rfl,Below.refl _ _,rfl⟩
 case round =>
  obtain ⟨j,hj,rfl,hbr,HP⟩:=hrel
  have hws:=hbr.size
  have X2:=HX2.out.below hbr HX2.out.lt
  have hbwr:=hbw5.trans (hbr.mono (by omega))
  by_cases hlt:j < n1
  ·obtain ⟨bb,oo,x,rfl,hbb,hx,k0,k1,k2,k3,k4⟩:=od_at (HR5.out.below hbr) hlt
   have x1:bb < wr.heap.size:=by omega
   have x2:w.heap.size + 1 < wr.heap.size:=by omega
   have HX:=Lib.hid hx
   clear hx
   obtain ⟨⟨kX20,kX21,kX22,kX23,kX24⟩,fX20,fX21,fX22,fX23,fX24⟩:=X2.c5
   rcases (bool_cs (hasId id x)).symm with hp | hp
   ·have HF:=Lib.hid (show foundO (b.bids ++ b.asks) id=x by unfold foundO;rw [find_here HX.out hp HP.out])
    have hp':(x.id == id)=true:=hp
    clear hp
    go_wp2_with fail
    refine post_name ?_
    intro Z hZ
    have XZ:Blk Z (w.heap.size + 1) 71 #[.int .i64 x.id,.int .i64 x.acc,.int .i64 x.side,.int .i64 x.price,.int .i64 x.qty]:=by rw [hZ];exact (((((X2.set_ 0 _).set_ 1 _).set_ 2 _).set_ 3 _).set_ 4 _).alloc _
    have hbZ:Below w.heap.size w Z:=by rw [hZ];exact (Below.setCell (Below.setCell (Below.setCell (Below.setCell (Below.setCell hbwr (by dsimp only;omega) _) (by dsimp only;omega) _) (by dsimp only;omega) _) (by dsimp only;omega) _) (by dsimp only;omega) _).alloc (by simp;omega) _
    clear hZ kX20 kX21 kX22 kX23 kX24 fX20 fX21 fX22 fX23 fX24 k0 k1 k2 k3 k4
    obtain ⟨⟨kXZ0,kXZ1,kXZ2,kXZ3,kXZ4⟩,-⟩:=XZ.c5
    refine bodyPost_ret (v:=.agg #[.int .i64 x.id,.int .i64 x.acc,.int .i64 x.side,.int .i64 x.price,.int .i64 x.qty]) (by simp [results,Try.results90,go_sem, *]) rfl ?_
    exact retOd_mk (o:=x) HF.out hbZ
   ·have HN:=Lib.hid (all_next (p:=hasId id) HX.out hp HP.out)
    have hp':(x.id == id)=false:=hp
    clear hp
    go_wp2_with fail
    go_roundw
    case rel=>exact ⟨j + 1,by omega,by go_num,hbr.alloc (by omega) _,HN⟩
    case measure=>simp [intOf];omega
  ·have hjn:j=n1:=by omega
   have HF:=Lib.hid (show foundO (b.bids ++ b.asks) id=zeroOd by
    unfold foundO
    rw [find_none (by have:=HP.out;rw [hjn,List.take_of_length_le (by rw [HL.out];exact Nat.le_refl _)] at this;exact this)])
   clear hjn
   obtain ⟨⟨kX20,kX21,kX22,kX23,kX24⟩,fX20,fX21,fX22,fX23,fX24⟩:=X2.c5
   go_wp2_with fail
   refine bodyPost_ret (v:=.agg #[.int .i64 0,.int .i64 0,.int .i64 0,.int .i64 0,.int .i64 0]) (by simp [results,Try.results90,go_sem, *]) rfl ?_
   exact retOd_mk (o:=zeroOd) HF.out (Below.setCell (Below.setCell (Below.setCell (Below.setCell (Below.setCell hbwr (by dsimp only;omega) _) (by dsimp only;omega) _) (by dsimp only;omega) _) (by dsimp only;omega) _) (by dsimp only;omega) _)
set_option maxHeartbeats 2000000 in
set_option maxRecDepth 100000 in
theorem rremoved_any (b:Bk) (id:Int) (A A':Option Addr) (c c' B:Nat) (X:Bk) (w:World) (h:BkR w B A A' c c' b) (hB:B ≤ w.heap.size) (hl:b.bids.length + b.asks.length ≤ 40) (hX:BkOf (delO id (b.bids ++ b.asks)) X) :
  Calls Try.prog 91 #[.agg #[.slice A b.bids.length c,.slice A' b.asks.length c'],.int .i64 id] w fun e w'=>∃ v,e=.returned v∧OwnBk w' w.heap.size v X∧Below w.heap.size w w':=by
 go_enter Try.func91,Try.ntmps91
 go_wp2_with fail
 obtain ⟨w2,hw2⟩:∃ x,x=(w.alloc (.cells #[.slice A b.bids.length c,.slice A' b.asks.length c'] 62)).alloc (.cells #[.slice none 0 0,.slice none 0 0] 62):=⟨_,rfl⟩
 have hb2:Below w.heap.size w w2:=by rw [hw2];exact ((Below.refl _ _).alloc (Nat.le_refl _) _).alloc (by simp) _
 have hs2:w2.heap.size=w.heap.size + 1 + 1:=by rw [hw2];simp
 have X2:Blk w2 (w.heap.size + 1) 62 #[.slice none 0 0,.slice none 0 0]:=by rw [hw2];exact Blk.new_at _ _ _ _ (by simp)
 rw [← hw2]
 have hr:=h.below (hb2.mono hB)
 clear hw2
 refine (rorders_any b A A' c c' B w2 hr (by omega) (by omega)).mono ?_
 rintro e w5 ⟨v,rfl,hown,hb5⟩
 have hs5:=hb5.size
 replace X2:=X2.below hb5 X2.lt
 have hbw5:=hb2.trans (hb5.mono (by omega))
 obtain ⟨A1,c1,rfl⟩:=own_shape hown
 have hr5:=Rd.of_own hown
 have hle5:=hr5.le
 have HL:=Lib.hid (rdo_len hr5)
 have HR5:=Lib.hid hr5
 have HX2:=Lib.hid X2
 clear hb5 hr hown hr5 X2 hb2
 obtain ⟨n1,hn1⟩:∃ n,n=b.bids.length + b.asks.length:=⟨_,rfl⟩
 have hn40:n1 ≤ 40:=by omega
 rw [← hn1] at HR5 HL hle5
 rw [← hn1]
 clear hn1
 obtain ⟨LL,hLL⟩:∃ L,L=b.bids ++ b.asks:=⟨_,rfl⟩
 rw [← hLL] at HR5 HL hX
 clear hLL
 go_wp2_with fail
 go_loopw [11,5] (fun i v wr=>∃ j:Nat,j ≤ n1∧i=.int .i64 j∧Below w5.heap.size w5 wr∧Hid (wr.ownsRow w5.heap.size 71 5 v (delO id (LL.take j)).length (odCells (delO id (LL.take j))))) (fun i _ _=>n1 - (intOf i).toNat)
 case atStart=>exact ⟨0,Nat.zero_le _,rfl,Below.refl _ _,Lib.hid (World.ownsRow_nil _ _ _ _)⟩
 case round =>
  obtain ⟨j,hj,rfl,hbr,HW⟩:=hrel
  have hws:=hbr.size
  have X2:=HX2.out.below hbr HX2.out.lt
  have hbwr:=hbw5.trans (hbr.mono (by omega))
  obtain ⟨D,hD⟩:∃ D,D=delO id (LL.take j):=⟨_,rfl⟩
  have hDl:D.length ≤ n1:=by rw [hD,← HL.out];exact Nat.le_trans (List.length_filter_le _ _) (by rw [List.length_take];exact Nat.min_le_right _ _)
  rw [← hD] at HW
  have HD:=Lib.hid hD
  clear hD
  obtain ⟨Av,cv,rfl⟩:=own_shape HW.out
  by_cases hlt:j < n1
  ·obtain ⟨bb,oo,x,rfl,hbb,hx,k0,k1,k2,k3,k4⟩:=od_at (HR5.out.below hbr) hlt
   have x1:bb < wr.heap.size:=by omega
   have HX:=Lib.hid hx
   clear hx
   by_cases hp:x.id=id
   ·have hp':(x.id != id)=false:=by simpa using hp
    have HN:=Lib.hid (show delO id (LL.take (j + 1))=D by rw [HD.out];unfold delO;rw [filter_snoc HX.out];simp [hp])
    clear hp
    go_wp2_with fail
    go_roundw
    case rel=>exact ⟨j + 1,by omega,by go_num,hbr.alloc (by omega) _,by rw [HN.out];exact Lib.hid (World.ownsRow.alloc HW.out _)⟩
    case measure=>simp [intOf];omega
   ·have hp':(x.id != id)=true:=by simpa using hp
    have HN:=Lib.hid (show delO id (LL.take (j + 1))=D ++ [x] by rw [HD.out];unfold delO;rw [filter_snoc HX.out];simp [hp])
    clear hp
    go_wp2_with (at_builtin;refine wpList_app rfl _ _ _ rfl w5.heap.size _ _ _ elem_od (.slice Av D.length cv) _ _ rfl (World.ownsRow.alloc (World.ownsRow.alloc HW.out _) _) (wr.heap.size + 1 + 1) _ 1 1 (odCells [x]) rfl (rd_one_od (wr.alloc _) x (wr.heap.size + 1) (by simp)) (odCells_one _) (by unfold maxLen;omega) (by omega) (by simp;omega) ?_;intro v1 w7 hown7 hbel7 hgr7 hat7;obtain ⟨A7,c7,rfl⟩:=own_shape hown7)
    have HO7:Hid (w7.ownsRow w5.heap.size 71 5 (.slice A7 (D.length + 1) c7) (D ++ [x]).length (odCells (D ++ [x]))):=Lib.hid (by rw [odCells_app,List.length_append];exact hown7)
    have HB7:=Lib.hid (hbr.trans (((((Below.refl wr.heap.size wr).alloc (Nat.le_refl _) (.cells #[.int .i64 x.id,.int .i64 x.acc,.int .i64 x.side,.int .i64 x.price,.int .i64 x.qty] 71)).alloc (by simp) (.cells #[.int .i64 x.id,.int .i64 x.acc,.int .i64 x.side,.int .i64 x.price,.int .i64 x.qty] 71)).mono (by omega)).trans hbel7))
    clear hown7 hbel7 hgr7 hat7
    go_roundw
    case rel=>exact ⟨j + 1,by omega,by go_num,HB7.out,by rw [HN.out];exact HO7⟩
    case measure=>simp [intOf];omega
  ·have hjn:j=n1:=by omega
   have HF:=Lib.hid (show D=delO id LL by rw [HD.out,hjn,List.take_of_length_le (by rw [HL.out];exact Nat.le_refl _)])
   have HC:=Lib.hid (rbookOf_any D Av D.length cv wr.heap.size X wr (Rd.of_own HW.out) (Nat.le_refl _) (by rw [HF.out];exact hX) (by omega))
   clear hjn
   obtain ⟨⟨kX20,kX21⟩,fX20,fX21⟩:=X2.c2
   go_wp2_with (go_at_call 150;(with_reducible refine HC.out.mono ?_);rintro e w6 ⟨v6,rfl,ho6,hb6⟩;obtain ⟨P1,p1,P1',p1',rfl,H6⟩:=ho6.obk;clear kX20 kX21 fX20 fX21;obtain ⟨⟨kX20,kX21⟩,fX20,fX21⟩:=(X2.below hb6 X2.lt).c2)
   have hb7:=hbwr.trans (hb6.mono (by omega))
   have hs6:=hb6.size
   refine bodyPost_ret (v:=.agg #[.slice P1 X.bids.length p1,.slice P1' X.asks.length p1']) (by simp [results,Try.results91,go_sem, *]) rfl ?_
   refine ⟨_,rfl,⟨P1,p1,P1',p1',rfl,?_,?_⟩,(hb7.setCell (by dsimp only;omega) _).setCell (by dsimp only;omega) _⟩
   ·exact own_mono (ownsRow_setCell_below (ownsRow_setCell_below H6.l (by dsimp only;omega) _) (by dsimp only;omega) _) (by omega)
   ·exact own_mono (ownsRow_setCell_below (ownsRow_setCell_below H6.r (by dsimp only;omega) _) (by dsimp only;omega) _) (by omega)
end
end Go.Proofs.Ytockodmbhnlheaa
