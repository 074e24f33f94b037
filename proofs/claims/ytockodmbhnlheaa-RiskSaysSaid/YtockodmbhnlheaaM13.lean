/-
  Contracts of the program's functions, and plain facts, that the laws VenueKeeps, VenueOthers, VenueCancels, VenueCash, VenueReady rest on (joined texts): ClosesPure, DCloses, DStrip, Marks, DBegin, SweepPure.
-/
import Derived.Test.YtockodmbhnlheaaM09
import Derived.Test.YtockodmbhnlheaaM01
import Derived.Test.YtockodmbhnlheaaM02
import Derived.Test.YtockodmbhnlheaaM06
import Derived.Test.YtockodmbhnlheaaM07
import Derived.Test.YtockodmbhnlheaaM08
import Derived.Test.YtockodmbhnlheaaM05
import Derived.Test.YtockodmbhnlheaaM12
import Derived.Test.YtockodmbhnlheaaProg
import Derived.Maps.AppendAt
import Derived.Laws.AppendOwnNone
import Derived.OwnWalk
import Derived.Test.YtockodmbhnlheaaM03
import Derived.Deep.RegionHeld3
import Derived.Lib.AppendZeros
import Derived.Test.YtockodmbhnlheaaM10
import Derived.Test.YtockodmbhnlheaaM11
import Derived.Test.YtockodmbhnlheaaM04
import Derived.WalkKit
import Derived.WalkSpells
import Derived.WalkLawsBesides
import Derived.Lib.Hide
import Derived.Laws.CopyOwn
import Derived.Lib.AppendZerosOnto
import Derived.Lib.Overlaps
import Derived.Laws.Externs
import Derived.Deep.RegionLaw
import Derived.Maps.Own
import Derived.Maps.OwnOps
import Derived.Maps.Views
import Derived.Deep.QuietTactic
import Derived.BigQuiet
import Derived.Deep.Draws
import Derived.IntWalk
import Derived.Deep.DeepCutAuto
import Derived.RegionTactic
import Derived.ChangeAlike
namespace Go.Proofs.Ytockodmbhnlheaa
section
theorem takeL_cnt {o:Od}:∀ {l:List Od} {left:Int},(takeL o left l).2.1.length ≤ l.length
 | [],left=>by simp [takeL]
 | x :: l,left=>by
  unfold takeL
  split
  ·simp
  split
  ·simp
  split
  ·simp
  split
  ·simp
  ·have k:=takeL_cnt (o:=o) (l:=l) (left:=left - x.qty)
   simp only [List.length_cons];omega
theorem takeOf_cnt {b x:Bk} {o:Od} {l:List Fl} {left:Int} {met:Bool} (h:takeOf b o=(x,l,left,met,0)):l.length ≤ 40:=by
 have hb:=(take_more h).1
 unfold takeOf at h
 split at h
 ·rename_i h1;injection h with _ h;injection h with _ h;injection h with _ h;injection h with _ h;exact absurd h h1
 split at h
 ·rename_i h2;injection h with _ h;injection h with _ h;injection h with _ h;injection h with _ h;exact absurd h h2
 injection h with _ h;injection h with e2 _
 rw [← e2]
 have:=takeL_cnt (o:=o) (l:=otherOf b o.side) (left:=o.qty)
 have hl:=hb.len
 have:(otherOf b o.side).length ≤ 40:=by unfold otherOf;split <;> omega
 omega
def sideOf (p:Int):Int:=if p < 0 then 1 else -1
def closeOd (a:Ac) (price p:Int):Od:=⟨100000,a.id,sideOf p,price,max p (-p)⟩
theorem sideOf_ok (p:Int):sideOf p=1∨sideOf p = -1:=by unfold sideOf;split <;> omega
def closeRest (a:Ac) (price p:Int) (market:Nat) (d:Dk):Except Int Dk :=
 let t:=takeOf (mkAt d.v market).book (closeOd a price p)
 okIf t.2.2.2.2 (bindE (fillsE market true t.2.1 ⟨setMk d.v market { mkAt d.v market with book:=t.1 },d.ev⟩) fun d =>
  closeLoop market a.id (sideOf p) price t.2.2.1.toNat t.2.2.1 d)
theorem closes_eq {k market:Nat} {marks:List Int} {d:Dk} {a:Ac} {price e p:Int} (ha:d.v.accs[k]?=some a) (hb:bankruptOf a marks market=(price,e)) (hp:a.pos.getD market 0=p) :
  closesE k market marks d=okIf e (closeRest a price p market d):=by
 have hat:accAt d.v k=a:=getD_some ha
 show okIf (bankruptOf (accAt d.v k) marks market).2 _=_
 rw [hat,hb]
 subst hp
 rfl
theorem rest_eq {a:Ac} {price p:Int} {market:Nat} {d:Dk} {m:Mk} {x:Bk} {l:List Fl} {left:Int} {met:Bool} {e:Int} (hm:d.v.mks[market]?=some m) (ht:takeOf m.book (closeOd a price p)=(x,l,left,met,e)) :
  closeRest a price p market d=okIf e (bindE (fillsE market true l ⟨setMk d.v market { m with book:=x },d.ev⟩) fun d=>closeLoop market a.id (sideOf p) price left.toNat left d):=by
 have hat:mkAt d.v market=m:=getD_some hm
 unfold closeRest
 rw [hat,ht]
structure ClosePre (d:Dk) (market:Nat) (m:Mk) (x:Bk) (l:List Fl) (left price:Int):Prop where
 lens:x.bids.length ≤ 4000000000000∧x.asks.length ≤ 4000000000000
 cnt:l.length ≤ 40
 fl:∀ f ∈ l,((0 ≤ f.tacc∧f.tacc ≤ 7)∧(0 ≤ f.macc∧f.macc ≤ 7)∧(-1000 ≤ f.side * f.qty∧f.side * f.qty ≤ 1000))
 left:0 ≤ left∧left ≤ 1000
 price:1 ≤ price∧price ≤ 10000
 ok:VOk (setMk d.v market { m with book:=x })
 fs:∀ f ∈ l,(1 ≤ f.qty∧f.qty ≤ 1000)∧(f.side=1∨f.side = -1)∧(0 ≤ f.price∧f.price ≤ 10000)
theorem close_pre {d:Dk} {k market:Nat} {m:Mk} {a:Ac} {x:Bk} {l:List Fl} {left price p:Int} {met:Bool} (h:VOk d.v) (_:d.v.accs[k]?=some a) (hm:d.v.mks[market]?=some m) (ht:takeOf m.book (closeOd a price p)=(x,l,left,met,0)) :
  ClosePre d market m x l left price:=by
 obtain ⟨b1,b2,b3,b4,b5,b6,b7⟩:=take_more ht
 have hop:=ordErr_ok.1 b3
 have hid:0 ≤ a.id∧a.id ≤ 7:=hop.2.1
 have hat:mkAt d.v market=m:=getD_some hm
 have hlt:market < d.v.mks.length:=(List.getElem?_eq_some_iff.1 hm).1
 obtain ⟨m1,m2⟩:=mkAt_ok h hlt
 rw [hat] at m1 m2
 have hmo:=marketErr_ok.1 m1
 have s1:=step_mk (place:=false) (d:=d) (k:=market) (m:={ m with book:=x }) h (marketErr_ok.2 ⟨b2,hmo.2⟩) (fun y hy=>by
  obtain ⟨z,hz,g1,g2,_⟩:=b4 y hy
  rw [← g1,← g2];exact m2 z hz)
 have hfo:=fills_ok b1 hop.2.2.1 b5
 refine ⟨?_,takeOf_cnt ht,fun f hf=>?_,?_,hop.2.2.2.1,s1.ok,hfo⟩
 ·have:=b2.len;omega
 ·obtain ⟨z,hz,_,g2,_,_,g5,g6,_⟩:=b5 f hf
  obtain ⟨q1,q2,_⟩:=hfo f hf
  have hz':=ordErr_ok.1 (own_mem b1 hz).2
  have ht':f.tacc=a.id:=g6
  refine ⟨by omega,by omega,?_⟩
  rcases q2 with q2 | q2 <;> rw [q2] <;> omega
 ·have:=hop.2.2.2.2.2
  omega
theorem fills_keep {mk:Nat}:∀ {l:List Fl} {d d':Dk},VOk d.v→(∀ f ∈ l,(1 ≤ f.qty∧f.qty ≤ 1000)∧(f.side=1∨f.side = -1)∧(0 ≤ f.price∧f.price ≤ 10000))→mk < d.v.mks.length→fillsE mk true l d=.ok d'→VOk d'.v∧d'.v.mks.length=d.v.mks.length:=by
 intro l d d' h hl hm he
 obtain ⟨s,_⟩:=step_fills (place:=false) h hl hm he
 exact ⟨s.ok,s.len⟩
theorem fillsE_len {mk:Nat} {free:Bool}:∀ {l:List Fl} {d d':Dk},fillsE mk free l d=.ok d'→d'.ev.length=d.ev.length + l.length
 | [],d,d',h=>by injection h with h;subst h;simp
 | f :: l,d,d',h=>by
  obtain ⟨v,_,h2⟩:=bindE_ok h
  have:=fillsE_len h2
  rw [this]
  show (d.ev ++ [_]).length + _=_
  rw [List.length_append,List.length_cons];simp only [List.length_cons,List.length_nil];omega
theorem loop_end {market fuel:Nat} {id side price left:Int} {d:Dk} (h:left ≤ 0):closeLoop market id side price fuel left d=.ok d:=by
 cases fuel with
 | zero=>rfl
 | succ n=>unfold closeLoop;rw [if_pos h]
theorem loop_none {market fuel:Nat} {id side price left:Int} {d:Dk} (h:0 < left) (hf:left.toNat ≤ fuel) (ho:otherOfV d.v market side=none):closeLoop market id side price fuel left d=.error 4:=by
 cases fuel with
 | zero=>omega
 | succ n=>unfold closeLoop;rw [if_neg (by omega),ho]
theorem loop_some {market fuel:Nat} {id side price left:Int} {d:Dk} {i:Nat} {x:Int} {c:Ac} {n p:Int} (h:0 < left) (_:left.toNat ≤ fuel + 1) (ho:otherOfV d.v market side=some (i,x)) (hc:d.v.accs[i]?=some c) (hp:p=c.pos.getD market 0) (hn:n=min left (max p (-p))) :
  closeLoop market id side price (fuel + 1) left d=bindE (tradeE d.v market id c.id (side * n) price 0) fun v=>closeLoop market id side price fuel (left - n) (tell ⟨v,d.ev⟩ ⟨6,0,market,0,c.id,0,⟨0,0,c.id,id,side,price,n⟩⟩):=by
 have hat:accAt d.v i=c:=getD_some hc
 conv=>lhs;unfold closeLoop
 rw [if_neg (by omega),ho]
 simp only [hat]
 rw [hn,hp]
end
section
open Go.RowKit
theorem take_ref' {x:Bk} {l:List Fl} {left:Int} {met:Bool} {e':Int} (b:Bk) (o:Od) (A A':Option Addr) (c c' B:Nat) (w:World) (hr:takeOf b o=(x,l,left,met,e')) (h:BkR w B A A' c c' b) (hB:B ≤ w.heap.size) (hl:b.bids.length ≤ 4000000000000) (hl':b.asks.length ≤ 4000000000000) :
  Calls Try.prog 70 #[.agg #[.slice A b.bids.length c,.slice A' b.asks.length c'],.agg #[.int .i64 o.id,.int .i64 o.acc,.int .i64 o.side,.int .i64 o.price,.int .i64 o.qty]] w (RetTake w (x,l,left,met,e')):=by
 rw [← hr];exact take_bk b o A A' c c' B w h hB hl hl'
theorem bankrupt_ref {n e':Int} (a:Ac) (A A':Option Addr) (c n' c':Nat) (marks:List Int) (market:Int) (B B':Nat) (w:World) (hr:bankruptOf a marks market=(n,e')) (h:Rd w B 1 A a.pos.length c (ints a.pos)) (hB:B ≤ w.heap.size) (h':Rd w B' 1 A' n' c' (ints marks)) (hB':B' ≤ w.heap.size) :
  Calls Try.prog 60 #[.agg #[.int .i64 a.id,.int .i64 a.bal,.slice A a.pos.length c],.slice A' n' c',.int .i64 market] w fun e w'=>e=.returned (.tuple #[.int .i64 n,.int .i64 e'])∧Below w.heap.size w w':=by
 have:=bankrupt_any a A A' c n' c' marks market B B' w h hB h' hB'
 rw [hr] at this;exact this
theorem own_range {w:World} {base e k n:Nat} {v:Value} {xs:List Value} (h:w.ownsRow base e k v n xs):∀ g,v.ownBlock=some g→base ≤ g∧g < w.heap.size:=by
 intro g hg
 obtain ⟨_,⟨rfl,_⟩ | ⟨g',cap,cur,rfl,hb,hx,_⟩⟩:=h
 ·simp [Value.ownBlock] at hg
 ·have:g'=g:=by simpa [Value.ownBlock] using hg
  subst this
  exact ⟨hb,Blk.lt hx⟩
theorem apart_book {w w':World} {base base' m k i c c':Nat} {M A A':Option Addr} {L:List Mk} {xs:List Value} {b:Bk} (h:OwnMk w base true M m k L xs) (hi:i < m) (hw:w.heap.size ≤ base') (ho:OBk w' base' A A' c c' b)
  (hne:∀ g,(Value.slice A b.bids.length c).ownBlock=some g→(Value.slice A' b.asks.length c').ownBlock ≠ some g):Apart ((xs.set (i * 4) (.slice A b.bids.length c)).set (i * 4 + 1) (.slice A' b.asks.length c')):=by
 have hlen:=h.row.1
 have key:∀ a s u g,s < 2→((xs.set (i * 4) (Value.slice A b.bids.length c)).set (i * 4 + 1) (.slice A' b.asks.length c'))[a * 4 + s]?=some u→u.ownBlock=some g →
   (a=i∧s=0∧u=.slice A b.bids.length c∧base' ≤ g)∨(a=i∧s=1∧u=.slice A' b.asks.length c'∧base' ≤ g)∨(xs[a * 4 + s]?=some u∧g < w.heap.size):=by
  intro a s u g hs hu hg
  by_cases e0:a * 4 + s=i * 4
  ·rw [e0,getElem?_set_ne' (by omega),List.getElem?_set_self (by omega)] at hu
   injection hu with hu
   subst hu
   exact .inl ⟨by omega,by omega,rfl,(own_range ho.l g hg).1⟩
  by_cases e1:a * 4 + s=i * 4 + 1
  ·rw [e1,List.getElem?_set_self (by rw [List.length_set];omega)] at hu
   injection hu with hu
   subst hu
   exact .inr (.inl ⟨by omega,by omega,rfl,(own_range ho.r g hg).1⟩)
  rw [getElem?_set_ne' (by omega),getElem?_set_ne' (by omega)] at hu
  refine .inr (.inr ⟨hu,?_⟩)
  have ha:a < L.length:=by
   have:=(List.getElem?_eq_some_iff.1 hu).1
   have:=h.len;omega
  obtain ⟨A2,c2,A3,c3,k1,k2,k3,k4,k5,k6⟩:=h.cell a _ (List.getElem?_eq_getElem ha)
  rcases (show s=0∨s=1 by omega) with rfl | rfl
  ·rw [Nat.add_zero,k1] at hu
   injection hu with hu
   subst hu
   exact (own_range k5.l g hg).2
  ·rw [k2] at hu
   injection hu with hu
   subst hu
   exact (own_range k5.r g hg).2
 intro a s j t u v g hs ht hu hv hgu hgv
 rcases key a s u g hs hu hgu with ⟨a1,a2,a3,a4⟩ | ⟨a1,a2,a3,a4⟩ | ⟨a3,a4⟩ <;> rcases key j t v g ht hv hgv with ⟨b1,b2,b3,b4⟩ | ⟨b1,b2,b3,b4⟩ | ⟨b3,b4⟩
 ·exact ⟨by omega,by omega⟩
 ·subst a3;subst b3;exact absurd hgv (hne g hgu)
 ·omega
 ·subst a3;subst b3;exact absurd hgu (hne g hgv)
 ·exact ⟨by omega,by omega⟩
 ·omega
 ·omega
 ·omega
 ·exact h.apart rfl a s j t u v g hs ht a3 b3 hgu hgv
theorem desk_no {w:World} {base D c k:Nat} {ap:Bool} {d:Dk} {A M:Option Addr} {vE:Value} {xs ys:List Value} (h:Desk w base D ap d A c M k vE xs ys):∀ g,w.heap.size ≤ g→g ∉ D :: (ab A ++ ab M):=by
 intro g hg hm
 rcases List.mem_cons.1 hm with rfl | hm
 ·have:=h.lt;omega
 rcases List.mem_append.1 hm with hm | hm
 ·obtain ⟨cs,hb⟩:=ab_acc h.accs g hm
  have:=Blk.lt hb;omega
 ·obtain ⟨cs,hb⟩:=ab_mk h.mks g hm
  have:=Blk.lt hb;omega
theorem minmax_if (a b:Int):(if (if b < -b then -b else b) < a then (if b < -b then -b else b) else a)=min a (max b (-b)):=by
 by_cases h1:b < -b
 ·rw [if_pos h1];split <;> omega
 ·rw [if_neg h1];split <;> omega
structure ClR (w wr:World) (base D:Nat) (d:Dk) (A:Option Addr) (c:Nat) (M:Option Addr) (k:Nat) (i mk:Nat) (marks:List Int) (id side price:Int) (fuel:Nat) (left:Int) (d1:Dk) (vE:Value) (xs ys:List Value):Prop where
 desk:Desk wr base D true d1 A c M k vE xs ys
 low:Below base w wr
 fr:Fr [174,124] (D :: (ab A ++ ab M)) w wr
 ok:AOk d1.v.mks.length d1.v.accs
 mks:mk < d1.v.mks.length
 eq:closeLoop mk id side price fuel left d1=closesE i mk marks d
 bd:0 ≤ left∧left ≤ 1000∧left.toNat ≤ fuel
 len:d1.ev.length + left.toNat ≤ 890000
theorem clr_next {w wr W:World} {base D c k i mk f:Nat} {d d2:Dk} {A M:Option Addr} {marks:List Int} {id side price left1 n:Int} {vE1 vE2:Value} {xs1 ys1 xs2 ys2:List Value} {v':Vn} {a2id:Int} {x:Ev} (h:ClR w wr base D d A c M k i mk marks id side price (f + 1) left1 d2 vE1 xs1 ys1)
  (ht:TradeStep d2.v v' mk id a2id (side * n) price 0) (hn:1 ≤ n∧n ≤ left1) (he:closesE i mk marks d=closeLoop mk id side price f (left1 - n) (tell ⟨v',d2.ev⟩ x)) (hd:Desk W base D true (tell ⟨v',d2.ev⟩ x) A c M k vE2 xs2 ys2)
  (hL:Below base w W) (hF:Fr [174,124] (D :: (ab A ++ ab M)) w W):ClR w W base D d A c M k i mk marks id side price f (left1 - n) (tell ⟨v',d2.ev⟩ x) vE2 xs2 ys2:=by
 have hb:=h.bd
 have hl:=h.len
 refine ⟨hd,hL,hF,?_,?_,he.symm,by omega,?_⟩
 ·show AOk v'.mks.length v'.accs
  rw [ht.mks];exact ht.accs
 ·show mk < v'.mks.length
  rw [ht.mks];exact h.mks
 ·show (d2.ev ++ [x]).length + _ ≤ _
  rw [List.length_append];simp only [List.length_cons,List.length_nil];omega
set_option maxHeartbeats 4000000 in
set_option maxRecDepth 100000 in
theorem closes_dk (base D:Nat) (d:Dk) (A:Option Addr) (c:Nat) (M:Option Addr) (k:Nat) (vE:Value) (xs ys:List Value) (i mk:Nat) (marks:List Int) (Am:Option Addr) (nm cm B:Nat) (a:Ac) (w:World) (h:Desk w base D true d A c M k vE xs ys) (hb:base ≤ w.heap.size)
  (hv:VOk d.v) (ha:d.v.accs[i]?=some a) (hm:mk < d.v.mks.length) (hmr:Rd w B 1 Am nm cm (ints marks)) (hB:B ≤ w.heap.size) (hl:d.ev.length ≤ 800000) :
  Calls Try.prog 191 #[.pointer (some ⟨D,0,none⟩),.int .i64 i,.int .i64 mk,.slice Am nm cm] w (RetDk w base D true A c M k [174,124] (D :: (ab A ++ ab M)) (closesE i mk marks d)):=by
 have HD:=Lib.hid h
 have HV:=Lib.hid hv
 have HA:=Lib.hid ha
 have HMR:=Lib.hid hmr
 have HID:=Lib.hid (aok_ids hv.accs a (List.mem_of_getElem? ha))
 have hDl:=h.lt
 obtain ⟨price,en,hbk⟩:∃ price en,bankruptOf a marks mk=(price,en):=⟨_,_,rfl⟩
 obtain ⟨p,hpp⟩:∃ p,a.pos.getD mk 0=p:=⟨_,rfl⟩
 have HE:=Lib.hid (closes_eq (d:=d) ha hbk hpp)
 have HBK:=Lib.hid hbk
 obtain ⟨g,A2,c2,b2,o2,rfl,hg2,hin,⟨q0,q1,q2⟩,rfl,hb2,hz,hpl,⟨hz1,hz2⟩,hpc,hrd⟩:=pos_at h ha hv.accs hm
 rw [hpp] at hz hz1 hz2
 have HRD:=Lib.hid hrd
 obtain ⟨⟨k0,-⟩,-⟩:=h.blk.c8
 have hmn:(mk:Int) < (a.pos.length:Int):=by omega
 have hi0:(0:Int) ≤ (i:Int):=by omega
 have hi1:(i:Int) < (d.v.accs.length:Int):=by omega
 have hm0:(0:Int) ≤ (mk:Int):=by omega
 clear h hv ha hmr hbk hpp hrd hpl
 go_enter Try.func191,Try.ntmps191
 go_wp2_with fail
 refine calls_name ?_
 intro W1 hW1
 have hB1:Below w.heap.size w W1:=by rw [hW1];exact (Below.refl _ _).alloc (Nat.le_refl _) _
 have hs1:W1.heap.size=w.heap.size + 1:=by rw [hW1];simp
 have X1:Blk W1 w.heap.size 37 #[.int .i64 a.id,.int .i64 a.bal,.slice (some ⟨b2,o2,none⟩) a.pos.length c2]:=by rw [hW1];exact Blk.new w _ _
 clear hW1 k0 q0 q1 q2
 refine (bankrupt_ref a _ Am c2 nm cm marks mk w.heap.size B W1 HBK.out (HRD.out.below hB1) (by omega) (HMR.out.below (hB1.mono hB)) (by omega)).mono ?_
 rintro e W2 ⟨rfl,hb2'⟩
 have hB2:=hB1.trans (hb2'.mono (by omega))
 have hs2:=hb2'.size
 have X2:=X1.below hb2' (by omega)
 have hz':W2.cell? ⟨b2,o2 + mk,none⟩=some (.int .i64 p):=(hB2.cell (p:=⟨b2,_,none⟩) hb2).trans hz
 clear hB1 hb2' X1 hz
 by_cases he:en=0
 rotate_left
 ·have he':(en != 0)=true:=by simpa using he
  have HEE:=Lib.hid (show closesE i mk marks d=.error en by rw [HE.out];unfold okIf;rw [if_pos he])
  have HN:=Lib.hid he
  clear he
  go_wp2_with fail
  go_ret
  exact retDk_err HEE.out HN.out (hB2.mono hb)
 subst he
 have HEE:=Lib.hid (show closesE i mk marks d=closeRest a price p mk d by rw [HE.out];rfl)
 have y1:=X2.lt
 have y2:b2 < W2.heap.size:=by omega
 obtain ⟨⟨kX20,kX21,kX22⟩,-⟩:=X2.c3
 go_wp2_with fail
 go_quiet (fail)
 refine exit_name ?_
 intro W3 hW3
 have hB3:Below w.heap.size w W3:=by rw [hW3];exact below_drewN hB2 _
 have hs3:W2.heap.size ≤ W3.heap.size:=by rw [hW3];exact Nat.le_refl _
 have X3:Blk W3 w.heap.size 37 #[.int .i64 a.id,.int .i64 a.bal,.slice (some ⟨b2,o2,none⟩) a.pos.length c2]:=by rw [hW3];exact Blk.drewN X2 _
 clear hW3 kX20 kX21 kX22 X2 hz' hB2 y1 y2
 apply_assumption
 go_upto_if 47 with (fail)
 go_cut [12,13] (fun s l wx=>s=.int .i64 (sideOf p)∧l=.int .i64 (max p (-p))∧W3=wx)
 case first =>
  by_cases hp:p < 0
  ·have hp':decide (p < 0)=true:=decide_eq_true hp
   have HP:=Lib.hid hp
   go_wp2_with fail
   go_meet
   exact ⟨by unfold sideOf;rw [if_pos HP.out],by rw [Int.max_eq_right (by have:=HP.out;omega)],rfl⟩
  ·have hp':decide (p < 0)=false:=decide_eq_false hp
   have HP:=Lib.hid hp
   go_wp2_with fail
   go_meet
   exact ⟨by unfold sideOf;rw [if_neg (by have:=HP.out;omega)],by rw [Int.max_eq_left (by have:=HP.out;omega)],rfl⟩
 case rest =>
  obtain ⟨rfl,rfl,rfl⟩:=hcut
  obtain ⟨m,hmk⟩:∃ m,d.v.mks[mk]?=some m:=⟨_,List.getElem?_eq_getElem hm⟩
  obtain ⟨sd,hsd⟩:∃ sd,sideOf p=sd:=⟨_,rfl⟩
  obtain ⟨q,hq⟩:∃ q,max p (-p)=q:=⟨_,rfl⟩
  obtain ⟨x,l,left,met,te,htk⟩:∃ x l left met te,takeOf m.book (closeOd a price p)=(x,l,left,met,te):=⟨_,_,_,_,_,rfl⟩
  have HRE:=Lib.hid (HEE.out.trans (rest_eq hmk htk))
  have HM:=Lib.hid hmk
  have HTC:=Lib.hid htk
  have HTK:=Lib.hid (show takeOf m.book ⟨100000,a.id,sd,price,q⟩=(x,l,left,met,te) by rw [← htk,← hsd,← hq];rfl)
  have HSD:=Lib.hid hsd
  rw [hsd,hq]
  clear hmk htk hsd hq
  obtain ⟨⟨kX30,kX31,kX32⟩,-⟩:=X3.c3
  go_wp2_with fail
  refine wp_name ?_
  intro W4 hW4
  have hB4:Below w.heap.size w W4:=by rw [hW4];exact hB3.alloc (by omega) _
  have hs4:W3.heap.size < W4.heap.size:=by rw [hW4];simp
  have X4:Blk W4 W3.heap.size 71 #[.int .i64 100000,.int .i64 a.id,.int .i64 sd,.int .i64 price,.int .i64 q]:=by rw [hW4];exact Blk.new W3 _ _
  have V1:Blk W4 w.heap.size 37 #[.int .i64 a.id,.int .i64 a.bal,.slice (some ⟨b2,o2,none⟩) a.pos.length c2]:=by rw [hW4];exact X3.alloc _
  have HD4:=Lib.hid (HD.out.below hB4)
  clear hW4 kX30 kX31 kX32 X3 hB3
  obtain ⟨⟨-,k1,-⟩,-⟩:=HD4.out.blk.c8
  obtain ⟨g3,A3,c3,A4,c4,rfl,hg3,hg4,hin4,-,⟨r0,r1,-,-⟩,-,hbk,hl1,hl2,-⟩:=omk_at HD4.out.mks HM.out
  have HBK4:=Lib.hid hbk.read
  have hm1:(mk:Int) < (d.v.mks.length:Int):=by omega
  have y1:D < W4.heap.size:=HD4.out.lt
  have y2:W3.heap.size < W4.heap.size:=by omega
  have y3:w.heap.size < W4.heap.size:=by omega
  have h00:Below W4.heap.size W4 W4:=Below.refl _ _
  have KS:Hid (∀ W,Below W4.heap.size W4 W→Below W4.heap.size W4 W∧W.cell? ⟨D,1,none⟩=some (.slice (some ⟨g3,0,none⟩) d.v.mks.length k)∧W.cell? ⟨g3,mk * 4,none⟩=some (.slice A3 m.book.bids.length c3)∧W.cell? ⟨g3,mk * 4 + 1,none⟩=some (.slice A4 m.book.asks.length c4) ∧
    W.cell? ⟨W3.heap.size,0,none⟩=some (.int .i64 100000)∧W.cell? ⟨W3.heap.size,1,none⟩=some (.int .i64 a.id)∧W.cell? ⟨W3.heap.size,2,none⟩=some (.int .i64 sd)∧W.cell? ⟨W3.heap.size,3,none⟩=some (.int .i64 price)∧W.cell? ⟨W3.heap.size,4,none⟩=some (.int .i64 q)):=by
   intro W hW
   obtain ⟨⟨-,k1,-⟩,-⟩:=(HD4.out.below hW).blk.c8
   obtain ⟨⟨z0,z1,z2,z3,z4⟩,-⟩:=(X4.below hW X4.lt).c5
   exact ⟨hW,k1,(hW.cell (p:=⟨g3,_,none⟩) hg4).trans r0,(hW.cell (p:=⟨g3,_,none⟩) hg4).trans r1,z0,z1,z2,z3,z4⟩
  clear k1 r0 r1 hbk
  go_region_held3 (fun W=>Below W4.heap.size W4 W∧W.cell? ⟨D,1,none⟩=some (.slice (some ⟨g3,0,none⟩) d.v.mks.length k)∧W.cell? ⟨g3,mk * 4,none⟩=some (.slice A3 m.book.bids.length c3)∧W.cell? ⟨g3,mk * 4 + 1,none⟩=some (.slice A4 m.book.asks.length c4) ∧
    W.cell? ⟨W3.heap.size,0,none⟩=some (.int .i64 100000)∧W.cell? ⟨W3.heap.size,1,none⟩=some (.int .i64 a.id)∧W.cell? ⟨W3.heap.size,2,none⟩=some (.int .i64 sd)∧W.cell? ⟨W3.heap.size,3,none⟩=some (.int .i64 price)∧W.cell? ⟨W3.heap.size,4,none⟩=some (.int .i64 q))
   (first | exact KS.out _ (by assumption) | exact KS.out _ (dk_drew (by assumption)) | exact KS.out _ (Below.alloc (by assumption) (Below.size (by assumption)) _) | exact KS.out _ (dk_drew (Below.alloc (by assumption) (Below.size (by assumption)) _)) | exact KS.out _ (Below.setCell (Below.setCell (by first | assumption | exact Below.alloc (by assumption) (by assumption) _) (by dsimp only;omega) _) (by dsimp only;omega) _))
   ((go_at_call 70;go_split_ands;(with_reducible refine (take_ref' m.book ⟨100000,a.id,sd,price,q⟩ A3 A4 c3 c4 W4.heap.size _ HTK.out (HBK4.out.below (by assumption)) (Below.size (by assumption)) hl1 hl2).mono ?_);rintro e W5 ⟨P,pc,P',pc',vf,rfl,hobk,hrow,hne,hb5⟩;obtain ⟨AL,cL,rfl⟩:=own_shape hrow;have hB5:=dk_next (w0:=W4) hb5 (by assumption);have hs5:=hB5.size;try have z1:=(Blk.drewN (Blk.new W4 62 #[.slice none 0 0,.slice none 0 0]) 1).below hb5 (by simp);try have z2:=z1.lt;try obtain ⟨⟨z3,z4⟩,z5,z6⟩:=z1.c2))
  all_goals
   have hbW:base ≤ W4.heap.size:=Nat.le_trans hb hB4.size
   refine exit_name ?_
   intro W6 hW6
   have hB6:Below W4.heap.size W4 W6:=by rw [hW6];first | exact hB5.alloc hs5 _ | exact (hB5.setCell (by dsimp only;omega) _).setCell (by dsimp only;omega) _
   have HO6:Hid (OBk W6 W4.heap.size P P' pc pc' x):=by
    rw [hW6]
    first
     | exact ⟨own_mono (World.ownsRow.alloc hobk.l _) (Nat.le_refl _),own_mono (World.ownsRow.alloc hobk.r _) (Nat.le_refl _)⟩
     | exact ⟨own_mono (ownsRow_setCell_below (ownsRow_setCell_below hobk.l (by simp) _) (by simp) _) (by simp),own_mono (ownsRow_setCell_below (ownsRow_setCell_below hobk.r (by simp) _) (by simp) _) (by simp)⟩
   have HR6:Hid (W6.ownsRow W4.heap.size 87 7 (.slice AL l.length cL) l.length (flCells l)):=by
    rw [hW6]
    first
     | exact own_mono (World.ownsRow.alloc hrow _) (Nat.le_refl _)
     | exact own_mono (ownsRow_setCell_below (ownsRow_setCell_below hrow (by simp) _) (by simp) _) (by simp)
   first
    | have X6:Blk W6 W5.heap.size 62 #[.slice P x.bids.length pc,.slice P' x.asks.length pc']:=by rw [hW6];exact Blk.new W5 _ _
    | have X6:Blk W6 W4.heap.size 62 #[.slice P x.bids.length pc,.slice P' x.asks.length pc']:=by rw [hW6];exact (z1.set_ 0 _).set_ 1 _
   have HNE:=Lib.hid hne
   have V6:=V1.below hB6 y3
   have HD6:=Lib.hid (HD4.out.below hB6)
   have HL6:=Lib.hid (hB4.trans (hB6.mono (by omega)))
   have hs6:=hB6.size
   clear hW6 KS h00 hne hobk hrow
   by_cases he:te=0
   rotate_left
   ·have he':(te != 0)=true:=by simpa using he
    have HEE2:=Lib.hid (show closesE i mk marks d=.error te by rw [HRE.out];unfold okIf;rw [if_pos he])
    have HN:=Lib.hid he
    clear he
    go_wp2_with fail
    go_ret
    exact retDk_err HEE2.out HN.out (HL6.out.mono hb)
   subst he
   have HP:=Lib.hid (close_pre HV.out HA.out HM.out HTC.out)
   obtain ⟨g',A5,c5,A6,c6,hg',hg5,hg6,hin6,⟨cs,hgB⟩,⟨q0,q1,q2,q3⟩,⟨r0,r1,r2,r3⟩,-⟩:=omk_at HD6.out.mks HM.out
   obtain rfl:g'=g3:=by injection hg' with hg';injection hg' with hg';exact hg'.symm
   have HG:=Lib.hid hgB
   obtain ⟨⟨-,k1,-⟩,-⟩:=HD6.out.blk.c8
   have y4:D < W6.heap.size:=HD6.out.lt
   have y7:=X6.lt
   clear hg' hgB
   obtain ⟨⟨kX60,kX61⟩,-⟩:=X6.c2
   go_wp2_with fail
   go_region
   refine exit_name ?_
   intro Z hZ
   have HAP:=Lib.hid (apart_book HD4.out.mks hm (Nat.le_refl _) HO6.out HNE.out)
   have HDZ:=Lib.hid (desk_book HD6.out HM.out ⟨own_mono HO6.out.l hbW,own_mono HO6.out.r hbW⟩ HP.out.lens (fun _=>HAP.out) HG.out hZ)
   have hFZ:Fr [174,124] (D :: (ab (some ⟨g,0,none⟩) ++ ab (some ⟨g',0,none⟩))) W6 Z:=by rw [hZ];exact (((Fr.refl _ _ _).set HG.out (.inr (by simp [ab])) _ _).set (HG.out.set_ _ _) (.inr (by simp [ab])) _ _).drewN 1
   have hLZ:Below base W6 Z:=by rw [hZ];exact below_drewN (((Below.refl _ _).setCell hg5 _).setCell hg5 _) 1
   have HRZ:=Lib.hid (hFZ.own HR6.out (by decide) (desk_far HD6.out HR6.out (by decide) (by decide) (by decide)))
   have VZ:=V6.fr hFZ (by decide) (desk_no HD.out _ (Nat.le_refl _))
   have HLZ:=Lib.hid ((HL6.out.mono hb).trans hLZ)
   have HFZ:=Lib.hid ((Fr.of_below _ _ HL6.out).trans hFZ)
   have hbZ:base ≤ Z.heap.size:=Nat.le_trans (by omega) hFZ.size
   clear hZ hFZ hLZ k1 q0 q1 q2 q3 r0 r1 r2 r3 kX60 kX61 X6 V6 V1
   go_wp2_with fail
   refine (fills_dk base D true ⟨setMk d.v mk { m with book:=x },d.ev⟩ _ c _ k vE xs _ mk true l W4.heap.size AL cL Z HDZ.out hbZ HP.out.ok.accs (by have:=HP.out.cnt;show d.ev.length + _ ≤ _;omega) HP.out.fl HRZ.out).mono ?_
   intro e W7 hret
   cases hfl:fillsE mk true l ⟨setMk d.v mk { m with book:=x },d.ev⟩ with
   | error n =>
    have HEE2:=Lib.hid (show closesE i mk marks d=.error n by rw [HRE.out,hfl];rfl)
    rw [hfl] at hret
    obtain ⟨hn,rfl,hL7⟩:=hret
    have hn':(n != 0)=true:=by simpa using hn
    have HN:=Lib.hid hn
    clear hfl hn
    go_wp2_with fail
    go_ret
    exact retDk_err HEE2.out HN.out (HLZ.out.trans hL7)
   | ok d1 =>
    obtain ⟨hk1,hk2⟩:=fills_keep HP.out.ok HP.out.fs (by show mk < (d.v.mks.set mk _).length;rw [List.length_set];exact hm) hfl
    have hk3:=fillsE_len hfl
    have HEE2:Hid (closeLoop mk a.id sd price left.toNat left d1=closesE i mk marks d):=Lib.hid (by rw [HRE.out,hfl,← HSD.out];rfl)
    rw [hfl] at hret
    obtain ⟨rfl,⟨vE7,xs7,ys7,hd7⟩,hL7,hF7⟩:=hret
    have V7:=Lib.hid (VZ.fr hF7 (by decide) (desk_no HD.out _ (Nat.le_refl _)))
    have HR0:=Lib.hid (show ClR w W7 base D d (some ⟨g,0,none⟩) c (some ⟨g',0,none⟩) k i mk marks a.id sd price left.toNat left d1 vE7 xs7 ys7 from ⟨hd7,HLZ.out.trans hL7,HFZ.out.trans hF7,hk1.accs,by rw [hk2];show mk < (d.v.mks.set mk _).length;rw [List.length_set];exact hm,HEE2.out,⟨HP.out.left.1,HP.out.left.2,Nat.le_refl _⟩,by have h1:=HP.out.left;have h2:=HP.out.cnt;have h3:d1.ev.length=d.ev.length + l.length:=hk3;omega⟩)
    clear hfl hk1 hk2 hk3 hd7 hL7 hF7 VZ
    go_wp2_with fail
    go_loopw [13] (fun n wr=>∃ (fuel:Nat) (left1:Int) (d2:Dk) (vE1:Value) (xs1 ys1:List Value),n=.int .i64 left1∧Hid (ClR w wr base D d (some ⟨g,0,none⟩) c (some ⟨g',0,none⟩) k i mk marks a.id sd price fuel left1 d2 vE1 xs1 ys1) ∧
      Hid (Blk wr w.heap.size 37 #[.int .i64 a.id,.int .i64 a.bal,.slice (some ⟨b2,o2,none⟩) a.pos.length c2])) (fun n _=>(intOf n).toNat)
    case atStart=>exact ⟨left.toNat,left,d1,vE7,xs7,ys7,rfl,HR0,V7⟩
    case round =>
     obtain ⟨fuel,left1,d2,vE1,xs1,ys1,rfl,HR,HV1⟩:=hrel
     have hbr:base ≤ wr.heap.size:=Nat.le_trans hb HR.out.fr.size
     have hDr:=HR.out.desk.lt
     have hvr:=HV1.out.lt
     obtain ⟨hl0,hl1000,hlf⟩:=HR.out.bd
     by_cases hlt:0 < left1
     ·obtain ⟨f,rfl⟩:∃ f,fuel=f + 1:=⟨fuel - 1,by omega⟩
      have HLT:=Lib.hid hlt
      have HLF:=Lib.hid hlf
      clear hlf
      go_wp2_with fail
      refine (other_dk base D true d2 _ c _ k vE1 xs1 ys1 mk sd wr HR.out.desk HR.out.ok (by rw [← HSD.out];exact sideOf_ok p) HR.out.mks).mono ?_
      rintro e W8 ⟨rfl,hb8⟩
      have HD8:=Lib.hid (HR.out.desk.below (hb8.mono (Nat.le_refl _)))
      have HL8:=Lib.hid (HR.out.low.trans (hb8.mono hbr))
      have HF8:=Lib.hid (HR.out.fr.below hb8)
      have V8:=HV1.out.below hb8 hvr
      have hs8:=hb8.size
      cases ho:otherOfV d2.v mk sd with
      | none =>
       have HE9:=Lib.hid (HR.out.eq.symm.trans (loop_none HLT.out HLF.out ho))
       simp only [otherI]
       go_wp2_with fail
       go_ret
       exact retDk_err HE9.out (by omega) HL8.out
      | some bq =>
       obtain ⟨i2,x2⟩:=bq
       obtain ⟨a2,ha2,hpos⟩:=other_some ho
       obtain ⟨g8,B8,c8,b3,o3,hgg,hg8,hin8,⟨q0,q1,q2⟩,rfl,hb3,hz3,hpl3,⟨hy1,hy2⟩,hpc3,-⟩:=pos_at HD8.out ha2 HR.out.ok HR.out.mks
       obtain rfl:g8=g:=by injection hgg with hgg;injection hgg with hgg;exact hgg.symm
       obtain ⟨p2,hp2⟩:∃ p2,a2.pos.getD mk 0=p2:=⟨_,rfl⟩
       rw [hp2] at hz3 hy1 hy2 hpos
       obtain ⟨nn,hnn⟩:∃ n,min left1 (max p2 (-p2))=n:=⟨_,rfl⟩
       have hp0:p2 ≠ 0:=by intro e;rw [e,Int.zero_mul] at hpos;omega
       have hnb:1 ≤ nn∧nn ≤ 1000∧nn ≤ left1:=by omega
       have HST:=Lib.hid (HR.out.eq.symm.trans (loop_some HLT.out HLF.out ho ha2 hp2.symm hnn.symm))
       have HA2:=Lib.hid ha2
       have HNN:=Lib.hid hnn
       have hi2n:decide ((i2:Int) < 0)=false:=decide_eq_false (by omega)
       have hi20:(0:Int) ≤ (i2:Int):=by omega
       have hi21:(i2:Int) < (d2.v.accs.length:Int):=by omega
       have hmn2:(mk:Int) < (a2.pos.length:Int):=by have:=HR.out.mks;omega
       obtain ⟨hn1,hn2,hn3⟩:=hnb
       obtain ⟨⟨k0,-⟩,-⟩:=HD8.out.blk.c8
       have y8:D < W8.heap.size:=HD8.out.lt
       clear ho ha2 hpos hp2 hnn hpl3 hgg hp0
       simp only [otherI]
       go_wp2_with fail
       refine wp_name ?_
       intro W9 hW9
       have hB9:Below W8.heap.size W8 W9:=by rw [hW9];exact (Below.refl _ _).alloc (Nat.le_refl _) _
       have X9:Blk W9 W8.heap.size 37 #[.int .i64 a2.id,.int .i64 a2.bal,.slice (some ⟨b3,o3,none⟩) a2.pos.length c8]:=by rw [hW9];exact Blk.new W8 _ _
       have V9:=V8.below hB9 (by omega)
       have hs9:=hB9.size
       have HD9:=Lib.hid (HD8.out.below hB9)
       have HL9:=Lib.hid (HL8.out.trans (hB9.mono (by omega)))
       have HF9:=Lib.hid (HF8.out.below hB9)
       have hz9:W9.cell? ⟨b3,o3 + mk,none⟩=some (.int .i64 p2):=(hB9.cell (p:=⟨b3,_,none⟩) hb3).trans hz3
       have y9:=X9.lt
       clear hW9 k0 q0 q1 q2 hz3
       obtain ⟨⟨kX90,kX91,kX92⟩,-⟩:=X9.c3
       go_wp2_with fail
       go_quiet (fail)
       refine exit_name ?_
       intro W10 hW10
       rw [minmax_if,HNN.out]
       generalize (if p2 < -p2 then -p2 else p2)=mx
       have hB10:Below W9.heap.size W9 W10:=by rw [hW10];exact below_drewN (Below.refl _ _) _
       have X10:=X9.below hB10 y9
       have V10:=V9.below hB10 (by omega)
       have hs10:=hB10.size
       have HD10:=Lib.hid (HD9.out.below hB10)
       have HL10:=Lib.hid (HL9.out.trans (hB10.mono (by omega)))
       have HF10:=Lib.hid (HF9.out.below hB10)
       have hsn:-1000 ≤ sd * nn∧sd * nn ≤ 1000:=by
        rcases sideOf_ok p with e | e <;> rw [HSD.out] at e <;> rw [e] <;> omega
       have HSN:=Lib.hid hsn
       obtain ⟨hsn1,hsn2⟩:=hsn
       have hAI:=Lib.hid (aok_ids HR.out.ok a2 (List.mem_of_getElem? HA2.out))
       have y10:=X10.lt
       have y11:=V10.lt
       have v0:W10.cell? ⟨w.heap.size,0,none⟩=some (.int .i64 a.id):=V10.cell 0
       clear hW10 hB10 kX90 kX91 kX92 X9 hz9
       obtain ⟨⟨kX100,kX101,kX102⟩,-⟩:=X10.c3
       go_wp2_with fail
       refine (trade_dk base D true d2 _ c _ k vE1 xs1 ys1 mk a.id a2.id (sd * nn) price 0 W10 HD10.out (by omega) HR.out.ok HID.out hAI.out HSN.out).mono ?_
       intro e W11 hret
       cases htr:tradeE d2.v mk a.id a2.id (sd * nn) price 0 with
       | error n =>
        have HEE3:=Lib.hid (show closesE i mk marks d=.error n by rw [HST.out,htr];rfl)
        rw [htr] at hret
        obtain ⟨hn,rfl,hL11⟩:=hret
        have hn':(n != 0)=true:=by simpa using hn
        have HN:=Lib.hid hn
        clear htr hn
        go_wp2_with fail
        go_ret
        exact retDk_err HEE3.out HN.out (HL10.out.trans hL11)
       | ok v' =>
        have HEE3:=Lib.hid (show closesE i mk marks d=closeLoop mk a.id sd price f (left1 - nn) (tell ⟨v',d2.ev⟩ ⟨6,0,mk,0,a2.id,0,⟨0,0,a2.id,a.id,sd,price,nn⟩⟩) by rw [HST.out,htr];rfl)
        have HTS:=Lib.hid (trade_step HR.out.ok htr)
        rw [htr] at hret
        obtain ⟨rfl,⟨vE11,xs11,ys11,hd11⟩,hL11,hF11⟩:=hret
        have HD11:=Lib.hid hd11
        have HL11:=Lib.hid (HL10.out.trans hL11)
        have HF11:=Lib.hid (HF10.out.trans (hF11.mono (by simp) mem_dA))
        have X11:=X10.fr hF11 (by simp) (fun h=>desk_no HD8.out _ (Nat.le_refl _) (mem_dA _ h))
        have V11:=V10.fr hF11 (by simp) (fun h=>desk_no HD.out _ (Nat.le_refl _) (mem_dA _ h))
        have hs11:=hF11.size
        have hb11:base ≤ W11.heap.size:=by omega
        have hle:d2.ev.length ≤ 1000000:=by have:=HR.out.len;omega
        have v1:W11.cell? ⟨w.heap.size,0,none⟩=some (.int .i64 a.id):=V11.cell 0
        have x1:W11.cell? ⟨W8.heap.size,0,none⟩=some (.int .i64 a2.id):=X11.cell 0
        have y12:=X11.lt
        have y13:=V11.lt
        clear htr hd11 hL11 hF11 X10 V10 v0 kX100 kX101 kX102
        go_wp2_with fail
        refine (tell_dk base D true ⟨v',d2.ev⟩ _ c _ k vE11 xs11 ys11 ⟨6,0,mk,0,a2.id,0,⟨0,0,a2.id,a.id,sd,price,nn⟩⟩ W11 HD11.out hb11 hle).mono ?_
        rintro e W12 ⟨rfl,⟨vE12,hd12⟩,hL12,hK12⟩
        have HN:=Lib.hid (clr_next HR.out HTS.out ⟨hn1,hn3⟩ HEE3.out hd12 (HL11.out.trans hL12) (HF11.out.trans (hK12.fr _)))
        have HV12:=Lib.hid (V11.fr (hK12.fr []) (by decide) (by simp))
        clear hd12 hL12 hK12 v1 x1 X11 V11
        go_wp2_with fail
        go_roundw
        case rel=>exact ⟨f,_,_,_,_,_,rfl,HN,HV12⟩
        case measure=>simp [intOf];omega
     ·have HEX:=Lib.hid (HR.out.eq.symm.trans (loop_end (by omega)))
      go_wp2_with fail
      go_ret
      exact retDk_ok HEX.out HR.out.desk HR.out.low HR.out.fr
end
section
open Go.RowKit
def rowSide (b:Bk):Nat→List Od
 | 0=>b.bids
 | _=>b.asks
def setSide (b:Bk) (l:List Od):Nat→Bk
 | 0=>⟨l,b.asks⟩
 | _=>⟨b.bids,l⟩
def halfB (id:Int) (b:Bk):Nat→Bk
 | 0=>b
 | 1=>⟨notOf id b.bids,b.asks⟩
 | _=>⟨notOf id b.bids,notOf id b.asks⟩
def halfE (i:Nat) (id:Int) (b:Bk):Nat→List Ev
 | 0=>[]
 | 1=>goneEvs i id b.bids
 | _=>goneEvs i id b.bids ++ goneEvs i id b.asks
def halfM (id:Int) (m:Mk) (s:Nat):Mk:={ m with book:=halfB id m.book s }
def halfD (id:Int) (i:Nat) (m:Mk) (d:Dk) (s:Nat):Dk:=⟨setMk d.v i (halfM id m s),d.ev ++ halfE i id m.book s⟩
theorem half_zero {id:Int} {i:Nat} {m:Mk} {d:Dk} (h:d.v.mks[i]?=some m):halfD id i m d 0=d:=by
 unfold halfD
 have:setMk d.v i (halfM id m 0)=d.v:=by
  unfold setMk
  have:d.v.mks.set i (halfM id m 0)=d.v.mks:=by
   obtain ⟨h1,h2⟩:=List.getElem?_eq_some_iff.1 h
   show d.v.mks.set i m=_
   rw [← h2];exact List.set_getElem_self h1
  rw [this]
 rw [this]
 show (⟨d.v,d.ev ++ []⟩:Dk)=d
 rw [List.append_nil]
theorem half_at {id:Int} {i s:Nat} {m:Mk} {d:Dk} (h:d.v.mks[i]?=some m):(halfD id i m d s).v.mks[i]?=some (halfM id m s):=by
 show (d.v.mks.set i _)[i]?=_
 rw [List.getElem?_set_self (List.getElem?_eq_some_iff.1 h).1]
theorem half_next {id:Int} {i s:Nat} {m:Mk} {d:Dk} (hs:s < 2) :
  halfD id i m d (s + 1)=⟨setMk (halfD id i m d s).v i { halfM id m s with book:=setSide (halfM id m s).book (notOf id (rowSide (halfM id m s).book s)) s },(halfD id i m d s).ev ++ goneEvs i id (rowSide (halfM id m s).book s)⟩:=by
 have e:∀ x y:Mk,setMk (setMk d.v i x) i y=setMk d.v i y:=fun x y=>by unfold setMk;simp [List.set_set]
 rcases (show s=0∨s=1 by omega) with rfl | rfl
 ·show _=(⟨setMk (setMk d.v i _) i _,_⟩:Dk)
  rw [e]
  show (⟨_,d.ev ++ goneEvs i id m.book.bids⟩:Dk)=⟨_,d.ev ++ [] ++ goneEvs i id m.book.bids⟩
  rw [List.append_nil];rfl
 ·show _=(⟨setMk (setMk d.v i _) i _,_⟩:Dk)
  rw [e]
  show (⟨_,d.ev ++ (goneEvs i id m.book.bids ++ goneEvs i id m.book.asks)⟩:Dk)=⟨_,d.ev ++ goneEvs i id m.book.bids ++ goneEvs i id m.book.asks⟩
  rw [List.append_assoc];rfl
theorem half_two {id:Int} {i:Nat} {m:Mk} {d:Dk} (h:d.v.mks[i]?=some m):halfD id i m d 2=stripAt id i d:=by
 unfold stripAt
 rw [show mkAt d.v i=m from getD_some h,List.append_assoc]
 rfl
theorem half_len {id:Int} {i s:Nat} {m:Mk} {d:Dk}:(halfD id i m d s).ev.length ≤ d.ev.length + m.book.bids.length + m.book.asks.length:=by
 show (d.ev ++ halfE i id m.book s).length ≤ _
 rw [List.length_append]
 have h1:=gone_len (i:=i) (id:=id) (l:=m.book.bids)
 have h2:=gone_len (i:=i) (id:=id) (l:=m.book.asks)
 unfold halfE
 split
 ·simp only [List.length_nil];omega
 ·omega
 ·rw [List.length_append];omega
theorem half_side {id:Int} {m:Mk} {s:Nat} (hs:s < 2):(rowSide (halfM id m s).book s).length ≤ m.book.bids.length + m.book.asks.length:=by
 rcases (show s=0∨s=1 by omega) with rfl | rfl
 ·show m.book.bids.length ≤ _;omega
 ·show m.book.asks.length ≤ _;omega
theorem ab_od {w:World} {base k n c e:Nat} {AO:Option Addr} {xs:List Value} (h:w.ownsRow base e k (.slice AO n c) n xs):∀ g ∈ ab AO,∃ cs,Blk w g e cs:=by
 intro g hg
 obtain ⟨_,⟨hv,_⟩ | ⟨g',cap,cur,hv,_,hb,_⟩⟩:=h
 ·injection hv with hv
  subst hv;simp [ab] at hg
 ·injection hv with hv
  subst hv
  simp only [ab,Option.map_some,Option.toList_some,List.mem_singleton] at hg
  subst hg
  exact ⟨_,hb⟩
theorem ab_own {w:World} {base k n c e:Nat} {AO:Option Addr} {xs:List Value} (h:w.ownsRow base e k (.slice AO n c) n xs):∀ g ∈ ab AO,(Value.slice AO n c).ownBlock=some g:=by
 intro g hg
 obtain ⟨_,⟨hv,_⟩ | ⟨g',cap,cur,hv,_,hb,_⟩⟩:=h
 ·injection hv with hv
  subst hv;simp [ab] at hg
 ·injection hv with hv
  subst hv
  simp only [ab,Option.map_some,Option.toList_some,List.mem_singleton] at hg
  subst hg
  rfl
theorem side_own {w:World} {base m k gm i s:Nat} {Ls:List Mk} {xs:List Value} {a:Mk} {ap:Bool} (h:OwnMk w base ap (some ⟨gm,0,none⟩) m k Ls xs) (hi:Ls[i]?=some a) (hs:s < 2) :
  ∃ AO cO,xs[i * 4 + s]?=some (.slice AO (rowSide a.book s).length cO)∧w.ownsRow base 71 5 (.slice AO (rowSide a.book s).length cO) (rowSide a.book s).length (odCells (rowSide a.book s)) ∧
   w.cell? ⟨gm,i * 4 + s,none⟩=some (.slice AO (rowSide a.book s).length cO)∧(∃ cs,Blk w gm 64 cs)∧base ≤ gm:=by
 obtain ⟨g,A2,c2,A3,c3,hg,hg1,-,-,hgB,⟨q0,q1,-,-⟩,-,hbk,-,-,hx0,hx1⟩:=omk_at h hi
 injection hg with hg
 injection hg with hg
 subst hg
 rcases (show s=0∨s=1 by omega) with rfl | rfl
 ·exact ⟨A2,c2,hx0,hbk.l,q0,hgB,hg1⟩
 ·exact ⟨A3,c3,hx1,hbk.r,q1,hgB,hg1⟩
theorem apart_same {xs:List Value} {p:Nat} {u u':Value} (h:Apart xs) (hp:xs[p]?=some u) (hb:u'.ownBlock=u.ownBlock):Apart (xs.set p u'):=by
 have hl:=(List.getElem?_eq_some_iff.1 hp).1
 have key:∀ (q:Nat) (v:Value) (g:Nat),(xs.set p u')[q]?=some v→v.ownBlock=some g→∃ v':Value,xs[q]?=some v'∧v'.ownBlock=some g:=by
  intro q v g hv hg
  by_cases e:p=q
  ·subst e
   rw [List.getElem?_set_self hl] at hv
   injection hv with hv
   subst hv
   exact ⟨u,hp,by rw [← hb];exact hg⟩
  ·rw [getElem?_set_ne' e] at hv
   exact ⟨v,hv,hg⟩
 intro a s j t v v2 g hs ht hv hv2 hg hg2
 obtain ⟨x,hx,hxg⟩:=key _ _ _ hv hg
 obtain ⟨y,hy,hyg⟩:=key _ _ _ hv2 hg2
 exact h a s j t x y g hs ht hx hy hxg hyg
theorem OwnMk.put_side {w w1:World} {base m k gm i s n cO c':Nat} {Ls:List Mk} {xs:List Value} {a:Mk} {AO:Option Addr} {l:List Od} (h:OwnMk w base true (some ⟨gm,0,none⟩) m k Ls xs) (hi:Ls[i]?=some a) (hs:s < 2) (hc:xs[i * 4 + s]?=some (.slice AO n cO))
  (hw:w.ownsRow base 71 5 (.slice AO n cO) n (odCells (rowSide a.book s))) (hf:Fr [174,124] (ab AO) w w1) (ho:w1.ownsRow base 71 5 (.slice AO l.length c') l.length (odCells l)) (hl:l.length ≤ 4000000000000) :
  OwnMk (w1.setCell ⟨gm,i * 4 + s,none⟩ (.slice AO l.length c')) base true (some ⟨gm,0,none⟩) m k (Ls.set i { a with book:=setSide a.book l s }) (xs.set (i * 4 + s) (.slice AO l.length c')):=by
 have hlen:=h.row.1
 have hil:=(List.getElem?_eq_some_iff.1 hi).1
 have hn:i < m:=by have:=h.len;omega
 have hrow1:=hf.own h.row (by decide) fun g hg hm=>by obtain ⟨cs,hb⟩:=ab_od hw g hm;exact own_blk_ne h.row hb (by decide) hg
 obtain ⟨gm',csm,e1,_,hbm⟩:=own_blk hrow1 (by omega)
 injection e1 with e1
 injection e1 with e1
 subst e1
 have hK:Kept [64] w1 (w1.setCell ⟨gm,i * 4 + s,none⟩ (.slice AO l.length c')):=(Kept.refl _ _).set hbm (by decide) _ _
 have keep:∀ v n' ys j t,t < 2→(j=i→t ≠ s)→xs[j * 4 + t]?=some v→w.ownsRow base 71 5 v n' ys→(w1.setCell ⟨gm,i * 4 + s,none⟩ (.slice AO l.length c')).ownsRow base 71 5 v n' ys:=by
  intro v n' ys j t ht hne hx hv
  refine hK.own (hf.own hv (by decide) fun g hg hm=>?_) (by decide)
  have:=h.apart rfl j t i s v _ g ht hs hx hc hg (ab_own hw g hm)
  exact hne this.1 this.2
 refine ⟨own_store hrow1 _ _,by rw [List.length_set];exact h.len,fun j b hb=>?_,fun _=>apart_same (h.apart rfl) hc (by cases AO <;> rfl)⟩
 by_cases e:j=i
 ·subst e
  rw [List.getElem?_set_self hil] at hb
  injection hb with hb
  subst hb
  obtain ⟨A2,c2,A3,c3,k1,k2,k3,k4,k5,k6,k7⟩:=h.cell j a hi
  rcases (show s=0∨s=1 by omega) with rfl | rfl
  ·refine ⟨AO,c',A3,c3,?_,?_,?_,?_,⟨hK.own ho (by decide),keep _ _ _ j 1 (by omega) (by omega) k2 k5.r⟩,hl,k7⟩
   ·rw [Nat.add_zero,List.getElem?_set_self (by omega)];rfl
   ·rw [getElem?_set_ne' (by omega)];exact k2
   ·rw [getElem?_set_ne' (by omega)];exact k3
   ·rw [getElem?_set_ne' (by omega)];exact k4
  ·refine ⟨A2,c2,AO,c',?_,?_,?_,?_,⟨keep _ _ _ j 0 (by omega) (by omega) k1 k5.l,hK.own ho (by decide)⟩,k6,hl⟩
   ·rw [getElem?_set_ne' (by omega)];exact k1
   ·rw [List.getElem?_set_self (by omega)];rfl
   ·rw [getElem?_set_ne' (by omega)];exact k3
   ·rw [getElem?_set_ne' (by omega)];exact k4
 ·rw [getElem?_set_ne' (Ne.symm e)] at hb
  obtain ⟨A2,c2,A3,c3,k1,k2,k3,k4,k5,k6⟩:=h.cell j b hb
  refine ⟨A2,c2,A3,c3,?_,?_,?_,?_,⟨keep _ _ _ j 0 (by omega) (fun h=>absurd h e) k1 k5.l,keep _ _ _ j 1 (by omega) (fun h=>absurd h e) k2 k5.r⟩,k6⟩
  ·rw [getElem?_set_ne' (by omega)];exact k1
  ·rw [getElem?_set_ne' (by omega)];exact k2
  ·rw [getElem?_set_ne' (by omega)];exact k3
  ·rw [getElem?_set_ne' (by omega)];exact k4
theorem desk_side {w w1 Z:World} {base D c k gm i s n cO c':Nat} {d:Dk} {A AO:Option Addr} {vE vE':Value} {xs ys:List Value} {a:Mk} {l:List Od} {E:List Ev} (h:Desk w base D true d A c (some ⟨gm,0,none⟩) k vE xs ys) (hi:d.v.mks[i]?=some a) (hs:s < 2) (hc:ys[i * 4 + s]?=some (.slice AO n cO))
  (hw:w.ownsRow base 71 5 (.slice AO n cO) n (odCells (rowSide a.book s))) (hf:Fr [174,124] (ab AO) w w1) (ho:w1.ownsRow base 71 5 (.slice AO l.length c') l.length (odCells l)) (hl:l.length ≤ 4000000000000)
  (ht:Teller w1 base D A c (some ⟨gm,0,none⟩) k d.v (d.ev ++ E) vE') (hZ:Z=w1.setCell ⟨gm,i * 4 + s,none⟩ (.slice AO l.length c')) :
  Desk Z base D true ⟨setMk d.v i { a with book:=setSide a.book l s },d.ev ++ E⟩ A c (some ⟨gm,0,none⟩) k vE' xs (ys.set (i * 4 + s) (.slice AO l.length c'))∧Fr [174,124,71] (ab (some ⟨gm,0,none⟩)) w Z∧base ≤ gm:=by
 have hlen:(setMk d.v i { a with book:=setSide a.book l s }).mks.length=d.v.mks.length:=by simp [setMk]
 have hmk:=(h.mks.put_side hi hs hc hw hf ho hl).cast hlen.symm
 have hrow1:=hf.own h.mks.row (by decide) fun g hg hm=>by obtain ⟨cs,hb⟩:=ab_od hw g hm;exact own_blk_ne h.mks.row hb (by decide) hg
 obtain ⟨gm',csm,e1,hbm0,hbm⟩:=own_blk hrow1 (by have:=(List.getElem?_eq_some_iff.1 hi).1;omega)
 injection e1 with e1
 injection e1 with e1
 subst e1
 have hK:Kept [64] w1 Z:=by rw [hZ];exact (Kept.refl _ _).set hbm (by decide) _ _
 rw [← hZ] at hmk
 refine ⟨⟨?_,h.low,?_,hmk,hK.own ht.evs (by decide)⟩,?_,hbm0⟩
 ·show Blk Z D 174 #[_,.slice _ (setMk d.v i { a with book:=setSide a.book l s }).mks.length k,_,_,_,_,_,_]
  rw [hlen]
  exact ht.blk.kept hK (by decide)
 ·have hfo:∀ e sz v n' zs,71 ≠ e→e ∉ [174,124]→w.ownsRow base e sz v n' zs→w1.ownsRow base e sz v n' zs:=fun e sz v n' zs he hS hv =>
   hf.own hv hS fun g hg hm=>by obtain ⟨cs,hb⟩:=ab_od hw g hm;exact own_blk_ne hv hb he hg
  exact (h.accs.mono (hfo _ _ _ _ _ (by decide) (by decide) h.accs.row) fun _ _ _ hr=>hfo _ _ _ _ _ (by decide) (by decide) hr).kept hK (by decide) (by decide)
 ·refine Fr.trans (b:=w1) ⟨hf.size,fun g t cs hb ht' hg=>hf.blk g t cs hb (fun hm=>ht' (by rcases List.mem_cons.1 hm with rfl | hm <;> simp_all)) fun hm=>?_⟩ ?_
  ·obtain ⟨cs',hb'⟩:=ab_od hw g hm
   by_cases e:t=71
   ·exact ht' (by simp [e])
   ·exact blk_ne hb hb' e rfl
  ·rw [hZ];exact (Fr.refl _ _ _).set hbm (.inr (by simp [ab])) _ _
theorem jx0 (a b:Value) (w:World):(Instr.index 238 (.agg #[a,b]) (.int .i64 0)).run Try.prog w=.ok a w:=by
 kernel_rfl
theorem jx1 (a b:Value) (w:World):(Instr.index 238 (.agg #[a,b]) (.int .i64 1)).run Try.prog w=.ok b w:=by
 kernel_rfl
structure SpR (w wr:World) (base D:Nat) (id:Int) (d:Dk) (A:Option Addr) (c:Nat) (M:Option Addr) (k:Nat) (bd bi:Nat) (i:Nat) (d1:Dk) (vE:Value) (xs ys:List Value):Prop where
 desk:Desk wr base D true d1 A c M k vE xs ys
 low:Below base w wr
 fr:Fr [174,124,71] (D :: (ab A ++ ab M)) w wr
 who:Blk wr bi 3 #[.int .i64 id]
 dp:Blk wr bd 171 #[.pointer (some ⟨D,0,none⟩)]
 ok:VOk d1.v
 eq:stripFrom id (d.v.mks.length - i) i d1=strip id d
 len:d1.v.mks.length=d.v.mks.length
 ev:d1.ev.length ≤ d.ev.length + 40 * i
structure SqR (w wr:World) (base D:Nat) (id:Int) (i:Nat) (m:Mk) (d1:Dk) (A:Option Addr) (c gm k:Nat) (bd bi gk s:Nat) (vE:Value) (xs ys:List Value):Prop where
 desk:Desk wr base D true (halfD id i m d1 s) A c (some ⟨gm,0,none⟩) k vE xs ys
 low:Below base w wr
 fr:Fr [174,124,71] (D :: (ab A ++ ab (some ⟨gm,0,none⟩))) w wr
 cap:Caps wr D bi bd gk id i
set_option maxHeartbeats 4000000 in
set_option maxRecDepth 100000 in
theorem strip_dk (base D:Nat) (d:Dk) (A:Option Addr) (c:Nat) (M:Option Addr) (k:Nat) (vE:Value) (xs ys:List Value) (id:Int) (w:World) (h:Desk w base D true d A c M k vE xs ys) (hb:base ≤ w.heap.size) (hv:VOk d.v) (hl:d.ev.length ≤ 800000) :
  Calls Try.prog 190 #[.pointer (some ⟨D,0,none⟩),.int .i64 id] w fun e w'=>e=.returned (.tuple #[])∧(∃ vE xs ys,Desk w' base D true (strip id d) A c M k vE xs ys)∧Below base w w'∧Fr [174,124,71] (D :: (ab A ++ ab M)) w w':=by
 have HD:=Lib.hid h
 have HV:=Lib.hid hv
 have hDl:=h.lt
 obtain ⟨hm1,hm2⟩:=hv.len
 obtain ⟨⟨-,k1,-⟩,-⟩:=h.blk.c8
 clear h hv
 go_enter Try.func190,Try.ntmps190
 go_wp2_with fail
 refine wp_name ?_
 intro W0 hW0
 have hB0:Below w.heap.size w W0:=by rw [hW0];exact ((Below.refl _ _).alloc (Nat.le_refl _) _).alloc (by simp) _
 have X0:Blk W0 w.heap.size 171 #[.pointer (some ⟨D,0,none⟩)]:=by rw [hW0];exact (Blk.new w _ _).alloc _
 have X1:Blk W0 (w.heap.size + 1) 3 #[.int .i64 id]:=by rw [hW0];exact Blk.new_at _ _ _ _ (by simp)
 have HR0:=Lib.hid (show SpR w W0 base D id d A c M k w.heap.size (w.heap.size + 1) 0 d vE xs ys from ⟨HD.out.below hB0,hB0.mono hb,Fr.of_below _ _ hB0,X1,X0,HV.out,rfl,rfl,by omega⟩)
 clear hW0 k1 hB0 X0 X1
 go_loopw [14] (fun q wr=>∃ (i:Nat) (d1:Dk) (vE1:Value) (xs1 ys1:List Value),i ≤ d.v.mks.length∧q=.int .i64 i∧Hid (SpR w wr base D id d A c M k w.heap.size (w.heap.size + 1) i d1 vE1 xs1 ys1)) (fun q _=>d.v.mks.length - (intOf q).toNat)
 case atStart=>exact ⟨0,d,vE,xs,ys,by omega,rfl,HR0⟩
 case round =>
  obtain ⟨wo,rfl⟩:∃ x,x=wr:=⟨wr,rfl⟩
  obtain ⟨i,d1,vE1,xs1,ys1,hi,rfl,HR⟩:=hrel
  have hws:=HR.out.fr.size
  by_cases hlt:i < d.v.mks.length
  ·obtain ⟨m,hm⟩:∃ m,d1.v.mks[i]?=some m:=⟨_,List.getElem?_eq_getElem (by rw [HR.out.len];exact hlt)⟩
   have HM:=Lib.hid hm
   go_wp2_with fail
   refine wp_name ?_
   intro W1 hW1
   have hB1:Below wo.heap.size wo W1:=by rw [hW1];exact (Below.refl _ _).alloc (Nat.le_refl _) _
   have G1:Blk W1 wo.heap.size 3 #[.int .i64 i]:=by rw [hW1];exact Blk.new wo _ _
   have HC1:=Lib.hid (show Caps W1 D (w.heap.size + 1) w.heap.size wo.heap.size id i from ⟨HR.out.who.below hB1 HR.out.who.lt,HR.out.dp.below hB1 HR.out.dp.lt,G1⟩)
   have HD1:=Lib.hid (HR.out.desk.below hB1)
   have hs1:=hB1.size
   obtain ⟨gm,A2,c2,A3,c3,rfl,-,-,-,-,-⟩:=omk_at HD1.out.mks hm
   obtain ⟨⟨-,k1,-⟩,-⟩:=HD1.out.blk.c8
   have c0:W1.cell? ⟨w.heap.size,0,none⟩=some (.pointer (some ⟨D,0,none⟩)):=HC1.out.desk.cell 0
   have c1:W1.cell? ⟨wo.heap.size,0,none⟩=some (.int .i64 i):=G1.cell 0
   have y1:=G1.lt
   have y2:=HC1.out.desk.lt
   have y3:D < W1.heap.size:=HD1.out.lt
   have hi0:(0:Int) ≤ (i:Int):=by omega
   have hi1:(i:Int) < (d1.v.mks.length:Int):=by have:=HR.out.len;omega
   clear hW1 hm
   go_wp2_with fail
   go_quiet (fail)
   refine exit_name ?_
   intro W2 hW2
   have hB2:Below W1.heap.size W1 W2:=by rw [hW2];exact below_drewN (Below.refl _ _) _
   clear hW2
   go_wp2_with fail
   go_quiet (fail)
   refine exit_name ?_
   intro W3 hW3
   have hB3:Below W1.heap.size W1 W3:=by rw [hW3];exact below_drewN hB2 _
   have hs3:=hB3.size
   have HQ0:=Lib.hid (show SqR w W3 base D id i m d1 A c gm k w.heap.size (w.heap.size + 1) wo.heap.size 0 vE1 xs1 ys1 from
    ⟨by rw [half_zero HM.out];exact HD1.out.below hB3,(HR.out.low.trans (hB1.mono (by omega))).trans (hB3.mono (by omega)),(HR.out.fr.below hB1).below hB3,HC1.out.below hB3⟩)
   clear hW3 hB2 hB3 k1 c0 c1 G1 hB1
   go_wp2_with fail
   go_loopw [32] (fun q wi=>∃ (s:Nat) (vE2:Value) (xs2 ys2:List Value),s ≤ 2∧q=.int .i64 s∧Hid (SqR w wi base D id i m d1 A c gm k w.heap.size (w.heap.size + 1) wo.heap.size s vE2 xs2 ys2)) (fun q _=>2 - (intOf q).toNat)
   case atStart=>exact ⟨0,vE1,xs1,ys1,by omega,rfl,HQ0⟩
   case round =>
    obtain ⟨s,vE2,xs2,ys2,hs,rfl,HQ⟩:=hrel
    have hbl:m.book.bids.length + m.book.asks.length ≤ 40:=(marketErr_ok.1 (HR.out.ok.mks m (List.mem_of_getElem? HM.out)).1).1.len
    have hbw:base ≤ wr.heap.size:=Nat.le_trans hb HQ.out.fr.size
    have hE1:=HR.out.ev
    have hE2:=half_len (id:=id) (i:=i) (s:=s) (m:=m) (d:=d1)
    by_cases hs2:s < 2
    ·rcases (show s=0∨s=1 by omega) with rfl | rfl
     ·skip
      have hLl:=half_side (id:=id) (m:=m) (s:=0) (by omega)
      obtain ⟨AO,cO,hx,hown,hcell,⟨csm,hgm⟩,hbm⟩:=side_own (s:=0) HQ.out.desk.mks (half_at HM.out) (by omega)
      obtain ⟨L,hL⟩:∃ L,rowSide (halfM id m 0).book 0=L:=⟨_,rfl⟩
      rw [hL] at hx hown hcell hLl
      have hcell':wr.cell? ⟨gm,i * 4,none⟩=some (.slice AO L.length cO):=hcell
      have hgl:=hgm.lt
      have HX:=Lib.hid hx
      have HOW:=Lib.hid hown
      have HGM:=Lib.hid hgm
      have HL:=Lib.hid hL
      have hEE:(halfD id i m d1 0).ev.length + L.length ≤ 1000000:=by omega
      have hix:=jx0 (.pointer (some ⟨gm,i * 4,none⟩)) (.pointer (some ⟨gm,i * 4 + 1,none⟩)) wr
      clear hcell hx hown hgm hL hE1 hE2
      go_wp2_with fail
      refine (delfunc_row base D A c (some ⟨gm,0,none⟩) k (halfD id i m d1 0).v (halfD id i m d1 0).ev vE2 AO cO L id i (w.heap.size + 1) w.heap.size wo.heap.size wr ⟨HQ.out.desk.blk,HQ.out.desk.low,HQ.out.desk.evs⟩ HQ.out.cap HOW.out hbw hEE).mono ?_
      rintro e w5 ⟨c',rfl,ho5,⟨vE5,ht5⟩,hL5,hF5⟩
      have g5:=HGM.out.fr hF5 (by decide) (fun hm=>by obtain ⟨cs,hb⟩:=ab_od HOW.out gm hm;exact blk_ne HGM.out hb (by decide) rfl)
      have f5:=g5.frozen (i * 4)
      have z5:w5.cell? ⟨gm,i * 4,none⟩=some (.slice AO L.length cO):=(g5.cell _).trans ((HGM.out.cell _).symm.trans hcell')
      have g5l:=g5.lt
      have hnl:(notOf id L).length ≤ 4000000000000:=by have:(notOf id L).length ≤ L.length:=List.length_filter_le _ _;omega
      obtain ⟨hdz,hfz,-⟩:=desk_side HQ.out.desk (half_at HM.out) (by omega) HX.out (by rw [HL.out];exact HOW.out) hF5 ho5 hnl ht5 rfl
      have HN:=Lib.hid (show SqR w (w5.setCell ⟨gm,i * 4,none⟩ (.slice AO (notOf id L).length c')) base D id i m d1 A c gm k w.heap.size (w.heap.size + 1) wo.heap.size (0 + 1) vE5 xs2 (ys2.set (i * 4 + 0) (.slice AO (notOf id L).length c')) from
       ⟨by rw [half_next (s:=0) (by omega),HL.out];exact hdz,(HQ.out.low.trans hL5).setCell hbm _,HQ.out.fr.trans (hfz.mono (fun _ h=>h) (by intro y hy;simp [hy])),
        (HQ.out.cap.fr hF5 (by decide) (by decide) (ab_od HOW.out)).fr (((Kept.refl [64] _).set g5 (by decide) _ _).fr []) (by decide) (by decide) (by simp)⟩)
      clear hdz hfz ho5 ht5 hL5 hF5 hcell' g5
      go_wp2_with fail
      go_roundw
      case rel=>exact ⟨0 + 1,vE5,xs2,_,by omega,by go_num,HN⟩
      case measure=>simp [intOf]
     ·skip
      have hLl:=half_side (id:=id) (m:=m) (s:=1) (by omega)
      obtain ⟨AO,cO,hx,hown,hcell,⟨csm,hgm⟩,hbm⟩:=side_own (s:=1) HQ.out.desk.mks (half_at HM.out) (by omega)
      obtain ⟨L,hL⟩:∃ L,rowSide (halfM id m 1).book 1=L:=⟨_,rfl⟩
      rw [hL] at hx hown hcell hLl
      have hcell':wr.cell? ⟨gm,i * 4 + 1,none⟩=some (.slice AO L.length cO):=hcell
      have hgl:=hgm.lt
      have HX:=Lib.hid hx
      have HOW:=Lib.hid hown
      have HGM:=Lib.hid hgm
      have HL:=Lib.hid hL
      have hEE:(halfD id i m d1 1).ev.length + L.length ≤ 1000000:=by omega
      have hix:=jx1 (.pointer (some ⟨gm,i * 4,none⟩)) (.pointer (some ⟨gm,i * 4 + 1,none⟩)) wr
      clear hcell hx hown hgm hL hE1 hE2
      go_wp2_with fail
      refine (delfunc_row base D A c (some ⟨gm,0,none⟩) k (halfD id i m d1 1).v (halfD id i m d1 1).ev vE2 AO cO L id i (w.heap.size + 1) w.heap.size wo.heap.size wr ⟨HQ.out.desk.blk,HQ.out.desk.low,HQ.out.desk.evs⟩ HQ.out.cap HOW.out hbw hEE).mono ?_
      rintro e w5 ⟨c',rfl,ho5,⟨vE5,ht5⟩,hL5,hF5⟩
      have g5:=HGM.out.fr hF5 (by decide) (fun hm=>by obtain ⟨cs,hb⟩:=ab_od HOW.out gm hm;exact blk_ne HGM.out hb (by decide) rfl)
      have f5:=g5.frozen (i * 4 + 1)
      have z5:w5.cell? ⟨gm,i * 4 + 1,none⟩=some (.slice AO L.length cO):=(g5.cell _).trans ((HGM.out.cell _).symm.trans hcell')
      have g5l:=g5.lt
      have hnl:(notOf id L).length ≤ 4000000000000:=by have:(notOf id L).length ≤ L.length:=List.length_filter_le _ _;omega
      obtain ⟨hdz,hfz,-⟩:=desk_side HQ.out.desk (half_at HM.out) (by omega) HX.out (by rw [HL.out];exact HOW.out) hF5 ho5 hnl ht5 rfl
      have HN:=Lib.hid (show SqR w (w5.setCell ⟨gm,i * 4 + 1,none⟩ (.slice AO (notOf id L).length c')) base D id i m d1 A c gm k w.heap.size (w.heap.size + 1) wo.heap.size (1 + 1) vE5 xs2 (ys2.set (i * 4 + 1) (.slice AO (notOf id L).length c')) from
       ⟨by rw [half_next (s:=1) (by omega),HL.out];exact hdz,(HQ.out.low.trans hL5).setCell hbm _,HQ.out.fr.trans (hfz.mono (fun _ h=>h) (by intro y hy;simp [hy])),
        (HQ.out.cap.fr hF5 (by decide) (by decide) (ab_od HOW.out)).fr (((Kept.refl [64] _).set g5 (by decide) _ _).fr []) (by decide) (by decide) (by simp)⟩)
      clear hdz hfz ho5 ht5 hL5 hF5 hcell' g5
      go_wp2_with fail
      go_roundw
      case rel=>exact ⟨1 + 1,vE5,xs2,_,by omega,by go_num,HN⟩
      case measure=>simp [intOf]
    ·obtain rfl:s=2:=by omega
     have HSA:=Lib.hid (strip_at (id:=id) (i:=i) HR.out.ok (by rw [HR.out.len];exact hlt))
     have HN:=Lib.hid (show SpR w wr base D id d A c (some ⟨gm,0,none⟩) k w.heap.size (w.heap.size + 1) (i + 1) (stripAt id i d1) vE2 xs2 ys2 from
      ⟨by rw [← half_two HM.out];exact HQ.out.desk,HQ.out.low,HQ.out.fr,HQ.out.cap.who,HQ.out.cap.desk,HSA.out.1.step.ok,by
       have:=HR.out.eq
       rw [show d.v.mks.length - i=(d.v.mks.length - (i + 1)) + 1 by omega] at this
       exact this,HSA.out.1.step.len.trans HR.out.len,by rw [← half_two HM.out];omega⟩)
     clear hE1 hE2
     go_wp2_with fail
     go_roundw
     case rel=>exact ⟨i + 1,_,_,_,_,by omega,by go_num,HN⟩
     case measure=>simp [intOf];omega
  ·obtain rfl:i=d.v.mks.length:=by omega
   have HE:=Lib.hid (show d1=strip id d by have:=HR.out.eq;rw [Nat.sub_self] at this;exact this)
   go_wp2_with fail
   go_end0
   exact ⟨rfl,⟨vE1,xs1,ys1,by rw [← HE.out];exact HR.out.desk⟩,HR.out.low,HR.out.fr⟩
end
section
open Go.RowKit
theorem marksFrom_bad:∀ {L:List Mk} {j:Nat} {m:Mk} {n e:Int},(∀ x ∈ L.take j,marketErr x=0)→L[j]?=some m→markOf m=(n,e)→e ≠ 0→marksFrom L=([],e)
 | x :: l,0,m,n,e,_,hm,h1,h2=>by
  simp only [List.getElem?_cons_zero,Option.some.injEq] at hm
  subst hm
  unfold marksFrom
  rw [h1,if_pos h2]
 | x :: l,j + 1,m,n,e,hj,hm,h1,h2=>by
  simp only [List.getElem?_cons_succ] at hm
  have h0:marketErr x=0:=hj x (by simp)
  have ih:=marksFrom_bad (L:=l) (j:=j) (fun y hy=>hj y (by simp [hy])) hm h1 h2
  unfold marksFrom
  rw [ih]
  have:(markOf x).2=0:=by unfold markOf;rw [if_neg (by omega)]
  rw [if_neg (by omega)]
  simp [h2]
def RetMarks (w:World) (r:List Int × Int) (e:Ending) (w':World):Prop:=∃ A c,e=.returned (.tuple #[.slice A r.1.length c,.int .i64 r.2])∧w'.ownsRow w.heap.size 3 1 (.slice A r.1.length c) r.1.length (ints r.1)∧Below w.heap.size w w'
theorem retMarks_mk {w w':World} {r:List Int × Int} {l:List Int} {A:Option Addr} {n c:Nat} {e:Int} (h:r=(l,e)) (hl:l.length=n) (ho:w'.ownsRow w.heap.size 3 1 (.slice A n c) n (ints l)) (hb:Below w.heap.size w w') :
  RetMarks w r (.returned (.tuple #[.slice A n c,.int .i64 e])) w':=by subst h hl;exact ⟨A,c,rfl,ho,hb⟩
theorem mark_pair (m:Mk):∃ n e,markOf m=(n,e):=⟨_,_,rfl⟩
theorem mark_zero {m:Mk} {n:Int} (h:markOf m=(n,0)):marketErr m=0∧n=markP m:=by
 unfold markOf at h
 split at h
 ·injection h with _ h;exact absurd h ‹_›
 ·injection h with h _;exact ⟨by omega,h.symm⟩
theorem marksFrom_good:∀ {L:List Mk},(∀ m ∈ L,marketErr m=0)→marksFrom L=(L.map markP,0)
 | [],_=>rfl
 | m :: l,h=>by
  have h0:marketErr m=0:=h m (by simp)
  unfold marksFrom
  rw [marksFrom_good fun x hx=>h x (by simp [hx])]
  have:markOf m=(markP m,0):=by unfold markOf;rw [if_neg (by omega)]
  rw [this];rfl
set_option maxHeartbeats 2000000 in
theorem marks_any (A:Option Addr) (n c:Nat) (L:List Mk) (B:Nat) (w:World) (h:RdL shMk w B A n c L) (hB:B ≤ w.heap.size) :
  Calls Try.prog 95 #[.slice A n c] w (RetMarks w (marksOf L)):=by
 have HL:=Lib.hid h.len
 have hle:=h.le
 have hcap:=h.cap
 unfold maxLen at hcap
 have hn:n < 1∨2 < n∨1 ≤ n∧n ≤ 2:=by omega
 rcases hn with hn | hn | ⟨hn1,hn2⟩
 ·have HE:=Lib.hid (show marksOf L=([],2) by unfold marksOf;rw [if_pos (by have:=HL.out;omega)])
  obtain rfl:n=0:=by omega
  go_enter Try.func95,Try.ntmps95
  go_wp2_with fail
  go_ret2
  exact retMarks_mk HE.out rfl (World.ownsRow_nil _ _ _ _) (Below.refl _ _)
 ·have HE:=Lib.hid (show marksOf L=([],2) by unfold marksOf;rw [if_pos (by have:=HL.out;omega)])
  have hn':¬ n < 1:=by omega
  go_enter Try.func95,Try.ntmps95
  go_wp2_with fail
  go_ret2
  exact retMarks_mk HE.out rfl (World.ownsRow_nil _ _ _ _) (Below.refl _ _)
 ·have HE:=Lib.hid (show marksOf L=marksFrom L by unfold marksOf;rw [if_neg (by have:=HL.out;omega)])
  go_enter Try.func95,Try.ntmps95
  go_wp2_with fail
  go_loopw [4,19] (fun l i wr=>∃ (j:Nat),j ≤ n∧i=.int .i64 j∧Hid (wr.ownsRow w.heap.size 3 1 l j (ints ((L.take j).map markP)))∧Below w.heap.size w wr∧Hid (∀ x ∈ L.take j,marketErr x=0)) (fun _ i _=>n - (intOf i).toNat)
  case atStart=>exact ⟨0,Nat.zero_le _,rfl,World.ownsRow_nil _ _ _ _,Below.refl _ _,Lib.hid (by simp)⟩
  case round =>
   obtain ⟨j,hj,rfl,HO,hbr,HJ⟩:=hrel
   have hws:=hbr.size
   obtain ⟨Av,cv,rfl⟩:=own_shape HO.out
   by_cases hlt:j < n
   ·obtain ⟨bb,oo,m,rfl,hbB,hm,A2,c2,A3,c3,k0,k1,k2,k3,hbk,hl1,hl2⟩:=mk_at (h.below (hbr.mono hB)) hlt
    have HM:=Lib.hid hm
    have x1:bb < wr.heap.size:=by omega
    obtain ⟨z,e,hz⟩:=mark_pair m
    have HZ:=Lib.hid hz
    clear hm hz
    go_wp2_with fail
    have hba:Below wr.heap.size wr (wr.alloc (.cells #[.slice A2 m.book.bids.length c2,.slice A3 m.book.asks.length c3,.int .i64 m.index,.int .i64 m.last] 64)):=(Below.refl _ _).alloc (Nat.le_refl _) _
    refine (mark_any m A2 A3 c2 c3 B _ (hbk.l.below (hba.mono (by omega))) (hbk.r.below (hba.mono (by omega))) (by simp;omega) hl1 hl2).mono ?_
    rintro en w2 ⟨rfl,hb2⟩
    rw [HZ.out]
    have hbw:=hba.trans (hb2.mono (by simp))
    have hs2:=hbw.size
    clear hb2 hba k0 k1 k2 k3
    by_cases he:e=0
    ·subst he
     have HOK:=Lib.hid (mark_zero HZ.out)
     have HO2:=Lib.hid (own_below HO.out hbw (Nat.le_refl _))
     go_wp2_with (at_builtin;go_must (refine wpList_app rfl _ _ _ rfl w.heap.size _ _ _ elem_int _ j (ints ((L.take j).map markP)) rfl (HO2.out.alloc _) (w2.heap.size + 1) _ _ _ [.int .i64 z] rfl (Rd.new w2 #[.int .i64 z] 3 1 rfl (by decide)) (one_ints [z]) (by simp only [maxLen];omega) (by omega) (by simp;omega) ?_);intro v' w4 hown hbel hg _)
     have hb4:Below w.heap.size w w4:=hbr.trans ((hbw.mono (by omega)).trans (((Below.refl _ _).alloc (by omega) _).trans hbel))
     have HO4:=Lib.hid (show w4.ownsRow w.heap.size 3 1 v' (j + 1) (ints ((L.take (j + 1)).map markP)) by
      have e:ints ((L.take j).map markP) ++ [.int .i64 z]=ints ((L.take (j + 1)).map markP):=by
       rw [List.take_add_one,HM.out];simp [ints,HOK.out.2]
      rw [← e];exact hown)
     clear hown hbel hg
     go_wp2_with fail
     go_roundw
     case rel=>exact ⟨j + 1,by omega,by go_num,HO4,hb4,Lib.hid (by
      intro x hx
      rw [List.take_add_one,HM.out,List.mem_append] at hx
      rcases hx with hx | hx
      ·exact HJ.out x hx
      ·simp only [Option.toList_some,List.mem_singleton] at hx;subst hx;exact HOK.out.1)⟩
     case measure=>simp [intOf];omega
    ·have he':(e != 0)=true:=by simpa using he
     have HE2:=Lib.hid (show marksOf L=([],e) by rw [HE.out];exact marksFrom_bad HJ.out HM.out HZ.out he)
     clear he
     go_wp2_with fail
     go_ret2
     exact retMarks_mk HE2.out rfl (World.ownsRow_nil _ _ _ _) (hbr.trans (hbw.mono (by omega)))
   ·have hjn:j=n:=by omega
    have HE2:=Lib.hid (show marksOf L=(L.map markP,0) by
     rw [HE.out];refine marksFrom_good fun x hx=>HJ.out x ?_
     rw [hjn,List.take_of_length_le (by rw [HL.out];exact Nat.le_refl _)];exact hx)
    have HO2:=Lib.hid (show wr.ownsRow w.heap.size 3 1 (.slice Av j cv) j (ints (L.map markP)) by
     have:=HO.out;rw [List.take_of_length_le (by rw [HL.out];omega)] at this;exact this)
    have HLN:=Lib.hid (show (L.map markP).length=j by rw [List.length_map,HL.out,hjn])
    clear hjn
    go_wp2_with fail
    go_ret2
    exact retMarks_mk HE2.out HLN.out HO2.out hbr
end
section
open Go.RowKit
theorem marks_ref {l:List Int} {n:Int} (A:Option Addr) (m c:Nat) (L:List Mk) (B:Nat) (w:World) (hr:marksOf L=(l,n)) (h:RdL shMk w B A m c L) (hB:B ≤ w.heap.size) :
  Calls Try.prog 95 #[.slice A m c] w (RetMarks w (l,n)):=by rw [← hr];exact marks_any A m c L B w h hB
theorem sound_ref {b g:Bool} {n:Int} (a:Ac) (A A':Option Addr) (c n' c':Nat) (marks:List Int) (B B':Nat) (w:World) (hr:soundOf a marks=(b,g,n)) (h:Rd w B 1 A a.pos.length c (ints a.pos)) (hB:B ≤ w.heap.size) (h':Rd w B' 1 A' n' c' (ints marks)) (hB':B' ≤ w.heap.size) :
  Calls Try.prog 57 #[.agg #[.int .i64 a.id,.int .i64 a.bal,.slice A a.pos.length c],.slice A' n' c'] w fun e w'=>e=.returned (.tuple #[.bool b,.bool g,.int .i64 n])∧Below w.heap.size w w':=by
 have:=sound_any a A A' c n' c' marks B B' w h hB h' hB'
 rw [hr] at this;exact this
set_option maxHeartbeats 2000000 in
theorem begin_dk (base D:Nat) (ap:Bool) (d:Dk) (A:Option Addr) (c:Nat) (M:Option Addr) (k:Nat) (vE:Value) (xs ys:List Value) (a:Ac) (A2:Option Addr) (c2 B:Nat) (w:World) (h:Desk w base D ap d A c M k vE xs ys)
  (ha:Rd w B 1 A2 a.pos.length c2 (ints a.pos)) (hB:B ≤ w.heap.size) :
  Calls Try.prog 187 #[.pointer (some ⟨D,0,none⟩),.agg #[.int .i64 a.id,.int .i64 a.bal,.slice A2 a.pos.length c2]] w fun e w'=>e=.returned (.int .i64 (beginErr d.v a))∧Below w.heap.size w w':=by
 have HD:=Lib.hid h
 have hDl:=h.lt
 obtain ⟨⟨-,k1,-⟩,-⟩:=h.blk.c8
 obtain ⟨ms,em,hms⟩:∃ ms em,marksOf d.v.mks=(ms,em):=⟨_,_,rfl⟩
 have HM:=Lib.hid hms
 clear h hms
 go_enter Try.func187,Try.ntmps187
 go_wp2_with fail
 refine calls_name ?_
 intro W1 hW1
 have hB1:Below w.heap.size w W1:=by rw [hW1];exact (Below.refl _ _).alloc (Nat.le_refl _) _
 have X1:Blk W1 w.heap.size 37 #[.int .i64 a.id,.int .i64 a.bal,.slice A2 a.pos.length c2]:=by rw [hW1];exact Blk.new w _ _
 have HD1:=Lib.hid (HD.out.below hB1)
 have hs1:=hB1.size
 clear hW1 k1
 refine (marks_ref _ _ _ _ _ W1 HM.out HD1.out.mks.read (Nat.le_refl _)).mono ?_
 rintro e W2 ⟨Am,cm,rfl,hown,hb2⟩
 have hs2:=hb2.size
 have hB2:=hB1.trans (hb2.mono hs1)
 have X2:=X1.below hb2 X1.lt
 have HO:=Lib.hid (Rd.of_own hown)
 have y1:=X2.lt
 clear hown
 by_cases he:em=0
 rotate_left
 ·have he':(em != 0)=true:=by simpa using he
  have HE:=Lib.hid (show beginErr d.v a=em by unfold beginErr;rw [HM.out,if_pos he])
  clear he
  go_wp2_with fail
  go_ret
  exact ⟨ret_ii HE.out.symm,hB2⟩
 ·subst he
  obtain ⟨b,g,es,hso⟩:∃ b g es,soundOf a ms=(b,g,es):=⟨_,_,_,rfl⟩
  have HE:=Lib.hid (show beginErr d.v a=if es=0∧b=false then 8 else es by unfold beginErr;rw [HM.out,if_neg (by simp),hso])
  have HS:=Lib.hid hso
  clear hso
  obtain ⟨⟨kX20,kX21,kX22⟩,-⟩:=X2.c3
  go_wp2_with fail
  refine (sound_ref a A2 Am c2 ms.length cm ms B W2.heap.size W2 HS.out (ha.below (hB2.mono hB)) (by omega) HO.out (Nat.le_refl _)).mono ?_
  rintro e W3 ⟨rfl,hb3⟩
  have hB3:=hB2.trans (hb3.mono (by omega))
  clear kX20 kX21 kX22 X1 X2 hb3
  by_cases h0:es=0
  ·subst h0
   rcases bool_cs' b with rfl | rfl
   ·have HE2:=Lib.hid (HE.out.trans (if_neg (by simp)))
    go_wp2_with fail
    go_ret
    exact ⟨ret_ii HE2.out.symm,hB3⟩
   ·have HE2:=Lib.hid (HE.out.trans (if_pos ⟨rfl,rfl⟩))
    go_wp2_with fail
    go_ret
    exact ⟨ret_ii HE2.out.symm,hB3⟩
  ·have h0':(es == 0)=false:=by simpa using h0
   have HE2:=Lib.hid (HE.out.trans (if_neg (fun h=>h0 h.1)))
   clear h0
   go_wp2_with fail
   go_ret
   exact ⟨ret_ii HE2.out.symm,hB3⟩
end
section
theorem swept_len {d d':Dk} {E:List Ev} (h:Swept d d' E):d'.v.accs.length=d.v.accs.length:=by
 have e:=congrArg List.length h.ids
 simpa only [List.length_map] using e
theorem goneEvs_len {i:Nat} {id:Int} {l:List Od}:(goneEvs i id l).length ≤ l.length:=by unfold goneEvs;rw [List.length_map];exact List.length_filter_le _ _
theorem stripAt_len {id:Int} {i:Nat} {d:Dk} (h:VOk d.v) (hi:i < d.v.mks.length):(stripAt id i d).ev.length ≤ d.ev.length + 40:=by
 have hm:=(marketErr_ok.1 (mkAt_ok h hi).1).1.len
 have h1:=goneEvs_len (i:=i) (id:=id) (l:=(mkAt d.v i).book.bids)
 have h2:=goneEvs_len (i:=i) (id:=id) (l:=(mkAt d.v i).book.asks)
 show (d.ev ++ _ ++ _).length ≤ _
 rw [List.length_append,List.length_append];omega
theorem stripFrom_len {id:Int}:∀ {n i:Nat} {d:Dk},VOk d.v→i + n ≤ d.v.mks.length→(stripFrom id n i d).ev.length ≤ d.ev.length + 40 * n
 | 0,i,d,_,_=>by show d.ev.length ≤ _;omega
 | n + 1,i,d,h,hl=>by
  have h1:=stripAt_len (id:=id) (i:=i) h (by omega)
  obtain ⟨s1,_⟩:=strip_at (id:=id) (i:=i) h (by omega)
  have h2:=stripFrom_len (id:=id) (n:=n) (i:=i + 1) (d:=stripAt id i d) s1.step.ok (by rw [s1.step.len];omega)
  show (stripFrom id n (i + 1) (stripAt id i d)).ev.length ≤ _
  omega
theorem strip_len {id:Int} {d:Dk} (h:VOk d.v):(strip id d).ev.length ≤ d.ev.length + 80:=by
 have h1:=stripFrom_len (id:=id) (n:=d.v.mks.length) (i:=0) (d:=d) h (by omega)
 have h2:=h.len
 show (stripFrom id d.v.mks.length 0 d).ev.length ≤ _
 omega
theorem closeLoop_len {market:Nat} {id side price:Int}:∀ {fuel:Nat} {left:Int} {d d':Dk},closeLoop market id side price fuel left d=.ok d'→d'.ev.length ≤ d.ev.length + left.toNat
 | 0,left,d,d',h=>by injection h with h;subst h;omega
 | fuel + 1,left,d,d',h=>by
  unfold closeLoop at h
  split at h
  ·injection h with h;subst h;omega
  rename_i hl
  split at h
  ·cases h
  rename_i i y ho
  obtain ⟨a,ha,hpa⟩:=other_some ho
  have hat:accAt d.v i=a:=getD_some ha
  rw [hat] at h
  obtain ⟨v1,_,h⟩:=bindE_ok h
  have hp0:a.pos.getD market 0 ≠ 0:=by intro e;rw [e] at hpa;omega
  have h2:=closeLoop_len h
  have hev:(tell ⟨v1,d.ev⟩ ⟨6,0,market,0,a.id,0,⟨0,0,a.id,id,side,price,min left (max (a.pos.getD market 0) (-a.pos.getD market 0))⟩⟩).ev.length=d.ev.length + 1:=by
   show (d.ev ++ [_]).length=_
   rw [List.length_append];rfl
  rw [hev] at h2
  omega
theorem closes_len {k market:Nat} {marks:List Int} {d d':Dk} {a:Ac} (ha:d.v.accs[k]?=some a) (hm:market < d.v.mks.length) (hc:closesE k market marks d=.ok d'):d'.ev.length ≤ d.ev.length + 1040:=by
 obtain ⟨m,hmk⟩:∃ m,d.v.mks[market]?=some m:=⟨_,List.getElem?_eq_getElem hm⟩
 obtain ⟨price,e,hb⟩:∃ price e,bankruptOf a marks market=(price,e):=⟨_,_,rfl⟩
 rw [closes_eq ha hb rfl] at hc
 obtain ⟨_,hc⟩:=okIf_ok hc
 obtain ⟨x,l,left,met,te,ht⟩:∃ x l left met te,takeOf m.book (closeOd a price (a.pos.getD market 0))=(x,l,left,met,te):=⟨_,_,_,_,_,rfl⟩
 rw [rest_eq hmk ht] at hc
 obtain ⟨e2,hc⟩:=okIf_ok hc
 subst e2
 obtain ⟨d1,h1,hc⟩:=bindE_ok hc
 have k1:=fillsE_len h1
 have k2:=takeOf_cnt ht
 have k3:=closeLoop_len hc
 obtain ⟨_,_,b3,_,_,b6,_⟩:=take_more ht
 have hq:=(ordErr_ok.1 b3).2.2.2.2
 have k4:d1.ev.length=d.ev.length + l.length:=k1
 omega
theorem closeAll_step {k n i:Nat} {marks:List Int} {d:Dk} {a:Ac} {p:Int} (ha:d.v.accs[k]?=some a) (hp:a.pos.getD i 0=p) :
  closeAll k marks (n + 1) i d=if p=0 then closeAll k marks n (i + 1) d else bindE (closesE k i marks d) fun d=>closeAll k marks n (i + 1) d:=by
 have hat:accAt d.v k=a:=getD_some ha
 conv=>lhs;unfold closeAll
 rw [hat,hp]
theorem cover_eq {k:Nat} {d:Dk} {a:Ac} {n:Int} (ha:d.v.accs[k]?=some a) (hn:min d.v.ins (-a.bal)=n) :
  coverE k d=if 0 < n then moveE k n ⟨{ d.v with ins:=d.v.ins - n },d.ev⟩ else .ok d:=by
 have hat:accAt d.v k=a:=getD_some ha
 unfold coverE
 rw [hat,hn]
theorem sweep_one {n k:Nat} {marks:List Int} {d:Dk} {a:Ac} {b g:Bool} {es:Int} (ha:d.v.accs[k]?=some a) (hs:soundOf a marks=(b,g,es)) :
  sweepFrom marks (n + 1) k d=okIf es (if g=true then sweepFrom marks n (k + 1) d else bindE (closeAll k marks d.v.mks.length 0 (strip a.id d)) fun d=>bindE (coverE k d) fun d=>sweepFrom marks n (k + 1) d):=by
 have hat:accAt d.v k=a:=getD_some ha
 conv=>lhs;unfold sweepFrom
 rw [hat,hs]
theorem moveE_len {i:Nat} {n:Int} {d d':Dk} (h:moveE i n d=.ok d'):d'.ev.length=d.ev.length + 1:=by
 unfold moveE at h
 obtain ⟨_,h⟩:=okIf_ok h
 injection h with h
 subst h
 show (d.ev ++ [_]).length=_
 rw [List.length_append];rfl
structure Half (d d1:Dk) (n:Nat):Prop where
 ok:VOk d1.v
 accs:d1.v.accs.length=d.v.accs.length
 mks:d1.v.mks.length=d.v.mks.length
 ev:d1.ev.length ≤ d.ev.length + n
theorem half_strip {id:Int} {d:Dk} (h:VOk d.v):Half d (strip id d) 80∧(strip id d).v.accs=d.v.accs:=by
 obtain ⟨E,s,a,_⟩:=strip_ok (id:=id) h
 have h1:=strip_len (id:=id) h
 exact ⟨⟨s.step.ok,swept_len s,s.step.len,h1⟩,a⟩
theorem half_closes {k i n q:Nat} {marks:List Int} {d0 d d':Dk} {a:Ac} (h:Half d0 d n) (ha:d.v.accs[k]?=some a) (hi:i < d.v.mks.length) (hp:a.pos.getD i 0 ≠ 0) (hc:closesE k i marks d=.ok d') (hq:n + 1040 ≤ q):Half d0 d' q:=by
 obtain ⟨E,s,_⟩:=closes_ok h.ok hi ha hp hc
 have h1:=closes_len ha hi hc
 exact ⟨s.step.ok,(swept_len s).trans h.accs,s.step.len.trans h.mks,by have:=h.ev;omega⟩
theorem half_cover {k n:Nat} {d0 d d':Dk} {a:Ac} (h:Half d0 d n) (ha:d.v.accs[k]?=some a) (hc:coverE k d=.ok d'):Half d0 d' (n + 1):=by
 obtain ⟨E,s,_⟩:=cover_ok h.ok ha hc
 refine ⟨s.step.ok,(swept_len s).trans h.accs,s.step.len.trans h.mks,?_⟩
 have h2:=h.ev
 rw [cover_eq ha rfl] at hc
 split at hc
 ·have:=moveE_len hc
  have h3:d'.ev.length=d.ev.length + 1:=this
  omega
 ·injection hc with hc;subst hc;omega
theorem Half.mono {d d1:Dk} {n m:Nat} (h:Half d d1 n) (hm:n ≤ m):Half d d1 m:=⟨h.ok,h.accs,h.mks,by have:=h.ev;omega⟩
theorem Half.trans {d d1 d2:Dk} {n m:Nat} (h:Half d d1 n) (g:Half d1 d2 m):Half d d2 (n + m):=⟨g.ok,g.accs.trans h.accs,g.mks.trans h.mks,by have:=h.ev;have:=g.ev;omega⟩
end
end Go.Proofs.Ytockodmbhnlheaa
