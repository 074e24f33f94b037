import Derived.Test.YtockodmbhnlheaaGreatDoorAR
import Derived.Test.YtockodmbhnlheaaGreatDoorAQ
namespace Go.Proofs.YtockodmbhnlheaaGreatDoor
section
open Go.RowKit
structure Kept (S:List TypeId) (w w':World):Prop where
 size:w.heap.size ≤ w'.heap.size
 blk:∀ g t cs,Blk w g t cs→t ∉ S→Blk w' g t cs
section
variable {S T:List TypeId} {a b c:World}
theorem Kept.refl (S:List TypeId) (w:World):Kept S w w:=⟨zl _,fun _ _ _ h _=>h⟩
theorem Kept.trans (h:Kept S a b) (g:Kept S b c):Kept S a c:=⟨Nat.le_trans h.size g.size,fun x t cs hx ht=>g.blk x t cs (h.blk x t cs hx ht) ht⟩
theorem Kept.mono (h:Kept S a b) (hS:∀ t ∈ S,t ∈ T):Kept T a b:=⟨h.size,fun x t cs hx ht=>h.blk x t cs hx fun hs=>ht (hS t hs)⟩
theorem Kept.of_below (S:List TypeId) (h:Below a.heap.size a b):Kept S a b:=⟨h.size,fun _ _ _ hg _=>hg.below h hg.lt⟩
theorem Kept.below (h:Kept S a b) (g:Below b.heap.size b c):Kept S a c:=h.trans (.of_below S g)
theorem Kept.alloc (h:Kept S a b) (o:Obj):Kept S a (b.alloc o):=h.trans ⟨by simp,fun _ _ _ hg _=>hg.alloc o⟩
theorem Kept.drew (h:Kept S a b):Kept S a b.drew:=⟨h.size,h.blk⟩
theorem Kept.drewN (h:Kept S a b) (q:Nat):Kept S a (b.drewN q):=⟨h.size,h.blk⟩
theorem zbB (w:World) (p:Addr) (u:Value):(w.setCell p u).heap.size=w.heap.size:=by simp [World.setCell]
theorem Kept.set (h:Kept S a b) {g:Nat} {t:TypeId} {cs:Array Value} (hg:Blk b g t cs) (ht:t ∈ S) (i:Nat) (u:Value):Kept S a (b.setCell ⟨g,i,none⟩ u):=by
 refine h.trans ⟨by rw [zbB];exact zl _,fun x t' cs' hx ht'=>?_⟩;by_cases e:x=g
 ·subst e;unfold Blk at hg hx;rw [hg] at hx;injection hx with hx;injection hx with _ hx;subst hx;exact absurd ht ht'
 ·exact hx.far e u
theorem Kept.only (h:Kept S a b) {e k n:Nat} {base:Nat} {v:Value} {xs:List Value} (hown:b.ownsRow base e k v n xs) (ho:Only b c v.ownBlock) (hs:b.heap.size ≤ c.heap.size) (he:e ∈ S):Kept S a c:=by
 refine h.trans ⟨hs,fun x t cs hx ht=>?_⟩;refine hx.only ho fun hv=>?_;obtain ⟨_,⟨rfl,_⟩ | ⟨g,cap,cur,rfl,_,hg,_⟩⟩:=hown
 ·simp [Value.ownBlock] at hv
 ·have:x=g:=by simpa [Value.ownBlock] using hv
  subst this;unfold Blk at hx;rw [hg] at hx;injection hx with hx;injection hx with _ hx;subst hx;exact absurd he ht
theorem Kept.grown (h:Kept S a b) {e k n:Nat} {base:Nat} {v:Value} {xs:List Value} (hown:b.ownsRow base e k v n xs) (hg:b.grownBy c v.ownBlock) (he:e ∈ S):Kept S a c:=h.only hown (zch hg) hg.size he
theorem Kept.own (h:Kept S a b) {e k n:Nat} {base:Nat} {v:Value} {xs:List Value} (ho:a.ownsRow base e k v n xs) (he:e ∉ S):b.ownsRow base e k v n xs:=by
 obtain ⟨hl,h1 | ⟨g,cap,cur,rfl,h1,h2,h3⟩⟩:=ho
 ·exact ⟨hl,.inl h1⟩
 ·exact ⟨hl,.inr ⟨g,cap,cur,rfl,h1,h.blk g e cur h2 he,h3⟩⟩
theorem Blk.kept {g:Nat} {t:TypeId} {cs:Array Value} (hb:Blk a g t cs) (h:Kept S a b) (ht:t ∉ S):Blk b g t cs:=h.blk g t cs hb ht
end
theorem zcp {w:World} {base e k n c g:Nat} {xs:List Value} (h:w.ownsRow base e k (.slice (some ⟨g,0,none⟩) n c) n xs) (j:Nat) (u:Value):(w.setCell ⟨g,j,none⟩ u).ownsRow base e k (.slice (some ⟨g,0,none⟩) n c) n (xs.set j u):=(h.stored j u).1
theorem zdk {w:World} {base e k n c:Nat} {A:Option Addr} {xs:List Value} (h:w.ownsRow base e k (.slice A n c) n xs) (hn:0 < n):∃ g cs,A=some ⟨g,0,none⟩∧base ≤ g∧Blk w g e cs:=by
 obtain ⟨_,⟨hv,h0⟩ | ⟨g,cap,cur,hv,h1,h2,_⟩⟩:=h
 ·omega
 ·injection hv with hv _ _;exact ⟨g,cur,hv,h1,h2⟩
end
section
open Go.RowKit
def RMk (w:World) (B b o:Nat) (m:Mk):Prop :=
 ∃ A c A' c',w.cell? ⟨b,o,none⟩=some (.slice A m.book.bids.length c)∧w.cell? ⟨b,o + 1,none⟩=some (.slice A' m.book.asks.length c')∧w.cell? ⟨b,o + 2,none⟩=some (.int .i64 m.index)∧w.cell? ⟨b,o + 3,none⟩=some (.int .i64 m.last) ∧
  BkR w B A A' c c' m.book∧m.book.bids.length ≤ 4000000000000∧m.book.asks.length ≤ 4000000000000
theorem BkR.mono {w w':World} {B B' c c':Nat} {A A':Option Addr} {b:Bk} (h:BkR w B A A' c c' b) (hB:B ≤ B') (hk:∀ b o,b < B→w'.cell? ⟨b,o,none⟩=w.cell? ⟨b,o,none⟩):BkR w' B' A A' c c' b:=⟨h.l.mono hB hk,h.r.mono hB hk⟩
def shMk:Shape Mk where
 k:=4
 R:=RMk
 move:=by
  intro w w' B B' b o b' o' a h hc hB hk;obtain ⟨A,c,A',c',h0,h1,h2,h3,h4,h5,h6⟩:=h;exact ⟨A,c,A',c',(hc 0 (by omega)).trans h0,(hc 1 (by omega)).trans h1,(hc 2 (by omega)).trans h2,(hc 3 (by omega)).trans h3,h4.mono hB hk,h5,h6⟩
 cells:=by
  intro w B b o a h j hj;obtain ⟨A,c,A',c',h0,h1,h2,h3,_⟩:=h;rcases (show j=0∨j=1∨j=2∨j=3 by omega) with rfl | rfl | rfl | rfl
  ·exact ⟨_,h0,rfl⟩
  ·exact ⟨_,h1,rfl⟩
  ·exact ⟨_,h2,rfl⟩
  ·exact ⟨_,h3,rfl⟩
theorem zjX {w:World} {B n c:Nat} {A:Option Addr} {L:List Mk} (h:RdL shMk w B A n c L) {i:Nat} (hi:i < n):∃ b o m,A=some ⟨b,o,none⟩∧b < B∧L[i]?=some m ∧
  ∃ A2 c2 A3 c3,w.cell? ⟨b,o + i * 4,none⟩=some (.slice A2 m.book.bids.length c2)∧w.cell? ⟨b,o + i * 4 + 1,none⟩=some (.slice A3 m.book.asks.length c3)∧w.cell? ⟨b,o + i * 4 + 2,none⟩=some (.int .i64 m.index)∧w.cell? ⟨b,o + i * 4 + 3,none⟩=some (.int .i64 m.last) ∧
   BkR w B A2 A3 c2 c3 m.book∧m.book.bids.length ≤ 4000000000000∧m.book.asks.length ≤ 4000000000000:=by
 obtain ⟨b,o,a,h1,h2,h3,h4⟩:=h.one hi;exact ⟨b,o,a,h1,h2,h3,h4⟩
theorem zrJ:Elem Tryz.prog 23 85 4 64:=zei Tryz.underlying23 (by kernel_rfl) (by decide)
structure VnR (w:World) (B:Nat) (A:Option Addr) (c:Nat) (M:Option Addr) (k:Nat) (v:Vn):Prop where
 accs:RdL ze0 w B A v.accs.length c v.accs
 mks:RdL shMk w B M v.mks.length k v.mks
section
variable {w w':World} {B B' c k:Nat} {A M:Option Addr} {v:Vn}
theorem VnR.below (h:VnR w B A c M k v) (hb:Below B w w'):VnR w' B A c M k v:=⟨h.accs.below hb,h.mks.below hb⟩
theorem VnR.up (h:VnR w B A c M k v) (hB:B ≤ B'):VnR w B' A c M k v:=⟨h.accs.up hB,h.mks.up hB⟩
end
def za4:List Ev→List Value
 | []=>[]
 | e :: l=>.int .i64 e.kind :: .int .i64 e.err :: .int .i64 e.market :: .int .i64 e.id :: .int .i64 e.acc :: .int .i64 e.n ::
   .int .i64 e.f.maker :: .int .i64 e.f.taker :: .int .i64 e.f.macc :: .int .i64 e.f.tacc :: .int .i64 e.f.side :: .int .i64 e.f.price :: .int .i64 e.f.qty :: za4 l
theorem zg5:∀ L,(za4 L).length=L.length * 13
 | []=>rfl
 | o :: l=>by simp only [za4,List.length_cons,zg5 l];omega
theorem zg6 (M:List Ev):∀ L,za4 (L ++ M)=za4 L ++ za4 M
 | []=>rfl
 | o :: l=>by simp only [List.cons_append,za4,zg6 M l]
theorem zg7:∀ (L:List Ev),∀ u ∈ za4 L,u.oneCell'=true
 | []=>by simp [za4]
 | o :: l=>by
  intro u hu;simp only [za4,List.mem_cons] at hu;rcases hu with rfl | rfl | rfl | rfl | rfl | rfl | rfl | rfl | rfl | rfl | rfl | rfl | rfl | hu;all_goals first | rfl | exact zg7 l u hu
theorem zn3:Elem Tryz.prog 52 57 13 104:=zei Tryz.underlying52 (by kernel_rfl) (by decide)
def AcCell (w:World) (base:Nat) (xs:List Value) (i:Nat) (a:Ac):Prop :=
 ∃ A c,xs[i * 3]?=some (.int .i64 a.id)∧xs[i * 3 + 1]?=some (.int .i64 a.bal)∧xs[i * 3 + 2]?=some (.slice A a.pos.length c)∧w.ownsRow base 3 1 (.slice A a.pos.length c) a.pos.length (ints a.pos)∧a.pos.length * 8 ≤ 140737488355328
structure OwnAc (w:World) (base:Nat) (A:Option Addr) (n c:Nat) (L:List Ac) (xs:List Value):Prop where
 row:w.ownsRow base 78 3 (.slice A n c) n xs
 len:L.length=n
 cell:∀ i a,L[i]?=some a→AcCell w base xs i a
def MkCell (w:World) (base:Nat) (xs:List Value) (i:Nat) (m:Mk):Prop :=
 ∃ A c A' c',xs[i * 4]?=some (.slice A m.book.bids.length c)∧xs[i * 4 + 1]?=some (.slice A' m.book.asks.length c')∧xs[i * 4 + 2]?=some (.int .i64 m.index)∧xs[i * 4 + 3]?=some (.int .i64 m.last)∧OBk w base A A' c c' m.book ∧
  m.book.bids.length ≤ 4000000000000∧m.book.asks.length ≤ 4000000000000
def zgQ (xs:List Value):Prop:=∀ i s j t u v g,s < 2→t < 2→xs[i * 4 + s]?=some u→xs[j * 4 + t]?=some v→u.ownBlock=some g→v.ownBlock=some g→i=j∧s=t
structure OwnMk (w:World) (base:Nat) (ap:Bool) (M:Option Addr) (m k:Nat) (L:List Mk) (xs:List Value):Prop where
 row:w.ownsRow base 85 4 (.slice M m k) m xs
 len:L.length=m
 cell:∀ i a,L[i]?=some a→MkCell w base xs i a
 apart:ap=true→zgQ xs
section
variable {w w':World} {base n c m k:Nat} {A M:Option Addr} {L:List Ac} {K:List Mk} {xs ys:List Value} {ap:Bool}
theorem AcCell.mono {i:Nat} {a:Ac} (h:AcCell w base xs i a) (hk:∀ v n ys,w.ownsRow base 3 1 v n ys→w'.ownsRow base 3 1 v n ys):AcCell w' base xs i a:=by
 obtain ⟨A,c,h0,h1,h2,h3,h4⟩:=h;exact ⟨A,c,h0,h1,h2,hk _ _ _ h3,h4⟩
theorem OwnAc.mono (h:OwnAc w base A n c L xs) (h1:w'.ownsRow base 78 3 (.slice A n c) n xs) (hk:∀ v n ys,w.ownsRow base 3 1 v n ys→w'.ownsRow base 3 1 v n ys):OwnAc w' base A n c L xs :=
 ⟨h1,h.len,fun i a ha=>(h.cell i a ha).mono hk⟩
theorem OwnAc.below (h:OwnAc w base A n c L xs) (hb:Below w.heap.size w w'):OwnAc w' base A n c L xs:=h.mono (zaf h.row hb (zl _)) fun _ _ _ hr=>zaf hr hb (zl _)
theorem OwnAc.kept {S:List TypeId} (h:OwnAc w base A n c L xs) (hb:Kept S w w') (h1:78 ∉ S) (h2:3 ∉ S):OwnAc w' base A n c L xs:=h.mono (hb.own h.row h1) fun _ _ _ hr=>hb.own hr h2
theorem MkCell.mono {i:Nat} {a:Mk} (h:MkCell w base xs i a) (hk:∀ v n ys,w.ownsRow base 32 5 v n ys→w'.ownsRow base 32 5 v n ys):MkCell w' base xs i a:=by
 obtain ⟨A,c,A',c',h0,h1,h2,h3,h4,h5⟩:=h;exact ⟨A,c,A',c',h0,h1,h2,h3,⟨hk _ _ _ h4.l,hk _ _ _ h4.r⟩,h5⟩
theorem OwnMk.mono (h:OwnMk w base ap M m k K xs) (h1:w'.ownsRow base 85 4 (.slice M m k) m xs) (hk:∀ v n ys,w.ownsRow base 32 5 v n ys→w'.ownsRow base 32 5 v n ys):OwnMk w' base ap M m k K xs :=
 ⟨h1,h.len,fun i a ha=>(h.cell i a ha).mono hk,h.apart⟩
theorem OwnMk.below (h:OwnMk w base ap M m k K xs) (hb:Below w.heap.size w w'):OwnMk w' base ap M m k K xs:=h.mono (zaf h.row hb (zl _)) fun _ _ _ hr=>zaf hr hb (zl _)
theorem OwnMk.kept {S:List TypeId} (h:OwnMk w base ap M m k K xs) (hb:Kept S w w') (h1:85 ∉ S) (h2:32 ∉ S):OwnMk w' base ap M m k K xs:=h.mono (hb.own h.row h1) fun _ _ _ hr=>hb.own hr h2
theorem OwnMk.weak (h:OwnMk w base ap M m k K xs):OwnMk w base false M m k K xs:=⟨h.row,h.len,h.cell,nofun⟩
theorem OwnAc.read (h:OwnAc w base A n c L xs):RdL ze0 w w.heap.size A n c L:=by
 have hr:=Rd.of_own h.row;refine ⟨h.len,hr.le,hr.cap,hr.nil,fun hn=>?_⟩;obtain ⟨b,o,e,hb,hc⟩:=hr.at_ hn;refine ⟨b,o,e,hb,fun i a ha=>?_⟩;obtain ⟨A2,c2,k1,k2,k3,k4,k5⟩:=h.cell i a ha;exact ⟨A2,c2,hc _ _ k1,by rw [Nat.add_assoc];exact hc _ _ k2,by rw [Nat.add_assoc];exact hc _ _ k3,Rd.of_own k4,k5⟩
theorem OwnMk.read (h:OwnMk w base ap M m k K xs):RdL shMk w w.heap.size M m k K:=by
 have hr:=Rd.of_own h.row;refine ⟨h.len,hr.le,hr.cap,hr.nil,fun hn=>?_⟩;obtain ⟨b,o,e,hb,hc⟩:=hr.at_ hn;refine ⟨b,o,e,hb,fun i a ha=>?_⟩;obtain ⟨A2,c2,A3,c3,k1,k2,k3,k4,k5,k6⟩:=h.cell i a ha;exact ⟨A2,c2,A3,c3,hc _ _ k1,by rw [Nat.add_assoc];exact hc _ _ k2,by rw [Nat.add_assoc];exact hc _ _ k3,by rw [Nat.add_assoc];exact hc _ _ k4,k5.read,k6⟩
theorem zab {α:Type} {l:List α} {i j:Nat} {a:α} (h:i ≠ j):(l.set i a)[j]?=l[j]?:=List.getElem?_set_ne h
theorem OwnAc.put {g i:Nat} {a:Ac} {A':Option Addr} {c':Nat} (h:OwnAc w base (some ⟨g,0,none⟩) n c L xs) (hi:i < n) (hp:w.ownsRow base 3 1 (.slice A' a.pos.length c') a.pos.length (ints a.pos)) (hl:a.pos.length * 8 ≤ 140737488355328) :
  OwnAc (((w.setCell ⟨g,i * 3,none⟩ (.int .i64 a.id)).setCell ⟨g,i * 3 + 1,none⟩ (.int .i64 a.bal)).setCell ⟨g,i * 3 + 2,none⟩ (.slice A' a.pos.length c')) base (some ⟨g,0,none⟩) n c (L.set i a)
   (((xs.set (i * 3) (.int .i64 a.id)).set (i * 3 + 1) (.int .i64 a.bal)).set (i * 3 + 2) (.slice A' a.pos.length c')):=by
 have hlen:=h.row.1;have hk:∀ v n ys,w.ownsRow base 3 1 v n ys→(((w.setCell ⟨g,i * 3,none⟩ (.int .i64 a.id)).setCell ⟨g,i * 3 + 1,none⟩ (.int .i64 a.bal)).setCell ⟨g,i * 3 + 2,none⟩ (.slice A' a.pos.length c')).ownsRow base 3 1 v n ys:=by
  intro v n ys hv;obtain ⟨g',cs,e1,_,hb⟩:=zdk h.row (by omega);injection e1 with e1;injection e1 with e1;subst e1;refine Kept.own (S:=[78]) ?_ hv (by decide);exact (((Kept.refl _ _).set hb (by decide) _ _).set (hb.set_ _ _) (by decide) _ _).set ((hb.set_ _ _).set_ _ _) (by decide) _ _
 refine ⟨zcp (zcp (zcp h.row _ _) _ _) _ _,by rw [List.length_set];exact h.len,fun j b hb=>?_⟩;by_cases e:j=i
 ·subst e;have:b=a:=by
   rw [List.getElem?_set_self (by rw [h.len];exact hi)] at hb;injection hb with hb;exact hb.symm
  subst this;refine ⟨A',c',?_,?_,?_,hk _ _ _ hp,hl⟩
  ·rw [zab (by omega),zab (by omega),List.getElem?_set_self (by omega)]
  ·rw [zab (by omega),List.getElem?_set_self (by rw [List.length_set];omega)]
  ·rw [List.getElem?_set_self (by rw [List.length_set,List.length_set];omega)]
 ·rw [zab (Ne.symm e)] at hb;obtain ⟨A2,c2,k1,k2,k3,k4,k5⟩:=h.cell j b hb;refine ⟨A2,c2,?_,?_,?_,hk _ _ _ k4,k5⟩
  ·rw [zab (by omega),zab (by omega),zab (by omega)];exact k1
  ·rw [zab (by omega),zab (by omega),zab (by omega)];exact k2
  ·rw [zab (by omega),zab (by omega),zab (by omega)];exact k3
end
theorem zcA {w:World} {base e k n g:Nat} {t:TypeId} {v:Value} {xs:List Value} {cs:Array Value} (h:w.ownsRow base e k v n xs) (hb:Blk w g t cs) (hne:t ≠ e):v.ownBlock ≠ some g:=by
 obtain ⟨_,⟨rfl,_⟩ | ⟨g',cap,cur,rfl,_,hg,_⟩⟩:=h
 ·simp [Value.ownBlock]
 ·intro he;have:g'=g:=by simpa [Value.ownBlock] using he
  subst this;unfold Blk at hb;rw [hg] at hb;injection hb with hb;injection hb with _ hb;exact hne hb.symm
theorem Blk.grown {w w':World} {g:Nat} {t:TypeId} {cs:Array Value} {b:Option Nat} (h:Blk w g t cs) (hg:w.grownBy w' b) (hne:b ≠ some g):Blk w' g t cs:=(hg.block g h.lt fun e=>hne e.symm).trans h
structure Desk (w:World) (base D:Nat) (ap:Bool) (d:Dk) (A:Option Addr) (c:Nat) (M:Option Addr) (k:Nat) (vE:Value) (xs ys:List Value):Prop where
 blk:Blk w D 113 #[.slice A d.v.accs.length c,.slice M d.v.mks.length k,.int .i64 d.v.ins,.int .i64 d.v.resid,.int .i64 d.v.next,.int .i64 d.v.inn,.int .i64 d.v.out,vE]
 low:base ≤ D
 accs:OwnAc w base A d.v.accs.length c d.v.accs xs
 mks:OwnMk w base ap M d.v.mks.length k d.v.mks ys
 evs:w.ownsRow base 57 13 vE d.ev.length (za4 d.ev)
section
variable {w w':World} {base D c k:Nat} {ap:Bool} {d:Dk} {A M:Option Addr} {vE:Value} {xs ys:List Value}
theorem Desk.below (h:Desk w base D ap d A c M k vE xs ys) (hb:Below w.heap.size w w'):Desk w' base D ap d A c M k vE xs ys :=
 ⟨h.blk.below hb h.blk.lt,h.low,h.accs.below hb,h.mks.below hb,zaf h.evs hb (zl _)⟩
theorem Desk.lt (h:Desk w base D ap d A c M k vE xs ys):D < w.heap.size:=h.blk.lt
theorem Desk.vnr (h:Desk w base D ap d A c M k vE xs ys):VnR w w.heap.size A c M k d.v:=⟨h.accs.read,h.mks.read⟩
theorem Desk.form (h:Desk w base D ap d A c M k vE xs ys):∃ E e,vE=.slice E d.ev.length e:=zad h.evs
end
end
section
theorem ziY:∀ {l:List Cm} {v:Vn} {out:List (List Ev)} {w:Vn} {ev:List (List Ev)},VOk v→zcN v out l=(w,ev,0)→VOk w
 | [],v,out,w,ev,hv,h=>by injection h with e1 _;rw [← e1];exact hv
 | c :: l,v,out,w,ev,hv,h=>by
  unfold zcN at h;split at h
  ·rename_i h1;injection h with _ h;injection h with _ h;exact absurd h h1
  ·rename_i h1;obtain ⟨x,y,e,hd⟩:∃ x y e,doOf v c=(x,y,e):=⟨_,_,_,rfl⟩;rw [hd] at h h1;simp only at h h1;have:e=0:=by omega
   subst this;exact ziY (zqa hd).2.1 h
end
section
open Go.RowKit
def zcw (a b:Ac):Bool:=decide (a.id=b.id) && decide (a.bal=b.bal) && eqI a.pos b.pos
set_option maxHeartbeats 1000000 in
theorem zrK (a b:Ac) (A A':Option Addr) (c c':Nat) (B B':Nat) (w:World) (h:Rd w B 1 A a.pos.length c (ints a.pos)) (h':Rd w B' 1 A' b.pos.length c' (ints b.pos)) (hB:B ≤ w.heap.size) (hB':B' ≤ w.heap.size) :
  Calls Tryz.prog 31 #[.agg #[.int .i64 a.id,.int .i64 a.bal,.slice A a.pos.length c],.agg #[.int .i64 b.id,.int .i64 b.bal,.slice A' b.pos.length c']] w fun e w'=>e=.returned (.bool (zcw a b))∧Below w.heap.size w w':=by
 by_cases h1:a.id=b.id
 ·by_cases h2:a.bal=b.bal
  ·have HE:=zi (show zcw a b=eqI a.pos b.pos by simp [zcw,h1,h2]);have h1':(a.id == b.id)=true:=by simpa using h1
   have h2':(a.bal == b.bal)=true:=by simpa using h2
   clear h1 h2;go_enter Tryz.func31,Tryz.ntmps31
   go_wp2_with fail
   refine (zol _ _ _ _ _ _ _ _ _ _ _ ((h.alloc hB _).alloc (by simp;omega) _) ((h'.alloc hB' _).alloc (by simp;omega) _)).mono ?_;rintro e w1 ⟨rfl,q,rfl⟩;go_wp2_with fail
   go_ret;exact ⟨zbl (by rw [HE.out]),zac (((Below.refl _ _).alloc (zl _) _).alloc (by simp) _) q⟩
  ·have HE:=zi (show zcw a b=false by simp [zcw,h2]);have h1':(a.id == b.id)=true:=by simpa using h1
   have h2':(a.bal == b.bal)=false:=by simpa using h2
   clear h1 h2;go_enter Tryz.func31,Tryz.ntmps31
   go_wp2_with fail
   go_ret;exact ⟨zbl (by rw [HE.out]),((Below.refl _ _).alloc (zl _) _).alloc (by simp) _⟩
 ·have HE:=zi (show zcw a b=false by simp [zcw,h1]);have h1':(a.id == b.id)=false:=by simpa using h1
  clear h1;go_enter Tryz.func31,Tryz.ntmps31
  go_wp2_with fail
  go_ret;exact ⟨zbl (by rw [HE.out]),((Below.refl _ _).alloc (zl _) _).alloc (by simp) _⟩
end
section
structure FitC (c:Cm):Prop where
 acc:I64 c.acc
 market:I64 c.market
 n:I64 c.n
 price:I64 c.o.price
 qty:I64 c.o.qty
theorem zoN {c:Cm} (h1:zf3 c.kind=false) (h2:zdF c.kind=false) (h3:c.kind ≠ 3):zgy c = { zbb with kind:=c.kind }:=by
 unfold zgy;rw [h1,h2,if_neg (by simp),if_neg (by simp),if_neg h3]
theorem zjY {c:Cm} (h:za0 c=0):(1 ≤ c.kind∧c.kind ≤ 7)∧(c.kind=3→(1 ≤ c.how∧c.how ≤ 4)∧(c.o.side=1∨c.o.side = -1))∧c=zgy c:=by
 unfold za0 at h;split at h
 ·cases h
 rename_i h1;split at h
 ·cases h
 rename_i h2;split at h
 ·rename_i h3;exact ⟨by omega,fun hk=>by omega,zhJ.1 h3⟩
 ·cases h
theorem zlh {k:Int} {a n:Int} (ha:I64 a) (hn:I64 n):twoW k [Lib.itoa a,Lib.itoa n]=some (if zdF k then { zbb with kind:=k,market:=a,n:=n } else { zbb with kind:=k,acc:=a,n:=n }):=by
 unfold twoW;simp only [zeO ha,zeO hn]
theorem ziZ {a m s q p h:Int} {red:Bool} (ha:I64 a) (hm:I64 m) (hq:I64 q) (hp:I64 p) (hs:s=1∨s = -1) (hh:1 ≤ h∧h ≤ 4) (w:List UInt8) :
  zdp red [w,Lib.itoa a,Lib.itoa m,zdf s,Lib.itoa q,Lib.itoa p,howW h]=some ⟨3,a,m,0,⟨0,0,s,p,q⟩,h,red⟩:=by
 unfold zdp;simp only [zeO ha,zeO hm,zeO hq,zeO hp,zlM hs,zjM hh];rw [if_neg (by omega)]
theorem zoO {c:Cm} (h:za0 c=0) (hf:FitC c):zcG (zbP c)=some c:=by
 obtain ⟨hk,h3,hw⟩:=zjY h;unfold zbP zcG;simp only;rw [zie hk,if_neg (by omega)];by_cases hc:zf3 c.kind=true
 ·have hc':=hc;unfold zf3 at hc';rw [decide_eq_true_eq] at hc';rw [if_pos hc,if_neg (by omega),if_neg (by omega),zlh hf.acc hf.n];have hm:zdF c.kind=false:=by unfold zdF;exact decide_eq_false (by omega)
  rw [hm,if_neg (by simp)];rw [hw];unfold zgy;rw [if_pos hc]
 ·rw [if_neg hc];rw [Bool.not_eq_true] at hc;have hc':=hc;unfold zf3 at hc';rw [decide_eq_false_iff_not] at hc';by_cases hm:zdF c.kind=true
  ·have hm':=hm;unfold zdF at hm';rw [decide_eq_true_eq] at hm';rw [if_pos hm,if_neg (by omega),if_neg (by omega),zlh hf.market hf.n,hm,if_pos rfl];rw [hw];unfold zgy;rw [if_neg (by rw [hc];simp),if_pos hm]
  ·rw [if_neg hm];rw [Bool.not_eq_true] at hm;have hm':=hm;unfold zdF at hm';rw [decide_eq_false_iff_not] at hm';by_cases hp:c.kind=3
   ·rw [if_pos hp,if_pos hp];obtain ⟨hh,hs⟩:=h3 hp;have hcw:c=⟨3,c.acc,c.market,0,⟨0,0,c.o.side,c.o.price,c.o.qty⟩,c.how,c.reduce⟩:=by
     conv=>lhs;rw [hw]
     unfold zgy;rw [if_neg (by rw [hc];simp),if_neg (by rw [hm];simp),if_pos hp];show (⟨c.kind,c.acc,c.market,0,_,c.how,c.reduce⟩:Cm)=_;rw [hp]
    cases hr:c.reduce with
    | true =>
     rw [if_pos rfl,if_pos ⟨rfl,rfl⟩];show zdp true [_,_,_,_,_,_,_]=_;rw [ziZ hf.acc hf.market hf.qty hf.price hs hh];conv=>rhs;rw [hcw,hr]
    | false =>
     rw [if_neg (by simp),if_neg (by simp)];show zdp false [_,_,_,_,_,_,_]=_;rw [ziZ hf.acc hf.market hf.qty hf.price hs hh];conv=>rhs;rw [hcw,hr]
   ·have h7:c.kind=7:=by omega
    rw [if_neg hp,if_neg hp,if_pos h7,if_pos rfl];rw [hw,zoN hc hm hp,h7]
def zjZ (w:List UInt8):Prop:=((32:UInt8) ∉ w∧(10:UInt8) ∉ w)∧w.length ≤ 21
theorem zbq {n:Int} (h:I64 n):zjZ (Lib.itoa n):=⟨zs6,Lib.itoa_length_le n h.1 h.2⟩
theorem zeP (k:Int):zjZ (za3 k):=by
 unfold za3;repeat' split
 all_goals exact ⟨⟨by decide,by decide⟩,by decide⟩
theorem zqg (k:Int):zjZ (howW k):=by
 unfold howW;repeat' split
 all_goals exact ⟨⟨by decide,by decide⟩,by decide⟩
theorem zoP (k:Int):zjZ (zdf k):=by
 unfold zdf;split
 all_goals exact ⟨⟨by decide,by decide⟩,by decide⟩
theorem zfS {c:Cm} (hf:FitC c):∀ w ∈ zbP c,zjZ w:=by
 intro w hw;unfold zbP at hw;rcases List.mem_cons.1 hw with hw | hw
 ·rw [hw];exact zeP _
 ·split at hw
  ·simp only [List.mem_cons,List.not_mem_nil,or_false] at hw;rcases hw with rfl | rfl
   ·exact zbq hf.acc
   ·exact zbq hf.n
  ·split at hw
   ·simp only [List.mem_cons,List.not_mem_nil,or_false] at hw;rcases hw with rfl | rfl
    ·exact zbq hf.market
    ·exact zbq hf.n
   ·split at hw
    ·rcases List.mem_append.1 hw with hw | hw
     ·simp only [List.mem_cons,List.not_mem_nil,or_false] at hw;rcases hw with rfl | rfl | rfl | rfl | rfl | rfl
      ·exact zbq hf.acc
      ·exact zbq hf.market
      ·exact zoP _
      ·exact zbq hf.qty
      ·exact zbq hf.price
      ·exact zqg _
     ·split at hw
      ·rw [List.mem_singleton.1 hw];exact ⟨⟨by decide,by decide⟩,by decide⟩
      ·cases hw
    ·cases hw
theorem zli (c:Cm):(zbP c).length ≤ 8:=by
 unfold zbP;repeat' split
 all_goals simp
theorem zji {c:UInt8} {k:Nat}:∀ {ws:List (List UInt8)},(∀ w ∈ ws,w.length ≤ k)→(Lib.join ws [c]).length ≤ ws.length * (k + 1)
 | [],_=>by simp [Lib.join_nil]
 | [w],h=>by rw [Lib.join_one];have:=h w List.mem_cons_self;simp;omega
 | w :: x :: ws,h=>by
  have ih:=zji (c:=c) (k:=k) (ws:=x :: ws) (fun y hy=>h y (List.mem_cons_of_mem _ hy));have:=h w List.mem_cons_self;rw [zdE];simp only [List.length_append,List.length_cons,List.length_nil] at ih ⊢;have e:(ws.length + 1 + 1) * (k + 1)=(ws.length + 1) * (k + 1) + (k + 1):=by rw [Nat.succ_mul]
  omega
theorem zqh {c:Cm} (hf:FitC c):spl 32 (Lib.join (zbP c) [32])=zbP c :=
 zmh 32 _ (by unfold zbP;simp) (fun w hw=>(zfS hf w hw).1.1)
theorem zj0 {c:Cm} (h:za0 c=0) (hf:FitC c):zaG (Lib.join (zbP c) [32])=(c,0)∧(10:UInt8) ∉ Lib.join (zbP c) [32]∧(Lib.join (zbP c) [32]).length ≤ 176:=by
 have hl:(Lib.join (zbP c) [32]).length ≤ 176:=by
  have h1:=zji (c:=32) (k:=21) (fun w hw=>(zfS hf w hw).2);have h2:=zli c;have h3:=Nat.mul_le_mul_right 22 h2;omega
 refine ⟨?_,?_,hl⟩
 ·unfold zaG zml;rw [if_neg (by omega),zqh hf,zoO h hf]
 ·intro hm;rcases zmi hm with h1 | ⟨w,hw,h1⟩
  ·simp at h1
  ·exact (zfS hf w hw).1.2 h1
end
section
def zhm (c:Cm):Int :=
 if c.kind < 1∨7 < c.kind then 4 else if c.kind=3∧(c.how < 1∨4 < c.how∨c.o.side ≠ 1∧c.o.side ≠ -1) then 4
 else if (zf3 c.kind=false∧c.kind ≠ 3∧c.acc ≠ 0)∨(zdF c.kind=false∧c.kind ≠ 3∧c.market ≠ 0)∨(zf3 c.kind=false∧zdF c.kind=false∧c.n ≠ 0)
  ∨ (c.kind ≠ 3∧(c.how ≠ 0∨c.reduce=true∨sameOdB c.o zbs=false))∨c.o.id ≠ 0∨c.o.acc ≠ 0 then 3 else 0
where sameOdB (a b:Od):Bool:=decide (a.id=b.id∧a.acc=b.acc∧a.side=b.side∧a.price=b.price∧a.qty=b.qty)
end
section
theorem zii:∀ {l:List Cm} {v:Vn} {out:List (List Ev)},(zcN v out l).2.2 ≠ 0→(zcN v out l).1=zdm
 | [],_,_,h=>absurd rfl h
 | c :: l,v,out,h=>by
  unfold zcN at h ⊢;split
  ·rfl
  ·rename_i h1;rw [if_neg h1] at h;exact zii h
theorem zqi (v:Vn) (l:List Cm):zag (zdV v l).1.inn=true:=by
 have hz:zag zdm.inn=true:=by decide
 unfold zdV;split
 ·exact hz
 ·rename_i h1;split
  ·exact hz
  ·by_cases h2:(zcN v [] l).2.2=0
   ·have h3:=(ziY (l:=l) (v:=v) (out:=[]) (w:=(zcN v [] l).1) (ev:=(zcN v [] l).2.1) (zfQ.1 (by omega)) (by rw [← h2])).nums.inn;unfold zag;simp;omega
   ·rw [zii h2];exact hz
end
end Go.Proofs.YtockodmbhnlheaaGreatDoor
