import Derived.Test.YtockodmbhnlheaaGreatDoorAL
namespace Go.Proofs.YtockodmbhnlheaaGreatDoor
section
open Go.RowKit
theorem Blk.c4 {w:World} {g:Nat} {t:TypeId} {a b c d:Value} (h:Blk w g t #[a,b,c,d]) :
  (w.cell? ⟨g,0,none⟩=some a∧w.cell? ⟨g,1,none⟩=some b∧w.cell? ⟨g,2,none⟩=some c∧w.cell? ⟨g,3,none⟩=some d)∧w.frozen? ⟨g,0,none⟩=false∧w.frozen? ⟨g,1,none⟩=false∧w.frozen? ⟨g,2,none⟩=false∧w.frozen? ⟨g,3,none⟩=false :=
 ⟨⟨h.cell 0,h.cell 1,h.cell 2,h.cell 3⟩,h.frozen 0,h.frozen 1,h.frozen 2,h.frozen 3⟩
set_option maxHeartbeats 1000000 in
theorem zgc (m:Mk) (A A':Option Addr) (c c':Nat) (B:Nat) (w:World) (h:Rd w B 5 A m.book.bids.length c (zaa m.book.bids)) (h':Rd w B 5 A' m.book.asks.length c' (zaa m.book.asks)) (hB:B ≤ w.heap.size) (hl:m.book.bids.length ≤ 4000000000000) (hl':m.book.asks.length ≤ 4000000000000) :
  Calls Tryz.prog 66 #[.agg #[.slice A m.book.bids.length c,.slice A' m.book.asks.length c',.int .i64 m.index,.int .i64 m.last]] w fun e w'=>e=.returned (.int .i64 (zaN m))∧Below w.heap.size w w':=by
 have HB:=fun W=>zdv m.book A A' c c' B W;have HC:=zi HB;clear HB;by_cases he:zav m.book=0
 ·have HE:=zi (show zaN m=if m.index < 1∨10000 < m.index∨m.last < 0∨10000 < m.last then 3 else 0 by unfold zaN;rw [if_neg (by omega)]);have HZ:=zi he;clear he;have hs:(m.index < 1∨1 ≤ m.index∧10000 < m.index∨1 ≤ m.index∧m.index ≤ 10000∧m.last < 0∨1 ≤ m.index∧m.index ≤ 10000∧0 ≤ m.last∧10000 < m.last)∨(1 ≤ m.index∧m.index ≤ 10000∧0 ≤ m.last∧m.last ≤ 10000):=by omega
  go_enter Tryz.func66,Tryz.ntmps66
  go_wp2_with fail
  refine (HC.out _ (h.alloc hB _) (h'.alloc hB _) (by simp;omega) hl hl').mono ?_;rw [HZ.out];rintro e w1 ⟨rfl,hb1⟩;obtain ⟨⟨b0,b1,b2,b3⟩,_⟩:=((Blk.new w 85 #[.slice A m.book.bids.length c,.slice A' m.book.asks.length c',.int .i64 m.index,.int .i64 m.last]).below hb1 (by simp)).c4;have h9:Below w.heap.size w w1:=((Below.refl _ _).alloc (zl _) _).trans (hb1.mono (by simp));clear hb1;rcases hs with (g1 | ⟨g1,g2⟩ | ⟨g1,g2,g3⟩ | ⟨g1,g2,g3,g4⟩) | ⟨g1,g2,g3,g4⟩;rotate_right
  ·have HE2:=zi (HE.out.trans (if_neg (by omega)));go_wp2_with fail
   go_ret;exact ⟨zay HE2.out.symm,h9⟩
  all_goals
   have HE2:=zi (HE.out.trans (if_pos (by omega)));go_wp2_with fail
   go_ret;exact ⟨zay HE2.out.symm,h9⟩
 ·have HE:=zi (show zaN m=zav m.book by unfold zaN;rw [if_pos he]);have he':(zav m.book != 0)=true:=by simpa using he
  clear he;go_enter Tryz.func66,Tryz.ntmps66
  go_wp2_with fail
  refine (HC.out _ (h.alloc hB _) (h'.alloc hB _) (by simp;omega) hl hl').mono ?_;rintro e w1 ⟨rfl,hb1⟩;go_wp2_with fail
  go_ret;exact ⟨zay HE.out.symm,((Below.refl _ _).alloc (zl _) _).trans (hb1.mono (by simp))⟩
theorem zk1 {m:Mk} (h:zaN m=0):BookOk m.book∧(1 ≤ m.index∧m.index ≤ 10000)∧(0 ≤ m.last∧m.last ≤ 10000):=by
 unfold zaN at h;split at h
 ·rename_i h1;exact absurd h h1
 ·rename_i h1;split at h
  ·omega
  ·exact ⟨zb6.1 (by omega),by omega,by omega⟩
theorem zku (n:Int):n=0∨(n == 0)=false:=by by_cases h:n=0 <;> simp [h]
theorem znV {m:Mk} (h:m.book.bids.length=0∨m.book.asks.length=0):zd6 m=m.index:=by
 obtain ⟨⟨l,k⟩,i,la⟩:=m;cases l with
 | nil=>rfl
 | cons x l =>
  cases k with
  | nil=>rfl
  | cons y k=>simp at h
theorem ztI {m:Mk} {x y:Od} (hx:m.book.bids[0]?=some x) (hy:m.book.asks[0]?=some y):zd6 m=(x.price + y.price) / 2:=by
 obtain ⟨⟨l,k⟩,i,la⟩:=m;cases l with
 | nil=>simp at hx
 | cons x' l =>
  cases k with
  | nil=>simp at hy
  | cons y' k=>simp at hx hy;subst hx hy;rfl
set_option maxRecDepth 100000 in
set_option maxHeartbeats 2000000 in
theorem zmf (m:Mk) (A A':Option Addr) (c c':Nat) (B:Nat) (w:World) (h:Rd w B 5 A m.book.bids.length c (zaa m.book.bids)) (h':Rd w B 5 A' m.book.asks.length c' (zaa m.book.asks)) (hB:B ≤ w.heap.size) (hl:m.book.bids.length ≤ 4000000000000) (hl':m.book.asks.length ≤ 4000000000000) :
  Calls Tryz.prog 102 #[.agg #[.slice A m.book.bids.length c,.slice A' m.book.asks.length c',.int .i64 m.index,.int .i64 m.last]] w fun e w'=>e=.returned (.tuple #[.int .i64 (za9 m).1,.int .i64 (za9 m).2])∧Below w.heap.size w w':=by
 by_cases he:zaN m=0
 ·obtain ⟨_,⟨i1,i2⟩,⟨i3,i4⟩⟩:=zk1 he;have hbo:=(zk1 he).1;have HZ:=zi he;clear he;go_enter Tryz.func102,Tryz.ntmps102
  go_wp2_with fail
  refine (zgc m _ _ _ _ _ _ (h.alloc hB _) (h'.alloc hB _) (by simp;omega) hl hl').mono ?_;rw [HZ.out];rintro e w1 ⟨rfl,hb1⟩;have B1:=(Blk.new w 85 #[.slice A m.book.bids.length c,.slice A' m.book.asks.length c',.int .i64 m.index,.int .i64 m.last]).below hb1 (by simp);have h9:Below w.heap.size w w1:=((Below.refl _ _).alloc (zl _) _).trans (hb1.mono (by simp));have hw1:w.heap.size < w1.heap.size:=by have:=hb1.size;simp at this;omega
  clear hb1;obtain ⟨⟨b0,b1,b2,b3⟩,_⟩:=B1.c4;go_wp2_with fail
  go_quiet (fail)
  obtain ⟨W,hW⟩:∃ W,W=w1.drewN nq:=⟨_,rfl⟩;rw [← hW];have h9:Below w.heap.size w W:=by rw [hW];exact zac h9 _
  have B2:Blk W w.heap.size 85 #[.slice A m.book.bids.length c,.slice A' m.book.asks.length c',.int .i64 m.index,.int .i64 m.last]:=by rw [hW];exact B1.drewN _
  clear hW B1 b0 b1 b2 b3;obtain ⟨⟨b0,b1,b2,b3⟩,_⟩:=B2.c4;have ra:=h.below (h9.mono hB);have rb:=h'.below (h9.mono hB);have q1:IntKind.i64.wrap (m.index - m.index / 20)=m.index - m.index / 20:=IntWalk.i64_in _ (by omega);have q2:IntKind.i64.wrap (m.index + m.index / 20)=m.index + m.index / 20:=IntWalk.i64_in _ (by omega);by_cases hn:m.book.bids.length=0
  ·have HMID:=zi (znV (.inl hn));have d2:¬ 0 < m.book.bids.length:=by omega
   have d3:decide (0 < m.book.bids.length)=false:=decide_eq_false d2;clear hn;rcases zku m.last with hz | hz
   ·have HP:=zi (show za9 m=(zet (m.index - m.index / 20) (zet m.index (m.index) m.index) (m.index + m.index / 20),0) by
     unfold za9;rw [if_neg (by rw [HZ.out];simp)];show (midI _ (midI _ (zd6 m) (zbx m)) _,0)=_;rw [HMID.out,show zbx m=m.index by unfold zbx;rw [if_pos hz]];rfl)
    have hz1:(m.last == 0)=true:=by simpa using hz
    clear hz;go_wp2_with fail
    go_quiet (((first | (go_at_call 138;exact zeK (zeM _ _ _ _)))))
    go_wp2_with fail
    go_ret2
    exact ⟨za6 (by rw [HP.out]),zac h9 _⟩
   ·have HP:=zi (show za9 m=(zet (m.index - m.index / 20) (zet m.index (m.index) m.last) (m.index + m.index / 20),0) by
     unfold za9;rw [if_neg (by rw [HZ.out];simp)];show (midI _ (midI _ (zd6 m) (zbx m)) _,0)=_;rw [HMID.out,show zbx m=m.last by unfold zbx;rw [if_neg (by simpa using hz)]];rfl)
    go_wp2_with fail
    go_quiet (((first | (go_at_call 138;exact zeK (zeM _ _ _ _)))))
    go_wp2_with fail
    go_ret2
    exact ⟨za6 (by rw [HP.out]),zac h9 _⟩
  ·have d1:0 < m.book.bids.length:=by omega
   have d2:(0:Int) < (m.book.bids.length:Int):=by omega
   have d3:decide (0 < m.book.bids.length)=true:=decide_eq_true d1;by_cases hn':m.book.asks.length=0
   ·have HMID:=zi (znV (.inr hn'));have d4:¬ 0 < m.book.asks.length:=by omega
    have d5:decide (0 < m.book.asks.length)=false:=decide_eq_false d4;clear hn hn';rcases zku m.last with hz | hz
    ·have HP:=zi (show za9 m=(zet (m.index - m.index / 20) (zet m.index (m.index) m.index) (m.index + m.index / 20),0) by
      unfold za9;rw [if_neg (by rw [HZ.out];simp)];show (midI _ (midI _ (zd6 m) (zbx m)) _,0)=_;rw [HMID.out,show zbx m=m.index by unfold zbx;rw [if_pos hz]];rfl)
     have hz1:(m.last == 0)=true:=by simpa using hz
     clear hz;go_wp2_with fail
     go_quiet (((first | (go_at_call 138;exact zeK (zeM _ _ _ _)))))
     go_wp2_with fail
     go_ret2
     exact ⟨za6 (by rw [HP.out]),zac h9 _⟩
    ·have HP:=zi (show za9 m=(zet (m.index - m.index / 20) (zet m.index (m.index) m.last) (m.index + m.index / 20),0) by
      unfold za9;rw [if_neg (by rw [HZ.out];simp)];show (midI _ (midI _ (zd6 m) (zbx m)) _,0)=_;rw [HMID.out,show zbx m=m.last by unfold zbx;rw [if_neg (by simpa using hz)]];rfl)
     go_wp2_with fail
     go_quiet (((first | (go_at_call 138;exact zeK (zeM _ _ _ _)))))
     go_wp2_with fail
     go_ret2
     exact ⟨za6 (by rw [HP.out]),zac h9 _⟩
   ·have d4:0 < m.book.asks.length:=by omega
    have d5:(0:Int) < (m.book.asks.length:Int):=by omega
    have d6:decide (0 < m.book.asks.length)=true:=decide_eq_true d4;obtain ⟨g1,o1,x,rfl,hg1,hx,_,_,_,k3,_⟩:=zdU ra (i:=0) (by omega);obtain ⟨g2,o2,y,rfl,hg2,hy,_,_,_,m3,_⟩:=zdU rb (i:=0) (by omega);have HMID:=zi (ztI hx hy);have px:=(zaP.1 (hbo.bids.ok x (List.mem_of_getElem? hx))).2.2.2.1;have py:=(zaP.1 (hbo.asks.ok y (List.mem_of_getElem? hy))).2.2.2.1;obtain ⟨px1,px2⟩:=px;obtain ⟨py1,py2⟩:=py;rw [Nat.zero_mul,Nat.add_zero] at k3 m3;have q3:IntKind.i64.wrap (x.price + y.price)=x.price + y.price:=IntWalk.i64_in _ (by omega);have q4:(x.price + y.price).tdiv 2=(x.price + y.price) / 2:=Int.tdiv_eq_ediv_of_nonneg (by omega);have q5:IntKind.i64.wrap ((x.price + y.price) / 2)=(x.price + y.price) / 2:=IntWalk.i64_in _ (by omega);clear hx hy hn hn';go_wp2_with fail
    go_quiet (fail)
    obtain ⟨X,hX⟩:∃ X,X=W.drewN nq:=⟨_,rfl⟩;rw [← hX];have h9:Below w.heap.size w X:=by rw [hX];exact zac h9 _
    have B3:Blk X w.heap.size 85 #[.slice (some ⟨g1,o1,none⟩) m.book.bids.length c,.slice (some ⟨g2,o2,none⟩) m.book.asks.length c',.int .i64 m.index,.int .i64 m.last]:=by rw [hX];exact B2.drewN _
    clear hX B2 b0 b1 b2 b3 k3 m3;obtain ⟨⟨b0,b1,b2,b3⟩,_⟩:=B3.c4;rcases zku m.last with hz | hz
    ·have HP:=zi (show za9 m=(zet (m.index - m.index / 20) (zet m.index ((x.price + y.price) / 2) m.index) (m.index + m.index / 20),0) by
      unfold za9;rw [if_neg (by rw [HZ.out];simp)];show (midI _ (midI _ (zd6 m) (zbx m)) _,0)=_;rw [HMID.out,show zbx m=m.index by unfold zbx;rw [if_pos hz]];rfl)
     have hz1:(m.last == 0)=true:=by simpa using hz
     clear hz;go_wp2_with fail
     go_quiet (((first | (go_at_call 138;exact zeK (zeM _ _ _ _)))))
     go_wp2_with fail
     go_ret2
     exact ⟨za6 (by rw [HP.out]),zac h9 _⟩
    ·have HP:=zi (show za9 m=(zet (m.index - m.index / 20) (zet m.index ((x.price + y.price) / 2) m.last) (m.index + m.index / 20),0) by
      unfold za9;rw [if_neg (by rw [HZ.out];simp)];show (midI _ (midI _ (zd6 m) (zbx m)) _,0)=_;rw [HMID.out,show zbx m=m.last by unfold zbx;rw [if_neg (by simpa using hz)]];rfl)
     go_wp2_with fail
     go_quiet (((first | (go_at_call 138;exact zeK (zeM _ _ _ _)))))
     go_wp2_with fail
     go_ret2
     exact ⟨za6 (by rw [HP.out]),zac h9 _⟩
 ·have HE:=zi (show za9 m=(0,zaN m) by unfold za9;rw [if_pos he]);have he':(zaN m != 0)=true:=by simpa using he
  clear he;go_enter Tryz.func102,Tryz.ntmps102
  go_wp2_with fail
  refine (zgc m _ _ _ _ _ _ (h.alloc hB _) (h'.alloc hB _) (by simp;omega) hl hl').mono ?_;rintro e w1 ⟨rfl,hb1⟩;go_wp2_with fail
  go_ret2
  exact ⟨za6 (by rw [HE.out]),((Below.refl _ _).alloc (zl _) _).trans (hb1.mono (by simp))⟩
end
section
def ziy (place:Bool) (x:Ev):Int:=if place then (zdB x.f.qty x.f.price).1 else 0
def zfb (place:Bool) (x:Ev) (id:Int):Int :=
 if x.kind=5 then (if id=x.acc then x.n else 0)
 else if x.kind=3∨x.kind=6 then (if id=x.f.macc then x.f.side * x.f.qty * x.f.price else 0) - (if id=x.f.tacc then x.f.side * x.f.qty * x.f.price + ziy place x else 0) else 0
def zeN (x:Ev) (mk:Nat) (id:Int):Int :=
 if (x.kind=3∨x.kind=6)∧x.market=mk then (if id=x.f.tacc then x.f.side * x.f.qty else 0) - (if id=x.f.macc then x.f.side * x.f.qty else 0) else 0
def zbo (place:Bool) (E:List Ev) (id:Int):Int:=(E.map fun x=>zfb place x id).sum
def zbh (E:List Ev) (mk:Nat) (id:Int):Int:=(E.map fun x=>zeN x mk id).sum
theorem zh6 (place:Bool) (E F:List Ev) (id:Int):zbo place (E ++ F) id=zbo place E id + zbo place F id:=by simp [zbo]
theorem ziT (E F:List Ev) (mk:Nat) (id:Int):zbh (E ++ F) mk id=zbh E mk id + zbh F mk id:=by simp [zbh]
structure FlOk (m:Nat) (x:Ev):Prop where
 market:∃ k:Nat,x.market=k∧k < m
 qty:1 ≤ x.f.qty∧x.f.qty ≤ 1000
 price:0 ≤ x.f.price∧x.f.price ≤ 10000
 side:x.f.side=1∨x.f.side = -1
 accs:(0 ≤ x.f.tacc∧x.f.tacc ≤ 7)∧(0 ≤ x.f.macc∧x.f.macc ≤ 7)
structure Step (place:Bool) (d d':Dk) (E:List Ev):Prop where
 ok:VOk d'.v
 ev:d'.ev=d.ev ++ E
 kinds:∀ x ∈ E,x.kind ≠ 1
 fills:∀ x ∈ E,x.kind=3∨x.kind=6→FlOk d.v.mks.length x
 moved:∀ x ∈ E,x.kind=5→(0 ≤ x.acc∧x.acc ≤ 7)∧(-3000000000000 ≤ x.n∧x.n ≤ 3000000000000)
 bal:∀ id,balOf d'.v.accs id=balOf d.v.accs id + zbo place E id
 pos:∀ k id,posOf d'.v.accs k id=posOf d.v.accs k id + zbh E k id
 len:d'.v.mks.length=d.v.mks.length
 there:∀ id,zas d.v.accs id=true→zas d'.v.accs id=true
 up:d.v.next ≤ d'.v.next∧d.v.inn ≤ d'.v.inn∧d.v.out ≤ d'.v.out
theorem Step.refl {place:Bool} {d:Dk} (h:VOk d.v):Step place d d [] :=
 ⟨h,by simp,by simp,by simp,by simp,fun id=>by simp [zbo],fun k id=>by simp [zbh],rfl,fun _ h=>h,⟨Int.le_refl _,Int.le_refl _,Int.le_refl _⟩⟩
theorem Step.trans {place:Bool} {a b c:Dk} {E F:List Ev} (h:Step place a b E) (g:Step place b c F):Step place a c (E ++ F):=by
 refine ⟨g.ok,by rw [g.ev,h.ev,List.append_assoc],?_,?_,?_,fun id=>?_,fun k id=>?_,g.len.trans h.len,fun id hi=>g.there id (h.there id hi),?_⟩
 ·intro x hx;rcases List.mem_append.1 hx with hx | hx
  ·exact h.kinds x hx
  ·exact g.kinds x hx
 ·intro x hx;rcases List.mem_append.1 hx with hx | hx
  ·exact h.fills x hx
  ·rw [← h.len];exact g.fills x hx
 ·intro x hx;rcases List.mem_append.1 hx with hx | hx
  ·exact h.moved x hx
  ·exact g.moved x hx
 ·rw [g.bal,h.bal,zh6];omega
 ·rw [g.pos,h.pos,ziT];omega
 ·have:=h.up;have:=g.up;omega
theorem zcF {e:Int} {α:Type} {x:Except Int α} {a:α} (h:okIf e x=.ok a):e=0∧x=.ok a:=by
 unfold okIf at h;split at h
 ·cases h
 ·rename_i h1;exact ⟨by omega,h⟩
theorem zdo {α β:Type} {x:Except Int α} {f:α→Except Int β} {b:β} (h:zby x f=.ok b):∃ a,x=.ok a∧f a=.ok b:=by
 cases x with
 | error e=>cases h
 | ok a=>exact ⟨a,rfl,h⟩
theorem zgJ {L:List Ac} {m k:Nat} {a b:Ac} (h:AOk m L) (hk:L[k]?=some a) (he:b.id=a.id) (hp:b.pos=a.pos) (j:Nat) (id:Int):posOf (L.set k b) j id=posOf L j id:=by
 unfold posOf;rw [zdi h hk he];by_cases hi:id=a.id
 ·rw [if_pos hi,hp,hi,zbR h.sorted hk]
 ·rw [if_neg hi]
theorem zh7 {v:Vn} {k:Nat} (h:k < v.mks.length):v.mks[k]?=some (mkAt v k):=by
 unfold mkAt;rw [List.getD,List.getElem?_eq_getElem h];rfl
theorem zem {v:Vn} {k:Nat} (hv:VOk v) (h:k < v.mks.length):zaN (mkAt v k)=0∧∀ o ∈ (mkAt v k).book.bids ++ (mkAt v k).book.asks,zas v.accs o.acc=true∧o.id < v.next :=
 hv.mks _ (List.mem_of_getElem? (zh7 h))
theorem za2 {m:Mk}:zaN m=0 ↔ BookOk m.book∧(1 ≤ m.index∧m.index ≤ 10000)∧0 ≤ m.last∧m.last ≤ 10000:=by
 unfold zaN;rw [← zb6];by_cases h1:zav m.book=0
 ·rw [if_neg (by omega)];by_cases h2:m.index < 1∨10000 < m.index∨m.last < 0∨10000 < m.last
  ·rw [if_pos h2];omega
  ·rw [if_neg h2];omega
 ·rw [if_pos h1];omega
theorem ztJ {v:Vn} {k:Nat} {m:Mk} (h:VOk v) (h1:zaN m=0) (h2:∀ o ∈ m.book.bids ++ m.book.asks,zas v.accs o.acc=true∧o.id < v.next):VOk (zaD v k m):=by
 have hl:(zaD v k m).mks.length=v.mks.length:=by simp [zaD]
 refine ⟨by rw [hl];exact h.len,by rw [hl];exact h.accs,⟨h.nums.ins,h.nums.resid,h.nums.next,h.nums.inn,h.nums.out⟩,h.money,by rw [hl];exact h.pos,zs2 h.mks h1 h2⟩
theorem zfc {place:Bool} {d:Dk} {k:Nat} {m:Mk} (h:VOk d.v) (h1:zaN m=0) (h2:∀ o ∈ m.book.bids ++ m.book.asks,zas d.v.accs o.acc=true∧o.id < d.v.next):Step place d ⟨zaD d.v k m,d.ev⟩ [] :=
 ⟨ztJ h h1 h2,by simp,by simp,by simp,by simp,fun id=>by simp [zbo,zaD],fun k id=>by simp [zbh,zaD],by simp [zaD],fun _ h=>h,⟨Int.le_refl _,Int.le_refl _,Int.le_refl _⟩⟩
theorem zh8 {place:Bool} {d:Dk} {x:Ev} (h:VOk d.v) (hx:x.kind=2∨x.kind=4):Step place d (tell d x) [x]:=by
 refine ⟨h,rfl,?_,?_,?_,fun id=>?_,fun k id=>?_,rfl,fun _ h=>h,⟨Int.le_refl _,Int.le_refl _,Int.le_refl _⟩⟩
 ·intro y hy;simp at hy;subst hy;omega
 ·intro y hy;simp at hy;subst hy;omega
 ·intro y hy;simp at hy;subst hy;omega
 ·simp only [zbo,List.map_cons,List.map_nil,List.sum_cons,List.sum_nil,zfb];rw [if_neg (by omega),if_neg (by omega)];simp [tell]
 ·simp only [zbh,List.map_cons,List.map_nil,List.sum_cons,List.sum_nil,zeN];rw [if_neg (by omega)];simp [tell]
theorem zpW {v v':Vn} {mk:Nat} {t m q p fee:Int} (h:VOk v) (hf:0 ≤ fee) (ht:TradeStep v v' mk t m q p fee):VOk v':=by
 obtain ⟨r1,r2,r3,r4⟩:=ht.rest;obtain ⟨i1,i2⟩:=ht.ins;have hn:=h.nums;rw [zaK] at i2;have:=hn.ins;refine ⟨by rw [ht.mks];exact h.len,by rw [ht.mks];exact ht.accs,⟨by omega,by rw [r1];exact hn.resid,by rw [r2];exact hn.next,by rw [r3];exact hn.inn,by rw [r4];exact hn.out⟩,?_,fun k hk=>?_,?_⟩
 ·have:=h.money;have:=ht.bal;omega
 ·rw [ht.pos];exact h.pos k (by rw [ht.mks] at hk;exact hk)
 ·rw [ht.mks];exact zfa h.mks (fun id hi=>by rw [zdh ht.ids];exact hi) (by rw [r2];exact Int.le_refl _)
theorem zjI {place:Bool} {d:Dk} {v':Vn} {mk:Nat} {x:Ev} {fee:Int} (h:VOk d.v) (hf:0 ≤ fee) (hx:x.kind=3∨x.kind=6) (hm:x.market=mk) (hfee:fee=ziy place x) (hq:1 ≤ x.f.qty∧x.f.qty ≤ 1000) (hs:x.f.side=1∨x.f.side = -1) (hp:0 ≤ x.f.price∧x.f.price ≤ 10000)
  (ht:zcD d.v mk x.f.tacc x.f.macc (x.f.side * x.f.qty) x.f.price fee=.ok v'):Step place d (tell ⟨v',d.ev⟩ x) [x]∧TradeStep d.v v' mk x.f.tacc x.f.macc (x.f.side * x.f.qty) x.f.price fee:=by
 have hst:=zgl h.accs ht;refine ⟨⟨zpW h hf hst,rfl,?_,?_,?_,fun id=>?_,fun k id=>?_,by show v'.mks.length=_;rw [hst.mks],fun id hi=>by show zas v'.accs id=true;rw [zdh hst.ids];exact hi,?_⟩,hst⟩
 ·intro y hy;simp at hy;subst hy;omega
 ·intro y hy _;simp at hy;subst hy;obtain ⟨t1,t2⟩:=hst.there;obtain ⟨a,ha,ea⟩:=zc5.1 t1;obtain ⟨b,hb,eb⟩:=zc5.1 t2;have k1:=(zaw (h.accs.ok a ha)).1;have k2:=(zaw (h.accs.ok b hb)).1;exact ⟨⟨mk,hm,hst.mkLt⟩,hq,hp,hs,by omega,by omega⟩
 ·intro y hy;simp at hy;subst hy;omega
 ·show balOf v'.accs id=_;rw [hst.balOf];simp only [zbo,List.map_cons,List.map_nil,List.sum_cons,List.sum_nil,zfb];rw [if_neg (show ¬ x.kind=5 by omega),if_pos hx,hfee];omega
 ·show posOf v'.accs k id=_;rw [hst.posOf];simp only [zbh,List.map_cons,List.map_nil,List.sum_cons,List.sum_nil,zeN];by_cases hk:k=mk
  ·subst hk;rw [if_pos (⟨hx,hm⟩:(x.kind=3∨x.kind=6)∧x.market = ↑k)];simp only [true_and];omega
  ·rw [if_neg (show ¬ (k=mk∧id=x.f.tacc) from fun h=>hk h.1),if_neg (show ¬ (k=mk∧id=x.f.macc) from fun h=>hk h.1),if_neg (show ¬ ((x.kind=3∨x.kind=6)∧x.market = ↑k) by omega)];omega
 ·obtain ⟨r1,r2,r3,r4⟩:=hst.rest;show d.v.next ≤ v'.next∧d.v.inn ≤ v'.inn∧d.v.out ≤ v'.out;omega
theorem zs3 {q p:Int} (hq:1 ≤ q∧q ≤ 1000) (hp:0 ≤ p∧p ≤ 10000):(zdB q p).2=0∧0 ≤ (zdB q p).1∧(zdB q p).1 ≤ 5000:=by
 have hb:=zhu (q:=q) (p:=p) (by omega) (by omega) (by omega) (by omega);have h0:0 ≤ q * p:=Int.mul_nonneg (by omega) (by omega);have hw:zaC q p=(q * p,0):=by
  rcases zcI q p with h | h
  ·have:zhb q p=true:=zfN.2 (by omega);unfold zaC at h;rw [if_pos this] at h;injection h with _ h;omega
  ·exact h.1
 unfold zdB;rw [hw];simp only;rw [if_neg (by omega),show max (q * p) (-(q * p))=q * p by omega,zjv hb (by omega)];refine ⟨rfl,?_,?_⟩ <;> simp only <;> omega
def zd0 (mk:Nat) (l:List Fl):List Ev:=l.map fun f=>⟨3,0,mk,0,0,0,f⟩
theorem zfx {place:Bool} {mk:Nat}:∀ {l:List Fl} {d d':Dk},VOk d.v→(∀ f ∈ l,(1 ≤ f.qty∧f.qty ≤ 1000)∧(f.side=1∨f.side = -1)∧(0 ≤ f.price∧f.price ≤ 10000))→mk < d.v.mks.length→zbz mk (!place) l d=.ok d' →
  Step place d d' (zd0 mk l)∧d'.v.accs.map (·.id)=d.v.accs.map (·.id)∧(∀ k,(mkAt d'.v k).book=(mkAt d.v k).book∧(mkAt d'.v k).index=(mkAt d.v k).index∧(k ≠ mk→mkAt d'.v k=mkAt d.v k))∧(d'.v.resid=d.v.resid∧d'.v.next=d.v.next∧d'.v.inn=d.v.inn∧d'.v.out=d.v.out)∧d.v.ins ≤ d'.v.ins∧(place=false→d'.v.ins=d.v.ins)∧(l = []→d'=d)
 | [],d,d',h,_,_,he=>by
  injection he with he;subst he;exact ⟨Step.refl h,rfl,fun k=>⟨rfl,rfl,fun _=>rfl⟩,⟨rfl,rfl,rfl,rfl⟩,Int.le_refl _,fun _=>rfl,fun _=>rfl⟩
 | f :: l,d,d',h,hl,hmk,he=>by
  obtain ⟨f1,f2,f3⟩:=hl f (by simp);unfold zbz at he;obtain ⟨v1,h1,he⟩:=zdo he;have hfee:=zs3 f1 f3;have hfe:(if (!place)=true then 0 else (zdB f.qty f.price).1)=ziy place ⟨3,0,mk,0,0,0,f⟩:=by cases place <;> rfl
  have hf0:0 ≤ ziy place ⟨3,0,mk,0,0,0,f⟩:=by unfold ziy;cases place <;> simp [hfee.2.1]
  rw [hfe] at h1;obtain ⟨s1,t1⟩:=zjI (place:=place) (d:=d) (x:=⟨3,0,mk,0,0,0,f⟩) h hf0 (.inl rfl) rfl rfl f1 f2 f3 h1;have hm1:v1.mks=d.v.mks:=t1.mks;have hat:mkAt v1 mk=mkAt d.v mk:=by unfold mkAt;rw [hm1]
  have hok:=zem s1.ok (k:=mk) (by show mk < v1.mks.length;rw [hm1];exact hmk);have s2:=zfc (place:=place) (d:=tell ⟨v1,d.ev⟩ ⟨3,0,mk,0,0,0,f⟩) (k:=mk) (m:={ mkAt v1 mk with last:=f.price }) s1.ok (by
   have:=za2.1 hok.1;exact za2.2 ⟨this.1,this.2.1,f3⟩) hok.2
  obtain ⟨s3,i3,m3,r3,n3,p3,_⟩:=zfx (place:=place) (mk:=mk) (l:=l) (d:=tell ⟨zaD v1 mk { mkAt v1 mk with last:=f.price },d.ev⟩ ⟨3,0,mk,0,0,0,f⟩) (d':=d') s2.ok (fun g hg=>hl g (by simp [hg])) (by simp only [tell,zaD,List.length_set];rw [hm1];exact hmk) he;obtain ⟨q1,q2,q3,q4⟩:=t1.rest;obtain ⟨i1,_⟩:=t1.ins;refine ⟨?_,i3.trans t1.ids,fun k=>?_,⟨r3.1.trans q1,r3.2.1.trans q2,r3.2.2.1.trans q3,r3.2.2.2.trans q4⟩,?_,?_,nofun⟩
  ·have:=(s1.trans s2).trans s3;simpa [zd0] using this
  ·obtain ⟨a1,a2,a3⟩:=m3 k;have hs:∀ j,mkAt (zaD v1 mk { mkAt v1 mk with last:=f.price }) j=if j=mk then { mkAt v1 mk with last:=f.price } else mkAt d.v j:=by
    intro j;show ((v1.mks.set mk _)[j]?).getD zjC=_;rw [zh5 (zh7 (v:=v1) (by rw [hm1];exact hmk)),hm1];by_cases hj:j=mk
    ·rw [if_pos hj,if_pos hj];rfl
    ·rw [if_neg hj,if_neg hj];rfl
   have a1':(mkAt d'.v k).book=(mkAt (zaD v1 mk { mkAt v1 mk with last:=f.price }) k).book:=a1;have a2':(mkAt d'.v k).index=(mkAt (zaD v1 mk { mkAt v1 mk with last:=f.price }) k).index:=a2;have a3':k ≠ mk→mkAt d'.v k=mkAt (zaD v1 mk { mkAt v1 mk with last:=f.price }) k:=a3;rw [hs] at a1' a2' a3';by_cases hk:k=mk
   ·subst hk;rw [if_pos rfl] at a1' a2';exact ⟨by rw [a1',hat],by rw [a2',hat],fun h=>absurd rfl h⟩
   ·rw [if_neg hk] at a1' a2' a3';exact ⟨a1',a2',a3'⟩
  ·have:v1.ins ≤ d'.v.ins:=n3;omega
  ·intro hp;have h2:d'.v.ins=v1.ins:=p3 hp;subst hp;have:ziy false ⟨3,0,mk,0,0,0,f⟩=0:=rfl;omega
end
end Go.Proofs.YtockodmbhnlheaaGreatDoor
