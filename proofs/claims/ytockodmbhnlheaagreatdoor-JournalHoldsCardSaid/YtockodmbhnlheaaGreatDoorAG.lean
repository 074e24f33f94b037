import Derived.Test.YtockodmbhnlheaaGreatDoorAE
namespace Go.Proofs.YtockodmbhnlheaaGreatDoor
section
theorem zsW {b x:Bk} {o:Od} (h:zbJ b o=(x,0)) :
  BookOk b∧zax o=0∧hasB b o.id=false∧b.bids.length + b.asks.length < 40∧zej o (zap b o.side)=false∧x=zbI b o.side (insO o (zcn b o.side)):=by
 unfold zbJ at h;split at h
 ·rename_i h1;injection h with _ h2;exact absurd h2 h1
 rename_i h1;have hb:=zb6.1 (show zav b=0 by omega);split at h
 ·injection h with _ h2;omega
 rename_i h2;split at h
 ·rename_i h3;injection h with _ h4;exact absurd h4 h3
 rename_i h3;split at h
 ·injection h with _ h4;omega
 rename_i h4;split at h
 ·injection h with _ h5;omega
 rename_i h5;injection h with h6 _;have:=hb.len;exact ⟨hb,by omega,by simpa using h2,by omega,by simpa using h5,h6.symm⟩
theorem zpJ {b:Bk} {o:Od} (h:BookOk b) (hs:o.side=1∨o.side = -1) (hc:zej o (zap b o.side)=false):∀ y ∈ zap b o.side,zbc o y.price=false:=by
 rcases hs with hs | hs
 ·have e:zap b o.side=b.asks:=by unfold zap;rw [if_pos hs]
  rw [e] at hc ⊢;intro y hy;have hso:=h.asks;cases hb:b.asks with
  | nil=>rw [hb] at hy;cases hy
  | cons z l =>
   rw [hb] at hc hy hso;simp only [zej,zbc] at hc;rw [if_pos hs] at hc;unfold zbc;rw [if_pos hs];simp only [decide_eq_false_iff_not] at hc ⊢;rcases List.mem_cons.1 hy with rfl | hy
   ·exact hc
   ·have:=(List.pairwise_cons.1 hso.sorted).1 y hy;rw [zeL (by rw [hso.side z (by simp)];decide)] at this;omega
 ·have hs1:¬ o.side=1:=by omega
  have e:zap b o.side=b.bids:=by unfold zap;rw [if_neg hs1]
  rw [e] at hc ⊢;intro y hy;have hso:=h.bids;cases hb:b.bids with
  | nil=>rw [hb] at hy;cases hy
  | cons z l =>
   rw [hb] at hc hy hso;simp only [zej,zbc] at hc;rw [if_neg hs1] at hc;unfold zbc;rw [if_neg hs1];simp only [decide_eq_false_iff_not] at hc ⊢;rcases List.mem_cons.1 hy with rfl | hy
   ·exact hc
   ·have:=(List.pairwise_cons.1 hso.sorted).1 y hy;rw [ze8 (hso.side z (by simp))] at this;omega
theorem zpK {b:Bk} {o:Od} (h:BookOk b) (ho:zax o=0) (hi:hasB b o.id=false) (hl:b.bids.length + b.asks.length < 40) (hc:∀ y ∈ zap b o.side,zbc o y.price=false) :
  zbJ b o=(zbI b o.side (insO o (zcn b o.side)),0)∧BookOk (zbI b o.side (insO o (zcn b o.side))):=by
 obtain ⟨hi1,hi2⟩:=zro.1 hi;have hs:=(zaP.1 ho).2.2.1;constructor
 ·unfold zbJ;rw [if_neg (by rw [zb6.2 h];simp),if_neg (by rw [hi];simp),if_neg (by rw [ho];simp),if_neg (by omega),if_neg ?_];rw [Bool.not_eq_true];cases hh:zap b o.side with
  | nil=>rfl
  | cons z l=>rw [hh] at hc;exact hc z (by simp)
 ·have hf:=zi9 h;rcases hs with hs | hs
  ·have e1:zcn b o.side=b.bids:=by unfold zcn;rw [if_pos hs]
   have e2:∀ l,zbI b o.side l = { b with bids:=l }:=by intro l;unfold zbI;rw [if_pos hs]
   have e3:zap b o.side=b.asks:=by unfold zap;rw [if_pos hs]
   rw [e1,e2];rw [e3] at hc;refine ⟨by simp only [zgY];omega,ziJ h.bids ho hs hi1,h.asks,?_,zhd ?_⟩
   ·intro x hx y hy;rcases zdM.1 hx with rfl | hx
    ·exact fun e=>hi2 y hy e.symm
    ·exact h.apart x hx y hy
   ·intro x hx y hy;rcases zdM.1 hx with rfl | hx
    ·have:=hc y hy;unfold zbc at this;rw [if_pos hs] at this;simp only [decide_eq_false_iff_not] at this;omega
    ·exact hf x hx y hy
  ·have hs1:¬ o.side=1:=by omega
   have e1:zcn b o.side=b.asks:=by unfold zcn;rw [if_neg hs1]
   have e2:∀ l,zbI b o.side l = { b with asks:=l }:=by intro l;unfold zbI;rw [if_neg hs1]
   have e3:zap b o.side=b.bids:=by unfold zap;rw [if_neg hs1]
   rw [e1,e2];rw [e3] at hc;refine ⟨by simp only [zgY];omega,h.bids,ziJ h.asks ho hs hi2,?_,zhd ?_⟩
   ·intro x hx y hy;rcases zdM.1 hy with rfl | hy
    ·exact hi1 x hx
    ·exact h.apart x hx y hy
   ·intro x hx y hy;rcases zdM.1 hy with rfl | hy
    ·have:=hc x hx;unfold zbc at this;rw [if_neg hs1] at this;simp only [decide_eq_false_iff_not] at this;omega
    ·exact hf x hx y hy
theorem ziw {b:Bk} (h:BookOk b) {o:Od} (ho:o ∈ b.bids ++ b.asks):o ∈ zcn b o.side∧zax o=0:=by
 rcases List.mem_append.1 ho with ho | ho
 ·have hs:=h.bids.side o ho;unfold zcn;rw [if_pos hs];exact ⟨ho,h.bids.ok o ho⟩
 ·have hs:=h.asks.side o ho;unfold zcn;rw [if_neg (by omega)];exact ⟨ho,h.asks.ok o ho⟩
theorem zud (b:Bk) (s:Int) (l m:List Od):zbI (zbI b s l) s m=zbI b s m:=by
 unfold zbI;by_cases h:s=1
 ·simp [h]
 ·simp [h]
theorem znO {b:Bk} {s:Int} {o:Od} (ho:o ∈ zcn b s):o ∈ b.bids ++ b.asks:=by
 unfold zcn at ho;split at ho
 ·exact List.mem_append.2 (.inl ho)
 ·exact List.mem_append.2 (.inr ho)
theorem zkR {b x:Bk} {id:Int} {o:Od} (h:zbk b id=(x,o,0)):BookOk b∧o ∈ b.bids ++ b.asks∧o.id=id∧x=zbI b o.side (delO o.id (zcn b o.side)):=by
 unfold zbk at h;split at h
 ·rename_i h1;injection h with _ h;injection h with _ h2;exact absurd h2 h1
 rename_i h1;injection h with h2 h;injection h with h3 _;unfold zec at h1 h2 h3;split at h1
 ·rename_i h4;simp at h1;exact absurd h1 h4
 rename_i h4;have hb:=zb6.1 (show zav b=0 by omega);rw [if_neg h4] at h2 h3;cases hf:zfn (b.bids ++ b.asks) id with
 | none=>rw [hf] at h1;simp at h1
 | some z =>
  rw [hf] at h2 h3;simp only at h2 h3;subst h3;obtain ⟨k1,k2⟩:=zjx hf;exact ⟨hb,k1,k2,by rw [← h2,k2]⟩
theorem zjb {b:Bk} (h:BookOk b) {l m:List Od} (hl:l.Sublist b.bids) (hm:m.Sublist b.asks):BookOk ⟨l,m⟩:=by
 refine ⟨?_,zd5 h.bids hl,zd5 h.asks hm,fun x hx y hy=>h.apart x (hl.subset hx) y (hm.subset hy),zhd fun x hx y hy=>zi9 h x (hl.subset hx) y (hm.subset hy)⟩;have:=h.len;have:=hl.length_le;have:=hm.length_le;simp only;omega
theorem zrs {b:Bk} (h:BookOk b) (s id:Int):BookOk (zbI b s (delO id (zcn b s))):=by
 unfold zbI zcn;split
 ·exact zjb h List.filter_sublist (List.Sublist.refl _)
 ·exact zjb h (List.Sublist.refl _) List.filter_sublist
end
section
structure Fl where
 maker:Int
 taker:Int
 macc:Int
 tacc:Int
 side:Int
 price:Int
 qty:Int
theorem Fl.ext' {a b:Fl} (h1:a.maker=b.maker) (h2:a.taker=b.taker) (h3:a.macc=b.macc) (h4:a.tacc=b.tacc) (h5:a.side=b.side) (h6:a.price=b.price) (h7:a.qty=b.qty):a=b:=by
 obtain ⟨a1,a2,a3,a4,a5,a6,a7⟩:=a;obtain ⟨b1,b2,b3,b4,b5,b6,b7⟩:=b;simp only at h1 h2 h3 h4 h5 h6 h7;subst h1 h2 h3 h4 h5 h6 h7;rfl
def zbw (o x:Od) (n:Int):Fl:=⟨x.id,o.id,x.acc,o.acc,o.side,x.price,n⟩
def zan (o:Od):Int→List Od→List Od × List Fl × Int × Bool
 | left,[]=>([],[],left,false)
 | left,x :: l=>if left ≤ 0 then (x :: l,[],left,false) else if zbc o x.price=false then (x :: l,[],left,false) else if x.acc=o.acc then (x :: l,[],left,true)
  else if left < x.qty then ({ x with qty:=x.qty - left } :: l,[zbw o x left],0,false)
  else ((zan o (left - x.qty) l).1,zbw o x x.qty :: (zan o (left - x.qty) l).2.1,(zan o (left - x.qty) l).2.2)
def za1 (b:Bk) (o:Od):Bk × List Fl × Int × Bool × Int :=
 if zav b ≠ 0 then (zaH,[],0,false,zav b) else if zax o ≠ 0 then (zaH,[],0,false,zax o)
 else (zcl b o.side (zan o o.qty (zap b o.side)).1,(zan o o.qty (zap b o.side)).2.1,(zan o o.qty (zap b o.side)).2.2.1,(zan o o.qty (zap b o.side)).2.2.2,0)
def zcs (b:Bk) (o:Od) (how:Int):Bk × List Fl × Int × Int :=
 if zav b ≠ 0 then (zaH,[],0,zav b) else if hasB b o.id then (zaH,[],0,6) else if how < 1∨4 < how then (zaH,[],0,4)
 else if (za1 b o).2.2.2.2 ≠ 0 then (zaH,[],0,(za1 b o).2.2.2.2)
 else if how=4∧((za1 b o).2.1 ≠ []∨(za1 b o).2.2.2.1=true) then (zaH,[],0,9)
 else if (za1 b o).2.2.2.1 then (zaH,[],0,11)
 else if how=3∧0 < (za1 b o).2.2.1 then (zaH,[],0,10)
 else if (za1 b o).2.2.1=0∨how=2 then ((za1 b o).1,(za1 b o).2.1,(za1 b o).2.2.1,0)
 else if (zbJ (za1 b o).1 { o with qty:=(za1 b o).2.2.1 }).2 ≠ 0 then (zaH,[],0,(zbJ (za1 b o).1 { o with qty:=(za1 b o).2.2.1 }).2)
 else ((zbJ (za1 b o).1 { o with qty:=(za1 b o).2.2.1 }).1,(za1 b o).2.1,0,0)
def ze9 (x y:Od):Prop:=x.id=y.id∧x.acc=y.acc∧x.side=y.side∧x.price=y.price
theorem zpL {x x' y:Od} (h:ze9 x x'):zbm x y=zbm x' y∧zbm y x=zbm y x':=by
 obtain ⟨h1,h2,h3,h4⟩:=h;unfold zbm;rw [h1,h3,h4];exact ⟨rfl,rfl⟩
theorem zgi {s:Int} {o:Od}:∀ {l:List Od} {left:Int},SideOk s l→SideOk s (zan o left l).1∧(∀ y ∈ (zan o left l).1,∃ x ∈ l,ze9 x y∧y.qty ≤ x.qty)∧(zan o left l).1.length ≤ l.length
 | [],_,h=>⟨h,by simp [zan],by simp [zan]⟩
 | x :: l,left,h=>by
  have hid:∀ y ∈ x :: l,∃ z ∈ x :: l,ze9 z y∧y.qty ≤ z.qty:=fun y hy=>⟨y,hy,⟨rfl,rfl,rfl,rfl⟩,Int.le_refl _⟩;unfold zan;split
  ·exact ⟨h,hid,zl _⟩
  split
  ·exact ⟨h,hid,zl _⟩
  split
  ·exact ⟨h,hid,zl _⟩
  split
  ·rename_i h1 h2 h3 h4;have hx:=zaP.1 (h.ok x (by simp));refine ⟨⟨?_,?_,?_,?_⟩,?_,by simp⟩
   ·intro y hy;rcases List.mem_cons.1 hy with rfl | hy
    ·rw [zaP];simp only;omega
    ·exact h.ok y (by simp [hy])
   ·intro y hy;rcases List.mem_cons.1 hy with rfl | hy
    ·exact h.side x (by simp)
    ·exact h.side y (by simp [hy])
   ·obtain ⟨k1,k2⟩:=List.pairwise_cons.1 h.sorted;refine List.pairwise_cons.2 ⟨fun y hy=>?_,k2⟩;rw [← (zpL (x:=x) (y:=y) (by exact ⟨rfl,rfl,rfl,rfl⟩)).1];exact k1 y hy
   ·have:=h.ids;simpa using this
   ·intro y hy;rcases List.mem_cons.1 hy with rfl | hy
    ·exact ⟨x,by simp,⟨rfl,rfl,rfl,rfl⟩,by simp only;omega⟩
    ·exact hid y (by simp [hy])
  ·obtain ⟨k1,k2,k3⟩:=zgi (o:=o) (l:=l) (left:=left - x.qty) (zd5 h (List.sublist_cons_self x l));refine ⟨k1,fun y hy=>?_,by simp only [List.length_cons];omega⟩;obtain ⟨z,hz,hs⟩:=k2 y hy;exact ⟨z,by simp [hz],hs⟩
theorem zex {b:Bk} (h:BookOk b) (s:Int) (hs:s=1∨s = -1):SideOk (-s) (zap b s):=by
 unfold zap;rcases hs with hs | hs
 ·rw [if_pos hs,hs];exact h.asks
 ·rw [if_neg (by omega),hs];exact h.bids
theorem zkS {b:Bk} (h:BookOk b) (o:Od) (hs:o.side=1∨o.side = -1) (left:Int):BookOk (zcl b o.side (zan o left (zap b o.side)).1):=by
 obtain ⟨k1,k2,k3⟩:=zgi (o:=o) (left:=left) (zex h o.side hs);have hl:=h.len;have hf:=zi9 h;unfold zcl;unfold zap at k1 k2 k3 ⊢;rcases hs with hs | hs
 ·rw [if_pos hs] at k1 k2 k3 ⊢;rw [if_pos hs];rw [hs] at k1;refine ⟨by simp only;omega,h.bids,k1,fun x hx y hy=>?_,zhd fun x hx y hy=>?_⟩
  ·obtain ⟨z,hz,hzy,_⟩:=k2 y hy;rw [← hzy.1];exact h.apart x hx z hz
  ·obtain ⟨z,hz,hzy,_⟩:=k2 y hy;rw [← hzy.2.2.2];exact hf x hx z hz
 ·have hs1:¬ o.side=1:=by omega
  rw [if_neg hs1] at k1 k2 k3 ⊢;rw [if_neg hs1];rw [hs] at k1;refine ⟨by simp only;omega,k1,h.asks,fun x hx y hy=>?_,zhd fun x hx y hy=>?_⟩
  ·obtain ⟨z,hz,hzy,_⟩:=k2 x hx;rw [← hzy.1];exact h.apart z hz y hy
  ·obtain ⟨z,hz,hzy,_⟩:=k2 x hx;rw [← hzy.2.2.2];exact hf z hz y hy
theorem zfp {o:Od}:∀ {l:List Od} {left:Int},(∀ x ∈ l,1 ≤ x.qty)→0 ≤ left→0 ≤ (zan o left l).2.2.1∧(zan o left l).2.2.1 ≤ left
 | [],left,_,h=>by simp [zan,h]
 | x :: l,left,hq,h=>by
  unfold zan;split
  ·exact ⟨h,Int.le_refl _⟩
  split
  ·exact ⟨h,Int.le_refl _⟩
  split
  ·exact ⟨h,Int.le_refl _⟩
  split
  ·exact ⟨Int.le_refl _,h⟩
  ·have h1:=hq x (by simp);obtain ⟨k1,k2⟩:=zfp (o:=o) (l:=l) (left:=left - x.qty) (fun y hy=>hq y (by simp [hy])) (by omega);exact ⟨k1,by simp only;omega⟩
theorem zor {o:Od} (l:List Od):zan o 0 l=(l,[],0,false):=by
 cases l with
 | nil=>rfl
 | cons x l=>simp [zan]
end
section
open Go.RowKit
theorem Seen.made_at (w:World) (g:Nat) (hg:g=w.heap.size):Seen (w.alloc (.map #[] 0)) g 0 []:=by subst hg;exact Seen.made w
theorem zgH {w w1:World} {m B:Nat} (h:w.grownBy w1 (some m)) (hB:B ≤ w.heap.size) (hm:B ≤ m):Below B w w1 :=
 (Below.refl B w).grown h hB fun k hk=>by injection hk with hk;omega
theorem ziM {b:Bk} (h:b.bids.length=0∨b.asks.length=0):zeu b=false:=by
 obtain ⟨l,m⟩:=b;cases l with
 | nil=>rfl
 | cons x l =>
  cases m with
  | nil=>rfl
  | cons y m=>simp at h
theorem zos {b:Bk} {x y:Od} (hx:b.bids[0]?=some x) (hy:b.asks[0]?=some y):zeu b=decide (y.price ≤ x.price):=by
 obtain ⟨l,m⟩:=b;cases l with
 | nil=>simp at hx
 | cons x' l =>
  cases m with
  | nil=>simp at hy
  | cons y' m=>simp at hx hy;subst hx hy;rfl
set_option maxHeartbeats 2000000 in
theorem zdv (b:Bk) (A A':Option Addr) (c c':Nat) (B:Nat) (w:World) (h:Rd w B 5 A b.bids.length c (zaa b.bids)) (h':Rd w B 5 A' b.asks.length c' (zaa b.asks)) (hB:B ≤ w.heap.size) (hl:b.bids.length ≤ 4000000000000) (hl':b.asks.length ≤ 4000000000000) :
  Calls Tryz.prog 88 #[.agg #[.slice A b.bids.length c,.slice A' b.asks.length c']] w fun e w'=>e=.returned (.int .i64 (zav b))∧Below w.heap.size w w':=by
 have hmk:=zrp;by_cases h40:40 < b.bids.length + b.asks.length
 ·have HE:=zi (show zav b=2 by unfold zav;rw [if_pos h40]);have h41:(40:Int) < (b.bids.length:Int) + (b.asks.length:Int):=by omega
  clear h40;go_enter Tryz.func88,Tryz.ntmps88
  go_wp2_with fail
  go_ret;exact ⟨zay HE.out.symm,(Below.refl _ _).alloc (zl _) _⟩
 ·have HE:=zi (show zav b=if zbf 1 none [] b.bids ≠ 0 then zbf 1 none [] b.bids
   else if zbf (-1) none (b.bids.map Od.id).reverse b.asks ≠ 0 then zbf (-1) none (b.bids.map Od.id).reverse b.asks else if zeu b then 4 else 0 by
   unfold zav;rw [if_neg h40])
  have h41:(b.bids.length:Int) + (b.asks.length:Int) ≤ 40:=by omega
  have h42:b.bids.length + b.asks.length ≤ 40:=by omega
  obtain ⟨r1,hr1⟩:∃ r,zbf 1 none [] b.bids=r:=⟨_,rfl⟩;obtain ⟨r2,hr2⟩:∃ r,zbf (-1) none (b.bids.map Od.id).reverse b.asks=r:=⟨_,rfl⟩;rw [hr1,hr2] at HE;have HR1:=zi hr1;have HR2:=zi hr2;clear h40 hr1 hr2;go_enter Tryz.func88,Tryz.ntmps88
  go_wp2_with fail
  refine (zl5 _ _ _ b.bids 1 _ 0 [] _ _ ((h.alloc hB _).alloc (by simp;omega) _) (by omega) (Seen.made_at (w.alloc _) (w.heap.size + 1) (by simp)) (by omega) (by omega)).mono ?_;rw [HR1.out];rintro e w1 ⟨rfl,hg1,hs1⟩;have hb1:=zgH (B:=w.heap.size + 1) hg1 (by simp) (zl _);have hw1:w.heap.size + 1 < w1.heap.size:=by have:=hg1.size;simp at this;omega
  have h91:Below w.heap.size w w1:=(((Below.refl _ _).alloc (zl _) _).alloc (by simp) _).trans (hb1.mono (by omega));have B1:=((Blk.new w 83 #[.slice A b.bids.length c,.slice A' b.asks.length c']).alloc (.map #[] 0)).below hb1 (by omega);have HS1:=zi hs1;clear hg1 hs1 hb1;by_cases hr:r1=0
  ·subst hr;have HE2:=zi (HE.out.trans (if_neg (by simp)));obtain ⟨⟨b0,b1⟩,_⟩:=B1.c2;go_wp2_with fail
   refine (zl5 _ _ _ b.asks (-1) _ _ _ _ _ (h'.below (h91.mono hB)) (by omega) (HS1.out trivial) (by omega) (by omega)).mono ?_;rw [List.append_nil,HR2.out];rintro e w2 ⟨rfl,hg2,_⟩;have hb2:=zgH (B:=w.heap.size + 1) hg2 (by omega) (zl _);have hw2:w.heap.size + 1 < w2.heap.size:=by have:=hg2.size;omega
   have h92:Below w.heap.size w w2:=h91.trans (hb2.mono (by omega));have B2:=B1.below hb2 (by omega);have ra:=h.below (h92.mono hB);have rb:=h'.below (h92.mono hB);clear b0 b1 B1 hg2 hb2 HS1;by_cases hr':r2=0
   ·subst hr';have HE3:=zi (HE2.out.trans (if_neg (by simp)));obtain ⟨⟨b0,b1⟩,_⟩:=B2.c2;by_cases hn:b.bids.length=0
    ·have HE4:=zi (show zav b=0 by rw [HE3.out,ziM (.inl hn)];rfl);have d1:decide ((0:Int) < (b.bids.length:Int))=false:=decide_eq_false (by omega);have d2:decide (0 < b.bids.length)=false:=decide_eq_false (by omega);clear hn;go_wp2_with fail
     go_quiet (fail)
     go_wp2_with fail
     go_ret;exact ⟨zay HE4.out.symm,zac h92 _⟩
    ·have d1:decide ((0:Int) < (b.bids.length:Int))=true:=decide_eq_true (by omega);have d2:decide (0 < b.bids.length)=true:=decide_eq_true (by omega);by_cases hn':b.asks.length=0
     ·have HE4:=zi (show zav b=0 by rw [HE3.out,ziM (.inr hn')];rfl);have d3:decide ((0:Int) < (b.asks.length:Int))=false:=decide_eq_false (by omega);have d4:decide (0 < b.asks.length)=false:=decide_eq_false (by omega);clear hn hn';go_wp2_with fail
      go_quiet (fail)
      go_wp2_with fail
      go_ret;exact ⟨zay HE4.out.symm,zac h92 _⟩
     ·have d3:decide ((0:Int) < (b.asks.length:Int))=true:=decide_eq_true (by omega);have d4:decide (0 < b.asks.length)=true:=decide_eq_true (by omega);obtain ⟨g1,o1,x,rfl,hg1,hx,_,_,_,k3,_⟩:=zdU ra (i:=0) (by omega);obtain ⟨g2,o2,y,rfl,hg2,hy,_,_,_,m3,_⟩:=zdU rb (i:=0) (by omega);have HX:=zi (zos hx hy);rw [Nat.zero_mul,Nat.add_zero] at k3 m3;have e1:0 < b.bids.length:=by omega
      have e2:0 < b.asks.length:=by omega
      have e3:(0:Int) < (b.bids.length:Int):=by omega
      have e4:(0:Int) < (b.asks.length:Int):=by omega
      clear hx hy hn hn';by_cases hp:y.price ≤ x.price
      ·have HE4:=zi (show zav b=4 by rw [HE3.out,HX.out];simp [hp]);go_wp2_with fail
       go_quiet (fail)
       go_wp2_with fail
       go_ret;exact ⟨zay HE4.out.symm,zac h92 _⟩
      ·have HE4:=zi (show zav b=0 by rw [HE3.out,HX.out];simp [hp]);have hp':decide (y.price ≤ x.price)=false:=by simpa using hp
       have hp2:x.price < y.price:=by omega
       clear hp;go_wp2_with fail
       go_quiet (fail)
       go_wp2_with fail
       go_ret;exact ⟨zay HE4.out.symm,zac h92 _⟩
   ·have HE3:=zi (HE2.out.trans (if_pos hr'));have hr2:(r2 != 0)=true:=by simpa using hr'
    clear hr';go_wp2_with fail
    go_ret;exact ⟨zay HE3.out.symm,h92⟩
  ·have HE2:=zi (HE.out.trans (if_pos hr));have hr2:(r1 != 0)=true:=by simpa using hr
   clear hr;go_wp2_with fail
   go_ret;exact ⟨zay HE2.out.symm,h91⟩
end
section
theorem znP {b x:Bk} {o:Od} {how left:Int} {l:List Fl} (h:zcs b o how=(x,l,left,0)) :
  BookOk b∧zax o=0∧hasB b o.id=false∧(1 ≤ how∧how ≤ 4) ∧
  ∃ L rem,zan o o.qty (zap b o.side)=(L,l,rem,false)∧(how=4→l = [])∧(how=3→rem=0) ∧
   ((rem=0∨how=2)∧x=zcl b o.side L∧left=rem∨0 < rem∧(how ≠ 2)∧(how ≠ 3)∧left=0∧zbJ (zcl b o.side L) { o with qty:=rem }=(x,0)):=by
 unfold zcs at h;split at h
 ·rename_i h1;injection h with _ h;injection h with _ h;injection h with _ h;exact absurd h h1
 rename_i h1;have hb:=zb6.1 (show zav b=0 by omega);split at h
 ·injection h with _ h;injection h with _ h;injection h with _ h;omega
 rename_i h2;split at h
 ·injection h with _ h;injection h with _ h;injection h with _ h;omega
 rename_i h3;split at h
 ·rename_i h4;injection h with _ h;injection h with _ h;injection h with _ h;exact absurd h h4
 rename_i h4;have ho:zax o=0:=by
  by_cases ho:zax o=0
  ·exact ho
  ·unfold za1 at h4;rw [if_neg h1,if_pos ho] at h4;simp only at h4;exact absurd ho (by omega)
 obtain ⟨L,fl,rem,met,ht⟩:∃ L fl rem met,zan o o.qty (zap b o.side)=(L,fl,rem,met):=⟨_,_,_,_,rfl⟩;have hto:za1 b o=(zcl b o.side L,fl,rem,met,0):=by
  unfold za1;rw [if_neg h1,if_neg (by rw [ho];simp),ht]
 rw [hto] at h;simp only at h;have hso:=zex hb o.side (zaP.1 ho).2.2.1;have hq:∀ x ∈ zap b o.side,1 ≤ x.qty:=fun x hx=>(zaP.1 (hso.ok x hx)).2.2.2.2.1;have hrem:=zfp (o:=o) (left:=o.qty) hq (by have:=(zaP.1 ho).2.2.2.2;omega);rw [ht] at hrem;simp only at hrem;split at h
 ·injection h with _ h;injection h with _ h;injection h with _ h;omega
 rename_i h5;split at h
 ·injection h with _ h;injection h with _ h;injection h with _ h;omega
 rename_i h6;have hmet:met=false:=by simpa using h6
 split at h
 ·injection h with _ h;injection h with _ h;injection h with _ h;omega
 rename_i h7;have hl4:fl ≠ []→how ≠ 4:=fun hf h4=>h5 ⟨h4,.inl hf⟩;refine ⟨hb,ho,by simpa using h2,by omega,L,rem,?_,?_⟩
 ·split at h
  ·injection h with _ h;injection h with e _;rw [ht,e,hmet]
  ·split at h
   ·rename_i h9;injection h with _ h;injection h with _ h;injection h with _ h;exact absurd h h9
   ·injection h with _ h;injection h with e _;rw [ht,e,hmet]
 ·have hfl:fl=l:=by
   split at h
   ·injection h with _ h;injection h with e _
   ·split at h
    ·rename_i h9;injection h with _ h;injection h with _ h;injection h with _ h;exact absurd h h9
    ·injection h with _ h;injection h with e _
  subst hfl;refine ⟨fun h4=>by
   cases fl with
   | nil=>rfl
   | cons f fl=>exact absurd h4 (hl4 (by simp)),fun h3=>by
   by_cases hr:0 < rem
   ·exact absurd ⟨h3,hr⟩ h7
   ·omega,?_⟩
  split at h
  ·rename_i h8;injection h with e1 h;injection h with _ h;injection h with e2 _;exact .inl ⟨h8,e1.symm,e2.symm⟩
  ·rename_i h8;split at h
   ·rename_i h9;injection h with _ h;injection h with _ h;injection h with _ h;exact absurd h h9
   rename_i h9;injection h with e1 h;injection h with _ h;injection h with e2 _;exact .inr ⟨by omega,by omega,fun e=>h7 ⟨e,by omega⟩,e2.symm,Prod.ext e1 (by simpa using h9)⟩
end
section
def zc2:Ac:=⟨0,0,[]⟩
def zcT (fee:Int):Int:=max (min fee 1000000000001) (-1000000000001)
theorem zgZ (f:Int):f < -1000000000001∧-zcT f=1000000000001∨(-1000000000001 ≤ f∧f ≤ 1000000000001)∧-zcT f = -f∨1000000000001 < f∧-zcT f = -1000000000001:=by
 unfold zcT;omega
def zaZ (a:Ac) (m q p f:Int):Ac × Int :=
 if zaj a.id a.bal a.pos a.pos.length ≠ 0 then (zc2,zaj a.id a.bal a.pos a.pos.length)
 else if m < 0∨(a.pos.length:Int) ≤ m then (zc2,5)
 else if (zaC q p).2 ≠ 0 then (zc2,(zaC q p).2)
 else if (zaB [a.bal,-(zaC q p).1,-zcT f]).2 ≠ 0 then (zc2,(zaB [a.bal,-(zaC q p).1,-zcT f]).2)
 else if a.pos.getD m.toNat 0 + q < -1000∨1000 < a.pos.getD m.toNat 0 + q then (zc2,7)
 else ({ a with bal:=(zaB [a.bal,-(zaC q p).1,-zcT f]).1,pos:=a.pos.set m.toNat (a.pos.getD m.toNat 0 + q) },0)
def zdB (q p:Int):Int × Int :=
 if (zaC q p).2 ≠ 0 then (0,(zaC q p).2) else zbY (max (zaC q p).1 (-(zaC q p).1)) 5 10000 true
def zct:List Int→List Int→List Int × Int
 | n :: l,k :: marks=>if (zaC n k).2 ≠ 0 then ([],(zaC n k).2) else if (zct l marks).2 ≠ 0 then ([],(zct l marks).2) else ((zaC n k).1 :: (zct l marks).1,0)
 | _,_=>([],0)
def zbv (a:Ac) (marks:List Int):Int × Int :=
 if zaj a.id a.bal a.pos marks.length ≠ 0 then (0,zaj a.id a.bal a.pos marks.length)
 else if (zct a.pos marks).2 ≠ 0 then (0,(zct a.pos marks).2) else zaB (a.bal :: (zct a.pos marks).1)
theorem zkT {a:Ac} {m q p f s es g:Int} (h0:zaj a.id a.bal a.pos a.pos.length=0) (h1:0 ≤ m∧m < (a.pos.length:Int)) (h2:zaC q p=(q * p,0)) (hg:-zcT f=g) (h3:zaB [a.bal,-(q * p),g]=(s,es)) :
  zaZ a m q p f=if es ≠ 0 then (zc2,es) else if a.pos.getD m.toNat 0 + q < -1000∨1000 < a.pos.getD m.toNat 0 + q then (zc2,7)
   else ({ a with bal:=s,pos:=a.pos.set m.toNat (a.pos.getD m.toNat 0 + q) },0):=by
 unfold zaZ;rw [if_neg (by rw [h0];simp),if_neg (by omega),h2];simp only;rw [if_neg (by simp),hg,h3]
def zfq (a:Ac) (marks done:List Int) (j:Nat):Int × Int :=
 if (zct (a.pos.drop j) (marks.drop j)).2 ≠ 0 then (0,(zct (a.pos.drop j) (marks.drop j)).2) else zaB (a.bal :: (done ++ (zct (a.pos.drop j) (marks.drop j)).1))
theorem zl7 {a:Ac} {marks:List Int} (h:zaj a.id a.bal a.pos marks.length=0):zfq a marks [] 0=zbv a marks:=by
 unfold zbv;rw [if_neg (by rw [h];simp)];rfl
theorem ziN {l marks:List Int} {j:Nat} {z k:Int} (hz:l[j]?=some z) (hk:marks[j]?=some k) :
  zct (l.drop j) (marks.drop j)=if (zaC z k).2 ≠ 0 then ([],(zaC z k).2) else if (zct (l.drop (j + 1)) (marks.drop (j + 1))).2 ≠ 0 then ([],(zct (l.drop (j + 1)) (marks.drop (j + 1))).2) else ((zaC z k).1 :: (zct (l.drop (j + 1)) (marks.drop (j + 1))).1,0):=by
 obtain ⟨h1,h2⟩:=List.getElem?_eq_some_iff.1 hz;obtain ⟨h3,h4⟩:=List.getElem?_eq_some_iff.1 hk;rw [List.drop_eq_getElem_cons h1,List.drop_eq_getElem_cons h3,h2,h4];rfl
theorem zot {a:Ac} {marks done:List Int} {j:Nat} {z k:Int} (hz:a.pos[j]?=some z) (hk:marks[j]?=some k) (h:zaC z k=(0,3)):zfq a marks done j=(0,3):=by
 unfold zfq;rw [ziN hz hk,h];simp
theorem znd {a:Ac} {marks done:List Int} {j:Nat} {z k p:Int} (hz:a.pos[j]?=some z) (hk:marks[j]?=some k) (h:zaC z k=(p,0)):zfq a marks done j=zfq a marks (done ++ [p]) (j + 1):=by
 unfold zfq;rw [ziN hz hk,h];by_cases h1:(zct (a.pos.drop (j + 1)) (marks.drop (j + 1))).2=0
 ·simp [h1]
 ·simp [h1]
theorem zou {a:Ac} {marks done:List Int} {j:Nat} (h:a.pos.length ≤ j):zfq a marks done j=zaB (a.bal :: done):=by
 unfold zfq;rw [List.drop_eq_nil_of_le h];simp [zct]
end
end Go.Proofs.YtockodmbhnlheaaGreatDoor
