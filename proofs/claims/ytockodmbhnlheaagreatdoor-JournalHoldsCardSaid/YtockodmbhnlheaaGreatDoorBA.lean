import Derived.Test.YtockodmbhnlheaaGreatDoorAY
import Derived.Test.YtockodmbhnlheaaGreatDoorAX
namespace Go.Proofs.YtockodmbhnlheaaGreatDoor
section
open Go.RowKit
theorem OwnAc.put_bal {w:World} {base n c g i:Nat} {L:List Ac} {xs:List Value} {a:Ac} (h:OwnAc w base (some ⟨g,0,none⟩) n c L xs) (hi:L[i]?=some a) (b:Int) :
  OwnAc (w.setCell ⟨g,i * 3 + 1,none⟩ (.int .i64 b)) base (some ⟨g,0,none⟩) n c (L.set i { a with bal:=b }) (xs.set (i * 3 + 1) (.int .i64 b)):=by
 have hlen:=h.row.1;have hil:=(List.getElem?_eq_some_iff.1 hi).1;have hn:i < n:=by have:=h.len;omega
 have hk:∀ v n ys,w.ownsRow base 3 1 v n ys→(w.setCell ⟨g,i * 3 + 1,none⟩ (.int .i64 b)).ownsRow base 3 1 v n ys:=by
  intro v n ys hv;obtain ⟨g',cs,e1,_,hb⟩:=zdk h.row (by omega);injection e1 with e1;injection e1 with e1;subst e1;exact ((Kept.refl [78] _).set hb (by decide) _ _).own hv (by decide)
 refine ⟨zcp h.row _ _,by rw [List.length_set];exact h.len,fun j x hx=>?_⟩;by_cases e:j=i
 ·subst e;rw [List.getElem?_set_self hil] at hx;injection hx with hx;subst hx;obtain ⟨A2,c2,k1,k2,k3,k4,k5⟩:=h.cell j a hi;refine ⟨A2,c2,?_,?_,?_,hk _ _ _ k4,k5⟩
  ·rw [zab (by omega)];exact k1
  ·rw [List.getElem?_set_self (by omega)]
  ·rw [zab (by omega)];exact k3
 ·rw [zab (Ne.symm e)] at hx;obtain ⟨A2,c2,k1,k2,k3,k4,k5⟩:=h.cell j x hx;refine ⟨A2,c2,?_,?_,?_,hk _ _ _ k4,k5⟩
  ·rw [zab (by omega)];exact k1
  ·rw [zab (by omega)];exact k2
  ·rw [zab (by omega)];exact k3
theorem zrY {w Z:World} {base D c k g i:Nat} {ap:Bool} {d:Dk} {M:Option Addr} {vE:Value} {xs ys:List Value} {a:Ac} {b:Int} {cs:Array Value} (h:Desk w base D ap d (some ⟨g,0,none⟩) c M k vE xs ys) (hi:d.v.accs[i]?=some a)
  (hg:Blk w g 78 cs) (hZ:Z=w.setCell ⟨g,i * 3 + 1,none⟩ (.int .i64 b)) :
  ∃ xs',Desk Z base D ap ⟨zbK d.v i { a with bal:=b },d.ev⟩ (some ⟨g,0,none⟩) c M k vE xs' ys:=by
 have hK:Kept [78] w Z:=by rw [hZ];exact (Kept.refl _ _).set hg (by decide) _ _
 have hlen:(zbK d.v i { a with bal:=b }).accs.length=d.v.accs.length:=by simp [zbK]
 have hacc:=(h.accs.put_bal hi b).cast hlen.symm;rw [← hZ] at hacc;refine ⟨_,⟨?_,h.low,hacc,h.mks.kept hK (by decide) (by decide),hK.own h.evs (by decide)⟩⟩;show Blk Z D 113 #[.slice _ (zbK d.v i { a with bal:=b }).accs.length c,_,_,_,_,_,_,_];rw [hlen];exact h.blk.kept hK (by decide)
theorem zth {i:Nat} {n b e:Int} {d:Dk} {a:Ac} (ha:d.v.accs[i]?=some a) (h:zaB [a.bal,n]=(b,e)) :
  zc0 i n d=okIf e (.ok (tell ⟨zbK d.v i { a with bal:=b },d.ev⟩ ⟨5,0,0,0,a.id,n,zba⟩)):=by
 unfold zc0;rw [show zaR d.v i=a from zaY ha,h]
set_option maxHeartbeats 2000000 in
set_option maxRecDepth 100000 in
theorem ziB (base D:Nat) (ap:Bool) (d:Dk) (A:Option Addr) (c:Nat) (M:Option Addr) (k:Nat) (vE:Value) (xs ys:List Value) (i:Nat) (n:Int) (a:Ac) (w:World) (h:Desk w base D ap d A c M k vE xs ys) (hb:base ≤ w.heap.size)
  (ha:d.v.accs[i]?=some a) (hl:d.ev.length ≤ 1000000) :
  Calls Tryz.prog 94 #[.pointer (some ⟨D,0,none⟩),.int .i64 i,.int .i64 n] w (ze3 w base D ap A c M k [113,57] (D :: ab A) (zc0 i n d)):=by
 have HD:=zi h;have HI:=zi ha;obtain ⟨b,en,hn⟩:∃ b en,zaB [a.bal,n]=(b,en):=⟨_,_,rfl⟩;have HE:=zi (zth ha hn);have HN:=zi hn;have hDl:=h.lt;obtain ⟨⟨k0,-⟩,-⟩:=h.blk.c8;obtain ⟨g,A2,c2,rfl,hg1,hg2,hin,⟨cs,hgB⟩,⟨q0,q1,q2⟩,⟨r0,r1,r2⟩,-,-⟩:=zeE h.accs ha;have HG:=zi hgB;have hi0:(0:Int) ≤ (i:Int):=by omega
 have hi1:(i:Int) < (d.v.accs.length:Int):=by omega
 clear h hn ha hgB;go_enter Tryz.func94,Tryz.ntmps94
 go_wp2_with fail
 refine (zdX _ _ _ [a.bal,n] _ _ (Rd.new w _ _ 2 rfl (by decide))).mono ?_;rintro e w' ⟨rfl,rfl⟩;rw [HN.out];by_cases he:en=0
 rotate_left
 ·have he':(en != 0)=true:=by simpa using he
  have HEE:=zi (show zc0 i n d=.error en by rw [HE.out];unfold okIf;rw [if_pos he]);have HNE:=zi he;clear he;go_wp2_with fail
  go_ret;exact zaM HEE.out HNE.out ((Below.refl _ _).alloc hb _)
 ·subst he;go_wp2_with fail
  refine zak ?_;intro Z hZ;obtain ⟨xs2,hd1⟩:=zrY HD.out HI.out HG.out (b:=b) rfl;have hd2:=hd1.below ((Below.refl _ _).alloc (zl _) (Obj.cells #[.int .i64 a.bal,.int .i64 n] 3));rw [← hZ] at hd2;have hLZ:Below base w Z:=by rw [hZ];exact ((Below.refl _ _).setCell hg1 _).alloc (by rw [zbB];exact hb) _
  have hFZ:Fr [113,57] (D :: ab (some ⟨g,0,none⟩)) w Z:=by rw [hZ];exact ((Fr.refl _ _ _).set HG.out (.inr (by simp [ab])) _ _).alloc _
  have HDZ:=zi hd2;have hbZ:base ≤ Z.heap.size:=Nat.le_trans hb hFZ.size;clear hd1 hd2 hZ k0 q0 q1 q2 r0 r1 r2;refine (zeo base D ap _ _ c M k vE xs2 ys ⟨5,0,0,0,a.id,n,zba⟩ Z HDZ.out hbZ hl).mono ?_;rintro e W ⟨rfl,⟨vE',hd'⟩,hLW,hKW⟩;have HDW:=zi hd';clear hd';go_wp2_with fail
  go_ret;exact zd8 HE.out HDW.out (hLZ.trans hLW) (hFZ.trans (hKW.fr _))
end
section
open Go.RowKit
theorem zdK {w:World} {base m k:Nat} {ap:Bool} {M:Option Addr} {L:List Mk} {xs:List Value} (h:OwnMk w base ap M m k L xs) {i:Nat} {a:Mk} (hi:L[i]?=some a) :
  ∃ g A2 c2 A3 c3,M=some ⟨g,0,none⟩∧base ≤ g∧g < w.heap.size∧i < m∧(∃ cs,Blk w g 85 cs) ∧
   (w.cell? ⟨g,i * 4,none⟩=some (.slice A2 a.book.bids.length c2)∧w.cell? ⟨g,i * 4 + 1,none⟩=some (.slice A3 a.book.asks.length c3)∧w.cell? ⟨g,i * 4 + 2,none⟩=some (.int .i64 a.index)∧w.cell? ⟨g,i * 4 + 3,none⟩=some (.int .i64 a.last)) ∧
   (w.frozen? ⟨g,i * 4,none⟩=false∧w.frozen? ⟨g,i * 4 + 1,none⟩=false∧w.frozen? ⟨g,i * 4 + 2,none⟩=false∧w.frozen? ⟨g,i * 4 + 3,none⟩=false) ∧
   OBk w base A2 A3 c2 c3 a.book∧a.book.bids.length ≤ 4000000000000∧a.book.asks.length ≤ 4000000000000∧xs[i * 4]?=some (.slice A2 a.book.bids.length c2)∧xs[i * 4 + 1]?=some (.slice A3 a.book.asks.length c3):=by
 have hl:=h.len;have hin:i < m:=by have:=(List.getElem?_eq_some_iff.1 hi).1;omega
 obtain ⟨A2,c2,A3,c3,k0,k1,k2,k3,k4,k5,k6⟩:=h.cell i a hi;obtain ⟨g,cs,rfl,hb,hg⟩:=zdk h.row (by omega);have hr:=Rd.of_own h.row;obtain ⟨b,o,e,_,hc⟩:=hr.at_ (by omega);injection e with e;injection e with e1 e2;subst e1;subst e2;have c0:=hc _ _ k0;have c1:=hc _ _ k1;have c2':=hc _ _ k2;have c3':=hc _ _ k3;rw [Nat.zero_add] at c0;rw [Nat.zero_add] at c1;rw [Nat.zero_add] at c2';rw [Nat.zero_add] at c3';exact ⟨g,A2,c2,A3,c3,rfl,hb,hg.lt,hin,⟨cs,hg⟩,⟨c0,c1,c2',c3'⟩,⟨hg.frozen _,hg.frozen _,hg.frozen _,hg.frozen _⟩,k4,k5,k6,k0,k1⟩
theorem OwnMk.cast {w:World} {base m n k:Nat} {ap:Bool} {M:Option Addr} {L:List Mk} {xs:List Value} (h:OwnMk w base ap M m k L xs) (e:m=n):OwnMk w base ap M n k L xs:=by subst e;exact h
theorem OwnMk.drew1 {w:World} {base m k:Nat} {ap:Bool} {M:Option Addr} {L:List Mk} {xs:List Value} (h:OwnMk w base ap M m k L xs):OwnMk w.drew base ap M m k L xs:=h.mono (zaz h.row 1) fun _ _ _ hr=>zaz hr 1
theorem zqA {xs:List Value} {i s:Nat} {u:Value} (h:zgQ xs) (hs:2 ≤ s) (hs4:s < 4):zgQ (xs.set (i * 4 + s) u):=by
 intro a s1 b t1 x y g h1 h2 hx hy hgx hgy;rw [zab (by omega)] at hx;rw [zab (by omega)] at hy;exact h a s1 b t1 x y g h1 h2 hx hy hgx hgy
theorem OwnMk.put_num {w:World} {base m k g i s:Nat} {ap:Bool} {L:List Mk} {xs:List Value} {a a':Mk} {n:Int} (h:OwnMk w base ap (some ⟨g,0,none⟩) m k L xs) (hi:L[i]?=some a) (hb:a'.book=a.book)
  (hs:s=2∧a'.index=n∧a'.last=a.last∨s=3∧a'.last=n∧a'.index=a.index) :
  OwnMk (w.setCell ⟨g,i * 4 + s,none⟩ (.int .i64 n)) base ap (some ⟨g,0,none⟩) m k (L.set i a') (xs.set (i * 4 + s) (.int .i64 n)):=by
 have hlen:=h.row.1;have hil:=(List.getElem?_eq_some_iff.1 hi).1;have hn:i < m:=by have:=h.len;omega
 have hs4:2 ≤ s∧s < 4:=by omega
 have hk:∀ v n' ys,w.ownsRow base 32 5 v n' ys→(w.setCell ⟨g,i * 4 + s,none⟩ (.int .i64 n)).ownsRow base 32 5 v n' ys:=by
  intro v n' ys hv;obtain ⟨g',cs,e1,_,hb⟩:=zdk h.row (by omega);injection e1 with e1;injection e1 with e1;subst e1;exact ((Kept.refl [85] _).set hb (by decide) _ _).own hv (by decide)
 refine ⟨zcp h.row _ _,by rw [List.length_set];exact h.len,fun j x hx=>?_,fun e=>zqA (h.apart e) hs4.1 hs4.2⟩;by_cases e:j=i
 ·subst e;rw [List.getElem?_set_self hil] at hx;injection hx with hx;subst hx;obtain ⟨A2,c2,A3,c3,k1,k2,k3,k4,k5,k6,k7⟩:=h.cell j a hi;refine ⟨A2,c2,A3,c3,?_,?_,?_,?_,⟨?_,?_⟩,?_,?_⟩
  ·rw [zab (by omega),hb];exact k1
  ·rw [zab (by omega),hb];exact k2
  ·rcases hs with ⟨rfl,e1,e2⟩ | ⟨rfl,e1,e2⟩
   ·rw [List.getElem?_set_self (by omega),e1]
   ·rw [zab (by omega),e2];exact k3
  ·rcases hs with ⟨rfl,e1,e2⟩ | ⟨rfl,e1,e2⟩
   ·rw [zab (by omega),e2];exact k4
   ·rw [List.getElem?_set_self (by omega),e1]
  ·rw [hb];exact hk _ _ _ k5.l
  ·rw [hb];exact hk _ _ _ k5.r
  ·rw [hb];exact k6
  ·rw [hb];exact k7
 ·rw [zab (Ne.symm e)] at hx;obtain ⟨A2,c2,A3,c3,k1,k2,k3,k4,k5,k6⟩:=h.cell j x hx;refine ⟨A2,c2,A3,c3,?_,?_,?_,?_,⟨hk _ _ _ k5.l,hk _ _ _ k5.r⟩,k6⟩
  ·rw [zab (by omega)];exact k1
  ·rw [zab (by omega)];exact k2
  ·rw [zab (by omega)];exact k3
  ·rw [zab (by omega)];exact k4
theorem zjl {w Z:World} {base D c k g i s:Nat} {ap:Bool} {d:Dk} {A:Option Addr} {vE:Value} {xs ys:List Value} {a a':Mk} {n:Int} {cs:Array Value} (h:Desk w base D ap d A c (some ⟨g,0,none⟩) k vE xs ys) (hi:d.v.mks[i]?=some a) (hb:a'.book=a.book)
  (hs:s=2∧a'.index=n∧a'.last=a.last∨s=3∧a'.last=n∧a'.index=a.index) (hg:Blk w g 85 cs) (hZ:Z=(w.setCell ⟨g,i * 4 + s,none⟩ (.int .i64 n)).drew∨Z=w.setCell ⟨g,i * 4 + s,none⟩ (.int .i64 n)) :
  ∃ ys',Desk Z base D ap ⟨zaD d.v i a',d.ev⟩ A c (some ⟨g,0,none⟩) k vE xs ys':=by
 have hlen:(zaD d.v i a').mks.length=d.v.mks.length:=by simp [zaD]
 have hmk:=(h.mks.put_num hi hb hs).cast hlen.symm;rcases hZ with hZ | hZ
 ·have hK:Kept [85] w Z:=by rw [hZ];exact ((Kept.refl _ _).set hg (by decide) _ _).drew
  have hm2:=hmk.drew1;rw [← hZ] at hm2;refine ⟨_,⟨?_,h.low,h.accs.kept hK (by decide) (by decide),hm2,hK.own h.evs (by decide)⟩⟩;show Blk Z D 113 #[_,.slice _ (zaD d.v i a').mks.length k,_,_,_,_,_,_];rw [hlen];exact h.blk.kept hK (by decide)
 ·have hK:Kept [85] w Z:=by rw [hZ];exact (Kept.refl _ _).set hg (by decide) _ _
  rw [← hZ] at hmk;refine ⟨_,⟨?_,h.low,h.accs.kept hK (by decide) (by decide),hmk,hK.own h.evs (by decide)⟩⟩;show Blk Z D 113 #[_,.slice _ (zaD d.v i a').mks.length k,_,_,_,_,_,_];rw [hlen];exact h.blk.kept hK (by decide)
theorem zmy {w:World} {base n c:Nat} {A:Option Addr} {L:List Ac} {xs:List Value} (h:OwnAc w base A n c L xs):∀ g ∈ ab A,(∃ cs,Blk w g 78 cs):=by
 intro g hg;obtain ⟨_,h1 | ⟨g',cap,cur,hv,_,hb,_⟩⟩:=h.row
 ·obtain ⟨h1,_⟩:=h1;injection h1 with h1;subst h1;simp [ab] at hg
 ·injection hv with hv;subst hv;simp only [ab,Option.map_some,Option.toList_some,List.mem_singleton] at hg;subst hg;exact ⟨_,hb⟩
theorem zo0 {w:World} {base n c:Nat} {ap:Bool} {A:Option Addr} {L:List Mk} {xs:List Value} (h:OwnMk w base ap A n c L xs):∀ g ∈ ab A,(∃ cs,Blk w g 85 cs):=by
 intro g hg;obtain ⟨_,h1 | ⟨g',cap,cur,hv,_,hb,_⟩⟩:=h.row
 ·obtain ⟨h1,_⟩:=h1;injection h1 with h1;subst h1;simp [ab] at hg
 ·injection hv with hv;subst hv;simp only [ab,Option.map_some,Option.toList_some,List.mem_singleton] at hg;subst hg;exact ⟨_,hb⟩
theorem zdr {w:World} {base base' D c k e sz n:Nat} {ap:Bool} {d:Dk} {A M:Option Addr} {vE v:Value} {xs ys zs:List Value} (h:Desk w base D ap d A c M k vE xs ys) (hv:w.ownsRow base' e sz v n zs)
  (h1:113 ≠ e) (h2:78 ≠ e) (h3:85 ≠ e):∀ g,v.ownBlock=some g→g ∉ D :: (ab A ++ ab M):=by
 intro g hg hm;rcases List.mem_cons.1 hm with rfl | hm
 ·exact zcA hv h.blk h1 hg
 rcases List.mem_append.1 hm with hm | hm
 ·obtain ⟨cs,hb⟩:=zmy h.accs g hm;exact zcA hv hb h2 hg
 ·obtain ⟨cs,hb⟩:=zo0 h.mks g hm;exact zcA hv hb h3 hg
theorem zbS {w:World} {base D c k g:Nat} {ap:Bool} {d:Dk} {A M:Option Addr} {vE:Value} {xs ys:List Value} {t:TypeId} {cs:Array Value} (h:Desk w base D ap d A c M k vE xs ys) (hb:Blk w g t cs)
  (h1:113 ≠ t) (h2:78 ≠ t) (h3:85 ≠ t):g ∉ D :: (ab A ++ ab M):=by
 intro hm;rcases List.mem_cons.1 hm with rfl | hm
 ·exact zd1 h.blk hb h1 rfl
 rcases List.mem_append.1 hm with hm | hm
 ·obtain ⟨cs,hc⟩:=zmy h.accs g hm;exact zd1 hc hb h2 rfl
 ·obtain ⟨cs,hc⟩:=zo0 h.mks g hm;exact zd1 hc hb h3 rfl
theorem zeF {D:Nat} {A M:Option Addr}:∀ g ∈ D :: ab A,g ∈ D :: (ab A ++ ab M):=by
 intro g hg;rcases List.mem_cons.1 hg with rfl | hg
 ·simp
 ·simp [hg]
end
section
open Go.RowKit
theorem zll {l:List Int} {n:Int} (A:Option Addr) (m c:Nat) (L:List Mk) (B:Nat) (w:World) (hr:zbG L=(l,n)) (h:RdL shMk w B A m c L) (hB:B ≤ w.heap.size) :
  Calls Tryz.prog 104 #[.slice A m c] w (zjj w (l,n)):=by rw [← hr];exact zqo A m c L B w h hB
theorem zlm {b g:Bool} {n:Int} (a:Ac) (A A':Option Addr) (c n' c':Nat) (marks:List Int) (B B':Nat) (w:World) (hr:zbF a marks=(b,g,n)) (h:Rd w B 1 A a.pos.length c (ints a.pos)) (hB:B ≤ w.heap.size) (h':Rd w B' 1 A' n' c' (ints marks)) (hB':B' ≤ w.heap.size) :
  Calls Tryz.prog 105 #[.agg #[.int .i64 a.id,.int .i64 a.bal,.slice A a.pos.length c],.slice A' n' c'] w fun e w'=>e=.returned (.tuple #[.bool b,.bool g,.int .i64 n])∧Below w.heap.size w w':=by
 have:=zpV a A A' c n' c' marks B B' w h hB h' hB';rw [hr] at this;exact this
set_option maxHeartbeats 2000000 in
theorem zmz (base D:Nat) (ap:Bool) (d:Dk) (A:Option Addr) (c:Nat) (M:Option Addr) (k:Nat) (vE:Value) (xs ys:List Value) (a:Ac) (A2:Option Addr) (c2 B:Nat) (w:World) (h:Desk w base D ap d A c M k vE xs ys)
  (ha:Rd w B 1 A2 a.pos.length c2 (ints a.pos)) (hB:B ≤ w.heap.size) :
  Calls Tryz.prog 95 #[.pointer (some ⟨D,0,none⟩),.agg #[.int .i64 a.id,.int .i64 a.bal,.slice A2 a.pos.length c2]] w fun e w'=>e=.returned (.int .i64 (zb9 d.v a))∧Below w.heap.size w w':=by
 have HD:=zi h;have hDl:=h.lt;obtain ⟨⟨-,k1,-⟩,-⟩:=h.blk.c8;obtain ⟨ms,em,hms⟩:∃ ms em,zbG d.v.mks=(ms,em):=⟨_,_,rfl⟩;have HM:=zi hms;clear h hms;go_enter Tryz.func95,Tryz.ntmps95
 go_wp2_with fail
 refine zak ?_;intro W1 hW1;have hB1:Below w.heap.size w W1:=by rw [hW1];exact (Below.refl _ _).alloc (zl _) _
 have X1:Blk W1 w.heap.size 78 #[.int .i64 a.id,.int .i64 a.bal,.slice A2 a.pos.length c2]:=by rw [hW1];exact Blk.new w _ _
 have HD1:=zi (HD.out.below hB1);have hs1:=hB1.size;clear hW1 k1;refine (zll _ _ _ _ _ W1 HM.out HD1.out.mks.read (zl _)).mono ?_;rintro e W2 ⟨Am,cm,rfl,hown,hb2⟩;have hs2:=hb2.size;have hB2:=hB1.trans (hb2.mono hs1);have X2:=X1.below hb2 X1.lt;have HO:=zi (Rd.of_own hown);have y1:=X2.lt;clear hown;by_cases he:em=0
 rotate_left
 ·have he':(em != 0)=true:=by simpa using he
  have HE:=zi (show zb9 d.v a=em by unfold zb9;rw [HM.out,if_pos he]);clear he;go_wp2_with fail
  go_ret;exact ⟨zay HE.out.symm,hB2⟩
 ·subst he;obtain ⟨b,g,es,hso⟩:∃ b g es,zbF a ms=(b,g,es):=⟨_,_,_,rfl⟩;have HE:=zi (show zb9 d.v a=if es=0∧b=false then 8 else es by unfold zb9;rw [HM.out,if_neg (by simp),hso]);have HS:=zi hso;clear hso;obtain ⟨⟨kX20,kX21,kX22⟩,-⟩:=X2.c3;go_wp2_with fail
  refine (zlm a A2 Am c2 ms.length cm ms B W2.heap.size W2 HS.out (ha.below (hB2.mono hB)) (by omega) HO.out (zl _)).mono ?_;rintro e W3 ⟨rfl,hb3⟩;have hB3:=hB2.trans (hb3.mono (by omega));clear kX20 kX21 kX22 X1 X2 hb3;by_cases h0:es=0
  ·subst h0;rcases zb5 b with rfl | rfl
   ·have HE2:=zi (HE.out.trans (if_neg (by simp)));go_wp2_with fail
    go_ret;exact ⟨zay HE2.out.symm,hB3⟩
   ·have HE2:=zi (HE.out.trans (if_pos ⟨rfl,rfl⟩));go_wp2_with fail
    go_ret;exact ⟨zay HE2.out.symm,hB3⟩
  ·have h0':(es == 0)=false:=by simpa using h0
   have HE2:=zi (HE.out.trans (if_neg (fun h=>h0 h.1)));clear h0;go_wp2_with fail
   go_ret;exact ⟨zay HE2.out.symm,hB3⟩
end
section
theorem zn7 {α:Type} (l:List α) (k:Nat) (x:α) (hk:k ≤ l.length) (i:Nat):(l.take k ++ x :: l.drop k)[i]?=if i < k then l[i]? else if i=k then some x else l[i - 1]?:=by
 have hl:(l.take k).length=k:=by rw [List.length_take];omega
 by_cases h1:i < k
 ·rw [if_pos h1,List.getElem?_append_left (by omega),List.getElem?_take,if_pos h1]
 ·rw [if_neg h1,List.getElem?_append_right (by omega),hl];by_cases h2:i=k
  ·subst h2;rw [if_pos rfl,Nat.sub_self];rfl
  ·rw [if_neg h2,show i - k=(i - k - 1) + 1 by omega,List.getElem?_cons_succ,List.getElem?_drop];congr 1;omega
theorem zj6 (L:List Ac) (k:Nat) (a:Ac) (hk:k ≤ L.length) (i:Nat):(zbZ L k a)[i]?=if i < k then L[i]? else if i=k then some a else L[i - 1]?:=zn7 L k a hk i
theorem zj7 (L:List Ac) (k:Nat) (a:Ac) (hk:k ≤ L.length):(zbZ L k a).length=L.length + 1:=by
 unfold zbZ;rw [List.length_append,List.length_cons,List.length_take,List.length_drop];omega
theorem zqB {c:Cm} {d:Dk} (h:c.n < 1∨1000000000000 < c.n):zcL c d=.error 3:=by unfold zcL;rw [if_pos h]
theorem zmA {c:Cm} {d:Dk} (h:¬ (c.n < 1∨1000000000000 < c.n)) (ha:c.acc < 0∨8 ≤ c.acc):zcL c d=.error 5:=by unfold zcL;rw [if_neg h,if_pos ha]
theorem zrZ {c:Cm} {d:Dk} {s e:Int} {i:Nat} (h:¬ (c.n < 1∨1000000000000 < c.n)) (ha:¬ (c.acc < 0∨8 ≤ c.acc)) (hk:c.kind=1) (hs:zaB [d.v.inn,c.n]=(s,e)) (hi:i=zam d.v.accs c.acc) :
  zcL c d=okIf e (zc0 i c.n ⟨{ d.v with accs:=if zas d.v.accs c.acc then d.v.accs else zbZ d.v.accs i ⟨c.acc,0,List.replicate d.v.mks.length 0⟩,inn:=s },d.ev⟩):=by
 unfold zcL;rw [if_neg h,if_neg ha,if_pos hk,hs,hi]
theorem zqC {c:Cm} {d:Dk} (h:¬ (c.n < 1∨1000000000000 < c.n)) (ha:¬ (c.acc < 0∨8 ≤ c.acc)) (hk:c.kind=2) (ht:zas d.v.accs c.acc=false):zcL c d=.error 5:=by
 unfold zcL;rw [if_neg h,if_neg ha,if_neg (by omega),if_pos ht]
theorem zr0 {c:Cm} {d:Dk} {s e:Int} {i:Nat} (h:¬ (c.n < 1∨1000000000000 < c.n)) (ha:¬ (c.acc < 0∨8 ≤ c.acc)) (hk:c.kind=2) (ht:zas d.v.accs c.acc=true) (hs:zaB [d.v.out,c.n]=(s,e)) (hi:i=zam d.v.accs c.acc) :
  zcL c d=okIf e (zby (zc0 i (-c.n) ⟨{ d.v with out:=s },d.ev⟩) fun d'=>okIf (zb9 d'.v (zaR d'.v i)) (.ok d')):=by
 unfold zcL;rw [if_neg h,if_neg ha,if_neg (by omega),if_neg (by rw [ht];simp),hs,hi]
theorem zti {i:Nat} {n:Int} {d d':Dk} {a:Ac} (ha:d.v.accs[i]?=some a) (h:zc0 i n d=.ok d'):∃ a',d'.v.accs[i]?=some a'∧a'.pos=a.pos:=by
 have hl:i < d.v.accs.length:=(List.getElem?_eq_some_iff.1 ha).1;have hac:zaR d.v i=a:=by unfold zaR;rw [List.getD_eq_getElem?_getD,ha];rfl
 unfold zc0 okIf at h;split at h
 ·cases h
 ·injection h with h;subst h;refine ⟨{ a with bal:=(zaB [a.bal,n]).1 },?_,rfl⟩;show (d.v.accs.set i _)[i]?=_;rw [hac,List.getElem?_set_self hl]
end
section
open Go.RowKit
theorem zr1 {p:Int→Bool} {L:List Int} {j:Nat} {x:Int} (hx:L[j]?=some x) (hp:p x=false) (hb:(L.take j).any p=false):(L.take (j + 1)).any p=false:=by
 rw [List.take_add_one,hx];simp only [Option.toList,List.any_append,hb,List.any_cons,List.any_nil,hp];rfl
theorem zqD {p:Int→Bool} {L:List Int} {j:Nat} {x:Int} (hx:L[j]?=some x) (hp:p x=true):L.any p=true:=by
 rw [List.any_eq_true];exact ⟨x,List.mem_of_getElem? hx,hp⟩
def nonz (x:Int):Bool:=!(x == 0)
theorem zr2 (b:Bool):b=true∨b=false:=by cases b <;> simp
set_option maxHeartbeats 400000 in
theorem zr3 (x:Int) (w:World):Calls Tryz.prog 49 #[.int .i64 x] w fun e w'=>e=.returned (.bool (nonz x))∧w=w':=by
 go_enter Tryz.func49,Tryz.ntmps49
 go_wp2_with fail
 go_ret;exact ⟨zbl (by unfold nonz;rfl),rfl⟩
set_option maxHeartbeats 1000000 in
theorem zr4 (A:Option Addr) (n c:Nat) (L:List Int) (B:Nat) (w:World) (h:Rd w B 1 A n c (ints L)) (_hB:B ≤ w.heap.size) :
  Calls Tryz.prog 65 #[.slice A n c,.func (.func 49) #[] #[]] w fun e w'=>(∃ j:Int,e=.returned (.int .i64 j)∧decide (0 ≤ j)=L.any nonz)∧w=w':=by
 have hle:=h.le;have hcap:=h.cap;have HL:=zi h.ofInts;unfold maxLen at hcap;go_enter Tryz.func65,Tryz.ntmps65
 go_wp2_with fail
 go_loopw [8] (fun i wr=>∃ j:Nat,j ≤ n∧i=.int .i64 j∧w=wr∧Hid ((L.take j).any nonz=false)) (fun i _=>n - (intOf i).toNat)
 case atStart=>exact ⟨0,Nat.zero_le _,rfl,rfl,rfl⟩
 case round =>
  obtain ⟨j,hj,rfl,rfl,HP⟩:=hrel;by_cases hlt:j < n
  ·obtain ⟨b,o',rfl,hb,x,hx,k0⟩:=h.int hlt;have HX:=zi hx;clear hx;go_wp2_with fail
   refine (zr3 _ _).mono ?_;rintro e w1 ⟨rfl,rfl⟩;rcases zr2 (nonz x) with hp | hp
   ·have HE:=zi (zqD HX.out hp);rw [hp];go_wp2_with fail
    go_ret;exact ⟨⟨_,rfl,by rw [HE.out];simp⟩,rfl⟩
   ·have HN:=zi (zr1 HX.out hp HP.out);rw [hp];go_wp2_with fail
    go_roundw
    case rel=>exact ⟨j + 1,by omega,by go_num,trivial,HN⟩
    case measure=>simp [intOf];omega
  ·have hjn:j=n:=by omega
   have HE:=zi (show L.any nonz=false by have:=HP.out;rw [hjn,List.take_of_length_le (by rw [HL.out];exact zl _)] at this;exact this);clear hjn;go_wp2_with fail
   go_ret;exact ⟨⟨_,rfl,by rw [HE.out];rfl⟩,rfl⟩
set_option maxHeartbeats 400000 in
theorem zlQ (A:Option Addr) (n c:Nat) (L:List Int) (B:Nat) (w:World) (h:Rd w B 1 A n c (ints L)) (hB:B ≤ w.heap.size) :
  Calls Tryz.prog 48 #[.slice A n c,.func (.func 49) #[] #[]] w fun e w'=>e=.returned (.bool (L.any nonz))∧w=w':=by
 go_enter Tryz.func48,Tryz.ntmps48
 go_wp2_with fail
 refine (zr4 A n c L B _ h hB).mono ?_;rintro e w1 ⟨⟨j,rfl,hj⟩,rfl⟩;have HJ:=zi hj;go_wp2_with fail
 go_ret;exact ⟨rfl,rfl⟩
end
section
def runP:List (List UInt8)→List Cm→List Cm × Int
 | [],l=>(l,0)
 | p :: r,l=>if (zaG p).2 ≠ 0 then ([],(zaG p).2) else if 60 < l.length + 1 then ([],2) else runP r (l ++ [(zaG p).1])
def zdu:List (List UInt8)→List Cm→List Cm × Int
 | [],l=>(l,0)
 | [p],l=>if p = [] then (l,0) else ([],13)
 | p :: q :: r,l=>if (zaG p).2 ≠ 0 then ([],(zaG p).2) else if 60 < l.length + 1 then ([],2) else zdu (q :: r) (l ++ [(zaG p).1])
def zb0 (s:List UInt8):List Cm × Int:=zdu (spl 10 s) []
def zn8 (s w:List UInt8):Int:=if 20000 < s.length∨20000 - (s.length:Int) < w.length then 2 else (zb0 s).2
structure Dsk where
 safe:List UInt8
 wait:List UInt8
def zcq:Dsk:=⟨[],[]⟩
def dErr (d:Dsk):Int:=zn8 d.safe d.wait
def putD (d:Dsk) (c:Cm):Dsk × Int :=
 if dErr d ≠ 0 then (zcq,dErr d) else if (zaI c).2 ≠ 0 then (zcq,(zaI c).2)
 else if 20000 < d.safe.length + d.wait.length + (zaI c).1.length + 1 then (zcq,7) else (⟨d.safe,d.wait ++ (zaI c).1 ++ [10]⟩,0)
def zgT (d:Dsk):Dsk × Int :=
 if dErr d ≠ 0 then (zcq,dErr d) else if dErr ⟨d.safe ++ d.wait,[]⟩ ≠ 0 then (zcq,dErr ⟨d.safe ++ d.wait,[]⟩) else (⟨d.safe ++ d.wait,[]⟩,0)
def zho (d:Dsk) (n:Int):Dsk × Int :=
 if dErr d ≠ 0 then (zcq,dErr d) else if n < 0∨(d.wait.length:Int) < n then (zcq,3) else (⟨d.safe,d.wait.take n.toNat⟩,0)
def recP:List (List UInt8)→List Cm→List UInt8→List Cm × List UInt8
 | [],l,s=>(l,s)
 | [_],l,s=>(l,s)
 | p :: q :: r,l,s=>if l.length < 60∧(zaG p).2=0 then recP (q :: r) (l ++ [(zaG p).1]) (s ++ p ++ [10]) else (l,s)
def zcW (d:Dsk):Dsk × List Cm × Int :=
 if dErr d ≠ 0 then (zcq,[],dErr d) else (⟨(recP (spl 10 d.wait) (zb0 d.safe).1 d.safe).2,[]⟩,(recP (spl 10 d.wait) (zb0 d.safe).1 d.safe).1,0)
theorem zln (p:List UInt8) (r:List (List UInt8)) (l:List Cm):runP (p :: r) l=if (zaG p).2 ≠ 0 then ([],(zaG p).2) else if 60 < l.length + 1 then ([],2) else runP r (l ++ [(zaG p).1]):=rfl
theorem zhR (p q:List UInt8) (r:List (List UInt8)) (l:List Cm):zdu (p :: q :: r) l=if (zaG p).2 ≠ 0 then ([],(zaG p).2) else if 60 < l.length + 1 then ([],2) else zdu (q :: r) (l ++ [(zaG p).1]):=rfl
theorem zlo:∀ (ps qs:List (List UInt8)) (l:List Cm),qs ≠ []→zdu (ps ++ qs) l=if (runP ps l).2 ≠ 0 then ([],(runP ps l).2) else zdu qs (runP ps l).1
 | [],qs,l,_=>by simp [runP]
 | p :: ps,qs,l,h=>by
  obtain ⟨q,r,e⟩:∃ q r,ps ++ qs=q :: r:=by
   cases hh:ps ++ qs with
   | nil=>exact absurd (List.append_eq_nil_iff.1 hh).2 h
   | cons a b=>exact ⟨a,b,rfl⟩
  have ih:=zlo ps qs (l ++ [(zaG p).1]) h;rw [e] at ih;rw [List.cons_append,e,zhR,zln];by_cases h1:(zaG p).2 ≠ 0
  ·rw [if_pos h1,if_pos h1,if_pos h1]
  ·rw [if_neg h1,if_neg h1];by_cases h2:60 < l.length + 1
   ·rw [if_pos h2,if_pos h2];rfl
   ·rw [if_neg h2,if_neg h2];exact ih
theorem zmB:∀ ps l,(runP ps l).2 ≠ 0→(runP ps l).1 = []
 | [],_,h=>absurd rfl h
 | p :: r,l,h=>by
  unfold runP at h ⊢;split
  ·rfl
  ·rename_i h1;rw [if_neg h1] at h;split
   ·rfl
   ·rename_i h2;rw [if_neg h2] at h;exact zmB _ _ h
theorem zny (ps:List (List UInt8)) (l:List Cm):zdu (ps ++ [[]]) l=runP ps l:=by
 rw [zlo ps [[]] l (by simp)];split
 ·rename_i h;rw [← zmB ps l h]
 ·rename_i h;have h0:(runP ps l).2=0:=by omega
  unfold zdu;rw [if_pos rfl,← h0]
theorem zmC {c:Cm} (h:(zaI c).2=0):za0 c=0∧(zaI c).1=Lib.join (zbP c) [32]:=by
 unfold zaI at h ⊢;by_cases h0:za0 c ≠ 0
 ·rw [if_pos h0] at h;exact absurd h h0
 ·rw [if_neg h0];exact ⟨by omega,rfl⟩
def zgr (a b:Dsk):Bool:=decide (a.safe=b.safe∧a.wait=b.wait)
theorem ztj {d:Dsk} {c:Cm} (h0:dErr d=0) (h1:(zaI c).2=0) (h2:d.safe.length + d.wait.length + (zaI c).1.length + 1 ≤ 20000):putD d c=(⟨d.safe,d.wait ++ (zaI c).1 ++ [10]⟩,0):=by
 unfold putD;rw [if_neg (by omega),if_neg (by omega),if_neg (by omega)]
theorem zr5 {d:Dsk} (h0:dErr d=0) (h1:dErr ⟨d.safe ++ d.wait,[]⟩=0):zgT d=(⟨d.safe ++ d.wait,[]⟩,0):=by
 unfold zgT;rw [if_neg (by omega),if_neg (by omega)]
theorem zfI {d:Dsk}:dErr d=0 ↔ d.safe.length + d.wait.length ≤ 20000∧(zb0 d.safe).2=0:=by
 unfold dErr zn8;split
 ·constructor
  ·intro h;cases h
  ·intro h;omega
 ·constructor
  ·intro h;exact ⟨by omega,h⟩
  ·intro h;exact h.2
end
end Go.Proofs.YtockodmbhnlheaaGreatDoor
