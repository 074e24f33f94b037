import Derived.Test.YtockodmbhnlheaaGreatDoorBZ
namespace Go.Proofs.YtockodmbhnlheaaGreatDoor
section
open Go.RowKit
theorem zsK {w:World} {B n c:Nat} {A:Option Addr} {L:List Ev} (h:Rd w B 13 A n c (za4 L)) {i:Nat} (hi:i < n):∃ b o a,A=some ⟨b,o,none⟩∧b < B∧L[i]?=some a∧∀ j u,[Value.int .i64 a.kind,.int .i64 a.err,.int .i64 a.market,.int .i64 a.id,.int .i64 a.acc,.int .i64 a.n,.int .i64 a.f.maker,.int .i64 a.f.taker,.int .i64 a.f.macc,.int .i64 a.f.tacc,.int .i64 a.f.side,.int .i64 a.f.price,.int .i64 a.f.qty][j]?=some u→w.cell? ⟨b,o + i * 13 + j,none⟩=some u:=by
 have hl:=h.len;rw [zg5] at hl;obtain ⟨b,o,rfl,hb,hc⟩:=h.at_ (by omega);have ha:L[i]?=some L[i]:=List.getElem?_eq_getElem (by omega);refine ⟨b,o,L[i],rfl,hb,ha,fun j u hj=>?_⟩;have key:∀ {L:List Ev} {i:Nat} {a:Ev},L[i]?=some a→∀ j u,[Value.int .i64 a.kind,.int .i64 a.err,.int .i64 a.market,.int .i64 a.id,.int .i64 a.acc,.int .i64 a.n,.int .i64 a.f.maker,.int .i64 a.f.taker,.int .i64 a.f.macc,.int .i64 a.f.tacc,.int .i64 a.f.side,.int .i64 a.f.price,.int .i64 a.f.qty][j]?=some u→(za4 L)[i * 13 + j]?=some u:=by
  intro L;induction L with
  | nil=>intro i a h;simp at h
  | cons x l ih =>
   intro i a h j u hj;cases i with
   | zero =>
    simp only [List.getElem?_cons_zero,Option.some.injEq] at h;subst h;have hj13:=(List.getElem?_eq_some_iff.1 hj).1;simp only [List.length_cons,List.length_nil] at hj13;rw [Nat.zero_mul,Nat.zero_add];have e:za4 (x :: l) = [Value.int .i64 x.kind,.int .i64 x.err,.int .i64 x.market,.int .i64 x.id,.int .i64 x.acc,.int .i64 x.n,.int .i64 x.f.maker,.int .i64 x.f.taker,.int .i64 x.f.macc,.int .i64 x.f.tacc,.int .i64 x.f.side,.int .i64 x.f.price,.int .i64 x.f.qty] ++ za4 l:=rfl;rw [e,List.getElem?_append_left (by simpa using hj13)];exact hj
   | succ i =>
    simp only [List.getElem?_cons_succ] at h;rw [show (i + 1) * 13 + j=(i * 13 + j) + 1 + 1 + 1 + 1 + 1 + 1 + 1 + 1 + 1 + 1 + 1 + 1 + 1 by omega];exact ih h j u hj
 rw [Nat.add_assoc];exact hc _ _ (key ha j u hj)
end
section
open Go.RowKit
theorem zoh {w:World} {B n c:Nat} {A:Option Addr} {L:List Ev} (h:Rd w B 13 A n c (za4 L)):L.length=n:=by
 have h1:=h.len;rw [zg5] at h1;omega
instance:DecidableEq Ev:=fun _ _=>decidable_of_iff _ zhS
def zdy (L M:List Ev):Bool:=decide (L=M)
theorem znK {L M:List Ev} (h:L.length ≠ M.length):zdy L M=false:=by
 unfold zdy;exact decide_eq_false fun e=>h (by rw [e])
theorem zpA {L M:List Ev} {j:Nat} {x y:Ev} (hx:L[j]?=some x) (hy:M[j]?=some y) (h:zfC x y=false):zdy L M=false:=by
 unfold zdy;refine decide_eq_false fun e=>?_;subst e;rw [hx] at hy;injection hy with hy;rw [zhS.2 hy] at h;cases h
theorem zpB {L M:List Ev} {j:Nat} {x y:Ev} (hx:L[j]?=some x) (hy:M[j]?=some y) (h:zfC x y=true) (ht:L.take j=M.take j):L.take (j + 1)=M.take (j + 1):=by
 rw [List.take_add_one,List.take_add_one,hx,hy,ht,zhS.1 h]
set_option maxHeartbeats 1000000 in
theorem zri (A A':Option Addr) (n c n' c':Nat) (L M:List Ev) (B:Nat) (w:World) (h:Rd w B 13 A n c (za4 L)) (h':Rd w B 13 A' n' c' (za4 M)) (hB:B ≤ w.heap.size) :
  Calls Tryz.prog 18 #[.slice A n c,.slice A' n' c'] w fun e w'=>e=.returned (.bool (zdy L M))∧Below w.heap.size w w':=by
 have hle:=h.le;have hcap:=h.cap;have hle':=h'.le;have hcap':=h'.cap;have HL:=zi (zoh h);have HM:=zi (zoh h');have q:=zo8;unfold maxLen at hcap hcap';by_cases hnn:n=n'
 ·subst hnn;go_enter Tryz.func18,Tryz.ntmps18
  go_wp2_with fail
  go_loopw [13] (fun i wr=>∃ j:Nat,j ≤ n∧i=.int .i64 j∧Below w.heap.size w wr∧Hid (L.take j=M.take j)) (fun i _=>n - (intOf i).toNat)
  case atStart=>exact ⟨0,Nat.zero_le _,rfl,Below.refl _ _,zi (by simp)⟩
  case round =>
   obtain ⟨j,hj,rfl,hbr,HP⟩:=hrel;have hws:=hbr.size;by_cases hlt:j < n
   ·obtain ⟨b,o,x,rfl,hb,hx,hce⟩:=zsK (h.below (hbr.mono hB)) hlt;have k0:=hce 0 _ rfl;have k1:=hce 1 _ rfl;have k2:=hce 2 _ rfl;have k3:=hce 3 _ rfl;have k4:=hce 4 _ rfl;have k5:=hce 5 _ rfl;have k6:=hce 6 _ rfl;have k7:=hce 7 _ rfl;have k8:=hce 8 _ rfl;have k9:=hce 9 _ rfl;have k10:=hce 10 _ rfl;have k11:=hce 11 _ rfl;have k12:=hce 12 _ rfl;obtain ⟨b',o',y,rfl,hb',hy,hcf⟩:=zsK (h'.below (hbr.mono hB)) hlt;have l0:=hcf 0 _ rfl;have l1:=hcf 1 _ rfl;have l2:=hcf 2 _ rfl;have l3:=hcf 3 _ rfl;have l4:=hcf 4 _ rfl;have l5:=hcf 5 _ rfl;have l6:=hcf 6 _ rfl;have l7:=hcf 7 _ rfl;have l8:=hcf 8 _ rfl;have l9:=hcf 9 _ rfl;have l10:=hcf 10 _ rfl;have l11:=hcf 11 _ rfl;have l12:=hcf 12 _ rfl;rw [Nat.add_zero] at k0 l0;have HX:=zi hx;have HY:=zi hy;clear hx hy hce hcf;go_wp2_with fail
    go_region
    rcases zcr (zfC x y) with hp | hp
    ·have HN:=zi (zpA HX.out HY.out hp);rw [hp];go_wp2_with fail
     go_ret;exact ⟨zbl HN.out.symm,(by first | exact zar hbr | exact zac hbr _)⟩
    ·have HN:=zi (zpB HX.out HY.out hp HP.out);rw [hp];go_wp2_with fail
     go_roundw
     case rel=>exact ⟨j + 1,by omega,by go_num,(by first | exact zar hbr | exact zac hbr _),HN⟩
     case measure=>simp [intOf];omega
   ·have hjn:j=n:=by omega
    have HE:=zi (show zdy L M=true by
     have:=HP.out;rw [hjn,List.take_of_length_le (by rw [HL.out];exact zl _),List.take_of_length_le (by rw [HM.out];exact zl _)] at this;exact decide_eq_true this)
    clear hjn;go_wp2_with fail
    go_ret;exact ⟨zbl HE.out.symm,hbr⟩
 ·have HE:=zi (znK (L:=L) (M:=M) (by rw [HL.out,HM.out];exact hnn));go_enter Tryz.func18,Tryz.ntmps18
  go_wp2_with fail
  go_ret;exact ⟨zbl HE.out.symm,Below.refl _ _⟩
end
section
open Go.RowKit
theorem zsL {w:World} {B n c:Nat} {A:Option Addr} {L:List (List Ev)} (h:RdL shEs w B A n c L) {i:Nat} (hi:i < n):∃ b o l,A=some ⟨b,o,none⟩∧b < B∧L[i]?=some l ∧
  ∃ A2 c2,w.cell? ⟨b,o + i,none⟩=some (.slice A2 l.length c2)∧Rd w B 13 A2 l.length c2 (za4 l):=by
 obtain ⟨b,o,l,h1,h2,h3,A2,c2,h4,h5⟩:=h.one hi;exact ⟨b,o,l,h1,h2,h3,A2,c2,by rw [← h4];show _=w.cell? ⟨b,o + i * 1,none⟩;rw [Nat.mul_one],h5⟩
set_option maxHeartbeats 1000000 in
theorem zpC (A A':Option Addr) (c c':Nat) (L M:List Ev) (B:Nat) (w:World) (h:Rd w B 13 A L.length c (za4 L)) (h':Rd w B 13 A' M.length c' (za4 M)) (hB:B ≤ w.heap.size) :
  Calls Tryz.prog 17 #[.slice A L.length c,.slice A' M.length c'] w fun e w'=>e=.returned (.bool (zdy L M))∧Below w.heap.size w w':=by
 go_enter Tryz.func17,Tryz.ntmps17
 go_wp2_with fail
 refine (zri A A' _ c _ c' L M B _ h h' hB).mono ?_;rintro e w1 ⟨rfl,hb1⟩;go_wp2_with fail
 go_ret;exact ⟨rfl,hb1⟩
def zes (L M:List (List Ev)):Bool:=zbp zdy L M
theorem znL {L M:List (List Ev)}:zes L M=true ↔ L=M:=zgP (fun a b=>by unfold zdy;simp)
set_option maxHeartbeats 1000000 in
theorem zrj (A A':Option Addr) (n n' c c':Nat) (L M:List (List Ev)) (B:Nat) (w:World) (h:RdL shEs w B A n c L) (h':RdL shEs w B A' n' c' M) (hB:B ≤ w.heap.size) :
  Calls Tryz.prog 16 #[.slice A n c,.slice A' n' c',.func (.func 17) #[] #[]] w fun e w'=>e=.returned (.bool (zes L M))∧Below w.heap.size w w':=by
 have hle:=h.le;have hcap:=h.cap;unfold maxLen at hcap;by_cases hn:n=n'
 ·subst hn;have HL:=zi h.len;have HL':=zi h'.len;go_enter Tryz.func16,Tryz.ntmps16
  go_wp2_with fail
  go_loopw [17] (fun i wr=>∃ (j:Nat),j ≤ n∧i=.int .i64 j∧Below w.heap.size w wr∧Hid (zes (L.drop j) (M.drop j)=zes L M)) (fun i _=>n - (intOf i).toNat)
  case atStart=>exact ⟨0,Nat.zero_le _,rfl,Below.refl _ _,rfl⟩
  case round =>
   obtain ⟨j,hj,rfl,hbr,HT⟩:=hrel;have hws:=hbr.size;by_cases hlt:j < n
   ·obtain ⟨b,o,a,rfl,hb,ha,A2,c2,k0,k1⟩:=zsL (h.below (hbr.mono hB)) hlt;obtain ⟨b',o',a',rfl,hb',ha',A2',c2',k0',k1'⟩:=zsL (h'.below (hbr.mono hB)) hlt;have HS:=zi (HT.out.symm.trans (zhO (f:=zdy) ha ha'));have x1:b < wr.heap.size:=by omega
    have x2:b' < wr.heap.size:=by omega
    have HK:=zi k1;have HK':=zi k1';clear ha ha' k1 k1';go_wp2_with fail
    refine (zpC A2 A2' c2 c2' a a' B wr HK.out HK'.out (by omega)).mono ?_;rintro e w2 ⟨rfl,hb2⟩;have hb3:Below w.heap.size w w2:=hbr.trans (hb2.mono hws);rcases zb5 (zdy a a') with m1 | m1;rotate_left
    ·have HE:=zi (show zes L M=false by rw [HS.out,m1];rfl);rw [m1];go_wp2_with fail
     go_ret;exact ⟨zci (by rw [HE.out]),hb3⟩
    ·have HE:=zi (show zes (L.drop (j + 1)) (M.drop (j + 1))=zes L M by rw [HS.out,m1];rfl);clear hb2;rw [m1];go_wp2_with fail
     go_roundw
     case rel=>exact ⟨j + 1,by omega,by go_num,hb3,HE⟩
     case measure=>simp [intOf];omega
   ·have hjn:j=n:=by omega
    have HE:=zi (show zes L M=true by
     have:=HT.out;rw [hjn,List.drop_eq_nil_of_le (by have:=HL.out;omega),List.drop_eq_nil_of_le (by have:=HL'.out;omega)] at this;rw [← this];rfl)
    clear hjn;go_wp2_with fail
    go_ret;exact ⟨zci (by rw [HE.out]),hbr⟩
 ·have HE:=zi (show zes L M=false from zgO (f:=zdy) (L:=L) (M:=M) (by rw [h.len,h'.len];exact hn));have hne:((n:Int) != (n':Int))=true:=by simp;omega
  go_enter Tryz.func16,Tryz.ntmps16
  go_wp2_with fail
  go_ret;exact ⟨zci (by rw [HE.out]),Below.refl _ _⟩
end
end Go.Proofs.YtockodmbhnlheaaGreatDoor
