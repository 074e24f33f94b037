import Derived.Test.YtockodmbhnlheaaGreatDoorAC
import Derived.IntWalk
import Derived.Test.YtockodmbhnlheaaGreatDoorAD
import Derived.Deep.RegionHeld3
import Derived.Deep.DeepCutAuto
namespace Go.Proofs.YtockodmbhnlheaaGreatDoor
section
open Go.RowKit
def zaa:List Od→List Value
 | []=>[]
 | o :: l=>.int .i64 o.id :: .int .i64 o.acc :: .int .i64 o.side :: .int .i64 o.price :: .int .i64 o.qty :: zaa l
theorem zao:∀ L,(zaa L).length=L.length * 5
 | []=>rfl
 | o :: l=>by simp only [zaa,List.length_cons,zao l];omega
theorem zek (M:List Od):∀ L,zaa (L ++ M)=zaa L ++ zaa M
 | []=>rfl
 | o :: l=>by simp only [List.cons_append,zaa,zek M l]
theorem zew:∀ (L:List Od) (k:Nat),(zaa L).take (k * 5)=zaa (L.take k)
 | [],k=>by simp [zaa]
 | o :: l,0=>by simp [zaa]
 | o :: l,k + 1=>by
  rw [show (k + 1) * 5=k * 5 + 1 + 1 + 1 + 1 + 1 by omega];simp only [zaa,List.take_succ_cons,zew l k]
theorem zgs:∀ (L:List Od) (k:Nat),(zaa L).drop (k * 5)=zaa (L.drop k)
 | [],k=>by simp [zaa]
 | o :: l,0=>by simp [zaa]
 | o :: l,k + 1=>by
  rw [show (k + 1) * 5=k * 5 + 1 + 1 + 1 + 1 + 1 by omega];simp only [zaa,List.drop_succ_cons,zgs l k]
theorem zgg:∀ {L:List Od} {i:Nat} {a:Od},L[i]?=some a →
  (zaa L)[i * 5]?=some (.int .i64 a.id)∧(zaa L)[i * 5 + 1]?=some (.int .i64 a.acc)∧(zaa L)[i * 5 + 2]?=some (.int .i64 a.side)∧(zaa L)[i * 5 + 3]?=some (.int .i64 a.price)∧(zaa L)[i * 5 + 4]?=some (.int .i64 a.qty)
 | [],_,_,h=>by simp at h
 | o :: l,0,a,h=>by
  simp only [List.getElem?_cons_zero,Option.some.injEq] at h;subst h;exact ⟨rfl,rfl,rfl,rfl,rfl⟩
 | o :: l,i + 1,a,h=>by
  simp only [List.getElem?_cons_succ] at h;obtain ⟨h0,h1,h2,h3,h4⟩:=zgg h;refine ⟨?_,?_,?_,?_,?_⟩
  ·rw [show (i + 1) * 5=i * 5 + 1 + 1 + 1 + 1 + 1 by omega];exact h0
  ·rw [show (i + 1) * 5 + 1=i * 5 + 1 + 1 + 1 + 1 + 1 + 1 by omega];exact h1
  ·rw [show (i + 1) * 5 + 2=i * 5 + 2 + 1 + 1 + 1 + 1 + 1 by omega];exact h2
  ·rw [show (i + 1) * 5 + 3=i * 5 + 3 + 1 + 1 + 1 + 1 + 1 by omega];exact h3
  ·rw [show (i + 1) * 5 + 4=i * 5 + 4 + 1 + 1 + 1 + 1 + 1 by omega];exact h4
theorem zbT:∀ (L:List Od),∀ u ∈ zaa L,u.oneCell'=true
 | []=>by simp [zaa]
 | o :: l=>by
  intro u hu;simp only [zaa,List.mem_cons] at hu;rcases hu with rfl | rfl | rfl | rfl | rfl | hu
  ·rfl
  ·rfl
  ·rfl
  ·rfl
  ·rfl
  ·exact zbT l u hu
section
variable {w:World} {B n c:Nat} {A:Option Addr} {L:List Od}
theorem zdW (h:Rd w B 5 A n c (zaa L)):L.length=n:=by have:=h.len;rw [zao] at this;omega
theorem zdU (h:Rd w B 5 A n c (zaa L)) {i:Nat} (hi:i < n):∃ b o a,A=some ⟨b,o,none⟩∧b < B∧L[i]?=some a ∧
  w.cell? ⟨b,o + i * 5,none⟩=some (.int .i64 a.id)∧w.cell? ⟨b,o + i * 5 + 1,none⟩=some (.int .i64 a.acc)∧w.cell? ⟨b,o + i * 5 + 2,none⟩=some (.int .i64 a.side) ∧
   w.cell? ⟨b,o + i * 5 + 3,none⟩=some (.int .i64 a.price)∧w.cell? ⟨b,o + i * 5 + 4,none⟩=some (.int .i64 a.qty):=by
 have hl:=zdW h;obtain ⟨b,o,e,hb,hc⟩:=h.at_ (by omega);have ha:L[i]?=some L[i]:=List.getElem?_eq_getElem (by omega);obtain ⟨h0,h1,h2,h3,h4⟩:=zgg ha;exact ⟨b,o,_,e,hb,ha,hc _ _ h0,by rw [Nat.add_assoc];exact hc _ _ h1,by rw [Nat.add_assoc];exact hc _ _ h2,by rw [Nat.add_assoc];exact hc _ _ h3,by rw [Nat.add_assoc];exact hc _ _ h4⟩
end
theorem zcS:Elem Tryz.prog 81 32 5 40:=zei Tryz.underlying81 (by kernel_rfl) (by decide)
theorem Blk.c5 {w:World} {g:Nat} {t:TypeId} {a b c d e:Value} (h:Blk w g t #[a,b,c,d,e]) :
  (w.cell? ⟨g,0,none⟩=some a∧w.cell? ⟨g,1,none⟩=some b∧w.cell? ⟨g,2,none⟩=some c∧w.cell? ⟨g,3,none⟩=some d∧w.cell? ⟨g,4,none⟩=some e) ∧
   w.frozen? ⟨g,0,none⟩=false∧w.frozen? ⟨g,1,none⟩=false∧w.frozen? ⟨g,2,none⟩=false∧w.frozen? ⟨g,3,none⟩=false∧w.frozen? ⟨g,4,none⟩=false :=
 ⟨⟨h.cell 0,h.cell 1,h.cell 2,h.cell 3,h.cell 4⟩,h.frozen 0,h.frozen 1,h.frozen 2,h.frozen 3,h.frozen 4⟩
theorem Blk.c2 {w:World} {g:Nat} {t:TypeId} {a b:Value} (h:Blk w g t #[a,b]) :
  (w.cell? ⟨g,0,none⟩=some a∧w.cell? ⟨g,1,none⟩=some b)∧w.frozen? ⟨g,0,none⟩=false∧w.frozen? ⟨g,1,none⟩=false :=
 ⟨⟨h.cell 0,h.cell 1⟩,h.frozen 0,h.frozen 1⟩
set_option maxHeartbeats 1000000 in
theorem zfo (o:Od) (w:World) :
  Calls Tryz.prog 96 #[.agg #[.int .i64 o.id,.int .i64 o.acc,.int .i64 o.side,.int .i64 o.price,.int .i64 o.qty]] w fun e w'=>e=.returned (.int .i64 (zax o))∧Below w.heap.size w w':=by
 by_cases h5:o.id < 1∨100000 < o.id∨o.acc < 0∨8 ≤ o.acc
 ·have HE:=zi (show zax o=5 by unfold zax;rw [if_pos h5]);have h0:o.id < 1∨1 ≤ o.id∧100000 < o.id∨1 ≤ o.id∧o.id ≤ 100000∧o.acc < 0∨1 ≤ o.id∧o.id ≤ 100000∧0 ≤ o.acc∧8 ≤ o.acc:=by omega
  clear h5;rcases h0 with h1 | ⟨h1,h2⟩ | ⟨h1,h2,h3⟩ | ⟨h1,h2,h3,h4⟩;all_goals
   go_enter Tryz.func96,Tryz.ntmps96
   go_wp2_with fail
   go_ret;exact ⟨zay HE.out.symm,(Below.refl _ _).alloc (zl _) _⟩
 ·obtain ⟨⟨h1,h2⟩,h3,h4⟩:(1 ≤ o.id∧o.id ≤ 100000)∧0 ≤ o.acc∧o.acc < 8:=by omega
  by_cases h6:o.side ≠ 1∧o.side ≠ -1
  ·have HE:=zi (show zax o=4 by unfold zax;rw [if_neg h5,if_pos h6]);obtain ⟨h7,h8⟩:=h6;have h7':(o.side != 1)=true:=by simpa using h7
   have h8':(o.side != -1)=true:=by simpa using h8
   clear h5 h7 h8;go_enter Tryz.func96,Tryz.ntmps96
   go_wp2_with fail
   go_ret;exact ⟨zay HE.out.symm,(Below.refl _ _).alloc (zl _) _⟩
  ·have hs:((o.side != 1)=false)∨((o.side != 1)=true∧(o.side != -1)=false):=by
    by_cases a1:o.side=1
    ·exact .inl (by simpa using a1)
    ·exact .inr ⟨by simpa using a1,by simp;omega⟩
   by_cases h9:o.price < 1∨10000 < o.price∨o.qty < 1∨1000 < o.qty
   ·have HE:=zi (show zax o=3 by unfold zax;rw [if_neg h5,if_neg h6,if_pos h9]);have h0:o.price < 1∨1 ≤ o.price∧10000 < o.price∨1 ≤ o.price∧o.price ≤ 10000∧o.qty < 1∨1 ≤ o.price∧o.price ≤ 10000∧1 ≤ o.qty∧1000 < o.qty:=by omega
    clear h5 h6 h9;rcases hs with hs | ⟨hs,hs'⟩;all_goals
     rcases h0 with g1 | ⟨g1,g2⟩ | ⟨g1,g2,g3⟩ | ⟨g1,g2,g3,g4⟩;all_goals
      go_enter Tryz.func96,Tryz.ntmps96
      go_wp2_with fail
      go_ret;exact ⟨zay HE.out.symm,(Below.refl _ _).alloc (zl _) _⟩
   ·have HE:=zi (show zax o=0 by unfold zax;rw [if_neg h5,if_neg h6,if_neg h9]);obtain ⟨g1,g2,g3,g4⟩:1 ≤ o.price∧o.price ≤ 10000∧1 ≤ o.qty∧o.qty ≤ 1000:=by omega
    clear h5 h6 h9;rcases hs with hs | ⟨hs,hs'⟩;all_goals
     go_enter Tryz.func96,Tryz.ntmps96
     go_wp2_with fail
     go_ret;exact ⟨zay HE.out.symm,(Below.refl _ _).alloc (zl _) _⟩
set_option maxHeartbeats 1000000 in
theorem zkO (a b:Od) (w:World) :
  Calls Tryz.prog 154 #[.agg #[.int .i64 a.id,.int .i64 a.acc,.int .i64 a.side,.int .i64 a.price,.int .i64 a.qty],.agg #[.int .i64 b.id,.int .i64 b.acc,.int .i64 b.side,.int .i64 b.price,.int .i64 b.qty]] w fun e w'=>e=.returned (.bool (zbm a b))∧Below w.heap.size w w':=by
 by_cases h:a.price=b.price
 ·have HE:=zi (show zbm a b=decide (a.id < b.id) by unfold zbm;rw [if_pos h]);have h':(a.price != b.price)=false:=by simpa using h
  clear h;go_enter Tryz.func154,Tryz.ntmps154
  go_wp2_with fail
  go_ret;exact ⟨zbl HE.out.symm,((Below.refl _ _).alloc (zl _) _).alloc (by simp) _⟩
 ·have h':(a.price != b.price)=true:=by simpa using h
  have HE:=zi (show zbm a b=(decide (b.price < a.price) == (a.side == 1)) by
   unfold zbm;rw [if_neg h];by_cases hs:a.side=1
   ·simp [hs]
   ·rw [if_neg hs];have hs':(a.side == 1)=false:=by simpa using hs
    rw [hs'];by_cases hp:b.price < a.price
    ·simp [hp];omega
    ·simp [hp];omega)
  clear h;go_enter Tryz.func154,Tryz.ntmps154
  go_wp2_with fail
  go_ret;exact ⟨zbl HE.out.symm,((Below.refl _ _).alloc (zl _) _).alloc (by simp) _⟩
set_option maxHeartbeats 1000000 in
theorem zca (o:Od) (p:Int) (w:World) :
  Calls Tryz.prog 158 #[.agg #[.int .i64 o.id,.int .i64 o.acc,.int .i64 o.side,.int .i64 o.price,.int .i64 o.qty],.int .i64 p] w fun e w'=>e=.returned (.bool (zbc o p))∧Below w.heap.size w w':=by
 by_cases h:o.side=1
 ·have HE:=zi (show zbc o p=decide (p ≤ o.price) by unfold zbc;rw [if_pos h]);have h':(o.side == 1)=true:=by simpa using h
  clear h;go_enter Tryz.func158,Tryz.ntmps158
  go_wp2_with fail
  go_ret;exact ⟨zbl HE.out.symm,(Below.refl _ _).alloc (zl _) _⟩
 ·have HE:=zi (show zbc o p=decide (o.price ≤ p) by unfold zbc;rw [if_neg h]);have h':(o.side == 1)=false:=by simpa using h
  clear h;go_enter Tryz.func158,Tryz.ntmps158
  go_wp2_with fail
  go_ret;exact ⟨zbl HE.out.symm,(Below.refl _ _).alloc (zl _) _⟩
end
section
open Go.RowKit
theorem zbV {w0 W W':World} (hb:Below W.heap.size W W') (h:Below w0.heap.size w0 W):Below w0.heap.size w0 W':=h.trans (hb.mono h.size)
theorem zar {w0 W:World} (h:Below w0.heap.size w0 W):Below w0.heap.size w0 W.drew:=zac h 1
def zdA (s:Int) (L:List Od) (seen:List Int) (j:Nat):Int:=zbf s (if j=0 then none else L[j - 1]?) (((L.take j).map Od.id).reverse ++ seen) (L.drop j)
theorem zna (s:Int) (L:List Od) (seen:List Int):zdA s L seen 0=zbf s none seen L:=by simp [zdA]
theorem znb {s:Int} {L:List Od} {seen:List Int} {j:Nat} {o:Od} (h:L[j]?=some o) :
  zdA s L seen j=if zax o ≠ 0 then zax o else if o.side ≠ s∨(∃ q ∈ (if j=0 then none else L[j - 1]?),zbm q o=false) then 4 else if o.id ∈ ((L.take j).map Od.id).reverse ++ seen then 6 else zdA s L seen (j + 1):=by
 obtain ⟨h1,h2⟩:=List.getElem?_eq_some_iff.1 h;have hd:L.drop j=o :: L.drop (j + 1):=by rw [List.drop_eq_getElem_cons h1,h2]
 have e:zdA s L seen (j + 1)=zbf s (some o) (o.id :: (((L.take j).map Od.id).reverse ++ seen)) (L.drop (j + 1)):=by
  unfold zdA;rw [if_neg (by omega),Nat.add_sub_cancel,h,List.take_add_one,h];simp
 rw [e];unfold zdA;rw [hd];rfl
theorem zon {s:Int} {L:List Od} {seen:List Int} {j:Nat} (h:L.length ≤ j):zdA s L seen j=0:=by
 unfold zdA;rw [List.drop_eq_nil_of_le h];rfl
def zsT (w:World) (m k:Nat) (L:List Od) (seen:List Int) (r:Int) (e:Ending) (w':World):Prop :=
 e=.returned (.int .i64 r)∧w.grownBy w' (some m)∧(r=0→Seen w' m (k + L.length) ((L.map Od.id).reverse ++ seen))
theorem zdN {w w1 w2:World} {m:Nat} (h:w.grownBy w1 (some m)) (hb:Below w1.heap.size w1 w2):w.grownBy w2 (some m) :=
 ⟨hb.os.trans h.os,hb.tape.trans h.tape,hb.output.trans h.output,Nat.le_trans h.size hb.size,fun i hi hn=>(hb.block i (Nat.lt_of_lt_of_le hi h.size)).trans (h.block i hi hn)⟩
theorem ziK {w w1 w2:World} {m:Nat} (h:w.grownBy w1 (some m)) (hg:w1.grownBy w2 (some m)):w.grownBy w2 (some m) :=
 ⟨hg.os.trans h.os,hg.tape.trans h.tape,hg.output.trans h.output,Nat.le_trans h.size hg.size,fun i hi hn=>(hg.block i (Nat.lt_of_lt_of_le hi h.size) hn).trans (h.block i hi hn)⟩
theorem zrq {w w1:World} {m B k n c:Nat} {A:Option Addr} {xs:List Value} (h:Rd w B k A n c xs) (hg:w.grownBy w1 (some m)) (hm:B ≤ m) (hB:B ≤ w.heap.size):Rd w1 B k A n c xs :=
 h.mono (zl _) fun b o hb=>World.cell?_of_block (hg.block b (by omega) (fun e=>by injection e;omega))
theorem zcr (b:Bool):b=false∨b=true:=by cases b <;> simp
theorem zpH (x:Int) (l:List Int):decide (x ∈ l)=false∧x ∉ l∨decide (x ∈ l)=true∧x ∈ l:=by by_cases h:x ∈ l <;> simp [h]
set_option maxRecDepth 100000 in
set_option maxHeartbeats 4000000 in
theorem zl5 (A:Option Addr) (n c:Nat) (L:List Od) (s:Int) (m k:Nat) (seen:List Int) (B:Nat) (w:World) (h:Rd w B 5 A n c (zaa L)) (hB:B ≤ m) (hs:Seen w m k seen) (hk:k ≤ 1000) (hn:n ≤ 1000) :
  Calls Tryz.prog 124 #[.slice A n c,.int .i64 s,.map (some m)] w (zsT w m k L seen (zbf s none seen L)):=by
 have hmw:=hs.lt;have HL:=zi (zdW h);have HE:=zi (zna s L seen);go_enter Tryz.func124,Tryz.ntmps124
 go_wp2_with fail
 go_loopw [12] (fun i wr=>∃ j:Nat,j ≤ n∧i=.int .i64 j∧w.grownBy wr (some m)∧Hid (Seen wr m (k + j) (((L.take j).map Od.id).reverse ++ seen))∧Hid (zdA s L seen j=zbf s none seen L)) (fun i _=>n - (intOf i).toNat)
 case atStart=>exact ⟨0,Nat.zero_le _,rfl,World.grownBy.refl w _,hs,HE⟩
 case round =>
  obtain ⟨j,hj,rfl,hg,HS,HT⟩:=hrel;have hws:=hg.size;by_cases hlt:j < n
  ·have hr:=zrq h hg hB (by omega);obtain ⟨b,o,x,rfl,hb,hx,k0,k1,k2,k3,k4⟩:=zdU hr hlt;have HD:=zi (HT.out.symm.trans (znb hx));have HX:=zi hx;have x1:b < wr.heap.size:=by omega
   clear hx;go_wp2_with fail
   refine (zfo x _).mono ?_;rintro e w1 ⟨rfl,hb1⟩;have hb2:Below wr.heap.size wr w1:=((Below.refl _ _).alloc (zl _) _).trans (hb1.mono (by simp));have hg1:w.grownBy w1 (some m):=zdN hg hb2;have Bx:=(Blk.new wr 32 #[.int .i64 x.id,.int .i64 x.acc,.int .i64 x.side,.int .i64 x.price,.int .i64 x.qty]).below hb1 (by simp);have hw1:wr.heap.size < w1.heap.size:=by have:=hb1.size;simp at this;omega
   have HS1:=zi (HS.out.below hb2 HS.out.lt);have hr1:=hr.below (hb2.mono (by omega));clear k0 k1 k2 k3 k4 hb1 hr;by_cases he:zax x=0
   ·have HD2:=zi (HD.out.trans (if_neg (by omega)));obtain ⟨⟨hi1,hi2⟩,_⟩:=zaP.1 he;have HZ:=zi he;have he':(zax x != 0)=false:=by simpa using he
    clear he HD;obtain ⟨⟨b0,b1,b2,b3,b4⟩,_⟩:=Bx.c5;by_cases hside:x.side=s
    ·have hs':(x.side != s)=false:=by simpa using hside
     have HSD:=zi hside;clear hside;by_cases hj0:j=0
     ·subst hj0;have HD4:=zi (show zbf s none seen L=if x.id ∈ ((L.take 0).map Od.id).reverse ++ seen then 6 else zdA s L seen (0 + 1) by
       rw [HD2.out,if_neg];rintro (h | ⟨q,hq,_⟩)
       ·exact h HSD.out
       ·simp at hq)
      go_wp2_with fail
      go_quiet (fail)
      obtain ⟨W',hW⟩:∃ W',W'=w1.drewN nq:=⟨_,rfl⟩;rw [← hW];have hB:Below w1.heap.size w1 W':=by rw [hW];exact zac (Below.refl _ _) _
      clear hW b0 b1 b2 b3 b4;obtain ⟨⟨b0,b1,b2,b3,b4⟩,_⟩:=(Bx.below hB hw1).c5;have HS2:=zi (HS1.out.below hB HS1.out.lt);have hB2:Below wr.heap.size wr W':=hb2.trans (hB.mono (by omega));have hg3:w.grownBy W' (some m):=zdN hg hb2 |> fun h=>zdN h hB;have hl:=HS2.out.look x.id (by omega);rcases zpH x.id (((L.take (0)).map Od.id).reverse ++ seen) with ⟨hm1,hm2⟩ | ⟨hm1,hm2⟩
      ·obtain ⟨w2,hrun,hs2,hg2⟩:=HS2.out.put x.id (by omega) (by unfold maxLen;omega);have HS3:=zi (show Seen w2 m (k + (0 + 1)) (((L.take (0 + 1)).map Od.id).reverse ++ seen) by
        rw [List.take_add_one,HX.out];have:=hs2;simp only [Option.toList,List.map_append,List.map_cons,List.map_nil,List.reverse_append,List.reverse_cons,List.reverse_nil,List.nil_append,List.cons_append];rw [← Nat.add_assoc];exact this)
       have HE2:=zi (show zdA s L seen (0 + 1)=zbf s none seen L by rw [HD4.out,if_neg hm2]);have hg4:w.grownBy w2 (some m):=ziK hg3 hg2;rw [hm1] at hl;clear hm1 hm2 hs2 hg2;go_wp2_with fail
       go_roundw
       case rel=>exact ⟨0 + 1,by omega,by go_num,hg4,HS3,HE2⟩
       case measure=>simp [intOf];omega
      ·have HE2:=zi (show zbf s none seen L=6 by rw [HD4.out,if_pos hm2]);rw [hm1] at hl;clear hm1 hm2;go_wp2_with fail
       go_ret;exact ⟨zay HE2.out.symm,hg3,fun h=>by rw [HE2.out] at h;omega⟩
     ·obtain ⟨jj,rfl⟩:∃ jj,j=jj + 1:=⟨j - 1,by omega⟩;obtain ⟨b',o',q,hA,hb',hq,q0,q1,q2,q3,q4⟩:=zdU hr1 (show jj < n by omega);cases hA;have HD3:=zi (show zbf s none seen L=if zbm q x=false then 4 else if x.id ∈ ((L.take (jj + 1)).map Od.id).reverse ++ seen then 6 else zdA s L seen (jj + 1 + 1) by
       rw [HD2.out];by_cases ha:zbm q x=false
       ·rw [if_pos ha,if_pos (.inr ⟨q,by rw [if_neg (by omega),Nat.add_sub_cancel];exact hq,ha⟩)]
       ·rw [if_neg ha,if_neg];rintro (h | ⟨q',hq',h⟩)
        ·exact h HSD.out
        ·rw [if_neg (by omega),Nat.add_sub_cancel,hq] at hq';injection hq' with hq';rw [hq'] at ha;exact ha h)
      clear hq;have h11:Below w1.heap.size w1 w1:=Below.refl _ _;have x2:b < w1.heap.size:=by omega
      have KS:Hid (∀ W,Below w1.heap.size w1 W→Below w1.heap.size w1 W∧(W.cell? ⟨wr.heap.size,0,none⟩=some (.int .i64 x.id)∧W.cell? ⟨wr.heap.size,1,none⟩=some (.int .i64 x.acc)∧W.cell? ⟨wr.heap.size,2,none⟩=some (.int .i64 x.side)∧W.cell? ⟨wr.heap.size,3,none⟩=some (.int .i64 x.price)∧W.cell? ⟨wr.heap.size,4,none⟩=some (.int .i64 x.qty)) ∧
       (W.cell? ⟨b,o + jj * 5,none⟩=some (.int .i64 q.id)∧W.cell? ⟨b,o + jj * 5 + 1,none⟩=some (.int .i64 q.acc)∧W.cell? ⟨b,o + jj * 5 + 2,none⟩=some (.int .i64 q.side)∧W.cell? ⟨b,o + jj * 5 + 3,none⟩=some (.int .i64 q.price)∧W.cell? ⟨b,o + jj * 5 + 4,none⟩=some (.int .i64 q.qty))):=by
       intro W hW;exact ⟨hW,(Bx.below hW hw1).c5.1,(hW.cell (p:=⟨b,_,none⟩) x2).trans q0,(hW.cell (p:=⟨b,_,none⟩) x2).trans q1,(hW.cell (p:=⟨b,_,none⟩) x2).trans q2,(hW.cell (p:=⟨b,_,none⟩) x2).trans q3,(hW.cell (p:=⟨b,_,none⟩) x2).trans q4⟩
      have i1:IntKind.i64.wrap ((jj:Int) + 1 - 1)=(jj:Int):=by rw [show (jj:Int) + 1 - 1=(jj:Int) by omega];exact IntWalk.i64_in _ (by omega)
      have i2:(0:Int) ≤ (jj:Int):=by omega
      have i3:(jj:Int) < (n:Int):=by omega
      have i4:decide ((0:Int) < (jj:Int) + 1)=true:=by simp
      have i5:IntKind.i64.wrap (jj:Int)=(jj:Int):=IntWalk.i64_in _ (by omega);go_wp2_with fail
      go_region_held3 (fun W=>Below w1.heap.size w1 W∧(W.cell? ⟨wr.heap.size,0,none⟩=some (.int .i64 x.id)∧W.cell? ⟨wr.heap.size,1,none⟩=some (.int .i64 x.acc)∧W.cell? ⟨wr.heap.size,2,none⟩=some (.int .i64 x.side)∧W.cell? ⟨wr.heap.size,3,none⟩=some (.int .i64 x.price)∧W.cell? ⟨wr.heap.size,4,none⟩=some (.int .i64 x.qty)) ∧
       (W.cell? ⟨b,o + jj * 5,none⟩=some (.int .i64 q.id)∧W.cell? ⟨b,o + jj * 5 + 1,none⟩=some (.int .i64 q.acc)∧W.cell? ⟨b,o + jj * 5 + 2,none⟩=some (.int .i64 q.side)∧W.cell? ⟨b,o + jj * 5 + 3,none⟩=some (.int .i64 q.price)∧W.cell? ⟨b,o + jj * 5 + 4,none⟩=some (.int .i64 q.qty)))
       (first | (exact KS.out _ (by assumption)) | (exact KS.out _ (zar (by assumption))))
       ((first | (go_at_call 154;go_split_ands;(with_reducible refine (zkO q x _).mono ?_);rintro e W' ⟨rfl,hb⟩;have hB:=zbV hb (by assumption))))
      go_split_ands
      clear KS b0 b1 b2 b3 b4 q0 q1 q2 q3 q4 i1 i2 i3 i4 i5;rcases zcr (zbm q x) with ha | ha
      ·have HE2:=zi (show zbf s none seen L=4 by rw [HD3.out,if_pos ha]);have hg3:w.grownBy W' (some m):=zdN hg1 hB;rw [ha];go_wp2_with fail
       go_ret;exact ⟨zay HE2.out.symm,hg3,fun h=>by rw [HE2.out] at h;omega⟩
      ·have HD4:=zi (HD3.out.trans (if_neg (by rw [ha];simp)));rw [ha];have HS2:=zi (HS1.out.below hB HS1.out.lt);have hB2:Below wr.heap.size wr W':=hb2.trans (hB.mono (by omega));have hg3:w.grownBy W' (some m):=zdN hg hb2 |> fun h=>zdN h hB;have hl:=HS2.out.look x.id (by omega);rcases zpH x.id (((L.take (jj + 1)).map Od.id).reverse ++ seen) with ⟨hm1,hm2⟩ | ⟨hm1,hm2⟩
       ·obtain ⟨w2,hrun,hs2,hg2⟩:=HS2.out.put x.id (by omega) (by unfold maxLen;omega);have HS3:=zi (show Seen w2 m (k + (jj + 1 + 1)) (((L.take (jj + 1 + 1)).map Od.id).reverse ++ seen) by
         rw [List.take_add_one,HX.out];have:=hs2;simp only [Option.toList,List.map_append,List.map_cons,List.map_nil,List.reverse_append,List.reverse_cons,List.reverse_nil,List.nil_append,List.cons_append];rw [← Nat.add_assoc];exact this)
        have HE2:=zi (show zdA s L seen (jj + 1 + 1)=zbf s none seen L by rw [HD4.out,if_neg hm2]);have hg4:w.grownBy w2 (some m):=ziK hg3 hg2;rw [hm1] at hl;clear hm1 hm2 hs2 hg2;go_wp2_with fail
        go_roundw
        case rel=>exact ⟨jj + 1 + 1,by omega,by go_num,hg4,HS3,HE2⟩
        case measure=>simp [intOf];omega
       ·have HE2:=zi (show zbf s none seen L=6 by rw [HD4.out,if_pos hm2]);rw [hm1] at hl;clear hm1 hm2;go_wp2_with fail
        go_ret;exact ⟨zay HE2.out.symm,hg3,fun h=>by rw [HE2.out] at h;omega⟩
    ·have HE2:=zi (show zbf s none seen L=4 by rw [HD2.out,if_pos (.inl hside)]);have hs':(x.side != s)=true:=by simpa using hside
     clear hside;go_wp2_with fail
     go_quiet (fail)
     go_wp2_with fail
     go_ret;exact ⟨zay HE2.out.symm,zdN hg1 (zac (Below.refl _ _) _),fun h=>by rw [HE2.out] at h;omega⟩
   ·have HE2:=zi (show zbf s none seen L=zax x by rw [HD.out,if_pos he]);have HN:=zi he;have he':(zax x != 0)=true:=by simpa using he
    clear he;go_wp2_with fail
    go_ret;exact ⟨zay HE2.out.symm,hg1,fun h=>absurd (HE2.out.symm.trans h) HN.out⟩
  ·have hjn:j=n:=by omega
   have hjl:L.length=j:=by have:=HL.out;omega
   have HE2:=zi (show zbf s none seen L=0 by rw [← HT.out,zon (by omega)]);have HSE:=zi (show Seen wr m (k + L.length) ((L.map Od.id).reverse ++ seen) by
    have:=HS.out;rw [← hjl,List.take_length] at this;exact this)
   clear hjn hjl;go_wp2_with fail
   go_ret;exact ⟨zay HE2.out.symm,hg,fun _=>HSE.out⟩
end
end Go.Proofs.YtockodmbhnlheaaGreatDoor
