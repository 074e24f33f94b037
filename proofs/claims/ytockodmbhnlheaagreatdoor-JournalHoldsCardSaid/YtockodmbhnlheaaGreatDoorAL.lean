import Derived.Test.YtockodmbhnlheaaGreatDoorAK
import Derived.RegionTactic
import Derived.ChangeAlike
namespace Go.Proofs.YtockodmbhnlheaaGreatDoor
section
def zcO (L:List Ac):Prop:=L.Pairwise fun a b=>a.id < b.id
structure AOk (m:Nat) (L:List Ac):Prop where
 ok:∀ a ∈ L,zaj a.id a.bal a.pos m=0
 sorted:zcO L
structure NOk (v:Vn):Prop where
 ins:0 ≤ v.ins∧v.ins ≤ 1000000000000
 resid:0 ≤ v.resid∧v.resid ≤ 1000000000000
 next:1 ≤ v.next∧v.next ≤ 100000
 inn:0 ≤ v.inn∧v.inn ≤ 1000000000000
 out:0 ≤ v.out∧v.out ≤ 1000000000000
def MOk (L:List Ac) (next:Int) (M:List Mk):Prop:=∀ m ∈ M,zaN m=0∧∀ o ∈ m.book.bids ++ m.book.asks,zas L o.acc=true∧o.id < next
structure VOk (v:Vn):Prop where
 len:1 ≤ v.mks.length∧v.mks.length ≤ 2
 accs:AOk v.mks.length v.accs
 nums:NOk v
 money:v.ins + v.resid + zbd v.accs=v.inn - v.out
 pos:∀ k,k < v.mks.length→za5 k v.accs=0
 mks:MOk v.accs v.next v.mks
theorem zhD {m:Nat}:∀ {L:List Ac} {p:Option Int},zbH m p L=0 ↔ AOk m L∧∀ q ∈ p,∀ a ∈ L,q < a.id
 | [],p=>by
  simp only [zbH,true_iff];exact ⟨⟨by simp,List.Pairwise.nil⟩,by simp⟩
 | a :: l,p=>by
  unfold zbH;by_cases h1:zaj a.id a.bal a.pos m=0
  ·rw [if_neg (by omega)];by_cases h2:∃ q ∈ p,a.id ≤ q
   ·rw [if_pos h2];constructor
    ·intro h;omega
    ·rintro ⟨_,h⟩;obtain ⟨q,hq,hle⟩:=h2;have:=h q hq a (by simp);omega
   ·rw [if_neg h2,zhD];constructor
    ·rintro ⟨⟨k1,k2⟩,k3⟩;refine ⟨⟨?_,List.pairwise_cons.2 ⟨fun x hx=>k3 a.id rfl x hx,k2⟩⟩,?_⟩
     ·intro x hx;rcases List.mem_cons.1 hx with rfl | hx
      ·exact h1
      ·exact k1 x hx
     ·intro q hq x hx;have h3:q < a.id:=by
       rcases Int.lt_or_le q a.id with h | h
       ·exact h
       ·exact absurd ⟨q,hq,h⟩ h2
      rcases List.mem_cons.1 hx with rfl | hx
      ·exact h3
      ·have:=k3 a.id rfl x hx;omega
    ·rintro ⟨⟨k1,k2⟩,k3⟩;obtain ⟨k4,k5⟩:=List.pairwise_cons.1 k2;exact ⟨⟨fun x hx=>k1 x (by simp [hx]),k5⟩,fun q hq x hx=>by injection hq with hq;subst hq;exact k4 x hx⟩
  ·rw [if_pos h1];constructor
   ·intro h;exact absurd h h1
   ·rintro ⟨k,_⟩;exact absurd (k.ok a (by simp)) h1
theorem zc5 {L:List Ac} {id:Int}:zas L id=true ↔ ∃ a ∈ L,a.id=id:=by simp [zas]
theorem zez {L:List Ac} {id:Int}:zas L id=false ↔ ∀ a ∈ L,a.id ≠ id:=by
 rw [← Bool.not_eq_true,zc5];constructor
 ·intro h a ha e;exact h ⟨a,ha,e⟩
 ·rintro h ⟨a,ha,e⟩;exact h a ha e
theorem zgk:∀ {L:List Ac} {id:Int},zcO L→zam L id ≤ L.length∧(∀ a ∈ L.take (zam L id),a.id < id)∧∀ a ∈ L.drop (zam L id),id ≤ a.id
 | [],id,_=>by simp [zam]
 | a :: l,id,h=>by
  obtain ⟨h1,h2⟩:=List.pairwise_cons.1 h;obtain ⟨k1,k2,k3⟩:=zgk (L:=l) (id:=id) h2;by_cases ha:a.id < id
  ·have e:zam (a :: l) id=zam l id + 1:=by
    unfold zam;rw [List.filter_cons_of_pos (by simpa using ha)];rfl
   rw [e];refine ⟨by simp only [List.length_cons];omega,?_,?_⟩
   ·intro x hx;rw [List.take_succ_cons] at hx;rcases List.mem_cons.1 hx with rfl | hx
    ·exact ha
    ·exact k2 x hx
   ·intro x hx;rw [List.drop_succ_cons] at hx;exact k3 x hx
  ·have e:zam (a :: l) id=0:=by
    unfold zam;rw [List.filter_cons_of_neg (by simpa using ha),List.filter_eq_nil_iff.2]
    ·rfl
    ·intro x hx;have:=h1 x hx;simp only [decide_eq_true_eq];omega
   rw [e];refine ⟨Nat.zero_le _,by simp,?_⟩;intro x hx;rw [List.drop_zero] at hx;rcases List.mem_cons.1 hx with rfl | hx
   ·omega
   ·have:=h1 x hx;omega
theorem zcJ {L:List Ac} {id:Int} (h:zcO L) (ht:zas L id=true):∃ a,L[zam L id]?=some a∧a.id=id:=by
 obtain ⟨k1,k2,k3⟩:=zgk (id:=id) h;obtain ⟨a,ha,hid⟩:=zc5.1 ht;rw [← List.take_append_drop (zam L id) L] at ha;rcases List.mem_append.1 ha with ha | ha
 ·have:=k2 a ha;omega
 ·cases hd:L.drop (zam L id) with
  | nil=>rw [hd] at ha;cases ha
  | cons b M =>
   have hb:L[zam L id]?=some b:=by
    have:=List.getElem?_drop (xs:=L) (i:=zam L id) (j:=0);rw [hd,Nat.add_zero] at this;rw [← this];rfl
   refine ⟨b,hb,?_⟩;have hle:=k3 b (by rw [hd];simp);rw [hd] at ha;rcases List.mem_cons.1 ha with rfl | ha
   ·exact hid
   ·have hs:zcO (L.drop (zam L id)):=List.Pairwise.sublist (List.drop_sublist _ _) h;rw [hd] at hs;have:=(List.pairwise_cons.1 hs).1 a ha;omega
theorem zjH {L:List Ac} (h:zcO L) {i j:Nat} {a b:Ac} (hi:L[i]?=some a) (hj:L[j]?=some b) (he:a.id=b.id):i=j:=by
 obtain ⟨h1,h2⟩:=List.getElem?_eq_some_iff.1 hi;obtain ⟨h3,h4⟩:=List.getElem?_eq_some_iff.1 hj;have hp:=List.pairwise_iff_getElem.1 h;rcases Nat.lt_trichotomy i j with hl | hl | hl
 ·have:=hp i j h1 h3 hl;rw [h2,h4] at this;omega
 ·exact hl
 ·have:=hp j i h3 h1 hl;rw [h2,h4] at this;omega
theorem zkr {α:Type} (f:α→Int):∀ {L:List α} {k:Nat} {a b:α},L[k]?=some a→((L.set k b).map f).sum=(L.map f).sum - f a + f b
 | [],k,a,b,h=>by simp at h
 | x :: l,0,a,b,h=>by
  simp at h;subst h;simp only [List.set_cons_zero,List.map_cons,List.sum_cons];omega
 | x :: l,k + 1,a,b,h=>by
  simp at h;simp only [List.set_cons_succ,List.map_cons,List.sum_cons,zkr f h (b:=b)];omega
theorem zhE {L:List Ac} {k:Nat} {a b:Ac} (h:L[k]?=some a):zbd (L.set k b)=zbd L - a.bal + b.bal:=zkr (fun x:Ac=>x.bal) h
theorem zhF {L:List Ac} {m k:Nat} {a b:Ac} (h:L[k]?=some a):za5 m (L.set k b)=za5 m L - a.pos.getD m 0 + b.pos.getD m 0:=zkr (fun x:Ac=>x.pos.getD m 0) h
theorem zaY {α:Type} {L:List α} {k:Nat} {a d:α} (h:L[k]?=some a):L.getD k d=a:=by rw [List.getD,h];rfl
theorem zdY {L:List Ac} {k:Nat} {a b:Ac} (h:L[k]?=some a) (he:b.id=a.id):(L.set k b).map (·.id)=L.map (·.id):=by
 rw [List.map_set];apply List.ext_getElem?
 intro i;rw [List.getElem?_set];split
 ·rename_i hi;subst hi;rw [List.getElem?_map,h];have:=(List.getElem?_eq_some_iff.1 h).1;simp [he,this]
 ·rfl
theorem zdO {L:List Ac}:zcO L ↔ (L.map (·.id)).Pairwise (· < ·):=by unfold zcO;rw [List.pairwise_map]
theorem zdh {L M:List Ac} (h:M.map (·.id)=L.map (·.id)) (id:Int):zas M id=zas L id:=by
 rw [Bool.eq_iff_iff,zc5,zc5];have key:∀ K:List Ac,(∃ a ∈ K,a.id=id) ↔ id ∈ K.map (·.id):=by intro K;simp
 rw [key,key,h]
theorem zks {m:Nat} {L:List Ac} {k:Nat} {a b:Ac} (h:AOk m L) (hk:L[k]?=some a) (he:b.id=a.id) (hb:zaj b.id b.bal b.pos m=0):AOk m (L.set k b):=by
 refine ⟨fun x hx=>?_,?_⟩
 ·rcases List.mem_or_eq_of_mem_set hx with hx | rfl
  ·exact h.ok x hx
  ·exact hb
 ·rw [zdO,zdY hk he,← zdO];exact h.sorted
theorem zfa {L M:List Ac} {next next':Int} {K:List Mk} (h:MOk L next K) (ht:∀ id,zas L id=true→zas M id=true) (hn:next ≤ next'):MOk M next' K:=by
 intro m hm;obtain ⟨h1,h2⟩:=h m hm;exact ⟨h1,fun o ho=>⟨ht _ (h2 o ho).1,by have:=(h2 o ho).2;omega⟩⟩
theorem zs2 {L:List Ac} {next:Int} {K:List Mk} {k:Nat} {m:Mk} (h:MOk L next K) (h1:zaN m=0) (h2:∀ o ∈ m.book.bids ++ m.book.asks,zas L o.acc=true∧o.id < next):MOk L next (K.set k m):=by
 intro x hx;rcases List.mem_or_eq_of_mem_set hx with hx | rfl
 ·exact h x hx
 ·exact ⟨h1,h2⟩
theorem zmd:∀ (n:Nat) (l:List Int),l.Pairwise (· < ·)→(∀ x ∈ l,0 ≤ x∧x < n)→l.length ≤ n
 | 0,[],_,_=>zl _
 | 0,x :: l,_,h=>by have:=h x (by simp);omega
 | n + 1,l,hs,h=>by
  rcases List.eq_nil_or_concat l with rfl | ⟨l',x,rfl⟩
  ·simp
  ·rw [List.concat_eq_append] at hs h ⊢;obtain ⟨h1,_,h3⟩:=List.pairwise_append.1 hs;have hx:=h x (by simp);have:=zmd n l' h1 fun y hy=>by
    have k1:=h3 y hy x (by simp);have k2:=h y (by simp [hy]);omega
   simp;omega
theorem zdZ {m:Nat} {L:List Ac} (h:AOk m L):L.length ≤ 8:=by
 have:=zmd 8 (L.map (·.id)) (zdO.1 h.sorted) (by
  intro x hx;obtain ⟨a,ha,rfl⟩:=List.mem_map.1 hx;have:=(zaw (h.ok a ha)).1;omega)
 simpa using this
theorem zh4 {L:List Ac} {next:Int}:∀ {M:List Mk},zcC L next M=0 ↔ MOk L next M
 | []=>by simp [zcC,MOk]
 | m :: l=>by
  unfold zcC;have ih:=zh4 (L:=L) (next:=next) (M:=l);by_cases h1:zaN m=0
  ·rw [if_neg (by omega)];by_cases h2:(m.book.bids ++ m.book.asks).any (fun o=>!zas L o.acc || decide (next ≤ o.id))=true
   ·rw [if_pos h2];constructor
    ·intro h;omega
    ·intro h;rw [List.any_eq_true] at h2;obtain ⟨o,ho,hb⟩:=h2;have:=(h m (by simp)).2 o ho;simp [this.1] at hb;omega
   ·rw [if_neg h2,ih];constructor
    ·intro h x hx;rcases List.mem_cons.1 hx with rfl | hx
     ·refine ⟨h1,fun o ho=>?_⟩;rw [Bool.not_eq_true,List.any_eq_false] at h2;have:=h2 o ho;simp at this;exact this
     ·exact h x hx
    ·intro h x hx;exact h x (by simp [hx])
  ·rw [if_pos h1];constructor
   ·intro h;exact absurd h h1
   ·intro h;exact absurd (h m (by simp)).1 h1
theorem zfQ {v:Vn}:zbi v=0 ↔ VOk v:=by
 unfold zbi;have e1:=zhD (m:=v.mks.length) (L:=v.accs) (p:=none);constructor
 ·intro h;split at h
  ·omega
  rename_i h1;split at h
  ·omega
  rename_i h2;split at h
  ·rename_i h3;exact absurd h h3
  rename_i h3;split at h
  ·omega
  rename_i h4;have h3:=(e1.1 (by omega)).1;have i1:zag v.inn=true:=by cases hb:zag v.inn <;> simp_all
  have i2:zag v.out=true:=by cases hb:zag v.out <;> simp_all
  have i3:zag v.ins=true:=by cases hb:zag v.ins <;> simp_all
  have i4:zag v.resid=true:=by cases hb:zag v.resid <;> simp_all
  rw [zaK] at i1 i2 i3 i4;simp only [not_or,Int.not_lt] at h2;obtain ⟨g1,g2,g3,g4,g5,g6,_⟩:=h2;simp only [not_or,not_exists,not_and,Classical.not_not] at h4;exact ⟨by omega,h3,⟨⟨g1,i3.2⟩,⟨g2,i4.2⟩,⟨g3,g4⟩,⟨g5,i1.2⟩,⟨g6,i2.2⟩⟩,h4.1,h4.2,zh4.1 h⟩
 ·intro h;have hl:=zdZ h.accs;have hn:=h.nums;have k1:=hn.ins;have k2:=hn.resid;have k3:=hn.next;have k4:=hn.inn;have k5:=hn.out;have k6:=h.len;rw [if_neg (by omega),if_neg ?_,if_neg (by rw [e1.2 ⟨h.accs,by simp⟩];simp),if_neg ?_]
  ·exact zh4.2 h.mks
  ·rintro (h1 | ⟨k,hk,h1⟩)
   ·exact h1 h.money
   ·exact h1 (h.pos k hk)
  ·have i1:zag v.inn=true:=zaK.2 (by omega);have i2:zag v.out=true:=zaK.2 (by omega);have i3:zag v.ins=true:=zaK.2 (by omega);have i4:zag v.resid=true:=zaK.2 (by omega);rw [i1,i2,i3,i4];simp only [Bool.true_eq_false,or_false];omega
end
section
open Go.RowKit
theorem ix0 (a b c d e f:Value) (w:World):(Instr.index 238 (.agg #[a,b,c,d,e,f]) (.int .i64 0)).run Tryz.prog w=.ok (.agg #[a,b,c]) w:=by
 kernel_rfl
theorem ix1 (a b c d e f:Value) (w:World):(Instr.index 238 (.agg #[a,b,c,d,e,f]) (.int .i64 1)).run Tryz.prog w=.ok (.agg #[d,e,f]) w:=by
 kernel_rfl
theorem zrx {t:Int} (h:t ≤ 100000):zcu t=(10,5):=by unfold zcu;rw [if_pos h]
theorem zry {t:Int} (h:100000 < t) (h':t ≤ 1000000):zcu t=(20,10):=by unfold zcu;rw [if_neg (by omega),if_pos h']
theorem zoA {t:Int} (h:1000000 < t):zcu t=(50,25):=by unfold zcu;rw [if_neg (by omega),if_neg (by omega)]
set_option maxHeartbeats 1000000 in
theorem zrz (t:Int) (w:World) :
  Calls Tryz.prog 164 #[.int .i64 t] w fun e w'=>e=.returned (.tuple #[.int .i64 (zcu t).1,.int .i64 (zcu t).2])∧Below w.heap.size w w':=by
 have i0:=ix0;have i1:=ix1;go_enter Tryz.func164,Tryz.ntmps164
 go_wp2_with fail
 go_loopw [9] (fun i wr=>(i=.int .i64 0∨i=.int .i64 1∧100000 < t∨i=.int .i64 2∧1000000 < t)∧Below w.heap.size w wr) (fun i _=>2 - (intOf i).toNat)
 case atStart=>exact ⟨.inl rfl,Below.refl _ _⟩
 case round =>
  obtain ⟨hj,hbr⟩:=hrel;have hws:=hbr.size;rcases hj with rfl | ⟨rfl,hj⟩ | ⟨rfl,hj⟩
  ·by_cases h1:t ≤ 100000
   ·have HE:=zi (zrx h1);go_wp2_with fail
    go_quiet (fail)
    go_wp2_with fail
    go_ret2
    exact ⟨za6 (by rw [HE.out]),zac (hbr.alloc hws _) _⟩
   ·have h2:100000 < t:=by omega
    go_wp2_with fail
    go_roundw
    case rel=>exact ⟨.inr (.inl ⟨rfl,h2⟩),hbr.alloc hws _⟩
    case measure=>simp [intOf]
  ·by_cases h1:t ≤ 1000000
   ·have HE:=zi (zry hj h1);go_wp2_with fail
    go_quiet (fail)
    go_wp2_with fail
    go_ret2
    exact ⟨za6 (by rw [HE.out]),zac (hbr.alloc hws _) _⟩
   ·have h2:1000000 < t:=by omega
    go_wp2_with fail
    go_roundw
    case rel=>exact ⟨.inr (.inr ⟨rfl,h2⟩),hbr.alloc hws _⟩
    case measure=>simp [intOf]
  ·have HE:=zi (zoA hj);go_wp2_with fail
   go_ret2
   exact ⟨za6 (by rw [HE.out]),hbr⟩
theorem zhG {a b c a' b' c':Int} (h:(a,b,c)=(a',b',c')):Ending.returned (.tuple #[.int .i64 a,.int .i64 b,.int .i64 c])=.returned (.tuple #[.int .i64 a',.int .i64 b',.int .i64 c']):=by
 injection h with h1 h;injection h with h2 h3;rw [h1,h2,h3]
theorem zme {l marks:List Int} {j:Nat} {z k x y:Int} (hz:l[j]?=some z) (hk:marks[j]?=some k) :
  zcb x y (l.drop j) (marks.drop j)=if (zaC (max z (-z)) k).2 ≠ 0 then (0,0,(zaC (max z (-z)) k).2) else zcb (x + zfs z k) (y + zft z k) (l.drop (j + 1)) (marks.drop (j + 1)):=by
 obtain ⟨h1,h2⟩:=List.getElem?_eq_some_iff.1 hz;obtain ⟨h3,h4⟩:=List.getElem?_eq_some_iff.1 hk;rw [List.drop_eq_getElem_cons h1,List.drop_eq_getElem_cons h3,h2,h4,zma]
theorem znj {z k m t1 t2:Int} (hm:max z (-z)=m) (hw:zaC m k=(m * k,0)) (ht:zcu (m * k)=(t1,t2)) :
  zbY (m * k) t1 100 true=(zfs z k,0)∧zbY (m * k) t2 100 true=(zft z k,0)∧(0 ≤ zfs z k∧zfs z k ≤ 5000000)∧(0 ≤ zft z k∧zft z k ≤ 5000000):=by
 subst hm;obtain ⟨_,_,_,h1,h2⟩:=zkY (show (zaC (max z (-z)) k).2=0 by rw [hw]);obtain ⟨⟨a1,a2⟩,⟨a3,a4⟩,_⟩:=znR (max z (-z) * k);rw [ht] at a1 a2 a3 a4;simp only at a1 a2 a3 a4;obtain ⟨p1,p2⟩:=zix h1 h2 a1 a2;obtain ⟨p3,p4⟩:=zix h1 h2 a3 (show t2 ≤ 50 by omega);have e1:zfs z k=(max z (-z) * k * t1 + 99) / 100:=by unfold zfs;rw [ht]
 have e2:zft z k=(max z (-z) * k * t2 + 99) / 100:=by unfold zft;rw [ht]
 exact ⟨by rw [p1,e1],by rw [p3,e2],by omega,by omega⟩
theorem znk {l marks:List Int} {j:Nat} {x y:Int} (h:l.length ≤ j):zcb x y (l.drop j) (marks.drop j)=(x,y,0):=by
 rw [List.drop_eq_nil_of_le h];rfl
set_option maxHeartbeats 2000000 in
theorem znl (a:Ac) (A A':Option Addr) (c n' c':Nat) (marks:List Int) (B B':Nat) (w:World) (h:Rd w B 1 A a.pos.length c (ints a.pos)) (hB:B ≤ w.heap.size) (h':Rd w B' 1 A' n' c' (ints marks)) (hB':B' ≤ w.heap.size) :
  Calls Tryz.prog 140 #[.agg #[.int .i64 a.id,.int .i64 a.bal,.slice A a.pos.length c],.slice A' n' c'] w fun e w' =>
   e=.returned (.tuple #[.int .i64 (zb8 a marks).1,.int .i64 (zb8 a marks).2.1,.int .i64 (zb8 a marks).2.2])∧Below w.heap.size w w':=by
 by_cases h0:zaj a.id a.bal a.pos marks.length=0
 ·have HE:=zi (show zcb 0 0 (a.pos.drop 0) (marks.drop 0)=zb8 a marks by unfold zb8;rw [if_neg (by rw [h0];simp)];rfl);obtain rfl:=h'.ofInts;have HC:=zi h0;obtain ⟨_,⟨hl1,hl2⟩,hl3,_,_⟩:=zaw h0;have hl:a.pos.length=marks.length:=by omega
  obtain ⟨n,hn⟩:∃ n,marks.length=n:=⟨_,rfl⟩;rw [hn] at hl h' hl1 hl2;have HN:=zi hn;have HL:=zi hl;have hn2:n ≤ 2:=by omega
  rw [hl] at h;rw [hl,hn];clear h0 hl hn hl3 hl1 hl2;go_enter Tryz.func140,Tryz.ntmps140
  go_wp2_with fail
  refine (zbn _ _ _ _ _ _ _ _ _ (h.alloc hB _) (by simp;omega)).mono ?_;rintro e w1 ⟨rfl,hb1⟩;rw [← HN.out,HC.out,HN.out];obtain ⟨⟨b0,b1,b2⟩,_⟩:=((Blk.new w 78 #[.int .i64 a.id,.int .i64 a.bal,.slice A n c]).below hb1 (by simp)).c3;have hw1:w.heap.size < w1.heap.size:=by have:=hb1.size;simp at this;omega
  have h9:Below w.heap.size w w1:=((Below.refl _ _).alloc (zl _) _).trans (hb1.mono (by simp));have hp1:=h.below (h9.mono hB);have hm1:=h'.below (h9.mono hB');clear hb1;go_wp2_with fail
  go_loopw [4,5,28] (fun s t i wr=>∃ (j:Nat) (x y:Int),j ≤ n∧s=.int .i64 x∧t=.int .i64 y∧i=.int .i64 j∧(0 ≤ x∧x ≤ 5000000 * (j:Int))∧(0 ≤ y∧y ≤ 5000000 * (j:Int))∧Below w1.heap.size w1 wr∧Hid (zcb x y (a.pos.drop j) (marks.drop j)=zb8 a marks)) (fun _ _ i _=>n - (intOf i).toNat)
  case atStart=>exact ⟨0,0,0,Nat.zero_le _,rfl,rfl,rfl,by omega,by omega,Below.refl _ _,HE⟩
  case round =>
   obtain ⟨j,x,y,hj,rfl,rfl,rfl,hx,hy,hbr,HR⟩:=hrel;have hsz:=hbr.size;clear b0 b1 b2;by_cases hlt:j < n
   ·obtain ⟨b,o,rfl,hb,z,hz,hc⟩:=(hp1.below (hbr.mono (by omega))).int hlt;obtain ⟨b',o',rfl,hb',k,hk,hc'⟩:=(hm1.below (hbr.mono (by omega))).int hlt;have HZ:=zi hz;have HD:=zi (HR.out.symm.trans (zme hz hk));clear hz hk;obtain ⟨m,hm,hm1⟩:∃ m,max z (-z)=m∧(z < -z∧m = -z∨-z ≤ z∧m=z):=⟨_,rfl,by omega⟩;have HM:=zi hm;obtain ⟨hz1,hz2⟩:=ze7 (zaw HC.out).2.2.2.2 HZ.out;clear hm;rcases zcI m k with hw | ⟨hw,_,_,hw1,hw2⟩
    ·have HW:=zi hw;have HE2:=zi (show zb8 a marks=(0,0,3) by rw [HD.out,HM.out,hw];rfl);clear hw;rcases hm1 with ⟨h3,rfl⟩ | ⟨h3,rfl⟩;all_goals
      go_wp2_with fail
      refine (zc3 _ _ _).mono ?_;rintro e w' ⟨rfl,rfl⟩;rw [HW.out];go_wp2_with fail
      go_ret3
      exact ⟨zhG (by rw [HE2.out]),h9.trans (hbr.mono (by omega))⟩
    ·have HW:=zi hw;obtain ⟨t1,t2,ht⟩:∃ t1 t2,zcu (m * k)=(t1,t2):=⟨_,_,rfl⟩;have HT:=zi ht;obtain ⟨p1,p2,hp3,hp4⟩:=znj HM.out hw ht;have HP1:=zi p1;have HP2:=zi p2;have HE2:=zi (show zcb (x + zfs z k) (y + zft z k) (a.pos.drop (j + 1)) (marks.drop (j + 1))=zb8 a marks by rw [HD.out,HM.out,hw];rfl);clear hw ht p1 p2;generalize zfs z k=u1 at *;generalize zft z k=u2 at *;rcases hm1 with ⟨h3,rfl⟩ | ⟨h3,rfl⟩;all_goals
      go_wp2_with fail
      refine (zc3 _ _ _).mono ?_;rintro e w' ⟨rfl,rfl⟩;rw [HW.out];go_wp2_with fail
      refine (zrz _ _).mono ?_;rw [HT.out];rintro e w2 ⟨rfl,hb2⟩;go_wp2_with fail
      refine (zhC _ _ _ _ _).mono ?_;rw [HP1.out];rintro e w' ⟨rfl,rfl⟩;go_wp2_with fail
      refine (zhC _ _ _ _ _).mono ?_;rw [HP2.out];rintro e w' ⟨rfl,rfl⟩;have hb3:=hbr.trans (hb2.mono hsz);clear hb2;go_wp2_with fail
      go_roundw
      case rel=>exact ⟨j + 1,x + u1,y + u2,by omega,rfl,rfl,by go_num,by omega,by omega,hb3,HE2⟩
      case measure=>simp [intOf];omega
   ·have HE2:=zi (HR.out.symm.trans (znk (by have:=HL.out;omega)));go_wp2_with fail
    go_ret3
    exact ⟨zhG (by rw [HE2.out]),h9.trans (hbr.mono (by omega))⟩
 ·have HE:=zi (show zb8 a marks=(0,0,zaj a.id a.bal a.pos marks.length) by unfold zb8;rw [if_pos h0]);obtain rfl:=h'.ofInts;have h1:(zaj a.id a.bal a.pos marks.length != 0)=true:=by simpa using h0
  clear h0;go_enter Tryz.func140,Tryz.ntmps140
  go_wp2_with fail
  refine (zbn _ _ _ _ _ _ _ _ _ (h.alloc hB _) (by simp;omega)).mono ?_;rintro e w1 ⟨rfl,hb1⟩;go_wp2_with fail
  go_ret3
  exact ⟨zhG (by rw [HE.out]),((Below.refl _ _).alloc (zl _) _).trans (hb1.mono (by simp))⟩
set_option maxHeartbeats 1000000 in
theorem zpV (a:Ac) (A A':Option Addr) (c n' c':Nat) (marks:List Int) (B B':Nat) (w:World) (h:Rd w B 1 A a.pos.length c (ints a.pos)) (hB:B ≤ w.heap.size) (h':Rd w B' 1 A' n' c' (ints marks)) (hB':B' ≤ w.heap.size) :
  Calls Tryz.prog 105 #[.agg #[.int .i64 a.id,.int .i64 a.bal,.slice A a.pos.length c],.slice A' n' c'] w fun e w' =>
   e=.returned (.tuple #[.bool (zbF a marks).1,.bool (zbF a marks).2.1,.int .i64 (zbF a marks).2.2])∧Below w.heap.size w w':=by
 obtain ⟨x,y,em,hm⟩:∃ x y em,zb8 a marks=(x,y,em):=⟨_,_,_,rfl⟩;obtain ⟨n,en,hn⟩:∃ n en,zbv a marks=(n,en):=⟨_,_,rfl⟩;have HM:=zi hm;have HN:=zi hn;have HS:=zi (show zbF a marks=if em ≠ 0 then (false,false,em) else if en ≠ 0 then (false,false,en) else (decide (x ≤ n),decide (y ≤ n),0) by unfold zbF;rw [hm,hn]);clear hm hn;go_enter Tryz.func105,Tryz.ntmps105
 go_wp2_with fail
 refine (znl a _ _ _ _ _ marks _ _ _ (h.alloc hB _) (by simp;omega) (h'.alloc hB' _) (by simp;omega)).mono ?_;rw [HM.out];rintro e w1 ⟨rfl,hb1⟩;obtain ⟨⟨b0,b1,b2⟩,_⟩:=((Blk.new w 78 #[.int .i64 a.id,.int .i64 a.bal,.slice A a.pos.length c]).below hb1 (by simp)).c3;have hw1:w.heap.size < w1.heap.size:=by have:=hb1.size;simp at this;omega
 have h9:Below w.heap.size w w1:=((Below.refl _ _).alloc (zl _) _).trans (hb1.mono (by simp));have hp1:=h.below (h9.mono hB);have hm1:=h'.below (h9.mono hB');clear hb1;by_cases hem:em=0
 ·subst hem;have HS2:=zi (HS.out.trans (if_neg (by simp)));go_wp2_with fail
  refine (zjG a _ _ _ _ _ marks _ _ _ hp1 (by omega) hm1 (by omega)).mono ?_;rw [HN.out];rintro e w2 ⟨rfl,hb2⟩;have h10:=h9.trans (hb2.mono (by omega));by_cases hen:en=0
  ·subst hen;have HS3:=zi (HS2.out.trans (if_neg (by simp)));go_wp2_with fail
   go_ret3
   rw [HS3.out];exact ⟨rfl,h10⟩
  ·have HS3:=zi (HS2.out.trans (if_pos hen));have hen1:(en != 0)=true:=by simpa using hen
   clear hen;go_wp2_with fail
   go_ret3
   rw [HS3.out];exact ⟨rfl,h10⟩
 ·have HS2:=zi (HS.out.trans (if_pos hem));have hem1:(em != 0)=true:=by simpa using hem
  clear hem;go_wp2_with fail
  go_ret3
  rw [HS2.out];exact ⟨rfl,h9⟩
end
section
open Go.RowKit
def zeA (w:World) (r:Ac × Int) (e:Ending) (w':World):Prop :=
 ∃ A c,e=.returned (.tuple #[.agg #[.int .i64 r.1.id,.int .i64 r.1.bal,.slice A r.1.pos.length c],.int .i64 r.2])∧w'.ownsRow w.heap.size 3 1 (.slice A r.1.pos.length c) r.1.pos.length (ints r.1.pos)∧Below w.heap.size w w'
theorem zeB {w w':World} {e:Int} (hb:Below w.heap.size w w'):zeA w (zc2,e) (.returned (.tuple #[.agg #[.int .i64 0,.int .i64 0,.slice none 0 0],.int .i64 e])) w' :=
 ⟨none,0,rfl,World.ownsRow_nil _ _ _ _,hb⟩
set_option maxHeartbeats 2000000 in
theorem zoB (a:Ac) (A:Option Addr) (c:Nat) (m q p f:Int) (B:Nat) (w:World) (h:Rd w B 1 A a.pos.length c (ints a.pos)) (hB:B ≤ w.heap.size) (h0:zaj a.id a.bal a.pos a.pos.length ≠ 0) :
  Calls Tryz.prog 100 #[.agg #[.int .i64 a.id,.int .i64 a.bal,.slice A a.pos.length c],.int .i64 m,.int .i64 q,.int .i64 p,.int .i64 f] w (zeA w (zaZ a m q p f)):=by
 have HE:=zi (show zaZ a m q p f=(zc2,zaj a.id a.bal a.pos a.pos.length) by unfold zaZ;rw [if_pos h0]);have h1:(zaj a.id a.bal a.pos a.pos.length != 0)=true:=by simpa using h0
 clear h0;go_enter Tryz.func100,Tryz.ntmps100
 go_wp2_with fail
 refine (zbn _ _ _ _ _ _ _ _ _ ((h.alloc hB _).alloc (by simp;omega) _) (by simp;omega)).mono ?_;rintro e w1 ⟨rfl,hb1⟩;obtain ⟨⟨c0,c1,c2⟩,d0,d1,d2⟩:=((Blk.new (w.alloc (.cells #[.int .i64 a.id,.int .i64 a.bal,.slice A a.pos.length c] 78)) 78 #[.int .i64 0,.int .i64 0,.slice none 0 0]).below hb1 (by simp)).c3;simp only [World.size_alloc] at c0 c1 c2 d0 d1 d2;go_wp2_with fail
 refine bodyPost_ret (v:=.tuple #[.agg #[.int .i64 0,.int .i64 0,.slice none 0 0],.int .i64 (zaj a.id a.bal a.pos a.pos.length)]) (by simp [results,Tryz.results100,go_sem, *]) rfl ?_;rw [HE.out];refine zeB ?_;have h9:Below w.heap.size w w1:=(((Below.refl _ _).alloc (zl _) _).alloc (by simp) _).trans (hb1.mono (by simp;omega));repeat (first | exact h9 | refine Below.setCell ?_ (by simp) _)
set_option maxHeartbeats 2000000 in
theorem zoC (a:Ac) (A:Option Addr) (c:Nat) (m q p f:Int) (B:Nat) (w:World) (h:Rd w B 1 A a.pos.length c (ints a.pos)) (hB:B ≤ w.heap.size) (h0:zaj a.id a.bal a.pos a.pos.length=0) (h1:m < 0∨(a.pos.length:Int) ≤ m) :
  Calls Tryz.prog 100 #[.agg #[.int .i64 a.id,.int .i64 a.bal,.slice A a.pos.length c],.int .i64 m,.int .i64 q,.int .i64 p,.int .i64 f] w (zeA w (zaZ a m q p f)):=by
 have HE:=zi (show zaZ a m q p f=(zc2,5) by unfold zaZ;rw [if_neg (by rw [h0];simp),if_pos h1]);have HC:=zi h0;clear h0;rcases h1 with h1 | h1;all_goals
  go_enter Tryz.func100,Tryz.ntmps100
  go_wp2_with fail
  refine (zbn _ _ _ _ _ _ _ _ _ ((h.alloc hB _).alloc (by simp;omega) _) (by simp;omega)).mono ?_;rintro e w1 ⟨rfl,hb1⟩;rw [HC.out];obtain ⟨⟨c0,c1,c2⟩,d0,d1,d2⟩:=((Blk.new (w.alloc (.cells #[.int .i64 a.id,.int .i64 a.bal,.slice A a.pos.length c] 78)) 78 #[.int .i64 0,.int .i64 0,.slice none 0 0]).below hb1 (by simp)).c3;obtain ⟨⟨b0,b1,b2⟩,e0,e1,e2⟩:=(((Blk.new w 78 #[.int .i64 a.id,.int .i64 a.bal,.slice A a.pos.length c]).alloc (.cells #[.int .i64 0,.int .i64 0,.slice none 0 0] 78)).below hb1 (by simp;omega)).c3;simp only [World.size_alloc] at c0 c1 c2 d0 d1 d2;have hz1:w.heap.size + 1 < w1.heap.size:=by have:=hb1.size;simp at this;omega
  go_wp2_with fail
  refine bodyPost_ret (v:=.tuple #[.agg #[.int .i64 0,.int .i64 0,.slice none 0 0],.int .i64 5]) (by simp [results,Tryz.results100,go_sem, *]) rfl ?_;rw [HE.out];refine zeB ?_;have h9:Below w.heap.size w w1:=(((Below.refl _ _).alloc (zl _) _).alloc (by simp) _).trans (hb1.mono (by simp;omega));repeat (first | exact h9 | refine Below.setCell ?_ (by simp) _)
set_option maxHeartbeats 2000000 in
theorem zoD (a:Ac) (A:Option Addr) (c:Nat) (m q p f:Int) (B:Nat) (w:World) (h:Rd w B 1 A a.pos.length c (ints a.pos)) (hB:B ≤ w.heap.size) (h0:zaj a.id a.bal a.pos a.pos.length=0) (h1:0 ≤ m∧m < (a.pos.length:Int)) (h2:zaC q p=(0,3)) :
  Calls Tryz.prog 100 #[.agg #[.int .i64 a.id,.int .i64 a.bal,.slice A a.pos.length c],.int .i64 m,.int .i64 q,.int .i64 p,.int .i64 f] w (zeA w (zaZ a m q p f)):=by
 have HE:=zi (show zaZ a m q p f=(zc2,3) by unfold zaZ;rw [if_neg (by rw [h0];simp),if_neg (by omega),h2];rfl);have HC:=zi h0;have HW:=zi h2;obtain ⟨h3,h4⟩:=h1;clear h0 h2;go_enter Tryz.func100,Tryz.ntmps100
 go_wp2_with fail
 refine (zbn _ _ _ _ _ _ _ _ _ ((h.alloc hB _).alloc (by simp;omega) _) (by simp;omega)).mono ?_;rintro e w1 ⟨rfl,hb1⟩;rw [HC.out];obtain ⟨⟨c0,c1,c2⟩,d0,d1,d2⟩:=((Blk.new (w.alloc (.cells #[.int .i64 a.id,.int .i64 a.bal,.slice A a.pos.length c] 78)) 78 #[.int .i64 0,.int .i64 0,.slice none 0 0]).below hb1 (by simp)).c3;obtain ⟨⟨b0,b1,b2⟩,e0,e1,e2⟩:=(((Blk.new w 78 #[.int .i64 a.id,.int .i64 a.bal,.slice A a.pos.length c]).alloc (.cells #[.int .i64 0,.int .i64 0,.slice none 0 0] 78)).below hb1 (by simp;omega)).c3;simp only [World.size_alloc] at c0 c1 c2 d0 d1 d2;have hz1:w.heap.size + 1 < w1.heap.size:=by have:=hb1.size;simp at this;omega
 go_wp2_with fail
 refine (zc3 _ _ _).mono ?_;rintro e w' ⟨rfl,rfl⟩;rw [HW.out];go_wp2_with fail
 refine bodyPost_ret (v:=.tuple #[.agg #[.int .i64 0,.int .i64 0,.slice none 0 0],.int .i64 3]) (by simp [results,Tryz.results100,go_sem, *]) rfl ?_;rw [HE.out];refine zeB ?_;have h9:Below w.heap.size w w1:=(((Below.refl _ _).alloc (zl _) _).alloc (by simp) _).trans (hb1.mono (by simp;omega));repeat (first | exact h9 | refine Below.setCell ?_ (by simp) _)
set_option maxHeartbeats 2000000 in
theorem zoE (a:Ac) (A:Option Addr) (c:Nat) (m q p f:Int) (B:Nat) (w:World) (h:Rd w B 1 A a.pos.length c (ints a.pos)) (hB:B ≤ w.heap.size) (h0:zaj a.id a.bal a.pos a.pos.length=0) (h1:0 ≤ m∧m < (a.pos.length:Int)) (h2:zaC q p=(q * p,0)) (hw:-10000000 ≤ q * p∧q * p ≤ 10000000) (g s es:Int) (hg:-zcT f=g)
  (hf:f < -1000000000001∧g=1000000000001∨(-1000000000001 ≤ f∧f ≤ 1000000000001)∧g = -f∨1000000000001 < f∧g = -1000000000001) (h3:zaB [a.bal,-(q * p),g]=(s,es)) (h5:es ≠ 0) :
  Calls Tryz.prog 100 #[.agg #[.int .i64 a.id,.int .i64 a.bal,.slice A a.pos.length c],.int .i64 m,.int .i64 q,.int .i64 p,.int .i64 f] w (zeA w (zaZ a m q p f)):=by
 have HE:=zi (show zaZ a m q p f=(zc2,es) by rw [zkT h0 h1 h2 hg h3,if_pos h5]);have HC:=zi h0;have HW:=zi h2;have HS:=zi h3;have hes:(es != 0)=true:=by simpa using h5
 have hbal:=(zaw h0).2.2.2.1;obtain ⟨h6,h4⟩:=h1;clear h0 h2 h3 h5 hg;obtain ⟨hw1,hw2⟩:=hw;rcases hf with ⟨hf,rfl⟩ | ⟨⟨hf,hf'⟩,rfl⟩ | ⟨hf,rfl⟩;all_goals
  go_enter Tryz.func100,Tryz.ntmps100
  go_wp2_with fail
  refine (zbn _ _ _ _ _ _ _ _ _ ((h.alloc hB _).alloc (by simp;omega) _) (by simp;omega)).mono ?_;rintro e w1 ⟨rfl,hb1⟩;rw [HC.out];obtain ⟨⟨c0,c1,c2⟩,d0,d1,d2⟩:=((Blk.new (w.alloc (.cells #[.int .i64 a.id,.int .i64 a.bal,.slice A a.pos.length c] 78)) 78 #[.int .i64 0,.int .i64 0,.slice none 0 0]).below hb1 (by simp)).c3;obtain ⟨⟨b0,b1,b2⟩,e0,e1,e2⟩:=(((Blk.new w 78 #[.int .i64 a.id,.int .i64 a.bal,.slice A a.pos.length c]).alloc (.cells #[.int .i64 0,.int .i64 0,.slice none 0 0] 78)).below hb1 (by simp;omega)).c3;simp only [World.size_alloc] at c0 c1 c2 d0 d1 d2;have hz1:w.heap.size + 1 < w1.heap.size:=by have:=hb1.size;simp at this;omega
  go_wp2_with fail
  refine (zc3 _ _ _).mono ?_;rintro e w' ⟨rfl,rfl⟩;rw [HW.out];go_wp2_with fail
  refine (zdX _ _ _ [a.bal,-(q * p),_] _ _ (Rd.new_at w1 _ _ _ 3 rfl rfl (by decide))).mono ?_;rintro e w' ⟨rfl,rfl⟩;rw [HS.out];go_wp2_with fail
  refine bodyPost_ret (v:=.tuple #[.agg #[.int .i64 0,.int .i64 0,.slice none 0 0],.int .i64 es]) (by simp [results,Tryz.results100,go_sem, *]) rfl ?_;rw [HE.out];refine zeB ?_;have h9:Below w.heap.size w w1:=(((Below.refl _ _).alloc (zl _) _).alloc (by simp) _).trans (hb1.mono (by simp;omega));repeat (first | exact h9 | refine Below.setCell ?_ (by simp) _ | refine Below.alloc ?_ (by simp [World.setCell];omega) _)
end
section
def zcg (L:List Ac) (id:Int):Ac:=(L.find? fun a=>decide (a.id=id)).getD zc2
def balOf (L:List Ac) (id:Int):Int:=(zcg L id).bal
def posOf (L:List Ac) (mk:Nat) (id:Int):Int:=(zcg L id).pos.getD mk 0
theorem zbR {L:List Ac} (h:zcO L) {k:Nat} {a:Ac} (hk:L[k]?=some a):zcg L a.id=a:=by
 unfold zcg;cases hf:L.find? (fun x=>decide (x.id=a.id)) with
 | none =>
  have:=List.find?_eq_none.1 hf a (List.mem_of_getElem? hk);simp at this
 | some b =>
  have h1:=List.mem_of_find?_eq_some hf;have h2:=List.find?_some hf;obtain ⟨i,hi⟩:=List.mem_iff_getElem?.1 h1;have:=zjH h hi hk (by simpa using h2);subst this;rw [hi] at hk;injection hk
theorem zdD {L:List Ac} {id:Int} (h:zas L id=false):zcg L id=zc2:=by
 unfold zcg;rw [List.find?_eq_none.2]
 ·rfl
 ·intro a ha;have:=zez.1 h a ha;simpa using this
theorem zh5 {α:Type} {L:List α} {k j:Nat} {a b:α} (hk:L[k]?=some a):(L.set k b)[j]?=if j=k then some b else L[j]?:=by
 rw [List.getElem?_set];have:=(List.getElem?_eq_some_iff.1 hk).1;by_cases h:k=j
 ·subst h;simp [this]
 ·simp [h,Ne.symm h]
theorem zdi {m:Nat} {L:List Ac} (h:AOk m L) {k:Nat} {a b:Ac} (hk:L[k]?=some a) (he:b.id=a.id) (id:Int):zcg (L.set k b) id=if id=a.id then b else zcg L id:=by
 have hs:zcO (L.set k b):=by rw [zdO,zdY hk he,← zdO];exact h.sorted
 by_cases hid:id=a.id
 ·rw [if_pos hid,hid,← he];exact zbR hs (k:=k) (by rw [zh5 hk,if_pos rfl])
 ·rw [if_neg hid];cases ht:zas L id with
  | false=>rw [zdD ht,zdD (by rw [zdh (zdY hk he)];exact ht)]
  | true =>
   obtain ⟨c,hc,hci⟩:=zcJ h.sorted ht;rw [← hci,zbR h.sorted hc];refine zbR hs (k:=zam L id) ?_;rw [zh5 hk,if_neg ?_,hc];intro e;rw [e,hk] at hc;injection hc with hc;subst hc;exact hid hci.symm
theorem zkt {v v':Vn} {mk:Nat} {who q p fee:Int} (ha:AOk v.mks.length v.accs) (h:zb3 v mk who q p fee=.ok v') :
  ∃ k a x,v.accs[k]?=some a∧a.id=who∧zaZ a mk q p fee=(x,0)∧x.id=a.id∧x.bal=a.bal - q * p - fee∧x.pos=a.pos.set mk (a.pos.getD mk 0 + q)∧mk < v.mks.length∧v'=zbK v k x∧AOk v.mks.length v'.accs∧k=zam v.accs who:=by
 unfold zb3 at h;cases ht:zas v.accs who with
 | false=>rw [ht,if_pos rfl] at h;cases h
 | true =>
  rw [ht,if_neg (by simp)] at h;obtain ⟨a,hk,hid⟩:=zcJ ha.sorted ht;have hat:zaR v (zam v.accs who)=a:=zaY hk;rw [hat] at h;unfold okIf at h;split at h
  ·cases h
  rename_i he;injection h with h;obtain ⟨x,hx⟩:∃ x,zaZ a mk q p fee=(x,0):=⟨_,Prod.ext rfl (by simpa using he)⟩;rw [hx] at h;obtain ⟨h1,h2,h3,h4,h5,h6,h7,h8,h9⟩:=zl9 hx;have hc:=ha.ok a (List.mem_of_getElem? hk);obtain ⟨g1,g2,g3,g4,g5⟩:=zaw hc;obtain ⟨t1,_,t3,_,t5⟩:=zjB hx;have hx1:x.id=a.id:=by rw [h6]
  have hmk:(mk:Int).toNat=mk:=by omega
  rw [hmk] at h6 h8;refine ⟨_,a,x,hk,hid,hx,hx1,by rw [h6],by rw [h6],by omega,h.symm,?_,rfl⟩;rw [← h];refine zks ha hk hx1 (zeT (by rw [hx1];exact g1) g2 (by rw [t1];exact g3) t3 ?_);rw [h6];simp only;simp only [zde,List.all_eq_true] at g5 ⊢;intro z hz;rcases List.mem_or_eq_of_mem_set hz with hz | rfl
  ·exact g5 z hz
  ·exact zgf.2 h8
structure TradeStep (v v':Vn) (mk:Nat) (t m q p fee:Int):Prop where
 mks:v'.mks=v.mks
 rest:v'.resid=v.resid∧v'.next=v.next∧v'.inn=v.inn∧v'.out=v.out
 ins:v'.ins=v.ins + fee∧zag v'.ins=true
 ids:v'.accs.map (·.id)=v.accs.map (·.id)
 accs:AOk v.mks.length v'.accs
 bal:zbd v'.accs=zbd v.accs - fee
 pos:∀ k,za5 k v'.accs=za5 k v.accs
 balOf:∀ id,balOf v'.accs id=balOf v.accs id - (if id=t then q * p + fee else 0) + (if id=m then q * p else 0)
 posOf:∀ k id,posOf v'.accs k id=posOf v.accs k id + (if k=mk∧id=t then q else 0) - (if k=mk∧id=m then q else 0)
 there:zas v.accs t=true∧zas v.accs m=true
 mkLt:mk < v.mks.length
theorem zjd {l:List Int} {mk:Nat} {x:Int} (hk:mk < l.length) (k:Nat):(l.set mk x).getD k 0=if k=mk then x else l.getD k 0:=by
 rw [List.getD,List.getD,List.getElem?_set];by_cases h:mk=k
 ·subst h;simp [hk]
 ·simp [h,Ne.symm h]
theorem zrA (q p:Int):-q * p = -(q * p):=Int.neg_mul q p
theorem zgl {v v':Vn} {mk:Nat} {t m q p fee:Int} (ha:AOk v.mks.length v.accs) (h:zcD v mk t m q p fee=.ok v'):TradeStep v v' mk t m q p fee:=by
 unfold zcD at h;cases h1:zb3 v mk t q p fee with
 | error e=>rw [h1] at h;cases h
 | ok v1 =>
  rw [h1] at h;simp only [zby] at h;obtain ⟨k1,a1,x1,hk1,hi1,ht1,hx1,hb1,hp1,hm1,rfl,hA1,_⟩:=zkt ha h1;cases h2:zb3 (zbK v k1 x1) mk m (-q) p 0 with
  | error e=>rw [h2] at h;cases h
  | ok v2 =>
   rw [h2] at h;simp only [okIf] at h;obtain ⟨k2,a2,x2,hk2,hi2,ht2,hx2,hb2,hp2,hm2,rfl,hA2,_⟩:=zkt (v:=zbK v k1 x1) hA1 h2;split at h
   ·cases h
   rename_i he;injection h with h;obtain ⟨s,hs⟩:∃ s,zaB [v.ins,fee]=(s,0):=⟨_,Prod.ext rfl (by simpa [zbK] using he)⟩;have hs':zaB [(zbK (zbK v k1 x1) k2 x2).ins,fee]=(s,0):=hs;rw [hs'] at h;obtain ⟨hs1,hs2⟩:=zgp hs;have hk2':(v.accs.set k1 x1)[k2]?=some a2:=hk2;have idsE:((v.accs.set k1 x1).set k2 x2).map (·.id)=v.accs.map (·.id):=by rw [zdY hk2' hx2,zdY hk1 hx1]
   have l1:mk < a1.pos.length:=by
    have:=(zaw (ha.ok a1 (List.mem_of_getElem? hk1))).2.2.1;omega
   have hA1':AOk v.mks.length (v.accs.set k1 x1):=hA1;have l2:mk < a2.pos.length:=by
    have:=(zaw (hA1'.ok a2 (List.mem_of_getElem? hk2'))).2.2.1;omega
   subst h;have e1:=zrA q p;refine ⟨rfl,⟨rfl,rfl,rfl,rfl⟩,⟨hs1,hs2⟩,idsE,hA2,?_,fun k=>?_,fun id=>?_,fun k id=>?_,⟨?_,?_⟩,hm1⟩
   ·show zbd ((v.accs.set k1 x1).set k2 x2)=_;rw [zhE hk2',zhE hk1,hb1,hb2,e1];omega
   ·show za5 k ((v.accs.set k1 x1).set k2 x2)=_;rw [zhF hk2',zhF hk1,hp1,hp2,zjd l1,zjd l2];by_cases hk:k=mk
    ·subst hk;rw [if_pos rfl,if_pos rfl];omega
    ·rw [if_neg hk,if_neg hk];omega
   ·show (zcg ((v.accs.set k1 x1).set k2 x2) id).bal=(zcg v.accs id).bal - _ + _;rw [zdi hA1' hk2' hx2,hi2];by_cases hm:id=m
    ·rw [if_pos hm,if_pos hm,hb2,e1];have e2:a2=zcg (v.accs.set k1 x1) id:=by rw [hm,← hi2];exact (zbR hA1'.sorted hk2').symm
     rw [e2,zdi ha hk1 hx1,hi1];by_cases ht:id=t
     ·rw [if_pos ht,if_pos ht,hb1,ht,← hi1,zbR ha.sorted hk1];omega
     ·rw [if_neg ht,if_neg ht];omega
    ·rw [if_neg hm,if_neg hm,zdi ha hk1 hx1,hi1];by_cases ht:id=t
     ·rw [if_pos ht,if_pos ht,hb1,ht,← hi1,zbR ha.sorted hk1];omega
     ·rw [if_neg ht,if_neg ht];omega
   ·show (zcg ((v.accs.set k1 x1).set k2 x2) id).pos.getD k 0=(zcg v.accs id).pos.getD k 0 + _ - _;rw [zdi hA1' hk2' hx2,hi2];have e3:∀ (c:Ac) (y:Int),mk < c.pos.length→(c.pos.set mk (c.pos.getD mk 0 + y)).getD k 0=c.pos.getD k 0 + if k=mk then y else 0:=by
     intro c y hl;rw [zjd hl];by_cases hk:k=mk
     ·rw [if_pos hk,if_pos hk,hk]
     ·rw [if_neg hk,if_neg hk];omega
    by_cases hm:id=m
    ·have e2:a2=zcg (v.accs.set k1 x1) id:=by rw [hm,← hi2];exact (zbR hA1'.sorted hk2').symm
     rw [if_pos hm,hp2,e3 a2 _ l2,e2,zdi ha hk1 hx1,hi1];by_cases ht:id=t
     ·rw [if_pos ht,hp1,e3 a1 _ l1,ht,← hi1,zbR ha.sorted hk1];rw [ht] at hm;by_cases hk:k=mk <;> simp [hk,hi1,hm] <;> omega
     ·rw [if_neg ht];by_cases hk:k=mk <;> simp [hk,hm] <;> omega
    ·rw [if_neg hm,zdi ha hk1 hx1,hi1];by_cases ht:id=t
     ·rw [if_pos ht,hp1,e3 a1 _ l1,ht,← hi1,zbR ha.sorted hk1];rw [ht] at hm;by_cases hk:k=mk <;> simp [hk,hi1,hm]
     ·rw [if_neg ht];by_cases hk:k=mk <;> simp [ht,hm]
   ·rw [← hi1];exact zc5.2 ⟨a1,List.mem_of_getElem? hk1,rfl⟩
   ·have:zas (v.accs.set k1 x1) m=true:=zc5.2 ⟨a2,List.mem_of_getElem? hk2',hi2⟩;rw [zdh (zdY hk1 hx1)] at this;exact this
end
end Go.Proofs.YtockodmbhnlheaaGreatDoor
