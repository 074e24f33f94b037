import Derived.Test.YtockodmbhnlheaaGreatDoorBJ
namespace Go.Proofs.YtockodmbhnlheaaGreatDoor
section
open Go.RowKit
theorem zeG {w:World} {B k b o n c:Nat} {xs:List Value} (h:Rd w B k (some ⟨b,o,none⟩) n c xs) {j:Nat} (hj:j < xs.length) {u:Value} (hu:w.cell? ⟨b,o + j,none⟩=some u):xs[j]?=some u:=by
 obtain ⟨b',o',e,_,hc⟩:=h.one (List.getElem?_eq_getElem hj);injection e with e;injection e with e1 e2;subst e1;subst e2;rw [hc] at hu;rw [List.getElem?_eq_getElem hj];exact hu
theorem zsn {w:World} {B n c:Nat} {A:Option Addr} {L:List Ac} {xs:List Value} (h:RdL ze0 w B A n c L) (hx:Rd w B 3 A n c xs) {i:Nat} {a:Ac} (ha:L[i]?=some a) :
  ∃ A2 c2,xs[i * 3]?=some (.int .i64 a.id)∧xs[i * 3 + 1]?=some (.int .i64 a.bal)∧xs[i * 3 + 2]?=some (.slice A2 a.pos.length c2)∧Rd w B 1 A2 a.pos.length c2 (ints a.pos)∧a.pos.length * 8 ≤ 140737488355328:=by
 have hl:=(List.getElem?_eq_some_iff.1 ha).1;have hn:L.length=n:=h.len;have hxl:=hx.len;obtain ⟨b,o,a',rfl,_,ha',A2,c2,h0,h1,h2,h3,h4⟩:=zfZ h (i:=i) (by omega);rw [ha] at ha';injection ha' with ha';subst ha';exact ⟨A2,c2,zeG hx (by omega) h0,zeG hx (by omega) h1,zeG hx (by omega) h2,h3,h4⟩
theorem ztp {w:World} {B n c:Nat} {A:Option Addr} {L:List Mk} {xs:List Value} (h:RdL shMk w B A n c L) (hx:Rd w B 4 A n c xs) {i:Nat} {a:Mk} (ha:L[i]?=some a) :
  ∃ A2 c2 A3 c3,xs[i * 4]?=some (.slice A2 a.book.bids.length c2)∧xs[i * 4 + 1]?=some (.slice A3 a.book.asks.length c3)∧xs[i * 4 + 2]?=some (.int .i64 a.index)∧xs[i * 4 + 3]?=some (.int .i64 a.last)∧BkR w B A2 A3 c2 c3 a.book∧a.book.bids.length ≤ 4000000000000∧a.book.asks.length ≤ 4000000000000:=by
 have hl:=(List.getElem?_eq_some_iff.1 ha).1;have hn:L.length=n:=h.len;have hxl:=hx.len;obtain ⟨b,o,a',rfl,_,ha',A2,c2,A3,c3,h0,h1,h2,h3,h4⟩:=zjX h (i:=i) (by omega);rw [ha] at ha';injection ha' with ha';subst ha';exact ⟨A2,c2,A3,c3,zeG hx (by omega) h0,zeG hx (by omega) h1,zeG hx (by omega) h2,zeG hx (by omega) h3,h4⟩
structure PaA (w:World) (base:Nat) (A:Option Addr) (n c:Nat) (L:List Ac) (xs0:List Value) (j:Nat) (xs:List Value):Prop where
 row:w.ownsRow base 78 3 (.slice A n c) n xs
 len:L.length=n
 done:∀ i a,i < j→L[i]?=some a→AcCell w base xs i a
 rest:∀ q,j * 3 ≤ q→xs[q]?=xs0[q]?
section
variable {w w' W Z:World} {base n c j g:Nat} {A:Option Addr} {L:List Ac} {xs0 xs:List Value} {a:Ac}
theorem PaA.below (h:PaA w base A n c L xs0 j xs) (hb:Below w.heap.size w w'):PaA w' base A n c L xs0 j xs :=
 ⟨zaf h.row hb (zl _),h.len,fun i a hi ha=>(h.done i a hi ha).mono fun _ _ _ hr=>zaf hr hb (zl _),h.rest⟩
theorem PaA.kept {S:List TypeId} (h:PaA w base A n c L xs0 j xs) (hb:Kept S w w') (h1:78 ∉ S) (h2:3 ∉ S):PaA w' base A n c L xs0 j xs :=
 ⟨hb.own h.row h1,h.len,fun i a hi ha=>(h.done i a hi ha).mono fun _ _ _ hr=>hb.own hr h2,h.rest⟩
theorem PaA.own (h:PaA w base A n c L xs0 n xs):OwnAc w base A n c L xs:=⟨h.row,h.len,fun i a ha=>h.done i a (by have:=(List.getElem?_eq_some_iff.1 ha).1;rw [h.len] at this;exact this) ha⟩
theorem PaA.at_ (h:PaA w base A n c L xs0 j xs) (hj:j < n):∃ g,A=some ⟨g,0,none⟩∧base ≤ g∧g < w.heap.size∧(∃ cs,Blk w g 78 cs)∧∀ q u,j * 3 ≤ q→xs0[q]?=some u→w.cell? ⟨g,q,none⟩=some u∧w.frozen? ⟨g,q,none⟩=false:=by
 obtain ⟨g,cs,rfl,hb,hg⟩:=zdk h.row (by omega);refine ⟨g,rfl,hb,hg.lt,⟨cs,hg⟩,fun q u hq hu=>⟨?_,hg.frozen _⟩⟩;rw [← h.rest q hq] at hu;obtain ⟨b',o',e,_,hc⟩:=(Rd.of_own h.row).one hu;injection e with e;injection e with e1 e2;subst e1;subst e2;rw [Nat.zero_add] at hc;exact hc
theorem PaA.next {A3:Option Addr} {c3:Nat} (h:PaA w base (some ⟨g,0,none⟩) n c L xs0 j xs) (hj:j < n) (ha:L[j]?=some a) (ho:w.ownsRow base 3 1 (.slice A3 a.pos.length c3) a.pos.length (ints a.pos)) (hl:a.pos.length * 8 ≤ 140737488355328)
  (hZ:Z=((w.setCell ⟨g,j * 3,none⟩ (.int .i64 a.id)).setCell ⟨g,j * 3 + 1,none⟩ (.int .i64 a.bal)).setCell ⟨g,j * 3 + 2,none⟩ (.slice A3 a.pos.length c3)) :
  ∃ xs',PaA Z base (some ⟨g,0,none⟩) n c L xs0 (j + 1) xs':=by
 have hlen:=h.row.1;have hK:Kept [78] w Z:=by
  obtain ⟨g',cs,e1,_,hb⟩:=zdk h.row (by omega);injection e1 with e1;injection e1 with e1;subst e1;rw [hZ];exact (((Kept.refl _ _).set hb (by decide) _ _).set (hb.set_ _ _) (by decide) _ _).set ((hb.set_ _ _).set_ _ _) (by decide) _ _
 refine ⟨((xs.set (j * 3) (.int .i64 a.id)).set (j * 3 + 1) (.int .i64 a.bal)).set (j * 3 + 2) (.slice A3 a.pos.length c3),?_,h.len,fun i b hi hb=>?_,fun q hq=>?_⟩
 ·rw [hZ];exact zcp (zcp (zcp h.row _ _) _ _) _ _
 ·by_cases e:i=j
  ·subst e;rw [ha] at hb;injection hb with hb;subst hb;refine ⟨A3,c3,?_,?_,?_,hK.own ho (by decide),hl⟩
   ·rw [zab (by omega),zab (by omega),List.getElem?_set_self (by omega)]
   ·rw [zab (by omega),List.getElem?_set_self (by rw [List.length_set];omega)]
   ·rw [List.getElem?_set_self (by rw [List.length_set,List.length_set];omega)]
  ·obtain ⟨A2,c2,k1,k2,k3,k4,k5⟩:=h.done i b (by omega) hb;refine ⟨A2,c2,?_,?_,?_,hK.own k4 (by decide),k5⟩
   ·rw [zab (by omega),zab (by omega),zab (by omega)];exact k1
   ·rw [zab (by omega),zab (by omega),zab (by omega)];exact k2
   ·rw [zab (by omega),zab (by omega),zab (by omega)];exact k3
 ·rw [zab (by omega),zab (by omega),zab (by omega)];exact h.rest q (by omega)
end
def ztq (xs:List Value) (n:Nat):Prop:=∀ i s j t u v g,i < n→j < n→s < 2→t < 2→xs[i * 4 + s]?=some u→xs[j * 4 + t]?=some v→u.ownBlock=some g→v.ownBlock=some g→i=j∧s=t
structure PaM (w:World) (base:Nat) (A:Option Addr) (n c:Nat) (L:List Mk) (xs0:List Value) (j:Nat) (xs:List Value):Prop where
 row:w.ownsRow base 85 4 (.slice A n c) n xs
 len:L.length=n
 done:∀ i a,i < j→L[i]?=some a→MkCell w base xs i a
 apart:ztq xs j
 rest:∀ q,j * 4 ≤ q→xs[q]?=xs0[q]?
section
variable {w w' W Z:World} {base n c j g:Nat} {A:Option Addr} {L:List Mk} {xs0 xs:List Value} {a:Mk}
theorem PaM.below (h:PaM w base A n c L xs0 j xs) (hb:Below w.heap.size w w'):PaM w' base A n c L xs0 j xs :=
 ⟨zaf h.row hb (zl _),h.len,fun i a hi ha=>(h.done i a hi ha).mono fun _ _ _ hr=>zaf hr hb (zl _),h.apart,h.rest⟩
theorem PaM.kept {S:List TypeId} (h:PaM w base A n c L xs0 j xs) (hb:Kept S w w') (h1:85 ∉ S) (h2:32 ∉ S):PaM w' base A n c L xs0 j xs :=
 ⟨hb.own h.row h1,h.len,fun i a hi ha=>(h.done i a hi ha).mono fun _ _ _ hr=>hb.own hr h2,h.apart,h.rest⟩
theorem PaM.own (h:PaM w base A n c L xs0 n xs):OwnMk w base true A n c L xs :=
 ⟨h.row,h.len,fun i a ha=>h.done i a (by have:=(List.getElem?_eq_some_iff.1 ha).1;rw [h.len] at this;exact this) ha,fun _ i s j t u v g hs ht hu hv=>by
  have hl:=h.row.1;have h1:=(List.getElem?_eq_some_iff.1 hu).1;have h2:=(List.getElem?_eq_some_iff.1 hv).1;exact h.apart i s j t u v g (by omega) (by omega) hs ht hu hv⟩
theorem PaM.at_ (h:PaM w base A n c L xs0 j xs) (hj:j < n):∃ g,A=some ⟨g,0,none⟩∧base ≤ g∧g < w.heap.size∧(∃ cs,Blk w g 85 cs)∧∀ q u,j * 4 ≤ q→xs0[q]?=some u→w.cell? ⟨g,q,none⟩=some u∧w.frozen? ⟨g,q,none⟩=false:=by
 obtain ⟨g,cs,rfl,hb,hg⟩:=zdk h.row (by omega);refine ⟨g,rfl,hb,hg.lt,⟨cs,hg⟩,fun q u hq hu=>⟨?_,hg.frozen _⟩⟩;rw [← h.rest q hq] at hu;obtain ⟨b',o',e,_,hc⟩:=(Rd.of_own h.row).one hu;injection e with e;injection e with e1 e2;subst e1;subst e2;rw [Nat.zero_add] at hc;exact hc
theorem PaM.under (h:PaM w base A n c L xs0 j xs) {i s:Nat} {u:Value} {q:Nat} (hi:i < j) (hs:s < 2) (hu:xs[i * 4 + s]?=some u) (hq:u.ownBlock=some q):q < w.heap.size:=by
 have hl:=(List.getElem?_eq_some_iff.1 hu).1;have hr:=h.row.1;obtain ⟨A2,c2,A3,c3,k1,k2,k3,k4,k5,k6,k7⟩:=h.done i _ hi (List.getElem?_eq_getElem (by rw [h.len];omega));rcases (show s=0∨s=1 by omega) with rfl | rfl
 ·rw [Nat.add_zero,k1] at hu;injection hu with hu;subst hu;exact (World.ownsRow.lt k5.l _ hq).2
 ·rw [k2] at hu;injection hu with hu;subst hu;exact (World.ownsRow.lt k5.r _ hq).2
theorem PaM.next {W:World} {A2 A3:Option Addr} {c2 c3 nb na:Nat} (h:PaM w base (some ⟨g,0,none⟩) n c L xs0 j xs) (hw:Below w.heap.size w W) (hj:j < n) (ha:L[j]?=some a) (hx:xs0[j * 4 + 2]?=some (.int .i64 a.index)) (hy:xs0[j * 4 + 3]?=some (.int .i64 a.last)) (hnb:nb=a.book.bids.length) (hna:na=a.book.asks.length)
  (hbw:base ≤ w.heap.size) (ho:W.ownsRow w.heap.size 32 5 (.slice A2 nb c2) nb (zaa a.book.bids)) (ho':W.ownsRow w.heap.size 32 5 (.slice A3 na c3) na (zaa a.book.asks))
  (hne:∀ k,(Value.slice A2 nb c2).ownBlock=some k→(Value.slice A3 na c3).ownBlock ≠ some k) (hl:a.book.bids.length ≤ 4000000000000∧a.book.asks.length ≤ 4000000000000)
  (hZ:Z=(W.setCell ⟨g,j * 4,none⟩ (.slice A2 nb c2)).setCell ⟨g,j * 4 + 1,none⟩ (.slice A3 na c3)) :
  ∃ xs',PaM Z base (some ⟨g,0,none⟩) n c L xs0 (j + 1) xs':=by
 subst hnb;subst hna;have hW:=h.below hw;have hlen:=h.row.1;have hK:Kept [85] W Z:=by
  obtain ⟨g',cs,e1,_,hb⟩:=zdk hW.row (by omega);injection e1 with e1;injection e1 with e1;subst e1;rw [hZ];exact ((Kept.refl _ _).set hb (by decide) _ _).set (hb.set_ _ _) (by decide) _ _
 have hold:∀ i s,i < j→s < 2→((xs.set (j * 4) (.slice A2 a.book.bids.length c2)).set (j * 4 + 1) (.slice A3 a.book.asks.length c3))[i * 4 + s]?=xs[i * 4 + s]?:=fun i s hi hs=>by
  rw [zab (by omega),zab (by omega)]
 have hnew0:((xs.set (j * 4) (.slice A2 a.book.bids.length c2)).set (j * 4 + 1) (.slice A3 a.book.asks.length c3))[j * 4 + 0]?=some (.slice A2 a.book.bids.length c2):=by
  rw [zab (by omega),Nat.add_zero,List.getElem?_set_self (by omega)]
 have hnew1:((xs.set (j * 4) (.slice A2 a.book.bids.length c2)).set (j * 4 + 1) (.slice A3 a.book.asks.length c3))[j * 4 + 1]?=some (.slice A3 a.book.asks.length c3):=by
  rw [List.getElem?_set_self (by rw [List.length_set];omega)]
 have hfar:∀ s u q,s < 2→((xs.set (j * 4) (.slice A2 a.book.bids.length c2)).set (j * 4 + 1) (.slice A3 a.book.asks.length c3))[j * 4 + s]?=some u→u.ownBlock=some q→w.heap.size ≤ q:=by
  intro s u q hs hu hq;rcases (show s=0∨s=1 by omega) with rfl | rfl
  ·rw [hnew0] at hu;injection hu with hu;subst hu;exact (World.ownsRow.lt ho _ hq).1
  ·rw [hnew1] at hu;injection hu with hu;subst hu;exact (World.ownsRow.lt ho' _ hq).1
 refine ⟨(xs.set (j * 4) (.slice A2 a.book.bids.length c2)).set (j * 4 + 1) (.slice A3 a.book.asks.length c3),?_,h.len,fun i b hi hb=>?_,?_,fun q hq=>?_⟩
 ·rw [hZ];exact zcp (zcp hW.row _ _) _ _
 ·by_cases e:i=j
  ·subst e;rw [ha] at hb;injection hb with hb;subst hb;refine ⟨A2,c2,A3,c3,hnew0,hnew1,?_,?_,⟨hK.own (zae ho hbw) (by decide),hK.own (zae ho' hbw) (by decide)⟩,hl⟩
   ·rw [zab (by omega),zab (by omega),h.rest _ (by omega)];exact hx
   ·rw [zab (by omega),zab (by omega),h.rest _ (by omega)];exact hy
  ·obtain ⟨A4,c4,A5,c5,k1,k2,k3,k4,k5,k6⟩:=hW.done i b (by omega) hb;refine ⟨A4,c4,A5,c5,?_,?_,?_,?_,⟨hK.own k5.l (by decide),hK.own k5.r (by decide)⟩,k6⟩
   ·rw [zab (by omega),zab (by omega)];exact k1
   ·rw [zab (by omega),zab (by omega)];exact k2
   ·rw [zab (by omega),zab (by omega)];exact k3
   ·rw [zab (by omega),zab (by omega)];exact k4
 ·intro i s i' t u v q hi hi' hs ht hu hv hqu hqv;by_cases e:i=j
  ·by_cases e':i'=j
   ·subst e;subst e';rcases (show s=0∨s=1 by omega) with rfl | rfl <;> rcases (show t=0∨t=1 by omega) with rfl | rfl
    ·exact ⟨rfl,rfl⟩
    ·rw [hnew0] at hu;rw [hnew1] at hv;injection hu with hu;injection hv with hv;subst hu;subst hv;exact absurd hqv (hne _ hqu)
    ·rw [hnew1] at hu;rw [hnew0] at hv;injection hu with hu;injection hv with hv;subst hu;subst hv;exact absurd hqu (hne _ hqv)
    ·exact ⟨rfl,rfl⟩
   ·subst e;have h1:=hfar s u q hs hu hqu;rw [hold i' t (by omega) ht] at hv;have h2:=h.under (by omega) ht hv hqv;omega
  ·by_cases e':i'=j
   ·subst e';have h1:=hfar t v q ht hv hqv;rw [hold i s (by omega) hs] at hu;have h2:=h.under (by omega) hs hu hqu;omega
   ·rw [hold i s (by omega) hs] at hu;rw [hold i' t (by omega) ht] at hv;exact h.apart i s i' t u v q (by omega) (by omega) hs ht hu hv hqu hqv
 ·rw [zab (by omega),zab (by omega)];exact h.rest q (by omega)
end
set_option maxHeartbeats 400000 in
theorem zqX (A:Option Addr) (n c:Nat) (xs:List Value) (B:Nat) (w:World) (h:Rd w B 4 A n c xs) (h1:∀ u ∈ xs,u.oneCell'=true) (hB:B ≤ w.heap.size) (hb:n * 64 ≤ 140737488355328) :
  Calls Tryz.prog 52 #[.slice A n c] w (zfY w 85 4 n xs):=by
 have q:∀ (w:World) (a:Option Addr) (n c n' c':Nat),(binOp .eql 23 (.slice a n c) (.slice none n' c')).run Tryz.prog w=.ok (.bool a.isNone) w:=fun w a n c n' c'=>Lib.run_eql_slice_nil w _ _ a n c n' c' Tryz.underlying23;cases A with
 | none =>
  have h0:=h.nil rfl;have hle:=h.le;obtain rfl:n=0:=by omega
  have hx:xs = []:=List.eq_nil_of_length_eq_zero (by simpa using h.len);subst hx h0;go_enter Tryz.func52,Tryz.ntmps52
  go_wp2_with fail
  go_ret;exact ⟨_,rfl,World.ownsRow_nil _ _ _ _,Below.refl _ _⟩
 | some ad =>
  have HR:=zi h;have hle:=h.le;have hcap:=h.cap;clear h;go_enter Tryz.func52,Tryz.ntmps52
  go_wp2_with (at_builtin;refine zbe rfl _ _ _ rfl w.heap.size _ _ _ zrJ _ _ _ rfl (World.ownsRow_made w #[] 0 (zl _) (Nat.zero_le _) rfl) B (some ad) n c xs rfl (HR.out.alloc hB _) h1 (by simp only [maxLen] at hcap ⊢;omega) (by omega) (by simp) ?_;intro v' w' hown hbel hg _)
  go_ret;exact ⟨_,rfl,by simpa using hown,((Below.refl _ _).alloc (zl _) _).trans hbel⟩
structure CpR (w wr:World) (v:Vn) (fa fm:List Value) (Aa:Option Addr) (ca:Nat) (Am:Option Addr) (km:Nat) (i j:Nat) (xs ys:List Value):Prop where
 pa:PaA wr w.heap.size Aa v.accs.length ca v.accs fa i xs
 pm:PaM wr w.heap.size Am v.mks.length km v.mks fm j ys
 x:Blk wr w.heap.size 25 #[.slice Aa v.accs.length ca,.slice Am v.mks.length km,.int .i64 v.ins,.int .i64 v.resid,.int .i64 v.next,.int .i64 v.inn,.int .i64 v.out]
 r:Blk wr (w.heap.size + 1) 25 #[.slice none 0 0,.slice none 0 0,.int .i64 0,.int .i64 0,.int .i64 0,.int .i64 0,.int .i64 0]
 low:Below w.heap.size w wr
section
variable {w wr W Z:World} {v:Vn} {fa fm:List Value} {Aa Am:Option Addr} {ca km i j g:Nat} {xs ys:List Value}
theorem CpR.below (h:CpR w wr v fa fm Aa ca Am km i j xs ys) (hb:Below wr.heap.size wr W):CpR w W v fa fm Aa ca Am km i j xs ys :=
 ⟨h.pa.below hb,h.pm.below hb,h.x.below hb h.x.lt,h.r.below hb h.r.lt,h.low.trans (hb.mono h.low.size)⟩
theorem CpR.acc {a:Ac} {A3:Option Addr} {c3:Nat} (h:CpR w wr v fa fm (some ⟨g,0,none⟩) ca Am km i j xs ys) (hj:i < v.accs.length) (ha:v.accs[i]?=some a) (ho:wr.ownsRow w.heap.size 3 1 (.slice A3 a.pos.length c3) a.pos.length (ints a.pos)) (hl:a.pos.length * 8 ≤ 140737488355328)
  (hZ:Z=((wr.setCell ⟨g,i * 3,none⟩ (.int .i64 a.id)).setCell ⟨g,i * 3 + 1,none⟩ (.int .i64 a.bal)).setCell ⟨g,i * 3 + 2,none⟩ (.slice A3 a.pos.length c3)) :
  ∃ xs',CpR w Z v fa fm (some ⟨g,0,none⟩) ca Am km (i + 1) j xs' ys:=by
 obtain ⟨g',hg',hb,_,⟨cs,hg⟩,_⟩:=h.pa.at_ hj;injection hg' with hg';injection hg' with hg';subst hg';have hK:Kept [78] wr Z:=by rw [hZ];exact (((Kept.refl _ _).set hg (by decide) _ _).set (hg.set_ _ _) (by decide) _ _).set ((hg.set_ _ _).set_ _ _) (by decide) _ _
 obtain ⟨xs',hn⟩:=h.pa.next hj ha ho hl hZ;exact ⟨xs',hn,h.pm.kept hK (by decide) (by decide),h.x.kept hK (by decide),h.r.kept hK (by decide),by rw [hZ];exact ((h.low.setCell hb _).setCell hb _).setCell hb _⟩
theorem CpR.mkt {a:Mk} {A2 A3:Option Addr} {c2 c3 nb na:Nat} (h:CpR w wr v fa fm Aa ca (some ⟨g,0,none⟩) km i j xs ys) (hw:Below wr.heap.size wr W) (hj:j < v.mks.length) (ha:v.mks[j]?=some a) (hx:fm[j * 4 + 2]?=some (.int .i64 a.index)) (hy:fm[j * 4 + 3]?=some (.int .i64 a.last)) (hnb:nb=a.book.bids.length) (hna:na=a.book.asks.length)
  (ho:W.ownsRow wr.heap.size 32 5 (.slice A2 nb c2) nb (zaa a.book.bids)) (ho':W.ownsRow wr.heap.size 32 5 (.slice A3 na c3) na (zaa a.book.asks))
  (hne:∀ k,(Value.slice A2 nb c2).ownBlock=some k→(Value.slice A3 na c3).ownBlock ≠ some k) (hl:a.book.bids.length ≤ 4000000000000∧a.book.asks.length ≤ 4000000000000)
  (hZ:Z=(W.setCell ⟨g,j * 4,none⟩ (.slice A2 nb c2)).setCell ⟨g,j * 4 + 1,none⟩ (.slice A3 na c3)) :
  ∃ ys',CpR w Z v fa fm Aa ca (some ⟨g,0,none⟩) km i (j + 1) xs ys':=by
 have h2:=h.below hw;obtain ⟨g',hg',hb,_,⟨cs,hg⟩,_⟩:=h2.pm.at_ hj;injection hg' with hg';injection hg' with hg';subst hg';have hK:Kept [85] W Z:=by rw [hZ];exact ((Kept.refl _ _).set hg (by decide) _ _).set (hg.set_ _ _) (by decide) _ _
 obtain ⟨ys',hn⟩:=h.pm.next hw hj ha hx hy hnb hna h.low.size ho ho' hne hl hZ;exact ⟨ys',h2.pa.kept hK (by decide) (by decide),hn,h2.x.kept hK (by decide),h2.r.kept hK (by decide),by rw [hZ];exact (h2.low.setCell hb _).setCell hb _⟩
end
end
end Go.Proofs.YtockodmbhnlheaaGreatDoor
