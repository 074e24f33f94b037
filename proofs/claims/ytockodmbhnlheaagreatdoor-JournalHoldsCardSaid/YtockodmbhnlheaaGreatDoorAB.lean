import Derived.Test.YtockodmbhnlheaaGreatDoorAA
import Derived.WalkKit
import Derived.Deep.Draws
import Derived.Test.YtockodmbhnlheaaGreatDoorProg
import Derived.Maps.AppendAt
import Derived.Laws.AppendOwnNone
import Derived.OwnWalk
import Derived.WalkSpells
import Derived.WalkLawsBesides
import Derived.Deep.QuietTactic
import Derived.BigQuiet
import Derived.Lib.Hide
namespace Go.Proofs.YtockodmbhnlheaaGreatDoor
section
open Go.RowKit
theorem zbl {a b:Bool} (h:a=b):Ending.returned (.bool a)=.returned (.bool b):=by rw [h]
theorem zay {a b:Int} (h:a=b):Ending.returned (.int .i64 a)=.returned (.int .i64 b):=by rw [h]
theorem za6 {a b c d:Int} (h:(a,b)=(c,d)):Ending.returned (.tuple #[.int .i64 a,.int .i64 b])=.returned (.tuple #[.int .i64 c,.int .i64 d]):=by
 injection h with h1 h2;rw [h1,h2]
theorem zsP {A:Option Addr} {n n' c:Nat} {x y:Int} (h:n=n'):Ending.returned (.tuple #[.slice A n c,.int .i64 x,.int .i64 y])=.returned (.tuple #[.slice A n' c,.int .i64 x,.int .i64 y]):=by rw [h]
def ints (l:List Int):List Value:=l.map (Value.int .i64)
theorem zhv {l:List Int} {j:Nat} {z:Int} (h:l[j]?=some z):(ints l)[j]?=some (.int .i64 z):=by simp [ints,h]
structure Rd (w:World) (B k:Nat) (A:Option Addr) (n c:Nat) (xs:List Value):Prop where
 len:xs.length=n * k
 le:n ≤ c
 cap:c ≤ maxLen
 nil:A=none→c=0
 at_:0 < n→∃ b o,A=some ⟨b,o,none⟩∧b < B∧∀ j u,xs[j]?=some u→w.cell? ⟨b,o + j,none⟩=some u
theorem zsF {W w1:World} (hb:Below W.heap.size W w1):(∀ b o,b < W.heap.size→w1.cell? ⟨b,o,none⟩=W.cell? ⟨b,o,none⟩)∧(∀ b o,b < W.heap.size→w1.frozen? ⟨b,o,none⟩=W.frozen? ⟨b,o,none⟩) :=
 ⟨fun b o h=>hb.cell (p:=⟨b,o,none⟩) h,fun b o h=>hb.frozen (p:=⟨b,o,none⟩) h⟩
def Blk (w:World) (g:Nat) (t:TypeId) (cs:Array Value):Prop:=w.heap[g]?=some (.cells cs t (0,0))
theorem Blk.cell {w:World} {g:Nat} {t:TypeId} {cs:Array Value} (h:Blk w g t cs) (i:Nat):w.cell? ⟨g,i,none⟩=cs[i]?:=by unfold Blk at h;simp [World.cell?,h]
theorem Blk.frozen {w:World} {g:Nat} {t:TypeId} {cs:Array Value} (h:Blk w g t cs) (i:Nat):w.frozen? ⟨g,i,none⟩=false:=by unfold Blk at h;simp [World.frozen?,h]
theorem Blk.lt {w:World} {g:Nat} {t:TypeId} {cs:Array Value} (h:Blk w g t cs):g < w.heap.size:=by
 rcases Nat.lt_or_ge g w.heap.size with h0 | h0
 ·exact h0
 ·unfold Blk at h;rw [Array.getElem?_eq_none h0] at h;cases h
theorem Blk.below {w w1:World} {g B:Nat} {t:TypeId} {cs:Array Value} (h:Blk w g t cs) (hb:Below B w w1) (hg:g < B):Blk w1 g t cs:=(hb.block g hg).trans h
theorem Blk.new (w:World) (t:TypeId) (cs:Array Value):Blk (w.alloc (.cells cs t)) w.heap.size t cs:=by
 show (w.heap.push _)[w.heap.size]?=_;simp
theorem Blk.alloc {w:World} {g:Nat} {t:TypeId} {cs:Array Value} (h:Blk w g t cs) (o:Obj):Blk (w.alloc o) g t cs:=(Below.heap_alloc w o g h.lt).trans h
theorem Blk.drewN {w:World} {g:Nat} {t:TypeId} {cs:Array Value} (h:Blk w g t cs) (q:Nat):Blk (w.drewN q) g t cs:=h
theorem Blk.set_ {w:World} {g:Nat} {t:TypeId} {cs:Array Value} (h:Blk w g t cs) (i:Nat) (u:Value):Blk (w.setCell ⟨g,i,none⟩ u) g t (cs.setIfInBounds i u):=by
 unfold Blk at h ⊢;simp [World.setCell,Array.getElem?_modify,h]
theorem Blk.far {w:World} {g:Nat} {t:TypeId} {cs:Array Value} (h:Blk w g t cs) {p:Addr} (hp:g ≠ p.block) (u:Value):Blk (w.setCell p u) g t cs:=(Below.heap_setCell w p u g hp).trans h
theorem Blk.c3 {w:World} {g:Nat} {t:TypeId} {a b c:Value} (h:Blk w g t #[a,b,c]) :
  (w.cell? ⟨g,0,none⟩=some a∧w.cell? ⟨g,1,none⟩=some b∧w.cell? ⟨g,2,none⟩=some c)∧w.frozen? ⟨g,0,none⟩=false∧w.frozen? ⟨g,1,none⟩=false∧w.frozen? ⟨g,2,none⟩=false :=
 ⟨⟨h.cell 0,h.cell 1,h.cell 2⟩,h.frozen 0,h.frozen 1,h.frozen 2⟩
theorem zac {B:Nat} {a w:World} (h:Below B a w) (n:Nat):Below B a (w.drewN n):=h.trans ⟨rfl,rfl,rfl,zl _,fun _ _=>rfl⟩
section
variable {w w':World} {B B' k n c:Nat} {A:Option Addr} {xs:List Value}
theorem Rd.none_ (w:World) (B k:Nat):Rd w B k none 0 0 []:=⟨by simp,zl _,by simp,fun _=>rfl,fun h=>absurd h (by omega)⟩
theorem Rd.mono (h:Rd w B k A n c xs) (hB:B ≤ B') (hk:∀ b o,b < B→w'.cell? ⟨b,o,none⟩=w.cell? ⟨b,o,none⟩):Rd w' B' k A n c xs :=
 ⟨h.len,h.le,h.cap,h.nil,fun hn=>by
  obtain ⟨b,o,e,hb,hc⟩:=h.at_ hn;exact ⟨b,o,e,by omega,fun j u hu=>(hk _ _ hb).trans (hc j u hu)⟩⟩
theorem Rd.mono_ne {g:Nat} (h:Rd w B k A n c xs) (hB:B ≤ B') (hne:∀ ad,A=some ad→ad.block ≠ g) (hk:∀ b o,b < B→b ≠ g→w'.cell? ⟨b,o,none⟩=w.cell? ⟨b,o,none⟩):Rd w' B' k A n c xs :=
 ⟨h.len,h.le,h.cap,h.nil,fun hn=>by
  obtain ⟨b,o,e,hb,hc⟩:=h.at_ hn;exact ⟨b,o,e,by omega,fun j u hu=>(hk _ _ hb (hne _ e)).trans (hc j u hu)⟩⟩
theorem Rd.below (h:Rd w B k A n c xs) (hb:Below B w w'):Rd w' B k A n c xs:=h.mono (zl _) fun _ _ hp=>hb.cell (p:=⟨_,_,_⟩) hp
theorem Rd.drewN (h:Rd w B k A n c xs) (q:Nat):Rd (w.drewN q) B k A n c xs:=h.mono (zl _) fun _ _ _=>rfl
theorem Rd.up (h:Rd w B k A n c xs) (hB:B ≤ B'):Rd w B' k A n c xs:=h.mono hB fun _ _ _=>rfl
theorem Rd.alloc (h:Rd w B k A n c xs) (hB:B ≤ w.heap.size) (o:Obj):Rd (w.alloc o) B k A n c xs :=
 h.mono (zl _) fun b o' hb=>World.cell?_alloc_lt (w:=w) (a:=⟨b,o',none⟩) (o:=o) (by show b < _;omega)
theorem Rd.new (w:World) (cs:Array Value) (t:TypeId) (n:Nat) (hn:cs.size=n) (hc:n ≤ maxLen):Rd (w.alloc (.cells cs t)) (w.heap.size + 1) 1 (some ⟨w.heap.size,0,none⟩) n n cs.toList :=
 ⟨by simp [hn],zl _,hc,nofun,fun _=>⟨_,_,rfl,by omega,fun j u hj=>by rw [World.cell?_alloc_new];simpa using hj⟩⟩
theorem Rd.new_at (w:World) (cs:Array Value) (t:TypeId) (g n:Nat) (hg:g=w.heap.size) (hn:cs.size=n) (hc:n ≤ maxLen):Rd (w.alloc (.cells cs t)) (g + 1) 1 (some ⟨g,0,none⟩) n n cs.toList:=by
 subst hg;exact Rd.new w cs t n hn hc
theorem Rd.one (h:Rd w B k A n c xs) {j:Nat} {u:Value} (hj:xs[j]?=some u):∃ b o,A=some ⟨b,o,none⟩∧b < B∧w.cell? ⟨b,o + j,none⟩=some u:=by
 have hl:j < xs.length:=(List.getElem?_eq_some_iff.1 hj).1;have hn:0 < n:=by
  rcases Nat.eq_zero_or_pos n with h0 | h0
  ·have:=h.len;simp [h0] at this;simp [this] at hl
  ·exact h0
 obtain ⟨b,o,e,hb,hc⟩:=h.at_ hn;exact ⟨b,o,e,hb,hc j u hj⟩
theorem Rd.ofInts {l:List Int} (h:Rd w B 1 A n c (ints l)):l.length=n:=by have:=h.len;simpa [ints] using this
theorem Rd.int {l:List Int} (h:Rd w B 1 A n c (ints l)) {j:Nat} (hj:j < n):∃ b o,A=some ⟨b,o,none⟩∧b < B∧∃ z,l[j]?=some z∧w.cell? ⟨b,o + j,none⟩=some (.int .i64 z):=by
 have hl:=h.ofInts;have hz:l[j]?=some l[j]:=List.getElem?_eq_getElem (by omega);obtain ⟨b,o,e,hb,hc⟩:=h.one (zhv hz);exact ⟨b,o,e,hb,_,hz,hc⟩
end
end
section
open Go.RowKit
structure Elem (P:Program) (t e:TypeId) (k bytes:Nat):Prop where
 ht:P.underlying t=some (.slice e)
 hi:∃ (i:TypeInfo) (z:Value),P.info? e=some i∧i.zero=some z∧i.size=k∧i.bytes=bytes∧z.cells.size=k
 pos:0 < k
theorem zei {P:Program} {t e:TypeId} {k bytes:Nat} (ht:P.underlying t=some (.slice e)) (h:(P.info? e).map (fun i=>(i.size,i.bytes,i.zero.map (·.cells.size)))=some (k,bytes,some k)) (pos:0 < k):Elem P t e k bytes:=by
 refine ⟨ht,?_,pos⟩;cases hi:P.info? e with
 | none=>rw [hi] at h;cases h
 | some i =>
  rw [hi] at h;simp only [Option.map_some,Option.some.injEq,Prod.mk.injEq] at h;obtain ⟨h1,h2,h3⟩:=h;cases hz:i.zero with
  | none=>rw [hz] at h3;cases h3
  | some z =>
   rw [hz] at h3;exact ⟨i,z,rfl,hz,h1,h2,by simpa using h3⟩
theorem Rd.of_own {w:World} {base e k n c:Nat} {A:Option Addr} {xs:List Value} (h:w.ownsRow base e k (.slice A n c) n xs):Rd w w.heap.size k A n c xs:=by
 obtain ⟨hl,h | ⟨g,cap,cur,hv,_,hh,hn,hc,hs,ht⟩⟩:=h
 ·obtain ⟨hv,rfl⟩:=h;injection hv with h1 h2 h3;subst h1 h3;have:xs = []:=List.eq_nil_of_length_eq_zero (by simpa using hl);subst this;exact Rd.none_ _ _ _
 ·injection hv with h1 _ h3;subst h1 h3;refine ⟨hl,hn,hc,nofun,fun _=>⟨g,0,rfl,?_,fun j u hj=>?_⟩⟩
  ·rcases Nat.lt_or_ge g w.heap.size with h0 | h0
   ·exact h0
   ·rw [Array.getElem?_eq_none h0] at hh;cases hh
  ·have hj':j < n * k:=by have:=(List.getElem?_eq_some_iff.1 hj).1;omega
   rw [← ht,List.getElem?_take_of_lt hj'] at hj;simp [World.cell?,hh,← hj]
theorem zae {w:World} {base base' e k n:Nat} {v:Value} {xs:List Value} (h:w.ownsRow base e k v n xs) (hb:base' ≤ base):w.ownsRow base' e k v n xs:=by
 obtain ⟨hl,⟨rfl,rfl⟩ | ⟨g,cap,cur,rfl,h1,h2⟩⟩:=h
 ·exact ⟨hl,.inl ⟨rfl,rfl⟩⟩
 ·exact ⟨hl,.inr ⟨g,cap,cur,rfl,by omega,h2⟩⟩
theorem zaz {w:World} {base e k n:Nat} {v:Value} {xs:List Value} (h:w.ownsRow base e k v n xs) (q:Nat):(w.drewN q).ownsRow base e k v n xs:=by
 obtain ⟨hl,h⟩:=h;exact ⟨hl,h⟩
theorem zaf {w w':World} {base e k n B:Nat} {v:Value} {xs:List Value} (h:w.ownsRow base e k v n xs) (hb:Below B w w') (hB:w.heap.size ≤ B):w'.ownsRow base e k v n xs:=by
 obtain ⟨hl,⟨rfl,rfl⟩ | ⟨g,cap,cur,rfl,h1,h2,h3⟩⟩:=h
 ·exact ⟨hl,.inl ⟨rfl,rfl⟩⟩
 ·refine ⟨hl,.inr ⟨g,cap,cur,rfl,h1,?_,h3⟩⟩;rw [hb.block g ?_];exact h2;rcases Nat.lt_or_ge g w.heap.size with h0 | h0
  ·omega
  ·rw [Array.getElem?_eq_none h0] at h2;cases h2
theorem zad {w:World} {base e k n:Nat} {v:Value} {xs:List Value} (h:w.ownsRow base e k v n xs):∃ A c,v=.slice A n c:=by
 obtain ⟨_,⟨rfl,rfl⟩ | ⟨g,cap,_,rfl,_⟩⟩:=h
 ·exact ⟨_,_,rfl⟩
 ·exact ⟨_,_,rfl⟩
section
variable {P:Program} {w:World}
theorem zsQ (base:Nat) (t ty e:TypeId) (k bytes:Nat) (E:Elem P t e k bytes) (v:Value) (n:Nat) (xs:List Value) (hown:w.ownsRow base e k v n xs)
  (B:Nat) (A:Option Addr) (m c:Nat) (news:List Value) (hr:Rd w B k A m c news) (h1:∀ u ∈ news,u.oneCell'=true)
  (hlen:n + m ≤ maxLen) (hbytes:(n + m) * bytes ≤ 140737488355328) (hbase:base ≤ w.heap.size) :
  ∃ v' w',(Builtin.append_ #[t,t] ty #[v,.slice A m c]).run P w=.ok v' w'∧w'.ownsRow base e k v' (n + m) (xs ++ news)∧w.grownBy w' v.ownBlock ∧
   (v'.ownBlock=v.ownBlock∨v'.ownBlock=some w.heap.size):=by
 obtain ⟨i,z,hi,hz,hsize,hby,hzs⟩:=E.hi;cases A with
 | none =>
  have hc0:=hr.nil rfl;have hm0:m=0:=by have:=hr.le;omega
  subst hm0;have hn:news = []:=List.eq_nil_of_length_eq_zero (by simpa using hr.len);subst hn hc0;refine ⟨v,w,run_append_owned_none (P:=P) (w:=w) base t ty e i k E.ht hi v n xs hown,by simpa using hown,World.grownBy.refl w _,.inl rfl⟩
 | some ad =>
  have hcells:∀ j u,news[j]?=some u→w.cell? (ad.add j)=some u:=by
   intro j u hu;obtain ⟨b,o,hA,_,hc⟩:=hr.one hu;injection hA with hA;subst hA;unfold Addr.add;by_cases h0:j=0
   ·subst h0;simpa using hc
   ·simpa [h0] using hc
  obtain ⟨v',w',h2,h3,h4,_,h6⟩:=run_append_own_at (P:=P) w base t ty e i z k bytes E.ht hi hz hsize hby hzs E.pos v n xs hown ad m c news hr.len hcells h1 hlen hbytes hbase;exact ⟨v',w',h2,h3,h4,h6⟩
theorem zhc {base e k n:Nat} {v:Value} {xs:List Value} {w w':World} (hown:w.ownsRow base e k v n xs) (hg:w.grownBy w' v.ownBlock) (hbase:base ≤ w.heap.size):Below base w w' :=
 (Below.refl _ _).grown hg hbase fun j hj=>(hown.lt j hj).1
theorem zl2 {o:Oper} {a:Act} {K:Act→World→Prop} {Q:Exit→Act→World→Prop} (s x:Operand) (t:TypeId)
  (ho:o.op=.call { callee:=.builtin .append,args:=#[s,x],argTypes:=#[t,t] })
  (base e k bytes:Nat) (E:Elem P t e k bytes) (v:Value) (n:Nat) (xs:List Value) (hs:a.eval s=v) (hown:w.ownsRow base e k v n xs)
  (B:Nat) (A:Option Addr) (m c:Nat) (news:List Value) (hx:a.eval x=.slice A m c) (hr:Rd w B k A m c news) (h1:∀ u ∈ news,u.oneCell'=true)
  (hlen:n + m ≤ maxLen) (hbytes:(n + m) * bytes ≤ 140737488355328) (hbase:base ≤ w.heap.size)
  (h:∀ v' w',w'.ownsRow base e k v' (n + m) (xs ++ news)→Below base w w'→w.grownBy w' v.ownBlock→(v'.ownBlock=v.ownBlock∨v'.ownBlock=some w.heap.size)→K (a.put o.dst v') w'):o.wp P a w K Q:=by
 obtain ⟨v',w',hrun,h2,h3,h4⟩:=zsQ (P:=P) base t o.type e k bytes E v n xs hown B A m c news hr h1 hlen hbytes hbase;unfold Oper.wp execOp;simp only [ho,resolve,invoke,builtin,Sem.run_bind,Sem.run_pure,Result.andThen_ok,List.map_toArray,List.map_cons,List.map_nil,hs,hx,hrun];exact h v' w' h2 (zhc hown h3 hbase) h3 h4
theorem zbe {ops:Array Oper} {rest:List Oper} {o:Oper} {a:Act} {Q:Exit→Act→World→Prop} (hgd:o.guard=none) (s x:Operand) (t:TypeId)
  (ho:o.op=.call { callee:=.builtin .append,args:=#[s,x],argTypes:=#[t,t] })
  (base e k bytes:Nat) (E:Elem P t e k bytes) (v:Value) (n:Nat) (xs:List Value) (hs:a.eval s=v) (hown:w.ownsRow base e k v n xs)
  (B:Nat) (A:Option Addr) (m c:Nat) (news:List Value) (hx:a.eval x=.slice A m c) (hr:Rd w B k A m c news) (h1:∀ u ∈ news,u.oneCell'=true)
  (hlen:n + m ≤ maxLen) (hbytes:(n + m) * bytes ≤ 140737488355328) (hbase:base ≤ w.heap.size)
  (h:∀ v' w',w'.ownsRow base e k v' (n + m) (xs ++ news)→Below base w w'→w.grownBy w' v.ownBlock→(v'.ownBlock=v.ownBlock∨v'.ownBlock=some w.heap.size)→wpList P ops Q rest (a.put o.dst v') w'):wpList P ops Q (o :: rest) a w :=
 wpList_plain hgd fun _ hK=>zl2 s x t ho base e k bytes E v n xs hs hown B A m c news hx hr h1 hlen hbytes hbase fun v' w' h2 h3 h4 h5=>hK _ _ (h v' w' h2 h3 h4 h5)
end
theorem zkK {w:World} {B k n c:Nat} {A:Option Addr} {xs:List Value} (h:Rd w B k A n c xs) (lo hi:Nat) (h1:lo ≤ hi) (h2:hi ≤ n) :
  ∃ A',sliced A lo hi c k=.slice A' (hi - lo) (c - lo)∧Rd w B k A' (hi - lo) (c - lo) ((xs.drop (lo * k)).take ((hi - lo) * k)):=by
 have hle:=h.le;have hcap:=h.cap;refine ⟨_,rfl,⟨?_,by omega,by omega,?_,fun hn=>?_⟩⟩
 ·rw [List.length_take,List.length_drop,h.len,← Nat.sub_mul];exact Nat.min_eq_left (Nat.mul_le_mul_right _ (by omega))
 ·intro hA;by_cases hc:c=lo
  ·omega
  ·simp [hc] at hA;have:=h.nil hA;omega
 ·obtain ⟨b,o,rfl,hb,hcell⟩:=h.at_ (by omega);have hc:¬ c=lo:=by omega
  refine ⟨b,o + lo * k,?_,hb,fun j u hj=>?_⟩
  ·simp only [hc,if_false,Option.map_some,Option.some.injEq];unfold Addr.add;by_cases h0:lo * k=0
   ·simp [h0]
   ·simp [h0]
  ·have hj':j < (hi - lo) * k:=by
    have:=(List.getElem?_eq_some_iff.1 hj).1;rw [List.length_take] at this;omega
   rw [List.getElem?_take_of_lt hj',List.getElem?_drop] at hj;rw [Nat.add_assoc];exact hcell _ _ hj
theorem zkL {P:Program} {t e k bytes:Nat} (E:Elem P t e k bytes) (w:World):(sizeOf (P.elem t)).run P w=.ok k w:=by
 obtain ⟨i,z,hi,_,hs,_,_⟩:=E.hi;simp [Program.elem,E.ht,sizeOf,typeInfo,hi,hs]
theorem zkM {P:Program} {t e k bytes:Nat} (E:Elem P t e k bytes):P.underlying t=some (.slice (P.elem t)):=by
 simp [Program.elem,E.ht]
theorem zsG {P:Program} {t e k bytes:Nat} (E:Elem P t e k bytes) {w:World} {B n c:Nat} {A:Option Addr} {xs:List Value} (h:Rd w B k A n c xs) (hi:Nat) (h2:hi ≤ n) :
  ∃ A',(∀ w',(Instr.slice t (.slice A n c) none (some (.int .i64 hi)) none).run P w'=.ok (.slice A' hi c) w')∧Rd w B k A' hi c (xs.take (hi * k)):=by
 obtain ⟨A',h3,h4⟩:=zkK h 0 hi (by omega) h2;refine ⟨A',fun w'=>?_,by simpa using h4⟩;have hle:=h.le;rw [run_slice_h _ _ _ _ _ (zkM E) .i64 hi (by omega) (by omega),zkL E];simp only [Result.andThen,Int.toNat_natCast];rw [h3];simp
theorem zok {P:Program} {t e k bytes:Nat} (E:Elem P t e k bytes) {w:World} {B n c:Nat} {A:Option Addr} {xs:List Value} (h:Rd w B k A n c xs) (lo:Nat) (h2:lo ≤ n) :
  ∃ A',(∀ w',(Instr.slice t (.slice A n c) (some (.int .i64 lo)) none none).run P w'=.ok (.slice A' (n - lo) (c - lo)) w')∧Rd w B k A' (n - lo) (c - lo) (xs.drop (lo * k)):=by
 obtain ⟨A',h3,h4⟩:=zkK h lo n h2 (zl _);refine ⟨A',fun w'=>?_,?_⟩
 ·rw [run_slice_l _ _ _ _ _ (zkM E) .i64 lo (by omega) (by omega),zkL E];simp only [Result.andThen,Int.toNat_natCast];rw [h3]
 ·rw [List.take_of_length_le (by rw [List.length_drop,h.len,← Nat.sub_mul];exact zl _)] at h4;exact h4
theorem zhw:Elem Tryz.prog 76 3 1 8:=zei Tryz.underlying76 (by kernel_rfl) (by decide)
theorem zhx (l:List Int):∀ u ∈ ints l,u.oneCell'=true:=ints_oneCell .i64 l
end
section
open Go.RowKit
def eqI (xs ys:List Int):Bool:=decide (xs=ys)
theorem zsR {xs ys:List Int}:eqI xs ys=true ↔ xs=ys:=by simp [eqI]
theorem zsS {xs ys:List Int} (h:xs.length ≠ ys.length):eqI xs ys=false:=by simp [eqI];rintro rfl;exact h rfl
theorem ztF {xs ys:List Int} {j:Nat} {a b:Int} (ha:xs[j]?=some a) (hb:ys[j]?=some b) (h:a ≠ b):eqI xs ys=false:=by
 simp [eqI];rintro rfl;rw [ha] at hb;exact h (Option.some.inj hb)
theorem ztG {xs ys:List Int} (hl:xs.length=ys.length) (h:xs.take xs.length=ys.take xs.length):eqI xs ys=true:=by
 rw [zsR];rwa [List.take_length,hl,List.take_length] at h
theorem zpF {xs ys:List Int} {j:Nat} {a b:Int} (ha:xs[j]?=some a) (hb:ys[j]?=some b) (h:a=b) (ht:xs.take j=ys.take j):xs.take (j + 1)=ys.take (j + 1):=by
 rw [List.take_add_one,List.take_add_one,ht,ha,hb,h]
set_option maxHeartbeats 1000000 in
theorem zol (A A':Option Addr) (n c n' c':Nat) (xs ys:List Int) (B B':Nat) (w:World) (h:Rd w B 1 A n c (ints xs)) (h':Rd w B' 1 A' n' c' (ints ys)) :
  Calls Tryz.prog 56 #[.slice A n c,.slice A' n' c'] w fun e w'=>e=.returned (.bool (eqI xs ys))∧∃ q,w'=w.drewN q:=by
 have hcap:=h.cap;have hle:=h.le;have hl:=h.ofInts;have hl':=h'.ofInts;unfold maxLen at hcap;by_cases hn:n=n'
 ·subst hn;have HL:=zi hl;have HL':=zi hl';clear hl hl';go_enter Tryz.func56,Tryz.ntmps56
  go_wp2_with fail
  go_loopw [13] (fun i wr=>∃ (j q:Nat),j ≤ n∧i=.int .i64 j∧wr=w.drewN q∧Hid (xs.take j=ys.take j)) (fun i _=>n - (intOf i).toNat)
  case atStart=>exact ⟨0,0,Nat.zero_le _,rfl,rfl,rfl⟩
  case round =>
   obtain ⟨j,q,hj,rfl,rfl,HT⟩:=hrel;by_cases hlt:j < n
   ·obtain ⟨b,o,rfl,_,z,hz,hc⟩:=h.int hlt;obtain ⟨b',o',rfl,_,z',hz',hc'⟩:=h'.int hlt;have hb0:(0:Int) ≤ (j:Int):=by omega
    have hb1:(j:Int) < (n:Int):=by omega
    by_cases hzz:z=z'
    ·have HN:=zi (zpF hz hz' hzz HT.out);subst hzz;clear hz hz';go_wp2_with fail
     go_quiet (fail)
     go_wp2_with fail
     go_roundw
     case rel=>exact ⟨j + 1,_,by omega,by go_num,rfl,HN⟩
     case measure=>simp [intOf];omega
    ·have HN:=zi (ztF hz hz' hzz);clear hz hz';have hne:(z != z')=true:=by simpa using hzz
     go_wp2_with fail
     go_quiet (fail)
     go_wp2_with fail
     go_ret;exact ⟨zbl (by rw [HN.out]),_,World.drewN_drewN _ _ _⟩
   ·have HE:=zi (ztG (xs:=xs) (ys:=ys) (by rw [HL.out,HL'.out]) (by rw [HL.out,← (show j=n by omega)];exact HT.out));go_wp2_with fail
    go_ret;exact ⟨zbl (by rw [HE.out]),_,rfl⟩
 ·have HE:=zi (zsS (xs:=xs) (ys:=ys) (by omega));have hne:((n:Int) != (n':Int))=true:=by simp;omega
  clear hl hl';go_enter Tryz.func56,Tryz.ntmps56
  go_wp2_with fail
  go_ret;exact ⟨zbl (by rw [HE.out]),0,rfl⟩
def zfY (w:World) (e k n:Nat) (xs:List Value) (en:Ending) (w':World):Prop:=∃ v,en=.returned v∧w'.ownsRow w.heap.size e k v n xs∧Below w.heap.size w w'
set_option maxHeartbeats 400000 in
theorem zom (A:Option Addr) (n c:Nat) (xs:List Value) (B:Nat) (w:World) (h:Rd w B 1 A n c xs) (h1:∀ u ∈ xs,u.oneCell'=true) (hB:B ≤ w.heap.size) (hb:n * 8 ≤ 140737488355328) :
  Calls Tryz.prog 69 #[.slice A n c] w (zfY w 3 1 n xs):=by
 have q:∀ (w:World) (a:Option Addr) (n c n' c':Nat),(binOp .eql 76 (.slice a n c) (.slice none n' c')).run Tryz.prog w=.ok (.bool a.isNone) w:=fun w a n c n' c'=>Lib.run_eql_slice_nil w _ _ a n c n' c' Tryz.underlying76;cases A with
 | none =>
  have h0:=h.nil rfl;have hle:=h.le;obtain rfl:n=0:=by omega
  have hx:xs = []:=List.eq_nil_of_length_eq_zero (by simpa using h.len);subst hx h0;go_enter Tryz.func69,Tryz.ntmps69
  go_wp2_with fail
  go_ret;exact ⟨_,rfl,World.ownsRow_nil _ _ _ _,Below.refl _ _⟩
 | some ad =>
  have HR:=zi h;have hle:=h.le;have hcap:=h.cap;clear h;go_enter Tryz.func69,Tryz.ntmps69
  go_wp2_with (at_builtin;go_loud (refine zbe rfl _ _ _ rfl w.heap.size _ _ _ zhw _ _ _ rfl (World.ownsRow_made w #[] 0 (zl _) (Nat.zero_le _) rfl) B (some ad) n c xs rfl (HR.out.alloc hB _) h1 (by simp only [maxLen] at hcap ⊢;omega) (by omega) (by simp) ?_);intro v' w' hown hbel hg _)
  go_ret;exact ⟨_,rfl,by simpa using hown,((Below.refl _ _).alloc (zl _) _).trans hbel⟩
end
section
open Go.RowKit
theorem Blk.new_at (w:World) (t:TypeId) (cs:Array Value) (g:Nat) (hg:g=w.heap.size):Blk (w.alloc (.cells cs t)) g t cs:=by
 subst hg;exact Blk.new w t cs
theorem zeK {P:Program} {f:FuncId} {args:Array Value} {w:World} {n:Nat} {v:Value}
  (h:Calls P f args (w.drewN n) fun e w'=>e=.returned v∧w.drewN n=w'):Calls P f args (w.drewN n) fun e w''=>e=.returned v∧∃ m,w''=w.drewN m :=
 h.mono fun _ _ ⟨he,hm⟩=>⟨he,n,hm.symm⟩
end
end Go.Proofs.YtockodmbhnlheaaGreatDoor
