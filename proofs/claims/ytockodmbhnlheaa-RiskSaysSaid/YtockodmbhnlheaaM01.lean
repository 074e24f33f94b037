/-
  Contracts of the program's functions, and plain facts, that the laws VenueKeeps, VenueOthers, VenueCancels, VenueCash, VenueReady rest on (joined texts): Mem, Row, App, Pure, Shape, RowA, BookPure, Slc, More, Ord, TradePure.
-/
import Derived.WalkKit
import Derived.Deep.Draws
import Derived.Test.YtockodmbhnlheaaRows
import Derived.ProofKit
import Derived.OpenShut
import Derived.SizedLaws
import Derived.Test.YtockodmbhnlheaaProg
import Derived.Maps.AppendAt
import Derived.Laws.AppendOwnNone
import Derived.OwnWalk
import Derived.Deep.Slices
import Derived.WalkSpells
import Derived.WalkLawsBesides
import Derived.Deep.QuietTactic
import Derived.BigQuiet
import Derived.Lib.Hide
import Derived.IntWalk
namespace Go.Proofs.Ytockodmbhnlheaa
section
open Go.RowKit
theorem ret_bb {a b:Bool} (h:a=b):Ending.returned (.bool a)=.returned (.bool b):=by rw [h]
theorem ret_ii {a b:Int} (h:a=b):Ending.returned (.int .i64 a)=.returned (.int .i64 b):=by rw [h]
theorem pair_ii {a b c d:Int} (h:(a,b)=(c,d)):Ending.returned (.tuple #[.int .i64 a,.int .i64 b])=.returned (.tuple #[.int .i64 c,.int .i64 d]):=by
 injection h with h1 h2;rw [h1,h2]
theorem ret_sii {A:Option Addr} {n n' c:Nat} {x y:Int} (h:n=n'):Ending.returned (.tuple #[.slice A n c,.int .i64 x,.int .i64 y])=.returned (.tuple #[.slice A n' c,.int .i64 x,.int .i64 y]):=by rw [h]
def ints (l:List Int):List Value:=l.map (Value.int .i64)
theorem ints_get {l:List Int} {j:Nat} {z:Int} (h:l[j]?=some z):(ints l)[j]?=some (.int .i64 z):=by simp [ints,h]
structure Rd (w:World) (B k:Nat) (A:Option Addr) (n c:Nat) (xs:List Value):Prop where
 len:xs.length=n * k
 le:n ≤ c
 cap:c ≤ maxLen
 nil:A=none→c=0
 at_:0 < n→∃ b o,A=some ⟨b,o,none⟩∧b < B∧∀ j u,xs[j]?=some u→w.cell? ⟨b,o + j,none⟩=some u
theorem bcell {W w1:World} (hb:Below W.heap.size W w1):(∀ b o,b < W.heap.size→w1.cell? ⟨b,o,none⟩=W.cell? ⟨b,o,none⟩)∧(∀ b o,b < W.heap.size→w1.frozen? ⟨b,o,none⟩=W.frozen? ⟨b,o,none⟩) :=
 ⟨fun b o h=>hb.cell (p:=⟨b,o,none⟩) h,fun b o h=>hb.frozen (p:=⟨b,o,none⟩) h⟩
def Blk (w:World) (g:Nat) (t:TypeId) (cs:Array Value):Prop:=w.heap[g]?=some (.cells cs t (0,0))
theorem Blk.cell {w:World} {g:Nat} {t:TypeId} {cs:Array Value} (h:Blk w g t cs) (i:Nat):w.cell? ⟨g,i,none⟩=cs[i]?:=by unfold Blk at h;simp [World.cell?,h]
theorem Blk.frozen {w:World} {g:Nat} {t:TypeId} {cs:Array Value} (h:Blk w g t cs) (i:Nat):w.frozen? ⟨g,i,none⟩=false:=by unfold Blk at h;simp [World.frozen?,h]
theorem Blk.lt {w:World} {g:Nat} {t:TypeId} {cs:Array Value} (h:Blk w g t cs):g < w.heap.size:=by
 rcases Nat.lt_or_ge g w.heap.size with h0 | h0
 ·exact h0
 ·unfold Blk at h;rw [Array.getElem?_eq_none h0] at h;cases h
theorem Blk.below {w w1:World} {g B:Nat} {t:TypeId} {cs:Array Value} (h:Blk w g t cs) (hb:Below B w w1) (hg:g < B):Blk w1 g t cs:=(hb.block g hg).trans h
theorem Blk.new (w:World) (t:TypeId) (cs:Array Value):Blk (w.alloc (.cells cs t)) w.heap.size t cs:=by
 show (w.heap.push _)[w.heap.size]?=_
 simp
theorem Blk.alloc {w:World} {g:Nat} {t:TypeId} {cs:Array Value} (h:Blk w g t cs) (o:Obj):Blk (w.alloc o) g t cs:=(Below.heap_alloc w o g h.lt).trans h
theorem Blk.drewN {w:World} {g:Nat} {t:TypeId} {cs:Array Value} (h:Blk w g t cs) (q:Nat):Blk (w.drewN q) g t cs:=h
theorem Blk.set_ {w:World} {g:Nat} {t:TypeId} {cs:Array Value} (h:Blk w g t cs) (i:Nat) (u:Value):Blk (w.setCell ⟨g,i,none⟩ u) g t (cs.setIfInBounds i u):=by
 unfold Blk at h ⊢
 simp [World.setCell,Array.getElem?_modify,h]
theorem Blk.far {w:World} {g:Nat} {t:TypeId} {cs:Array Value} (h:Blk w g t cs) {p:Addr} (hp:g ≠ p.block) (u:Value):Blk (w.setCell p u) g t cs:=(Below.heap_setCell w p u g hp).trans h
theorem Blk.c3 {w:World} {g:Nat} {t:TypeId} {a b c:Value} (h:Blk w g t #[a,b,c]) :
  (w.cell? ⟨g,0,none⟩=some a∧w.cell? ⟨g,1,none⟩=some b∧w.cell? ⟨g,2,none⟩=some c)∧w.frozen? ⟨g,0,none⟩=false∧w.frozen? ⟨g,1,none⟩=false∧w.frozen? ⟨g,2,none⟩=false :=
 ⟨⟨h.cell 0,h.cell 1,h.cell 2⟩,h.frozen 0,h.frozen 1,h.frozen 2⟩
theorem below_drewN {B:Nat} {a w:World} (h:Below B a w) (n:Nat):Below B a (w.drewN n):=h.trans ⟨rfl,rfl,rfl,Nat.le_refl _,fun _ _=>rfl⟩
section
variable {w w':World} {B B' k n c:Nat} {A:Option Addr} {xs:List Value}
theorem Rd.none_ (w:World) (B k:Nat):Rd w B k none 0 0 []:=⟨by simp,Nat.le_refl _,by simp,fun _=>rfl,fun h=>absurd h (by omega)⟩
theorem Rd.mono (h:Rd w B k A n c xs) (hB:B ≤ B') (hk:∀ b o,b < B→w'.cell? ⟨b,o,none⟩=w.cell? ⟨b,o,none⟩):Rd w' B' k A n c xs :=
 ⟨h.len,h.le,h.cap,h.nil,fun hn=>by
  obtain ⟨b,o,e,hb,hc⟩:=h.at_ hn
  exact ⟨b,o,e,by omega,fun j u hu=>(hk _ _ hb).trans (hc j u hu)⟩⟩
theorem Rd.mono_ne {g:Nat} (h:Rd w B k A n c xs) (hB:B ≤ B') (hne:∀ ad,A=some ad→ad.block ≠ g) (hk:∀ b o,b < B→b ≠ g→w'.cell? ⟨b,o,none⟩=w.cell? ⟨b,o,none⟩):Rd w' B' k A n c xs :=
 ⟨h.len,h.le,h.cap,h.nil,fun hn=>by
  obtain ⟨b,o,e,hb,hc⟩:=h.at_ hn
  exact ⟨b,o,e,by omega,fun j u hu=>(hk _ _ hb (hne _ e)).trans (hc j u hu)⟩⟩
theorem Rd.below (h:Rd w B k A n c xs) (hb:Below B w w'):Rd w' B k A n c xs:=h.mono (Nat.le_refl _) fun _ _ hp=>hb.cell (p:=⟨_,_,_⟩) hp
theorem Rd.drewN (h:Rd w B k A n c xs) (q:Nat):Rd (w.drewN q) B k A n c xs:=h.mono (Nat.le_refl _) fun _ _ _=>rfl
theorem Rd.up (h:Rd w B k A n c xs) (hB:B ≤ B'):Rd w B' k A n c xs:=h.mono hB fun _ _ _=>rfl
theorem Rd.alloc (h:Rd w B k A n c xs) (hB:B ≤ w.heap.size) (o:Obj):Rd (w.alloc o) B k A n c xs :=
 h.mono (Nat.le_refl _) fun b o' hb=>World.cell?_alloc_lt (w:=w) (a:=⟨b,o',none⟩) (o:=o) (by show b < _;omega)
theorem Rd.new (w:World) (cs:Array Value) (t:TypeId) (n:Nat) (hn:cs.size=n) (hc:n ≤ maxLen):Rd (w.alloc (.cells cs t)) (w.heap.size + 1) 1 (some ⟨w.heap.size,0,none⟩) n n cs.toList :=
 ⟨by simp [hn],Nat.le_refl _,hc,nofun,fun _=>⟨_,_,rfl,by omega,fun j u hj=>by rw [World.cell?_alloc_new];simpa using hj⟩⟩
theorem Rd.new_at (w:World) (cs:Array Value) (t:TypeId) (g n:Nat) (hg:g=w.heap.size) (hn:cs.size=n) (hc:n ≤ maxLen):Rd (w.alloc (.cells cs t)) (g + 1) 1 (some ⟨g,0,none⟩) n n cs.toList:=by
 subst hg;exact Rd.new w cs t n hn hc
theorem Rd.one (h:Rd w B k A n c xs) {j:Nat} {u:Value} (hj:xs[j]?=some u):∃ b o,A=some ⟨b,o,none⟩∧b < B∧w.cell? ⟨b,o + j,none⟩=some u:=by
 have hl:j < xs.length:=(List.getElem?_eq_some_iff.1 hj).1
 have hn:0 < n:=by
  rcases Nat.eq_zero_or_pos n with h0 | h0
  ·have:=h.len;simp [h0] at this;simp [this] at hl
  ·exact h0
 obtain ⟨b,o,e,hb,hc⟩:=h.at_ hn
 exact ⟨b,o,e,hb,hc j u hj⟩
theorem Rd.ofInts {l:List Int} (h:Rd w B 1 A n c (ints l)):l.length=n:=by have:=h.len;simpa [ints] using this
theorem Rd.int {l:List Int} (h:Rd w B 1 A n c (ints l)) {j:Nat} (hj:j < n):∃ b o,A=some ⟨b,o,none⟩∧b < B∧∃ z,l[j]?=some z∧w.cell? ⟨b,o + j,none⟩=some (.int .i64 z):=by
 have hl:=h.ofInts
 have hz:l[j]?=some l[j]:=List.getElem?_eq_getElem (by omega)
 obtain ⟨b,o,e,hb,hc⟩:=h.one (ints_get hz)
 exact ⟨b,o,e,hb,_,hz,hc⟩
end
end
section
open Go.ChangeShapes Go.WideShapes Go.ChangeAt Go.RowKit
theorem row_own:ownKnob Try.prog.godebug=none:=by kernel_rfl
theorem row_laidOut:laidOutB Try.prog=true:=by kernel_rfl
section
variable {H:Type} {enc:TypeId × Value→H} {P:Program}
theorem trodAll_below (hl:laidOutB P=true) {W W':World} (bel:Below W.heap.size W W'):∀ {ts:List TypeId} {vs:List Value} {ds:List (DataW H)} {p:List MemPlace},
  ts.all (fun t=>P.readableRec t && decide (t < P.types.size))=true→DataW.TrodAll enc P W 0 (fun _=>true) true ts vs ds p →
  DataW.TrodAll enc P W' 0 (fun b=>decide (b < W.heap.size)) true ts vs ds p
 | [],[],[],_,_,h=>h
 | t :: ts,v :: vs,d :: ds,ps,ht,h=>by
  obtain ⟨p,q,h1,h2,rfl⟩:=h
  simp only [List.all_cons,Bool.and_eq_true,decide_eq_true_eq] at ht
  obtain ⟨⟨hr,hs⟩,ht⟩:=ht
  exact ⟨p,q,Below.trod hl hr hs h1 bel (by obtain ⟨m,hm⟩:=h1;exact DataW.trod_lt m _ _ _ hm),trodAll_below hl bel ht h2,rfl⟩
 | [],[],_ :: _,_,_,h | [],_ :: _,_,_,_,h | _ :: _,[],_,_,_,h | _ :: _,_ :: _,[],_,_,h=>h.elim
theorem weights_head {t:TypeId} {ts:List TypeId} {d:DataW H} {ds:List (DataW H)} (h:(DataW.weightsEach P (t :: ts) (d :: ds)).all (· ≤ reachBytes)=true) :
  (∀ x ∈ d.weights P t,x ≤ reachBytes)∧(DataW.weightsEach P ts ds).all (· ≤ reachBytes)=true:=by
 rw [show DataW.weightsEach P (t :: ts) (d :: ds)=d.weights P t ++ DataW.weightsEach P ts ds by rw [DataW.weightsEach]] at h
 simp only [List.all_append,Bool.and_eq_true,List.all_eq_true,decide_eq_true_eq] at h ⊢
 exact h
def inI64 (z:Int):Prop:=-9223372036854775808 ≤ z∧z ≤ 9223372036854775807
theorem inI64_of {z:Int} (h:(Lit.int .i64 z).wf=true):inI64 z:=by
 unfold inI64;exact bounds_i64 h
set_option maxRecDepth 100000 in
theorem opens_int {W:World} {base:Nat} {v:Value} {d:DataW H} {p:List MemPlace} (hv:Value.okWide Try.prog W .any base 3 v) (h:DataW.Trod enc Try.prog W 0 (fun _=>true) true 3 v d p) :
  ∃ z,v=.int .i64 z∧inI64 z:=by
 obtain ⟨z,rfl,rfl,rfl,wz⟩:=open_int Try.underlying3 hv h
 exact ⟨z,rfl,inI64_of wz⟩
theorem add_of_cell {W:World} {a:Addr} {i:Nat} {u:Value} (hs:a.spot=none) (h:W.cell? (a.add i)=some u):W.cell? ⟨a.block,a.off + i,none⟩=some u:=by
 obtain ⟨b,o,s⟩:=a
 simp only at hs;subst hs
 unfold Addr.add at h
 by_cases h0:i=0
 ·subst h0;simpa using h
 ·simpa [h0] using h
theorem lt_of_cell {W:World} {a:Addr} {u:Value} (h:W.cell? a=some u):a.block < W.heap.size:=by
 rcases Nat.lt_or_ge a.block W.heap.size with h0 | h0
 ·exact h0
 ·simp [World.cell?,Array.getElem?_eq_none h0] at h
theorem spot_of_cell {W:World} {a:Addr} {u:Value} (h:W.cell? a=some u):a.spot=none:=World.cell?_spot h
end
end
section
open Go.RowKit
structure Elem (P:Program) (t e:TypeId) (k bytes:Nat):Prop where
 ht:P.underlying t=some (.slice e)
 hi:∃ (i:TypeInfo) (z:Value),P.info? e=some i∧i.zero=some z∧i.size=k∧i.bytes=bytes∧z.cells.size=k
 pos:0 < k
theorem elem_mk {P:Program} {t e:TypeId} {k bytes:Nat} (ht:P.underlying t=some (.slice e)) (h:(P.info? e).map (fun i=>(i.size,i.bytes,i.zero.map (·.cells.size)))=some (k,bytes,some k)) (pos:0 < k):Elem P t e k bytes:=by
 refine ⟨ht,?_,pos⟩
 cases hi:P.info? e with
 | none=>rw [hi] at h;cases h
 | some i =>
  rw [hi] at h
  simp only [Option.map_some,Option.some.injEq,Prod.mk.injEq] at h
  obtain ⟨h1,h2,h3⟩:=h
  cases hz:i.zero with
  | none=>rw [hz] at h3;cases h3
  | some z =>
   rw [hz] at h3
   exact ⟨i,z,rfl,hz,h1,h2,by simpa using h3⟩
theorem Rd.of_own {w:World} {base e k n c:Nat} {A:Option Addr} {xs:List Value} (h:w.ownsRow base e k (.slice A n c) n xs):Rd w w.heap.size k A n c xs:=by
 obtain ⟨hl,h | ⟨g,cap,cur,hv,_,hh,hn,hc,hs,ht⟩⟩:=h
 ·obtain ⟨hv,rfl⟩:=h
  injection hv with h1 h2 h3
  subst h1 h3
  have:xs = []:=List.eq_nil_of_length_eq_zero (by simpa using hl)
  subst this
  exact Rd.none_ _ _ _
 ·injection hv with h1 _ h3
  subst h1 h3
  refine ⟨hl,hn,hc,nofun,fun _=>⟨g,0,rfl,?_,fun j u hj=>?_⟩⟩
  ·rcases Nat.lt_or_ge g w.heap.size with h0 | h0
   ·exact h0
   ·rw [Array.getElem?_eq_none h0] at hh;cases hh
  ·have hj':j < n * k:=by have:=(List.getElem?_eq_some_iff.1 hj).1;omega
   rw [← ht,List.getElem?_take_of_lt hj'] at hj
   simp [World.cell?,hh,← hj]
theorem own_mono {w:World} {base base' e k n:Nat} {v:Value} {xs:List Value} (h:w.ownsRow base e k v n xs) (hb:base' ≤ base):w.ownsRow base' e k v n xs:=by
 obtain ⟨hl,⟨rfl,rfl⟩ | ⟨g,cap,cur,rfl,h1,h2⟩⟩:=h
 ·exact ⟨hl,.inl ⟨rfl,rfl⟩⟩
 ·exact ⟨hl,.inr ⟨g,cap,cur,rfl,by omega,h2⟩⟩
theorem own_drewN {w:World} {base e k n:Nat} {v:Value} {xs:List Value} (h:w.ownsRow base e k v n xs) (q:Nat):(w.drewN q).ownsRow base e k v n xs:=by
 obtain ⟨hl,h⟩:=h
 exact ⟨hl,h⟩
theorem own_below {w w':World} {base e k n B:Nat} {v:Value} {xs:List Value} (h:w.ownsRow base e k v n xs) (hb:Below B w w') (hB:w.heap.size ≤ B):w'.ownsRow base e k v n xs:=by
 obtain ⟨hl,⟨rfl,rfl⟩ | ⟨g,cap,cur,rfl,h1,h2,h3⟩⟩:=h
 ·exact ⟨hl,.inl ⟨rfl,rfl⟩⟩
 ·refine ⟨hl,.inr ⟨g,cap,cur,rfl,h1,?_,h3⟩⟩
  rw [hb.block g ?_];exact h2
  rcases Nat.lt_or_ge g w.heap.size with h0 | h0
  ·omega
  ·rw [Array.getElem?_eq_none h0] at h2;cases h2
theorem own_shape {w:World} {base e k n:Nat} {v:Value} {xs:List Value} (h:w.ownsRow base e k v n xs):∃ A c,v=.slice A n c:=by
 obtain ⟨_,⟨rfl,rfl⟩ | ⟨g,cap,_,rfl,_⟩⟩:=h
 ·exact ⟨_,_,rfl⟩
 ·exact ⟨_,_,rfl⟩
section
variable {P:Program} {w:World}
theorem run_app (base:Nat) (t ty e:TypeId) (k bytes:Nat) (E:Elem P t e k bytes) (v:Value) (n:Nat) (xs:List Value) (hown:w.ownsRow base e k v n xs)
  (B:Nat) (A:Option Addr) (m c:Nat) (news:List Value) (hr:Rd w B k A m c news) (h1:∀ u ∈ news,u.oneCell'=true)
  (hlen:n + m ≤ maxLen) (hbytes:(n + m) * bytes ≤ 140737488355328) (hbase:base ≤ w.heap.size) :
  ∃ v' w',(Builtin.append_ #[t,t] ty #[v,.slice A m c]).run P w=.ok v' w'∧w'.ownsRow base e k v' (n + m) (xs ++ news)∧w.grownBy w' v.ownBlock ∧
   (v'.ownBlock=v.ownBlock∨v'.ownBlock=some w.heap.size):=by
 obtain ⟨i,z,hi,hz,hsize,hby,hzs⟩:=E.hi
 cases A with
 | none =>
  have hc0:=hr.nil rfl
  have hm0:m=0:=by have:=hr.le;omega
  subst hm0
  have hn:news = []:=List.eq_nil_of_length_eq_zero (by simpa using hr.len)
  subst hn hc0
  refine ⟨v,w,run_append_owned_none (P:=P) (w:=w) base t ty e i k E.ht hi v n xs hown,by simpa using hown,World.grownBy.refl w _,.inl rfl⟩
 | some ad =>
  have hcells:∀ j u,news[j]?=some u→w.cell? (ad.add j)=some u:=by
   intro j u hu
   obtain ⟨b,o,hA,_,hc⟩:=hr.one hu
   injection hA with hA
   subst hA
   unfold Addr.add
   by_cases h0:j=0
   ·subst h0;simpa using hc
   ·simpa [h0] using hc
  obtain ⟨v',w',h2,h3,h4,_,h6⟩:=run_append_own_at (P:=P) w base t ty e i z k bytes E.ht hi hz hsize hby hzs E.pos v n xs hown ad m c news hr.len hcells h1 hlen hbytes hbase
  exact ⟨v',w',h2,h3,h4,h6⟩
theorem below_of_grown {base e k n:Nat} {v:Value} {xs:List Value} {w w':World} (hown:w.ownsRow base e k v n xs) (hg:w.grownBy w' v.ownBlock) (hbase:base ≤ w.heap.size):Below base w w' :=
 (Below.refl _ _).grown hg hbase fun j hj=>(hown.lt j hj).1
theorem wp_app {o:Oper} {a:Act} {K:Act→World→Prop} {Q:Exit→Act→World→Prop} (s x:Operand) (t:TypeId)
  (ho:o.op=.call { callee:=.builtin .append,args:=#[s,x],argTypes:=#[t,t] })
  (base e k bytes:Nat) (E:Elem P t e k bytes) (v:Value) (n:Nat) (xs:List Value) (hs:a.eval s=v) (hown:w.ownsRow base e k v n xs)
  (B:Nat) (A:Option Addr) (m c:Nat) (news:List Value) (hx:a.eval x=.slice A m c) (hr:Rd w B k A m c news) (h1:∀ u ∈ news,u.oneCell'=true)
  (hlen:n + m ≤ maxLen) (hbytes:(n + m) * bytes ≤ 140737488355328) (hbase:base ≤ w.heap.size)
  (h:∀ v' w',w'.ownsRow base e k v' (n + m) (xs ++ news)→Below base w w'→w.grownBy w' v.ownBlock→(v'.ownBlock=v.ownBlock∨v'.ownBlock=some w.heap.size)→K (a.put o.dst v') w'):o.wp P a w K Q:=by
 obtain ⟨v',w',hrun,h2,h3,h4⟩:=run_app (P:=P) base t o.type e k bytes E v n xs hown B A m c news hr h1 hlen hbytes hbase
 unfold Oper.wp execOp
 simp only [ho,resolve,invoke,builtin,Sem.run_bind,Sem.run_pure,Result.andThen_ok,List.map_toArray,List.map_cons,List.map_nil,hs,hx,hrun]
 exact h v' w' h2 (below_of_grown hown h3 hbase) h3 h4
theorem wpList_app {ops:Array Oper} {rest:List Oper} {o:Oper} {a:Act} {Q:Exit→Act→World→Prop} (hgd:o.guard=none) (s x:Operand) (t:TypeId)
  (ho:o.op=.call { callee:=.builtin .append,args:=#[s,x],argTypes:=#[t,t] })
  (base e k bytes:Nat) (E:Elem P t e k bytes) (v:Value) (n:Nat) (xs:List Value) (hs:a.eval s=v) (hown:w.ownsRow base e k v n xs)
  (B:Nat) (A:Option Addr) (m c:Nat) (news:List Value) (hx:a.eval x=.slice A m c) (hr:Rd w B k A m c news) (h1:∀ u ∈ news,u.oneCell'=true)
  (hlen:n + m ≤ maxLen) (hbytes:(n + m) * bytes ≤ 140737488355328) (hbase:base ≤ w.heap.size)
  (h:∀ v' w',w'.ownsRow base e k v' (n + m) (xs ++ news)→Below base w w'→w.grownBy w' v.ownBlock→(v'.ownBlock=v.ownBlock∨v'.ownBlock=some w.heap.size)→wpList P ops Q rest (a.put o.dst v') w'):wpList P ops Q (o :: rest) a w :=
 wpList_plain hgd fun _ hK=>wp_app s x t ho base e k bytes E v n xs hs hown B A m c news hx hr h1 hlen hbytes hbase fun v' w' h2 h3 h4 h5=>hK _ _ (h v' w' h2 h3 h4 h5)
end
theorem rd_sliced {w:World} {B k n c:Nat} {A:Option Addr} {xs:List Value} (h:Rd w B k A n c xs) (lo hi:Nat) (h1:lo ≤ hi) (h2:hi ≤ n) :
  ∃ A',sliced A lo hi c k=.slice A' (hi - lo) (c - lo)∧Rd w B k A' (hi - lo) (c - lo) ((xs.drop (lo * k)).take ((hi - lo) * k)):=by
 have hle:=h.le
 have hcap:=h.cap
 refine ⟨_,rfl,⟨?_,by omega,by omega,?_,fun hn=>?_⟩⟩
 ·rw [List.length_take,List.length_drop,h.len,← Nat.sub_mul]
  exact Nat.min_eq_left (Nat.mul_le_mul_right _ (by omega))
 ·intro hA
  by_cases hc:c=lo
  ·omega
  ·simp [hc] at hA
   have:=h.nil hA
   omega
 ·obtain ⟨b,o,rfl,hb,hcell⟩:=h.at_ (by omega)
  have hc:¬ c=lo:=by omega
  refine ⟨b,o + lo * k,?_,hb,fun j u hj=>?_⟩
  ·simp only [hc,if_false,Option.map_some,Option.some.injEq]
   unfold Addr.add
   by_cases h0:lo * k=0
   ·simp [h0]
   ·simp [h0]
  ·have hj':j < (hi - lo) * k:=by
    have:=(List.getElem?_eq_some_iff.1 hj).1
    rw [List.length_take] at this
    omega
   rw [List.getElem?_take_of_lt hj',List.getElem?_drop] at hj
   rw [Nat.add_assoc]
   exact hcell _ _ hj
theorem elem_size {P:Program} {t e k bytes:Nat} (E:Elem P t e k bytes) (w:World):(sizeOf (P.elem t)).run P w=.ok k w:=by
 obtain ⟨i,z,hi,_,hs,_,_⟩:=E.hi
 simp [Program.elem,E.ht,sizeOf,typeInfo,hi,hs]
theorem elem_elem {P:Program} {t e k bytes:Nat} (E:Elem P t e k bytes):P.underlying t=some (.slice (P.elem t)):=by
 simp [Program.elem,E.ht]
theorem cut_l {P:Program} {t e k bytes:Nat} (E:Elem P t e k bytes) {w:World} {B n c:Nat} {A:Option Addr} {xs:List Value} (h:Rd w B k A n c xs) (lo:Nat) (h2:lo ≤ n) :
  ∃ A',(∀ w',(Instr.slice t (.slice A n c) (some (.int .i64 lo)) none none).run P w'=.ok (.slice A' (n - lo) (c - lo)) w')∧Rd w B k A' (n - lo) (c - lo) (xs.drop (lo * k)):=by
 obtain ⟨A',h3,h4⟩:=rd_sliced h lo n h2 (Nat.le_refl _)
 refine ⟨A',fun w'=>?_,?_⟩
 ·rw [run_slice_l _ _ _ _ _ (elem_elem E) .i64 lo (by omega) (by omega),elem_size E]
  simp only [Result.andThen,Int.toNat_natCast]
  rw [h3]
 ·rw [List.take_of_length_le (by rw [List.length_drop,h.len,← Nat.sub_mul];exact Nat.le_refl _)] at h4
  exact h4
theorem elem_int:Elem Try.prog 24 3 1 8:=elem_mk Try.underlying24 (by kernel_rfl) (by decide)
theorem one_ints (l:List Int):∀ u ∈ ints l,u.oneCell'=true:=ints_oneCell .i64 l
end
section
def isMoney (n:Int):Bool:=decide (-1000000000000 ≤ n) && decide (n ≤ 1000000000000)
theorem isMoney_iff {n:Int}:isMoney n=true ↔ -1000000000000 ≤ n∧n ≤ 1000000000000:=by simp [isMoney]
theorem isMoney_not {n:Int}:isMoney n=false ↔ n < -1000000000000∨1000000000000 < n:=by
 rw [← Bool.not_eq_true,isMoney_iff];omega
def addFrom (s:Int):List Int→Int × Int
 | []=>(s,0)
 | n :: l=>if isMoney n then (if isMoney (s + n) then addFrom (s + n) l else (0,7)) else (0,3)
def addAll (l:List Int):Int × Int:=addFrom 0 l
def partOk (n a b:Int):Bool:=isMoney n && decide (-10000 ≤ a) && decide (a ≤ 10000) && decide (1 ≤ b) && decide (b ≤ 10000)
def partQ (n a b:Int) (up:Bool):Int:=if up then -((-(n * a)) / b) else (n * a) / b
def partOf (n a b:Int) (up:Bool):Int × Int :=
 if partOk n a b then (if isMoney (partQ n a b up) then (partQ n a b up,0) else (0,7)) else (0,3)
theorem partOk_iff {n a b:Int}:partOk n a b=true ↔ (-1000000000000 ≤ n∧n ≤ 1000000000000)∧-10000 ≤ a∧a ≤ 10000∧1 ≤ b∧b ≤ 10000:=by
 simp [partOk,isMoney,and_assoc]
theorem mul_bd {n a:Int} (h1:-1000000000000 ≤ n) (h2:n ≤ 1000000000000) (h3:-10000 ≤ a) (h4:a ≤ 10000):-10000000000000000 ≤ n * a∧n * a ≤ 10000000000000000:=by
 have hn:(n * a).natAbs ≤ 1000000000000 * 10000:=by rw [Int.natAbs_mul];exact Nat.mul_le_mul (by omega) (by omega)
 omega
theorem tdiv_of (p b:Int):p.tdiv b=if 0 ≤ p then p / b else -((-p) / b):=by
 split
 ·rename_i h;exact Int.tdiv_eq_ediv_of_nonneg h
 ·rename_i h
  have:=Int.neg_tdiv (-p) b
  rw [Int.neg_neg] at this
  rw [this,Int.tdiv_eq_ediv_of_nonneg (by omega)]
theorem tmod_of (p b:Int):p.tmod b=if 0 ≤ p then p % b else -((-p) % b):=by
 split
 ·rename_i h;exact Int.tmod_eq_emod_of_nonneg h
 ·rename_i h
  have:=Int.neg_tmod (-p) b
  rw [Int.neg_neg] at this
  rw [this,Int.tmod_eq_emod_of_nonneg (by omega)]
theorem ediv_neg_up (p b:Int) (hb:1 ≤ b):-((-p) / b)=if p % b=0 then p / b else p / b + 1:=by
 have h1:=Int.mul_ediv_add_emod p b
 have h2:=Int.mul_ediv_add_emod (-p) b
 have h3:=Int.emod_nonneg p (show b ≠ 0 by omega)
 have h4:=Int.emod_lt_of_pos p (show 0 < b by omega)
 have h5:=Int.emod_nonneg (-p) (show b ≠ 0 by omega)
 have h6:=Int.emod_lt_of_pos (-p) (show 0 < b by omega)
 have h7:b * (p / b + (-p) / b) = -(p % b + (-p) % b):=by rw [Int.mul_add];omega
 generalize p / b=x at *
 generalize (-p) / b=y at *
 split
 ·rename_i h
  rw [h] at h7
  have:(-p) % b=0:=Int.emod_eq_zero_of_dvd (Int.dvd_neg.2 (Int.dvd_of_emod_eq_zero h))
  rw [this] at h7
  rcases Int.mul_eq_zero.1 (show b * (x + y)=0 by omega) with h | h <;> omega
 ·rename_i h
  have h8:x + y = -1:=by
   rcases Int.lt_trichotomy (x + y) (-1) with h' | h' | h'
   ·have:b * (x + y) ≤ b * (-2):=Int.mul_le_mul_of_nonneg_left (by omega) (by omega)
    omega
   ·exact h'
   ·have:b * 0 ≤ b * (x + y):=Int.mul_le_mul_of_nonneg_left (by omega) (by omega)
    omega
  omega
theorem ediv_bd (p b:Int) (hp:0 ≤ p) (hb:1 ≤ b):0 ≤ p / b∧p / b ≤ p :=
 ⟨Int.ediv_nonneg hp (by omega),Int.ediv_le_self b hp⟩
theorem tdiv_bd (p b:Int) (hp:p < 0) (hb:1 ≤ b):p ≤ p.tdiv b∧p.tdiv b ≤ 0:=by
 rw [tdiv_of,if_neg (by omega)]
 have:=ediv_bd (-p) b (by omega) hb
 omega
theorem partQ_pos_exact {n a b:Int} {up:Bool} (hb:1 ≤ b) (hr:n * a % b=0):partQ n a b up=n * a / b:=by
 unfold partQ
 have:=ediv_neg_up (n * a) b hb
 rw [if_pos hr] at this
 cases up <;> simp [this]
theorem partQ_pos_up {n a b:Int} (hb:1 ≤ b) (hr:¬ n * a % b=0):partQ n a b true=n * a / b + 1:=by
 have:=ediv_neg_up (n * a) b hb
 rw [if_neg hr] at this
 simpa [partQ] using this
theorem partQ_pos_down {n a b:Int}:partQ n a b false=n * a / b:=by simp [partQ]
theorem tmod_zero {p b:Int} (hp:p < 0):p.tmod b=0 ↔ p % b=0:=by
 rw [tmod_of,if_neg (by omega)]
 constructor
 ·intro h
  have h:-p % b=0:=by omega
  have:=Int.emod_eq_zero_of_dvd (Int.dvd_neg.2 (Int.dvd_of_emod_eq_zero h))
  rwa [Int.neg_neg] at this
 ·intro h
  have:=Int.emod_eq_zero_of_dvd (Int.dvd_neg.2 (Int.dvd_of_emod_eq_zero h))
  omega
theorem partQ_neg_up {n a b:Int} (hp:n * a < 0):partQ n a b true=(n * a).tdiv b:=by
 rw [tdiv_of,if_neg (by omega)];simp [partQ]
theorem partQ_neg_exact {n a b:Int} {up:Bool} (hp:n * a < 0) (hb:1 ≤ b) (hr:(n * a).tmod b=0):partQ n a b up=(n * a).tdiv b:=by
 rw [tmod_zero hp] at hr
 rw [partQ_pos_exact hb hr,tdiv_of,if_neg (by omega)]
 have:=ediv_neg_up (n * a) b hb
 rw [if_pos hr] at this
 omega
theorem partQ_neg_down {n a b:Int} (hp:n * a < 0) (hb:1 ≤ b) (hr:¬ (n * a).tmod b=0):partQ n a b false=(n * a).tdiv b - 1:=by
 rw [tmod_zero hp] at hr
 have:=ediv_neg_up (n * a) b hb
 rw [if_neg hr] at this
 rw [tdiv_of,if_neg (by omega)]
 simp only [partQ]
 simp;omega
theorem part_ok {n a b q:Int} {up:Bool} (h:partOf n a b up=(q,0)):partOk n a b=true∧q=partQ n a b up∧isMoney q=true:=by
 unfold partOf at h
 split at h
 ·rename_i h1
  split at h
  ·rename_i h2
   injection h with h3 _
   exact ⟨h1,h3.symm,by rw [← h3];exact h2⟩
  ·injection h with _ h4;omega
 ·injection h with _ h4;omega
theorem addFrom_ok:∀ (l:List Int) (t r:Int),addFrom t l=(r,0)→r=t + l.sum∧(∀ x ∈ l,isMoney x=true)∧(isMoney t=true→isMoney r=true)
 | [],t,r,h=>by
  injection h with h1 _
  subst h1;simp
 | n :: l,t,r,h=>by
  simp only [addFrom] at h
  split at h
  ·rename_i hn
   split at h
   ·rename_i ht
    obtain ⟨h1,h2,h3⟩:=addFrom_ok l (t + n) r h
    refine ⟨by rw [h1,List.sum_cons];omega,?_,fun _=>h3 ht⟩
    intro x hx
    rcases List.mem_cons.1 hx with rfl | hx
    ·exact hn
    ·exact h2 x hx
   ·injection h with _ h;omega
  ·injection h with _ h;omega
theorem addFrom_err:∀ (l:List Int) (t:Int),(addFrom t l).2=0∨(addFrom t l)=(0,7)∨(addFrom t l)=(0,3)
 | [],_=>.inl rfl
 | n :: l,t=>by
  simp only [addFrom]
  split
  ·split
   ·exact addFrom_err l _
   ·exact .inr (.inl rfl)
  ·exact .inr (.inr rfl)
theorem addFrom_money:∀ (l:List Int) (t:Int),(∀ x ∈ l,isMoney x=true)→(addFrom t l).2 ≠ 3
 | [],_,_=>by simp [addFrom]
 | n :: l,t,h=>by
  simp only [addFrom]
  rw [if_pos (h n (by simp))]
  split
  ·exact addFrom_money l _ fun x hx=>h x (by simp [hx])
  ·simp
theorem at_of (k n:Int) (hn:1 ≤ n):k % n=if 0 ≤ k then k % n else if k.tmod n < 0 then k.tmod n + n else k.tmod n:=by
 split
 ·rfl
 ·rename_i hk
  have h1:=Int.mul_ediv_add_emod (-k) n
  have h3:=Int.emod_nonneg (-k) (show n ≠ 0 by omega)
  have h4:=Int.emod_lt_of_pos (-k) (show 0 < n by omega)
  rw [tmod_of,if_neg hk]
  have h5:k = -((-k) % n) + n * (-((-k) / n)):=by rw [Int.mul_neg];omega
  have h6:k % n=(-((-k) % n)) % n:=by
   conv=>lhs;rw [h5]
   rw [Int.add_mul_emod_self_left]
  rw [h6]
  generalize (-k) % n=r at *
  split
  ·have:(-r) % n=(-r + n) % n:=by rw [Int.add_emod_right]
   rw [this,Int.emod_eq_of_lt (by omega) (by omega)]
  ·have:r=0:=by omega
   subst this;simp
def posOk1 (n:Int):Bool:=decide (-1000 ≤ n) && decide (n ≤ 1000)
def posOk (l:List Int):Bool:=l.all posOk1
theorem posOk1_iff {n:Int}:posOk1 n=true ↔ -1000 ≤ n∧n ≤ 1000:=by simp [posOk1]
theorem posOk1_not {n:Int}:posOk1 n=false ↔ n < -1000∨1000 < n:=by rw [← Bool.not_eq_true,posOk1_iff];omega
theorem posOk_next {l:List Int} {j:Nat} {z:Int} (hz:l[j]?=some z) (h:posOk (l.take j)=true):posOk (l.take (j + 1))=posOk1 z:=by
 rw [List.take_add_one,hz];simp [posOk] at h ⊢;intro _;exact h
theorem posOk_bad {l:List Int} {j:Nat} {z:Int} (hz:l[j]?=some z) (h:posOk1 z=false):posOk l=false:=by
 simp only [posOk,List.all_eq_false];exact ⟨z,List.mem_of_getElem? hz,by simp [h]⟩
theorem posOk_get {l:List Int} {j:Nat} {z:Int} (h:posOk l=true) (hz:l[j]?=some z):-1000 ≤ z∧z ≤ 1000:=by
 simp only [posOk,List.all_eq_true] at h;exact posOk1_iff.1 (h z (List.mem_of_getElem? hz))
def accCheck (id bal:Int) (l:List Int) (m:Int):Int :=
 if id < 0∨8 ≤ id then 5 else if m < 1∨2 < m∨(l.length:Int) ≠ m then 4 else if isMoney bal=false then 3 else if posOk l=false then 3 else 0
theorem accCheck_ok {id bal:Int} {l:List Int} {m:Int} (h:accCheck id bal l m=0) :
  (0 ≤ id∧id ≤ 7)∧(1 ≤ m∧m ≤ 2)∧(l.length:Int)=m∧(-1000000000000 ≤ bal∧bal ≤ 1000000000000)∧posOk l=true:=by
 unfold accCheck at h
 split at h
 ·omega
 ·split at h
  ·omega
  ·split at h
   ·omega
   ·split at h
    ·omega
    ·rename_i h1 h2 h3 h4
     rw [Bool.not_eq_false,isMoney_iff] at h3
     rw [Bool.not_eq_false] at h4
     exact ⟨by omega,by omega,by omega,h3,h4⟩
theorem accCheck_mk {id bal:Int} {l:List Int} {m:Int} (h1:0 ≤ id∧id ≤ 7) (h2:1 ≤ m∧m ≤ 2) (h3:(l.length:Int)=m) (h4:-1000000000000 ≤ bal∧bal ≤ 1000000000000) (h5:posOk l=true):accCheck id bal l m=0:=by
 unfold accCheck
 rw [if_neg (by omega),if_neg (by omega),if_neg (by rw [isMoney_iff.2 h4];simp),if_neg (by rw [h5];simp)]
def worthOk (q p:Int):Bool:=decide (-1000 ≤ q) && decide (q ≤ 1000) && decide (0 ≤ p) && decide (p ≤ 10000)
def worthOf (q p:Int):Int × Int:=if worthOk q p then (q * p,0) else (0,3)
theorem worthOk_iff {q p:Int}:worthOk q p=true ↔ -1000 ≤ q∧q ≤ 1000∧0 ≤ p∧p ≤ 10000:=by simp [worthOk,and_assoc]
theorem worth_bd {q p:Int} (h1:-1000 ≤ q) (h2:q ≤ 1000) (h3:0 ≤ p) (h4:p ≤ 10000):-10000000 ≤ q * p∧q * p ≤ 10000000:=by
 have hn:(q * p).natAbs ≤ 1000 * 10000:=by rw [Int.natAbs_mul];exact Nat.mul_le_mul (by omega) (by omega)
 omega
theorem worth_cases (q p:Int):worthOf q p=(0,3)∨worthOf q p=(q * p,0)∧(-1000 ≤ q∧q ≤ 1000)∧(0 ≤ p∧p ≤ 10000)∧-10000000 ≤ q * p∧q * p ≤ 10000000:=by
 unfold worthOf
 split
 ·rename_i h
  obtain ⟨h1,h2,h3,h4⟩:=worthOk_iff.1 h
  exact .inr ⟨rfl,⟨h1,h2⟩,⟨h3,h4⟩,worth_bd h1 h2 h3 h4⟩
 ·exact .inl rfl
def paysOf (id bal:Int) (l:List Int) (market mark rate:Int):Int × Int :=
 if accCheck id bal l l.length ≠ 0 then (0,accCheck id bal l l.length)
 else if market < 0∨(l.length:Int) ≤ market then (0,5)
 else if rate < -100∨100 < rate then (0,3)
 else if (worthOf (l.getD market.toNat 0) mark).2 ≠ 0 then (0,(worthOf (l.getD market.toNat 0) mark).2)
 else partOf (worthOf (l.getD market.toNat 0) mark).1 rate 10000 true
structure Ac where
 id:Int
 bal:Int
 pos:List Int
def pays (a:Ac) (market mark rate:Int):Int × Int:=paysOf a.id a.bal a.pos market mark rate
def settleAcc (market mark rate:Int) (done:List Ac) (left:Int):List Ac→List Ac × Int × Int
 | []=>(done,left,0)
 | a :: l=>if (pays a market mark rate).2 ≠ 0 then ([],0,(pays a market mark rate).2)
  else if (addAll [a.bal,-(pays a market mark rate).1]).2 ≠ 0 then ([],0,(addAll [a.bal,-(pays a market mark rate).1]).2)
  else settleAcc market mark rate (done ++ [{ a with bal:=(addAll [a.bal,-(pays a market mark rate).1]).1 }]) (left + (pays a market mark rate).1) l
def settleOf (L:List Ac) (market mark rate:Int):List Ac × Int × Int:=if 8 < L.length then ([],0,2) else settleAcc market mark rate [] 0 L
theorem pays_ok {id bal:Int} {l:List Int} {market mark rate p:Int} (h:paysOf id bal l market mark rate=(p,0)) :
  accCheck id bal l l.length=0∧(0 ≤ market∧market < l.length)∧(-100 ≤ rate∧rate ≤ 100)∧(-10000000 ≤ l.getD market.toNat 0 * mark∧l.getD market.toNat 0 * mark ≤ 10000000) ∧
   (-1000 ≤ l.getD market.toNat 0∧l.getD market.toNat 0 ≤ 1000)∧(0 ≤ mark∧mark ≤ 10000)∧partOf (l.getD market.toNat 0 * mark) rate 10000 true=(p,0):=by
 unfold paysOf at h
 split at h
 ·rename_i h1;injection h with _ h2;exact absurd h2 h1
 ·rename_i h1
  split at h
  ·injection h with _ h2;omega
  ·split at h
   ·injection h with _ h2;omega
   ·split at h
    ·rename_i h4;injection h with _ h2;exact absurd h2 h4
    ·rename_i h2 h3 h4
     rcases worth_cases (l.getD market.toNat 0) mark with h5 | ⟨h5,h6,h7,h8⟩
     ·rw [h5] at h4;simp at h4
     ·rw [h5] at h
      exact ⟨by simpa using h1,by omega,by omega,h8,h6,h7,h⟩
theorem pays_bd {id bal:Int} {l:List Int} {market mark rate p:Int} (h:paysOf id bal l market mark rate=(p,0)):-100000 ≤ p∧p ≤ 100000:=by
 obtain ⟨_,_,hr,hw,_,_,hp⟩:=pays_ok h
 obtain ⟨_,hq,_⟩:=part_ok hp
 generalize l.getD market.toNat 0 * mark=x at *
 have hn:(x * rate).natAbs ≤ 10000000 * 100:=by rw [Int.natAbs_mul];exact Nat.mul_le_mul (by omega) (by omega)
 have h1:=ediv_neg_up (x * rate) 10000 (by omega)
 simp only [partQ] at hq
 simp at hq
 omega
theorem part_small {x r:Int} (hx:-10000000 ≤ x∧x ≤ 10000000) (hr:-100 ≤ r∧r ≤ 100):partOf x r 10000 true=(-((-(x * r)) / 10000),0):=by
 have hn:(x * r).natAbs ≤ 10000000 * 100:=by rw [Int.natAbs_mul];exact Nat.mul_le_mul (by omega) (by omega)
 unfold partOf
 have hq:partQ x r 10000 true = -((-(x * r)) / 10000):=by simp [partQ]
 rw [if_pos (partOk_iff.2 ⟨by omega,by omega,by omega,by omega,by omega⟩),hq,if_pos (isMoney_iff.2 (by omega))]
end
section
open Go.RowKit
structure Shape (α:Type) where
 k:Nat
 R:World→Nat→Nat→Nat→α→Prop
 move:∀ {w w':World} {B B' b o b' o':Nat} {a:α},R w B b o a→(∀ j,j < k→w'.cell? ⟨b',o' + j,none⟩=w.cell? ⟨b,o + j,none⟩)→B ≤ B' →
  (∀ b o,b < B→w'.cell? ⟨b,o,none⟩=w.cell? ⟨b,o,none⟩)→R w' B' b' o' a
 cells:∀ {w:World} {B b o:Nat} {a:α},R w B b o a→∀ j,j < k→∃ u,w.cell? ⟨b,o + j,none⟩=some u∧u.oneCell'=true
structure RdL {α:Type} (S:Shape α) (w:World) (B:Nat) (A:Option Addr) (n c:Nat) (L:List α):Prop where
 len:L.length=n
 le:n ≤ c
 cap:c ≤ maxLen
 nil:A=none→c=0
 at_:0 < n→∃ b o,A=some ⟨b,o,none⟩∧b < B∧∀ i a,L[i]?=some a→S.R w B b (o + i * S.k) a
section
variable {α:Type} {S:Shape α} {w w':World} {B B' n c:Nat} {A:Option Addr} {L:List α}
theorem RdL.none_ (S:Shape α) (w:World) (B:Nat):RdL S w B none 0 0 []:=⟨rfl,Nat.le_refl _,by simp,fun _=>rfl,fun h=>absurd h (by omega)⟩
theorem RdL.mono (h:RdL S w B A n c L) (hB:B ≤ B') (hk:∀ b o,b < B→w'.cell? ⟨b,o,none⟩=w.cell? ⟨b,o,none⟩):RdL S w' B' A n c L :=
 ⟨h.len,h.le,h.cap,h.nil,fun hn=>by
  obtain ⟨b,o,e,hb,hc⟩:=h.at_ hn
  exact ⟨b,o,e,by omega,fun i a ha=>S.move (hc i a ha) (fun j _=>hk _ _ hb) hB hk⟩⟩
theorem RdL.below (h:RdL S w B A n c L) (hb:Below B w w'):RdL S w' B A n c L:=h.mono (Nat.le_refl _) fun _ _ hp=>hb.cell (p:=⟨_,_,_⟩) hp
theorem RdL.up (h:RdL S w B A n c L) (hB:B ≤ B'):RdL S w B' A n c L:=h.mono hB fun _ _ _=>rfl
theorem RdL.drewN (h:RdL S w B A n c L) (q:Nat):RdL S (w.drewN q) B A n c L:=h.mono (Nat.le_refl _) fun _ _ _=>rfl
theorem RdL.alloc (h:RdL S w B A n c L) (hB:B ≤ w.heap.size) (o:Obj):RdL S (w.alloc o) B A n c L :=
 h.mono (Nat.le_refl _) fun b o' hb=>World.cell?_alloc_lt (w:=w) (a:=⟨b,o',none⟩) (o:=o) (by show b < _;omega)
theorem RdL.one (h:RdL S w B A n c L) {i:Nat} (hi:i < n):∃ b o a,A=some ⟨b,o,none⟩∧b < B∧L[i]?=some a∧S.R w B b (o + i * S.k) a:=by
 obtain ⟨b,o,e,hb,hc⟩:=h.at_ (by omega)
 have hl:=h.len
 have ha:L[i]?=some L[i]:=List.getElem?_eq_getElem (by omega)
 exact ⟨b,o,_,e,hb,ha,hc i _ ha⟩
theorem RdL.flat (h:RdL S w B A n c L) (hk:0 < S.k):∃ xs,Rd w B S.k A n c xs∧∀ u ∈ xs,u.oneCell'=true:=by
 rcases Nat.eq_zero_or_pos n with h0 | h0
 ·subst h0
  exact ⟨[],⟨by simp,h.le,h.cap,h.nil,fun h=>absurd h (by omega)⟩,by simp⟩
 ·obtain ⟨b,o,e,hb,hc⟩:=h.at_ h0
  have hl:=h.len
  have hcell:∀ m,m < n * S.k→∃ u,w.cell? ⟨b,o + m,none⟩=some u∧u.oneCell'=true:=by
   intro m hm
   have hi:m / S.k < n:=(Nat.div_lt_iff_lt_mul hk).2 hm
   obtain ⟨u,hu⟩:=S.cells (hc (m / S.k) L[m / S.k] (List.getElem?_eq_getElem (by omega))) (m % S.k) (Nat.mod_lt _ hk)
   refine ⟨u,?_⟩
   have e1:o + m / S.k * S.k + m % S.k=o + m:=by have:=Nat.div_add_mod' m S.k;omega
   rw [e1] at hu
   exact hu
  refine ⟨(List.range (n * S.k)).map fun m=>(w.cell? ⟨b,o + m,none⟩).getD undef,⟨by simp,h.le,h.cap,h.nil,fun _=>⟨b,o,e,hb,fun j u hj=>?_⟩⟩,?_⟩
  ·have hj':j < n * S.k:=by have:=(List.getElem?_eq_some_iff.1 hj).1;simpa using this
   obtain ⟨v,hv,_⟩:=hcell j hj'
   simp [List.getElem?_range hj',hv] at hj
   rw [hv,hj]
  ·intro u hu
   simp only [List.mem_map,List.mem_range] at hu
   obtain ⟨m,hm,rfl⟩:=hu
   obtain ⟨v,hv,h1⟩:=hcell m hm
   rw [hv];exact h1
end
def RAcc (w:World) (B b o:Nat) (a:Ac):Prop :=
 ∃ A c,w.cell? ⟨b,o,none⟩=some (.int .i64 a.id)∧w.cell? ⟨b,o + 1,none⟩=some (.int .i64 a.bal)∧w.cell? ⟨b,o + 2,none⟩=some (.slice A a.pos.length c) ∧
  Rd w B 1 A a.pos.length c (ints a.pos)∧a.pos.length * 8 ≤ 140737488355328
def shAcc:Shape Ac where
 k:=3
 R:=RAcc
 move:=by
  intro w w' B B' b o b' o' a h hc hB hk
  obtain ⟨A,c,h0,h1,h2,h3,h4⟩:=h
  exact ⟨A,c,(hc 0 (by omega)).trans h0,(hc 1 (by omega)).trans h1,(hc 2 (by omega)).trans h2,h3.mono hB hk,h4⟩
 cells:=by
  intro w B b o a h j hj
  obtain ⟨A,c,h0,h1,h2,_⟩:=h
  rcases (show j=0∨j=1∨j=2 by omega) with rfl | rfl | rfl
  ·exact ⟨_,h0,rfl⟩
  ·exact ⟨_,h1,rfl⟩
  ·exact ⟨_,h2,rfl⟩
theorem acc_at {w:World} {B n c:Nat} {A:Option Addr} {L:List Ac} (h:RdL shAcc w B A n c L) {i:Nat} (hi:i < n):∃ b o a,A=some ⟨b,o,none⟩∧b < B∧L[i]?=some a ∧
  ∃ A2 c2,w.cell? ⟨b,o + i * 3,none⟩=some (.int .i64 a.id)∧w.cell? ⟨b,o + i * 3 + 1,none⟩=some (.int .i64 a.bal)∧w.cell? ⟨b,o + i * 3 + 2,none⟩=some (.slice A2 a.pos.length c2) ∧
   Rd w B 1 A2 a.pos.length c2 (ints a.pos)∧a.pos.length * 8 ≤ 140737488355328:=by
 obtain ⟨b,o,a,h1,h2,h3,h4⟩:=h.one hi
 exact ⟨b,o,a,h1,h2,h3,h4⟩
def RAccN (w:World) (g o:Nat) (a:Ac):Prop :=
 ∃ A c,w.cell? ⟨g,o,none⟩=some (.int .i64 a.id)∧w.cell? ⟨g,o + 1,none⟩=some (.int .i64 a.bal)∧w.cell? ⟨g,o + 2,none⟩=some (.slice A a.pos.length c) ∧
  Rd w w.heap.size 1 A a.pos.length c (ints a.pos)∧a.pos.length * 8 ≤ 140737488355328∧∀ ad,A=some ad→ad.block ≠ g
theorem RAccN.plain {w:World} {g o:Nat} {a:Ac} (h:RAccN w g o a):RAcc w w.heap.size g o a:=by
 obtain ⟨A,c,h0,h1,h2,h3,h4,_⟩:=h
 exact ⟨A,c,h0,h1,h2,h3,h4⟩
theorem RAccN.move {w w':World} {g o:Nat} {a:Ac} (h:RAccN w g o a) (hs:w.heap.size ≤ w'.heap.size) (hc:∀ j,j < 3→w'.cell? ⟨g,o + j,none⟩=w.cell? ⟨g,o + j,none⟩)
  (hk:∀ b o,b < w.heap.size→b ≠ g→w'.cell? ⟨b,o,none⟩=w.cell? ⟨b,o,none⟩):RAccN w' g o a:=by
 obtain ⟨A,c,h0,h1,h2,h3,h4,h5⟩:=h
 exact ⟨A,c,(hc 0 (by omega)).trans h0,(hc 1 (by omega)).trans h1,(hc 2 (by omega)).trans h2,h3.mono_ne hs h5 hk,h4,h5⟩
theorem elem_acc:Elem Try.prog 39 37 3 40:=elem_mk Try.underlying39 (by kernel_rfl) (by decide)
end
section
open Go.ChangeShapes Go.WideShapes Go.ChangeAt Go.RowKit
theorem exists_list {α:Type} (Q:Nat→α→Prop):∀ n,(∀ i,i < n→∃ a,Q i a)→∃ L:List α,L.length=n∧∀ i a,L[i]?=some a→Q i a
 | 0,_=>⟨[],rfl,by simp⟩
 | n + 1,h=>by
  obtain ⟨L,hl,hL⟩:=exists_list Q n fun i hi=>h i (by omega)
  obtain ⟨a,ha⟩:=h n (by omega)
  refine ⟨L ++ [a],by simp [hl],fun i b hb=>?_⟩
  by_cases hi:i < n
  ·rw [List.getElem?_append_left (by omega)] at hb;exact hL i b hb
  ·have hlt:=(List.getElem?_eq_some_iff.1 hb).1
   simp [hl] at hlt
   obtain rfl:i=n:=by omega
   rw [List.getElem?_append_right (by omega)] at hb
   simp [hl] at hb
   subst hb;exact ha
theorem weights_all {H:Type} {P:Program} {e:TypeId} {y:Nat}:∀ {ds:List (DataW H)} {d:DataW H},d ∈ ds→y ∈ d.weights P e→y ∈ DataW.weightsAll P e ds
 | [],_,h,_=>by cases h
 | d' :: ds,d,h,hy=>by
  rw [DataW.weightsAll,List.mem_append]
  rcases List.mem_cons.1 h with rfl | h
  ·exact .inl hy
  ·exact .inr (weights_all h hy)
section
variable {H:Type} {enc:TypeId × Value→H} {W:World}
theorem core_int {fuel:Nat} {cs:List Value} {x:DataW H × List MemPlace} (h:DataW.trod enc Try.prog W 0 (fun _=>true) true fuel 3 cs=some x):∃ z,cs = [.int .i64 z]∧inI64 z:=by
 obtain ⟨z,h1,_,h3⟩:=DataW.trod_int Try.underlying3 h
 exact ⟨z,h1,inI64_of h3⟩
set_option maxRecDepth 100000 in
theorem core_ints {fuel:Nat} {cs:List Value} {x:DataW H × List MemPlace} (h:DataW.trod enc Try.prog W 0 (fun _=>true) true fuel 24 cs=some x)
  (hs:∀ y ∈ x.1.weights Try.prog 24,y ≤ reachBytes) :
  ∃ A n c l,cs = [.slice A n c]∧Rd W W.heap.size 1 A n c (ints l)∧c * 8 ≤ reachBytes∧∀ z ∈ l,inI64 z:=by
 rcases open_ints Try.underlying24 Try.underlying3 (by kernel_rfl) h with ⟨hcs,hx⟩ | ⟨ad,n,c,zs,hcs,_,hl,hm,hz,hx,hcell,hwz⟩
 ·exact ⟨none,0,0,[],hcs,Rd.none_ _ _ _,by simp,by simp⟩
 ·simp only [if_true] at hz
  refine ⟨some ad,n,c,zs.take n,hcs,⟨by simp [ints];omega,hl,hm,nofun,fun hn=>?_⟩,?_,fun z hz'=>inI64_of (hwz z (List.mem_of_mem_take hz'))⟩
  ·have h0:=hcell 0 (by omega)
   rw [show ad.add 0=ad by simp [Addr.add]] at h0
   have hsp:ad.spot=none:=spot_of_cell h0
   refine ⟨ad.block,ad.off,?_,lt_of_cell h0,fun j u hj=>?_⟩
   ·obtain ⟨b,o,sp⟩:=ad;simp only at hsp;subst hsp;rfl
   ·have hj':j < n:=by have:=(List.getElem?_eq_some_iff.1 hj).1;simp [ints] at this;omega
    rw [add_of_cell hsp (hcell j (by omega))]
    simp [ints,hj'] at hj
    obtain ⟨z,hz',rfl⟩:=hj
    rw [List.getD,hz'];rfl
  ·subst hx
   have hb:=hs (((lits .i64 (zs.take n):List (DataW H)).length + (lits .i64 (zs.drop n):List (DataW H)).length) * 8) (by
    simp only [DataW.weights,Try.underlying24]
    rw [show Try.prog.bytesOf 3=8 by kernel_rfl]
    simp)
   simp [lits] at hb
   omega
structure FitAc (a:Ac):Prop where
 id:inI64 a.id
 bal:inI64 a.bal
 pos:∀ z ∈ a.pos,inI64 z
set_option maxRecDepth 100000 in
theorem core_acc {fuel:Nat} {cs:List Value} {x:DataW H × List MemPlace} (h:DataW.trod enc Try.prog W 0 (fun _=>true) true fuel 37 cs=some x)
  (hs:∀ y ∈ x.1.weights Try.prog 37,y ≤ reachBytes) :
  ∃ (a:Ac) (A:Option Addr) (c:Nat),cs = [.int .i64 a.id,.int .i64 a.bal,.slice A a.pos.length c]∧Rd W W.heap.size 1 A a.pos.length c (ints a.pos)∧c * 8 ≤ reachBytes∧FitAc a:=by
 obtain ⟨xs,m,_,hx,hlen,hxl,hf⟩:=DataW.trod_struct Try.underlying37 h
 rw [show Try.prog.cellsOf 37=3 by kernel_rfl] at hlen
 have h0:DataW.trod enc Try.prog W 0 (fun _=>true) true m 3 ((cs.drop 0).take (Try.prog.cellsOf 3))=xs[0]?:=hf 0 _ rfl
 have h1:DataW.trod enc Try.prog W 0 (fun _=>true) true m 3 ((cs.drop 1).take (Try.prog.cellsOf 3))=xs[1]?:=hf 1 _ rfl
 have h2:DataW.trod enc Try.prog W 0 (fun _=>true) true m 24 ((cs.drop 2).take (Try.prog.cellsOf 24))=xs[2]?:=hf 2 _ rfl
 rw [show Try.prog.cellsOf 3=1 by kernel_rfl] at h0 h1
 rw [show Try.prog.cellsOf 24=1 by kernel_rfl] at h2
 match cs,hlen,xs,hxl with
 | [c0,c1,c2],_,[y0,y1,y2],_ =>
  obtain ⟨z0,e0,i0⟩:=core_int (x:=y0) (by simpa using h0)
  obtain ⟨z1,e1,i1⟩:=core_int (x:=y1) (by simpa using h1)
  have hs2:∀ y ∈ y2.1.weights Try.prog 24,y ≤ reachBytes:=by
   intro y hy
   refine hs y ?_
   subst hx
   simp only [DataW.weights,Try.underlying37]
   simp [DataW.weightsEach,hy]
  obtain ⟨A,n,c,l,e2,r2,s2,i2⟩:=core_ints (x:=y2) (by simpa using h2) hs2
  obtain rfl:l.length=n:=r2.ofInts
  injection e0 with e0 _
  injection e1 with e1 _
  injection e2 with e2 _
  subst e0 e1 e2
  exact ⟨⟨z0,z1,l⟩,A,c,rfl,r2,s2,⟨i0,i1,i2⟩⟩
theorem core_accs {fuel:Nat} {cs:List Value} {x:DataW H × List MemPlace} (h:DataW.trod enc Try.prog W 0 (fun _=>true) true fuel 39 cs=some x)
  (hs:∀ y ∈ x.1.weights Try.prog 39,y ≤ reachBytes) :
  ∃ A n c L,cs = [.slice A n c]∧RdL shAcc W W.heap.size A n c L∧c * 40 ≤ reachBytes∧∀ a ∈ L,FitAc a:=by
 rcases Go.Deep.open_slice Try.underlying39 h with ⟨hcs,hx⟩ | ⟨ad,n,c,m,f,D,Pl,hcs,_,hl,hm,hmm,hx,hi⟩
 ·exact ⟨none,0,0,[],hcs,RdL.none_ _ _ _,by simp,by simp⟩
 ·simp only [if_true] at hmm
  subst hmm
  rw [show Try.prog.cellsOf 37=3 by kernel_rfl] at hi
  have hw:∀ i,i < n→∀ y ∈ (D i).weights Try.prog 37,y ≤ reachBytes:=by
   intro i hin y hy
   refine hs y ?_
   subst hx
   simp only [DataW.weights,Try.underlying39]
   refine List.mem_cons_of_mem _ (List.mem_append_left _ (weights_all (d:=D i) ?_ hy))
   exact List.mem_map.2 ⟨i,List.mem_range.2 hin,rfl⟩
  have hel:∀ i,i < n→∃ a:Ac,FitAc a∧∃ A2 c2,W.cell? (ad.add (i * 3))=some (.int .i64 a.id)∧W.cell? ((ad.add (i * 3)).add 1)=some (.int .i64 a.bal)∧W.cell? ((ad.add (i * 3)).add 2)=some (.slice A2 a.pos.length c2) ∧
    Rd W W.heap.size 1 A2 a.pos.length c2 (ints a.pos)∧a.pos.length * 8 ≤ 140737488355328:=by
   intro i hin
   obtain ⟨cs',hc,ht⟩:=hi i (by omega)
   obtain ⟨_,hcl,hat⟩:=World.cells?_some hc
   obtain ⟨a,A2,c2,he,hr,hc2,hfit⟩:=core_acc ht (hw i hin)
   subst he
   have e0:=hat 0 (by omega)
   rw [show (ad.add (i * 3)).add 0=ad.add (i * 3) by simp [Addr.add]] at e0
   have hle:=hr.le
   exact ⟨a,hfit,A2,c2,e0,hat 1 (by omega),hat 2 (by omega),hr,by have:reachBytes=140737488351232:=rfl;omega⟩
  obtain ⟨L,hL,hall⟩:=exists_list _ n hel
  refine ⟨some ad,n,m,L,hcs,⟨hL,hl,hm,nofun,fun hn=>?_⟩,?_,fun a ha=>?_⟩
  ·obtain ⟨a,_,_,_,k0,_⟩:=hel 0 hn
   rw [show ad.add (0 * 3)=ad by simp [Addr.add]] at k0
   have hsp:=spot_of_cell k0
   refine ⟨ad.block,ad.off,?_,lt_of_cell k0,fun i a ha=>?_⟩
   ·obtain ⟨b,o,sp⟩:=ad;simp only at hsp;subst hsp;rfl
   ·obtain ⟨_,A2,c2,k0,k1,k2,k3,k4⟩:=hall i a ha
    have hb:∀ q,(ad.add q).block=ad.block∧(ad.add q).off=ad.off + q∧(ad.add q).spot=none:=by
     intro q;unfold Addr.add;split
     ·rename_i h0;subst h0;exact ⟨rfl,rfl,hsp⟩
     ·exact ⟨rfl,rfl,rfl⟩
    obtain ⟨b1,b2,b3⟩:=hb (i * 3)
    have e0:=add_of_cell hsp k0
    have e1:=add_of_cell b3 k1
    have e2:=add_of_cell b3 k2
    rw [b1,b2] at e1 e2
    exact ⟨A2,c2,e0,e1,e2,k3,k4⟩
  ·subst hx
   have hb:=hs ((((List.range n).map D).length + ((List.range (m - n)).map fun j=>D (n + j)).length) * 40) (by
    simp only [DataW.weights,Try.underlying39]
    rw [show Try.prog.bytesOf 37=40 by kernel_rfl]
    simp)
   simp at hb
   rw [show n + (m - n)=m by omega] at hb
   exact hb
  ·obtain ⟨i,hi⟩:=List.mem_iff_getElem?.1 ha
   exact (hall i a hi).1
end
end
section
structure Od where
 id:Int
 acc:Int
 side:Int
 price:Int
 qty:Int
structure Bk where
 bids:List Od
 asks:List Od
def zeroOd:Od:=⟨0,0,0,0,0⟩
def zeroBk:Bk:=⟨[],[]⟩
theorem Od.ext' {a b:Od} (h1:a.id=b.id) (h2:a.acc=b.acc) (h3:a.side=b.side) (h4:a.price=b.price) (h5:a.qty=b.qty):a=b:=by
 obtain ⟨a1,a2,a3,a4,a5⟩:=a
 obtain ⟨b1,b2,b3,b4,b5⟩:=b
 simp only at h1 h2 h3 h4 h5
 subst h1 h2 h3 h4 h5;rfl
def sameOd (a b:Od):Bool:=decide (a.id=b.id) && decide (a.acc=b.acc) && decide (a.side=b.side) && decide (a.price=b.price) && decide (a.qty=b.qty)
theorem sameOd_iff {a b:Od}:sameOd a b=true ↔ a=b:=by
 constructor
 ·intro h
  simp only [sameOd,Bool.and_eq_true,decide_eq_true_eq] at h
  obtain ⟨⟨⟨⟨h1,h2⟩,h3⟩,h4⟩,h5⟩:=h
  exact Od.ext' h1 h2 h3 h4 h5
 ·rintro rfl;simp [sameOd]
def ordErr (o:Od):Int :=
 if o.id < 1∨100000 < o.id∨o.acc < 0∨8 ≤ o.acc then 5 else if o.side ≠ 1∧o.side ≠ -1 then 4 else if o.price < 1∨10000 < o.price∨o.qty < 1∨1000 < o.qty then 3 else 0
theorem ordErr_ok {o:Od}:ordErr o=0 ↔ (1 ≤ o.id∧o.id ≤ 100000)∧(0 ≤ o.acc∧o.acc ≤ 7)∧(o.side=1∨o.side = -1)∧(1 ≤ o.price∧o.price ≤ 10000)∧(1 ≤ o.qty∧o.qty ≤ 1000):=by
 unfold ordErr
 split
 ·constructor
  ·intro h;omega
  ·intro h;omega
 ·split
  ·constructor
   ·intro h;omega
   ·intro h;omega
  ·split
   ·constructor
    ·intro h;omega
    ·intro h;omega
   ·constructor
    ·intro _;omega
    ·intro _;rfl
def aheadB (a b:Od):Bool:=if a.price=b.price then decide (a.id < b.id) else if a.side=1 then decide (b.price < a.price) else decide (a.price < b.price)
theorem ahead_buy {a b:Od} (h:a.side=1):aheadB a b=true ↔ b.price < a.price∨a.price=b.price∧a.id < b.id:=by
 unfold aheadB
 split
 ·simp;omega
 ·simp;omega
theorem ahead_sell {a b:Od} (h:a.side ≠ 1):aheadB a b=true ↔ a.price < b.price∨a.price=b.price∧a.id < b.id:=by
 unfold aheadB
 split
 ·simp;omega
 ·simp;omega
theorem ahead_trans {a b c:Od} (h:a.side=b.side) (h1:aheadB a b=true) (h2:aheadB b c=true):aheadB a c=true:=by
 by_cases hs:a.side=1
 ·rw [ahead_buy hs] at h1 ⊢
  rw [ahead_buy (h ▸ hs)] at h2
  omega
 ·rw [ahead_sell hs] at h1 ⊢
  rw [ahead_sell (h ▸ hs)] at h2
  omega
theorem ahead_asymm {a b:Od} (h:a.side=b.side) (h1:aheadB a b=true):aheadB b a=false:=by
 rw [← Bool.not_eq_true]
 intro h2
 by_cases hs:a.side=1
 ·rw [ahead_buy hs] at h1
  rw [ahead_buy (h ▸ hs)] at h2
  omega
 ·rw [ahead_sell hs] at h1
  rw [ahead_sell (h ▸ hs)] at h2
  omega
theorem ahead_total {a b:Od} (h:a.side=b.side) (h1:a.id ≠ b.id) (h2:aheadB a b=false):aheadB b a=true:=by
 rw [← Bool.not_eq_true] at h2
 by_cases hs:a.side=1
 ·rw [ahead_buy hs] at h2
  rw [ahead_buy (h ▸ hs)]
  omega
 ·rw [ahead_sell hs] at h2
  rw [ahead_sell (h ▸ hs)]
  omega
theorem ahead_irrefl (a:Od):aheadB a a=false:=by unfold aheadB;simp
def Sorted (l:List Od):Prop:=l.Pairwise fun a b=>aheadB a b=true
structure SideOk (s:Int) (l:List Od):Prop where
 ok:∀ o ∈ l,ordErr o=0
 side:∀ o ∈ l,o.side=s
 sorted:Sorted l
 ids:(l.map Od.id).Nodup
def sideErr (s:Int):Option Od→List Int→List Od→Int
 | _,_,[]=>0
 | p,seen,o :: l=>if ordErr o ≠ 0 then ordErr o else if o.side ≠ s∨(∃ q ∈ p,aheadB q o=false) then 4 else if o.id ∈ seen then 6 else sideErr s (some o) (o.id :: seen) l
theorem sideErr_ok {s:Int}:∀ {l:List Od} {p:Option Od} {seen:List Int},(∀ q ∈ p,q.side=s) →
  (sideErr s p seen l=0 ↔ SideOk s l∧(∀ q ∈ p,∀ o ∈ l,aheadB q o=true)∧∀ o ∈ l,o.id ∉ seen)
 | [],p,seen,_=>by
  simp only [sideErr,true_iff]
  exact ⟨⟨by simp,by simp,List.Pairwise.nil,by simp⟩,by simp,by simp⟩
 | o :: l,p,seen,hp=>by
  unfold sideErr
  by_cases h1:ordErr o=0
  ·rw [if_neg (by omega)]
   by_cases h2:o.side=s∧∀ q ∈ p,aheadB q o=true
   ·rw [if_neg (by
     rintro (h | ⟨q,hq,h⟩)
     ·exact h h2.1
     ·rw [h2.2 q hq] at h;cases h)]
    by_cases h3:o.id ∈ seen
    ·rw [if_pos h3]
     constructor
     ·intro h;omega
     ·rintro ⟨_,_,h⟩;exact absurd h3 (h o (by simp))
    ·rw [if_neg h3,sideErr_ok (p:=some o) (by intro q hq;injection hq with hq;rw [← hq];exact h2.1)]
     constructor
     ·rintro ⟨⟨k1,k2,k3,k4⟩,k5,k6⟩
      refine ⟨⟨?_,?_,?_,?_⟩,?_,?_⟩
      ·intro x hx
       rcases List.mem_cons.1 hx with rfl | hx
       ·exact h1
       ·exact k1 x hx
      ·intro x hx
       rcases List.mem_cons.1 hx with rfl | hx
       ·exact h2.1
       ·exact k2 x hx
      ·exact List.pairwise_cons.2 ⟨fun x hx=>k5 o rfl x hx,k3⟩
      ·rw [List.map_cons,List.nodup_cons]
       refine ⟨?_,k4⟩
       intro hm
       obtain ⟨x,hx,he⟩:=List.mem_map.1 hm
       exact k6 x hx (by rw [he];simp)
      ·intro q hq x hx
       rcases List.mem_cons.1 hx with rfl | hx
       ·exact h2.2 q hq
       ·exact ahead_trans ((hp q hq).trans h2.1.symm) (h2.2 q hq) (k5 o rfl x hx)
      ·intro x hx
       rcases List.mem_cons.1 hx with rfl | hx
       ·exact h3
       ·intro h;exact k6 x hx (by simp [h])
     ·rintro ⟨⟨k1,k2,k3,k4⟩,k5,k6⟩
      obtain ⟨k7,k8⟩:=List.pairwise_cons.1 k3
      rw [List.map_cons,List.nodup_cons] at k4
      refine ⟨⟨fun x hx=>k1 x (by simp [hx]),fun x hx=>k2 x (by simp [hx]),k8,k4.2⟩,?_,?_⟩
      ·intro q hq x hx
       injection hq with hq;subst hq
       exact k7 x hx
      ·intro x hx hm
       rcases List.mem_cons.1 hm with hm | hm
       ·exact k4.1 (List.mem_map.2 ⟨x,hx,hm⟩)
       ·exact k6 x (by simp [hx]) hm
   ·rw [if_pos (by
     by_cases h3:o.side=s
     ·right
      have:¬ ∀ q ∈ p,aheadB q o=true:=fun h=>h2 ⟨h3,h⟩
      cases p with
      | none=>exact absurd (by simp) this
      | some q=>exact ⟨q,rfl,by
        rw [← Bool.not_eq_true];intro h;exact this (by intro r hr;injection hr with hr;rw [← hr];exact h)⟩
     ·exact .inl h3)]
    constructor
    ·intro h;omega
    ·rintro ⟨k,k5,_⟩
     exact absurd ⟨k.side o (by simp),fun q hq=>k5 q hq o (by simp)⟩ h2
  ·rw [if_pos h1]
   constructor
   ·intro h;exact absurd h h1
   ·rintro ⟨k,_⟩;exact absurd (k.ok o (by simp)) h1
def crossedB (b:Bk):Bool:=match b.bids,b.asks with
 | x :: _,y :: _=>decide (y.price ≤ x.price)
 | _,_=>false
def bookErr (b:Bk):Int :=
 if 40 < b.bids.length + b.asks.length then 2
 else if sideErr 1 none [] b.bids ≠ 0 then sideErr 1 none [] b.bids
 else if sideErr (-1) none (b.bids.map Od.id).reverse b.asks ≠ 0 then sideErr (-1) none (b.bids.map Od.id).reverse b.asks
 else if crossedB b then 4 else 0
structure BookOk (b:Bk):Prop where
 len:b.bids.length + b.asks.length ≤ 40
 bids:SideOk 1 b.bids
 asks:SideOk (-1) b.asks
 apart:∀ x ∈ b.bids,∀ y ∈ b.asks,x.id ≠ y.id
 free:crossedB b=false
theorem bookErr_ok {b:Bk}:bookErr b=0 ↔ BookOk b:=by
 unfold bookErr
 have e1:=sideErr_ok (s:=1) (l:=b.bids) (p:=none) (seen:=[]) (by simp)
 have e2:=sideErr_ok (s:=-1) (l:=b.asks) (p:=none) (seen:=(b.bids.map Od.id).reverse) (by simp)
 split
 ·rename_i h
  constructor
  ·intro h';omega
  ·intro h';have:=h'.len;omega
 ·rename_i h
  split
  ·rename_i h1
   constructor
   ·intro h';exact absurd h' h1
   ·intro h';exact absurd (e1.2 ⟨h'.bids,by simp,by simp⟩) h1
  ·rename_i h1
   have h1:=e1.1 (by simpa using h1)
   split
   ·rename_i h2
    constructor
    ·intro h';exact absurd h' h2
    ·intro h';exact absurd (e2.2 ⟨h'.asks,by simp,fun o ho hm=>by
      simp only [List.mem_reverse,List.mem_map] at hm
      obtain ⟨x,hx,he⟩:=hm
      exact h'.apart x hx o ho he⟩) h2
   ·rename_i h2
    have h2:=e2.1 (by simpa using h2)
    split
    ·rename_i h3
     constructor
     ·intro h';omega
     ·intro h';rw [h'.free] at h3;cases h3
    ·rename_i h3
     constructor
     ·intro _
      refine ⟨by omega,h1.1,h2.1,?_,by simpa using h3⟩
      intro x hx y hy he
      exact h2.2.2 y hy (by simp only [List.mem_reverse,List.mem_map];exact ⟨x,hx,he⟩)
     ·intro _;rfl
theorem sorted_ext {s:Int}:∀ {l m:List Od},(∀ o ∈ l,o.side=s)→(∀ o ∈ m,o.side=s)→Sorted l→Sorted m→(∀ o,o ∈ l ↔ o ∈ m)→l=m
 | [],[],_,_,_,_,_=>rfl
 | [],y :: m,_,_,_,_,h=>absurd ((h y).2 (by simp)) (by simp)
 | x :: l,[],_,_,_,_,h=>absurd ((h x).1 (by simp)) (by simp)
 | x :: l,y :: m,hl,hm,sl,sm,h=>by
  obtain ⟨l1,l2⟩:=List.pairwise_cons.1 sl
  obtain ⟨m1,m2⟩:=List.pairwise_cons.1 sm
  have hxy:x=y:=by
   rcases List.mem_cons.1 ((h x).1 (by simp)) with e | e
   ·exact e
   ·rcases List.mem_cons.1 ((h y).2 (by simp)) with e' | e'
    ·exact e'.symm
    ·have a1:=m1 x e
     have a2:=l1 y e'
     rw [ahead_asymm ((hl x (by simp)).trans (hm y (by simp)).symm) a2] at a1
     cases a1
  subst hxy
  have hx:x ∉ l:=fun hx=>by have:=l1 x hx;rw [ahead_irrefl] at this;cases this
  have hx':x ∉ m:=fun hx=>by have:=m1 x hx;rw [ahead_irrefl] at this;cases this
  rw [sorted_ext (fun o ho=>hl o (by simp [ho])) (fun o ho=>hm o (by simp [ho])) l2 m2 (fun o=>?_)]
  constructor
  ·intro ho
   rcases List.mem_cons.1 ((h o).1 (by simp [ho])) with e | e
   ·subst e;exact absurd ho hx
   ·exact e
  ·intro ho
   rcases List.mem_cons.1 ((h o).2 (by simp [ho])) with e | e
   ·subst e;exact absurd ho hx'
   ·exact e
def insO (o:Od):List Od→List Od
 | []=>[o]
 | x :: l=>if aheadB o x then o :: x :: l else x :: insO o l
theorem mem_insO {o x:Od}:∀ {l:List Od},x ∈ insO o l ↔ x=o∨x ∈ l
 | []=>by simp [insO]
 | y :: l=>by
  unfold insO
  split
  ·simp
  ·simp only [List.mem_cons,mem_insO (l:=l)]
   constructor
   ·rintro (h | h | h) <;> simp [h]
   ·rintro (h | h | h) <;> simp [h]
theorem length_insO {o:Od}:∀ {l:List Od},(insO o l).length=l.length + 1
 | []=>rfl
 | y :: l=>by
  unfold insO
  split
  ·simp
  ·simp [length_insO (l:=l)]
theorem sorted_insO {o:Od}:∀ {l:List Od},Sorted l→(∀ x ∈ l,x.side=o.side)→(∀ x ∈ l,x.id ≠ o.id)→Sorted (insO o l)
 | [],_,_,_=>List.pairwise_singleton _ _
 | y :: l,h,hs,hi=>by
  obtain ⟨h1,h2⟩:=List.pairwise_cons.1 h
  unfold insO
  split
  ·rename_i h3
   refine List.pairwise_cons.2 ⟨?_,h⟩
   intro x hx
   rcases List.mem_cons.1 hx with rfl | hx
   ·exact h3
   ·exact ahead_trans (hs y (by simp)).symm h3 (h1 x hx)
  ·rename_i h3
   refine List.pairwise_cons.2 ⟨?_,sorted_insO h2 (fun x hx=>hs x (by simp [hx])) (fun x hx=>hi x (by simp [hx]))⟩
   intro x hx
   rcases mem_insO.1 hx with rfl | hx
   ·exact ahead_total (hs y (by simp)).symm (fun e=>hi y (by simp) e.symm) (by simpa using h3)
   ·exact h1 x hx
theorem nodup_insO {o:Od}:∀ {l:List Od},(l.map Od.id).Nodup→(∀ x ∈ l,x.id ≠ o.id)→((insO o l).map Od.id).Nodup
 | [],_,_=>by simp [insO]
 | y :: l,h,hi=>by
  rw [List.map_cons,List.nodup_cons] at h
  unfold insO
  split
  ·rw [List.map_cons,List.map_cons,List.nodup_cons,List.nodup_cons]
   refine ⟨?_,h⟩
   intro hm
   rw [← List.map_cons] at hm
   obtain ⟨x,hx,he⟩:=List.mem_map.1 hm
   exact hi x hx he
  ·rw [List.map_cons,List.nodup_cons]
   refine ⟨?_,nodup_insO h.2 (fun x hx=>hi x (by simp [hx]))⟩
   intro hm
   obtain ⟨x,hx,he⟩:=List.mem_map.1 hm
   rcases mem_insO.1 hx with rfl | hx
   ·exact hi y (by simp) he.symm
   ·exact h.1 (List.mem_map.2 ⟨x,hx,he⟩)
theorem sideOk_insO {s:Int} {o:Od} {l:List Od} (h:SideOk s l) (ho:ordErr o=0) (hs:o.side=s) (hi:∀ x ∈ l,x.id ≠ o.id):SideOk s (insO o l):=by
 refine ⟨?_,?_,sorted_insO h.sorted (fun x hx=>(h.side x hx).trans hs.symm) hi,nodup_insO h.ids hi⟩
 ·intro x hx
  rcases mem_insO.1 hx with rfl | hx
  ·exact ho
  ·exact h.ok x hx
 ·intro x hx
  rcases mem_insO.1 hx with rfl | hx
  ·exact hs
  ·exact h.side x hx
def delO (id:Int) (l:List Od):List Od:=l.filter fun x=>!(decide (x.id=id))
theorem mem_delO {id:Int} {x:Od} {l:List Od}:x ∈ delO id l ↔ x ∈ l∧x.id ≠ id:=by simp [delO]
theorem sideOk_sub {s:Int} {l m:List Od} (h:SideOk s l) (hm:m.Sublist l):SideOk s m :=
 ⟨fun o ho=>h.ok o (hm.subset ho),fun o ho=>h.side o (hm.subset ho),h.sorted.sublist hm,h.ids.sublist (hm.map _)⟩
theorem sideOk_delO {s:Int} {id:Int} {l:List Od} (h:SideOk s l):SideOk s (delO id l):=sideOk_sub h List.filter_sublist
theorem id_inj {s:Int} {l:List Od} (h:SideOk s l) {x y:Od} (hx:x ∈ l) (hy:y ∈ l) (he:x.id=y.id):x=y:=by
 have hn:=h.ids
 clear h
 induction l with
 | nil=>cases hx
 | cons z l ih =>
  rw [List.map_cons,List.nodup_cons] at hn
  rcases List.mem_cons.1 hx with e1 | hx1
  ·rcases List.mem_cons.1 hy with e2 | hy1
   ·rw [e1,e2]
   ·exact absurd (List.mem_map.2 ⟨y,hy1,by rw [← he,e1]⟩) hn.1
  ·rcases List.mem_cons.1 hy with e2 | hy1
   ·exact absurd (List.mem_map.2 ⟨x,hx1,by rw [he,e2]⟩) hn.1
   ·exact ih hx1 hy1 hn.2
theorem del_ins {s:Int} {o:Od} {l:List Od} (h:SideOk s l) (ho:ordErr o=0) (hs:o.side=s) (hi:∀ x ∈ l,x.id ≠ o.id):delO o.id (insO o l)=l:=by
 have h1:=sideOk_insO h ho hs hi
 have h2:=sideOk_delO (id:=o.id) h1
 refine sorted_ext (s:=s) h2.side h.side h2.sorted h.sorted fun x=>?_
 rw [mem_delO,mem_insO]
 constructor
 ·rintro ⟨rfl | hx,hne⟩
  ·exact absurd rfl hne
  ·exact hx
 ·intro hx;exact ⟨.inr hx,hi x hx⟩
def hasB (b:Bk) (id:Int):Bool:=(b.bids ++ b.asks).any fun o=>decide (o.id=id)
def crossesB (o:Od) (price:Int):Bool:=if o.side=1 then decide (price ≤ o.price) else decide (o.price ≤ price)
def headCrosses (o:Od) (l:List Od):Bool:=match l with
 | x :: _=>crossesB o x.price
 | []=>false
def ownOf (b:Bk) (s:Int):List Od:=if s=1 then b.bids else b.asks
def otherOf (b:Bk) (s:Int):List Od:=if s=1 then b.asks else b.bids
def setOwn (b:Bk) (s:Int) (l:List Od):Bk:=if s=1 then { b with bids:=l } else { b with asks:=l }
def setOther (b:Bk) (s:Int) (l:List Od):Bk:=if s=1 then { b with asks:=l } else { b with bids:=l }
def restOf (b:Bk) (o:Od):Bk × Int :=
 if bookErr b ≠ 0 then (zeroBk,bookErr b) else if hasB b o.id then (zeroBk,6) else if ordErr o ≠ 0 then (zeroBk,ordErr o)
 else if b.bids.length + b.asks.length=40 then (zeroBk,7) else if headCrosses o (otherOf b o.side) then (zeroBk,9)
 else (setOwn b o.side (insO o (ownOf b o.side)),0)
def findO (l:List Od) (id:Int):Option Od:=l.find? fun o=>decide (o.id=id)
def findOf (b:Bk) (id:Int):Od × Int :=
 if bookErr b ≠ 0 then (zeroOd,bookErr b) else match findO (b.bids ++ b.asks) id with
 | some o=>(o,0)
 | none=>(zeroOd,5)
def removeOf (b:Bk) (id:Int):Bk × Od × Int :=
 if (findOf b id).2 ≠ 0 then (zeroBk,zeroOd,(findOf b id).2)
 else (setOwn b (findOf b id).1.side (delO id (ownOf b (findOf b id).1.side)),(findOf b id).1,0)
theorem hasB_iff {b:Bk} {id:Int}:hasB b id=true ↔ ∃ o,(o ∈ b.bids∨o ∈ b.asks)∧o.id=id:=by
 simp only [hasB,List.any_eq_true,List.mem_append,decide_eq_true_eq]
theorem hasB_not {b:Bk} {id:Int}:hasB b id=false ↔ (∀ x ∈ b.bids,x.id ≠ id)∧∀ x ∈ b.asks,x.id ≠ id:=by
 rw [← Bool.not_eq_true,hasB_iff]
 constructor
 ·intro h;exact ⟨fun x hx e=>h ⟨x,.inl hx,e⟩,fun x hx e=>h ⟨x,.inr hx,e⟩⟩
 ·rintro ⟨h1,h2⟩ ⟨x,hx | hx,e⟩
  ·exact h1 x hx e
  ·exact h2 x hx e
theorem findO_some {l:List Od} {id:Int} {o:Od} (h:findO l id=some o):o ∈ l∧o.id=id:=by
 have h1:=List.mem_of_find?_eq_some h
 have h2:=List.find?_some h
 exact ⟨h1,by simpa using h2⟩
theorem findO_none {l:List Od} {id:Int} (h:findO l id=none):∀ o ∈ l,o.id ≠ id:=by
 intro o ho
 have:=List.find?_eq_none.1 h o ho
 simpa using this
theorem bookOk_ids {b:Bk} (h:BookOk b) {x y:Od} (hx:x ∈ b.bids ++ b.asks) (hy:y ∈ b.bids ++ b.asks) (he:x.id=y.id):x=y:=by
 rcases List.mem_append.1 hx with hx | hx
 ·rcases List.mem_append.1 hy with hy | hy
  ·exact id_inj h.bids hx hy he
  ·exact absurd he (h.apart x hx y hy)
 ·rcases List.mem_append.1 hy with hy | hy
  ·exact absurd he.symm (h.apart y hy x hx)
  ·exact id_inj h.asks hx hy he
theorem findO_of {b:Bk} (h:BookOk b) {o:Od} (ho:o ∈ b.bids ++ b.asks):findO (b.bids ++ b.asks) o.id=some o:=by
 cases hf:findO (b.bids ++ b.asks) o.id with
 | none=>exact absurd rfl (findO_none hf o ho)
 | some x =>
  obtain ⟨h1,h2⟩:=findO_some hf
  rw [bookOk_ids h h1 ho h2]
theorem free_all {b:Bk} (h:BookOk b):∀ x ∈ b.bids,∀ y ∈ b.asks,x.price < y.price:=by
 obtain ⟨bids,asks⟩:=b
 intro x hx y hy
 have hf:=h.free
 have hb:=h.bids
 have ha:=h.asks
 simp only at hx hy hb ha
 cases bids with
 | nil=>cases hx
 | cons x0 l =>
  cases asks with
  | nil=>cases hy
  | cons y0 m =>
   simp only [crossedB,decide_eq_false_iff_not] at hf
   have h1:x.price ≤ x0.price:=by
    rcases List.mem_cons.1 hx with rfl | hx
    ·exact Int.le_refl _
    ·have:=(List.pairwise_cons.1 hb.sorted).1 x hx
     rw [ahead_buy (hb.side x0 (by simp))] at this
     omega
   have h2:y0.price ≤ y.price:=by
    rcases List.mem_cons.1 hy with rfl | hy
    ·exact Int.le_refl _
    ·have:=(List.pairwise_cons.1 ha.sorted).1 y hy
     rw [ahead_sell (by rw [ha.side y0 (by simp)];decide)] at this
     omega
   omega
theorem free_of {b:Bk} (h:∀ x ∈ b.bids,∀ y ∈ b.asks,x.price < y.price):crossedB b=false:=by
 obtain ⟨bids,asks⟩:=b
 unfold crossedB
 cases bids with
 | nil=>rfl
 | cons x l =>
  cases asks with
  | nil=>rfl
  | cons y m =>
   have:=h x (by simp) y (by simp)
   simp only [decide_eq_false_iff_not]
   omega
end
section
open Go.RowKit
def eqI (xs ys:List Int):Bool:=decide (xs=ys)
theorem eqI_iff {xs ys:List Int}:eqI xs ys=true ↔ xs=ys:=by simp [eqI]
theorem eqI_len {xs ys:List Int} (h:xs.length ≠ ys.length):eqI xs ys=false:=by simp [eqI];rintro rfl;exact h rfl
theorem eqI_at {xs ys:List Int} {j:Nat} {a b:Int} (ha:xs[j]?=some a) (hb:ys[j]?=some b) (h:a ≠ b):eqI xs ys=false:=by
 simp [eqI];rintro rfl;rw [ha] at hb;exact h (Option.some.inj hb)
theorem eqI_of {xs ys:List Int} (hl:xs.length=ys.length) (h:xs.take xs.length=ys.take xs.length):eqI xs ys=true:=by
 rw [eqI_iff];rwa [List.take_length,hl,List.take_length] at h
theorem take_next {xs ys:List Int} {j:Nat} {a b:Int} (ha:xs[j]?=some a) (hb:ys[j]?=some b) (h:a=b) (ht:xs.take j=ys.take j):xs.take (j + 1)=ys.take (j + 1):=by
 rw [List.take_add_one,List.take_add_one,ht,ha,hb,h]
set_option maxHeartbeats 1000000 in
theorem equal_ints (A A':Option Addr) (n c n' c':Nat) (xs ys:List Int) (B B':Nat) (w:World) (h:Rd w B 1 A n c (ints xs)) (h':Rd w B' 1 A' n' c' (ints ys)) :
  Calls Try.prog 30 #[.slice A n c,.slice A' n' c'] w fun e w'=>e=.returned (.bool (eqI xs ys))∧∃ q,w'=w.drewN q:=by
 have hcap:=h.cap
 have hle:=h.le
 have hl:=h.ofInts
 have hl':=h'.ofInts
 unfold maxLen at hcap
 by_cases hn:n=n'
 ·subst hn
  have HL:=Lib.hid hl
  have HL':=Lib.hid hl'
  clear hl hl'
  go_enter Try.func30,Try.ntmps30
  go_wp2_with fail
  go_loopw [13] (fun i wr=>∃ (j q:Nat),j ≤ n∧i=.int .i64 j∧wr=w.drewN q∧Hid (xs.take j=ys.take j)) (fun i _=>n - (intOf i).toNat)
  case atStart=>exact ⟨0,0,Nat.zero_le _,rfl,rfl,rfl⟩
  case round =>
   obtain ⟨j,q,hj,rfl,rfl,HT⟩:=hrel
   by_cases hlt:j < n
   ·obtain ⟨b,o,rfl,_,z,hz,hc⟩:=h.int hlt
    obtain ⟨b',o',rfl,_,z',hz',hc'⟩:=h'.int hlt
    have hb0:(0:Int) ≤ (j:Int):=by omega
    have hb1:(j:Int) < (n:Int):=by omega
    by_cases hzz:z=z'
    ·have HN:=Lib.hid (take_next hz hz' hzz HT.out)
     subst hzz
     clear hz hz'
     go_wp2_with fail
     go_quiet (fail)
     go_wp2_with fail
     go_roundw
     case rel=>exact ⟨j + 1,_,by omega,by go_num,rfl,HN⟩
     case measure=>simp [intOf];omega
    ·have HN:=Lib.hid (eqI_at hz hz' hzz)
     clear hz hz'
     have hne:(z != z')=true:=by simpa using hzz
     go_wp2_with fail
     go_quiet (fail)
     go_wp2_with fail
     go_ret
     exact ⟨ret_bb (by rw [HN.out]),_,World.drewN_drewN _ _ _⟩
   ·have HE:=Lib.hid (eqI_of (xs:=xs) (ys:=ys) (by rw [HL.out,HL'.out]) (by rw [HL.out,← (show j=n by omega)];exact HT.out))
    go_wp2_with fail
    go_ret
    exact ⟨ret_bb (by rw [HE.out]),_,rfl⟩
 ·have HE:=Lib.hid (eqI_len (xs:=xs) (ys:=ys) (by omega))
  have hne:((n:Int) != (n':Int))=true:=by simp;omega
  clear hl hl'
  go_enter Try.func30,Try.ntmps30
  go_wp2_with fail
  go_ret
  exact ⟨ret_bb (by rw [HE.out]),0,rfl⟩
def RetRow (w:World) (e k n:Nat) (xs:List Value) (en:Ending) (w':World):Prop:=∃ v,en=.returned v∧w'.ownsRow w.heap.size e k v n xs∧Below w.heap.size w w'
set_option maxHeartbeats 400000 in
theorem clone_ints (A:Option Addr) (n c:Nat) (xs:List Value) (B:Nat) (w:World) (h:Rd w B 1 A n c xs) (h1:∀ u ∈ xs,u.oneCell'=true) (hB:B ≤ w.heap.size) (hb:n * 8 ≤ 140737488355328) :
  Calls Try.prog 36 #[.slice A n c] w (RetRow w 3 1 n xs):=by
 have q:∀ (w:World) (a:Option Addr) (n c n' c':Nat),(binOp .eql 24 (.slice a n c) (.slice none n' c')).run Try.prog w=.ok (.bool a.isNone) w:=fun w a n c n' c'=>Lib.run_eql_slice_nil w _ _ a n c n' c' Try.underlying24
 cases A with
 | none =>
  have h0:=h.nil rfl
  have hle:=h.le
  obtain rfl:n=0:=by omega
  have hx:xs = []:=List.eq_nil_of_length_eq_zero (by simpa using h.len)
  subst hx h0
  go_enter Try.func36,Try.ntmps36
  go_wp2_with fail
  go_ret
  exact ⟨_,rfl,World.ownsRow_nil _ _ _ _,Below.refl _ _⟩
 | some ad =>
  have HR:=Lib.hid h
  have hle:=h.le
  have hcap:=h.cap
  clear h
  go_enter Try.func36,Try.ntmps36
  go_wp2_with (at_builtin;go_loud (refine wpList_app rfl _ _ _ rfl w.heap.size _ _ _ elem_int _ _ _ rfl (World.ownsRow_made w #[] 0 (Nat.le_refl _) (Nat.zero_le _) rfl) B (some ad) n c xs rfl (HR.out.alloc hB _) h1 (by simp only [maxLen] at hcap ⊢;omega) (by omega) (by simp) ?_);intro v' w' hown hbel hg _)
  go_ret
  exact ⟨_,rfl,by simpa using hown,((Below.refl _ _).alloc (Nat.le_refl _) _).trans hbel⟩
end
section
open Go.RowKit
theorem Blk.new_at (w:World) (t:TypeId) (cs:Array Value) (g:Nat) (hg:g=w.heap.size):Blk (w.alloc (.cells cs t)) g t cs:=by
 subst hg;exact Blk.new w t cs
theorem quiet_left {P:Program} {f:FuncId} {args:Array Value} {w:World} {n:Nat} {v:Value}
  (h:Calls P f args (w.drewN n) fun e w'=>e=.returned v∧w.drewN n=w'):Calls P f args (w.drewN n) fun e w''=>e=.returned v∧∃ m,w''=w.drewN m :=
 h.mono fun _ _ ⟨he,hm⟩=>⟨he,n,hm.symm⟩
end
section
open Go.RowKit
def odCells:List Od→List Value
 | []=>[]
 | o :: l=>.int .i64 o.id :: .int .i64 o.acc :: .int .i64 o.side :: .int .i64 o.price :: .int .i64 o.qty :: odCells l
theorem odCells_len:∀ L,(odCells L).length=L.length * 5
 | []=>rfl
 | o :: l=>by simp only [odCells,List.length_cons,odCells_len l];omega
theorem odCells_app (M:List Od):∀ L,odCells (L ++ M)=odCells L ++ odCells M
 | []=>rfl
 | o :: l=>by simp only [List.cons_append,odCells,odCells_app M l]
theorem odCells_take:∀ (L:List Od) (k:Nat),(odCells L).take (k * 5)=odCells (L.take k)
 | [],k=>by simp [odCells]
 | o :: l,0=>by simp [odCells]
 | o :: l,k + 1=>by
  rw [show (k + 1) * 5=k * 5 + 1 + 1 + 1 + 1 + 1 by omega]
  simp only [odCells,List.take_succ_cons,odCells_take l k]
theorem odCells_drop:∀ (L:List Od) (k:Nat),(odCells L).drop (k * 5)=odCells (L.drop k)
 | [],k=>by simp [odCells]
 | o :: l,0=>by simp [odCells]
 | o :: l,k + 1=>by
  rw [show (k + 1) * 5=k * 5 + 1 + 1 + 1 + 1 + 1 by omega]
  simp only [odCells,List.drop_succ_cons,odCells_drop l k]
theorem odCells_at:∀ {L:List Od} {i:Nat} {a:Od},L[i]?=some a →
  (odCells L)[i * 5]?=some (.int .i64 a.id)∧(odCells L)[i * 5 + 1]?=some (.int .i64 a.acc)∧(odCells L)[i * 5 + 2]?=some (.int .i64 a.side)∧(odCells L)[i * 5 + 3]?=some (.int .i64 a.price)∧(odCells L)[i * 5 + 4]?=some (.int .i64 a.qty)
 | [],_,_,h=>by simp at h
 | o :: l,0,a,h=>by
  simp only [List.getElem?_cons_zero,Option.some.injEq] at h
  subst h;exact ⟨rfl,rfl,rfl,rfl,rfl⟩
 | o :: l,i + 1,a,h=>by
  simp only [List.getElem?_cons_succ] at h
  obtain ⟨h0,h1,h2,h3,h4⟩:=odCells_at h
  refine ⟨?_,?_,?_,?_,?_⟩
  ·rw [show (i + 1) * 5=i * 5 + 1 + 1 + 1 + 1 + 1 by omega];exact h0
  ·rw [show (i + 1) * 5 + 1=i * 5 + 1 + 1 + 1 + 1 + 1 + 1 by omega];exact h1
  ·rw [show (i + 1) * 5 + 2=i * 5 + 2 + 1 + 1 + 1 + 1 + 1 by omega];exact h2
  ·rw [show (i + 1) * 5 + 3=i * 5 + 3 + 1 + 1 + 1 + 1 + 1 by omega];exact h3
  ·rw [show (i + 1) * 5 + 4=i * 5 + 4 + 1 + 1 + 1 + 1 + 1 by omega];exact h4
theorem odCells_one:∀ (L:List Od),∀ u ∈ odCells L,u.oneCell'=true
 | []=>by simp [odCells]
 | o :: l=>by
  intro u hu
  simp only [odCells,List.mem_cons] at hu
  rcases hu with rfl | rfl | rfl | rfl | rfl | hu
  ·rfl
  ·rfl
  ·rfl
  ·rfl
  ·rfl
  ·exact odCells_one l u hu
section
variable {w:World} {B n c:Nat} {A:Option Addr} {L:List Od}
theorem rdo_len (h:Rd w B 5 A n c (odCells L)):L.length=n:=by have:=h.len;rw [odCells_len] at this;omega
theorem od_at (h:Rd w B 5 A n c (odCells L)) {i:Nat} (hi:i < n):∃ b o a,A=some ⟨b,o,none⟩∧b < B∧L[i]?=some a ∧
  w.cell? ⟨b,o + i * 5,none⟩=some (.int .i64 a.id)∧w.cell? ⟨b,o + i * 5 + 1,none⟩=some (.int .i64 a.acc)∧w.cell? ⟨b,o + i * 5 + 2,none⟩=some (.int .i64 a.side) ∧
   w.cell? ⟨b,o + i * 5 + 3,none⟩=some (.int .i64 a.price)∧w.cell? ⟨b,o + i * 5 + 4,none⟩=some (.int .i64 a.qty):=by
 have hl:=rdo_len h
 obtain ⟨b,o,e,hb,hc⟩:=h.at_ (by omega)
 have ha:L[i]?=some L[i]:=List.getElem?_eq_getElem (by omega)
 obtain ⟨h0,h1,h2,h3,h4⟩:=odCells_at ha
 exact ⟨b,o,_,e,hb,ha,hc _ _ h0,by rw [Nat.add_assoc];exact hc _ _ h1,by rw [Nat.add_assoc];exact hc _ _ h2,by rw [Nat.add_assoc];exact hc _ _ h3,by rw [Nat.add_assoc];exact hc _ _ h4⟩
end
theorem elem_od:Elem Try.prog 60 71 5 40:=elem_mk Try.underlying60 (by kernel_rfl) (by decide)
theorem Blk.c5 {w:World} {g:Nat} {t:TypeId} {a b c d e:Value} (h:Blk w g t #[a,b,c,d,e]) :
  (w.cell? ⟨g,0,none⟩=some a∧w.cell? ⟨g,1,none⟩=some b∧w.cell? ⟨g,2,none⟩=some c∧w.cell? ⟨g,3,none⟩=some d∧w.cell? ⟨g,4,none⟩=some e) ∧
   w.frozen? ⟨g,0,none⟩=false∧w.frozen? ⟨g,1,none⟩=false∧w.frozen? ⟨g,2,none⟩=false∧w.frozen? ⟨g,3,none⟩=false∧w.frozen? ⟨g,4,none⟩=false :=
 ⟨⟨h.cell 0,h.cell 1,h.cell 2,h.cell 3,h.cell 4⟩,h.frozen 0,h.frozen 1,h.frozen 2,h.frozen 3,h.frozen 4⟩
theorem Blk.c2 {w:World} {g:Nat} {t:TypeId} {a b:Value} (h:Blk w g t #[a,b]) :
  (w.cell? ⟨g,0,none⟩=some a∧w.cell? ⟨g,1,none⟩=some b)∧w.frozen? ⟨g,0,none⟩=false∧w.frozen? ⟨g,1,none⟩=false :=
 ⟨⟨h.cell 0,h.cell 1⟩,h.frozen 0,h.frozen 1⟩
set_option maxHeartbeats 1000000 in
theorem ordErr_any (o:Od) (w:World) :
  Calls Try.prog 85 #[.agg #[.int .i64 o.id,.int .i64 o.acc,.int .i64 o.side,.int .i64 o.price,.int .i64 o.qty]] w fun e w'=>e=.returned (.int .i64 (ordErr o))∧Below w.heap.size w w':=by
 by_cases h5:o.id < 1∨100000 < o.id∨o.acc < 0∨8 ≤ o.acc
 ·have HE:=Lib.hid (show ordErr o=5 by unfold ordErr;rw [if_pos h5])
  have h0:o.id < 1∨1 ≤ o.id∧100000 < o.id∨1 ≤ o.id∧o.id ≤ 100000∧o.acc < 0∨1 ≤ o.id∧o.id ≤ 100000∧0 ≤ o.acc∧8 ≤ o.acc:=by omega
  clear h5
  rcases h0 with h1 | ⟨h1,h2⟩ | ⟨h1,h2,h3⟩ | ⟨h1,h2,h3,h4⟩
  all_goals
   go_enter Try.func85,Try.ntmps85
   go_wp2_with fail
   go_ret
   exact ⟨ret_ii HE.out.symm,(Below.refl _ _).alloc (Nat.le_refl _) _⟩
 ·obtain ⟨⟨h1,h2⟩,h3,h4⟩:(1 ≤ o.id∧o.id ≤ 100000)∧0 ≤ o.acc∧o.acc < 8:=by omega
  by_cases h6:o.side ≠ 1∧o.side ≠ -1
  ·have HE:=Lib.hid (show ordErr o=4 by unfold ordErr;rw [if_neg h5,if_pos h6])
   obtain ⟨h7,h8⟩:=h6
   have h7':(o.side != 1)=true:=by simpa using h7
   have h8':(o.side != -1)=true:=by simpa using h8
   clear h5 h7 h8
   go_enter Try.func85,Try.ntmps85
   go_wp2_with fail
   go_ret
   exact ⟨ret_ii HE.out.symm,(Below.refl _ _).alloc (Nat.le_refl _) _⟩
  ·have hs:((o.side != 1)=false)∨((o.side != 1)=true∧(o.side != -1)=false):=by
    by_cases a1:o.side=1
    ·exact .inl (by simpa using a1)
    ·exact .inr ⟨by simpa using a1,by simp;omega⟩
   by_cases h9:o.price < 1∨10000 < o.price∨o.qty < 1∨1000 < o.qty
   ·have HE:=Lib.hid (show ordErr o=3 by unfold ordErr;rw [if_neg h5,if_neg h6,if_pos h9])
    have h0:o.price < 1∨1 ≤ o.price∧10000 < o.price∨1 ≤ o.price∧o.price ≤ 10000∧o.qty < 1∨1 ≤ o.price∧o.price ≤ 10000∧1 ≤ o.qty∧1000 < o.qty:=by omega
    clear h5 h6 h9
    rcases hs with hs | ⟨hs,hs'⟩
    all_goals
     rcases h0 with g1 | ⟨g1,g2⟩ | ⟨g1,g2,g3⟩ | ⟨g1,g2,g3,g4⟩
     all_goals
      go_enter Try.func85,Try.ntmps85
      go_wp2_with fail
      go_ret
      exact ⟨ret_ii HE.out.symm,(Below.refl _ _).alloc (Nat.le_refl _) _⟩
   ·have HE:=Lib.hid (show ordErr o=0 by unfold ordErr;rw [if_neg h5,if_neg h6,if_neg h9])
    obtain ⟨g1,g2,g3,g4⟩:1 ≤ o.price∧o.price ≤ 10000∧1 ≤ o.qty∧o.qty ≤ 1000:=by omega
    clear h5 h6 h9
    rcases hs with hs | ⟨hs,hs'⟩
    all_goals
     go_enter Try.func85,Try.ntmps85
     go_wp2_with fail
     go_ret
     exact ⟨ret_ii HE.out.symm,(Below.refl _ _).alloc (Nat.le_refl _) _⟩
set_option maxHeartbeats 1000000 in
theorem ahead_any (a b:Od) (w:World) :
  Calls Try.prog 83 #[.agg #[.int .i64 a.id,.int .i64 a.acc,.int .i64 a.side,.int .i64 a.price,.int .i64 a.qty],.agg #[.int .i64 b.id,.int .i64 b.acc,.int .i64 b.side,.int .i64 b.price,.int .i64 b.qty]] w fun e w'=>e=.returned (.bool (aheadB a b))∧Below w.heap.size w w':=by
 by_cases h:a.price=b.price
 ·have HE:=Lib.hid (show aheadB a b=decide (a.id < b.id) by unfold aheadB;rw [if_pos h])
  have h':(a.price != b.price)=false:=by simpa using h
  clear h
  go_enter Try.func83,Try.ntmps83
  go_wp2_with fail
  go_ret
  exact ⟨ret_bb HE.out.symm,((Below.refl _ _).alloc (Nat.le_refl _) _).alloc (by simp) _⟩
 ·have h':(a.price != b.price)=true:=by simpa using h
  have HE:=Lib.hid (show aheadB a b=(decide (b.price < a.price) == (a.side == 1)) by
   unfold aheadB
   rw [if_neg h]
   by_cases hs:a.side=1
   ·simp [hs]
   ·rw [if_neg hs]
    have hs':(a.side == 1)=false:=by simpa using hs
    rw [hs']
    by_cases hp:b.price < a.price
    ·simp [hp];omega
    ·simp [hp];omega)
  clear h
  go_enter Try.func83,Try.ntmps83
  go_wp2_with fail
  go_ret
  exact ⟨ret_bb HE.out.symm,((Below.refl _ _).alloc (Nat.le_refl _) _).alloc (by simp) _⟩
set_option maxHeartbeats 1000000 in
theorem crosses_any (o:Od) (p:Int) (w:World) :
  Calls Try.prog 137 #[.agg #[.int .i64 o.id,.int .i64 o.acc,.int .i64 o.side,.int .i64 o.price,.int .i64 o.qty],.int .i64 p] w fun e w'=>e=.returned (.bool (crossesB o p))∧Below w.heap.size w w':=by
 by_cases h:o.side=1
 ·have HE:=Lib.hid (show crossesB o p=decide (p ≤ o.price) by unfold crossesB;rw [if_pos h])
  have h':(o.side == 1)=true:=by simpa using h
  clear h
  go_enter Try.func137,Try.ntmps137
  go_wp2_with fail
  go_ret
  exact ⟨ret_bb HE.out.symm,(Below.refl _ _).alloc (Nat.le_refl _) _⟩
 ·have HE:=Lib.hid (show crossesB o p=decide (o.price ≤ p) by unfold crossesB;rw [if_neg h])
  have h':(o.side == 1)=false:=by simpa using h
  clear h
  go_enter Try.func137,Try.ntmps137
  go_wp2_with fail
  go_ret
  exact ⟨ret_bb HE.out.symm,(Below.refl _ _).alloc (Nat.le_refl _) _⟩
end
section
def zeroAc:Ac:=⟨0,0,[]⟩
def clampFee (fee:Int):Int:=max (min fee 1000000000001) (-1000000000001)
theorem clamp_cases (f:Int):f < -1000000000001∧-clampFee f=1000000000001∨(-1000000000001 ≤ f∧f ≤ 1000000000001)∧-clampFee f = -f∨1000000000001 < f∧-clampFee f = -1000000000001:=by
 unfold clampFee;omega
def tradeOf (a:Ac) (m q p f:Int):Ac × Int :=
 if accCheck a.id a.bal a.pos a.pos.length ≠ 0 then (zeroAc,accCheck a.id a.bal a.pos a.pos.length)
 else if m < 0∨(a.pos.length:Int) ≤ m then (zeroAc,5)
 else if (worthOf q p).2 ≠ 0 then (zeroAc,(worthOf q p).2)
 else if (addAll [a.bal,-(worthOf q p).1,-clampFee f]).2 ≠ 0 then (zeroAc,(addAll [a.bal,-(worthOf q p).1,-clampFee f]).2)
 else if a.pos.getD m.toNat 0 + q < -1000∨1000 < a.pos.getD m.toNat 0 + q then (zeroAc,7)
 else ({ a with bal:=(addAll [a.bal,-(worthOf q p).1,-clampFee f]).1,pos:=a.pos.set m.toNat (a.pos.getD m.toNat 0 + q) },0)
def feeOf (q p:Int):Int × Int :=
 if (worthOf q p).2 ≠ 0 then (0,(worthOf q p).2) else partOf (max (worthOf q p).1 (-(worthOf q p).1)) 5 10000 true
def worths:List Int→List Int→List Int × Int
 | n :: l,k :: marks=>if (worthOf n k).2 ≠ 0 then ([],(worthOf n k).2) else if (worths l marks).2 ≠ 0 then ([],(worths l marks).2) else ((worthOf n k).1 :: (worths l marks).1,0)
 | _,_=>([],0)
def equityOf (a:Ac) (marks:List Int):Int × Int :=
 if accCheck a.id a.bal a.pos marks.length ≠ 0 then (0,accCheck a.id a.bal a.pos marks.length)
 else if (worths a.pos marks).2 ≠ 0 then (0,(worths a.pos marks).2) else addAll (a.bal :: (worths a.pos marks).1)
theorem trade_sum {a:Ac} {m q p f s es g:Int} (h0:accCheck a.id a.bal a.pos a.pos.length=0) (h1:0 ≤ m∧m < (a.pos.length:Int)) (h2:worthOf q p=(q * p,0)) (hg:-clampFee f=g) (h3:addAll [a.bal,-(q * p),g]=(s,es)) :
  tradeOf a m q p f=if es ≠ 0 then (zeroAc,es) else if a.pos.getD m.toNat 0 + q < -1000∨1000 < a.pos.getD m.toNat 0 + q then (zeroAc,7)
   else ({ a with bal:=s,pos:=a.pos.set m.toNat (a.pos.getD m.toNat 0 + q) },0):=by
 unfold tradeOf
 rw [if_neg (by rw [h0];simp),if_neg (by omega),h2]
 simp only
 rw [if_neg (by simp),hg,h3]
def eqRest (a:Ac) (marks done:List Int) (j:Nat):Int × Int :=
 if (worths (a.pos.drop j) (marks.drop j)).2 ≠ 0 then (0,(worths (a.pos.drop j) (marks.drop j)).2) else addAll (a.bal :: (done ++ (worths (a.pos.drop j) (marks.drop j)).1))
theorem eqRest_start {a:Ac} {marks:List Int} (h:accCheck a.id a.bal a.pos marks.length=0):eqRest a marks [] 0=equityOf a marks:=by
 unfold equityOf;rw [if_neg (by rw [h];simp)];rfl
theorem worths_drop {l marks:List Int} {j:Nat} {z k:Int} (hz:l[j]?=some z) (hk:marks[j]?=some k) :
  worths (l.drop j) (marks.drop j)=if (worthOf z k).2 ≠ 0 then ([],(worthOf z k).2) else if (worths (l.drop (j + 1)) (marks.drop (j + 1))).2 ≠ 0 then ([],(worths (l.drop (j + 1)) (marks.drop (j + 1))).2) else ((worthOf z k).1 :: (worths (l.drop (j + 1)) (marks.drop (j + 1))).1,0):=by
 obtain ⟨h1,h2⟩:=List.getElem?_eq_some_iff.1 hz
 obtain ⟨h3,h4⟩:=List.getElem?_eq_some_iff.1 hk
 rw [List.drop_eq_getElem_cons h1,List.drop_eq_getElem_cons h3,h2,h4]
 rfl
theorem eqRest_bad {a:Ac} {marks done:List Int} {j:Nat} {z k:Int} (hz:a.pos[j]?=some z) (hk:marks[j]?=some k) (h:worthOf z k=(0,3)):eqRest a marks done j=(0,3):=by
 unfold eqRest;rw [worths_drop hz hk,h];simp
theorem eqRest_step {a:Ac} {marks done:List Int} {j:Nat} {z k p:Int} (hz:a.pos[j]?=some z) (hk:marks[j]?=some k) (h:worthOf z k=(p,0)):eqRest a marks done j=eqRest a marks (done ++ [p]) (j + 1):=by
 unfold eqRest;rw [worths_drop hz hk,h]
 by_cases h1:(worths (a.pos.drop (j + 1)) (marks.drop (j + 1))).2=0
 ·simp [h1]
 ·simp [h1]
theorem eqRest_end {a:Ac} {marks done:List Int} {j:Nat} (h:a.pos.length ≤ j):eqRest a marks done j=addAll (a.bal :: done):=by
 unfold eqRest;rw [List.drop_eq_nil_of_le h];simp [worths]
end
end Go.Proofs.Ytockodmbhnlheaa
