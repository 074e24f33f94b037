/-
  THE LAW MatchSays: holds for every input, with no condition. (Joined texts: SymP, SK, Sym, SymM.)
-/
import Derived.Sort.LotA
import Derived.Test.YtockodmbhnlheaaMatchSaysA
import Derived.Shelf.SlSortFuncK.SWK
import Derived.Lib.Hide
import Derived.Test.YtockodmbhnlheaaProg
import Derived.Maps.AppendAt
import Derived.Laws.AppendOwnNone
import Derived.OwnWalk
import Derived.WalkKit
import Derived.Deep.Draws
import Derived.WalkSpells
import Derived.WalkLawsBesides
import Derived.Deep.QuietTactic
import Derived.BigQuiet
namespace Go.Proofs.Ytockodmbhnlheaa
section
open Go.Sort
section
variable {α:Type} [Inhabited α]
def swrF (g:Nat→α) (a b n k:Nat):α:=if a ≤ k∧k < a + n then g (k + (b - a)) else if b ≤ k∧k < b + n then g (k - (b - a)) else g k
def rotF (g:Nat→α) (a m b k:Nat):α:=if a ≤ k∧k < a + (b - m) then g (k + (m - a)) else if a + (b - m) ≤ k∧k < b then g (k - (b - m)) else g k
def atA (d:Array α) (k:Nat):α:=d[k]!
omit [Inhabited α] in
theorem swr_zero (g:Nat→α) (a b k:Nat):swrF g a b 0 k=g k:=by
 unfold swrF
 rw [if_neg (by omega),if_neg (by omega)]
theorem swr_step {g:Nat→α} {d:Array α} {a b n:Nat} (h:∀ k,atA d k=swrF g a b n k) (hab:a + n < b) (hb:b + n < d.size):∀ k,atA (swp d (a + n) (b + n)) k=swrF g a b (n + 1) k:=by
 intro k
 have h1:=h (a + n)
 have h2:=h (b + n)
 have h3:=h k
 unfold atA at *
 rw [swp_get d (by omega) hb]
 unfold swrF at *
 rw [if_neg (by omega),if_neg (by omega)] at h1
 rw [if_neg (by omega),if_neg (by omega)] at h2
 by_cases e1:k=b + n
 ·subst e1
  rw [if_pos rfl,if_neg (by omega),if_pos (by omega),h1]
  congr 1;omega
 ·rw [if_neg e1]
  by_cases e2:k=a + n
  ·subst e2
   rw [if_pos rfl,if_pos (by omega),h2]
   congr 1;omega
  ·rw [if_neg e2,h3]
   (repeat' split) <;> first | rfl | (exfalso;omega)
omit [Inhabited α] in
theorem rot_gt (g:Nat→α) {i j m:Nat} (hij:j < i) (hi:i ≤ m) (k:Nat):rotF (swrF g (m - i) m j) (m - (i - j)) m (m + j) k=rotF g (m - i) m (m + j) k:=by
 unfold rotF swrF
 (repeat' split) <;> first | rfl | (exfalso;omega) | (congr 1;omega)
omit [Inhabited α] in
theorem rot_lt (g:Nat→α) {i j m:Nat} (hij:i < j) (hi:i ≤ m) (k:Nat):rotF (swrF g (m - i) (m + j - i) i) (m - i) m (m + (j - i)) k=rotF g (m - i) m (m + j) k:=by
 unfold rotF swrF
 (repeat' split) <;> first | rfl | (exfalso;omega) | (congr 1;omega)
omit [Inhabited α] in
theorem rot_eq (g:Nat→α) {i m:Nat} (hi:i ≤ m) (k:Nat):swrF g (m - i) m i k=rotF g (m - i) m (m + i) k:=by
 unfold rotF swrF
 (repeat' split) <;> first | rfl | (exfalso;omega) | (congr 1;omega)
omit [Inhabited α] in
theorem rot_congr {g f:Nat→α} (h:∀ k,g k=f k) (a m b k:Nat):rotF g a m b k=rotF f a m b k:=by
 rw [show g=f from funext h]
omit [Inhabited α] in
theorem rot_left (g:Nat→α) (m b k:Nat):rotF g m m b k=g k:=by
 unfold rotF
 (repeat' split) <;> first | rfl | (exfalso;omega) | (congr 1;omega)
omit [Inhabited α] in
theorem rot_right (g:Nat→α) (a m k:Nat):rotF g a m m k=g k:=by
 unfold rotF
 (repeat' split) <;> first | rfl | (exfalso;omega) | (congr 1;omega)
theorem up_step {g:Nat→α} {d:Array α} {a k:Nat} (h:∀ x,atA d x=rotF g a (a + 1) (k + 1) x) (hak:a ≤ k) (hk:k + 1 < d.size):∀ x,atA (swp d k (k + 1)) x=rotF g a (a + 1) (k + 1 + 1) x:=by
 intro x
 have h1:=h k
 have h2:=h (k + 1)
 have h3:=h x
 unfold atA at *
 rw [swp_get d (by omega) hk]
 unfold rotF at *
 rw [if_neg (by omega),if_pos (by omega),show k - (k + 1 - (a + 1))=a by omega] at h1
 rw [if_neg (by omega),if_neg (by omega)] at h2
 by_cases e1:x=k + 1
 ·subst e1
  rw [if_pos rfl,if_neg (by omega),if_pos (by omega),h1]
  congr 1;omega
 ·rw [if_neg e1]
  by_cases e2:x=k
  ·subst e2
   rw [if_pos rfl,if_pos (by omega),h2]
   congr 1;omega
  ·rw [if_neg e2,h3]
   (repeat' split) <;> first | rfl | (exfalso;omega) | (congr 1;omega)
theorem down_step {g:Nat→α} {d:Array α} {m k:Nat} (h:∀ x,atA d x=rotF g (k + 1) m (m + 1) x) (hkm:k + 1 ≤ m) (hm:m < d.size):∀ x,atA (swp d (k + 1) k) x=rotF g k m (m + 1) x:=by
 intro x
 have h1:=h (k + 1)
 have h2:=h k
 have h3:=h x
 unfold atA at *
 rw [swp_get d (by omega) (by omega)]
 unfold rotF at *
 rw [if_pos (by omega),show k + 1 + (m - (k + 1))=m by omega] at h1
 rw [if_neg (by omega),if_neg (by omega)] at h2
 by_cases e1:x=k
 ·subst e1
  rw [if_pos rfl,if_pos (by omega),h1]
  congr 1;omega
 ·rw [if_neg e1]
  by_cases e2:x=k + 1
  ·subst e2
   rw [if_pos rfl,if_neg (by omega),if_pos (by omega),h2]
   congr 1;omega
  ·rw [if_neg e2,h3]
   (repeat' split) <;> first | rfl | (exfalso;omega) | (congr 1;omega)
variable {lt:α→α→Bool}
def SoF (lt:α→α→Bool) (a b:Nat) (g:Nat→α):Prop:=∀ i j,a ≤ i→i < j→j < b→lt (g j) (g i)=false
omit [Inhabited α] in
theorem lt_asymm' (hO:SWO lt) {x y:α} (h:lt x y=true):lt y x=false:=by
 cases h2:lt y x
 ·rfl
 ·have:=hO.trans x y x h h2
  rw [hO.irrefl] at this;cases this
omit [Inhabited α] in
theorem SoF.le {a b:Nat} {g:Nat→α} (h:SoF lt a b g) (hO:SWO lt) {i j:Nat} (h1:a ≤ i) (h2:i ≤ j) (h3:j < b):lt (g j) (g i)=false:=by
 rcases Nat.lt_or_ge i j with h4 | h4
 ·exact h i j h1 h4 h3
 ·rw [show j=i by omega];exact hO.irrefl _
omit [Inhabited α] in
theorem one_left (hO:SWO lt) {g:Nat→α} {a b i:Nat} (hs:SoF lt (a + 1) b g) (h1:a + 1 ≤ i) (h2:i ≤ b) (hl:∀ h,a + 1 ≤ h→h < i→lt (g h) (g a)=true) (hr:∀ h,i ≤ h→h < b→lt (g h) (g a)=false) :
  SoF lt a b (rotF g a (a + 1) i):=by
 intro x y hx hxy hy
 unfold rotF
 by_cases c1:x < i - 1
 ·rw [if_pos (show a ≤ x∧x < a + (i - (a + 1)) by omega)]
  by_cases c2:y < i - 1
  ·rw [if_pos (by omega)]
   exact hs _ _ (by omega) (by omega) (by omega)
  ·rw [if_neg (by omega)]
   by_cases c3:y=i - 1
   ·rw [if_pos (by omega),show y - (i - (a + 1))=a by omega]
    exact lt_asymm' hO (hl _ (by omega) (by omega))
   ·rw [if_neg (by omega)]
    exact hs _ _ (by omega) (by omega) (by omega)
 ·rw [if_neg (show ¬ (a ≤ x∧x < a + (i - (a + 1))) by omega),if_neg (show ¬ (a ≤ y∧y < a + (i - (a + 1))) by omega),if_neg (show ¬ (a + (i - (a + 1)) ≤ y∧y < i) by omega)]
  by_cases c3:x=i - 1
  ·rw [if_pos (by omega),show x - (i - (a + 1))=a by omega]
   exact hr _ (by omega) (by omega)
  ·rw [if_neg (by omega)]
   exact hs _ _ (by omega) (by omega) (by omega)
omit [Inhabited α] in
theorem one_right (hO:SWO lt) {g:Nat→α} {a m i:Nat} (hs:SoF lt a m g) (h1:a ≤ i) (h2:i ≤ m) (hl:∀ h,a ≤ h→h < i→lt (g m) (g h)=false) (hr:∀ h,i ≤ h→h < m→lt (g m) (g h)=true) :
  SoF lt a (m + 1) (rotF g i m (m + 1)):=by
 intro x y hx hxy hy
 unfold rotF
 by_cases c1:x < i
 ·rw [if_neg (show ¬ (i ≤ x∧x < i + (m + 1 - m)) by omega),if_neg (show ¬ (i + (m + 1 - m) ≤ x∧x < m + 1) by omega)]
  by_cases c2:y=i
  ·rw [if_pos (by omega),show y + (m - i)=m by omega]
   exact hl _ (by omega) (by omega)
  ·rw [if_neg (by omega)]
   by_cases c3:y < i
   ·rw [if_neg (by omega)]
    exact hs _ _ (by omega) (by omega) (by omega)
   ·rw [if_pos (by omega)]
    exact hs _ _ (by omega) (by omega) (by omega)
 ·rw [if_neg (show ¬ (i ≤ y∧y < i + (m + 1 - m)) by omega),if_pos (show i + (m + 1 - m) ≤ y∧y < m + 1 by omega)]
  by_cases c2:x=i
  ·rw [if_pos (by omega),show x + (m - i)=m by omega]
   exact lt_asymm' hO (hr _ (by omega) (by omega))
  ·rw [if_neg (by omega),if_pos (by omega)]
   exact hs _ _ (by omega) (by omega) (by omega)
structure CutAt (lt:α→α→Bool) (g:Nat→α) (a m b s0 r0:Nat):Prop where
 am:a < m
 mb:m < b
 bd:m > (a + b) / 2∧s0=(a + b) / 2 + m - b∧r0=(a + b) / 2∨m ≤ (a + b) / 2∧s0=a∧r0=m
 sl:SoF lt a m g
 sr:SoF lt m b g
omit [Inhabited α] in
theorem CutAt.ge {g:Nat→α} {a m b s0 r0:Nat} (h:CutAt lt g a m b s0 r0):a ≤ s0∧s0 ≤ r0∧r0 ≤ m∧r0 ≤ (a + b) / 2:=by
 obtain ⟨h1,h2,h3,_,_⟩:=h;omega
omit [Inhabited α] in
theorem CutAt.left (hO:SWO lt) {g:Nat→α} {a m b s0 r0 c:Nat} (h:CutAt lt g a m b s0 r0) (hc:s0 ≤ c∧c < r0) (hl:lt (g ((a + b) / 2 + m - 1 - c)) (g c)=false) {c':Nat} (h1:s0 ≤ c') (h2:c' ≤ c) :
  lt (g ((a + b) / 2 + m - 1 - c')) (g c')=false:=by
 obtain ⟨ham,hmb,hbd,hsl,hsr⟩:=h
 have e1:=hsr.le hO (i:=(a + b) / 2 + m - 1 - c) (j:=(a + b) / 2 + m - 1 - c') (by omega) (by omega) (by omega)
 have e2:=hsl.le hO (i:=c') (j:=c) (by omega) (by omega) (by omega)
 exact hO.ntrans _ _ _ (hO.ntrans _ _ _ e1 hl) e2
omit [Inhabited α] in
theorem CutAt.right (hO:SWO lt) {g:Nat→α} {a m b s0 r0 c:Nat} (h:CutAt lt g a m b s0 r0) (hc:s0 ≤ c∧c < r0) (hl:lt (g ((a + b) / 2 + m - 1 - c)) (g c)=true) {c':Nat} (h1:c ≤ c') (h2:c' < r0) :
  lt (g ((a + b) / 2 + m - 1 - c')) (g c')=true:=by
 obtain ⟨ham,hmb,hbd,hsl,hsr⟩:=h
 cases hx:lt (g ((a + b) / 2 + m - 1 - c')) (g c')
 ·have e1:=hsr.le hO (i:=(a + b) / 2 + m - 1 - c') (j:=(a + b) / 2 + m - 1 - c) (by omega) (by omega) (by omega)
  have e2:=hsl.le hO (i:=c) (j:=c') (by omega) (by omega) (by omega)
  rw [hO.ntrans _ _ _ (hO.ntrans _ _ _ e1 hx) e2] at hl;cases hl
 ·rfl
omit [Inhabited α] in
theorem CutAt.cut (hO:SWO lt) {g:Nat→α} {a m b s0 r0 s:Nat} (h:CutAt lt g a m b s0 r0) (h1:s0 ≤ s) (h2:s ≤ r0) (hl:∀ c,s0 ≤ c→c < s→lt (g ((a + b) / 2 + m - 1 - c)) (g c)=false)
  (hr:∀ c,s ≤ c→c < r0→lt (g ((a + b) / 2 + m - 1 - c)) (g c)=true) :
  SoF lt a s (rotF g s m ((a + b) / 2 + m - s))∧SoF lt s ((a + b) / 2) (rotF g s m ((a + b) / 2 + m - s))∧SoF lt ((a + b) / 2) ((a + b) / 2 + m - s) (rotF g s m ((a + b) / 2 + m - s))∧SoF lt ((a + b) / 2 + m - s) b (rotF g s m ((a + b) / 2 + m - s)) ∧
   (∀ i j,a ≤ i→i < (a + b) / 2→(a + b) / 2 ≤ j→j < b→lt (rotF g s m ((a + b) / 2 + m - s) j) (rotF g s m ((a + b) / 2 + m - s) i)=false):=by
 obtain ⟨ham,hmb,hbd,hsl,hsr⟩:=h
 have q1:∀ x,x < s→rotF g s m ((a + b) / 2 + m - s) x=g x:=fun x hx=>by
  unfold rotF;rw [if_neg (by omega),if_neg (by omega)]
 have q2:∀ x,s ≤ x→x < (a + b) / 2→rotF g s m ((a + b) / 2 + m - s) x=g (x + (m - s)):=fun x hx hx'=>by
  unfold rotF;rw [if_pos (by omega)]
 have q3:∀ x,(a + b) / 2 ≤ x→x < (a + b) / 2 + m - s→rotF g s m ((a + b) / 2 + m - s) x=g (x - ((a + b) / 2 + m - s - m)):=fun x hx hx'=>by
  unfold rotF;rw [if_neg (by omega),if_pos (by omega)]
 have q4:∀ x,(a + b) / 2 + m - s ≤ x→rotF g s m ((a + b) / 2 + m - s) x=g x:=fun x hx=>by
  unfold rotF;rw [if_neg (by omega),if_neg (by omega)]
 refine ⟨?_,?_,?_,?_,?_⟩
 ·intro x y hx hxy hy
  rw [q1 x (by omega),q1 y hy];exact hsl _ _ hx hxy (by omega)
 ·intro x y hx hxy hy
  rw [q2 x hx (by omega),q2 y (by omega) hy];exact hsr _ _ (by omega) (by omega) (by omega)
 ·intro x y hx hxy hy
  rw [q3 x hx (by omega),q3 y (by omega) hy];exact hsl _ _ (by omega) (by omega) (by omega)
 ·intro x y hx hxy hy
  rw [q4 x hx,q4 y (by omega)];exact hsr _ _ (by omega) hxy hy
 ·intro i j hi hi' hj hj'
  by_cases c1:i < s
  ·rw [q1 _ c1]
   by_cases c2:j < (a + b) / 2 + m - s
   ·rw [q3 _ hj c2]
    exact hsl _ _ hi (by omega) (by omega)
   ·rw [q4 _ (by omega)]
    have e0:=hl (s - 1) (by omega) (by omega)
    rw [show (a + b) / 2 + m - 1 - (s - 1)=(a + b) / 2 + m - s by omega] at e0
    have e1:=hsr.le hO (i:=(a + b) / 2 + m - s) (j:=j) (by omega) (by omega) hj'
    have e2:=hsl.le hO (i:=i) (j:=s - 1) hi (by omega) (by omega)
    exact hO.ntrans _ _ _ (hO.ntrans _ _ _ e1 e0) e2
  ·rw [q2 _ (by omega) hi']
   by_cases c2:j < (a + b) / 2 + m - s
   ·rw [q3 _ hj c2]
    have e0:=lt_asymm' hO (hr s (Nat.le_refl _) (by omega))
    have e1:=hsl.le hO (i:=s) (j:=j - ((a + b) / 2 + m - s - m)) (by omega) (by omega) (by omega)
    have e2:=hsr.le hO (i:=i + (m - s)) (j:=(a + b) / 2 + m - 1 - s) (by omega) (by omega) (by omega)
    exact hO.ntrans _ _ _ (hO.ntrans _ _ _ e1 e0) e2
   ·rw [q4 _ (by omega)]
    exact hsr _ _ (by omega) (by omega) hj'
omit [Inhabited α] in
theorem so_join {g:Nat→α} {a c b:Nat} (h1:SoF lt a c g) (h2:SoF lt c b g) (h3:∀ i j,a ≤ i→i < c→c ≤ j→j < b→lt (g j) (g i)=false):SoF lt a b g:=by
 intro x y hx hxy hy
 by_cases c1:x < c
 ·by_cases c2:y < c
  ·exact h1 _ _ hx hxy c2
  ·exact h3 _ _ hx c1 (by omega) hy
 ·exact h2 _ _ (by omega) hxy hy
omit [Inhabited α] in
theorem so_one {g:Nat→α} {a c b:Nat} (h1:SoF lt a c g) (h2:SoF lt c b g) (h:a=c∨c=b):SoF lt a b g:=by
 rcases h with rfl | rfl
 ·exact h2
 ·exact h1
theorem perm_two {d d1 d2:Array α} {a c b:Nat} (h1:PermIn a c d d1) (h2:PermIn c b d1 d2) (hac:a ≤ c) (hcb:c ≤ b) (hb:b ≤ d.size):PermIn a b d d2 :=
 permIn_trans _ _ _ _ _ (permIn_mono _ _ _ _ _ _ (Nat.le_refl a) hcb hb h1) (permIn_mono _ _ _ _ _ _ hac (Nat.le_refl b) (by rw [h1.1];exact hb) h2)
theorem perm_rel {d d1 d2:Array α} {a c b:Nat} (h1:PermIn a c d d1) (h2:PermIn c b d1 d2) (_hac:a ≤ c) (_hcb:c ≤ b) (hb:b ≤ d.size)
  (h:∀ i j,a ≤ i→i < c→c ≤ j→j < b→lt (atA d j) (atA d i)=false):∀ i j,a ≤ i→i < c→c ≤ j→j < b→lt (atA d2 j) (atA d2 i)=false:=by
 intro i j hi hi' hj hj'
 have s1:=h1.1
 have e1:atA d2 i=atA d1 i:=h2.2.1 i (.inl hi')
 rw [e1]
 refine permIn_all d d1 a c (fun x=>lt (atA d2 j) x=false) (by omega) h1 (fun i0 q1 q2=>?_) i hi hi'
 refine permIn_all d1 d2 c b (fun x=>lt x d[i0]! = false) (by omega) h2 (fun j0 p1 p2=>?_) j hj hj'
 have e2:d1[j0]! = d[j0]!:=h1.2.1 j0 (.inr p1)
 rw [e2]
 exact h _ _ q1 q2 p1 p2
omit [Inhabited α] in
theorem so_congr {g f:Nat→α} {a b:Nat} (h:SoF lt a b g) (he:∀ x,a ≤ x→x < b→f x=g x):SoF lt a b f:=by
 intro i j hi hij hj
 rw [he j (by omega) hj,he i hi (by omega)]
 exact h i j hi hij hj
theorem sym_end {d d2 d3 d4:Array α} {a c b:Nat} (h2:PermIn a b d d2) (hr:∀ i j,a ≤ i→i < c→c ≤ j→j < b→lt (atA d2 j) (atA d2 i)=false) (h3:PermIn a c d2 d3) (s3:SoF lt a c (atA d3)) (h4:PermIn c b d3 d4) (s4:SoF lt c b (atA d4))
  (hac:a ≤ c) (hcb:c ≤ b) (hb:b ≤ d.size):PermIn a b d d4∧SoF lt a b (atA d4):=by
 have hb2:b ≤ d2.size:=by rw [h2.1];exact hb
 exact ⟨permIn_trans _ _ _ _ _ h2 (perm_two h3 h4 hac hcb hb2),so_join (so_congr s3 fun x _ hx=>h4.2.1 x (.inl hx)) s4 (perm_rel h3 h4 hac hcb hb2 hr)⟩
end
end
section
open Go.RowKit Go.Sort Go.Shelf Go.Lib
section
variable {P:Program} {α:Type} [Inhabited α] {enc:α→List Value} {k:Nat} {w wr W1 W2:World} {blk off:Nat} {dk d1 d2 d0:Array α}
def SK (enc:α→List Value) (k:Nat) (w:World) (blk off:Nat) (d:Array α) (W:World):Prop:=Below w.heap.size (putRowK enc k w blk off d) W
def LessG (P:Program) (g:Nat) (lb:Array Value) (enc:α→List Value) (k:Nat) (lt:α→α→Bool) (blk off size:Nat) (w:World):Prop :=
 ∀ (W:World) (dk:Array α),SK enc k w blk off dk W→dk.size=size→∀ i j:Nat,i < size→j < size →
  Calls P g (#[.int .i64 i,.int .i64 j] ++ lb) W fun e w'=>e=.returned (.bool (lt dk[i]! dk[j]!))∧Below W.heap.size W w'
theorem heap_putRowK_ne (d:Array α) {x:Nat} (hx:x ≠ blk):(putRowK enc k w blk off d).heap[x]?=w.heap[x]?:=by
 show (w.heap.modify blk _)[x]?=_
 rw [Array.getElem?_modify,if_neg (Ne.symm hx)]
theorem heap_putRowK_congr (d:Array α) {x:Nat} (h:W1.heap[x]?=w.heap[x]?):(putRowK enc k W1 blk off d).heap[x]?=(putRowK enc k w blk off d).heap[x]?:=by
 show (W1.heap.modify blk _)[x]?=(w.heap.modify blk _)[x]?
 rw [Array.getElem?_modify,Array.getElem?_modify,h]
theorem heap_setCells_congr (b:Nat):∀ (vs:List Value) (o:Nat) (W Y:World) (x:Nat),W.heap[x]?=Y.heap[x]?→(W.setCells b o vs).heap[x]?=(Y.setCells b o vs).heap[x]?
 | [],_,_,_,_,h=>h
 | v :: r,o,W,Y,x,h=>by
  rw [World.setCells,World.setCells]
  refine heap_setCells_congr b r (o + 1) _ _ x ?_
  rw [setCell_eq,setCell_eq]
  show (W.heap.modify b _)[x]?=(Y.heap.modify b _)[x]?
  rw [Array.getElem?_modify,Array.getElem?_modify,h]
theorem os_setCells (b:Nat):∀ (vs:List Value) (o:Nat) (W:World),(W.setCells b o vs).os=W.os∧(W.setCells b o vs).tape=W.tape∧(W.setCells b o vs).output=W.output
 | [],_,_=>⟨rfl,rfl,rfl⟩
 | v :: r,o,W=>by
  rw [World.setCells]
  obtain ⟨h1,h2,h3⟩:=os_setCells b r (o + 1) (W.setCell ⟨b,o,none⟩ v)
  exact ⟨h1,h2,h3⟩
theorem cell_congr (h:W1.heap[blk]?=w.heap[blk]?) (i:Nat):W1.cell? ⟨blk,i,none⟩=w.cell? ⟨blk,i,none⟩:=by simp only [World.cell?,h]
theorem frozen_congr (h:W1.heap[blk]?=w.heap[blk]?) (i:Nat):W1.frozen? ⟨blk,i,none⟩=w.frozen? ⟨blk,i,none⟩:=by simp only [World.frozen?,h]
theorem SK.start (h:HoldsK enc k w blk off dk):SK enc k w blk off dk w:=by
 unfold SK;rw [putRowK_self enc k w blk off dk h];exact Below.refl _ _
theorem SK.le (h:SK enc k w blk off dk wr):w.heap.size ≤ wr.heap.size:=by
 have:=h.size;rwa [size_putRowK] at this
theorem SK.next (h:SK enc k w blk off dk wr) (hb:Below wr.heap.size wr W1):SK enc k w blk off dk W1:=Below.trans h (hb.mono h.le)
theorem SK.drewN (h:SK enc k w blk off dk wr) (q:Nat):SK enc k w blk off dk (wr.drewN q):=h.next ⟨rfl,rfl,rfl,Nat.le_refl _,fun _ _=>rfl⟩
theorem SK.heap (h:SK enc k w blk off dk wr) {x:Nat} (hx:x ≠ blk) (hl:x < w.heap.size):wr.heap[x]?=w.heap[x]?:=(h.block x hl).trans (heap_putRowK_ne _ hx)
theorem swk_cell (h:SK enc k w blk off dk wr) {b i:Nat} (hb:b ≠ blk) (hl:b < w.heap.size):wr.cell? ⟨b,i,none⟩=w.cell? ⟨b,i,none⟩:=cell_congr (h.heap hb hl) i
theorem SK.lt (h:SK enc k w blk off dk wr) (hb:blk < w.heap.size):blk < wr.heap.size:=Nat.lt_of_lt_of_le hb h.le
theorem SK.holds (h:SK enc k w blk off dk wr) (hb:blk < w.heap.size) (h0:HoldsK enc k w blk off d0) (hs:dk.size=d0.size):HoldsK enc k wr blk off dk:=by
 have hp:=holdsK_putRowK enc k w blk off d0 dk h0 hs
 intro j hj
 obtain ⟨h1,h2⟩:=hp j hj
 exact ⟨(cell_congr (h.block blk hb) _).trans h1,(frozen_congr (h.block blk hb) _).trans h2⟩
theorem swk_base {o:Obj} (h:SK enc k (w.alloc o) blk off dk wr):SK enc k w blk off dk wr:=by
 have hl:=h.size
 rw [size_putRowK,World.size_alloc] at hl
 refine ⟨h.os,h.tape,h.output,by rw [size_putRowK];omega,fun x hx=>?_⟩
 rw [h.block x (by simp;omega)]
 exact heap_putRowK_congr dk (Below.heap_alloc w o x hx)
theorem putRowK_twice {x:Nat} (hs:d2.size=d1.size) (h:W1.heap[x]?=(putRowK enc k w blk off d1).heap[x]?):(putRowK enc k W1 blk off d2).heap[x]?=(putRowK enc k w blk off d2).heap[x]?:=by
 rw [heap_putRowK_congr d2 h]
 unfold putRowK
 rw [putRow_putRow id w blk off _ _ (by simp [hs])]
theorem swk_trans (h1:SK enc k w blk off d1 W1) (h2:SK enc k W1 blk off d2 W2) (hs:d2.size=d1.size):SK enc k w blk off d2 W2:=by
 have l1:=h1.le
 have l2:=h2.le
 refine ⟨h2.os.trans h1.os,h2.tape.trans h1.tape,h2.output.trans h1.output,by rw [size_putRowK];omega,fun x hx=>?_⟩
 rw [h2.block x (by omega)]
 exact putRowK_twice hs (h1.block x hx)
theorem SK.swap (h:SK enc k w blk off dk wr) (hk:∀ x,(enc x).length=k) (i j:Nat) (hi:i < dk.size) (hj:j < dk.size) :
  SK enc k w blk off (swp dk i j) ((wr.setCells blk (off + i * k) (enc dk[j]!)).setCells blk (off + j * k) (enc dk[i]!)):=by
 have l1:=h.le
 obtain ⟨a1,a2,a3⟩:=os_setCells blk (enc dk[i]!) (off + j * k) (wr.setCells blk (off + i * k) (enc dk[j]!))
 obtain ⟨b1,b2,b3⟩:=os_setCells blk (enc dk[j]!) (off + i * k) wr
 refine ⟨a1.trans (b1.trans h.os),a2.trans (b2.trans h.tape),a3.trans (b3.trans h.output),by rw [size_putRowK,size_setCells,size_setCells];exact l1,fun x hx=>?_⟩
 rw [← putRowK_swp enc k hk w blk off dk i j hi hj]
 exact heap_setCells_congr _ _ _ _ _ _ (heap_setCells_congr _ _ _ _ _ _ (h.block x hx))
theorem holds_alloc {o:Obj} (h:HoldsK enc k w blk off dk) (hb:blk < w.heap.size):HoldsK enc k (w.alloc o) blk off dk:=by
 rw [alloc_eq_grow];exact holdsK_grow enc k w _ blk off dk hb h
theorem SK.less {g:Nat} {lb:Array Value} {lt:α→α→Bool} {size:Nat} (h:SK enc k w blk off dk wr) (hL:LessG P g lb enc k lt blk off size w) (hs:dk.size=size) (i j:Nat) (hi:i < size) (hj:j < size) :
  Calls P g (#[.int .i64 i,.int .i64 j] ++ lb) wr fun e w'=>e=.returned (.bool (lt dk[i]! dk[j]!))∧Below wr.heap.size wr w':=hL wr dk h hs i j hi hj
theorem SK.lessReads {g:Nat} {lb:Array Value} {lt:α→α→Bool} {size:Nat} (h:SK enc k w blk off dk wr) (hL:LessG P g lb enc k lt blk off size w) (hs:dk.size=size):LessG P g lb enc k lt blk off size wr :=
 fun W d hW hd i j hi hj=>hL W d (swk_trans h hW (hd.trans hs.symm)) hd i j hi hj
theorem less_alloc {g:Nat} {lb:Array Value} {lt:α→α→Bool} {size:Nat} {o:Obj} (h:LessG P g lb enc k lt blk off size w):LessG P g lb enc k lt blk off size (w.alloc o) :=
 fun W d hW hd i j hi hj=>h W d (swk_base hW) hd i j hi hj
end
end
section
open Go.RowKit Go.Sort Go.Shelf Go.Lib
section
variable {α:Type} [Inhabited α] (enc:α→List Value) (k:Nat) (hk:∀ x,(enc x).length=k) (g:Nat) (lb:Array Value) (sf:Nat) (sb:Array Value) (blk off:Nat)
include hk in
set_option maxHeartbeats 2000000 in
set_option maxRecDepth 100000 in
theorem swapRange_any (a b n:Nat) (d:Array α) (w:World) (hswap:SwapSwapsK Try.prog sf sb enc k blk off d.size)
  (hH:HoldsK enc k w blk off d) (hblk:blk < w.heap.size) (hab:a + n ≤ b) (hb:b + n ≤ d.size) (hsz:d.size < 4611686018427387904) :
  Calls Try.prog 231 #[.agg #[.func (.func g) #[] lb,.func (.func sf) #[] sb],.int .i64 a,.int .i64 b,.int .i64 n] w fun e w' =>
   e=.returned (.tuple #[])∧∃ d',(PermIn a (b + n) d d'∧∀ x,atA d' x=swrF (atA d) a b n x)∧SK enc k w blk off d' w':=by
 go_enter Try.func231,Try.ntmps231
 go_wp2
 obtain ⟨W1,hW1⟩:∃ W,W=w.alloc (.cells #[.func (.func g) #[] lb,.func (.func sf) #[] sb] 206):=⟨_,rfl⟩
 have hH1:HoldsK enc k W1 blk off d:=by rw [hW1];exact holds_alloc hH hblk
 have hb1:blk < W1.heap.size:=by rw [hW1];simp;omega
 have BX:Blk W1 w.heap.size 206 #[.func (.func g) #[] lb,.func (.func sf) #[] sb]:=by rw [hW1];exact Blk.new w _ _
 have hne:w.heap.size ≠ blk:=by omega
 have HB:Hid (∀ (d':Array α) W,SK enc k W1 blk off d' W→SK enc k w blk off d' W):=Lib.hid (fun d' W h=>by rw [hW1] at h;exact swk_base h)
 have hlt1:=BX.lt
 rw [← hW1]
 clear hW1 hH
 go_loopw [8] (fun vi wr=>∃ (i:Nat) (dk:Array α),vi=.int .i64 i∧i ≤ n∧dk.size=d.size∧Hid (PermIn a (b + n) d dk)∧Hid (∀ x,atA dk x=swrF (atA d) a b i x)∧SK enc k W1 blk off dk wr) (fun vi _=>n - (intOf vi).toNat)
 case atStart=>exact ⟨0,d,by go_num,by omega,rfl,Lib.hid (permIn_refl _ _ _),Lib.hid (fun x=>(swr_zero _ _ _ _).symm),SK.start hH1⟩
 case round =>
  obtain ⟨i,dk,rfl,hin,hsk,HP,HF,hS⟩:=hrel
  have HSK:=Lib.hid hsk
  have hHw:=hS.holds hb1 hH1 hsk
  have c1:=(swk_cell hS (i:=1) hne hlt1).trans (BX.cell 1)
  clear hsk
  by_cases hlt:i < n
  ·have hs:=hswap wr dk hHw HSK.out (a + i) (b + i) (by omega) (by omega)
   rw [show (((a + i:Nat):Int))=(a:Int) + (i:Int) by omega,show (((b + i:Nat):Int))=(b:Int) + (i:Int) by omega] at hs
   have HS2:=Lib.hid (hS.swap hk (a + i) (b + i) (by have:=HSK.out;omega) (by have:=HSK.out;omega))
   have HSTEP:=Lib.hid (swr_step HF.out (by omega) (by have:=HSK.out;omega))
   have HPS:=Lib.hid (permIn_trans _ _ _ _ _ HP.out (swp_permIn dk a (b + n) (a + i) (b + i) (by omega) (by omega) (by omega) (by omega) (by have:=HSK.out;omega)))
   have HSZ:=Lib.hid ((size_swp dk (a + i) (b + i)).trans HSK.out)
   clear hHw hS
   go_wp2
   go_roundw
   case rel=>exact ⟨i + 1,swp dk (a + i) (b + i),by go_num,by omega,HSZ.out,HPS,HSTEP,HS2.out⟩
   case measure=>simp [intOf];omega
  ·go_wp2
   go_end0
   have hin':i=n:=by omega
   subst hin'
   exact ⟨rfl,dk,⟨HP.out,HF.out⟩,HB.out _ _ hS⟩
omit [Inhabited α] in
theorem rot_swr {g g2 f:Nat→α} {a m b i j:Nat} (h0:∀ x,rotF g (m - i) m (m + j) x=rotF f a m b x) (hji:j < i) (hi:i ≤ m) (h:∀ x,g2 x=swrF g (m - i) m j x):∀ x,rotF g2 (m - (i - j)) m (m + j) x=rotF f a m b x :=
 fun x=>(rot_congr h _ _ _ _).trans ((rot_gt g hji hi x).trans (h0 x))
omit [Inhabited α] in
theorem rot_swl {g g2 f:Nat→α} {a m b i j:Nat} (h0:∀ x,rotF g (m - i) m (m + j) x=rotF f a m b x) (hij:i < j) (hi:i ≤ m) (h:∀ x,g2 x=swrF g (m - i) (m + j - i) i x):∀ x,rotF g2 (m - i) m (m + (j - i)) x=rotF f a m b x :=
 fun x=>(rot_congr h _ _ _ _).trans ((rot_lt g hij hi x).trans (h0 x))
include hk in
set_option maxHeartbeats 2000000 in
set_option maxRecDepth 100000 in
theorem rotate_any (a m b:Nat) (d:Array α) (w:World) (hswap:SwapSwapsK Try.prog sf sb enc k blk off d.size)
  (hH:HoldsK enc k w blk off d) (hblk:blk < w.heap.size) (ham:a < m) (hmb:m < b) (hb:b ≤ d.size) (hsz:d.size < 4611686018427387904) :
  Calls Try.prog 228 #[.agg #[.func (.func g) #[] lb,.func (.func sf) #[] sb],.int .i64 a,.int .i64 m,.int .i64 b] w fun e w' =>
   e=.returned (.tuple #[])∧∃ d',(PermIn a b d d'∧∀ x,atA d' x=rotF (atA d) a m b x)∧SK enc k w blk off d' w':=by
 go_enter Try.func228,Try.ntmps228
 go_wp2_with fail
 obtain ⟨W1,hW1⟩:∃ W,W=w.alloc (.cells #[.func (.func g) #[] lb,.func (.func sf) #[] sb] 206):=⟨_,rfl⟩
 have hH1:HoldsK enc k W1 blk off d:=by rw [hW1];exact holds_alloc hH hblk
 have hb1:blk < W1.heap.size:=by rw [hW1];simp;omega
 have BX:Blk W1 w.heap.size 206 #[.func (.func g) #[] lb,.func (.func sf) #[] sb]:=by rw [hW1];exact Blk.new w _ _
 have hne:w.heap.size ≠ blk:=by omega
 have HB:Hid (∀ (d':Array α) W,SK enc k W1 blk off d' W→SK enc k w blk off d' W):=Lib.hid (fun d' W h=>by rw [hW1] at h;exact swk_base h)
 have hlt1:=BX.lt
 rw [← hW1]
 clear hW1 hH
 go_loopw [8,9] (fun vi vj wr=>∃ (i j:Nat) (dk:Array α),vi=.int .i64 i∧vj=.int .i64 j∧1 ≤ i∧i ≤ m - a∧1 ≤ j∧j ≤ b - m∧Hid (dk.size=d.size)∧Hid (PermIn a b d dk)∧Hid (∀ x,rotF (atA dk) (m - i) m (m + j) x=rotF (atA d) a m b x)∧Hid (SK enc k W1 blk off dk wr)) (fun vi vj _=>(intOf vi).toNat + (intOf vj).toNat)
 case atStart=>exact ⟨m - a,b - m,d,by congr 1;omega,by congr 1;omega,by omega,by omega,by omega,by omega,Lib.hid rfl,Lib.hid (permIn_refl _ _ _),Lib.hid (fun x=>by rw [show m - (m - a)=a by omega,show m + (b - m)=b by omega]),Lib.hid (SK.start hH1)⟩
 case round =>
  obtain ⟨i,j,dk,rfl,rfl,hi1,hi2,hj1,hj2,HSK,HP,HF,HS⟩:=hrel
  have hHw:=HS.out.holds hb1 hH1 HSK.out
  have hbw:=HS.out.lt hb1
  have c0:=(swk_cell HS.out (i:=0) hne hlt1).trans (BX.cell 0)
  have c1:=(swk_cell HS.out (i:=1) hne hlt1).trans (BX.cell 1)
  have HSW:=Lib.hid (show SwapSwapsK Try.prog sf sb enc k blk off dk.size by rw [HSK.out];exact hswap)
  rcases Nat.lt_trichotomy i j with hij | hij | hij
  ·have HC:=Lib.hid (swapRange_any enc k hk g lb sf sb blk off (m - i) (m + j - i) i dk wr HSW.out hHw hbw (by omega) (by have:=HSK.out;omega) (by have:=HSK.out;omega))
   rw [show (((m - i:Nat):Int))=(m:Int) - (i:Int) by omega,show (((m + j - i:Nat):Int))=(m:Int) + (j:Int) - (i:Int) by omega] at HC
   clear hHw
   go_wp2_with (go_at_call 231;refine HC.out.mono ?_;rintro e w2 ⟨rfl,d2,⟨hp2,hf2⟩,hS2⟩)
   have HS2:=Lib.hid (swk_trans HS.out hS2 hp2.1)
   have HF2:=Lib.hid (rot_swl HF.out hij (by omega) hf2)
   have HP2:=Lib.hid (permIn_trans _ _ _ _ _ HP.out (permIn_mono _ _ _ _ _ _ (show a ≤ m - i by omega) (show m + j - i + i ≤ b by omega) (by have:=HSK.out;omega) hp2))
   have HZ2:=Lib.hid (hp2.1.trans HSK.out)
   clear hp2 hf2 hS2
   go_roundw
   case rel=>exact ⟨i,j - i,d2,rfl,by congr 1;omega,hi1,hi2,by omega,by omega,HZ2,HP2,HF2,HS2⟩
   case measure=>simp [intOf];omega
  ·subst hij
   have HC:=Lib.hid (swapRange_any enc k hk g lb sf sb blk off (m - i) m i dk wr HSW.out hHw hbw (by omega) (by have:=HSK.out;omega) (by have:=HSK.out;omega))
   rw [show (((m - i:Nat):Int))=(m:Int) - (i:Int) by omega] at HC
   have hnn:((i:Int) != (i:Int))=false:=by simp
   clear hHw
   go_wp2_with (go_at_call 231;refine HC.out.mono ?_;rintro e w2 ⟨rfl,d2,⟨hp2,hf2⟩,hS2⟩)
   go_end0
   exact ⟨rfl,d2,⟨permIn_trans _ _ _ _ _ HP.out (permIn_mono _ _ _ _ _ _ (show a ≤ m - i by omega) (show m + i ≤ b by omega) (by have:=HSK.out;omega) hp2),fun x=>(hf2 x).trans ((rot_eq _ (by omega) x).trans (HF.out x))⟩,HB.out _ _ (swk_trans HS.out hS2 hp2.1)⟩
  ·have HC:=Lib.hid (swapRange_any enc k hk g lb sf sb blk off (m - i) m j dk wr HSW.out hHw hbw (by omega) (by have:=HSK.out;omega) (by have:=HSK.out;omega))
   rw [show (((m - i:Nat):Int))=(m:Int) - (i:Int) by omega] at HC
   clear hHw
   go_wp2_with (go_at_call 231;refine HC.out.mono ?_;rintro e w2 ⟨rfl,d2,⟨hp2,hf2⟩,hS2⟩)
   have HS2:=Lib.hid (swk_trans HS.out hS2 hp2.1)
   have HF2:=Lib.hid (rot_swr HF.out hij (by omega) hf2)
   have HP2:=Lib.hid (permIn_trans _ _ _ _ _ HP.out (permIn_mono _ _ _ _ _ _ (show a ≤ m - i by omega) (show m + j ≤ b by omega) (by have:=HSK.out;omega) hp2))
   have HZ2:=Lib.hid (hp2.1.trans HSK.out)
   clear hp2 hf2 hS2
   go_roundw
   case rel=>exact ⟨i - j,j,d2,by congr 1;omega,rfl,by omega,by omega,hj1,hj2,HZ2,HP2,HF2,HS2⟩
   case measure=>simp [intOf];omega
end
end
section
open Go.RowKit Go.Sort Go.Shelf Go.Lib
section
variable {α:Type} [Inhabited α] (enc:α→List Value) (k:Nat) (hk:∀ x,(enc x).length=k) (lt:α→α→Bool) (hO:SWO lt) (g:Nat) (lb:Array Value) (sf:Nat) (sb:Array Value) (blk off:Nat)
theorem bl_cs (b:Bool):b=false∨b=true:=by cases b <;> simp
include hk hO in
set_option maxHeartbeats 4000000 in
set_option maxRecDepth 100000 in
theorem symMerge_left (a m b:Nat) (d:Array α) (w:World) (eg:∀ args w,(callFunc g args).run Try.prog w=.ok (.enter g args) w) (hless:LessG Try.prog g lb enc k lt blk off d.size w) (hswap:SwapSwapsK Try.prog sf sb enc k blk off d.size)
  (hH:HoldsK enc k w blk off d) (hblk:blk < w.heap.size) (ham:m=a + 1) (hmb:m < b) (hb:b ≤ d.size) (hsz:d.size < 4611686018427387904) (hs1:SoF lt m b (atA d)) :
  Calls Try.prog 216 #[.agg #[.func (.func g) #[] lb,.func (.func sf) #[] sb],.int .i64 a,.int .i64 m,.int .i64 b] w fun e w' =>
   e=.returned (.tuple #[])∧∃ d',(PermIn a b d d'∧SoF lt a b (atA d'))∧SK enc k w blk off d' w':=by
 have HAM:=Lib.hid ham
 have h0:a < m:=by omega
 have h1:((m:Int) - (a:Int) == 1)=true:=by simp;omega
 have HS1:=Lib.hid hs1
 clear ham hs1
 go_enter Try.func216,Try.ntmps216
 go_wp2_with fail
 obtain ⟨W1,hW1⟩:∃ W,W=w.alloc (.cells #[.func (.func g) #[] lb,.func (.func sf) #[] sb] 206):=⟨_,rfl⟩
 have hH1:HoldsK enc k W1 blk off d:=by rw [hW1];exact holds_alloc hH hblk
 have hL1:LessG Try.prog g lb enc k lt blk off d.size W1:=by rw [hW1];exact less_alloc hless
 have hb1:blk < W1.heap.size:=by rw [hW1];simp;omega
 have BX:Blk W1 w.heap.size 206 #[.func (.func g) #[] lb,.func (.func sf) #[] sb]:=by rw [hW1];exact Blk.new w _ _
 have hne:w.heap.size ≠ blk:=by omega
 have HB:Hid (∀ (d':Array α) W,SK enc k W1 blk off d' W→SK enc k w blk off d' W):=Lib.hid (fun d' W h=>by rw [hW1] at h;exact swk_base h)
 have hlt1:=BX.lt
 rw [← hW1]
 clear hW1 hH hless
 go_loopw [8,9] (fun vi vj wr=>∃ (i j:Nat),vi=.int .i64 i∧vj=.int .i64 j∧m ≤ i∧i ≤ j∧j ≤ b∧Hid (∀ h,m ≤ h→h < i→lt (atA d h) (atA d a)=true)∧Hid (∀ h,j ≤ h→h < b→lt (atA d h) (atA d a)=false)∧Hid (SK enc k W1 blk off d wr)) (fun vi vj _=>(intOf vj).toNat - (intOf vi).toNat)
 case atStart=>exact ⟨m,b,rfl,rfl,by omega,by omega,by omega,Lib.hid (fun h _ _=>by omega),Lib.hid (fun h _ _=>by omega),Lib.hid (SK.start hH1)⟩
 case round =>
  obtain ⟨i,j,rfl,rfl,hmi,hij,hjb,HL,HR,HS⟩:=hrel
  have c0:=(swk_cell HS.out (i:=0) hne hlt1).trans (BX.cell 0)
  have c1:=(swk_cell HS.out (i:=1) hne hlt1).trans (BX.cell 1)
  by_cases hlt:i < j
  ·have hl:=HS.out.less hL1 rfl ((i + j) / 2) a (by have:=HAM.out;omega) (by have:=HAM.out;omega)
   rw [show ((((i + j) / 2:Nat):Int))=((i:Int) + (j:Int)) / 2 by omega] at hl
   have HLL:=Lib.hid hl
   clear hl c1
   rcases bl_cs (lt d[(i + j) / 2]! d[a]!) with hv | hv
   ·rw [hv] at HLL
    have HV:=Lib.hid (show lt (atA d ((i + j) / 2)) (atA d a)=false from hv)
    clear hv
    go_wp2_with (go_at_fn g;refine HLL.out.mono ?_;rintro e w' ⟨rfl,hbw⟩)
    go_roundw
    case rel=>exact ⟨i,(i + j) / 2,rfl,by congr 1,by omega,by omega,by omega,HL,Lib.hid (fun h h3 h4=>hO.ntrans _ _ _ (HS1.out.le hO (by omega) h3 h4) HV.out),Lib.hid (HS.out.next hbw)⟩
    case measure=>simp [intOf];omega
   ·rw [hv] at HLL
    have HV:=Lib.hid (show lt (atA d ((i + j) / 2)) (atA d a)=true from hv)
    clear hv
    go_wp2_with (go_at_fn g;refine HLL.out.mono ?_;rintro e w' ⟨rfl,hbw⟩)
    go_roundw
    case rel =>
     refine ⟨(i + j) / 2 + 1,j,by congr 1,rfl,by omega,by omega,by omega,Lib.hid (fun h h3 h4=>?_),HR,Lib.hid (HS.out.next hbw)⟩
     cases hx:lt (atA d h) (atA d a)
     ·have:=hO.ntrans _ _ _ (HS1.out.le hO h3 (show h ≤ (i + j) / 2 by omega) (by omega)) hx
      rw [HV.out] at this;cases this
     ·rfl
    case measure=>simp [intOf];omega
  ·obtain rfl:i=j:=by omega
   clear c0 c1 hlt
   go_wp2_with fail
   go_loopw [11] (fun vk wr=>∃ (t:Nat) (dk:Array α),vk=.int .i64 t∧a ≤ t∧t + 1 ≤ i∧Hid (dk.size=d.size)∧Hid (PermIn a b d dk)∧Hid (∀ x,atA dk x=rotF (atA d) a (a + 1) (t + 1) x)∧Hid (SK enc k W1 blk off dk wr)) (fun vk _=>i - (intOf vk).toNat)
   case atStart=>exact ⟨a,d,rfl,by omega,by have:=HAM.out;omega,Lib.hid rfl,Lib.hid (permIn_refl _ _ _),Lib.hid (fun x=>(rot_right _ _ _ _).symm),HS⟩
   case round =>
    obtain ⟨t,dk,rfl,hat,hti,HSK,HP,HF,HS2⟩:=hrel
    have hHw:=HS2.out.holds hb1 hH1 HSK.out
    have c1:=(swk_cell HS2.out (i:=1) hne hlt1).trans (BX.cell 1)
    by_cases hlt:t + 1 < i
    ·have hs:=hswap _ dk hHw HSK.out t (t + 1) (by omega) (by omega)
     rw [show (((t + 1:Nat):Int))=(t:Int) + 1 by omega] at hs
     have HX2:=Lib.hid (HS2.out.swap hk t (t + 1) (by have:=HSK.out;omega) (by have:=HSK.out;omega))
     have HX3:=Lib.hid (up_step HF.out hat (by have:=HSK.out;omega))
     have HX4:=Lib.hid (permIn_trans _ _ _ _ _ HP.out (swp_permIn dk a b t (t + 1) hat (by omega) (by omega) (by omega) (by have:=HSK.out;omega)))
     have HX5:=Lib.hid ((size_swp dk t (t + 1)).trans HSK.out)
     clear hHw
     go_wp2
     go_roundw
     case rel=>exact ⟨t + 1,swp dk t (t + 1),by go_num,by omega,by omega,HX5,HX4,HX3,HX2⟩
     case measure=>simp [intOf];omega
    ·obtain rfl:i=t + 1:=by omega
     clear c1 hHw
     go_wp2
     (try simp only [Exit.inBlock,Exit.then]);refine bodyPost_ret (results_none rfl _ _ _) rfl ?_
     exact ⟨rfl,dk,⟨HP.out,by rw [show atA dk=_ from funext HF.out];have:=HAM.out;subst this;exact one_left hO HS1.out hmi hjb HL.out HR.out⟩,HB.out _ _ HS2.out⟩
include hk hO in
set_option maxHeartbeats 4000000 in
set_option maxRecDepth 100000 in
theorem symMerge_right (a m b:Nat) (d:Array α) (w:World) (eg:∀ args w,(callFunc g args).run Try.prog w=.ok (.enter g args) w) (hless:LessG Try.prog g lb enc k lt blk off d.size w) (hswap:SwapSwapsK Try.prog sf sb enc k blk off d.size)
  (hH:HoldsK enc k w blk off d) (hblk:blk < w.heap.size) (ham:a + 1 < m) (hmb:b=m + 1) (hb:b ≤ d.size) (hsz:d.size < 4611686018427387904) (hs1:SoF lt a m (atA d)) :
  Calls Try.prog 216 #[.agg #[.func (.func g) #[] lb,.func (.func sf) #[] sb],.int .i64 a,.int .i64 m,.int .i64 b] w fun e w' =>
   e=.returned (.tuple #[])∧∃ d',(PermIn a b d d'∧SoF lt a b (atA d'))∧SK enc k w blk off d' w':=by
 have HMB:=Lib.hid hmb
 have h1:((m:Int) - (a:Int) == 1)=false:=by simp;omega
 have h2:((b:Int) - (m:Int) == 1)=true:=by simp;omega
 have h0:a < m:=by omega
 have h3:m < b:=by omega
 have HS1:=Lib.hid hs1
 clear hmb hs1
 go_enter Try.func216,Try.ntmps216
 go_wp2_with fail
 obtain ⟨W1,hW1⟩:∃ W,W=w.alloc (.cells #[.func (.func g) #[] lb,.func (.func sf) #[] sb] 206):=⟨_,rfl⟩
 have hH1:HoldsK enc k W1 blk off d:=by rw [hW1];exact holds_alloc hH hblk
 have hL1:LessG Try.prog g lb enc k lt blk off d.size W1:=by rw [hW1];exact less_alloc hless
 have hb1:blk < W1.heap.size:=by rw [hW1];simp;omega
 have BX:Blk W1 w.heap.size 206 #[.func (.func g) #[] lb,.func (.func sf) #[] sb]:=by rw [hW1];exact Blk.new w _ _
 have hne:w.heap.size ≠ blk:=by omega
 have HB:Hid (∀ (d':Array α) W,SK enc k W1 blk off d' W→SK enc k w blk off d' W):=Lib.hid (fun d' W h=>by rw [hW1] at h;exact swk_base h)
 have hlt1:=BX.lt
 rw [← hW1]
 clear hW1 hH hless
 go_loopw [12,13] (fun vi vj wr=>∃ (i j:Nat),vi=.int .i64 i∧vj=.int .i64 j∧a ≤ i∧i ≤ j∧j ≤ m∧Hid (∀ h,a ≤ h→h < i→lt (atA d m) (atA d h)=false)∧Hid (∀ h,j ≤ h→h < m→lt (atA d m) (atA d h)=true)∧Hid (SK enc k W1 blk off d wr)) (fun vi vj _=>(intOf vj).toNat - (intOf vi).toNat)
 case atStart=>exact ⟨a,m,rfl,rfl,by omega,by omega,by omega,Lib.hid (fun h _ _=>by omega),Lib.hid (fun h _ _=>by omega),Lib.hid (SK.start hH1)⟩
 case round =>
  obtain ⟨i,j,rfl,rfl,hmi,hij,hjb,HL,HR,HS⟩:=hrel
  have c0:=(swk_cell HS.out (i:=0) hne hlt1).trans (BX.cell 0)
  have c1:=(swk_cell HS.out (i:=1) hne hlt1).trans (BX.cell 1)
  by_cases hlt:i < j
  ·have hl:=HS.out.less hL1 rfl m ((i + j) / 2) (by omega) (by omega)
   rw [show ((((i + j) / 2:Nat):Int))=((i:Int) + (j:Int)) / 2 by omega] at hl
   have HLL:=Lib.hid hl
   clear hl c1
   rcases bl_cs (lt d[m]! d[(i + j) / 2]!) with hv | hv
   ·rw [hv] at HLL
    have HV:=Lib.hid (show lt (atA d m) (atA d ((i + j) / 2))=false from hv)
    clear hv
    go_wp2_with (go_at_fn g;refine HLL.out.mono ?_;rintro e w' ⟨rfl,hbw⟩)
    go_roundw
    case rel=>exact ⟨(i + j) / 2 + 1,j,by congr 1,rfl,by omega,by omega,by omega,Lib.hid (fun h h3 h4=>hO.ntrans _ _ _ HV.out (HS1.out.le hO h3 (show h ≤ (i + j) / 2 by omega) (by omega))),HR,Lib.hid (HS.out.next hbw)⟩
    case measure=>simp [intOf];omega
   ·rw [hv] at HLL
    have HV:=Lib.hid (show lt (atA d m) (atA d ((i + j) / 2))=true from hv)
    clear hv
    go_wp2_with (go_at_fn g;refine HLL.out.mono ?_;rintro e w' ⟨rfl,hbw⟩)
    go_roundw
    case rel =>
     refine ⟨i,(i + j) / 2,rfl,by congr 1,by omega,by omega,by omega,HL,Lib.hid (fun h h3 h4=>?_),Lib.hid (HS.out.next hbw)⟩
     cases hx:lt (atA d m) (atA d h)
     ·have:=hO.ntrans _ _ _ hx (HS1.out.le hO (show a ≤ (i + j) / 2 by omega) h3 h4)
      rw [HV.out] at this;cases this
     ·rfl
    case measure=>simp [intOf];omega
  ·obtain rfl:i=j:=by omega
   clear c0 c1 hlt
   go_wp2_with fail
   go_loopw [15] (fun vk wr=>∃ (t:Nat) (dk:Array α),vk=.int .i64 t∧i ≤ t∧t ≤ m∧Hid (dk.size=d.size)∧Hid (PermIn a b d dk)∧Hid (∀ x,atA dk x=rotF (atA d) t m (m + 1) x)∧Hid (SK enc k W1 blk off dk wr)) (fun vk _=>(intOf vk).toNat - i)
   case atStart=>exact ⟨m,d,rfl,by omega,by omega,Lib.hid rfl,Lib.hid (permIn_refl _ _ _),Lib.hid (fun x=>(rot_left _ _ _ _).symm),HS⟩
   case round =>
    obtain ⟨t,dk,rfl,hat,hti,HSK,HP,HF,HS2⟩:=hrel
    have hHw:=HS2.out.holds hb1 hH1 HSK.out
    have c1:=(swk_cell HS2.out (i:=1) hne hlt1).trans (BX.cell 1)
    by_cases hlt:i < t
    ·obtain ⟨u,rfl⟩:∃ u,t=u + 1:=⟨t - 1,by omega⟩
     have hs:=hswap _ dk hHw HSK.out (u + 1) u (by omega) (by omega)
     rw [show (((u + 1:Nat):Int))=(u:Int) + 1 by omega] at hs
     have HX2:=Lib.hid (HS2.out.swap hk (u + 1) u (by have:=HSK.out;omega) (by have:=HSK.out;omega))
     have HX3:=Lib.hid (down_step HF.out hti (by have:=HSK.out;omega))
     have HX4:=Lib.hid (permIn_trans _ _ _ _ _ HP.out (swp_permIn dk a b (u + 1) u (by omega) (by omega) (by omega) (by omega) (by have:=HSK.out;omega)))
     have HX5:=Lib.hid ((size_swp dk (u + 1) u).trans HSK.out)
     clear hHw
     go_wp2
     go_roundw
     case rel=>exact ⟨u,swp dk (u + 1) u,by go_num,by omega,by omega,HX5,HX4,HX3,HX2⟩
     case measure=>simp [intOf];omega
    ·obtain rfl:i=t:=by omega
     clear c1 hHw
     go_wp2
     (try simp only [Exit.inBlock,Exit.then]);refine bodyPost_ret (results_none rfl _ _ _) rfl ?_
     exact ⟨rfl,dk,⟨HP.out,by rw [show atA dk=_ from funext HF.out];have:=HMB.out;subst this;exact one_right hO HS1.out hmi hjb HL.out HR.out⟩,HB.out _ _ HS2.out⟩
end
end
end Go.Proofs.Ytockodmbhnlheaa
