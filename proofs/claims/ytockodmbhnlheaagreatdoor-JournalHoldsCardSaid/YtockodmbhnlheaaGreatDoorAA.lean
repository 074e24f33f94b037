import Derived.Below

namespace Go.Proofs.YtockodmbhnlheaaGreatDoor
theorem zi {p:Prop} (h:p):Go.RowKit.Hid p:=h
theorem zl (n:Nat):n ≤ n:=Nat.le_refl n
section
def zag (n:Int):Bool:=decide (-1000000000000 ≤ n) && decide (n ≤ 1000000000000)
theorem zaK {n:Int}:zag n=true ↔ -1000000000000 ≤ n∧n ≤ 1000000000000:=by simp [zag]
theorem zm8 {n:Int}:zag n=false ↔ n < -1000000000000∨1000000000000 < n:=by
 rw [← Bool.not_eq_true,zaK];omega
def zeJ (s:Int):List Int→Int × Int
 | []=>(s,0)
 | n :: l=>if zag n then (if zag (s + n) then zeJ (s + n) l else (0,7)) else (0,3)
def zaB (l:List Int):Int × Int:=zeJ 0 l
def zfX (n a b:Int):Bool:=zag n && decide (-10000 ≤ a) && decide (a ≤ 10000) && decide (1 ≤ b) && decide (b ≤ 10000)
def zc7 (n a b:Int) (up:Bool):Int:=if up then -((-(n * a)) / b) else (n * a) / b
def zbY (n a b:Int) (up:Bool):Int × Int :=
 if zfX n a b then (if zag (zc7 n a b up) then (zc7 n a b up,0) else (0,7)) else (0,3)
theorem zge {n a b:Int}:zfX n a b=true ↔ (-1000000000000 ≤ n∧n ≤ 1000000000000)∧-10000 ≤ a∧a ≤ 10000∧1 ≤ b∧b ≤ 10000:=by
 simp [zfX,zag,and_assoc]
theorem ztE {n a:Int} (h1:-1000000000000 ≤ n) (h2:n ≤ 1000000000000) (h3:-10000 ≤ a) (h4:a ≤ 10000):-10000000000000000 ≤ n * a∧n * a ≤ 10000000000000000:=by
 have hn:(n * a).natAbs ≤ 1000000000000 * 10000:=by rw [Int.natAbs_mul];exact Nat.mul_le_mul (by omega) (by omega)
 omega
theorem ziu (p b:Int):p.tdiv b=if 0 ≤ p then p / b else -((-p) / b):=by
 split
 ·rename_i h;exact Int.tdiv_eq_ediv_of_nonneg h
 ·rename_i h;have:=Int.neg_tdiv (-p) b;rw [Int.neg_neg] at this;rw [this,Int.tdiv_eq_ediv_of_nonneg (by omega)]
theorem zkk (p b:Int):p.tmod b=if 0 ≤ p then p % b else -((-p) % b):=by
 split
 ·rename_i h;exact Int.tmod_eq_emod_of_nonneg h
 ·rename_i h;have:=Int.neg_tmod (-p) b;rw [Int.neg_neg] at this;rw [this,Int.tmod_eq_emod_of_nonneg (by omega)]
theorem zeS (p b:Int) (hb:1 ≤ b):-((-p) / b)=if p % b=0 then p / b else p / b + 1:=by
 have h1:=Int.mul_ediv_add_emod p b;have h2:=Int.mul_ediv_add_emod (-p) b;have h3:=Int.emod_nonneg p (show b ≠ 0 by omega);have h4:=Int.emod_lt_of_pos p (show 0 < b by omega);have h5:=Int.emod_nonneg (-p) (show b ≠ 0 by omega);have h6:=Int.emod_lt_of_pos (-p) (show 0 < b by omega);have h7:b * (p / b + (-p) / b) = -(p % b + (-p) % b):=by rw [Int.mul_add];omega
 generalize p / b=x at *;generalize (-p) / b=y at *;split
 ·rename_i h;rw [h] at h7;have:(-p) % b=0:=Int.emod_eq_zero_of_dvd (Int.dvd_neg.2 (Int.dvd_of_emod_eq_zero h));rw [this] at h7;rcases Int.mul_eq_zero.1 (show b * (x + y)=0 by omega) with h | h <;> omega
 ·rename_i h;have h8:x + y = -1:=by
   rcases Int.lt_trichotomy (x + y) (-1) with h' | h' | h'
   ·have:b * (x + y) ≤ b * (-2):=Int.mul_le_mul_of_nonneg_left (by omega) (by omega);omega
   ·exact h'
   ·have:b * 0 ≤ b * (x + y):=Int.mul_le_mul_of_nonneg_left (by omega) (by omega);omega
  omega
theorem znN (p b:Int) (hp:0 ≤ p) (hb:1 ≤ b):0 ≤ p / b∧p / b ≤ p :=
 ⟨Int.ediv_nonneg hp (by omega),Int.ediv_le_self b hp⟩
theorem zsM (p b:Int) (hp:p < 0) (hb:1 ≤ b):p ≤ p.tdiv b∧p.tdiv b ≤ 0:=by
 rw [ziu,if_neg (by omega)];have:=znN (-p) b (by omega) hb;omega
theorem zgG {n a b:Int} {up:Bool} (hb:1 ≤ b) (hr:n * a % b=0):zc7 n a b up=n * a / b:=by
 unfold zc7;have:=zeS (n * a) b hb;rw [if_pos hr] at this;cases up <;> simp [this]
theorem zl0 {n a b:Int} (hb:1 ≤ b) (hr:¬ n * a % b=0):zc7 n a b true=n * a / b + 1:=by
 have:=zeS (n * a) b hb;rw [if_neg hr] at this;simpa [zc7] using this
theorem zkl {n a b:Int}:zc7 n a b false=n * a / b:=by simp [zc7]
theorem zkJ {p b:Int} (hp:p < 0):p.tmod b=0 ↔ p % b=0:=by
 rw [zkk,if_neg (by omega)];constructor
 ·intro h;have h:-p % b=0:=by omega
  have:=Int.emod_eq_zero_of_dvd (Int.dvd_neg.2 (Int.dvd_of_emod_eq_zero h));rwa [Int.neg_neg] at this
 ·intro h;have:=Int.emod_eq_zero_of_dvd (Int.dvd_neg.2 (Int.dvd_of_emod_eq_zero h));omega
theorem zl1 {n a b:Int} (hp:n * a < 0):zc7 n a b true=(n * a).tdiv b:=by
 rw [ziu,if_neg (by omega)];simp [zc7]
theorem zju {n a b:Int} {up:Bool} (hp:n * a < 0) (hb:1 ≤ b) (hr:(n * a).tmod b=0):zc7 n a b up=(n * a).tdiv b:=by
 rw [zkJ hp] at hr;rw [zgG hb hr,ziu,if_neg (by omega)];have:=zeS (n * a) b hb;rw [if_pos hr] at this;omega
theorem zkm {n a b:Int} (hp:n * a < 0) (hb:1 ≤ b) (hr:¬ (n * a).tmod b=0):zc7 n a b false=(n * a).tdiv b - 1:=by
 rw [zkJ hp] at hr;have:=zeS (n * a) b hb;rw [if_neg hr] at this;rw [ziu,if_neg (by omega)];simp only [zc7];simp;omega
theorem zsN {n a b q:Int} {up:Bool} (h:zbY n a b up=(q,0)):zfX n a b=true∧q=zc7 n a b up∧zag q=true:=by
 unfold zbY at h;split at h
 ·rename_i h1;split at h
  ·rename_i h2;injection h with h3 _;exact ⟨h1,h3.symm,by rw [← h3];exact h2⟩
  ·injection h with _ h4;omega
 ·injection h with _ h4;omega
theorem zfk:∀ (l:List Int) (t r:Int),zeJ t l=(r,0)→r=t + l.sum∧(∀ x ∈ l,zag x=true)∧(zag t=true→zag r=true)
 | [],t,r,h=>by
  injection h with h1 _;subst h1;simp
 | n :: l,t,r,h=>by
  simp only [zeJ] at h;split at h
  ·rename_i hn;split at h
   ·rename_i ht;obtain ⟨h1,h2,h3⟩:=zfk l (t + n) r h;refine ⟨by rw [h1,List.sum_cons];omega,?_,fun _=>h3 ht⟩;intro x hx;rcases List.mem_cons.1 hx with rfl | hx
    ·exact hn
    ·exact h2 x hx
   ·injection h with _ h;omega
  ·injection h with _ h;omega
theorem ztZ (k n:Int) (hn:1 ≤ n):k % n=if 0 ≤ k then k % n else if k.tmod n < 0 then k.tmod n + n else k.tmod n:=by
 split
 ·rfl
 ·rename_i hk;have h1:=Int.mul_ediv_add_emod (-k) n;have h3:=Int.emod_nonneg (-k) (show n ≠ 0 by omega);have h4:=Int.emod_lt_of_pos (-k) (show 0 < n by omega);rw [zkk,if_neg hk];have h5:k = -((-k) % n) + n * (-((-k) / n)):=by rw [Int.mul_neg];omega
  have h6:k % n=(-((-k) % n)) % n:=by
   conv=>lhs;rw [h5]
   rw [Int.add_mul_emod_self_left]
  rw [h6];generalize (-k) % n=r at *;split
  ·have:(-r) % n=(-r + n) % n:=by rw [Int.add_emod_right]
   rw [this,Int.emod_eq_of_lt (by omega) (by omega)]
  ·have:r=0:=by omega
   subst this;simp
def zfl (n:Int):Bool:=decide (-1000 ≤ n) && decide (n ≤ 1000)
def zde (l:List Int):Bool:=l.all zfl
theorem zgf {n:Int}:zfl n=true ↔ -1000 ≤ n∧n ≤ 1000:=by simp [zfl]
theorem zoi {n:Int}:zfl n=false ↔ n < -1000∨1000 < n:=by rw [← Bool.not_eq_true,zgf];omega
theorem zoj {l:List Int} {j:Nat} {z:Int} (hz:l[j]?=some z) (h:zde (l.take j)=true):zde (l.take (j + 1))=zfl z:=by
 rw [List.take_add_one,hz];simp [zde] at h ⊢;intro _;exact h
theorem zpE {l:List Int} {j:Nat} {z:Int} (hz:l[j]?=some z) (h:zfl z=false):zde l=false:=by
 simp only [zde,List.all_eq_false];exact ⟨z,List.mem_of_getElem? hz,by simp [h]⟩
theorem ze7 {l:List Int} {j:Nat} {z:Int} (h:zde l=true) (hz:l[j]?=some z):-1000 ≤ z∧z ≤ 1000:=by
 simp only [zde,List.all_eq_true] at h;exact zgf.1 (h z (List.mem_of_getElem? hz))
def zaj (id bal:Int) (l:List Int) (m:Int):Int :=
 if id < 0∨8 ≤ id then 5 else if m < 1∨2 < m∨(l.length:Int) ≠ m then 4 else if zag bal=false then 3 else if zde l=false then 3 else 0
theorem zaw {id bal:Int} {l:List Int} {m:Int} (h:zaj id bal l m=0) :
  (0 ≤ id∧id ≤ 7)∧(1 ≤ m∧m ≤ 2)∧(l.length:Int)=m∧(-1000000000000 ≤ bal∧bal ≤ 1000000000000)∧zde l=true:=by
 unfold zaj at h;split at h
 ·omega
 ·split at h
  ·omega
  ·split at h
   ·omega
   ·split at h
    ·omega
    ·rename_i h1 h2 h3 h4;rw [Bool.not_eq_false,zaK] at h3;rw [Bool.not_eq_false] at h4;exact ⟨by omega,by omega,by omega,h3,h4⟩
theorem zeT {id bal:Int} {l:List Int} {m:Int} (h1:0 ≤ id∧id ≤ 7) (h2:1 ≤ m∧m ≤ 2) (h3:(l.length:Int)=m) (h4:-1000000000000 ≤ bal∧bal ≤ 1000000000000) (h5:zde l=true):zaj id bal l m=0:=by
 unfold zaj;rw [if_neg (by omega),if_neg (by omega),if_neg (by rw [zaK.2 h4];simp),if_neg (by rw [h5];simp)]
def zhb (q p:Int):Bool:=decide (-1000 ≤ q) && decide (q ≤ 1000) && decide (0 ≤ p) && decide (p ≤ 10000)
def zaC (q p:Int):Int × Int:=if zhb q p then (q * p,0) else (0,3)
theorem zfN {q p:Int}:zhb q p=true ↔ -1000 ≤ q∧q ≤ 1000∧0 ≤ p∧p ≤ 10000:=by simp [zhb,and_assoc]
theorem zhu {q p:Int} (h1:-1000 ≤ q) (h2:q ≤ 1000) (h3:0 ≤ p) (h4:p ≤ 10000):-10000000 ≤ q * p∧q * p ≤ 10000000:=by
 have hn:(q * p).natAbs ≤ 1000 * 10000:=by rw [Int.natAbs_mul];exact Nat.mul_le_mul (by omega) (by omega)
 omega
theorem zcI (q p:Int):zaC q p=(0,3)∨zaC q p=(q * p,0)∧(-1000 ≤ q∧q ≤ 1000)∧(0 ≤ p∧p ≤ 10000)∧-10000000 ≤ q * p∧q * p ≤ 10000000:=by
 unfold zaC;split
 ·rename_i h;obtain ⟨h1,h2,h3,h4⟩:=zfN.1 h;exact .inr ⟨rfl,⟨h1,h2⟩,⟨h3,h4⟩,zhu h1 h2 h3 h4⟩
 ·exact .inl rfl
def zdl (id bal:Int) (l:List Int) (market mark rate:Int):Int × Int :=
 if zaj id bal l l.length ≠ 0 then (0,zaj id bal l l.length)
 else if market < 0∨(l.length:Int) ≤ market then (0,5)
 else if rate < -100∨100 < rate then (0,3)
 else if (zaC (l.getD market.toNat 0) mark).2 ≠ 0 then (0,(zaC (l.getD market.toNat 0) mark).2)
 else zbY (zaC (l.getD market.toNat 0) mark).1 rate 10000 true
structure Ac where
 id:Int
 bal:Int
 pos:List Int
def pays (a:Ac) (market mark rate:Int):Int × Int:=zdl a.id a.bal a.pos market mark rate
def zdz (market mark rate:Int) (done:List Ac) (left:Int):List Ac→List Ac × Int × Int
 | []=>(done,left,0)
 | a :: l=>if (pays a market mark rate).2 ≠ 0 then ([],0,(pays a market mark rate).2)
  else if (zaB [a.bal,-(pays a market mark rate).1]).2 ≠ 0 then ([],0,(zaB [a.bal,-(pays a market mark rate).1]).2)
  else zdz market mark rate (done ++ [{ a with bal:=(zaB [a.bal,-(pays a market mark rate).1]).1 }]) (left + (pays a market mark rate).1) l
def zbQ (L:List Ac) (market mark rate:Int):List Ac × Int × Int:=if 8 < L.length then ([],0,2) else zdz market mark rate [] 0 L
theorem zkn {id bal:Int} {l:List Int} {market mark rate p:Int} (h:zdl id bal l market mark rate=(p,0)) :
  zaj id bal l l.length=0∧(0 ≤ market∧market < l.length)∧(-100 ≤ rate∧rate ≤ 100)∧(-10000000 ≤ l.getD market.toNat 0 * mark∧l.getD market.toNat 0 * mark ≤ 10000000) ∧
   (-1000 ≤ l.getD market.toNat 0∧l.getD market.toNat 0 ≤ 1000)∧(0 ≤ mark∧mark ≤ 10000)∧zbY (l.getD market.toNat 0 * mark) rate 10000 true=(p,0):=by
 unfold zdl at h;split at h
 ·rename_i h1;injection h with _ h2;exact absurd h2 h1
 ·rename_i h1;split at h
  ·injection h with _ h2;omega
  ·split at h
   ·injection h with _ h2;omega
   ·split at h
    ·rename_i h4;injection h with _ h2;exact absurd h2 h4
    ·rename_i h2 h3 h4;rcases zcI (l.getD market.toNat 0) mark with h5 | ⟨h5,h6,h7,h8⟩
     ·rw [h5] at h4;simp at h4
     ·rw [h5] at h;exact ⟨by simpa using h1,by omega,by omega,h8,h6,h7,h⟩
theorem zsO {id bal:Int} {l:List Int} {market mark rate p:Int} (h:zdl id bal l market mark rate=(p,0)):-100000 ≤ p∧p ≤ 100000:=by
 obtain ⟨_,_,hr,hw,_,_,hp⟩:=zkn h;obtain ⟨_,hq,_⟩:=zsN hp;generalize l.getD market.toNat 0 * mark=x at *;have hn:(x * rate).natAbs ≤ 10000000 * 100:=by rw [Int.natAbs_mul];exact Nat.mul_le_mul (by omega) (by omega)
 have h1:=zeS (x * rate) 10000 (by omega);simp only [zc7] at hq;simp at hq;omega
theorem zjv {x r:Int} (hx:-10000000 ≤ x∧x ≤ 10000000) (hr:-100 ≤ r∧r ≤ 100):zbY x r 10000 true=(-((-(x * r)) / 10000),0):=by
 have hn:(x * r).natAbs ≤ 10000000 * 100:=by rw [Int.natAbs_mul];exact Nat.mul_le_mul (by omega) (by omega)
 unfold zbY;have hq:zc7 x r 10000 true = -((-(x * r)) / 10000):=by simp [zc7]
 rw [if_pos (zge.2 ⟨by omega,by omega,by omega,by omega,by omega⟩),hq,if_pos (zaK.2 (by omega))]
end
end Go.Proofs.YtockodmbhnlheaaGreatDoor
