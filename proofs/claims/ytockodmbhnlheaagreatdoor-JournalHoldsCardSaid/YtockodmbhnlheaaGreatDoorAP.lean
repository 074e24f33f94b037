import Derived.Test.YtockodmbhnlheaaGreatDoorAN
namespace Go.Proofs.YtockodmbhnlheaaGreatDoor
section
def ze2 (id:Int) (E:List Ev):Prop:=∀ x ∈ E,((x.kind=3∨x.kind=6)→x.f.macc ≠ id∧x.f.tacc ≠ id)∧(x.kind=5→x.acc ≠ id)
theorem zk9 {place:Bool} {id:Int}:∀ {E:List Ev},ze2 id E→zbo place E id=0∧∀ k,zbh E k id=0
 | [],_=>⟨rfl,fun _=>rfl⟩
 | x :: E,h=>by
  obtain ⟨h1,h2⟩:=h x (by simp);obtain ⟨k1,k2⟩:=zk9 (place:=place) (id:=id) (E:=E) fun y hy=>h y (by simp [hy]);have e1:zfb place x id=0:=by
   unfold zfb;by_cases hk:x.kind=5
   ·rw [if_pos hk,if_neg (fun e=>h2 hk e.symm)]
   ·rw [if_neg hk];by_cases hf:x.kind=3∨x.kind=6
    ·rw [if_pos hf,if_neg (fun e=>(h1 hf).1 e.symm),if_neg (fun e=>(h1 hf).2 e.symm)];rfl
    ·rw [if_neg hf]
  have e2:∀ k,zeN x k id=0:=by
   intro k;unfold zeN;by_cases hf:(x.kind=3∨x.kind=6)∧x.market=k
   ·rw [if_pos hf,if_neg (fun e=>(h1 hf.1).2 e.symm),if_neg (fun e=>(h1 hf.1).1 e.symm)];rfl
   ·rw [if_neg hf]
  refine ⟨?_,fun k=>?_⟩
  ·simp only [zbo,List.map_cons,List.sum_cons] at k1 ⊢;omega
  ·have:=k2 k;have:=e2 k;simp only [zbh,List.map_cons,List.sum_cons] at *;omega
structure Clean (v:Vn) (id:Int):Prop where
 pos:∀ k,posOf v.accs k id=0
 ords:∀ k,∀ o ∈ (mkAt v k).book.bids ++ (mkAt v k).book.asks,o.acc ≠ id
def Less (v v':Vn):Prop:=∀ k,∀ y ∈ (mkAt v' k).book.bids ++ (mkAt v' k).book.asks,∃ z ∈ (mkAt v k).book.bids ++ (mkAt v k).book.asks,ze9 z y
theorem Less.refl (v:Vn):Less v v:=fun _ y hy=>⟨y,hy,rfl,rfl,rfl,rfl⟩
theorem Less.trans {a b c:Vn} (h:Less a b) (g:Less b c):Less a c:=by
 intro k y hy;obtain ⟨z,hz,e1,e2,e3,e4⟩:=g k y hy;obtain ⟨u,hu,f1,f2,f3,f4⟩:=h k z hz;exact ⟨u,hu,f1.trans e1,f2.trans e2,f3.trans e3,f4.trans e4⟩
structure Swept (d d':Dk) (E:List Ev):Prop where
 step:Step false d d' E
 ids:d'.v.accs.map (·.id)=d.v.accs.map (·.id)
 nums:d'.v.resid=d.v.resid∧d'.v.next=d.v.next∧d'.v.inn=d.v.inn∧d'.v.out=d.v.out
 ins:d'.v.ins ≤ d.v.ins
 less:Less d.v d'.v
theorem Swept.refl {d:Dk} (h:VOk d.v):Swept d d []:=⟨Step.refl h,rfl,⟨rfl,rfl,rfl,rfl⟩,Int.le_refl _,Less.refl _⟩
theorem Swept.trans {a b c:Dk} {E F:List Ev} (h:Swept a b E) (g:Swept b c F):Swept a c (E ++ F) :=
 ⟨h.step.trans g.step,g.ids.trans h.ids,⟨g.nums.1.trans h.nums.1,g.nums.2.1.trans h.nums.2.1,g.nums.2.2.1.trans h.nums.2.2.1,g.nums.2.2.2.trans h.nums.2.2.2⟩,Int.le_trans g.ins h.ins,h.less.trans g.less⟩
theorem Swept.clean {d d':Dk} {E:List Ev} {id:Int} (h:Swept d d' E) (hc:Clean d.v id) (hq:ze2 id E):Clean d'.v id∧balOf d'.v.accs id=balOf d.v.accs id:=by
 obtain ⟨q1,q2⟩:=zk9 (place:=false) hq;refine ⟨⟨fun k=>?_,fun k o ho e=>?_⟩,?_⟩
 ·rw [h.step.pos,q2,hc.pos];rfl
 ·obtain ⟨z,hz,_,e2,_⟩:=h.less k o ho;exact hc.ords k z hz (e2.trans e)
 ·rw [h.step.bal,q1];omega
theorem zfy {i:Nat} {id:Int} {l:List Od}:∀ x ∈ zaF i id l,x.kind=4:=by
 intro x hx;unfold zaF at hx;obtain ⟨o,_,rfl⟩:=List.mem_map.1 hx;rfl
theorem zjP {place:Bool}:∀ {E:List Ev} {d:Dk},VOk d.v→(∀ x ∈ E,x.kind=4)→Step place d ⟨d.v,d.ev ++ E⟩ E
 | [],d,h,_=>by simpa using Step.refl h
 | x :: E,d,h,hk=>by
  have s1:=zh8 (place:=place) (d:=d) (x:=x) h (.inr (hk x (by simp)));have s2:=zjP (place:=place) (E:=E) (d:=tell d x) s1.ok fun y hy=>hk y (by simp [hy]);have:=s1.trans s2;simpa [tell] using this
theorem zla {id:Int} {l:List Od} {o:Od}:o ∈ zbu id l ↔ o ∈ l∧o.acc ≠ id:=by simp [zbu]
theorem zjg {id:Int} {i:Nat} {d:Dk} (h:VOk d.v) (hi:i < d.v.mks.length) :
  Swept d (zcV id i d) (zaF i id (mkAt d.v i).book.bids ++ zaF i id (mkAt d.v i).book.asks)∧(zcV id i d).v.accs=d.v.accs∧(zcV id i d).v.ins=d.v.ins∧(∀ o ∈ (mkAt (zcV id i d).v i).book.bids ++ (mkAt (zcV id i d).v i).book.asks,o.acc ≠ id):=by
 obtain ⟨m1,m2⟩:=zem h hi;have hm:=za2.1 m1;have hbk:BookOk ⟨zbu id (mkAt d.v i).book.bids,zbu id (mkAt d.v i).book.asks⟩:=zjb hm.1 List.filter_sublist List.filter_sublist;have hsub:∀ y ∈ zbu id (mkAt d.v i).book.bids ++ zbu id (mkAt d.v i).book.asks,y ∈ (mkAt d.v i).book.bids ++ (mkAt d.v i).book.asks∧y.acc ≠ id:=by
  intro y hy;rcases List.mem_append.1 hy with hy | hy
  ·obtain ⟨k1,k2⟩:=zla.1 hy;exact ⟨by simp [k1],k2⟩
  ·obtain ⟨k1,k2⟩:=zla.1 hy;exact ⟨by simp [k1],k2⟩
 have s1:=zfc (place:=false) (d:=d) (k:=i) (m:={ mkAt d.v i with book:=⟨zbu id (mkAt d.v i).book.bids,zbu id (mkAt d.v i).book.asks⟩ }) h (za2.2 ⟨hbk,hm.2⟩) (fun y hy=>m2 y (hsub y hy).1);have s2:=zjP (place:=false) (E:=zaF i id (mkAt d.v i).book.bids ++ zaF i id (mkAt d.v i).book.asks) (d:=⟨zaD d.v i { mkAt d.v i with book:=⟨zbu id (mkAt d.v i).book.bids,zbu id (mkAt d.v i).book.asks⟩ },d.ev⟩) s1.ok (by
  intro x hx;rcases List.mem_append.1 hx with hx | hx
  ·exact zfy x hx
  ·exact zfy x hx)
 have hat:=fun k=>zjf (v:=d.v) (k:=i) (j:=k) (m:={ mkAt d.v i with book:=⟨zbu id (mkAt d.v i).book.bids,zbu id (mkAt d.v i).book.asks⟩ }) hi;have hst:zcV id i d=⟨zaD d.v i { mkAt d.v i with book:=⟨zbu id (mkAt d.v i).book.bids,zbu id (mkAt d.v i).book.asks⟩ },d.ev ++ (zaF i id (mkAt d.v i).book.bids ++ zaF i id (mkAt d.v i).book.asks)⟩:=by
  unfold zcV;rw [List.append_assoc]
 rw [hst];refine ⟨⟨by have:=s1.trans s2;simpa using this,rfl,⟨rfl,rfl,rfl,rfl⟩,Int.le_refl _,?_⟩,rfl,rfl,?_⟩
 ·intro k y hy;simp only at hy;rw [hat] at hy;by_cases hk:k=i
  ·subst hk;rw [if_pos rfl] at hy;exact ⟨y,(hsub y hy).1,rfl,rfl,rfl,rfl⟩
  ·rw [if_neg hk] at hy;exact ⟨y,hy,rfl,rfl,rfl,rfl⟩
 ·simp only;rw [hat,if_pos rfl];intro o ho;exact (hsub o ho).2
theorem zjQ {id:Int}:∀ {n i:Nat} {d:Dk},VOk d.v→i + n ≤ d.v.mks.length →
  ∃ E,Swept d (zc4 id n i d) E∧(zc4 id n i d).v.accs=d.v.accs∧(zc4 id n i d).v.ins=d.v.ins∧(∀ x ∈ E,x.kind=4)∧∀ k,i ≤ k→k < i + n→∀ o ∈ (mkAt (zc4 id n i d).v k).book.bids ++ (mkAt (zc4 id n i d).v k).book.asks,o.acc ≠ id
 | 0,i,d,h,_=>⟨[],Swept.refl h,rfl,rfl,by simp,fun k h1 h2=>by omega⟩
 | n + 1,i,d,h,hl=>by
  obtain ⟨s1,a1,b1,c1⟩:=zjg (id:=id) (i:=i) h (by omega);obtain ⟨E,s2,a2,b2,k2,c2⟩:=zjQ (id:=id) (n:=n) (i:=i + 1) (d:=zcV id i d) s1.step.ok (by rw [s1.step.len];omega);refine ⟨_,s1.trans s2,a2.trans a1,b2.trans b1,?_,fun k h1 h2 o ho=>?_⟩
  ·intro x hx;rcases List.mem_append.1 hx with hx | hx
   ·rcases List.mem_append.1 hx with hx | hx
    ·exact zfy x hx
    ·exact zfy x hx
   ·exact k2 x hx
  ·by_cases hk:k=i
   ·subst hk;obtain ⟨z,hz,_,e,_⟩:=s2.less k o ho;rw [← e];exact c1 z hz
   ·exact c2 k (by omega) (by omega) o ho
theorem zp1 {v:Vn} {k:Nat} (h:v.mks.length ≤ k):mkAt v k=zjC:=by
 unfold mkAt;rw [List.getD,List.getElem?_eq_none h];rfl
theorem zmm {id:Int} {d:Dk} (h:VOk d.v):∃ E,Swept d (zcH id d) E∧(zcH id d).v.accs=d.v.accs∧(zcH id d).v.ins=d.v.ins∧(∀ x ∈ E,x.kind=4)∧∀ k,∀ o ∈ (mkAt (zcH id d).v k).book.bids ++ (mkAt (zcH id d).v k).book.asks,o.acc ≠ id:=by
 obtain ⟨E,s,a,b,k,c⟩:=zjQ (id:=id) (n:=d.v.mks.length) (i:=0) (d:=d) h (by omega);refine ⟨E,s,a,b,k,fun j o ho=>?_⟩;by_cases hj:j < d.v.mks.length
 ·exact c j (Nat.zero_le _) (by omega) o ho
 ·have hl:(zcH id d).v.mks.length ≤ j:=by rw [show (zcH id d).v.mks.length=d.v.mks.length from s.step.len];omega
  rw [zp1 hl] at ho;cases ho
theorem zhK {market:Nat} {side:Int}:∀ {L:List Ac} {i:Nat} {best r:Option (Nat × Int)},zdC market side best i L=r→(∀ q ∈ best,0 < q.2) →
  ∀ q ∈ r,0 < q.2∧(r=best∨∃ j a,L[j]?=some a∧q.1=i + j∧q.2=a.pos.getD market 0 * side)
 | [],i,best,r,h,hb=>by
  intro q hq;unfold zdC at h;subst h;exact ⟨hb q hq,.inl rfl⟩
 | a :: L,i,best,r,h,hb=>by
  intro q hq;unfold zdC at h;split at h
  ·rename_i h1;obtain ⟨k1,k2⟩:=zhK (L:=L) h (fun q hq=>by injection hq with hq;rw [← hq];exact h1.1) q hq;refine ⟨k1,.inr ?_⟩;rcases k2 with k2 | ⟨j,b,k3,k4,k5⟩
   ·rw [k2] at hq;injection hq with hq;exact ⟨0,a,rfl,by rw [← hq];rfl,by rw [← hq]⟩
   ·exact ⟨j + 1,b,by simpa using k3,by omega,k5⟩
  ·obtain ⟨k1,k2⟩:=zhK (L:=L) h hb q hq;refine ⟨k1,?_⟩;rcases k2 with k2 | ⟨j,b,k3,k4,k5⟩
   ·exact .inl k2
   ·exact .inr ⟨j + 1,b,by simpa using k3,by omega,k5⟩
theorem zhL {v:Vn} {market i:Nat} {side x:Int} (h:zd7 v market side=some (i,x)):∃ a,v.accs[i]?=some a∧0 < a.pos.getD market 0 * side:=by
 unfold zd7 at h;obtain ⟨k1,k2⟩:=zhK h (by simp) (i,x) rfl;rcases k2 with k2 | ⟨j,a,k3,k4,k5⟩
 ·cases k2
 ·have hij:i=j:=by simpa using k4
  subst hij;exact ⟨a,k3,by rw [← k5];exact k1⟩
theorem zp2 {m:Nat} {L:List Ac} (h:AOk m L) {i:Nat} {a:Ac} (hi:L[i]?=some a) (k:Nat):-1000 ≤ a.pos.getD k 0∧a.pos.getD k 0 ≤ 1000 :=
 zoz (zaw (h.ok a (List.mem_of_getElem? hi))).2.2.2.2 k
theorem zjh {m:Nat} {L:List Ac} (h:AOk m L) {i:Nat} {a:Ac} (hi:L[i]?=some a) (k:Nat):posOf L k a.id=a.pos.getD k 0:=by
 rw [zfd,zbR h.sorted hi]
theorem zp3 {d:Dk} {v':Vn} {market:Nat} {id other side price n:Int} (h:VOk d.v) (hs:side=1∨side = -1) (hp:0 ≤ price∧price ≤ 10000) (hn:1 ≤ n∧n ≤ 1000)
  (ht:zcD d.v market id other (side * n) price 0=.ok v') :
  Swept d (tell ⟨v',d.ev⟩ ⟨6,0,market,0,other,0,⟨0,0,other,id,side,price,n⟩⟩) [⟨6,0,market,0,other,0,⟨0,0,other,id,side,price,n⟩⟩]∧v'.ins=d.v.ins∧v'.mks=d.v.mks:=by
 obtain ⟨s1,t1⟩:=zjI (place:=false) (d:=d) (x:=⟨6,0,market,0,other,0,⟨0,0,other,id,side,price,n⟩⟩) h (Int.le_refl 0) (.inr rfl) rfl rfl hn hs hp ht;have hi:=t1.ins.1;refine ⟨⟨s1,t1.ids,t1.rest,?_,?_⟩,by omega,t1.mks⟩
 ·show v'.ins ≤ d.v.ins;omega
 ·intro k y hy;have:mkAt v' k=mkAt d.v k:=by unfold mkAt;rw [t1.mks]
  exact ⟨y,by rw [← this];exact hy,rfl,rfl,rfl,rfl⟩
theorem zjR {market:Nat} {id side price:Int} (hs:side=1∨side = -1) (hp:0 ≤ price∧price ≤ 10000):∀ {fuel:Nat} {left:Int} {d d':Dk},VOk d.v→0 ≤ left→left.toNat ≤ fuel→posOf d.v.accs market id = -(side * left)→zbA market id side price fuel left d=.ok d' →
  ∃ E,Swept d d' E∧d'.v.ins=d.v.ins∧posOf d'.v.accs market id=0∧(∀ x ∈ E,x.kind=6∧x.market=market)∧∀ j,j ≠ id→Clean d.v j→ze2 j E
 | 0,left,d,d',h,h0,hf,hpos,hc=>by
  injection hc with hc;subst hc;have:left=0:=by omega
  subst this;exact ⟨[],Swept.refl h,rfl,by rw [hpos];omega,by simp,fun _ _ _=>by simp [ze2]⟩
 | fuel + 1,left,d,d',h,h0,hf,hpos,hc=>by
  unfold zbA at hc;split at hc
  ·injection hc with hc;subst hc;have:left=0:=by omega
   subst this;exact ⟨[],Swept.refl h,rfl,by rw [hpos];omega,by simp,fun _ _ _=>by simp [ze2]⟩
  rename_i hl;split at hc
  ·cases hc
  rename_i i y ho;obtain ⟨a,ha,hpa⟩:=zhL ho;have hat:zaR d.v i=a:=zaY ha;rw [hat] at hc;obtain ⟨v1,h1,hc⟩:=zdo hc;have hpb:=zp2 h.accs ha market;have hp0:a.pos.getD market 0 ≠ 0:=by intro e;rw [e] at hpa;omega
  have hpos2:=zjh h.accs ha market;have hn:1 ≤ min left (max (a.pos.getD market 0) (-a.pos.getD market 0))∧min left (max (a.pos.getD market 0) (-a.pos.getD market 0)) ≤ 1000:=by omega
  have hne:a.id ≠ id:=by
   intro e;rw [e,hpos] at hpos2;rcases hs with hs | hs <;> subst hs <;> omega
  obtain ⟨n,hnn⟩:∃ n,n=min left (max (a.pos.getD market 0) (-a.pos.getD market 0)):=⟨_,rfl⟩;rw [← hnn] at hn h1 hc;obtain ⟨s1,i1,m1⟩:=zp3 (d:=d) h hs hp hn h1;have hpos3:posOf v1.accs market id = -(side * (left - n)):=by
   have:=s1.step.pos market id;have e:posOf v1.accs market id=posOf d.v.accs market id + zbh [⟨6,0,market,0,a.id,0,⟨0,0,a.id,id,side,price,n⟩⟩] market id:=this;rw [e,hpos];simp only [zbh,List.map_cons,List.map_nil,List.sum_cons,List.sum_nil,zeN];simp only [if_true,or_true,and_self];rw [if_neg (fun e=>hne e.symm)];rcases hs with hs | hs <;> subst hs <;> omega
  obtain ⟨E,s2,i2,p2,k2,q2⟩:=zjR hs hp (fuel:=fuel) (left:=left - n) (d:=tell ⟨v1,d.ev⟩ ⟨6,0,market,0,a.id,0,⟨0,0,a.id,id,side,price,n⟩⟩) (d':=d') s1.step.ok (by omega) (by omega) hpos3 hc;refine ⟨_,s1.trans s2,i2.trans i1,p2,?_,fun j hj hcl=>?_⟩
  ·intro x hx;rcases List.mem_append.1 hx with hx | hx
   ·simp only [List.mem_singleton] at hx;subst hx;exact ⟨rfl,rfl⟩
   ·exact k2 x hx
  ·have hq1:ze2 j [⟨6,0,market,0,a.id,0,⟨0,0,a.id,id,side,price,n⟩⟩]:=by
    intro x hx;simp only [List.mem_singleton] at hx;subst hx;refine ⟨fun _=>⟨fun e=>?_,fun e=>hj e.symm⟩,fun e=>by simp at e⟩;have e':a.id=j:=e;rw [e',hcl.pos] at hpos2;exact hp0 hpos2.symm
   have hq2:=q2 j hj (s1.clean hcl hq1).1;intro x hx;rcases List.mem_append.1 hx with hx | hx
   ·exact hq1 x hx
   ·exact hq2 x hx
theorem zhX {mk:Nat} {id side:Int}:∀ {l:List Fl},(∀ f ∈ l,f.tacc=id∧f.macc ≠ id∧f.side=side)→zbh (zd0 mk l) mk id=side * zbg l∧∀ k j,k ≠ mk→zbh (zd0 mk l) k j=0
 | [],_=>by simp [zbh,zd0,zbg]
 | f :: l,h=>by
  obtain ⟨e1,e2,e3⟩:=h f (by simp);obtain ⟨k1,k2⟩:=zhX (mk:=mk) (id:=id) (side:=side) (l:=l) fun g hg=>h g (by simp [hg]);refine ⟨?_,fun k j hk=>?_⟩
  ·simp only [zbh,zd0,List.map_cons,List.sum_cons,zbg,zeN] at k1 ⊢;rw [k1,if_pos (by simp),if_pos e1.symm,if_neg (fun e=>e2 e.symm),e3,Int.mul_add];omega
  ·have:=k2 k j hk;simp only [zbh,zd0,List.map_cons,List.sum_cons,zeN] at this ⊢;rw [this,if_neg (by intro h;have:=h.2;omega)];rfl
theorem zgM {b x:Bk} {o:Od} {l:List Fl} {left:Int} {met:Bool} (h:za1 b o=(x,l,left,met,0)) :
  BookOk b∧BookOk x∧zax o=0∧(∀ y ∈ x.bids ++ x.asks,∃ z ∈ b.bids ++ b.asks,ze9 z y) ∧
   (∀ f ∈ l,∃ z ∈ b.bids ++ b.asks,f.maker=z.id∧f.macc=z.acc∧f.price=z.price∧(1 ≤ f.qty∧f.qty ≤ z.qty)∧f.side=o.side∧f.tacc=o.acc∧z.acc ≠ o.acc)∧(0 ≤ left∧left ≤ o.qty)∧zbg l + left=o.qty:=by
 unfold za1 at h;split at h
 ·rename_i h1;injection h with _ h;injection h with _ h;injection h with _ h;injection h with _ h;exact absurd h h1
 rename_i h1;split at h
 ·rename_i h2;injection h with _ h;injection h with _ h;injection h with _ h;injection h with _ h;exact absurd h h2
 rename_i h2;have hb:=zb6.1 (show zav b=0 by omega);have ho:=zaP.1 (show zax o=0 by omega);have hs:=ho.2.2.1;have hso:=zex hb o.side hs;have hq:∀ x ∈ zap b o.side,1 ≤ x.qty:=fun x hx=>(zaP.1 (hso.ok x hx)).2.2.2.2.1;obtain ⟨f1,f2⟩:=zg3 (o:=o) (left:=o.qty) hq (by omega);obtain ⟨t1,t2⟩:=zk2 (o:=o) (left:=o.qty) hb hs;have hrem:=zfp (o:=o) (left:=o.qty) hq (by omega);injection h with e1 h;injection h with e2 h;injection h with e3 h;injection h with e4 _;rw [e1] at t1 t2;rw [e2] at f1 f2;rw [e3] at f2 hrem;exact ⟨hb,t1,by omega,t2,fun f hf=>by obtain ⟨z,hz,h⟩:=f1 f hf;exact ⟨z,zh9 hz,h⟩,hrem,f2⟩
theorem zlb {k market:Nat} {marks:List Int} {d d':Dk} {a:Ac} (h:VOk d.v) (hm:market < d.v.mks.length) (ha:d.v.accs[k]?=some a) (hp:a.pos.getD market 0 ≠ 0) (hc:zce k market marks d=.ok d') :
  ∃ E,Swept d d' E∧d'.v.ins=d.v.ins∧posOf d'.v.accs market a.id=0∧(∀ x ∈ E,(x.kind=3∨x.kind=6)∧x.market=market)∧∀ j,j ≠ a.id→Clean d.v j→ze2 j E:=by
 unfold zce at hc;have hat:zaR d.v k=a:=zaY ha;simp only at hc;rw [hat] at hc;obtain ⟨e1,hc⟩:=zcF hc;obtain ⟨e2,hc⟩:=zcF hc;obtain ⟨price,hpr⟩:∃ price,zcd a marks market=(price,0):=⟨_,Prod.ext rfl e1⟩;rw [hpr] at hc e2;simp only at hc e2;obtain ⟨side,hside⟩:∃ side:Int,side=if a.pos.getD market 0 < 0 then 1 else -1:=⟨_,rfl⟩;rw [← hside] at hc e2;obtain ⟨o,ho⟩:∃ o:Od,o=⟨100000,a.id,side,price,max (a.pos.getD market 0) (-a.pos.getD market 0)⟩:=⟨_,rfl⟩;rw [← ho] at hc e2;obtain ⟨x,l,left,met,e,ht⟩:∃ x l left met e,za1 (mkAt d.v market).book o=(x,l,left,met,e):=⟨_,_,_,_,_,rfl⟩;rw [ht] at hc e2;simp only at hc e2;subst e2;have hs:side=1∨side = -1:=by rw [hside];split <;> omega
 obtain ⟨b1,b2,b3,b4,b5,b6,b7⟩:=zgM ht;have hop:=zaP.1 b3;have oq:o.qty=max (a.pos.getD market 0) (-a.pos.getD market 0):=by rw [ho]
 have os:o.side=side:=by rw [ho]
 have oa:o.acc=a.id:=by rw [ho]
 have op:o.price=price:=by rw [ho]
 obtain ⟨m1,m2⟩:=zem h hm;have hmo:=za2.1 m1;have s1:=zfc (place:=false) (d:=d) (k:=market) (m:={ mkAt d.v market with book:=x }) h (za2.2 ⟨b2,hmo.2⟩) (fun y hy=>by
  obtain ⟨z,hz,g1,g2,_⟩:=b4 y hy;rw [← g1,← g2];exact m2 z hz)
 have hat2:=fun j=>zjf (v:=d.v) (k:=market) (j:=j) (m:={ mkAt d.v market with book:=x }) hm;have w1:Swept d ⟨zaD d.v market { mkAt d.v market with book:=x },d.ev⟩ []:=⟨s1,rfl,⟨rfl,rfl,rfl,rfl⟩,Int.le_refl _,by
  intro j y hy;simp only at hy;rw [hat2] at hy;by_cases hj:j=market
  ·subst hj;rw [if_pos rfl] at hy;exact b4 y hy
  ·rw [if_neg hj] at hy;exact ⟨y,hy,rfl,rfl,rfl,rfl⟩⟩
 obtain ⟨d1,hd1,hc⟩:=zdo hc;obtain ⟨s2,i2,k2,r2,n2,p2,_⟩:=zfx (place:=false) (mk:=market) (l:=l) (d:=⟨zaD d.v market { mkAt d.v market with book:=x },d.ev⟩) s1.ok (zhH b1 (by rw [os];exact hs) b5) (by rw [s1.len];exact hm) hd1;have hn2:=p2 rfl;have w2:Swept ⟨zaD d.v market { mkAt d.v market with book:=x },d.ev⟩ d1 (zd0 market l):=⟨s2,i2,r2,by rw [hn2];exact Int.le_refl _,by
  intro j y hy;rw [(k2 j).1] at hy;exact ⟨y,hy,rfl,rfl,rfl,rfl⟩⟩
 have w12:=w1.trans w2;rw [List.nil_append] at w12;have hfl:∀ f ∈ l,f.tacc=a.id∧f.macc ≠ a.id∧f.side=side:=by
  intro f hf;obtain ⟨z,_,_,g2,_,_,g5,g6,g7⟩:=b5 f hf;exact ⟨g6.trans oa,by rw [g2,← oa];exact g7,g5.trans os⟩
 obtain ⟨f1,f2⟩:=zhX (mk:=market) hfl;have hpos:posOf d1.v.accs market a.id = -(side * left):=by
  rw [w12.step.pos,f1,zjh h.accs ha];have hq:zbg l=o.qty - left:=by omega
  rw [hq,oq];have hpb:(side=1∧a.pos.getD market 0 < 0)∨(side = -1∧0 < a.pos.getD market 0):=by
   rw [hside];split <;> omega
  rcases hpb with ⟨hs1,hpb⟩ | ⟨hs1,hpb⟩ <;> rw [hs1] <;> omega
 obtain ⟨E,s3,i3,p3,k3,q3⟩:=zjR hs (by rw [← op];omega) (fuel:=left.toNat) (left:=left) (d:=d1) (d':=d') s2.ok b6.1 (zl _) hpos hc;refine ⟨_,w12.trans s3,i3.trans hn2,p3,?_,fun j hj hcl=>?_⟩
 ·intro y hy;rcases List.mem_append.1 hy with hy | hy
  ·obtain ⟨f,_,rfl⟩:=List.mem_map.1 hy;exact ⟨.inl rfl,rfl⟩
  ·exact ⟨.inr (k3 y hy).1,(k3 y hy).2⟩
 ·have hq1:ze2 j (zd0 market l):=by
   intro y hy;obtain ⟨f,hf,rfl⟩:=List.mem_map.1 hy;obtain ⟨z,hz,_,g2,_⟩:=b5 f hf;refine ⟨fun _=>⟨?_,?_⟩,fun e=>by simp at e⟩
   ·show f.macc ≠ j;rw [g2];exact hcl.ords market z hz
   ·show f.tacc ≠ j;rw [(hfl f hf).1];exact fun e=>hj e.symm
  have hq2:=q3 j hj (w12.clean hcl hq1).1;intro y hy;rcases List.mem_append.1 hy with hy | hy
  ·exact hq1 y hy
  ·exact hq2 y hy
theorem zhY {mk:Nat} {id:Int}:∀ {E:List Ev},(∀ x ∈ E,x.market ≠ mk)→zbh E mk id=0
 | [],_=>rfl
 | x :: E,h=>by
  have:=zhY (mk:=mk) (id:=id) (E:=E) fun y hy=>h y (by simp [hy]);have e:zeN x mk id=0:=by unfold zeN;rw [if_neg (fun e=>h x (by simp) e.2)]
  simp only [zbh,List.map_cons,List.sum_cons] at this ⊢;omega
theorem zif {k:Nat} {marks:List Int} {id:Int}:∀ {n i:Nat} {d d':Dk},VOk d.v→i + n=d.v.mks.length→(∃ a,d.v.accs[k]?=some a∧a.id=id)→(∀ j,j < i→posOf d.v.accs j id=0)→zbD k marks n i d=.ok d' →
  ∃ E,Swept d d' E∧d'.v.ins=d.v.ins∧(∀ j,j < d.v.mks.length→posOf d'.v.accs j id=0)∧(∀ x ∈ E,x.kind=3∨x.kind=6)∧∀ j,j ≠ id→Clean d.v j→ze2 j E
 | 0,i,d,d',h,hl,hk,hp,hc=>by
  injection hc with hc;subst hc;exact ⟨[],Swept.refl h,rfl,fun j hj=>hp j (by omega),by simp,fun _ _ _=>by simp [ze2]⟩
 | n + 1,i,d,d',h,hl,⟨a,ha,hid⟩,hp,hc=>by
  unfold zbD at hc;have hat:zaR d.v k=a:=zaY ha;rw [hat] at hc;split at hc
  ·rename_i h0;obtain ⟨E,s,i1,p1,k1,q1⟩:=zif (n:=n) (i:=i + 1) (d:=d) (d':=d') h (by omega) ⟨a,ha,hid⟩ (fun j hj=>by
    by_cases hji:j=i
    ·rw [hji,← hid,zjh h.accs ha];exact h0
    ·exact hp j (by omega)) hc
   exact ⟨E,s,i1,p1,k1,q1⟩
  ·rename_i h0;obtain ⟨d1,hd1,hc⟩:=zdo hc;obtain ⟨E1,s1,i1,p1,k1,q1⟩:=zlb h (by omega) ha h0 hd1;rw [hid] at p1 q1;have ha1:∃ a,d1.v.accs[k]?=some a∧a.id=id:=by
    have hlen:k < d1.v.accs.length:=by
     have e:=congrArg List.length s1.ids;simp only [List.length_map] at e;rw [e];exact (List.getElem?_eq_some_iff.1 ha).1
    refine ⟨_,List.getElem?_eq_getElem hlen,?_⟩;have e:=congrArg (fun l=>l[k]?) s1.ids;simp only [List.getElem?_map,ha,List.getElem?_eq_getElem hlen,Option.map_some] at e;injection e with e;exact e.trans hid
   obtain ⟨E2,s2,i2,p2,k2,q2⟩:=zif (n:=n) (i:=i + 1) (d:=d1) (d':=d') s1.step.ok (by rw [s1.step.len];omega) ha1 (fun j hj=>by
    by_cases hji:j=i
    ·rw [hji];exact p1
    ·rw [s1.step.pos,hp j (by omega),zhY fun x hx=>by rw [(k1 x hx).2];omega];rfl) hc
   refine ⟨_,s1.trans s2,i2.trans i1,fun j hj=>p2 j (by rw [s1.step.len];exact hj),?_,fun j hj hcl=>?_⟩
   ·intro x hx;rcases List.mem_append.1 hx with hx | hx
    ·exact (k1 x hx).1
    ·exact k2 x hx
   ·have hq1:=q1 j hj hcl;have hq2:=q2 j hj (s1.clean hcl hq1).1;intro x hx;rcases List.mem_append.1 hx with hx | hx
    ·exact hq1 x hx
    ·exact hq2 x hx
theorem zmn {k:Nat} {d d':Dk} {a:Ac} (h:VOk d.v) (ha:d.v.accs[k]?=some a) (hc:zdn k d=.ok d') :
  ∃ E,Swept d d' E∧(balOf d'.v.accs a.id < 0→d'.v.ins=0)∧(d.v.ins=0→d'.v.ins=0)∧(∀ x ∈ E,x.kind=5∧x.acc=a.id)∧∀ j,posOf d'.v.accs j=posOf d.v.accs j:=by
 unfold zdn at hc;have hat:zaR d.v k=a:=zaY ha;simp only at hc;rw [hat] at hc;have hn:=h.nums;have hi:=hn.ins;have hb:balOf d.v.accs a.id=a.bal:=by unfold balOf;rw [zbR h.accs.sorted ha]
 have hbd:=(zaw (h.accs.ok a (List.mem_of_getElem? ha))).2.2.2.1;split at hc
 ·rename_i h0;obtain ⟨n,hnn⟩:∃ n,n=min d.v.ins (-a.bal):=⟨_,rfl⟩;rw [← hnn] at h0 hc;obtain ⟨m1,m2,rfl⟩:=zkv (d:=⟨{ d.v with ins:=d.v.ins - n },d.ev⟩) ha hc;have hmoney:=h.money;have hv:=zje (v:={ d.v with ins:=d.v.ins - n }) (n:=n) h.len h.accs ⟨by simp only;omega,hn.resid,hn.next,hn.inn,hn.out⟩ (by simp only;omega) h.pos h.mks ha m2;have hbal:∀ id,balOf (d.v.accs.set k { a with bal:=a.bal + n }) id=balOf d.v.accs id + if id=a.id then n else 0:=by
   intro id;unfold balOf;rw [zdi h.accs ha (b:={ a with bal:=a.bal + n }) rfl];by_cases hid:id=a.id
   ·rw [if_pos hid,if_pos hid,hid,zbR h.accs.sorted ha]
   ·rw [if_neg hid,if_neg hid];omega
  refine ⟨[⟨5,0,0,0,a.id,n,zba⟩],⟨⟨hv,rfl,by simp,by simp,?_,fun id=>?_,fun j id=>?_,rfl,fun id hi=>?_,⟨Int.le_refl _,Int.le_refl _,Int.le_refl _⟩⟩,zdY ha (b:={ a with bal:=a.bal + n }) rfl,⟨rfl,rfl,rfl,rfl⟩,?_,Less.refl _⟩,?_,?_,by simp,fun j=>?_⟩
  ·intro x hx _;simp only [List.mem_singleton] at hx;subst hx;have:=(zaw (h.accs.ok a (List.mem_of_getElem? ha))).1;simp only;omega
  ·show balOf (d.v.accs.set k _) id=_;rw [hbal];simp only [zbo,List.map_cons,List.map_nil,List.sum_cons,List.sum_nil,zee];omega
  ·show posOf (d.v.accs.set k _) j id=_;rw [zgJ h.accs ha (b:={ a with bal:=a.bal + n }) rfl rfl];simp [zbh,zfR]
  ·show zas (d.v.accs.set k _) id=true;rw [zdh (zdY ha (b:={ a with bal:=a.bal + n }) rfl)];exact hi
  ·show d.v.ins - n ≤ d.v.ins;omega
  ·show balOf (d.v.accs.set k _) a.id < 0→d.v.ins - n=0;rw [hbal,if_pos rfl,hb];omega
  ·show d.v.ins=0→d.v.ins - n=0;omega
  ·funext id
   show posOf (d.v.accs.set k _) j id=_;rw [zgJ h.accs ha (b:={ a with bal:=a.bal + n }) rfl rfl]
 ·rename_i h0;injection hc with hc;subst hc;exact ⟨[],Swept.refl h,by rw [hb];omega,fun h=>h,by simp,fun _=>rfl⟩
structure Done (v:Vn) (id:Int):Prop where
 clean:Clean v id
 bal:balOf v.accs id < 0→v.ins=0
theorem ztK {k:Nat} {marks:List Int} {d d1 d':Dk} {a:Ac} (h:VOk d.v) (ha:d.v.accs[k]?=some a) (hc:zbD k marks d.v.mks.length 0 (zcH a.id d)=.ok d1) (hc2:zdn k d1=.ok d') :
  ∃ E,Swept d d' E∧Done d'.v a.id∧∀ j,j ≠ a.id→Done d.v j→Done d'.v j:=by
 obtain ⟨E1,s1,a1,b1,k1,c1⟩:=zmm (id:=a.id) h;obtain ⟨E2,s2,b2,p2,k2,q2⟩:=zif (d:=zcH a.id d) (id:=a.id) s1.step.ok (by rw [s1.step.len];omega) ⟨a,by rw [a1];exact ha,rfl⟩ (fun j hj=>by omega) hc;have s12:=s1.trans s2;have hlen:k < d1.v.accs.length:=by
  have e:=congrArg List.length s12.ids;simp only [List.length_map] at e;rw [e];exact (List.getElem?_eq_some_iff.1 ha).1
 obtain ⟨a',ha'⟩:∃ a',d1.v.accs[k]?=some a':=⟨_,List.getElem?_eq_getElem hlen⟩;have hid:a'.id=a.id:=by
  have e:=congrArg (fun l=>l[k]?) s12.ids;simp only [List.getElem?_map,ha,ha',Option.map_some] at e;injection e
 obtain ⟨E3,s3,c3,i3,k3,p3⟩:=zmn s12.step.ok ha' hc2;rw [hid] at c3 k3;refine ⟨_,s12.trans s3,⟨⟨fun j=>?_,fun j o ho e=>?_⟩,c3⟩,fun j hj hd=>?_⟩
 ·rw [p3];by_cases hj:j < d.v.mks.length
  ·exact p2 j (by rw [s1.step.len];exact hj)
  ·have hbd:(zcg d1.v.accs a.id).pos.length=d.v.mks.length:=by
    rw [← hid,zbR s12.step.ok.accs.sorted ha'];have:=(zaw (s12.step.ok.accs.ok a' (List.mem_of_getElem? ha'))).2.2.1;rw [s12.step.len] at this;omega
   rw [zfd,List.getD,List.getElem?_eq_none (by omega)];rfl
 ·obtain ⟨z,hz,_,e2,_⟩:=(s2.trans s3).less j o ho;exact c1 j z hz (e2.trans e)
 ·have hq1:ze2 j E1:=fun x hx=>by have:=k1 x hx;exact ⟨fun h=>by omega,fun h=>by omega⟩
  obtain ⟨cl1,bl1⟩:=s1.clean hd.clean hq1;obtain ⟨cl2,bl2⟩:=s2.clean cl1 (q2 j hj cl1);have hq3:ze2 j E3:=fun x hx=>by
   have:=k3 x hx;exact ⟨fun h=>by omega,fun _ e=>hj (e.symm.trans this.2)⟩
  obtain ⟨cl3,bl3⟩:=s3.clean cl2 hq3;refine ⟨cl3,fun hb=>?_⟩;rw [bl3,bl2,bl1] at hb;exact i3 (by rw [b2,b1];exact hd.bal hb)
theorem zhM {marks:List Int}:∀ {n k:Nat} {d d':Dk},VOk d.v→k + n=d.v.accs.length→zbL marks n k d=.ok d' →
  ∃ E,Swept d d' E∧(∀ id,(∀ j a,k ≤ j→d.v.accs[j]?=some a→a.id ≠ id)→Done d.v id→Done d'.v id) ∧
   (∀ j a,k ≤ j→d.v.accs[j]?=some a→(∀ i b,k ≤ i→i < j→d.v.accs[i]?=some b→(zbF b marks).2.1=true)→(zbF a marks).2.2=0∧((zbF a marks).2.1=false→Done d'.v a.id)) ∧
   ((∀ i b,k ≤ i→d.v.accs[i]?=some b→(zbF b marks).2.1=true)→d'=d)
 | 0,k,d,d',h,hl,hc=>by
  injection hc with hc;subst hc;exact ⟨[],Swept.refl h,fun _ _ h=>h,fun j a hj ha _=>by have:=(List.getElem?_eq_some_iff.1 ha).1;omega,fun _=>rfl⟩
 | n + 1,k,d,d',h,hl,hc=>by
  unfold zbL at hc;obtain ⟨a,ha⟩:∃ a,d.v.accs[k]?=some a:=⟨_,List.getElem?_eq_getElem (by omega)⟩;have hat:zaR d.v k=a:=zaY ha;rw [hat] at hc;obtain ⟨e1,hc⟩:=zcF hc;by_cases hok:(zbF a marks).2.1=true
  ·rw [if_pos hok] at hc;obtain ⟨E,s,q,f,g⟩:=zhM (n:=n) (k:=k + 1) (d:=d) (d':=d') h (by omega) hc;refine ⟨E,s,fun id hid hd=>q id (fun j b hj=>hid j b (by omega)) hd,fun j b hj hb hall=>?_,fun hall=>g fun i b hi=>hall i b (by omega)⟩;by_cases hjk:j=k
   ·subst hjk;rw [ha] at hb;injection hb with hb;subst hb;exact ⟨e1,fun h=>by rw [h] at hok;cases hok⟩
   ·exact f j b (by omega) hb fun i c hi=>hall i c (by omega)
  ·rw [if_neg hok] at hc;obtain ⟨d1,hd1,hc⟩:=zdo hc;obtain ⟨d2,hd2,hc⟩:=zdo hc;obtain ⟨E1,s1,dn1,dj1⟩:=ztK h ha hd1 hd2;have hlen:d2.v.accs.length=d.v.accs.length:=by
    have e:=congrArg List.length s1.ids;simpa using e
   obtain ⟨E2,s2,q2,f2,g2⟩:=zhM (n:=n) (k:=k + 1) (d:=d2) (d':=d') s1.step.ok (by omega) hc;have hids:∀ (j:Nat) (b:Ac),d2.v.accs[j]?=some b→∃ c:Ac,d.v.accs[j]?=some c∧c.id=b.id:=by
    intro j b hb;have hj:j < d.v.accs.length:=by have:=(List.getElem?_eq_some_iff.1 hb).1;omega
    refine ⟨_,List.getElem?_eq_getElem hj,?_⟩;have e:=congrArg (fun l=>l[j]?) s1.ids;simp only [List.getElem?_map,hb,List.getElem?_eq_getElem hj,Option.map_some] at e;injection e with e;exact e.symm
   refine ⟨_,s1.trans s2,fun id hid hd=>?_,fun j b hj hb hall=>?_,fun hall=>absurd (hall k a (zl _) ha) hok⟩
   ·refine q2 id (fun j b hj hb=>?_) (dj1 id (fun e=>hid k a (zl _) ha e.symm) hd);obtain ⟨c,hc1,hc2⟩:=hids j b hb;rw [← hc2];exact hid j c (by omega) hc1
   ·by_cases hjk:j=k
    ·subst hjk;rw [ha] at hb;injection hb with hb;subst hb;refine ⟨e1,fun _=>q2 _ (fun i c hi hc e=>?_) dn1⟩;obtain ⟨c',hc1,hc2⟩:=hids i c hc;have:=zjH h.accs.sorted hc1 ha (hc2.trans e);omega
    ·exact absurd (hall k a (zl _) (by omega) ha) hok
theorem zoH {d d':Dk} (h:VOk d.v) (hc:zed d=.ok d') :
  (zbG d.v.mks).2=0∧∃ E,Swept d d' E∧(∀ (j:Nat) (a:Ac),d.v.accs[j]?=some a→(∀ (i:Nat) (b:Ac),i < j→d.v.accs[i]?=some b→(zbF b (zbG d.v.mks).1).2.1=true)→(zbF a (zbG d.v.mks).1).2.2=0∧((zbF a (zbG d.v.mks).1).2.1=false→Done d'.v a.id)) ∧
   ((∀ (i:Nat) (b:Ac),d.v.accs[i]?=some b→(zbF b (zbG d.v.mks).1).2.1=true)→d'=d):=by
 unfold zed at hc;obtain ⟨e1,hc⟩:=zcF hc;obtain ⟨E,s,_,f,g⟩:=zhM h (by omega) hc;exact ⟨e1,E,s,fun j a ha hall=>f j a (Nat.zero_le _) ha (fun i b _=>hall i b),fun hall=>g fun i b _=>hall i b⟩
end
end Go.Proofs.YtockodmbhnlheaaGreatDoor
