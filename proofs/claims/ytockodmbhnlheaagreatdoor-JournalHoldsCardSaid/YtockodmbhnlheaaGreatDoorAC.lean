import Derived.Test.YtockodmbhnlheaaGreatDoorAA
namespace Go.Proofs.YtockodmbhnlheaaGreatDoor
section
structure Od where
 id:Int
 acc:Int
 side:Int
 price:Int
 qty:Int
structure Bk where
 bids:List Od
 asks:List Od
def zbs:Od:=⟨0,0,0,0,0⟩
def zaH:Bk:=⟨[],[]⟩
theorem Od.ext' {a b:Od} (h1:a.id=b.id) (h2:a.acc=b.acc) (h3:a.side=b.side) (h4:a.price=b.price) (h5:a.qty=b.qty):a=b:=by
 obtain ⟨a1,a2,a3,a4,a5⟩:=a;obtain ⟨b1,b2,b3,b4,b5⟩:=b;simp only at h1 h2 h3 h4 h5;subst h1 h2 h3 h4 h5;rfl
def zfm (a b:Od):Bool:=decide (a.id=b.id) && decide (a.acc=b.acc) && decide (a.side=b.side) && decide (a.price=b.price) && decide (a.qty=b.qty)
theorem zhy {a b:Od}:zfm a b=true ↔ a=b:=by
 constructor
 ·intro h;simp only [zfm,Bool.and_eq_true,decide_eq_true_eq] at h;obtain ⟨⟨⟨⟨h1,h2⟩,h3⟩,h4⟩,h5⟩:=h;exact Od.ext' h1 h2 h3 h4 h5
 ·rintro rfl;simp [zfm]
def zax (o:Od):Int :=
 if o.id < 1∨100000 < o.id∨o.acc < 0∨8 ≤ o.acc then 5 else if o.side ≠ 1∧o.side ≠ -1 then 4 else if o.price < 1∨10000 < o.price∨o.qty < 1∨1000 < o.qty then 3 else 0
theorem zaP {o:Od}:zax o=0 ↔ (1 ≤ o.id∧o.id ≤ 100000)∧(0 ≤ o.acc∧o.acc ≤ 7)∧(o.side=1∨o.side = -1)∧(1 ≤ o.price∧o.price ≤ 10000)∧(1 ≤ o.qty∧o.qty ≤ 1000):=by
 unfold zax;split
 ·constructor
  ·intro h;omega
  ·intro h;omega
 ·split
  ·constructor
   ·intro h;omega
   ·intro h;omega
  ·split
   ·constructor
    ·intro h;omega
    ·intro h;omega
   ·constructor
    ·intro _;omega
    ·intro _;rfl
def zbm (a b:Od):Bool:=if a.price=b.price then decide (a.id < b.id) else if a.side=1 then decide (b.price < a.price) else decide (a.price < b.price)
theorem ze8 {a b:Od} (h:a.side=1):zbm a b=true ↔ b.price < a.price∨a.price=b.price∧a.id < b.id:=by
 unfold zbm;split
 ·simp;omega
 ·simp;omega
theorem zeL {a b:Od} (h:a.side ≠ 1):zbm a b=true ↔ a.price < b.price∨a.price=b.price∧a.id < b.id:=by
 unfold zbm;split
 ·simp;omega
 ·simp;omega
theorem ziH {a b c:Od} (h:a.side=b.side) (h1:zbm a b=true) (h2:zbm b c=true):zbm a c=true:=by
 by_cases hs:a.side=1
 ·rw [ze8 hs] at h1 ⊢;rw [ze8 (h ▸ hs)] at h2;omega
 ·rw [zeL hs] at h1 ⊢;rw [zeL (h ▸ hs)] at h2;omega
theorem zm9 {a b:Od} (h:a.side=b.side) (h1:a.id ≠ b.id) (h2:zbm a b=false):zbm b a=true:=by
 rw [← Bool.not_eq_true] at h2;by_cases hs:a.side=1
 ·rw [ze8 hs] at h2;rw [ze8 (h ▸ hs)];omega
 ·rw [zeL hs] at h2;rw [zeL (h ▸ hs)];omega
def zl3 (l:List Od):Prop:=l.Pairwise fun a b=>zbm a b=true
structure SideOk (s:Int) (l:List Od):Prop where
 ok:∀ o ∈ l,zax o=0
 side:∀ o ∈ l,o.side=s
 sorted:zl3 l
 ids:(l.map Od.id).Nodup
def zbf (s:Int):Option Od→List Int→List Od→Int
 | _,_,[]=>0
 | p,seen,o :: l=>if zax o ≠ 0 then zax o else if o.side ≠ s∨(∃ q ∈ p,zbm q o=false) then 4 else if o.id ∈ seen then 6 else zbf s (some o) (o.id :: seen) l
theorem zhz {s:Int}:∀ {l:List Od} {p:Option Od} {seen:List Int},(∀ q ∈ p,q.side=s) →
  (zbf s p seen l=0 ↔ SideOk s l∧(∀ q ∈ p,∀ o ∈ l,zbm q o=true)∧∀ o ∈ l,o.id ∉ seen)
 | [],p,seen,_=>by
  simp only [zbf,true_iff];exact ⟨⟨by simp,by simp,List.Pairwise.nil,by simp⟩,by simp,by simp⟩
 | o :: l,p,seen,hp=>by
  unfold zbf;by_cases h1:zax o=0
  ·rw [if_neg (by omega)];by_cases h2:o.side=s∧∀ q ∈ p,zbm q o=true
   ·rw [if_neg (by
     rintro (h | ⟨q,hq,h⟩)
     ·exact h h2.1
     ·rw [h2.2 q hq] at h;cases h)]
    by_cases h3:o.id ∈ seen
    ·rw [if_pos h3];constructor
     ·intro h;omega
     ·rintro ⟨_,_,h⟩;exact absurd h3 (h o (by simp))
    ·rw [if_neg h3,zhz (p:=some o) (by intro q hq;injection hq with hq;rw [← hq];exact h2.1)];constructor
     ·rintro ⟨⟨k1,k2,k3,k4⟩,k5,k6⟩;refine ⟨⟨?_,?_,?_,?_⟩,?_,?_⟩
      ·intro x hx;rcases List.mem_cons.1 hx with rfl | hx
       ·exact h1
       ·exact k1 x hx
      ·intro x hx;rcases List.mem_cons.1 hx with rfl | hx
       ·exact h2.1
       ·exact k2 x hx
      ·exact List.pairwise_cons.2 ⟨fun x hx=>k5 o rfl x hx,k3⟩
      ·rw [List.map_cons,List.nodup_cons];refine ⟨?_,k4⟩;intro hm;obtain ⟨x,hx,he⟩:=List.mem_map.1 hm;exact k6 x hx (by rw [he];simp)
      ·intro q hq x hx;rcases List.mem_cons.1 hx with rfl | hx
       ·exact h2.2 q hq
       ·exact ziH ((hp q hq).trans h2.1.symm) (h2.2 q hq) (k5 o rfl x hx)
      ·intro x hx;rcases List.mem_cons.1 hx with rfl | hx
       ·exact h3
       ·intro h;exact k6 x hx (by simp [h])
     ·rintro ⟨⟨k1,k2,k3,k4⟩,k5,k6⟩;obtain ⟨k7,k8⟩:=List.pairwise_cons.1 k3;rw [List.map_cons,List.nodup_cons] at k4;refine ⟨⟨fun x hx=>k1 x (by simp [hx]),fun x hx=>k2 x (by simp [hx]),k8,k4.2⟩,?_,?_⟩
      ·intro q hq x hx;injection hq with hq;subst hq;exact k7 x hx
      ·intro x hx hm;rcases List.mem_cons.1 hm with hm | hm
       ·exact k4.1 (List.mem_map.2 ⟨x,hx,hm⟩)
       ·exact k6 x (by simp [hx]) hm
   ·rw [if_pos (by
     by_cases h3:o.side=s
     ·right;have:¬ ∀ q ∈ p,zbm q o=true:=fun h=>h2 ⟨h3,h⟩;cases p with
      | none=>exact absurd (by simp) this
      | some q=>exact ⟨q,rfl,by
        rw [← Bool.not_eq_true];intro h;exact this (by intro r hr;injection hr with hr;rw [← hr];exact h)⟩
     ·exact .inl h3)]
    constructor
    ·intro h;omega
    ·rintro ⟨k,k5,_⟩;exact absurd ⟨k.side o (by simp),fun q hq=>k5 q hq o (by simp)⟩ h2
  ·rw [if_pos h1];constructor
   ·intro h;exact absurd h h1
   ·rintro ⟨k,_⟩;exact absurd (k.ok o (by simp)) h1
def zeu (b:Bk):Bool:=match b.bids,b.asks with
 | x :: _,y :: _=>decide (y.price ≤ x.price)
 | _,_=>false
def zav (b:Bk):Int :=
 if 40 < b.bids.length + b.asks.length then 2
 else if zbf 1 none [] b.bids ≠ 0 then zbf 1 none [] b.bids
 else if zbf (-1) none (b.bids.map Od.id).reverse b.asks ≠ 0 then zbf (-1) none (b.bids.map Od.id).reverse b.asks
 else if zeu b then 4 else 0
structure BookOk (b:Bk):Prop where
 len:b.bids.length + b.asks.length ≤ 40
 bids:SideOk 1 b.bids
 asks:SideOk (-1) b.asks
 apart:∀ x ∈ b.bids,∀ y ∈ b.asks,x.id ≠ y.id
 free:zeu b=false
theorem zb6 {b:Bk}:zav b=0 ↔ BookOk b:=by
 unfold zav;have e1:=zhz (s:=1) (l:=b.bids) (p:=none) (seen:=[]) (by simp);have e2:=zhz (s:=-1) (l:=b.asks) (p:=none) (seen:=(b.bids.map Od.id).reverse) (by simp);split
 ·rename_i h;constructor
  ·intro h';omega
  ·intro h';have:=h'.len;omega
 ·rename_i h;split
  ·rename_i h1;constructor
   ·intro h';exact absurd h' h1
   ·intro h';exact absurd (e1.2 ⟨h'.bids,by simp,by simp⟩) h1
  ·rename_i h1;have h1:=e1.1 (by simpa using h1);split
   ·rename_i h2;constructor
    ·intro h';exact absurd h' h2
    ·intro h';exact absurd (e2.2 ⟨h'.asks,by simp,fun o ho hm=>by
      simp only [List.mem_reverse,List.mem_map] at hm;obtain ⟨x,hx,he⟩:=hm;exact h'.apart x hx o ho he⟩) h2
   ·rename_i h2;have h2:=e2.1 (by simpa using h2);split
    ·rename_i h3;constructor
     ·intro h';omega
     ·intro h';rw [h'.free] at h3;cases h3
    ·rename_i h3;constructor
     ·intro _;refine ⟨by omega,h1.1,h2.1,?_,by simpa using h3⟩;intro x hx y hy he;exact h2.2.2 y hy (by simp only [List.mem_reverse,List.mem_map];exact ⟨x,hx,he⟩)
     ·intro _;rfl
def insO (o:Od):List Od→List Od
 | []=>[o]
 | x :: l=>if zbm o x then o :: x :: l else x :: insO o l
theorem zdM {o x:Od}:∀ {l:List Od},x ∈ insO o l ↔ x=o∨x ∈ l
 | []=>by simp [insO]
 | y :: l=>by
  unfold insO;split
  ·simp
  ·simp only [List.mem_cons,zdM (l:=l)];constructor
   ·rintro (h | h | h) <;> simp [h]
   ·rintro (h | h | h) <;> simp [h]
theorem zgY {o:Od}:∀ {l:List Od},(insO o l).length=l.length + 1
 | []=>rfl
 | y :: l=>by
  unfold insO;split
  ·simp
  ·simp [zgY (l:=l)]
theorem ziI {o:Od}:∀ {l:List Od},zl3 l→(∀ x ∈ l,x.side=o.side)→(∀ x ∈ l,x.id ≠ o.id)→zl3 (insO o l)
 | [],_,_,_=>List.pairwise_singleton _ _
 | y :: l,h,hs,hi=>by
  obtain ⟨h1,h2⟩:=List.pairwise_cons.1 h;unfold insO;split
  ·rename_i h3;refine List.pairwise_cons.2 ⟨?_,h⟩;intro x hx;rcases List.mem_cons.1 hx with rfl | hx
   ·exact h3
   ·exact ziH (hs y (by simp)).symm h3 (h1 x hx)
  ·rename_i h3;refine List.pairwise_cons.2 ⟨?_,ziI h2 (fun x hx=>hs x (by simp [hx])) (fun x hx=>hi x (by simp [hx]))⟩;intro x hx;rcases zdM.1 hx with rfl | hx
   ·exact zm9 (hs y (by simp)).symm (fun e=>hi y (by simp) e.symm) (by simpa using h3)
   ·exact h1 x hx
theorem zjw {o:Od}:∀ {l:List Od},(l.map Od.id).Nodup→(∀ x ∈ l,x.id ≠ o.id)→((insO o l).map Od.id).Nodup
 | [],_,_=>by simp [insO]
 | y :: l,h,hi=>by
  rw [List.map_cons,List.nodup_cons] at h;unfold insO;split
  ·rw [List.map_cons,List.map_cons,List.nodup_cons,List.nodup_cons];refine ⟨?_,h⟩;intro hm;rw [← List.map_cons] at hm;obtain ⟨x,hx,he⟩:=List.mem_map.1 hm;exact hi x hx he
  ·rw [List.map_cons,List.nodup_cons];refine ⟨?_,zjw h.2 (fun x hx=>hi x (by simp [hx]))⟩;intro hm;obtain ⟨x,hx,he⟩:=List.mem_map.1 hm;rcases zdM.1 hx with rfl | hx
   ·exact hi y (by simp) he.symm
   ·exact h.1 (List.mem_map.2 ⟨x,hx,he⟩)
theorem ziJ {s:Int} {o:Od} {l:List Od} (h:SideOk s l) (ho:zax o=0) (hs:o.side=s) (hi:∀ x ∈ l,x.id ≠ o.id):SideOk s (insO o l):=by
 refine ⟨?_,?_,ziI h.sorted (fun x hx=>(h.side x hx).trans hs.symm) hi,zjw h.ids hi⟩
 ·intro x hx;rcases zdM.1 hx with rfl | hx
  ·exact ho
  ·exact h.ok x hx
 ·intro x hx;rcases zdM.1 hx with rfl | hx
  ·exact hs
  ·exact h.side x hx
def delO (id:Int) (l:List Od):List Od:=l.filter fun x=>!(decide (x.id=id))
theorem zrm {id:Int} {x:Od} {l:List Od}:x ∈ delO id l ↔ x ∈ l∧x.id ≠ id:=by simp [delO]
theorem zd5 {s:Int} {l m:List Od} (h:SideOk s l) (hm:m.Sublist l):SideOk s m :=
 ⟨fun o ho=>h.ok o (hm.subset ho),fun o ho=>h.side o (hm.subset ho),h.sorted.sublist hm,h.ids.sublist (hm.map _)⟩
def hasB (b:Bk) (id:Int):Bool:=(b.bids ++ b.asks).any fun o=>decide (o.id=id)
def zbc (o:Od) (price:Int):Bool:=if o.side=1 then decide (price ≤ o.price) else decide (o.price ≤ price)
def zej (o:Od) (l:List Od):Bool:=match l with
 | x :: _=>zbc o x.price
 | []=>false
def zcn (b:Bk) (s:Int):List Od:=if s=1 then b.bids else b.asks
def zap (b:Bk) (s:Int):List Od:=if s=1 then b.asks else b.bids
def zbI (b:Bk) (s:Int) (l:List Od):Bk:=if s=1 then { b with bids:=l } else { b with asks:=l }
def zcl (b:Bk) (s:Int) (l:List Od):Bk:=if s=1 then { b with asks:=l } else { b with bids:=l }
def zbJ (b:Bk) (o:Od):Bk × Int :=
 if zav b ≠ 0 then (zaH,zav b) else if hasB b o.id then (zaH,6) else if zax o ≠ 0 then (zaH,zax o)
 else if b.bids.length + b.asks.length=40 then (zaH,7) else if zej o (zap b o.side) then (zaH,9)
 else (zbI b o.side (insO o (zcn b o.side)),0)
def zfn (l:List Od) (id:Int):Option Od:=l.find? fun o=>decide (o.id=id)
def zec (b:Bk) (id:Int):Od × Int :=
 if zav b ≠ 0 then (zbs,zav b) else match zfn (b.bids ++ b.asks) id with
 | some o=>(o,0)
 | none=>(zbs,5)
def zbk (b:Bk) (id:Int):Bk × Od × Int :=
 if (zec b id).2 ≠ 0 then (zaH,zbs,(zec b id).2)
 else (zbI b (zec b id).1.side (delO id (zcn b (zec b id).1.side)),(zec b id).1,0)
theorem zrn {b:Bk} {id:Int}:hasB b id=true ↔ ∃ o,(o ∈ b.bids∨o ∈ b.asks)∧o.id=id:=by
 simp only [hasB,List.any_eq_true,List.mem_append,decide_eq_true_eq]
theorem zro {b:Bk} {id:Int}:hasB b id=false ↔ (∀ x ∈ b.bids,x.id ≠ id)∧∀ x ∈ b.asks,x.id ≠ id:=by
 rw [← Bool.not_eq_true,zrn];constructor
 ·intro h;exact ⟨fun x hx e=>h ⟨x,.inl hx,e⟩,fun x hx e=>h ⟨x,.inr hx,e⟩⟩
 ·rintro ⟨h1,h2⟩ ⟨x,hx | hx,e⟩
  ·exact h1 x hx e
  ·exact h2 x hx e
theorem zjx {l:List Od} {id:Int} {o:Od} (h:zfn l id=some o):o ∈ l∧o.id=id:=by
 have h1:=List.mem_of_find?_eq_some h;have h2:=List.find?_some h;exact ⟨h1,by simpa using h2⟩
theorem zi9 {b:Bk} (h:BookOk b):∀ x ∈ b.bids,∀ y ∈ b.asks,x.price < y.price:=by
 obtain ⟨bids,asks⟩:=b;intro x hx y hy;have hf:=h.free;have hb:=h.bids;have ha:=h.asks;simp only at hx hy hb ha;cases bids with
 | nil=>cases hx
 | cons x0 l =>
  cases asks with
  | nil=>cases hy
  | cons y0 m =>
   simp only [zeu,decide_eq_false_iff_not] at hf;have h1:x.price ≤ x0.price:=by
    rcases List.mem_cons.1 hx with rfl | hx
    ·exact Int.le_refl _
    ·have:=(List.pairwise_cons.1 hb.sorted).1 x hx;rw [ze8 (hb.side x0 (by simp))] at this;omega
   have h2:y0.price ≤ y.price:=by
    rcases List.mem_cons.1 hy with rfl | hy
    ·exact Int.le_refl _
    ·have:=(List.pairwise_cons.1 ha.sorted).1 y hy;rw [zeL (by rw [ha.side y0 (by simp)];decide)] at this;omega
   omega
theorem zhd {b:Bk} (h:∀ x ∈ b.bids,∀ y ∈ b.asks,x.price < y.price):zeu b=false:=by
 obtain ⟨bids,asks⟩:=b;unfold zeu;cases bids with
 | nil=>rfl
 | cons x l =>
  cases asks with
  | nil=>rfl
  | cons y m =>
   have:=h x (by simp) y (by simp);simp only [decide_eq_false_iff_not];omega
end
end Go.Proofs.YtockodmbhnlheaaGreatDoor
