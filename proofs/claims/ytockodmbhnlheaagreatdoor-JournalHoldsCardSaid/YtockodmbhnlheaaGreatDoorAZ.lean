import Derived.Test.YtockodmbhnlheaaGreatDoorAX
namespace Go.Proofs.YtockodmbhnlheaaGreatDoor
section
def zeg (L:List Ac) (i:Nat):Option Int:=if i=0 then none else (L[i - 1]?).map (·.id)
theorem znt (L:List Ac):zeg L 0=none:=rfl
theorem zi1 {L:List Ac} {i:Nat} {a:Ac} (h:L[i]?=some a):zeg L (i + 1)=some a.id:=by
 unfold zeg;rw [if_neg (by omega),Nat.add_sub_cancel,h];rfl
theorem zgz {m:Int} {L:List Ac} {i:Nat} {a:Ac} (h:L[i]?=some a) :
  zbH m (zeg L i) (L.drop i)=if zaj a.id a.bal a.pos m ≠ 0 then zaj a.id a.bal a.pos m else if (∃ q ∈ zeg L i,a.id ≤ q) then 6 else zbH m (zeg L (i + 1)) (L.drop (i + 1)):=by
 obtain ⟨h1,h2⟩:=List.getElem?_eq_some_iff.1 h;rw [List.drop_eq_getElem_cons h1,h2,zi1 h];rfl
theorem znu {m:Int} {L:List Ac} {i:Nat} (h:L.length ≤ i):zbH m (zeg L i) (L.drop i)=0:=by
 rw [List.drop_eq_nil_of_le h];rfl
theorem zqs {L:List Ac} {i:Nat} {b:Ac} (h:L[i]?=some b) {x:Int}:(∃ q ∈ zeg L (i + 1),x ≤ q) ↔ x ≤ b.id:=by
 rw [zi1 h];simp
def zdJ (P ps:List Int):Nat→List Int
 | 0=>P
 | j + 1=>(zdJ P ps j).set j ((zdJ P ps j).getD j 0 + ps.getD j 0)
theorem zgo (P ps:List Int):∀ j,(zdJ P ps j).length=P.length
 | 0=>rfl
 | j + 1=>by unfold zdJ;rw [List.length_set,zgo P ps j]
theorem zhQ (P ps:List Int):∀ j k,k < P.length→(zdJ P ps j).getD k 0=P.getD k 0 + if k < j then ps.getD k 0 else 0
 | 0,k,_=>by simp [zdJ]
 | j + 1,k,hk=>by
  have h1:=zhQ P ps j;have hl:=zgo P ps j;unfold zdJ;by_cases e:k=j
  ·subst e;rw [List.getD_eq_getElem?_getD,List.getElem?_set_self (by omega)];have:=h1 k hk;rw [if_neg (Nat.lt_irrefl _)] at this;rw [if_pos (by omega)];simp only [Option.getD_some];omega
  ·rw [List.getD_eq_getElem?_getD,List.getElem?_set_ne (by omega),← List.getD_eq_getElem?_getD,h1 k hk];by_cases h2:k < j
   ·rw [if_pos h2,if_pos (by omega)]
   ·rw [if_neg h2,if_neg (by omega)]
def zcQ (nm:Nat) (L:List Ac) (i:Nat):List Int:=(List.range nm).map fun k=>za5 k (L.take i)
theorem zff (nm:Nat) (L:List Ac) (i:Nat):(zcQ nm L i).length=nm:=by simp [zcQ]
theorem zgR {nm:Nat} {L:List Ac} {i k:Nat} (h:k < nm):(zcQ nm L i)[k]?=some (za5 k (L.take i)):=by simp [zcQ,h]
theorem zoV (nm:Nat) (L:List Ac):zcQ nm L 0=List.replicate nm 0:=by
 apply List.ext_getElem?
 intro k;by_cases h:k < nm
 ·rw [zgR h,List.getElem?_replicate,if_pos h];simp [za5]
 ·rw [List.getElem?_eq_none (by rw [zff];omega),List.getElem?_eq_none (by simp;omega)]
theorem zrT {nm:Nat} {L:List Ac} {i:Nat} {a:Ac} (h:L[i]?=some a):zdJ (zcQ nm L i) a.pos nm=zcQ nm L (i + 1):=by
 apply List.ext_getElem?
 intro k;by_cases hk:k < nm
 ·have h1:=zhQ (zcQ nm L i) a.pos nm k (by rw [zff];exact hk);have hl:k < (zdJ (zcQ nm L i) a.pos nm).length:=by rw [zgo,zff];exact hk
  rw [List.getD_eq_getElem?_getD,List.getElem?_eq_getElem hl,Option.getD_some,List.getD_eq_getElem?_getD,zgR hk,Option.getD_some,if_pos hk] at h1;rw [List.getElem?_eq_getElem hl,h1,zgR hk,znf h]
 ·rw [List.getElem?_eq_none (by rw [zgo,zff];omega),List.getElem?_eq_none (by rw [zff];omega)]
theorem zqt {L:List Ac} {k:Nat} (h:∀ a ∈ L,∀ n ∈ a.pos,-1000 ≤ n∧n ≤ 1000):-(1000 * (L.length:Int)) ≤ za5 k L∧za5 k L ≤ 1000 * L.length:=by
 induction L with
 | nil=>simp [za5]
 | cons a l ih =>
  have h1:=ih fun x hx=>h x (by simp [hx]);have h2:-1000 ≤ a.pos.getD k 0∧a.pos.getD k 0 ≤ 1000:=by
   rw [List.getD_eq_getElem?_getD];cases hg:a.pos[k]? with
   | none=>simp
   | some z=>exact h a (by simp) z (List.mem_of_getElem? hg)
  rw [zfP,List.length_cons];omega
theorem zqu {L:List Ac} (h:∀ a ∈ L,-1000000000000 ≤ a.bal∧a.bal ≤ 1000000000000):-(1000000000000 * (L.length:Int)) ≤ zbd L∧zbd L ≤ 1000000000000 * L.length:=by
 induction L with
 | nil=>simp [zbd]
 | cons a l ih =>
  have h1:=ih fun x hx=>h x (by simp [hx]);have h2:=h a (by simp);rw [zg0,List.length_cons];omega
def zgS (m:Int) (L:List Ac) (i:Nat):Prop:=zbH m (zeg L i) (L.drop i)=zbH m none L∧∀ a ∈ L.take i,zaj a.id a.bal a.pos m=0
theorem zrU (m:Int) (L:List Ac):zgS m L 0:=⟨rfl,by simp⟩
theorem zrV {m:Int} {L:List Ac} {i:Nat} {a:Ac} (h:zgS m L i) (ha:L[i]?=some a) (h1:zaj a.id a.bal a.pos m=0) (h2:¬ ∃ q ∈ zeg L i,a.id ≤ q):zgS m L (i + 1):=by
 refine ⟨?_,fun x hx=>?_⟩
 ·have:=zgz (m:=m) ha;rw [if_neg (by omega),if_neg h2] at this;rw [← this];exact h.1
 ·rw [List.take_add_one,ha] at hx;rcases List.mem_append.1 hx with hx | hx
  ·exact h.2 x hx
  ·simp only [Option.toList,List.mem_singleton] at hx;subst hx;exact h1
theorem ztf {m:Int} {L:List Ac} {i:Nat} {a:Ac} {e:Int} (h:zgS m L i) (ha:L[i]?=some a) (h1:zaj a.id a.bal a.pos m=e) (he:e ≠ 0):zbH m none L=e:=by
 rw [← h.1,zgz ha,if_pos (by rw [h1];exact he),h1]
theorem zqv {m:Int} {L:List Ac} {i:Nat} {a:Ac} (h:zgS m L i) (ha:L[i]?=some a) (h1:zaj a.id a.bal a.pos m=0) (h2:∃ q ∈ zeg L i,a.id ≤ q):zbH m none L=6:=by
 rw [← h.1,zgz ha,if_neg (by omega),if_pos h2]
theorem ztg {m:Int} {L:List Ac} (h:zgS m L L.length):zbH m none L=0:=by rw [← h.1,znu (zl _)]
theorem zj3 {m:Int} {L:List Ac} {i:Nat} (h:zgS m L i) (hi:i ≤ 8):(-8000000000000 ≤ zbd (L.take i)∧zbd (L.take i) ≤ 8000000000000)∧∀ k,-8000 ≤ za5 k (L.take i)∧za5 k (L.take i) ≤ 8000:=by
 have hl:(L.take i).length ≤ 8:=by rw [List.length_take];omega
 have h1:=zqu (L:=L.take i) fun a ha=>by have:=(zaw (h.2 a ha)).2.2.2.1;exact this
 refine ⟨by omega,fun k=>?_⟩;have h2:=zqt (L:=L.take i) (k:=k) fun a ha n hn=>by
  have:=(zaw (h.2 a ha)).2.2.2.2;unfold zde at this;rw [List.all_eq_true] at this;have:=this n hn;unfold zfl at this;simpa using this
 omega
def zeq (v:Vn):Int:=if v.ins + v.resid + zbd v.accs ≠ v.inn - v.out∨(∃ k,k < v.mks.length∧za5 k v.accs ≠ 0) then 4 else zcC v.accs v.next v.mks
theorem zn6 {nm:Nat} {L:List Ac}:(zcQ nm L L.length).any (fun x=>!(x == 0))=true ↔ ∃ k,k < nm∧za5 k L ≠ 0:=by
 rw [List.any_eq_true];unfold zcQ;constructor
 ·rintro ⟨x,hx,h⟩;obtain ⟨k,hk,rfl⟩:=List.mem_map.1 hx;rw [List.take_length] at h;exact ⟨k,List.mem_range.1 hk,by simpa using h⟩
 ·rintro ⟨k,hk,h⟩;exact ⟨_,List.mem_map.2 ⟨k,List.mem_range.2 hk,rfl⟩,by rw [List.take_length];simpa using h⟩
def zj4 (L:List Ac) (next:Int) (o:Od):Bool:=!zas L o.acc || decide (next ≤ o.id)
theorem znv {L:List Ac} {next:Int} {M:List Mk} {j:Nat} {m:Mk} (h:M[j]?=some m) :
  zcC L next (M.drop j)=if zaN m ≠ 0 then zaN m else if (m.book.bids ++ m.book.asks).any (zj4 L next) then 5 else zcC L next (M.drop (j + 1)):=by
 obtain ⟨h1,h2⟩:=List.getElem?_eq_some_iff.1 h;rw [List.drop_eq_getElem_cons h1,h2];rfl
theorem zoW {p:Od→Bool} {L:List Od} {j:Nat} {x:Od} (hx:L[j]?=some x) (hp:p x=false) (hb:(L.take j).any p=false):(L.take (j + 1)).any p=false:=by
 rw [List.take_add_one,hx];simp only [Option.toList,List.any_append,hb,List.any_cons,List.any_nil,hp];rfl
theorem zi2 {p:Od→Bool} {L:List Od} {j:Nat} {x:Od} (hx:L[j]?=some x) (hp:p x=true):L.any p=true:=by
 rw [List.any_eq_true];exact ⟨x,List.mem_of_getElem? hx,hp⟩
theorem zqw {v:Vn} (h:v.mks.length < 1∨2 < v.mks.length∨8 < v.accs.length):zbi v=2:=by unfold zbi;rw [if_pos h]
theorem zoX {v:Vn} (h:¬ (v.mks.length < 1∨2 < v.mks.length∨8 < v.accs.length)) (h2:v.ins < 0∨v.resid < 0∨v.next < 1∨100000 < v.next∨v.inn < 0∨v.out < 0∨zag v.inn=false∨zag v.out=false∨zag v.ins=false∨zag v.resid=false):zbi v=3:=by
 unfold zbi;rw [if_neg h,if_pos h2]
theorem zqx {v:Vn} (h:¬ (v.mks.length < 1∨2 < v.mks.length∨8 < v.accs.length)) (h2:¬ (v.ins < 0∨v.resid < 0∨v.next < 1∨100000 < v.next∨v.inn < 0∨v.out < 0∨zag v.inn=false∨zag v.out=false∨zag v.ins=false∨zag v.resid=false)) :
  zbi v=if zbH v.mks.length none v.accs ≠ 0 then zbH v.mks.length none v.accs else zeq v:=by
 unfold zbi;rw [if_neg h,if_neg h2];rfl
theorem zlk {v:Vn} {e:Int} (h:zbi v=if zbH v.mks.length none v.accs ≠ 0 then zbH v.mks.length none v.accs else zeq v) (ha:zbH v.mks.length none v.accs=e) (he:e ≠ 0):zbi v=e:=by rw [h,ha,if_pos he]
theorem zqy {v:Vn} (h:zbi v=if zbH v.mks.length none v.accs ≠ 0 then zbH v.mks.length none v.accs else zeq v) (ha:zbH v.mks.length none v.accs=0):zbi v=zeq v:=by rw [h,ha,if_neg (by simp)]
theorem zoY {v:Vn} (h:v.ins + v.resid + zbd v.accs ≠ v.inn - v.out):zeq v=4:=by unfold zeq;rw [if_pos (.inl h)]
theorem zrW {v:Vn} (h:(zcQ v.mks.length v.accs v.accs.length).any (fun x=>!(x == 0))=true):zeq v=4:=by unfold zeq;rw [if_pos (.inr (zn6.1 h))]
theorem zrX {v:Vn} (h:v.ins + v.resid + zbd v.accs=v.inn - v.out) (h2:(zcQ v.mks.length v.accs v.accs.length).any (fun x=>!(x == 0))=false):zeq v=zcC v.accs v.next v.mks:=by
 unfold zeq;rw [if_neg];rintro (h3 | h3)
 ·exact h3 h
 ·rw [zn6.2 h3] at h2;cases h2
theorem znw {v:Vn} (h:zbH v.mks.length none v.accs=0):AOk v.mks.length v.accs:=(zhD.1 h).1
end
section
open Go.ChangeShapes Go.WideShapes Go.ChangeAt Go.RowKit
structure FitOd (o:Od):Prop where
 id:zcf o.id
 acc:zcf o.acc
 side:zcf o.side
 price:zcf o.price
 qty:zcf o.qty
section
variable {H:Type} {enc:TypeId × Value→H} {W:World}
set_option maxRecDepth 100000 in
theorem zj5 {fuel:Nat} {cs:List Value} {x:DataW H × List MemPlace} (h:DataW.trod enc Tryz.prog W 0 (fun _=>true) true fuel 32 cs=some x) :
  ∃ o:Od,cs = [.int .i64 o.id,.int .i64 o.acc,.int .i64 o.side,.int .i64 o.price,.int .i64 o.qty]∧FitOd o:=by
 obtain ⟨xs,m,_,hx,hlen,hxl,hf⟩:=DataW.trod_struct Tryz.underlying32 h;rw [show Tryz.prog.cellsOf 32=5 by kernel_rfl] at hlen;have h0:DataW.trod enc Tryz.prog W 0 (fun _=>true) true m 3 ((cs.drop 0).take (Tryz.prog.cellsOf 3))=xs[0]?:=hf 0 _ rfl;have h1:DataW.trod enc Tryz.prog W 0 (fun _=>true) true m 3 ((cs.drop 1).take (Tryz.prog.cellsOf 3))=xs[1]?:=hf 1 _ rfl;have h2:DataW.trod enc Tryz.prog W 0 (fun _=>true) true m 3 ((cs.drop 2).take (Tryz.prog.cellsOf 3))=xs[2]?:=hf 2 _ rfl;have h3:DataW.trod enc Tryz.prog W 0 (fun _=>true) true m 3 ((cs.drop 3).take (Tryz.prog.cellsOf 3))=xs[3]?:=hf 3 _ rfl;have h4:DataW.trod enc Tryz.prog W 0 (fun _=>true) true m 3 ((cs.drop 4).take (Tryz.prog.cellsOf 3))=xs[4]?:=hf 4 _ rfl;rw [show Tryz.prog.cellsOf 3=1 by kernel_rfl] at h0 h1 h2 h3 h4;match cs,hlen,xs,hxl with
 | [c0,c1,c2,c3,c4],_,[y0,y1,y2,y3,y4],_ =>
  obtain ⟨z0,e0,i0⟩:=zbX (x:=y0) (by simpa using h0);obtain ⟨z1,e1,i1⟩:=zbX (x:=y1) (by simpa using h1);obtain ⟨z2,e2,i2⟩:=zbX (x:=y2) (by simpa using h2);obtain ⟨z3,e3,i3⟩:=zbX (x:=y3) (by simpa using h3);obtain ⟨z4,e4,i4⟩:=zbX (x:=y4) (by simpa using h4);injection e0 with e0 _;injection e1 with e1 _;injection e2 with e2 _;injection e3 with e3 _;injection e4 with e4 _;subst e0 e1 e2 e3 e4;exact ⟨⟨z0,z1,z2,z3,z4⟩,rfl,⟨i0,i1,i2,i3,i4⟩⟩
theorem zoZ {L:List Od} {f:Nat→Option Value} (hf:∀ i a,L[i]?=some a→f (i * 5)=some (.int .i64 a.id)∧f (i * 5 + 1)=some (.int .i64 a.acc)∧f (i * 5 + 2)=some (.int .i64 a.side)∧f (i * 5 + 3)=some (.int .i64 a.price)∧f (i * 5 + 4)=some (.int .i64 a.qty)) :
  ∀ j u,(zaa L)[j]?=some u→f j=some u:=by
 intro j u hj;have hlt:j < L.length * 5:=by rw [← zao];exact (List.getElem?_eq_some_iff.1 hj).1
 have hi:j / 5 < L.length:=by omega
 have ha:L[j / 5]?=some L[j / 5]:=List.getElem?_eq_getElem hi;obtain ⟨k0,k1,k2,k3,k4⟩:=zgg ha;obtain ⟨m0,m1,m2,m3,m4⟩:=hf _ _ ha;have hm:j=j / 5 * 5∨j=j / 5 * 5 + 1∨j=j / 5 * 5 + 2∨j=j / 5 * 5 + 3∨j=j / 5 * 5 + 4:=by omega
 generalize j / 5=i at *;rcases hm with e | e | e | e | e <;> subst e
 ·rw [m0,← k0,hj]
 ·rw [m1,← k1,hj]
 ·rw [m2,← k2,hj]
 ·rw [m3,← k3,hj]
 ·rw [m4,← k4,hj]
theorem zi3 {fuel:Nat} {cs:List Value} {x:DataW H × List MemPlace} (h:DataW.trod enc Tryz.prog W 0 (fun _=>true) true fuel 81 cs=some x)
  (hs:∀ y ∈ x.1.weights Tryz.prog 81,y ≤ reachBytes) :
  ∃ A n c L,cs = [.slice A n c]∧Rd W W.heap.size 5 A n c (zaa L)∧c * 40 ≤ reachBytes∧∀ a ∈ L,FitOd a:=by
 rcases Go.Deep.open_slice Tryz.underlying81 h with ⟨hcs,hx⟩ | ⟨ad,n,c,m,f,D,Pl,hcs,_,hl,hm,hmm,hx,hi⟩
 ·exact ⟨none,0,0,[],hcs,Rd.none_ _ _ _,by simp,by simp⟩
 ·simp only [if_true] at hmm;subst hmm;rw [show Tryz.prog.cellsOf 32=5 by kernel_rfl] at hi;have hel:∀ i,i < n→∃ a:Od,FitOd a∧W.cell? (ad.add (i * 5))=some (.int .i64 a.id)∧W.cell? ((ad.add (i * 5)).add 1)=some (.int .i64 a.acc)∧W.cell? ((ad.add (i * 5)).add 2)=some (.int .i64 a.side) ∧
    W.cell? ((ad.add (i * 5)).add 3)=some (.int .i64 a.price)∧W.cell? ((ad.add (i * 5)).add 4)=some (.int .i64 a.qty):=by
   intro i hin;obtain ⟨cs',hc,ht⟩:=hi i (by omega);obtain ⟨_,hcl,hat⟩:=World.cells?_some hc;obtain ⟨a,he,hfit⟩:=zj5 ht;subst he;have e0:=hat 0 (by omega);rw [show (ad.add (i * 5)).add 0=ad.add (i * 5) by simp [Addr.add]] at e0;exact ⟨a,hfit,e0,hat 1 (by omega),hat 2 (by omega),hat 3 (by omega),hat 4 (by omega)⟩
  obtain ⟨L,hL,hall⟩:=zeW _ n hel;refine ⟨some ad,n,m,L,hcs,⟨by rw [zao,hL],hl,hm,nofun,fun hn=>?_⟩,?_,fun a ha=>?_⟩
  ·obtain ⟨a,_,k0,_⟩:=hel 0 hn;rw [show ad.add (0 * 5)=ad by simp [Addr.add]] at k0;have hsp:=zey k0;refine ⟨ad.block,ad.off,?_,zfw k0,?_⟩
   ·obtain ⟨b,o,sp⟩:=ad;simp only at hsp;subst hsp;rfl
   ·refine zoZ (f:=fun j=>W.cell? ⟨ad.block,ad.off + j,none⟩) fun i a ha=>?_;obtain ⟨_,k0,k1,k2,k3,k4⟩:=hall i a ha;have hb:∀ q,(ad.add q).block=ad.block∧(ad.add q).off=ad.off + q∧(ad.add q).spot=none:=by
     intro q;unfold Addr.add;split
     ·rename_i h0;subst h0;exact ⟨rfl,rfl,hsp⟩
     ·exact ⟨rfl,rfl,rfl⟩
    obtain ⟨b1,b2,b3⟩:=hb (i * 5);have e0:=zcv hsp k0;have e1:=zcv b3 k1;have e2:=zcv b3 k2;have e3:=zcv b3 k3;have e4:=zcv b3 k4;rw [b1,b2] at e1 e2 e3 e4;exact ⟨e0,e1,e2,e3,e4⟩
  ·subst hx;have hb:=hs ((((List.range n).map D).length + ((List.range (m - n)).map fun j=>D (n + j)).length) * 40) (by
    simp only [DataW.weights,Tryz.underlying81];rw [show Tryz.prog.bytesOf 32=40 by kernel_rfl];simp)
   simp at hb;rw [show n + (m - n)=m by omega] at hb;exact hb
  ·obtain ⟨i,hi⟩:=List.mem_iff_getElem?.1 ha;exact (hall i a hi).1
structure FitBk (b:Bk):Prop where
 bids:∀ o ∈ b.bids,FitOd o
 asks:∀ o ∈ b.asks,FitOd o
set_option maxRecDepth 100000 in
theorem zqz {fuel:Nat} {cs:List Value} {x:DataW H × List MemPlace} (h:DataW.trod enc Tryz.prog W 0 (fun _=>true) true fuel 83 cs=some x)
  (hs:∀ y ∈ x.1.weights Tryz.prog 83,y ≤ reachBytes) :
  ∃ (b:Bk) (A A':Option Addr) (c c':Nat),cs = [.slice A b.bids.length c,.slice A' b.asks.length c']∧Rd W W.heap.size 5 A b.bids.length c (zaa b.bids)∧Rd W W.heap.size 5 A' b.asks.length c' (zaa b.asks) ∧
   (c * 40 ≤ reachBytes∧c' * 40 ≤ reachBytes)∧FitBk b:=by
 obtain ⟨xs,m,_,hx,hlen,hxl,hf⟩:=DataW.trod_struct Tryz.underlying83 h;rw [show Tryz.prog.cellsOf 83=2 by kernel_rfl] at hlen;have h0:DataW.trod enc Tryz.prog W 0 (fun _=>true) true m 81 ((cs.drop 0).take (Tryz.prog.cellsOf 81))=xs[0]?:=hf 0 _ rfl;have h1:DataW.trod enc Tryz.prog W 0 (fun _=>true) true m 81 ((cs.drop 1).take (Tryz.prog.cellsOf 81))=xs[1]?:=hf 1 _ rfl;rw [show Tryz.prog.cellsOf 81=1 by kernel_rfl] at h0 h1;match cs,hlen,xs,hxl with
 | [c0,c1],_,[y0,y1],_ =>
  have hs0:∀ y ∈ y0.1.weights Tryz.prog 81,y ≤ reachBytes:=by
   intro y hy;refine hs y ?_;subst hx;simp only [DataW.weights,Tryz.underlying83];simp [DataW.weightsEach,hy]
  have hs1:∀ y ∈ y1.1.weights Tryz.prog 81,y ≤ reachBytes:=by
   intro y hy;refine hs y ?_;subst hx;simp only [DataW.weights,Tryz.underlying83];simp [DataW.weightsEach,hy]
  obtain ⟨A,n,c,L,e0,r0,s0,i0⟩:=zi3 (x:=y0) (by simpa using h0) hs0;obtain ⟨A',n',c',L',e1,r1,s1,i1⟩:=zi3 (x:=y1) (by simpa using h1) hs1;obtain rfl:L.length=n:=zdW r0;obtain rfl:L'.length=n':=zdW r1;injection e0 with e0 _;injection e1 with e1 _;subst e0 e1;exact ⟨⟨L,L'⟩,A,A',c,c',rfl,r0,r1,⟨s0,s1⟩,⟨i0,i1⟩⟩
set_option maxRecDepth 100000 in
theorem znx {fuel:Nat} {cs:List Value} {x:DataW H × List MemPlace} (h:DataW.trod enc Tryz.prog W 0 (fun _=>true) true fuel 85 cs=some x)
  (hs:∀ y ∈ x.1.weights Tryz.prog 85,y ≤ reachBytes) :
  ∃ (m:Mk) (A A':Option Addr) (c c':Nat),cs = [.slice A m.book.bids.length c,.slice A' m.book.asks.length c',.int .i64 m.index,.int .i64 m.last]∧Rd W W.heap.size 5 A m.book.bids.length c (zaa m.book.bids)∧Rd W W.heap.size 5 A' m.book.asks.length c' (zaa m.book.asks) ∧
   (c * 40 ≤ reachBytes∧c' * 40 ≤ reachBytes)∧FitBk m.book∧zcf m.index∧zcf m.last:=by
 obtain ⟨xs,m,_,hx,hlen,hxl,hf⟩:=DataW.trod_struct Tryz.underlying85 h;rw [show Tryz.prog.cellsOf 85=4 by kernel_rfl] at hlen;have h0:DataW.trod enc Tryz.prog W 0 (fun _=>true) true m 83 ((cs.drop 0).take (Tryz.prog.cellsOf 83))=xs[0]?:=hf 0 _ rfl;have h1:DataW.trod enc Tryz.prog W 0 (fun _=>true) true m 3 ((cs.drop 2).take (Tryz.prog.cellsOf 3))=xs[1]?:=hf 1 _ rfl;have h2:DataW.trod enc Tryz.prog W 0 (fun _=>true) true m 3 ((cs.drop 3).take (Tryz.prog.cellsOf 3))=xs[2]?:=hf 2 _ rfl;rw [show Tryz.prog.cellsOf 3=1 by kernel_rfl] at h1 h2;rw [show Tryz.prog.cellsOf 83=2 by kernel_rfl] at h0;match cs,hlen,xs,hxl with
 | [c0,c1,c2,c3],_,[y0,y1,y2],_ =>
  have hs0:∀ y ∈ y0.1.weights Tryz.prog 83,y ≤ reachBytes:=by
   intro y hy;refine hs y ?_;subst hx;simp only [DataW.weights,Tryz.underlying85];simp [DataW.weightsEach,hy]
  obtain ⟨b,A,A',c,c',e0,r0,r1,s0,i0⟩:=zqz (x:=y0) (by simpa using h0) hs0;obtain ⟨z1,e1,i1⟩:=zbX (x:=y1) (by simpa using h1);obtain ⟨z2,e2,i2⟩:=zbX (x:=y2) (by simpa using h2);injection e0 with e0 e0';injection e0' with e0' _;injection e1 with e1 _;injection e2 with e2 _;subst e0 e0' e1 e2;exact ⟨⟨b,z1,z2⟩,A,A',c,c',rfl,r0,r1,s0,i0,i1,i2⟩
theorem zil {A:Option Addr} {B n c:Nat} {xs:List Value} (h:Rd W B 5 A n c xs) (hc:c * 40 ≤ reachBytes):n ≤ 4000000000000∧n * 40 ≤ 140737488355328:=by
 have:=h.le;have:reachBytes=140737488351232:=rfl;omega
end
end
end Go.Proofs.YtockodmbhnlheaaGreatDoor
