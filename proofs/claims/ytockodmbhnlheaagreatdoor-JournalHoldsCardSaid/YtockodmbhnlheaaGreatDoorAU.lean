import Derived.Test.YtockodmbhnlheaaGreatDoorAS
namespace Go.Proofs.YtockodmbhnlheaaGreatDoor
section
open Go.RowKit
structure Fr (S:List TypeId) (G:List Nat) (w w':World):Prop where
 size:w.heap.size ≤ w'.heap.size
 blk:∀ g t cs,Blk w g t cs→t ∉ S→g ∉ G→Blk w' g t cs
section
variable {S T:List TypeId} {G H:List Nat} {a b c:World}
theorem Fr.refl (S:List TypeId) (G:List Nat) (w:World):Fr S G w w:=⟨zl _,fun _ _ _ h _ _=>h⟩
theorem Fr.trans (h:Fr S G a b) (g:Fr S G b c):Fr S G a c:=⟨Nat.le_trans h.size g.size,fun x t cs hx ht hg=>g.blk x t cs (h.blk x t cs hx ht hg) ht hg⟩
theorem Fr.mono (h:Fr S G a b) (hS:∀ t ∈ S,t ∈ T) (hG:∀ g ∈ G,g ∈ H):Fr T H a b:=⟨h.size,fun x t cs hx ht hg=>h.blk x t cs hx (fun hs=>ht (hS t hs)) fun hs=>hg (hG x hs)⟩
theorem Kept.fr (h:Kept S a b) (G:List Nat):Fr S G a b:=⟨h.size,fun x t cs hx ht _=>h.blk x t cs hx ht⟩
theorem Fr.of_below (S:List TypeId) (G:List Nat) (h:Below a.heap.size a b):Fr S G a b:=(Kept.of_below S h).fr G
theorem Fr.below (h:Fr S G a b) (g:Below b.heap.size b c):Fr S G a c:=h.trans (.of_below S G g)
theorem Fr.alloc (h:Fr S G a b) (o:Obj):Fr S G a (b.alloc o):=h.trans (((Kept.refl S b).alloc o).fr G)
theorem Fr.drewN (h:Fr S G a b) (q:Nat):Fr S G a (b.drewN q):=⟨h.size,h.blk⟩
theorem Fr.set (h:Fr S G a b) {g:Nat} {t:TypeId} {cs:Array Value} (hg:Blk b g t cs) (ht:t ∈ S∨g ∈ G) (i:Nat) (u:Value):Fr S G a (b.setCell ⟨g,i,none⟩ u):=by
 refine h.trans ⟨by rw [zbB];exact zl _,fun x t' cs' hx ht' hx'=>?_⟩;by_cases e:x=g
 ·subst e;unfold Blk at hg hx;rw [hg] at hx;injection hx with hx;injection hx with _ hx;subst hx;rcases ht with ht | ht
  ·exact absurd ht ht'
  ·exact absurd ht hx'
 ·exact hx.far e u
theorem Fr.own (h:Fr S G a b) {e k n:Nat} {base:Nat} {v:Value} {xs:List Value} (ho:a.ownsRow base e k v n xs) (he:e ∉ S) (hg:∀ g,v.ownBlock=some g→g ∉ G):b.ownsRow base e k v n xs:=by
 obtain ⟨hl,h1 | ⟨g,cap,cur,rfl,h1,h2,h3⟩⟩:=ho
 ·exact ⟨hl,.inl h1⟩
 ·exact ⟨hl,.inr ⟨g,cap,cur,rfl,h1,h.blk g e cur h2 he (hg g rfl),h3⟩⟩
theorem Blk.fr {g:Nat} {t:TypeId} {cs:Array Value} (hb:Blk a g t cs) (h:Fr S G a b) (ht:t ∉ S) (hg:g ∉ G):Blk b g t cs:=h.blk g t cs hb ht hg
theorem zd1 {w:World} {g g':Nat} {t t':TypeId} {cs cs':Array Value} (h:Blk w g t cs) (h':Blk w g' t' cs') (hne:t ≠ t'):g ≠ g':=by
 intro e;subst e;unfold Blk at h h';rw [h] at h';injection h' with h';injection h' with _ h';exact hne h'
end
end
section
open Go.RowKit
def zmx (a:Ac) (k:Nat) (z q s:Int):Ac × Int :=
 if z + q < -1000∨1000 < z + q then (zc2,7) else ({ a with bal:=s,pos:=a.pos.set k (z + q) },0)
set_option maxRecDepth 100000 in
set_option maxHeartbeats 4000000 in
theorem zoQ (a:Ac) (A:Option Addr) (c:Nat) (k:Nat) (z q p f:Int) (B:Nat) (w:World) (h:Rd w B 1 A a.pos.length c (ints a.pos)) (hB:B ≤ w.heap.size) (h0:zaj a.id a.bal a.pos a.pos.length=0) (hk:a.pos[k]?=some z) (h2:zaC q p=(q * p,0)) (hq:-1000 ≤ q∧q ≤ 1000) (hw:-10000000 ≤ q * p∧q * p ≤ 10000000) (g s:Int) (hg:-zcT f=g)
  (hf:f < -1000000000001∧g=1000000000001∨(-1000000000001 ≤ f∧f ≤ 1000000000001)∧g = -f∨1000000000001 < f∧g = -1000000000001) (h3:zaB [a.bal,-(q * p),g]=(s,0)) :
  Calls Tryz.prog 100 #[.agg #[.int .i64 a.id,.int .i64 a.bal,.slice A a.pos.length c],.int .i64 k,.int .i64 q,.int .i64 p,.int .i64 f] w (zeA w (zaZ a k q p f)):=by
 have hkl:k < a.pos.length:=(List.getElem?_eq_some_iff.1 hk).1;have hkz:a.pos.getD k 0=z:=by simp [List.getD,hk]
 have HE:=zi (show zaZ a k q p f=zmx a k z q s by rw [zkT h0 (by omega) h2 hg h3,if_neg (by simp),Int.toNat_natCast,hkz];rfl);have HC:=zi h0;have HW:=zi h2;have HS:=zi h3;have hbal:=(zaw h0).2.2.2.1;have hz:=ze7 (zaw h0).2.2.2.2 hk;have HL:=zi (zaw h0).2.1;have HK:=zi hk;obtain ⟨hz1,hz2⟩:=hz;obtain ⟨hq1,hq2⟩:=hq;clear h0 h2 h3 hg hk hkz;obtain ⟨hw1,hw2⟩:=hw;obtain ⟨C3,hC3⟩:∃ C,C=Obj.cells #[.int .i64 a.bal,.int .i64 (-(q * p)),.int .i64 g] 3:=⟨_,rfl⟩;have HC3:=zi hC3;clear hC3;rcases hf with ⟨hf,rfl⟩ | ⟨⟨hf,hf'⟩,rfl⟩ | ⟨hf,rfl⟩;all_goals
  go_enter Tryz.func100,Tryz.ntmps100
  go_wp2_with fail
  have hrd:=(h.alloc hB (.cells #[.int .i64 a.id,.int .i64 a.bal,.slice A a.pos.length c] 78)).alloc (by simp;omega) (.cells #[.int .i64 0,.int .i64 0,.slice none 0 0] 78);refine (zbn _ _ _ _ _ _ _ _ _ hrd (by simp;omega)).mono ?_;rintro e w1 ⟨rfl,hb1⟩;rw [HC.out];have B0:=(Blk.new (w.alloc (.cells #[.int .i64 a.id,.int .i64 a.bal,.slice A a.pos.length c] 78)) 78 #[.int .i64 0,.int .i64 0,.slice none 0 0]).below hb1 (by simp);have B1:=((Blk.new w 78 #[.int .i64 a.id,.int .i64 a.bal,.slice A a.pos.length c]).alloc (.cells #[.int .i64 0,.int .i64 0,.slice none 0 0] 78)).below hb1 (by simp;omega);have hr1:=hrd.below (hb1.mono (by simp;omega));obtain ⟨⟨c0,c1,c2⟩,d0,d1,d2⟩:=B0.c3;obtain ⟨⟨b0,b1,b2⟩,e0,e1,e2⟩:=B1.c3;simp only [World.size_alloc] at c0 c1 c2 d0 d1 d2 B0;have hz1:w.heap.size + 1 < w1.heap.size:=by have:=hb1.size;simp at this;omega
  have h9:Below w.heap.size w w1:=(((Below.refl _ _).alloc (zl _) _).alloc (by simp) _).trans (hb1.mono (by simp;omega));obtain ⟨b,o,hA,hb,hc⟩:=hr1.one (zhv HK.out);subst hA;clear hb1 hrd;go_wp2_with fail
  refine (zc3 _ _ _).mono ?_;rintro e w' ⟨rfl,rfl⟩;rw [HW.out];go_wp2_with fail
  rw [← HC3.out];obtain ⟨Y,hY⟩:∃ Y,Y=w1.alloc C3:=⟨_,rfl⟩;rw [← hY];refine (zdX _ _ _ [a.bal,-(q * p),_] _ _ (by rw [hY,HC3.out];exact Rd.new_at w1 _ _ _ 3 rfl rfl (by decide))).mono ?_;rintro e w' ⟨rfl,rfl⟩;rw [HS.out];have h9:Below w.heap.size w Y:=by rw [hY];exact h9.alloc (by omega) _
  have B0:=B0.alloc C3;have B1:=B1.alloc C3;have hr1:=hr1.alloc (by omega) C3;rw [← hY] at B0 B1 hr1;have hzY:w.heap.size + 1 < Y.heap.size:=by rw [hY];simp;omega
  clear b0 b1 b2 c0 c1 c2 d0 d1 d2 e0 e1 e2 hc hY;obtain ⟨⟨c0,c1,c2⟩,d0,d1,d2⟩:=B0.c3;obtain ⟨⟨b0,b1,b2⟩,e0,e1,e2⟩:=B1.c3;obtain ⟨b',o',hA,hb,hc⟩:=hr1.one (zhv HK.out);cases hA;by_cases hx:z + q < -1000∨1000 < z + q
  ·have HE2:=zi (show zaZ a k q p f=(zc2,7) by rw [HE.out];unfold zmx;rw [if_pos hx]);rcases hx with hx | hx;all_goals
    go_wp2_with fail
    refine bodyPost_ret (v:=.tuple #[.agg #[.int .i64 0,.int .i64 0,.slice none 0 0],.int .i64 7]) (by simp [results,Tryz.results100,go_sem, *]) rfl ?_;rw [HE2.out];refine zeB ?_;repeat (first | exact h9 | refine Below.setCell ?_ (by simp) _)
  ·have HE2:=zi (show zaZ a k q p f=({ a with bal:=s,pos:=a.pos.set k (z + q) },0) by rw [HE.out];unfold zmx;rw [if_neg hx]);have hx1:-1000 ≤ z + q:=by omega
   have hx2:z + q ≤ 1000:=by omega
   clear hx;have hlen:a.pos.length * 8 ≤ 140737488355328:=by have:=HL.out.2;omega
   go_wp2_with fail
   refine (zg2 _ _ _ _ _ _ _ _ hr1 (by omega) hlen).mono ?_;rintro e w2 ⟨A3,c3,rfl,hown3,hb3⟩;have B0:=B0.below hb3 hzY;have B1:=B1.below hb3 (by omega);have h9:=h9.trans (hb3.mono (by omega));have hzW:w.heap.size + 1 < w2.heap.size:=by have:=hb3.size;omega
   have hYs:w.heap.size + 1 < Y.heap.size:=hzY;clear b0 b1 b2 c0 c1 c2 d0 d1 d2 e0 e1 e2 hc hb3;obtain ⟨⟨c0,c1,c2⟩,d0,d1,d2⟩:=B0.c3;obtain ⟨⟨b0,b1,b2⟩,e0,e1,e2⟩:=B1.c3;go_wp2_with fail
   obtain ⟨X,hX⟩:∃ X,X=((w2.setCell ⟨w.heap.size,0,none⟩ (.int .i64 a.id)).setCell ⟨w.heap.size,1,none⟩ (.int .i64 a.bal)).setCell ⟨w.heap.size,2,none⟩ (.slice A3 a.pos.length c3):=⟨_,rfl⟩;rw [← hX];have BX:Blk X w.heap.size 78 #[.int .i64 a.id,.int .i64 a.bal,.slice A3 a.pos.length c3]:=by
    rw [hX];exact ((B1.set_ 0 _).set_ 1 _).set_ 2 _
   have BZ:Blk X (w.heap.size + 1) 78 #[.int .i64 0,.int .i64 0,.slice none 0 0]:=by
    rw [hX];exact ((B0.far (by simp) _).far (by simp) _).far (by simp) _
   have h9:Below w.heap.size w X:=by
    rw [hX];repeat (first | exact h9 | refine Below.setCell ?_ (by simp) _)
   have hown:X.ownsRow Y.heap.size 3 1 (.slice A3 a.pos.length c3) a.pos.length (ints a.pos):=by
    rw [hX];exact ownsRow_setCell_below (ownsRow_setCell_below (ownsRow_setCell_below hown3 (by show w.heap.size < _;omega) _) (by show w.heap.size < _;omega) _) (by show w.heap.size < _;omega) _
   obtain ⟨g3,hA3,hg3⟩:∃ g3,A3=some ⟨g3,0,none⟩∧Y.heap.size ≤ g3:=by
    obtain ⟨_,⟨_,hn⟩ | ⟨g,cap,cur,hv,h1,_⟩⟩:=hown
    ·omega
    ·injection hv with hA;exact ⟨g,hA,h1⟩
   subst hA3;have hk3:=hown.cellAt k (by omega);rw [zhv HK.out] at hk3;have hf3:=hown.frozenAt k;have HOWN:=zi hown;have hg0:g3 ≠ w.heap.size:=by omega
   have hg1:g3 ≠ w.heap.size + 1:=by omega
   clear hX hown hown3 B0 B1 b0 b1 b2 c0 c1 c2 d0 d1 d2 e0 e1 e2;obtain ⟨⟨c0,c1,c2⟩,d0,d1,d2⟩:=BZ.c3;obtain ⟨⟨b0,b1,b2⟩,e0,e1,e2⟩:=BX.c3;go_wp2_with fail
   go_simp
   apply_assumption
   have hg0':w.heap.size ≠ g3:=by omega
   have hg1':w.heap.size + 1 ≠ g3:=by omega
   go_wp2_with fail
   refine bodyPost_ret (v:=.tuple #[.agg #[.int .i64 a.id,.int .i64 s,.slice (some ⟨g3,0,none⟩) a.pos.length c3],.int .i64 0]) (by simp [results,Tryz.results100,go_sem, *]) rfl ?_;rw [HE2.out];have hl:(a.pos.set k (z + q)).length=a.pos.length:=List.length_set;refine ⟨some ⟨g3,0,none⟩,c3,?_,?_,?_⟩
   ·show _=Ending.returned (.tuple #[.agg #[_,_,.slice _ (a.pos.set k (z + q)).length _],_]);rw [hl]
   ·show World.ownsRow _ _ _ _ (.slice _ (a.pos.set k (z + q)).length _) (a.pos.set k (z + q)).length (ints (a.pos.set k (z + q)));rw [hl,show ints (a.pos.set k (z + q))=(ints a.pos).set k (.int .i64 (z + q)) by simp [ints,List.map_set]];refine zae (base:=Y.heap.size) ?_ (by omega);exact ownsRow_setCell_below (ownsRow_setCell_below (ownsRow_setCell_below (World.ownsRow.stored (ownsRow_setCell_below HOWN.out (by show w.heap.size < _;omega) _) k _).1 (by show w.heap.size + 1 < _;omega) _) (by show w.heap.size + 1 < _;omega) _) (by show w.heap.size + 1 < _;omega) _
   ·exact (((((h9.setCell (p:=⟨w.heap.size,1,none⟩) (zl _) _).setCell (p:=⟨g3,k,none⟩) (by show w.heap.size ≤ g3;omega) _).setCell (p:=⟨w.heap.size + 1,0,none⟩) (by show w.heap.size ≤ w.heap.size + 1;omega) _).setCell (p:=⟨w.heap.size + 1,1,none⟩) (by show w.heap.size ≤ w.heap.size + 1;omega) _).setCell (p:=⟨w.heap.size + 1,2,none⟩) (by show w.heap.size ≤ w.heap.size + 1;omega) _)
theorem zqk (a:Ac) (A:Option Addr) (c:Nat) (m q p f:Int) (B:Nat) (w:World) (h:Rd w B 1 A a.pos.length c (ints a.pos)) (hB:B ≤ w.heap.size) :
  Calls Tryz.prog 100 #[.agg #[.int .i64 a.id,.int .i64 a.bal,.slice A a.pos.length c],.int .i64 m,.int .i64 q,.int .i64 p,.int .i64 f] w (zeA w (zaZ a m q p f)):=by
 by_cases h0:zaj a.id a.bal a.pos a.pos.length=0
 ·by_cases h1:0 ≤ m∧m < (a.pos.length:Int)
  ·rcases zcI q p with h2 | ⟨h2,hq,_,hw⟩
   ·exact zoD a A c m q p f B w h hB h0 h1 h2
   ·obtain ⟨s,es,h3⟩:∃ s es,zaB [a.bal,-(q * p),-zcT f]=(s,es):=⟨_,_,rfl⟩;by_cases h5:es=0
    ·subst h5;obtain ⟨k,rfl⟩:∃ k:Nat,m=k:=⟨m.toNat,by omega⟩;have hk:a.pos[k]?=some a.pos[k]:=List.getElem?_eq_getElem (by omega);exact zoQ a A c k _ q p f B w h hB h0 hk h2 hq hw _ s rfl (zgZ f) h3
    ·exact zoE a A c m q p f B w h hB h0 h1 h2 hw _ s es rfl (zgZ f) h3 h5
  ·exact zoC a A c m q p f B w h hB h0 (by omega)
 ·exact zoB a A c m q p f B w h hB h0
end
section
open Go.RowKit
def ztc (w:World) (base D:Nat) (ap:Bool) (d:Dk) (A:Option Addr) (c:Nat) (M:Option Addr) (k:Nat) (xs ys:List Value) (e:Ending) (w':World):Prop :=
 e=.returned (.tuple #[])∧(∃ vE,Desk w' base D ap d A c M k vE xs ys)∧Below base w w'∧Kept [113,57] w w'
set_option maxHeartbeats 2000000 in
theorem zeo (base D:Nat) (ap:Bool) (d:Dk) (A:Option Addr) (c:Nat) (M:Option Addr) (k:Nat) (vE:Value) (xs ys:List Value) (x:Ev) (w:World) (h:Desk w base D ap d A c M k vE xs ys) (hb:base ≤ w.heap.size) (hl:d.ev.length ≤ 1000000) :
  Calls Tryz.prog 97 #[.pointer (some ⟨D,0,none⟩),.agg #[.int .i64 x.kind,.int .i64 x.err,.int .i64 x.market,.int .i64 x.id,.int .i64 x.acc,.int .i64 x.n,.int .i64 x.f.maker,.int .i64 x.f.taker,.int .i64 x.f.macc,.int .i64 x.f.tacc,.int .i64 x.f.side,.int .i64 x.f.price,.int .i64 x.f.qty]] w (ztc w base D ap (tell d x) A c M k xs ys):=by
 have HD:=zi h;have hDl:=h.lt;obtain ⟨E,e,rfl⟩:=h.form;clear h;go_enter Tryz.func97,Tryz.ntmps97
 go_wp2_with fail
 obtain ⟨W,hW⟩:∃ x',x'=w.alloc (.cells #[.int .i64 x.kind,.int .i64 x.err,.int .i64 x.market,.int .i64 x.id,.int .i64 x.acc,.int .i64 x.n,.int .i64 x.f.maker,.int .i64 x.f.taker,.int .i64 x.f.macc,.int .i64 x.f.tacc,.int .i64 x.f.side,.int .i64 x.f.price,.int .i64 x.f.qty] 57):=⟨_,rfl⟩;have hbW:Below w.heap.size w W:=by rw [hW];exact (Below.refl _ _).alloc (zl _) _
 have hsW:W.heap.size=w.heap.size + 1:=by rw [hW];simp
 have X1:Blk W w.heap.size 57 #[.int .i64 x.kind,.int .i64 x.err,.int .i64 x.market,.int .i64 x.id,.int .i64 x.acc,.int .i64 x.n,.int .i64 x.f.maker,.int .i64 x.f.taker,.int .i64 x.f.macc,.int .i64 x.f.tacc,.int .i64 x.f.side,.int .i64 x.f.price,.int .i64 x.f.qty]:=by rw [hW];exact Blk.new w _ _
 rw [← hW];have HW:=zi (HD.out.below hbW);clear hW;obtain ⟨⟨-,-,-,-,-,-,-,k7⟩,-,-,-,-,-,-,-,f7⟩:=HW.out.blk.c8;have e0:=X1.cell 0;have e1:=X1.cell 1;have e2:=X1.cell 2;have e3:=X1.cell 3;have e4:=X1.cell 4;have e5:=X1.cell 5;have e6:=X1.cell 6;have e7:=X1.cell 7;have e8:=X1.cell 8;have e9:=X1.cell 9;have e10:=X1.cell 10;have e11:=X1.cell 11;have e12:=X1.cell 12;have HNE:=zi (zcA HW.out.evs HW.out.blk (by decide));have KW:Hid (∀ ob W4,((W.alloc ob).drew).grownBy W4 (Value.slice E d.ev.length e).ownBlock→Blk W4 D 113 #[.slice A d.v.accs.length c,.slice M d.v.mks.length k,.int .i64 d.v.ins,.int .i64 d.v.resid,.int .i64 d.v.next,.int .i64 d.v.inn,.int .i64 d.v.out,.slice E d.ev.length e]):=fun ob W4 hg=>(show Blk ((W.alloc ob).drew) D _ _ from HW.out.blk.alloc ob).grown hg HNE.out;go_wp2_with fail
 go_region_law (refine zdq rfl _ _ 52 rfl base 57 13 104 zn3 (.slice E d.ev.length e) d.ev.length (za4 d.ev) (by simp [Act.eval]) (zaz (World.ownsRow.alloc HW.out.evs _) 1) (W.heap.size + 1) (some ⟨W.heap.size,0,none⟩) 1 1 (za4 [x]) (by simp [Act.eval]) (zf5 _ _ _ 13 rfl rfl _ rfl).drew1 (zg7 _) (by simp only [maxLen];omega) (by omega) (by simp;omega) ?_;intro vE' W4 hown4 hbel4 hgrow hat;obtain ⟨E',e',rfl⟩:=zad hown4;have g7:=(KW.out _ _ hgrow).cell 7;have gf7:=(KW.out _ _ hgrow).frozen 7;simp only [List.getElem?_toArray,List.getElem?_cons_succ,List.getElem?_cons_zero] at g7)
 all_goals
  have hD4:=KW.out _ _ hgrow;have hK4:Kept [113,57] W W4:=(((Kept.refl _ W).alloc _).drew).grown (zaz (World.ownsRow.alloc HW.out.evs _) 1) hgrow (by decide);have hK5:=hK4.set hD4 (by decide) 7 (.slice E' (d.ev.length + 1) e');have hK6:Kept [113] W4 (W4.setCell ⟨D,7,none⟩ (.slice E' (d.ev.length + 1) e')):=(Kept.refl _ W4).set hD4 (by decide) 7 _;have hB4:Below base w W4:=(hbW.mono hb).trans ((zac ((Below.refl _ W).alloc (by omega) _) 1).trans hbel4);have hev:(d.ev ++ [x]).length=d.ev.length + 1:=by simp
  have hev5:=hK6.own hown4 (by decide);rw [← zg6] at hev5;go_end0
  refine ⟨rfl,⟨.slice E' (d.ev.length + 1) e',hD4.set_ 7 _,HW.out.low,HW.out.accs.kept hK5 (by decide) (by decide),HW.out.mks.kept hK5 (by decide) (by decide),?_⟩,hB4.setCell HW.out.low _,(Kept.of_below _ hbW).trans hK5⟩;show World.ownsRow _ base 57 13 _ (d.ev ++ [x]).length (za4 (d.ev ++ [x]));rw [hev];exact hev5
end
section
open Go.RowKit
theorem znq {market mark rate left:Int} {done:List Ac} {L:List Ac} {j:Nat} {a:Ac} (ha:L[j]?=some a):zdz market mark rate done left (L.drop j) =
  if (pays a market mark rate).2 ≠ 0 then ([],0,(pays a market mark rate).2)
  else if (zaB [a.bal,-(pays a market mark rate).1]).2 ≠ 0 then ([],0,(zaB [a.bal,-(pays a market mark rate).1]).2)
  else zdz market mark rate (done ++ [{ a with bal:=(zaB [a.bal,-(pays a market mark rate).1]).1 }]) (left + (pays a market mark rate).1) (L.drop (j + 1)):=by
 have hj:=(List.getElem?_eq_some_iff.1 ha).1;rw [List.drop_eq_getElem_cons hj,(List.getElem?_eq_some_iff.1 ha).2];rfl
theorem row3 {w:World} {g:Nat} {t:TypeId} {cur:Array Value} {n j:Nat} (h:w.heap[g]?=some (.cells cur t (0,0))) (hn:n * 3 ≤ cur.size) (hj:j < n) :
  ∃ u0 u1 u2,(w.cell? ⟨g,j * 3,none⟩=some u0∧w.cell? ⟨g,j * 3 + 1,none⟩=some u1∧w.cell? ⟨g,j * 3 + 2,none⟩=some u2) ∧
   w.frozen? ⟨g,j * 3,none⟩=false∧w.frozen? ⟨g,j * 3 + 1,none⟩=false∧w.frozen? ⟨g,j * 3 + 2,none⟩=false:=by
 have hb:Blk w g t cur:=h;have h3:j * 3 + 2 < cur.size:=by omega
 exact ⟨cur[j * 3],cur[j * 3 + 1],cur[j * 3 + 2],⟨by rw [hb.cell];exact Array.getElem?_eq_getElem (by omega),by rw [hb.cell];exact Array.getElem?_eq_getElem (by omega),by rw [hb.cell];exact Array.getElem?_eq_getElem (by omega)⟩,
  hb.frozen _,hb.frozen _,hb.frozen _⟩
theorem zoR {cur:Array Value} {j m:Nat} {x y z:Value} (h:m < j∨j + 2 < m):(((cur.setIfInBounds j x).setIfInBounds (j + 1) y).setIfInBounds (j + 2) z)[m]?=cur[m]?:=by
 rw [Array.getElem?_setIfInBounds_ne (by omega),Array.getElem?_setIfInBounds_ne (by omega),Array.getElem?_setIfInBounds_ne (by omega)]
theorem ztd {cur:Array Value} {j:Nat} {x y z:Value} (h:j + 2 < cur.size) :
  (((cur.setIfInBounds j x).setIfInBounds (j + 1) y).setIfInBounds (j + 2) z)[j]?=some x∧(((cur.setIfInBounds j x).setIfInBounds (j + 1) y).setIfInBounds (j + 2) z)[j + 1]?=some y ∧
   (((cur.setIfInBounds j x).setIfInBounds (j + 1) y).setIfInBounds (j + 2) z)[j + 2]?=some z:=by
 refine ⟨?_,?_,?_⟩
 ·rw [Array.getElem?_setIfInBounds_ne (by omega),Array.getElem?_setIfInBounds_ne (by omega),Array.getElem?_setIfInBounds_self_of_lt (by omega)]
 ·rw [Array.getElem?_setIfInBounds_ne (by omega),Array.getElem?_setIfInBounds_self_of_lt (by simp;omega)]
 ·rw [Array.getElem?_setIfInBounds_self_of_lt (by simp;omega)]
end
end Go.Proofs.YtockodmbhnlheaaGreatDoor
