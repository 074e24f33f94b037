import Derived.Test.YtockodmbhnlheaaGreatDoorAI
namespace Go.Proofs.YtockodmbhnlheaaGreatDoor
section
open Go.RowKit
theorem ziQ:∀ {M:List Od} {i:Nat} (x:Od),i < M.length→zaa (M.set i x)=(((((zaa M).set (i * 5) (.int .i64 x.id)).set (i * 5 + 1) (.int .i64 x.acc)).set (i * 5 + 2) (.int .i64 x.side)).set (i * 5 + 3) (.int .i64 x.price)).set (i * 5 + 4) (.int .i64 x.qty)
 | [],i,x,h=>by simp at h
 | o :: l,0,x,_=>by simp [zaa]
 | o :: l,i + 1,x,h=>by
  have ih:=ziQ (M:=l) (i:=i) x (by simpa using h);rw [show (i + 1) * 5=i * 5 + 1 + 1 + 1 + 1 + 1 by omega];simp only [List.set_cons_succ,zaa,ih]
theorem znS {M:List Od} {i:Nat} (x:Od) (sp:List Value) (h:i < M.length) :
  ((((((zaa M ++ sp).toArray.setIfInBounds (i * 5) (.int .i64 x.id)).setIfInBounds (i * 5 + 1) (.int .i64 x.acc)).setIfInBounds (i * 5 + 2) (.int .i64 x.side)).setIfInBounds (i * 5 + 3) (.int .i64 x.price)).setIfInBounds (i * 5 + 4) (.int .i64 x.qty))=(zaa (M.set i x) ++ sp).toArray:=by
 have hl:=zao M;rw [ziQ x h];simp only [List.setIfInBounds_toArray];congr 1
 rw [List.set_append_left _ _ (by omega),List.set_append_left _ _ (by simp;omega),List.set_append_left _ _ (by simp;omega),List.set_append_left _ _ (by simp;omega),List.set_append_left _ _ (by simp;omega)]
theorem zjD {w:World} {g:Nat} {t:TypeId} {M:List Od} {sp:List Value} {i:Nat} {x:Od} (h:Blk w g t (zaa M ++ sp).toArray) (hx:M[i]?=some x) :
  (w.cell? ⟨g,i * 5,none⟩=some (.int .i64 x.id)∧w.cell? ⟨g,i * 5 + 1,none⟩=some (.int .i64 x.acc)∧w.cell? ⟨g,i * 5 + 2,none⟩=some (.int .i64 x.side)∧w.cell? ⟨g,i * 5 + 3,none⟩=some (.int .i64 x.price)∧w.cell? ⟨g,i * 5 + 4,none⟩=some (.int .i64 x.qty)) ∧
   (w.frozen? ⟨g,i * 5,none⟩=false∧w.frozen? ⟨g,i * 5 + 1,none⟩=false∧w.frozen? ⟨g,i * 5 + 2,none⟩=false∧w.frozen? ⟨g,i * 5 + 3,none⟩=false∧w.frozen? ⟨g,i * 5 + 4,none⟩=false):=by
 obtain ⟨h0,h1,h2,h3,h4⟩:=zgg hx;have hl:∀ k v,(zaa M)[k]?=some v→w.cell? ⟨g,k,none⟩=some v:=by
  intro k v hk;rw [h.cell];have:=(List.getElem?_eq_some_iff.1 hk).1;simp only [List.getElem?_toArray];rw [List.getElem?_append_left this];exact hk
 exact ⟨⟨hl _ _ h0,hl _ _ h1,hl _ _ h2,hl _ _ h3,hl _ _ h4⟩,h.frozen _,h.frozen _,h.frozen _,h.frozen _,h.frozen _⟩
theorem zco (w:World) (b:Option Nat):Only w w b:=fun _ _ _=>rfl
theorem zoy {w w1 w2:World} {b:Option Nat} (h:Only w w1 b) (hs:w.heap.size ≤ w1.heap.size) (hb:Below w1.heap.size w1 w2):Only w w2 b:=fun k hk hn=>(hb.block k (by omega)).trans (h k hk hn)
theorem zcB {w w1:World} {b:Option Nat} {k o:Nat} (h:Only w w1 b) (hk:k < w.heap.size) (hn:some k ≠ b):w1.cell? ⟨k,o,none⟩=w.cell? ⟨k,o,none⟩:=World.cell?_of_block (h k hk hn)
theorem zdb {w w1:World} {g:Nat} {p:Addr} {v:Value} (h:Only w w1 (some g)) (hp:p.block=g):Only w (w1.setCell p v) (some g):=fun k hk hn=>(Below.heap_setCell w1 p v k (fun e=>hn (by rw [e,hp]))).trans (h k hk hn)
theorem zg1 {n c:Nat} {L:List Od} {cur:List Value} (hcl:cur.length=c * 5) (hnc:n ≤ c) (hcur:cur.take (n * 5)=zaa L):∃ sp,cur=zaa L ++ sp∧L.length=n∧sp.length=(c - n) * 5:=by
 have h1:L.length=n:=by
  have h:=congrArg List.length hcur;rw [zao,List.length_take] at h;omega
 refine ⟨cur.drop (n * 5),by rw [← hcur,List.take_append_drop],h1,?_⟩;rw [List.length_drop,hcl];omega
theorem ziR {p:Od→Bool} {L:List Od} {b:Nat} {x:Od} (hx:L[b]?=some x) (hp:p x=false):(L.take (b + 1)).filter (fun y=>!p y)=(L.take b).filter (fun y=>!p y) ++ [x]:=by
 rw [List.take_add_one,hx];simp [hp]
theorem ziS {p:Od→Bool} {L:List Od} {b:Nat} {x:Od} (hx:L[b]?=some x) (hp:p x=true):(L.take (b + 1)).filter (fun y=>!p y)=(L.take b).filter (fun y=>!p y):=by
 rw [List.take_add_one,hx];simp [hp]
theorem zjE {p:Od→Bool} {L:List Od} {k:Nat} (h:zcZ p L=k):∃ x,L[k]?=some x∧p x=true∧(L.take k).filter (fun y=>!p y)=L.take k:=by
 unfold zcZ at h;cases hf:L.findIdx? p with
 | none=>rw [hf] at h;simp only at h;omega
 | some j =>
  rw [hf] at h;have hjk:j=k:=by
   have h':(j:Int)=(k:Int):=h;omega
  subst hjk;rw [List.findIdx?_eq_some_iff_getElem] at hf;obtain ⟨h1,h2,h3⟩:=hf;refine ⟨_,List.getElem?_eq_getElem h1,h2,List.filter_eq_self.2 fun y hy=>?_⟩;obtain ⟨i,hi,rfl⟩:=List.mem_take_iff_getElem.1 hy;have:=h3 i (by omega);simpa using this
theorem zjF {p:Od→Bool} {L:List Od} (h:L.any p=false):L.filter (fun y=>!p y)=L:=by
 rw [List.any_eq_false] at h;exact List.filter_eq_self.2 fun y hy=>by have:=h y hy;simpa using this
structure DelRow (w wr:World) (base g n:Nat) (L:List Od) (p:Od→Bool) (sp:List Value) (a b:Nat) (M:List Od):Prop where
 bel:Below base w wr
 only:Only w wr (some g)
 blk:Blk wr g 32 (zaa M ++ sp).toArray
 len:M.length=n
 lo:M.take a=(L.take b).filter (fun y=>!p y)
 hi:M.drop b=L.drop b
theorem DelRow.next {w wr w1:World} {base g n:Nat} {L:List Od} {p:Od→Bool} {sp:List Value} {a b:Nat} {M:List Od} (h:DelRow w wr base g n L p sp a b M) (hb:Below wr.heap.size wr w1) (hbase:base ≤ wr.heap.size) (hs:w.heap.size ≤ wr.heap.size):DelRow w w1 base g n L p sp a b M :=
 ⟨h.bel.trans (hb.mono hbase),zoy h.only hs hb,h.blk.below hb h.blk.lt,h.len,h.lo,h.hi⟩
theorem zgI {M L:List Od} {b:Nat} (h:M.drop b=L.drop b):M.drop (b + 1)=L.drop (b + 1):=by
 rw [← List.drop_drop,← List.drop_drop,h]
theorem znT {M L:List Od} {b:Nat} (h:M.drop b=L.drop b):M[b]?=L[b]?:=by
 have:=congrArg (fun l=>l[0]?) h;simp only [List.getElem?_drop,Nat.add_zero] at this;exact this
theorem DelRow.skip {w wr:World} {base g n:Nat} {L:List Od} {p:Od→Bool} {sp:List Value} {a b:Nat} {M:List Od} {x:Od} (h:DelRow w wr base g n L p sp a b M) (hx:L[b]?=some x) (hp:p x=true):DelRow w wr base g n L p sp a (b + 1) M :=
 ⟨h.bel,h.only,h.blk,h.len,by rw [ziS hx hp];exact h.lo,zgI h.hi⟩
theorem DelRow.keep {w wr:World} {base g n:Nat} {L:List Od} {p:Od→Bool} {sp:List Value} {a b:Nat} {M:List Od} {x:Od} (h:DelRow w wr base g n L p sp a b M) (hx:L[b]?=some x) (hp:p x=false) (hab:a < b) (hbn:b < n) (hbg:base ≤ g) :
  DelRow w (((((wr.setCell ⟨g,a * 5,none⟩ (.int .i64 x.id)).setCell ⟨g,a * 5 + 1,none⟩ (.int .i64 x.acc)).setCell ⟨g,a * 5 + 2,none⟩ (.int .i64 x.side)).setCell ⟨g,a * 5 + 3,none⟩ (.int .i64 x.price)).setCell ⟨g,a * 5 + 4,none⟩ (.int .i64 x.qty)) base g n L p sp (a + 1) (b + 1) (M.set a x):=by
 have hl:=h.len;refine ⟨?_,?_,?_,by rw [List.length_set];exact hl,?_,?_⟩
 ·exact Below.setCell (Below.setCell (Below.setCell (Below.setCell (Below.setCell h.bel hbg _) hbg _) hbg _) hbg _) hbg _
 ·exact zdb (zdb (zdb (zdb (zdb h.only rfl) rfl) rfl) rfl) rfl
 ·have:=((((h.blk.set_ (a * 5) (.int .i64 x.id)).set_ (a * 5 + 1) (.int .i64 x.acc)).set_ (a * 5 + 2) (.int .i64 x.side)).set_ (a * 5 + 3) (.int .i64 x.price)).set_ (a * 5 + 4) (.int .i64 x.qty);rw [znS x sp (by omega)] at this;exact this
 ·rw [ziR hx hp,← h.lo,List.take_add_one];congr 1
  ·rw [List.take_set_of_le (zl _)]
  ·rw [List.getElem?_set_self (by omega)];rfl
 ·rw [List.drop_set_of_lt (by omega)];exact zgI h.hi
set_option maxHeartbeats 4000000 in
set_option maxRecDepth 100000 in
theorem zkq (base g n c:Nat) (L:List Od) (sp:List Value) (id:Int) (gp:Nat) (w:World) (hg:Blk w g 32 (zaa L ++ sp).toArray) (hL:L.length=n) (hsp:sp.length=(c - n) * 5) (hnc:n ≤ c) (hc:c ≤ maxLen) (hbg:base ≤ g) (hb:base ≤ w.heap.size)
  (hgp:gp < w.heap.size) (hne:gp ≠ g) (hp:w.cell? ⟨gp,0,none⟩=some (.int .i64 id)) :
  Calls Tryz.prog 136 #[.slice (some ⟨g,0,none⟩) n c,.func (.func 137) #[] #[.pointer (some ⟨gp,0,none⟩)]] w fun e w'=>∃ cur':List Value,e=.returned (.slice (some ⟨g,0,none⟩) (L.filter (fun y=>!zbj id y)).length c) ∧
   Blk w' g 32 cur'.toArray∧cur'.length=c * 5∧cur'.take ((L.filter (fun y=>!zbj id y)).length * 5)=zaa (L.filter (fun y=>!zbj id y))∧Below base w w'∧Only w w' (some g):=by
 have hgw:=hg.lt;have HG:=zi hg;have HL:=zi hL;have HSP:=zi hsp;have HP:=zi hp;have hr:Rd w w.heap.size 5 (some ⟨g,0,none⟩) n c (zaa L):=⟨by rw [zao,hL],hnc,hc,nofun,fun _=>⟨g,0,rfl,hgw,fun j u hj=>by
  rw [hg.cell,Nat.zero_add];have:=(List.getElem?_eq_some_iff.1 hj).1;simp only [List.getElem?_toArray];rw [List.getElem?_append_left this];exact hj⟩⟩
 have HR:=zi hr;unfold maxLen at hc;clear hg hL hsp hr;go_enter Tryz.func136,Tryz.ntmps136
 go_wp2_with fail
 refine (zjz (some ⟨g,0,none⟩) n c L id gp w.heap.size w HR.out (zl _) hgp hp).mono ?_;rintro e w1 ⟨rfl,hb1⟩;have HB1:=zi hb1;clear hb1 hp;rcases zja (p:=zbj id) (L:=L) with ⟨h1,h2⟩ | ⟨⟨k,h1,hk⟩,h2⟩
 ·have HF:=zi (zjF h2);rw [h1];clear h1 h2;go_wp2_with fail
  go_ret;rw [HF.out];refine ⟨_,by rw [HL.out];rfl,HG.out.below HB1.out HG.out.lt,?_,?_,HB1.out.mono hb,fun k hk _=>HB1.out.block k hk⟩
  ·rw [List.length_append,zao,HL.out,HSP.out];omega
  ·rw [← zao,List.take_left'];rfl
 ·obtain ⟨x0,hx0,hpx0,hlo⟩:=zjE h1;have HX0:=zi hx0;have HLO:=zi hlo;have HPX:=zi hpx0;have hk':k < n:=by rw [← HL.out];exact hk
  rw [h1];clear h1 h2 hx0 hlo hpx0 hk;have hz1:¬ ((k:Int) = -1):=by omega
  have hz2:((k:Int) == -1)=false:=by simp
  go_wp2_with fail
  go_loopw [5,6] (fun i j wr=>∃ (a b:Nat) (M:List Od),i=.int .i64 a∧j=.int .i64 b∧a < b∧b ≤ n∧Hid (DelRow w wr base g n L (zbj id) sp a b M)) (fun _ j _=>n - (intOf j).toNat)
  case atStart =>
   refine ⟨k,k + 1,L,rfl,by go_num,by omega,by omega,zi ?_⟩;have h0:DelRow w w base g n L (zbj id) sp k k L:=⟨(Below.refl _ _),zco _ _,HG.out,HL.out,HLO.out.symm,rfl⟩;exact (h0.skip HX0.out HPX.out).next HB1.out hb (zl _)
  case round =>
   obtain ⟨a,b,M,rfl,rfl,hab,hbn,HD⟩:=hrel;have hws:=HD.out.bel.size;have hgr:=HD.out.blk.lt;by_cases hlt:b < n
   ·obtain ⟨x,hx⟩:∃ x,L[b]?=some x:=⟨_,List.getElem?_eq_getElem (by rw [HL.out];exact hlt)⟩;have hxm:M[b]?=some x:=(znT HD.out.hi).trans hx;obtain ⟨⟨k0,k1,k2,k3,k4⟩,_⟩:=zjD HD.out.blk hxm;have HX:=zi hx;have HPr:=zi ((zcB (o:=0) HD.out.only hgp (fun e=>hne (by injection e))).trans HP.out);clear hx hxm;go_wp2_with fail
    refine (ziL x id gp _ (by simp;omega) ((World.cell?_alloc_lt (w:=wr) (a:=⟨gp,0,none⟩) (o:=_) (by show gp < _;omega)).trans HPr.out)).mono ?_;rintro e w2 ⟨rfl,hb2⟩;have hb3:Below wr.heap.size wr w2:=((Below.refl _ _).alloc (zl _) _).trans (hb2.mono (by simp));have HD2:=zi (HD.out.next hb3 (Nat.le_trans hb hws) hws);have hw2:wr.heap.size < w2.heap.size:=by have:=hb2.size;simp at this;omega
    have Bx:=(Blk.new wr 32 #[.int .i64 x.id,.int .i64 x.acc,.int .i64 x.side,.int .i64 x.price,.int .i64 x.qty]).below hb2 (by simp);clear hb2 hb3 HD;obtain ⟨⟨l0,l1,l2,l3,l4⟩,_⟩:=Bx.c5;clear k0 k1 k2 k3 k4 Bx;rcases zcr (zbj id x) with hpx | hpx
    ·have HN:=zi (HD2.out.keep HX.out hpx hab hlt hbg);rw [hpx];clear hpx;have hml:M.length=n:=HD2.out.len;obtain ⟨y,hy⟩:∃ y,M[a]?=some y:=⟨_,List.getElem?_eq_getElem (by omega)⟩;obtain ⟨⟨m0,m1,m2,m3,m4⟩,f0,f1,f2,f3,f4⟩:=zjD HD2.out.blk hy;clear hy hml;go_wp2_with fail
     go_roundw
     case rel=>exact ⟨a + 1,b + 1,_,by go_num,by go_num,by omega,by omega,HN⟩
     case measure=>simp [intOf];omega
    ·have HN:=zi (HD2.out.skip HX.out hpx);rw [hpx];clear hpx;go_wp2_with fail
     go_roundw
     case rel=>exact ⟨a,b + 1,_,rfl,by go_num,by omega,by omega,HN⟩
     case measure=>simp [intOf];omega
   ·have hbe:b=n:=by omega
    have HF:=zi (show (L.filter (fun y=>!zbj id y)).length=a∧M.take a=L.filter (fun y=>!zbj id y) by
     have h1:=HD.out.lo;rw [hbe,show L.take n=L from List.take_of_length_le (by rw [HL.out];exact zl _)] at h1;refine ⟨?_,h1⟩;have h2:=congrArg List.length h1;rw [List.length_take,HD.out.len] at h2;omega)
    have HBK:=zi HD.out.blk;have HCL:=zi (show (zaa M ++ sp).length=c * 5 by rw [List.length_append,zao,HD.out.len,HSP.out];omega);have HB:=zi HD.out.bel;have HO:=zi HD.out.only;have HTK:=zi (show ∀ Z:List Value,Z.length=(n - a) * 5→(splice (zaa M ++ sp) (a * 5) Z).take (a * 5)=zaa (M.take a) by
     intro Z _;unfold splice;rw [List.take_append_of_le_length (by rw [List.length_take,HCL.out];omega),List.take_take,Nat.min_self,List.take_append_of_le_length (by rw [zao,HD.out.len];omega),zew])
    have HFT:=zi (show a * 5 + (n - a) * 5 ≤ (zaa M ++ sp).length by rw [HCL.out];omega);subst hbe;clear HD;have d1:¬ (c=a):=by omega
    have d2:a ≤ b:=by omega
    have d3:(a:Int) ≤ (b:Int):=by omega
    have d4:a ≤ c:=by omega
    have d5:(a:Int) ≤ (c:Int):=by omega
    go_wp2_with (refine zgb rfl (.tmp 38) 81 rfl 32 5 40 zcS _ zkp (zbT _) g (a * 5) (b - a) (c - a) (by rfl) (by omega) (a * 5) rfl (zaa M ++ sp) 32 HBK.out HFT.out base w HB.out hbg ?_;intro w2 Z hZ HG2 hB2 HO2)
    have HZ:=zi hZ;clear hZ;go_wp2_with fail
    go_ret;refine ⟨_,by rw [HF.out.1];rfl,HG2.out,?_,?_,hB2,fun k hk hn=>(HO2.out k (fun e=>hn (by rw [e]))).trans (HO.out k hk hn)⟩
    ·rw [length_splice _ _ _ (by rw [HZ.out];exact HFT.out),HCL.out]
    ·rw [HF.out.1,HTK.out Z HZ.out,HF.out.2]
theorem zgd (base:Nat) (v:Value) (n:Nat) (L:List Od) (id:Int) (gp:Nat) (w:World) (hown:w.ownsRow base 32 5 v n (zaa L)) (hb:base ≤ w.heap.size) (hgp:gp < w.heap.size) (hne:v.ownBlock ≠ some gp) (hp:w.cell? ⟨gp,0,none⟩=some (.int .i64 id)) :
  Calls Tryz.prog 136 #[v,.func (.func 137) #[] #[.pointer (some ⟨gp,0,none⟩)]] w fun e w'=>∃ v',e=.returned v'∧w'.ownsRow base 32 5 v' (L.filter (fun y=>!zbj id y)).length (zaa (L.filter (fun y=>!zbj id y)))∧v'.ownBlock=v.ownBlock∧Below base w w'∧Only w w' v.ownBlock:=by
 obtain ⟨hl,⟨rfl,h0⟩ | ⟨g,c,cur,rfl,hbg,hg,hnc,hcm,hcs,hct⟩⟩:=hown
 ·subst h0;have hL:L = []:=List.eq_nil_of_length_eq_zero (by rw [zao] at hl;omega);subst hL;refine Calls.mono (R:=fun e w'=>e=.returned (.slice none 0 0)∧Below w.heap.size w w') ?_ ?_
  ·clear hl;go_enter Tryz.func136,Tryz.ntmps136
   go_wp2_with fail
   refine (zjz none 0 0 [] id gp w.heap.size w (Rd.none_ _ _ _) (zl _) hgp hp).mono ?_;rintro e w1 ⟨rfl,hb1⟩;rw [show zcZ (zbj id) [] = -1 from rfl];go_wp2_with fail
   go_ret;exact ⟨rfl,hb1⟩
  ·rintro e w' ⟨rfl,h⟩;exact ⟨_,rfl,World.ownsRow_nil _ _ _ _,rfl,h.mono hb,fun k hk _=>h.block k hk⟩
 ·have hgb:Blk w g 32 cur.toList.toArray:=by rw [Array.toArray_toList];exact hg
  obtain ⟨sp,e1,e2,e3⟩:=zg1 (L:=L) (cur:=cur.toList) (by rw [Array.length_toList];exact hcs) hnc hct;rw [e1] at hgb;refine (zkq base g n c L sp id gp w hgb e2 e3 hnc hcm hbg hb hgp (fun e=>hne (by rw [e];rfl)) hp).mono ?_;rintro e w' ⟨cur',rfl,h1,h2,h3,h4,h5⟩;have hle:(L.filter (fun y=>!zbj id y)).length ≤ n:=by rw [← e2];exact List.length_filter_le _ _
  exact ⟨_,rfl,⟨by rw [zao],.inr ⟨g,c,cur'.toArray,rfl,hbg,h1,by omega,hcm,by simpa using h2,by simpa using h3⟩⟩,rfl,h4,h5⟩
end
section
open Go.RowKit
set_option maxHeartbeats 1000000 in
theorem zbn (id bal:Int) (A:Option Addr) (n c:Nat) (l:List Int) (m:Int) (B:Nat) (w:World) (h:Rd w B 1 A n c (ints l)) (hB:B ≤ w.heap.size) :
  Calls Tryz.prog 47 #[.agg #[.int .i64 id,.int .i64 bal,.slice A n c],.int .i64 m] w fun e w'=>e=.returned (.int .i64 (zaj id bal l m))∧Below w.heap.size w w':=by
 have hle:=h.le;have hcap:=h.cap;have hl:=h.ofInts;unfold maxLen at hcap;by_cases h1:id < 0∨8 ≤ id
 ·have HE:=zi (show zaj id bal l m=5 by unfold zaj;rw [if_pos h1]);clear hl;by_cases h1':id < 0
  all_goals
   go_enter Tryz.func47,Tryz.ntmps47
   go_wp2_with fail
   go_ret;exact ⟨zay HE.out.symm,(Below.refl _ _).alloc (zl _) _⟩
 ·by_cases h2:m < 1∨2 < m∨(l.length:Int) ≠ m
  ·have HE:=zi (show zaj id bal l m=4 by unfold zaj;rw [if_neg h1,if_pos h2]);have h3:m < 1∨1 ≤ m∧2 < m∨1 ≤ m∧m ≤ 2∧((n:Int) != m)=true:=by
    by_cases a1:m < 1
    ·exact .inl a1
    ·by_cases a2:2 < m
     ·exact .inr (.inl ⟨by omega,a2⟩)
     ·exact .inr (.inr ⟨by omega,by omega,by simp;omega⟩)
   have h5:0 ≤ id∧id < 8:=by omega
   obtain ⟨h6,h7⟩:=h5;clear h1 h2 hl;rcases h3 with h3 | ⟨h3,h4⟩ | ⟨h3,h4,h5⟩;all_goals
    go_enter Tryz.func47,Tryz.ntmps47
    go_wp2_with fail
    go_ret;exact ⟨zay HE.out.symm,(Below.refl _ _).alloc (zl _) _⟩
  ·have h5:0 ≤ id∧id < 8:=by omega
   obtain ⟨h6,h7⟩:=h5;obtain rfl:m=(n:Int):=by omega
   have h8:1 ≤ n∧n ≤ 2:=by omega
   obtain ⟨h8,h9⟩:=h8;have HL:=zi hl;have HN1:=zi h1;have HN2:=zi h2;clear h1 h2 hl;cases hm:zag bal
   ·have HE:=zi (show zaj id bal l n=3 by unfold zaj;rw [if_neg HN1.out,if_neg HN2.out,if_pos hm]);go_enter Tryz.func47,Tryz.ntmps47
    go_wp2_with (go_at_call 19;refine (zaX _ _).mono ?_;rintro e w' ⟨rfl,rfl⟩)
    go_ret;exact ⟨zay HE.out.symm,(Below.refl _ _).alloc (zl _) _⟩
   ·have HE:=zi (show zaj id bal l n=if zde l=false then 3 else 0 by unfold zaj;rw [if_neg HN1.out,if_neg HN2.out,if_neg (by rw [hm];simp)]);go_enter Tryz.func47,Tryz.ntmps47
    go_wp2_with (go_at_call 19;refine (zaX _ _).mono ?_;rintro e w' ⟨rfl,rfl⟩)
    go_loop [35] (fun i=>∃ j:Nat,j ≤ n∧i=.int .i64 j∧Hid (zde (l.take j)=true)) (fun i=>n - (intOf i).toNat)
    case atStart=>exact ⟨0,Nat.zero_le _,rfl,rfl⟩
    case round =>
     obtain ⟨j,hj,rfl,HP⟩:=hrel;by_cases hlt:j < n
     ·obtain ⟨b,o,rfl,hb,z,hz,hc⟩:=h.int hlt;have hbw:b < w.heap.size:=by omega
      have HN:=zi (zoj hz HP.out);cases hp:zfl z
      ·have HE':=zi (show zaj id bal l n=3 by rw [HE.out,if_pos (zpE hz hp)]);clear hz HN;rcases zoi.1 hp with hp' | hp'
       ·go_wp2_with fail
        go_ret;exact ⟨zay HE'.out.symm,(Below.refl _ _).alloc (zl _) _⟩
       ·have hp3:-1000 ≤ z:=by omega
        go_wp2_with fail
        go_ret;exact ⟨zay HE'.out.symm,(Below.refl _ _).alloc (zl _) _⟩
      ·obtain ⟨hp1,hp2⟩:=zgf.1 hp;have HN':=zi (HN.out.trans hp);clear hz HN hp;go_wp2_with fail
       go_round
       case rel=>exact ⟨j + 1,by omega,by go_num,HN'⟩
       case measure=>simp [intOf];omega
     ·have HE':=zi (show zaj id bal l n=0 by
       rw [HE.out,if_neg];have:=HP.out;rw [show j=l.length by have:=HL.out;omega,List.take_length] at this;rw [this];simp)
      go_wp2_with fail
      go_ret;exact ⟨zay HE'.out.symm,(Below.refl _ _).alloc (zl _) _⟩
def zpU (w:World) (id bal:Int) (n:Nat) (xs:List Value) (e:Ending) (w':World):Prop :=
 ∃ A c,e=.returned (.agg #[.int .i64 id,.int .i64 bal,.slice A n c])∧w'.ownsRow w.heap.size 3 1 (.slice A n c) n xs∧Below w.heap.size w w'
set_option maxHeartbeats 1000000 in
theorem zg2 (id bal:Int) (A:Option Addr) (n c:Nat) (l:List Int) (B:Nat) (w:World) (h:Rd w B 1 A n c (ints l)) (hB:B ≤ w.heap.size) (hb:n * 8 ≤ 140737488355328) :
  Calls Tryz.prog 53 #[.agg #[.int .i64 id,.int .i64 bal,.slice A n c]] w (zpU w id bal n (ints l)):=by
 go_enter Tryz.func53,Tryz.ntmps53
 go_wp2_with fail
 refine (zom _ _ _ _ B _ ((h.alloc hB _).alloc (by simp;omega) _) (zhx l) (by simp;omega) hb).mono ?_;rintro e w1 ⟨v1,rfl,hown,hb1⟩;obtain ⟨A1,c1,rfl⟩:=zad hown;obtain ⟨⟨k0,k1,k2⟩,f0,f1,f2⟩:=(((Blk.new w 78 #[.int .i64 id,.int .i64 bal,.slice A n c]).alloc (.cells #[.int .i64 0,.int .i64 0,.slice none 0 0] 78)).below hb1 (by simp;omega)).c3;obtain ⟨⟨j0,j1,j2⟩,g0,g1,g2⟩:=((Blk.new (w.alloc (.cells #[.int .i64 id,.int .i64 bal,.slice A n c] 78)) 78 #[.int .i64 0,.int .i64 0,.slice none 0 0]).below hb1 (by simp)).c3;simp only [World.size_alloc] at j0 j1 j2 g0 g1 g2;have hz:w.heap.size + 1 < w1.heap.size:=by have:=hb1.size;simp at this;omega
 go_wp2_with fail
 refine bodyPost_ret (v:=.agg #[.int .i64 id,.int .i64 bal,.slice A1 n c1]) (by simp [results,Tryz.results53,go_sem, *]) rfl ?_;refine ⟨A1,c1,rfl,zae (base:=_) ?_ (zl _),?_⟩
 ·refine zae (base:=((w.alloc (.cells #[.int .i64 id,.int .i64 bal,.slice A n c] 78)).alloc (.cells #[.int .i64 0,.int .i64 0,.slice none 0 0] 78)).heap.size) ?_ (by simp;omega);repeat (first | exact hown | refine ownsRow_setCell_below ?_ (by simp <;> omega) _)
 ·have h0:Below w.heap.size w w1:=(((Below.refl _ _).alloc (zl _) _).alloc (by simp) _).trans (hb1.mono (by simp;omega));repeat (first | exact h0 | refine Below.setCell ?_ (by simp) _)
end
section
open Go.RowKit
set_option maxHeartbeats 1000000 in
theorem zng (a:Ac) (A A':Option Addr) (c n' c':Nat) (marks:List Int) (B B':Nat) (w:World) (h:Rd w B 1 A a.pos.length c (ints a.pos)) (hB:B ≤ w.heap.size) (h':Rd w B' 1 A' n' c' (ints marks)) (h0:zaj a.id a.bal a.pos marks.length ≠ 0) :
  Calls Tryz.prog 141 #[.agg #[.int .i64 a.id,.int .i64 a.bal,.slice A a.pos.length c],.slice A' n' c'] w fun e w'=>e=.returned (.tuple #[.int .i64 (zbv a marks).1,.int .i64 (zbv a marks).2])∧Below w.heap.size w w':=by
 have HE:=zi (show zbv a marks=(0,zaj a.id a.bal a.pos marks.length) by unfold zbv;rw [if_pos h0]);obtain rfl:=h'.ofInts;have h1:(zaj a.id a.bal a.pos marks.length != 0)=true:=by simpa using h0
 clear h0;go_enter Tryz.func141,Tryz.ntmps141
 go_wp2_with fail
 refine (zbn _ _ _ _ _ _ _ _ _ (h.alloc hB _) (by simp;omega)).mono ?_;rintro e w1 ⟨rfl,hb1⟩;go_wp2_with fail
 go_ret2
 exact ⟨by rw [HE.out];rfl,((Below.refl _ _).alloc (zl _) _).trans (hb1.mono (by simp))⟩
set_option maxHeartbeats 2000000 in
theorem znh (a:Ac) (A A':Option Addr) (c n' c':Nat) (marks:List Int) (B B':Nat) (w:World) (h:Rd w B 1 A a.pos.length c (ints a.pos)) (hB:B ≤ w.heap.size) (h':Rd w B' 1 A' n' c' (ints marks)) (hB':B' ≤ w.heap.size) (h0:zaj a.id a.bal a.pos marks.length=0) :
  Calls Tryz.prog 141 #[.agg #[.int .i64 a.id,.int .i64 a.bal,.slice A a.pos.length c],.slice A' n' c'] w fun e w'=>e=.returned (.tuple #[.int .i64 (zbv a marks).1,.int .i64 (zbv a marks).2])∧Below w.heap.size w w':=by
 have HE:=zi (zl7 h0);obtain rfl:=h'.ofInts;have HC:=zi h0;obtain ⟨_,⟨hl1,hl2⟩,hl3,hbal,_⟩:=zaw h0;have hl:a.pos.length=marks.length:=by omega
 obtain ⟨n,hn⟩:∃ n,marks.length=n:=⟨_,rfl⟩;rw [hn] at hl h' hl1 hl2;have HN:=zi hn;have HL:=zi hl;have hn2:n ≤ 2:=by omega
 rw [hl] at h;rw [hl,hn];clear h0 hl hn hl3 hl1 hl2;go_enter Tryz.func141,Tryz.ntmps141
 go_wp2_with fail
 refine (zbn _ _ _ _ _ _ _ _ _ (h.alloc hB _) (by simp;omega)).mono ?_;rintro e w1 ⟨rfl,hb1⟩;rw [← HN.out,HC.out,HN.out];have HB1:=zi ((Blk.new w 78 #[.int .i64 a.id,.int .i64 a.bal,.slice A n c]).below hb1 (by simp));obtain ⟨⟨b0,b1,b2⟩,e0,e1,e2⟩:=HB1.out.c3;have hw1:w.heap.size < w1.heap.size:=by have:=hb1.size;simp at this;omega
 have h9:Below w.heap.size w w1:=((Below.refl _ _).alloc (zl _) _).trans (hb1.mono (by simp));have hp1:=h.below (h9.mono hB);have hm1:=h'.below (h9.mono hB');clear hb1;go_wp2_with fail
 go_loopw [7,25] (fun l i wr=>∃ (j:Nat) (done:List Int),j ≤ n∧i=.int .i64 j∧Hid (wr.ownsRow w1.heap.size 3 1 l (j + 1) (ints (a.bal :: done)))∧Below w1.heap.size w1 wr∧Hid (done.length=j)∧Hid (zfq a marks done j=zbv a marks)) (fun _ i _=>n - (intOf i).toNat)
 case atStart=>exact ⟨0,[],Nat.zero_le _,rfl,World.ownsRow_lit w1 #[.int .i64 a.bal] 1 (zl _) (by decide) rfl,(Below.refl _ _).alloc (zl _) _,rfl,HE⟩
 case round =>
  obtain ⟨j,done,hj,rfl,HO,hbr,HD,HR⟩:=hrel;have hsz:=hbr.size;obtain ⟨A3,c3,rfl⟩:=zad HO.out;clear b0 b1 b2 e0 e1 e2;by_cases hlt:j < n
  ·obtain ⟨b,o,rfl,hb,z,hz,hc⟩:=(hp1.below (hbr.mono (by omega))).int hlt;obtain ⟨b',o',rfl,hb',k,hk,hc'⟩:=(hm1.below (hbr.mono (by omega))).int hlt;have HZ:=zi hz;have HM:=zi hk;clear hz hk;rcases zcI z k with hw | ⟨hw,_,_,hw1,hw2⟩
   ·have HW:=zi hw;have HE2:=zi (HR.out.symm.trans (zot HZ.out HM.out hw));clear hw;go_wp2_with fail
    refine (zc3 _ _ _).mono ?_;rintro e w' ⟨rfl,rfl⟩;rw [HW.out];go_wp2_with fail
    go_ret2
    exact ⟨by rw [HE2.out];rfl,h9.trans (hbr.mono (by omega))⟩
   ·have HW:=zi hw;have HE2:=zi ((znd (done:=done) HZ.out HM.out hw).symm.trans HR.out);clear hw;go_wp2_with fail
    refine (zc3 _ _ _).mono ?_;rintro e w' ⟨rfl,rfl⟩;rw [HW.out];go_wp2_with (at_builtin;go_must (refine zbe rfl _ _ _ rfl w1.heap.size _ _ _ zhw _ (j + 1) (ints (a.bal :: done)) rfl (HO.out.alloc _) (wr.heap.size + 1) _ _ _ [.int .i64 (z * k)] rfl (Rd.new wr #[.int .i64 (z * k)] 3 1 rfl (by decide)) (zhx [z * k]) (by simp only [maxLen];omega) (by omega) (by simp;omega) ?_);intro v' w2 hown hbel hg _)
    have hb2:Below w1.heap.size w1 w2:=hbr.trans (((Below.refl _ _).alloc hsz _).trans hbel);have HO2:=zi (show w2.ownsRow w1.heap.size 3 1 v' (j + 1 + 1) (ints (a.bal :: (done ++ [z * k]))) by simpa [ints] using hown);clear hown hbel hg;go_wp2_with fail
    go_roundw
    case rel=>exact ⟨j + 1,done ++ [z * k],by omega,by go_num,HO2,hb2,by show _=_;rw [List.length_append,HD.out];rfl,HE2⟩
    case measure=>simp [intOf];omega
  ·have HE2:=zi (HR.out.symm.trans (zou (by have:=HL.out;omega)));go_wp2_with fail
   refine (zdX _ _ _ (a.bal :: done) _ _ (Rd.of_own HO.out)).mono ?_;rintro e w' ⟨rfl,rfl⟩;go_wp2_with fail
   go_ret2
   exact ⟨by rw [HE2.out];rfl,h9.trans (hbr.mono (by omega))⟩
theorem zjG (a:Ac) (A A':Option Addr) (c n' c':Nat) (marks:List Int) (B B':Nat) (w:World) (h:Rd w B 1 A a.pos.length c (ints a.pos)) (hB:B ≤ w.heap.size) (h':Rd w B' 1 A' n' c' (ints marks)) (hB':B' ≤ w.heap.size) :
  Calls Tryz.prog 141 #[.agg #[.int .i64 a.id,.int .i64 a.bal,.slice A a.pos.length c],.slice A' n' c'] w fun e w'=>e=.returned (.tuple #[.int .i64 (zbv a marks).1,.int .i64 (zbv a marks).2])∧Below w.heap.size w w':=by
 by_cases h0:zaj a.id a.bal a.pos marks.length=0
 ·exact znh a A A' c n' c' marks B B' w h hB h' hB' h0
 ·exact zng a A A' c n' c' marks B B' w h hB h' h0
end
end Go.Proofs.YtockodmbhnlheaaGreatDoor
