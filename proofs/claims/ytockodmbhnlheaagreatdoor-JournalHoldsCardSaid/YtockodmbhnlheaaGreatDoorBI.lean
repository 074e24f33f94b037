import Derived.Test.YtockodmbhnlheaaGreatDoorBG
namespace Go.Proofs.YtockodmbhnlheaaGreatDoor
section
open Go.RowKit
theorem zkA {w:World} {g:Nat} {t:TypeId} {cs:Array Value} (h:Blk w g t cs):∀ x ∈ [g],∃ cs,Blk w x t cs:=by
 intro x hx;rw [List.mem_singleton] at hx;subst hx;exact ⟨cs,h⟩
structure IxR (w wr:World) (base D:Nat) (DA:Option Addr) (dc:Nat) (DM:Option Addr) (dk:Nat) (v:Vn) (E:List Ev) (vE:Value) (gi gd gk:Nat) (id:Int) (i:Nat) (AO:Option Addr) (n cO:Nat) (L:List Od) (j:Nat):Prop where
 tel:Teller wr base D DA dc DM dk v E vE
 cap:Caps wr D gi gd gk id i
 own:wr.ownsRow base 32 5 (.slice AO n cO) n (zaa L)
 bel:Below base w wr
 fr:Fr [113,57] [] w wr
 all:(L.take j).all (fun y=>!zb1 id y)=true
set_option maxHeartbeats 1000000 in
theorem zlw (base D:Nat) (DA:Option Addr) (dc:Nat) (DM:Option Addr) (dk:Nat) (v:Vn) (E:List Ev) (vE:Value) (AO:Option Addr) (n cO:Nat) (L:List Od) (id:Int) (i gi gd gk:Nat) (w:World) (hT:Teller w base D DA dc DM dk v E vE) (hC:Caps w D gi gd gk id i)
  (ho:w.ownsRow base 32 5 (.slice AO n cO) n (zaa L)) (hb:base ≤ w.heap.size) (hl:E.length ≤ 1000000) :
  Calls Tryz.prog 160 #[.slice AO n cO,.func (.func 142) #[] #[.pointer (some ⟨gi,0,none⟩),.pointer (some ⟨gd,0,none⟩),.pointer (some ⟨gk,0,none⟩)]] w fun e w'=>e=.returned (.int .i64 (zcZ (zb1 id) L)) ∧
   (∃ vE',Teller w' base D DA dc DM dk v (E ++ zaF i id (L.take (zcZ (zb1 id) L + 1).toNat)) vE')∧Below base w w'∧Fr [113,57] [] w w':=by
 have h:=Rd.of_own ho;have hle:=h.le;have hcap:=h.cap;have HL:=zi (zdW h);have HR0:=zi (show IxR w w base D DA dc DM dk v E vE gi gd gk id i AO n cO L 0 from ⟨hT,hC,ho,Below.refl _ _,Fr.refl _ _ _,rfl⟩);unfold maxLen at hcap;clear h hT hC ho;go_enter Tryz.func160,Tryz.ntmps160
 go_wp2_with fail
 go_loopw [8] (fun q wr=>∃ (j:Nat) (vE1:Value),j ≤ n∧q=.int .i64 j∧Hid (IxR w wr base D DA dc DM dk v E vE1 gi gd gk id i AO n cO L j)) (fun q _=>n - (intOf q).toNat)
 case atStart=>exact ⟨0,vE,Nat.zero_le _,rfl,HR0⟩
 case round =>
  obtain ⟨j,vE1,hj,rfl,HR⟩:=hrel;have hws:=HR.out.fr.size;by_cases hlt:j < n
  ·obtain ⟨b,o',x,rfl,hbb,hx,k0,k1,k2,k3,k4⟩:=zdU (Rd.of_own HR.out.own) hlt;have HX:=zi hx;clear hx;go_wp2_with fail
   refine (zkd base D DA dc DM dk v E vE1 x id i gi gd gk wr HR.out.tel HR.out.cap (by omega) hl).mono ?_;rintro e w1 ⟨rfl,⟨vE2,ht2⟩,hL2,hF2⟩;have HT2:=zi ht2;have HL2:=zi (HR.out.bel.trans hL2);have HF2:=zi (HR.out.fr.trans hF2);have HC2:=zi (HR.out.cap.fr hF2 (by decide) (by decide) (by simp));have HO2:=zi (hF2.own HR.out.own (by decide) (by simp));clear ht2 hL2 hF2;rcases zcr (zb1 id x) with hp | hp
   ·have HG:=zi (zob (i:=i) (id:=id) (o:=x) (by simpa [zb1] using hp));have HN:=zi (show IxR w w1 base D DA dc DM dk v E vE2 gi gd gk id i (some ⟨b,o',none⟩) n cO L (j + 1) from ⟨by have:=HT2.out;rw [HG.out,List.append_nil] at this;exact this,HC2.out,HO2.out,HL2.out,HF2.out,zgt (p:=zb1 id) HX.out hp HR.out.all⟩);rw [hp];go_wp2_with fail
    go_roundw
    case rel=>exact ⟨j + 1,vE2,by omega,by go_num,HN⟩
    case measure=>simp [intOf];omega
   ·have HE:=zi (zfO (p:=zb1 id) HX.out hp HR.out.all);have HG:=zi (show zaF i id (L.take (zcZ (zb1 id) L + 1).toNat)=zaF i id [x] by
     rw [HE.out,show ((j:Int) + 1).toNat=j + 1 by omega,zls HX.out,zmG HR.out.all,List.nil_append])
    rw [hp];go_wp2_with fail
    go_ret;exact ⟨zay HE.out.symm,⟨vE2,by rw [HG.out];exact HT2.out⟩,HL2.out,HF2.out⟩
  ·have hjn:j=n:=by omega
   have HE:=zi (zgh (p:=zb1 id) (L:=L) (by have:=HR.out.all;rw [hjn,List.take_of_length_le (by rw [HL.out];exact zl _)] at this;exact this));have HG:=zi (show zaF i id (L.take (zcZ (zb1 id) L + 1).toNat) = [] by rw [HE.out];rfl);clear hjn;go_wp2_with fail
   go_ret;exact ⟨zay HE.out.symm,⟨vE1,by rw [HG.out,List.append_nil];exact HR.out.tel⟩,HR.out.bel,HR.out.fr⟩
structure StrRow (w wr:World) (base D:Nat) (DA:Option Addr) (dc:Nat) (DM:Option Addr) (dk:Nat) (v:Vn) (E:List Ev) (id:Int) (i g n:Nat) (L:List Od) (sp:List Value) (a b t:Nat) (R:List Od) (vE:Value):Prop where
 tel:Teller wr base D DA dc DM dk v (E ++ zaF i id (L.take t)) vE
 bel:Below base w wr
 fr:Fr [113,57] [g] w wr
 blk:Blk wr g 32 (zaa R ++ sp).toArray
 len:R.length=n
 lo:R.take a=(L.take b).filter (fun y=>!zb1 id y)
 hi:R.drop b=L.drop b
section
variable {w wr W1 w2:World} {base D dc dk i g n a b t:Nat} {DA DM:Option Addr} {v:Vn} {E:List Ev} {id:Int} {L R:List Od} {sp:List Value} {vE vE':Value} {x:Od}
theorem StrRow.next (h:StrRow w wr base D DA dc DM dk v E id i g n L sp a b b R vE) (hx:L[b]?=some x) (hb1:Below wr.heap.size wr W1) (hbase:base ≤ wr.heap.size) (hb:Below base W1 w2) (hf:Fr [113,57] [] W1 w2)
  (ht:Teller w2 base D DA dc DM dk v (E ++ zaF i id (L.take b) ++ zaF i id [x]) vE'):StrRow w w2 base D DA dc DM dk v E id i g n L sp a b (b + 1) R vE':=by
 refine ⟨?_,(h.bel.trans (hb1.mono hbase)).trans hb,(h.fr.below hb1).trans (hf.mono (fun _ h=>h) (by simp)),(h.blk.below hb1 h.blk.lt).fr hf (by decide) (by simp),h.len,h.lo,h.hi⟩;rw [zls hx,← List.append_assoc];exact ht
theorem StrRow.skip (h:StrRow w wr base D DA dc DM dk v E id i g n L sp a b t R vE) (hx:L[b]?=some x) (hp:zb1 id x=true):StrRow w wr base D DA dc DM dk v E id i g n L sp a (b + 1) t R vE :=
 ⟨h.tel,h.bel,h.fr,h.blk,h.len,by rw [ziS hx hp];exact h.lo,zgI h.hi⟩
theorem StrRow.keep (h:StrRow w wr base D DA dc DM dk v E id i g n L sp a b t R vE) (hx:L[b]?=some x) (hp:zb1 id x=false) (hab:a < b) (hbn:b < n) (hbg:base ≤ g) :
  StrRow w (((((wr.setCell ⟨g,a * 5,none⟩ (.int .i64 x.id)).setCell ⟨g,a * 5 + 1,none⟩ (.int .i64 x.acc)).setCell ⟨g,a * 5 + 2,none⟩ (.int .i64 x.side)).setCell ⟨g,a * 5 + 3,none⟩ (.int .i64 x.price)).setCell ⟨g,a * 5 + 4,none⟩ (.int .i64 x.qty)) base D DA dc DM dk v E id i g n L sp (a + 1) (b + 1) t (R.set a x) vE:=by
 have hl:=h.len;have hF:Fr [] [g] wr (((((wr.setCell ⟨g,a * 5,none⟩ (.int .i64 x.id)).setCell ⟨g,a * 5 + 1,none⟩ (.int .i64 x.acc)).setCell ⟨g,a * 5 + 2,none⟩ (.int .i64 x.side)).setCell ⟨g,a * 5 + 3,none⟩ (.int .i64 x.price)).setCell ⟨g,a * 5 + 4,none⟩ (.int .i64 x.qty)) :=
  (((((Fr.refl _ _ _).set h.blk (.inr (by simp)) _ _).set (h.blk.set_ _ _) (.inr (by simp)) _ _).set ((h.blk.set_ _ _).set_ _ _) (.inr (by simp)) _ _).set (((h.blk.set_ _ _).set_ _ _).set_ _ _) (.inr (by simp)) _ _).set ((((h.blk.set_ _ _).set_ _ _).set_ _ _).set_ _ _) (.inr (by simp)) _ _
 refine ⟨h.tel.fr hF (by simp) (by simp) (zkA h.blk),?_,h.fr.trans (hF.mono (by simp) (fun _ h=>h)),?_,by rw [List.length_set];exact hl,?_,?_⟩
 ·exact Below.setCell (Below.setCell (Below.setCell (Below.setCell (Below.setCell h.bel hbg _) hbg _) hbg _) hbg _) hbg _
 ·have:=((((h.blk.set_ (a * 5) (.int .i64 x.id)).set_ (a * 5 + 1) (.int .i64 x.acc)).set_ (a * 5 + 2) (.int .i64 x.side)).set_ (a * 5 + 3) (.int .i64 x.price)).set_ (a * 5 + 4) (.int .i64 x.qty);rw [znS x sp (by omega)] at this;exact this
 ·rw [ziR hx hp,← h.lo,List.take_add_one];congr 1
  ·rw [List.take_set_of_le (zl _)]
  ·rw [List.getElem?_set_self (by omega)];rfl
 ·rw [List.drop_set_of_lt (by omega)];exact zgI h.hi
end
def zmJ (w:World) (base D:Nat) (DA:Option Addr) (dc:Nat) (DM:Option Addr) (dk:Nat) (v:Vn) (E:List Ev) (id:Int) (i:Nat) (AO:Option Addr) (L:List Od) (e:Ending) (w':World):Prop :=
 ∃ c',e=.returned (.slice AO (zbu id L).length c')∧w'.ownsRow base 32 5 (.slice AO (zbu id L).length c') (zbu id L).length (zaa (zbu id L))∧(∃ vE',Teller w' base D DA dc DM dk v (E ++ zaF i id L) vE')∧Below base w w'∧Fr [113,57] (ab AO) w w'
set_option maxHeartbeats 4000000 in
set_option maxRecDepth 100000 in
theorem zlT (base D:Nat) (DA:Option Addr) (dc:Nat) (DM:Option Addr) (dk:Nat) (v:Vn) (E:List Ev) (vE:Value) (g n c:Nat) (L:List Od) (sp:List Value) (id:Int) (i gi gd gk:Nat) (w:World) (hT:Teller w base D DA dc DM dk v E vE) (hC:Caps w D gi gd gk id i)
  (hg:Blk w g 32 (zaa L ++ sp).toArray) (hL:L.length=n) (hsp:sp.length=(c - n) * 5) (hnc:n ≤ c) (hc:c ≤ maxLen) (hbg:base ≤ g) (hb:base ≤ w.heap.size) (hl:E.length + L.length ≤ 1000000) :
  Calls Tryz.prog 136 #[.slice (some ⟨g,0,none⟩) n c,.func (.func 142) #[] #[.pointer (some ⟨gi,0,none⟩),.pointer (some ⟨gd,0,none⟩),.pointer (some ⟨gk,0,none⟩)]] w (zmJ w base D DA dc DM dk v E id i (some ⟨g,0,none⟩) L):=by
 have hgw:=hg.lt;have hown:w.ownsRow base 32 5 (.slice (some ⟨g,0,none⟩) n c) n (zaa L):=by
  refine ⟨by rw [zao,hL],.inr ⟨g,c,(zaa L ++ sp).toArray,rfl,hbg,hg,hnc,hc,?_,?_⟩⟩
  ·rw [List.size_toArray,List.length_append,zao,hL,hsp];omega
  ·rw [List.toList_toArray,← hL,← zao,List.take_left'];rfl
 have HO:=zi hown;have HG:=zi hg;have HL:=zi hL;have HSP:=zi hsp;have HC:=zi hC;have HT:=zi hT;unfold maxLen at hc;clear hg hL hsp hown hT hC;go_enter Tryz.func136,Tryz.ntmps136
 go_wp2_with fail
 refine (zlw base D DA dc DM dk v E vE (some ⟨g,0,none⟩) n c L id i gi gd gk w HT.out HC.out HO.out hb (by omega)).mono ?_;rintro e w1 ⟨rfl,⟨vE1,ht1⟩,hL1,hF1⟩;have HF1:=zi hF1;have HL1:=zi hL1;have hs1:=hF1.size;have HG1:=zi (HG.out.fr hF1 (by decide) (by simp));have HO1:=zi (hF1.own HO.out (by decide) (by simp));have HC1:=zi (HC.out.fr hF1 (by decide) (by decide) (by simp));rcases zja (p:=zb1 id) (L:=L) with ⟨h1,h2⟩ | ⟨⟨k,h1,hk⟩,h2⟩
 ·have HF:=zi (show zbu id L=L from zjF (p:=zb1 id) h2);have HGE:=zi (show zaF i id L = [] from zmG (by rw [List.any_eq_false] at h2;rw [List.all_eq_true];intro x hx;simpa using h2 x hx));rw [h1] at ht1;have HT1:=zi (show Teller w1 base D DA dc DM dk v E vE1 by have:=ht1;rw [show zaF i id (L.take ((-1:Int) + 1).toNat) = [] from rfl,List.append_nil] at this;exact this);rw [h1];clear h1 h2 ht1 hL1 hF1;go_wp2_with fail
  go_ret;exact ⟨c,by rw [HF.out,HL.out];rfl,by rw [HF.out,HL.out];exact HO1.out,⟨vE1,by rw [HGE.out,List.append_nil];exact HT1.out⟩,HL1.out,HF1.out.mono (fun _ h=>h) (by simp)⟩
 ·obtain ⟨x0,hx0,hpx0,hlo⟩:=zjE h1;have HX0:=zi hx0;have HLO:=zi hlo;have HPX:=zi hpx0;have hk':k < n:=by rw [← HL.out];exact hk
  rw [h1,show ((k:Int) + 1).toNat=k + 1 by omega] at ht1;have HS0:=zi (show StrRow w w1 base D DA dc DM dk v E id i g n L sp k (k + 1) (k + 1) L vE1 from
   StrRow.skip (x:=x0) ⟨ht1,hL1,hF1.mono (fun _ h=>h) (by simp),HG1.out,HL.out,hlo.symm,rfl⟩ hx0 hpx0)
  rw [h1];clear h1 h2 hx0 hlo hpx0 hk ht1 hL1 hF1;have hz1:¬ ((k:Int) = -1):=by omega
  have hz2:((k:Int) == -1)=false:=by simp
  go_wp2_with fail
  go_loopw [5,6] (fun p q wr=>∃ (a b:Nat) (R:List Od) (vE2:Value),p=.int .i64 a∧q=.int .i64 b∧a < b∧b ≤ n∧Hid (StrRow w wr base D DA dc DM dk v E id i g n L sp a b b R vE2)) (fun _ q _=>n - (intOf q).toNat)
  case atStart=>exact ⟨k,k + 1,L,vE1,rfl,by go_num,by omega,by omega,HS0⟩
  case round =>
   obtain ⟨a,b,R,vE2,rfl,rfl,hab,hbn,HD⟩:=hrel;have hws:=HD.out.fr.size;have hgr:=HD.out.blk.lt;by_cases hlt:b < n
   ·obtain ⟨x,hx⟩:∃ x,L[b]?=some x:=⟨_,List.getElem?_eq_getElem (by rw [HL.out];exact hlt)⟩;have hxm:R[b]?=some x:=(znT HD.out.hi).trans hx;obtain ⟨⟨k0,k1,k2,k3,k4⟩,_⟩:=zjD HD.out.blk hxm;have HX:=zi hx;have HCr:=zi (HC.out.fr HD.out.fr (by decide) (by decide) (zkA HG.out));clear hx hxm;go_wp2_with fail
    refine zak ?_;intro W1 hW1;have hB1:Below wr.heap.size wr W1:=by rw [hW1];exact (Below.refl _ _).alloc (zl _) _
    have X1:Blk W1 wr.heap.size 32 #[.int .i64 x.id,.int .i64 x.acc,.int .i64 x.side,.int .i64 x.price,.int .i64 x.qty]:=by rw [hW1];exact Blk.new wr _ _
    have hs2:=hB1.size;have hlen:(E ++ zaF i id (L.take b)).length ≤ 1000000:=by
     have h1:=zjn (i:=i) (id:=id) (l:=L.take b);rw [List.length_take] at h1;rw [List.length_append];omega
    have HB1:=zi hB1;clear hW1 hB1 k0 k1 k2 k3 k4;refine (zkd base D DA dc DM dk v _ vE2 x id i gi gd gk W1 (HD.out.tel.below HB1.out) (HCr.out.below HB1.out) (by omega) hlen).mono ?_;rintro e w2 ⟨rfl,⟨vE3,ht3⟩,hL3,hF3⟩;have HD2:=zi (HD.out.next HX.out HB1.out (by omega) hL3 hF3 ht3);have X2:=X1.fr hF3 (by decide) (by simp);have y1:=X2.lt;have y2:=HD2.out.blk.lt;clear ht3 hL3 hF3 HD X1;obtain ⟨⟨l0,l1,l2,l3,l4⟩,_⟩:=X2.c5;rcases zcr (zb1 id x) with hpx | hpx
    ·have HN:=zi (HD2.out.keep HX.out hpx hab hlt hbg);rw [hpx];clear hpx;have hml:R.length=n:=HD2.out.len;obtain ⟨y,hy⟩:∃ y,R[a]?=some y:=⟨_,List.getElem?_eq_getElem (by omega)⟩;obtain ⟨⟨m0,m1,m2,m3,m4⟩,f0,f1,f2,f3,f4⟩:=zjD HD2.out.blk hy;clear hy hml;go_wp2_with fail
     go_roundw
     case rel=>exact ⟨a + 1,b + 1,_,_,by go_num,by go_num,by omega,by omega,HN⟩
     case measure=>simp [intOf];omega
    ·have HN:=zi (HD2.out.skip HX.out hpx);rw [hpx];clear hpx;go_wp2_with fail
     go_roundw
     case rel=>exact ⟨a,b + 1,_,_,rfl,by go_num,by omega,by omega,HN⟩
     case measure=>simp [intOf];omega
   ·have hbe:b=n:=by omega
    have HF:=zi (show (zbu id L).length=a∧R.take a=zbu id L by
     have h1:=HD.out.lo;rw [hbe,show L.take n=L from List.take_of_length_le (by rw [HL.out];exact zl _)] at h1;refine ⟨?_,h1⟩;have h2:=congrArg List.length h1;rw [List.length_take,HD.out.len] at h2;have h3:(L.filter (fun y=>!zb1 id y)).length=(zbu id L).length:=rfl;omega)
    have HBK:=zi HD.out.blk;have HCL:=zi (show (zaa R ++ sp).length=c * 5 by rw [List.length_append,zao,HD.out.len,HSP.out];omega);have HB:=zi HD.out.bel;have HFr:=zi HD.out.fr;have HTE:=zi (show Teller wr base D DA dc DM dk v (E ++ zaF i id L) vE2 by
     have:=HD.out.tel;rw [hbe,show L.take n=L from List.take_of_length_le (by rw [HL.out];exact zl _)] at this;exact this)
    have HTK:=zi (show ∀ Z:List Value,Z.length=(n - a) * 5→(splice (zaa R ++ sp) (a * 5) Z).take (a * 5)=zaa (R.take a) by
     intro Z _;unfold splice;rw [List.take_append_of_le_length (by rw [List.length_take,HCL.out];omega),List.take_take,Nat.min_self,List.take_append_of_le_length (by rw [zao,HD.out.len];omega),zew])
    have HFT:=zi (show a * 5 + (n - a) * 5 ≤ (zaa R ++ sp).length by rw [HCL.out];omega);subst hbe;clear HD;have d1:¬ (c=a):=by omega
    have d2:a ≤ b:=by omega
    have d3:(a:Int) ≤ (b:Int):=by omega
    have d4:a ≤ c:=by omega
    have d5:(a:Int) ≤ (c:Int):=by omega
    go_wp2_with (refine zgb rfl (.tmp 38) 81 rfl 32 5 40 zcS _ zkp (zbT _) g (a * 5) (b - a) (c - a) (by rfl) (by omega) (a * 5) rfl (zaa R ++ sp) 32 HBK.out HFT.out base wr (Below.refl _ _) hbg ?_;intro w2 Z hZ HG2 hB2 HO2)
    have HZ:=zi hZ;clear hZ;have hF2:Fr [] [g] wr w2:=⟨hB2.size,fun y t cs hy _ hyg=>(HO2.out y (by simpa using hyg)).trans hy⟩;have HT2:=zi (HTE.out.fr hF2 (by simp) (by simp) (zkA HBK.out));have HF2:=zi (HFr.out.trans (hF2.mono (by simp) (fun _ h=>h)));clear hF2;go_wp2_with fail
    go_ret;refine ⟨c,by rw [HF.out.1];rfl,⟨by rw [zao],.inr ⟨g,c,_,rfl,hbg,HG2.out,by rw [HF.out.1];omega,by unfold maxLen;omega,?_,?_⟩⟩,⟨vE2,HT2.out⟩,HB.out.trans hB2,HF2.out⟩
    ·rw [List.size_toArray,length_splice _ _ _ (by rw [HZ.out];exact HFT.out),HCL.out]
    ·rw [HF.out.1,List.toList_toArray,HTK.out Z HZ.out,HF.out.2]
theorem zi5 (base D:Nat) (DA:Option Addr) (dc:Nat) (DM:Option Addr) (dk:Nat) (v:Vn) (E:List Ev) (vE:Value) (AO:Option Addr) (c:Nat) (L:List Od) (id:Int) (i gi gd gk:Nat) (w:World) (hT:Teller w base D DA dc DM dk v E vE) (hC:Caps w D gi gd gk id i)
  (ho:w.ownsRow base 32 5 (.slice AO L.length c) L.length (zaa L)) (hb:base ≤ w.heap.size) (hl:E.length + L.length ≤ 1000000) :
  Calls Tryz.prog 136 #[.slice AO L.length c,.func (.func 142) #[] #[.pointer (some ⟨gi,0,none⟩),.pointer (some ⟨gd,0,none⟩),.pointer (some ⟨gk,0,none⟩)]] w (zmJ w base D DA dc DM dk v E id i AO L):=by
 have HOW:=zi ho;obtain ⟨hlen,⟨hv,h0⟩ | ⟨g,cap,cur,hv,hbg,hg,hnc,hcm,hcs,hct⟩⟩:=ho
 ·have h00:L = []:=List.length_eq_zero_iff.1 h0;subst h00;have HT:=zi hT;have HC:=zi hC;injection hv with hv1 hv2 hv3;subst hv1;subst hv3;clear hT hC hlen h0;go_enter Tryz.func136,Tryz.ntmps136
  go_wp2_with fail
  refine (zlw base D DA dc DM dk v E vE none 0 0 [] id i gi gd gk w HT.out HC.out HOW.out hb (by simpa using hl)).mono ?_;rintro e w1 ⟨rfl,⟨vE1,ht1⟩,hL1,hF1⟩;have HT1:=zi ht1;have HO1:=zi (hF1.own HOW.out (by decide) (by simp));have hi1:zcZ (zb1 id) [] = -1:=rfl;rw [hi1];clear ht1 hi1;go_wp2_with fail
  go_ret;exact ⟨0,rfl,HO1.out,⟨vE1,HT1.out⟩,hL1,hF1.mono (fun _ h=>h) (by simp)⟩
 ·injection hv with hv1 hv2 hv3;subst hv1;subst hv3;obtain ⟨sp,hsp,h1,h2⟩:=zg1 (L:=L) (cur:=cur.toList) (n:=L.length) (c:=c) (by rw [Array.length_toList];exact hcs) hnc hct;exact zlT base D DA dc DM dk v E vE g L.length c L sp id i gi gd gk w hT hC (by rw [← hsp,Array.toArray_toList];exact hg) rfl h2 hnc hcm hbg hb hl
end
end Go.Proofs.YtockodmbhnlheaaGreatDoor
