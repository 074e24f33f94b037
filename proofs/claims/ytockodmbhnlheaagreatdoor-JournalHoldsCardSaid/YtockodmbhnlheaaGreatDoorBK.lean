import Derived.Test.YtockodmbhnlheaaGreatDoorBG
namespace Go.Proofs.YtockodmbhnlheaaGreatDoor
section
open Go.RowKit
theorem zsi (l:List Int) (j:Nat) (z:Int):(ints l).set j (.int .i64 z)=ints (l.set j z):=by unfold ints;rw [List.map_set]
theorem ztN {w:World} {base k n c g j:Nat} {e:TypeId} {xs:List Value} (h:w.ownsRow base e k (.slice (some ⟨g,0,none⟩) n c) n xs) (hn:j < n):w.frozen? ⟨g,j,none⟩=false:=by
 obtain ⟨g',cs,e1,_,hb⟩:=zdk h (by omega);injection e1 with e1;injection e1 with e1;subst e1;exact hb.frozen _
theorem zpl {l:List Int} (h:zde l=true):∀ n ∈ l,-1000 ≤ n∧n ≤ 1000:=by
 intro n hn;unfold zde at h;rw [List.all_eq_true] at h;have:=h n hn;unfold zfl at this;simpa using this
structure ChR (w wr:World) (v:Vn) (A:Option Addr) (c:Nat) (M:Option Addr) (k nm:Nat) (gp:Nat) (P:List Int):Prop where
 blk:Blk wr w.heap.size 25 #[.slice A v.accs.length c,.slice M nm k,.int .i64 v.ins,.int .i64 v.resid,.int .i64 v.next,.int .i64 v.inn,.int .i64 v.out]
 row:wr.ownsRow w.heap.size 3 1 (.slice (some ⟨gp,0,none⟩) nm nm) nm (ints P)
 low:Below w.heap.size w wr
theorem ChR.below {w wr W:World} {v:Vn} {A M:Option Addr} {c k nm gp:Nat} {P:List Int} (h:ChR w wr v A c M k nm gp P) (hb:Below wr.heap.size wr W):ChR w W v A c M k nm gp P :=
 ⟨h.blk.below hb h.blk.lt,zaf h.row hb (zl _),h.low.trans (hb.mono h.low.size)⟩
theorem ChR.put {w wr:World} {v:Vn} {A M:Option Addr} {c k nm gp j:Nat} {P:List Int} {z:Int} (h:ChR w wr v A c M k nm gp P) (hg:w.heap.size < gp):ChR w (wr.setCell ⟨gp,j,none⟩ (.int .i64 z)) v A c M k nm gp (P.set j z) :=
 ⟨h.blk.far (p:=⟨gp,j,none⟩) (by dsimp only;omega) _,by rw [← zsi];exact zcp h.row _ _,h.low.setCell (by dsimp only;omega) _⟩
set_option maxHeartbeats 8000000 in
set_option maxRecDepth 100000 in
theorem znE (v:Vn) (A M:Option Addr) (c k:Nat) (B:Nat) (w:World) (h:VnR w B A c M k v) (hB:B ≤ w.heap.size) (hg:zpf v) :
  Calls Tryz.prog 27 #[.agg #[.slice A v.accs.length c,.slice M v.mks.length k,.int .i64 v.ins,.int .i64 v.resid,.int .i64 v.next,.int .i64 v.inn,.int .i64 v.out]] w fun e w'=>e=.returned (.int .i64 (zbi v))∧Below w.heap.size w w':=by
 have HV:=zi h;have hcap:=h.mks.cap;have hle:=h.mks.le;have hcap2:=h.accs.cap;have hle2:=h.accs.le;unfold maxLen at hcap hcap2;clear h;obtain ⟨hc1,r⟩:=hg;have HC1:=zi hc1;obtain ⟨c2,c3,c4⟩:1 ≤ v.mks.length∧v.mks.length ≤ 2∧v.accs.length ≤ 8:=by omega
 clear hc1;have HR:=zi (zqx HC1.out r);have HNR:=zi r;have hr:0 ≤ v.ins∧0 ≤ v.resid∧1 ≤ v.next∧v.next ≤ 100000∧0 ≤ v.inn∧0 ≤ v.out:=by omega
 obtain ⟨m1,m2,m3,m4⟩:zag v.inn=true∧zag v.out=true∧zag v.ins=true∧zag v.resid=true:=by
  refine ⟨?_,?_,?_,?_⟩ <;> (rw [← Bool.not_eq_false];intro e;exact r (by simp [e]))
 obtain ⟨h1,h2,h3,h4,h5,h6⟩:=hr;have b1:=zaK.1 m1;have b2:=zaK.1 m2;have b3:=zaK.1 m3;have b4:=zaK.1 m4;obtain ⟨-,b1⟩:=b1;obtain ⟨-,b2⟩:=b2;obtain ⟨-,b3⟩:=b3;obtain ⟨-,b4⟩:=b4;clear r;obtain ⟨nm,hnm⟩:∃ nm,nm=v.mks.length:=⟨_,rfl⟩;have HNM:=zi hnm;have hz:=zle nm (by omega);rw [← hnm] at c2 c3 hle ⊢;clear hnm;go_enter Tryz.func27,Tryz.ntmps27
 go_wp2_with fail
 refine (zaX _ _).mono ?_;rintro e w1 ⟨rfl,rfl⟩;go_wp2_with fail
 refine (zaX _ _).mono ?_;rintro e w1 ⟨rfl,rfl⟩;go_wp2_with fail
 refine (zaX _ _).mono ?_;rintro e w1 ⟨rfl,rfl⟩;go_wp2_with fail
 refine (zaX _ _).mono ?_;rintro e w1 ⟨rfl,rfl⟩;go_wp2_with fail
 refine zbr ?_;intro W0 hW0;have HR0:=zi (show ChR w W0 v A c M k nm (w.heap.size + 1) (zcQ nm v.accs 0) from by
  rw [hW0,zoV];have hz:=zpe (w.alloc (.cells #[.slice A v.accs.length c,.slice M nm k,.int .i64 v.ins,.int .i64 v.resid,.int .i64 v.next,.int .i64 v.inn,.int .i64 v.out] 25)) w.heap.size nm (by simp) (by simp only [maxLen];omega);exact ⟨(Blk.new w _ _).alloc _,by simpa using hz,((Below.refl _ _).alloc (zl _) _).alloc (by simp) _⟩)
 have hs0:w.heap.size + 1 < W0.heap.size:=by rw [hW0];simp
 have HF0:=zi (zrU nm v.accs);clear hW0;go_loopw [90,3] (fun i z wr=>∃ (j:Nat) (al:Int),j ≤ v.accs.length∧i=.int .i64 j∧z=.int .i64 al∧Hid (al=v.ins + v.resid + zbd (v.accs.take j))∧W0.heap.size ≤ wr.heap.size∧Hid (ChR w wr v A c M k nm (w.heap.size + 1) (zcQ nm v.accs j))∧Hid (zgS nm v.accs j)) (fun i _ _=>v.accs.length - (intOf i).toNat)
 case atStart=>exact ⟨0,v.ins + v.resid,by omega,rfl,by go_num,zi (by simp [zbd]),zl _,HR0,HF0⟩
 case round =>
  obtain ⟨j,al,hj,rfl,rfl,HAL,hws,HRJ,HF⟩:=hrel;have hal:-8000000000000 ≤ al∧al ≤ 10000000000000:=by have:=HAL.out;have:=(zj3 HF.out (by omega)).1;omega
  obtain ⟨hal1,hal2⟩:=hal;by_cases hlt:j < v.accs.length
  ·obtain ⟨b,o,a,rfl,hb,ha,A2,c5,q0,q1,q2,q3,q4⟩:=zfZ (HV.out.accs.below (HRJ.out.low.mono hB)) hlt;have HA:=zi ha;have HPO:=zi q3;have hbw:b < wr.heap.size:=by omega
   obtain ⟨ea,hea⟩:∃ ea,zaj a.id a.bal a.pos nm=ea:=⟨_,rfl⟩;have HEA:=zi hea;clear ha q3 hea;have k1:wr.cell? ⟨w.heap.size,1,none⟩=some (.slice M nm k):=HRJ.out.blk.cell 1;have y1:=HRJ.out.blk.lt;go_wp2_with fail
   refine zak ?_;intro W1 hW1;have hB1:Below wr.heap.size wr W1:=by rw [hW1];first | exact zbE _ _ | exact ((zbE wr _).setCell (zl _) _)
   have Y1:Blk W1 wr.heap.size 78 #[.int .i64 a.id,.int .i64 a.bal,.slice A2 a.pos.length c5]:=by rw [hW1];exact Blk.new wr _ _
   have hs1:=hB1.size;clear hW1 q0 q1 q2 k1;refine (zbn a.id a.bal A2 a.pos.length c5 a.pos nm B W1 (HPO.out.below (hB1.mono (by omega))) (by omega)).mono ?_;rintro e W2 ⟨rfl,hb2⟩;rw [HEA.out];have hB2:=hB1.trans (hb2.mono hs1);have Y2:=Y1.below hb2 Y1.lt;have hs2:=hb2.size;clear hb2 hB1 Y1;have HR2:=zi (HRJ.out.below hB2);by_cases he:ea=0
   rotate_left
   ·have he':(ea != 0)=true:=by simpa using he
    have HE:=zi (zlk HR.out (by rw [← HNM.out];exact ztf HF.out HA.out HEA.out he) he);clear he;go_wp2_with fail
    go_ret;exact ⟨zay HE.out.symm,HR2.out.low⟩
   subst he;obtain ⟨-,-,hpl,hbal,hpk⟩:=zaw HEA.out;have y2:=Y2.lt;have yv:=HR2.out.blk.lt;obtain ⟨bt,hbt⟩:∃ bt,bt=decide (∃ q ∈ zeg v.accs j,a.id ≤ q):=⟨_,rfl⟩;have HBT:=zi hbt;have hpl':a.pos.length=nm:=by omega
   go_upto_region 13 with (fail)
   go_cut [116] (fun t wx=>t=.bool bt∧Below W2.heap.size W2 wx)
   case first =>
    obtain ⟨⟨q0,q1,q2⟩,-⟩:=Y2.c3;have k0:W2.cell? ⟨w.heap.size,0,none⟩=some (.slice (some ⟨b,o,none⟩) v.accs.length c):=HR2.out.blk.cell 0;have hjz:j=0∨∃ p,j=p + 1:=by cases j with
     | zero=>exact .inl rfl
     | succ p=>exact .inr ⟨p,rfl⟩
    rcases hjz with rfl | ⟨p,rfl⟩
    ·have HB:=zi (show bt=false by rw [hbt];simp [znt]);go_quiet (fail)
     refine zau ?_;intro W3 hW3;have hB3:Below W2.heap.size W2 W3:=by rw [hW3];exact zac (Below.refl _ _) _
     clear hW3;go_wp2_with fail
     go_meet
     exact ⟨by rw [HB.out],hB3⟩
    ·obtain ⟨b',o',a',hbo,hb',ha',A3,c3',p0,-⟩:=zfZ (i:=p) (HV.out.accs.below (HR2.out.low.mono hB)) (by omega);injection hbo with hbo;injection hbo with e1 e2;subst e1;subst e2;have HB:=zi (show bt=decide (a.id ≤ a'.id) by rw [hbt];exact decide_eq_decide.2 (zqs ha'));have hbw2:b < W2.heap.size:=by omega
     have hp0:(0:Int) ≤ (p:Int):=by omega
     have hp1:(p:Int) < (v.accs.length:Int):=by omega
     have hp2:decide ((0:Int) < ((p + 1:Nat):Int))=true:=decide_eq_true (by omega);clear ha';go_quiet (fail)
     refine zau ?_;intro W3 hW3;have hB3:Below W2.heap.size W2 W3:=by rw [hW3];exact zac (Below.refl _ _) _
     clear hW3;go_wp2_with fail
     go_meet
     exact ⟨by rw [HB.out],hB3⟩
   case rest=>as_aux_lemma =>
    obtain ⟨rfl,hB3⟩:=hcut;obtain ⟨W3,rfl⟩:∃ W3,W3=wc:=⟨wc,rfl⟩;have HR3:=zi (HR2.out.below hB3);have hs3:=hB3.size;rcases zb5 bt with rfl | rfl
    ·have HE:=zi (zlk (e:=6) HR.out (by rw [← HNM.out];exact zqv HF.out HA.out HEA.out (of_decide_eq_true HBT.out.symm)) (by omega));go_wp2_with fail
     go_ret;exact ⟨zay HE.out.symm,HR3.out.low⟩
    have HF2:=zi (zrV HF.out HA.out HEA.out (of_decide_eq_false HBT.out.symm));have Y3:=Y2.below hB3 y2;obtain ⟨⟨q0,q1,q2⟩,-⟩:=Y3.c3;obtain ⟨hbal1,hbal2⟩:=hbal;have y3:=Y3.lt;have hPl:=zff nm v.accs j;have HPB:=zi (zj3 HF.out (by omega)).2;have HPK:=zi hpk;have HAL2:=zi (show al + a.bal=v.ins + v.resid + zbd (v.accs.take (j + 1)) by rw [zne HA.out,HAL.out];omega);clear hbt;go_wp2_with fail
    go_loopw [124] (fun i wi=>∃ q:Nat,q ≤ nm∧i=.int .i64 q∧W3.heap.size ≤ wi.heap.size∧Hid (ChR w wi v (some ⟨b,o,none⟩) c M k nm (w.heap.size + 1) (zdJ (zcQ nm v.accs j) a.pos q))) (fun i _=>nm - (intOf i).toNat)
    case atStart=>exact ⟨0,by omega,rfl,zl _,HR3⟩
    case round =>
     obtain ⟨q,hq,rfl,hsq,HRQ⟩:=hrel;obtain ⟨wi,rfl⟩:∃ wi,wi=wr:=⟨wr,rfl⟩;by_cases hlq:q < nm
     ·obtain ⟨b6,o6,rfl,hb6,x,hx,p0⟩:=(HPO.out.mono (B':=B) (w':=wi) (zl _) fun bb oo hbb=>by
       exact (HRQ.out.low.cell (p:=⟨bb,oo,none⟩) (by dsimp only;omega)).trans (HRJ.out.low.cell (p:=⟨bb,oo,none⟩) (by dsimp only;omega)).symm).int (j:=q) (by omega)
      have HX:=zi hx;have hrd:=Rd.of_own HRQ.out.row;obtain ⟨g6,o7,hg6,-,z,hz,z0⟩:=hrd.int hlq;injection hg6 with hg6;injection hg6 with e1 e2;subst e1;subst e2;have HZ:=zi hz;have hzv:z=za5 q (v.accs.take j):=by
       have h1:=zhQ (zcQ nm v.accs j) a.pos q q (by rw [hPl];exact hlq);rw [List.getD_eq_getElem?_getD,hz,Option.getD_some,if_neg (Nat.lt_irrefl _),List.getD_eq_getElem?_getD,zgR hlq,Option.getD_some] at h1;omega
      have hzb:=HPB.out q;have hxb:=zpl HPK.out x (List.mem_of_getElem? hx);obtain ⟨hzb1,hzb2⟩:-8000 ≤ z∧z ≤ 8000:=by omega
      obtain ⟨hxb1,hxb2⟩:=hxb;have hg:=ztN HRQ.out.row hlq;have hgl:w.heap.size + 1 < wi.heap.size:=by omega
      have hb6w:b6 < wi.heap.size:=by omega
      rw [Nat.zero_add] at z0;have HN:=zi (show zdJ (zcQ nm v.accs j) a.pos (q + 1)=(zdJ (zcQ nm v.accs j) a.pos q).set q (z + x) by
       show (zdJ _ _ q).set q _=_;rw [List.getD_eq_getElem?_getD,HZ.out,List.getD_eq_getElem?_getD,HX.out];rfl)
      clear hx hz hrd hzv;have HRN:=zi (show ChR w (wi.setCell ⟨w.heap.size + 1,q,none⟩ (.int .i64 (z + x))) v (some ⟨b,o,none⟩) c M k nm (w.heap.size + 1) (zdJ (zcQ nm v.accs j) a.pos (q + 1)) by rw [HN.out];exact HRQ.out.put (Nat.lt_succ_self _));have hsn:(wi.setCell ⟨w.heap.size + 1,q,none⟩ (.int .i64 (z + x))).heap.size=wi.heap.size:=zbB _ _ _;go_wp2_with fail
      go_roundw
      case rel=>exact ⟨q + 1,by omega,by go_num,by rw [hsn];exact hsq,HRN⟩
      case measure=>simp [intOf];omega
     ·obtain rfl:q=nm:=by omega
      have HRN:=zi (show ChR w wi v (some ⟨b,o,none⟩) c M k q (w.heap.size + 1) (zcQ q v.accs (j + 1)) by rw [← zrT HA.out];exact HRQ.out);go_wp2_with fail
      go_roundw
      case rel=>exact ⟨j + 1,al + a.bal,by omega,by go_num,by go_num,HAL2,by omega,HRN,HF2⟩
      case measure=>simp [intOf];omega
  ·obtain rfl:j=v.accs.length:=by omega
   have HAC:=zi (show zbH v.mks.length none v.accs=0 by rw [← HNM.out];exact ztg HF.out);have HT:=zi (zqy HR.out HAC.out);have HAL2:=zi (show al=v.ins + v.resid + zbd v.accs by have:=HAL.out;rw [List.take_length] at this;exact this);obtain ⟨⟨k0,k1,k2,k3,k4,k5,k6⟩,-⟩:=HRJ.out.blk.c7;have y1:=HRJ.out.blk.lt;by_cases hm:al=v.inn - v.out
   ·have hm':(al != v.inn - v.out)=false:=by simpa using hm
    obtain ⟨bt,hbt⟩:∃ bt,(zcQ nm v.accs v.accs.length).any nonz=bt:=⟨_,rfl⟩;have HBT:=zi hbt;clear hbt;go_wp2_with fail
    refine (zlQ _ _ _ _ wr.heap.size wr (Rd.of_own HRJ.out.row) (zl _)).mono ?_;rintro e w1 ⟨rfl,rfl⟩;rw [HBT.out];rcases zb5 bt with rfl | rfl
    ·have HE:=zi (show zbi v=4 by rw [HT.out];exact zrW (by rw [← HNM.out];exact HBT.out));go_wp2_with fail
     go_ret;exact ⟨zay HE.out.symm,HRJ.out.low⟩
    ·have HE:=zi (show zbi v=zcC v.accs v.next v.mks by rw [HT.out];exact zrX (by rw [← HAL2.out];exact hm) (by rw [← HNM.out];exact HBT.out));have hvm:=zmI v A M c k B wr rfl (HV.out.below (HRJ.out.low.mono hB)) (by omega) (znw HAC.out);rw [← HNM.out] at hvm;have HVM:=zi hvm;clear hvm;go_wp2_with fail
     refine HVM.out.mono ?_;rintro e w2 ⟨rfl,hb2⟩;go_wp2_with fail
     go_ret;exact ⟨zay HE.out.symm,HRJ.out.low.trans (hb2.mono HRJ.out.low.size)⟩
   ·have hm':(al != v.inn - v.out)=true:=by simpa using hm
    have HE:=zi (show zbi v=4 by rw [HT.out];exact zoY (by rw [← HAL2.out];exact hm));clear hm;go_wp2_with fail
    go_ret;exact ⟨zay HE.out.symm,HRJ.out.low⟩
theorem zpm (v:Vn) (A M:Option Addr) (c k:Nat) (B:Nat) (w:World) (h:VnR w B A c M k v) (hB:B ≤ w.heap.size) :
  Calls Tryz.prog 27 #[.agg #[.slice A v.accs.length c,.slice M v.mks.length k,.int .i64 v.ins,.int .i64 v.resid,.int .i64 v.next,.int .i64 v.inn,.int .i64 v.out]] w fun e w'=>e=.returned (.int .i64 (zbi v))∧Below w.heap.size w w':=by
 by_cases hg:zpf v
 ·exact znE v A M c k B w h hB hg
 ·exact zpg v A M c k B w h hB hg
end
section
open Go.ChangeShapes Go.WideShapes Go.ChangeAt Go.RowKit
def RCm (w:World) (_ b o:Nat) (c:Cm):Prop :=
 w.cell? ⟨b,o,none⟩=some (.int .i64 c.kind)∧w.cell? ⟨b,o + 1,none⟩=some (.int .i64 c.acc)∧w.cell? ⟨b,o + 2,none⟩=some (.int .i64 c.market)∧w.cell? ⟨b,o + 3,none⟩=some (.int .i64 c.n) ∧
  w.cell? ⟨b,o + 4,none⟩=some (.int .i64 c.o.id)∧w.cell? ⟨b,o + 5,none⟩=some (.int .i64 c.o.acc)∧w.cell? ⟨b,o + 6,none⟩=some (.int .i64 c.o.side)∧w.cell? ⟨b,o + 7,none⟩=some (.int .i64 c.o.price)∧w.cell? ⟨b,o + 8,none⟩=some (.int .i64 c.o.qty) ∧
  w.cell? ⟨b,o + 9,none⟩=some (.int .i64 c.how)∧w.cell? ⟨b,o + 10,none⟩=some (.bool c.reduce)
def shCm:Shape Cm where
 k:=11
 R:=RCm
 move:=by
  intro w w' B B' b o b' o' a h hc _ _;obtain ⟨h0,h1,h2,h3,h4,h5,h6,h7,h8,h9,h10⟩:=h;exact ⟨(hc 0 (by omega)).trans h0,(hc 1 (by omega)).trans h1,(hc 2 (by omega)).trans h2,(hc 3 (by omega)).trans h3,(hc 4 (by omega)).trans h4,(hc 5 (by omega)).trans h5,(hc 6 (by omega)).trans h6,(hc 7 (by omega)).trans h7,(hc 8 (by omega)).trans h8,(hc 9 (by omega)).trans h9,(hc 10 (by omega)).trans h10⟩
 cells:=by
  intro w B b o a h j hj;obtain ⟨h0,h1,h2,h3,h4,h5,h6,h7,h8,h9,h10⟩:=h;rcases (show j=0∨j=1∨j=2∨j=3∨j=4∨j=5∨j=6∨j=7∨j=8∨j=9∨j=10 by omega) with rfl | rfl | rfl | rfl | rfl | rfl | rfl | rfl | rfl | rfl | rfl
  ·exact ⟨_,h0,rfl⟩
  ·exact ⟨_,h1,rfl⟩
  ·exact ⟨_,h2,rfl⟩
  ·exact ⟨_,h3,rfl⟩
  ·exact ⟨_,h4,rfl⟩
  ·exact ⟨_,h5,rfl⟩
  ·exact ⟨_,h6,rfl⟩
  ·exact ⟨_,h7,rfl⟩
  ·exact ⟨_,h8,rfl⟩
  ·exact ⟨_,h9,rfl⟩
  ·exact ⟨_,h10,rfl⟩
theorem zlZ {w:World} {B n c:Nat} {A:Option Addr} {L:List Cm} (h:RdL shCm w B A n c L) {i:Nat} (hi:i < n):∃ b o a,A=some ⟨b,o,none⟩∧b < B∧L[i]?=some a∧RCm w B b (o + i * 11) a:=h.one hi
structure FitCm (c:Cm):Prop where
 kind:zcf c.kind
 acc:zcf c.acc
 market:zcf c.market
 n:zcf c.n
 o:FitOd c.o
 how:zcf c.how
structure FitMk (m:Mk):Prop where
 book:FitBk m.book
 index:zcf m.index
 last:zcf m.last
structure FitVn (v:Vn):Prop where
 accs:∀ a ∈ v.accs,FitAc a
 mks:∀ m ∈ v.mks,FitMk m
 ins:zcf v.ins
 resid:zcf v.resid
 next:zcf v.next
 inn:zcf v.inn
 out:zcf v.out
section
variable {H:Type} {enc:TypeId × Value→H} {W:World}
theorem zqU {fuel:Nat} {cs:List Value} {x:DataW H × List MemPlace} (h:DataW.trod enc Tryz.prog W 0 (fun _=>true) true fuel 4 cs=some x):∃ z,cs = [.bool z]:=by
 obtain ⟨z,h1,_⟩:=DataW.trod_bool Tryz.underlying4 h;exact ⟨z,h1⟩
set_option maxRecDepth 100000 in
theorem ztn {fuel:Nat} {cs:List Value} {x:DataW H × List MemPlace} (h:DataW.trod enc Tryz.prog W 0 (fun _=>true) true fuel 34 cs=some x) :
  ∃ c:Cm,cs = [.int .i64 c.kind,.int .i64 c.acc,.int .i64 c.market,.int .i64 c.n,.int .i64 c.o.id,.int .i64 c.o.acc,.int .i64 c.o.side,.int .i64 c.o.price,.int .i64 c.o.qty,.int .i64 c.how,.bool c.reduce]∧FitCm c:=by
 obtain ⟨xs,m,_,hx,hlen,hxl,hf⟩:=DataW.trod_struct Tryz.underlying34 h;rw [show Tryz.prog.cellsOf 34=11 by kernel_rfl] at hlen;have h0:DataW.trod enc Tryz.prog W 0 (fun _=>true) true m 3 ((cs.drop 0).take (Tryz.prog.cellsOf 3))=xs[0]?:=hf 0 _ rfl;have h1:DataW.trod enc Tryz.prog W 0 (fun _=>true) true m 3 ((cs.drop 1).take (Tryz.prog.cellsOf 3))=xs[1]?:=hf 1 _ rfl;have h2:DataW.trod enc Tryz.prog W 0 (fun _=>true) true m 3 ((cs.drop 2).take (Tryz.prog.cellsOf 3))=xs[2]?:=hf 2 _ rfl;have h3:DataW.trod enc Tryz.prog W 0 (fun _=>true) true m 3 ((cs.drop 3).take (Tryz.prog.cellsOf 3))=xs[3]?:=hf 3 _ rfl;have h4:DataW.trod enc Tryz.prog W 0 (fun _=>true) true m 32 ((cs.drop 4).take (Tryz.prog.cellsOf 32))=xs[4]?:=hf 4 _ rfl;have h5:DataW.trod enc Tryz.prog W 0 (fun _=>true) true m 3 ((cs.drop 9).take (Tryz.prog.cellsOf 3))=xs[5]?:=hf 5 _ rfl;have h6:DataW.trod enc Tryz.prog W 0 (fun _=>true) true m 4 ((cs.drop 10).take (Tryz.prog.cellsOf 4))=xs[6]?:=hf 6 _ rfl
 rw [show Tryz.prog.cellsOf 3=1 by kernel_rfl] at h0 h1 h2 h3 h5;rw [show Tryz.prog.cellsOf 32=5 by kernel_rfl] at h4;rw [show Tryz.prog.cellsOf 4=1 by kernel_rfl] at h6;match cs,hlen,xs,hxl with
 | [c0,c1,c2,c3,c4,c5,c6,c7,c8,c9,c10],_,[y0,y1,y2,y3,y4,y5,y6],_ =>
  obtain ⟨z0,e0,i0⟩:=zbX (x:=y0) (by simpa using h0);obtain ⟨z1,e1,i1⟩:=zbX (x:=y1) (by simpa using h1);obtain ⟨z2,e2,i2⟩:=zbX (x:=y2) (by simpa using h2);obtain ⟨z3,e3,i3⟩:=zbX (x:=y3) (by simpa using h3);obtain ⟨o,e4,i4⟩:=zj5 (x:=y4) (by simpa using h4);obtain ⟨z5,e5,i5⟩:=zbX (x:=y5) (by simpa using h5);obtain ⟨z6,e6⟩:=zqU (x:=y6) (by simpa using h6);simp only [List.cons.injEq,and_true] at e0 e1 e2 e3 e4 e5 e6;obtain ⟨e40,e41,e42,e43,e44⟩:=e4;subst e0 e1 e2 e3 e40 e41 e42 e43 e44 e5 e6;exact ⟨⟨z0,z1,z2,z3,o,z5,z6⟩,rfl,⟨i0,i1,i2,i3,i4,i5⟩⟩
theorem zmM (ad:Addr) (hsp:ad.spot=none):∀ q,(ad.add q).block=ad.block∧(ad.add q).off=ad.off + q∧(ad.add q).spot=none:=by
 intro q;unfold Addr.add;split
 ·rename_i h0;subst h0;exact ⟨rfl,rfl,hsp⟩
 ·exact ⟨rfl,rfl,rfl⟩
theorem zsj {fuel:Nat} {cs:List Value} {x:DataW H × List MemPlace} (h:DataW.trod enc Tryz.prog W 0 (fun _=>true) true fuel 26 cs=some x)
  (hs:∀ y ∈ x.1.weights Tryz.prog 26,y ≤ reachBytes) :
  ∃ A n c L,cs = [.slice A n c]∧RdL shCm W W.heap.size A n c L∧c * 88 ≤ reachBytes∧∀ a ∈ L,FitCm a:=by
 rcases Go.Deep.open_slice Tryz.underlying26 h with ⟨hcs,hx⟩ | ⟨ad,n,c,m,f,D,Pl,hcs,_,hl,hm,hmm,hx,hi⟩
 ·exact ⟨none,0,0,[],hcs,RdL.none_ _ _ _,by simp,by simp⟩
 ·simp only [if_true] at hmm;subst hmm;rw [show Tryz.prog.cellsOf 34=11 by kernel_rfl] at hi;have hel:∀ i,i < n→∃ a:Cm,FitCm a∧∀ j u,[.int .i64 a.kind,.int .i64 a.acc,.int .i64 a.market,.int .i64 a.n,.int .i64 a.o.id,.int .i64 a.o.acc,.int .i64 a.o.side,.int .i64 a.o.price,.int .i64 a.o.qty,.int .i64 a.how,.bool a.reduce][j]?=some u→W.cell? ((ad.add (i * 11)).add j)=some u:=by
   intro i hin;obtain ⟨cs',hc,ht⟩:=hi i (by omega);obtain ⟨_,hcl,hat⟩:=World.cells?_some hc;obtain ⟨a,he,hfit⟩:=ztn ht;refine ⟨a,hfit,fun j u hu=>?_⟩;have hj:j < 11:=by have:=(List.getElem?_eq_some_iff.1 hu).1;simpa using this
   rw [hat j hj,he];exact hu
  obtain ⟨L,hL,hall⟩:=zeW _ n hel;refine ⟨some ad,n,m,L,hcs,⟨hL,hl,hm,nofun,fun hn=>?_⟩,?_,fun a ha=>?_⟩
  ·obtain ⟨a,_,kk⟩:=hel 0 hn;have k0:=kk 0 _ rfl;rw [show (ad.add (0 * 11)).add 0=ad by simp [Addr.add]] at k0;have hsp:=zey k0;refine ⟨ad.block,ad.off,?_,zfw k0,fun i a ha=>?_⟩
   ·obtain ⟨b,o,sp⟩:=ad;simp only at hsp;subst hsp;rfl
   ·obtain ⟨_,kk⟩:=hall i a ha;obtain ⟨b1,b2,b3⟩:=zmM ad hsp (i * 11);have e:∀ j u,[.int .i64 a.kind,.int .i64 a.acc,.int .i64 a.market,.int .i64 a.n,.int .i64 a.o.id,.int .i64 a.o.acc,.int .i64 a.o.side,.int .i64 a.o.price,.int .i64 a.o.qty,.int .i64 a.how,.bool a.reduce][j]?=some u→W.cell? ⟨ad.block,ad.off + i * 11 + j,none⟩=some u:=by
     intro j u hu;have:=zcv b3 (kk j u hu);rw [b1,b2] at this;exact this
    exact ⟨e 0 _ rfl,e 1 _ rfl,e 2 _ rfl,e 3 _ rfl,e 4 _ rfl,e 5 _ rfl,e 6 _ rfl,e 7 _ rfl,e 8 _ rfl,e 9 _ rfl,e 10 _ rfl⟩
  ·subst hx;have hb:=hs ((((List.range n).map D).length + ((List.range (m - n)).map fun j=>D (n + j)).length) * 88) (by
    simp only [DataW.weights,Tryz.underlying26];rw [show Tryz.prog.bytesOf 34=88 by kernel_rfl];simp)
   simp at hb;rw [show n + (m - n)=m by omega] at hb;exact hb
  ·obtain ⟨i,hi⟩:=List.mem_iff_getElem?.1 ha;exact (hall i a hi).1
theorem zsk {fuel:Nat} {cs:List Value} {x:DataW H × List MemPlace} (h:DataW.trod enc Tryz.prog W 0 (fun _=>true) true fuel 23 cs=some x)
  (hs:∀ y ∈ x.1.weights Tryz.prog 23,y ≤ reachBytes) :
  ∃ A n c L,cs = [.slice A n c]∧RdL shMk W W.heap.size A n c L∧c * 64 ≤ reachBytes∧∀ a ∈ L,FitMk a:=by
 rcases Go.Deep.open_slice Tryz.underlying23 h with ⟨hcs,hx⟩ | ⟨ad,n,c,m,f,D,Pl,hcs,_,hl,hm,hmm,hx,hi⟩
 ·exact ⟨none,0,0,[],hcs,RdL.none_ _ _ _,by simp,by simp⟩
 ·simp only [if_true] at hmm;subst hmm;rw [show Tryz.prog.cellsOf 85=4 by kernel_rfl] at hi;have hw:∀ i,i < n→∀ y ∈ (D i).weights Tryz.prog 85,y ≤ reachBytes:=by
   intro i hin y hy;refine hs y ?_;subst hx;simp only [DataW.weights,Tryz.underlying23];refine List.mem_cons_of_mem _ (List.mem_append_left _ (zg8 (d:=D i) ?_ hy));exact List.mem_map.2 ⟨i,List.mem_range.2 hin,rfl⟩
  have hel:∀ i,i < n→∃ a:Mk,FitMk a∧∃ A2 c2 A3 c3,(∀ j u,[.slice A2 a.book.bids.length c2,.slice A3 a.book.asks.length c3,.int .i64 a.index,.int .i64 a.last][j]?=some u→W.cell? ((ad.add (i * 4)).add j)=some u) ∧
    BkR W W.heap.size A2 A3 c2 c3 a.book∧a.book.bids.length ≤ 4000000000000∧a.book.asks.length ≤ 4000000000000:=by
   intro i hin;obtain ⟨cs',hc,ht⟩:=hi i (by omega);obtain ⟨_,hcl,hat⟩:=World.cells?_some hc;obtain ⟨a,A2,A3,c2,c3,he,hr,hr',⟨hc2,hc3⟩,f1,f2,f3⟩:=znx ht (hw i hin);refine ⟨a,⟨f1,f2,f3⟩,A2,c2,A3,c3,fun j u hu=>?_,⟨hr,hr'⟩,(zil hr hc2).1,(zil hr' hc3).1⟩;have hj:j < 4:=by have:=(List.getElem?_eq_some_iff.1 hu).1;simpa using this
   rw [hat j hj,he];exact hu
  obtain ⟨L,hL,hall⟩:=zeW _ n hel;refine ⟨some ad,n,m,L,hcs,⟨hL,hl,hm,nofun,fun hn=>?_⟩,?_,fun a ha=>?_⟩
  ·obtain ⟨a,_,_,_,_,_,kk,_⟩:=hel 0 hn;have k0:=kk 0 _ rfl;rw [show (ad.add (0 * 4)).add 0=ad by simp [Addr.add]] at k0;have hsp:=zey k0;refine ⟨ad.block,ad.off,?_,zfw k0,fun i a ha=>?_⟩
   ·obtain ⟨b,o,sp⟩:=ad;simp only at hsp;subst hsp;rfl
   ·obtain ⟨_,A2,c2,A3,c3,kk,h1,h2,h3⟩:=hall i a ha;obtain ⟨b1,b2,b3⟩:=zmM ad hsp (i * 4);have e:∀ j u,[.slice A2 a.book.bids.length c2,.slice A3 a.book.asks.length c3,.int .i64 a.index,.int .i64 a.last][j]?=some u→W.cell? ⟨ad.block,ad.off + i * 4 + j,none⟩=some u:=by
     intro j u hu;have:=zcv b3 (kk j u hu);rw [b1,b2] at this;exact this
    exact ⟨A2,c2,A3,c3,e 0 _ rfl,e 1 _ rfl,e 2 _ rfl,e 3 _ rfl,h1,h2,h3⟩
  ·subst hx;have hb:=hs ((((List.range n).map D).length + ((List.range (m - n)).map fun j=>D (n + j)).length) * 64) (by
    simp only [DataW.weights,Tryz.underlying23];rw [show Tryz.prog.bytesOf 85=64 by kernel_rfl];simp)
   simp at hb;rw [show n + (m - n)=m by omega] at hb;exact hb
  ·obtain ⟨i,hi⟩:=List.mem_iff_getElem?.1 ha;exact (hall i a hi).1
set_option maxRecDepth 100000 in
theorem zto {fuel:Nat} {cs:List Value} {x:DataW H × List MemPlace} (h:DataW.trod enc Tryz.prog W 0 (fun _=>true) true fuel 25 cs=some x)
  (hs:∀ y ∈ x.1.weights Tryz.prog 25,y ≤ reachBytes) :
  ∃ (v:Vn) (A:Option Addr) (c:Nat) (M:Option Addr) (k:Nat),cs = [.slice A v.accs.length c,.slice M v.mks.length k,.int .i64 v.ins,.int .i64 v.resid,.int .i64 v.next,.int .i64 v.inn,.int .i64 v.out]∧VnR W W.heap.size A c M k v ∧
   (c * 40 ≤ reachBytes∧k * 64 ≤ reachBytes)∧FitVn v:=by
 obtain ⟨xs,m,_,hx,hlen,hxl,hf⟩:=DataW.trod_struct Tryz.underlying25 h;rw [show Tryz.prog.cellsOf 25=7 by kernel_rfl] at hlen;have h0:DataW.trod enc Tryz.prog W 0 (fun _=>true) true m 22 ((cs.drop 0).take (Tryz.prog.cellsOf 22))=xs[0]?:=hf 0 _ rfl;have h1:DataW.trod enc Tryz.prog W 0 (fun _=>true) true m 23 ((cs.drop 1).take (Tryz.prog.cellsOf 23))=xs[1]?:=hf 1 _ rfl;have h2:DataW.trod enc Tryz.prog W 0 (fun _=>true) true m 3 ((cs.drop 2).take (Tryz.prog.cellsOf 3))=xs[2]?:=hf 2 _ rfl;have h3:DataW.trod enc Tryz.prog W 0 (fun _=>true) true m 3 ((cs.drop 3).take (Tryz.prog.cellsOf 3))=xs[3]?:=hf 3 _ rfl;have h4:DataW.trod enc Tryz.prog W 0 (fun _=>true) true m 3 ((cs.drop 4).take (Tryz.prog.cellsOf 3))=xs[4]?:=hf 4 _ rfl;have h5:DataW.trod enc Tryz.prog W 0 (fun _=>true) true m 3 ((cs.drop 5).take (Tryz.prog.cellsOf 3))=xs[5]?:=hf 5 _ rfl;have h6:DataW.trod enc Tryz.prog W 0 (fun _=>true) true m 3 ((cs.drop 6).take (Tryz.prog.cellsOf 3))=xs[6]?:=hf 6 _ rfl
 rw [show Tryz.prog.cellsOf 3=1 by kernel_rfl] at h2 h3 h4 h5 h6;rw [show Tryz.prog.cellsOf 22=1 by kernel_rfl] at h0;rw [show Tryz.prog.cellsOf 23=1 by kernel_rfl] at h1;match cs,hlen,xs,hxl with
 | [c0,c1,c2,c3,c4,c5,c6],_,[y0,y1,y2,y3,y4,y5,y6],_ =>
  have hs0:∀ y ∈ y0.1.weights Tryz.prog 22,y ≤ reachBytes:=by
   intro y hy;refine hs y ?_;subst hx;simp only [DataW.weights,Tryz.underlying25];simp [DataW.weightsEach,hy]
  have hs1:∀ y ∈ y1.1.weights Tryz.prog 23,y ≤ reachBytes:=by
   intro y hy;refine hs y ?_;subst hx;simp only [DataW.weights,Tryz.underlying25];simp [DataW.weightsEach,hy]
  obtain ⟨A,n,c,L,e0,r0,s0,i0⟩:=zqq (x:=y0) (by simpa using h0) hs0;obtain ⟨M,n',k,K,e1,r1,s1,i1⟩:=zsk (x:=y1) (by simpa using h1) hs1;obtain ⟨z2,e2,i2⟩:=zbX (x:=y2) (by simpa using h2);obtain ⟨z3,e3,i3⟩:=zbX (x:=y3) (by simpa using h3);obtain ⟨z4,e4,i4⟩:=zbX (x:=y4) (by simpa using h4);obtain ⟨z5,e5,i5⟩:=zbX (x:=y5) (by simpa using h5);obtain ⟨z6,e6,i6⟩:=zbX (x:=y6) (by simpa using h6);obtain rfl:L.length=n:=r0.len;obtain rfl:K.length=n':=r1.len;simp only [List.cons.injEq,and_true] at e0 e1 e2 e3 e4 e5 e6;subst e0 e1 e2 e3 e4 e5 e6;exact ⟨⟨L,K,z2,z3,z4,z5,z6⟩,A,c,M,k,rfl,⟨r0,r1⟩,⟨s0,s1⟩,⟨i0,i1,i2,i3,i4,i5,i6⟩⟩
set_option maxRecDepth 100000 in
theorem znF {base:Nat} {v:Value} {d:DataW H} {p:List MemPlace} (hv:Value.okWide Tryz.prog W .any base 25 v) (h:DataW.Trod enc Tryz.prog W 0 (fun _=>true) true 25 v d p)
  (hs:∀ x ∈ d.weights Tryz.prog 25,x ≤ reachBytes) :
  ∃ (u:Vn) (A:Option Addr) (c:Nat) (M:Option Addr) (k:Nat),v=.agg #[.slice A u.accs.length c,.slice M u.mks.length k,.int .i64 u.ins,.int .i64 u.resid,.int .i64 u.next,.int .i64 u.inn,.int .i64 u.out]∧VnR W W.heap.size A c M k u ∧
   (c * 40 ≤ reachBytes∧k * 64 ≤ reachBytes)∧FitVn u:=by
 obtain ⟨cs,rfl,_⟩:=okWide_struct Tryz.underlying25 hv;obtain ⟨fuel,hf⟩:=h;obtain ⟨u,A,c,M,k,hcs,hr⟩:=zto hf hs;refine ⟨u,A,c,M,k,?_,hr⟩;obtain ⟨l⟩:=cs;simp only [Value.cells] at hcs;rw [← hcs]
set_option maxRecDepth 100000 in
theorem zkC {base:Nat} {v:Value} {d:DataW H} {p:List MemPlace} (hv:Value.okWide Tryz.prog W .any base 26 v) (h:DataW.Trod enc Tryz.prog W 0 (fun _=>true) true 26 v d p)
  (hs:∀ x ∈ d.weights Tryz.prog 26,x ≤ reachBytes) :
  ∃ A n c L,v=.slice A n c∧RdL shCm W W.heap.size A n c L∧c * 88 ≤ reachBytes∧∀ a ∈ L,FitCm a:=by
 obtain ⟨A,n,c,rfl⟩:=okWide_slice Tryz.underlying26 hv;obtain ⟨fuel,hf⟩:=h;obtain ⟨A',n',c',L,hcs,hr⟩:=zsj hf hs;simp [Value.cells] at hcs;obtain ⟨rfl,rfl,rfl⟩:=hcs;exact ⟨_,_,_,L,rfl,hr⟩
end
end
end Go.Proofs.YtockodmbhnlheaaGreatDoor
