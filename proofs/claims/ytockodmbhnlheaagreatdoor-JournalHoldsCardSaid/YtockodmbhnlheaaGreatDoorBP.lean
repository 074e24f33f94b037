import Derived.Test.YtockodmbhnlheaaGreatDoorBM
namespace Go.Proofs.YtockodmbhnlheaaGreatDoor
section
open Go.RowKit
def ztr (w:World) (v:Vn) (e:Ending) (w':World):Prop :=
 ∃ A c M k xs ys,e=.returned (.agg #[.slice A v.accs.length c,.slice M v.mks.length k,.int .i64 v.ins,.int .i64 v.resid,.int .i64 v.next,.int .i64 v.inn,.int .i64 v.out])∧OwnAc w' w.heap.size A v.accs.length c v.accs xs∧OwnMk w' w.heap.size true M v.mks.length k v.mks ys∧Below w.heap.size w w'
theorem zgD {w:World} {b e k n B:Nat} {v:Value} {xs:List Value} (h:w.ownsRow b e k v n xs) (hb:B ≤ b):w.ownsRow B e k v n xs:=zae h hb
set_option maxHeartbeats 8000000 in
set_option maxRecDepth 100000 in
theorem zio (v:Vn) (A M:Option Addr) (c k:Nat) (B:Nat) (w:World) (h:VnR w B A c M k v) (hB:B ≤ w.heap.size) (hv:VOk v) :
  Calls Tryz.prog 28 #[.agg #[.slice A v.accs.length c,.slice M v.mks.length k,.int .i64 v.ins,.int .i64 v.resid,.int .i64 v.next,.int .i64 v.inn,.int .i64 v.out]] w (ztr w v):=by
 have HV:=zi h;have HOK:=zi hv;have hal:=zdZ hv.accs;obtain ⟨hm1,hm2⟩:=hv.len;obtain ⟨fa,hfa,ha1⟩:=h.accs.flat (by decide);obtain ⟨fm,hfm,hx1⟩:=h.mks.flat (by decide);have HFA:=zi (show Rd w B 3 A v.accs.length c fa from hfa);have HFM:=zi (show Rd w B 4 M v.mks.length k fm from hfm);have HA1:=zi ha1;have HX1:=zi hx1;clear h hv hfa hfm ha1 hx1;go_enter Tryz.func28,Tryz.ntmps28
 go_wp2_with fail
 refine zbr ?_;intro W0 hW0;have hB0:Below w.heap.size w W0:=by rw [hW0];exact ((Below.refl _ _).alloc (zl _) _).alloc (by simp) _
 have X0:Blk W0 w.heap.size 25 #[.slice A v.accs.length c,.slice M v.mks.length k,.int .i64 v.ins,.int .i64 v.resid,.int .i64 v.next,.int .i64 v.inn,.int .i64 v.out]:=by rw [hW0];exact (Blk.new w _ _).alloc _
 have R0:Blk W0 (w.heap.size + 1) 25 #[.slice none 0 0,.slice none 0 0,.int .i64 0,.int .i64 0,.int .i64 0,.int .i64 0,.int .i64 0]:=by rw [hW0];exact Blk.new_at _ _ _ _ (by simp)
 have hs0:W0.heap.size=w.heap.size + 2:=by rw [hW0];simp
 clear hW0;have h00:Below W0.heap.size W0 W0:=Below.refl _ _;have KD:Hid (Below W0.heap.size W0 W0.drew):=zaE (Below.refl _ _);have KX:Hid (∀ W,Below W0.heap.size W0 W→W.cell? ⟨w.heap.size,0,none⟩=some (.slice A v.accs.length c)∧W.cell? ⟨w.heap.size,1,none⟩=some (.slice M v.mks.length k)∧W.frozen? ⟨w.heap.size,0,none⟩=false∧W.frozen? ⟨w.heap.size,1,none⟩=false):=by
  intro W hW;have hd:=X0.below hW X0.lt;exact ⟨hd.cell 0,hd.cell 1,hd.frozen 0,hd.frozen 1⟩
 obtain ⟨z0,z1,z2,z3⟩:=KX.out W0 h00;have yx0:=X0.lt;have HKA:Hid (∀ W,Below W0.heap.size W0 W→Calls Tryz.prog 51 #[.slice A v.accs.length c] W (zfY W 78 3 v.accs.length fa)):=fun W hW=>zjy A v.accs.length c fa B W (HFA.out.below ((hB0.trans (hW.mono (by omega))).mono hB)) HA1.out (by have:=hW.size;omega) (by omega);have HKM:Hid (∀ W,Below W0.heap.size W0 W→Calls Tryz.prog 52 #[.slice M v.mks.length k] W (zfY W 85 4 v.mks.length fm)):=fun W hW=>zqX M v.mks.length k fm B W (HFM.out.below ((hB0.trans (hW.mono (by omega))).mono hB)) HX1.out (by have:=hW.size;omega) (by omega);go_upto_region 1 with (fail)
 go_cut [9] (fun _ wx=>∃ (Aa:Option Addr) (ca:Nat) (Am:Option Addr) (km:Nat),Below w.heap.size w wx∧Hid (wx.ownsRow w.heap.size 78 3 (.slice Aa v.accs.length ca) v.accs.length fa)∧Hid (wx.ownsRow w.heap.size 85 4 (.slice Am v.mks.length km) v.mks.length fm) ∧
  Hid (Blk wx w.heap.size 25 #[.slice Aa v.accs.length ca,.slice Am v.mks.length km,.int .i64 v.ins,.int .i64 v.resid,.int .i64 v.next,.int .i64 v.inn,.int .i64 v.out])∧Hid (Blk wx (w.heap.size + 1) 25 #[.slice none 0 0,.slice none 0 0,.int .i64 0,.int .i64 0,.int .i64 0,.int .i64 0,.int .i64 0]))
 case first =>
  go_region_with (first | (go_at_call 51;(first | ((with_reducible refine (HKA.out _ KD.out).mono ?_);rintro e Wa ⟨va,rfl,howna,hba⟩;obtain ⟨Aa,ca,rfl⟩:=zad howna;have hBa:=zb2 (w0:=W0) hba KD.out;obtain ⟨zA0,zA1,zA2,zA3⟩:=KX.out _ hBa) | ((with_reducible refine (HKA.out _ hBm).mono ?_);rintro e Wa ⟨va,rfl,howna,hba⟩;obtain ⟨Aa,ca,rfl⟩:=zad howna;have hBa:=zb2 (w0:=W0) hba hBm;obtain ⟨zA0,zA1,zA2,zA3⟩:=KX.out _ hBa))) | (go_at_call 52;(first | ((with_reducible refine (HKM.out _ KD.out).mono ?_);rintro e Wm ⟨vm,rfl,hownm,hbm⟩;obtain ⟨Am,km,rfl⟩:=zad hownm;have hBm:=zb2 (w0:=W0) hbm KD.out;obtain ⟨zM0,zM1,zM2,zM3⟩:=KX.out _ hBm) | ((with_reducible refine (HKM.out _ hBa).mono ?_);rintro e Wm ⟨vm,rfl,hownm,hbm⟩;obtain ⟨Am,km,rfl⟩:=zad hownm;have hBm:=zb2 (w0:=W0) hbm hBa;obtain ⟨zM0,zM1,zM2,zM3⟩:=KX.out _ hBm))))
  all_goals
   refine zau ?_;intro Z hZ;have hsa:=hBa.size;have hsm:=hBm.size;have hsd:W0.drew.heap.size=w.heap.size + 2:=hs0;have hBl:Below w.heap.size w Z:=by rw [hZ];first | exact ((hB0.trans (hBm.mono (by omega))).setCell (zl _) _).setCell (zl _) _ | exact ((hB0.trans (hBa.mono (by omega))).setCell (zl _) _).setCell (zl _) _
   have HRA:Hid (Z.ownsRow w.heap.size 78 3 (.slice Aa v.accs.length ca) v.accs.length fa):=by
    rw [hZ];first
     | exact zgD (ownsRow_setCell_below (ownsRow_setCell_below howna (by dsimp only;omega) _) (by dsimp only;omega) _) (by omega)
     | exact zgD (ownsRow_setCell_below (ownsRow_setCell_below (zaf howna hbm (zl _)) (by dsimp only;omega) _) (by dsimp only;omega) _) (by omega)
   have HRM:Hid (Z.ownsRow w.heap.size 85 4 (.slice Am v.mks.length km) v.mks.length fm):=by
    rw [hZ];first
     | exact zgD (ownsRow_setCell_below (ownsRow_setCell_below hownm (by dsimp only;omega) _) (by dsimp only;omega) _) (by omega)
     | exact zgD (ownsRow_setCell_below (ownsRow_setCell_below (zaf hownm hba (zl _)) (by dsimp only;omega) _) (by dsimp only;omega) _) (by omega)
   have HXZ:Hid (Blk Z w.heap.size 25 #[.slice Aa v.accs.length ca,.slice Am v.mks.length km,.int .i64 v.ins,.int .i64 v.resid,.int .i64 v.next,.int .i64 v.inn,.int .i64 v.out]):=by
    rw [hZ];first
     | exact ((X0.below hBm X0.lt).set_ 0 _).set_ 1 _
     | exact ((X0.below hBa X0.lt).set_ 0 _).set_ 1 _
     | exact ((X0.below hBm X0.lt).set_ 1 _).set_ 0 _
     | exact ((X0.below hBa X0.lt).set_ 1 _).set_ 0 _
   have HRZ:Hid (Blk Z (w.heap.size + 1) 25 #[.slice none 0 0,.slice none 0 0,.int .i64 0,.int .i64 0,.int .i64 0,.int .i64 0,.int .i64 0]):=by
    rw [hZ];first
     | exact ((R0.below hBm R0.lt).far (p:=⟨w.heap.size,_,none⟩) (by dsimp only;omega) _).far (p:=⟨w.heap.size,_,none⟩) (by dsimp only;omega) _
     | exact ((R0.below hBa R0.lt).far (p:=⟨w.heap.size,_,none⟩) (by dsimp only;omega) _).far (p:=⟨w.heap.size,_,none⟩) (by dsimp only;omega) _
   clear hZ;go_wp2_with fail
   go_meet
   exact ⟨_,_,_,_,hBl,HRA,HRM,HXZ,HRZ⟩
 case rest=>as_aux_lemma =>
  obtain ⟨Aa,ca,Am,km,hBl,HRA,HRM,HXZ,HRZ⟩:=hcut;obtain ⟨W1,rfl⟩:∃ W1,W1=wc:=⟨wc,rfl⟩;have HR1:=zi (show CpR w W1 v fa fm Aa ca Am km 0 0 fa fm from
   ⟨⟨HRA.out,rfl,fun i a hi=>absurd hi (by omega),fun _ _=>rfl⟩,⟨HRM.out,rfl,fun i a hi=>absurd hi (by omega),fun i s j t u v g hi=>absurd hi (by omega),fun _ _=>rfl⟩,HXZ.out,HRZ.out,hBl⟩)
  have k0:W1.cell? ⟨w.heap.size,0,none⟩=some (.slice Aa v.accs.length ca):=HXZ.out.cell 0;have y0:=HXZ.out.lt;clear HRA HRM HXZ HRZ hBl KX HKA HKM KD h00 X0 R0 z0 z1 z2 z3 yx0;go_wp2_with fail
  go_loopw [18] (fun i wr=>∃ (j:Nat) (xs:List Value),j ≤ v.accs.length∧i=.int .i64 j∧Hid (CpR w wr v fa fm Aa ca Am km j 0 xs fm)) (fun i _=>v.accs.length - (intOf i).toNat)
  case atStart=>exact ⟨0,fa,by omega,rfl,HR1⟩
  case round =>
   obtain ⟨wo,rfl⟩:∃ x,x=wr:=⟨wr,rfl⟩;obtain ⟨j,xs,hj,rfl,HR⟩:=hrel;by_cases hlt:j < v.accs.length
   ·obtain ⟨a,ha⟩:∃ a,v.accs[j]?=some a:=⟨_,List.getElem?_eq_getElem hlt⟩;obtain ⟨A2,c2,e0,e1,e2,h3,h4⟩:=zsn HV.out.accs HFA.out ha;obtain ⟨g,rfl,hg1,hg2,-,hgc⟩:=HR.out.pa.at_ hlt;obtain ⟨q0,f0⟩:=hgc _ _ (by omega) e0;obtain ⟨q1,f1⟩:=hgc _ _ (by omega) e1;obtain ⟨q2,f2⟩:=hgc _ _ (by omega) e2;have HGC:=zi (show ∀ q u,j * 3 ≤ q→fa[q]?=some u→wo.cell? ⟨g,q,none⟩=some u∧wo.frozen? ⟨g,q,none⟩=false from hgc);have HE:=zi (And.intro e0 (And.intro e1 e2));have HA:=zi ha;have HPO:=zi h3;have hx:=HR.out.x.lt;clear ha e0 e1 e2 h3 hgc f0 f1 f2;go_wp2_with fail
    refine zbr ?_;intro W2 hW2;have hB2:Below wo.heap.size wo W2:=by rw [hW2];first | exact (Below.refl _ _).alloc (zl _) _ | exact ((Below.refl _ _).alloc (zl _) _).setCell (zl _) _
    have Y2:Blk W2 wo.heap.size 78 #[.int .i64 a.id,.int .i64 a.bal,.slice A2 a.pos.length c2]:=by rw [hW2];exact Blk.new wo _ _
    have hs2:=hB2.size;clear hW2 q0 q1 q2;have HR2:=zi (HR.out.below hB2);have y2:=Y2.lt;have hgl:g < W2.heap.size:=by omega
    have h22:Below W2.heap.size W2 W2:=Below.refl _ _;have KQ:Hid (∀ W,Below W2.heap.size W2 W→(W.cell? ⟨g,j * 3,none⟩=some (.int .i64 a.id)∧W.cell? ⟨g,j * 3 + 1,none⟩=some (.int .i64 a.bal)∧W.cell? ⟨g,j * 3 + 2,none⟩=some (.slice A2 a.pos.length c2))∧W.frozen? ⟨g,j * 3,none⟩=false∧W.frozen? ⟨g,j * 3 + 1,none⟩=false∧W.frozen? ⟨g,j * 3 + 2,none⟩=false):=by
     intro W hW;have hb:=hB2.trans (hW.mono hs2);have k0:=HGC.out _ _ (by omega) HE.out.1;have k1:=HGC.out _ _ (by omega) HE.out.2.1;have k2:=HGC.out _ _ (by omega) HE.out.2.2;exact ⟨⟨(hb.cell (p:=⟨g,_,none⟩) hg2).trans k0.1,(hb.cell (p:=⟨g,_,none⟩) hg2).trans k1.1,(hb.cell (p:=⟨g,_,none⟩) hg2).trans k2.1⟩,(hb.frozen (p:=⟨g,_,none⟩) hg2).trans k0.2,(hb.frozen (p:=⟨g,_,none⟩) hg2).trans k1.2,(hb.frozen (p:=⟨g,_,none⟩) hg2).trans k2.2⟩
    have hne1:g ≠ w.heap.size:=by
     obtain ⟨g',hg',_,_,⟨cs,hg⟩,_⟩:=HR.out.pa.at_ hlt;injection hg' with hg';injection hg' with hg';subst hg';exact zd1 hg HR.out.x (by decide)
    have KS:Hid (∀ W,Below W2.heap.size W2 W→W.cell? ⟨w.heap.size,0,none⟩=some (.slice (some ⟨g,0,none⟩) v.accs.length ca)∧W.cell? ⟨wo.heap.size,0,none⟩=some (.int .i64 a.id)∧W.cell? ⟨wo.heap.size,1,none⟩=some (.int .i64 a.bal)∧W.cell? ⟨wo.heap.size,2,none⟩=some (.slice A2 a.pos.length c2)):=by
     intro W hW;have hy:=Y2.below hW y2;exact ⟨(HR2.out.x.below hW HR2.out.x.lt).cell 0,hy.cell 0,hy.cell 1,hy.cell 2⟩
    have KT:Hid (∀ W t0 t1 t2,Below W2.heap.size W2 W→(((W.setCell ⟨g,j * 3,none⟩ t0).setCell ⟨g,j * 3 + 1,none⟩ t1).setCell ⟨g,j * 3 + 2,none⟩ t2).cell? ⟨w.heap.size,0,none⟩=some (.slice (some ⟨g,0,none⟩) v.accs.length ca)∧(((W.setCell ⟨g,j * 3,none⟩ t0).setCell ⟨g,j * 3 + 1,none⟩ t1).setCell ⟨g,j * 3 + 2,none⟩ t2).cell? ⟨wo.heap.size,0,none⟩=some (.int .i64 a.id)∧(((W.setCell ⟨g,j * 3,none⟩ t0).setCell ⟨g,j * 3 + 1,none⟩ t1).setCell ⟨g,j * 3 + 2,none⟩ t2).cell? ⟨wo.heap.size,1,none⟩=some (.int .i64 a.bal)∧(((W.setCell ⟨g,j * 3,none⟩ t0).setCell ⟨g,j * 3 + 1,none⟩ t1).setCell ⟨g,j * 3 + 2,none⟩ t2).cell? ⟨wo.heap.size,2,none⟩=some (.slice A2 a.pos.length c2)):=by
     intro W t0 t1 t2 hW;have hy:=(((Y2.below hW y2).far (p:=⟨g,j * 3,none⟩) (by dsimp only;omega) t0).far (p:=⟨g,j * 3 + 1,none⟩) (by dsimp only;omega) t1).far (p:=⟨g,j * 3 + 2,none⟩) (by dsimp only;omega) t2;have hx:=(((HR2.out.x.below hW HR2.out.x.lt).far (p:=⟨g,j * 3,none⟩) (fun e=>hne1 e.symm) t0).far (p:=⟨g,j * 3 + 1,none⟩) (fun e=>hne1 e.symm) t1).far (p:=⟨g,j * 3 + 2,none⟩) (fun e=>hne1 e.symm) t2;exact ⟨hx.cell 0,hy.cell 0,hy.cell 1,hy.cell 2⟩
    have HCP:Hid (∀ W,Below W2.heap.size W2 W→Calls Tryz.prog 53 #[.agg #[.int .i64 a.id,.int .i64 a.bal,.slice A2 a.pos.length c2]] W (zpU W a.id a.bal a.pos.length (ints a.pos))):=fun W hW=>zg2 a.id a.bal A2 a.pos.length c2 a.pos B W (HPO.out.below ((HR2.out.low.trans (hW.mono HR2.out.low.size)).mono hB)) (by have:=hW.size;have:=HR2.out.low.size;omega) h4;have KD:Hid (Below W2.heap.size W2 W2.drew):=zaE (Below.refl _ _);have hj0:(0:Int) ≤ (j:Int):=by omega
    have hj1:(j:Int) < (v.accs.length:Int):=by omega
    go_wp2_with fail
    go_region_held3 (fun W=>W.cell? ⟨w.heap.size,0,none⟩=some (.slice (some ⟨g,0,none⟩) v.accs.length ca)∧W.cell? ⟨wo.heap.size,0,none⟩=some (.int .i64 a.id)∧W.cell? ⟨wo.heap.size,1,none⟩=some (.int .i64 a.bal)∧W.cell? ⟨wo.heap.size,2,none⟩=some (.slice A2 a.pos.length c2))
     (first | exact KS.out _ KD.out | exact KS.out _ (by assumption) | exact KT.out _ _ _ _ (by assumption))
     ((go_at_call 53;(with_reducible refine (HCP.out _ KD.out).mono ?_);rintro e W3 ⟨A3,c3,rfl,hown3,hb3⟩;have hB3:=zb2 (w0:=W2) hb3 KD.out;obtain ⟨⟨z0,z1,z2⟩,z3,z4,z5⟩:=KQ.out _ hB3))
    refine zau ?_;intro Z hZ;have hs3:=hB3.size;have hs20:=HR2.out.low.size;obtain ⟨xs',hn⟩:=(HR2.out.below hB3).acc hlt HA.out (zgD hown3 (by show w.heap.size ≤ W2.heap.size;omega)) h4 hZ;have HN:=zi hn;clear hZ hn hown3 hb3 z0 z1 z2 z3 z4 z5 KS KT KQ HCP KD h22 HGC;go_wp2_with fail
    go_roundw
    case rel=>exact ⟨j + 1,xs',by omega,by go_num,HN⟩
    case measure=>simp [intOf];omega
   ·obtain rfl:j=v.accs.length:=by omega
    have k1:wo.cell? ⟨w.heap.size,1,none⟩=some (.slice Am v.mks.length km):=HR.out.x.cell 1;have y1:=HR.out.x.lt;have HR0:=zi (show CpR w wo v fa fm Aa ca Am km v.accs.length 0 xs fm from HR.out);clear HR;go_wp2_with fail
    go_loopw [33] (fun i wr=>∃ (j:Nat) (ys:List Value),j ≤ v.mks.length∧i=.int .i64 j∧Hid (CpR w wr v fa fm Aa ca Am km v.accs.length j xs ys)) (fun i _=>v.mks.length - (intOf i).toNat)
    case atStart=>exact ⟨0,fm,by omega,rfl,HR0⟩
    case round =>
     obtain ⟨wo,rfl⟩:∃ x,x=wr:=⟨wr,rfl⟩;obtain ⟨j,ys,hj,rfl,HR⟩:=hrel;by_cases hlt:j < v.mks.length
     ·obtain ⟨m,hm⟩:∃ m,v.mks[j]?=some m:=⟨_,List.getElem?_eq_getElem hlt⟩;obtain ⟨A2,c2,A3,c3,e0,e1,e2,e3,hbk,hl1,hl2⟩:=ztp HV.out.mks HFM.out hm;obtain ⟨g,rfl,hg1,hg2,-,hgc⟩:=HR.out.pm.at_ hlt;obtain ⟨q0,-⟩:=hgc _ _ (by omega) e0;obtain ⟨q1,-⟩:=hgc _ _ (by omega) e1;obtain ⟨q2,-⟩:=hgc _ _ (by omega) e2;obtain ⟨q3,-⟩:=hgc _ _ (by omega) e3;have HGC:=zi (show ∀ q u,j * 4 ≤ q→fm[q]?=some u→wo.cell? ⟨g,q,none⟩=some u∧wo.frozen? ⟨g,q,none⟩=false from hgc);have HE:=zi (And.intro e0 (And.intro e1 (And.intro e2 e3)));have HM:=zi hm;have HBK:=zi hbk;have hbl:m.book.bids.length + m.book.asks.length ≤ 40:=(za2.1 (HOK.out.mks m (List.mem_of_getElem? hm)).1).1.len;have hx:=HR.out.x.lt;clear hm e0 e1 e2 e3 hbk hgc;go_wp2_with fail
      refine zbr ?_;intro W2 hW2;have hB2:Below wo.heap.size wo W2:=by rw [hW2];first | exact (Below.refl _ _).alloc (zl _) _ | exact ((Below.refl _ _).alloc (zl _) _).setCell (zl _) _
      have Y2:Blk W2 wo.heap.size 85 #[.slice A2 m.book.bids.length c2,.slice A3 m.book.asks.length c3,.int .i64 m.index,.int .i64 m.last]:=by rw [hW2];exact Blk.new wo _ _
      have hs2:=hB2.size;clear hW2 q0 q1 q2 q3;have HR2:=zi (HR.out.below hB2);have y2:=Y2.lt;have hgl:g < W2.heap.size:=by omega
      have hs02:=HR2.out.low.size;have h22:Below W2.heap.size W2 W2:=Below.refl _ _;have KQ:Hid (∀ W,Below W2.heap.size W2 W→(W.cell? ⟨g,j * 4,none⟩=some (.slice A2 m.book.bids.length c2)∧W.cell? ⟨g,j * 4 + 1,none⟩=some (.slice A3 m.book.asks.length c3))∧W.frozen? ⟨g,j * 4,none⟩=false∧W.frozen? ⟨g,j * 4 + 1,none⟩=false):=by
       intro W hW;have hb:=hB2.trans (hW.mono hs2);have k0:=HGC.out _ _ (by omega) HE.out.1;have k1:=HGC.out _ _ (by omega) HE.out.2.1;exact ⟨⟨(hb.cell (p:=⟨g,_,none⟩) hg2).trans k0.1,(hb.cell (p:=⟨g,_,none⟩) hg2).trans k1.1⟩,(hb.frozen (p:=⟨g,_,none⟩) hg2).trans k0.2,(hb.frozen (p:=⟨g,_,none⟩) hg2).trans k1.2⟩
      have hne1:g ≠ w.heap.size:=by
       obtain ⟨g',hg',_,_,⟨cs,hg⟩,_⟩:=HR.out.pm.at_ hlt;injection hg' with hg';injection hg' with hg';subst hg';exact zd1 hg HR.out.x (by decide)
      have KS:Hid (∀ W,Below W2.heap.size W2 W→W.cell? ⟨w.heap.size,1,none⟩=some (.slice (some ⟨g,0,none⟩) v.mks.length km)∧W.cell? ⟨wo.heap.size,0,none⟩=some (.slice A2 m.book.bids.length c2)∧W.cell? ⟨wo.heap.size,1,none⟩=some (.slice A3 m.book.asks.length c3)):=by
       intro W hW;have hy:=Y2.below hW y2;exact ⟨(HR2.out.x.below hW HR2.out.x.lt).cell 1,hy.cell 0,hy.cell 1⟩
      have KT:Hid (∀ W t0 t1,Below W2.heap.size W2 W→((W.setCell ⟨g,j * 4,none⟩ t0).setCell ⟨g,j * 4 + 1,none⟩ t1).cell? ⟨w.heap.size,1,none⟩=some (.slice (some ⟨g,0,none⟩) v.mks.length km)∧((W.setCell ⟨g,j * 4,none⟩ t0).setCell ⟨g,j * 4 + 1,none⟩ t1).cell? ⟨wo.heap.size,0,none⟩=some (.slice A2 m.book.bids.length c2)∧((W.setCell ⟨g,j * 4,none⟩ t0).setCell ⟨g,j * 4 + 1,none⟩ t1).cell? ⟨wo.heap.size,1,none⟩=some (.slice A3 m.book.asks.length c3)):=by
       intro W t0 t1 hW;have hy:=((Y2.below hW y2).far (p:=⟨g,j * 4,none⟩) (by dsimp only;omega) t0).far (p:=⟨g,j * 4 + 1,none⟩) (by dsimp only;omega) t1;have hx:=((HR2.out.x.below hW HR2.out.x.lt).far (p:=⟨g,j * 4,none⟩) (fun e=>hne1 e.symm) t0).far (p:=⟨g,j * 4 + 1,none⟩) (fun e=>hne1 e.symm) t1;exact ⟨hx.cell 1,hy.cell 0,hy.cell 1⟩
      have HCP:Hid (∀ W,Below W2.heap.size W2 W→Calls Tryz.prog 54 #[.agg #[.slice A2 m.book.bids.length c2,.slice A3 m.book.asks.length c3]] W fun e w' =>
        ∃ u u',e=.returned (.agg #[u,u'])∧w'.ownsRow W.heap.size 32 5 u m.book.bids.length (zaa m.book.bids)∧w'.ownsRow W.heap.size 32 5 u' m.book.asks.length (zaa m.book.asks)∧(∀ k,u.ownBlock=some k→u'.ownBlock ≠ some k)∧Below W.heap.size W w'):=fun W hW =>
       zhf m.book A2 A3 c2 c3 B W (HBK.out.below ((HR2.out.low.trans (hW.mono HR2.out.low.size)).mono hB)) (by have:=hW.size;omega) (by omega) (by omega)
      have KD:Hid (Below W2.heap.size W2 W2.drew):=zaE (Below.refl _ _);have hj0:(0:Int) ≤ (j:Int):=by omega
      have hj1:(j:Int) < (v.mks.length:Int):=by omega
      go_wp2_with fail
      go_region_held3 (fun W=>W.cell? ⟨w.heap.size,1,none⟩=some (.slice (some ⟨g,0,none⟩) v.mks.length km)∧W.cell? ⟨wo.heap.size,0,none⟩=some (.slice A2 m.book.bids.length c2)∧W.cell? ⟨wo.heap.size,1,none⟩=some (.slice A3 m.book.asks.length c3))
       (first | exact KS.out _ KD.out | exact KS.out _ (by assumption) | exact KT.out _ _ _ (by assumption))
       ((go_at_call 54;(with_reducible refine (HCP.out _ KD.out).mono ?_);rintro e W3 ⟨u,u',rfl,hown3,hown4,hap3,hb3⟩;obtain ⟨P,pc,rfl⟩:=zad hown3;obtain ⟨P',pc',rfl⟩:=zad hown4;have hB3:=zb2 (w0:=W2) hb3 KD.out;obtain ⟨⟨z0,z1⟩,z3,z4⟩:=KQ.out _ hB3))
      refine zau ?_;intro Z hZ;have hs3:=hB3.size;obtain ⟨ys',hn⟩:=HR2.out.mkt hB3 hlt HM.out HE.out.2.2.1 HE.out.2.2.2 rfl rfl hown3 hown4 hap3 ⟨hl1,hl2⟩ hZ;have HN:=zi hn;clear hZ hn hown3 hown4 hap3 hb3 z0 z1 z3 z4 KS KT KQ HCP KD h22 HGC;go_wp2_with fail
      go_roundw
      case rel=>exact ⟨j + 1,ys',by omega,by go_num,HN⟩
      case measure=>simp [intOf];omega
     ·obtain rfl:j=v.mks.length:=by omega
      have HZ:=zi (show CpR w wo v fa fm Aa ca Am km v.accs.length v.mks.length xs ys from HR.out);obtain ⟨⟨k0,k1,k2,k3,k4,k5,k6⟩,-⟩:=HZ.out.x.c7;obtain ⟨⟨r0,r1,r2,r3,r4,r5,r6⟩,f0,f1,f2,f3,f4,f5,f6⟩:=HZ.out.r.c7;have y1:=HZ.out.x.lt;have y2:=HZ.out.r.lt;clear HR;go_wp2_with fail
      refine zaq ?_;intro Z hZ;have hK:Kept [25] wo Z:=by
       rw [hZ];exact ((((((((Kept.refl _ _).set HZ.out.r (by decide) _ _).set (HZ.out.r.set_ _ _) (by decide) _ _).set ((HZ.out.r.set_ _ _).set_ _ _) (by decide) _ _).set (((HZ.out.r.set_ _ _).set_ _ _).set_ _ _) (by decide) _ _).set ((((HZ.out.r.set_ _ _).set_ _ _).set_ _ _).set_ _ _) (by decide) _ _).set (((((HZ.out.r.set_ _ _).set_ _ _).set_ _ _).set_ _ _).set_ _ _) (by decide) _ _).set ((((((HZ.out.r.set_ _ _).set_ _ _).set_ _ _).set_ _ _).set_ _ _).set_ _ _) (by decide) _ _)
      have RZ:Blk Z (w.heap.size + 1) 25 #[.slice Aa v.accs.length ca,.slice Am v.mks.length km,.int .i64 v.ins,.int .i64 v.resid,.int .i64 v.next,.int .i64 v.inn,.int .i64 v.out]:=by rw [hZ];exact ((((((HZ.out.r.set_ 0 _).set_ 1 _).set_ 2 _).set_ 3 _).set_ 4 _).set_ 5 _).set_ 6 _
      have HL:=zi (show Below w.heap.size w Z by rw [hZ];exact ((((((HZ.out.low.setCell (by simp) _).setCell (by simp) _).setCell (by simp) _).setCell (by simp) _).setCell (by simp) _).setCell (by simp) _).setCell (by simp) _);have HK:=zi hK;clear hZ hK k0 k1 k2 k3 k4 k5 k6 r0 r1 r2 r3 r4 r5 r6 f0 f1 f2 f3 f4 f5 f6;obtain ⟨⟨k0,k1,k2,k3,k4,k5,k6⟩,-⟩:=RZ.c7;refine bodyPost_ret (v:=.agg #[.slice Aa v.accs.length ca,.slice Am v.mks.length km,.int .i64 v.ins,.int .i64 v.resid,.int .i64 v.next,.int .i64 v.inn,.int .i64 v.out]) (by simp [results,Tryz.results28,go_sem, *]) rfl ?_;exact ⟨Aa,ca,Am,km,xs,ys,rfl,HZ.out.pa.own.kept HK.out (by decide) (by decide),HZ.out.pm.own.kept HK.out (by decide) (by decide),HL.out⟩
end
end Go.Proofs.YtockodmbhnlheaaGreatDoor
