import Derived.Test.YtockodmbhnlheaaGreatDoorAR
namespace Go.Proofs.YtockodmbhnlheaaGreatDoor
section
open Go.RowKit
set_option maxHeartbeats 4000000 in
set_option maxRecDepth 100000 in
theorem zrO (b:Bk) (o:Od) (A A':Option Addr) (c c' B:Nat) (w:World) (h:BkR w B A A' c c' b) (hB:B ≤ w.heap.size) (hl:b.bids.length ≤ 4000000000000) (hl':b.asks.length ≤ 4000000000000) (hsd:o.side=1) :
  Calls Tryz.prog 129 #[.agg #[.slice A b.bids.length c,.slice A' b.asks.length c'],.agg #[.int .i64 o.id,.int .i64 o.acc,.int .i64 o.side,.int .i64 o.price,.int .i64 o.qty]] w (zhl w (za1 b o)):=by
 have HE:=zi (show za1 b o=if zav b ≠ 0 then (zaH,[],0,false,zav b) else if zax o ≠ 0 then (zaH,[],0,false,zax o)
  else (zcl b o.side (zan o o.qty (zap b o.side)).1,(zan o o.qty (zap b o.side)).2.1,(zan o o.qty (zap b o.side)).2.2.1,(zan o o.qty (zap b o.side)).2.2.2,0) from rfl)
 have HSD0:=zi hsd;clear hsd;go_enter Tryz.func129,Tryz.ntmps129
 go_wp2_with fail
 refine zak ?_;intro w2 hw2;have hb2:Below w.heap.size w w2:=by rw [hw2];exact (((Below.refl _ _).alloc (zl _) _).alloc (by simp) _).alloc (by simp;omega) _
 have hs2:w2.heap.size=w.heap.size + 1 + 1 + 1:=by rw [hw2];simp
 have X1:Blk w2 w.heap.size 83 #[.slice A b.bids.length c,.slice A' b.asks.length c']:=by rw [hw2];exact ((Blk.new w _ _).alloc _).alloc _
 have X2:Blk w2 (w.heap.size + 1) 32 #[.int .i64 o.id,.int .i64 o.acc,.int .i64 o.side,.int .i64 o.price,.int .i64 o.qty]:=by rw [hw2];exact (Blk.new_at _ _ _ _ (by simp)).alloc _
 have X3:Blk w2 (w.heap.size + 1 + 1) 83 #[.slice none 0 0,.slice none 0 0]:=by rw [hw2];exact Blk.new_at _ _ _ _ (by simp)
 have hr:=h.below (hb2.mono hB);clear hw2;refine (zdv b A A' c c' B w2 hr.l hr.r (by omega) hl hl').mono ?_;rintro e w3 ⟨rfl,hb3⟩;have hs3:=hb3.size;obtain ⟨⟨kX10,kX11⟩,fX10,fX11⟩:=X1.c2;obtain ⟨⟨kX20,kX21,kX22,kX23,kX24⟩,-⟩:=X2.c5;obtain ⟨⟨kX30,kX31⟩,fX30,fX31⟩:=X3.c2;clear kX10 kX11 fX10 fX11;replace X1:=X1.below hb3 X1.lt;obtain ⟨⟨kX10,kX11⟩,fX10,fX11⟩:=X1.c2;clear kX20 kX21 kX22 kX23 kX24;replace X2:=X2.below hb3 X2.lt;obtain ⟨⟨kX20,kX21,kX22,kX23,kX24⟩,-⟩:=X2.c5;clear kX30 kX31 fX30 fX31;replace X3:=X3.below hb3 X3.lt;obtain ⟨⟨kX30,kX31⟩,fX30,fX31⟩:=X3.c2;replace hb2:=hb2.trans (hb3.mono (by omega));replace hr:=hr.below (hb3.mono (by omega));clear hb3;by_cases he:zav b=0
 rotate_left
 ·have HE1:=zi (HE.out.trans (if_pos he));have he':(zav b != 0)=true:=by simpa using he
  clear he HE;have x3:w.heap.size + 1 + 1 < w3.heap.size:=by omega
  go_wp2_with fail
  refine zaq ?_;intro Z hZ;have XZ3:Blk Z (w.heap.size + 1 + 1) 83 #[.slice none 0 0,.slice none 0 0]:=by rw [hZ];exact (X3.set_ 0 _).set_ 1 _
  have hbZ:Below w.heap.size w Z:=by rw [hZ];exact (hb2.setCell (by dsimp only;omega) _).setCell (by dsimp only;omega) _
  clear hZ kX30 kX31 fX30 fX31;obtain ⟨⟨kXZ30,kXZ31⟩,-⟩:=XZ3.c2;refine bodyPost_ret (v:=.tuple #[.agg #[.slice none 0 0,.slice none 0 0],.slice none 0 0,.int .i64 0,.bool false,.int .i64 (zav b)]) (by simp [results,Tryz.results129,go_sem, *]) rfl ?_;exact zcz (x:=zaH) (l:=[]) HE1.out rfl rfl (World.ownsRow_nil _ _ _ _) (World.ownsRow_nil _ _ _ _) rfl (World.ownsRow_nil _ _ _ _) (fun k h=>by cases h) hbZ
 ·have HE1:=zi (HE.out.trans (if_neg (by omega)));have HBK:=zi (zb6.1 he);have hlen:=HBK.out.len;rw [he];clear he HE;go_wp2_with fail
  refine (zfo o w3).mono ?_;rintro e w4 ⟨rfl,hb4⟩;have hs4:=hb4.size;clear kX10 kX11 fX10 fX11;replace X1:=X1.below hb4 X1.lt;obtain ⟨⟨kX10,kX11⟩,fX10,fX11⟩:=X1.c2;clear kX20 kX21 kX22 kX23 kX24;replace X2:=X2.below hb4 X2.lt;obtain ⟨⟨kX20,kX21,kX22,kX23,kX24⟩,-⟩:=X2.c5;clear kX30 kX31 fX30 fX31;replace X3:=X3.below hb4 X3.lt;obtain ⟨⟨kX30,kX31⟩,fX30,fX31⟩:=X3.c2;replace hb2:=hb2.trans (hb4.mono (by omega));replace hr:=hr.below (hb4.mono (by omega));clear hb4;by_cases ho:zax o=0
  rotate_left
  ·have HE2:=zi (HE1.out.trans (if_pos ho));have he':(zax o != 0)=true:=by simpa using ho
   clear ho HE1;have x3:w.heap.size + 1 + 1 < w4.heap.size:=by omega
   go_wp2_with fail
   refine zaq ?_;intro Z hZ;have XZ3:Blk Z (w.heap.size + 1 + 1) 83 #[.slice none 0 0,.slice none 0 0]:=by rw [hZ];exact (X3.set_ 0 _).set_ 1 _
   have hbZ:Below w.heap.size w Z:=by rw [hZ];exact (hb2.setCell (by dsimp only;omega) _).setCell (by dsimp only;omega) _
   clear hZ kX30 kX31 fX30 fX31;obtain ⟨⟨kXZ30,kXZ31⟩,-⟩:=XZ3.c2;refine bodyPost_ret (v:=.tuple #[.agg #[.slice none 0 0,.slice none 0 0],.slice none 0 0,.int .i64 0,.bool false,.int .i64 (zax o)]) (by simp [results,Tryz.results129,go_sem, *]) rfl ?_;exact zcz (x:=zaH) (l:=[]) HE2.out rfl rfl (World.ownsRow_nil _ _ _ _) (World.ownsRow_nil _ _ _ _) rfl (World.ownsRow_nil _ _ _ _) (fun k h=>by cases h) hbZ
  ·have HE2:=zi (HE1.out.trans (if_neg (by omega)));have HO:=zi (zaP.1 ho);rw [ho];clear ho HE1;go_wp2_with fail
   refine (zhf b A A' c c' B w4 hr (by omega) (by omega) (by omega)).mono ?_;rintro e w5 ⟨v1,v2,rfl,hv1,hv2,hd12,hb5⟩;obtain ⟨P1,p1,rfl⟩:=zad hv1;obtain ⟨P2,p2,rfl⟩:=zad hv2;have hs5:=hb5.size;clear kX10 kX11 fX10 fX11;replace X1:=X1.below hb5 X1.lt;obtain ⟨⟨kX10,kX11⟩,fX10,fX11⟩:=X1.c2;clear kX20 kX21 kX22 kX23 kX24;replace X2:=X2.below hb5 X2.lt;obtain ⟨⟨kX20,kX21,kX22,kX23,kX24⟩,-⟩:=X2.c5;replace X3:=X3.below hb5 X3.lt;replace hb2:=hb2.trans (hb5.mono (by omega));clear hb5 hr kX30 kX31 fX30 fX31;go_wp2_with fail
   refine zak ?_;intro w6 hw6;have hs6:w6.heap.size=w5.heap.size:=by rw [hw6];simp
   have hb6:Below w.heap.size w w6:=by rw [hw6];exact (hb2.setCell (zl _) _).setCell (zl _) _
   have Y1:Blk w6 w.heap.size 83 #[.slice P1 b.bids.length p1,.slice P2 b.asks.length p2]:=by rw [hw6];exact (X1.set_ 0 _).set_ 1 _
   have Y2:Blk w6 (w.heap.size + 1) 32 #[.int .i64 o.id,.int .i64 o.acc,.int .i64 o.side,.int .i64 o.price,.int .i64 o.qty]:=by rw [hw6];exact (X2.far (by simp) _).far (by simp) _
   have Y3:Blk w6 (w.heap.size + 1 + 1) 83 #[.slice none 0 0,.slice none 0 0]:=by rw [hw6];exact (X3.far (by simp;omega) _).far (by simp;omega) _
   have R1:w6.ownsRow w4.heap.size 32 5 (.slice P1 b.bids.length p1) b.bids.length (zaa b.bids):=by rw [hw6];exact ownsRow_setCell_below (ownsRow_setCell_below hv1 (by dsimp only;omega) _) (by dsimp only;omega) _
   have R2:w6.ownsRow w4.heap.size 32 5 (.slice P2 b.asks.length p2) b.asks.length (zaa b.asks):=by rw [hw6];exact ownsRow_setCell_below (ownsRow_setCell_below hv2 (by dsimp only;omega) _) (by dsimp only;omega) _
   clear hw6 hv1 hv2 X1 X2 X3 kX10 kX11 fX10 fX11 kX20 kX21 kX22 kX23 kX24 hb2;have HX:=zi (zlg o b);have HSO:=zi (zex HBK.out o.side HO.out.2.2.1);obtain ⟨⟨kY10,kY11⟩,-⟩:=Y1.c2;obtain ⟨⟨kY20,kY21,kY22,kY23,kY24⟩,-⟩:=Y2.c5;have hsd:=HSD0.out;have hs1:(o.side == 1)=true:=by simpa using hsd
   have HY:=zi (HX.out.1 hsd);clear hsd HX;refine (zkx w.heap.size o.side w6 _ _ kY10 kY11 hs1).mono ?_;rintro e w7 ⟨rfl,hw7⟩;have HK:Hid (Tk w w7 w4.heap.size #[.slice P1 b.bids.length p1,.slice P2 b.asks.length p2] o (b.bids) (zap b o.side) (b.asks) [] o.qty (b.asks).length (.slice none 0 0) (.slice P1 b.bids.length p1) (.slice P2 b.asks.length p2)):=by
    have hso:=HSO.out;rw [HY.out.1] at hso ⊢;have hq:=HO.out.2.2.2.2;have hsub:w6.heap.size=w7.heap.size:=by rw [hw7];rfl
    subst hw7;exact ⟨zac hb6 1,Y1,Y2,Y3,by omega,by omega,zaz R1 1,zaz R2 1,rfl,World.ownsRow_nil _ _ _ _,fun k h e=>hd12 k h e,fun k h=>nofun,fun k h=>nofun,hso,rfl,by omega,.inl (by simp only [List.length_nil];omega)⟩
   have hs7:w7.heap.size=w6.heap.size:=by rw [hw7];rfl
   have Z1:Blk w7 w.heap.size 83 #[.slice P1 b.bids.length p1,.slice P2 b.asks.length p2]:=by rw [hw7];exact Y1
   have Z2:Blk w7 (w.heap.size + 1) 32 #[.int .i64 o.id,.int .i64 o.acc,.int .i64 o.side,.int .i64 o.price,.int .i64 o.qty]:=by rw [hw7];exact Y2
   clear hw7 Y1 Y2 Y3 R1 R2 hb6 kY10 kY11 kY20 kY21 kY22 kY23 kY24 hd12;obtain ⟨⟨kZ20,kZ21,kZ22,kZ23,kZ24⟩,-⟩:=Z2.c5;go_wp2_with fail
   clear kZ20 kZ21 kZ22 kZ23 kZ24 Z1 Z2;go_loopw [5,6,7] (fun vf lf mt wr=>∃ (M:List Od) (fs:List Fl) (left:Int) (AX:Option Addr) (cX NX:Nat),lf=.int .i64 left∧mt=.bool false∧left ≤ 1000∧0 ≤ left∧Hid (Tk w wr w4.heap.size #[(.slice P1 b.bids.length p1),(.slice AX NX cX)] o (b.bids) (zap b o.side) M fs left NX vf (.slice P1 b.bids.length p1) (.slice AX NX cX))) (fun _ lf _ _=>(intOf lf).toNat)
   case atStart=>exact ⟨_,_,_,_,_,_,rfl,rfl,HO.out.2.2.2.2.2,(by have:=HO.out.2.2.2.2.1;omega),HK⟩
   case round =>
    obtain ⟨M,fs,left,AX,cX,NX,rfl,rfl,hl1,hl0,HK⟩:=hrel;obtain ⟨AF,cF,rfl⟩:=zad HK.out.rowF;have hws:=HK.out.bel.size;have hlq:=HK.out.left_.2;have hlow:=HK.out.low;have hhigh:=HK.out.high;have X1:=HK.out.one;have X2:=HK.out.two;have X3:=HK.out.three;have hx1:w.heap.size < wr.heap.size:=by omega
    have hx2:w.heap.size + 1 < wr.heap.size:=by omega
    have hx3:w.heap.size + 1 + 1 < wr.heap.size:=by omega
    rcases Int.lt_or_le 0 left with hl | hl;rotate_left
    ·have HT:=zi (zhj HK.out.take (.inl hl));have d1:decide ((0:Int) < left)=false:=decide_eq_false (by omega);obtain ⟨⟨kX10,kX11⟩,-⟩:=X1.c2;obtain ⟨⟨kX30,kX31⟩,fX30,fX31⟩:=X3.c2;go_wp2_with fail
     go_quiet (fail)
     go_wp2_with fail
     refine zaq ?_;intro Z hZ;have XZ3:Blk Z (w.heap.size + 1 + 1) 83 #[(.slice P1 b.bids.length p1),(.slice AX NX cX)]:=by rw [hZ];first | exact ((X3.set_ 0 _).set_ 1 _).drewN _ | exact (X3.set_ 0 _).set_ 1 _
     have hbZ:Below w.heap.size w Z:=by rw [hZ];first | exact zac ((HK.out.bel.setCell (by dsimp only;omega) _).setCell (by dsimp only;omega) _) _ | exact (HK.out.bel.setCell (by dsimp only;omega) _).setCell (by dsimp only;omega) _
     have hkeep:∀ {e k n:Nat} {v:Value} {xs:List Value},wr.ownsRow w4.heap.size e k v n xs→Z.ownsRow w.heap.size e k v n xs:=by
      intro e k n v xs hv;rw [hZ];have h1:=ownsRow_setCell_below (ownsRow_setCell_below hv (a:=⟨w.heap.size + 1 + 1,0,none⟩) (by dsimp only;omega) ((.slice P1 b.bids.length p1))) (a:=⟨w.heap.size + 1 + 1,1,none⟩) (by dsimp only;omega) ((.slice AX NX cX));first | exact zae (zaz h1 _) (by omega) | exact zae h1 (by omega)
     clear hZ kX30 kX31 fX30 fX31 kX10 kX11;obtain ⟨⟨kXZ30,kXZ31⟩,-⟩:=XZ3.c2;refine bodyPost_ret (v:=.tuple #[.agg #[(.slice P1 b.bids.length p1),(.slice AX NX cX)],.slice AF fs.length cF,.int .i64 left,.bool false,.int .i64 0]) (by simp [results,Tryz.results129,go_sem, *]) rfl ?_;exact zcz (x:=mkA b M) (by rw [HE2.out,HT.out,HY.out.2]) rfl HK.out.lenX (hkeep HK.out.rowO) (hkeep HK.out.rowX) rfl (hkeep HK.out.rowF) (fun k e f=>HK.out.ox k e f) hbZ
    ·have hlenX:=HK.out.lenX;rcases zgm M with hM | ⟨x,l,hM⟩
     ·have HT:=zi (zhj HK.out.take (.inr (.inl hM)));have d1:decide ((0:Int) < left)=true:=decide_eq_true hl;obtain rfl:NX=0:=by rw [← hlenX,hM];rfl
      clear hlenX hM;obtain ⟨⟨kX10,kX11⟩,-⟩:=X1.c2;obtain ⟨⟨kX30,kX31⟩,fX30,fX31⟩:=X3.c2;go_wp2_with fail
      go_quiet (fail)
      go_wp2_with fail
      refine zaq ?_;intro Z hZ;have XZ3:Blk Z (w.heap.size + 1 + 1) 83 #[(.slice P1 b.bids.length p1),(.slice AX 0 cX)]:=by rw [hZ];first | exact ((X3.set_ 0 _).set_ 1 _).drewN _ | exact (X3.set_ 0 _).set_ 1 _
      have hbZ:Below w.heap.size w Z:=by rw [hZ];first | exact zac ((HK.out.bel.setCell (by dsimp only;omega) _).setCell (by dsimp only;omega) _) _ | exact (HK.out.bel.setCell (by dsimp only;omega) _).setCell (by dsimp only;omega) _
      have hkeep:∀ {e k n:Nat} {v:Value} {xs:List Value},wr.ownsRow w4.heap.size e k v n xs→Z.ownsRow w.heap.size e k v n xs:=by
       intro e k n v xs hv;rw [hZ];have h1:=ownsRow_setCell_below (ownsRow_setCell_below hv (a:=⟨w.heap.size + 1 + 1,0,none⟩) (by dsimp only;omega) ((.slice P1 b.bids.length p1))) (a:=⟨w.heap.size + 1 + 1,1,none⟩) (by dsimp only;omega) ((.slice AX 0 cX));first | exact zae (zaz h1 _) (by omega) | exact zae h1 (by omega)
      clear hZ kX30 kX31 fX30 fX31 kX10 kX11;obtain ⟨⟨kXZ30,kXZ31⟩,-⟩:=XZ3.c2;refine bodyPost_ret (v:=.tuple #[.agg #[(.slice P1 b.bids.length p1),(.slice AX 0 cX)],.slice AF fs.length cF,.int .i64 left,.bool false,.int .i64 0]) (by simp [results,Tryz.results129,go_sem, *]) rfl ?_;exact zcz (x:=mkA b M) (by rw [HE2.out,HT.out,HY.out.2]) rfl HK.out.lenX (hkeep HK.out.rowO) (hkeep HK.out.rowX) rfl (hkeep HK.out.rowF) (fun k e f=>HK.out.ox k e f) hbZ
     ·obtain ⟨m,rfl⟩:∃ m,NX=m + 1:=⟨l.length,by rw [← hlenX,hM];rfl⟩;subst hM;obtain ⟨g,sp,hAX,hbg,hgb,hml,hmc,hcm,hsp⟩:=zmv HK.out.rowX;subst hAX;have HML:=zi hml;have HSP:=zi hsp;have hgw:=hgb.lt;have HGB:=zi hgb;obtain ⟨⟨g0,g1,g2,g3,g4⟩,fg0,fg1,fg2,fg3,fg4⟩:=zcj hgb;have hxq:=(zaP.1 (HK.out.side.ok x (by simp))).2.2.2.2;have d1:decide ((0:Int) < left)=true:=decide_eq_true hl;have d2:decide ((0:Int) < ((m + 1:Nat):Int))=true:=decide_eq_true (by omega);have d3:decide ((0:Int) < (m:Int) + 1)=true:=decide_eq_true (by omega);have d4:(0:Int) < (m:Int) + 1:=by omega
      have KS:Hid (∀ W,Below wr.heap.size wr W→Below wr.heap.size wr W∧W.cell? ⟨w.heap.size,1,none⟩=some (.slice (some ⟨g,0,none⟩) (m + 1) cX)∧(W.cell? ⟨w.heap.size + 1,0,none⟩=some (.int .i64 o.id)∧W.cell? ⟨w.heap.size + 1,1,none⟩=some (.int .i64 o.acc)∧W.cell? ⟨w.heap.size + 1,2,none⟩=some (.int .i64 o.side)∧W.cell? ⟨w.heap.size + 1,3,none⟩=some (.int .i64 o.price)∧W.cell? ⟨w.heap.size + 1,4,none⟩=some (.int .i64 o.qty))∧W.cell? ⟨g,3,none⟩=some (.int .i64 x.price)):=by
       intro W hW;obtain ⟨⟨a0,a1⟩,-⟩:=(X1.below hW X1.lt).c2;exact ⟨hW,a1,(X2.below hW X2.lt).c5.1,((zsF hW).1 g 3 hgw).trans g3⟩
      have h22:Below wr.heap.size wr wr:=Below.refl _ _;clear hgb g0 g1 g2 g3 g4 fg0 fg1 fg2 fg3 fg4 hml hlenX hsp;rcases zcr (zbc o x.price) with hc | hc
      ·have HT:=zi (zhj HK.out.take (.inr (.inr ⟨x,l,rfl,hc⟩)));go_wp2_with fail
       go_region_held3 (fun W=>Below wr.heap.size wr W∧W.cell? ⟨w.heap.size,1,none⟩=some (.slice (some ⟨g,0,none⟩) (m + 1) cX)∧(W.cell? ⟨w.heap.size + 1,0,none⟩=some (.int .i64 o.id)∧W.cell? ⟨w.heap.size + 1,1,none⟩=some (.int .i64 o.acc)∧W.cell? ⟨w.heap.size + 1,2,none⟩=some (.int .i64 o.side)∧W.cell? ⟨w.heap.size + 1,3,none⟩=some (.int .i64 o.price)∧W.cell? ⟨w.heap.size + 1,4,none⟩=some (.int .i64 o.qty))∧W.cell? ⟨g,3,none⟩=some (.int .i64 x.price))
        (first | (exact KS.out _ (by assumption)) | (exact KS.out _ (zar (by assumption))))
        ((first | (go_at_call 158;go_split_ands;(with_reducible refine (zca o x.price _).mono ?_);rintro e W' ⟨rfl,hb⟩;have hB:=zbV (w0:=wr) hb (by first | assumption | exact zar (by assumption)))))
       replace HK:=zi (HK.out.below hB);replace X3:=X3.below hB X3.lt;replace X1:=X1.below hB X1.lt;clear X2 h22 hc HGB KS;obtain ⟨⟨kX10,kX11⟩,-⟩:=X1.c2;obtain ⟨⟨kX30,kX31⟩,fX30,fX31⟩:=X3.c2;go_wp2_with fail
       refine zaq ?_;intro Z hZ;have XZ3:Blk Z (w.heap.size + 1 + 1) 83 #[(.slice P1 b.bids.length p1),(.slice (some ⟨g,0,none⟩) (m + 1) cX)]:=by rw [hZ];first | exact ((X3.set_ 0 _).set_ 1 _).drewN _ | exact (X3.set_ 0 _).set_ 1 _
       have hbZ:Below w.heap.size w Z:=by rw [hZ];first | exact zac ((HK.out.bel.setCell (by dsimp only;omega) _).setCell (by dsimp only;omega) _) _ | exact (HK.out.bel.setCell (by dsimp only;omega) _).setCell (by dsimp only;omega) _
       have hkeep:∀ {e k n:Nat} {v:Value} {xs:List Value},W'.ownsRow w4.heap.size e k v n xs→Z.ownsRow w.heap.size e k v n xs:=by
        intro e k n v xs hv;rw [hZ];have h1:=ownsRow_setCell_below (ownsRow_setCell_below hv (a:=⟨w.heap.size + 1 + 1,0,none⟩) (by dsimp only;omega) ((.slice P1 b.bids.length p1))) (a:=⟨w.heap.size + 1 + 1,1,none⟩) (by dsimp only;omega) ((.slice (some ⟨g,0,none⟩) (m + 1) cX));first | exact zae (zaz h1 _) (by omega) | exact zae h1 (by omega)
       clear hZ kX30 kX31 fX30 fX31 kX10 kX11;obtain ⟨⟨kXZ30,kXZ31⟩,-⟩:=XZ3.c2;refine bodyPost_ret (v:=.tuple #[.agg #[(.slice P1 b.bids.length p1),(.slice (some ⟨g,0,none⟩) (m + 1) cX)],.slice AF fs.length cF,.int .i64 left,.bool false,.int .i64 0]) (by simp [results,Tryz.results129,go_sem, *]) rfl ?_;exact zcz (x:=mkA b (x :: l)) (by rw [HE2.out,HT.out,HY.out.2]) rfl HK.out.lenX (hkeep HK.out.rowO) (hkeep HK.out.rowX) rfl (hkeep HK.out.rowF) (fun k e f=>HK.out.ox k e f) hbZ
      ·by_cases hacc:x.acc=o.acc
       ·have HT:=zi (zqf HK.out.take hl hc hacc);have ha1:(x.acc == o.acc)=true:=by simpa using hacc
        clear hacc;go_wp2_with fail
        go_region_held3 (fun W=>Below wr.heap.size wr W∧W.cell? ⟨w.heap.size,1,none⟩=some (.slice (some ⟨g,0,none⟩) (m + 1) cX)∧(W.cell? ⟨w.heap.size + 1,0,none⟩=some (.int .i64 o.id)∧W.cell? ⟨w.heap.size + 1,1,none⟩=some (.int .i64 o.acc)∧W.cell? ⟨w.heap.size + 1,2,none⟩=some (.int .i64 o.side)∧W.cell? ⟨w.heap.size + 1,3,none⟩=some (.int .i64 o.price)∧W.cell? ⟨w.heap.size + 1,4,none⟩=some (.int .i64 o.qty))∧W.cell? ⟨g,3,none⟩=some (.int .i64 x.price))
         (first | (exact KS.out _ (by assumption)) | (exact KS.out _ (zar (by assumption))))
         ((first | (go_at_call 158;go_split_ands;(with_reducible refine (zca o x.price _).mono ?_);rintro e W' ⟨rfl,hb⟩;have hB:=zbV (w0:=wr) hb (by first | assumption | exact zar (by assumption)))))
        replace HK:=zi (HK.out.below hB);replace X3:=X3.below hB X3.lt;replace X2:=X2.below hB X2.lt;replace X1:=X1.below hB X1.lt;obtain ⟨⟨g0,g1,g2,g3,g4⟩,-⟩:=zcj (HGB.out.below hB hgw);clear h22 hc HGB KS;obtain ⟨⟨kX10,kX11⟩,-⟩:=X1.c2;obtain ⟨⟨kX20,kX21,kX22,kX23,kX24⟩,-⟩:=X2.c5;obtain ⟨⟨kX30,kX31⟩,fX30,fX31⟩:=X3.c2;go_wp2_with fail
        go_quiet (fail)
        go_wp2_with fail
        refine zaq ?_;intro Z hZ;have XZ3:Blk Z (w.heap.size + 1 + 1) 83 #[(.slice P1 b.bids.length p1),(.slice (some ⟨g,0,none⟩) (m + 1) cX)]:=by rw [hZ];first | exact ((X3.set_ 0 _).set_ 1 _).drewN _ | exact (X3.set_ 0 _).set_ 1 _
        have hbZ:Below w.heap.size w Z:=by rw [hZ];first | exact zac ((HK.out.bel.setCell (by dsimp only;omega) _).setCell (by dsimp only;omega) _) _ | exact (HK.out.bel.setCell (by dsimp only;omega) _).setCell (by dsimp only;omega) _
        have hkeep:∀ {e k n:Nat} {v:Value} {xs:List Value},W'.ownsRow w4.heap.size e k v n xs→Z.ownsRow w.heap.size e k v n xs:=by
         intro e k n v xs hv;rw [hZ];have h1:=ownsRow_setCell_below (ownsRow_setCell_below hv (a:=⟨w.heap.size + 1 + 1,0,none⟩) (by dsimp only;omega) ((.slice P1 b.bids.length p1))) (a:=⟨w.heap.size + 1 + 1,1,none⟩) (by dsimp only;omega) ((.slice (some ⟨g,0,none⟩) (m + 1) cX));first | exact zae (zaz h1 _) (by omega) | exact zae h1 (by omega)
        clear hZ kX30 kX31 fX30 fX31 kX10 kX11;obtain ⟨⟨kXZ30,kXZ31⟩,-⟩:=XZ3.c2;refine bodyPost_ret (v:=.tuple #[.agg #[(.slice P1 b.bids.length p1),(.slice (some ⟨g,0,none⟩) (m + 1) cX)],.slice AF fs.length cF,.int .i64 left,.bool true,.int .i64 0]) (by simp [results,Tryz.results129,go_sem, *]) rfl ?_;exact zcz (x:=mkA b (x :: l)) (by rw [HE2.out,HT.out,HY.out.2]) rfl HK.out.lenX (hkeep HK.out.rowO) (hkeep HK.out.rowX) rfl (hkeep HK.out.rowF) (fun k e f=>HK.out.ox k e f) hbZ
       ·have ha1:(x.acc == o.acc)=false:=by simpa using hacc
        rcases Int.lt_or_le x.qty left with hq | hq
        ·have HT:=zi (zmu HK.out.take hl hc hacc (by omega));have hq1:¬ left ≤ x.qty:=by omega
         have hq2:min left x.qty=x.qty:=by omega
         go_wp2_with fail
         go_region_held3 (fun W=>Below wr.heap.size wr W∧W.cell? ⟨w.heap.size,1,none⟩=some (.slice (some ⟨g,0,none⟩) (m + 1) cX)∧(W.cell? ⟨w.heap.size + 1,0,none⟩=some (.int .i64 o.id)∧W.cell? ⟨w.heap.size + 1,1,none⟩=some (.int .i64 o.acc)∧W.cell? ⟨w.heap.size + 1,2,none⟩=some (.int .i64 o.side)∧W.cell? ⟨w.heap.size + 1,3,none⟩=some (.int .i64 o.price)∧W.cell? ⟨w.heap.size + 1,4,none⟩=some (.int .i64 o.qty))∧W.cell? ⟨g,3,none⟩=some (.int .i64 x.price))
          (first | (exact KS.out _ (by assumption)) | (exact KS.out _ (zar (by assumption))))
          ((first | (go_at_call 158;go_split_ands;(with_reducible refine (zca o x.price _).mono ?_);rintro e W' ⟨rfl,hb⟩;have hB:=zbV (w0:=wr) hb (by first | assumption | exact zar (by assumption)))))
         replace HK:=zi (HK.out.below hB);replace X3:=X3.below hB X3.lt;replace X2:=X2.below hB X2.lt;replace X1:=X1.below hB X1.lt;replace HGB:=zi (HGB.out.below hB hgw);obtain ⟨⟨g0,g1,g2,g3,g4⟩,-⟩:=zcj HGB.out;clear h22 hc KS;obtain ⟨⟨kX10,kX11⟩,-⟩:=X1.c2;obtain ⟨⟨kX20,kX21,kX22,kX23,kX24⟩,-⟩:=X2.c5;go_wp2_with fail
         go_quiet (fail)
         go_wp2_with fail
         refine zbr ?_;intro W3 hW3;have hB3:Below W'.heap.size W' W3:=by rw [hW3];first | exact zac (Below.refl _ _) _ | exact Below.refl _ _
         clear hW3;have hs3':=hB3.size;have hsB:=hB.size;replace HK:=zi (HK.out.below hB3);replace HGB:=zi (HGB.out.below hB3 (by omega));have hgW:g < W3.heap.size:=by omega
         clear kX10 kX11;replace X1:=X1.below hB3 X1.lt;obtain ⟨⟨kX10,kX11⟩,-⟩:=X1.c2;clear kX20 kX21 kX22 kX23 kX24;replace X2:=X2.below hB3 X2.lt;obtain ⟨⟨kX20,kX21,kX22,kX23,kX24⟩,-⟩:=X2.c5;replace X3:=X3.below hB3 X3.lt;clear g0 g1 g2 g3 g4;have hfg:(Value.slice AF fs.length cF).ownBlock ≠ some g:=HK.out.fx g rfl;have hf1:(Value.slice AF fs.length cF).ownBlock ≠ some w.heap.size:=fun e=>by have:=(World.ownsRow.lt HK.out.rowF _ e).1;omega
         have hf2:(Value.slice AF fs.length cF).ownBlock ≠ some (w.heap.size + 1):=fun e=>by have:=(World.ownsRow.lt HK.out.rowF _ e).1;omega
         have hf3:(Value.slice AF fs.length cF).ownBlock ≠ some (w.heap.size + 1 + 1):=fun e=>by have:=(World.ownsRow.lt HK.out.rowF _ e).1;omega
         have hcnt:fs.length + (m + 1) ≤ 40:=by
          have h1:=HK.out.cnt;have h2:=HK.out.lenX;rw [h2] at h1;omega
         have KW:Hid (∀ W,Only W3 W (Value.slice AF fs.length cF).ownBlock→(W.cell? ⟨g,0,none⟩=some (.int .i64 x.id)∧W.cell? ⟨g,1,none⟩=some (.int .i64 x.acc)∧W.cell? ⟨g,3,none⟩=some (.int .i64 x.price))∧(W.cell? ⟨w.heap.size + 1,0,none⟩=some (.int .i64 o.id)∧W.cell? ⟨w.heap.size + 1,1,none⟩=some (.int .i64 o.acc)∧W.cell? ⟨w.heap.size + 1,2,none⟩=some (.int .i64 o.side))):=by
          intro W hW;obtain ⟨⟨g0,g1,g2,g3,g4⟩,-⟩:=zcj HGB.out;have e1:=fun q=>zcB (o:=q) hW hgW (fun e=>hfg e.symm);have e2:=fun q=>zcB (k:=w.heap.size + 1) (o:=q) hW X2.lt (fun e=>hf2 e.symm);exact ⟨⟨(e1 _).trans g0,(e1 _).trans g1,(e1 _).trans g3⟩,(e2 _).trans kX20,(e2 _).trans kX21,(e2 _).trans kX22⟩
         clear kX20 kX21 kX22 kX23 kX24 kX10 kX11;have HFR:=zi HK.out.rowF;have hhi:=HK.out.high;go_region_held3 (fun W=>(W.cell? ⟨g,0,none⟩=some (.int .i64 x.id)∧W.cell? ⟨g,1,none⟩=some (.int .i64 x.acc)∧W.cell? ⟨g,3,none⟩=some (.int .i64 x.price))∧(W.cell? ⟨w.heap.size + 1,0,none⟩=some (.int .i64 o.id)∧W.cell? ⟨w.heap.size + 1,1,none⟩=some (.int .i64 o.acc)∧W.cell? ⟨w.heap.size + 1,2,none⟩=some (.int .i64 o.side)))
          (first | (exact KW.out _ (zco _ _)) | (exact KW.out _ (zaT _ _ _)) | (exact KW.out _ (zcy (zaT _ _ _) (by simp) (zch (by assumption)))))
          ((refine zdq rfl (.tmp 73) (.tmp 94) 154 rfl w4.heap.size 55 7 56 zgq (.slice AF fs.length cF) fs.length (zaJ fs) (by rfl) (zaz (World.ownsRow.alloc HFR.out _) 1) (W3.heap.size + 1) (some ⟨W3.heap.size,0,none⟩) 1 1 (zaJ [zbw o x (x.qty)]) (by rfl) (zf5 _ _ _ 7 rfl rfl _ rfl).drew1 (zdR _) (by simp only [maxLen];omega) (by omega) (by simp;omega) ?_;intro vf' W4 hown4 hbel4 hgrow hat))
         have hs4':W3.heap.size + 1 ≤ W4.heap.size:=by have:=hgrow.size;simp at this;exact this
         have hon:Only W3 W4 (Value.slice AF fs.length cF).ownBlock:=zcy (zaT _ _ _) (by simp) (zch hgrow);have V1:Blk W4 w.heap.size 83 #[(.slice P1 b.bids.length p1),(.slice (some ⟨g,0,none⟩) (m + 1) cX)]:=(hon _ X1.lt (fun e=>hf1 e.symm)).trans X1;have V2:Blk W4 (w.heap.size + 1) 32 #[.int .i64 o.id,.int .i64 o.acc,.int .i64 o.side,.int .i64 o.price,.int .i64 o.qty]:=(hon _ X2.lt (fun e=>hf2 e.symm)).trans X2;have V3:Blk W4 (w.heap.size + 1 + 1) 83 #[.slice none 0 0,.slice none 0 0]:=(hon _ X3.lt (fun e=>hf3 e.symm)).trans X3;have Vg:Blk W4 g 32 (zaa (x :: l) ++ sp).toArray:=(hon _ hgW (fun e=>hfg e.symm)).trans HGB.out;have HVO:=zi (zaO HK.out.rowO hon (fun k h e=>HK.out.fo k h e));have hbW4:Below w.heap.size w W4:=(HK.out.bel.trans (((zar (Below.refl _ _)).alloc (zl _) _).mono HK.out.bel.size |> fun h=>h.trans (hbel4.mono (by omega)) |> fun h=>h.mono (zl _)));rw [← zdQ] at hown4;have HVF:=zi hown4
         have HFO:Hid (∀ k,((.slice P1 b.bids.length p1):Value).ownBlock=some k→vf'.ownBlock ≠ some k):=fun k h e=>by
          have a1:=HK.out.fo k h;have a2:=(World.ownsRow.lt HK.out.rowO k h).2;rcases hat with hat | hat
          ·rw [hat] at e;exact a1 e
          ·rw [hat] at e;injection e with e;simp at e;omega
         have HFG:Hid (vf'.ownBlock ≠ some g):=fun e=>by
          rcases hat with hat | hat
          ·rw [hat] at e;exact hfg e
          ·rw [hat] at e;injection e with e;simp at e;omega
         have HOX:=zi HK.out.ox;have HSD:=zi HK.out.side;clear X1 X2 X3 hon hgrow hat hown4 hbel4 HFR KW HGB;obtain ⟨⟨g0,g1,g2,g3,g4⟩,fg0,fg1,fg2,fg3,fg4⟩:=zcj Vg;have hlf:(fs ++ [zbw o x (x.qty)]).length=fs.length + 1:=by simp
         have HLF:=zi hlf;clear hlf;obtain ⟨⟨kV10,kV11⟩,fV10,fV11⟩:=V1.c2;go_wp2_with fail
         refine zak ?_;intro W5 hW5;have hs5':W5.heap.size=W4.heap.size:=by rw [hW5];simp
         have Vg5:Blk W5 g 32 (zaa ({ x with qty:=0 } :: l) ++ sp).toArray:=by rw [hW5,← set4];exact Vg.set_ 4 _
         have hon5:Only W4 W5 (some g):=by rw [hW5];exact zdb (zco _ _) rfl
         have hb5':Below w4.heap.size W4 W5:=by rw [hW5];exact (Below.refl _ _).setCell hbg _
         clear hW5 kV10 kV11 fV10 fV11 g0 g1 g2 g3 g4 fg0 fg1 fg2 fg3 fg4;have hg1:g ≠ w.heap.size:=by omega
         have hg2:g ≠ w.heap.size + 1:=by omega
         have hg3:g ≠ w.heap.size + 1 + 1:=by omega
         replace V1:=V1.only hon5 (fun e=>hg1 (by injection e with e;exact e.symm));replace V2:=V2.only hon5 (fun e=>hg2 (by injection e with e;exact e.symm));replace V3:=V3.only hon5 (fun e=>hg3 (by injection e with e;exact e.symm));have hvo5:=zaO HVO.out hon5 (fun k h e=>HOX.out k h (by rw [← e];rfl));have hvf5:=zaO HVF.out hon5 (fun k h e=>HFG.out (by rw [h,← e]));have hrow5:W5.ownsRow w4.heap.size 32 5 (.slice (some ⟨g,0,none⟩) (m + 1) cX) (m + 1) (zaa ({ x with qty:=0 } :: l)):=zhk Vg5 hbg (by simp [HML.out]) hmc hcm HSP.out;refine (zfA w4.heap.size _ (m + 1) { x with qty:=0 } l W5 hrow5 (by omega) (by omega)).mono ?_;rintro e W6 ⟨v6,rfl,hown6,hbk6,hbl6,hon6⟩;obtain ⟨P6,c6,rfl⟩:=zad hown6;rw [Nat.add_sub_cancel] at hown6 hbk6;rw [Nat.add_sub_cancel];have hs6':=hbl6.size;replace V1:=V1.only hon6 (fun e=>hg1 (by injection e with e;exact e.symm));replace V2:=V2.only hon6 (fun e=>hg2 (by injection e with e;exact e.symm))
         replace V3:=V3.only hon6 (fun e=>hg3 (by injection e with e;exact e.symm));have hvo6:=zaO hvo5 hon6 (fun k h e=>HOX.out k h e);have hvf6:=zaO hvf5 hon6 (fun k h e=>HFG.out (by rw [h,← e];rfl));have HN:Hid (Tk w (W6.setCell ⟨w.heap.size,1,none⟩ (.slice P6 m c6)) w4.heap.size #[(.slice P1 b.bids.length p1),(.slice P6 m c6)] o (b.bids) (zap b o.side) l (fs ++ [zbw o x (x.qty)]) (left - x.qty) m vf' (.slice P1 b.bids.length p1) (.slice P6 m c6)):=by
          refine ⟨((hbW4.trans (hb5'.mono (by omega))).trans (hbl6.mono (by omega))).setCell (zl _) _,V1.set_ 1 _,V2.far (by simp) _,V3.far (by simp;omega) _,hlow,by simp;omega,ownsRow_setCell_below hvo6 (by dsimp only;omega) _,ownsRow_setCell_below hown6 (by dsimp only;omega) _,HML.out,?_,?_,HFO.out,?_,zd5 HSD.out (List.sublist_cons_self _ _),HT.out,by omega,.inl ?_⟩
          ·rw [HLF.out];exact ownsRow_setCell_below hvf6 (by dsimp only;omega) _
          ·intro k h e;rw [hbk6] at e;exact HOX.out k h e
          ·intro k h e;rw [hbk6] at h;injection h with h;subst h;exact HFG.out e
          ·rw [HLF.out,HML.out];omega
         clear hown6 hbk6 hbl6 hon6 hvo6 hvf6 hvo5 hvf5 hrow5 hon5 hb5' Vg5 Vg V2 V3 HVO HVF;obtain ⟨⟨kV10,kV11⟩,fV10,fV11⟩:=V1.c2;go_wp2_with fail
         go_roundw
         case rel=>exact ⟨l,_,_,P6,c6,m,rfl,rfl,by omega,by omega,HN⟩
         case measure=>simp [intOf];omega
        ·have hq1:left ≤ x.qty:=hq;rcases Int.lt_or_le left x.qty with hlt | hge
         ·have HT:=zi (zn2 HK.out.take hl hc hacc hlt);have HSP2:=zi (zlf HK.out.side hl hc hacc hlt);have hz:(x.qty - left == 0)=false:=by simp;omega
          go_wp2_with fail
          go_region_held3 (fun W=>Below wr.heap.size wr W∧W.cell? ⟨w.heap.size,1,none⟩=some (.slice (some ⟨g,0,none⟩) (m + 1) cX)∧(W.cell? ⟨w.heap.size + 1,0,none⟩=some (.int .i64 o.id)∧W.cell? ⟨w.heap.size + 1,1,none⟩=some (.int .i64 o.acc)∧W.cell? ⟨w.heap.size + 1,2,none⟩=some (.int .i64 o.side)∧W.cell? ⟨w.heap.size + 1,3,none⟩=some (.int .i64 o.price)∧W.cell? ⟨w.heap.size + 1,4,none⟩=some (.int .i64 o.qty))∧W.cell? ⟨g,3,none⟩=some (.int .i64 x.price))
           (first | (exact KS.out _ (by assumption)) | (exact KS.out _ (zar (by assumption))))
           ((first | (go_at_call 158;go_split_ands;(with_reducible refine (zca o x.price _).mono ?_);rintro e W' ⟨rfl,hb⟩;have hB:=zbV (w0:=wr) hb (by first | assumption | exact zar (by assumption)))))
          replace HK:=zi (HK.out.below hB);replace X3:=X3.below hB X3.lt;replace X2:=X2.below hB X2.lt;replace X1:=X1.below hB X1.lt;replace HGB:=zi (HGB.out.below hB hgw);obtain ⟨⟨g0,g1,g2,g3,g4⟩,-⟩:=zcj HGB.out;clear h22 hc KS;obtain ⟨⟨kX10,kX11⟩,-⟩:=X1.c2;obtain ⟨⟨kX20,kX21,kX22,kX23,kX24⟩,-⟩:=X2.c5;go_wp2_with fail
          go_quiet (fail)
          go_wp2_with fail
          refine zbr ?_;intro W3 hW3;have hB3:Below W'.heap.size W' W3:=by rw [hW3];first | exact zac (Below.refl _ _) _ | exact Below.refl _ _
          clear hW3;have hs3':=hB3.size;have hsB:=hB.size;replace HK:=zi (HK.out.below hB3);replace HGB:=zi (HGB.out.below hB3 (by omega));have hgW:g < W3.heap.size:=by omega
          clear kX10 kX11;replace X1:=X1.below hB3 X1.lt;obtain ⟨⟨kX10,kX11⟩,-⟩:=X1.c2;clear kX20 kX21 kX22 kX23 kX24;replace X2:=X2.below hB3 X2.lt;obtain ⟨⟨kX20,kX21,kX22,kX23,kX24⟩,-⟩:=X2.c5;replace X3:=X3.below hB3 X3.lt;clear g0 g1 g2 g3 g4;have hfg:(Value.slice AF fs.length cF).ownBlock ≠ some g:=HK.out.fx g rfl;have hf1:(Value.slice AF fs.length cF).ownBlock ≠ some w.heap.size:=fun e=>by have:=(World.ownsRow.lt HK.out.rowF _ e).1;omega
          have hf2:(Value.slice AF fs.length cF).ownBlock ≠ some (w.heap.size + 1):=fun e=>by have:=(World.ownsRow.lt HK.out.rowF _ e).1;omega
          have hf3:(Value.slice AF fs.length cF).ownBlock ≠ some (w.heap.size + 1 + 1):=fun e=>by have:=(World.ownsRow.lt HK.out.rowF _ e).1;omega
          have hcnt:fs.length + (m + 1) ≤ 40:=by
           have h1:=HK.out.cnt;have h2:=HK.out.lenX;rw [h2] at h1;omega
          have KW:Hid (∀ W,Only W3 W (Value.slice AF fs.length cF).ownBlock→(W.cell? ⟨g,0,none⟩=some (.int .i64 x.id)∧W.cell? ⟨g,1,none⟩=some (.int .i64 x.acc)∧W.cell? ⟨g,3,none⟩=some (.int .i64 x.price))∧(W.cell? ⟨w.heap.size + 1,0,none⟩=some (.int .i64 o.id)∧W.cell? ⟨w.heap.size + 1,1,none⟩=some (.int .i64 o.acc)∧W.cell? ⟨w.heap.size + 1,2,none⟩=some (.int .i64 o.side))):=by
           intro W hW;obtain ⟨⟨g0,g1,g2,g3,g4⟩,-⟩:=zcj HGB.out;have e1:=fun q=>zcB (o:=q) hW hgW (fun e=>hfg e.symm);have e2:=fun q=>zcB (k:=w.heap.size + 1) (o:=q) hW X2.lt (fun e=>hf2 e.symm);exact ⟨⟨(e1 _).trans g0,(e1 _).trans g1,(e1 _).trans g3⟩,(e2 _).trans kX20,(e2 _).trans kX21,(e2 _).trans kX22⟩
          clear kX20 kX21 kX22 kX23 kX24 kX10 kX11;have HFR:=zi HK.out.rowF;have hhi:=HK.out.high;go_region_held3 (fun W=>(W.cell? ⟨g,0,none⟩=some (.int .i64 x.id)∧W.cell? ⟨g,1,none⟩=some (.int .i64 x.acc)∧W.cell? ⟨g,3,none⟩=some (.int .i64 x.price))∧(W.cell? ⟨w.heap.size + 1,0,none⟩=some (.int .i64 o.id)∧W.cell? ⟨w.heap.size + 1,1,none⟩=some (.int .i64 o.acc)∧W.cell? ⟨w.heap.size + 1,2,none⟩=some (.int .i64 o.side)))
           (first | (exact KW.out _ (zco _ _)) | (exact KW.out _ (zaT _ _ _)) | (exact KW.out _ (zcy (zaT _ _ _) (by simp) (zch (by assumption)))))
           ((refine zdq rfl (.tmp 73) (.tmp 94) 154 rfl w4.heap.size 55 7 56 zgq (.slice AF fs.length cF) fs.length (zaJ fs) (by rfl) (zaz (World.ownsRow.alloc HFR.out _) 1) (W3.heap.size + 1) (some ⟨W3.heap.size,0,none⟩) 1 1 (zaJ [zbw o x (left)]) (by rfl) (zf5 _ _ _ 7 rfl rfl _ rfl).drew1 (zdR _) (by simp only [maxLen];omega) (by omega) (by simp;omega) ?_;intro vf' W4 hown4 hbel4 hgrow hat))
          have hs4':W3.heap.size + 1 ≤ W4.heap.size:=by have:=hgrow.size;simp at this;exact this
          have hon:Only W3 W4 (Value.slice AF fs.length cF).ownBlock:=zcy (zaT _ _ _) (by simp) (zch hgrow);have V1:Blk W4 w.heap.size 83 #[(.slice P1 b.bids.length p1),(.slice (some ⟨g,0,none⟩) (m + 1) cX)]:=(hon _ X1.lt (fun e=>hf1 e.symm)).trans X1;have V2:Blk W4 (w.heap.size + 1) 32 #[.int .i64 o.id,.int .i64 o.acc,.int .i64 o.side,.int .i64 o.price,.int .i64 o.qty]:=(hon _ X2.lt (fun e=>hf2 e.symm)).trans X2;have V3:Blk W4 (w.heap.size + 1 + 1) 83 #[.slice none 0 0,.slice none 0 0]:=(hon _ X3.lt (fun e=>hf3 e.symm)).trans X3;have Vg:Blk W4 g 32 (zaa (x :: l) ++ sp).toArray:=(hon _ hgW (fun e=>hfg e.symm)).trans HGB.out;have HVO:=zi (zaO HK.out.rowO hon (fun k h e=>HK.out.fo k h e));have hbW4:Below w.heap.size w W4:=(HK.out.bel.trans (((zar (Below.refl _ _)).alloc (zl _) _).mono HK.out.bel.size |> fun h=>h.trans (hbel4.mono (by omega)) |> fun h=>h.mono (zl _)));rw [← zdQ] at hown4;have HVF:=zi hown4
          have HFO:Hid (∀ k,((.slice P1 b.bids.length p1):Value).ownBlock=some k→vf'.ownBlock ≠ some k):=fun k h e=>by
           have a1:=HK.out.fo k h;have a2:=(World.ownsRow.lt HK.out.rowO k h).2;rcases hat with hat | hat
           ·rw [hat] at e;exact a1 e
           ·rw [hat] at e;injection e with e;simp at e;omega
          have HFG:Hid (vf'.ownBlock ≠ some g):=fun e=>by
           rcases hat with hat | hat
           ·rw [hat] at e;exact hfg e
           ·rw [hat] at e;injection e with e;simp at e;omega
          have HOX:=zi HK.out.ox;have HSD:=zi HK.out.side;clear X1 X2 X3 hon hgrow hat hown4 hbel4 HFR KW HGB;obtain ⟨⟨g0,g1,g2,g3,g4⟩,fg0,fg1,fg2,fg3,fg4⟩:=zcj Vg;have hlf:(fs ++ [zbw o x (left)]).length=fs.length + 1:=by simp
          have HLF:=zi hlf;clear hlf;have HN:Hid (Tk w (W4.setCell ⟨g,4,none⟩ (.int .i64 (x.qty - left))) w4.heap.size #[(.slice P1 b.bids.length p1),(.slice (some ⟨g,0,none⟩) (m + 1) cX)] o (b.bids) (zap b o.side) ({ x with qty:=x.qty - left } :: l) (fs ++ [zbw o x left]) 0 (m + 1) vf' (.slice P1 b.bids.length p1) (.slice (some ⟨g,0,none⟩) (m + 1) cX)):=by
           have hg1:w.heap.size ≠ g:=by omega
           have hg2:w.heap.size + 1 ≠ g:=by omega
           have hg3:w.heap.size + 1 + 1 ≠ g:=by omega
           have hon5:Only W4 (W4.setCell ⟨g,4,none⟩ (.int .i64 (x.qty - left))) (some g):=zdb (zco _ _) rfl;have Vg5:Blk (W4.setCell ⟨g,4,none⟩ (.int .i64 (x.qty - left))) g 32 (zaa ({ x with qty:=x.qty - left } :: l) ++ sp).toArray:=by rw [← set4];exact Vg.set_ 4 _
           refine ⟨hbW4.setCell (by dsimp only;omega) _,V1.far hg1 _,V2.far hg2 _,V3.far hg3 _,hlow,by simp;omega,zaO HVO.out hon5 (fun k h e=>HOX.out k h (by rw [← e];rfl)),zhk Vg5 hbg (by simp [HML.out]) hmc hcm HSP.out,by simp [HML.out],?_,HOX.out,HFO.out,?_,HSP2.out,HT.out,by omega,.inr ⟨rfl,?_⟩⟩
           ·rw [HLF.out];exact zaO HVF.out hon5 (fun k h e=>HFG.out (by rw [h,← e]))
           ·intro k h e;injection h with h;subst h;exact HFG.out e
           ·rw [HLF.out,List.length_cons,HML.out];omega
          go_wp2_with fail
          go_roundw
          case rel=>exact ⟨_,_,_,some ⟨g,0,none⟩,cX,m + 1,rfl,rfl,by omega,by omega,HN⟩
          case measure=>simp [intOf];omega
         ·obtain rfl:left=x.qty:=by omega
          have HT:=zi (zsH HK.out.take hl hc hacc);go_wp2_with fail
          go_region_held3 (fun W=>Below wr.heap.size wr W∧W.cell? ⟨w.heap.size,1,none⟩=some (.slice (some ⟨g,0,none⟩) (m + 1) cX)∧(W.cell? ⟨w.heap.size + 1,0,none⟩=some (.int .i64 o.id)∧W.cell? ⟨w.heap.size + 1,1,none⟩=some (.int .i64 o.acc)∧W.cell? ⟨w.heap.size + 1,2,none⟩=some (.int .i64 o.side)∧W.cell? ⟨w.heap.size + 1,3,none⟩=some (.int .i64 o.price)∧W.cell? ⟨w.heap.size + 1,4,none⟩=some (.int .i64 o.qty))∧W.cell? ⟨g,3,none⟩=some (.int .i64 x.price))
           (first | (exact KS.out _ (by assumption)) | (exact KS.out _ (zar (by assumption))))
           ((first | (go_at_call 158;go_split_ands;(with_reducible refine (zca o x.price _).mono ?_);rintro e W' ⟨rfl,hb⟩;have hB:=zbV (w0:=wr) hb (by first | assumption | exact zar (by assumption)))))
          replace HK:=zi (HK.out.below hB);replace X3:=X3.below hB X3.lt;replace X2:=X2.below hB X2.lt;replace X1:=X1.below hB X1.lt;replace HGB:=zi (HGB.out.below hB hgw);obtain ⟨⟨g0,g1,g2,g3,g4⟩,-⟩:=zcj HGB.out;clear h22 hc KS;obtain ⟨⟨kX10,kX11⟩,-⟩:=X1.c2;obtain ⟨⟨kX20,kX21,kX22,kX23,kX24⟩,-⟩:=X2.c5;go_wp2_with fail
          go_quiet (fail)
          go_wp2_with fail
          refine zbr ?_;intro W3 hW3;have hB3:Below W'.heap.size W' W3:=by rw [hW3];first | exact zac (Below.refl _ _) _ | exact Below.refl _ _
          clear hW3;have hs3':=hB3.size;have hsB:=hB.size;replace HK:=zi (HK.out.below hB3);replace HGB:=zi (HGB.out.below hB3 (by omega));have hgW:g < W3.heap.size:=by omega
          clear kX10 kX11;replace X1:=X1.below hB3 X1.lt;obtain ⟨⟨kX10,kX11⟩,-⟩:=X1.c2;clear kX20 kX21 kX22 kX23 kX24;replace X2:=X2.below hB3 X2.lt;obtain ⟨⟨kX20,kX21,kX22,kX23,kX24⟩,-⟩:=X2.c5;replace X3:=X3.below hB3 X3.lt;clear g0 g1 g2 g3 g4;have hfg:(Value.slice AF fs.length cF).ownBlock ≠ some g:=HK.out.fx g rfl;have hf1:(Value.slice AF fs.length cF).ownBlock ≠ some w.heap.size:=fun e=>by have:=(World.ownsRow.lt HK.out.rowF _ e).1;omega
          have hf2:(Value.slice AF fs.length cF).ownBlock ≠ some (w.heap.size + 1):=fun e=>by have:=(World.ownsRow.lt HK.out.rowF _ e).1;omega
          have hf3:(Value.slice AF fs.length cF).ownBlock ≠ some (w.heap.size + 1 + 1):=fun e=>by have:=(World.ownsRow.lt HK.out.rowF _ e).1;omega
          have hcnt:fs.length + (m + 1) ≤ 40:=by
           have h1:=HK.out.cnt;have h2:=HK.out.lenX;rw [h2] at h1;omega
          have KW:Hid (∀ W,Only W3 W (Value.slice AF fs.length cF).ownBlock→(W.cell? ⟨g,0,none⟩=some (.int .i64 x.id)∧W.cell? ⟨g,1,none⟩=some (.int .i64 x.acc)∧W.cell? ⟨g,3,none⟩=some (.int .i64 x.price))∧(W.cell? ⟨w.heap.size + 1,0,none⟩=some (.int .i64 o.id)∧W.cell? ⟨w.heap.size + 1,1,none⟩=some (.int .i64 o.acc)∧W.cell? ⟨w.heap.size + 1,2,none⟩=some (.int .i64 o.side))):=by
           intro W hW;obtain ⟨⟨g0,g1,g2,g3,g4⟩,-⟩:=zcj HGB.out;have e1:=fun q=>zcB (o:=q) hW hgW (fun e=>hfg e.symm);have e2:=fun q=>zcB (k:=w.heap.size + 1) (o:=q) hW X2.lt (fun e=>hf2 e.symm);exact ⟨⟨(e1 _).trans g0,(e1 _).trans g1,(e1 _).trans g3⟩,(e2 _).trans kX20,(e2 _).trans kX21,(e2 _).trans kX22⟩
          clear kX20 kX21 kX22 kX23 kX24 kX10 kX11;have HFR:=zi HK.out.rowF;have hhi:=HK.out.high;go_region_held3 (fun W=>(W.cell? ⟨g,0,none⟩=some (.int .i64 x.id)∧W.cell? ⟨g,1,none⟩=some (.int .i64 x.acc)∧W.cell? ⟨g,3,none⟩=some (.int .i64 x.price))∧(W.cell? ⟨w.heap.size + 1,0,none⟩=some (.int .i64 o.id)∧W.cell? ⟨w.heap.size + 1,1,none⟩=some (.int .i64 o.acc)∧W.cell? ⟨w.heap.size + 1,2,none⟩=some (.int .i64 o.side)))
           (first | (exact KW.out _ (zco _ _)) | (exact KW.out _ (zaT _ _ _)) | (exact KW.out _ (zcy (zaT _ _ _) (by simp) (zch (by assumption)))))
           ((refine zdq rfl (.tmp 73) (.tmp 94) 154 rfl w4.heap.size 55 7 56 zgq (.slice AF fs.length cF) fs.length (zaJ fs) (by rfl) (zaz (World.ownsRow.alloc HFR.out _) 1) (W3.heap.size + 1) (some ⟨W3.heap.size,0,none⟩) 1 1 (zaJ [zbw o x (x.qty)]) (by rfl) (zf5 _ _ _ 7 rfl rfl _ rfl).drew1 (zdR _) (by simp only [maxLen];omega) (by omega) (by simp;omega) ?_;intro vf' W4 hown4 hbel4 hgrow hat))
          have hs4':W3.heap.size + 1 ≤ W4.heap.size:=by have:=hgrow.size;simp at this;exact this
          have hon:Only W3 W4 (Value.slice AF fs.length cF).ownBlock:=zcy (zaT _ _ _) (by simp) (zch hgrow);have V1:Blk W4 w.heap.size 83 #[(.slice P1 b.bids.length p1),(.slice (some ⟨g,0,none⟩) (m + 1) cX)]:=(hon _ X1.lt (fun e=>hf1 e.symm)).trans X1;have V2:Blk W4 (w.heap.size + 1) 32 #[.int .i64 o.id,.int .i64 o.acc,.int .i64 o.side,.int .i64 o.price,.int .i64 o.qty]:=(hon _ X2.lt (fun e=>hf2 e.symm)).trans X2;have V3:Blk W4 (w.heap.size + 1 + 1) 83 #[.slice none 0 0,.slice none 0 0]:=(hon _ X3.lt (fun e=>hf3 e.symm)).trans X3;have Vg:Blk W4 g 32 (zaa (x :: l) ++ sp).toArray:=(hon _ hgW (fun e=>hfg e.symm)).trans HGB.out;have HVO:=zi (zaO HK.out.rowO hon (fun k h e=>HK.out.fo k h e));have hbW4:Below w.heap.size w W4:=(HK.out.bel.trans (((zar (Below.refl _ _)).alloc (zl _) _).mono HK.out.bel.size |> fun h=>h.trans (hbel4.mono (by omega)) |> fun h=>h.mono (zl _)));rw [← zdQ] at hown4;have HVF:=zi hown4
          have HFO:Hid (∀ k,((.slice P1 b.bids.length p1):Value).ownBlock=some k→vf'.ownBlock ≠ some k):=fun k h e=>by
           have a1:=HK.out.fo k h;have a2:=(World.ownsRow.lt HK.out.rowO k h).2;rcases hat with hat | hat
           ·rw [hat] at e;exact a1 e
           ·rw [hat] at e;injection e with e;simp at e;omega
          have HFG:Hid (vf'.ownBlock ≠ some g):=fun e=>by
           rcases hat with hat | hat
           ·rw [hat] at e;exact hfg e
           ·rw [hat] at e;injection e with e;simp at e;omega
          have HOX:=zi HK.out.ox;have HSD:=zi HK.out.side;clear X1 X2 X3 hon hgrow hat hown4 hbel4 HFR KW HGB;obtain ⟨⟨g0,g1,g2,g3,g4⟩,fg0,fg1,fg2,fg3,fg4⟩:=zcj Vg;have hlf:(fs ++ [zbw o x (x.qty)]).length=fs.length + 1:=by simp
          have HLF:=zi hlf;clear hlf;obtain ⟨⟨kV10,kV11⟩,fV10,fV11⟩:=V1.c2;go_wp2_with fail
          refine zak ?_;intro W5 hW5;have hs5':W5.heap.size=W4.heap.size:=by rw [hW5];simp
          have Vg5:Blk W5 g 32 (zaa ({ x with qty:=0 } :: l) ++ sp).toArray:=by rw [hW5,← set4];exact Vg.set_ 4 _
          have hon5:Only W4 W5 (some g):=by rw [hW5];exact zdb (zco _ _) rfl
          have hb5':Below w4.heap.size W4 W5:=by rw [hW5];exact (Below.refl _ _).setCell hbg _
          clear hW5 kV10 kV11 fV10 fV11 g0 g1 g2 g3 g4 fg0 fg1 fg2 fg3 fg4;have hg1:g ≠ w.heap.size:=by omega
          have hg2:g ≠ w.heap.size + 1:=by omega
          have hg3:g ≠ w.heap.size + 1 + 1:=by omega
          replace V1:=V1.only hon5 (fun e=>hg1 (by injection e with e;exact e.symm));replace V2:=V2.only hon5 (fun e=>hg2 (by injection e with e;exact e.symm));replace V3:=V3.only hon5 (fun e=>hg3 (by injection e with e;exact e.symm));have hvo5:=zaO HVO.out hon5 (fun k h e=>HOX.out k h (by rw [← e];rfl));have hvf5:=zaO HVF.out hon5 (fun k h e=>HFG.out (by rw [h,← e]));have hrow5:W5.ownsRow w4.heap.size 32 5 (.slice (some ⟨g,0,none⟩) (m + 1) cX) (m + 1) (zaa ({ x with qty:=0 } :: l)):=zhk Vg5 hbg (by simp [HML.out]) hmc hcm HSP.out;refine (zfA w4.heap.size _ (m + 1) { x with qty:=0 } l W5 hrow5 (by omega) (by omega)).mono ?_;rintro e W6 ⟨v6,rfl,hown6,hbk6,hbl6,hon6⟩;obtain ⟨P6,c6,rfl⟩:=zad hown6;rw [Nat.add_sub_cancel] at hown6 hbk6;rw [Nat.add_sub_cancel];have hs6':=hbl6.size;replace V1:=V1.only hon6 (fun e=>hg1 (by injection e with e;exact e.symm));replace V2:=V2.only hon6 (fun e=>hg2 (by injection e with e;exact e.symm))
          replace V3:=V3.only hon6 (fun e=>hg3 (by injection e with e;exact e.symm));have hvo6:=zaO hvo5 hon6 (fun k h e=>HOX.out k h e);have hvf6:=zaO hvf5 hon6 (fun k h e=>HFG.out (by rw [h,← e];rfl));have HN:Hid (Tk w (W6.setCell ⟨w.heap.size,1,none⟩ (.slice P6 m c6)) w4.heap.size #[(.slice P1 b.bids.length p1),(.slice P6 m c6)] o (b.bids) (zap b o.side) l (fs ++ [zbw o x (x.qty)]) (0) m vf' (.slice P1 b.bids.length p1) (.slice P6 m c6)):=by
           refine ⟨((hbW4.trans (hb5'.mono (by omega))).trans (hbl6.mono (by omega))).setCell (zl _) _,V1.set_ 1 _,V2.far (by simp) _,V3.far (by simp;omega) _,hlow,by simp;omega,ownsRow_setCell_below hvo6 (by dsimp only;omega) _,ownsRow_setCell_below hown6 (by dsimp only;omega) _,HML.out,?_,?_,HFO.out,?_,zd5 HSD.out (List.sublist_cons_self _ _),HT.out,by omega,.inl ?_⟩
           ·rw [HLF.out];exact ownsRow_setCell_below hvf6 (by dsimp only;omega) _
           ·intro k h e;rw [hbk6] at e;exact HOX.out k h e
           ·intro k h e;rw [hbk6] at h;injection h with h;subst h;exact HFG.out e
           ·rw [HLF.out,HML.out];omega
          clear hown6 hbk6 hbl6 hon6 hvo6 hvf6 hvo5 hvf5 hrow5 hon5 hb5' Vg5 Vg V2 V3 HVO HVF;obtain ⟨⟨kV10,kV11⟩,fV10,fV11⟩:=V1.c2;go_wp2_with fail
          go_roundw
          case rel=>exact ⟨l,_,_,P6,c6,m,rfl,rfl,by omega,by omega,HN⟩
          case measure=>simp [intOf];omega
end
end Go.Proofs.YtockodmbhnlheaaGreatDoor
