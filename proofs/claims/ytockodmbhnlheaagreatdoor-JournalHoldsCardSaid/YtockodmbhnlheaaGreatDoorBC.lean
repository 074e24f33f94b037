import Derived.Test.YtockodmbhnlheaaGreatDoorAZ
import Derived.Test.YtockodmbhnlheaaGreatDoorAY
namespace Go.Proofs.YtockodmbhnlheaaGreatDoor
section
open Go.RowKit
theorem zqH {b:Bk} (h:BookOk b):∀ o ∈ b.bids ++ b.asks,zax o=0:=by
 intro o ho;rcases List.mem_append.1 ho with ho | ho
 ·exact h.bids.ok o ho
 ·exact h.asks.ok o ho
theorem zeQ (w:World) (o:Obj):Below w.heap.size w (w.alloc o):=(Below.refl _ _).alloc (zl _) _
theorem zlR {e:Int} (m:Mk) (A A':Option Addr) (c c':Nat) (B:Nat) (w:World) (hr:zaN m=e) (h:BkR w B A A' c c' m.book) (hB:B ≤ w.heap.size) (hl:m.book.bids.length ≤ 4000000000000) (hl':m.book.asks.length ≤ 4000000000000) :
  Calls Tryz.prog 66 #[.agg #[.slice A m.book.bids.length c,.slice A' m.book.asks.length c',.int .i64 m.index,.int .i64 m.last]] w fun e' w'=>e'=.returned (.int .i64 e)∧Below w.heap.size w w':=by
 rw [← hr];exact zgc m A A' c c' B w h.l h.r hB hl hl'
set_option maxHeartbeats 4000000 in
set_option maxRecDepth 100000 in
theorem zmD (v:Vn) (A M:Option Addr) (c k:Nat) (B:Nat) (w:World) (h:VnR w B A c M k v) (hB:B ≤ w.heap.size) (ha:AOk v.mks.length v.accs) :
  Calls Tryz.prog 50 #[.agg #[.slice A v.accs.length c,.slice M v.mks.length k,.int .i64 v.ins,.int .i64 v.resid,.int .i64 v.next,.int .i64 v.inn,.int .i64 v.out]] w fun e w'=>e=.returned (.int .i64 (zcC v.accs v.next v.mks))∧Below w.heap.size w w':=by
 have HV:=zi h;have HA:=zi ha;have hal:=zdZ ha;have hcap:=h.mks.cap;have hle:=h.mks.le;unfold maxLen at hcap;clear h ha;go_enter Tryz.func50,Tryz.ntmps50
 go_wp2_with fail
 refine zbr ?_;intro W0 hW0;have hB0:Below w.heap.size w W0:=by rw [hW0];exact zeQ _ _
 have X0:Blk W0 w.heap.size 25 #[.slice A v.accs.length c,.slice M v.mks.length k,.int .i64 v.ins,.int .i64 v.resid,.int .i64 v.next,.int .i64 v.inn,.int .i64 v.out]:=by rw [hW0];exact Blk.new w _ _
 have hs0:=hB0.size;clear hW0;have k1:W0.cell? ⟨w.heap.size,1,none⟩=some (.slice M v.mks.length k):=X0.cell 1;have y0:=X0.lt;go_wp2_with fail
 go_loopw [13] (fun i wr=>∃ j:Nat,j ≤ v.mks.length∧i=.int .i64 j∧Below W0.heap.size W0 wr∧Hid (zcC v.accs v.next (v.mks.drop j)=zcC v.accs v.next v.mks)) (fun i _=>v.mks.length - (intOf i).toNat)
 case atStart=>exact ⟨0,by omega,rfl,Below.refl _ _,zi rfl⟩
 case round =>
  obtain ⟨j,hj,rfl,hbr,HS⟩:=hrel;have hws:=hbr.size;have hBw:Below w.heap.size w wr:=hB0.trans (hbr.mono hs0);by_cases hlt:j < v.mks.length
  ·obtain ⟨b,o,m,rfl,hb,hm,A2,c2,A3,c3,q0,q1,q2,q3,hbk,hl1,hl2⟩:=zjX (HV.out.mks.below (hBw.mono hB)) hlt;have HM:=zi hm;have HBK:=zi hbk;obtain ⟨em,hem⟩:∃ em,zaN m=em:=⟨_,rfl⟩;have HEM:=zi hem;have HST:=zi (HS.out.symm.trans (znv hm));have hbw:b < wr.heap.size:=by omega
   clear hm hbk hem;go_wp2_with fail
   refine zak ?_;intro W1 hW1;have hB1:Below wr.heap.size wr W1:=by rw [hW1];first | exact zeQ _ _ | exact ((zeQ wr _).setCell (zl _) _)
   have Y1:Blk W1 wr.heap.size 85 #[.slice A2 m.book.bids.length c2,.slice A3 m.book.asks.length c3,.int .i64 m.index,.int .i64 m.last]:=by rw [hW1];exact Blk.new wr _ _
   have hs1:=hB1.size;clear hW1 q0 q1 q2 q3;refine (zlR m A2 A3 c2 c3 B W1 HEM.out (HBK.out.below (hB1.mono (by omega))) (by omega) hl1 hl2).mono ?_;rintro e W2 ⟨rfl,hb2⟩;have hB2:=hB1.trans (hb2.mono hs1);have Y2:=Y1.below hb2 Y1.lt;have hs2:=hb2.size;clear hb2 hB1 Y1;by_cases he:em=0
   rotate_left
   ·have he':(em != 0)=true:=by simpa using he
    have HE:=zi (show zcC v.accs v.next v.mks=em by rw [HST.out,if_pos (by rw [HEM.out];exact he),HEM.out]);clear he;go_wp2_with fail
    go_ret;exact ⟨zay HE.out.symm,hBw.trans (hB2.mono (by omega))⟩
   subst he;have HST2:=zi (HST.out.trans (if_neg (by rw [HEM.out];simp)));have HOK:=zi (za2.1 HEM.out);have hlen:=HOK.out.1.len;obtain ⟨⟨q0,q1,-,-⟩,-⟩:=Y2.c4;have y2:=Y2.lt;go_wp2_with fail
   refine zak ?_;intro W3 hW3;have hB3:Below W2.heap.size W2 W3:=by rw [hW3];exact zeQ _ _
   have Z3:Blk W3 W2.heap.size 81 #[.slice A2 m.book.bids.length c2,.slice A3 m.book.asks.length c3]:=by rw [hW3];exact Blk.new W2 _ _
   have hs3:=hB3.size;have hBK3:=HBK.out.below ((hB2.trans (hB3.mono (by omega))).mono (show B ≤ wr.heap.size by omega));clear hW3 q0 q1;refine (zhB A2 A3 m.book.bids.length c2 m.book.asks.length c3 m.book.bids m.book.asks B W3 hBK3.l hBK3.r (by omega) W2.heap.size Z3.lt Z3.c2.1.1 Z3.c2.1.2 (by omega)).mono ?_;rintro e W4 ⟨v4,rfl,hown,hb4⟩;obtain ⟨A4,c4,rfl⟩:=zad hown;have HO4:=zi hown;have hs4:=hb4.size;have hB4:Below w.heap.size w W4:=(hBw.trans (hB2.mono (by omega))).trans ((hB3.trans (hb4.mono hs3)).mono (by omega));have hBo4:Below W0.heap.size W0 W4:=(hbr.trans (hB2.mono (by omega))).trans ((hB3.trans (hb4.mono hs3)).mono (by omega));have X4:Blk W4 w.heap.size 25 _:=((X0.below hbr y0).below (hB2.trans ((hB3.trans (hb4.mono hs3)).mono (by omega))) (by omega));obtain ⟨L,hL⟩:∃ L,L=m.book.bids ++ m.book.asks:=⟨_,rfl⟩;have hLl:m.book.bids.length + m.book.asks.length=L.length:=by rw [hL,List.length_append]
   have HL:=zi hL;have hL40:L.length ≤ 40:=by omega
   clear hB3 hb4 Z3 hBK3 hown;rw [← hL] at HO4 HST2;have HIDS:=zi (show ∀ o ∈ L,0 ≤ o.acc∧o.acc ≤ 7 from fun o ho=>(zaP.1 (zqH HOK.out.1 o (by rw [← hL];exact ho))).2.1);rw [hLl] at HO4;rw [hLl];clear hL hLl hlen;have x1:W4.cell? ⟨w.heap.size,1,none⟩=some (.slice (some ⟨b,o,none⟩) v.mks.length k):=X4.cell 1;go_wp2_with fail
   go_loopw [31] (fun i wi=>∃ q:Nat,q ≤ L.length∧i=.int .i64 q∧Below W4.heap.size W4 wi∧Hid ((L.take q).any (zj4 v.accs v.next)=false)) (fun i _=>L.length - (intOf i).toNat)
   case atStart=>exact ⟨0,by omega,rfl,Below.refl _ _,zi rfl⟩
   case round =>
    obtain ⟨q,hq,rfl,hbi,HNB⟩:=hrel;obtain ⟨wi,rfl⟩:∃ wi,wi=wr:=⟨wr,rfl⟩;have hwi:=hbi.size;by_cases hlq:q < L.length
    ·obtain ⟨b5,o5,x,rfl,hb5,hx,p0,p1,p2,p3,p4⟩:=zdU (Rd.of_own (zaf HO4.out hbi (zl _))) hlq;have HX:=zi hx;have XI:=X4.below hbi X4.lt;have yi:=XI.lt;obtain ⟨⟨g0,g1,g2,g3,g4,g5,g6⟩,-⟩:=XI.c7;have HXI:=zi (HIDS.out x (List.mem_of_getElem? hx));clear hx;go_wp2_with fail
     refine zak ?_;intro W5 hW5;have hB5:Below wi.heap.size wi W5:=by rw [hW5];first | exact zeQ _ _ | exact ((zeQ wi _).setCell (zl _) _)
     have Z5:Blk W5 wi.heap.size 32 #[.int .i64 x.id,.int .i64 x.acc,.int .i64 x.side,.int .i64 x.price,.int .i64 x.qty]:=by rw [hW5];exact Blk.new wi _ _
     have hs5:=hB5.size;have hBw5:Below w.heap.size w W5:=hB4.trans ((hbi.trans (hB5.mono hwi)).mono (by omega));clear hW5 p0 p1 p2 p3 p4;obtain ⟨bt,hbt⟩:∃ bt,zas v.accs x.acc=bt:=⟨_,rfl⟩;have HBT:=zi hbt;refine (zdH v A (some ⟨b,o,none⟩) c k x.acc B W5 (HV.out.accs.below (hBw5.mono hB)) (by omega) HA.out.sorted (zd2 HA.out) HXI.out hal).mono ?_;rintro e W6 ⟨rfl,hb6⟩;rw [hbt];have hB6:=hB5.trans (hb6.mono hs5);have X6:=XI.below hB6 yi;have Z6:=Z5.below hb6 Z5.lt;have hs6:=hb6.size;have hbn:=hbi.trans (hB6.mono hwi);obtain ⟨⟨z0,-⟩,-⟩:=Z6.c5;have x4:W6.cell? ⟨w.heap.size,4,none⟩=some (.int .i64 v.next):=X6.cell 4;have y6:=X6.lt;have y7:=Z6.lt;clear hbt hb6 hB5 Z5;rcases zb5 bt with rfl | rfl
     ·by_cases hid:v.next ≤ x.id
      ·have hd:decide (v.next ≤ x.id)=true:=decide_eq_true hid;have HE:=zi (show zcC v.accs v.next v.mks=5 by rw [HST2.out,if_pos (zi2 HX.out (by unfold zj4;rw [hd];simp))]);go_wp2_with fail
       go_ret;exact ⟨zay HE.out.symm,hB4.trans (hbn.mono (by omega))⟩
      ·have hd:decide (v.next ≤ x.id)=false:=decide_eq_false hid;have HN:=zi (zoW HX.out (by unfold zj4;rw [HBT.out,hd];rfl) HNB.out);clear hid;go_wp2_with fail
       go_roundw
       case rel=>exact ⟨q + 1,by omega,by go_num,hbn,HN⟩
       case measure=>simp [intOf];omega
     ·have HE:=zi (show zcC v.accs v.next v.mks=5 by rw [HST2.out,if_pos (zi2 HX.out (by unfold zj4;rw [HBT.out];rfl))]);go_wp2_with fail
      go_ret;exact ⟨zay HE.out.symm,hB4.trans (hbn.mono (by omega))⟩
    ·obtain rfl:q=L.length:=by omega
     have HN:=zi (show zcC v.accs v.next (v.mks.drop (j + 1))=zcC v.accs v.next v.mks by
      have hf:=HNB.out;rw [List.take_length] at hf;rw [HST2.out,if_neg (by rw [hf];simp)])
     have hbo:Below W0.heap.size W0 wi:=hBo4.trans (hbi.mono (by omega));go_wp2_with fail
     go_roundw
     case rel=>exact ⟨j + 1,by omega,by go_num,hbo,HN⟩
     case measure=>simp [intOf];omega
  ·obtain rfl:j=v.mks.length:=by omega
   have HE:=zi (show zcC v.accs v.next v.mks=0 by rw [← HS.out,List.drop_length];rfl);go_wp2_with fail
   go_ret;exact ⟨zay HE.out.symm,hBw⟩
end
section
open Go.RowKit
def zf7 (a b:Fl):Bool:=a.maker == b.maker && a.taker == b.taker && a.macc == b.macc && a.tacc == b.tacc && a.side == b.side && a.price == b.price && a.qty == b.qty
def zfC (a b:Ev):Bool:=a.kind == b.kind && a.err == b.err && a.market == b.market && a.id == b.id && a.acc == b.acc && a.n == b.n && zf7 a.f b.f
theorem zo7 {a b:Fl}:zf7 a b=true ↔ a=b:=by
 constructor
 ·intro h;simp only [zf7,Bool.and_eq_true,beq_iff_eq] at h;obtain ⟨⟨⟨⟨⟨⟨h1,h2⟩,h3⟩,h4⟩,h5⟩,h6⟩,h7⟩:=h;exact Fl.ext' h1 h2 h3 h4 h5 h6 h7
 ·intro h;subst h;simp [zf7]
theorem zhS {a b:Ev}:zfC a b=true ↔ a=b:=by
 constructor
 ·intro h;simp only [zfC,Bool.and_eq_true,beq_iff_eq] at h;obtain ⟨⟨⟨⟨⟨⟨h1,h2⟩,h3⟩,h4⟩,h5⟩,h6⟩,h7⟩:=h;obtain ⟨a1,a2,a3,a4,a5,a6,a7⟩:=a;obtain ⟨b1,b2,b3,b4,b5,b6,b7⟩:=b;simp only at h1 h2 h3 h4 h5 h6 h7;rw [h1,h2,h3,h4,h5,h6,zo7.1 h7]
 ·intro h;subst h;simp [zfC,zf7]
set_option maxRecDepth 100000 in
theorem ztk (a b:Fl) (w:World):(Op.equalIn 9999 55 (.agg #[.int .i64 a.maker,.int .i64 a.taker,.int .i64 a.macc,.int .i64 a.tacc,.int .i64 a.side,.int .i64 a.price,.int .i64 a.qty]) (.agg #[.int .i64 b.maker,.int .i64 b.taker,.int .i64 b.macc,.int .i64 b.tacc,.int .i64 b.side,.int .i64 b.price,.int .i64 b.qty])).run Tryz.prog w=.ok (zf7 a b) w:=by
 rw [run_equalIn_struct w 9998 _ _ _ (by rw [zel Tryz.underlying55];exact Tryz.underlying55) (by kernel_rfl),zel Tryz.underlying55];have hi:=Tryz.underlying3;have p0:∀ (x0 x1 x2 x3 x4 x5 x6:Int) w,(part 3 #[.int .i64 x0,.int .i64 x1,.int .i64 x2,.int .i64 x3,.int .i64 x4,.int .i64 x5,.int .i64 x6] 0).run Tryz.prog w=.ok (.int .i64 x0) w:=fun _ _ _ _ _ _ _ w=>za8 hi _ 0 _ rfl w;have p1:∀ (x0 x1 x2 x3 x4 x5 x6:Int) w,(part 3 #[.int .i64 x0,.int .i64 x1,.int .i64 x2,.int .i64 x3,.int .i64 x4,.int .i64 x5,.int .i64 x6] 1).run Tryz.prog w=.ok (.int .i64 x1) w:=fun _ _ _ _ _ _ _ w=>za8 hi _ 1 _ rfl w;have p2:∀ (x0 x1 x2 x3 x4 x5 x6:Int) w,(part 3 #[.int .i64 x0,.int .i64 x1,.int .i64 x2,.int .i64 x3,.int .i64 x4,.int .i64 x5,.int .i64 x6] 2).run Tryz.prog w=.ok (.int .i64 x2) w:=fun _ _ _ _ _ _ _ w=>za8 hi _ 2 _ rfl w;have p3:∀ (x0 x1 x2 x3 x4 x5 x6:Int) w,(part 3 #[.int .i64 x0,.int .i64 x1,.int .i64 x2,.int .i64 x3,.int .i64 x4,.int .i64 x5,.int .i64 x6] 3).run Tryz.prog w=.ok (.int .i64 x3) w:=fun _ _ _ _ _ _ _ w=>za8 hi _ 3 _ rfl w
 have p4:∀ (x0 x1 x2 x3 x4 x5 x6:Int) w,(part 3 #[.int .i64 x0,.int .i64 x1,.int .i64 x2,.int .i64 x3,.int .i64 x4,.int .i64 x5,.int .i64 x6] 4).run Tryz.prog w=.ok (.int .i64 x4) w:=fun _ _ _ _ _ _ _ w=>za8 hi _ 4 _ rfl w;have p5:∀ (x0 x1 x2 x3 x4 x5 x6:Int) w,(part 3 #[.int .i64 x0,.int .i64 x1,.int .i64 x2,.int .i64 x3,.int .i64 x4,.int .i64 x5,.int .i64 x6] 5).run Tryz.prog w=.ok (.int .i64 x5) w:=fun _ _ _ _ _ _ _ w=>za8 hi _ 5 _ rfl w;have p6:∀ (x0 x1 x2 x3 x4 x5 x6:Int) w,(part 3 #[.int .i64 x0,.int .i64 x1,.int .i64 x2,.int .i64 x3,.int .i64 x4,.int .i64 x5,.int .i64 x6] 6).run Tryz.prog w=.ok (.int .i64 x6) w:=fun _ _ _ _ _ _ _ w=>za8 hi _ 6 _ rfl w;have he:=fun (x y:Int) w=>run_equalIn_int w 9997 3 .i64 .i64 x y hi;simp only [Op.eqFields];rw [if_pos (by decide),if_pos (by decide),if_pos (by decide),if_pos (by decide),if_pos (by decide),if_pos (by decide),if_pos (by decide)];simp only [Sem.run_bind,p0,p1,p2,p3,p4,p5,p6,Result.andThen_ok,he,Sem.run_ite,Sem.run_pure]
 unfold zf7;obtain ⟨c_maker,h_maker⟩:∃ c,(a.maker == b.maker)=c:=⟨_,rfl⟩;obtain ⟨c_taker,h_taker⟩:∃ c,(a.taker == b.taker)=c:=⟨_,rfl⟩;obtain ⟨c_macc,h_macc⟩:∃ c,(a.macc == b.macc)=c:=⟨_,rfl⟩;obtain ⟨c_tacc,h_tacc⟩:∃ c,(a.tacc == b.tacc)=c:=⟨_,rfl⟩;obtain ⟨c_side,h_side⟩:∃ c,(a.side == b.side)=c:=⟨_,rfl⟩;obtain ⟨c_price,h_price⟩:∃ c,(a.price == b.price)=c:=⟨_,rfl⟩;obtain ⟨c_qty,h_qty⟩:∃ c,(a.qty == b.qty)=c:=⟨_,rfl⟩;simp only [h_maker,h_taker,h_macc,h_tacc,h_side,h_price,h_qty];cases c_maker <;> cases c_taker <;> cases c_macc <;> cases c_tacc <;> cases c_side <;> cases c_price <;> cases c_qty <;> rfl
set_option maxRecDepth 100000 in
theorem ztl (a b:Ev) (w:World):(Op.equalIn 10000 57 (.agg #[.int .i64 a.kind,.int .i64 a.err,.int .i64 a.market,.int .i64 a.id,.int .i64 a.acc,.int .i64 a.n,.int .i64 a.f.maker,.int .i64 a.f.taker,.int .i64 a.f.macc,.int .i64 a.f.tacc,.int .i64 a.f.side,.int .i64 a.f.price,.int .i64 a.f.qty]) (.agg #[.int .i64 b.kind,.int .i64 b.err,.int .i64 b.market,.int .i64 b.id,.int .i64 b.acc,.int .i64 b.n,.int .i64 b.f.maker,.int .i64 b.f.taker,.int .i64 b.f.macc,.int .i64 b.f.tacc,.int .i64 b.f.side,.int .i64 b.f.price,.int .i64 b.f.qty])).run Tryz.prog w=.ok (zfC a b) w:=by
 rw [run_equalIn_struct w 9999 _ _ _ (by rw [zel Tryz.underlying57];exact Tryz.underlying57) (by kernel_rfl),zel Tryz.underlying57];have hi:=Tryz.underlying3;have hr:=Tryz.underlying35;have p0:∀ (x0 x1 x2 x3 x4 x5 x6 x7 x8 x9 x10 x11 x12:Int) w,(part 3 #[.int .i64 x0,.int .i64 x1,.int .i64 x2,.int .i64 x3,.int .i64 x4,.int .i64 x5,.int .i64 x6,.int .i64 x7,.int .i64 x8,.int .i64 x9,.int .i64 x10,.int .i64 x11,.int .i64 x12] 0).run Tryz.prog w=.ok (.int .i64 x0) w:=fun _ _ _ _ _ _ _ _ _ _ _ _ _ w=>za8 hi _ 0 _ rfl w;have p1:∀ (x0 x1 x2 x3 x4 x5 x6 x7 x8 x9 x10 x11 x12:Int) w,(part 35 #[.int .i64 x0,.int .i64 x1,.int .i64 x2,.int .i64 x3,.int .i64 x4,.int .i64 x5,.int .i64 x6,.int .i64 x7,.int .i64 x8,.int .i64 x9,.int .i64 x10,.int .i64 x11,.int .i64 x12] 1).run Tryz.prog w=.ok (.int .i64 x1) w:=fun _ _ _ _ _ _ _ _ _ _ _ _ _ w=>za8 hr _ 1 _ rfl w;have p2:∀ (x0 x1 x2 x3 x4 x5 x6 x7 x8 x9 x10 x11 x12:Int) w,(part 3 #[.int .i64 x0,.int .i64 x1,.int .i64 x2,.int .i64 x3,.int .i64 x4,.int .i64 x5,.int .i64 x6,.int .i64 x7,.int .i64 x8,.int .i64 x9,.int .i64 x10,.int .i64 x11,.int .i64 x12] 2).run Tryz.prog w=.ok (.int .i64 x2) w:=fun _ _ _ _ _ _ _ _ _ _ _ _ _ w=>za8 hi _ 2 _ rfl w
 have p3:∀ (x0 x1 x2 x3 x4 x5 x6 x7 x8 x9 x10 x11 x12:Int) w,(part 3 #[.int .i64 x0,.int .i64 x1,.int .i64 x2,.int .i64 x3,.int .i64 x4,.int .i64 x5,.int .i64 x6,.int .i64 x7,.int .i64 x8,.int .i64 x9,.int .i64 x10,.int .i64 x11,.int .i64 x12] 3).run Tryz.prog w=.ok (.int .i64 x3) w:=fun _ _ _ _ _ _ _ _ _ _ _ _ _ w=>za8 hi _ 3 _ rfl w;have p4:∀ (x0 x1 x2 x3 x4 x5 x6 x7 x8 x9 x10 x11 x12:Int) w,(part 3 #[.int .i64 x0,.int .i64 x1,.int .i64 x2,.int .i64 x3,.int .i64 x4,.int .i64 x5,.int .i64 x6,.int .i64 x7,.int .i64 x8,.int .i64 x9,.int .i64 x10,.int .i64 x11,.int .i64 x12] 4).run Tryz.prog w=.ok (.int .i64 x4) w:=fun _ _ _ _ _ _ _ _ _ _ _ _ _ w=>za8 hi _ 4 _ rfl w;have p5:∀ (x0 x1 x2 x3 x4 x5 x6 x7 x8 x9 x10 x11 x12:Int) w,(part 3 #[.int .i64 x0,.int .i64 x1,.int .i64 x2,.int .i64 x3,.int .i64 x4,.int .i64 x5,.int .i64 x6,.int .i64 x7,.int .i64 x8,.int .i64 x9,.int .i64 x10,.int .i64 x11,.int .i64 x12] 5).run Tryz.prog w=.ok (.int .i64 x5) w:=fun _ _ _ _ _ _ _ _ _ _ _ _ _ w=>za8 hi _ 5 _ rfl w
 have pf:∀ (x0 x1 x2 x3 x4 x5 x6 x7 x8 x9 x10 x11 x12:Int) w,(part 55 #[.int .i64 x0,.int .i64 x1,.int .i64 x2,.int .i64 x3,.int .i64 x4,.int .i64 x5,.int .i64 x6,.int .i64 x7,.int .i64 x8,.int .i64 x9,.int .i64 x10,.int .i64 x11,.int .i64 x12] 6).run Tryz.prog w=.ok (.agg #[.int .i64 x6,.int .i64 x7,.int .i64 x8,.int .i64 x9,.int .i64 x10,.int .i64 x11,.int .i64 x12]) w:=fun x0 x1 x2 x3 x4 x5 x6 x7 x8 x9 x10 x11 x12 w=>by
  have hz:(sizeOf 55).run Tryz.prog w=.ok 7 w:=by kernel_rfl
  simp only [part,isAgg,Sem.run_bind,run_underlying Tryz.underlying55,Result.andThen_ok,Sem.run_pure,if_true,hz];rfl
 have he:=fun (x y:Int) w=>run_equalIn_int w 9998 3 .i64 .i64 x y hi;have her:=fun (x y:Int) w=>run_equalIn_int w 9998 35 .i64 .i64 x y hr;have hef:=ztk a.f b.f;simp only [Op.eqFields];rw [if_pos (by decide),if_pos (by decide),if_pos (by decide),if_pos (by decide),if_pos (by decide),if_pos (by decide),if_pos (by decide)];simp only [Sem.run_bind,p0,p1,p2,p3,p4,p5,pf,Result.andThen_ok,he,her,hef,Sem.run_ite,Sem.run_pure];unfold zfC;obtain ⟨c_kind,h_kind⟩:∃ c,(a.kind == b.kind)=c:=⟨_,rfl⟩;obtain ⟨c_err,h_err⟩:∃ c,(a.err == b.err)=c:=⟨_,rfl⟩;obtain ⟨c_market,h_market⟩:∃ c,(a.market == b.market)=c:=⟨_,rfl⟩;obtain ⟨c_id,h_id⟩:∃ c,(a.id == b.id)=c:=⟨_,rfl⟩;obtain ⟨c_acc,h_acc⟩:∃ c,(a.acc == b.acc)=c:=⟨_,rfl⟩;obtain ⟨c_n,h_n⟩:∃ c,(a.n == b.n)=c:=⟨_,rfl⟩;obtain ⟨c_f,h_f⟩:∃ c,zf7 a.f b.f=c:=⟨_,rfl⟩;simp only [h_kind,h_err,h_market,h_id,h_acc,h_n,h_f];cases c_kind <;> cases c_err <;> cases c_market <;> cases c_id <;> cases c_acc <;> cases c_n <;> cases c_f <;> rfl
theorem zo8 (a b:Ev) (w:World):(binOp .neq 57 (.agg #[.int .i64 a.kind,.int .i64 a.err,.int .i64 a.market,.int .i64 a.id,.int .i64 a.acc,.int .i64 a.n,.int .i64 a.f.maker,.int .i64 a.f.taker,.int .i64 a.f.macc,.int .i64 a.f.tacc,.int .i64 a.f.side,.int .i64 a.f.price,.int .i64 a.f.qty]) (.agg #[.int .i64 b.kind,.int .i64 b.err,.int .i64 b.market,.int .i64 b.id,.int .i64 b.acc,.int .i64 b.n,.int .i64 b.f.maker,.int .i64 b.f.taker,.int .i64 b.f.macc,.int .i64 b.f.tacc,.int .i64 b.f.side,.int .i64 b.f.price,.int .i64 b.f.qty])).run Tryz.prog w=.ok (.bool (!zfC a b)) w:=by
 rw [run_neq_struct,ztl];rfl
end
end Go.Proofs.YtockodmbhnlheaaGreatDoor
