/-
  THE LAW JournalHolds: holds for every input, with no condition. (Joined texts: JLawd, JRepl, JHoldW, JournalHolds.)
-/
import Derived.Test.YtockodmbhnlheaaGreatDoorBW
import Derived.Test.YtockodmbhnlheaaGreatDoorCA
import Derived.JoinedOf
import Derived.SevenTiedAt
import Derived.KernelRfl
namespace Go.Proofs.YtockodmbhnlheaaGreatDoor
section
open Go.RowKit
structure DkV (w0 w:World) (g:Nat) (A A':Option Addr) (c c':Nat) (d:Dsk):Prop where
 blk:Blk w g 30 #[.slice A d.safe.length c,.slice A' d.wait.length c']
 s:w.ownsRow w0.heap.size 5 1 (.slice A d.safe.length c) d.safe.length (u8s d.safe)
 t:w.ownsRow w0.heap.size 5 1 (.slice A' d.wait.length c') d.wait.length (u8s d.wait)
section
variable {w0 w w':World} {g:Nat} {A A':Option Addr} {c c':Nat} {d:Dsk}
theorem DkV.below (h:DkV w0 w g A A' c c' d) (hb:Below w.heap.size w w'):DkV w0 w' g A A' c c' d:=⟨h.blk.below hb h.blk.lt,zaf h.s hb (zl _),zaf h.t hb (zl _)⟩
theorem DkV.alloc (h:DkV w0 w g A A' c c' d) (o:Obj):DkV w0 (w.alloc o) g A A' c c' d:=⟨h.blk.alloc o,World.ownsRow.alloc h.s o,World.ownsRow.alloc h.t o⟩
theorem DkV.rd (h:DkV w0 w g A A' c c' d):DkR w w.heap.size A A' c c' d:=⟨Rd.of_own h.s,Rd.of_own h.t⟩
theorem DkV.new (w:World) (h:OwnDk w w0.heap.size (.agg #[.slice A d.safe.length c,.slice A' d.wait.length c']) d):DkV w0 (w.alloc (.cells #[.slice A d.safe.length c,.slice A' d.wait.length c'] 30)) w.heap.size A A' c c' d:=by
 obtain ⟨B,k,B',k',e,h1,h2⟩:=h;injection e with e;simp only [Array.mk.injEq,List.cons.injEq,Value.slice.injEq,and_true,true_and] at e;obtain ⟨⟨rfl,rfl⟩,rfl,rfl⟩:=e;exact ⟨Blk.new _ _ _,World.ownsRow.alloc h1 _,World.ownsRow.alloc h2 _⟩
theorem DkV.far {f:Nat} {B B':Option Addr} {k k':Nat} {e:Dsk} (h:DkV w0 w g A A' c c' d) (hX:DkV w0 w f B B' k k' e) (hne:g ≠ f) (u v:Value):DkV w0 ((w.setCell ⟨f,0,none⟩ u).setCell ⟨f,1,none⟩ v) g A A' c c' d :=
 ⟨(h.blk.far hne u).far hne v,zdd h.s (zda h.s hX.blk (by decide)) u v,zdd h.t (zda h.t hX.blk (by decide)) u v⟩
theorem DkV.store {f:Nat} {B B':Option Addr} {k k':Nat} {e:Dsk} (hX:DkV w0 w f B B' k k' e) (h:OwnDk w w0.heap.size (.agg #[.slice A d.safe.length c,.slice A' d.wait.length c']) d) :
  DkV w0 ((w.setCell ⟨f,0,none⟩ (.slice A d.safe.length c)).setCell ⟨f,1,none⟩ (.slice A' d.wait.length c')) f A A' c c' d:=by
 obtain ⟨E,k,E',k',e,h1,h2⟩:=h;injection e with e;simp only [Array.mk.injEq,List.cons.injEq,Value.slice.injEq,and_true,true_and] at e;obtain ⟨⟨rfl,rfl⟩,rfl,rfl⟩:=e;refine ⟨?_,zdd h1 (zda h1 hX.blk (by decide)) _ _,zdd h2 (zda h2 hX.blk (by decide)) _ _⟩;have h1:=((hX.blk.set_ 0 (.slice A d.safe.length c)).set_ 1 (.slice A' d.wait.length c'));simp only [List.setIfInBounds_toArray,List.set_cons_zero,List.set_cons_succ] at h1;exact h1
end
theorem OwnDk.shape {w:World} {base:Nat} {v:Value} {d:Dsk} (h:OwnDk w base v d):∃ A c A' c',v=.agg #[.slice A d.safe.length c,.slice A' d.wait.length c']:=by
 obtain ⟨A,c,A',c',rfl,-⟩:=h;exact ⟨A,c,A',c',rfl⟩
theorem OwnDk.mono {w:World} {base base':Nat} {v:Value} {d:Dsk} (h:OwnDk w base v d) (hb:base' ≤ base):OwnDk w base' v d:=by
 obtain ⟨A,c,A',c',rfl,h1,h2⟩:=h;exact ⟨A,c,A',c',rfl,zae h1 hb,zae h2 hb⟩
def jc1:Cm:=⟨1,0,0,5,⟨0,0,0,0,0⟩,0,false⟩
def jc2:Cm:=⟨7,0,0,0,⟨0,0,0,0,0⟩,0,false⟩
def jt1:List UInt8:=[100,101,112,111,115,105,116,32,48,32,53,10]
def jt2:List UInt8:=[115,119,101,101,112]
theorem zt5:putD zcq jc1=(⟨[],jt1⟩,0):=by kernel_rfl
theorem zt6:zgT ⟨[],jt1⟩=(⟨jt1,[]⟩,0):=by kernel_rfl
theorem zt7:putD ⟨jt1,[]⟩ jc2=(⟨jt1,jt2 ++ [10]⟩,0):=by kernel_rfl
theorem ztX:zho ⟨jt1,jt2 ++ [10]⟩ 5=(⟨jt1,jt2⟩,0):=by kernel_rfl
theorem jrec:zcW ⟨jt1,jt2⟩=(⟨jt1,[]⟩,[jc1],0):=by kernel_rfl
theorem zt8:FitC jc1:=⟨by constructor <;> decide,by constructor <;> decide,by constructor <;> decide,by constructor <;> decide,by constructor <;> decide⟩
theorem zt9:FitC jc2:=⟨by constructor <;> decide,by constructor <;> decide,by constructor <;> decide,by constructor <;> decide,by constructor <;> decide⟩
theorem zsE (w:World):DkR w w.heap.size none none 0 0 zcq:=⟨Rd.none_ _ _ _,Rd.none_ _ _ _⟩
set_option maxHeartbeats 2000000 in
set_option maxRecDepth 100000 in
theorem zlW (w:World) (he:Env w):Calls Tryz.prog 9 #[] w fun e w'=>e=.returned (.bool true)∧Below w.heap.size w w':=by
 have HE:=zi he;obtain ⟨d1,hd1⟩:∃ d1:Dsk,d1=⟨[],jt1⟩:=⟨_,rfl⟩;obtain ⟨d2,hd2⟩:∃ d2:Dsk,d2=⟨jt1,[]⟩:=⟨_,rfl⟩;obtain ⟨d3,hd3⟩:∃ d3:Dsk,d3=⟨jt1,jt2 ++ [10]⟩:=⟨_,rfl⟩;obtain ⟨d4,hd4⟩:∃ d4:Dsk,d4=⟨jt1,jt2⟩:=⟨_,rfl⟩;obtain ⟨t1,ht1⟩:∃ t1:List UInt8,t1=jt1:=⟨_,rfl⟩;have P1:=zi (show putD zcq jc1=(d1,0) by rw [hd1];exact zt5);have P2:=zi (show zgT d1=(d2,0) by rw [hd1,hd2];exact zt6);have P3:=zi (show putD d2 jc2=(d3,0) by rw [hd2,hd3];exact zt7);have P4:=zi (show zho d3 5=(d4,0) by rw [hd3,hd4];exact ztX);have P5:=zi (show zcW d4=(⟨t1,[]⟩,[jc1],0) by rw [hd4,ht1];exact jrec);have e1:((bs t1).toList == [100,101,112,111,115,105,116,32,48,32,53,10])=true:=by rw [zcY];exact decide_eq_true ht1
 have e2:((bs d4.wait).toList == [115,119,101,101,112])=true:=by rw [zcY,hd4];exact decide_eq_true rfl
 have HE1:=zi e1;have HE2:=zi e2;clear he hd1 hd2 hd3 hd4 ht1 e1 e2;go_enter Tryz.func9,Tryz.ntmps9
 go_wp2_with fail
 refine (zha zcq jc1 none none 0 0 w.heap.size w (zsE w) (zl _) HE.out zt8).mono ?_;rintro e w1 ⟨v,k,rfl,hk,hown,hb1⟩;rw [P1.out] at hk hown;dsimp only at hk hown;subst hk;obtain ⟨A1,c1,E1,k1,rfl⟩:=hown.shape;have HO1:=zi hown;have HB1:=zi hb1;clear hown hb1;go_upto_region 2 with (fail)
 refine zaQ ?_;intro w2 hw2;have D2:DkV w w2 w1.heap.size A1 E1 c1 k1 d1:=by rw [hw2];exact DkV.new w1 HO1.out
 have HB2:Hid (Below w.heap.size w w2):=by rw [hw2];exact zi (HB1.out.alloc HB1.out.size _)
 clear hw2;have hs1:=HB1.out.size;obtain ⟨a0,a1⟩:=zaV D2.blk;go_wp2_with fail
 refine (zm3 d1 A1 E1 c1 k1 w2.heap.size w2 D2.rd (zl _) (HE.out.next HB2.out)).mono ?_;rintro e w3 ⟨v,k,rfl,hk,hown,hb3⟩;rw [P2.out] at hk hown;dsimp only at hk hown;subst hk;obtain ⟨A2,c2,E2,k2,rfl⟩:=hown.shape;have D3:=D2.below hb3;have HB3:=zi (HB2.out.trans (hb3.mono HB2.out.size));have HO3:=zi (hown.mono (base':=w.heap.size) HB2.out.size);clear hown hb3 a0 a1 D2;obtain ⟨⟨a0,a1⟩,f0,f1⟩:=zc6 D3.blk;go_upto_region 3 with (fail)
 refine zaQ ?_;intro w4 hw4;have D4:DkV w w4 w1.heap.size A2 E2 c2 k2 d2:=by rw [hw4];exact D3.store HO3.out
 have HB4:Hid (Below w.heap.size w w4):=by rw [hw4];exact zi ((HB3.out.setCell hs1 _).setCell hs1 _)
 clear hw4 D3 a0 a1 f0 f1 HO3 HB3;obtain ⟨a0,a1⟩:=zaV D4.blk;go_wp2_with fail
 refine (zha d2 jc2 A2 E2 c2 k2 w4.heap.size w4 D4.rd (zl _) (HE.out.next HB4.out) zt9).mono ?_;rintro e w5 ⟨v,k,rfl,hk,hown,hb5⟩;rw [P3.out] at hk hown;dsimp only at hk hown;subst hk;obtain ⟨A3,c3,E3,k3,rfl⟩:=hown.shape;have D5:=D4.below hb5;have HB5:=zi (HB4.out.trans (hb5.mono HB4.out.size));have HO5:=zi (hown.mono (base':=w.heap.size) HB4.out.size);clear hown hb5 a0 a1 D4;obtain ⟨⟨a0,a1⟩,f0,f1⟩:=zc6 D5.blk;go_upto_region 4 with (fail)
 refine zaQ ?_;intro w6 hw6;have D6:DkV w w6 w1.heap.size A3 E3 c3 k3 d3:=by rw [hw6];exact D5.store HO5.out
 have HB6:Hid (Below w.heap.size w w6):=by rw [hw6];exact zi ((HB5.out.setCell hs1 _).setCell hs1 _)
 clear hw6 D5 a0 a1 f0 f1 HO5 HB5;obtain ⟨a0,a1⟩:=zaV D6.blk;go_wp2_with fail
 refine (zlG d3 5 A3 E3 c3 k3 w6.heap.size w6 D6.rd (zl _) (HE.out.next HB6.out)).mono ?_;rintro e w7 ⟨v,k,rfl,hk,hown,hb7⟩;rw [P4.out] at hk hown;dsimp only at hk hown;subst hk;obtain ⟨A4,c4,E4,k4,rfl⟩:=hown.shape;have D7:=D6.below hb7;have HB7:=zi (HB6.out.trans (hb7.mono HB6.out.size));have HO7:=zi (hown.mono (base':=w.heap.size) HB6.out.size);clear hown hb7 a0 a1 D6;obtain ⟨⟨a0,a1⟩,f0,f1⟩:=zc6 D7.blk;go_upto_region 5 with (fail)
 refine zaQ ?_;intro w8 hw8;have D8:DkV w w8 w1.heap.size A4 E4 c4 k4 d4:=by rw [hw8];exact D7.store HO7.out
 have HB8:Hid (Below w.heap.size w w8):=by rw [hw8];exact zi ((HB7.out.setCell hs1 _).setCell hs1 _)
 clear hw8 D7 a0 a1 f0 f1 HO7 HB7;obtain ⟨a0,a1⟩:=zaV D8.blk;go_wp2_with fail
 refine (zfW d4 A4 E4 c4 k4 w8.heap.size w8 D8.rd (zl _) (HE.out.next HB8.out)).mono ?_;rintro e w9 ⟨v,u,k,rfl,hk,hown,hrow,hb9⟩;rw [P5.out] at hk hown hrow;dsimp only at hk hown hrow;subst hk;obtain ⟨A5,c5,E5,k5,rfl⟩:=hown.shape;obtain ⟨A6,c6,rfl⟩:=zad hrow;have D9:=D8.below hb9;have HB9:=zi (HB8.out.trans (hb9.mono HB8.out.size));have HO9:=zi (hown.mono (base':=w.heap.size) HB8.out.size);have hs9:=HB9.out.size;clear hown hb9 a0 a1 D8 hrow;go_upto_region 6 with (fail)
 refine zaQ ?_;intro wE hwE;have DE:DkV w wE w1.heap.size A4 E4 c4 k4 d4:=by rw [hwE];exact D9.alloc _
 have DF:DkV w wE w9.heap.size A5 E5 c5 k5 ⟨t1,[]⟩:=by rw [hwE];exact DkV.new (d:=⟨t1,[]⟩) (w0:=w) w9 HO9.out
 have HBE:Hid (Below w.heap.size w wE):=by rw [hwE];exact zi (HB9.out.alloc hs9 _)
 clear hwE D9 HO9 HB9;obtain ⟨a0,a1⟩:=zaV DE.blk;obtain ⟨b0,b1⟩:=zaV DF.blk;have cv1:=zeI DE.rd.t;have cv2:=zeI DF.rd.s;have e1:=HE1.out;have e2:=HE2.out;clear DE DF;go_wp2_with fail
 go_ret;exact ⟨rfl,HBE.out⟩
end
section
open Go.RowKit
theorem znM {w:World} {base base' n:Nat} {v:Value} {L:List (List Ev)} {zs:List Value} (h:OwnEs w base v n L zs) (hb:base' ≤ base):OwnEs w base' v n L zs :=
 ⟨zae h.row hb,h.len,fun i l hi=>by obtain ⟨A,c,h1,h2⟩:=h.cell i l hi;exact ⟨A,c,h1,zae h2 hb⟩,h.one⟩
set_option maxHeartbeats 2000000 in
set_option maxRecDepth 100000 in
theorem zpD {r:Vn × List (List Ev) × Int} (v:Vn) (d d0:Dsk) (l:List Cm) (A M E E':Option Addr) (c k e e' B B':Nat) (w:World) (hv:VnR w B A c M k v) (hB:B ≤ w.heap.size) (hd:DkR w B' E E' e e' d) (hB':B' ≤ w.heap.size) (he:Env w)
  (hr:zcW d=(d0,l,0)) (hx:zdV v l=r) :
  Calls Tryz.prog 13 #[.agg #[.slice A v.accs.length c,.slice M v.mks.length k,.int .i64 v.ins,.int .i64 v.resid,.int .i64 v.next,.int .i64 v.inn,.int .i64 v.out],.agg #[.slice E d.safe.length e,.slice E' d.wait.length e']] w (zit w r):=by
 have HE:=zi he;have HV:=zi hv;have HD:=zi hd;have HR:=zi hr;have HX:=zi hx;clear he hv hd hr hx;go_enter Tryz.func13,Tryz.ntmps13
 go_upto_region 1 with (fail)
 refine zaQ ?_;intro w1 hw1;have X1:Blk w1 w.heap.size 25 #[.slice A v.accs.length c,.slice M v.mks.length k,.int .i64 v.ins,.int .i64 v.resid,.int .i64 v.next,.int .i64 v.inn,.int .i64 v.out]:=by rw [hw1];exact ((Blk.new w _ _).alloc _).alloc _
 have X2:Blk w1 (w.heap.size + 1) 30 #[.slice E d.safe.length e,.slice E' d.wait.length e']:=by
  rw [hw1];refine Blk.alloc ?_ _;have:=Blk.new (w.alloc (.cells #[.slice A v.accs.length c,.slice M v.mks.length k,.int .i64 v.ins,.int .i64 v.resid,.int .i64 v.next,.int .i64 v.inn,.int .i64 v.out] 25)) 30 #[.slice E d.safe.length e,.slice E' d.wait.length e'];simpa using this
 have X3:Blk w1 (w.heap.size + 1 + 1) 25 #[.slice none 0 0,.slice none 0 0,.int .i64 0,.int .i64 0,.int .i64 0,.int .i64 0,.int .i64 0]:=by
  rw [hw1];have:=Blk.new ((w.alloc (.cells #[.slice A v.accs.length c,.slice M v.mks.length k,.int .i64 v.ins,.int .i64 v.resid,.int .i64 v.next,.int .i64 v.inn,.int .i64 v.out] 25)).alloc (.cells #[.slice E d.safe.length e,.slice E' d.wait.length e'] 30)) 25 #[.slice none 0 0,.slice none 0 0,.int .i64 0,.int .i64 0,.int .i64 0,.int .i64 0,.int .i64 0];simpa using this
 have HB1:Hid (Below w.heap.size w w1):=by rw [hw1];exact zi ((((Below.refl _ _).alloc (zl _) _).alloc (by simp) _).alloc (by simp;omega) _)
 clear hw1;have hs1:=HB1.out.size;obtain ⟨k0,k1⟩:=zaV X2;go_wp2_with fail
 refine (zfW d E E' e e' B' w1 (HD.out.below (HB1.out.mono hB')) (by omega) (HE.out.next HB1.out)).mono ?_;rintro en w2 ⟨x,u,kk,rfl,hk,hown,hrow,hb2⟩;rw [HR.out] at hk hown hrow;dsimp only at hk hown hrow;subst hk;obtain ⟨F,f,F',f',rfl⟩:=hown.shape;obtain ⟨AL,cL,rfl⟩:=zad hrow;have HL2:=zi (zm4 (Rd.of_own hrow));have HB2:=zi (HB1.out.trans (hb2.mono hs1));clear k0 k1 hown hrow;replace X1:=X1.below hb2 X1.lt;replace X3:=X3.below hb2 X3.lt;clear X2 hb2;have hs2:=HB2.out.size;go_upto_region 4 with (fail)
 refine zaQ ?_;intro w3 hw3;have hb3:Below w2.heap.size w2 w3:=by rw [hw3];exact (Below.refl _ _).alloc (zl _) _
 replace X1:=X1.below hb3 X1.lt;replace X3:=X3.below hb3 X3.lt;have HB3:=zi (HB2.out.trans (hb3.mono hs2));have HL3:=zi (HL2.out.below hb3);have hs3:=hb3.size;clear hw3 hb3;obtain ⟨⟨u0,u1,u2,u3,u4,u5,u6⟩,-⟩:=X1.c7;go_wp2_with fail
 refine (HX.out ▸ zm7 v l A M AL c k l.length cL B w2.heap.size w3 (HV.out.below (HB3.out.mono hB)) (by omega) HL3.out hs3:Calls Tryz.prog 14 _ w3 (zit w3 r)).mono ?_;rintro en w4 ⟨A4,c4,M4,k4,E4,n4,rfl,⟨xs4,ha4⟩,⟨ys4,hm4⟩,⟨zs4,he4⟩,hb4⟩;have HA4:=zi ha4;have HM4:=zi hm4;have HE4:=zi he4;have HB4:=zi (HB3.out.trans (hb4.mono HB3.out.size));have X4:=X3.below hb4 X3.lt;have hs4:=hb4.size;have hx3:=X3.lt;have hx4:=X4.lt;clear ha4 hm4 he4 hb4 u0 u1 u2 u3 u4 u5 u6 X1 X3;obtain ⟨⟨r0,r1,r2,r3,r4,r5,r6⟩,f0,f1,f2,f3,f4,f5,f6⟩:=X4.c7;go_wp2_with fail
 refine zaA ?_;intro Z hZ;obtain ⟨RZ,hK,hLZ⟩:=put7 (g:=w.heap.size + 1 + 1) X4 hZ;have HLZ:=zi (HB4.out.trans (hLZ _ (by omega)));have HK:=zi hK;clear hZ hK hLZ r0 r1 r2 r3 r4 r5 r6 f0 f1 f2 f3 f4 f5 f6;obtain ⟨⟨r0,r1,r2,r3,r4,r5,r6⟩,-⟩:=RZ.c7;refine bodyPost_ret (v:=.tuple #[.agg #[.slice A4 r.1.accs.length c4,.slice M4 r.1.mks.length k4,.int .i64 r.1.ins,.int .i64 r.1.resid,.int .i64 r.1.next,.int .i64 r.1.inn,.int .i64 r.1.out],.slice E4 r.2.1.length n4,.int .i64 r.2.2]) (by simp [results,Tryz.results13,go_sem, *]) rfl ?_;exact ⟨A4,c4,M4,k4,E4,n4,rfl,⟨xs4,(HA4.out.kept HK.out (by decide) (by decide)).lower (by omega)⟩,⟨ys4,(HM4.out.kept HK.out (by decide) (by decide)).lower (by omega)⟩,⟨zs4,znM (HE4.out.kept HK.out (by decide) (by decide)) (by omega)⟩,HLZ.out⟩
end
section
open Go.RowKit
theorem ztB {c:Cm} (h:FitCm c):FitC c:=⟨h.acc,h.market,h.n,h.o.price,h.o.qty⟩
def sjOf (sy j:Nat):Nat:=if sy ≤ j then sy else 0
theorem ztC (sy:Nat):sjOf sy 0=0:=by unfold sjOf;split <;> omega
theorem zua (sy j:Nat):sjOf sy j ≤ j:=by unfold sjOf;split <;> omega
theorem ztD {sy j:Nat} (h:j + 1 ≠ sy):sjOf sy (j + 1)=sjOf sy j:=by unfold sjOf;split <;> split <;> omega
theorem zub {sy j:Nat} (h:j + 1=sy):sjOf sy j=0∧sjOf sy (j + 1)=j + 1:=by unfold sjOf;constructor <;> split <;> omega
theorem ztY {sy m:Nat} (h:sy ≤ m):sjOf sy m=sy:=by unfold sjOf;rw [if_pos h]
theorem DkV.ownv {w0 w:World} {g:Nat} {A A':Option Addr} {c c':Nat} {d:Dsk} (h:DkV w0 w g A A' c c' d):OwnDk w w0.heap.size (.agg #[.slice A d.safe.length c,.slice A' d.wait.length c']) d:=⟨A,c,A',c',rfl,h.s,h.t⟩
theorem RdL.takeD {α:Type} {S:Shape α} {w:World} {B n c:Nat} {A:Option Addr} {L:List α} (h:RdL S w B A n c L) {m:Nat} (hm:m ≤ n):RdL S w B A m c (L.take m):=by
 have h1:=h.len;have h2:=h.le;refine ⟨by rw [List.length_take];omega,by omega,h.cap,h.nil,fun h0=>?_⟩;obtain ⟨b,o,e,hb,hc⟩:=h.at_ (by omega);refine ⟨b,o,e,hb,fun i a ha=>hc i a ?_⟩;have hi:i < m:=by
  have:=(List.getElem?_eq_some_iff.1 ha).1;rw [List.length_take] at this;omega
 rwa [List.getElem?_take_of_lt hi] at ha
theorem zrk {r:Vn × List (List Ev) × Int} (v:Vn) (l:List Cm) (A M S:Option Addr) (c k n cs:Nat) (B B':Nat) (w:World) (hr:zdV v l=r) (h:VnR w B A c M k v) (hB:B ≤ w.heap.size) (hl:RdL shCm w B' S n cs l) (hB':B' ≤ w.heap.size) :
  Calls Tryz.prog 14 #[.agg #[.slice A v.accs.length c,.slice M v.mks.length k,.int .i64 v.ins,.int .i64 v.resid,.int .i64 v.next,.int .i64 v.inn,.int .i64 v.out],.slice S n cs] w (zit w r):=by rw [← hr];exact zm7 v l A M S c k n cs B B' w h hB hl hB'
theorem zuc {w Z:World} {o:Array Value} (hZ:Z=w.alloc (.cells o 25)):Blk Z w.heap.size 25 o∧Below w.heap.size w Z:=by
 rw [hZ];exact ⟨Blk.new w _ _,(Below.refl _ _).alloc (zl _) _⟩
theorem zrl (S:List UInt8) (A E A' E':Option Addr) (c k c' k' B B':Nat) (w:World) (h:DkR w B A E c k ⟨S,[]⟩) (g:DkR w B' A' E' c' k' ⟨S,[]⟩) (hB:B ≤ w.heap.size) (hB':B' ≤ w.heap.size) :
  Calls Tryz.prog 11 #[.agg #[.slice A S.length c,.slice E 0 k],.agg #[.slice A' S.length c',.slice E' 0 k']] w fun e w'=>e=.returned (.bool true)∧Below w.heap.size w w':=by
 have:=zm2 ⟨S,[]⟩ ⟨S,[]⟩ A E A' E' c k c' k' B B' w h g hB hB';rw [show zgr ⟨S,[]⟩ ⟨S,[]⟩=true from decide_eq_true ⟨rfl,rfl⟩] at this;exact this
set_option maxHeartbeats 8000000 in
set_option maxRecDepth 100000 in
theorem ziF (V:Vn) (A:Option Addr) (c:Nat) (M:Option Addr) (k:Nat) (S:Option Addr) (n cs:Nat) (L:List Cm) (z1 z2:Int) (w:World) (he:Env w) (hv:VnR w w.heap.size A c M k V) (hl:RdL shCm w w.heap.size S n cs L) (hf:∀ a ∈ L,FitCm a) :
  Calls Tryz.prog 3 #[.agg #[.slice A V.accs.length c,.slice M V.mks.length k,.int .i64 V.ins,.int .i64 V.resid,.int .i64 V.next,.int .i64 V.inn,.int .i64 V.out],.slice S n cs,.int .i64 z1,.int .i64 z2] w fun e w'=>e=.returned (.bool true)∧Below w.heap.size w w':=by
 have HE:=zi he;have HV:=zi hv;have HL:=zi hl;have HF:=zi hf;have hcap:=hl.cap;have hle:=hl.le;have hln:=hl.len;simp only [maxLen] at hcap;clear he hv hl hf;go_enter Tryz.func3,Tryz.ntmps3
 go_upto_region 1 with (fail)
 refine zaQ ?_;intro w1 hw1;have X4:Blk w1 w.heap.size 25 #[.slice A V.accs.length c,.slice M V.mks.length k,.int .i64 V.ins,.int .i64 V.resid,.int .i64 V.next,.int .i64 V.inn,.int .i64 V.out]:=by rw [hw1];exact Blk.new w _ _
 have HB1:Hid (Below w.heap.size w w1):=by rw [hw1];exact zi ((Below.refl _ _).alloc (zl _) _)
 clear hw1;have hs1:=HB1.out.size;go_upto_region 2 with (fail)
 obtain ⟨m,hm⟩:∃ m:Nat,(min (n:Int) 30).toNat=m:=⟨_,rfl⟩;have hm30:m ≤ 30:=by omega
 have hmn:m ≤ n:=by omega
 simp only [hm];have HLP:=zi ((RdL.up (HL.out.below HB1.out) hs1).takeD hmn);have HFP:=zi (fun a (ha:a ∈ L.take m)=>HF.out a (List.mem_of_mem_take ha));have hPl:(L.take m).length=m:=by rw [List.length_take];omega
 generalize L.take m=P at HLP HFP hPl;clear HL HF hm;go_wp2_with fail
 refine (znU z1 ((m:Int) + 1) w1 (by omega) (by omega)).mono ?_;rintro e w0 ⟨rfl,rfl⟩;have hz0:=Int.emod_nonneg z1 (show ((m:Int) + 1) ≠ 0 by omega);have hz1:=Int.emod_lt_of_pos z1 (show 0 < ((m:Int) + 1) by omega);obtain ⟨sy,hsy⟩:∃ sy:Nat,z1 % ((m:Int) + 1)=sy:=⟨(z1 % ((m:Int) + 1)).toNat,by omega⟩;have hsm:sy ≤ m:=by omega
 rw [hsy];clear hsy hz0 hz1;go_upto_region 4 with (fail)
 refine zaQ ?_;intro w2 hw2;have D0:DkV w w2 w1.heap.size none none 0 0 zcq:=by rw [hw2];exact DkV.new (d:=zcq) (w0:=w) w1 (zc1 _ _)
 have HB2:=zi (show Below w1.heap.size w1 w2 by rw [hw2];exact (Below.refl _ _).alloc (zl _) _);clear hw2;have HD0:=zi (show DkV w w2 w1.heap.size none none 0 0 zcq from D0);have HE0:=zi (show zcq=zck (P.take 0) (sjOf sy 0) by rw [ztC];rfl);clear D0;go_wp2_with fail
 go_loopw [36] (fun vi wr=>∃ (j:Nat) (d:Dsk) (A8 E8:Option Addr) (c8 k8:Nat),j ≤ m∧vi=.int .i64 j∧Hid (d=zck (P.take j) (sjOf sy j))∧Hid (∀ a ∈ P.take j,GoodC a)∧Hid (DkV w wr w1.heap.size A8 E8 c8 k8 d)∧Hid (Below w1.heap.size w1 wr)) (fun vi _=>m - (intOf vi).toNat)
 case atStart=>exact ⟨0,zcq,none,none,0,0,by omega,rfl,HE0,zi (by simp),HD0,HB2⟩
 case round =>
  obtain ⟨j,d,A8,E8,c8,k8,hj,rfl,HDE,HGD,HDV,HBr⟩:=hrel;have hsr:=HBr.out.size;have hbw:=HDV.out.blk.lt;by_cases hlt:j < m
  ·obtain ⟨b,o,cm,rfl,hb,hcm,q0,q1,q2,q3,q4,q5,q6,q7,q8,q9,q10⟩:=zlZ (HLP.out.below HBr.out) hlt;have hcl:(P.take j).length=j:=by rw [List.length_take];omega
   have HFC:=zi (ztB (HFP.out cm (List.mem_of_getElem? hcm)));have HT1:=zi (show P.take (j + 1)=P.take j ++ [cm] by rw [List.take_add_one,hcm];rfl);obtain ⟨hp1,hp2⟩:=zr8 HGD.out (by omega) (sjOf sy j) (by rw [hcl];exact zua sy j) HFC.out;rw [← HDE.out] at hp1 hp2;have HP1:=zi hp1;have HP2:=zi hp2;clear hcm hp1 hp2;obtain ⟨d5,hd5⟩:∃ d5,(putD d cm).1=d5:=⟨_,rfl⟩;obtain ⟨k5,hk5⟩:∃ k5,(zaI cm).2=k5:=⟨_,rfl⟩;rw [hd5,hk5] at HP2;rw [hk5] at HP1;have HD5:=zi hd5;have HK5:=zi hk5;clear hd5 hk5;obtain ⟨a0,a1⟩:=zaV HDV.out.blk;have hbr2:b < wr.heap.size:=by omega
   go_wp2_with fail
   refine zcK ?_;intro w4 hw4;have hb4:Below wr.heap.size wr w4:=by rw [hw4];exact (Below.refl _ _).alloc (zl _) _
   have HD4:=zi (HDV.out.below hb4);have HB4:=zi (HBr.out.trans (hb4.mono hsr));have hs4:=hb4.size;clear hw4 hb4 q0 q1 q2 q3 q4 q5 q6 q7 q8 q9 q10 a0 a1 HDV;refine (zha d cm A8 E8 c8 k8 w4.heap.size w4 HD4.out.rd (zl _) (HE.out.next (HB1.out.trans (HB4.out.mono hs1))) HFC.out).mono ?_;rintro e w5 ⟨v,kk,rfl,hk,hown,hb5⟩;rw [HP1.out] at hk;subst hk;rw [HD5.out] at hown;obtain ⟨A5,c5,E5,e5,rfl⟩:=hown.shape;have HO5:=zi (hown.mono (base':=w.heap.size) (by omega));have HD6:=zi (HD4.out.below hb5);have HB5:=zi (HB4.out.trans (hb5.mono (by omega)));have hs5:=hb5.size;clear hown hb5 HD4 HB4;go_upto_region 8 with (fail)
   refine zaQ ?_;intro w6 hw6;have D12:DkV w w6 w5.heap.size A5 E5 c5 e5 d5:=by rw [hw6];exact DkV.new (d:=d5) (w0:=w) w5 HO5.out
   have D9:DkV w w6 w1.heap.size A8 E8 c8 k8 d:=by rw [hw6];exact HD6.out.alloc _
   have HB6:=zi (show Below w1.heap.size w1 w6 by rw [hw6];exact HB5.out.alloc (by omega) _);have hne12:=HD6.out.blk.lt;clear hw6 HD6 HB5 HO5;by_cases h5:k5=0
   rotate_left
   ·have hd:(k5 != 0)=true:=by simpa using h5
    have h34:=zpa cm (by rw [HK5.out];exact h5);rw [HK5.out] at h34;rcases h34 with rfl | rfl;all_goals
     clear h5 hd HP1 HP2 HK5;go_wp2_with fail
     go_ret;exact ⟨rfl,HB1.out.trans (HB6.out.mono hs1)⟩
   have HG1:=zi (show ∀ a ∈ P.take (j + 1),GoodC a by
    rw [HT1.out];intro a ha;rcases List.mem_append.1 ha with ha | ha
    ·exact HGD.out a ha
    ·rw [List.mem_singleton.1 ha];exact ⟨HK5.out.trans h5,HFC.out⟩)
   have HDN:=zi (show d5=zck (P.take (j + 1)) (sjOf sy j) by rw [HT1.out];exact HP2.out h5);subst h5;clear HP1 HP2 HK5 HD5 HDE HGD;obtain ⟨b0,b1⟩:=zaV D12.blk;obtain ⟨⟨a0,a1⟩,f0,f1⟩:=zc6 D9.blk;go_upto_region 11 with (fail)
   refine zaQ ?_;intro w7 hw7;have D7:DkV w w7 w1.heap.size A5 E5 c5 e5 d5:=by rw [hw7];exact D9.store (d:=d5) D12.ownv
   have HB7:=zi (show Below w1.heap.size w1 w7 by rw [hw7];exact (HB6.out.setCell (zl _) _).setCell (zl _) _);clear hw7 b0 b1 a0 a1 f0 f1 D9 D12 HB6;have hs7:=HB7.out.size;by_cases hs:j + 1=sy
   ·obtain ⟨sj0,sj1⟩:=zub hs;have hq:((j:Int) + 1 == (sy:Int))=true:=by rw [beq_iff_eq];omega
    have hl1:(P.take (j + 1)).length=j + 1:=by rw [List.length_take];omega
    obtain ⟨d6,hd6⟩:∃ d6,zck (P.take (j + 1)) (j + 1)=d6:=⟨_,rfl⟩;have HSY:=zi (show zgT d5=(d6,0) by
     have:=zqM HG1.out (by omega);rw [hl1,hd6] at this;rw [HDN.out,sj0];exact this)
    have HN6:=zi (show d6=zck (P.take (j + 1)) (sjOf sy (j + 1)) by rw [sj1,hd6]);clear sj0 sj1 hd6 hl1;obtain ⟨a0,a1⟩:=zaV D7.blk;go_wp2_with fail
    refine (zm3 d5 A5 E5 c5 e5 w7.heap.size w7 D7.rd (zl _) (HE.out.next (HB1.out.trans (HB7.out.mono hs1)))).mono ?_;rintro e w8 ⟨v,kk,rfl,hk,hown,hb8⟩;rw [HSY.out] at hk hown;dsimp only at hk hown;subst hk;obtain ⟨A6,c6,E6,e6,rfl⟩:=hown.shape;have HO8:=zi (hown.mono (base':=w.heap.size) (by omega));have D8:=D7.below hb8;have HB8:=zi (HB7.out.trans (hb8.mono hs7));clear hown hb8 a0 a1 D7 HB7;obtain ⟨⟨a0,a1⟩,f0,f1⟩:=zc6 D8.blk;go_upto_region 13 with (fail)
    refine zaQ ?_;intro w9 hw9;have HD9:=zi (show DkV w w9 w1.heap.size A6 E6 c6 e6 d6 by rw [hw9];exact D8.store (d:=d6) HO8.out);have HB9:=zi (show Below w1.heap.size w1 w9 by rw [hw9];exact (HB8.out.setCell (zl _) _).setCell (zl _) _);clear hw9 a0 a1 f0 f1 D8 HB8 HO8 HSY;go_wp2_with fail
    go_roundw
    case rel=>exact ⟨j + 1,d6,A6,E6,c6,e6,by omega,by go_num,HN6,HG1,HD9,HB9⟩
    case measure=>simp [intOf];omega
   ·have hq:((j:Int) + 1 == (sy:Int))=false:=by rw [beq_eq_false_iff_ne];omega
    have HN6:=zi (show d5=zck (P.take (j + 1)) (sjOf sy (j + 1)) by rw [ztD hs];exact HDN.out);have HD7:=zi D7;clear D7;go_wp2_with fail
    go_roundw
    case rel=>exact ⟨j + 1,d5,A5,E5,c5,e5,by omega,by go_num,HN6,HG1,HD7,HB7⟩
    case measure=>simp [intOf];omega
  ·obtain rfl:j=m:=by omega
   have HG:=zi (show ∀ a ∈ P,GoodC a by have:=HGD.out;rwa [List.take_of_length_le (by omega)] at this);have HDD:=zi (show d=zck P sy by rw [HDE.out,ztY hsm,List.take_of_length_le (by omega)]);clear HDE HGD;obtain ⟨ok1,ok2⟩:=zhq HG.out (by omega) sy;rw [← HDD.out] at ok1 ok2;have hwl:d.wait.length ≤ 5310:=by omega
   have hz0:=Int.emod_nonneg z2 (show ((d.wait.length:Int) + 1) ≠ 0 by omega);have hz1:=Int.emod_lt_of_pos z2 (show 0 < ((d.wait.length:Int) + 1) by omega);obtain ⟨kk,hkk⟩:∃ kk:Nat,z2 % ((d.wait.length:Int) + 1)=kk:=⟨(z2 % ((d.wait.length:Int) + 1)).toNat,by omega⟩;have HKK:=zi hkk;have hkw:kk ≤ d.wait.length:=by omega
   obtain ⟨d2,nn,e1,hn1,hn2,e2,e3,e4⟩:=zr9 HG.out (by omega) (show sy ≤ P.length by omega) kk (by rw [← HDD.out];exact hkw);rw [← HDD.out] at e1;have HC1:=zi e1;have HC2:=zi e2;have HC3:=zi e3;have HC4:=zi e4;have hnl:(P.take nn).length=nn:=by rw [List.length_take];omega
   have HPT:=zi (HLP.out.takeD (show nn ≤ j by omega));obtain ⟨sf,hsf⟩:∃ sf,zal (P.take nn)=sf:=⟨_,rfl⟩;rw [hsf] at HC2 HC3 HC4;have DR:=zi (HDV.out.below (zai (Below.refl wr.heap.size wr)));have hB16:Below wr.heap.size wr wr.drew:=zai (Below.refl wr.heap.size wr);have HED:=zi (HE.out.next (HB1.out.trans ((HBr.out.trans (hB16.mono hsr)).mono hs1)));obtain ⟨a0,a1⟩:=zaV HDV.out.blk;clear hkk hz0 hz1 e1 e2 e3 e4 ok1 ok2 HDD hB16 hsf;have hwr:IntKind.i64.wrap ((d.wait.length:Int) + 1)=(d.wait.length:Int) + 1:=by simp [IntKind.wrap,IntKind.bits,IntKind.signed];omega
   go_upto_region 16 with (fail)
   go_cut [14] (fun v14 wx=>∃ A2 E2 c2 e2,v14=.int .i64 0∧Hid (DkV w wx w1.heap.size A2 E2 c2 e2 d2)∧Hid (Below w1.heap.size w1 wx))
   case first =>
    go_wp2_with fail
    go_region_with (first
     | (go_at_call 4;(with_reducible refine (znU z2 ((d.wait.length:Int) + 1) _ (by omega) (by omega)).mono ?_);rintro e W' ⟨rfl,rfl⟩;rw [HKK.out])
     | (go_at_call 7;(with_reducible refine (zlG d (kk:Int) A8 E8 c8 k8 wr.drew.heap.size wr.drew DR.out.rd (zl _) HED.out).mono ?_);rintro e W' ⟨v,k2,rfl,hk,hown,hb⟩;rw [HC1.out] at hk hown;dsimp only at hk hown;subst hk;obtain ⟨A2,c2,E2,e2,rfl⟩:=hown.shape;have D2:=DR.out.below hb;obtain ⟨⟨b0,b1⟩,f0,f1⟩:=zc6 D2.blk)
     | fail "none")
    all_goals
     have HO2:=zi (hown.mono (base':=w.heap.size) (by simp;omega));refine zaA ?_;intro W9 hW9;have HD9:=zi (show DkV w W9 w1.heap.size A2 E2 c2 e2 d2 by rw [hW9];exact D2.store (d:=d2) HO2.out);have HB9:=zi (show Below w1.heap.size w1 W9 by rw [hW9];exact (((HBr.out.trans ((zai (Below.refl wr.heap.size wr)).mono hsr)).trans (hb.mono (by simp;omega))).setCell (zl _) _).setCell (zl _) _);clear hW9 hown hb b0 b1 f0 f1 D2;go_wp2_with fail
     go_meet
     exact ⟨A2,E2,c2,e2,rfl,HD9,HB9⟩
   case rest =>
   obtain ⟨A2,E2,c2,e2,rfl,HD2,HBd⟩:=hcut;obtain ⟨wd,rfl⟩:∃ W,W=wc:=⟨wc,rfl⟩;have hsd:=HBd.out.size;have HQ1:=zi (HPT.out.below HBd.out);have X5:=X4.below HBd.out X4.lt;have D5:=HD2.out;have HB5:=zi (HB1.out.trans (HBd.out.mono hs1));generalize P.take nn=Q at HC2 HC3 hnl HPT HQ1;have hcsn:nn ≤ cs:=by omega
   have hi1:(0:Int) ≤ (nn:Int):=by omega
   have hi2:(nn:Int) ≤ (cs:Int):=by omega
   have hi3:¬ ((nn:Int) < (sy:Int)):=by omega
   have hi4:¬ ((j:Int) < (nn:Int)):=by omega
   clear HD2 HBd HPT HLP HFP HG HC1 HKK hkw DR HED X4 HBr HDV HD0 HE0 HB2;obtain ⟨a0,a1⟩:=zaV D5.blk;go_wp2_with fail
   refine (zfW d2 A2 E2 c2 e2 wd.heap.size wd D5.rd (zl _) (HE.out.next HB5.out)).mono ?_;rintro e w3 ⟨v,u,kx,rfl,hk,hown,hrow,hb⟩;rw [HC2.out] at hk hown hrow;dsimp only at hk hown hrow;subst hk;rw [hnl] at hrow;obtain ⟨A3,c3,E3,e3,rfl⟩:=hown.shape;obtain ⟨AL,cL,rfl⟩:=zad hrow;have hs5:=HB5.out.size;have HO3:=zi (hown.mono (base':=w.heap.size) hs5);have HR3:=zi (zm4 (Rd.of_own hrow));have D6:=D5.below hb;have X6:=X5.below hb X5.lt;have HQ3:=zi (HQ1.out.below (hb.mono hsd));have HB6:=zi (HB5.out.trans (hb.mono hs5));have hs3:=hb.size;clear hown hrow hb a0 a1 D5 X5 HB5 HQ1;go_upto_region 18 with (fail)
   refine zaQ ?_;intro w4 hw4;have hb4:Below w3.heap.size w3 w4:=by rw [hw4];exact (Below.refl _ _).alloc (zl _) _
   have R4:DkV w w4 w3.heap.size A3 E3 c3 e3 ⟨sf,[]⟩:=by rw [hw4];exact DkV.new (d:=⟨sf,[]⟩) (w0:=w) w3 HO3.out
   have D7:=D6.below hb4;have X7:=X6.below hb4 X6.lt;have HQ4:=zi (HQ3.out.below (hb4.mono (by omega)));have HR4:=zi (HR3.out.below hb4);have HB7:=zi (HB6.out.trans (hb4.mono (by omega)));have hs4:=hb4.size;clear hw4 hb4 D6 X6 HB6 HQ3 HR3 HO3;go_wp2_with fail
   refine (zlW w4 (HE.out.next HB7.out)).mono ?_;rintro e w5 ⟨rfl,hb⟩;have R5:=R4.below hb;have D8:=D7.below hb;have X8:=X7.below hb X7.lt;have HQ5:=zi (HQ4.out.below (hb.mono (by omega)));have HR5:=zi ((HR4.out.below (hb.mono (by omega))).up (show w3.heap.size ≤ w5.heap.size by have:=hb.size;omega));have HB8:=zi (HB7.out.trans (hb.mono (by omega)));have hs5':=hb.size;clear hb R4 D7 X7 HB7 HQ4 HR4;go_wp2_with fail
   refine (zlH AL S nn cL nn cs Q Q w5.heap.size w1.heap.size w5 HR5.out HQ5.out (zl _) (by omega) true (decide_eq_true rfl).symm).mono ?_;rintro e w6 ⟨rfl,hb⟩;have R6:=R5.below hb;have D9:=D8.below hb;have X9:=X8.below hb X8.lt;have HQ6:=zi (HQ5.out.below (hb.mono (by omega)));have HR6:=zi ((HR5.out.below hb).up hb.size);have HB9:=zi (HB8.out.trans (hb.mono (by omega)));have hs6:=hb.size;clear hb R5 D8 X8 HB8 HQ5 HR5;obtain ⟨a0,a1⟩:=zaV R6.blk;go_wp2_with fail
   refine (zfW ⟨sf,[]⟩ A3 E3 c3 e3 w6.heap.size w6 R6.rd (zl _) (HE.out.next HB9.out)).mono ?_;rintro e w7 ⟨v,u,kx,rfl,hk,hown,hrow,hb⟩;rw [HC3.out] at hk hown hrow;dsimp only at hk hown hrow;subst hk;rw [hnl] at hrow;obtain ⟨A9,c9,E9,e9,rfl⟩:=hown.shape;obtain ⟨AK,cK,rfl⟩:=zad hrow;have HO7:=zi (hown.mono (base':=w.heap.size) (by have:=HB9.out.size;omega));have HK7:=zi (zm4 (Rd.of_own hrow));have R7:=R6.below hb;have Da:=D9.below hb;have Xa:=X9.below hb X9.lt;have HQ7:=zi (HQ6.out.below (hb.mono (by omega)));have HR7:=zi ((HR6.out.below hb).up hb.size);have HBa:=zi (HB9.out.trans (hb.mono (by have:=HB9.out.size;omega)));have hs7:=hb.size;clear hown hrow hb a0 a1 R6 D9 X9 HB9 HQ6 HR6;go_upto_region 21 with (fail)
   refine zaQ ?_;intro w8 hw8;have hb:Below w7.heap.size w7 w8:=by rw [hw8];exact (Below.refl _ _).alloc (zl _) _
   have S8:DkV w w8 w7.heap.size A9 E9 c9 e9 ⟨sf,[]⟩:=by rw [hw8];exact DkV.new (d:=⟨sf,[]⟩) (w0:=w) w7 HO7.out
   have R8:=R7.below hb;have Db:=Da.below hb;have Xb:=Xa.below hb Xa.lt;have HQ8:=zi (HQ7.out.below (hb.mono (by omega)));have HR8:=zi ((HR7.out.below hb).up hb.size);have HK8:=zi ((HK7.out.below hb).up hb.size);have HBb:=zi (HBa.out.trans (hb.mono (by have:=HBa.out.size;omega)));have hs8:=hb.size;clear hw8 hb R7 Da Xa HBa HQ7 HR7 HK7 HO7;obtain ⟨a0,a1⟩:=zaV S8.blk;obtain ⟨b0,b1⟩:=zaV R8.blk;go_wp2_with fail
   refine (zrl sf A9 E9 A3 E3 c9 e9 c3 e3 w8.heap.size w8.heap.size w8 S8.rd R8.rd (zl _) (zl _)).mono ?_;rintro e w9 ⟨rfl,hb⟩;have R9:=R8.below hb;have Dc:=Db.below hb;have Xc:=Xb.below hb Xb.lt;have HQ9:=zi (HQ8.out.below (hb.mono (by omega)));have HR9:=zi ((HR8.out.below hb).up hb.size);have HK9:=zi ((HK8.out.below hb).up hb.size);have HBc:=zi (HBb.out.trans (hb.mono (by have:=HBb.out.size;omega)));have hs9:=hb.size;clear hb a0 a1 b0 b1 R8 Db Xb HBb HQ8 HR8 HK8 S8;go_wp2_with fail
   refine (zlH AK AL nn cK nn cL Q Q w9.heap.size w9.heap.size w9 HK9.out HR9.out (zl _) (zl _) true (decide_eq_true rfl).symm).mono ?_;rintro e wa ⟨rfl,hb⟩;have Ra:=R9.below hb;have Dd:=Dc.below hb;have Xd:=Xc.below hb Xc.lt;have HQa:=zi (HQ9.out.below (hb.mono (by omega)));have HBe:=zi (HBc.out.trans (hb.mono (by have:=HBc.out.size;omega)));have hsa:=hb.size;clear hb R9 Dc Xc HBc HQ9 HR9 HK9;obtain ⟨b0,b1⟩:=zaV Ra.blk;go_wp2_with fail
   refine (zis ⟨sf,[]⟩ A3 E3 c3 e3 wa.heap.size wa Ra.rd (zl _) (HE.out.next HBe.out) rfl rfl).mono ?_;rintro e wb ⟨rfl,hb⟩;rw [HC4.out];have De:=Dd.below hb;have Xe:=Xd.below hb Xd.lt;have HQb:=zi (HQa.out.below (hb.mono (by omega)));have HBf:=zi (HBe.out.trans (hb.mono (by have:=HBe.out.size;omega)));have hsb:=hb.size;clear hb b0 b1 Ra Dd Xd HBe HQa;obtain ⟨a0,a1⟩:=zaV De.blk;obtain ⟨⟨v0,v1,v2,v3,v4,v5,v6⟩,-⟩:=Xe.c7;obtain ⟨U,es,er,hrun⟩:∃ U es er,zdV V Q=(U,es,er):=⟨_,_,_,rfl⟩;have HRUN:=zi hrun;have HMON:=zi (show zag U.inn=true by have:=zqi V Q;rwa [hrun] at this);clear hrun;go_wp2_with fail
   refine (zpD V d2 ⟨sf,[]⟩ Q A M A2 E2 c k c2 e2 w.heap.size wb.heap.size wb (HV.out.below HBf.out) HBf.out.size De.rd (zl _) (HE.out.next HBf.out) HC2.out HRUN.out).mono ?_;rintro e wx ⟨Ax,cx,Mx,kx,Ex,nx,rfl,⟨xsx,hax⟩,⟨ysx,hmx⟩,⟨zsx,hex⟩,hb⟩;dsimp only at hax hmx hex;have Xf:=Xe.below hb Xe.lt;have HQc:=zi (HQb.out.below (hb.mono (by omega)));have HBg:=zi (HBf.out.trans (hb.mono HBf.out.size));have hsx:=hb.size;have HUx:=zi (show VnR wx wx.heap.size Ax cx Mx kx U from ⟨hax.read,hmx.read⟩);have HEx:=zi (show RdL shEs wx wx.heap.size Ex es.length nx es from hex.read);clear hb a0 a1 v0 v1 v2 v3 v4 v5 v6 De Xe HBf HQb hax hmx hex;go_upto_region 24 with (fail)
   refine zaQ ?_;intro W3 hW3;have hb:Below wx.heap.size wx W3:=by rw [hW3];exact (Below.refl _ _).alloc (zl _) _
   have Y3:Blk W3 wx.heap.size 25 #[.slice Ax U.accs.length cx,.slice Mx U.mks.length kx,.int .i64 U.ins,.int .i64 U.resid,.int .i64 U.next,.int .i64 U.inn,.int .i64 U.out]:=by rw [hW3];exact Blk.new wx _ _
   have X3:=Xf.below hb Xf.lt;have HQd:=zi (HQc.out.below (hb.mono (by omega)));have HBh:=zi (HBg.out.trans (hb.mono HBg.out.size));have HU3:=zi (HUx.out.below hb);have HE3:=zi (HEx.out.below hb);have hs33:=hb.size;have HVU:=zi ((HV.out.below HBh.out).up HBh.out.size);have HR1:=zi (HQd.out.up (show w1.heap.size ≤ W3.heap.size by omega));clear hW3 hb Xf HBg HQc HUx HEx HQd;have x5:=X3.lt;have KS5:Hid (∀ W,Below W3.heap.size W3 W→Below W3.heap.size W3 W∧W.cell? ⟨w.heap.size,0,none⟩=some (.slice A V.accs.length c)∧W.cell? ⟨w.heap.size,1,none⟩=some (.slice M V.mks.length k)∧W.cell? ⟨w.heap.size,2,none⟩=some (.int .i64 V.ins)∧W.cell? ⟨w.heap.size,3,none⟩=some (.int .i64 V.resid)∧W.cell? ⟨w.heap.size,4,none⟩=some (.int .i64 V.next)∧W.cell? ⟨w.heap.size,5,none⟩=some (.int .i64 V.inn)∧W.cell? ⟨w.heap.size,6,none⟩=some (.int .i64 V.out)):=by
    intro W hW;obtain ⟨⟨k0,k1,k2,k3,k4,k5,k6⟩,-⟩:=(X3.below hW x5).c7;exact ⟨hW,k0,k1,k2,k3,k4,k5,k6⟩
   have KT5:Hid (∀ W v0 v1 v2 v3 v4 v5 v6,Below W3.heap.size W3 W→Below W3.heap.size W3 (((((((W.setCell ⟨W3.heap.size,0,none⟩ v0).setCell ⟨W3.heap.size,1,none⟩ v1).setCell ⟨W3.heap.size,2,none⟩ v2).setCell ⟨W3.heap.size,3,none⟩ v3).setCell ⟨W3.heap.size,4,none⟩ v4).setCell ⟨W3.heap.size,5,none⟩ v5).setCell ⟨W3.heap.size,6,none⟩ v6)∧(((((((W.setCell ⟨W3.heap.size,0,none⟩ v0).setCell ⟨W3.heap.size,1,none⟩ v1).setCell ⟨W3.heap.size,2,none⟩ v2).setCell ⟨W3.heap.size,3,none⟩ v3).setCell ⟨W3.heap.size,4,none⟩ v4).setCell ⟨W3.heap.size,5,none⟩ v5).setCell ⟨W3.heap.size,6,none⟩ v6).cell? ⟨w.heap.size,0,none⟩=some (.slice A V.accs.length c)∧(((((((W.setCell ⟨W3.heap.size,0,none⟩ v0).setCell ⟨W3.heap.size,1,none⟩ v1).setCell ⟨W3.heap.size,2,none⟩ v2).setCell ⟨W3.heap.size,3,none⟩ v3).setCell ⟨W3.heap.size,4,none⟩ v4).setCell ⟨W3.heap.size,5,none⟩ v5).setCell ⟨W3.heap.size,6,none⟩ v6).cell? ⟨w.heap.size,1,none⟩=some (.slice M V.mks.length k)∧(((((((W.setCell ⟨W3.heap.size,0,none⟩ v0).setCell ⟨W3.heap.size,1,none⟩ v1).setCell ⟨W3.heap.size,2,none⟩ v2).setCell ⟨W3.heap.size,3,none⟩ v3).setCell ⟨W3.heap.size,4,none⟩ v4).setCell ⟨W3.heap.size,5,none⟩ v5).setCell ⟨W3.heap.size,6,none⟩ v6).cell? ⟨w.heap.size,2,none⟩=some (.int .i64 V.ins)∧(((((((W.setCell ⟨W3.heap.size,0,none⟩ v0).setCell ⟨W3.heap.size,1,none⟩ v1).setCell ⟨W3.heap.size,2,none⟩ v2).setCell ⟨W3.heap.size,3,none⟩ v3).setCell ⟨W3.heap.size,4,none⟩ v4).setCell ⟨W3.heap.size,5,none⟩ v5).setCell ⟨W3.heap.size,6,none⟩ v6).cell? ⟨w.heap.size,3,none⟩=some (.int .i64 V.resid)∧(((((((W.setCell ⟨W3.heap.size,0,none⟩ v0).setCell ⟨W3.heap.size,1,none⟩ v1).setCell ⟨W3.heap.size,2,none⟩ v2).setCell ⟨W3.heap.size,3,none⟩ v3).setCell ⟨W3.heap.size,4,none⟩ v4).setCell ⟨W3.heap.size,5,none⟩ v5).setCell ⟨W3.heap.size,6,none⟩ v6).cell? ⟨w.heap.size,4,none⟩=some (.int .i64 V.next)∧(((((((W.setCell ⟨W3.heap.size,0,none⟩ v0).setCell ⟨W3.heap.size,1,none⟩ v1).setCell ⟨W3.heap.size,2,none⟩ v2).setCell ⟨W3.heap.size,3,none⟩ v3).setCell ⟨W3.heap.size,4,none⟩ v4).setCell ⟨W3.heap.size,5,none⟩ v5).setCell ⟨W3.heap.size,6,none⟩ v6).cell? ⟨w.heap.size,5,none⟩=some (.int .i64 V.inn)∧(((((((W.setCell ⟨W3.heap.size,0,none⟩ v0).setCell ⟨W3.heap.size,1,none⟩ v1).setCell ⟨W3.heap.size,2,none⟩ v2).setCell ⟨W3.heap.size,3,none⟩ v3).setCell ⟨W3.heap.size,4,none⟩ v4).setCell ⟨W3.heap.size,5,none⟩ v5).setCell ⟨W3.heap.size,6,none⟩ v6).cell? ⟨w.heap.size,6,none⟩=some (.int .i64 V.out)):=fun W v0 v1 v2 v3 v4 v5 v6 hW=>KS5.out _ (((((((hW.setCell (zl _) _).setCell (zl _) _).setCell (zl _) _).setCell (zl _) _).setCell (zl _) _).setCell (zl _) _).setCell (zl _) _)
   have KZ5:Hid (∀ Wn,Below ((W3.alloc (.cells #[.slice none 0 0,.slice none 0 0,.int .i64 0,.int .i64 0,.int .i64 0,.int .i64 0,.int .i64 0] 25)).drew).heap.size ((W3.alloc (.cells #[.slice none 0 0,.slice none 0 0,.int .i64 0,.int .i64 0,.int .i64 0,.int .i64 0,.int .i64 0] 25)).drew) Wn→Blk Wn W3.heap.size 25 #[.slice none 0 0,.slice none 0 0,.int .i64 0,.int .i64 0,.int .i64 0,.int .i64 0,.int .i64 0]):=fun Wn hb=>(Blk.drewN (Blk.new W3 _ _) 1).below hb (by simp);have h50:Below W3.heap.size W3 W3:=Below.refl _ _;go_cut [22,23,17] (fun vp ve vr wx=>∃ gO A5 c5 M5 k5 E5 n5,vp=.pointer (some ⟨gO,0,none⟩)∧ve=.slice E5 es.length n5∧vr=.int .i64 er∧Below W3.heap.size W3 wx∧Hid (Blk wx gO 25 #[.slice A5 U.accs.length c5,.slice M5 U.mks.length k5,.int .i64 U.ins,.int .i64 U.resid,.int .i64 U.next,.int .i64 U.inn,.int .i64 U.out])∧Hid (∃ base xs ys zs,OwnAc wx base A5 U.accs.length c5 U.accs xs∧OwnMk wx base false M5 U.mks.length k5 U.mks ys∧OwnEs wx base (.slice E5 es.length n5) es.length es zs))
   case first =>
    go_wp2_with fail
    go_region_held3 (fun W=>Below W3.heap.size W3 W∧W.cell? ⟨w.heap.size,0,none⟩=some (.slice A V.accs.length c)∧W.cell? ⟨w.heap.size,1,none⟩=some (.slice M V.mks.length k)∧W.cell? ⟨w.heap.size,2,none⟩=some (.int .i64 V.ins)∧W.cell? ⟨w.heap.size,3,none⟩=some (.int .i64 V.resid)∧W.cell? ⟨w.heap.size,4,none⟩=some (.int .i64 V.next)∧W.cell? ⟨w.heap.size,5,none⟩=some (.int .i64 V.inn)∧W.cell? ⟨w.heap.size,6,none⟩=some (.int .i64 V.out))
     (with_reducible (first | exact KS5.out _ (by assumption) | exact KT5.out _ _ _ _ _ _ _ _ (by assumption) | exact KS5.out _ (zaE (by assumption)) | exact KS5.out _ (Below.alloc (by assumption) (Below.size (by assumption)) _) | exact KS5.out _ (zaE (Below.alloc (by assumption) (Below.size (by assumption)) _))))
     ((go_at_call 14;go_split_ands;(with_reducible refine (zrk V Q A M S c k nn cs W3.heap.size W3.heap.size _ HRUN.out (HVU.out.below (by assumption)) (Below.size (by assumption)) (HR1.out.below (by assumption)) (Below.size (by assumption))).mono ?_);rintro e W8 ⟨A5,c5,M5,k5,E5,n5,rfl,⟨xs5,ha5⟩,⟨ys5,hm5⟩,⟨zs5,he5⟩,hb8⟩;have hB8:=zb2 (w0:=W3) hb8 (by assumption);have hs8:=hB8.size;try (with_reducible have z1:=KZ5.out _ hb8);try have z2:=z1.lt;try obtain ⟨⟨z3,z4,z5,z6,z7,z8,z9⟩,y1,y2,y3,y4,y5,y6,y7⟩:=z1.c7))
    all_goals
     refine zau ?_;intro W9 hW9
    ·obtain ⟨hX,hL⟩:=zuc hW9;have hB9:Below W3.heap.size W3 W9:=hB8.trans (hL.mono hs8);have HO9:Hid (Blk W9 W8.heap.size 25 #[.slice A5 U.accs.length c5,.slice M5 U.mks.length k5,.int .i64 U.ins,.int .i64 U.resid,.int .i64 U.next,.int .i64 U.inn,.int .i64 U.out]):=hX;have HR9:Hid (∃ base xs ys zs,OwnAc W9 base A5 U.accs.length c5 U.accs xs∧OwnMk W9 base false M5 U.mks.length k5 U.mks ys∧OwnEs W9 base (.slice E5 es.length n5) es.length es zs):=⟨_,xs5,ys5,zs5,ha5.below hL,hm5.below hL,he5.below hL⟩;clear hW9 hX hL;go_wp2_with fail
     go_meet
     exact ⟨_,A5,c5,M5,k5,E5,n5,rfl,rfl,rfl,hB9,HO9,HR9⟩
    ·obtain ⟨hX,hK,hL⟩:=put7 z1 hW9;have hB9:Below W3.heap.size W3 W9:=hB8.trans (hL _ (zl _));have HO9:Hid (Blk W9 W3.heap.size 25 #[.slice A5 U.accs.length c5,.slice M5 U.mks.length k5,.int .i64 U.ins,.int .i64 U.resid,.int .i64 U.next,.int .i64 U.inn,.int .i64 U.out]):=hX;have HR9:Hid (∃ base xs ys zs,OwnAc W9 base A5 U.accs.length c5 U.accs xs∧OwnMk W9 base false M5 U.mks.length k5 U.mks ys∧OwnEs W9 base (.slice E5 es.length n5) es.length es zs):=⟨_,xs5,ys5,zs5,ha5.kept hK (by decide) (by decide),hm5.kept hK (by decide) (by decide),he5.kept hK (by decide) (by decide)⟩;clear hW9 hX hL hK;go_wp2_with fail
     go_meet
     exact ⟨_,A5,c5,M5,k5,E5,n5,rfl,rfl,rfl,hB9,HO9,HR9⟩
   case rest =>
   obtain ⟨gO,A5,c5,M5,k5,E5,n5,rfl,rfl,rfl,hB5,HO5,HR5⟩:=hcut;obtain ⟨W5,rfl⟩:∃ W,W=wc:=⟨wc,rfl⟩;have hs55:=hB5.size;have HVY:Hid (VnR W5 W5.heap.size A5 c5 M5 k5 U):=by
    obtain ⟨_,_,_,_,h1,h2,_⟩:=HR5.out;exact ⟨h1.read,h2.read⟩
   have HES:Hid (RdL shEs W5 W5.heap.size E5 es.length n5 es):=by
    obtain ⟨_,_,_,zs,_,_,h3⟩:=HR5.out;exact h3.read
   have HSAME:=zi (show zcR U U=true from (zo5 _ _).2 rfl);have HEE:=zi (show zes es es=true from znL.2 rfl);have Y5:=Y3.below hB5 Y3.lt;have Q5:=HO5.out;have y5:=Y5.lt;have q5:=Q5.lt;have HB6:=zi (HBh.out.trans (hB5.mono HBh.out.size));obtain ⟨⟨y0,y1,y2,y3,y4,y6,y7⟩,-⟩:=Y5.c7;obtain ⟨⟨p0,p1,p2,p3,p4,p5,p6⟩,-⟩:=Q5.c7;have hee:(er == er)=true:=by simp
   clear KS5 KT5 KZ5 h50 HR5 HR1 HVU X3;go_wp2_with fail
   have hvs:=zqG U U Ax Mx A5 M5 cx kx c5 k5 wx.heap.size W5.heap.size W5 (HU3.out.below (hB5.mono hs33)) HVY.out (by omega) (zl _);rw [HSAME.out] at hvs;refine hvs.mono ?_;rintro e W6 ⟨rfl,hb6⟩;have hs66:=hb6.size;have hB56:=hB5.trans (hb6.mono hs55);have Y6:=Y5.below hb6 Y5.lt;clear hvs y0 y1 y2 y3 y4 y6 y7 p0 p1 p2 p3 p4 p5 p6 Y5 Q5;go_wp2_with fail
   have hes:=zrj Ex E5 es.length es.length nx n5 es es W6.heap.size W6 ((HE3.out.below (hB56.mono hs33)).up (by omega)) ((HES.out.below hb6).up hs66) (zl _);rw [HEE.out] at hes;refine hes.mono ?_;rintro e W7 ⟨rfl,hb7⟩;have HB7:=zi ((HB6.out.trans (hb6.mono (by have:=HB6.out.size;omega))).trans (hb7.mono (by have:=HB6.out.size;omega)));have Y7:=Y6.below hb7 Y6.lt;obtain ⟨⟨y0,y1,y2,y3,y4,y6,y7⟩,-⟩:=Y7.c7;clear hes;go_wp2_with fail
   refine (zaX U.inn W7).mono ?_;rintro e W8 ⟨rfl,rfl⟩;rw [HMON.out];go_wp2_with fail
   go_ret;exact ⟨rfl,HB7.out⟩
end
section
open Go.ChangeShapes Go.WideShapes Go.ChangeAt Go.RowKit
theorem zue {c:Cm} (h:FitCm c):FitC c:=⟨h.acc,h.market,h.n,h.o.price,h.o.qty⟩
set_option maxRecDepth 100000 in
theorem zjs (os:Os) (args:Array Value):laidMetH Tryz.prog Rows.journalHoldsRow.laid ((World.laidAll Tryz.prog os Rows.journalHoldsRow.laid).forCall (fun _ _=>0) ⟨#[],args,[]⟩).memory:=by
 rw [MakeChecks.laidMetH_plain _ _ _ (by kernel_rfl)];exact laidMet_laidAll _ (by kernel_rfl) (by kernel_rfl)
set_option maxRecDepth 100000 in
theorem zjt {W:World} (h:laidMetH Tryz.prog Rows.journalHoldsRow.laid W) (hS:W.ShapedOpen Tryz.prog):Env W:=by
 rw [MakeChecks.laidMetH_plain _ _ _ (by kernel_rfl)] at h;exact ztV h hS (by simp [Rows.journalHoldsRow]) (by rfl) (by rfl)
set_option maxRecDepth 100000 in
theorem zh3 (os:Os) (started:os.Started) (H:Type) (enc:TypeId × Value→H) :
  ReturnsInHanded {} Tryz.checked os 3 .any (fun w args=>(Rows.journalHoldsSpec.pre enc Tryz.prog Tryz.f3 [] false w args∧laidMetH Tryz.prog Rows.journalHoldsRow.laid w)∧sizedMet enc Tryz.prog Tryz.f3 (OpenSpec.ofChange Rows.journalHoldsSpec) false w args)
   (Rows.journalHoldsSpec.post enc Tryz.prog Tryz.f3 false true false false):=by
 refine zm0 (C:=Tryz.checked) (X:=fun w _=>laidMetH Tryz.prog Rows.journalHoldsRow.laid w) (fun _ _ _ hh h=>h.of_heap hh) zs1 started (by kernel_rfl) Tryz.func3
  (ChangeSpec.witness_shaped (enc:=enc) (C:=Tryz.checked) (os:=os) (X:=fun w _=>laidMetH Tryz.prog Rows.journalHoldsRow.laid w) false (World.laidAll Tryz.prog os Rows.journalHoldsRow.laid) #[.agg #[.slice none 0 0,.slice none 0 0,.int .i64 0,.int .i64 0,.int .i64 0,.int .i64 0,.int .i64 0],.slice none 0 0,.int .i64 0,.int .i64 0] 8 (World.laidAll_os _ _ _)
   (World.shaped_of_ZipB (by kernel_rfl) (by kernel_rfl)) (by kernel_rfl) (by kernel_rfl) (by kernel_rfl) (zjs os _)) ?_
 intro W base args ds gs before hval0 hW hcnd hsz hL hS _;have HEnv:=zjt hL hS;have hval:∀ (j:Nat) t v,Tryz.f3.params[j]?=some t→args[j]?=some v→Value.okWide Tryz.prog W .any base t v:=hval0;have hW':=hW;obtain ⟨p,q,hA0,hV,rfl,hfz,hnd⟩:=hW;have hA:DataW.TrodAll enc Tryz.prog W 0 (fun _=>true) true Tryz.f3.params.toList args.toList ds p:=hA0;obtain ⟨rfl,rfl⟩:=trodVars_none hV;have hkeep:=fun W' (bel:Below W.heap.size W W')=>zhW zni bel (by kernel_rfl) hA;rw [Tryz.params3] at hA hval;obtain ⟨v0,vs0,d0,ds0,p0,q0,hargs,rfl,rfl,h0,tl0⟩:=trodAll_cons hA;obtain ⟨v1,vs1,d1,ds1,p1,q1,rfl,rfl,rfl,h1,tl1⟩:=trodAll_cons tl0;obtain ⟨v2,vs2,d2,ds2,p2,q2,rfl,rfl,rfl,h2,tl2⟩:=trodAll_cons tl1;obtain ⟨v3,vs3,d3,ds3,p3,q3,rfl,rfl,rfl,h3,tl3⟩:=trodAll_cons tl2;obtain ⟨rfl,rfl,rfl⟩:=trodAll_nil tl3;obtain rfl:args = #[v0,v1,v2,v3]:=by cases args;simp_all
 clear hargs;have hs0:(DataW.weightsEach Tryz.prog (Tryz.f3.params.toList ++ Rows.journalHoldsSpec.plain.varTypes Tryz.prog) ([d0,d1,d2,d3] ++ [])).all (· ≤ reachBytes)=true:=hsz;rw [show Rows.journalHoldsSpec.plain.varTypes Tryz.prog = [] from rfl,List.append_nil,List.append_nil] at hs0;have hsz':(DataW.weightsEach Tryz.prog Tryz.f3.params.toList [d0,d1,d2,d3]).all (· ≤ reachBytes)=true:=hs0;rw [Tryz.params3] at hsz';obtain ⟨y0,t0⟩:=zfv hsz';obtain ⟨y1,t1⟩:=zfv t0;obtain ⟨y2,t2⟩:=zfv t1;obtain ⟨y3,t3⟩:=zfv t2;obtain ⟨V0,A0,c0,M0,k0,rfl,r0,s0,i0⟩:=znF (hval 0 25 v0 rfl rfl) h0 y0;obtain ⟨A1,n1,c1,L1,rfl,r1,s1,i1⟩:=zkC (hval 1 26 v1 rfl rfl) h1 y1;obtain ⟨z2,rfl,i2⟩:=zk0 (hval 2 3 v2 rfl rfl) h2;obtain ⟨z3,rfl,i3⟩:=zk0 (hval 3 3 v3 rfl rfl) h3;refine (ziF V0 A0 c0 M0 k0 A1 n1 c1 L1 z2 z3 W HEnv r0 r1 i1).mono fun e W' ⟨he,bel⟩=>?_;subst he;exact ⟨_,rfl,_,_,_,[],_,[],hW',trodAll_mk1 (shut_bool Tryz.underlying4 _),hkeep W' bel,rfl,bel.frame _,fun h=>by cases h⟩
set_option maxHeartbeats 4000000 in
theorem ziG:Rows.JournalHoldsSaid :=
 OpenClaim.holds_of_wide 3 Tryz.f3 rfl rfl rfl rfl rfl rfl rfl ⟨rfl,rfl,rfl,rfl,rfl⟩ rfl rfl rfl rfl rfl (by as_aux_lemma=>kernel_rfl) Tryz.func3 (by as_aux_lemma=>kernel_rfl)
  (of_decide_eq_true (by as_aux_lemma=>kernel_rfl)) (by unfold Func.isWrapper;first | (rw [if_pos (by decide +kernel)];as_aux_lemma=>kernel_rfl) | (rw [if_neg (by decide +kernel)];exact ⟨rfl,rfl⟩))
  (fun os started H enc _=>zh3 os started H enc)
theorem journalHolds_proved:Rows.JournalHoldsCardSaid :=
 Claim7.holds_tied_plain_at .later [] [.data,.data,.data,.data,.sentinel,.sentinel,.pinned] true Rows.journalHoldsCard.stood.harness Rows.journalHoldsCard.stood.looks
  ziG (fun _ h=>by cases h) (by kernel_rfl) (fun _ h=>by cases h) journalHolds_row_tie rfl ⟨rfl,rfl⟩ (by kernel_rfl) rfl
  (fun f fn hf hfn=>by
   obtain rfl:f=3:=Option.some.inj ((show Tryz.prog.funcNamed "tollbooth/tollboothlaw.JournalHolds"=some 3 by kernel_rfl).symm.trans hf) |>.symm;obtain rfl:fn=Tryz.f3:=(Option.some.inj (Eq.trans (Eq.symm Tryz.func3) hfn)).symm;exact ⟨by kernel_rfl,fun j t ht=>by
    rw [Tryz.params3] at ht;have hm:t ∈ [25,26,3,3]:=by simpa using Array.mem_of_getElem? ht
    have hall:([25,26,3,3].all fun u=>!Tryz.prog.wantsStandIn u)=true:=by kernel_rfl
    exact (show Tryz.prog.wantsStandIn t=false by simpa using List.all_eq_true.1 hall t hm)⟩)
  (by kernel_rfl)
#print axioms journalHolds_proved
end
end Go.Proofs.YtockodmbhnlheaaGreatDoor
