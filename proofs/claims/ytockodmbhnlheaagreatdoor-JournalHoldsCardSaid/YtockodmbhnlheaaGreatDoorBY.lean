import Derived.Test.YtockodmbhnlheaaGreatDoorBX
import Derived.Test.YtockodmbhnlheaaGreatDoorBL
import Derived.Test.YtockodmbhnlheaaGreatDoorBK
import Derived.Test.YtockodmbhnlheaaGreatDoorBP
namespace Go.Proofs.YtockodmbhnlheaaGreatDoor
section
open Go.RowKit
theorem zpy {w w':World} {base D:Nat} {r:Except Int Dk} {e:Ending} (h:ze4 w base D r e w'):∃ n,e=.returned (.int .i64 n)∧ze4 w base D r (.returned (.int .i64 n)) w':=by
 cases r with
 | error n=>obtain ⟨h1,rfl,h2⟩:=h;exact ⟨n,rfl,h1,rfl,h2⟩
 | ok d=>obtain ⟨rfl,h1,h2⟩:=h;exact ⟨0,rfl,rfl,h1,h2⟩
theorem ze6 {P:Program} {f:Nat} {args:Array Value} {w w1:World} {base D:Nat} {r r':Except Int Dk} (h:Calls P f args w1 (ze4 w1 base D r)) (hb:Below base w w1) (hr:r=r'):Calls P f args w1 fun e w'=>∃ n,e=.returned (.int .i64 n)∧ze4 w base D r' (.returned (.int .i64 n)) w':=by
 subst hr;exact h.mono fun e w' hq=>zpy (zin hq hb)
theorem zrg {c:Cm} {d:Dk} (h:¬ (1 ≤ c.kind∧c.kind ≤ 7)):zcM c d=.error 4:=by
 unfold zcM;rw [if_neg (by omega),if_neg (by omega),if_neg (by omega),if_neg (by omega),if_neg (by omega)]
set_option maxHeartbeats 4000000 in
set_option maxRecDepth 100000 in
theorem ztx (base D:Nat) (d:Dk) (A:Option Addr) (c:Nat) (M:Option Addr) (k:Nat) (vE:Value) (xs ys:List Value) (cm:Cm) (w:World) (h:Desk w base D true d A c M k vE xs ys) (hb:base ≤ w.heap.size) (hv:VOk d.v) (hl:d.ev.length ≤ 700000) :
  Calls Tryz.prog 55 #[.pointer (some ⟨D,0,none⟩),.agg #[.int .i64 cm.kind,.int .i64 cm.acc,.int .i64 cm.market,.int .i64 cm.n,.int .i64 cm.o.id,.int .i64 cm.o.acc,.int .i64 cm.o.side,.int .i64 cm.o.price,.int .i64 cm.o.qty,.int .i64 cm.how,.bool cm.reduce]] w (ze4 w base D (zcM cm d)):=by
 have HD:=zi h;have HV:=zi hv;have hDl:=h.lt;have hm2:=hv.len.2;clear h hv;by_cases hk:1 ≤ cm.kind∧cm.kind ≤ 7
 ·obtain ⟨W1,hW1⟩:∃ W,W=w.alloc (.cells #[.int .i64 cm.kind,.int .i64 cm.acc,.int .i64 cm.market,.int .i64 cm.n,.int .i64 cm.o.id,.int .i64 cm.o.acc,.int .i64 cm.o.side,.int .i64 cm.o.price,.int .i64 cm.o.qty,.int .i64 cm.how,.bool cm.reduce] 34):=⟨_,rfl⟩;have hB1:Below w.heap.size w W1:=by rw [hW1];exact (Below.refl _ _).alloc (zl _) _
  have HD1:=HD.out.below hB1;have hb1:base ≤ W1.heap.size:=by have:=hB1.size;omega
  have hL1:=hB1.mono hb;rcases (show cm.kind=1∨cm.kind=2∨cm.kind=3∨cm.kind=4∨cm.kind=5∨cm.kind=6∨cm.kind=7 by omega) with h7 | h7 | h7 | h7 | h7 | h7 | h7
  ·skip;have hc:=ze6 (zoc base D d A c M k vE xs ys cm W1 HD1.weak hb1 HV.out (by omega) (.inl h7)) hL1 (show _=zcM cm d by unfold zcM;rw [if_pos (by omega)]);rw [hW1] at hc;have HC:=zi hc;have e1:(cm.kind == 1)=true:=by simp [h7]
   have e2:(cm.kind == 2)=false:=by simp [h7]
   have e3:(cm.kind == 3)=false:=by simp [h7]
   have e4:(cm.kind == 4)=false:=by simp [h7]
   have e5:(cm.kind == 5)=false:=by simp [h7]
   have e6:(cm.kind == 6)=false:=by simp [h7]
   have e7:(cm.kind == 7)=false:=by simp [h7]
   clear hk h7 hc hW1 HD1 hL1 hb1 hB1;go_enter Tryz.func55,Tryz.ntmps55
   go_wp2_with fail
   refine HC.out.mono ?_;rintro e w' ⟨n,rfl,hret⟩;have HR:=zi hret;clear hret;go_wp2_with fail
   go_ret;exact HR.out
  ·skip;have hc:=ze6 (zoc base D d A c M k vE xs ys cm W1 HD1.weak hb1 HV.out (by omega) (.inr h7)) hL1 (show _=zcM cm d by unfold zcM;rw [if_pos (by omega)]);rw [hW1] at hc;have HC:=zi hc;have e1:(cm.kind == 1)=false:=by simp [h7]
   have e2:(cm.kind == 2)=true:=by simp [h7]
   have e3:(cm.kind == 3)=false:=by simp [h7]
   have e4:(cm.kind == 4)=false:=by simp [h7]
   have e5:(cm.kind == 5)=false:=by simp [h7]
   have e6:(cm.kind == 6)=false:=by simp [h7]
   have e7:(cm.kind == 7)=false:=by simp [h7]
   clear hk h7 hc hW1 HD1 hL1 hb1 hB1;go_enter Tryz.func55,Tryz.ntmps55
   go_wp2_with fail
   refine HC.out.mono ?_;rintro e w' ⟨n,rfl,hret⟩;have HR:=zi hret;clear hret;go_wp2_with fail
   go_ret;exact HR.out
  ·have hord:Calls Tryz.prog 72 #[.pointer (some ⟨D,0,none⟩),.agg #[.int .i64 cm.kind,.int .i64 cm.acc,.int .i64 cm.market,.int .i64 cm.n,.int .i64 cm.o.id,.int .i64 cm.o.acc,.int .i64 cm.o.side,.int .i64 cm.o.price,.int .i64 cm.o.qty,.int .i64 cm.how,.bool cm.reduce]] W1 (ze3 W1 base D false A c M k [113,57] (D :: (ab A ++ ab M)) (zcE cm d)):=by
    cases hr:cm.reduce with
    | false=>have:=znH base D d A c M k vE xs ys cm W1 HD1.weak hb1 HV.out hl hr;rw [hr] at this;exact this
    | true=>have:=zm6 base D d A c M k vE xs ys cm W1 HD1.weak hb1 HV.out hl hr;rw [hr] at this;exact this
   have hc:=ze6 (hord.mono fun e w' hq=>zgA hq) hL1 (show _=zcM cm d by unfold zcM;rw [if_neg (by omega),if_pos (by omega)]);rw [hW1] at hc;have HC:=zi hc;have e1:(cm.kind == 1)=false:=by simp [h7]
   have e2:(cm.kind == 2)=false:=by simp [h7]
   have e3:(cm.kind == 3)=true:=by simp [h7]
   have e4:(cm.kind == 4)=false:=by simp [h7]
   have e5:(cm.kind == 5)=false:=by simp [h7]
   have e6:(cm.kind == 6)=false:=by simp [h7]
   have e7:(cm.kind == 7)=false:=by simp [h7]
   clear hk h7 hc hW1 HD1 hL1 hb1 hB1;go_enter Tryz.func55,Tryz.ntmps55
   go_wp2_with fail
   refine HC.out.mono ?_;rintro e w' ⟨n,rfl,hret⟩;have HR:=zi hret;clear hret;go_wp2_with fail
   go_ret;exact HR.out
  ·skip;have hc:=ze6 ((zqQ base D d A c M k vE xs ys cm W1 HD1.weak hb1 (by omega) hm2).mono fun e w' hq=>zgA hq) hL1 (show _=zcM cm d by unfold zcM;rw [if_neg (by omega),if_neg (by omega),if_pos (by omega)]);rw [hW1] at hc;have HC:=zi hc;have e1:(cm.kind == 1)=false:=by simp [h7]
   have e2:(cm.kind == 2)=false:=by simp [h7]
   have e3:(cm.kind == 3)=false:=by simp [h7]
   have e4:(cm.kind == 4)=true:=by simp [h7]
   have e5:(cm.kind == 5)=false:=by simp [h7]
   have e6:(cm.kind == 6)=false:=by simp [h7]
   have e7:(cm.kind == 7)=false:=by simp [h7]
   clear hk h7 hc hW1 HD1 hL1 hb1 hB1;go_enter Tryz.func55,Tryz.ntmps55
   go_wp2_with fail
   refine HC.out.mono ?_;rintro e w' ⟨n,rfl,hret⟩;have HR:=zi hret;clear hret;go_wp2_with fail
   go_ret;exact HR.out
  ·skip;have hc:=ze6 (zlv base D d A c M k vE xs ys cm W1 HD1.weak hb1 HV.out (by omega)) hL1 (show _=zcM cm d by unfold zcM;rw [if_neg (by omega),if_neg (by omega),if_neg (by omega),if_pos (by omega)]);rw [hW1] at hc;have HC:=zi hc;have e1:(cm.kind == 1)=false:=by simp [h7]
   have e2:(cm.kind == 2)=false:=by simp [h7]
   have e3:(cm.kind == 3)=false:=by simp [h7]
   have e4:(cm.kind == 4)=false:=by simp [h7]
   have e5:(cm.kind == 5)=true:=by simp [h7]
   have e6:(cm.kind == 6)=false:=by simp [h7]
   have e7:(cm.kind == 7)=false:=by simp [h7]
   clear hk h7 hc hW1 HD1 hL1 hb1 hB1;go_enter Tryz.func55,Tryz.ntmps55
   go_wp2_with fail
   refine HC.out.mono ?_;rintro e w' ⟨n,rfl,hret⟩;have HR:=zi hret;clear hret;go_wp2_with fail
   go_ret;exact HR.out
  ·skip;have hc:=ze6 (zlv base D d A c M k vE xs ys cm W1 HD1.weak hb1 HV.out (by omega)) hL1 (show _=zcM cm d by unfold zcM;rw [if_neg (by omega),if_neg (by omega),if_neg (by omega),if_pos (by omega)]);rw [hW1] at hc;have HC:=zi hc;have e1:(cm.kind == 1)=false:=by simp [h7]
   have e2:(cm.kind == 2)=false:=by simp [h7]
   have e3:(cm.kind == 3)=false:=by simp [h7]
   have e4:(cm.kind == 4)=false:=by simp [h7]
   have e5:(cm.kind == 5)=false:=by simp [h7]
   have e6:(cm.kind == 6)=true:=by simp [h7]
   have e7:(cm.kind == 7)=false:=by simp [h7]
   clear hk h7 hc hW1 HD1 hL1 hb1 hB1;go_enter Tryz.func55,Tryz.ntmps55
   go_wp2_with fail
   refine HC.out.mono ?_;rintro e w' ⟨n,rfl,hret⟩;have HR:=zi hret;clear hret;go_wp2_with fail
   go_ret;exact HR.out
  ·skip;have hc:=ze6 ((zss base D d A c M k vE xs ys W1 HD1 hb1 HV.out hl).mono fun e w' hq=>zgA hq) hL1 (show _=zcM cm d by unfold zcM;rw [if_neg (by omega),if_neg (by omega),if_neg (by omega),if_neg (by omega),if_pos (by omega)]);rw [hW1] at hc;have HC:=zi hc;have e1:(cm.kind == 1)=false:=by simp [h7]
   have e2:(cm.kind == 2)=false:=by simp [h7]
   have e3:(cm.kind == 3)=false:=by simp [h7]
   have e4:(cm.kind == 4)=false:=by simp [h7]
   have e5:(cm.kind == 5)=false:=by simp [h7]
   have e6:(cm.kind == 6)=false:=by simp [h7]
   have e7:(cm.kind == 7)=true:=by simp [h7]
   clear hk h7 hc hW1 HD1 hL1 hb1 hB1;go_enter Tryz.func55,Tryz.ntmps55
   go_wp2_with fail
   refine HC.out.mono ?_;rintro e w' ⟨n,rfl,hret⟩;have HR:=zi hret;clear hret;go_wp2_with fail
   go_ret;exact HR.out
 ·have HE:=zi (zrg (d:=d) hk);have e1:(cm.kind == 1)=false:=by simp;omega
  have e2:(cm.kind == 2)=false:=by simp;omega
  have e3:(cm.kind == 3)=false:=by simp;omega
  have e4:(cm.kind == 4)=false:=by simp;omega
  have e5:(cm.kind == 5)=false:=by simp;omega
  have e6:(cm.kind == 6)=false:=by simp;omega
  have e7:(cm.kind == 7)=false:=by simp;omega
  clear hk;go_enter Tryz.func55,Tryz.ntmps55
  go_wp2_with fail
  go_ret;exact zbM HE.out (by omega) ((Below.refl _ _).alloc hb _)
end
section
open Go.RowKit
def zpz (w:World) (r:Vn × List Ev × Int) (e:Ending) (w':World):Prop :=
 ∃ A c M k E n,e=.returned (.tuple #[.agg #[.slice A r.1.accs.length c,.slice M r.1.mks.length k,.int .i64 r.1.ins,.int .i64 r.1.resid,.int .i64 r.1.next,.int .i64 r.1.inn,.int .i64 r.1.out],.slice E r.2.1.length n,.int .i64 r.2.2])∧(∃ xs,OwnAc w' w.heap.size A r.1.accs.length c r.1.accs xs)∧(∃ ys,OwnMk w' w.heap.size false M r.1.mks.length k r.1.mks ys) ∧
  w'.ownsRow w.heap.size 57 13 (.slice E r.2.1.length n) r.2.1.length (za4 r.2.1)∧Below w.heap.size w w'
theorem zrh {w w':World} {r:Vn × List Ev × Int} {n:Int} (h:r=(zdm,[],n)) (hb:Below w.heap.size w w'):zpz w r (.returned (.tuple #[.agg #[.slice none 0 0,.slice none 0 0,.int .i64 0,.int .i64 0,.int .i64 0,.int .i64 0,.int .i64 0],.slice none 0 0,.int .i64 n])) w':=by
 subst h;exact ⟨none,0,none,0,none,0,rfl,⟨_,zfg _ _⟩,⟨[],World.ownsRow_nil _ _ _ _,rfl,(fun i a h=>by simp [zdm] at h),nofun⟩,World.ownsRow_nil _ _ _ _,hb⟩
theorem OwnMk.lower {w:World} {base base' m k:Nat} {ap:Bool} {M:Option Addr} {L:List Mk} {xs:List Value} (h:OwnMk w base ap M m k L xs) (hb:base' ≤ base):OwnMk w base' ap M m k L xs :=
 ⟨zae h.row hb,h.len,fun i a ha=>by
  obtain ⟨A2,c2,A3,c3,h0,h1,h2,h3,h4,h5⟩:=h.cell i a ha;exact ⟨A2,c2,A3,c3,h0,h1,h2,h3,⟨zae h4.l hb,zae h4.r hb⟩,h5⟩,h.apart⟩
theorem zsC {B:Nat} {a w:World} (h:Below B a w):Below B a w.drew:=zac h 1
theorem put7 {w Z:World} {g:Nat} {b0 b1 b2 b3 b4 b5 b6 a0 a1 a2 a3 a4 a5 a6:Value} (h:Blk w g 25 #[b0,b1,b2,b3,b4,b5,b6])
  (hZ:Z=((((((w.setCell ⟨g,0,none⟩ a0).setCell ⟨g,1,none⟩ a1).setCell ⟨g,2,none⟩ a2).setCell ⟨g,3,none⟩ a3).setCell ⟨g,4,none⟩ a4).setCell ⟨g,5,none⟩ a5).setCell ⟨g,6,none⟩ a6) :
  Blk Z g 25 #[a0,a1,a2,a3,a4,a5,a6]∧Kept [25] w Z∧∀ B,B ≤ g→Below B w Z:=by
 have h0:Blk (w.setCell ⟨g,0,none⟩ a0) g 25 #[a0,b1,b2,b3,b4,b5,b6]:=h.set_ 0 a0;have h1:Blk ((w.setCell ⟨g,0,none⟩ a0).setCell ⟨g,1,none⟩ a1) g 25 #[a0,a1,b2,b3,b4,b5,b6]:=h0.set_ 1 a1;have h2:Blk (((w.setCell ⟨g,0,none⟩ a0).setCell ⟨g,1,none⟩ a1).setCell ⟨g,2,none⟩ a2) g 25 #[a0,a1,a2,b3,b4,b5,b6]:=h1.set_ 2 a2;have h3:Blk ((((w.setCell ⟨g,0,none⟩ a0).setCell ⟨g,1,none⟩ a1).setCell ⟨g,2,none⟩ a2).setCell ⟨g,3,none⟩ a3) g 25 #[a0,a1,a2,a3,b4,b5,b6]:=h2.set_ 3 a3;have h4:Blk (((((w.setCell ⟨g,0,none⟩ a0).setCell ⟨g,1,none⟩ a1).setCell ⟨g,2,none⟩ a2).setCell ⟨g,3,none⟩ a3).setCell ⟨g,4,none⟩ a4) g 25 #[a0,a1,a2,a3,a4,b5,b6]:=h3.set_ 4 a4;have h5:Blk ((((((w.setCell ⟨g,0,none⟩ a0).setCell ⟨g,1,none⟩ a1).setCell ⟨g,2,none⟩ a2).setCell ⟨g,3,none⟩ a3).setCell ⟨g,4,none⟩ a4).setCell ⟨g,5,none⟩ a5) g 25 #[a0,a1,a2,a3,a4,a5,b6]:=h4.set_ 5 a5;have h6:Blk (((((((w.setCell ⟨g,0,none⟩ a0).setCell ⟨g,1,none⟩ a1).setCell ⟨g,2,none⟩ a2).setCell ⟨g,3,none⟩ a3).setCell ⟨g,4,none⟩ a4).setCell ⟨g,5,none⟩ a5).setCell ⟨g,6,none⟩ a6) g 25 #[a0,a1,a2,a3,a4,a5,a6]:=h5.set_ 6 a6
 refine ⟨by rw [hZ];exact h6,?_,fun B hB=>?_⟩
 ·rw [hZ];exact (((((((Kept.refl _ _).set h (by decide) _ _).set h0 (by decide) _ _).set h1 (by decide) _ _).set h2 (by decide) _ _).set h3 (by decide) _ _).set h4 (by decide) _ _).set h5 (by decide) _ _
 ·rw [hZ];exact (((((((Below.refl _ _).setCell (p:=⟨g,0,none⟩) hB _).setCell (p:=⟨g,1,none⟩) hB _).setCell (p:=⟨g,2,none⟩) hB _).setCell (p:=⟨g,3,none⟩) hB _).setCell (p:=⟨g,4,none⟩) hB _).setCell (p:=⟨g,5,none⟩) hB _).setCell (p:=⟨g,6,none⟩) hB _
theorem zt3 {w Z:World} {g:Nat} {b0 b1 b2 b3 b4 b5 b6 a0 a1 a2 a3 a4 a5 a6:Value} {o:Obj} (h:Blk w g 25 #[b0,b1,b2,b3,b4,b5,b6]) (hZ:Z=(((((((w.setCell ⟨g,0,none⟩ a0).setCell ⟨g,1,none⟩ a1).setCell ⟨g,2,none⟩ a2).setCell ⟨g,3,none⟩ a3).setCell ⟨g,4,none⟩ a4).setCell ⟨g,5,none⟩ a5).setCell ⟨g,6,none⟩ a6).alloc o) :
  ∃ Y,(Blk Y g 25 #[a0,a1,a2,a3,a4,a5,a6]∧Kept [25] w Y∧∀ B,B ≤ g→Below B w Y)∧Y.heap.size=w.heap.size∧Z=Y.alloc o:=⟨_,put7 h rfl,by simp only [zbB],hZ⟩
theorem zt4 {w Z:World} {g:Nat} {b0 b1 b2 b3 b4 b5 b6 a0 a1 a2 a3 a4 a5 a6:Value} (h:Blk w g 25 #[b0,b1,b2,b3,b4,b5,b6]) (hZ:Z=(((((((w.setCell ⟨g,0,none⟩ a0).setCell ⟨g,1,none⟩ a1).setCell ⟨g,2,none⟩ a2).setCell ⟨g,3,none⟩ a3).setCell ⟨g,4,none⟩ a4).setCell ⟨g,5,none⟩ a5).setCell ⟨g,6,none⟩ a6).drew) :
  Blk Z g 25 #[a0,a1,a2,a3,a4,a5,a6]∧Kept [25] w Z∧∀ B,B ≤ g→Below B w Z:=by
 obtain ⟨h1,h2,h3⟩:=put7 h (rfl:_=((((((w.setCell ⟨g,0,none⟩ a0).setCell ⟨g,1,none⟩ a1).setCell ⟨g,2,none⟩ a2).setCell ⟨g,3,none⟩ a3).setCell ⟨g,4,none⟩ a4).setCell ⟨g,5,none⟩ a5).setCell ⟨g,6,none⟩ a6);rw [hZ];exact ⟨h1.drewN 1,h2.drew,fun B hB=>zsC (h3 B hB)⟩
theorem zty (w:World) (base k:Nat) (t:TypeId) (cs:Array Value) (hb:base ≤ w.heap.size) (hk:cs.size=k):(w.alloc (.cells cs t)).ownsRow base t k (.slice (some ⟨w.heap.size,0,none⟩) 1 1) 1 cs.toList :=
 ⟨by simp [hk],.inr ⟨w.heap.size,1,cs,rfl,hb,Blk.new w _ _,zl _,by simp only [maxLen];omega,by omega,by rw [Nat.one_mul,← hk];exact List.take_of_length_le (by simp)⟩⟩
theorem zkj {e:Int} (v:Vn) (A M:Option Addr) (c k:Nat) (B:Nat) (w:World) (hr:zbi v=e) (h:VnR w B A c M k v) (hB:B ≤ w.heap.size) :
  Calls Tryz.prog 27 #[.agg #[.slice A v.accs.length c,.slice M v.mks.length k,.int .i64 v.ins,.int .i64 v.resid,.int .i64 v.next,.int .i64 v.inn,.int .i64 v.out]] w fun e' w'=>e'=.returned (.int .i64 e)∧Below w.heap.size w w':=by rw [← hr];exact zpm v A M c k B w h hB
set_option maxHeartbeats 4000000 in
set_option maxRecDepth 100000 in
theorem ztz (v:Vn) (cm:Cm) (A M:Option Addr) (c k:Nat) (B:Nat) (w:World) (h:VnR w B A c M k v) (hB:B ≤ w.heap.size) :
  Calls Tryz.prog 29 #[.agg #[.slice A v.accs.length c,.slice M v.mks.length k,.int .i64 v.ins,.int .i64 v.resid,.int .i64 v.next,.int .i64 v.inn,.int .i64 v.out],.agg #[.int .i64 cm.kind,.int .i64 cm.acc,.int .i64 cm.market,.int .i64 cm.n,.int .i64 cm.o.id,.int .i64 cm.o.acc,.int .i64 cm.o.side,.int .i64 cm.o.price,.int .i64 cm.o.qty,.int .i64 cm.how,.bool cm.reduce]] w (zpz w (doOf v cm)):=by
 have HV:=zi h;obtain ⟨ev,hev⟩:∃ ev,zbi v=ev:=⟨_,rfl⟩;have HEV:=zi hev;clear h hev;go_enter Tryz.func29,Tryz.ntmps29
 go_wp2_with fail
 refine zak ?_;intro W0 hW0;have hB0:Below w.heap.size w W0:=by rw [hW0];exact (((Below.refl _ _).alloc (zl _) _).alloc (by simp) _).alloc (by simp;omega) _
 have X0:Blk W0 w.heap.size 25 #[.slice A v.accs.length c,.slice M v.mks.length k,.int .i64 v.ins,.int .i64 v.resid,.int .i64 v.next,.int .i64 v.inn,.int .i64 v.out]:=by rw [hW0];exact ((Blk.new w _ _).alloc _).alloc _
 have C0:Blk W0 (w.heap.size + 1) 34 #[.int .i64 cm.kind,.int .i64 cm.acc,.int .i64 cm.market,.int .i64 cm.n,.int .i64 cm.o.id,.int .i64 cm.o.acc,.int .i64 cm.o.side,.int .i64 cm.o.price,.int .i64 cm.o.qty,.int .i64 cm.how,.bool cm.reduce]:=by rw [hW0];exact (Blk.new_at _ _ _ _ (by simp)).alloc _
 have R0:Blk W0 (w.heap.size + 2) 25 #[.slice none 0 0,.slice none 0 0,.int .i64 0,.int .i64 0,.int .i64 0,.int .i64 0,.int .i64 0]:=by rw [hW0];exact Blk.new_at _ _ _ _ (by simp)
 have hs0:W0.heap.size=w.heap.size + 3:=by rw [hW0];simp
 clear hW0;refine (zkj v A M c k B W0 HEV.out (HV.out.below (hB0.mono hB)) (by omega)).mono ?_;rintro e W1 ⟨rfl,hb1⟩;have hs1:=hb1.size;have hB1:=hB0.trans (hb1.mono (by omega));have X1:=X0.below hb1 X0.lt;have C1:=C0.below hb1 C0.lt;have R1:=R0.below hb1 R0.lt;clear hb1 X0 C0 R0 hB0;by_cases he:ev=0
 rotate_left
 ·have he':(ev != 0)=true:=by simpa using he
  have HD:=zi (show doOf v cm=(zdm,[],ev) by unfold doOf;rw [HEV.out,if_pos he]);obtain ⟨⟨r0,r1,r2,r3,r4,r5,r6⟩,f0,f1,f2,f3,f4,f5,f6⟩:=R1.c7;have y1:=R1.lt;clear he;go_wp2_with fail
  refine zaq ?_;intro Z hZ;obtain ⟨RZ,hK,hL⟩:=put7 R1 hZ;have HL:=zi (hB1.trans (hL _ (by omega)));clear hZ hK hL r0 r1 r2 r3 r4 r5 r6 f0 f1 f2 f3 f4 f5 f6 R1;obtain ⟨⟨r0,r1,r2,r3,r4,r5,r6⟩,-⟩:=RZ.c7;refine bodyPost_ret (v:=.tuple #[.agg #[.slice none 0 0,.slice none 0 0,.int .i64 0,.int .i64 0,.int .i64 0,.int .i64 0,.int .i64 0],.slice none 0 0,.int .i64 ev]) (by simp [results,Tryz.results29,go_sem, *]) rfl ?_;exact zrh HD.out HL.out
 subst he;have HOK:=zi (zfQ.1 HEV.out);obtain ⟨⟨kX10,kX11,kX12,kX13,kX14,kX15,kX16⟩,-⟩:=X1.c7;have x1:=X1.lt;go_wp2_with fail
 refine (zio v A M c k B W1 (HV.out.below (hB1.mono hB)) (by omega) HOK.out).mono ?_;rintro e W2 ⟨A2,c2,M2,k2,xs,ys,rfl,hoa,hom,hb2⟩;have hs2:=hb2.size;have HOA:=zi hoa;have HOM:=zi hom;have X2:=X1.below hb2 X1.lt;have C2:=C1.below hb2 C1.lt;have R2:=R1.below hb2 R1.lt;have hB2:=hB1.trans (hb2.mono (by omega));clear hoa hom kX10 kX11 kX12 kX13 kX14 kX15 kX16 x1 X1 C1 R1;have p0:W2.cell? ⟨w.heap.size + 1,0,none⟩=some (.int .i64 cm.kind):=C2.cell 0;have p1:W2.cell? ⟨w.heap.size + 1,1,none⟩=some (.int .i64 cm.acc):=C2.cell 1;have p2:W2.cell? ⟨w.heap.size + 1,2,none⟩=some (.int .i64 cm.market):=C2.cell 2;have p3:W2.cell? ⟨w.heap.size + 1,3,none⟩=some (.int .i64 cm.n):=C2.cell 3;have p4:W2.cell? ⟨w.heap.size + 1,4,none⟩=some (.int .i64 cm.o.id):=C2.cell 4;have p5:W2.cell? ⟨w.heap.size + 1,5,none⟩=some (.int .i64 cm.o.acc):=C2.cell 5;have p6:W2.cell? ⟨w.heap.size + 1,6,none⟩=some (.int .i64 cm.o.side):=C2.cell 6
 have p7:W2.cell? ⟨w.heap.size + 1,7,none⟩=some (.int .i64 cm.o.price):=C2.cell 7;have p8:W2.cell? ⟨w.heap.size + 1,8,none⟩=some (.int .i64 cm.o.qty):=C2.cell 8;have p9:W2.cell? ⟨w.heap.size + 1,9,none⟩=some (.int .i64 cm.how):=C2.cell 9;have p10:W2.cell? ⟨w.heap.size + 1,10,none⟩=some (.bool cm.reduce):=C2.cell 10;have y2:=C2.lt;go_wp2_with fail
 refine zak ?_;intro W3 hW3;have hB3:Below W2.heap.size W2 W3:=by rw [hW3];exact (Below.refl _ _).alloc (zl _) _
 have hs3:=hB3.size;have HDK:=zi (show Desk W3 W1.heap.size W2.heap.size true ⟨v,[]⟩ A2 c2 M2 k2 (.slice none 0 0) xs ys from
  ⟨by rw [hW3];exact Blk.new W2 _ _,hs2,HOA.out.below hB3,HOM.out.below hB3,World.ownsRow_nil _ _ _ _⟩)
 have X3:=X2.below hB3 X2.lt;have R3:=R2.below hB3 R2.lt;clear hW3 p0 p1 p2 p3 p4 p5 p6 p7 p8 p9 p10 y2 X2 R2 C2;refine (ztx W1.heap.size W2.heap.size ⟨v,[]⟩ A2 c2 M2 k2 (.slice none 0 0) xs ys cm W3 HDK.out (by omega) HOK.out (by simp)).mono ?_;intro e W4 hret;cases hd:zcM cm ⟨v,[]⟩ with
 | error n =>
  rw [hd] at hret;obtain ⟨hn,rfl,hL4⟩:=hret;have hn':(n != 0)=true:=by simpa using hn
  have HDO:=zi (show doOf v cm=(v,[zlY n],0) by unfold doOf;rw [HEV.out,if_neg (by simp),hd]);have hs4:=hL4.size;have X4:=X3.below hL4 (by omega);have R4:=R3.below hL4 (by omega);have hB4:Below w.heap.size w W4:=(hB2.trans (hB3.mono (by omega))).trans (hL4.mono (by omega));obtain ⟨⟨kX40,kX41,kX42,kX43,kX44,kX45,kX46⟩,-⟩:=X4.c7;have x4:=X4.lt;clear hd hn hL4 X3 R3;go_wp2_with fail
  refine (zio v A M c k B W4 (HV.out.below (hB4.mono hB)) (by omega) HOK.out).mono ?_;rintro e W5 ⟨A5,c5,M5,k5,xs5,ys5,rfl,hoa,hom,hb5⟩;have hs5:=hb5.size;have R5:=R4.below hb5 R4.lt;obtain ⟨⟨r0,r1,r2,r3,r4,r5,r6⟩,f0,f1,f2,f3,f4,f5,f6⟩:=R5.c7;have HOA5:=zi hoa;have HOM5:=zi hom;have hB5:=hB4.trans (hb5.mono (by omega));have y5:=R5.lt;clear hoa hom kX40 kX41 kX42 kX43 kX44 kX45 kX46 x4 X4 R4;go_wp2_with fail
  refine zaq ?_;intro Z hZ;obtain ⟨Y,⟨RY,hKY,hLY⟩,hsY,hZ2⟩:=zt3 (g:=w.heap.size + 1 + 1) R5 hZ;clear hZ;have hown:=zty Y w.heap.size 13 57 #[.int .i64 1,.int .i64 n,.int .i64 0,.int .i64 0,.int .i64 0,.int .i64 0,.int .i64 0,.int .i64 0,.int .i64 0,.int .i64 0,.int .i64 0,.int .i64 0,.int .i64 0] (by omega) rfl;have RZ:Blk Z (w.heap.size + 1 + 1) 25 #[.slice A5 v.accs.length c5,.slice M5 v.mks.length k5,.int .i64 v.ins,.int .i64 v.resid,.int .i64 v.next,.int .i64 v.inn,.int .i64 v.out]:=by rw [hZ2];exact RY.alloc _
  have hKZ:Kept [25] W5 Z:=by rw [hZ2];exact hKY.alloc _
  have HL:=zi (show Below w.heap.size w Z by rw [hZ2];exact (hB5.trans (hLY _ (by omega))).alloc (by omega) _);have HO:=zi (show Z.ownsRow w.heap.size 57 13 (.slice (some ⟨W5.heap.size,0,none⟩) 1 1) 1 (za4 [zlY n]) by rw [hZ2,← hsY];exact hown);have HK:=zi hKZ;clear hZ2 hown hKY hLY RY hKZ r0 r1 r2 r3 r4 r5 r6 f0 f1 f2 f3 f4 f5 f6 R5;obtain ⟨⟨r0,r1,r2,r3,r4,r5,r6⟩,-⟩:=RZ.c7;refine bodyPost_ret (v:=.tuple #[.agg #[.slice A5 v.accs.length c5,.slice M5 v.mks.length k5,.int .i64 v.ins,.int .i64 v.resid,.int .i64 v.next,.int .i64 v.inn,.int .i64 v.out],.slice (some ⟨W5.heap.size,0,none⟩) 1 1,.int .i64 0]) (by simp [results,Tryz.results29,go_sem, *]) rfl ?_;rw [HDO.out];exact ⟨A5,c5,M5,k5,some ⟨W5.heap.size,0,none⟩,1,rfl,⟨xs5,(HOA5.out.kept HK.out (by decide) (by decide)).lower (by omega)⟩,⟨ys5,((HOM5.out.kept HK.out (by decide) (by decide)).weak).lower (by omega)⟩,HO.out,HL.out⟩
 | ok d' =>
  rw [hd] at hret;obtain ⟨rfl,⟨A4,c4,M4,k4,vE4,hdk⟩,hL4⟩:=hret;have HDO:=zi (show doOf v cm=(d'.v,d'.ev,0) by unfold doOf;rw [HEV.out,if_neg (by simp),hd]);have hs4:=hL4.size;have R4:=R3.below hL4 (by omega);have hB4:Below w.heap.size w W4:=(hB2.trans (hB3.mono (by omega))).trans (hL4.mono (by omega));obtain ⟨E4,n4,rfl⟩:=zad hdk.evs;have HDK4:=zi hdk;obtain ⟨⟨d0,d1,d2,d3,d4,d5,d6,d7⟩,-⟩:=hdk.blk.c8;obtain ⟨⟨r0,r1,r2,r3,r4,r5,r6⟩,f0,f1,f2,f3,f4,f5,f6⟩:=R4.c7;have y4:=hdk.blk.lt;have y5:=R4.lt;clear hd hdk hL4 X3 R3;go_wp2_with fail
  go_region
  refine zau ?_;intro Z hZ;obtain ⟨RZ,hK,hL⟩:=zt4 (g:=w.heap.size + 1 + 1) R4 hZ;have HL:=zi (hB4.trans (hL _ (by omega)));have HK:=zi hK;clear hZ hK hL r0 r1 r2 r3 r4 r5 r6 f0 f1 f2 f3 f4 f5 f6 R4 d0 d1 d2 d3 d4 d5 d6 d7;obtain ⟨⟨r0,r1,r2,r3,r4,r5,r6⟩,-⟩:=RZ.c7;go_wp2_with fail
  refine bodyPost_ret (v:=.tuple #[.agg #[.slice A4 d'.v.accs.length c4,.slice M4 d'.v.mks.length k4,.int .i64 d'.v.ins,.int .i64 d'.v.resid,.int .i64 d'.v.next,.int .i64 d'.v.inn,.int .i64 d'.v.out],.slice E4 d'.ev.length n4,.int .i64 0]) (by simp [results,Tryz.results29,go_sem, *]) rfl ?_;rw [HDO.out];obtain ⟨xs6,hx6⟩:=HDK4.out.accs;obtain ⟨ys6,hy6⟩:=HDK4.out.mks;exact ⟨A4,c4,M4,k4,E4,n4,rfl,⟨xs6,(hx6.kept HK.out (by decide) (by decide)).lower (by omega)⟩,⟨ys6,(hy6.kept HK.out (by decide) (by decide)).lower (by omega)⟩,zae (HK.out.own HDK4.out.evs (by decide)) (by omega),HL.out⟩
end
end Go.Proofs.YtockodmbhnlheaaGreatDoor
