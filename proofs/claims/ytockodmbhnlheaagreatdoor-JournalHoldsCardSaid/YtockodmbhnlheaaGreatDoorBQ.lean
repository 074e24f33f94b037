import Derived.Test.YtockodmbhnlheaaGreatDoorBN
import Derived.Lib.ConvBytes
import Derived.Lib.AppendStr
import Derived.Laws.BytesArg
import Derived.Deep.RegionWith
import Derived.Deep.Cut
namespace Go.Proofs.YtockodmbhnlheaaGreatDoor
section
open Go.RowKit
def u8s (l:List UInt8):List Value:=l.map fun b=>Value.int .u8 b.toNat
theorem ziD (l m:List UInt8):u8s (l ++ m)=u8s l ++ u8s m:=by simp [u8s]
theorem zht (l:List UInt8):∀ u ∈ u8s l,u.oneCell'=true:=by
 intro u hu;simp only [u8s,List.mem_map] at hu;obtain ⟨b,_,rfl⟩:=hu;rfl
theorem zts (l:List UInt8):Lib.strCells (bs l)=u8s l:=by simp [Lib.strCells,u8s,bs]
theorem zq3 {l:List UInt8} {j:Nat} {x:UInt8} (h:l[j]?=some x):(u8s l)[j]?=some (.int .u8 x.toNat):=by simp [u8s,h]
theorem Rd.ofU8 {w:World} {B n c:Nat} {A:Option Addr} {l:List UInt8} (h:Rd w B 1 A n c (u8s l)):l.length=n:=by have:=h.len;simpa [u8s] using this
theorem Rd.u8 {w:World} {B n c:Nat} {A:Option Addr} {l:List UInt8} (h:Rd w B 1 A n c (u8s l)) {j:Nat} (hj:j < n):∃ b o,A=some ⟨b,o,none⟩∧b < B∧∃ z,l[j]?=some z∧w.cell? ⟨b,o + j,none⟩=some (.int .u8 (z.toNat:Int)):=by
 have hl:=h.ofU8;have hz:l[j]?=some l[j]:=List.getElem?_eq_getElem (by omega);obtain ⟨b,o,e,hb,hc⟩:=h.one (zq3 hz);exact ⟨b,o,e,hb,_,hz,hc⟩
set_option maxRecDepth 100000 in
theorem zeI {w:World} {B n c:Nat} {A:Option Addr} {l:List UInt8} (h:Rd w B 1 A n c (u8s l)):(convert 28 9 (.slice A n c)).run Tryz.prog w=.ok (.string (bs l)) w:=by
 have hl:=h.ofU8;by_cases hn:0 < n
 ·obtain ⟨b,o,rfl,hb,hc⟩:=h.at_ hn;have:=run_convert_bytes_arg (P:=Tryz.prog) w 28 5 (by kernel_rfl) (by kernel_rfl) b o n c (l.map fun b=>(b.toNat:Int)) (by simpa using hl) (fun i hi=>by
   have hz:l[i]?=some l[i]:=List.getElem?_eq_getElem (by omega);rw [hc i _ (zq3 hz)];simp [List.getD,hz]) 9 (by kernel_rfl)
  rw [this];congr 2
  simp only [strOfNums,bs];congr 2
  rw [List.map_map];conv=>rhs;rw [← List.map_id l]
  apply List.map_congr_left
  intro x _;simp
 ·have h0:n=0:=by omega
  subst h0;have:l = []:=List.eq_nil_of_length_eq_zero hl;subst this;cases A with
  | none=>exact run_convert_bytes_nil (P:=Tryz.prog) w 28 5 (by kernel_rfl) (by kernel_rfl) 0 c 9 (by kernel_rfl)
  | some ad =>
   rw [run_convert_bytes_string w 28 9 5 (some ad) 0 c (by kernel_rfl) (by kernel_rfl) (by kernel_rfl)];have hl0:(loadCells ad 0).run Tryz.prog w=.ok (([]:List Int).map (Value.int .u8)).toArray w:=by
    have:=run_loadCells_list (P:=Tryz.prog) w ad [] (fun j v hj=>by simp at hj);simpa using this
   exact run_bytesToString (P:=Tryz.prog) w ad 0 c [] hl0
theorem zmS (b:Bool):b=true∨b=false:=by cases b <;> simp
end
section
open Go.RowKit
theorem zcK {P:Program} {f:FuncId} {args:Array Value} {post:Ending→World→Prop} {W:World} (h:∀ Z,Z=W→Calls P f args Z post):Calls P f args W post:=h W rfl
theorem znG {w0 W W':World} (hb:Below W.heap.size W W') (h:Below w0.heap.size w0 W):Below w0.heap.size w0 W':=h.trans (hb.mono h.size)
theorem zai {w0 W:World} (h:Below w0.heap.size w0 W):Below w0.heap.size w0 W.drew:=zac h 1
theorem PW.start {w0 W:World} (hb:Below w0.heap.size w0 W) (he:Env w0) (x:List UInt8) (g:Nat) (hg:g=W.heap.size) :
  PW w0 ((W.alloc (.cells #[.string (bs x)] 9)).alloc (.cells #[.slice (some ⟨g,0,none⟩) 1 1] 91)) w0.heap.size (g + 1) (.slice (some ⟨g,0,none⟩) 1 1) [x]:=by
 subst hg;have hs:=hb.size;refine ⟨(hb.alloc hs _).alloc (by simp;omega) _,?_,by omega,?_,?_,he.low,he,by simp;omega⟩
 ·have:=Blk.new (W.alloc (.cells #[.string (bs x)] 9)) 91 #[.slice (some ⟨W.heap.size,0,none⟩) 1 1];rwa [World.size_alloc] at this
 ·exact World.ownsRow.alloc (World.ownsRow_lit (e:=9) (size:=1) W #[.string (bs x)] 1 hs (by decide) rfl) _
 ·intro e;injection e with e;simp at e
theorem PW.startB {w0 W:World} (hb:Below w0.heap.size w0 W) (he:Env w0) (x:List UInt8) (g:Nat) (hg:g=W.heap.size) :
  PW w0 ((W.alloc (.cells #[.slice (some ⟨g + 1,0,none⟩) 1 1] 91)).alloc (.cells #[.string (bs x)] 9)) w0.heap.size g (.slice (some ⟨g + 1,0,none⟩) 1 1) [x]:=by
 subst hg;have hs:=hb.size;refine ⟨(hb.alloc hs _).alloc (by simp;omega) _,(Blk.new W _ _).alloc _,hs,?_,?_,he.low,he,by simp;omega⟩
 ·have:=World.ownsRow_lit (base:=w0.heap.size) (e:=9) (size:=1) (W.alloc (.cells #[.slice (some ⟨W.heap.size + 1,0,none⟩) 1 1] 91)) #[.string (bs x)] 1 (by simp;omega) (by decide) rfl;rwa [World.size_alloc] at this
 ·intro e;injection e with e;simp at e
theorem PW.startC {w0 W:World} (hb:Below w0.heap.size w0 W) (he:Env w0) (x:List UInt8) (g r:Nat) {u:Value} (hX:Blk W g 91 #[u]) (hg:w0.heap.size ≤ g) (hr:r=W.heap.size) :
  PW w0 ((W.setCell ⟨g,0,none⟩ (.slice (some ⟨r,0,none⟩) 1 1)).alloc (.cells #[.string (bs x)] 9)) w0.heap.size g (.slice (some ⟨r,0,none⟩) 1 1) [x]:=by
 subst hr;have hs:=hb.size;have hl:=hX.lt;refine ⟨(hb.setCell hg _).alloc (by simp;omega) _,(hX.set_ 0 _).alloc _,hg,?_,?_,he.low,he,by simp;omega⟩
 ·have:=World.ownsRow_lit (base:=w0.heap.size) (e:=9) (size:=1) (W.setCell ⟨g,0,none⟩ (.slice (some ⟨W.heap.size,0,none⟩) 1 1)) #[.string (bs x)] 1 (by simp;omega) (by decide) rfl;rwa [World.size_setCell] at this
 ·intro e;injection e with e;simp at e;omega
theorem zaQ {P:Program} {c:Code} {Q:Exit→Act→World→Prop} {a:Act} {W:World} (h:∀ Z,Z=W→Code.wp P c Q a Z):Code.wp P c Q a W:=h W rfl
theorem zfi {w:World} {base e k n:Nat} {v:Value} {xs:List Value} (h:w.ownsRow base e k v n xs) {ga:Nat} (hga:w.heap.size ≤ ga):v.ownBlock ≠ some ga:=by
 intro e;have:=(World.ownsRow.lt h ga e).2;omega
set_option maxHeartbeats 2000000 in
set_option maxRecDepth 100000 in
theorem zlV (c:Cm) (w:World) (h:Env w) (hf:FitC c):Calls Tryz.prog 20 #[.agg #[.int .i64 c.kind,.int .i64 c.acc,.int .i64 c.market,.int .i64 c.n,.int .i64 c.o.id,.int .i64 c.o.acc,.int .i64 c.o.side,.int .i64 c.o.price,.int .i64 c.o.qty,.int .i64 c.how,.bool c.reduce]] w fun e w'=>e=.returned (.tuple #[.string (bs (zaI c).1),.int .i64 (zaI c).2])∧Below w.heap.size w w':=by
 obtain ⟨kind,acc,market,n,⟨oid,oacc,oside,oprice,oqty⟩,how,reduce⟩:=c;have HPR:=zi (show zaI ⟨kind,acc,market,n,⟨oid,oacc,oside,oprice,oqty⟩,how,reduce⟩=if za0 ⟨kind,acc,market,n,⟨oid,oacc,oside,oprice,oqty⟩,how,reduce⟩ ≠ 0 then ([],za0 ⟨kind,acc,market,n,⟨oid,oacc,oside,oprice,oqty⟩,how,reduce⟩) else (Lib.join (zbP ⟨kind,acc,market,n,⟨oid,oacc,oside,oprice,oqty⟩,how,reduce⟩) [32],0) from rfl);have HC:=zi (fun w=>zlU ⟨kind,acc,market,n,⟨oid,oacc,oside,oprice,oqty⟩,how,reduce⟩ w);have HOK:=zi (fun h=>zjY (c:=⟨kind,acc,market,n,⟨oid,oacc,oside,oprice,oqty⟩,how,reduce⟩) h);obtain ⟨te,hte⟩:∃ te,te=za0 ⟨kind,acc,market,n,⟨oid,oacc,oside,oprice,oqty⟩,how,reduce⟩:=⟨_,rfl⟩;rw [← hte] at HPR HC HOK;clear hte;have HEN:=zi h;have HF:=zi hf;clear h hf;dsimp only;go_enter Tryz.func20,Tryz.ntmps20
 go_wp2_with fail
 refine zcK ?_;intro w1 hw1;have hb1:Below w.heap.size w w1:=by rw [hw1];exact (Below.refl _ _).alloc (zl _) _
 have hs1:w1.heap.size=w.heap.size + 1:=by rw [hw1];simp
 have X1:Blk w1 w.heap.size 34 #[.int .i64 kind,.int .i64 acc,.int .i64 market,.int .i64 n,.int .i64 oid,.int .i64 oacc,.int .i64 oside,.int .i64 oprice,.int .i64 oqty,.int .i64 how,.bool reduce]:=by rw [hw1];exact Blk.new w _ _
 clear hw1;refine (HC.out w1).mono ?_;rintro e w2 ⟨rfl,hb2⟩;have hs2:=hb2.size;replace X1:=X1.below hb2 X1.lt;replace hb1:=hb1.trans (hb2.mono (by omega));clear hb2 HC;by_cases hz:te=0
 rotate_left
 ·have hz':(te != 0)=true:=by simpa using hz
  have HE:=zi (HPR.out.trans (if_pos hz));clear hz HPR;go_wp2_with fail
  go_ret2
  exact ⟨by rw [HE.out];rfl,hb1⟩
 have HE:=zi (HPR.out.trans (if_neg (by simpa using hz)));obtain ⟨hk,h3,-⟩:=HOK.out hz;have hen:=HEN.out.next hb1;subst hz;clear HPR HOK;obtain ⟨k,rfl⟩:∃ k:Nat,kind=k:=⟨kind.toNat,by omega⟩;have hk7:1 ≤ k∧k ≤ 7:=by omega
 clear hk;go_wp2_with fail
 have k0:w2.cell? ⟨w.heap.size,0,none⟩=some (.int .i64 (k:Int)):=X1.cell 0;go_cut [5] (fun v5 wx=>∃ g v',v5=.pointer (some ⟨g,0,none⟩)∧Hid (PW w2 wx w2.heap.size g v' [(za3 k)]))
 case first =>
  have HK:=zi (fun W=>zlx W);have x1:=X1.lt;have q:∀ w,(Instr.index 89 (.agg #[.string (bs []),.string (bs ze5),.string (bs zeC),.string (bs zgv),.string (bs zfG),.string (bs zgw),.string (bs zhI),.string (bs zgx)]) (.int .i64 (k:Int))).run Tryz.prog w=.ok (.string (bs (za3 k))) w:=fun w=>zly k (by omega) w;have KC:Hid (∀ W,Below w2.heap.size w2 W→W.cell? ⟨w.heap.size,0,none⟩=some (.int .i64 (k:Int))):=zi (fun W hW=>(X1.below hW X1.lt).cell 0);have h22:=zai (Below.refl w2.heap.size w2);go_region_with (go_at_call 36;(with_reducible refine (HK.out _).mono ?_);rintro e W' ⟨rfl,hb⟩;have hB:Below w2.heap.size w2 W':=znG hb (by first | exact h22 | exact h22.alloc h22.size _);have kc:=KC.out _ hB;have hsB:=hB.size;have xB:=Nat.lt_of_lt_of_le x1 hsB;(first | (have XB:Blk W' w2.heap.size 91 #[.slice none 0 0]:=(Blk.new w2.drew 91 #[.slice none 0 0]).below hb (by simp);have kB:W'.cell? ⟨w2.heap.size,0,none⟩=some (.slice none 0 0):=XB.cell 0;have fB:W'.frozen? ⟨w2.heap.size,0,none⟩=false:=XB.frozen 0;have lB:=XB.lt) | skip))
  all_goals
   go_wp2_with fail
   go_meet
   first | exact ⟨_,_,rfl,zi (PW.start hB hen _ _ rfl)⟩ | exact ⟨_,_,rfl,zi (PW.startB hB hen _ _ rfl)⟩ | exact ⟨_,_,rfl,zi (PW.startC hB hen _ _ _ XB (zl _) rfl)⟩
 case rest =>
  obtain ⟨g,v1,rfl,HP⟩:=hcut;have hkk:k=1∨k=2∨k=4∨k=5∨k=6∨k=7∨k=3:=by omega
  clear hk7;have hbs:=HP.out.bel.size;have X2:=zi X1;replace X1:=X1.below HP.out.bel X1.lt;have k0:wc.cell? ⟨w.heap.size,0,none⟩=some (.int .i64 (k:Int)):=X1.cell 0;have k1:wc.cell? ⟨w.heap.size,1,none⟩=some (.int .i64 acc):=X1.cell 1;have k2:wc.cell? ⟨w.heap.size,2,none⟩=some (.int .i64 market):=X1.cell 2;have k3:wc.cell? ⟨w.heap.size,3,none⟩=some (.int .i64 n):=X1.cell 3;have kg:wc.cell? ⟨g,0,none⟩=some v1:=HP.out.cell.cell 0;rcases hkk with rfl | rfl | rfl | rfl | rfl | rfl | rfl
  ·skip;have HJ:=zi (show (Lib.join [za3 1,Lib.itoa acc,Lib.itoa n] [32]).length ≤ 140737488355328 by
    have h1:=(zbq HF.out.acc).2;have h2:=(zbq HF.out.n).2;have h3:=(zeP 1).2;simp only [zdE,Lib.join_one,List.length_append,List.length_cons,List.length_nil] at h1 h2 ⊢;omega)
   go_wp2_with fail
   refine zcK ?_;intro Wp hWp;have hbp:Below wc.heap.size wc Wp:=by rw [hWp];exact (Below.refl _ _).alloc (zl _) _
   have HA:=zi (show Blk Wp wc.heap.size 3 #[.int .i64 acc,.int .i64 n] by rw [hWp];exact Blk.new wc _ _);clear hWp;have HPp:=zi (HP.out.below hbp);refine (zfL w2 Wp w2.heap.size g wc.heap.size v1 [za3 1] acc n HPp.out HA.out (zfi HP.out.row (zl _)) (by have:=HP.out.cell.lt;omega) HF.out.acc HF.out.n (by simp)).mono ?_;rintro e Wf ⟨rfl,v2,hq⟩;have HQ:=zi hq;have kf:Wf.cell? ⟨g,0,none⟩=some v2:=hq.cell.cell 0;obtain ⟨A2,c2,rfl⟩:=zad hq.row;clear hq;go_wp2_with fail
   refine (zeH [za3 1,Lib.itoa acc,Lib.itoa n] (by simp) _ _ _ Wf.heap.size Wf (Rd.of_own HQ.out.row) (zl _) (by simp) HJ.out).mono ?_;rintro e Wz ⟨rfl,hbz⟩;go_wp2_with fail
   go_ret2
   exact ⟨by rw [HE.out];rfl,hb1.trans ((HQ.out.bel.trans (hbz.mono HQ.out.size)).mono (by omega))⟩
  ·skip;have HJ:=zi (show (Lib.join [za3 2,Lib.itoa acc,Lib.itoa n] [32]).length ≤ 140737488355328 by
    have h1:=(zbq HF.out.acc).2;have h2:=(zbq HF.out.n).2;have h3:=(zeP 2).2;simp only [zdE,Lib.join_one,List.length_append,List.length_cons,List.length_nil] at h1 h2 ⊢;omega)
   go_wp2_with fail
   refine zcK ?_;intro Wp hWp;have hbp:Below wc.heap.size wc Wp:=by rw [hWp];exact (Below.refl _ _).alloc (zl _) _
   have HA:=zi (show Blk Wp wc.heap.size 3 #[.int .i64 acc,.int .i64 n] by rw [hWp];exact Blk.new wc _ _);clear hWp;have HPp:=zi (HP.out.below hbp);refine (zfL w2 Wp w2.heap.size g wc.heap.size v1 [za3 2] acc n HPp.out HA.out (zfi HP.out.row (zl _)) (by have:=HP.out.cell.lt;omega) HF.out.acc HF.out.n (by simp)).mono ?_;rintro e Wf ⟨rfl,v2,hq⟩;have HQ:=zi hq;have kf:Wf.cell? ⟨g,0,none⟩=some v2:=hq.cell.cell 0;obtain ⟨A2,c2,rfl⟩:=zad hq.row;clear hq;go_wp2_with fail
   refine (zeH [za3 2,Lib.itoa acc,Lib.itoa n] (by simp) _ _ _ Wf.heap.size Wf (Rd.of_own HQ.out.row) (zl _) (by simp) HJ.out).mono ?_;rintro e Wz ⟨rfl,hbz⟩;go_wp2_with fail
   go_ret2
   exact ⟨by rw [HE.out];rfl,hb1.trans ((HQ.out.bel.trans (hbz.mono HQ.out.size)).mono (by omega))⟩
  ·skip;have HJ:=zi (show (Lib.join [za3 4,Lib.itoa acc,Lib.itoa n] [32]).length ≤ 140737488355328 by
    have h1:=(zbq HF.out.acc).2;have h2:=(zbq HF.out.n).2;have h3:=(zeP 4).2;simp only [zdE,Lib.join_one,List.length_append,List.length_cons,List.length_nil] at h1 h2 ⊢;omega)
   go_wp2_with fail
   refine zcK ?_;intro Wp hWp;have hbp:Below wc.heap.size wc Wp:=by rw [hWp];exact (Below.refl _ _).alloc (zl _) _
   have HA:=zi (show Blk Wp wc.heap.size 3 #[.int .i64 acc,.int .i64 n] by rw [hWp];exact Blk.new wc _ _);clear hWp;have HPp:=zi (HP.out.below hbp);refine (zfL w2 Wp w2.heap.size g wc.heap.size v1 [za3 4] acc n HPp.out HA.out (zfi HP.out.row (zl _)) (by have:=HP.out.cell.lt;omega) HF.out.acc HF.out.n (by simp)).mono ?_;rintro e Wf ⟨rfl,v2,hq⟩;have HQ:=zi hq;have kf:Wf.cell? ⟨g,0,none⟩=some v2:=hq.cell.cell 0;obtain ⟨A2,c2,rfl⟩:=zad hq.row;clear hq;go_wp2_with fail
   refine (zeH [za3 4,Lib.itoa acc,Lib.itoa n] (by simp) _ _ _ Wf.heap.size Wf (Rd.of_own HQ.out.row) (zl _) (by simp) HJ.out).mono ?_;rintro e Wz ⟨rfl,hbz⟩;go_wp2_with fail
   go_ret2
   exact ⟨by rw [HE.out];rfl,hb1.trans ((HQ.out.bel.trans (hbz.mono HQ.out.size)).mono (by omega))⟩
  ·skip;have HJ:=zi (show (Lib.join [za3 5,Lib.itoa market,Lib.itoa n] [32]).length ≤ 140737488355328 by
    have h1:=(zbq HF.out.market).2;have h2:=(zbq HF.out.n).2;have h3:=(zeP 5).2;simp only [zdE,Lib.join_one,List.length_append,List.length_cons,List.length_nil] at h1 h2 ⊢;omega)
   go_wp2_with fail
   refine zcK ?_;intro Wp hWp;have hbp:Below wc.heap.size wc Wp:=by rw [hWp];exact (Below.refl _ _).alloc (zl _) _
   have HA:=zi (show Blk Wp wc.heap.size 3 #[.int .i64 market,.int .i64 n] by rw [hWp];exact Blk.new wc _ _);clear hWp;have HPp:=zi (HP.out.below hbp);refine (zfL w2 Wp w2.heap.size g wc.heap.size v1 [za3 5] market n HPp.out HA.out (zfi HP.out.row (zl _)) (by have:=HP.out.cell.lt;omega) HF.out.market HF.out.n (by simp)).mono ?_;rintro e Wf ⟨rfl,v2,hq⟩;have HQ:=zi hq;have kf:Wf.cell? ⟨g,0,none⟩=some v2:=hq.cell.cell 0;obtain ⟨A2,c2,rfl⟩:=zad hq.row;clear hq;go_wp2_with fail
   refine (zeH [za3 5,Lib.itoa market,Lib.itoa n] (by simp) _ _ _ Wf.heap.size Wf (Rd.of_own HQ.out.row) (zl _) (by simp) HJ.out).mono ?_;rintro e Wz ⟨rfl,hbz⟩;go_wp2_with fail
   go_ret2
   exact ⟨by rw [HE.out];rfl,hb1.trans ((HQ.out.bel.trans (hbz.mono HQ.out.size)).mono (by omega))⟩
  ·skip;have HJ:=zi (show (Lib.join [za3 6,Lib.itoa market,Lib.itoa n] [32]).length ≤ 140737488355328 by
    have h1:=(zbq HF.out.market).2;have h2:=(zbq HF.out.n).2;have h3:=(zeP 6).2;simp only [zdE,Lib.join_one,List.length_append,List.length_cons,List.length_nil] at h1 h2 ⊢;omega)
   go_wp2_with fail
   refine zcK ?_;intro Wp hWp;have hbp:Below wc.heap.size wc Wp:=by rw [hWp];exact (Below.refl _ _).alloc (zl _) _
   have HA:=zi (show Blk Wp wc.heap.size 3 #[.int .i64 market,.int .i64 n] by rw [hWp];exact Blk.new wc _ _);clear hWp;have HPp:=zi (HP.out.below hbp);refine (zfL w2 Wp w2.heap.size g wc.heap.size v1 [za3 6] market n HPp.out HA.out (zfi HP.out.row (zl _)) (by have:=HP.out.cell.lt;omega) HF.out.market HF.out.n (by simp)).mono ?_;rintro e Wf ⟨rfl,v2,hq⟩;have HQ:=zi hq;have kf:Wf.cell? ⟨g,0,none⟩=some v2:=hq.cell.cell 0;obtain ⟨A2,c2,rfl⟩:=zad hq.row;clear hq;go_wp2_with fail
   refine (zeH [za3 6,Lib.itoa market,Lib.itoa n] (by simp) _ _ _ Wf.heap.size Wf (Rd.of_own HQ.out.row) (zl _) (by simp) HJ.out).mono ?_;rintro e Wz ⟨rfl,hbz⟩;go_wp2_with fail
   go_ret2
   exact ⟨by rw [HE.out];rfl,hb1.trans ((HQ.out.bel.trans (hbz.mono HQ.out.size)).mono (by omega))⟩
  ·obtain ⟨Wf,rfl⟩:∃ x,x=wc:=⟨wc,rfl⟩;have HQ:=zi HP.out;obtain ⟨A2,c2,rfl⟩:=zad HP.out.row;go_wp2_with fail
   refine (zeH [za3 7] (by simp) _ _ _ Wf.heap.size Wf (Rd.of_own HQ.out.row) (zl _) (by simp) (by decide)).mono ?_;rintro e Wz ⟨rfl,hbz⟩;go_wp2_with fail
   go_ret2
   exact ⟨by rw [HE.out];rfl,hb1.trans ((HQ.out.bel.trans (hbz.mono HQ.out.size)).mono (by omega))⟩
  ·obtain ⟨⟨q1,q2⟩,q3⟩:=h3 rfl;obtain ⟨hn,rfl⟩:∃ hn:Nat,how=hn:=⟨how.toNat,by omega⟩;go_wp2_with fail
   refine zcK ?_;intro Wp hWp;have hbp:Below wc.heap.size wc Wp:=by rw [hWp];exact (Below.refl _ _).alloc (zl _) _
   have HA:=zi (show Blk Wp wc.heap.size 3 #[.int .i64 acc,.int .i64 market] by rw [hWp];exact Blk.new wc _ _);clear hWp;have HPp:=zi (HP.out.below hbp);refine (zfL w2 Wp w2.heap.size g wc.heap.size _ [za3 3] acc market HPp.out HA.out (zfi HP.out.row (zl _)) (by have:=HP.out.cell.lt;omega) HF.out.acc HF.out.market (by simp)).mono ?_;rintro e Wf ⟨rfl,v2,hq⟩;have HQ1:Hid (PW w2 Wf w2.heap.size g v2 [za3 3,Lib.itoa acc,Lib.itoa market]):=zi hq;clear hq k0 k1 k2 k3 kg X1 HPp HA hbp HP;have hbs1:=HQ1.out.bel.size;have X11:=X2.out.below HQ1.out.bel X2.out.lt;have k6:Wf.cell? ⟨w.heap.size,6,none⟩=some (.int .i64 oside):=X11.cell 6;have k7:Wf.cell? ⟨w.heap.size,7,none⟩=some (.int .i64 oprice):=X11.cell 7;have k8:Wf.cell? ⟨w.heap.size,8,none⟩=some (.int .i64 oqty):=X11.cell 8;have k9:Wf.cell? ⟨w.heap.size,9,none⟩=some (.int .i64 (hn:Int)):=X11.cell 9;have k10:Wf.cell? ⟨w.heap.size,10,none⟩=some (.bool reduce):=X11.cell 10
   have kg:Wf.cell? ⟨g,0,none⟩=some v2:=HQ1.out.cell.cell 0;have gl1:=HQ1.out.cell.lt;have xl1:=X11.lt;go_upto_if 54 with (fail)
   go_cut [7] (fun v wx=>v=.string (bs (zdf oside))∧Wf=wx)
   case first =>
    rcases q3 with rfl | rfl
    ·go_wp2_with fail
     go_meet
     exact ⟨rfl,rfl⟩
    ·go_wp2_with fail
     go_meet
     exact ⟨rfl,rfl⟩
   case rest =>
   obtain ⟨rfl,rfl⟩:=hcut;have hrow1:Wf.ownsRow w2.heap.size 9 1 v2 3 (strs [za3 3,Lib.itoa acc,Lib.itoa market]):=HQ1.out.row;go_upto_region 20 with (at_builtin;refine zbe rfl _ _ _ rfl w2.heap.size 9 1 16 zfK v2 3 (strs [za3 3,Lib.itoa acc,Lib.itoa market]) rfl (World.ownsRow.alloc hrow1 _) (Wf.heap.size + 1) (some ⟨Wf.heap.size,0,none⟩) 1 1 (strs [(zdf oside)]) rfl (zer _ _ _ 1 rfl rfl _ rfl) (zgC _) (by decide) (by decide) (by have:=HQ1.out.size;simp;omega) ?_;intro v4 W4 hown4 hbel4 hgrow hat;obtain ⟨A4,c4,rfl⟩:=zad hown4;have kg4:W4.cell? ⟨g,0,none⟩=some v2:=(zbC (HQ1.out.cell.alloc _) hgrow HQ1.out.ap).cell 0;have fg4:=(zbC (HQ1.out.cell.alloc _) hgrow HQ1.out.ap).frozen 0)
   refine zaQ ?_;intro W5 hW5;have HQ2:Hid (PW w2 W5 w2.heap.size g (.slice A4 (3 + 1) c4) ([za3 3,Lib.itoa acc,Lib.itoa market] ++ [(zdf oside)])):=by rw [hW5];exact zi ((HQ1.out.below ((Below.refl _ _).alloc (zl _) _)).add hown4 hbel4 hgrow hat)
   clear hW5 hown4 hbel4 hgrow hat kg4 fg4;clear k6 k7 k8 k9 k10 kg;have hbs2:=HQ2.out.bel.size;have X12:=X2.out.below HQ2.out.bel X2.out.lt;have k6:W5.cell? ⟨w.heap.size,6,none⟩=some (.int .i64 oside):=X12.cell 6;have k7:W5.cell? ⟨w.heap.size,7,none⟩=some (.int .i64 oprice):=X12.cell 7;have k8:W5.cell? ⟨w.heap.size,8,none⟩=some (.int .i64 oqty):=X12.cell 8;have k9:W5.cell? ⟨w.heap.size,9,none⟩=some (.int .i64 (hn:Int)):=X12.cell 9;have k10:W5.cell? ⟨w.heap.size,10,none⟩=some (.bool reduce):=X12.cell 10;have kg:W5.cell? ⟨g,0,none⟩=some (.slice A4 4 c4):=HQ2.out.cell.cell 0;have gl2:=HQ2.out.cell.lt;have xl2:=X12.lt;go_wp2_with fail
   refine zcK ?_;intro Wp hWp;have hbp:Below W5.heap.size W5 Wp:=by rw [hWp];exact (Below.refl _ _).alloc (zl _) _
   have HA:=zi (show Blk Wp W5.heap.size 3 #[.int .i64 oqty,.int .i64 oprice] by rw [hWp];exact Blk.new W5 _ _);clear hWp;have HPp:=zi (HQ2.out.below hbp);refine (zfL w2 Wp w2.heap.size g W5.heap.size _ [za3 3,Lib.itoa acc,Lib.itoa market,zdf oside] oqty oprice HPp.out HA.out (zfi HQ2.out.row (zl _)) (by have:=HQ2.out.cell.lt;omega) HF.out.qty HF.out.price (by simp)).mono ?_;rintro e W6 ⟨rfl,v6,hq⟩;have HQ3:Hid (PW w2 W6 w2.heap.size g v6 [za3 3,Lib.itoa acc,Lib.itoa market,zdf oside,Lib.itoa oqty,Lib.itoa oprice]):=zi hq;clear hq k6 k7 k8 k9 k10 kg HPp HA hbp;have hbs3:=HQ3.out.bel.size;have X13:=X2.out.below HQ3.out.bel X2.out.lt;have k6:W6.cell? ⟨w.heap.size,6,none⟩=some (.int .i64 oside):=X13.cell 6;have k7:W6.cell? ⟨w.heap.size,7,none⟩=some (.int .i64 oprice):=X13.cell 7;have k8:W6.cell? ⟨w.heap.size,8,none⟩=some (.int .i64 oqty):=X13.cell 8;have k9:W6.cell? ⟨w.heap.size,9,none⟩=some (.int .i64 (hn:Int)):=X13.cell 9
   have k10:W6.cell? ⟨w.heap.size,10,none⟩=some (.bool reduce):=X13.cell 10;have kg:W6.cell? ⟨g,0,none⟩=some v6:=HQ3.out.cell.cell 0;have gl3:=HQ3.out.cell.lt;have xl3:=X13.lt;go_wp2_with fail
   go_cut [4] (fun _ wx=>∃ v7,Hid (PW w2 wx w2.heap.size g v7 [za3 3,Lib.itoa acc,Lib.itoa market,zdf oside,Lib.itoa oqty,Lib.itoa oprice,howW hn]))
   case first =>
    have HH:=zi (zjp W6.drew);have q:∀ w,(Instr.index 94 (.agg #[.string (bs []),.string (bs zf1),.string (bs wNow),.string (bs zf2),.string (bs zgK)]) (.int .i64 (hn:Int))).run Tryz.prog w=.ok (.string (bs (howW hn))) w:=fun w=>zjq hn (by omega) w;have HP1:=zi (HQ3.out.below (w1:=W6.drew) (zac (Below.refl _ _) 1));have X3:Hid (Blk W6.drew w.heap.size 34 #[.int .i64 3,.int .i64 acc,.int .i64 market,.int .i64 n,.int .i64 oid,.int .i64 oacc,.int .i64 oside,.int .i64 oprice,.int .i64 oqty,.int .i64 (hn:Int),.bool reduce]):=zi X13;go_region_law (first
     | (refine zgW rfl _ _ 91 rfl w2.heap.size 9 1 16 zfK v6 6 (strs [za3 3,Lib.itoa acc,Lib.itoa market,zdf oside,Lib.itoa oqty,Lib.itoa oprice]) (by simp [Act.eval]) (World.ownsRow.alloc HPW.out.row _) (W'.heap.size + 1) (some ⟨W'.heap.size,0,none⟩) 1 1 (strs [howW hn]) (by simp [Act.eval]) (zer _ _ _ 1 rfl rfl _ rfl) (zgC _) (by decide) (by decide) hbs ?_;intro v4 W4 hown4 hbel4 hgrow hat;obtain ⟨A4,c4,rfl⟩:=zad hown4;have kg4:W4.cell? ⟨g,0,none⟩=some v6:=(zbC (HPW.out.cell.alloc _) hgrow HPW.out.ap).cell 0;have fg4:=(zbC (HPW.out.cell.alloc _) hgrow HPW.out.ap).frozen 0)
     | (go_simp;go_at_call 39;refine HH.out.mono ?_;rintro e W' ⟨rfl,hbW⟩;have HPW:=zi (HP1.out.below hbW);have hbs:w2.heap.size ≤ (W'.alloc (.cells #[.string (bs (howW hn))] 9)).heap.size:=Nat.le_trans HPW.out.size (by simp);have kgW:W'.cell? ⟨g,0,none⟩=some v6:=HPW.out.cell.cell 0;have hgW:=HPW.out.cell.lt;have khW:W'.cell? ⟨w.heap.size,9,none⟩=some (.int .i64 (hn:Int)):=(X3.out.below hbW X3.out.lt).cell 9))
    all_goals
     go_wp2_with fail
     go_meet
     exact ⟨_,zi ((HPW.out.below ((Below.refl _ _).alloc (zl _) _)).add hown4 hbel4 hgrow hat)⟩
   case rest =>
   obtain ⟨v7,HQ4⟩:=hcut;obtain ⟨W7,rfl⟩:∃ x,x=wc:=⟨wc,rfl⟩;clear k6 k7 k8 k9 k10 kg;have hbs4:=HQ4.out.bel.size;have X14:=X2.out.below HQ4.out.bel X2.out.lt;have k6:W7.cell? ⟨w.heap.size,6,none⟩=some (.int .i64 oside):=X14.cell 6;have k7:W7.cell? ⟨w.heap.size,7,none⟩=some (.int .i64 oprice):=X14.cell 7;have k8:W7.cell? ⟨w.heap.size,8,none⟩=some (.int .i64 oqty):=X14.cell 8;have k9:W7.cell? ⟨w.heap.size,9,none⟩=some (.int .i64 (hn:Int)):=X14.cell 9;have k10:W7.cell? ⟨w.heap.size,10,none⟩=some (.bool reduce):=X14.cell 10;have kg:W7.cell? ⟨g,0,none⟩=some v7:=HQ4.out.cell.cell 0;have gl4:=HQ4.out.cell.lt;have xl4:=X14.lt;have HJ:=zi (show (Lib.join ([za3 3,Lib.itoa acc,Lib.itoa market,zdf oside,Lib.itoa oqty,Lib.itoa oprice,howW hn] ++ if reduce then [zdw] else []) [32]).length ≤ 140737488355328 by
    have hw:=zfS HF.out;have h1:=zji (c:=32) (k:=21) (fun w hw'=>(hw w hw').2);have h2:=zli ⟨3,acc,market,n,⟨oid,oacc,oside,oprice,oqty⟩,hn,reduce⟩;have h3:=Nat.mul_le_mul_right 22 h2;exact Nat.le_trans h1 (Nat.le_trans h3 (by decide)))
   cases reduce with
   | false =>
    obtain ⟨Wf,rfl⟩:∃ x,x=W7:=⟨W7,rfl⟩;have HQ:=zi HQ4.out;obtain ⟨A2,c2,rfl⟩:=zad HQ4.out.row;go_wp2_with fail
    refine (zeH [za3 3,Lib.itoa acc,Lib.itoa market,zdf oside,Lib.itoa oqty,Lib.itoa oprice,howW hn] (by simp) _ _ _ Wf.heap.size Wf (Rd.of_own HQ.out.row) (zl _) (by simp) HJ.out).mono ?_;rintro e Wz ⟨rfl,hbz⟩;go_wp2_with fail
    go_ret2
    exact ⟨by rw [HE.out];rfl,hb1.trans ((HQ.out.bel.trans (hbz.mono HQ.out.size)).mono (by omega))⟩
   | true =>
    have hrow4:W7.ownsRow w2.heap.size 9 1 v7 7 (strs [za3 3,Lib.itoa acc,Lib.itoa market,zdf oside,Lib.itoa oqty,Lib.itoa oprice,howW hn]):=HQ4.out.row;go_upto_region 24 with (at_builtin;refine zbe rfl _ _ _ rfl w2.heap.size 9 1 16 zfK v7 7 (strs [za3 3,Lib.itoa acc,Lib.itoa market,zdf oside,Lib.itoa oqty,Lib.itoa oprice,howW hn]) rfl (World.ownsRow.alloc hrow4 _) (W7.heap.size + 1) (some ⟨W7.heap.size,0,none⟩) 1 1 (strs [zdw]) rfl (zer _ _ _ 1 rfl rfl _ rfl) (zgC _) (by decide) (by decide) (by have:=HQ4.out.size;simp;omega) ?_;intro v4 W4 hown4 hbel4 hgrow hat;obtain ⟨A4,c4,rfl⟩:=zad hown4;have kg4:W4.cell? ⟨g,0,none⟩=some v7:=(zbC (HQ4.out.cell.alloc _) hgrow HQ4.out.ap).cell 0;have fg4:=(zbC (HQ4.out.cell.alloc _) hgrow HQ4.out.ap).frozen 0)
    refine zaQ ?_;intro Wf hW5;have HQ5:Hid (PW w2 Wf w2.heap.size g (.slice A4 (7 + 1) c4) ([za3 3,Lib.itoa acc,Lib.itoa market,zdf oside,Lib.itoa oqty,Lib.itoa oprice,howW hn] ++ [zdw])):=by rw [hW5];exact zi ((HQ4.out.below ((Below.refl _ _).alloc (zl _) _)).add hown4 hbel4 hgrow hat)
    clear hW5 hown4 hbel4 hgrow hat kg4 fg4;have HQ:=zi HQ5.out;have kf:Wf.cell? ⟨g,0,none⟩=some (.slice A4 8 c4):=HQ5.out.cell.cell 0;go_wp2_with fail
    refine (zeH [za3 3,Lib.itoa acc,Lib.itoa market,zdf oside,Lib.itoa oqty,Lib.itoa oprice,howW hn,zdw] (by simp) _ _ _ Wf.heap.size Wf (Rd.of_own HQ.out.row) (zl _) (by simp) HJ.out).mono ?_;rintro e Wz ⟨rfl,hbz⟩;go_wp2_with fail
    go_ret2
    exact ⟨by rw [HE.out];rfl,hb1.trans ((HQ.out.bel.trans (hbz.mono HQ.out.size)).mono (by omega))⟩
end
section
open Go.RowKit
def zbt:List (List UInt8)→Option (List Int)
 | []=>some []
 | l :: r=>match zb7 l,zbt r with
  | some a,some b=>some (a :: b)
  | _,_=>none
theorem zkg:∀ (L:List (List UInt8)) (N:List Int) (l:List UInt8) (v:Int),zbt L=some N→zb7 l=some v→zbt (L ++ [l])=some (N ++ [v])
 | [],N,l,v,h,hv=>by
  injection h with h;subst h;show (match zb7 l,zbt [] with
   | some a,some b=>some (a :: b)
   | _,_=>none)=_
  rw [hv];rfl
 | x :: L,N,l,v,h,hv=>by
  unfold zbt at h;split at h
  ·rename_i a b ha hb;injection h with h;subst h;have ih:=zkg L b l v hb hv;show (match zb7 x,zbt (L ++ [l]) with
    | some a,some b=>some (a :: b)
    | _,_=>none)=_
   rw [ha,ih];rfl
  ·cases h
theorem zip:∀ (L:List (List UInt8)) (l:List UInt8),l ∈ L→zb7 l=none→zbt L=none
 | x :: L,l,h,hv=>by
  unfold zbt;rcases List.mem_cons.1 h with rfl | h
  ·rw [hv]
  ·rw [zip L l h hv];split <;> simp_all
theorem zga (a b:List UInt8):((bs a).toList == (bs b).toList)=decide (a=b):=by
 rw [Lib.toList_data,Lib.toList_data,zcX,zcX,Bool.eq_iff_iff];simp
theorem zcY (a b:List UInt8):((bs a).toList == b)=decide (a=b):=by
 rw [Lib.toList_data,zcX,Bool.eq_iff_iff];simp
theorem zmT {l:List UInt8} {v:Int} (h:Lib.atoiAll l=.ok v):zb7 l=if Lib.itoa v=l then some v else none:=by unfold zb7;rw [h]
theorem zq4 {l:List UInt8} (h:∀ v,Lib.atoiAll l ≠ .ok v):zb7 l=none:=by
 unfold zb7;split
 ·rename_i v hv;exact absurd hv (h v)
 ·rfl
set_option maxHeartbeats 1000000 in
set_option maxRecDepth 100000 in
theorem zi6 (L:List (List UInt8)) (A:Option Addr) (n c B:Nat) (w:World) (hr:Rd w B 1 A n c (strs L)) (hB:B ≤ w.heap.size) (he:Env w) (hn:L.length ≤ 40000) (hl:∀ l ∈ L,l.length ≤ 281474976710656) :
  Calls Tryz.prog 46 #[.slice A n c] w fun e w'=>∃ v N,e=.returned (.tuple #[v,.bool (zbt L).isSome])∧N=(zbt L).getD []∧w'.ownsRow w.heap.size 3 1 v N.length (ints N)∧Below w.heap.size w w':=by
 have hlen:L.length=n:=by have:=hr.len;rw [zfJ] at this;omega
 have HR:=zi hr;have HE:=zi he;have HL:=zi hl;have HN:=zi hlen;have hn':n ≤ 40000:=by omega
 clear hr he hl hlen hn;go_enter Tryz.func46,Tryz.ntmps46
 go_wp2_with fail
 go_loopw [11,4] (fun vi v4 wr=>∃ (j:Nat) (N:List Int),j ≤ n∧vi=.int .i64 j∧Hid (zbt (L.take j)=some N)∧Hid (N.length=j)∧Hid (wr.ownsRow w.heap.size 3 1 v4 j (ints N))∧Below w.heap.size w wr) (fun vi _ _=>n - (intOf vi).toNat)
 case atStart=>exact ⟨0,[],by omega,rfl,zi rfl,zi rfl,zi (World.ownsRow_nil _ _ _ _),Below.refl _ _⟩
 case round =>
  obtain ⟨j,N,hj,rfl,HV,HNL,HO,hbr⟩:=hrel;have hsr:=hbr.size;by_cases hlt:j < n
  ·obtain ⟨x,hx⟩:∃ x,L[j]?=some x:=⟨_,List.getElem?_eq_getElem (by rw [HN.out];exact hlt)⟩;obtain ⟨b,o,rfl,hb,kx⟩:=(HR.out.below (hbr.mono hB)).one (zkD hx);have HX:=zi hx;have hxm:=zi (List.mem_of_getElem? hx);clear hx;go_wp2_with fail
   refine (zsp x (HL.out x hxm.out) _ (HE.out.next hbr)).mono ?_;rintro e w2 ⟨hat,hb2⟩;have hs2:=hb2.size;have hbr2:=hbr.trans (hb2.mono hsr);have HO2:=zi (zaf HO.out hb2 (zl _));clear HO hb2 kx;rcases hat with ⟨v,hv,rfl⟩ | ⟨hv,z,t,p,rfl⟩
   ·have hvb:=Lib.atoiAll_bounds hv;have HI:=zi (zjo v hvb w2 (HE.out.next hbr2));by_cases hw:Lib.itoa v=x
    ·have HNO:=zi ((zmT hv).trans (if_pos hw));have hc:((bs (Lib.itoa v)).toList == (bs x).toList)=true:=by rw [zga];exact decide_eq_true hw
     have HV2:=zi (show zbt (L.take (j + 1))=some (N ++ [v]) by rw [List.take_add_one,HX.out];exact zkg _ _ _ _ HV.out HNO.out);have HNL2:=zi (show (N ++ [v]).length=j + 1 by rw [List.length_append,HNL.out];rfl);clear hw hv;go_wp2_with (first
      | (go_at_call 38;refine HI.out.mono ?_;rintro e w3 ⟨rfl,hb3⟩;have HO3:=zi (zaf HO2.out hb3 (zl _)))
      | (at_builtin;refine zbe rfl _ _ _ rfl w.heap.size 3 1 8 zhw u4 j (ints N) rfl (World.ownsRow.alloc HO3.out _) (w3.heap.size + 1) (some ⟨w3.heap.size,0,none⟩) 1 1 (ints [v]) rfl (zer _ _ _ 1 rfl rfl _ rfl) (zhx [v]) (by unfold maxLen;omega) (by omega) (by have:=hb3.size;simp;omega) ?_;intro v5 w5 hown5 hbel5 hgr5 hat5))
     have HO5:=zi (show w5.ownsRow w.heap.size 3 1 v5 (j + 1) (ints (N ++ [v])) by rw [show ints (N ++ [v])=ints N ++ ints [v] by simp [ints]];exact hown5);have hb5:=(hbr2.trans (hb3.mono (by omega))).trans (((Below.refl w3.heap.size w3).alloc (zl _) (.cells #[.int .i64 v] 3)).mono (by have:=hb3.size;omega) |>.trans hbel5);go_roundw
     case rel=>exact ⟨j + 1,N ++ [v],by omega,by go_num,HV2,HNL2,HO5,hb5⟩
     case measure=>simp [intOf];omega
    ·have HNO:=zi (zip L x hxm.out ((zmT hv).trans (if_neg hw)));have hc:((bs (Lib.itoa v)).toList == (bs x).toList)=false:=by rw [zga];exact decide_eq_false hw
     clear hw hv;go_wp2_with (go_at_call 38;refine HI.out.mono ?_;rintro e w3 ⟨rfl,hb3⟩)
     go_ret2
     rw [HNO.out];exact ⟨_,[],rfl,rfl,World.ownsRow_nil _ _ _ _,hbr2.trans (hb3.mono (by omega))⟩
   ·have HNO:=zi (zip L x hxm.out (zq4 hv));clear hv;go_wp2_with fail
    go_ret2
    rw [HNO.out];exact ⟨_,[],rfl,rfl,World.ownsRow_nil _ _ _ _,hbr2⟩
  ·have hjn:j=n:=by omega
   have HNO:=zi (show zbt L=some N by have:=HV.out;rwa [hjn,List.take_of_length_le (by rw [HN.out];exact zl _)] at this);have HO2:=zi (show wr.ownsRow w.heap.size 3 1 u4 N.length (ints N) by rw [HNL.out];exact HO.out);clear hjn;go_wp2_with fail
   go_ret2
   rw [HNO.out];exact ⟨_,N,rfl,rfl,HO2.out,hbr⟩
end
section
def zds (ws:List (List UInt8)):Option Cm:=if ws.length=8∧ws[7]?=some zdw then zdp true (ws.take 7) else zdp false ws
theorem zpp {red:Bool} {ws:List (List UInt8)} (h:ws.length ≠ 7):zdp red ws=none:=by
 unfold zdp;split
 ·exact absurd rfl h
 ·rfl
theorem zi7 (red:Bool) (w0 w1 w2 w3 w4 w5 w6:List UInt8):zdp red [w0,w1,w2,w3,w4,w5,w6]=match zbt [w1,w2,w4,w5],zen w3 with
  | some [a,m,q,p],some s=>if zbO w6=0 then none else some ⟨3,a,m,0,⟨0,0,s,p,q⟩,zbO w6,red⟩
  | _,_=>none:=by
 unfold zdp;simp only [zbt];cases zb7 w1 <;> cases zb7 w2 <;> cases zb7 w4 <;> cases zb7 w5 <;> cases zen w3 <;> rfl
theorem zq5 {a b c d:List UInt8} {N:List Int} (h:zbt [a,b,c,d]=some N):∃ x y z t,N = [x,y,z,t]:=by
 simp only [zbt] at h;revert h
 cases zb7 a <;> cases zb7 b <;> cases zb7 c <;> cases zb7 d <;> intro h <;> first | (injection h with h;exact ⟨_,_,_,_,h.symm⟩) | cases h
theorem zpq {α:Type} {L:List α} (h:L.length=7):∃ a b c d e f g,L = [a,b,c,d,e,f,g]:=by
 match L,h with
 | [a,b,c,d,e,f,g],_=>exact ⟨a,b,c,d,e,f,g,rfl⟩
def hvOf (w:List UInt8) (j:Nat):Int:=if zbO w ≠ 0∧zbO w < j then zbO w else 0
theorem zgE (w:List UInt8):0 ≤ zbO w∧zbO w ≤ 4:=by
 by_cases h:zbO w=0
 ·omega
 ·have:=(zmj h).1;omega
theorem zlC (w:List UInt8):hvOf w 0=0:=by
 have:=zgE w;unfold hvOf;rw [if_neg (by omega)]
theorem zmU (w:List UInt8):hvOf w 5=zbO w:=by
 have:=zgE w;unfold hvOf;split <;> omega
theorem zmV {w:List UInt8} {j:Nat} (hj:1 ≤ j∧j ≤ 4) (h:howW j=w):hvOf w (j + 1)=j:=by
 have:zbO w=j:=by rw [← h];exact zjM (by omega)
 unfold hvOf;rw [this,if_pos (by omega)]
theorem ziE {w:List UInt8} {j:Nat} (h:j=0∨howW j ≠ w):hvOf w (j + 1)=hvOf w j:=by
 have h4:=zgE w;have hne:zbO w=0∨zbO w ≠ j:=by
  by_cases h0:zbO w=0
  ·exact .inl h0
  ·right;intro e;rcases h with h | h
   ·omega
   ·exact h (by rw [← e];exact (zmj h0).2)
 unfold hvOf;by_cases h1:zbO w ≠ 0∧zbO w < j
 ·rw [if_pos h1,if_pos (by omega)]
 ·rw [if_neg h1,if_neg (by omega)]
theorem zmW {j:Nat} (hj:1 ≤ j∧j ≤ 4):howW j ≠ []:=by
 obtain rfl | rfl | rfl | rfl:j=1∨j=2∨j=3∨j=4:=by omega
 all_goals decide
end
section
def kvOf (w:List UInt8) (j:Nat):Int:=if zat w ≠ 0∧zat w < j then zat w else 0
theorem ziq (w:List UInt8):0 ≤ zat w∧zat w ≤ 7:=by
 by_cases h:zat w=0
 ·omega
 ·have:=(zk7 h).1;omega
theorem zq6 (w:List UInt8):kvOf w 0=0:=by
 have:=ziq w;unfold kvOf;rw [if_neg (by omega)]
theorem zst (w:List UInt8):kvOf w 8=zat w:=by
 have:=ziq w;unfold kvOf;split <;> omega
theorem zsu {w:List UInt8} {j:Nat} (hj:1 ≤ j∧j ≤ 7) (h:za3 j=w):kvOf w (j + 1)=j:=by
 have:zat w=j:=by rw [← h];exact zie (by omega)
 unfold kvOf;rw [this,if_pos (by omega)]
theorem zod {w:List UInt8} {j:Nat} (h:j=0∨za3 j ≠ w):kvOf w (j + 1)=kvOf w j:=by
 have h4:=ziq w;have hne:zat w=0∨zat w ≠ j:=by
  by_cases h0:zat w=0
  ·exact .inl h0
  ·right;intro e;rcases h with h | h
   ·omega
   ·exact h (by rw [← e];exact (zk7 h0).2)
 unfold kvOf;by_cases h1:zat w ≠ 0∧zat w < j
 ·rw [if_pos h1,if_pos (by omega)]
 ·rw [if_neg h1,if_neg (by omega)]
theorem zq7 {j:Nat} (hj:1 ≤ j∧j ≤ 7):za3 j ≠ []:=by
 obtain rfl | rfl | rfl | rfl | rfl | rfl | rfl:j=1∨j=2∨j=3∨j=4∨j=5∨j=6∨j=7:=by omega
 all_goals decide
theorem zq8 {k:List UInt8} (r:List (List UInt8)) (h:zat k=0):zcG (k :: r)=none:=by
 unfold zcG;simp only [h];rfl
theorem zpr {k:List UInt8} (r:List (List UInt8)) (h:zat k=3):zcG (k :: r)=zds (k :: r):=by
 unfold zcG zds;simp only [h];rfl
theorem zps {k:List UInt8} (r:List (List UInt8)) (h:zat k=7):zcG (k :: r)=if r = [] then some { zbb with kind:=7 } else none:=by
 unfold zcG;simp only [h];rfl
def twoN (k:Int):Option (List Int)→Option Cm
 | some [a,n]=>some (if zdF k then { zbb with kind:=k,market:=a,n:=n } else { zbb with kind:=k,acc:=a,n:=n })
 | _=>none
theorem zsv (k:Int) {M:List Int} (h:M.length ≠ 2):twoN k (some M)=none:=by
 unfold twoN;split
 ·rename_i h1;injection h1 with h1;subst h1;exact absurd rfl h
 ·rfl
theorem zsw {α:Type} {L:List α} (h:L.length=2):∃ a b,L = [a,b]:=by
 match L,h with
 | [a,b],_=>exact ⟨a,b,rfl⟩
theorem zmX:∀ {L:List (List UInt8)} {N:List Int},zbt L=some N→N.length=L.length
 | [],N,h=>by simp only [zbt] at h;injection h with h;subst h;rfl
 | l :: L,N,h=>by
  simp only [zbt] at h;cases h1:zb7 l with
  | none=>rw [h1] at h;cases h
  | some a =>
   cases h2:zbt L with
   | none=>rw [h1,h2] at h;cases h
   | some M=>rw [h1,h2] at h;injection h with h;subst h;simp [zmX h2]
theorem zsy {k:List UInt8} (r:List (List UInt8)) (h0:zat k ≠ 0) (h3:zat k ≠ 3) (h7:zat k ≠ 7):zcG (k :: r)=twoN (zat k) (zbt r):=by
 unfold zcG;simp only [if_neg h0,if_neg h3,if_neg h7];match r with
 | []=>rfl
 | [a]=>unfold twoW;simp only [zbt];cases zb7 a <;> rfl
 | [a,b]=>unfold twoW;simp only [zbt];cases zb7 a <;> cases zb7 b <;> rfl
 | a :: b :: c :: r' =>
  unfold twoW;cases h:zbt (a :: b :: c :: r') with
  | none=>rfl
  | some N =>
   have:=zmX h;match N,this with
   | x :: y :: z :: N',_=>rfl
theorem zlD (c:UInt8):∀ l,(spl c l).length ≤ l.length + 1∧∀ x ∈ spl c l,x.length ≤ l.length
 | []=>by simp [spl]
 | a :: l=>by
  have ih:=zlD c l;have hne:=zib c l;simp only [spl];cases hs:spl c l with
  | nil=>exact absurd hs hne
  | cons y r =>
   rw [hs] at ih;obtain ⟨i1,i2⟩:=ih;have iy:=i2 y (by simp);split
   ·refine ⟨by simp at i1 ⊢;omega,fun x hx=>?_⟩;rcases List.mem_cons.1 hx with rfl | hx
    ·simp
    ·have:=i2 x hx;simp;omega
   ·refine ⟨by simp at i1 ⊢;omega,fun x hx=>?_⟩;rcases List.mem_cons.1 hx with rfl | hx
    ·simp;omega
    ·have:=i2 x (by simp [hx]);simp;omega
end
end Go.Proofs.YtockodmbhnlheaaGreatDoor
