import Derived.Test.YtockodmbhnlheaaGreatDoorTie
import Derived.Test.YtockodmbhnlheaaGreatDoorCards
import Derived.Lib.LaidU8
import Derived.Stop.LaidErr
import Derived.Stop.Joined
import Derived.LaidSub
import Derived.Shelf.Vars
import Derived.Handed
import Derived.HandedShaped
import Derived.Lay
import Derived.Handy
import Derived.Test.YtockodmbhnlheaaGreatDoorBU
import Derived.Test.YtockodmbhnlheaaGreatDoorBK
namespace Go.Proofs.YtockodmbhnlheaaGreatDoor
section
open Go.ChangeShapes Go.WideShapes Go.ChangeAt Go.RowKit
theorem zm0 {H:Type} {enc:TypeId × Value→H} {a:Assume} {C:Checked} {os:Os} {f:FuncId} {fn:Func} {s:ChangeSpec} {conds:List PathCond} {apart fresh handsOn again:Bool} {X:World→Array Value→Prop}
  (hX:∀ (w w':World) (args:Array Value),w.heap=w'.heap→X w args→X w' args)
  (own:ownKnob C.prog.godebug=none) (started:os.Started) (noInit:C.prog.inits.idxOf? f=none) (hfn:C.prog.funcs[f]?=some fn)
  (witness:∃ (w:World) (tape:Tape) (i:Input),w.os=os∧(w.forCall tape i).Shaped C.prog∧i.vars = []∧Input.okWide C.prog (w.forCall tape i) .any w.heap.size f i ∧
   ((s.pre enc C.prog fn conds apart (w.forCall tape i).memory i.args∧X (w.forCall tape i).memory i.args)∧sizedMet enc C.prog fn (OpenSpec.ofChange s) apart (w.forCall tape i).memory i.args)∧a.holds C.prog (lone (Frame.enter C.prog f i.args .normal) [] (w.forCall tape i)))
  (contract:∀ (W:World) (base:Nat) (args:Array Value) (ds gs:List (DataW H)) (before:List MemPlace),
   (∀ (j:Nat) t v,fn.params[j]?=some t→args[j]?=some v→Value.okWide C.prog W .any base t v) →
   DataW.Whole enc C.prog fn.params.toList s.vars apart W args.toList ds gs before →
   conds.all (PathCond.test C.prog ⟨fn.params.toList,ds,s.plain.varTypes C.prog,gs⟩)=true →
   (DataW.weightsEach C.prog (fn.params.toList ++ s.plain.varTypes C.prog) (ds ++ gs)).all (· ≤ reachBytes)=true→X W args→W.ShapedOpen C.prog →
   a.holds C.prog (lone (Frame.enter C.prog f args .normal) [] W) →
   Calls C.prog f args W fun e W'=>∃ v,e=.returned v∧s.post enc C.prog fn apart fresh handsOn again W args v W') :
  ReturnsInHanded a C os f .any (fun w args=>(s.pre enc C.prog fn conds apart w args∧X w args)∧sizedMet enc C.prog fn (OpenSpec.ofChange s) apart w args) (s.post enc C.prog fn apart fresh handsOn again):=by
 refine returnsInHanded_of_calls own started noInit witness ?_;intro w tape i _ hsh _ hok hpre hholds;obtain ⟨_,_,_,fn',hfn',_,_,_,_,hval⟩:=hok;have e:fn'=fn:=Option.some.inj (hfn'.symm.trans hfn);subst e;obtain ⟨⟨⟨ds,gs,before,hw,hc⟩,hx⟩,hz⟩:=hpre;have hw':=DataW.Whole.of_heap (w':=w.forCall tape i) (by rfl) hw;refine (contract (w.forCall tape i) w.heap.size i.args ds gs before hval hw' hc (hz.weights hw) (hX _ _ _ (by rfl) hx) hsh hholds).mono fun e W' ⟨v,he,hp⟩=>?_;subst he;exact ChangeSpec.post_blind hp
theorem zrc {P:Program} {w:World} {n:String} {g:Nat} {cs:Array Value} (hg:P.globalNamed n=some g) (h:w.var? P n=some cs):∃ t fr,w.heap[g]?=some (.cells cs t fr):=by
 unfold World.var? at h;rw [hg,Option.bind_some] at h;split at h
 ·rename_i c t fr e;injection h with h;subst h;exact ⟨t,fr,e⟩
 ·cases h
theorem zsz:(Rows.laid_internal_strconv_uint64pow10:DataW Unit)=Lib.tabData .u64 Lib.pow10Tab:=by kernel_rfl
theorem zsA (u:TypeId) (h:Tryz.prog.typeName? 3 u=some "*errors.errorString"):u=248 :=
 typeName_ptr_named (nm:="errors.errorString") (by as_aux_lemma=>kernel_rfl) (by as_aux_lemma=>kernel_rfl) (by as_aux_lemma=>decide) u h
set_option maxRecDepth 100000 in
theorem zi8 {n:String} {text:List UInt8} {g:Nat} {l:List (String × DataW Unit)} {W:World} (hL:laidMet Tryz.prog l W) (hm:l.filter (fun x=>x.1 == n) = [(n,.iface "*errors.errorString" (.ptr (.agg [.lit (.string text)])))])
  (hg:Tryz.prog.globalNamed n=some g) (ht:(Tryz.prog.globals[g]?).map (·.type)=some 121):∃ ev,W.cell? ⟨g,0,none⟩=some ev∧(ev=.nilIface∨∃ te pe,ev=.iface te pe):=by
 have h1:=hL.filter (fun x=>x.1 == n);rw [hm] at h1;obtain ⟨a,s,hv,-⟩:=laid_sentinel h1 hg ht Tryz.underlying121 zsA Tryz.underlying248 Tryz.underlying250 rfl rfl Tryz.underlying9 (by kernel_rfl) (by kernel_rfl);exact ⟨_,World.var?_cell hg hv 0,.inr ⟨_,_,rfl⟩⟩
set_option maxRecDepth 100000 in
theorem ztV {l:List (String × DataW Unit)} {W:World} (hL:laidMet Tryz.prog l W) (hS:W.ShapedOpen Tryz.prog)
  (h1:("internal/strconv.uint64pow10",Rows.laid_internal_strconv_uint64pow10) ∈ l)
  (h2:l.filter (fun x=>x.1 == "strconv.ErrSyntax") = [("strconv.ErrSyntax",Rows.laid_strconv_ErrSyntax)]) (h3:l.filter (fun x=>x.1 == "strconv.ErrRange") = [("strconv.ErrRange",Rows.laid_strconv_ErrRange)]):Env W:=by
 refine ⟨?_,zi8 hL h2 (by kernel_rfl) (by kernel_rfl),zi8 hL h3 (by kernel_rfl) (by kernel_rfl),?_,?_⟩
 ·obtain ⟨g,t,cs,fuel,p,hg,ht,hv,hd⟩:=Lib.laidMet.reads hL h1;obtain rfl:=Option.some.inj ((show Tryz.prog.globalNamed "internal/strconv.uint64pow10"=some 1 by kernel_rfl).symm.trans hg);obtain rfl:=Option.some.inj ((show (Tryz.prog.globals[1]?).map (·.type)=some 220 by kernel_rfl).symm.trans ht);rw [zsz] at hd;have hc:=Lib.cells_of_tab Tryz.underlying220 Tryz.underlying172 (by kernel_rfl) (by kernel_rfl) hd;obtain ⟨l0⟩:=cs;simp only at hc;subst hc;exact zrc hg hv
 ·exact cell_of_shapedOpen_int (zero:=#[.int .i64 0]) hS (of_decide_eq_true (by kernel_rfl)) (by kernel_rfl) (by kernel_rfl) (by kernel_rfl) (by kernel_rfl) Tryz.underlying3
 ·have h7:∃ n,8 ≤ n∧Tryz.prog.globals.size ≤ n∧n < (begin Tryz.prog (fun _ _=>0) default).world.heap.size:=by
   first
   | exact ⟨8,by decide,by decide +kernel,by decide +kernel⟩
   | exact ⟨15,by decide,by decide +kernel,by decide +kernel⟩
  obtain ⟨n,h8,hg,hn⟩:=h7;obtain ⟨o,_,h,_⟩:=hS.2 n hg hn;have:=(Array.getElem?_eq_some_iff.1 h).1;omega
section
variable {H:Type} {enc:TypeId × Value→H} {W:World}
end
end
section
open Go.RowKit
structure DkR (w:World) (B:Nat) (A A':Option Addr) (c c':Nat) (d:Dsk):Prop where
 s:Rd w B 1 A d.safe.length c (u8s d.safe)
 t:Rd w B 1 A' d.wait.length c' (u8s d.wait)
theorem DkR.below {w w':World} {B c c':Nat} {A A':Option Addr} {d:Dsk} (h:DkR w B A A' c c' d) (hb:Below B w w'):DkR w' B A A' c c' d:=⟨h.s.below hb,h.t.below hb⟩
theorem DkR.up {w:World} {B B' c c':Nat} {A A':Option Addr} {d:Dsk} (h:DkR w B A A' c c' d) (hB:B ≤ B'):DkR w B' A A' c c' d:=⟨h.s.up hB,h.t.up hB⟩
def OwnDk (w:World) (base:Nat) (v:Value) (d:Dsk):Prop:=∃ A c A' c',v=.agg #[.slice A d.safe.length c,.slice A' d.wait.length c']∧w.ownsRow base 5 1 (.slice A d.safe.length c) d.safe.length (u8s d.safe)∧w.ownsRow base 5 1 (.slice A' d.wait.length c') d.wait.length (u8s d.wait)
def zm1 (w:World) (r:Dsk × Int) (e:Ending) (w':World):Prop:=∃ v k,e=.returned (.tuple #[v,.int .i64 k])∧r.2=k∧OwnDk w' w.heap.size v r.1∧Below w.heap.size w w'
theorem zc1 (w:World) (base:Nat):OwnDk w base (.agg #[.slice none 0 0,.slice none 0 0]) zcq:=⟨none,0,none,0,rfl,World.ownsRow_nil _ _ _ _,World.ownsRow_nil _ _ _ _⟩
theorem zc6 {w:World} {g:Nat} {t:TypeId} {a b:Value} (h:Blk w g t #[a,b]):(w.cell? ⟨g,0,none⟩=some a∧w.cell? ⟨g,1,none⟩=some b)∧w.frozen? ⟨g,0,none⟩=false∧w.frozen? ⟨g,1,none⟩=false:=⟨⟨h.cell 0,h.cell 1⟩,h.frozen 0,h.frozen 1⟩
theorem zeb {w W:World} {g:Nat} {t:TypeId} {c0 c1:Value} (h:Blk W g t #[c0,c1]) (hb:Below w.heap.size w W) (hg:w.heap.size ≤ g) (a0 a1:Value) :
  Blk ((W.setCell ⟨g,0,none⟩ a0).setCell ⟨g,1,none⟩ a1) g t #[a0,a1]∧Below w.heap.size w ((W.setCell ⟨g,0,none⟩ a0).setCell ⟨g,1,none⟩ a1):=by
 constructor
 ·have h1:=((h.set_ 0 a0).set_ 1 a1);simp only [List.setIfInBounds_toArray,List.set_cons_zero,List.set_cons_succ] at h1;exact h1
 ·iterate 2 (refine Below.setCell ?_ hg _)
  exact hb
theorem zdd {W:World} {base g n:Nat} {v:Value} {xs:List Value} (h:W.ownsRow base 5 1 v n xs) (hg:v.ownBlock ≠ some g) (a0 a1:Value):((W.setCell ⟨g,0,none⟩ a0).setCell ⟨g,1,none⟩ a1).ownsRow base 5 1 v n xs :=
 zd9 (zd9 h hg a0) hg a1
set_option maxHeartbeats 1000000 in
set_option maxRecDepth 100000 in
theorem zeh (d:Dsk) (A A':Option Addr) (c c' B:Nat) (w:World) (h:DkR w B A A' c c' d) (hB:B ≤ w.heap.size) (he:Env w) :
  Calls Tryz.prog 12 #[.agg #[.slice A d.safe.length c,.slice A' d.wait.length c']] w fun e w'=>e=.returned (.int .i64 (dErr d))∧Below w.heap.size w w':=by
 have HE:=zi he;have HR:=zi h;have hcap:=h.s.cap;have hle:=h.s.le;have hcap':=h.t.cap;have hle':=h.t.le;simp only [maxLen] at hcap hcap';have HD:=zi (show dErr d=if 20000 < d.safe.length∨20000 - (d.safe.length:Int) < d.wait.length then 2 else (zb0 d.safe).2 from rfl);clear he h;go_enter Tryz.func12,Tryz.ntmps12
 go_upto_region 1 with (fail)
 refine zaQ ?_;intro w1 hw1;have X1:Blk w1 w.heap.size 30 #[.slice A d.safe.length c,.slice A' d.wait.length c']:=by rw [hw1];exact Blk.new w _ _
 have HB1:Hid (Below w.heap.size w w1):=by rw [hw1];exact zi ((Below.refl _ _).alloc (zl _) _)
 clear hw1;have hconv:=zeI (HR.out.s.below (HB1.out.mono hB));obtain ⟨k0,k1⟩:=zaV X1;by_cases h1:20000 < d.safe.length
 ·have HZ:=zi (HD.out.trans (if_pos (.inl h1)));clear HD hconv;go_wp2_with fail
  go_ret;exact ⟨zd3 HZ.out.symm,HB1.out⟩
 ·by_cases h2:20000 - (d.safe.length:Int) < d.wait.length
  ·have HZ:=zi (HD.out.trans (if_pos (.inr h2)));clear HD hconv;go_wp2_with fail
   go_ret;exact ⟨zd3 HZ.out.symm,HB1.out⟩
  ·have HZ:=zi (HD.out.trans (if_neg (by rintro (h | h) <;> omega)));clear HD;go_wp2_with fail
   refine (zmZ d.safe (by omega) w1 (HE.out.next HB1.out)).mono ?_;rintro e w2 ⟨v,L,k,rfl,hk,-,hb2⟩;have HK:=zi hk;have HB2:=zi (HB1.out.trans (hb2.mono HB1.out.size));clear hb2 hk hconv;go_wp2_with fail
   go_ret;exact ⟨zd3 (by rw [HZ.out,HK.out]),HB2.out⟩
theorem zis {n n':Nat} (d:Dsk) (A A':Option Addr) (c c' B:Nat) (w:World) (h:DkR w B A A' c c' d) (hB:B ≤ w.heap.size) (he:Env w) (hn:d.safe.length=n) (hn':d.wait.length=n') :
  Calls Tryz.prog 12 #[.agg #[.slice A n c,.slice A' n' c']] w fun e w'=>e=.returned (.int .i64 (dErr d))∧Below w.heap.size w w':=by
 subst hn hn';exact zeh d A A' c c' B w h hB he
theorem zfM {w:World} {base n n':Nat} {A A':Option Addr} {c c':Nat} {s t:List UInt8} (h:w.ownsRow base 5 1 (.slice A n c) n (u8s s)) (h':w.ownsRow base 5 1 (.slice A' n' c') n' (u8s t)):OwnDk w base (.agg #[.slice A n c,.slice A' n' c']) ⟨s,t⟩:=by
 have e:n=s.length:=by have:=h.1;simpa [u8s] using this.symm
 have e':n'=t.length:=by have:=h'.1;simpa [u8s] using this.symm
 subst e e';exact ⟨A,c,A',c',rfl,h,h'⟩
set_option maxHeartbeats 1000000 in
set_option maxRecDepth 100000 in
theorem zm2 (d f:Dsk) (A A' E E':Option Addr) (c c' k k' B B':Nat) (w:World) (h:DkR w B A A' c c' d) (g:DkR w B' E E' k k' f) (hB:B ≤ w.heap.size) (hB':B' ≤ w.heap.size) :
  Calls Tryz.prog 11 #[.agg #[.slice A d.safe.length c,.slice A' d.wait.length c'],.agg #[.slice E f.safe.length k,.slice E' f.wait.length k']] w fun e w'=>e=.returned (.bool (zgr d f))∧Below w.heap.size w w':=by
 have HR:=zi h;have HG:=zi g;have HS:=zi (show zgr d f=(eqU d.safe f.safe && eqU d.wait f.wait) by unfold zgr eqU;rw [Bool.eq_iff_iff];simp);clear h g;go_enter Tryz.func11,Tryz.ntmps11
 go_upto_region 1 with (fail)
 refine zaQ ?_;intro w1 hw1;have X1:Blk w1 w.heap.size 30 #[.slice A d.safe.length c,.slice A' d.wait.length c']:=by rw [hw1];exact (Blk.new w _ _).alloc _
 have X2:Blk w1 (w.heap.size + 1) 30 #[.slice E f.safe.length k,.slice E' f.wait.length k']:=by rw [hw1];have:=Blk.new (w.alloc (.cells #[.slice A d.safe.length c,.slice A' d.wait.length c'] 30)) 30 #[.slice E f.safe.length k,.slice E' f.wait.length k'];simpa using this
 have HB1:Hid (Below w.heap.size w w1):=by rw [hw1];exact zi (((Below.refl _ _).alloc (zl _) _).alloc (by simp) _)
 clear hw1;obtain ⟨k0,k1⟩:=zaV X1;obtain ⟨l0,l1⟩:=zaV X2;go_wp2_with fail
 refine (zmY A E d.safe.length c f.safe.length k d.safe f.safe B B' w1 (HR.out.s.below (HB1.out.mono hB)) (HG.out.s.below (HB1.out.mono hB'))).mono ?_;rintro e w2 ⟨rfl,q,rfl⟩;have HB2:=zi (zac HB1.out q);rcases zmS (eqU d.safe f.safe) with hp | hp
 ·have HS1:=zi (show zgr d f=eqU d.wait f.wait by rw [HS.out,hp];rfl);rw [hp];clear hp HS;go_wp2_with fail
  refine (zmY A' E' d.wait.length c' f.wait.length k' d.wait f.wait B B' (w1.drewN q) (HR.out.t.below (HB2.out.mono hB)) (HG.out.t.below (HB2.out.mono hB'))).mono ?_;rintro e w3 ⟨rfl,q',rfl⟩;have HB3:=zi (zac HB2.out q');go_wp2_with fail
  go_ret;exact ⟨zbl (by rw [HS1.out]),(World.drewN_drewN w1 q q') ▸ HB3.out⟩
 ·have HS1:=zi (show zgr d f=false by rw [HS.out,hp];rfl);rw [hp];clear hp HS;go_wp2_with fail
  go_ret;exact ⟨zbl (by rw [HS1.out]),HB2.out⟩
set_option maxHeartbeats 2000000 in
set_option maxRecDepth 100000 in
theorem zm3 (d:Dsk) (A A':Option Addr) (c c' B:Nat) (w:World) (h:DkR w B A A' c c' d) (hB:B ≤ w.heap.size) (he:Env w) :
  Calls Tryz.prog 6 #[.agg #[.slice A d.safe.length c,.slice A' d.wait.length c']] w (zm1 w (zgT d)):=by
 have HE:=zi he;have HR:=zi h;have HD:=zi (show zgT d=if dErr d ≠ 0 then (zcq,dErr d) else if dErr ⟨d.safe ++ d.wait,[]⟩ ≠ 0 then (zcq,dErr ⟨d.safe ++ d.wait,[]⟩) else (⟨d.safe ++ d.wait,[]⟩,0) from rfl);have HOK:=zi (fun hz=>(zfI (d:=d)).1 hz);clear he h;go_enter Tryz.func6,Tryz.ntmps6
 go_upto_region 1 with (fail)
 refine zaQ ?_;intro w1 hw1;have X1:Blk w1 w.heap.size 30 #[.slice A d.safe.length c,.slice A' d.wait.length c']:=by rw [hw1];exact (Blk.new w _ _).alloc _
 have X2:Blk w1 (w.heap.size + 1) 30 #[.slice none 0 0,.slice none 0 0]:=by rw [hw1];have:=Blk.new (w.alloc (.cells #[.slice A d.safe.length c,.slice A' d.wait.length c'] 30)) 30 #[.slice none 0 0,.slice none 0 0];simpa using this
 have HB1:Hid (Below w.heap.size w w1):=by rw [hw1];exact zi (((Below.refl _ _).alloc (zl _) _).alloc (by simp) _)
 clear hw1;obtain ⟨k0,k1⟩:=zaV X1;go_wp2_with fail
 refine (zeh d A A' c c' B w1 (HR.out.below (HB1.out.mono hB)) (Nat.le_trans hB HB1.out.size) (HE.out.next HB1.out)).mono ?_;rintro e w2 ⟨rfl,hb2⟩;clear k0 k1;replace X1:=X1.below hb2 X1.lt;replace X2:=X2.below hb2 X2.lt;have HB2:=zi (HB1.out.trans (hb2.mono HB1.out.size));clear hb2 HB1;obtain ⟨k0,k1⟩:=zaV X1;obtain ⟨⟨m0,m1⟩,f0,f1⟩:=zc6 X2;by_cases h0:dErr d=0
 rotate_left
 ·have HZ:=zi (HD.out.trans (if_pos h0));have d0:(dErr d != 0)=true:=by simpa using h0
  clear HD HOK h0;generalize dErr d=k at HZ d0;go_wp2_with fail
  refine zaA ?_;intro Z hZ;obtain ⟨XZ,hbZ⟩:=zeb X2 HB2.out (Nat.le_succ _) (.slice none 0 0) (.slice none 0 0);rw [← hZ] at XZ hbZ;clear hZ m0 m1 f0 f1;obtain ⟨z0,z1⟩:=zaV XZ;refine bodyPost_ret (v:=.tuple #[.agg #[.slice none 0 0,.slice none 0 0],.int .i64 k]) (by simp [results,Tryz.results6,go_sem, *]) rfl ?_;exact ⟨_,k,rfl,by rw [HZ.out],by rw [HZ.out];exact zc1 _ _,hbZ⟩
 have HZ:=zi (HD.out.trans (if_neg (by omega)));obtain ⟨hlen,-⟩:=HOK.out h0;rw [h0];clear HD HOK h0;go_upto_region 4 with (fail)
 have hx1:=X1.lt;have hx2:=X2.lt;go_wp2_with fail
 refine zcK ?_;intro w3 hw3;have hb3:Below w2.heap.size w2 w3:=by rw [hw3];exact (Below.refl _ _).alloc (zl _) _
 have Y3:Blk w3 w2.heap.size 28 #[.slice A d.safe.length c,.slice A' d.wait.length c']:=by rw [hw3];exact Blk.new w2 _ _
 clear hw3 k0 k1 m0 m1 f0 f1;have HB3:=zi (HB2.out.trans (hb3.mono HB2.out.size));replace X2:=X2.below hb3 hx2;have hs3:=HB3.out.size;obtain ⟨k0,k1⟩:=zaV Y3;refine (zrb A A' d.safe.length c d.wait.length c' d.safe d.wait B w3 (HR.out.s.below (HB3.out.mono hB)) (HR.out.t.below (HB3.out.mono hB)) (Nat.le_trans hB hs3) w2.heap.size Y3.lt k0 k1 (by omega)).mono ?_;rintro e w4 ⟨v,rfl,hown,hb4⟩;obtain ⟨A2,c2,rfl⟩:=zad hown;have HO4:=zi hown;have HB4:=zi (HB3.out.trans (hb4.mono hs3));have hx2':=X2.lt;replace X2:=X2.below hb4 X2.lt;have hs4:=HB4.out.size;have hs4':=hb4.size;clear hown hb4 hb3 Y3 k0 k1 HB3 HB2 X1;go_upto_region 5 with (fail)
 refine zaQ ?_;intro w5 hw5;have X5:Blk w5 w4.heap.size 30 #[.slice A2 (d.safe.length + d.wait.length) c2,.slice none 0 0]:=by rw [hw5];exact Blk.new w4 _ _
 have HB5:Hid (Below w.heap.size w w5):=by rw [hw5];exact zi (HB4.out.alloc hs4 _)
 have HO5:Hid (w5.ownsRow w3.heap.size 5 1 (.slice A2 (d.safe.length + d.wait.length) c2) (d.safe.length + d.wait.length) (u8s (d.safe ++ d.wait))):=by rw [hw5];exact zi (World.ownsRow.alloc HO4.out _)
 have X6:Blk w5 (w.heap.size + 1) 30 #[.slice none 0 0,.slice none 0 0]:=by rw [hw5];exact X2.alloc _
 clear hw5 HB4 HO4 X2;obtain ⟨k0,k1⟩:=zaV X5;have hx5:=X5.lt;go_wp2_with fail
 refine (zis ⟨d.safe ++ d.wait,[]⟩ A2 none c2 0 w5.heap.size w5 ⟨by have:=Rd.of_own HO5.out;rwa [← List.length_append] at this,Rd.none_ _ _ _⟩ (zl _) (HE.out.next HB5.out) (List.length_append ..) rfl).mono ?_;rintro e w6 ⟨rfl,hb6⟩;have HB6:=zi (HB5.out.trans (hb6.mono HB5.out.size));have HO6:=zi (zaf HO5.out hb6 (zl _));clear k0 k1;replace X5:=X5.below hb6 X5.lt;replace X6:=X6.below hb6 X6.lt;clear hb6 HB5 HO5;obtain ⟨k0,k1⟩:=zaV X5;obtain ⟨⟨m0,m1⟩,f0,f1⟩:=zc6 X6;by_cases h0:dErr ⟨d.safe ++ d.wait,[]⟩=0
 rotate_left
 ·have HZ2:=zi (HZ.out.trans (if_pos h0));have d0:(dErr ⟨d.safe ++ d.wait,[]⟩ != 0)=true:=by simpa using h0
  clear HZ h0;generalize dErr ⟨d.safe ++ d.wait,[]⟩=k at HZ2 d0;go_wp2_with fail
  refine zaA ?_;intro Z hZ;obtain ⟨XZ,hbZ⟩:=zeb X6 HB6.out (Nat.le_succ _) (.slice none 0 0) (.slice none 0 0);rw [← hZ] at XZ hbZ;clear hZ m0 m1 f0 f1;obtain ⟨z0,z1⟩:=zaV XZ;refine bodyPost_ret (v:=.tuple #[.agg #[.slice none 0 0,.slice none 0 0],.int .i64 k]) (by simp [results,Tryz.results6,go_sem, *]) rfl ?_;exact ⟨_,k,rfl,by rw [HZ2.out],by rw [HZ2.out];exact zc1 _ _,hbZ⟩
 have HZ2:=zi (HZ.out.trans (if_neg (by omega)));rw [h0];clear HZ h0;have hx6:=X6.lt;go_wp2_with fail
 refine zaA ?_;intro Z hZ;obtain ⟨XZ,hbZ⟩:=zeb X6 HB6.out (Nat.le_succ _) (.slice A2 (d.safe.length + d.wait.length) c2) (.slice none 0 0);have HOZ:=zdd (g:=w.heap.size + 1) HO6.out (fun e=>by have:=(World.ownsRow.lt HO6.out _ e).1;omega) (.slice A2 (d.safe.length + d.wait.length) c2) (.slice none 0 0);rw [← hZ] at XZ hbZ HOZ;clear hZ m0 m1 f0 f1 k0 k1;obtain ⟨z0,z1⟩:=zaV XZ;refine bodyPost_ret (v:=.tuple #[.agg #[.slice A2 (d.safe.length + d.wait.length) c2,.slice none 0 0],.int .i64 0]) (by simp [results,Tryz.results6,go_sem, *]) rfl ?_;exact ⟨_,0,rfl,by rw [HZ2.out],by rw [HZ2.out];exact zfM (zae HOZ hs3) (World.ownsRow_nil _ _ _ _),hbZ⟩
end
section
open Go.RowKit
theorem zsB (l:List UInt8) (m:Nat):(u8s l).take (m * 1)=u8s (l.take m):=by simp [u8s,List.map_take]
theorem zfV {w0 W W':World} (hb:Below W.heap.size W W') (h:Below w0.heap.size w0 W):Below w0.heap.size w0 W':=h.trans (hb.mono h.size)
set_option maxHeartbeats 2000000 in
set_option maxRecDepth 100000 in
theorem zlG (d:Dsk) (n:Int) (A A':Option Addr) (c c' B:Nat) (w:World) (h:DkR w B A A' c c' d) (hB:B ≤ w.heap.size) (he:Env w) :
  Calls Tryz.prog 7 #[.agg #[.slice A d.safe.length c,.slice A' d.wait.length c'],.int .i64 n] w (zm1 w (zho d n)):=by
 have HE:=zi he;have HR:=zi h;have HD:=zi (show zho d n=if dErr d ≠ 0 then (zcq,dErr d) else if n < 0∨(d.wait.length:Int) < n then (zcq,3) else (⟨d.safe,d.wait.take n.toNat⟩,0) from rfl);have HOK:=zi (fun hz=>(zfI (d:=d)).1 hz);have hcap:=h.s.cap;have hle:=h.s.le;have hcap':=h.t.cap;have hle':=h.t.le;simp only [maxLen] at hcap hcap';clear he h;go_enter Tryz.func7,Tryz.ntmps7
 go_upto_region 1 with (fail)
 refine zaQ ?_;intro w1 hw1;have X1:Blk w1 w.heap.size 30 #[.slice A d.safe.length c,.slice A' d.wait.length c']:=by rw [hw1];exact (Blk.new w _ _).alloc _
 have X2:Blk w1 (w.heap.size + 1) 30 #[.slice none 0 0,.slice none 0 0]:=by rw [hw1];have:=Blk.new (w.alloc (.cells #[.slice A d.safe.length c,.slice A' d.wait.length c'] 30)) 30 #[.slice none 0 0,.slice none 0 0];simpa using this
 have HB1:Hid (Below w.heap.size w w1):=by rw [hw1];exact zi (((Below.refl _ _).alloc (zl _) _).alloc (by simp) _)
 clear hw1;obtain ⟨k0,k1⟩:=zaV X1;go_wp2_with fail
 refine (zeh d A A' c c' B w1 (HR.out.below (HB1.out.mono hB)) (Nat.le_trans hB HB1.out.size) (HE.out.next HB1.out)).mono ?_;rintro e w2 ⟨rfl,hb2⟩;clear k0 k1;replace X1:=X1.below hb2 X1.lt;replace X2:=X2.below hb2 X2.lt;have HB2:=zi (HB1.out.trans (hb2.mono HB1.out.size));clear hb2 HB1;have hs2:=HB2.out.size;obtain ⟨k0,k1⟩:=zaV X1;obtain ⟨⟨m0,m1⟩,f0,f1⟩:=zc6 X2;have hx1:=X1.lt;have hx2:=X2.lt;by_cases h0:dErr d=0
 rotate_left
 ·have HZ:=zi (HD.out.trans (if_pos h0));have d0:(dErr d != 0)=true:=by simpa using h0
  clear HD HOK h0;generalize dErr d=k at HZ d0;go_wp2_with fail
  refine zaA ?_;intro Z hZ;obtain ⟨XZ,hbZ⟩:=zeb X2 HB2.out (Nat.le_succ _) (.slice none 0 0) (.slice none 0 0);rw [← hZ] at XZ hbZ;clear hZ m0 m1 f0 f1;obtain ⟨z0,z1⟩:=zaV XZ;refine bodyPost_ret (v:=.tuple #[.agg #[.slice none 0 0,.slice none 0 0],.int .i64 k]) (by simp [results,Tryz.results7,go_sem, *]) rfl ?_;exact ⟨_,k,rfl,by rw [HZ.out],by rw [HZ.out];exact zc1 _ _,hbZ⟩
 have HZ:=zi (HD.out.trans (if_neg (by omega)));obtain ⟨hlen,-⟩:=HOK.out h0;rw [h0];clear HD HOK h0;by_cases h1:n < 0
 ·have HZ2:=zi (HZ.out.trans (if_pos (.inl h1)));clear HZ;go_wp2_with fail
  refine zaA ?_;intro Z hZ;obtain ⟨XZ,hbZ⟩:=zeb X2 HB2.out (Nat.le_succ _) (.slice none 0 0) (.slice none 0 0);rw [← hZ] at XZ hbZ;clear hZ m0 m1 f0 f1;obtain ⟨z0,z1⟩:=zaV XZ;refine bodyPost_ret (v:=.tuple #[.agg #[.slice none 0 0,.slice none 0 0],.int .i64 3]) (by simp [results,Tryz.results7,go_sem, *]) rfl ?_;exact ⟨_,3,rfl,by rw [HZ2.out],by rw [HZ2.out];exact zc1 _ _,hbZ⟩
 by_cases h2:(d.wait.length:Int) < n
 ·have HZ2:=zi (HZ.out.trans (if_pos (.inr h2)));clear HZ;go_wp2_with fail
  refine zaA ?_;intro Z hZ;obtain ⟨XZ,hbZ⟩:=zeb X2 HB2.out (Nat.le_succ _) (.slice none 0 0) (.slice none 0 0);rw [← hZ] at XZ hbZ;clear hZ m0 m1 f0 f1;obtain ⟨z0,z1⟩:=zaV XZ;refine bodyPost_ret (v:=.tuple #[.agg #[.slice none 0 0,.slice none 0 0],.int .i64 3]) (by simp [results,Tryz.results7,go_sem, *]) rfl ?_;exact ⟨_,3,rfl,by rw [HZ2.out],by rw [HZ2.out];exact zc1 _ _,hbZ⟩
 obtain ⟨m,rfl⟩:∃ m:Nat,n=m:=⟨n.toNat,by omega⟩;have HZ2:=zi (HZ.out.trans (if_neg (by omega)));rw [Int.toNat_natCast] at HZ2;clear HZ h1;obtain ⟨A3,hcut,hrd⟩:=zsG zeR (HR.out.t.below (HB2.out.mono hB)) m (by omega);rw [zsB] at hrd;have HRT:=zi hrd;have HRS:=zi (HR.out.s.below (HB2.out.mono hB));have hB2:B ≤ w2.heap.size:=by omega
 have KS:Hid (∀ W,Below w2.heap.size w2 W→Below w2.heap.size w2 W∧(W.cell? ⟨w.heap.size,0,none⟩=some (.slice A d.safe.length c)∧W.cell? ⟨w.heap.size,1,none⟩=some (.slice A' d.wait.length c'))):=zi fun W hW=>⟨hW,zaV (X1.below hW hx1)⟩;have KB:Hid (∀ W,Below w2.heap.size w2 W→((W.cell? ⟨w.heap.size + 1,0,none⟩=some (.slice none 0 0)∧W.cell? ⟨w.heap.size + 1,1,none⟩=some (.slice none 0 0))∧W.frozen? ⟨w.heap.size + 1,0,none⟩=false∧W.frozen? ⟨w.heap.size + 1,1,none⟩=false)):=zi fun W hW=>zc6 (X2.below hW hx2);have h22:Below w2.heap.size w2 w2:=Below.refl _ _;have HXA:=zi (fun W hW=>X2.below (w1:=W) hW hx2);clear X1 X2 m0 m1 f0 f1 hrd HR;go_upto_region 6 with (fail)
 clear k0 k1;have KT:Hid (∀ W v v',Below w2.heap.size w2 W→Below w2.heap.size w2 W∧((W.setCell ⟨w.heap.size + 1,0,none⟩ v).setCell ⟨w.heap.size + 1,1,none⟩ v').cell? ⟨w.heap.size,0,none⟩=some (.slice A d.safe.length c)∧((W.setCell ⟨w.heap.size + 1,0,none⟩ v).setCell ⟨w.heap.size + 1,1,none⟩ v').cell? ⟨w.heap.size,1,none⟩=some (.slice A' d.wait.length c')):=by
  refine zi fun W v v' hW=>?_;obtain ⟨-,h1,h2⟩:=KS.out W hW;exact ⟨hW,by simp [go_sem,h1],by simp [go_sem,h2]⟩
 go_wp2_with fail
 go_region_held3 (fun W=>W.cell? ⟨w.heap.size,0,none⟩=some (.slice A d.safe.length c)∧W.cell? ⟨w.heap.size,1,none⟩=some (.slice A' d.wait.length c'))
  (first | (exact (KS.out _ (by assumption)).2) | (exact (KS.out _ (zai (by assumption))).2) | (exact (KT.out _ _ _ (by assumption)).2))
  ((first
   | (go_at_call 21;go_split_ands;(with_reducible refine (zgF A d.safe.length c d.safe B _ (HRS.out.below (Below.mono (by first | assumption | exact zai (by assumption)) hB2)) (Nat.le_trans hB2 (Below.size (w:=w2) (by first | assumption | exact zai (by assumption)))) (by omega)).mono ?_);rintro e W' ⟨v,rfl,hown,hb⟩;obtain ⟨Ax,cx,rfl⟩:=zad hown;have hBX:=zfV (w0:=w2) hb (by first | assumption | exact zai (by assumption));have hB3:=KB.out _ hBX)
   | (go_at_call 21;go_split_ands;(with_reducible refine (zgF A3 m c' (d.wait.take m) B _ (HRT.out.below (Below.mono (by first | assumption | exact zai (by assumption)) hB2)) (Nat.le_trans hB2 (Below.size (w:=w2) (by first | assumption | exact zai (by assumption)))) (by omega)).mono ?_);rintro e W' ⟨v,rfl,hown,hb⟩;obtain ⟨Ax,cx,rfl⟩:=zad hown;have hBX:=zfV (w0:=w2) hb (by first | assumption | exact zai (by assumption));have hB3:=KB.out _ hBX)))
 rename_i W1 hb1 Ax1 cx1 hown1 hBX1 _ _ _ _ _ _ _;have HB3:=zi (HB2.out.trans (hBX.mono hs2));have e2:w2.drew.heap.size=w2.heap.size:=by simp
 have l1:=hBX1.size;have O1:W'.ownsRow w2.heap.size 5 1 (.slice Ax1 d.safe.length cx1) d.safe.length (u8s d.safe):=zae (zaf hown1 hb (zl _)) (by omega);have O2:W'.ownsRow w2.heap.size 5 1 (.slice Ax m cx) m (u8s (d.wait.take m)):=zae hown (by omega);have HP1:=zi (zdd (g:=w.heap.size + 1) O1 (fun e=>by have:=(World.ownsRow.lt O1 _ e).1;omega) (.slice Ax1 d.safe.length cx1) (.slice Ax m cx));have HP2:=zi (zdd (g:=w.heap.size + 1) O2 (fun e=>by have:=(World.ownsRow.lt O2 _ e).1;omega) (.slice Ax1 d.safe.length cx1) (.slice Ax m cx));have XW:=HXA.out W' hBX;clear O1 O2 hown1 hown hb hb1 hBX1 hBX hB3 hcut KT KS KB HRS HRT;go_wp2_with fail
 refine zaA ?_;intro Z hZ;obtain ⟨XZ,hbZ⟩:=zeb XW HB3.out (Nat.le_succ _) (.slice Ax1 d.safe.length cx1) (.slice Ax m cx);have HOZ:=HP1.out;have HOZ2:=HP2.out;rw [← hZ] at XZ hbZ HOZ HOZ2;clear hZ;obtain ⟨z0,z1⟩:=zaV XZ;refine bodyPost_ret (v:=.tuple #[.agg #[.slice Ax1 d.safe.length cx1,.slice Ax m cx],.int .i64 0]) (by simp [results,Tryz.results7,go_sem, *]) rfl ?_;exact ⟨_,0,rfl,by rw [HZ2.out],by rw [HZ2.out];exact zfM (zae HOZ (by omega)) (zae HOZ2 (by omega)),hbZ⟩
end
section
open Go.RowKit
theorem zki:∀ {L:List Cm} {i:Nat} {a:Cm},L[i]?=some a→∀ j u,(zaU [a])[j]?=some u→(zaU L)[i * 11 + j]?=some u
 | [],i,a,h,_,_,_=>by simp at h
 | o :: l,0,a,h,j,u,hj=>by
  simp only [List.getElem?_cons_zero,Option.some.injEq] at h;subst h;have hlt:j < 11:=by have:=(List.getElem?_eq_some_iff.1 hj).1;simpa [zaU] using this
  rw [show zaU (o :: l)=zaU [o] ++ zaU l from zeZ l [o],List.getElem?_append_left (by rw [zeY];simp;omega)];rw [Nat.zero_mul,Nat.zero_add];exact hj
 | o :: l,i + 1,a,h,j,u,hj=>by
  have h':l[i]?=some a:=by simpa using h
  have ih:=zki h' j u hj;rw [show zaU (o :: l)=zaU [o] ++ zaU l from zeZ l [o],List.getElem?_append_right (by rw [zeY];simp;omega)];rw [zeY,← ih];congr 1;simp;omega
theorem zm4 {w:World} {B n c:Nat} {A:Option Addr} {L:List Cm} (h:Rd w B 11 A n c (zaU L)):RdL shCm w B A n c L:=by
 have hl:=h.len;rw [zeY] at hl;refine ⟨by omega,h.le,h.cap,h.nil,fun hn=>?_⟩;obtain ⟨b,o,e,hb,hc⟩:=h.at_ hn;refine ⟨b,o,e,hb,fun i a ha=>?_⟩;have g:∀ j u,(zaU [a])[j]?=some u→w.cell? ⟨b,o + i * 11 + j,none⟩=some u:=fun j u hj=>by rw [Nat.add_assoc];exact hc _ _ (zki ha j u hj)
 exact ⟨g 0 _ rfl,g 1 _ rfl,g 2 _ rfl,g 3 _ rfl,g 4 _ rfl,g 5 _ rfl,g 6 _ rfl,g 7 _ rfl,g 8 _ rfl,g 9 _ rfl,g 10 _ rfl⟩
instance:DecidableEq Cm:=fun _ _=>decidable_of_iff _ zhJ
theorem znI {L M:List Cm} (h:L.length ≠ M.length):L ≠ M:=fun e=>h (by rw [e])
theorem zpw {L M:List Cm} {j:Nat} {x y:Cm} (hx:L[j]?=some x) (hy:M[j]?=some y) (h:eqCm x y=false):L ≠ M:=by
 intro e;subst e;rw [hx] at hy;injection hy with hy;rw [zhJ.2 hy] at h;cases h
theorem zpx {L M:List Cm} {j:Nat} {x y:Cm} (hx:L[j]?=some x) (hy:M[j]?=some y) (h:eqCm x y=true) (ht:L.take j=M.take j):L.take (j + 1)=M.take (j + 1):=by
 rw [List.take_add_one,List.take_add_one,hx,hy,ht,zhJ.1 h]
set_option maxHeartbeats 2000000 in
set_option maxRecDepth 100000 in
theorem zlH (A A':Option Addr) (n c n' c':Nat) (L M:List Cm) (B B':Nat) (w:World) (h:RdL shCm w B A n c L) (h':RdL shCm w B' A' n' c' M) (hB:B ≤ w.heap.size) (hB':B' ≤ w.heap.size) (b:Bool) (hb:b=decide (L=M)) :
  Calls Tryz.prog 10 #[.slice A n c,.slice A' n' c'] w fun e w'=>e=.returned (.bool b)∧Below w.heap.size w w':=by
 have hle:=h.le;have hcap:=h.cap;have hle':=h'.le;have hcap':=h'.cap;have HL:=zi h.len;have HM:=zi h'.len;have HB0:=zi hb;clear hb;unfold maxLen at hcap hcap';by_cases hnn:n=n'
 ·subst hnn;go_enter Tryz.func10,Tryz.ntmps10
  go_wp2_with fail
  go_loopw [13] (fun i wr=>∃ j:Nat,j ≤ n∧i=.int .i64 j∧Below w.heap.size w wr∧Hid (L.take j=M.take j)) (fun i _=>n - (intOf i).toNat)
  case atStart=>exact ⟨0,Nat.zero_le _,rfl,Below.refl _ _,zi (by simp)⟩
  case round =>
   obtain ⟨j,hj,rfl,hbr,HP⟩:=hrel;have hws:=hbr.size;by_cases hlt:j < n
   ·obtain ⟨bb,o,x,rfl,hb1,hx,k0,k1,k2,k3,k4,k5,k6,k7,k8,k9,k10⟩:=zlZ (h.below (hbr.mono hB)) hlt;obtain ⟨bb',o',y,rfl,hb2,hy,l0,l1,l2,l3,l4,l5,l6,l7,l8,l9,l10⟩:=zlZ (h'.below (hbr.mono hB')) hlt;have HX:=zi hx;have HY:=zi hy;have q:=fun w=>zdI x y w;clear hx hy;rcases zmS (eqCm x y) with hp | hp
    ·have HN:=zi (zpx HX.out HY.out hp HP.out);rw [hp] at q;simp only [Bool.not_true] at q;go_wp2_with fail
     go_region
     go_wp2_with fail
     go_roundw
     case rel=>exact ⟨j + 1,by omega,by go_num,(by first | exact zai hbr | exact zac hbr _),HN⟩
     case measure=>simp [intOf];omega
    ·have HN:=zi (zpw HX.out HY.out hp);rw [hp] at q;simp only [Bool.not_false] at q;go_wp2_with fail
     go_region
     go_wp2_with fail
     go_ret;exact ⟨zbl (by rw [HB0.out];exact (decide_eq_false HN.out).symm),(by first | exact zai hbr | exact zac hbr _)⟩
   ·have hjn:j=n:=by omega
    have HE:=zi (show L=M by
     have:=HP.out;rwa [hjn,List.take_of_length_le (by rw [HL.out];exact zl _),List.take_of_length_le (by rw [HM.out];exact zl _)] at this)
    clear hjn;go_wp2_with fail
    go_ret;exact ⟨zbl (by rw [HB0.out];exact (decide_eq_true HE.out).symm),hbr⟩
 ·have HE:=zi (znI (L:=L) (M:=M) (by rw [HL.out,HM.out];exact hnn));go_enter Tryz.func10,Tryz.ntmps10
  go_wp2_with fail
  go_ret;exact ⟨zbl (by rw [HB0.out];exact (decide_eq_false HE.out).symm),Below.refl _ _⟩
end
end Go.Proofs.YtockodmbhnlheaaGreatDoor
