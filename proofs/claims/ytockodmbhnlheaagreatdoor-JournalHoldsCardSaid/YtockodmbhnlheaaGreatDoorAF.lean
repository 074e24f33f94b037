import Derived.Test.YtockodmbhnlheaaGreatDoorAE
namespace Go.Proofs.YtockodmbhnlheaaGreatDoor
section
open Go.RowKit
def zcZ (p:Od→Bool) (L:List Od):Int:=match L.findIdx? p with
 | some k=>(k:Int)
 | none=>-1
theorem zfO {p:Od→Bool} {L:List Od} {j:Nat} {x:Od} (hx:L[j]?=some x) (hp:p x=true) (hb:(L.take j).all (fun y=>!p y)=true):zcZ p L=j:=by
 obtain ⟨h1,h2⟩:=List.getElem?_eq_some_iff.1 hx;have:L.findIdx? p=some j:=by
  rw [List.findIdx?_eq_some_iff_getElem];refine ⟨h1,by rw [h2];exact hp,fun i hi=>?_⟩;rw [List.all_eq_true] at hb;have:=hb L[i] (List.mem_take_iff_getElem.2 ⟨i,by omega,rfl⟩);simpa using this
 unfold zcZ;rw [this]
theorem zgh {p:Od→Bool} {L:List Od} (hb:L.all (fun y=>!p y)=true):zcZ p L = -1:=by
 have:L.findIdx? p=none:=by
  rw [List.findIdx?_eq_none_iff];rw [List.all_eq_true] at hb;intro x hx;have:=hb x hx;simpa using this
 unfold zcZ;rw [this]
theorem zgt {p:Od→Bool} {L:List Od} {j:Nat} {x:Od} (hx:L[j]?=some x) (hp:p x=false) (hb:(L.take j).all (fun y=>!p y)=true):(L.take (j + 1)).all (fun y=>!p y)=true:=by
 rw [List.take_add_one,hx];simp only [Option.toList,List.all_append,hb,List.all_cons,List.all_nil,hp];rfl
theorem zja {p:Od→Bool} {L:List Od}:zcZ p L = -1∧L.any p=false∨(∃ k:Nat,zcZ p L=k∧k < L.length)∧L.any p=true:=by
 unfold zcZ;cases h:L.findIdx? p with
 | none =>
  rw [List.findIdx?_eq_none_iff] at h;exact .inl ⟨rfl,by rw [List.any_eq_false];intro x hx;rw [h x hx];simp⟩
 | some k =>
  rw [List.findIdx?_eq_some_iff_getElem] at h;obtain ⟨h1,h2,_⟩:=h;exact .inr ⟨⟨k,rfl,h1⟩,by rw [List.any_eq_true];exact ⟨_,List.getElem_mem h1,h2⟩⟩
def zbj (id:Int) (x:Od):Bool:=x.id == id
def zc8 (o x:Od):Bool:=zbm o x
set_option maxHeartbeats 400000 in
theorem zrr (x:Od) (id:Int) (g:Nat) (w:World) (hg:g < w.heap.size) (h:w.cell? ⟨g,0,none⟩=some (.int .i64 id)) :
  Calls Tryz.prog 157 #[.agg #[.int .i64 x.id,.int .i64 x.acc,.int .i64 x.side,.int .i64 x.price,.int .i64 x.qty],.pointer (some ⟨g,0,none⟩)] w fun e w'=>e=.returned (.bool (zbj id x))∧Below w.heap.size w w':=by
 go_enter Tryz.func157,Tryz.ntmps157
 go_wp2_with fail
 go_ret;exact ⟨rfl,(Below.refl _ _).alloc (zl _) _⟩
set_option maxHeartbeats 400000 in
theorem ziL (x:Od) (id:Int) (g:Nat) (w:World) (hg:g < w.heap.size) (h:w.cell? ⟨g,0,none⟩=some (.int .i64 id)) :
  Calls Tryz.prog 137 #[.agg #[.int .i64 x.id,.int .i64 x.acc,.int .i64 x.side,.int .i64 x.price,.int .i64 x.qty],.pointer (some ⟨g,0,none⟩)] w fun e w'=>e=.returned (.bool (zbj id x))∧Below w.heap.size w w':=by
 go_enter Tryz.func137,Tryz.ntmps137
 go_wp2_with fail
 go_ret;exact ⟨rfl,(Below.refl _ _).alloc (zl _) _⟩
set_option maxHeartbeats 400000 in
theorem zpI (x o:Od) (g:Nat) (w:World) (hg:g < w.heap.size) (h0:w.cell? ⟨g,0,none⟩=some (.int .i64 o.id)) (h1:w.cell? ⟨g,1,none⟩=some (.int .i64 o.acc)) (h2:w.cell? ⟨g,2,none⟩=some (.int .i64 o.side)) (h3:w.cell? ⟨g,3,none⟩=some (.int .i64 o.price)) (h4:w.cell? ⟨g,4,none⟩=some (.int .i64 o.qty)) :
  Calls Tryz.prog 161 #[.agg #[.int .i64 x.id,.int .i64 x.acc,.int .i64 x.side,.int .i64 x.price,.int .i64 x.qty],.pointer (some ⟨g,0,none⟩)] w fun e w'=>e=.returned (.bool (zc8 o x))∧Below w.heap.size w w':=by
 go_enter Tryz.func161,Tryz.ntmps161
 go_wp2_with fail
 refine (zkO o x _).mono ?_;rintro e w1 ⟨rfl,hb1⟩;go_wp2_with fail
 go_ret;exact ⟨rfl,((Below.refl _ _).alloc (zl _) _).trans (hb1.mono (by simp))⟩
set_option maxHeartbeats 1000000 in
theorem zsU (A:Option Addr) (n c:Nat) (L:List Od) (id:Int) (g:Nat) (B:Nat) (w:World) (h:Rd w B 5 A n c (zaa L)) (hB:B ≤ w.heap.size) (hg:g < w.heap.size) (hc:w.cell? ⟨g,0,none⟩=some (.int .i64 id)) :
  Calls Tryz.prog 160 #[.slice A n c,.func (.func 157) #[] #[.pointer (some ⟨g,0,none⟩)]] w fun e w'=>e=.returned (.int .i64 (zcZ (zbj id) L))∧Below w.heap.size w w':=by
 have hle:=h.le;have hcap:=h.cap;have HL:=zi (zdW h);unfold maxLen at hcap;go_enter Tryz.func160,Tryz.ntmps160
 go_wp2_with fail
 go_loopw [8] (fun i wr=>∃ j:Nat,j ≤ n∧i=.int .i64 j∧Below w.heap.size w wr∧Hid ((L.take j).all (fun y=>!(zbj id) y)=true)) (fun i _=>n - (intOf i).toNat)
 case atStart=>exact ⟨0,Nat.zero_le _,rfl,Below.refl _ _,rfl⟩
 case round =>
  obtain ⟨j,hj,rfl,hbr,HP⟩:=hrel;have hws:=hbr.size;by_cases hlt:j < n
  ·obtain ⟨b,o',x,rfl,hb,hx,k0,k1,k2,k3,k4⟩:=zdU (h.below (hbr.mono hB)) hlt;have x1:b < wr.heap.size:=by omega
   have HX:=zi hx;clear hx;go_wp2_with fail
   refine (zrr _ _ _ _ (by omega) ((hbr.cell (p:=⟨g,0,none⟩) hg).trans hc)).mono ?_;rintro e w1 ⟨rfl,hb1⟩;have hb2:=hbr.trans (hb1.mono hws);clear hb1;rcases zcr ((zbj id) x) with hp | hp
   ·have HN:=zi (zgt (p:=zbj id) HX.out hp HP.out);rw [hp];go_wp2_with fail
    go_roundw
    case rel=>exact ⟨j + 1,by omega,by go_num,hb2,HN⟩
    case measure=>simp [intOf];omega
   ·have HE:=zi (zfO (p:=zbj id) HX.out hp HP.out);rw [hp];go_wp2_with fail
    go_ret;exact ⟨zay HE.out.symm,hb2⟩
  ·have hjn:j=n:=by omega
   have HE:=zi (zgh (p:=zbj id) (L:=L) (by have:=HP.out;rw [hjn,List.take_of_length_le (by rw [HL.out];exact zl _)] at this;exact this));clear hjn;go_wp2_with fail
   go_ret;exact ⟨zay HE.out.symm,hbr⟩
set_option maxHeartbeats 1000000 in
theorem zjz (A:Option Addr) (n c:Nat) (L:List Od) (id:Int) (g:Nat) (B:Nat) (w:World) (h:Rd w B 5 A n c (zaa L)) (hB:B ≤ w.heap.size) (hg:g < w.heap.size) (hc:w.cell? ⟨g,0,none⟩=some (.int .i64 id)) :
  Calls Tryz.prog 160 #[.slice A n c,.func (.func 137) #[] #[.pointer (some ⟨g,0,none⟩)]] w fun e w'=>e=.returned (.int .i64 (zcZ (zbj id) L))∧Below w.heap.size w w':=by
 have hle:=h.le;have hcap:=h.cap;have HL:=zi (zdW h);unfold maxLen at hcap;go_enter Tryz.func160,Tryz.ntmps160
 go_wp2_with fail
 go_loopw [8] (fun i wr=>∃ j:Nat,j ≤ n∧i=.int .i64 j∧Below w.heap.size w wr∧Hid ((L.take j).all (fun y=>!(zbj id) y)=true)) (fun i _=>n - (intOf i).toNat)
 case atStart=>exact ⟨0,Nat.zero_le _,rfl,Below.refl _ _,rfl⟩
 case round =>
  obtain ⟨j,hj,rfl,hbr,HP⟩:=hrel;have hws:=hbr.size;by_cases hlt:j < n
  ·obtain ⟨b,o',x,rfl,hb,hx,k0,k1,k2,k3,k4⟩:=zdU (h.below (hbr.mono hB)) hlt;have x1:b < wr.heap.size:=by omega
   have HX:=zi hx;clear hx;go_wp2_with fail
   refine (ziL _ _ _ _ (by omega) ((hbr.cell (p:=⟨g,0,none⟩) hg).trans hc)).mono ?_;rintro e w1 ⟨rfl,hb1⟩;have hb2:=hbr.trans (hb1.mono hws);clear hb1;rcases zcr ((zbj id) x) with hp | hp
   ·have HN:=zi (zgt (p:=zbj id) HX.out hp HP.out);rw [hp];go_wp2_with fail
    go_roundw
    case rel=>exact ⟨j + 1,by omega,by go_num,hb2,HN⟩
    case measure=>simp [intOf];omega
   ·have HE:=zi (zfO (p:=zbj id) HX.out hp HP.out);rw [hp];go_wp2_with fail
    go_ret;exact ⟨zay HE.out.symm,hb2⟩
  ·have hjn:j=n:=by omega
   have HE:=zi (zgh (p:=zbj id) (L:=L) (by have:=HP.out;rw [hjn,List.take_of_length_le (by rw [HL.out];exact zl _)] at this;exact this));clear hjn;go_wp2_with fail
   go_ret;exact ⟨zay HE.out.symm,hbr⟩
set_option maxHeartbeats 1000000 in
theorem zhA (A:Option Addr) (n c:Nat) (L:List Od) (o:Od) (g:Nat) (B:Nat) (w:World) (h:Rd w B 5 A n c (zaa L)) (hB:B ≤ w.heap.size) (hg:g < w.heap.size) (hc:(w.cell? ⟨g,0,none⟩=some (.int .i64 o.id)∧w.cell? ⟨g,1,none⟩=some (.int .i64 o.acc)∧w.cell? ⟨g,2,none⟩=some (.int .i64 o.side)∧w.cell? ⟨g,3,none⟩=some (.int .i64 o.price)∧w.cell? ⟨g,4,none⟩=some (.int .i64 o.qty))) :
  Calls Tryz.prog 160 #[.slice A n c,.func (.func 161) #[] #[.pointer (some ⟨g,0,none⟩)]] w fun e w'=>e=.returned (.int .i64 (zcZ (zc8 o) L))∧Below w.heap.size w w':=by
 have hle:=h.le;have hcap:=h.cap;have HL:=zi (zdW h);unfold maxLen at hcap;go_enter Tryz.func160,Tryz.ntmps160
 go_wp2_with fail
 go_loopw [8] (fun i wr=>∃ j:Nat,j ≤ n∧i=.int .i64 j∧Below w.heap.size w wr∧Hid ((L.take j).all (fun y=>!(zc8 o) y)=true)) (fun i _=>n - (intOf i).toNat)
 case atStart=>exact ⟨0,Nat.zero_le _,rfl,Below.refl _ _,rfl⟩
 case round =>
  obtain ⟨j,hj,rfl,hbr,HP⟩:=hrel;have hws:=hbr.size;by_cases hlt:j < n
  ·obtain ⟨b,o',x,rfl,hb,hx,k0,k1,k2,k3,k4⟩:=zdU (h.below (hbr.mono hB)) hlt;have x1:b < wr.heap.size:=by omega
   have HX:=zi hx;clear hx;go_wp2_with fail
   refine (zpI _ o _ _ (by omega) ((hbr.cell (p:=⟨g,_,none⟩) hg).trans hc.1) ((hbr.cell (p:=⟨g,_,none⟩) hg).trans hc.2.1) ((hbr.cell (p:=⟨g,_,none⟩) hg).trans hc.2.2.1) ((hbr.cell (p:=⟨g,_,none⟩) hg).trans hc.2.2.2.1) ((hbr.cell (p:=⟨g,_,none⟩) hg).trans hc.2.2.2.2)).mono ?_;rintro e w1 ⟨rfl,hb1⟩;have hb2:=hbr.trans (hb1.mono hws);clear hb1;rcases zcr ((zc8 o) x) with hp | hp
   ·have HN:=zi (zgt (p:=zc8 o) HX.out hp HP.out);rw [hp];go_wp2_with fail
    go_roundw
    case rel=>exact ⟨j + 1,by omega,by go_num,hb2,HN⟩
    case measure=>simp [intOf];omega
   ·have HE:=zi (zfO (p:=zc8 o) HX.out hp HP.out);rw [hp];go_wp2_with fail
    go_ret;exact ⟨zay HE.out.symm,hb2⟩
  ·have hjn:j=n:=by omega
   have HE:=zi (zgh (p:=zc8 o) (L:=L) (by have:=HP.out;rw [hjn,List.take_of_length_le (by rw [HL.out];exact zl _)] at this;exact this));clear hjn;go_wp2_with fail
   go_ret;exact ⟨zay HE.out.symm,hbr⟩
set_option maxHeartbeats 400000 in
theorem zl6 (A:Option Addr) (n c:Nat) (L:List Od) (id:Int) (g:Nat) (B:Nat) (w:World) (h:Rd w B 5 A n c (zaa L)) (hB:B ≤ w.heap.size) (hg:g < w.heap.size) (hc:w.cell? ⟨g,0,none⟩=some (.int .i64 id)) :
  Calls Tryz.prog 156 #[.slice A n c,.func (.func 157) #[] #[.pointer (some ⟨g,0,none⟩)]] w fun e w'=>e=.returned (.bool (L.any (zbj id)))∧Below w.heap.size w w':=by
 have HI:=zi (zja (p:=zbj id) (L:=L));go_enter Tryz.func156,Tryz.ntmps156
 go_wp2_with fail
 refine (zsU A n c L id g B _ h hB hg hc).mono ?_;rintro e w1 ⟨rfl,hb1⟩;rcases HI.out with ⟨h1,h2⟩ | ⟨⟨k,h1,_⟩,h2⟩
 ·have H2:=zi h2;rw [h1];clear h1 h2;go_wp2_with fail
  go_ret;exact ⟨zbl H2.out.symm,hb1⟩
 ·have H2:=zi h2;rw [h1];clear h1 h2;go_wp2_with fail
  go_ret;exact ⟨zbl H2.out.symm,hb1⟩
end
section
open Go.RowKit
set_option maxHeartbeats 400000 in
theorem zkP (A:Option Addr) (n c:Nat) (xs:List Value) (B:Nat) (w:World) (h:Rd w B 5 A n c xs) (h1:∀ u ∈ xs,u.oneCell'=true) (hB:B ≤ w.heap.size) (hb:n * 40 ≤ 140737488355328) :
  Calls Tryz.prog 70 #[.slice A n c] w (zfY w 32 5 n xs):=by
 have q:∀ (w:World) (a:Option Addr) (n c n' c':Nat),(binOp .eql 81 (.slice a n c) (.slice none n' c')).run Tryz.prog w=.ok (.bool a.isNone) w:=fun w a n c n' c'=>Lib.run_eql_slice_nil w _ _ a n c n' c' Tryz.underlying81;cases A with
 | none =>
  have h0:=h.nil rfl;have hle:=h.le;obtain rfl:n=0:=by omega
  have hx:xs = []:=List.eq_nil_of_length_eq_zero (by simpa using h.len);subst hx h0;go_enter Tryz.func70,Tryz.ntmps70
  go_wp2_with fail
  go_ret;exact ⟨_,rfl,World.ownsRow_nil _ _ _ _,Below.refl _ _⟩
 | some ad =>
  have HR:=zi h;have hle:=h.le;have hcap:=h.cap;clear h;go_enter Tryz.func70,Tryz.ntmps70
  go_wp2_with (at_builtin;refine zbe rfl _ _ _ rfl w.heap.size _ _ _ zcS _ _ _ rfl (World.ownsRow_made w #[] 0 (zl _) (Nat.zero_le _) rfl) B (some ad) n c xs rfl (HR.out.alloc hB _) h1 (by simp only [maxLen] at hcap ⊢;omega) (by omega) (by simp) ?_;intro v' w' hown hbel hg _)
  go_ret;exact ⟨_,rfl,by simpa using hown,((Below.refl _ _).alloc (zl _) _).trans hbel⟩
theorem zel {P:Program} {t:TypeId} {fs:Array Field} (h:P.underlying t=some (.struct fs)):P.fieldsOf t=fs:=by unfold Program.fieldsOf;rw [h]
theorem za8 {P:Program} {t:TypeId} {k:IntKind} (h:P.underlying t=some (.int k)) (cs:Array Value) (off:Nat) (v:Value) (hv:cs[off]?=some v) (w:World):(part t cs off).run P w=.ok v w:=by
 simp [part,isAgg,run_underlying h,Result.andThen,hv]
theorem zsV (a b:Od) (w:World):(Op.equalIn 10000 32 (.agg #[.int .i64 a.id,.int .i64 a.acc,.int .i64 a.side,.int .i64 a.price,.int .i64 a.qty]) (.agg #[.int .i64 b.id,.int .i64 b.acc,.int .i64 b.side,.int .i64 b.price,.int .i64 b.qty])).run Tryz.prog w=.ok (zfm a b) w:=by
 rw [run_equalIn_struct w 9999 _ _ _ (by rw [zel Tryz.underlying32];exact Tryz.underlying32) (by kernel_rfl),zel Tryz.underlying32];have hi:=Tryz.underlying3;have p0:∀ (x0 x1 x2 x3 x4:Int) w,(part 3 #[.int .i64 x0,.int .i64 x1,.int .i64 x2,.int .i64 x3,.int .i64 x4] 0).run Tryz.prog w=.ok (.int .i64 x0) w:=fun _ _ _ _ _ w=>za8 hi _ 0 _ rfl w;have p1:∀ (x0 x1 x2 x3 x4:Int) w,(part 3 #[.int .i64 x0,.int .i64 x1,.int .i64 x2,.int .i64 x3,.int .i64 x4] 1).run Tryz.prog w=.ok (.int .i64 x1) w:=fun _ _ _ _ _ w=>za8 hi _ 1 _ rfl w;have p2:∀ (x0 x1 x2 x3 x4:Int) w,(part 3 #[.int .i64 x0,.int .i64 x1,.int .i64 x2,.int .i64 x3,.int .i64 x4] 2).run Tryz.prog w=.ok (.int .i64 x2) w:=fun _ _ _ _ _ w=>za8 hi _ 2 _ rfl w;have p3:∀ (x0 x1 x2 x3 x4:Int) w,(part 3 #[.int .i64 x0,.int .i64 x1,.int .i64 x2,.int .i64 x3,.int .i64 x4] 3).run Tryz.prog w=.ok (.int .i64 x3) w:=fun _ _ _ _ _ w=>za8 hi _ 3 _ rfl w
 have p4:∀ (x0 x1 x2 x3 x4:Int) w,(part 3 #[.int .i64 x0,.int .i64 x1,.int .i64 x2,.int .i64 x3,.int .i64 x4] 4).run Tryz.prog w=.ok (.int .i64 x4) w:=fun _ _ _ _ _ w=>za8 hi _ 4 _ rfl w;have he:=fun (x y:Int) w=>run_equalIn_int w 9998 3 .i64 .i64 x y hi;simp only [Op.eqFields];rw [if_pos (by decide),if_pos (by decide),if_pos (by decide),if_pos (by decide),if_pos (by decide)];simp only [Sem.run_bind,p0,p1,p2,p3,p4,Result.andThen_ok,he,Sem.run_ite,Sem.run_pure];unfold zfm;rw [show (a.id == b.id)=decide (a.id=b.id) from rfl,show (a.acc == b.acc)=decide (a.acc=b.acc) from rfl,show (a.side == b.side)=decide (a.side=b.side) from rfl,show (a.price == b.price)=decide (a.price=b.price) from rfl,show (a.qty == b.qty)=decide (a.qty=b.qty) from rfl];cases decide (a.id=b.id) <;> cases decide (a.acc=b.acc) <;> cases decide (a.side=b.side) <;> cases decide (a.price=b.price) <;> cases decide (a.qty=b.qty) <;> rfl
theorem zoo (a b:Od) (w:World):(binOp .neq 32 (.agg #[.int .i64 a.id,.int .i64 a.acc,.int .i64 a.side,.int .i64 a.price,.int .i64 a.qty]) (.agg #[.int .i64 b.id,.int .i64 b.acc,.int .i64 b.side,.int .i64 b.price,.int .i64 b.qty])).run Tryz.prog w=.ok (.bool (!zfm a b)) w:=by
 rw [run_neq_struct,zsV];rfl
instance:DecidableEq Od:=fun _ _=>decidable_of_iff _ zhy
def zdj (L M:List Od):Bool:=decide (L=M)
theorem znc {L M:List Od} (h:L.length ≠ M.length):zdj L M=false:=by
 unfold zdj;exact decide_eq_false fun e=>h (by rw [e])
theorem zop {L M:List Od} {j:Nat} {x y:Od} (hx:L[j]?=some x) (hy:M[j]?=some y) (h:zfm x y=false):zdj L M=false:=by
 unfold zdj;refine decide_eq_false fun e=>?_;subst e;rw [hx] at hy;injection hy with hy;rw [zhy.2 hy] at h;cases h
theorem zoq {L M:List Od} {j:Nat} {x y:Od} (hx:L[j]?=some x) (hy:M[j]?=some y) (h:zfm x y=true) (ht:L.take j=M.take j):L.take (j + 1)=M.take (j + 1):=by
 rw [List.take_add_one,List.take_add_one,hx,hy,ht,zhy.1 h]
set_option maxHeartbeats 1000000 in
theorem zkQ (A A':Option Addr) (n c n' c':Nat) (L M:List Od) (B:Nat) (w:World) (h:Rd w B 5 A n c (zaa L)) (h':Rd w B 5 A' n' c' (zaa M)) (hB:B ≤ w.heap.size) :
  Calls Tryz.prog 57 #[.slice A n c,.slice A' n' c'] w fun e w'=>e=.returned (.bool (zdj L M))∧Below w.heap.size w w':=by
 have hle:=h.le;have hcap:=h.cap;have hle':=h'.le;have hcap':=h'.cap;have HL:=zi (zdW h);have HM:=zi (zdW h');have q:=zoo;unfold maxLen at hcap hcap';by_cases hnn:n=n'
 ·subst hnn;go_enter Tryz.func57,Tryz.ntmps57
  go_wp2_with fail
  go_loopw [13] (fun i wr=>∃ j:Nat,j ≤ n∧i=.int .i64 j∧Below w.heap.size w wr∧Hid (L.take j=M.take j)) (fun i _=>n - (intOf i).toNat)
  case atStart=>exact ⟨0,Nat.zero_le _,rfl,Below.refl _ _,zi (by simp)⟩
  case round =>
   obtain ⟨j,hj,rfl,hbr,HP⟩:=hrel;have hws:=hbr.size;by_cases hlt:j < n
   ·obtain ⟨b,o,x,rfl,hb,hx,k0,k1,k2,k3,k4⟩:=zdU (h.below (hbr.mono hB)) hlt;obtain ⟨b',o',y,rfl,hb',hy,l0,l1,l2,l3,l4⟩:=zdU (h'.below (hbr.mono hB)) hlt;have HX:=zi hx;have HY:=zi hy;clear hx hy;go_wp2_with fail
    go_region
    rcases zcr (zfm x y) with hp | hp
    ·have HN:=zi (zop HX.out HY.out hp);rw [hp];go_wp2_with fail
     go_ret;exact ⟨zbl HN.out.symm,(by first | exact zar hbr | exact zac hbr _)⟩
    ·have HN:=zi (zoq HX.out HY.out hp HP.out);rw [hp];go_wp2_with fail
     go_roundw
     case rel=>exact ⟨j + 1,by omega,by go_num,(by first | exact zar hbr | exact zac hbr _),HN⟩
     case measure=>simp [intOf];omega
   ·have hjn:j=n:=by omega
    have HE:=zi (show zdj L M=true by
     have:=HP.out;rw [hjn,List.take_of_length_le (by rw [HL.out];exact zl _),List.take_of_length_le (by rw [HM.out];exact zl _)] at this;exact decide_eq_true this)
    clear hjn;go_wp2_with fail
    go_ret;exact ⟨zbl HE.out.symm,hbr⟩
 ·have HE:=zi (znc (L:=L) (M:=M) (by rw [HL.out,HM.out];exact hnn));go_enter Tryz.func57,Tryz.ntmps57
  go_wp2_with fail
  go_ret;exact ⟨zbl HE.out.symm,Below.refl _ _⟩
end
end Go.Proofs.YtockodmbhnlheaaGreatDoor
