/-
  THE LAW VenueFills: holds for every input, with no condition. (Joined texts: VenueLaws, FillsP, IdxV, MapI, MapN, FillsW, VenueFills.)
-/
import Derived.Test.YtockodmbhnlheaaM01
import Derived.Test.YtockodmbhnlheaaM02
import Derived.Test.YtockodmbhnlheaaM03
import Derived.Test.YtockodmbhnlheaaM04
import Derived.Test.YtockodmbhnlheaaM05
import Derived.Test.YtockodmbhnlheaaM06
import Derived.Test.YtockodmbhnlheaaM07
import Derived.Test.YtockodmbhnlheaaM08
import Derived.Test.YtockodmbhnlheaaM09
import Derived.Test.YtockodmbhnlheaaM10
import Derived.Test.YtockodmbhnlheaaM11
import Derived.Test.YtockodmbhnlheaaM12
import Derived.Test.YtockodmbhnlheaaM13
import Derived.Test.YtockodmbhnlheaaM14
import Derived.Test.YtockodmbhnlheaaM15
import Derived.Test.YtockodmbhnlheaaM16
import Derived.Test.YtockodmbhnlheaaM17
import Derived.Test.YtockodmbhnlheaaM18
import Derived.Test.YtockodmbhnlheaaM19
import Derived.IntWalk
import Derived.Test.YtockodmbhnlheaaProg
import Derived.Maps.AppendAt
import Derived.Laws.AppendOwnNone
import Derived.OwnWalk
import Derived.Deep.RegionHeld3
import Derived.Lib.AppendZeros
import Derived.Deep.DeepCutAuto
import Derived.Deep.RegionLaw
import Derived.WalkKit
import Derived.WalkSpells
import Derived.WalkLawsBesides
import Derived.Lib.Hide
import Derived.Laws.CopyOwn
import Derived.Lib.AppendZerosOnto
import Derived.Lib.Overlaps
import Derived.Laws.Externs
import Derived.Laws.MakeOwn
import Derived.Maps.Own
import Derived.Maps.OwnOps
import Derived.Maps.Views
import Derived.Deep.QuietTactic
import Derived.BigQuiet
import Derived.Deep.Draws
import Derived.KernelRfl
import Derived.Test.YtockodmbhnlheaaRows
import Derived.ProofKit
import Derived.OpenShut
import Derived.SizedLaws
import Derived.Deep.Slices
import Derived.RegionTactic
import Derived.ChangeAlike
import Derived.Maps.OwnSet
import Derived.JoinedOf
namespace Go.Proofs.Ytockodmbhnlheaa
section
theorem fills_law {v w:Vn} {c:Cm} {ev:List Ev} (h:doOf v c=(w,ev,0)) (hr:rejB ev=false) :
  VOk v∧VOk w∧Step (placeB c) ⟨v,[]⟩ ⟨w,ev⟩ ev:=by
 obtain ⟨h1,h2⟩:=do_done h hr
 obtain ⟨E,s,_⟩:=does_step (d:=⟨v,[]⟩) h1 h2
 have he:ev=E:=by have:=s.ev;simpa using this
 subst he
 exact ⟨h1,s.ok,s⟩
end
section
open Go Go.RowKit
theorem wrap_l (x y:Int):wrap64 (wrap64 x + y)=wrap64 (x + y):=by unfold wrap64;omega
theorem wrap_r (x y:Int):wrap64 (x + wrap64 y)=wrap64 (x + y):=by unfold wrap64;omega
theorem wrap_id {x:Int} (h:-9223372036854775808 ≤ x∧x ≤ 9223372036854775807):wrap64 x=x:=by unfold wrap64;omega
theorem wrap_rng (x:Int):-9223372036854775808 ≤ wrap64 x∧wrap64 x ≤ 9223372036854775807:=by unfold wrap64;omega
def Cnt (F S:Int→Int):Prop:=∀ id,F id=wrap64 (S id)
theorem Cnt.zero:Cnt (fun _=>0) (fun _=>0):=fun _=>by show (0:Int)=wrap64 0;unfold wrap64;omega
theorem Cnt.one {F S:Int→Int} (h:Cnt F S) (t u:Int):Cnt (fun y=>if y=t then wrap64 (F t + u) else F y) (fun y=>S y + if y=t then u else 0):=by
 intro y
 show (if y=t then wrap64 (F t + u) else F y)=wrap64 (S y + if y=t then u else 0)
 by_cases e:y=t
 ·rw [if_pos e,if_pos e,h t,wrap_l,e]
 ·rw [if_neg e,if_neg e,h y];unfold wrap64;omega
theorem Cnt.sub {F S:Int→Int} (h:Cnt F S) (t u:Int):Cnt (fun y=>if y=t then wrap64 (F t - u) else F y) (fun y=>S y - if y=t then u else 0):=by
 intro y
 show (if y=t then wrap64 (F t - u) else F y)=wrap64 (S y - if y=t then u else 0)
 by_cases e:y=t
 ·rw [if_pos e,if_pos e,h t,e];unfold wrap64;omega
 ·rw [if_neg e,if_neg e,h y];unfold wrap64;omega
theorem Cnt.of {F S T:Int→Int} (h:Cnt F S) (e:∀ y,S y=T y):Cnt F T:=fun y=>by rw [← e y];exact h y
theorem take_nextV {α:Type} {L:List α} {j:Nat} {x:α} (hx:L[j]?=some x):L.take (j + 1)=L.take j ++ [x]:=by rw [List.take_add_one,hx];rfl
theorem moneySum_next {place:Bool} {E:List Ev} {j:Nat} {x:Ev} (hx:E[j]?=some x) (id:Int):moneySum place (E.take (j + 1)) id=moneySum place (E.take j) id + evMoney place x id:=by
 rw [take_nextV hx,moneySum_app];simp [moneySum]
theorem posSumE_next {E:List Ev} {j:Nat} {x:Ev} (hx:E[j]?=some x) (m:Nat) (id:Int):posSumE (E.take (j + 1)) m id=posSumE (E.take j) m id + evPos x m id:=by
 rw [take_nextV hx,posSumE_app];simp [posSumE]
theorem evMoney_5 {place:Bool} {x:Ev} (h:x.kind=5) (id:Int):evMoney place x id=if id=x.acc then x.n else 0:=by unfold evMoney;rw [if_pos h]
theorem evMoney_f {place:Bool} {x:Ev} (h:x.kind=3∨x.kind=6) (id:Int) :
  evMoney place x id=(if id=x.f.macc then x.f.side * x.f.qty * x.f.price else 0) - (if id=x.f.tacc then x.f.side * x.f.qty * x.f.price + evFee place x else 0):=by unfold evMoney;rw [if_neg (by omega),if_pos h]
theorem evMoney_o {place:Bool} {x:Ev} (h:¬(x.kind=5∨x.kind=3∨x.kind=6)) (id:Int):evMoney place x id=0:=by unfold evMoney;rw [if_neg (by omega),if_neg (by omega)]
theorem evPos_f {x:Ev} (h:x.kind=3∨x.kind=6) {m:Nat} (hm:x.market=m) (id:Int):evPos x m id=(if id=x.f.tacc then x.f.side * x.f.qty else 0) - (if id=x.f.macc then x.f.side * x.f.qty else 0):=by unfold evPos;rw [if_pos ⟨h,hm⟩]
theorem evPos_o {x:Ev} {m:Nat} (h:¬((x.kind=3∨x.kind=6)∧x.market=m)) (id:Int):evPos x m id=0:=by unfold evPos;rw [if_neg h]
section
variable {place:Bool} {E:List Ev} {j:Nat} {x:Ev} {F:Int→Int}
theorem cnt_moved (hx:E[j]?=some x) (h:Cnt F (moneySum place (E.take j))) (hk:x.kind=5):Cnt (fun y=>if y=x.acc then wrap64 (F x.acc + x.n) else F y) (moneySum place (E.take (j + 1))) :=
 (h.one x.acc x.n).of fun y=>by rw [moneySum_next hx,evMoney_5 hk]
theorem cnt_other (hx:E[j]?=some x) (h:Cnt F (moneySum place (E.take j))) (hk:¬(x.kind=5∨x.kind=3∨x.kind=6)):Cnt F (moneySum place (E.take (j + 1))) :=
 h.of fun y=>by rw [moneySum_next hx,evMoney_o hk];omega
theorem cnt_fill {F1 F2:Int→Int} {p fee:Int} (hx:E[j]?=some x) (h:Cnt F (moneySum place (E.take j))) (hk:x.kind=3∨x.kind=6) (hp:x.f.side * x.f.qty * x.f.price=p) (hf:evFee place x=fee)
  (h1:F1=fun y=>if y=x.f.tacc then wrap64 (F x.f.tacc - (p + fee)) else F y) (h2:F2=fun y=>if y=x.f.macc then wrap64 (F1 x.f.macc + p) else F1 y):Cnt F2 (moneySum place (E.take (j + 1))):=by
 subst h1 h2
 refine ((h.sub x.f.tacc (p + fee)).one x.f.macc p).of fun y=>?_
 rw [moneySum_next hx,evMoney_f hk,hp,hf];omega
theorem cnt_pos {F1 F2:Int→Int} {m:Nat} {n:Int} (hx:E[j]?=some x) (h:Cnt F (posSumE (E.take j) m)) (hk:x.kind=3∨x.kind=6) (hm:x.market=m) (hn:x.f.side * x.f.qty=n)
  (h1:F1=fun y=>if y=x.f.tacc then wrap64 (F x.f.tacc + n) else F y) (h2:F2=fun y=>if y=x.f.macc then wrap64 (F1 x.f.macc - n) else F1 y):Cnt F2 (posSumE (E.take (j + 1)) m):=by
 subst h1 h2
 refine ((h.one x.f.tacc n).sub x.f.macc n).of fun y=>?_
 rw [posSumE_next hx,evPos_f hk hm,hn];omega
theorem cnt_posO {m:Nat} (hx:E[j]?=some x) (h:Cnt F (posSumE (E.take j) m)) (hk:¬((x.kind=3∨x.kind=6)∧x.market=m)):Cnt F (posSumE (E.take (j + 1)) m) :=
 h.of fun y=>by rw [posSumE_next hx,evPos_o hk];omega
end
theorem acc_find {L:List Ac} {id:Int} (h:L.any (fun x=>x.id == id)=false):accOf L id=zeroAc:=by
 unfold accOf
 rw [List.find?_eq_none.2 (fun x hx=>by
  rw [List.any_eq_false] at h
  have:=h x hx
  simpa using this)]
 rfl
theorem fills_none {place:Bool} {V U:Vn} {ev:List Ev} (hs:Step place ⟨V,[]⟩ ⟨U,ev⟩ ev) {j:Nat} {b:Ac} (hb:U.accs[j]?=some b) (hn:V.accs.any (fun x=>x.id == b.id)=false) :
  b.bal=0 + moneySum place ev b.id∧∀ (k:Nat) (z:Int),b.pos[k]?=some z→z=0 + posSumE ev k b.id:=by
 have h1:=hs.bal b.id
 have h2:=fun k=>hs.pos k b.id
 have e1:accOf U.accs b.id=b:=accOf_at hs.ok.accs.sorted hb
 unfold balOf at h1
 unfold posOf at h2
 simp only [e1,acc_find hn] at h1 h2
 refine ⟨h1,fun k z hz=>?_⟩
 have:=h2 k
 rw [List.getD,hz] at this
 simpa [zeroAc] using this
theorem fills_some {place:Bool} {V U:Vn} {ev:List Ev} (hv:VOk V) (hs:Step place ⟨V,[]⟩ ⟨U,ev⟩ ev) {i j:Nat} {a b:Ac} (hb:U.accs[j]?=some b) (ha:V.accs[i]?=some a) (he:a.id=b.id) :
  b.bal=a.bal + moneySum place ev b.id∧a.pos.length=b.pos.length∧∀ (k:Nat) (y z:Int),a.pos[k]?=some y→b.pos[k]?=some z→z=y + posSumE ev k b.id:=by
 have h1:=hs.bal b.id
 have h2:=fun k=>hs.pos k b.id
 have e1:accOf U.accs b.id=b:=accOf_at hs.ok.accs.sorted hb
 have e2:accOf V.accs b.id=a:=by rw [← he];exact accOf_at hv.accs.sorted ha
 have hl:=hs.len
 have l1:=(accCheck_ok (hv.accs.ok a (List.mem_of_getElem? ha))).2.2.1
 have l2:=(accCheck_ok (hs.ok.accs.ok b (List.mem_of_getElem? hb))).2.2.1
 unfold balOf at h1
 unfold posOf at h2
 simp only [e1,e2] at h1 h2 hl l1 l2
 refine ⟨h1,by omega,fun k y z hy hz=>?_⟩
 have:=h2 k
 rw [List.getD,hz,List.getD,hy] at this
 simpa using this
end
section
open Go.RowKit
section
variable {α:Type} {p:α→Bool} {L:List α}
end
set_option maxHeartbeats 400000 in
theorem fills1_any (x:Ac) (A2:Option Addr) (n2 c2:Nat) (id:Int) (g:Nat) (w:World) (hg:g < w.heap.size) (h:w.cell? ⟨g,0,none⟩=some (.int .i64 id)) :
  Calls Try.prog 109 #[.agg #[.int .i64 x.id,.int .i64 x.bal,.slice A2 n2 c2],.pointer (some ⟨g,0,none⟩)] w fun e w'=>e=.returned (.bool (hasAc id x))∧Below w.heap.size w w':=by
 go_enter Try.func109,Try.ntmps109
 go_wp2_with fail
 go_ret
 exact ⟨rfl,below_all _ _⟩
set_option maxRecDepth 100000 in
set_option maxHeartbeats 1000000 in
theorem idx_fills1 (id:Int) (g:Nat) (A:Option Addr) (n c:Nat) (L:List Ac) (B:Nat) (w:World) (h:RdL shAcc w B A n c L) (hB:B ≤ w.heap.size) (hg:g < w.heap.size) (hc:w.cell? ⟨g,0,none⟩=some (.int .i64 id)) :
  Calls Try.prog 106 #[.slice A n c,.func (.func 109) #[] #[.pointer (some ⟨g,0,none⟩)]] w fun e w'=>e=.returned (.int .i64 (idxL (hasAc id) L))∧Below w.heap.size w w':=by
 have hle:=h.le
 have hcap:=h.cap
 have HL:=Lib.hid (show L.length=n from h.len)
 unfold maxLen at hcap
 go_enter Try.func106,Try.ntmps106
 go_wp2_with fail
 go_loopw [8] (fun i wr=>∃ j:Nat,j ≤ n∧i=.int .i64 j∧Below w.heap.size w wr∧Hid ((L.take j).all (fun y=>!(hasAc id) y)=true)) (fun i _=>n - (intOf i).toNat)
 case atStart=>exact ⟨0,Nat.zero_le _,rfl,Below.refl _ _,rfl⟩
 case round =>
  obtain ⟨j,hj,rfl,hbr,HP⟩:=hrel
  have hws:=hbr.size
  by_cases hlt:j < n
  ·obtain ⟨b,o,x,rfl,hb,hx,A2,c2,k0,k1,k2,k3,k4⟩:=acc_at (h.below (hbr.mono hB)) hlt
   have x1:b < wr.heap.size:=by omega
   have HX:=Lib.hid hx
   clear hx
   clear k3
   go_wp2_with fail
   refine (fills1_any _ _ _ _ _ _ _ (by omega) ((hbr.cell (p:=⟨g,_,none⟩) hg).trans hc)).mono ?_
   rintro e w1 ⟨rfl,hb1⟩
   have hb2:=hbr.trans (hb1.mono hws)
   clear hb1
   rcases bool_cs' ((hasAc id) x) with hp | hp
   ·have HE:=Lib.hid (idxL_found (p:=hasAc id) HX.out hp HP.out)
    rw [hp]
    go_wp2_with fail
    go_ret
    exact ⟨ret_ii HE.out.symm,hb2⟩
   ·have HN:=Lib.hid (allL_next (p:=hasAc id) HX.out hp HP.out)
    rw [hp]
    go_wp2_with fail
    go_roundw
    case rel=>exact ⟨j + 1,by omega,by go_num,hb2,HN⟩
    case measure=>simp [intOf];omega
  ·have hjn:j=n:=by omega
   have HE:=Lib.hid (idxL_none (p:=hasAc id) (L:=L) (by have:=HP.out;rw [hjn,List.take_of_length_le (by rw [HL.out];exact Nat.le_refl _)] at this;exact this))
   clear hjn
   go_wp2_with fail
   go_ret
   exact ⟨ret_ii HE.out.symm,hbr⟩
end
section
open Go.RowKit Go.Maps
def cnt1 (D:DataW Unit) (x:Int):Nat:=if has D (.int .i64 x) then 1 else 0
def cnt (D:DataW Unit):Nat:=cnt1 D 0 + cnt1 D 1 + cnt1 D 2 + cnt1 D 3 + cnt1 D 4 + cnt1 D 5 + cnt1 D 6 + cnt1 D 7
theorem cnt1_le (D:DataW Unit) (x:Int):cnt1 D x ≤ 1:=by unfold cnt1;split <;> omega
theorem cnt_le (D:DataW Unit):cnt D ≤ 8:=by
 unfold cnt
 have:=cnt1_le D 0
 have:=cnt1_le D 1
 have:=cnt1_le D 2
 have:=cnt1_le D 3
 have:=cnt1_le D 4
 have:=cnt1_le D 5
 have:=cnt1_le D 6
 have:=cnt1_le D 7
 omega
theorem cnt1_other {D:DataW Unit} {x y:Int} (d:DataW Unit) (h:y ≠ x):cnt1 (D.put (.int .i64 x) d) y=cnt1 D y:=by
 unfold cnt1
 rw [has_put_other (by intro e;injection e with _ e;exact h e)]
theorem cnt1_same {D:DataW Unit} {x:Int} (d:DataW Unit) (hD:IsMap D):cnt1 (D.put (.int .i64 x) d) x=1:=by
 unfold cnt1
 rw [has_put_same hD (show WideAt.IsKeyLit (.int .i64 x) from trivial)];rfl
theorem cnt_put {D:DataW Unit} {x:Int} (d:DataW Unit) (hD:IsMap D) (hx:0 ≤ x∧x ≤ 7):cnt (D.put (.int .i64 x) d)=cnt D + 1 - cnt1 D x:=by
 have hle:=cnt1_le D x
 have o:=fun y (h:y ≠ x)=>cnt1_other (D:=D) d h
 have s:=cnt1_same (D:=D) (x:=x) d hD
 unfold cnt
 rcases (show x=0∨x=1∨x=2∨x=3∨x=4∨x=5∨x=6∨x=7 by omega) with rfl | rfl | rfl | rfl | rfl | rfl | rfl | rfl
 ·rw [s,o 1 (by omega),o 2 (by omega),o 3 (by omega),o 4 (by omega),o 5 (by omega),o 6 (by omega),o 7 (by omega)];omega
 ·rw [s,o 0 (by omega),o 2 (by omega),o 3 (by omega),o 4 (by omega),o 5 (by omega),o 6 (by omega),o 7 (by omega)];omega
 ·rw [s,o 1 (by omega),o 0 (by omega),o 3 (by omega),o 4 (by omega),o 5 (by omega),o 6 (by omega),o 7 (by omega)];omega
 ·rw [s,o 1 (by omega),o 2 (by omega),o 0 (by omega),o 4 (by omega),o 5 (by omega),o 6 (by omega),o 7 (by omega)];omega
 ·rw [s,o 1 (by omega),o 2 (by omega),o 3 (by omega),o 0 (by omega),o 5 (by omega),o 6 (by omega),o 7 (by omega)];omega
 ·rw [s,o 1 (by omega),o 2 (by omega),o 3 (by omega),o 4 (by omega),o 0 (by omega),o 6 (by omega),o 7 (by omega)];omega
 ·rw [s,o 1 (by omega),o 2 (by omega),o 3 (by omega),o 4 (by omega),o 5 (by omega),o 0 (by omega),o 7 (by omega)];omega
 ·rw [s,o 1 (by omega),o 2 (by omega),o 3 (by omega),o 4 (by omega),o 5 (by omega),o 6 (by omega),o 0 (by omega)];omega
theorem owns_tight {P:Program} {k:TypeId} {R:Value→Option (DataW Unit × List MemPlace)} {w:World} {b n:Nat} {D:DataW Unit} (h:w.ownsMap P k R b n D):w.ownsMap P k R b (size D) D:=by
 obtain ⟨es,clock,hb,F,_,rfl⟩:=h
 exact ⟨es,clock,hb,F,by simp [size,length_sorted],rfl⟩
def Num (w:World) (b:Nat) (f:Int→Int):Prop :=
 ∃ D:DataW Unit,w.ownsMap Try.prog 3 (plainElem (H:=Unit) Try.prog 3) b 8 D∧size D ≤ cnt D∧∀ x,D.atKey (.int .i64 x) (.lit (.int .i64 0))=.lit (.int .i64 (f x))
theorem Num.made (w:World):Num (w.alloc (.map #[] 0)) w.heap.size (fun _=>0):=⟨.map [],(World.ownsMap_made _ _ _ _).mono (by omega),by simp [size],fun _=>rfl⟩
theorem Num.lt {w:World} {b:Nat} {f:Int→Int} (h:Num w b f):b < w.heap.size:=by obtain ⟨D,h1,_⟩:=h;exact h1.lt
theorem Num.kept {w w':World} {b:Nat} {f:Int→Int} {row:Option Nat} (h:Num w b f) (hg:w.grownBy w' row) (hne:some b ≠ row):Num w' b f:=by
 obtain ⟨D,h1,h2⟩:=h;exact ⟨D,h1.kept hg hne,h2⟩
theorem Num.below {w w':World} {b B:Nat} {f:Int→Int} (h:Num w b f) (hb:Below B w w') (hB:b < B):Num w' b f:=by
 obtain ⟨D,⟨es,clock,h1,h2⟩,h3⟩:=h
 exact ⟨D,⟨es,clock,(hb.block b hB).trans h1,h2⟩,h3⟩
set_option maxRecDepth 100000 in
theorem Num.look {w:World} {b:Nat} {f:Int→Int} (h:Num w b f) (x:Int) (hx:-9223372036854775808 ≤ x∧x ≤ 9223372036854775807) :
  (Instr.lookup 121 (.map (some b)) (.int .i64 x) false).run Try.prog w=.ok (.int .i64 (f x)) w:=by
 have hz:(zeroValue 3).run Try.prog w=.ok (.int .i64 0) w:=by kernel_rfl
 obtain ⟨D,h1,_,h3⟩:=h
 obtain ⟨c,hrun,hat,_⟩:=h1.lookup_int (int_keyed Try.underlying3) Try.underlying121 Try.underlying3 hz (keyOf_int_mk Try.underlying3 (wf_i64 hx.1 hx.2))
 rw [h3 x] at hat
 injection hat with hat
 injection hat with _ hat
 rw [hat];exact hrun
set_option maxRecDepth 100000 in
theorem Num.put {w:World} {b:Nat} {f:Int→Int} (h:Num w b f) (x v:Int) (hx:0 ≤ x∧x ≤ 7) (hv:-9223372036854775808 ≤ v∧v ≤ 9223372036854775807) :
  ∃ w',(Instr.mapUpdate 121 (.map (some b)) (.int .i64 x) (.int .i64 v)).run Try.prog w=.ok () w'∧Num w' b (fun y=>if y=x then v else f y)∧w.grownBy w' (some b):=by
 obtain ⟨D,h1,h2,h3⟩:=h
 obtain ⟨w',r1,r2,r3⟩:=World.ownsMap.update h1 (int_keyed Try.underlying3) Try.underlying121 (by unfold maxLen;omega) (keyOf_int_mk Try.underlying3 (wf_i64 (x:=x) (by omega) (by omega))) (plainElem_int Try.underlying3 (wf_i64 hv.1 hv.2))
 have hT:=h1.tidy (int_keyed Try.underlying3)
 have hs:size (D.put (.int .i64 x) (.lit (.int .i64 v))) ≤ cnt (D.put (.int .i64 x) (.lit (.int .i64 v))):=by
  rw [size_put hT,cnt_put _ hT.isMap hx]
  have hle:=cnt1_le D x
  by_cases hh:has D (.int .i64 x)=true
  ·rw [if_pos hh];omega
  ·have:cnt1 D x=0:=by unfold cnt1;rw [if_neg hh]
   rw [if_neg hh];omega
 refine ⟨w',r1,⟨_,(owns_tight r2).mono (Nat.le_trans hs (cnt_le _)),hs,fun y=>?_⟩,r3⟩
 show _=DataW.lit (Lit.int IntKind.i64 (if y=x then v else f y))
 by_cases e:y=x
 ·subst e
  rw [if_pos rfl,atKey_put_same hT.isMap (show WideAt.IsKeyLit (.int .i64 y) from trivial)]
 ·rw [if_neg e,atKey_put_other (by intro e';injection e' with _ e';exact e e')]
  exact h3 y
def mapR:Value→Option (DataW Unit × List MemPlace)
 | .map (some b)=>some (.lit (.int .i64 b),[])
 | .map none=>some (.lit (.int .i64 (-1)),[])
 | _=>none
def nestD (l:List (Int × Nat)):DataW Unit:=l.foldl (fun D x=>D.put (.int .i64 x.1) (.lit (.int .i64 x.2))) (.map [])
def Nest (w:World) (b:Nat) (l:List (Int × Nat)):Prop:=w.ownsMap Try.prog 3 mapR b l.length (nestD l)
theorem Nest.made (w:World):Nest (w.alloc (.map #[] 0)) w.heap.size []:=World.ownsMap_made _ _ _ _
theorem Nest.lt {w:World} {b:Nat} {l:List (Int × Nat)} (h:Nest w b l):b < w.heap.size:=World.ownsMap.lt h
theorem Nest.kept {w w':World} {b:Nat} {l:List (Int × Nat)} {row:Option Nat} (h:Nest w b l) (hg:w.grownBy w' row) (hne:some b ≠ row):Nest w' b l:=World.ownsMap.kept h hg hne
theorem Nest.below {w w':World} {b B:Nat} {l:List (Int × Nat)} (h:Nest w b l) (hb:Below B w w') (hB:b < B):Nest w' b l:=by
 obtain ⟨es,clock,h1,h2⟩:=h
 exact ⟨es,clock,(hb.block b hB).trans h1,h2⟩
set_option maxRecDepth 100000 in
theorem Nest.put {w:World} {b:Nat} {l:List (Int × Nat)} (h:Nest w b l) (x:Int) (g:Nat) (hx:0 ≤ x∧x ≤ 7) (hl:l.length < 8) :
  ∃ w',(Instr.mapUpdate 122 (.map (some b)) (.int .i64 x) (.map (some g))).run Try.prog w=.ok () w'∧Nest w' b (l ++ [(x,g)])∧w.grownBy w' (some b):=by
 obtain ⟨w',r1,r2,r3⟩:=World.ownsMap.update h (int_keyed Try.underlying3) Try.underlying122 (by unfold maxLen;omega) (keyOf_int_mk Try.underlying3 (wf_i64 (x:=x) (by omega) (by omega))) (show mapR (.map (some g))=some (.lit (.int .i64 g),[]) from rfl)
 refine ⟨w',r1,?_,r3⟩
 unfold Nest nestD
 rw [List.foldl_append,List.length_append]
 exact r2
set_option maxRecDepth 100000 in
theorem Nest.look {w:World} {b g0 g1:Nat} (h:Nest w b [(0,g0),(1,g1)]) {m:Nat} (hm:m < 2) :
  (Instr.lookup 122 (.map (some b)) (.int .i64 m) false).run Try.prog w=.ok (.map (some (if m=0 then g0 else g1))) w:=by
 have hz:(zeroValue 121).run Try.prog w=.ok (.map none) w:=by kernel_rfl
 obtain ⟨v,ps,hrun,hv⟩:=World.ownsMap.lookup h (int_keyed Try.underlying3) Try.underlying122 hz (show mapR (.map none)=some (.lit (.int .i64 (-1)),[]) from rfl) (keyOf_int_mk Try.underlying3 (wf_i64 (x:=(m:Int)) (by omega) (by omega)))
 have hat:(nestD [(0,g0),(1,g1)]).atKey (.int .i64 m) (.lit (.int .i64 (-1)))=.lit (.int .i64 (if m=0 then g0 else g1:Nat)):=by
  rcases (show m=0∨m=1 by omega) with rfl | rfl <;> rfl
 rw [hat] at hv
 have:v=.map (some (if m=0 then g0 else g1)):=by
  unfold mapR at hv
  split at hv
  ·injection hv with hv;injection hv with hv _;injection hv with hv;injection hv with _ hv
   rw [Int.ofNat.inj hv]
  ·injection hv with hv;injection hv with hv _;injection hv with hv;injection hv with _ hv
   exfalso;split at hv <;> omega
  ·cases hv
 rw [← this];exact hrun
end
section
open Go.RowKit Go.Maps
set_option maxRecDepth 100000 in
theorem make_num (w:World):(Instr.makeMap 121 none).run Try.prog w=.ok (.map (some w.heap.size)) (w.alloc (.map #[] 0)):=run_makeMap _ w
theorem make_nest (w:World):(Instr.makeMap 122 none).run Try.prog w=.ok (.map (some w.heap.size)) (w.alloc (.map #[] 0)):=run_makeMap _ w
structure Maps4 (w:World) (gm gn g0 g1:Nat) (F P0 P1:Int→Int):Prop where
 m:Num w gm F
 n:Nest w gn [(0,g0),(1,g1)]
 p0:Num w g0 P0
 p1:Num w g1 P1
 a1:gm < gn
 a2:gn < g0
 a3:g0 < g1
theorem Maps4.below {w w':World} {B gm gn g0 g1:Nat} {F P0 P1:Int→Int} (h:Maps4 w gm gn g0 g1 F P0 P1) (hb:Below B w w') (hB:g1 < B):Maps4 w' gm gn g0 g1 F P0 P1:=by
 have:=h.a1
 have:=h.a2
 have:=h.a3
 exact ⟨h.m.below hb (by omega),h.n.below hb (by omega),h.p0.below hb (by omega),h.p1.below hb (by omega),h.a1,h.a2,h.a3⟩
set_option maxRecDepth 100000 in
theorem maps_made (w:World):∃ w7 w9,(Instr.mapUpdate 122 (.map (some (w.heap.size + 1))) (.int .i64 0) (.map (some (w.heap.size + 1 + 1)))).run Try.prog (((w.alloc (.map #[] 0)).alloc (.map #[] 0)).alloc (.map #[] 0))=.ok () w7 ∧
  (Instr.mapUpdate 122 (.map (some (w.heap.size + 1))) (.int .i64 1) (.map (some w7.heap.size))).run Try.prog (w7.alloc (.map #[] 0))=.ok () w9 ∧
  Maps4 w9 w.heap.size (w.heap.size + 1) (w.heap.size + 1 + 1) w7.heap.size (fun _=>0) (fun _=>0) (fun _=>0)∧Below w.heap.size w w9:=by
 have m5:Num (w.alloc (.map #[] 0)) w.heap.size (fun _=>0):=Num.made w
 have n6:Nest ((w.alloc (.map #[] 0)).alloc (.map #[] 0)) (w.heap.size + 1) []:=by have:=Nest.made (w.alloc (.map #[] 0));rwa [World.size_alloc] at this
 obtain ⟨v1,hv1⟩:∃ v,v=w.alloc (.map #[] 0):=⟨_,rfl⟩
 have s1:v1.heap.size=w.heap.size + 1:=by rw [hv1];simp
 have b1:Below w.heap.size w v1:=by rw [hv1];exact (Below.refl _ _).alloc (Nat.le_refl _) _
 rw [← hv1] at m5 n6 ⊢
 obtain ⟨v2,hv2⟩:∃ v,v=v1.alloc (.map #[] 0):=⟨_,rfl⟩
 have s2:v2.heap.size=w.heap.size + 1 + 1:=by rw [hv2];simp [s1]
 have b2:Below v1.heap.size v1 v2:=by rw [hv2];exact (Below.refl _ _).alloc (Nat.le_refl _) _
 rw [← hv2] at n6 ⊢
 obtain ⟨v3,hv3⟩:∃ v,v=v2.alloc (.map #[] 0):=⟨_,rfl⟩
 have s3:v3.heap.size=w.heap.size + 1 + 1 + 1:=by rw [hv3];simp [s2]
 have b3:Below v2.heap.size v2 v3:=by rw [hv3];exact (Below.refl _ _).alloc (Nat.le_refl _) _
 have p3:Num v3 (w.heap.size + 1 + 1) (fun _=>0):=by have:=Num.made v2;rw [← hv3,s2] at this;exact this
 rw [← hv3]
 obtain ⟨w7,r7,n7,g7⟩:=(n6.below b3 (by omega)).put 0 (w.heap.size + 1 + 1) (by omega) (by decide)
 have s7:=g7.size
 have m7:=((m5.below b2 (by omega)).below b3 (by omega)).kept g7 (by simp)
 have p7:=p3.kept g7 (by simp)
 obtain ⟨v8,hv8⟩:∃ v,v=w7.alloc (.map #[] 0):=⟨_,rfl⟩
 have b8:Below w7.heap.size w7 v8:=by rw [hv8];exact (Below.refl _ _).alloc (Nat.le_refl _) _
 have s8:=b8.size
 have q8:Num v8 w7.heap.size (fun _=>0):=by have:=Num.made w7;rw [← hv8] at this;exact this
 obtain ⟨w9,r9,n9,g9⟩:=(n7.below b8 (by omega)).put 1 w7.heap.size (by omega) (by simp)
 refine ⟨w7,w9,r7,by rw [← hv8];exact r9,⟨(m7.below b8 (by omega)).kept g9 (by simp),n9,(p7.below b8 (by omega)).kept g9 (by simp),q8.kept g9 (by simp;omega),by omega,by omega,by omega⟩,?_⟩
 have h7:=below_of_grown1 (B:=w.heap.size) g7 (by omega) (by omega)
 have h9:=below_of_grown1 (B:=w.heap.size) g9 (by omega) (by omega)
 exact b1.trans ((b2.mono (by omega)).trans ((b3.mono (by omega)).trans (h7.trans ((b8.mono (by omega)).trans h9))))
section
variable {w:World} {gm gn g0 g1:Nat} {F P0 P1:Int→Int}
theorem Maps4.putM (h:Maps4 w gm gn g0 g1 F P0 P1) (x v:Int) (hx:0 ≤ x∧x ≤ 7) (hv:-9223372036854775808 ≤ v∧v ≤ 9223372036854775807) :
  ∃ w' F',F'=(fun y=>if y=x then v else F y)∧(Instr.mapUpdate 121 (.map (some gm)) (.int .i64 x) (.int .i64 v)).run Try.prog w=.ok () w'∧Maps4 w' gm gn g0 g1 F' P0 P1∧w.grownBy w' (some gm):=by
 obtain ⟨w',r,hn,hg⟩:=h.m.put x v hx hv
 have:=h.a1
 have:=h.a2
 have:=h.a3
 exact ⟨w',_,rfl,r,⟨hn,h.n.kept hg (by simp;omega),h.p0.kept hg (by simp;omega),h.p1.kept hg (by simp;omega),h.a1,h.a2,h.a3⟩,hg⟩
theorem Maps4.put0 (h:Maps4 w gm gn g0 g1 F P0 P1) (x v:Int) (hx:0 ≤ x∧x ≤ 7) (hv:-9223372036854775808 ≤ v∧v ≤ 9223372036854775807) :
  ∃ w' F',F'=(fun y=>if y=x then v else P0 y)∧(Instr.mapUpdate 121 (.map (some g0)) (.int .i64 x) (.int .i64 v)).run Try.prog w=.ok () w'∧Maps4 w' gm gn g0 g1 F F' P1∧w.grownBy w' (some g0):=by
 obtain ⟨w',r,hn,hg⟩:=h.p0.put x v hx hv
 have:=h.a1
 have:=h.a2
 have:=h.a3
 exact ⟨w',_,rfl,r,⟨h.m.kept hg (by simp;omega),h.n.kept hg (by simp;omega),hn,h.p1.kept hg (by simp;omega),h.a1,h.a2,h.a3⟩,hg⟩
theorem Maps4.put1 (h:Maps4 w gm gn g0 g1 F P0 P1) (x v:Int) (hx:0 ≤ x∧x ≤ 7) (hv:-9223372036854775808 ≤ v∧v ≤ 9223372036854775807) :
  ∃ w' F',F'=(fun y=>if y=x then v else P1 y)∧(Instr.mapUpdate 121 (.map (some g1)) (.int .i64 x) (.int .i64 v)).run Try.prog w=.ok () w'∧Maps4 w' gm gn g0 g1 F P0 F'∧w.grownBy w' (some g1):=by
 obtain ⟨w',r,hn,hg⟩:=h.p1.put x v hx hv
 have:=h.a1
 have:=h.a2
 have:=h.a3
 exact ⟨w',_,rfl,r,⟨h.m.kept hg (by simp;omega),h.n.kept hg (by simp;omega),h.p0.kept hg (by simp;omega),hn,h.a1,h.a2,h.a3⟩,hg⟩
end
end
section
open Go.RowKit
theorem z_way1 {W Z:World} {k:Nat} {x y:Value} (hk:k ≤ maxLen) (hZ:Z=((W.alloc (.cells (zeros k) 3)).alloc (.cells #[x,y,.slice (some ⟨W.heap.size,0,none⟩) k k] 37)).drew) :
  Below W.heap.size W Z∧Blk Z (W.heap.size + 1) 37 #[x,y,.slice (some ⟨W.heap.size,0,none⟩) k k]∧Rd Z Z.heap.size 1 (some ⟨W.heap.size,0,none⟩) k k (ints (List.replicate k 0)):=by
 have h1:Below W.heap.size W (W.alloc (.cells (zeros k) 3)):=below_all _ _
 have r1:=rd_zeros W k _ rfl hk
 obtain ⟨V,hV⟩:∃ V,V=W.alloc (.cells (zeros k) 3):=⟨_,rfl⟩
 have hs:V.heap.size=W.heap.size + 1:=by rw [hV];simp
 rw [← hV] at h1 r1 hZ
 have h2:Below V.heap.size V Z:=by rw [hZ];exact dk_drew (below_all _ _)
 have h3:=h2.size
 refine ⟨h1.trans (h2.mono (by omega)),?_,((r1.below (h2.mono (by omega)))).up (by omega)⟩
 rw [hZ,← hs];exact Blk.drewN (Blk.new V _ _) 1
theorem z_way2 {W Z:World} {k:Nat} {x y:Value} (hk:k ≤ maxLen) (hZ:Z=((W.alloc (.cells #[x,y,.slice (some ⟨W.heap.size + 1,0,none⟩) k k] 37)).alloc (.cells (zeros k) 3)).drew) :
  Below W.heap.size W Z∧Blk Z W.heap.size 37 #[x,y,.slice (some ⟨W.heap.size + 1,0,none⟩) k k]∧Rd Z Z.heap.size 1 (some ⟨W.heap.size + 1,0,none⟩) k k (ints (List.replicate k 0)):=by
 obtain ⟨V,hV⟩:∃ V,V=W.alloc (.cells #[x,y,.slice (some ⟨W.heap.size + 1,0,none⟩) k k] 37):=⟨_,rfl⟩
 have hs:V.heap.size=W.heap.size + 1:=by rw [hV];simp
 have h1:Below W.heap.size W V:=by rw [hV];exact below_all _ _
 have z1:Blk V W.heap.size 37 #[x,y,.slice (some ⟨W.heap.size + 1,0,none⟩) k k]:=by rw [hV];exact Blk.new W _ _
 rw [← hV] at hZ
 have r1:=rd_zeros V k _ rfl hk
 obtain ⟨V2,hV2⟩:∃ V2,V2=V.alloc (.cells (zeros k) 3):=⟨_,rfl⟩
 have h2:Below V.heap.size V V2:=by rw [hV2];exact below_all _ _
 have hs2:V2.heap.size=V.heap.size + 1:=by rw [hV2];simp
 rw [← hV2] at hZ r1
 have h3:Below V2.heap.size V2 Z:=by rw [hZ];exact dk_drew (Below.refl _ _)
 have h4:=h3.size
 refine ⟨h1.trans ((h2.trans (h3.mono (by omega))).mono (by omega)),(z1.below h2 z1.lt).below h3 (by omega),?_⟩
 rw [← hs]
 exact (r1.below (h3.mono (by omega))).up (by omega)
set_option maxHeartbeats 16000000 in
set_option maxRecDepth 100000 in
theorem venueFills_walk (V:Vn) (A:Option Addr) (c:Nat) (M:Option Addr) (k:Nat) (cm:Cm) (w:World) (h:VnR w w.heap.size A c M k V) :
  Calls Try.prog 23 #[.agg #[.slice A V.accs.length c,.slice M V.mks.length k,.int .i64 V.ins,.int .i64 V.resid,.int .i64 V.next,.int .i64 V.inn,.int .i64 V.out],.agg #[.int .i64 cm.kind,.int .i64 cm.acc,.int .i64 cm.market,.int .i64 cm.n,.int .i64 cm.o.id,.int .i64 cm.o.acc,.int .i64 cm.o.side,.int .i64 cm.o.price,.int .i64 cm.o.qty,.int .i64 cm.how,.bool cm.reduce]] w fun e w'=>e=.returned (.bool true)∧Below w.heap.size w w':=by
 have HV:=Lib.hid h
 obtain ⟨U,ev,ed,hdo⟩:∃ U ev ed,doOf V cm=(U,ev,ed):=⟨_,_,_,rfl⟩
 have HDO:=Lib.hid hdo
 clear h hdo
 go_enter Try.func23,Try.ntmps23
 go_wp2_with fail
 refine calls_name ?_
 intro W0 hW0
 have hB0:Below w.heap.size w W0:=by rw [hW0];exact ((Below.refl _ _).alloc (Nat.le_refl _) _).alloc (by simp) _
 have X0:Blk W0 w.heap.size 111 #[.slice A V.accs.length c,.slice M V.mks.length k,.int .i64 V.ins,.int .i64 V.resid,.int .i64 V.next,.int .i64 V.inn,.int .i64 V.out]:=by rw [hW0];exact (Blk.new w _ _).alloc _
 have C0:Blk W0 (w.heap.size + 1) 113 #[.int .i64 cm.kind,.int .i64 cm.acc,.int .i64 cm.market,.int .i64 cm.n,.int .i64 cm.o.id,.int .i64 cm.o.acc,.int .i64 cm.o.side,.int .i64 cm.o.price,.int .i64 cm.o.qty,.int .i64 cm.how,.bool cm.reduce]:=by rw [hW0];exact Blk.new_at _ _ _ _ (by simp)
 have hs0:W0.heap.size=w.heap.size + 2:=by rw [hW0];simp
 clear hW0
 refine (vdo_ref V cm A M c k w.heap.size W0 HDO.out (HV.out.below hB0) (by omega)).mono ?_
 rintro e W1 ⟨A1,c1,M1,k1,E1,n1,rfl,⟨xs1,ha1⟩,⟨ys1,hm1⟩,he1,hb1⟩
 have hs1:=hb1.size
 go_wp2_with fail
 refine calls_name ?_
 intro W2 hW2
 have hB2:Below W1.heap.size W1 W2:=by rw [hW2];exact (Below.refl _ _).alloc (Nat.le_refl _) _
 have Y2:Blk W2 W1.heap.size 111 #[.slice A1 U.accs.length c1,.slice M1 U.mks.length k1,.int .i64 U.ins,.int .i64 U.resid,.int .i64 U.next,.int .i64 U.inn,.int .i64 U.out]:=by rw [hW2];exact Blk.new W1 _ _
 have hs2:=hB2.size
 clear hW2
 refine (opened_any W2).mono ?_
 rintro e W3 ⟨rfl,hb3⟩
 have hs3:=hb3.size
 have hB13:Below W1.heap.size W1 W3:=hB2.trans (hb3.mono hs2)
 have hB3:Below w.heap.size w W3:=hB0.trans ((hb1.mono (by omega)).trans (hB13.mono (by omega)))
 have X3:=X0.below (hb1.trans (hB13.mono hs1)) X0.lt
 have C3:=C0.below (hb1.trans (hB13.mono hs1)) C0.lt
 have Y3:=Y2.below hb3 Y2.lt
 have HU3:=Lib.hid (show VnR W3 W3.heap.size A1 c1 M1 k1 U from ⟨(ha1.below hB13).read,(hm1.below hB13).read⟩)
 have HE3:=Lib.hid (Rd.of_own (own_below he1 hB13 (Nat.le_refl _)))
 have HV3:=Lib.hid (HV.out.below hB3)
 clear ha1 hm1 he1 hb1 hb3 hB13 hB2 hB0 X0 C0 Y2
 by_cases he:ed=0
 rotate_left
 ·have he':(ed != 0)=true:=by simpa using he
  clear he
  go_wp2_with fail
  refine (opened_any W3).mono ?_
  rintro e W4 ⟨rfl,hb4⟩
  go_wp2_with fail
  go_ret
  exact ⟨rfl,hB3.trans (hb4.mono (by omega))⟩
 subst he
 obtain ⟨b,hb⟩:∃ b,rejB ev=b:=⟨_,rfl⟩
 have HB:=Lib.hid hb
 clear hb
 have yw:=Y3.lt
 have yc:=C3.lt
 go_wp2_with fail
 refine (rejected_ref E1 _ n1 ev W3.heap.size W3 HB.out HE3.out (Nat.le_refl _)).mono ?_
 rintro e w5 ⟨rfl,rfl⟩
 rcases bool_cs' b with rfl | rfl
 ·go_wp2_with fail
  refine (opened_any W3).mono ?_
  rintro e W4 ⟨rfl,hb4⟩
  go_wp2_with fail
  go_ret
  exact ⟨rfl,hB3.trans (hb4.mono (by omega))⟩
 have HST:=Lib.hid (fills_law HDO.out HB.out)
 have hmk1:=make_num
 have hmk2:=make_nest
 obtain ⟨w7,W9,r7,r9,hM9,hb9⟩:=maps_made W3
 have hs9:=hb9.size
 have hg1:=hM9.p1.lt
 have hb3:=hB3.size
 have HX9:=Lib.hid (X3.below hb9 X3.lt)
 have HY9:=Lib.hid (Y3.below hb9 Y3.lt)
 have HC9:=Lib.hid (C3.below hb9 C3.lt)
 have HU9:=Lib.hid (HU3.out.below hb9)
 have HE9:=Lib.hid (HE3.out.below hb9)
 have HV9:=Lib.hid (HV3.out.below (hb9.mono hb3))
 have hB9:=hB3.trans (hb9.mono hb3)
 have hx9:=X3.lt
 have hle9:=HE9.out.le
 have hcap9:=HE9.out.cap
 unfold maxLen at hcap9
 have hg2:=hM9.a2
 have hg3:=hM9.a3
 have hgn:W3.heap.size ≤ w7.heap.size:=by omega
 clear X3 Y3 C3 HU3 HE3 HV3
 go_wp2_with fail
 clear r7 r9
 go_loopw [46] (fun i wr=>∃ (j:Nat) (F P0 P1:Int→Int),j ≤ ev.length∧i=.int .i64 j∧Below W3.heap.size W9 wr∧Hid (Maps4 wr W3.heap.size (W3.heap.size + 1) (W3.heap.size + 1 + 1) w7.heap.size F P0 P1) ∧
  Hid (Cnt F (moneySum (placeB cm) (ev.take j))∧Cnt P0 (posSumE (ev.take j) 0)∧Cnt P1 (posSumE (ev.take j) 1))) (fun i _=>ev.length - (intOf i).toNat)
 case atStart=>exact ⟨0,_,_,_,by omega,rfl,Below.refl _ _,Lib.hid hM9,Lib.hid ⟨Cnt.zero,Cnt.zero,Cnt.zero⟩⟩
 case round =>
  obtain ⟨j,F,P0,P1,hj,rfl,hbr,HM,HF⟩:=hrel
  have hws:=hbr.size
  have hgw:=HM.out.p1.lt
  by_cases hlt:j < ev.length
  ·obtain ⟨b,o,x,rfl,hb,hx,hce⟩:=ev_at (HE9.out.below (hbr.mono (by omega))) hlt
   have v0:=hce 0 _ rfl
   have v1:=hce 1 _ rfl
   have v2:=hce 2 _ rfl
   have v3:=hce 3 _ rfl
   have v4:=hce 4 _ rfl
   have v5:=hce 5 _ rfl
   have v6:=hce 6 _ rfl
   have v7:=hce 7 _ rfl
   have v8:=hce 8 _ rfl
   have v9:=hce 9 _ rfl
   have v10:=hce 10 _ rfl
   have v11:=hce 11 _ rfl
   have v12:=hce 12 _ rfl
   have HX:=Lib.hid hx
   have hbw:b < wr.heap.size:=by omega
   rw [Nat.add_zero] at v0
   clear hce hx
   obtain ⟨WA,hWA⟩:∃ W,W=wr.alloc (.cells #[.int .i64 x.kind,.int .i64 x.err,.int .i64 x.market,.int .i64 x.id,.int .i64 x.acc,.int .i64 x.n,.int .i64 x.f.maker,.int .i64 x.f.taker,.int .i64 x.f.macc,.int .i64 x.f.tacc,.int .i64 x.f.side,.int .i64 x.f.price,.int .i64 x.f.qty] 124):=⟨_,rfl⟩
   have hA:Below wr.heap.size wr WA:=by rw [hWA];exact below_all _ _
   have ZA:Blk WA wr.heap.size 124 #[.int .i64 x.kind,.int .i64 x.err,.int .i64 x.market,.int .i64 x.id,.int .i64 x.acc,.int .i64 x.n,.int .i64 x.f.maker,.int .i64 x.f.taker,.int .i64 x.f.macc,.int .i64 x.f.tacc,.int .i64 x.f.side,.int .i64 x.f.price,.int .i64 x.f.qty]:=by rw [hWA];exact Blk.new wr _ _
   have hMA:=HM.out.below hA hgw
   have hsA:=hA.size
   have hbA:Below W3.heap.size W9 WA:=hbr.trans (hA.mono (by omega))
   by_cases h5:x.kind=5
   ·obtain ⟨hacc,hn⟩:=HST.out.2.2.moved x (List.mem_of_getElem? HX.out) h5
    obtain ⟨WB,FB,hFB,rB,hMB,gB⟩:=hMA.putM x.acc (wrap64 (F x.acc + x.n)) hacc (wrap_rng _)
    have lA:=hMA.m.look x.acc (by omega)
    have hbB:Below W3.heap.size W9 WB:=hbA.trans (below_of_grown1 gB (by omega) (by omega))
    have HN:=Lib.hid (show Cnt FB (moneySum (placeB cm) (ev.take (j + 1))) from hFB ▸ cnt_moved HX.out HF.out.1 h5)
    have HN0:=Lib.hid (cnt_posO (m:=0) HX.out HF.out.2.1 (by omega))
    have HN1:=Lib.hid (cnt_posO (m:=1) HX.out HF.out.2.2 (by omega))
    have e5:(x.kind == 5)=true:=by simpa using h5
    rw [hWA] at rB lA
    clear hFB hMA ZA hA hWA gB h5
    go_wp2_with fail
    go_roundw
    case rel=>exact ⟨j + 1,FB,P0,P1,by omega,by go_num,hbB,Lib.hid hMB,Lib.hid ⟨HN.out,HN0.out,HN1.out⟩⟩
    case measure=>simp [intOf];omega
   ·have e5:(x.kind == 5)=false:=by simpa using h5
    by_cases h36:x.kind=3∨x.kind=6
    ·obtain ⟨⟨k,hmk,hkm⟩,hq,hp,hsd,hta,hma⟩:=HST.out.2.2.fills x (List.mem_of_getElem? HX.out) h36
     have hk2:k < 2:=by have:=HST.out.1.len.2;simp only at hkm;omega
     obtain ⟨n,hn⟩:∃ n,x.f.side * x.f.qty=n:=⟨_,rfl⟩
     obtain ⟨p,hpp⟩:∃ p,n * x.f.price=p:=⟨_,rfl⟩
     have hn1:-1000 ≤ n∧n ≤ 1000:=by rcases hsd with h | h <;> rw [h] at hn <;> omega
     have hp1:-10000000 ≤ p∧p ≤ 10000000:=by
      have h1:n * x.f.price ≤ 1000 * x.f.price:=Int.mul_le_mul_of_nonneg_right hn1.2 hp.1
      have h2:-1000 * x.f.price ≤ n * x.f.price:=Int.mul_le_mul_of_nonneg_right hn1.1 hp.1
      omega
     obtain ⟨fee,hfee⟩:∃ fee,evFee (placeB cm) x=fee:=⟨_,rfl⟩
     have hf1:0 ≤ fee∧fee ≤ 5000:=by
      rw [← hfee];unfold evFee
      split
      ·exact (fee_pos hq hp).2
      ·omega
     obtain ⟨WB,FB,hFB,rB,hMB,gB⟩:=hMA.putM x.f.tacc (wrap64 (F x.f.tacc - (p + fee))) hta (wrap_rng _)
     have lA:=hMA.m.look x.f.tacc (by omega)
     obtain ⟨WC,FC,hFC,rC,hMC,gC⟩:=hMB.putM x.f.macc (wrap64 (FB x.f.macc + p)) hma (wrap_rng _)
     have lB:=hMB.m.look x.f.macc (by omega)
     have hsB:=gB.size
     have hsC:=gC.size
     have ZB:=ZA.grown gB (by simp;omega)
     have ZC:=ZB.grown gC (by simp;omega)
     have hbB:Below W3.heap.size W9 WB:=hbA.trans (below_of_grown1 gB (by omega) (by omega))
     have hbC:Below W3.heap.size W9 WC:=hbB.trans (below_of_grown1 gC (by omega) (by omega))
     have HN:=Lib.hid (cnt_fill HX.out HF.out.1 h36 (by rw [hn];exact hpp) hfee hFB hFC)
     have HFEE:=Lib.hid hfee
     have bq8:WB.cell? ⟨wr.heap.size,8,none⟩=some (.int .i64 x.f.macc):=ZB.cell 8
     have bq11:WB.cell? ⟨wr.heap.size,11,none⟩=some (.int .i64 x.f.price):=ZB.cell 11
     have cq2:WC.cell? ⟨wr.heap.size,2,none⟩=some (.int .i64 x.market):=ZC.cell 2
     have cq9:WC.cell? ⟨wr.heap.size,9,none⟩=some (.int .i64 x.f.tacc):=ZC.cell 9
     have d1:decide (x.market < 0)=false:=decide_eq_false (by omega)
     have d2:decide (1 < x.market)=false:=decide_eq_false (by omega)
     have zB:wr.heap.size < WB.heap.size:=ZB.lt
     have zC:wr.heap.size < WC.heap.size:=ZC.lt
     have HQ:=Lib.hid hq
     have HP:=Lib.hid hp
     have HMK:=Lib.hid hmk
     have HN2:=Lib.hid hn
     have HKA:=Lib.hid h36
     have qc:WA.cell? ⟨w.heap.size + 1,0,none⟩=some (.int .i64 cm.kind):=(HC9.out.below hbA (by omega)).cell 0
     rw [hWA] at rB lA qc
     have ek:(x.kind == 3)=true∨(x.kind == 3)=false∧(x.kind == 6)=true:=by
      rcases h36 with h | h
      ·left;rw [h];rfl
      ·right;rw [h];exact ⟨rfl,rfl⟩
     clear hmk hfee hFB hFC hMA ZA hA gB gC hq hp h36 hsd hMB ZB h5
     rcases (show k=0∨k=1 by omega) with rfl | rfl
     ·skip
      obtain ⟨WD,PD,hPD,rD,hMD,gD⟩:=hMC.put0 x.f.tacc (wrap64 (P0 x.f.tacc + n)) hta (wrap_rng _)
      have lC:=hMC.p0.look x.f.tacc (by omega)
      obtain ⟨WE,PE,hPE,rE,hME,gE⟩:=hMD.put0 x.f.macc (wrap64 (PD x.f.macc - n)) hma (wrap_rng _)
      have lD:=hMD.p0.look x.f.macc (by omega)
      have hsD:=gD.size
      have ZD:=ZC.grown gD (by simp;omega)
      have dq2:WD.cell? ⟨wr.heap.size,2,none⟩=some (.int .i64 x.market):=ZD.cell 2
      have dq8:WD.cell? ⟨wr.heap.size,8,none⟩=some (.int .i64 x.f.macc):=ZD.cell 8
      have zD:wr.heap.size < WD.heap.size:=ZD.lt
      have nC:(Instr.lookup 122 (.map (some (W3.heap.size + 1))) (.int .i64 x.market) false).run Try.prog WC=.ok (.map (some (W3.heap.size + 1 + 1))) WC:=by rw [HMK.out];exact hMC.n.look (m:=0) (by omega)
      have nD:(Instr.lookup 122 (.map (some (W3.heap.size + 1))) (.int .i64 x.market) false).run Try.prog WD=.ok (.map (some (W3.heap.size + 1 + 1))) WD:=by rw [HMK.out];exact hMD.n.look (m:=0) (by omega)
      have hbD:Below W3.heap.size W9 WD:=hbC.trans (below_of_grown1 gD (by omega) (by omega))
      have hbE:Below W3.heap.size W9 WE:=hbD.trans (below_of_grown1 gE (by omega) (by omega))
      have HNP:=Lib.hid (cnt_pos (m:=0) HX.out HF.out.2.1 HKA.out HMK.out HN2.out hPD hPE)
      have HNO:=Lib.hid (cnt_posO (m:=1) HX.out HF.out.2.2 (by have:=HMK.out;omega))
      have HME:=Lib.hid hME
      clear hPD hPE gD gE hMD hME hMC ZD ZC
      rcases ek with ek | ⟨ek,ek2⟩
      all_goals
       by_cases hpl:cm.kind=3
       ·have epl:(cm.kind == 3)=true:=by simpa using hpl
        have HFO:=Lib.hid (show feeOf x.f.qty x.f.price=(fee,0) by
         have h1:=HFEE.out
         unfold evFee placeB at h1
         rw [if_pos (by simpa using hpl)] at h1
         exact Prod.ext h1 (fee_pos HQ.out HP.out).1)
        clear hpl
        go_wp2_with fail
        refine (fee_any _ _ _).mono ?_
        rw [HFO.out]
        rintro e wf ⟨rfl,rfl⟩
        go_wp2_with fail
        go_roundw
        case rel=>exact ⟨j + 1,FC,PE,P1,by omega,by go_num,hbE,HME,Lib.hid ⟨HN.out,HNP.out,HNO.out⟩⟩
        case measure=>simp [intOf];omega
       ·have epl:(cm.kind == 3)=false:=by simpa using hpl
        obtain rfl:0=fee:=by
         have h1:=HFEE.out
         unfold evFee placeB at h1
         rwa [if_neg (by simpa using hpl)] at h1
        rw [Int.add_zero] at rB
        clear hpl
        go_wp2_with fail
        go_roundw
        case rel=>exact ⟨j + 1,FC,PE,P1,by omega,by go_num,hbE,HME,Lib.hid ⟨HN.out,HNP.out,HNO.out⟩⟩
        case measure=>simp [intOf];omega
     ·skip
      obtain ⟨WD,PD,hPD,rD,hMD,gD⟩:=hMC.put1 x.f.tacc (wrap64 (P1 x.f.tacc + n)) hta (wrap_rng _)
      have lC:=hMC.p1.look x.f.tacc (by omega)
      obtain ⟨WE,PE,hPE,rE,hME,gE⟩:=hMD.put1 x.f.macc (wrap64 (PD x.f.macc - n)) hma (wrap_rng _)
      have lD:=hMD.p1.look x.f.macc (by omega)
      have hsD:=gD.size
      have ZD:=ZC.grown gD (by simp;omega)
      have dq2:WD.cell? ⟨wr.heap.size,2,none⟩=some (.int .i64 x.market):=ZD.cell 2
      have dq8:WD.cell? ⟨wr.heap.size,8,none⟩=some (.int .i64 x.f.macc):=ZD.cell 8
      have zD:wr.heap.size < WD.heap.size:=ZD.lt
      have nC:(Instr.lookup 122 (.map (some (W3.heap.size + 1))) (.int .i64 x.market) false).run Try.prog WC=.ok (.map (some (w7.heap.size))) WC:=by rw [HMK.out];exact hMC.n.look (m:=1) (by omega)
      have nD:(Instr.lookup 122 (.map (some (W3.heap.size + 1))) (.int .i64 x.market) false).run Try.prog WD=.ok (.map (some (w7.heap.size))) WD:=by rw [HMK.out];exact hMD.n.look (m:=1) (by omega)
      have hbD:Below W3.heap.size W9 WD:=hbC.trans (below_of_grown1 gD (by omega) (by omega))
      have hbE:Below W3.heap.size W9 WE:=hbD.trans (below_of_grown1 gE (by omega) (by omega))
      have HNP:=Lib.hid (cnt_pos (m:=1) HX.out HF.out.2.2 HKA.out HMK.out HN2.out hPD hPE)
      have HNO:=Lib.hid (cnt_posO (m:=0) HX.out HF.out.2.1 (by have:=HMK.out;omega))
      have HME:=Lib.hid hME
      clear hPD hPE gD gE hMD hME hMC ZD ZC
      rcases ek with ek | ⟨ek,ek2⟩
      all_goals
       by_cases hpl:cm.kind=3
       ·have epl:(cm.kind == 3)=true:=by simpa using hpl
        have HFO:=Lib.hid (show feeOf x.f.qty x.f.price=(fee,0) by
         have h1:=HFEE.out
         unfold evFee placeB at h1
         rw [if_pos (by simpa using hpl)] at h1
         exact Prod.ext h1 (fee_pos HQ.out HP.out).1)
        clear hpl
        go_wp2_with fail
        refine (fee_any _ _ _).mono ?_
        rw [HFO.out]
        rintro e wf ⟨rfl,rfl⟩
        go_wp2_with fail
        go_roundw
        case rel=>exact ⟨j + 1,FC,P0,PE,by omega,by go_num,hbE,HME,Lib.hid ⟨HN.out,HNO.out,HNP.out⟩⟩
        case measure=>simp [intOf];omega
       ·have epl:(cm.kind == 3)=false:=by simpa using hpl
        obtain rfl:0=fee:=by
         have h1:=HFEE.out
         unfold evFee placeB at h1
         rwa [if_neg (by simpa using hpl)] at h1
        rw [Int.add_zero] at rB
        clear hpl
        go_wp2_with fail
        go_roundw
        case rel=>exact ⟨j + 1,FC,P0,PE,by omega,by go_num,hbE,HME,Lib.hid ⟨HN.out,HNO.out,HNP.out⟩⟩
        case measure=>simp [intOf];omega
    ·have e3:(x.kind == 3)=false:=by simp;omega
     have e6:(x.kind == 6)=false:=by simp;omega
     have HN:=Lib.hid (cnt_other HX.out HF.out.1 (by omega))
     have HN0:=Lib.hid (cnt_posO (m:=0) HX.out HF.out.2.1 (by omega))
     have HN1:=Lib.hid (cnt_posO (m:=1) HX.out HF.out.2.2 (by omega))
     rw [hWA] at hbA hMA
     clear ZA hA hWA h5 h36
     go_wp2_with fail
     go_roundw
     case rel=>exact ⟨j + 1,F,P0,P1,by omega,by go_num,hbA,Lib.hid hMA,Lib.hid ⟨HN.out,HN0.out,HN1.out⟩⟩
     case measure=>simp [intOf];omega
  ·obtain rfl:j=ev.length:=by omega
   have HFA:=Lib.hid (show Cnt F (moneySum (placeB cm) ev)∧Cnt P0 (posSumE ev 0)∧Cnt P1 (posSumE ev 1) by have:=HF.out;rwa [List.take_length] at this)
   have k0:wr.cell? ⟨W1.heap.size,0,none⟩=some (.slice A1 U.accs.length c1):=(HY9.out.below hbr (by omega)).cell 0
   have yr:W1.heap.size < wr.heap.size:=by omega
   have hal:U.accs.length ≤ 8:=aok_len HST.out.2.1.accs
   have hvl:V.accs.length ≤ 8:=aok_len HST.out.1.accs
   clear HF
   go_wp2_with fail
   go_loopw [143] (fun i wq=>∃ (m:Nat),m ≤ U.accs.length∧i=.int .i64 m∧Below W3.heap.size W9 wq∧Hid (Maps4 wq W3.heap.size (W3.heap.size + 1) (W3.heap.size + 1 + 1) w7.heap.size F P0 P1)) (fun i _=>U.accs.length - (intOf i).toNat)
   case atStart=>exact ⟨0,by omega,rfl,hbr,HM⟩
   case round =>
    clear k0 yr HM
    obtain ⟨m,hm,rfl,hbq,HQ⟩:=hrel
    obtain ⟨wq,rfl⟩:∃ wq,wq=wr:=⟨wr,rfl⟩
    have hwq:=hbq.size
    have hgq:=HQ.out.p1.lt
    by_cases hlm:m < U.accs.length
    ·obtain ⟨b,o,u,rfl,hb,hu,A2,c2,q0,q1,q2,q3,q4⟩:=acc_at (HU9.out.accs.below (hbq.mono (by omega))) hlm
     have hbw:b < wq.heap.size:=by omega
     have HUU:=Lib.hid hu
     have HQ3:=Lib.hid q3
     have hpl:u.pos.length ≤ 2:=by have:=(accCheck_ok (HST.out.2.1.accs.ok u (List.mem_of_getElem? hu))).2.2.1;have:=HST.out.2.1.len.2;omega
     obtain ⟨WB,hWB⟩:∃ W,W=wq.alloc (.cells #[.int .i64 u.id,.int .i64 u.bal,.slice A2 u.pos.length c2] 37):=⟨_,rfl⟩
     have hB:Below wq.heap.size wq WB:=by rw [hWB];exact below_all _ _
     have ZB:Blk WB wq.heap.size 37 #[.int .i64 u.id,.int .i64 u.bal,.slice A2 u.pos.length c2]:=by rw [hWB];exact Blk.new wq _ _
     have hsB:=hB.size
     have hzB:=ZB.lt
     have hzs:=run_zeros u.pos.length (by omega)
     have KS:Hid (∀ W,Below WB.heap.size WB W→Below WB.heap.size WB W∧W.cell? ⟨wq.heap.size,0,none⟩=some (.int .i64 u.id)∧W.cell? ⟨wq.heap.size,2,none⟩=some (.slice A2 u.pos.length c2)):=fun W hW=>⟨hW,(ZB.below hW hzB).cell 0,(ZB.below hW hzB).cell 2⟩
     have hBB:Below WB.heap.size WB WB:=Below.refl _ _
     have K2:Hid (∀ o1 o2,Below WB.heap.size WB ((WB.alloc o1).alloc o2)):=fun o1 o2=>(hBB.alloc (Nat.le_refl _) _).alloc (by simp) _
     have K3:Hid (∀ o1 o2,Below WB.heap.size WB (((WB.alloc o1).drew).alloc o2)):=fun o1 o2=>(dk_drew (hBB.alloc (Nat.le_refl _) _)).alloc (by simp) _
     clear hu q3
     go_upto_region 31 with (fail)
     rw [← hWB]
     clear hWB q0 q1 q2
     go_cut [18] (fun vp wx=>∃ gO z,vp=.pointer (some ⟨gO,0,none⟩)∧Below WB.heap.size WB wx∧Hid (WB.heap.size ≤ gO∧Blk wx gO 37 #[.int .i64 u.id,.int .i64 0,.slice (some ⟨z,0,none⟩) u.pos.length u.pos.length])∧Hid (Rd wx wx.heap.size 1 (some ⟨z,0,none⟩) u.pos.length u.pos.length (ints (List.replicate u.pos.length 0))))
     case first =>
      go_region_held3 (fun W=>Below WB.heap.size WB W∧W.cell? ⟨wq.heap.size,0,none⟩=some (.int .i64 u.id)∧W.cell? ⟨wq.heap.size,2,none⟩=some (.slice A2 u.pos.length c2))
       (with_reducible (first | exact KS.out _ (by assumption) | exact KS.out _ (dk_drew (by assumption)) | exact KS.out _ (Below.alloc (by assumption) (Below.size (by assumption)) _) | exact KS.out _ (dk_drew (Below.alloc (by assumption) (Below.size (by assumption)) _)) | exact KS.out _ (K2.out _ _) | exact KS.out _ (dk_drew (K2.out _ _)) | exact KS.out _ (K3.out _ _) | exact KS.out _ (dk_drew (K3.out _ _))))
       (fail)
      all_goals
       refine exit_name ?_
       intro W9' hW9
       clear KS K2 K3
       first
        | obtain ⟨f1,f2,f3⟩:=z_way1 (by unfold maxLen;omega) hW9
        | obtain ⟨f1,f2,f3⟩:=z_way2 (by unfold maxLen;omega) hW9
       clear hW9
       go_wp2_with fail
       go_meet
       exact ⟨_,_,rfl,f1,Lib.hid ⟨by omega,f2⟩,Lib.hid f3⟩
     case rest=>as_aux_lemma =>
      obtain ⟨gO,zO,rfl,hBO,HO,HZ⟩:=hcut
      obtain ⟨WO,rfl⟩:∃ W,W=wc:=⟨wc,rfl⟩
      have hsO:=hBO.size
      have hgO:=HO.out.1
      have hlO:=HO.out.2.lt
      have hbO:Below W3.heap.size W9 WO:=hbq.trans ((hB.trans (hBO.mono hsB)).mono (by omega))
      have ZO:=ZB.below hBO hzB
      have xo:WO.cell? ⟨w.heap.size,0,none⟩=some (.slice A V.accs.length c):=(HX9.out.below hbO (by omega)).cell 0
      have yo:w.heap.size < WO.heap.size:=by omega
      have hMO:=Lib.hid ((HQ.out.below hB hgq).below hBO (by omega))
      have HRU:=Lib.hid ((HQ3.out.below ((hB.trans (hBO.mono hsB)).mono (by omega))).up (show _ ≤ WO.heap.size by omega))
      clear KS K2 K3 hBB hzs ZB q4
      go_wp2_with fail
      refine (idx_fills1 u.id wq.heap.size A _ c V.accs w.heap.size WO (HV9.out.accs.below (hbO.mono (by omega))) (by omega) (by omega) (ZO.cell 0)).mono ?_
      rintro e WP ⟨rfl,hbP⟩
      obtain ⟨ix,hix⟩:∃ ix,idxL (hasAc u.id) V.accs=ix:=⟨_,rfl⟩
      have HIX:=Lib.hid hix
      rw [hix]
      have hsP:=hbP.size
      have hbP3:Below W3.heap.size W9 WP:=hbO.trans (hbP.mono (by omega))
      have ZP:=ZO.below hbP ZO.lt
      have OP:=HO.out.2.below hbP hlO
      have hMP:=Lib.hid (hMO.out.below hbP (by omega))
      have HRP:=Lib.hid ((HRU.out.below hbP).up hsP)
      have HZP:=Lib.hid ((HZ.out.below hbP).up hsP)
      have hlP:=OP.lt
      have xp:WP.cell? ⟨w.heap.size,0,none⟩=some (.slice A V.accs.length c):=(HX9.out.below hbP3 (by omega)).cell 0
      clear hix HO HZ HRU hMO ZO xo
      go_upto_if 159 with (fail)
      go_cut [18] (fun vp wx=>∃ (a:Ac) (Aa:Option Addr) (ca:Nat),vp=.pointer (some ⟨gO,0,none⟩)∧Below WB.heap.size WP wx∧Hid (Blk wx gO 37 #[.int .i64 a.id,.int .i64 a.bal,.slice Aa a.pos.length ca]∧Rd wx wx.heap.size 1 Aa a.pos.length ca (ints a.pos)) ∧
       Hid (u.bal=a.bal + moneySum (placeB cm) ev u.id∧a.pos.length=u.pos.length∧∀ (k:Nat) (y z:Int),a.pos[k]?=some y→u.pos[k]?=some z→z=y + posSumE ev k u.id))
      case first =>
       rcases idxL_cases (hasAc u.id) V.accs with ⟨h1,h2⟩ | ⟨k,a,h1,ha,hpa,_⟩
       ·obtain rfl:ix = -1:=by rw [← HIX.out];exact h1
        obtain ⟨t1,t2⟩:=fills_none HST.out.2.2 HUU.out h2
        have HT:=Lib.hid (And.intro t1 t2)
        clear h1 h2 t1 t2
        go_wp2_with fail
        go_meet
        refine ⟨⟨u.id,0,List.replicate u.pos.length 0⟩,some ⟨zO,0,none⟩,u.pos.length,rfl,Below.refl _ _,Lib.hid ⟨?_,?_⟩,Lib.hid ⟨HT.out.1,by simp,fun k y z hy hz=>?_⟩⟩
        ·simp only [List.length_replicate];exact OP
        ·simp only [List.length_replicate];exact HZP.out
        ·have:=HT.out.2 k z hz
         rw [List.getElem?_replicate] at hy
         split at hy
         ·injection hy with hy;omega
         ·cases hy
       ·obtain rfl:(k:Int)=ix:=by rw [← HIX.out];exact h1.symm
        have hkl:k < V.accs.length:=(List.getElem?_eq_some_iff.1 ha).1
        have HF2:=Lib.hid (fills_some HST.out.1 HST.out.2.2 HUU.out ha (by unfold hasAc at hpa;simpa using hpa))
        obtain ⟨bb,oo,a',rfl,hbb,ha',A6,c6,p0,p1,p2,p3,p4⟩:=acc_at (HV9.out.accs.below (hbP3.mono (by omega))) hkl
        obtain rfl:a'=a:=by rw [ha] at ha';injection ha' with ha';exact ha'.symm
        have HP3:=Lib.hid p3
        have e0:(0:Int) ≤ (k:Int):=by omega
        have hki:(k:Int) < (V.accs.length:Int):=by omega
        have hbbw:bb < WP.heap.size:=by omega
        obtain ⟨⟨o0,o1,o2⟩,fo0,fo1,fo2⟩:=OP.c3
        clear h1 ha ha' p3 hpa
        go_wp2_with fail
        go_meet
        refine ⟨a',A6,c6,rfl,?_,Lib.hid ⟨((OP.set_ 0 _).set_ 1 _).set_ 2 _,?_⟩,HF2⟩
        ·exact (((Below.refl _ _).setCell (by dsimp only;omega) _).setCell (by dsimp only;omega) _).setCell (by dsimp only;omega) _
        ·refine (HP3.out.below ((((Below.refl w.heap.size WP).setCell (by dsimp only;omega) _).setCell (by dsimp only;omega) _).setCell (by dsimp only;omega) _)).up ?_
         simp only [World.size_setCell];omega
      case rest=>as_aux_lemma =>
       obtain ⟨a,Aa,ca,rfl,hBX,HBX,HTX⟩:=hcut
       obtain ⟨WX,rfl⟩:∃ W,W=wc:=⟨wc,rfl⟩
       have hsX:=hBX.size
       have hbX:Below W3.heap.size W9 WX:=hbP3.trans (hBX.mono (by omega))
       have ZX:=ZP.below hBX hzB
       have hMX:=hMP.out.below hBX (by omega)
       have hqX:Below W3.heap.size wq WX:=(hB.mono (by omega)).trans ((hBO.mono (by omega)).trans ((hbP.mono (by omega)).trans (hBX.mono (by omega))))
       have HRX:=Lib.hid (HQ3.out.below hqX)
       have hid:=aok_ids HST.out.2.1.accs u (List.mem_of_getElem? HUU.out)
       obtain ⟨hid1,hid2⟩:=hid
       have l0:=hMX.m.look u.id (by omega)
       have e1:(u.bal != wrap64 (a.bal + F u.id))=false:=by
        obtain ⟨hb1,hb2⟩:=vok_bal HST.out.2.1 HUU.out
        rw [HFA.out.1 u.id,wrap_r,← HTX.out.1,wrap_id (by omega)];simp
       have hlX:=ZX.lt
       have hoX:=HBX.out.1.lt
       have HMX:=Lib.hid hMX
       have HZX:=Lib.hid ZX
       obtain ⟨⟨z0,z1,z2⟩,-⟩:=ZX.c3
       obtain ⟨⟨o0,o1,o2⟩,-⟩:=HBX.out.1.c3
       clear hMX hMP HRP HZP xp OP ZP
       go_wp2_with fail
       clear z0 z1 z2 o0 o1 o2 l0 e1 ZX
       go_loopw [178] (fun i wi=>∃ (kk:Nat),kk ≤ u.pos.length∧i=.int .i64 kk∧Below WX.heap.size WX wi) (fun i _=>u.pos.length - (intOf i).toNat)
       case atStart=>exact ⟨0,by omega,rfl,Below.refl _ _⟩
       case round =>
        obtain ⟨kk,hk,rfl,hbi⟩:=hrel
        obtain ⟨wi,rfl⟩:∃ wi,wi=wr:=⟨wr,rfl⟩
        have hsi:=hbi.size
        by_cases hlk:kk < u.pos.length
        ·have hla:kk < a.pos.length:=by have:=HTX.out.2.1;omega
         obtain ⟨g2,p2,rfl,hg2,z,hz,c1⟩:=(HRX.out.below (hbi.mono (by omega))).int hlk
         obtain ⟨g3,p3,rfl,hg3,y,hy,c2⟩:=(HBX.out.2.below hbi).int hla
         have HZY:=Lib.hid (HTX.out.2.2 kk y z hy hz)
         have hMI:=HMX.out.below hbi (by omega)
         have hMD:∀ q,Maps4 (wi.drewN q) W3.heap.size (W3.heap.size + 1) (W3.heap.size + 1 + 1) w7.heap.size F P0 P1:=fun q=>hMI.below (below_drewN (Below.refl wi.heap.size wi) q) hMI.p1.lt
         obtain ⟨⟨z0,z1,z2⟩,-⟩:=(HZX.out.below hbi hlX).c3
         obtain ⟨⟨o0,o1,o2⟩,-⟩:=(HBX.out.1.below hbi hoX).c3
         have b1:g2 < wi.heap.size:=by omega
         have b2:g3 < wi.heap.size:=by omega
         have hzr:-1000 ≤ z∧z ≤ 1000:=posOk_get (accCheck_ok (HST.out.2.1.accs.ok u (List.mem_of_getElem? HUU.out))).2.2.2.2 hz
         clear hz hy
         have hk2:kk=0∨kk=1:=by omega
         obtain ⟨gk,Pk,hgk,hnum,hcnt⟩:∃ gk Pk,(if kk=0 then W3.heap.size + 1 + 1 else w7.heap.size)=gk∧(∀ q,Num (wi.drewN q) gk Pk)∧Cnt Pk (posSumE ev kk):=by
          rcases hk2 with rfl | rfl
          ·exact ⟨_,P0,rfl,fun q=>(hMD q).p0,HFA.out.2.1⟩
          ·exact ⟨_,P1,rfl,fun q=>(hMD q).p1,HFA.out.2.2⟩
         have n1:∀ q:Nat,(Instr.lookup 122 (.map (some (W3.heap.size + 1))) (.int .i64 kk) false).run Try.prog (wi.drewN q)=.ok (.map (some gk)) (wi.drewN q):=fun q=>by have:=(hMD q).n.look (m:=kk) (by omega);rwa [hgk] at this
         have l1:=fun q=>(hnum q).look u.id (by omega)
         have e1:(z != wrap64 (y + Pk u.id))=false:=by
          rw [hcnt u.id,wrap_r,← HZY.out,wrap_id (by omega)];simp
         clear hMI hMD hnum hcnt hgk hk2
         go_wp2_with fail
         go_quiet (fail)
         go_wp2_with fail
         go_roundw
         case rel=>exact ⟨kk + 1,by omega,by go_num,below_drewN hbi _⟩
         case measure=>simp [intOf];omega
        ·obtain rfl:kk=u.pos.length:=by omega
         clear hlk
         go_wp2_with fail
         go_roundw
         case rel=>exact ⟨m + 1,by omega,by go_num,hbX.trans (hbi.mono (by omega)),Lib.hid (HMX.out.below hbi (by omega))⟩
         case measure=>simp [intOf];omega
    ·obtain rfl:m=U.accs.length:=by omega
     clear hlm
     go_wp2_with fail
     go_ret
     exact ⟨rfl,hB9.trans (hbq.mono (by omega))⟩
end
section
open Go.ChangeShapes Go.WideShapes Go.ChangeAt Go.RowKit
set_option maxRecDepth 100000 in
theorem venueFills_lifted (os:Os) (started:os.Started) (H:Type) (enc:TypeId × Value→H) :
  ReturnsInHanded {} Try.checked os 23 .any (Rows.venueFillsSpec.pre6 enc Try.prog Try.f23 Rows.venueFillsRow.domain false) (Rows.venueFillsSpec.post enc Try.prog Try.f23 false true false false):=by
 refine returnsInHanded_of_change_sized (C:=Try.checked) row_own started (by kernel_rfl) Try.func23
  (ChangeSpec.witness6 (enc:=enc) (C:=Try.checked) false ⟨#[],#[.agg #[.slice none 0 0,.slice none 0 0,.int .i64 0,.int .i64 0,.int .i64 0,.int .i64 0,.int .i64 0],.agg #[.int .i64 0,.int .i64 0,.int .i64 0,.int .i64 0,.int .i64 0,.int .i64 0,.int .i64 0,.int .i64 0,.int .i64 0,.int .i64 0,.bool false]],[]⟩ 8 (by kernel_rfl) (by kernel_rfl) (by kernel_rfl) (by kernel_rfl)) ?_
 intro W base args ds gs before hval0 hW hcnd hsz _
 have hval:∀ (j:Nat) t v,Try.f23.params[j]?=some t→args[j]?=some v→Value.okWide Try.prog W .any base t v:=hval0
 have hW':=hW
 obtain ⟨p,q,hA0,hV,rfl,hfz,hnd⟩:=hW
 have hA:DataW.TrodAll enc Try.prog W 0 (fun _=>true) true Try.f23.params.toList args.toList ds p:=hA0
 obtain ⟨rfl,rfl⟩:=trodVars_none hV
 have hkeep:=fun W' (bel:Below W.heap.size W W')=>trodAll_below row_laidOut bel (by kernel_rfl) hA
 rw [Try.params23] at hA hval
 obtain ⟨v0,vs0,d0,ds0,p0,q0,hargs,rfl,rfl,h0,tl0⟩:=trodAll_cons hA
 obtain ⟨v1,vs1,d1,ds1,p1,q1,rfl,rfl,rfl,h1,tl1⟩:=trodAll_cons tl0
 obtain ⟨rfl,rfl,rfl⟩:=trodAll_nil tl1
 obtain rfl:args = #[v0,v1]:=by cases args;simp_all
 clear hargs
 have hs0:(DataW.weightsEach Try.prog (Try.f23.params.toList ++ Rows.venueFillsSpec.plain.varTypes Try.prog) ([d0,d1] ++ [])).all (· ≤ reachBytes)=true:=hsz
 rw [show Rows.venueFillsSpec.plain.varTypes Try.prog = [] from rfl,List.append_nil,List.append_nil] at hs0
 have hsz':(DataW.weightsEach Try.prog Try.f23.params.toList [d0,d1]).all (· ≤ reachBytes)=true:=hs0
 rw [Try.params23] at hsz'
 obtain ⟨y0,t0⟩:=weights_head hsz'
 obtain ⟨y1,t1⟩:=weights_head t0
 obtain ⟨V0,A0,c0,M0,k0,rfl,r0,s0,i0⟩:=opens_venue (hval 0 111 v0 rfl rfl) h0 y0
 obtain ⟨C1,rfl,i1⟩:=opens_command (hval 1 113 v1 rfl rfl) h1
 refine (venueFills_walk V0 A0 c0 M0 k0 C1 W r0).mono fun e W' ⟨he,bel⟩=>?_
 subst he
 exact ⟨_,rfl,_,_,_,[],_,[],hW',trodAll_mk1 (shut_bool Try.underlying4 _),hkeep W' bel,rfl,bel.frame _,fun h=>by cases h⟩
set_option maxHeartbeats 4000000 in
theorem venueFills_closed:joinedFacts Try.prog 23 Try.f23 Rows.venueFillsSpec Rows.venueFillsRow=true :=
 joined_mk _ _ _ _ _ (by as_aux_lemma=>kernel_rfl) closed_laid closed_mapsRowed (by as_aux_lemma=>kernel_rfl) (by as_aux_lemma=>kernel_rfl) (by as_aux_lemma=>kernel_rfl) closed_stops (by as_aux_lemma=>kernel_rfl) closed_stopKnobs (by as_aux_lemma=>kernel_rfl) (by as_aux_lemma=>kernel_rfl) (by as_aux_lemma=>kernel_rfl) (by as_aux_lemma=>kernel_rfl) (by as_aux_lemma=>kernel_rfl) (by as_aux_lemma=>kernel_rfl) (by as_aux_lemma=>kernel_rfl) (by as_aux_lemma=>kernel_rfl) (by as_aux_lemma=>kernel_rfl) (by as_aux_lemma=>kernel_rfl) (by as_aux_lemma=>kernel_rfl) (by as_aux_lemma=>kernel_rfl) (by as_aux_lemma=>kernel_rfl) closed_plainKeys (by as_aux_lemma=>kernel_rfl) closed_stopsHeard closed_mayEnter closed_lifted closed_make (by as_aux_lemma=>kernel_rfl) (by as_aux_lemma=>kernel_rfl) (by as_aux_lemma=>kernel_rfl) (by as_aux_lemma=>kernel_rfl)
set_option maxHeartbeats 4000000 in
theorem venueFills_over:Rows.venueFillsRow.holds Try.pinned (OpenSpec.ofChange Rows.venueFillsSpec) :=
 OpenClaim.holds_of_wide 23 Try.f23 rfl rfl rfl rfl rfl rfl rfl ⟨rfl,rfl,rfl,rfl,rfl⟩ rfl rfl rfl rfl rfl (by as_aux_lemma=>kernel_rfl) Try.func23 venueFills_closed
  (of_decide_eq_true (by as_aux_lemma=>kernel_rfl)) (by unfold Func.isWrapper;first | (rw [if_pos (by decide +kernel)];as_aux_lemma=>kernel_rfl) | (rw [if_neg (by decide +kernel)];exact ⟨rfl,rfl⟩))
  (fun os started H enc _=>venueFills_lifted os started H enc)
theorem venueFills_proved:Rows.VenueFillsSaid:=venueFills_over
#print axioms venueFills_proved
end
end Go.Proofs.Ytockodmbhnlheaa
