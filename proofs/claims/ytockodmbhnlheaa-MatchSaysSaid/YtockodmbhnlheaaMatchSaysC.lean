/-
  THE LAW MatchSays: holds for every input, with no condition. (Joined texts: OSlc, Cat, Ins, Ins2, Ins3, BookCheck, Book.)
-/
import Derived.Test.YtockodmbhnlheaaMatchSaysB
import Derived.Test.YtockodmbhnlheaaProg
import Derived.Test.YtockodmbhnlheaaMatchSaysA
import Derived.Maps.AppendAt
import Derived.Laws.AppendOwnNone
import Derived.OwnWalk
import Derived.Maps.Own
import Derived.Maps.OwnOps
import Derived.Maps.Views
import Derived.WalkKit
import Derived.Deep.Draws
import Derived.IntWalk
import Derived.Deep.RegionHeld3
import Derived.Deep.QuietTactic
import Derived.BigQuiet
import Derived.Deep.DeepCutAuto
import Derived.WalkSpells
import Derived.WalkLawsBesides
import Derived.Lib.Hide
import Derived.Lib.AppendZeros
import Derived.Laws.CopyOwn
import Derived.Lib.AppendZerosOnto
import Derived.Lib.Overlaps
import Derived.Laws.Externs
import Derived.Deep.RegionLaw
namespace Go.Proofs.Ytockodmbhnlheaa
section
open Go.RowKit
set_option maxHeartbeats 400000 in
theorem clone_ods (A:Option Addr) (n c:Nat) (xs:List Value) (B:Nat) (w:World) (h:Rd w B 5 A n c xs) (h1:∀ u ∈ xs,u.oneCell'=true) (hB:B ≤ w.heap.size) (hb:n * 40 ≤ 140737488355328) :
  Calls Try.prog 66 #[.slice A n c] w (RetRow w 71 5 n xs):=by
 have q:∀ (w:World) (a:Option Addr) (n c n' c':Nat),(binOp .eql 60 (.slice a n c) (.slice none n' c')).run Try.prog w=.ok (.bool a.isNone) w:=fun w a n c n' c'=>Lib.run_eql_slice_nil w _ _ a n c n' c' Try.underlying60
 cases A with
 | none =>
  have h0:=h.nil rfl
  have hle:=h.le
  obtain rfl:n=0:=by omega
  have hx:xs = []:=List.eq_nil_of_length_eq_zero (by simpa using h.len)
  subst hx h0
  go_enter Try.func66,Try.ntmps66
  go_wp2_with fail
  go_ret
  exact ⟨_,rfl,World.ownsRow_nil _ _ _ _,Below.refl _ _⟩
 | some ad =>
  have HR:=Lib.hid h
  have hle:=h.le
  have hcap:=h.cap
  clear h
  go_enter Try.func66,Try.ntmps66
  go_wp2_with (at_builtin;refine wpList_app rfl _ _ _ rfl w.heap.size _ _ _ elem_od _ _ _ rfl (World.ownsRow_made w #[] 0 (Nat.le_refl _) (Nat.zero_le _) rfl) B (some ad) n c xs rfl (HR.out.alloc hB _) h1 (by simp only [maxLen] at hcap ⊢;omega) (by omega) (by simp) ?_;intro v' w' hown hbel hg _)
  go_ret
  exact ⟨_,rfl,by simpa using hown,((Below.refl _ _).alloc (Nat.le_refl _) _).trans hbel⟩
theorem fieldsOf_of {P:Program} {t:TypeId} {fs:Array Field} (h:P.underlying t=some (.struct fs)):P.fieldsOf t=fs:=by unfold Program.fieldsOf;rw [h]
theorem run_part_int {P:Program} {t:TypeId} {k:IntKind} (h:P.underlying t=some (.int k)) (cs:Array Value) (off:Nat) (v:Value) (hv:cs[off]?=some v) (w:World):(part t cs off).run P w=.ok v w:=by
 simp [part,isAgg,run_underlying h,Result.andThen,hv]
theorem eqIn_od (a b:Od) (w:World):(Op.equalIn 10000 71 (.agg #[.int .i64 a.id,.int .i64 a.acc,.int .i64 a.side,.int .i64 a.price,.int .i64 a.qty]) (.agg #[.int .i64 b.id,.int .i64 b.acc,.int .i64 b.side,.int .i64 b.price,.int .i64 b.qty])).run Try.prog w=.ok (sameOd a b) w:=by
 rw [run_equalIn_struct w 9999 _ _ _ (by rw [fieldsOf_of Try.underlying71];exact Try.underlying71) (by kernel_rfl),fieldsOf_of Try.underlying71]
 have hi:=Try.underlying3
 have p0:∀ (x0 x1 x2 x3 x4:Int) w,(part 3 #[.int .i64 x0,.int .i64 x1,.int .i64 x2,.int .i64 x3,.int .i64 x4] 0).run Try.prog w=.ok (.int .i64 x0) w:=fun _ _ _ _ _ w=>run_part_int hi _ 0 _ rfl w
 have p1:∀ (x0 x1 x2 x3 x4:Int) w,(part 3 #[.int .i64 x0,.int .i64 x1,.int .i64 x2,.int .i64 x3,.int .i64 x4] 1).run Try.prog w=.ok (.int .i64 x1) w:=fun _ _ _ _ _ w=>run_part_int hi _ 1 _ rfl w
 have p2:∀ (x0 x1 x2 x3 x4:Int) w,(part 3 #[.int .i64 x0,.int .i64 x1,.int .i64 x2,.int .i64 x3,.int .i64 x4] 2).run Try.prog w=.ok (.int .i64 x2) w:=fun _ _ _ _ _ w=>run_part_int hi _ 2 _ rfl w
 have p3:∀ (x0 x1 x2 x3 x4:Int) w,(part 3 #[.int .i64 x0,.int .i64 x1,.int .i64 x2,.int .i64 x3,.int .i64 x4] 3).run Try.prog w=.ok (.int .i64 x3) w:=fun _ _ _ _ _ w=>run_part_int hi _ 3 _ rfl w
 have p4:∀ (x0 x1 x2 x3 x4:Int) w,(part 3 #[.int .i64 x0,.int .i64 x1,.int .i64 x2,.int .i64 x3,.int .i64 x4] 4).run Try.prog w=.ok (.int .i64 x4) w:=fun _ _ _ _ _ w=>run_part_int hi _ 4 _ rfl w
 have he:=fun (x y:Int) w=>run_equalIn_int w 9998 3 .i64 .i64 x y hi
 simp only [Op.eqFields]
 rw [if_pos (by decide),if_pos (by decide),if_pos (by decide),if_pos (by decide),if_pos (by decide)]
 simp only [Sem.run_bind,p0,p1,p2,p3,p4,Result.andThen_ok,he,Sem.run_ite,Sem.run_pure]
 unfold sameOd
 rw [show (a.id == b.id)=decide (a.id=b.id) from rfl,show (a.acc == b.acc)=decide (a.acc=b.acc) from rfl,show (a.side == b.side)=decide (a.side=b.side) from rfl,show (a.price == b.price)=decide (a.price=b.price) from rfl,show (a.qty == b.qty)=decide (a.qty=b.qty) from rfl]
 cases decide (a.id=b.id) <;> cases decide (a.acc=b.acc) <;> cases decide (a.side=b.side) <;> cases decide (a.price=b.price) <;> cases decide (a.qty=b.qty) <;> rfl
theorem run_neq_od (a b:Od) (w:World):(binOp .neq 71 (.agg #[.int .i64 a.id,.int .i64 a.acc,.int .i64 a.side,.int .i64 a.price,.int .i64 a.qty]) (.agg #[.int .i64 b.id,.int .i64 b.acc,.int .i64 b.side,.int .i64 b.price,.int .i64 b.qty])).run Try.prog w=.ok (.bool (!sameOd a b)) w:=by
 rw [run_neq_struct,eqIn_od];rfl
instance:DecidableEq Od:=fun _ _=>decidable_of_iff _ sameOd_iff
def sameOds (L M:List Od):Bool:=decide (L=M)
theorem sameOds_len {L M:List Od} (h:L.length ≠ M.length):sameOds L M=false:=by
 unfold sameOds;exact decide_eq_false fun e=>h (by rw [e])
theorem sameOds_at {L M:List Od} {j:Nat} {x y:Od} (hx:L[j]?=some x) (hy:M[j]?=some y) (h:sameOd x y=false):sameOds L M=false:=by
 unfold sameOds
 refine decide_eq_false fun e=>?_
 subst e
 rw [hx] at hy;injection hy with hy
 rw [sameOd_iff.2 hy] at h;cases h
theorem take_nextO {L M:List Od} {j:Nat} {x y:Od} (hx:L[j]?=some x) (hy:M[j]?=some y) (h:sameOd x y=true) (ht:L.take j=M.take j):L.take (j + 1)=M.take (j + 1):=by
 rw [List.take_add_one,List.take_add_one,hx,hy,ht,sameOd_iff.1 h]
set_option maxHeartbeats 1000000 in
theorem equal_ods (A A':Option Addr) (n c n' c':Nat) (L M:List Od) (B:Nat) (w:World) (h:Rd w B 5 A n c (odCells L)) (h':Rd w B 5 A' n' c' (odCells M)) (hB:B ≤ w.heap.size) :
  Calls Try.prog 141 #[.slice A n c,.slice A' n' c'] w fun e w'=>e=.returned (.bool (sameOds L M))∧Below w.heap.size w w':=by
 have hle:=h.le
 have hcap:=h.cap
 have hle':=h'.le
 have hcap':=h'.cap
 have HL:=Lib.hid (rdo_len h)
 have HM:=Lib.hid (rdo_len h')
 have q:=run_neq_od
 unfold maxLen at hcap hcap'
 by_cases hnn:n=n'
 ·subst hnn
  go_enter Try.func141,Try.ntmps141
  go_wp2_with fail
  go_loopw [13] (fun i wr=>∃ j:Nat,j ≤ n∧i=.int .i64 j∧Below w.heap.size w wr∧Hid (L.take j=M.take j)) (fun i _=>n - (intOf i).toNat)
  case atStart=>exact ⟨0,Nat.zero_le _,rfl,Below.refl _ _,Lib.hid (by simp)⟩
  case round =>
   obtain ⟨j,hj,rfl,hbr,HP⟩:=hrel
   have hws:=hbr.size
   by_cases hlt:j < n
   ·obtain ⟨b,o,x,rfl,hb,hx,k0,k1,k2,k3,k4⟩:=od_at (h.below (hbr.mono hB)) hlt
    obtain ⟨b',o',y,rfl,hb',hy,l0,l1,l2,l3,l4⟩:=od_at (h'.below (hbr.mono hB)) hlt
    have HX:=Lib.hid hx
    have HY:=Lib.hid hy
    clear hx hy
    go_wp2_with fail
    go_region
    rcases bool_cs (sameOd x y) with hp | hp
    ·have HN:=Lib.hid (sameOds_at HX.out HY.out hp)
     rw [hp]
     go_wp2_with fail
     go_ret
     exact ⟨ret_bb HN.out.symm,(by first | exact below_drew hbr | exact below_drewN hbr _)⟩
    ·have HN:=Lib.hid (take_nextO HX.out HY.out hp HP.out)
     rw [hp]
     go_wp2_with fail
     go_roundw
     case rel=>exact ⟨j + 1,by omega,by go_num,(by first | exact below_drew hbr | exact below_drewN hbr _),HN⟩
     case measure=>simp [intOf];omega
   ·have hjn:j=n:=by omega
    have HE:=Lib.hid (show sameOds L M=true by
     have:=HP.out
     rw [hjn,List.take_of_length_le (by rw [HL.out];exact Nat.le_refl _),List.take_of_length_le (by rw [HM.out];exact Nat.le_refl _)] at this
     exact decide_eq_true this)
    clear hjn
    go_wp2_with fail
    go_ret
    exact ⟨ret_bb HE.out.symm,hbr⟩
 ·have HE:=Lib.hid (sameOds_len (L:=L) (M:=M) (by rw [HL.out,HM.out];exact hnn))
  go_enter Try.func141,Try.ntmps141
  go_wp2_with fail
  go_ret
  exact ⟨ret_bb HE.out.symm,Below.refl _ _⟩
end
section
open Go.RowKit
theorem app_zeros {P:Program} {t e tn k bytes:Nat} {kn:IntKind} (E:Elem P t e k bytes) (htn:P.underlying tn=some (.int kn)) (w:World) (n:Nat) (h0:0 < n) (h48:n * bytes ≤ 140737488355328) (hn:n ≤ maxLen) :
  ∃ c cur,(∀ ty,(Builtin.append_ #[t,tn] ty #[.slice none 0 0,.int .i64 n]).run P w=.ok (.slice (some ⟨w.heap.size,0,none⟩) n c) (w.drew.alloc (.cells cur e)))∧n ≤ c∧c ≤ maxLen∧cur.size=c * k:=by
 obtain ⟨i,z,hi,hz,hk,hb,hzk⟩:=E.hi
 have hr:=fun ty=>Lib.run_append_nil_zeros (P:=P) w t tn ty e i z .i64 kn E.ht htn hi hz n h0 (by rw [hk];exact E.pos) (by unfold maxLen at hn;omega) (by rw [hb];omega)
 refine ⟨_,_,hr,grownCap_ge _ _ _ _,grownCap_le_maxLen _ _ _ _ hn,?_⟩
 have:=grownCap_ge w n 0 e
 simp only [Array.size_append,size_zeroCells,hzk,← Nat.add_mul]
 rw [Nat.add_sub_cancel' this]
set_option maxHeartbeats 400000 in
set_option maxRecDepth 100000 in
theorem grow_nil (n:Nat) (hn:n * 40 ≤ 140737488355328) (w:World) :
  Calls Try.prog 133 #[.slice none 0 0,.int .i64 n] w (RetRow w 71 5 0 []):=by
 have hm:n ≤ maxLen:=by simp only [maxLen];omega
 by_cases h0:n=0
 ·subst h0
  go_enter Try.func133,Try.ntmps133
  go_wp2_with fail
  go_ret
  exact ⟨_,rfl,World.ownsRow_nil _ _ _ _,Below.refl _ _⟩
 ·obtain ⟨c,cur,hr,hc1,hc2,hc3⟩:=app_zeros (P:=Try.prog) elem_od Try.underlying3 w n (by omega) hn hm
  have HR:=Lib.hid hr
  clear hr
  go_enter Try.func133,Try.ntmps133
  go_wp2_with (at_builtin;refine Lib.wpList_append_run _ rfl _ _ _ _ rfl _ _ rfl rfl _ _ (HR.out _) ?_)
  go_ret
  exact ⟨_,rfl,World.ownsRow_made _ _ _ (Nat.le_refl _) hc2 hc3,(below_drew (Below.refl _ _)).alloc (Nat.le_refl _) _⟩
set_option maxHeartbeats 2000000 in
set_option maxRecDepth 100000 in
theorem concat_ods (A A':Option Addr) (n c n' c':Nat) (L M:List Od) (B:Nat) (w:World) (h:Rd w B 5 A n c (odCells L)) (h':Rd w B 5 A' n' c' (odCells M)) (hB:B ≤ w.heap.size)
  (g:Nat) (hg:g < w.heap.size) (c0:w.cell? ⟨g,0,none⟩=some (.slice A n c)) (c1:w.cell? ⟨g,1,none⟩=some (.slice A' n' c')) (hb:(n + n') * 40 ≤ 140737488355328) :
  Calls Try.prog 63 #[.slice (some ⟨g,0,none⟩) 2 2] w (RetRow w 71 5 (n + n') (odCells (L ++ M))):=by
 have HR:=Lib.hid h
 have HR':=Lib.hid h'
 have hm:n + n' ≤ maxLen:=by simp only [maxLen];omega
 have HM:=Lib.hid hm
 clear h h' hm
 go_enter Try.func63,Try.ntmps63
 go_wp2_with fail
 go_loopw [11,3] (fun i s wr=>w=wr∧(i=.int .i64 0∧s=.int .i64 0∨i=.int .i64 1∧s=.int .i64 n∨i=.int .i64 2∧s=.int .i64 (n + n':Nat))) (fun i _ _=>2 - (intOf i).toNat)
 case atStart=>exact ⟨rfl,.inl ⟨rfl,rfl⟩⟩
 case round =>
  obtain ⟨rfl,⟨rfl,rfl⟩ | ⟨rfl,rfl⟩ | ⟨rfl,rfl⟩⟩:=hrel
  ·go_wp2_with fail
   go_roundw
   case rel=>exact ⟨(by first | rfl | trivial),.inr (.inl ⟨rfl,by go_num⟩)⟩
   case measure=>simp [intOf]
  ·go_wp2_with fail
   go_roundw
   case rel=>exact ⟨(by first | rfl | trivial),.inr (.inr ⟨rfl,by go_num⟩)⟩
   case measure=>simp [intOf]
  ·go_wp2_with fail
   refine (grow_nil (n + n') hb _).mono ?_
   rintro e w1 ⟨v,rfl,hown,hbl⟩
   have HO:=Lib.hid hown
   clear hown
   go_wp2_with fail
   go_loopw [27,6] (fun i v wr=>Below w.heap.size w wr∧(i=.int .i64 0∧Hid (wr.ownsRow w.heap.size 71 5 v 0 [])∨i=.int .i64 1∧Hid (wr.ownsRow w.heap.size 71 5 v n (odCells L))∨i=.int .i64 2∧Hid (wr.ownsRow w.heap.size 71 5 v (n + n') (odCells (L ++ M))))) (fun i _ _=>2 - (intOf i).toNat)
   case atStart=>exact ⟨hbl,.inl ⟨rfl,HO⟩⟩
   case round =>
    obtain ⟨hbr,⟨rfl,HV⟩ | ⟨rfl,HV⟩ | ⟨rfl,HV⟩⟩:=hrel
    ·have d0:=(hbr.cell (p:=⟨g,0,none⟩) hg).trans c0
     go_wp2_with (at_builtin;refine wpList_app rfl _ _ _ rfl w.heap.size _ _ _ elem_od _ _ _ rfl HV.out B A n c (odCells L) rfl (HR.out.below (hbr.mono hB)) (odCells_one _) (by have:=HM.out;omega) (by omega) hbr.size ?_;intro v' w' hown' hbel' _ _)
     have HO':=Lib.hid (by simpa using hown')
     go_roundw
     case rel=>exact ⟨hbr.trans hbel',.inr (.inl ⟨rfl,HO'⟩)⟩
     case measure=>simp [intOf]
    ·have d0:=(hbr.cell (p:=⟨g,1,none⟩) hg).trans c1
     go_wp2_with (at_builtin;refine wpList_app rfl _ _ _ rfl w.heap.size _ _ _ elem_od _ _ _ rfl HV.out B A' n' c' (odCells M) rfl (HR'.out.below (hbr.mono hB)) (odCells_one _) (by have:=HM.out;omega) (by omega) hbr.size ?_;intro v' w' hown' hbel' _ _)
     rw [← odCells_app] at hown'
     have HO':=Lib.hid hown'
     go_roundw
     case rel=>exact ⟨hbr.trans hbel',.inr (.inr ⟨rfl,HO'⟩)⟩
     case measure=>simp [intOf]
    ·go_wp2_with fail
     go_ret
     exact ⟨_,rfl,HV.out,hbr⟩
end
section
open Go.RowKit
section
variable {P:Program}
theorem run_copyK (w:World) (dT sT ty elem:TypeId) (k g off dLen dCap gs os sLen sCap N:Nat) (cur:List Value) (t:TypeId) (cs:List Value)
  (hu:P.underlying dT=some (.slice elem)) (hs:(P.info? elem).map (·.size)=some k) (hg:w.heap[g]?=some (.cells cur.toArray t (0,0)))
  (hN:N ≤ sLen∧N ≤ dLen∧(sLen ≤ N∨dLen ≤ N)) (hc:cs.length=N * k) (hsrc:∀ j v,cs[j]?=some v→w.cell? ⟨gs,os + j,none⟩=some v)
  (hfit:off + cs.length ≤ cur.length) (h1:∀ v ∈ cs,v.oneCell'=true) :
  (Builtin.copy_ #[dT,sT] ty #[.slice (some ⟨g,off,none⟩) dLen dCap,.slice (some ⟨gs,os,none⟩) sLen sCap]).run P w=.ok (goInt N) (w.setRow g (splice cur off cs).toArray):=by
 have hl:=run_loadCells_list (P:=P) w ⟨gs,os,none⟩ cs (fun j v hj=>by rw [Addr.add_lit];exact hsrc j v hj)
 have hst:=run_storeCells_at P g off t cs 0 cur.toArray w hg (by simpa using hfit) h1
 have hm:Nat.min sLen dLen=N:=by simp only [Nat.min_def];split <;> omega
 cases hq:P.info? elem with
 | none=>simp [hq] at hs
 | some i =>
  have hi:i.size=k:=by simpa [hq] using hs
  simp [Builtin.copy_,run_underlying hu,Builtin.lenOf,Builtin.firstCells,sizeOf,typeInfo,hq,hi,hm,← hc,hl,hst,splice]
theorem wpList_copyK {w:World} {ops:Array Oper} {rest:List Oper} {o:Oper} {a:Act} {Q:Exit→Act→World→Prop} (hgd:o.guard=none) (d s:Operand) (dT sT:TypeId)
  (ho:o.op=.call { callee:=.builtin .copy,args:=#[d,s],argTypes:=#[dT,sT] }) (e k bytes:Nat) (E:Elem P dT e k bytes) (g off dLen dCap gs os sLen sCap:Nat)
  (hd:a.eval d=.slice (some ⟨g,off,none⟩) dLen dCap) (hs:a.eval s=.slice (some ⟨gs,os,none⟩) sLen sCap)
  (N OFF OS:Nat) (hN:off=OFF∧os=OS∧N ≤ sLen∧N ≤ dLen∧(sLen ≤ N∨dLen ≤ N)) (cur:List Value) (t:TypeId) (hg:w.heap[g]?=some (.cells cur.toArray t (0,0))) (cs:List Value) (hc:cs.length=N * k)
  (hsrc:∀ j v,cs[j]?=some v→w.cell? ⟨gs,OS + j,none⟩=some v) (hfit:OFF + cs.length ≤ cur.length) (h1:∀ v ∈ cs,v.oneCell'=true) (B:Nat) (w0:World) (hb:Below B w0 w) (hBg:B ≤ g)
  (h:∀ w',Hid (w'.heap[g]?=some (.cells (splice cur OFF cs).toArray t (0,0)))→Below B w0 w'→(∀ j,j ≠ g→w'.heap[j]?=w.heap[j]?)→wpList P ops Q rest (a.put o.dst (goInt N)) w'):wpList P ops Q (o :: rest) a w:=by
 obtain ⟨rfl,rfl,hN⟩:=hN
 obtain ⟨i,z,hi,_,hk,_⟩:=E.hi
 refine wpList_plain hgd fun K hK=>?_
 have hrun:=run_copyK (P:=P) w dT sT o.type e k g off dLen dCap gs os sLen sCap N cur t cs E.ht (by rw [hi];simp [hk]) hg hN hc hsrc hfit h1
 unfold Oper.wp
 simp [execOp,ho,resolve,invoke,builtin,hd,hs,hrun,Result.andThen]
 exact hK _ _ (h _ (show _=_ from setRow_heap w g _ _ t _ hg) (below_setRow hb hBg _) fun j hj=>setRow_other w g j _ hj)
theorem step_copyK {ops:Array Oper} {o:Oper} {a:Act} {w:World} {K:Act→World→Prop} {Q:Exit→Act→World→Prop} {X:Prop} (hgd:o.guard=none) (d s:Operand) (dT sT:TypeId)
  (ho:o.op=.call { callee:=.builtin .copy,args:=#[d,s],argTypes:=#[dT,sT] }) (e k bytes:Nat) (E:Elem P dT e k bytes) (g off dLen dCap gs os sLen sCap:Nat)
  (hd:a.eval d=.slice (some ⟨g,off,none⟩) dLen dCap) (hs:a.eval s=.slice (some ⟨gs,os,none⟩) sLen sCap)
  (N OFF OS:Nat) (hN:off=OFF∧os=OS∧N ≤ sLen∧N ≤ dLen∧(sLen ≤ N∨dLen ≤ N)) (cur:List Value) (t:TypeId) (hg:w.heap[g]?=some (.cells cur.toArray t (0,0))) (cs:List Value) (hc:cs.length=N * k)
  (hsrc:∀ j v,cs[j]?=some v→w.cell? ⟨gs,OS + j,none⟩=some v) (hfit:OFF + cs.length ≤ cur.length) (h1:∀ v ∈ cs,v.oneCell'=true) (B:Nat) (w0:World) (hb:Below B w0 w) (hBg:B ≤ g)
  (h:∀ w',Hid (w'.heap[g]?=some (.cells (splice cur OFF cs).toArray t (0,0)))→Below B w0 w'→(∀ j,j ≠ g→w'.heap[j]?=w.heap[j]?)→K (a.put o.dst (goInt N)) w') :
  if Region.wanted o (yielded ops a.tmps)=true then Oper.wp P o a w K Q else X:=by
 obtain ⟨rfl,rfl,hN⟩:=hN
 obtain ⟨i,z,hi,_,hk,_⟩:=E.hi
 rw [if_pos (show Region.wanted o (yielded ops a.tmps)=true by simp [Region.wanted,hgd])]
 have hrun:=run_copyK (P:=P) w dT sT o.type e k g off dLen dCap gs os sLen sCap N cur t cs E.ht (by rw [hi];simp [hk]) hg hN hc hsrc hfit h1
 unfold Oper.wp
 simp [execOp,ho,resolve,invoke,builtin,hd,hs,hrun,Result.andThen]
 exact h _ (show _=_ from setRow_heap w g _ _ t _ hg) (below_setRow hb hBg _) fun j hj=>setRow_other w g j _ hj
end
theorem ins_new {cur X D O:List Value} (hX:cur.take X.length=X) (_hl:X.length + O.length + D.length ≤ cur.length):(splice (splice cur X.length O) (X.length + O.length) D).take (X.length + O.length + D.length)=X ++ (O ++ D):=by
 have e1:splice cur X.length O=(X ++ O) ++ cur.drop (X.length + O.length):=by unfold splice;rw [hX];simp
 have e2:((X ++ O) ++ cur.drop (X.length + O.length)).take (X.length + O.length)=X ++ O:=by
  rw [List.take_append_of_le_length (by simp)];exact List.take_of_length_le (by simp)
 rw [e1]
 unfold splice
 rw [e2,← List.append_assoc (X ++ O) D,List.take_append_of_le_length (by simp;omega)]
 rw [List.take_of_length_le (by simp;omega),List.append_assoc]
theorem ins_shift {cur X D O:List Value} (hX:cur.take X.length=X) (hl:X.length + O.length + D.length ≤ cur.length):(splice (splice cur (X.length + O.length) D) X.length O).take (X.length + O.length + D.length)=X ++ (O ++ D):=by
 have e1:(splice cur (X.length + O.length) D).take X.length=X:=by
  unfold splice
  rw [List.take_append_of_le_length (by rw [List.length_take];omega),List.take_take,Nat.min_eq_left (by omega),hX]
 have e2:(splice cur (X.length + O.length) D).drop (X.length + O.length)=D ++ cur.drop (X.length + O.length + D.length):=by
  unfold splice
  rw [List.drop_append_of_le_length (by rw [List.length_take];omega)]
  rw [List.drop_of_length_le (by rw [List.length_take];omega),List.nil_append]
 rw [show splice (splice cur (X.length + O.length) D) X.length O=(splice cur (X.length + O.length) D).take X.length ++ (O ++ (splice cur (X.length + O.length) D).drop (X.length + O.length)) from rfl,e1,e2]
 rw [← List.append_assoc,← List.append_assoc,List.take_append_of_le_length (by simp;omega),List.take_of_length_le (by simp;omega),List.append_assoc]
end
section
open Go.RowKit
def insAt (L:List Od) (i:Nat) (o:Od):List Od:=L.take i ++ o :: L.drop i
def Only (w w':World) (b:Option Nat):Prop:=∀ k,k < w.heap.size→some k ≠ b→w'.heap[k]?=w.heap[k]?
theorem odCells_ins (L:List Od) (i:Nat) (o:Od):odCells (insAt L i o)=odCells (L.take i) ++ (odCells [o] ++ odCells (L.drop i)):=by
 unfold insAt
 rw [odCells_app,show o :: L.drop i = [o] ++ L.drop i from rfl,odCells_app]
theorem size_od:(Try.prog.info? 71).map (·.size)=some 5:=by kernel_rfl
theorem run_sizeOf_od (w:World):(Go.sizeOf 71).run Try.prog w=.ok 5 w:=by
 have h:=size_od
 cases hq:Try.prog.info? 71 with
 | none=>simp [hq] at h
 | some i =>
  have hi:i.size=5:=by simpa [hq] using h
  simp [sizeOf,typeInfo,hq,hi]
theorem run_overlaps_od (w:World) (vb b off lb cb vc:Nat) (cs cs':Array Value) (t t':TypeId) (hne:vb ≠ b) (h1:Blk w vb t cs) (h2:Blk w b t' cs') (h0:cs'.size ≠ 0) :
  (callFunc 164 #[.slice (some ⟨vb,0,none⟩) 1 vc,.slice (some ⟨b,off,none⟩) lb cb]).run Try.prog w=.ok (.value (.bool false)) w:=by
 unfold Blk at h1 h2
 rw [run_callFunc_extern Try.func164 (by kernel_rfl) (by kernel_rfl) (by kernel_rfl) (e:=Extern.SlicesOverlaps.overlaps #[60,60] #[4]) (by kernel_rfl),
  Lib.run_overlaps_apart w 60 4 71 Try.underlying60 5 run_sizeOf_od ⟨vb,0,none⟩ ⟨b,off,none⟩ 1 vc lb cb hne t t' cs.size cs'.size (by simp [World.shape?,h1]) (by simp [World.shape?,h2]) h0 (by simp [World.frozen?,h1]) (by simp [World.frozen?,h1])]
 rfl
set_option maxHeartbeats 1000000 in
set_option maxRecDepth 100000 in
theorem insert_end (base:Nat) (v:Value) (n:Nat) (L:List Od) (o:Od) (A:Option Addr) (c B:Nat) (w:World) (hown:w.ownsRow base 71 5 v n (odCells L)) (hb:base ≤ w.heap.size) (h:Rd w B 5 A 1 c (odCells [o])) (hm:(n + 1) * 40 ≤ 140737488355328) :
  Calls Try.prog 140 #[v,.int .i64 n,.slice A 1 c] w fun e w'=>∃ v',e=.returned v'∧w'.ownsRow base 71 5 v' (n + 1) (odCells (insAt L n o))∧Below base w w'∧Only w w' v.ownBlock:=by
 have hL:L.length=n:=by have:=hown.1;rw [odCells_len] at this;omega
 have HI:=Lib.hid (show odCells L ++ odCells [o]=odCells (insAt L n o) by
  rw [← odCells_app];unfold insAt;rw [List.take_of_length_le (by omega),List.drop_of_length_le (by omega)])
 clear hL
 obtain ⟨A0,c0,rfl⟩:=own_shape hown
 have hr:=Rd.of_own hown
 have hle:=hr.le
 have hcap:=hr.cap
 simp only [maxLen] at hcap
 obtain ⟨A1,hcut,_⟩:=cut_l elem_od hr n (Nat.le_refl _)
 have HO:=Lib.hid hown
 have HR:=Lib.hid h
 clear hown h hr
 go_enter Try.func140,Try.ntmps140
 go_wp2_with (at_builtin;refine wpList_app rfl _ _ _ rfl base _ _ _ elem_od _ _ _ rfl HO.out B A 1 c (odCells [o]) rfl HR.out (odCells_one _) (by simp only [maxLen];omega) (by omega) hb ?_;intro v' w' hown' hbel' hgr _)
 go_ret
 exact ⟨_,rfl,HI.out ▸ hown',hbel',hgr.block⟩
theorem ins_cells {cur:List Value} {n i:Nat} {L:List Od} (o:Od) (hc:cur.take (n * 5)=odCells L) (hn:n * 5 ≤ cur.length) (hi:i ≤ n):cur.take (i * 5)=odCells (L.take i)∧(odCells (L.take i)).length=i * 5∧(odCells (L.drop i)).length=(n - i) * 5∧(odCells [o]).length=5 ∧
  (∀ j v,(odCells (L.drop i))[j]?=some v→cur[i * 5 + j]?=some v)∧L.length=n:=by
 have hL:L.length=n:=by
  have:=congrArg List.length hc
  rw [odCells_len,List.length_take] at this;omega
 refine ⟨?_,?_,?_,rfl,?_,hL⟩
 ·rw [← odCells_take,← hc,List.take_take,Nat.min_eq_left (by omega)]
 ·rw [odCells_len,List.length_take];omega
 ·rw [odCells_len,List.length_drop];omega
 ·intro j v hj
  rw [← odCells_drop,← hc,List.getElem?_drop,List.getElem?_take] at hj
  split at hj
  ·exact hj
  ·cases hj
set_option maxHeartbeats 600000 in
set_option maxRecDepth 100000 in
theorem insert_shift (base g n c i:Nat) (L:List Od) (o:Od) (cur:List Value) (vb vc:Nat) (tv:TypeId) (w:World) (hg:Blk w g 71 cur.toArray) (hcl:cur.length=c * 5) (hcur:cur.take (n * 5)=odCells L) (hnc:n + 1 ≤ c) (hc:c ≤ maxLen)
  (hb:base ≤ g) (hv:Blk w vb tv #[.int .i64 o.id,.int .i64 o.acc,.int .i64 o.side,.int .i64 o.price,.int .i64 o.qty]) (hne:vb ≠ g) (hin:i < n) :
  Calls Try.prog 140 #[.slice (some ⟨g,0,none⟩) n c,.int .i64 i,.slice (some ⟨vb,0,none⟩) 1 vc] w fun e w'=>∃ v',e=.returned v'∧w'.ownsRow base 71 5 v' (n + 1) (odCells (insAt L i o))∧Below base w w'∧Only w w' (some g):=by
 obtain ⟨hX,hXl,hDl,hOl,hsrc,hL⟩:=ins_cells o hcur (show n * 5 ≤ cur.length by omega) (Nat.le_of_lt hin)
 have HF:=Lib.hid (show (splice (splice cur ((i + 1) * 5) (odCells (L.drop i))) (i * 5) (odCells [o])).take ((n + 1) * 5)=odCells (insAt L i o) by
  have:=ins_shift (cur:=cur) (X:=odCells (L.take i)) (D:=odCells (L.drop i)) (O:=odCells [o]) (by rw [hXl];exact hX) (by rw [hXl,hDl,hOl];omega)
  rw [hXl,hDl,hOl,show i * 5 + 5=(i + 1) * 5 by omega,show (i + 1) * 5 + (n - i) * 5=(n + 1) * 5 by omega] at this
  rw [this,odCells_ins])
 have hov:∀ W lb cb,Blk W vb tv #[.int .i64 o.id,.int .i64 o.acc,.int .i64 o.side,.int .i64 o.price,.int .i64 o.qty]→Blk W g 71 cur.toArray→(callFunc 164 #[.slice (some ⟨vb,0,none⟩) 1 vc,.slice (some ⟨g,(i + 1) * 5,none⟩) lb cb]).run Try.prog W=.ok (.value (.bool false)) W:=fun W lb cb h1 h2 =>
  run_overlaps_od W vb g _ lb cb vc _ _ _ _ hne h1 h2 (by rw [List.size_toArray];omega)
 have hov':=fun lb cb=>hov w lb cb hv hg
 have HLI:=Lib.hid (show (insAt L i o).length=n + 1 by unfold insAt;simp;omega)
 have HOl:=Lib.hid hOl
 have hBd:Below base w w.drew:=(below_drew (Below.refl _ _)).mono (Nat.le_trans hb (Nat.le_of_lt (Blk.lt hg)))
 have HG:=Lib.hid hg
 have HV:=Lib.hid hv
 have HS:=Lib.hid hsrc
 have HC:=Lib.hid hcl
 have HD:=Lib.hid hDl
 have HCM:=Lib.hid hc
 simp only [maxLen] at hc
 clear hg hv hX hXl hsrc hcur hov hcl hDl hOl hL
 have hw1:IntKind.i64.wrap ((i:Int) + 1)=(i:Int) + 1:=IntWalk.i64_in _ (by omega)
 have hw2:IntKind.i64.wrap ((n:Int) + 1)=(n:Int) + 1:=IntWalk.i64_in _ (by omega)
 have hz2:¬ ((i:Int)=(n:Int)):=by omega
 have htn:((i:Int) + 1).toNat=i + 1:=by omega
 have hb2:¬ (c=i + 1):=by omega
 have hb4:¬ (c=i):=by omega
 have hb3:(i:Int) ≤ (n:Int) + 1:=by omega
 have hb1:(0:Int) ≤ (i:Int) + 1:=by omega
 have hin2:i ≤ n:=by omega
 have hin3:(i:Int) ≤ (n:Int):=by omega
 go_enter Try.func140,Try.ntmps140
 go_wp2_with (simp only [hov'])
 have hsrc1:∀ j v,(odCells (L.drop i))[j]?=some v→w.drew.cell? ⟨g,i * 5 + j,none⟩=some v:=fun j v hj=>by
  have:=HS.out j v hj
  rw [Blk.cell (show Blk w.drew g 71 cur.toArray from HG.out)]
  simpa using this
 have hfit1:(i + 1) * 5 + (odCells (L.drop i)).length ≤ cur.length:=by rw [HD.out,HC.out];omega
 have hg1:Hid (w.drew.heap[g]?=some (.cells cur.toArray 71 (0,0))):=HG
 have hN1:(i + 1) * 5=(i + 1) * 5∧i * 5=i * 5∧n - i ≤ n + 1 - i∧n - i ≤ n + 1 - (i + 1)∧(n + 1 - i ≤ n - i∨n + 1 - (i + 1) ≤ n - i):=by omega
 go_region_law (refine step_copyK rfl _ _ 60 60 rfl 71 5 40 elem_od g ((i + 1) * 5) (n + 1 - (i + 1)) (c - (i + 1)) g (i * 5) (n + 1 - i) (c - i) (by simp [Act.eval,Act.put]) (by simp [Act.eval,Act.put]) (n - i) ((i + 1) * 5) (i * 5) hN1 cur 71 hg1.out (odCells (L.drop i)) HD.out hsrc1 hfit1 (odCells_one _) base w hBd hb ?_;intro w2 HG2 hB2 hO2)
 have HO2:=Lib.hid hO2
 have hN2:i * 5=i * 5∧0=0∧1 ≤ 1∧1 ≤ n + 1 - i∧(1 ≤ 1∨n + 1 - i ≤ 1):=by omega
 have hsrc2:∀ j v,(odCells [o])[j]?=some v→w2.cell? ⟨vb,0 + j,none⟩=some v:=fun j v hj=>by
  rw [Blk.cell (show Blk w2 vb tv #[.int .i64 o.id,.int .i64 o.acc,.int .i64 o.side,.int .i64 o.price,.int .i64 o.qty] from (HO2.out vb hne).trans HV.out),Nat.zero_add]
  simpa [odCells] using hj
 have hfit2:i * 5 + (odCells [o]).length ≤ (splice cur ((i + 1) * 5) (odCells (L.drop i))).length:=by rw [length_splice _ _ _ hfit1,HC.out,HOl.out];omega
 have HFT:=Lib.hid hfit2
 have HS2:=Lib.hid hsrc2
 clear hN2 hsrc2 hfit2 hO2 hN1 hsrc1 hg1 hov'
 go_wp2_with (refine wpList_copyK rfl (.tmp 80) (.tmp 81) 60 60 rfl 71 5 40 elem_od g (i * 5) (n + 1 - i) (c - i) vb 0 1 vc (by rfl) (by rfl) 1 (i * 5) 0 ⟨rfl,rfl,Nat.le_refl _,by omega,by omega⟩ (splice cur ((i + 1) * 5) (odCells (L.drop i))) 71 HG2.out (odCells [o]) rfl HS2.out HFT.out (odCells_one _) base w hB2 hb ?_;intro w3 HG3 hB3 hO3)
 have HO3:=Lib.hid hO3
 clear hO3
 go_ret
 refine ⟨_,rfl,⟨?_,.inr ⟨g,c,_,rfl,hb,HG3.out,hnc,HCM.out,?_,?_⟩⟩,hB3,fun k _ hk=>(HO3.out k (fun e=>hk (by rw [e]))).trans (HO2.out k (fun e=>hk (by rw [e])))⟩
 ·rw [odCells_len,HLI.out]
 ·rw [List.size_toArray,length_splice _ _ _ HFT.out,length_splice _ _ _ hfit1,HC.out]
 ·exact HF.out
end
section
open Go.RowKit
theorem app_zeros_onto {P:Program} {t e tn k bytes:Nat} {kn:IntKind} (E:Elem P t e k bytes) (htn:P.underlying tn=some (.int kn)) (w:World) (g c i m B:Nat) (cur:List Value) (hg:Blk w g e cur.toArray) (hcl:cur.length=c * k) (hic:i ≤ c) (hm:c < i + m)
  (h48:(i + m) * bytes ≤ 140737488355328) (hml:i + m ≤ maxLen) (hB:B ≤ w.heap.size) :
  ∃ (c':Nat) (ROW:List Value) (W:World),(∀ ty,(Builtin.append_ #[t,tn] ty #[.slice (some ⟨g,0,none⟩) i c,.int .i64 m]).run P w=.ok (.slice (some ⟨w.heap.size,0,none⟩) (i + m) c') W)∧i + m ≤ c'∧c' ≤ maxLen∧ROW.length=c' * k∧ROW.take (i * k)=cur.take (i * k) ∧
   Blk W w.heap.size e ROW.toArray∧Below B w W∧(∀ j,j < w.heap.size→W.heap[j]?=w.heap[j]?):=by
 obtain ⟨ii,z,hi,hz,hk,hb,hzk⟩:=E.hi
 have hik:i * k ≤ cur.length:=by rw [hcl];exact Nat.mul_le_mul_right _ hic
 have hlen:(cur.take (i * k)).length=i * k:=by rw [List.length_take];omega
 have hold:(Builtin.firstCells ii.size i (.slice (some ⟨g,0,none⟩) i c)).run P w.drew=.ok (cur.take (i * k)).toArray w.drew:=by
  rw [hk]
  refine run_firstCells_some w.drew k i ⟨g,0,none⟩ i c _ hlen fun j v hj=>?_
  rw [Addr.add_lit,Blk.cell (show Blk w.drew g e cur.toArray from hg)]
  rw [List.getElem?_take] at hj
  split at hj
  ·simpa using hj
  ·cases hj
 have hm48:m * bytes ≤ (i + m) * bytes:=Nat.mul_le_mul_right _ (by omega)
 have hr:=fun ty=>Lib.run_append_grow_zeros (P:=P) w t tn ty e ii z .i64 kn E.ht htn hi hz (some ⟨g,0,none⟩) i c _ hold m (by omega) (by rw [hk];exact E.pos) (by omega) (by simp only [maxLen] at hml;omega) (by rw [hb];omega) (by rw [hb];exact growslice_fits hm h48)
 have hge:=grownCap_ge w (i + m) c e
 refine ⟨_,(cur.take (i * k)) ++ ((Builtin.zeroCells z.cells m).toList ++ (Builtin.zeroCells z.cells (grownCap w (i + m) c e - (i + m))).toList),_,hr,hge,grownCap_le_maxLen _ _ _ _ hml,?_,?_,?_,?_,?_⟩
 ·simp only [List.length_append,hlen,Array.length_toList,size_zeroCells,hzk,← Nat.add_mul]
  rw [show i + (m + (grownCap w (i + m) c e - (i + m)))=grownCap w (i + m) c e by omega]
 ·rw [List.take_append_of_le_length (by omega)];exact List.take_of_length_le (by omega)
 ·unfold Blk
  rw [show w.heap.size=w.drew.heap.size from rfl,heap_alloc_new]
  congr 2
  apply Array.toList_inj.1
  simp
 ·exact ((below_drew (Below.refl _ _)).alloc (Nat.le_refl _) _).mono hB
 ·intro j hj
  exact heap_alloc_old w.drew _ (r:=j) hj
set_option maxHeartbeats 1000000 in
set_option maxRecDepth 100000 in
theorem insert_new (base g n c i:Nat) (L:List Od) (o:Od) (cur:List Value) (vb vc:Nat) (tv:TypeId) (w:World) (hg:Blk w g 71 cur.toArray) (hcl:cur.length=c * 5) (hcur:cur.take (n * 5)=odCells L) (hnc0:n ≤ c) (hnc:c < n + 1) (hc:c ≤ maxLen)
  (hb:base ≤ w.heap.size) (hv:Blk w vb tv #[.int .i64 o.id,.int .i64 o.acc,.int .i64 o.side,.int .i64 o.price,.int .i64 o.qty]) (_hne:vb ≠ g) (hin:i < n) (hm:(n + 1) * 40 ≤ 140737488355328) :
  Calls Try.prog 140 #[.slice (some ⟨g,0,none⟩) n c,.int .i64 i,.slice (some ⟨vb,0,none⟩) 1 vc] w fun e w'=>∃ v',e=.returned v'∧w'.ownsRow base 71 5 v' (n + 1) (odCells (insAt L i o))∧Below base w w'∧Only w w' (some g):=by
 obtain ⟨hX,hXl,hDl,hOl,hsrc,hL⟩:=ins_cells o hcur (show n * 5 ≤ cur.length by omega) (Nat.le_of_lt hin)
 obtain ⟨c',ROW,W1,hrz,hc1,hc2,hRl,hRX,hW1,hB1,hO1⟩:=app_zeros_onto (P:=Try.prog) elem_od Try.underlying3 w g c i (n + 1 - i) base cur hg hcl (by omega) (by omega) (by omega) (by simp only [maxLen];omega) hb
 have hin1:i + (n + 1 - i)=n + 1:=by omega
 rw [hin1] at hrz hc1
 rw [show ((n + 1 - i:Nat):Int)=(n:Int) + 1 - (i:Int) by omega] at hrz
 clear hin1
 have HF:=Lib.hid (show (splice (splice ROW (i * 5) (odCells [o])) ((i + 1) * 5) (odCells (L.drop i))).take ((n + 1) * 5)=odCells (insAt L i o) by
  have:=ins_new (cur:=ROW) (X:=odCells (L.take i)) (D:=odCells (L.drop i)) (O:=odCells [o]) (by rw [hXl,hRX];exact hX) (by rw [hXl,hDl,hOl];omega)
  rw [hXl,hDl,hOl,show i * 5 + 5=(i + 1) * 5 by omega,show (i + 1) * 5 + (n - i) * 5=(n + 1) * 5 by omega] at this
  rw [this,odCells_ins])
 have HLI:=Lib.hid (show (insAt L i o).length=n + 1 by unfold insAt;simp;omega)
 have HS:=Lib.hid hsrc
 have HD:=Lib.hid hDl
 have HOl:=Lib.hid hOl
 have HR:=Lib.hid hRl
 have HC2:=Lib.hid hc2
 have HBW:=Lib.hid hb
 obtain ⟨G,hG⟩:∃ G,G=w.heap.size:=⟨_,rfl⟩
 have HGG:=Lib.hid hG
 have hgG:g < G:=by rw [hG];exact Blk.lt hg
 have hvG:vb < G:=by rw [hG];exact Blk.lt hv
 rw [← hG] at hW1 hO1 hrz hb
 have HV1:=Lib.hid (show Blk W1 vb tv #[.int .i64 o.id,.int .i64 o.acc,.int .i64 o.side,.int .i64 o.price,.int .i64 o.qty] from (hO1 vb hvG).trans hv)
 have HG1:=Lib.hid (show Blk W1 g 71 cur.toArray from (hO1 g hgG).trans hg)
 have HW1:=Lib.hid hW1
 have HO1:=Lib.hid hO1
 have HRZ:=Lib.hid hrz
 simp only [maxLen] at hc hc2
 clear hg hv hX hXl hsrc hcur hcl hDl hOl hL hRl hRX hW1 hO1 hG hrz
 have hw1:IntKind.i64.wrap ((i:Int) + 1)=(i:Int) + 1:=IntWalk.i64_in _ (by omega)
 have hw2:IntKind.i64.wrap ((n:Int) + 1)=(n:Int) + 1:=IntWalk.i64_in _ (by omega)
 have hw3:IntKind.i64.wrap ((n:Int) + 1 - (i:Int))=(n:Int) + 1 - (i:Int):=IntWalk.i64_in _ (by omega)
 have hz2:¬ ((i:Int)=(n:Int)):=by omega
 have htn:((i:Int) + 1).toNat=i + 1:=by omega
 have hb2:¬ (c'=i + 1):=by omega
 have hb4:¬ (c=i):=by omega
 have hb5:¬ (c'=i):=by omega
 have hb3:(i:Int) ≤ (n:Int) + 1:=by omega
 have hb1:(0:Int) ≤ (i:Int) + 1:=by omega
 have hin2:i ≤ n:=by omega
 have hin3:(i:Int) ≤ (n:Int):=by omega
 go_enter Try.func140,Try.ntmps140
 have hf1:i * 5 + (odCells [o]).length ≤ ROW.length:=by rw [HOl.out,HR.out];omega
 have HF1:=Lib.hid hf1
 have HS1:=Lib.hid (show ∀ j v,(odCells [o])[j]?=some v→W1.cell? ⟨vb,0 + j,none⟩=some v from fun j v hj=>by
  rw [Blk.cell HV1.out,Nat.zero_add]
  simpa [odCells] using hj)
 clear hf1
 go_wp2_with (first | (at_builtin;refine Lib.wpList_append_run _ rfl _ _ _ _ rfl _ _ rfl rfl _ _ (HRZ.out _) ?_) | (refine wpList_copyK rfl (.tmp 43) (.tmp 44) 60 60 rfl 71 5 40 elem_od G (i * 5) (n + 1 - i) (c' - i) vb 0 1 vc (by rfl) (by rfl) 1 (i * 5) 0 ⟨rfl,rfl,Nat.le_refl _,by omega,by omega⟩ ROW 71 HW1.out (odCells [o]) rfl HS1.out HF1.out (odCells_one _) base w hB1 hb ?_;intro w2 HG2 hB2 hO2))
 have HG2':Hid (w2.drew.heap[G]?=some (.cells (splice ROW (i * 5) (odCells [o])).toArray 71 (0,0))):=HG2
 have hg2:Blk w2.drew g 71 cur.toArray:=(hO2 g (by omega)).trans HG1.out
 have hs2:∀ j v,(odCells (L.drop i))[j]?=some v→w2.drew.cell? ⟨g,i * 5 + j,none⟩=some v:=fun j v hj=>by
  have:=HS.out j v hj
  rw [Blk.cell hg2]
  simpa using this
 have HS2:=Lib.hid hs2
 have hf2:(i + 1) * 5 + (odCells (L.drop i)).length ≤ (splice ROW (i * 5) (odCells [o])).length:=by rw [length_splice _ _ _ HF1.out,HD.out,HR.out];omega
 have HF2:=Lib.hid hf2
 have hBd:Below base w w2.drew:=hB2.trans ((below_drew (Below.refl _ _)).mono (Nat.le_trans HBW.out hB2.size))
 have HO2:=Lib.hid hO2
 clear hg2 hs2 hf2 hO2
 go_region_law (refine step_copyK rfl _ _ 60 60 rfl 71 5 40 elem_od G ((i + 1) * 5) (n + 1 - (i + 1)) (c' - (i + 1)) g (i * 5) (n - i) (c - i) (by simp [Act.eval,Act.put]) (by simp [Act.eval,Act.put]) (n - i) ((i + 1) * 5) (i * 5) ⟨rfl,rfl,by omega,by omega,by omega⟩ (splice ROW (i * 5) (odCells [o])) 71 HG2'.out (odCells (L.drop i)) HD.out HS2.out HF2.out (odCells_one _) base w hBd hb ?_;intro w3 HG3 hB3 hO3)
 have HO3:=Lib.hid hO3
 clear hO3
 go_wp2_with fail
 go_ret
 refine ⟨_,rfl,⟨?_,.inr ⟨G,c',_,rfl,hb,HG3.out,hc1,HC2.out,?_,?_⟩⟩,hB3,fun k hk _=>?_⟩
 ·rw [odCells_len,HLI.out]
 ·rw [List.size_toArray,length_splice _ _ _ HF2.out,length_splice _ _ _ HF1.out,HR.out]
 ·exact HF.out
 ·have hkG:k < G:=by rw [HGG.out];exact hk
  exact ((HO3.out k (by omega)).trans (HO2.out k (by omega))).trans (HO1.out k hkG)
theorem insert_od (base:Nat) (v:Value) (n i:Nat) (L:List Od) (o:Od) (vb vc:Nat) (tv:TypeId) (w:World) (hown:w.ownsRow base 71 5 v n (odCells L)) (hb:base ≤ w.heap.size) (hv:Blk w vb tv #[.int .i64 o.id,.int .i64 o.acc,.int .i64 o.side,.int .i64 o.price,.int .i64 o.qty]) (hvc:1 ≤ vc) (hvc':vc ≤ maxLen) (hne:v.ownBlock ≠ some vb) (hi:i ≤ n) (hm:(n + 1) * 40 ≤ 140737488355328) :
  Calls Try.prog 140 #[v,.int .i64 i,.slice (some ⟨vb,0,none⟩) 1 vc] w fun e w'=>∃ v',e=.returned v'∧w'.ownsRow base 71 5 v' (n + 1) (odCells (insAt L i o))∧Below base w w'∧Only w w' v.ownBlock:=by
 by_cases hin:i=n
 ·subst hin
  refine insert_end base v i L o (some ⟨vb,0,none⟩) vc w.heap.size w hown hb ⟨rfl,hvc,hvc',nofun,fun _=>⟨vb,0,rfl,Blk.lt hv,fun j u hj=>?_⟩⟩ hm
  rw [Blk.cell hv,Nat.zero_add]
  simpa [odCells] using hj
 ·obtain ⟨hl,⟨rfl,h0⟩ | ⟨g,c,cur,rfl,hbg,hg,hnc,hcm,hcs,hct⟩⟩:=hown
  ·omega
  ·have hne':vb ≠ g:=fun e=>hne (by rw [e];rfl)
   have hgb:Blk w g 71 cur.toList.toArray:=by rw [Array.toArray_toList];exact hg
   by_cases hr:n + 1 ≤ c
   ·exact insert_shift base g n c i L o cur.toList vb vc tv w hgb (by rw [Array.length_toList];exact hcs) hct hr hcm hbg hv hne' (by omega)
   ·exact insert_new base g n c i L o cur.toList vb vc tv w hgb (by rw [Array.length_toList];exact hcs) hct hnc (by omega) hcm hb hv hne' (by omega) hm
end
section
open Go.RowKit
theorem Seen.made_at (w:World) (g:Nat) (hg:g=w.heap.size):Seen (w.alloc (.map #[] 0)) g 0 []:=by subst hg;exact Seen.made w
theorem below_of_grown1 {w w1:World} {m B:Nat} (h:w.grownBy w1 (some m)) (hB:B ≤ w.heap.size) (hm:B ≤ m):Below B w w1 :=
 (Below.refl B w).grown h hB fun k hk=>by injection hk with hk;omega
theorem crossed_nil {b:Bk} (h:b.bids.length=0∨b.asks.length=0):crossedB b=false:=by
 obtain ⟨l,m⟩:=b
 cases l with
 | nil=>rfl
 | cons x l =>
  cases m with
  | nil=>rfl
  | cons y m=>simp at h
theorem crossed_at {b:Bk} {x y:Od} (hx:b.bids[0]?=some x) (hy:b.asks[0]?=some y):crossedB b=decide (y.price ≤ x.price):=by
 obtain ⟨l,m⟩:=b
 cases l with
 | nil=>simp at hx
 | cons x' l =>
  cases m with
  | nil=>simp at hy
  | cons y' m=>simp at hx hy;subst hx hy;rfl
set_option maxHeartbeats 2000000 in
theorem bookCheck_any (b:Bk) (A A':Option Addr) (c c':Nat) (B:Nat) (w:World) (h:Rd w B 5 A b.bids.length c (odCells b.bids)) (h':Rd w B 5 A' b.asks.length c' (odCells b.asks)) (hB:B ≤ w.heap.size) (hl:b.bids.length ≤ 4000000000000) (hl':b.asks.length ≤ 4000000000000) :
  Calls Try.prog 62 #[.agg #[.slice A b.bids.length c,.slice A' b.asks.length c']] w fun e w'=>e=.returned (.int .i64 (bookErr b))∧Below w.heap.size w w':=by
 have hmk:=make_set
 by_cases h40:40 < b.bids.length + b.asks.length
 ·have HE:=Lib.hid (show bookErr b=2 by unfold bookErr;rw [if_pos h40])
  have h41:(40:Int) < (b.bids.length:Int) + (b.asks.length:Int):=by omega
  clear h40
  go_enter Try.func62,Try.ntmps62
  go_wp2_with fail
  go_ret
  exact ⟨ret_ii HE.out.symm,(Below.refl _ _).alloc (Nat.le_refl _) _⟩
 ·have HE:=Lib.hid (show bookErr b=if sideErr 1 none [] b.bids ≠ 0 then sideErr 1 none [] b.bids
   else if sideErr (-1) none (b.bids.map Od.id).reverse b.asks ≠ 0 then sideErr (-1) none (b.bids.map Od.id).reverse b.asks else if crossedB b then 4 else 0 by
   unfold bookErr;rw [if_neg h40])
  have h41:(b.bids.length:Int) + (b.asks.length:Int) ≤ 40:=by omega
  have h42:b.bids.length + b.asks.length ≤ 40:=by omega
  obtain ⟨r1,hr1⟩:∃ r,sideErr 1 none [] b.bids=r:=⟨_,rfl⟩
  obtain ⟨r2,hr2⟩:∃ r,sideErr (-1) none (b.bids.map Od.id).reverse b.asks=r:=⟨_,rfl⟩
  rw [hr1,hr2] at HE
  have HR1:=Lib.hid hr1
  have HR2:=Lib.hid hr2
  clear h40 hr1 hr2
  go_enter Try.func62,Try.ntmps62
  go_wp2_with fail
  refine (side_any _ _ _ b.bids 1 _ 0 [] _ _ ((h.alloc hB _).alloc (by simp;omega) _) (by omega) (Seen.made_at (w.alloc _) (w.heap.size + 1) (by simp)) (by omega) (by omega)).mono ?_
  rw [HR1.out]
  rintro e w1 ⟨rfl,hg1,hs1⟩
  have hb1:=below_of_grown1 (B:=w.heap.size + 1) hg1 (by simp) (Nat.le_refl _)
  have hw1:w.heap.size + 1 < w1.heap.size:=by have:=hg1.size;simp at this;omega
  have h91:Below w.heap.size w w1:=(((Below.refl _ _).alloc (Nat.le_refl _) _).alloc (by simp) _).trans (hb1.mono (by omega))
  have B1:=((Blk.new w 62 #[.slice A b.bids.length c,.slice A' b.asks.length c']).alloc (.map #[] 0)).below hb1 (by omega)
  have HS1:=Lib.hid hs1
  clear hg1 hs1 hb1
  by_cases hr:r1=0
  ·subst hr
   have HE2:=Lib.hid (HE.out.trans (if_neg (by simp)))
   obtain ⟨⟨b0,b1⟩,_⟩:=B1.c2
   go_wp2_with fail
   refine (side_any _ _ _ b.asks (-1) _ _ _ _ _ (h'.below (h91.mono hB)) (by omega) (HS1.out trivial) (by omega) (by omega)).mono ?_
   rw [List.append_nil,HR2.out]
   rintro e w2 ⟨rfl,hg2,_⟩
   have hb2:=below_of_grown1 (B:=w.heap.size + 1) hg2 (by omega) (Nat.le_refl _)
   have hw2:w.heap.size + 1 < w2.heap.size:=by have:=hg2.size;omega
   have h92:Below w.heap.size w w2:=h91.trans (hb2.mono (by omega))
   have B2:=B1.below hb2 (by omega)
   have ra:=h.below (h92.mono hB)
   have rb:=h'.below (h92.mono hB)
   clear b0 b1 B1 hg2 hb2 HS1
   by_cases hr':r2=0
   ·subst hr'
    have HE3:=Lib.hid (HE2.out.trans (if_neg (by simp)))
    obtain ⟨⟨b0,b1⟩,_⟩:=B2.c2
    by_cases hn:b.bids.length=0
    ·have HE4:=Lib.hid (show bookErr b=0 by rw [HE3.out,crossed_nil (.inl hn)];rfl)
     have d1:decide ((0:Int) < (b.bids.length:Int))=false:=decide_eq_false (by omega)
     have d2:decide (0 < b.bids.length)=false:=decide_eq_false (by omega)
     clear hn
     go_wp2_with fail
     go_quiet (fail)
     go_wp2_with fail
     go_ret
     exact ⟨ret_ii HE4.out.symm,below_drewN h92 _⟩
    ·have d1:decide ((0:Int) < (b.bids.length:Int))=true:=decide_eq_true (by omega)
     have d2:decide (0 < b.bids.length)=true:=decide_eq_true (by omega)
     by_cases hn':b.asks.length=0
     ·have HE4:=Lib.hid (show bookErr b=0 by rw [HE3.out,crossed_nil (.inr hn')];rfl)
      have d3:decide ((0:Int) < (b.asks.length:Int))=false:=decide_eq_false (by omega)
      have d4:decide (0 < b.asks.length)=false:=decide_eq_false (by omega)
      clear hn hn'
      go_wp2_with fail
      go_quiet (fail)
      go_wp2_with fail
      go_ret
      exact ⟨ret_ii HE4.out.symm,below_drewN h92 _⟩
     ·have d3:decide ((0:Int) < (b.asks.length:Int))=true:=decide_eq_true (by omega)
      have d4:decide (0 < b.asks.length)=true:=decide_eq_true (by omega)
      obtain ⟨g1,o1,x,rfl,hg1,hx,_,_,_,k3,_⟩:=od_at ra (i:=0) (by omega)
      obtain ⟨g2,o2,y,rfl,hg2,hy,_,_,_,m3,_⟩:=od_at rb (i:=0) (by omega)
      have HX:=Lib.hid (crossed_at hx hy)
      rw [Nat.zero_mul,Nat.add_zero] at k3 m3
      have e1:0 < b.bids.length:=by omega
      have e2:0 < b.asks.length:=by omega
      have e3:(0:Int) < (b.bids.length:Int):=by omega
      have e4:(0:Int) < (b.asks.length:Int):=by omega
      clear hx hy hn hn'
      by_cases hp:y.price ≤ x.price
      ·have HE4:=Lib.hid (show bookErr b=4 by rw [HE3.out,HX.out];simp [hp])
       go_wp2_with fail
       go_quiet (fail)
       go_wp2_with fail
       go_ret
       exact ⟨ret_ii HE4.out.symm,below_drewN h92 _⟩
      ·have HE4:=Lib.hid (show bookErr b=0 by rw [HE3.out,HX.out];simp [hp])
       have hp':decide (y.price ≤ x.price)=false:=by simpa using hp
       have hp2:x.price < y.price:=by omega
       clear hp
       go_wp2_with fail
       go_quiet (fail)
       go_wp2_with fail
       go_ret
       exact ⟨ret_ii HE4.out.symm,below_drewN h92 _⟩
   ·have HE3:=Lib.hid (HE2.out.trans (if_pos hr'))
    have hr2:(r2 != 0)=true:=by simpa using hr'
    clear hr'
    go_wp2_with fail
    go_ret
    exact ⟨ret_ii HE3.out.symm,h92⟩
  ·have HE2:=Lib.hid (HE.out.trans (if_pos hr))
   have hr2:(r1 != 0)=true:=by simpa using hr
   clear hr
   go_wp2_with fail
   go_ret
   exact ⟨ret_ii HE2.out.symm,h91⟩
end
section
open Go.RowKit
structure BkR (w:World) (B:Nat) (A A':Option Addr) (c c':Nat) (b:Bk):Prop where
 l:Rd w B 5 A b.bids.length c (odCells b.bids)
 r:Rd w B 5 A' b.asks.length c' (odCells b.asks)
theorem BkR.below {w w':World} {B:Nat} {A A':Option Addr} {c c':Nat} {b:Bk} (h:BkR w B A A' c c' b) (hb:Below B w w'):BkR w' B A A' c c' b:=⟨h.l.below hb,h.r.below hb⟩
def sameBk (a b:Bk):Bool:=sameOds a.bids b.bids && sameOds a.asks b.asks
theorem sameBk_self (a:Bk):sameBk a a=true:=by unfold sameBk sameOds;simp
set_option maxHeartbeats 1000000 in
theorem copy_bk (b:Bk) (A A':Option Addr) (c c' B:Nat) (w:World) (h:BkR w B A A' c c' b) (hB:B ≤ w.heap.size) (hl:b.bids.length ≤ 3500000000000) (hl':b.asks.length ≤ 3500000000000) :
  Calls Try.prog 135 #[.agg #[.slice A b.bids.length c,.slice A' b.asks.length c']] w fun e w' =>
   ∃ v v',e=.returned (.agg #[v,v'])∧w'.ownsRow w.heap.size 71 5 v b.bids.length (odCells b.bids)∧w'.ownsRow w.heap.size 71 5 v' b.asks.length (odCells b.asks)∧(∀ k,v.ownBlock=some k→v'.ownBlock ≠ some k)∧Below w.heap.size w w':=by
 go_enter Try.func135,Try.ntmps135
 go_wp2_with fail
 obtain ⟨w2,hw2⟩:∃ x,x=(w.alloc (.cells #[.slice A b.bids.length c,.slice A' b.asks.length c'] 62)).alloc (.cells #[.slice none 0 0,.slice none 0 0] 62):=⟨_,rfl⟩
 have hb2:Below w.heap.size w w2:=by rw [hw2];exact ((Below.refl _ _).alloc (Nat.le_refl _) _).alloc (by simp) _
 have hs2:w2.heap.size=w.heap.size + 1 + 1:=by rw [hw2];simp
 have B1:Blk w2 w.heap.size 62 #[.slice A b.bids.length c,.slice A' b.asks.length c']:=by rw [hw2];exact (Blk.new w _ _).alloc _
 have B2:Blk w2 (w.heap.size + 1) 62 #[.slice none 0 0,.slice none 0 0]:=by
  have:=Blk.new (w.alloc (.cells #[.slice A b.bids.length c,.slice A' b.asks.length c'] 62)) 62 #[.slice none 0 0,.slice none 0 0]
  rw [World.size_alloc] at this
  rw [hw2];exact this
 rw [← hw2]
 have HB2:=Lib.hid hb2
 have hr:=h.below (hb2.mono hB)
 have hBw:B ≤ w2.heap.size:=by omega
 have KS:Hid (∀ W,Below w2.heap.size w2 W→Below w.heap.size w W∧(W.cell? ⟨w.heap.size,0,none⟩=some (.slice A b.bids.length c)∧W.cell? ⟨w.heap.size,1,none⟩=some (.slice A' b.asks.length c'))):=by
  intro W hW
  exact ⟨hb2.trans (hW.mono (by omega)),(B1.below hW (by omega)).c2.1⟩
 have KB:Hid (∀ W,Below w2.heap.size w2 W→((W.cell? ⟨w.heap.size + 1,0,none⟩=some (.slice none 0 0)∧W.cell? ⟨w.heap.size + 1,1,none⟩=some (.slice none 0 0))∧W.frozen? ⟨w.heap.size + 1,0,none⟩=false∧W.frozen? ⟨w.heap.size + 1,1,none⟩=false)):=by
  intro W hW
  exact (B2.below hW (by omega)).c2
 have KT:Hid (∀ W v v',Below w2.heap.size w2 W →
   Below w.heap.size w ((W.setCell ⟨w.heap.size + 1,0,none⟩ v).setCell ⟨w.heap.size + 1,1,none⟩ v')∧(((W.setCell ⟨w.heap.size + 1,0,none⟩ v).setCell ⟨w.heap.size + 1,1,none⟩ v').cell? ⟨w.heap.size,0,none⟩=some (.slice A b.bids.length c)∧((W.setCell ⟨w.heap.size + 1,0,none⟩ v).setCell ⟨w.heap.size + 1,1,none⟩ v').cell? ⟨w.heap.size,1,none⟩=some (.slice A' b.asks.length c'))):=by
  intro W v v' hW'
  obtain ⟨hW,h1,h2⟩:=KS.out W hW'
  refine ⟨Below.setCell (Below.setCell hW (by simp) _) (by simp) _,?_,?_⟩
  ·simp [go_sem,h1]
  ·simp [go_sem,h2]
 have h22:Below w2.heap.size w2 w2:=Below.refl _ _
 clear hw2 hb2 B1 B2
 go_region_held3 (fun W=>Below w.heap.size w W∧(W.cell? ⟨w.heap.size,0,none⟩=some (.slice A b.bids.length c)∧W.cell? ⟨w.heap.size,1,none⟩=some (.slice A' b.asks.length c')))
  (first | (exact KS.out _ (by assumption)) | (exact KS.out _ (below_drew (by assumption))) | (exact KT.out _ _ _ (by assumption)))
  ((first
   | (go_at_call 66;go_split_ands;(with_reducible refine (clone_ods A b.bids.length c _ B _ (h.l.below (Below.mono (by assumption) hB)) (odCells_one _) (Nat.le_trans hB (Below.size (w:=w) (by assumption))) (by omega)).mono ?_);rintro e W' ⟨v,rfl,hown,hb⟩;obtain ⟨Ax,cx,rfl⟩:=own_shape hown;have hB2:=below_next (w0:=w2) hb (by first | assumption | exact below_drew (by assumption));have hB3:=KB.out _ hB2)
   | (go_at_call 66;go_split_ands;(with_reducible refine (clone_ods A' b.asks.length c' _ B _ (h.r.below (Below.mono (by assumption) hB)) (odCells_one _) (Nat.le_trans hB (Below.size (w:=w) (by assumption))) (by omega)).mono ?_);rintro e W' ⟨v,rfl,hown,hb⟩;obtain ⟨Ax,cx,rfl⟩:=own_shape hown;have hB2:=below_next (w0:=w2) hb (by first | assumption | exact below_drew (by assumption));have hB3:=KB.out _ hB2)))
 rename_i WA hbA AA cA hownA hBA _ _ _ _ _ _ _ _
 have R2:W'.ownsRow w2.heap.size 71 5 (.slice Ax b.asks.length cx) b.asks.length (odCells b.asks):=own_mono hown hBA.size
 have R1:W'.ownsRow w2.heap.size 71 5 (.slice AA b.bids.length cA) b.bids.length (odCells b.bids):=own_mono (own_below hownA hb (Nat.le_refl _)) (Nat.le_refl _)
 have D:∀ k,(Value.slice AA b.bids.length cA).ownBlock=some k→(Value.slice Ax b.asks.length cx).ownBlock ≠ some k:=fun k h1 h2=>by
  have:=(World.ownsRow.lt hownA k h1).2
  have:=(World.ownsRow.lt hown k h2).1
  omega
 have HR1:=Lib.hid R1
 have HR2:=Lib.hid R2
 have HD:=Lib.hid D
 have HBW:=Lib.hid hB2
 clear R1 R2 D hown hownA hb hbA hBA hB2
 go_wp2_with fail
 refine bodyPost_ret (v:=.agg #[.slice AA b.bids.length cA,.slice Ax b.asks.length cx]) (by simp [results,Try.results135,go_sem, *]) rfl ?_
 refine ⟨_,_,rfl,?_,?_,HD.out,(KT.out _ _ _ HBW.out).1⟩
 ·exact own_mono (base:=w2.heap.size) (ownsRow_setCell_below (ownsRow_setCell_below HR1.out (by simp;omega) _) (by simp;omega) _) (by omega)
 ·exact own_mono (base:=w2.heap.size) (ownsRow_setCell_below (ownsRow_setCell_below HR2.out (by simp;omega) _) (by simp;omega) _) (by omega)
end
end Go.Proofs.Ytockodmbhnlheaa
