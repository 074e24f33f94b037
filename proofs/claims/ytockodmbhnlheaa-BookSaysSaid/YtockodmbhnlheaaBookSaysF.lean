/-
  THE LAW BookSays: holds for every input, with no condition. (Joined texts: Del, DelFunc, Find.)
-/
import Derived.Test.YtockodmbhnlheaaBookSaysD
import Derived.Test.YtockodmbhnlheaaProg
import Derived.Test.YtockodmbhnlheaaBookSaysA
import Derived.Maps.AppendAt
import Derived.Laws.AppendOwnNone
import Derived.OwnWalk
import Derived.Test.YtockodmbhnlheaaBookSaysC
import Derived.Lib.AppendZeros
import Derived.Test.YtockodmbhnlheaaBookSaysB
import Derived.Laws.CopyOwn
import Derived.Lib.AppendZerosOnto
import Derived.Lib.Overlaps
import Derived.Laws.Externs
import Derived.Deep.RegionLaw
import Derived.Maps.Own
import Derived.Maps.OwnOps
import Derived.Maps.Views
import Derived.WalkKit
import Derived.Deep.Draws
import Derived.IntWalk
import Derived.Deep.RegionHeld3
import Derived.Deep.QuietTactic
import Derived.BigQuiet
import Derived.Deep.DeepCutAuto
import Derived.WalkSpells
import Derived.WalkLawsBesides
import Derived.Lib.Hide
import Derived.Test.YtockodmbhnlheaaBookSaysE
namespace Go.Proofs.Ytockodmbhnlheaa
section
open Go.RowKit
section
variable {P:Program}
theorem run_clearK {t e k bytes:Nat} (E:Elem P t e k bytes) (zs:List Value) (hz:(P.info? e).map (fun i=>i.zero.map (fun z=>z.cells.toList))=some (some zs)) (h1:∀ u ∈ zs,u.oneCell'=true) (w:World) (g off n c:Nat) (hn:0 < n) (cur:List Value) (tg:TypeId)
  (hg:w.heap[g]?=some (.cells cur.toArray tg (0,0))) (hfit:off + n * k ≤ cur.length) (ty:TypeId) :
  ∃ Z,Z.length=n * k∧(Builtin.clear_ #[t] ty #[.slice (some ⟨g,off,none⟩) n c]).run P w=.ok (.tuple #[]) (w.setRow g (splice cur off Z).toArray):=by
 obtain ⟨i,z,hi,hz0,hk,_,hzk⟩:=E.hi
 have hzc:z.cells.toList=zs:=by rw [hi,Option.map_some,hz0,Option.map_some] at hz;injection hz with hz;injection hz
 have hzv:(zeroValue e).run P w=.ok z w:=by simp [zeroValue,typeInfo,hi,hz0]
 have hlen:(Builtin.zeroCells z.cells n).toList.length=n * k:=by rw [Array.length_toList,size_zeroCells,hzk]
 have hone:∀ u ∈ (Builtin.zeroCells z.cells n).toList,u.oneCell'=true:=by
  intro u hu
  simp only [Builtin.zeroCells,Array.toList_map,List.mem_map,Array.toList_range,List.mem_range] at hu
  obtain ⟨j,hj,rfl⟩:=hu
  have hpos:=E.pos
  have hlt:j % z.cells.size < z.cells.size:=Nat.mod_lt _ (by omega)
  refine h1 _ ?_
  rw [← hzc,getElem!_pos z.cells _ hlt]
  exact Array.getElem_mem_toList hlt
 have hst:=run_storeCells_at (P:=P) g off tg (Builtin.zeroCells z.cells n).toList 0 cur.toArray w hg (by simpa [hlen] using hfit) hone
 refine ⟨(Builtin.zeroCells z.cells n).toList,hlen,?_⟩
 obtain ⟨m,rfl⟩:∃ m,n=m + 1:=⟨n - 1,by omega⟩
 simp only [Nat.add_zero] at hst
 simp [Builtin.clear_,run_underlying E.ht,hzv,hst,splice]
theorem wpList_clearK {w:World} {ops:Array Oper} {rest:List Oper} {o:Oper} {a:Act} {Q:Exit→Act→World→Prop} (hgd:o.guard=none) (x:Operand) (t:TypeId)
  (ho:o.op=.call { callee:=.builtin .clear,args:=#[x],argTypes:=#[t] }) (e k bytes:Nat) (E:Elem P t e k bytes) (zs:List Value) (hz:(P.info? e).map (fun i=>i.zero.map (fun z=>z.cells.toList))=some (some zs)) (h1:∀ u ∈ zs,u.oneCell'=true) (g off n c:Nat)
  (hx:a.eval x=.slice (some ⟨g,off,none⟩) n c) (hn:0 < n) (OFF:Nat) (ho2:off=OFF) (cur:List Value) (tg:TypeId) (hg:w.heap[g]?=some (.cells cur.toArray tg (0,0))) (hfit:OFF + n * k ≤ cur.length) (B:Nat) (w0:World) (hb:Below B w0 w) (hBg:B ≤ g)
  (h:∀ w' Z,Z.length=n * k→Hid (w'.heap[g]?=some (.cells (splice cur OFF Z).toArray tg (0,0)))→Below B w0 w'→Hid (∀ j,j ≠ g→w'.heap[j]?=w.heap[j]?)→wpList P ops Q rest (a.put o.dst (.tuple #[])) w'):wpList P ops Q (o :: rest) a w:=by
 subst ho2
 refine wpList_plain hgd fun K hK=>?_
 obtain ⟨Z,hZ,hrun⟩:=run_clearK E zs hz h1 w g off n c hn cur tg hg hfit o.type
 unfold Oper.wp
 simp [execOp,ho,resolve,invoke,builtin,hx,hrun,Result.andThen]
 exact hK _ _ (h _ Z hZ (show _=_ from setRow_heap w g _ _ tg _ hg) (below_setRow hb hBg _) fun j hj=>setRow_other w g j _ hj)
end
theorem zero_od:(Try.prog.info? 71).map (fun i=>i.zero.map (fun z=>z.cells.toList))=some (some (odCells [zeroOd])):=by kernel_rfl
end
section
open Go.RowKit
theorem odCells_set:∀ {M:List Od} {i:Nat} (x:Od),i < M.length→odCells (M.set i x)=(((((odCells M).set (i * 5) (.int .i64 x.id)).set (i * 5 + 1) (.int .i64 x.acc)).set (i * 5 + 2) (.int .i64 x.side)).set (i * 5 + 3) (.int .i64 x.price)).set (i * 5 + 4) (.int .i64 x.qty)
 | [],i,x,h=>by simp at h
 | o :: l,0,x,_=>by simp [odCells]
 | o :: l,i + 1,x,h=>by
  have ih:=odCells_set (M:=l) (i:=i) x (by simpa using h)
  rw [show (i + 1) * 5=i * 5 + 1 + 1 + 1 + 1 + 1 by omega]
  simp only [List.set_cons_succ,odCells,ih]
theorem row_set {M:List Od} {i:Nat} (x:Od) (sp:List Value) (h:i < M.length) :
  ((((((odCells M ++ sp).toArray.setIfInBounds (i * 5) (.int .i64 x.id)).setIfInBounds (i * 5 + 1) (.int .i64 x.acc)).setIfInBounds (i * 5 + 2) (.int .i64 x.side)).setIfInBounds (i * 5 + 3) (.int .i64 x.price)).setIfInBounds (i * 5 + 4) (.int .i64 x.qty))=(odCells (M.set i x) ++ sp).toArray:=by
 have hl:=odCells_len M
 rw [odCells_set x h]
 simp only [List.setIfInBounds_toArray]
 congr 1
 rw [List.set_append_left _ _ (by omega),List.set_append_left _ _ (by simp;omega),List.set_append_left _ _ (by simp;omega),List.set_append_left _ _ (by simp;omega),List.set_append_left _ _ (by simp;omega)]
theorem row_at {w:World} {g:Nat} {t:TypeId} {M:List Od} {sp:List Value} {i:Nat} {x:Od} (h:Blk w g t (odCells M ++ sp).toArray) (hx:M[i]?=some x) :
  (w.cell? ⟨g,i * 5,none⟩=some (.int .i64 x.id)∧w.cell? ⟨g,i * 5 + 1,none⟩=some (.int .i64 x.acc)∧w.cell? ⟨g,i * 5 + 2,none⟩=some (.int .i64 x.side)∧w.cell? ⟨g,i * 5 + 3,none⟩=some (.int .i64 x.price)∧w.cell? ⟨g,i * 5 + 4,none⟩=some (.int .i64 x.qty)) ∧
   (w.frozen? ⟨g,i * 5,none⟩=false∧w.frozen? ⟨g,i * 5 + 1,none⟩=false∧w.frozen? ⟨g,i * 5 + 2,none⟩=false∧w.frozen? ⟨g,i * 5 + 3,none⟩=false∧w.frozen? ⟨g,i * 5 + 4,none⟩=false):=by
 obtain ⟨h0,h1,h2,h3,h4⟩:=odCells_at hx
 have hl:∀ k v,(odCells M)[k]?=some v→w.cell? ⟨g,k,none⟩=some v:=by
  intro k v hk
  rw [h.cell]
  have:=(List.getElem?_eq_some_iff.1 hk).1
  simp only [List.getElem?_toArray]
  rw [List.getElem?_append_left this];exact hk
 exact ⟨⟨hl _ _ h0,hl _ _ h1,hl _ _ h2,hl _ _ h3,hl _ _ h4⟩,h.frozen _,h.frozen _,h.frozen _,h.frozen _,h.frozen _⟩
theorem only_refl (w:World) (b:Option Nat):Only w w b:=fun _ _ _=>rfl
theorem only_below {w w1 w2:World} {b:Option Nat} (h:Only w w1 b) (hs:w.heap.size ≤ w1.heap.size) (hb:Below w1.heap.size w1 w2):Only w w2 b:=fun k hk hn=>(hb.block k (by omega)).trans (h k hk hn)
theorem only_cell {w w1:World} {b:Option Nat} {k o:Nat} (h:Only w w1 b) (hk:k < w.heap.size) (hn:some k ≠ b):w1.cell? ⟨k,o,none⟩=w.cell? ⟨k,o,none⟩:=World.cell?_of_block (h k hk hn)
theorem only_set {w w1:World} {g:Nat} {p:Addr} {v:Value} (h:Only w w1 (some g)) (hp:p.block=g):Only w (w1.setCell p v) (some g):=fun k hk hn=>(Below.heap_setCell w1 p v k (fun e=>hn (by rw [e,hp]))).trans (h k hk hn)
theorem rows_of_cur {n c:Nat} {L:List Od} {cur:List Value} (hcl:cur.length=c * 5) (hnc:n ≤ c) (hcur:cur.take (n * 5)=odCells L):∃ sp,cur=odCells L ++ sp∧L.length=n∧sp.length=(c - n) * 5:=by
 have h1:L.length=n:=by
  have h:=congrArg List.length hcur
  rw [odCells_len,List.length_take] at h;omega
 refine ⟨cur.drop (n * 5),by rw [← hcur,List.take_append_drop],h1,?_⟩
 rw [List.length_drop,hcl];omega
theorem filter_keep {p:Od→Bool} {L:List Od} {b:Nat} {x:Od} (hx:L[b]?=some x) (hp:p x=false):(L.take (b + 1)).filter (fun y=>!p y)=(L.take b).filter (fun y=>!p y) ++ [x]:=by
 rw [List.take_add_one,hx];simp [hp]
theorem filter_drop {p:Od→Bool} {L:List Od} {b:Nat} {x:Od} (hx:L[b]?=some x) (hp:p x=true):(L.take (b + 1)).filter (fun y=>!p y)=(L.take b).filter (fun y=>!p y):=by
 rw [List.take_add_one,hx];simp [hp]
theorem idxOf_spec {p:Od→Bool} {L:List Od} {k:Nat} (h:idxOf p L=k):∃ x,L[k]?=some x∧p x=true∧(L.take k).filter (fun y=>!p y)=L.take k:=by
 unfold idxOf at h
 cases hf:L.findIdx? p with
 | none=>rw [hf] at h;simp only at h;omega
 | some j =>
  rw [hf] at h
  have hjk:j=k:=by
   have h':(j:Int)=(k:Int):=h
   omega
  subst hjk
  rw [List.findIdx?_eq_some_iff_getElem] at hf
  obtain ⟨h1,h2,h3⟩:=hf
  refine ⟨_,List.getElem?_eq_getElem h1,h2,List.filter_eq_self.2 fun y hy=>?_⟩
  obtain ⟨i,hi,rfl⟩:=List.mem_take_iff_getElem.1 hy
  have:=h3 i (by omega)
  simpa using this
theorem any_filter {p:Od→Bool} {L:List Od} (h:L.any p=false):L.filter (fun y=>!p y)=L:=by
 rw [List.any_eq_false] at h
 exact List.filter_eq_self.2 fun y hy=>by have:=h y hy;simpa using this
structure DelRow (w wr:World) (base g n:Nat) (L:List Od) (p:Od→Bool) (sp:List Value) (a b:Nat) (M:List Od):Prop where
 bel:Below base w wr
 only:Only w wr (some g)
 blk:Blk wr g 71 (odCells M ++ sp).toArray
 len:M.length=n
 lo:M.take a=(L.take b).filter (fun y=>!p y)
 hi:M.drop b=L.drop b
theorem DelRow.next {w wr w1:World} {base g n:Nat} {L:List Od} {p:Od→Bool} {sp:List Value} {a b:Nat} {M:List Od} (h:DelRow w wr base g n L p sp a b M) (hb:Below wr.heap.size wr w1) (hbase:base ≤ wr.heap.size) (hs:w.heap.size ≤ wr.heap.size):DelRow w w1 base g n L p sp a b M :=
 ⟨h.bel.trans (hb.mono hbase),only_below h.only hs hb,h.blk.below hb h.blk.lt,h.len,h.lo,h.hi⟩
theorem drop_succ {M L:List Od} {b:Nat} (h:M.drop b=L.drop b):M.drop (b + 1)=L.drop (b + 1):=by
 rw [← List.drop_drop,← List.drop_drop,h]
theorem drop_at {M L:List Od} {b:Nat} (h:M.drop b=L.drop b):M[b]?=L[b]?:=by
 have:=congrArg (fun l=>l[0]?) h
 simp only [List.getElem?_drop,Nat.add_zero] at this
 exact this
theorem DelRow.skip {w wr:World} {base g n:Nat} {L:List Od} {p:Od→Bool} {sp:List Value} {a b:Nat} {M:List Od} {x:Od} (h:DelRow w wr base g n L p sp a b M) (hx:L[b]?=some x) (hp:p x=true):DelRow w wr base g n L p sp a (b + 1) M :=
 ⟨h.bel,h.only,h.blk,h.len,by rw [filter_drop hx hp];exact h.lo,drop_succ h.hi⟩
theorem DelRow.keep {w wr:World} {base g n:Nat} {L:List Od} {p:Od→Bool} {sp:List Value} {a b:Nat} {M:List Od} {x:Od} (h:DelRow w wr base g n L p sp a b M) (hx:L[b]?=some x) (hp:p x=false) (hab:a < b) (hbn:b < n) (hbg:base ≤ g) :
  DelRow w (((((wr.setCell ⟨g,a * 5,none⟩ (.int .i64 x.id)).setCell ⟨g,a * 5 + 1,none⟩ (.int .i64 x.acc)).setCell ⟨g,a * 5 + 2,none⟩ (.int .i64 x.side)).setCell ⟨g,a * 5 + 3,none⟩ (.int .i64 x.price)).setCell ⟨g,a * 5 + 4,none⟩ (.int .i64 x.qty)) base g n L p sp (a + 1) (b + 1) (M.set a x):=by
 have hl:=h.len
 refine ⟨?_,?_,?_,by rw [List.length_set];exact hl,?_,?_⟩
 ·exact Below.setCell (Below.setCell (Below.setCell (Below.setCell (Below.setCell h.bel hbg _) hbg _) hbg _) hbg _) hbg _
 ·exact only_set (only_set (only_set (only_set (only_set h.only rfl) rfl) rfl) rfl) rfl
 ·have:=((((h.blk.set_ (a * 5) (.int .i64 x.id)).set_ (a * 5 + 1) (.int .i64 x.acc)).set_ (a * 5 + 2) (.int .i64 x.side)).set_ (a * 5 + 3) (.int .i64 x.price)).set_ (a * 5 + 4) (.int .i64 x.qty)
  rw [row_set x sp (by omega)] at this
  exact this
 ·rw [filter_keep hx hp,← h.lo,List.take_add_one]
  congr 1
  ·rw [List.take_set_of_le (Nat.le_refl _)]
  ·rw [List.getElem?_set_self (by omega)];rfl
 ·rw [List.drop_set_of_lt (by omega)];exact drop_succ h.hi
set_option maxHeartbeats 4000000 in
set_option maxRecDepth 100000 in
theorem delfunc_remove (base g n c:Nat) (L:List Od) (sp:List Value) (id:Int) (gp:Nat) (w:World) (hg:Blk w g 71 (odCells L ++ sp).toArray) (hL:L.length=n) (hsp:sp.length=(c - n) * 5) (hnc:n ≤ c) (hc:c ≤ maxLen) (hbg:base ≤ g) (hb:base ≤ w.heap.size)
  (hgp:gp < w.heap.size) (hne:gp ≠ g) (hp:w.cell? ⟨gp,0,none⟩=some (.int .i64 id)) :
  Calls Try.prog 142 #[.slice (some ⟨g,0,none⟩) n c,.func (.func 143) #[] #[.pointer (some ⟨gp,0,none⟩)]] w fun e w'=>∃ cur':List Value,e=.returned (.slice (some ⟨g,0,none⟩) (L.filter (fun y=>!hasId id y)).length c) ∧
   Blk w' g 71 cur'.toArray∧cur'.length=c * 5∧cur'.take ((L.filter (fun y=>!hasId id y)).length * 5)=odCells (L.filter (fun y=>!hasId id y))∧Below base w w'∧Only w w' (some g):=by
 have hgw:=hg.lt
 have HG:=Lib.hid hg
 have HL:=Lib.hid hL
 have HSP:=Lib.hid hsp
 have HP:=Lib.hid hp
 have hr:Rd w w.heap.size 5 (some ⟨g,0,none⟩) n c (odCells L):=⟨by rw [odCells_len,hL],hnc,hc,nofun,fun _=>⟨g,0,rfl,hgw,fun j u hj=>by
  rw [hg.cell,Nat.zero_add]
  have:=(List.getElem?_eq_some_iff.1 hj).1
  simp only [List.getElem?_toArray]
  rw [List.getElem?_append_left this];exact hj⟩⟩
 have HR:=Lib.hid hr
 unfold maxLen at hc
 clear hg hL hsp hr
 go_enter Try.func142,Try.ntmps142
 go_wp2_with fail
 refine (idx_remove (some ⟨g,0,none⟩) n c L id gp w.heap.size w HR.out (Nat.le_refl _) hgp hp).mono ?_
 rintro e w1 ⟨rfl,hb1⟩
 have HB1:=Lib.hid hb1
 clear hb1 hp
 rcases idxOf_lt (p:=hasId id) (L:=L) with ⟨h1,h2⟩ | ⟨⟨k,h1,hk⟩,h2⟩
 ·have HF:=Lib.hid (any_filter h2)
  rw [h1]
  clear h1 h2
  go_wp2_with fail
  go_ret
  rw [HF.out]
  refine ⟨_,by rw [HL.out];rfl,HG.out.below HB1.out HG.out.lt,?_,?_,HB1.out.mono hb,fun k hk _=>HB1.out.block k hk⟩
  ·rw [List.length_append,odCells_len,HL.out,HSP.out];omega
  ·rw [← odCells_len,List.take_left'];rfl
 ·obtain ⟨x0,hx0,hpx0,hlo⟩:=idxOf_spec h1
  have HX0:=Lib.hid hx0
  have HLO:=Lib.hid hlo
  have HPX:=Lib.hid hpx0
  have hk':k < n:=by rw [← HL.out];exact hk
  rw [h1]
  clear h1 h2 hx0 hlo hpx0 hk
  have hz1:¬ ((k:Int) = -1):=by omega
  have hz2:((k:Int) == -1)=false:=by simp
  go_wp2_with fail
  go_loopw [5,6] (fun i j wr=>∃ (a b:Nat) (M:List Od),i=.int .i64 a∧j=.int .i64 b∧a < b∧b ≤ n∧Hid (DelRow w wr base g n L (hasId id) sp a b M)) (fun _ j _=>n - (intOf j).toNat)
  case atStart =>
   refine ⟨k,k + 1,L,rfl,by go_num,by omega,by omega,Lib.hid ?_⟩
   have h0:DelRow w w base g n L (hasId id) sp k k L:=⟨(Below.refl _ _),only_refl _ _,HG.out,HL.out,HLO.out.symm,rfl⟩
   exact (h0.skip HX0.out HPX.out).next HB1.out hb (Nat.le_refl _)
  case round =>
   obtain ⟨a,b,M,rfl,rfl,hab,hbn,HD⟩:=hrel
   have hws:=HD.out.bel.size
   have hgr:=HD.out.blk.lt
   by_cases hlt:b < n
   ·obtain ⟨x,hx⟩:∃ x,L[b]?=some x:=⟨_,List.getElem?_eq_getElem (by rw [HL.out];exact hlt)⟩
    have hxm:M[b]?=some x:=(drop_at HD.out.hi).trans hx
    obtain ⟨⟨k0,k1,k2,k3,k4⟩,_⟩:=row_at HD.out.blk hxm
    have HX:=Lib.hid hx
    have HPr:=Lib.hid ((only_cell (o:=0) HD.out.only hgp (fun e=>hne (by injection e))).trans HP.out)
    clear hx hxm
    go_wp2_with fail
    refine (remove1_any x id gp _ (by simp;omega) ((World.cell?_alloc_lt (w:=wr) (a:=⟨gp,0,none⟩) (o:=_) (by show gp < _;omega)).trans HPr.out)).mono ?_
    rintro e w2 ⟨rfl,hb2⟩
    have hb3:Below wr.heap.size wr w2:=((Below.refl _ _).alloc (Nat.le_refl _) _).trans (hb2.mono (by simp))
    have HD2:=Lib.hid (HD.out.next hb3 (Nat.le_trans hb hws) hws)
    have hw2:wr.heap.size < w2.heap.size:=by have:=hb2.size;simp at this;omega
    have Bx:=(Blk.new wr 71 #[.int .i64 x.id,.int .i64 x.acc,.int .i64 x.side,.int .i64 x.price,.int .i64 x.qty]).below hb2 (by simp)
    clear hb2 hb3 HD
    obtain ⟨⟨l0,l1,l2,l3,l4⟩,_⟩:=Bx.c5
    clear k0 k1 k2 k3 k4 Bx
    rcases bool_cs (hasId id x) with hpx | hpx
    ·have HN:=Lib.hid (HD2.out.keep HX.out hpx hab hlt hbg)
     rw [hpx]
     clear hpx
     have hml:M.length=n:=HD2.out.len
     obtain ⟨y,hy⟩:∃ y,M[a]?=some y:=⟨_,List.getElem?_eq_getElem (by omega)⟩
     obtain ⟨⟨m0,m1,m2,m3,m4⟩,f0,f1,f2,f3,f4⟩:=row_at HD2.out.blk hy
     clear hy hml
     go_wp2_with fail
     go_roundw
     case rel=>exact ⟨a + 1,b + 1,_,by go_num,by go_num,by omega,by omega,HN⟩
     case measure=>simp [intOf];omega
    ·have HN:=Lib.hid (HD2.out.skip HX.out hpx)
     rw [hpx]
     clear hpx
     go_wp2_with fail
     go_roundw
     case rel=>exact ⟨a,b + 1,_,rfl,by go_num,by omega,by omega,HN⟩
     case measure=>simp [intOf];omega
   ·have hbe:b=n:=by omega
    have HF:=Lib.hid (show (L.filter (fun y=>!hasId id y)).length=a∧M.take a=L.filter (fun y=>!hasId id y) by
     have h1:=HD.out.lo
     rw [hbe,show L.take n=L from List.take_of_length_le (by rw [HL.out];exact Nat.le_refl _)] at h1
     refine ⟨?_,h1⟩
     have h2:=congrArg List.length h1
     rw [List.length_take,HD.out.len] at h2
     omega)
    have HBK:=Lib.hid HD.out.blk
    have HCL:=Lib.hid (show (odCells M ++ sp).length=c * 5 by rw [List.length_append,odCells_len,HD.out.len,HSP.out];omega)
    have HB:=Lib.hid HD.out.bel
    have HO:=Lib.hid HD.out.only
    have HTK:=Lib.hid (show ∀ Z:List Value,Z.length=(n - a) * 5→(splice (odCells M ++ sp) (a * 5) Z).take (a * 5)=odCells (M.take a) by
     intro Z _
     unfold splice
     rw [List.take_append_of_le_length (by rw [List.length_take,HCL.out];omega),List.take_take,Nat.min_self,List.take_append_of_le_length (by rw [odCells_len,HD.out.len];omega),odCells_take])
    have HFT:=Lib.hid (show a * 5 + (n - a) * 5 ≤ (odCells M ++ sp).length by rw [HCL.out];omega)
    subst hbe
    clear HD
    have d1:¬ (c=a):=by omega
    have d2:a ≤ b:=by omega
    have d3:(a:Int) ≤ (b:Int):=by omega
    have d4:a ≤ c:=by omega
    have d5:(a:Int) ≤ (c:Int):=by omega
    go_wp2_with (refine wpList_clearK rfl (.tmp 38) 60 rfl 71 5 40 elem_od _ zero_od (odCells_one _) g (a * 5) (b - a) (c - a) (by rfl) (by omega) (a * 5) rfl (odCells M ++ sp) 71 HBK.out HFT.out base w HB.out hbg ?_;intro w2 Z hZ HG2 hB2 HO2)
    have HZ:=Lib.hid hZ
    clear hZ
    go_wp2_with fail
    go_ret
    refine ⟨_,by rw [HF.out.1];rfl,HG2.out,?_,?_,hB2,fun k hk hn=>(HO2.out k (fun e=>hn (by rw [e]))).trans (HO.out k hk hn)⟩
    ·rw [length_splice _ _ _ (by rw [HZ.out];exact HFT.out),HCL.out]
    ·rw [HF.out.1,HTK.out Z HZ.out,HF.out.2]
theorem delfunc_remove_od (base:Nat) (v:Value) (n:Nat) (L:List Od) (id:Int) (gp:Nat) (w:World) (hown:w.ownsRow base 71 5 v n (odCells L)) (hb:base ≤ w.heap.size) (hgp:gp < w.heap.size) (hne:v.ownBlock ≠ some gp) (hp:w.cell? ⟨gp,0,none⟩=some (.int .i64 id)) :
  Calls Try.prog 142 #[v,.func (.func 143) #[] #[.pointer (some ⟨gp,0,none⟩)]] w fun e w'=>∃ v',e=.returned v'∧w'.ownsRow base 71 5 v' (L.filter (fun y=>!hasId id y)).length (odCells (L.filter (fun y=>!hasId id y)))∧v'.ownBlock=v.ownBlock∧Below base w w'∧Only w w' v.ownBlock:=by
 obtain ⟨hl,⟨rfl,h0⟩ | ⟨g,c,cur,rfl,hbg,hg,hnc,hcm,hcs,hct⟩⟩:=hown
 ·subst h0
  have hL:L = []:=List.eq_nil_of_length_eq_zero (by rw [odCells_len] at hl;omega)
  subst hL
  refine Calls.mono (R:=fun e w'=>e=.returned (.slice none 0 0)∧Below w.heap.size w w') ?_ ?_
  ·clear hl
   go_enter Try.func142,Try.ntmps142
   go_wp2_with fail
   refine (idx_remove none 0 0 [] id gp w.heap.size w (Rd.none_ _ _ _) (Nat.le_refl _) hgp hp).mono ?_
   rintro e w1 ⟨rfl,hb1⟩
   rw [show idxOf (hasId id) [] = -1 from rfl]
   go_wp2_with fail
   go_ret
   exact ⟨rfl,hb1⟩
  ·rintro e w' ⟨rfl,h⟩
   exact ⟨_,rfl,World.ownsRow_nil _ _ _ _,rfl,h.mono hb,fun k hk _=>h.block k hk⟩
 ·have hgb:Blk w g 71 cur.toList.toArray:=by rw [Array.toArray_toList];exact hg
  obtain ⟨sp,e1,e2,e3⟩:=rows_of_cur (L:=L) (cur:=cur.toList) (by rw [Array.length_toList];exact hcs) hnc hct
  rw [e1] at hgb
  refine (delfunc_remove base g n c L sp id gp w hgb e2 e3 hnc hcm hbg hb hgp (fun e=>hne (by rw [e];rfl)) hp).mono ?_
  rintro e w' ⟨cur',rfl,h1,h2,h3,h4,h5⟩
  have hle:(L.filter (fun y=>!hasId id y)).length ≤ n:=by rw [← e2];exact List.length_filter_le _ _
  exact ⟨_,rfl,⟨by rw [odCells_len],.inr ⟨g,c,cur'.toArray,rfl,hbg,h1,by omega,hcm,by simpa using h2,by simpa using h3⟩⟩,rfl,h4,h5⟩
end
section
open Go.RowKit
theorem find_at {L:List Od} {id:Int} {j:Nat} (h:(L.take j).all (fun y=>!hasId id y)=true):findO L id=findO (L.drop j) id:=by
 conv=>lhs;rw [← List.take_append_drop j L]
 unfold findO
 rw [List.find?_append,List.find?_eq_none.2 (fun y hy=>by
  rw [List.all_eq_true] at h
  have:=h y hy
  simp [hasId] at this
  simpa using this)]
 rfl
theorem find_here {L:List Od} {id:Int} {j:Nat} {x:Od} (hx:L[j]?=some x) (hp:hasId id x=true) (h:(L.take j).all (fun y=>!hasId id y)=true):findO L id=some x:=by
 rw [find_at h]
 obtain ⟨h1,h2⟩:=List.getElem?_eq_some_iff.1 hx
 rw [List.drop_eq_getElem_cons h1,h2]
 unfold findO
 rw [List.find?_cons_of_pos (by simpa [hasId] using hp)]
theorem find_none {L:List Od} {id:Int} (h:L.all (fun y=>!hasId id y)=true):findO L id=none:=by
 have:=find_at (L:=L) (id:=id) (j:=L.length) (by rw [List.take_length];exact h)
 rw [this,List.drop_length];rfl
def RetFind (w:World) (r:Od × Int) (e:Ending) (w':World):Prop:=e=.returned (.tuple #[.agg #[.int .i64 r.1.id,.int .i64 r.1.acc,.int .i64 r.1.side,.int .i64 r.1.price,.int .i64 r.1.qty],.int .i64 r.2])∧Below w.heap.size w w'
theorem retFind_mk {w w':World} {r:Od × Int} {o:Od} {n:Int} (h:r=(o,n)) (hb:Below w.heap.size w w'):RetFind w r (.returned (.tuple #[.agg #[.int .i64 o.id,.int .i64 o.acc,.int .i64 o.side,.int .i64 o.price,.int .i64 o.qty],.int .i64 n])) w':=by subst h;exact ⟨rfl,hb⟩
theorem post_name {P:Program} {f:Func} {Q:Ending→World→Prop} {x:Exit} {a:Act} {W:World} (h:∀ Z,Z=W→bodyPost P f Q x a Z):bodyPost P f Q x a W:=h W rfl
theorem calls_name {P:Program} {f:Nat} {args:Array Value} {W:World} {R:Ending→World→Prop} (h:∀ Z,Z=W→Calls P f args Z R):Calls P f args W R:=h W rfl
set_option maxHeartbeats 2000000 in
set_option maxRecDepth 100000 in
theorem find_bk (b:Bk) (id:Int) (A A':Option Addr) (c c' B:Nat) (w:World) (h:BkR w B A A' c c' b) (hB:B ≤ w.heap.size) (hl:b.bids.length ≤ 4000000000000) (hl':b.asks.length ≤ 4000000000000) :
  Calls Try.prog 69 #[.agg #[.slice A b.bids.length c,.slice A' b.asks.length c'],.int .i64 id] w (RetFind w (findOf b id)):=by
 have HE:=Lib.hid (show findOf b id=if bookErr b ≠ 0 then (zeroOd,bookErr b) else match findO (b.bids ++ b.asks) id with | some o=>(o,0) | none=>(zeroOd,5) from rfl)
 go_enter Try.func69,Try.ntmps69
 go_wp2_with fail
 obtain ⟨w2,hw2⟩:∃ x,x=(w.alloc (.cells #[.slice A b.bids.length c,.slice A' b.asks.length c'] 62)).alloc (.cells #[.int .i64 zeroOd.id,.int .i64 zeroOd.acc,.int .i64 zeroOd.side,.int .i64 zeroOd.price,.int .i64 zeroOd.qty] 71):=⟨_,rfl⟩
 have hb2:Below w.heap.size w w2:=by rw [hw2];exact ((Below.refl _ _).alloc (Nat.le_refl _) _).alloc (by simp) _
 have hs2:w2.heap.size=w.heap.size + 1 + 1:=by rw [hw2];simp
 have X1:Blk w2 w.heap.size 62 #[.slice A b.bids.length c,.slice A' b.asks.length c']:=by rw [hw2];exact (Blk.new w _ _).alloc _
 have X2:Blk w2 (w.heap.size + 1) 71 #[.int .i64 zeroOd.id,.int .i64 zeroOd.acc,.int .i64 zeroOd.side,.int .i64 zeroOd.price,.int .i64 zeroOd.qty]:=by
  have:=Blk.new (w.alloc (.cells #[.slice A b.bids.length c,.slice A' b.asks.length c'] 62)) 71 #[.int .i64 zeroOd.id,.int .i64 zeroOd.acc,.int .i64 zeroOd.side,.int .i64 zeroOd.price,.int .i64 zeroOd.qty]
  rw [World.size_alloc] at this
  rw [hw2];exact this
 simp only [zeroOd] at hw2
 rw [← hw2]
 simp only [zeroOd] at X2
 have hr:=h.below (hb2.mono hB)
 clear hw2
 refine (bookCheck_any b A A' c c' B w2 hr.l hr.r (by omega) (by omega) (by omega)).mono ?_
 rintro e w3 ⟨rfl,hb3⟩
 have hs3:=hb3.size
 obtain ⟨⟨kX10,kX11⟩,-⟩:=X1.c2
 obtain ⟨⟨kX20,kX21,kX22,kX23,kX24⟩,fX20,fX21,fX22,fX23,fX24⟩:=X2.c5
 clear kX10 kX11
 replace X1:=X1.below hb3 X1.lt
 obtain ⟨⟨kX10,kX11⟩,-⟩:=X1.c2
 clear kX20 kX21 kX22 kX23 kX24 fX20 fX21 fX22 fX23 fX24
 replace X2:=X2.below hb3 X2.lt
 obtain ⟨⟨kX20,kX21,kX22,kX23,kX24⟩,fX20,fX21,fX22,fX23,fX24⟩:=X2.c5
 have hbw3:=hb2.trans (hb3.mono (by omega))
 have hr3:=hr.below (hb3.mono (by omega))
 clear hb3 hr hb2
 by_cases he:bookErr b=0
 rotate_left
 ·have HE1:=Lib.hid (HE.out.trans (if_pos he))
  have he':(bookErr b != 0)=true:=by simpa using he
  clear he HE
  go_wp2_with fail
  refine bodyPost_ret (v:=.tuple #[.agg #[.int .i64 0,.int .i64 0,.int .i64 0,.int .i64 0,.int .i64 0],.int .i64 (bookErr b)]) (by simp [results,Try.results69,go_sem, *]) rfl ?_
  exact retFind_mk (o:=zeroOd) HE1.out (Below.setCell (Below.setCell (Below.setCell (Below.setCell (Below.setCell hbw3 (by dsimp only;omega) _) (by dsimp only;omega) _) (by dsimp only;omega) _) (by dsimp only;omega) _) (by dsimp only;omega) _)
 ·have HE1:=Lib.hid (HE.out.trans (if_neg (by omega)))
  have HBK:=Lib.hid (bookErr_ok.1 he)
  have hlen:=HBK.out.len
  rw [he]
  clear he HE
  go_wp2_with fail
  obtain ⟨w4,hw4⟩:∃ x,x=w3.alloc (.cells #[.slice A b.bids.length c,.slice A' b.asks.length c'] 60):=⟨_,rfl⟩
  have hb4:Below w3.heap.size w3 w4:=by rw [hw4];exact (Below.refl _ _).alloc (Nat.le_refl _) _
  have hs4:w4.heap.size=w3.heap.size + 1:=by rw [hw4];simp
  have X3:Blk w4 w3.heap.size 60 #[.slice A b.bids.length c,.slice A' b.asks.length c']:=by rw [hw4];exact Blk.new w3 _ _
  rw [← hw4]
  have hr4:=hr3.below (hb4.mono (by omega))
  clear kX10 kX11
  replace X1:=X1.below hb4 X1.lt
  obtain ⟨⟨kX10,kX11⟩,-⟩:=X1.c2
  clear kX20 kX21 kX22 kX23 kX24 fX20 fX21 fX22 fX23 fX24
  replace X2:=X2.below hb4 X2.lt
  obtain ⟨⟨kX20,kX21,kX22,kX23,kX24⟩,fX20,fX21,fX22,fX23,fX24⟩:=X2.c5
  clear hw4 hr3
  refine (concat_ods A A' b.bids.length c b.asks.length c' b.bids b.asks B w4 hr4.l hr4.r (by omega) w3.heap.size (by omega) X3.c2.1.1 X3.c2.1.2 (by omega)).mono ?_
  rintro e w5 ⟨v,rfl,hown,hb5⟩
  have hs5:=hb5.size
  clear kX10 kX11
  replace X1:=X1.below hb5 X1.lt
  obtain ⟨⟨kX10,kX11⟩,-⟩:=X1.c2
  clear kX20 kX21 kX22 kX23 kX24 fX20 fX21 fX22 fX23 fX24
  replace X2:=X2.below hb5 X2.lt
  obtain ⟨⟨kX20,kX21,kX22,kX23,kX24⟩,fX20,fX21,fX22,fX23,fX24⟩:=X2.c5
  have hbw5:=(hbw3.trans (hb4.mono (by omega))).trans (hb5.mono (by omega))
  obtain ⟨A1,c1,rfl⟩:=own_shape hown
  have hr5:=Rd.of_own hown
  have hle5:=hr5.le
  have hcap5:=hr5.cap
  have HL:=Lib.hid (rdo_len hr5)
  have HR5:=Lib.hid hr5
  have HX2:=Lib.hid X2
  clear hb4 hb5 X1 X3 hr4 hown hbw3 hr5 kX10 kX11 kX20 kX21 kX22 kX23 kX24 fX20 fX21 fX22 fX23 fX24 X2
  unfold maxLen at hcap5
  obtain ⟨n1,hn1⟩:∃ n,n=b.bids.length + b.asks.length:=⟨_,rfl⟩
  rw [← hn1] at HR5 HL hle5
  rw [← hn1]
  clear hn1
  go_wp2_with fail
  go_loopw [22] (fun i wr=>∃ j:Nat,j ≤ n1∧i=.int .i64 j∧Below w5.heap.size w5 wr∧Hid (((b.bids ++ b.asks).take j).all (fun y=>!hasId id y)=true)) (fun i _=>n1 - (intOf i).toNat)
  case atStart=>exact ⟨0,Nat.zero_le _,rfl,Below.refl _ _,rfl⟩
  case round =>
   obtain ⟨j,hj,rfl,hbr,HP⟩:=hrel
   have hws:=hbr.size
   have X2:=HX2.out.below hbr HX2.out.lt
   have hbwr:=hbw5.trans (hbr.mono (by omega))
   by_cases hlt:j < n1
   ·obtain ⟨bb,oo,x,rfl,hbb,hx,k0,k1,k2,k3,k4⟩:=od_at (HR5.out.below hbr) hlt
    have x1:bb < wr.heap.size:=by omega
    have x2:w.heap.size + 1 < wr.heap.size:=by omega
    have HX:=Lib.hid hx
    clear hx
    obtain ⟨⟨kX20,kX21,kX22,kX23,kX24⟩,fX20,fX21,fX22,fX23,fX24⟩:=X2.c5
    rcases (bool_cs (hasId id x)).symm with hp | hp
    ·have HF:=Lib.hid (show findOf b id=(x,0) by rw [HE1.out,find_here HX.out hp HP.out])
     have hp':(x.id == id)=true:=hp
     clear hp
     go_wp2_with fail
     refine post_name ?_
     intro Z hZ
     have XZ:Blk Z (w.heap.size + 1) 71 #[.int .i64 x.id,.int .i64 x.acc,.int .i64 x.side,.int .i64 x.price,.int .i64 x.qty]:=by rw [hZ];exact (((((X2.set_ 0 _).set_ 1 _).set_ 2 _).set_ 3 _).set_ 4 _).alloc _
     have hbZ:Below w.heap.size w Z:=by rw [hZ];exact (Below.setCell (Below.setCell (Below.setCell (Below.setCell (Below.setCell hbwr (by dsimp only;omega) _) (by dsimp only;omega) _) (by dsimp only;omega) _) (by dsimp only;omega) _) (by dsimp only;omega) _).alloc (by simp;omega) _
     clear hZ kX20 kX21 kX22 kX23 kX24 fX20 fX21 fX22 fX23 fX24 k0 k1 k2 k3 k4
     obtain ⟨⟨kXZ0,kXZ1,kXZ2,kXZ3,kXZ4⟩,-⟩:=XZ.c5
     refine bodyPost_ret (v:=.tuple #[.agg #[.int .i64 x.id,.int .i64 x.acc,.int .i64 x.side,.int .i64 x.price,.int .i64 x.qty],.int .i64 0]) (by simp [results,Try.results69,go_sem, *]) rfl ?_
     exact retFind_mk (o:=x) HF.out hbZ
    ·have HN:=Lib.hid (all_next (p:=hasId id) HX.out hp HP.out)
     have hp':(x.id == id)=false:=hp
     clear hp
     go_wp2_with fail
     go_roundw
     case rel=>exact ⟨j + 1,by omega,by go_num,hbr.alloc (by omega) _,HN⟩
     case measure=>simp [intOf];omega
   ·have hjn:j=n1:=by omega
    have HF:=Lib.hid (show findOf b id=(zeroOd,5) by
     rw [HE1.out,find_none (by have:=HP.out;rw [hjn,List.take_of_length_le (by rw [HL.out];exact Nat.le_refl _)] at this;exact this)])
    clear hjn
    obtain ⟨⟨kX20,kX21,kX22,kX23,kX24⟩,fX20,fX21,fX22,fX23,fX24⟩:=X2.c5
    go_wp2_with fail
    refine bodyPost_ret (v:=.tuple #[.agg #[.int .i64 0,.int .i64 0,.int .i64 0,.int .i64 0,.int .i64 0],.int .i64 (5)]) (by simp [results,Try.results69,go_sem, *]) rfl ?_
    exact retFind_mk (o:=zeroOd) HF.out (Below.setCell (Below.setCell (Below.setCell (Below.setCell (Below.setCell hbwr (by dsimp only;omega) _) (by dsimp only;omega) _) (by dsimp only;omega) _) (by dsimp only;omega) _) (by dsimp only;omega) _)
end
end Go.Proofs.Ytockodmbhnlheaa
