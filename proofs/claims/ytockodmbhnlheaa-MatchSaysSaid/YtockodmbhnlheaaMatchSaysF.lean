/-
  THE LAW MatchSays: holds for every input, with no condition. (Joined texts: Del, DelFunc, Find, Shelved, Fill, Take.)
-/
import Derived.Test.YtockodmbhnlheaaMatchSaysC
import Derived.Test.YtockodmbhnlheaaProg
import Derived.Test.YtockodmbhnlheaaMatchSaysA
import Derived.Maps.AppendAt
import Derived.Laws.AppendOwnNone
import Derived.OwnWalk
import Derived.Lib.AppendZeros
import Derived.Test.YtockodmbhnlheaaMatchSaysB
import Derived.Laws.CopyOwn
import Derived.Lib.AppendZerosOnto
import Derived.Lib.Overlaps
import Derived.Laws.Externs
import Derived.Deep.RegionLaw
import Derived.Maps.Own
import Derived.Maps.OwnOps
import Derived.Maps.Views
import Derived.WalkKit
import Derived.Deep.Draws
import Derived.IntWalk
import Derived.Deep.RegionHeld3
import Derived.Deep.QuietTactic
import Derived.BigQuiet
import Derived.Deep.DeepCutAuto
import Derived.WalkSpells
import Derived.WalkLawsBesides
import Derived.Lib.Hide
import Derived.Test.YtockodmbhnlheaaMatchSaysE
import Derived.Test.YtockodmbhnlheaaMatchSaysD
namespace Go.Proofs.Ytockodmbhnlheaa
section
open Go.RowKit
section
variable {P:Program}
theorem step_appK {ops:Array Oper} {o:Oper} {a:Act} {w:World} {K:Act→World→Prop} {Q:Exit→Act→World→Prop} {X:Prop} (hgd:o.guard=none) (s x:Operand) (t:TypeId)
  (ho:o.op=.call { callee:=.builtin .append,args:=#[s,x],argTypes:=#[t,t] }) (e k bytes:Nat) (E:Elem P t e k bytes) (g n cap:Nat)
  (hs:a.eval s=.slice (some ⟨g,0,none⟩) n cap) (ad:Addr) (m c:Nat) (hx:a.eval x=.slice (some ad) m c) (news:List Value) (hl:news.length=m * k) (hc:∀ j u,news[j]?=some u→w.cell? (ad.add j)=some u) (h1:∀ u ∈ news,u.oneCell'=true)
  (hroom:n + m ≤ cap) (cur:List Value) (hg:w.heap[g]?=some (.cells cur.toArray e (0,0))) (hfit:n * k + news.length ≤ cur.length) (B:Nat) (w0:World) (hb:Below B w0 w) (hBg:B ≤ g)
  (h:∀ w',Hid (w'.heap[g]?=some (.cells (splice cur (n * k) news).toArray e (0,0)))→Below B w0 w'→Hid (∀ j,j ≠ g→w'.heap[j]?=w.heap[j]?)→K (a.put o.dst (.slice (some ⟨g,0,none⟩) (n + m) cap)) w') :
  if Region.wanted o (yielded ops a.tmps)=true then Oper.wp P o a w K Q else X:=by
 obtain ⟨i,z,hi,_,hk,_⟩:=E.hi
 rw [if_pos (show Region.wanted o (yielded ops a.tmps)=true by simp [Region.wanted,hgd])]
 subst hk
 have hrun:=run_append_room (P:=P) w t o.type e i E.ht hi g n cap cur.toArray hg ad m c news hl hc h1 hroom (by simpa using hfit)
 unfold Oper.wp
 simp [execOp,ho,resolve,invoke,builtin,hs,hx,hrun,Result.andThen]
 exact h _ (show _=_ by simpa [splice] using setRow_heap w g _ _ e _ hg) (below_setRow hb hBg _) (fun j hj=>setRow_other w g j _ hj)
theorem run_clearK {t e k bytes:Nat} (E:Elem P t e k bytes) (zs:List Value) (hz:(P.info? e).map (fun i=>i.zero.map (fun z=>z.cells.toList))=some (some zs)) (h1:∀ u ∈ zs,u.oneCell'=true) (w:World) (g off n c:Nat) (hn:0 < n) (cur:List Value) (tg:TypeId)
  (hg:w.heap[g]?=some (.cells cur.toArray tg (0,0))) (hfit:off + n * k ≤ cur.length) (ty:TypeId) :
  ∃ Z,Z.length=n * k∧(Builtin.clear_ #[t] ty #[.slice (some ⟨g,off,none⟩) n c]).run P w=.ok (.tuple #[]) (w.setRow g (splice cur off Z).toArray):=by
 obtain ⟨i,z,hi,hz0,hk,_,hzk⟩:=E.hi
 have hzc:z.cells.toList=zs:=by rw [hi,Option.map_some,hz0,Option.map_some] at hz;injection hz with hz;injection hz
 have hzv:(zeroValue e).run P w=.ok z w:=by simp [zeroValue,typeInfo,hi,hz0]
 have hlen:(Builtin.zeroCells z.cells n).toList.length=n * k:=by rw [Array.length_toList,size_zeroCells,hzk]
 have hone:∀ u ∈ (Builtin.zeroCells z.cells n).toList,u.oneCell'=true:=by
  intro u hu
  simp only [Builtin.zeroCells,Array.toList_map,List.mem_map,Array.toList_range,List.mem_range] at hu
  obtain ⟨j,hj,rfl⟩:=hu
  have hpos:=E.pos
  have hlt:j % z.cells.size < z.cells.size:=Nat.mod_lt _ (by omega)
  refine h1 _ ?_
  rw [← hzc,getElem!_pos z.cells _ hlt]
  exact Array.getElem_mem_toList hlt
 have hst:=run_storeCells_at (P:=P) g off tg (Builtin.zeroCells z.cells n).toList 0 cur.toArray w hg (by simpa [hlen] using hfit) hone
 refine ⟨(Builtin.zeroCells z.cells n).toList,hlen,?_⟩
 obtain ⟨m,rfl⟩:∃ m,n=m + 1:=⟨n - 1,by omega⟩
 simp only [Nat.add_zero] at hst
 simp [Builtin.clear_,run_underlying E.ht,hzv,hst,splice]
theorem wpList_clearK {w:World} {ops:Array Oper} {rest:List Oper} {o:Oper} {a:Act} {Q:Exit→Act→World→Prop} (hgd:o.guard=none) (x:Operand) (t:TypeId)
  (ho:o.op=.call { callee:=.builtin .clear,args:=#[x],argTypes:=#[t] }) (e k bytes:Nat) (E:Elem P t e k bytes) (zs:List Value) (hz:(P.info? e).map (fun i=>i.zero.map (fun z=>z.cells.toList))=some (some zs)) (h1:∀ u ∈ zs,u.oneCell'=true) (g off n c:Nat)
  (hx:a.eval x=.slice (some ⟨g,off,none⟩) n c) (hn:0 < n) (OFF:Nat) (ho2:off=OFF) (cur:List Value) (tg:TypeId) (hg:w.heap[g]?=some (.cells cur.toArray tg (0,0))) (hfit:OFF + n * k ≤ cur.length) (B:Nat) (w0:World) (hb:Below B w0 w) (hBg:B ≤ g)
  (h:∀ w' Z,Z.length=n * k→Hid (w'.heap[g]?=some (.cells (splice cur OFF Z).toArray tg (0,0)))→Below B w0 w'→Hid (∀ j,j ≠ g→w'.heap[j]?=w.heap[j]?)→wpList P ops Q rest (a.put o.dst (.tuple #[])) w'):wpList P ops Q (o :: rest) a w:=by
 subst ho2
 refine wpList_plain hgd fun K hK=>?_
 obtain ⟨Z,hZ,hrun⟩:=run_clearK E zs hz h1 w g off n c hn cur tg hg hfit o.type
 unfold Oper.wp
 simp [execOp,ho,resolve,invoke,builtin,hx,hrun,Result.andThen]
 exact hK _ _ (h _ Z hZ (show _=_ from setRow_heap w g _ _ tg _ hg) (below_setRow hb hBg _) fun j hj=>setRow_other w g j _ hj)
end
theorem zero_od:(Try.prog.info? 71).map (fun i=>i.zero.map (fun z=>z.cells.toList))=some (some (odCells [zeroOd])):=by kernel_rfl
theorem odCells_erase (L:List Od) (i:Nat):odCells (L.take i) ++ odCells (L.drop (i + 1))=odCells (L.eraseIdx i):=by
 rw [← odCells_app,List.eraseIdx_eq_take_drop_succ]
set_option maxHeartbeats 2000000 in
set_option maxRecDepth 100000 in
theorem delete_at (base g n c i:Nat) (L:List Od) (cur:List Value) (w:World) (hg:Blk w g 71 cur.toArray) (hcl:cur.length=c * 5) (hcur:cur.take (n * 5)=odCells L) (hnc:n ≤ c) (_hc:c ≤ maxLen)
  (hbg:base ≤ g) (hb:base ≤ w.heap.size) (hi:i < n) :
  Calls Try.prog 65 #[.slice (some ⟨g,0,none⟩) n c,.int .i64 i,.int .i64 ((i:Int) + 1)] w fun e w'=>∃ cur':List Value,e=.returned (.slice (some ⟨g,0,none⟩) (n - 1) c) ∧
   Blk w' g 71 cur'.toArray∧cur'.length=c * 5∧cur'.take ((n - 1) * 5)=odCells (L.eraseIdx i)∧Below base w w'∧Only w w' (some g):=by
 have hL:L.length=n:=by
  have h:=congrArg List.length hcur
  rw [odCells_len,List.length_take] at h;omega
 obtain ⟨news,hnews⟩:∃ news,news=odCells (L.drop (i + 1)):=⟨_,rfl⟩
 have hlen:news.length=(n - (i + 1)) * 5:=by rw [hnews,odCells_len,List.length_drop,hL]
 have hget:∀ t u,news[t]?=some u→cur[(i + 1) * 5 + t]?=some u:=by
  intro t u hu
  have ht:=(List.getElem?_eq_some_iff.1 hu).1
  rw [hnews,← odCells_drop,← hcur,List.getElem?_drop,List.getElem?_take] at hu
  split at hu
  ·exact hu
  ·cases hu
 obtain ⟨ad,hA,hsrc⟩:∃ ad:Addr,(if c=i + 1 then (some ⟨g,0,none⟩:Option Addr) else some ⟨g,(i + 1) * 5,none⟩)=some ad∧Hid (∀ t u,news[t]?=some u→w.drew.cell? (ad.add t)=some u):=by
  by_cases h:c=i + 1
  ·refine ⟨⟨g,0,none⟩,by simp [h],fun t u hu=>?_⟩
   have h0:news.length=0:=by rw [hlen];omega
   rw [List.length_eq_zero_iff.1 h0] at hu
   simp at hu
  ·refine ⟨⟨g,(i + 1) * 5,none⟩,by simp [h],fun t u hu=>?_⟩
   rw [Addr.add_lit,Blk.cell (show Blk w.drew g 71 cur.toArray from hg)]
   simpa using hget t u hu
 have h1:Hid (∀ u ∈ news,u.oneCell'=true):=by rw [hnews];exact odCells_one _
 have hfit:i * 5 + news.length ≤ cur.length:=by rw [hlen,hcl];omega
 have HF:=Lib.hid (show ∀ Z:List Value,Z.length=5→(splice (splice cur (i * 5) news) ((n - 1) * 5) Z).length=c * 5∧(splice (splice cur (i * 5) news) ((n - 1) * 5) Z).take ((n - 1) * 5)=odCells (L.eraseIdx i) by
  intro Z hZ
  have hl1:(splice cur (i * 5) news).length=c * 5:=by rw [length_splice _ _ _ hfit,hcl]
  refine ⟨by rw [length_splice _ _ _ (by rw [hl1,hZ];omega),hl1],?_⟩
  have e1:(splice (splice cur (i * 5) news) ((n - 1) * 5) Z).take ((n - 1) * 5)=(splice cur (i * 5) news).take ((n - 1) * 5):=by
   unfold splice
   rw [List.take_append_of_le_length (by simp only [List.length_take,List.length_append,List.length_drop];omega),List.take_take,Nat.min_self]
  rw [e1]
  unfold splice
  have e2:cur.take (i * 5)=odCells (L.take i):=by
   rw [← odCells_take,← hcur,List.take_take,Nat.min_eq_left (by omega)]
  rw [e2,← List.append_assoc,List.take_append_of_le_length (by rw [List.length_append,hlen,odCells_len,List.length_take];omega),List.take_of_length_le (by rw [List.length_append,hlen,odCells_len,List.length_take];omega),hnews,odCells_erase])
 have HG:=Lib.hid (show w.drew.heap[g]?=some (.cells cur.toArray 71 (0,0)) from hg)
 have HL:=Lib.hid hlen
 have HFIT:=Lib.hid hfit
 have HS:=Lib.hid (show (splice cur (i * 5) news).length=c * 5 by rw [length_splice _ _ _ hfit,hcl])
 have hBd:Below base w w.drew:=(below_drew (Below.refl _ _)).mono hb
 clear hg hcl hcur hL hnews hlen hget hfit
 unfold maxLen at _hc
 have b1:¬ (c=i):=by omega
 have b2:¬ (c=n - 1):=by omega
 have b3:¬ ((i:Int)=(i:Int) + 1):=by omega
 have b4:(0:Int) ≤ (i:Int) + 1:=by omega
 have b5:(i:Int) + 1 ≤ (n:Int):=by omega
 have b6:((i:Int) + 1).toNat=i + 1:=by omega
 have b7:i + (n - (i + 1))=n - 1:=by omega
 have c1:i ≤ c:=by omega
 have c2:(i:Int) ≤ (c:Int):=by omega
 have c3:i + 1 ≤ n:=by omega
 have c4:i ≤ i + 1:=by omega
 have b8:n - (n - 1)=1:=by omega
 go_enter Try.func65,Try.ntmps65
 go_wp2_with fail
 go_region_law (refine step_appK rfl (.tmp 22) (.tmp 25) 60 rfl 71 5 40 elem_od g i c (by simp [Act.eval,Act.put]) ad (n - (i + 1)) (c - (i + 1)) (by simp [Act.eval,Act.put]) news HL.out hsrc.out h1.out (by omega) cur HG.out HFIT.out base w hBd hbg ?_;intro w1 HG1 hB1 HO1)
 go_wp2_with (refine wpList_clearK rfl (.tmp 31) 60 rfl 71 5 40 elem_od _ zero_od (odCells_one _) g ((n - 1) * 5) 1 (c - (n - 1)) (by rfl) (by omega) ((n - 1) * 5) rfl (splice cur (i * 5) news) 71 HG1.out (by rw [HS.out];omega) base w hB1 hbg ?_;intro w2 Z hZ HG2 hB2 HO2)
 have HZ:=HF.out Z hZ
 have HX:=Lib.hid HZ
 clear hZ HZ
 go_wp2_with fail
 go_ret
 exact ⟨_,rfl,HG2.out,HX.out.1,HX.out.2,hB2,fun k hk hne=>by
  have hk':k ≠ g:=fun e=>hne (by rw [e])
  exact (HO2.out k hk').trans (HO1.out k hk')⟩
theorem delete_od (base:Nat) (v:Value) (n i:Nat) (L:List Od) (w:World) (hown:w.ownsRow base 71 5 v n (odCells L)) (hb:base ≤ w.heap.size) (hi:i < n) :
  Calls Try.prog 65 #[v,.int .i64 i,.int .i64 ((i:Int) + 1)] w fun e w'=>∃ v',e=.returned v'∧w'.ownsRow base 71 5 v' (n - 1) (odCells (L.eraseIdx i))∧v'.ownBlock=v.ownBlock∧Below base w w'∧Only w w' v.ownBlock:=by
 obtain ⟨hl,⟨rfl,h0⟩ | ⟨g,c,cur,rfl,hbg,hg,hnc,hcm,hcs,hct⟩⟩:=hown
 ·omega
 ·have hL:L.length=n:=by rw [odCells_len] at hl;omega
  have hgb:Blk w g 71 cur.toList.toArray:=by rw [Array.toArray_toList];exact hg
  refine (delete_at base g n c i L cur.toList w hgb (by rw [Array.length_toList];exact hcs) hct hnc hcm hbg hb hi).mono ?_
  rintro e w' ⟨cur',rfl,h1,h2,h3,h4,h5⟩
  refine ⟨_,rfl,⟨?_,.inr ⟨g,c,cur'.toArray,rfl,hbg,h1,by omega,hcm,by simpa using h2,by simpa using h3⟩⟩,rfl,h4,h5⟩
  rw [odCells_len,List.length_eraseIdx_of_lt (by omega),hL]
end
section
open Go.RowKit
theorem only_refl (w:World) (b:Option Nat):Only w w b:=fun _ _ _=>rfl
theorem only_below {w w1 w2:World} {b:Option Nat} (h:Only w w1 b) (hs:w.heap.size ≤ w1.heap.size) (hb:Below w1.heap.size w1 w2):Only w w2 b:=fun k hk hn=>(hb.block k (by omega)).trans (h k hk hn)
theorem only_cell {w w1:World} {b:Option Nat} {k o:Nat} (h:Only w w1 b) (hk:k < w.heap.size) (hn:some k ≠ b):w1.cell? ⟨k,o,none⟩=w.cell? ⟨k,o,none⟩:=World.cell?_of_block (h k hk hn)
theorem only_set {w w1:World} {g:Nat} {p:Addr} {v:Value} (h:Only w w1 (some g)) (hp:p.block=g):Only w (w1.setCell p v) (some g):=fun k hk hn=>(Below.heap_setCell w1 p v k (fun e=>hn (by rw [e,hp]))).trans (h k hk hn)
theorem rows_of_cur {n c:Nat} {L:List Od} {cur:List Value} (hcl:cur.length=c * 5) (hnc:n ≤ c) (hcur:cur.take (n * 5)=odCells L):∃ sp,cur=odCells L ++ sp∧L.length=n∧sp.length=(c - n) * 5:=by
 have h1:L.length=n:=by
  have h:=congrArg List.length hcur
  rw [odCells_len,List.length_take] at h;omega
 refine ⟨cur.drop (n * 5),by rw [← hcur,List.take_append_drop],h1,?_⟩
 rw [List.length_drop,hcl];omega
theorem filter_drop {p:Od→Bool} {L:List Od} {b:Nat} {x:Od} (hx:L[b]?=some x) (hp:p x=true):(L.take (b + 1)).filter (fun y=>!p y)=(L.take b).filter (fun y=>!p y):=by
 rw [List.take_add_one,hx];simp [hp]
structure DelRow (w wr:World) (base g n:Nat) (L:List Od) (p:Od→Bool) (sp:List Value) (a b:Nat) (M:List Od):Prop where
 bel:Below base w wr
 only:Only w wr (some g)
 blk:Blk wr g 71 (odCells M ++ sp).toArray
 len:M.length=n
 lo:M.take a=(L.take b).filter (fun y=>!p y)
 hi:M.drop b=L.drop b
theorem DelRow.next {w wr w1:World} {base g n:Nat} {L:List Od} {p:Od→Bool} {sp:List Value} {a b:Nat} {M:List Od} (h:DelRow w wr base g n L p sp a b M) (hb:Below wr.heap.size wr w1) (hbase:base ≤ wr.heap.size) (hs:w.heap.size ≤ wr.heap.size):DelRow w w1 base g n L p sp a b M :=
 ⟨h.bel.trans (hb.mono hbase),only_below h.only hs hb,h.blk.below hb h.blk.lt,h.len,h.lo,h.hi⟩
theorem drop_succ {M L:List Od} {b:Nat} (h:M.drop b=L.drop b):M.drop (b + 1)=L.drop (b + 1):=by
 rw [← List.drop_drop,← List.drop_drop,h]
theorem DelRow.skip {w wr:World} {base g n:Nat} {L:List Od} {p:Od→Bool} {sp:List Value} {a b:Nat} {M:List Od} {x:Od} (h:DelRow w wr base g n L p sp a b M) (hx:L[b]?=some x) (hp:p x=true):DelRow w wr base g n L p sp a (b + 1) M :=
 ⟨h.bel,h.only,h.blk,h.len,by rw [filter_drop hx hp];exact h.lo,drop_succ h.hi⟩
end
section
open Go.RowKit
theorem find_at {L:List Od} {id:Int} {j:Nat} (h:(L.take j).all (fun y=>!hasId id y)=true):findO L id=findO (L.drop j) id:=by
 conv=>lhs;rw [← List.take_append_drop j L]
 unfold findO
 rw [List.find?_append,List.find?_eq_none.2 (fun y hy=>by
  rw [List.all_eq_true] at h
  have:=h y hy
  simp [hasId] at this
  simpa using this)]
 rfl
theorem find_here {L:List Od} {id:Int} {j:Nat} {x:Od} (hx:L[j]?=some x) (hp:hasId id x=true) (h:(L.take j).all (fun y=>!hasId id y)=true):findO L id=some x:=by
 rw [find_at h]
 obtain ⟨h1,h2⟩:=List.getElem?_eq_some_iff.1 hx
 rw [List.drop_eq_getElem_cons h1,h2]
 unfold findO
 rw [List.find?_cons_of_pos (by simpa [hasId] using hp)]
theorem find_none {L:List Od} {id:Int} (h:L.all (fun y=>!hasId id y)=true):findO L id=none:=by
 have:=find_at (L:=L) (id:=id) (j:=L.length) (by rw [List.take_length];exact h)
 rw [this,List.drop_length];rfl
theorem post_name {P:Program} {f:Func} {Q:Ending→World→Prop} {x:Exit} {a:Act} {W:World} (h:∀ Z,Z=W→bodyPost P f Q x a Z):bodyPost P f Q x a W:=h W rfl
theorem calls_name {P:Program} {f:Nat} {args:Array Value} {W:World} {R:Ending→World→Prop} (h:∀ Z,Z=W→Calls P f args Z R):Calls P f args W R:=h W rfl
end
section
open Go.RowKit
structure OBk (w:World) (base:Nat) (A A':Option Addr) (c c':Nat) (b:Bk):Prop where
 l:w.ownsRow base 71 5 (.slice A b.bids.length c) b.bids.length (odCells b.bids)
 r:w.ownsRow base 71 5 (.slice A' b.asks.length c') b.asks.length (odCells b.asks)
theorem OwnBk.obk {w:World} {base:Nat} {v:Value} {b:Bk} (h:OwnBk w base v b):∃ A c A' c',v=.agg #[.slice A b.bids.length c,.slice A' b.asks.length c']∧OBk w base A A' c c' b:=by
 obtain ⟨A,c,A',c',rfl,h1,h2⟩:=h
 exact ⟨A,c,A',c',rfl,h1,h2⟩
theorem OBk.read {w:World} {base:Nat} {A A':Option Addr} {c c':Nat} {b:Bk} (h:OBk w base A A' c c' b):BkR w w.heap.size A A' c c' b:=⟨Rd.of_own h.l,Rd.of_own h.r⟩
theorem OBk.set {w:World} {base:Nat} {A A':Option Addr} {c c':Nat} {b:Bk} (h:OBk w base A A' c c' b) {a:Addr} (ha:a.block < base) (u:Value):OBk (w.setCell a u) base A A' c c' b:=⟨ownsRow_setCell_below h.l ha u,ownsRow_setCell_below h.r ha u⟩
theorem OBk.below {w w1:World} {base B:Nat} {A A':Option Addr} {c c':Nat} {b:Bk} (h:OBk w base A A' c c' b) (hb:Below B w w1) (hB:w.heap.size ≤ B):OBk w1 base A A' c c' b:=⟨own_below h.l hb hB,own_below h.r hb hB⟩
theorem OBk.alloc {w:World} {base:Nat} {A A':Option Addr} {c c':Nat} {b:Bk} (h:OBk w base A A' c c' b) (o:Obj):OBk (w.alloc o) base A A' c c' b:=⟨World.ownsRow.alloc h.l o,World.ownsRow.alloc h.r o⟩
theorem OBk.drewN {w:World} {base:Nat} {A A':Option Addr} {c c':Nat} {b:Bk} (h:OBk w base A A' c c' b) (q:Nat):OBk (w.drewN q) base A A' c c' b:=⟨own_drewN h.l q,own_drewN h.r q⟩
end
section
open Go.RowKit
def flCells:List Fl→List Value
 | []=>[]
 | f :: l=>.int .i64 f.maker :: .int .i64 f.taker :: .int .i64 f.macc :: .int .i64 f.tacc :: .int .i64 f.side :: .int .i64 f.price :: .int .i64 f.qty :: flCells l
theorem flCells_len:∀ L,(flCells L).length=L.length * 7
 | []=>rfl
 | o :: l=>by simp only [flCells,List.length_cons,flCells_len l];omega
theorem flCells_app (M:List Fl):∀ L,flCells (L ++ M)=flCells L ++ flCells M
 | []=>rfl
 | o :: l=>by simp only [List.cons_append,flCells,flCells_app M l]
theorem flCells_one:∀ (L:List Fl),∀ u ∈ flCells L,u.oneCell'=true
 | []=>by simp [flCells]
 | o :: l=>by
  intro u hu
  simp only [flCells,List.mem_cons] at hu
  rcases hu with rfl | rfl | rfl | rfl | rfl | rfl | rfl | hu
  ·rfl
  ·rfl
  ·rfl
  ·rfl
  ·rfl
  ·rfl
  ·rfl
  ·exact flCells_one l u hu
theorem flCells_at:∀ {L:List Fl} {i:Nat} {a:Fl},L[i]?=some a →
  (flCells L)[i * 7]?=some (.int .i64 a.maker)∧(flCells L)[i * 7 + 1]?=some (.int .i64 a.taker)∧(flCells L)[i * 7 + 2]?=some (.int .i64 a.macc)∧(flCells L)[i * 7 + 3]?=some (.int .i64 a.tacc)∧(flCells L)[i * 7 + 4]?=some (.int .i64 a.side)∧(flCells L)[i * 7 + 5]?=some (.int .i64 a.price)∧(flCells L)[i * 7 + 6]?=some (.int .i64 a.qty)
 | [],_,_,h=>by simp at h
 | o :: l,0,a,h=>by
  simp only [List.getElem?_cons_zero,Option.some.injEq] at h
  subst h;exact ⟨rfl,rfl,rfl,rfl,rfl,rfl,rfl⟩
 | o :: l,i + 1,a,h=>by
  simp only [List.getElem?_cons_succ] at h
  obtain ⟨h0,h1,h2,h3,h4,h5,h6⟩:=flCells_at h
  have e:∀ k,(i + 1) * 7 + k=i * 7 + k + 1 + 1 + 1 + 1 + 1 + 1 + 1:=by intro k;omega
  refine ⟨?_,?_,?_,?_,?_,?_,?_⟩
  ·rw [show (i + 1) * 7=i * 7 + 1 + 1 + 1 + 1 + 1 + 1 + 1 by omega];exact h0
  ·rw [e];exact h1
  ·rw [e];exact h2
  ·rw [e];exact h3
  ·rw [e];exact h4
  ·rw [e];exact h5
  ·rw [e];exact h6
theorem rdf_len {w:World} {B n c:Nat} {A:Option Addr} {L:List Fl} (h:Rd w B 7 A n c (flCells L)):L.length=n:=by have:=h.len;rw [flCells_len] at this;omega
theorem fl_at {w:World} {B n c:Nat} {A:Option Addr} {L:List Fl} (h:Rd w B 7 A n c (flCells L)) {i:Nat} (hi:i < n):∃ b o a,A=some ⟨b,o,none⟩∧b < B∧L[i]?=some a ∧
  w.cell? ⟨b,o + i * 7,none⟩=some (.int .i64 a.maker)∧w.cell? ⟨b,o + i * 7 + 1,none⟩=some (.int .i64 a.taker)∧w.cell? ⟨b,o + i * 7 + 2,none⟩=some (.int .i64 a.macc) ∧
   w.cell? ⟨b,o + i * 7 + 3,none⟩=some (.int .i64 a.tacc)∧w.cell? ⟨b,o + i * 7 + 4,none⟩=some (.int .i64 a.side)∧w.cell? ⟨b,o + i * 7 + 5,none⟩=some (.int .i64 a.price)∧w.cell? ⟨b,o + i * 7 + 6,none⟩=some (.int .i64 a.qty):=by
 have hl:=rdf_len h
 obtain ⟨b,o,e,hb,hc⟩:=h.at_ (by omega)
 have ha:L[i]?=some L[i]:=List.getElem?_eq_getElem (by omega)
 obtain ⟨h0,h1,h2,h3,h4,h5,h6⟩:=flCells_at ha
 refine ⟨b,o,_,e,hb,ha,hc _ _ h0,?_,?_,?_,?_,?_,?_⟩
 ·rw [Nat.add_assoc];exact hc _ _ h1
 ·rw [Nat.add_assoc];exact hc _ _ h2
 ·rw [Nat.add_assoc];exact hc _ _ h3
 ·rw [Nat.add_assoc];exact hc _ _ h4
 ·rw [Nat.add_assoc];exact hc _ _ h5
 ·rw [Nat.add_assoc];exact hc _ _ h6
theorem elem_fl:Elem Try.prog 83 87 7 56:=elem_mk Try.underlying83 (by kernel_rfl) (by decide)
theorem step_app {P:Program} {ops:Array Oper} {o:Oper} {a:Act} {w:World} {K:Act→World→Prop} {Q:Exit→Act→World→Prop} {X:Prop} (hgd:o.guard=none) (s x:Operand) (t:TypeId)
  (ho:o.op=.call { callee:=.builtin .append,args:=#[s,x],argTypes:=#[t,t] })
  (base e k bytes:Nat) (E:Elem P t e k bytes) (v:Value) (n:Nat) (xs:List Value) (hs:a.eval s=v) (hown:w.ownsRow base e k v n xs)
  (B:Nat) (A:Option Addr) (m c:Nat) (news:List Value) (hx:a.eval x=.slice A m c) (hr:Rd w B k A m c news) (h1:∀ u ∈ news,u.oneCell'=true)
  (hlen:n + m ≤ maxLen) (hbytes:(n + m) * bytes ≤ 140737488355328) (hbase:base ≤ w.heap.size)
  (h:∀ v' w',w'.ownsRow base e k v' (n + m) (xs ++ news)→Below base w w'→w.grownBy w' v.ownBlock→(v'.ownBlock=v.ownBlock∨v'.ownBlock=some w.heap.size)→K (a.put o.dst v') w') :
  if Region.wanted o (yielded ops a.tmps)=true then Oper.wp P o a w K Q else X:=by
 rw [if_pos (show Region.wanted o (yielded ops a.tmps)=true by simp [Region.wanted,hgd])]
 exact wp_app s x t ho base e k bytes E v n xs hs hown B A m c news hx hr h1 hlen hbytes hbase h
theorem rd_new {w:World} (cs:Array Value) (t:TypeId) (g k:Nat) (hg:g=w.heap.size) (hk:cs.size=k) (xs:List Value) (hx:cs.toList=xs):Rd (w.alloc (.cells cs t)) (g + 1) k (some ⟨g,0,none⟩) 1 1 xs:=by
 subst hg hx
 exact ⟨by simp [hk],Nat.le_refl _,by decide,nofun,fun _=>⟨_,_,rfl,by omega,fun j u hj=>by rw [World.cell?_alloc_new];simpa using hj⟩⟩
theorem grown_only {w w':World} {b:Option Nat} (h:w.grownBy w' b):Only w w' b:=fun k hk hn=>h.block k hk hn
end
section
open Go.RowKit
structure Tk (w wr:World) (base:Nat) (B1:Array Value) (o:Od) (Lo L0 M:List Od) (fs:List Fl) (left:Int) (NX:Nat) (vf vo vx:Value):Prop where
 bel:Below w.heap.size w wr
 one:Blk wr w.heap.size 62 B1
 two:Blk wr (w.heap.size + 1) 71 #[.int .i64 o.id,.int .i64 o.acc,.int .i64 o.side,.int .i64 o.price,.int .i64 o.qty]
 three:Blk wr (w.heap.size + 1 + 1) 62 #[.slice none 0 0,.slice none 0 0]
 low:w.heap.size + 1 + 1 < base
 high:base ≤ wr.heap.size
 rowO:wr.ownsRow base 71 5 vo Lo.length (odCells Lo)
 rowX:wr.ownsRow base 71 5 vx NX (odCells M)
 lenX:M.length=NX
 rowF:wr.ownsRow base 87 7 vf fs.length (flCells fs)
 ox:∀ k,vo.ownBlock=some k→vx.ownBlock ≠ some k
 fo:∀ k,vo.ownBlock=some k→vf.ownBlock ≠ some k
 fx:∀ k,vx.ownBlock=some k→vf.ownBlock ≠ some k
 side:SideOk (-o.side) M
 take:takeL o o.qty L0=((takeL o left M).1,fs ++ (takeL o left M).2.1,(takeL o left M).2.2)
 left_:0 ≤ left∧left ≤ o.qty
 cnt:fs.length + M.length ≤ 40∨left=0∧fs.length + M.length ≤ 41
theorem Tk.below {w wr w1:World} {base:Nat} {B1:Array Value} {o:Od} {Lo L0 M:List Od} {fs:List Fl} {left:Int} {NX:Nat} {vf vo vx:Value} (h:Tk w wr base B1 o Lo L0 M fs left NX vf vo vx) (hb:Below wr.heap.size wr w1):Tk w w1 base B1 o Lo L0 M fs left NX vf vo vx :=
 ⟨h.bel.trans (hb.mono h.bel.size),h.one.below hb h.one.lt,h.two.below hb h.two.lt,h.three.below hb h.three.lt,h.low,Nat.le_trans h.high hb.size,own_below h.rowO hb (Nat.le_refl _),own_below h.rowX hb (Nat.le_refl _),h.lenX,own_below h.rowF hb (Nat.le_refl _),h.ox,h.fo,h.fx,h.side,h.take,h.left_,h.cnt⟩
theorem tk_part {o x:Od} {l L0:List Od} {fs:List Fl} {left:Int} (h:takeL o o.qty L0=((takeL o left (x :: l)).1,fs ++ (takeL o left (x :: l)).2.1,(takeL o left (x :: l)).2.2)) (h1:0 < left) (h2:crossesB o x.price=true) (h3:x.acc ≠ o.acc) (h4:left < x.qty) :
  takeL o o.qty L0=((takeL o 0 ({ x with qty:=x.qty - left } :: l)).1,(fs ++ [fillOf o x left]) ++ (takeL o 0 ({ x with qty:=x.qty - left } :: l)).2.1,(takeL o 0 ({ x with qty:=x.qty - left } :: l)).2.2):=by
 rw [h,takeL_zero]
 have e:takeL o left (x :: l)=({ x with qty:=x.qty - left } :: l,[fillOf o x left],0,false):=by
  conv=>lhs;unfold takeL
  rw [if_neg (by omega),if_neg (by rw [h2];simp),if_neg h3,if_pos h4]
 rw [e];simp
theorem tk_all {o x:Od} {l L0:List Od} {fs:List Fl} {left:Int} (h:takeL o o.qty L0=((takeL o left (x :: l)).1,fs ++ (takeL o left (x :: l)).2.1,(takeL o left (x :: l)).2.2)) (h1:0 < left) (h2:crossesB o x.price=true) (h3:x.acc ≠ o.acc) (h4:x.qty ≤ left) :
  takeL o o.qty L0=((takeL o (left - x.qty) l).1,(fs ++ [fillOf o x x.qty]) ++ (takeL o (left - x.qty) l).2.1,(takeL o (left - x.qty) l).2.2):=by
 rw [h]
 have e:takeL o left (x :: l)=((takeL o (left - x.qty) l).1,fillOf o x x.qty :: (takeL o (left - x.qty) l).2.1,(takeL o (left - x.qty) l).2.2):=by
  conv=>lhs;unfold takeL
  rw [if_neg (by omega),if_neg (by rw [h2];simp),if_neg h3,if_neg (by omega)]
 rw [e];simp
theorem tk_end {o:Od} {M L0:List Od} {fs:List Fl} {left:Int} (h:takeL o o.qty L0=((takeL o left M).1,fs ++ (takeL o left M).2.1,(takeL o left M).2.2)) (he:left ≤ 0∨M = []∨∃ x l,M=x :: l∧crossesB o x.price=false):takeL o o.qty L0=(M,fs,left,false):=by
 rw [h]
 have e:takeL o left M=(M,[],left,false):=by
  rcases he with he | rfl | ⟨x,l,rfl,hc⟩
  ·cases M with
   | nil=>rfl
   | cons x l=>unfold takeL;rw [if_pos he]
  ·rfl
  ·unfold takeL
   split
   ·rfl
   ·rfl
 rw [e];simp
theorem tk_met {o x:Od} {l L0:List Od} {fs:List Fl} {left:Int} (h:takeL o o.qty L0=((takeL o left (x :: l)).1,fs ++ (takeL o left (x :: l)).2.1,(takeL o left (x :: l)).2.2)) (h1:0 < left) (h2:crossesB o x.price=true) (h3:x.acc=o.acc):takeL o o.qty L0=(x :: l,fs,left,true):=by
 rw [h]
 have e:takeL o left (x :: l)=(x :: l,[],left,true):=by unfold takeL;rw [if_neg (by omega),if_neg (by rw [h2];simp),if_pos h3]
 rw [e];simp
theorem head_c {w:World} {g:Nat} {t:TypeId} {x:Od} {l:List Od} {sp:List Value} (h:Blk w g t (odCells (x :: l) ++ sp).toArray) :
  (w.cell? ⟨g,0,none⟩=some (.int .i64 x.id)∧w.cell? ⟨g,1,none⟩=some (.int .i64 x.acc)∧w.cell? ⟨g,2,none⟩=some (.int .i64 x.side)∧w.cell? ⟨g,3,none⟩=some (.int .i64 x.price)∧w.cell? ⟨g,4,none⟩=some (.int .i64 x.qty)) ∧
   w.frozen? ⟨g,0,none⟩=false∧w.frozen? ⟨g,1,none⟩=false∧w.frozen? ⟨g,2,none⟩=false∧w.frozen? ⟨g,3,none⟩=false∧w.frozen? ⟨g,4,none⟩=false :=
 ⟨⟨h.cell 0,h.cell 1,h.cell 2,h.cell 3,h.cell 4⟩,h.frozen 0,h.frozen 1,h.frozen 2,h.frozen 3,h.frozen 4⟩
theorem row_cons {w:World} {base m c:Nat} {A:Option Addr} {x:Od} {l:List Od} (h:w.ownsRow base 71 5 (.slice A (m + 1) c) (m + 1) (odCells (x :: l))) :
  ∃ g sp,A=some ⟨g,0,none⟩∧base ≤ g∧Blk w g 71 (odCells (x :: l) ++ sp).toArray∧l.length=m∧m + 1 ≤ c∧c ≤ maxLen∧sp.length=(c - (m + 1)) * 5:=by
 obtain ⟨hl,⟨_,h0⟩ | ⟨g,cap,cur,hv,hbg,hg,hnc,hcm,hcs,hct⟩⟩:=h
 ·omega
 ·injection hv with e1 _ e3
  subst e1 e3
  obtain ⟨sp,e1,e2,e3⟩:=rows_of_cur (L:=x :: l) (cur:=cur.toList) (by rw [Array.length_toList];exact hcs) hnc hct
  have hgb:Blk w g 71 cur.toList.toArray:=by rw [Array.toArray_toList];exact hg
  rw [e1] at hgb
  exact ⟨g,sp,rfl,hbg,hgb,by simpa using e2,hnc,hcm,e3⟩
theorem wp_name {P:Program} {c:Code} {Q:Exit→Act→World→Prop} {a:Act} {W:World} (h:∀ Z,Z=W→Code.wp P c Q a Z):Code.wp P c Q a W:=h W rfl
theorem only_alloc_drew (w:World) (ob:Obj) (b:Option Nat):Only w ((w.alloc ob).drew) b:=fun k hk _=>Below.heap_alloc w ob k hk
theorem only_trans {w w1 w2:World} {b:Option Nat} (h:Only w w1 b) (hs:w.heap.size ≤ w1.heap.size) (g:Only w1 w2 b):Only w w2 b:=fun k hk hn=>(g k (by omega) hn).trans (h k hk hn)
theorem Rd.drew1 {w:World} {B k n c:Nat} {A:Option Addr} {xs:List Value} (h:Rd w B k A n c xs):Rd w.drew B k A n c xs:=h.drewN 1
theorem delete_first (base:Nat) (v:Value) (n:Nat) (x:Od) (L:List Od) (w:World) (hown:w.ownsRow base 71 5 v n (odCells (x :: L))) (hb:base ≤ w.heap.size) (hi:0 < n) :
  Calls Try.prog 65 #[v,.int .i64 0,.int .i64 1] w fun e w'=>∃ v',e=.returned v'∧w'.ownsRow base 71 5 v' (n - 1) (odCells L)∧v'.ownBlock=v.ownBlock∧Below base w w'∧Only w w' v.ownBlock :=
 delete_od base v n 0 (x :: L) w hown hb hi
theorem Blk.only {w w':World} {g:Nat} {t:TypeId} {cs:Array Value} {b:Option Nat} (h:Blk w g t cs) (ho:Only w w' b) (hne:some g ≠ b):Blk w' g t cs:=(ho g h.lt hne).trans h
theorem side_part {s:Int} {o x:Od} {l:List Od} {left:Int} (h:SideOk s (x :: l)) (h1:0 < left) (h2:crossesB o x.price=true) (h3:x.acc ≠ o.acc) (h4:left < x.qty):SideOk s ({ x with qty:=x.qty - left } :: l):=by
 have:=(takeL_side (o:=o) (left:=left) h).1
 unfold takeL at this
 rw [if_neg (by omega),if_neg (by rw [h2];simp),if_neg h3,if_pos h4] at this
 exact this
theorem tk_eq {o x:Od} {l L0:List Od} {fs:List Fl} (h:takeL o o.qty L0=((takeL o x.qty (x :: l)).1,fs ++ (takeL o x.qty (x :: l)).2.1,(takeL o x.qty (x :: l)).2.2)) (h1:0 < x.qty) (h2:crossesB o x.price=true) (h3:x.acc ≠ o.acc) :
  takeL o o.qty L0=((takeL o 0 l).1,(fs ++ [fillOf o x x.qty]) ++ (takeL o 0 l).2.1,(takeL o 0 l).2.2):=by
 have:=tk_all h h1 h2 h3 (Int.le_refl _)
 rw [Int.sub_self] at this
 exact this
theorem set4 (x:Od) (l:List Od) (sp:List Value) (q:Int):(odCells (x :: l) ++ sp).toArray.setIfInBounds 4 (.int .i64 q)=(odCells ({ x with qty:=q } :: l) ++ sp).toArray:=by
 simp [odCells]
theorem row_mk {w:World} {base g n c:Nat} {M:List Od} {sp:List Value} (h:Blk w g 71 (odCells M ++ sp).toArray) (hb:base ≤ g) (hn:M.length=n) (hnc:n ≤ c) (hc:c ≤ maxLen) (hs:sp.length=(c - n) * 5):w.ownsRow base 71 5 (.slice (some ⟨g,0,none⟩) n c) n (odCells M):=by
 refine ⟨by rw [odCells_len,hn],.inr ⟨g,c,_,rfl,hb,h,hnc,hc,?_,?_⟩⟩
 ·rw [List.size_toArray,List.length_append,odCells_len,hs,hn];omega
 ·rw [List.toList_toArray,List.take_append_of_le_length (by rw [odCells_len,hn];exact Nat.le_refl _),List.take_of_length_le (by rw [odCells_len,hn];exact Nat.le_refl _)]
def RetTake (w:World) (r:Bk × List Fl × Int × Bool × Int) (e:Ending) (w':World):Prop :=
 ∃ A c A' c' vf,e=.returned (.tuple #[.agg #[.slice A r.1.bids.length c,.slice A' r.1.asks.length c'],vf,.int .i64 r.2.2.1,.bool r.2.2.2.1,.int .i64 r.2.2.2.2])∧OBk w' w.heap.size A A' c c' r.1∧w'.ownsRow w.heap.size 87 7 vf r.2.1.length (flCells r.2.1) ∧
  (∀ k,(Value.slice A r.1.bids.length c).ownBlock=some k→(Value.slice A' r.1.asks.length c').ownBlock ≠ some k)∧Below w.heap.size w w'
theorem retTake_mk {w w':World} {r:Bk × List Fl × Int × Bool × Int} {x:Bk} {l:List Fl} {left:Int} {met:Bool} {n:Int} {A A':Option Addr} {c c' n1 n2 n3:Nat} {vf:Value} (h:r=(x,l,left,met,n)) (h1:x.bids.length=n1) (h2:x.asks.length=n2) (ho1:w'.ownsRow w.heap.size 71 5 (.slice A n1 c) n1 (odCells x.bids)) (ho2:w'.ownsRow w.heap.size 71 5 (.slice A' n2 c') n2 (odCells x.asks))
  (h3:l.length=n3) (hf:w'.ownsRow w.heap.size 87 7 vf n3 (flCells l)) (ha:∀ k,(Value.slice A n1 c).ownBlock=some k→(Value.slice A' n2 c').ownBlock ≠ some k) (hb:Below w.heap.size w w') :
  RetTake w r (.returned (.tuple #[.agg #[.slice A n1 c,.slice A' n2 c'],vf,.int .i64 left,.bool met,.int .i64 n])) w':=by subst h h1 h2 h3;exact ⟨A,c,A',c',vf,rfl,⟨ho1,ho2⟩,hf,ha,hb⟩
theorem take_side (o:Od) (b:Bk):(o.side=1→otherOf b o.side=b.asks∧∀ l,setOther b o.side l=mkA b l)∧(o.side ≠ 1→otherOf b o.side=b.bids∧∀ l,setOther b o.side l=mkB b l) :=
 ⟨fun h=>⟨if_pos h,fun _=>if_pos h⟩,fun h=>⟨if_neg h,fun _=>if_neg h⟩⟩
end
end Go.Proofs.Ytockodmbhnlheaa
