/-
  Contracts of the program's functions, and plain facts, that the laws VenueKeeps, VenueOthers, VenueCancels, VenueCash, VenueReady rest on (joined texts): Del, DelFunc, Find, Remove, Shelved, Fill, Take, Kept, Blk, FairPure.
-/
import Derived.Test.YtockodmbhnlheaaM03
import Derived.Test.YtockodmbhnlheaaProg
import Derived.Test.YtockodmbhnlheaaM01
import Derived.Maps.AppendAt
import Derived.Laws.AppendOwnNone
import Derived.OwnWalk
import Derived.Test.YtockodmbhnlheaaM02
import Derived.Lib.AppendZeros
import Derived.Laws.CopyOwn
import Derived.Lib.AppendZerosOnto
import Derived.Lib.Overlaps
import Derived.Laws.Externs
import Derived.Deep.RegionLaw
import Derived.Maps.Own
import Derived.Maps.OwnOps
import Derived.Maps.Views
import Derived.WalkKit
import Derived.Deep.Draws
import Derived.IntWalk
import Derived.Deep.RegionHeld3
import Derived.Deep.QuietTactic
import Derived.BigQuiet
import Derived.Deep.DeepCutAuto
import Derived.WalkSpells
import Derived.WalkLawsBesides
import Derived.Lib.Hide
import Derived.Test.YtockodmbhnlheaaM04
namespace Go.Proofs.Ytockodmbhnlheaa
section
open Go.RowKit
section
variable {P:Program}
theorem step_appK {ops:Array Oper} {o:Oper} {a:Act} {w:World} {K:Act→World→Prop} {Q:Exit→Act→World→Prop} {X:Prop} (hgd:o.guard=none) (s x:Operand) (t:TypeId)
  (ho:o.op=.call { callee:=.builtin .append,args:=#[s,x],argTypes:=#[t,t] }) (e k bytes:Nat) (E:Elem P t e k bytes) (g n cap:Nat)
  (hs:a.eval s=.slice (some ⟨g,0,none⟩) n cap) (ad:Addr) (m c:Nat) (hx:a.eval x=.slice (some ad) m c) (news:List Value) (hl:news.length=m * k) (hc:∀ j u,news[j]?=some u→w.cell? (ad.add j)=some u) (h1:∀ u ∈ news,u.oneCell'=true)
  (hroom:n + m ≤ cap) (cur:List Value) (hg:w.heap[g]?=some (.cells cur.toArray e (0,0))) (hfit:n * k + news.length ≤ cur.length) (B:Nat) (w0:World) (hb:Below B w0 w) (hBg:B ≤ g)
  (h:∀ w',Hid (w'.heap[g]?=some (.cells (splice cur (n * k) news).toArray e (0,0)))→Below B w0 w'→Hid (∀ j,j ≠ g→w'.heap[j]?=w.heap[j]?)→K (a.put o.dst (.slice (some ⟨g,0,none⟩) (n + m) cap)) w') :
  if Region.wanted o (yielded ops a.tmps)=true then Oper.wp P o a w K Q else X:=by
 obtain ⟨i,z,hi,_,hk,_⟩:=E.hi
 rw [if_pos (show Region.wanted o (yielded ops a.tmps)=true by simp [Region.wanted,hgd])]
 subst hk
 have hrun:=run_append_room (P:=P) w t o.type e i E.ht hi g n cap cur.toArray hg ad m c news hl hc h1 hroom (by simpa using hfit)
 unfold Oper.wp
 simp [execOp,ho,resolve,invoke,builtin,hs,hx,hrun,Result.andThen]
 exact h _ (show _=_ by simpa [splice] using setRow_heap w g _ _ e _ hg) (below_setRow hb hBg _) (fun j hj=>setRow_other w g j _ hj)
theorem run_clearK {t e k bytes:Nat} (E:Elem P t e k bytes) (zs:List Value) (hz:(P.info? e).map (fun i=>i.zero.map (fun z=>z.cells.toList))=some (some zs)) (h1:∀ u ∈ zs,u.oneCell'=true) (w:World) (g off n c:Nat) (hn:0 < n) (cur:List Value) (tg:TypeId)
  (hg:w.heap[g]?=some (.cells cur.toArray tg (0,0))) (hfit:off + n * k ≤ cur.length) (ty:TypeId) :
  ∃ Z,Z.length=n * k∧(Builtin.clear_ #[t] ty #[.slice (some ⟨g,off,none⟩) n c]).run P w=.ok (.tuple #[]) (w.setRow g (splice cur off Z).toArray):=by
 obtain ⟨i,z,hi,hz0,hk,_,hzk⟩:=E.hi
 have hzc:z.cells.toList=zs:=by rw [hi,Option.map_some,hz0,Option.map_some] at hz;injection hz with hz;injection hz
 have hzv:(zeroValue e).run P w=.ok z w:=by simp [zeroValue,typeInfo,hi,hz0]
 have hlen:(Builtin.zeroCells z.cells n).toList.length=n * k:=by rw [Array.length_toList,size_zeroCells,hzk]
 have hone:∀ u ∈ (Builtin.zeroCells z.cells n).toList,u.oneCell'=true:=by
  intro u hu
  simp only [Builtin.zeroCells,Array.toList_map,List.mem_map,Array.toList_range,List.mem_range] at hu
  obtain ⟨j,hj,rfl⟩:=hu
  have hpos:=E.pos
  have hlt:j % z.cells.size < z.cells.size:=Nat.mod_lt _ (by omega)
  refine h1 _ ?_
  rw [← hzc,getElem!_pos z.cells _ hlt]
  exact Array.getElem_mem_toList hlt
 have hst:=run_storeCells_at (P:=P) g off tg (Builtin.zeroCells z.cells n).toList 0 cur.toArray w hg (by simpa [hlen] using hfit) hone
 refine ⟨(Builtin.zeroCells z.cells n).toList,hlen,?_⟩
 obtain ⟨m,rfl⟩:∃ m,n=m + 1:=⟨n - 1,by omega⟩
 simp only [Nat.add_zero] at hst
 simp [Builtin.clear_,run_underlying E.ht,hzv,hst,splice]
theorem wpList_clearK {w:World} {ops:Array Oper} {rest:List Oper} {o:Oper} {a:Act} {Q:Exit→Act→World→Prop} (hgd:o.guard=none) (x:Operand) (t:TypeId)
  (ho:o.op=.call { callee:=.builtin .clear,args:=#[x],argTypes:=#[t] }) (e k bytes:Nat) (E:Elem P t e k bytes) (zs:List Value) (hz:(P.info? e).map (fun i=>i.zero.map (fun z=>z.cells.toList))=some (some zs)) (h1:∀ u ∈ zs,u.oneCell'=true) (g off n c:Nat)
  (hx:a.eval x=.slice (some ⟨g,off,none⟩) n c) (hn:0 < n) (OFF:Nat) (ho2:off=OFF) (cur:List Value) (tg:TypeId) (hg:w.heap[g]?=some (.cells cur.toArray tg (0,0))) (hfit:OFF + n * k ≤ cur.length) (B:Nat) (w0:World) (hb:Below B w0 w) (hBg:B ≤ g)
  (h:∀ w' Z,Z.length=n * k→Hid (w'.heap[g]?=some (.cells (splice cur OFF Z).toArray tg (0,0)))→Below B w0 w'→Hid (∀ j,j ≠ g→w'.heap[j]?=w.heap[j]?)→wpList P ops Q rest (a.put o.dst (.tuple #[])) w'):wpList P ops Q (o :: rest) a w:=by
 subst ho2
 refine wpList_plain hgd fun K hK=>?_
 obtain ⟨Z,hZ,hrun⟩:=run_clearK E zs hz h1 w g off n c hn cur tg hg hfit o.type
 unfold Oper.wp
 simp [execOp,ho,resolve,invoke,builtin,hx,hrun,Result.andThen]
 exact hK _ _ (h _ Z hZ (show _=_ from setRow_heap w g _ _ tg _ hg) (below_setRow hb hBg _) fun j hj=>setRow_other w g j _ hj)
end
theorem zero_od:(Try.prog.info? 71).map (fun i=>i.zero.map (fun z=>z.cells.toList))=some (some (odCells [zeroOd])):=by kernel_rfl
theorem odCells_erase (L:List Od) (i:Nat):odCells (L.take i) ++ odCells (L.drop (i + 1))=odCells (L.eraseIdx i):=by
 rw [← odCells_app,List.eraseIdx_eq_take_drop_succ]
set_option maxHeartbeats 2000000 in
set_option maxRecDepth 100000 in
theorem delete_at (base g n c i:Nat) (L:List Od) (cur:List Value) (w:World) (hg:Blk w g 71 cur.toArray) (hcl:cur.length=c * 5) (hcur:cur.take (n * 5)=odCells L) (hnc:n ≤ c) (_hc:c ≤ maxLen)
  (hbg:base ≤ g) (hb:base ≤ w.heap.size) (hi:i < n) :
  Calls Try.prog 65 #[.slice (some ⟨g,0,none⟩) n c,.int .i64 i,.int .i64 ((i:Int) + 1)] w fun e w'=>∃ cur':List Value,e=.returned (.slice (some ⟨g,0,none⟩) (n - 1) c) ∧
   Blk w' g 71 cur'.toArray∧cur'.length=c * 5∧cur'.take ((n - 1) * 5)=odCells (L.eraseIdx i)∧Below base w w'∧Only w w' (some g):=by
 have hL:L.length=n:=by
  have h:=congrArg List.length hcur
  rw [odCells_len,List.length_take] at h;omega
 obtain ⟨news,hnews⟩:∃ news,news=odCells (L.drop (i + 1)):=⟨_,rfl⟩
 have hlen:news.length=(n - (i + 1)) * 5:=by rw [hnews,odCells_len,List.length_drop,hL]
 have hget:∀ t u,news[t]?=some u→cur[(i + 1) * 5 + t]?=some u:=by
  intro t u hu
  have ht:=(List.getElem?_eq_some_iff.1 hu).1
  rw [hnews,← odCells_drop,← hcur,List.getElem?_drop,List.getElem?_take] at hu
  split at hu
  ·exact hu
  ·cases hu
 obtain ⟨ad,hA,hsrc⟩:∃ ad:Addr,(if c=i + 1 then (some ⟨g,0,none⟩:Option Addr) else some ⟨g,(i + 1) * 5,none⟩)=some ad∧Hid (∀ t u,news[t]?=some u→w.drew.cell? (ad.add t)=some u):=by
  by_cases h:c=i + 1
  ·refine ⟨⟨g,0,none⟩,by simp [h],fun t u hu=>?_⟩
   have h0:news.length=0:=by rw [hlen];omega
   rw [List.length_eq_zero_iff.1 h0] at hu
   simp at hu
  ·refine ⟨⟨g,(i + 1) * 5,none⟩,by simp [h],fun t u hu=>?_⟩
   rw [Addr.add_lit,Blk.cell (show Blk w.drew g 71 cur.toArray from hg)]
   simpa using hget t u hu
 have h1:Hid (∀ u ∈ news,u.oneCell'=true):=by rw [hnews];exact odCells_one _
 have hfit:i * 5 + news.length ≤ cur.length:=by rw [hlen,hcl];omega
 have HF:=Lib.hid (show ∀ Z:List Value,Z.length=5→(splice (splice cur (i * 5) news) ((n - 1) * 5) Z).length=c * 5∧(splice (splice cur (i * 5) news) ((n - 1) * 5) Z).take ((n - 1) * 5)=odCells (L.eraseIdx i) by
  intro Z hZ
  have hl1:(splice cur (i * 5) news).length=c * 5:=by rw [length_splice _ _ _ hfit,hcl]
  refine ⟨by rw [length_splice _ _ _ (by rw [hl1,hZ];omega),hl1],?_⟩
  have e1:(splice (splice cur (i * 5) news) ((n - 1) * 5) Z).take ((n - 1) * 5)=(splice cur (i * 5) news).take ((n - 1) * 5):=by
   unfold splice
   rw [List.take_append_of_le_length (by simp only [List.length_take,List.length_append,List.length_drop];omega),List.take_take,Nat.min_self]
  rw [e1]
  unfold splice
  have e2:cur.take (i * 5)=odCells (L.take i):=by
   rw [← odCells_take,← hcur,List.take_take,Nat.min_eq_left (by omega)]
  rw [e2,← List.append_assoc,List.take_append_of_le_length (by rw [List.length_append,hlen,odCells_len,List.length_take];omega),List.take_of_length_le (by rw [List.length_append,hlen,odCells_len,List.length_take];omega),hnews,odCells_erase])
 have HG:=Lib.hid (show w.drew.heap[g]?=some (.cells cur.toArray 71 (0,0)) from hg)
 have HL:=Lib.hid hlen
 have HFIT:=Lib.hid hfit
 have HS:=Lib.hid (show (splice cur (i * 5) news).length=c * 5 by rw [length_splice _ _ _ hfit,hcl])
 have hBd:Below base w w.drew:=(below_drew (Below.refl _ _)).mono hb
 clear hg hcl hcur hL hnews hlen hget hfit
 unfold maxLen at _hc
 have b1:¬ (c=i):=by omega
 have b2:¬ (c=n - 1):=by omega
 have b3:¬ ((i:Int)=(i:Int) + 1):=by omega
 have b4:(0:Int) ≤ (i:Int) + 1:=by omega
 have b5:(i:Int) + 1 ≤ (n:Int):=by omega
 have b6:((i:Int) + 1).toNat=i + 1:=by omega
 have b7:i + (n - (i + 1))=n - 1:=by omega
 have c1:i ≤ c:=by omega
 have c2:(i:Int) ≤ (c:Int):=by omega
 have c3:i + 1 ≤ n:=by omega
 have c4:i ≤ i + 1:=by omega
 have b8:n - (n - 1)=1:=by omega
 go_enter Try.func65,Try.ntmps65
 go_wp2_with fail
 go_region_law (refine step_appK rfl (.tmp 22) (.tmp 25) 60 rfl 71 5 40 elem_od g i c (by simp [Act.eval,Act.put]) ad (n - (i + 1)) (c - (i + 1)) (by simp [Act.eval,Act.put]) news HL.out hsrc.out h1.out (by omega) cur HG.out HFIT.out base w hBd hbg ?_;intro w1 HG1 hB1 HO1)
 go_wp2_with (refine wpList_clearK rfl (.tmp 31) 60 rfl 71 5 40 elem_od _ zero_od (odCells_one _) g ((n - 1) * 5) 1 (c - (n - 1)) (by rfl) (by omega) ((n - 1) * 5) rfl (splice cur (i * 5) news) 71 HG1.out (by rw [HS.out];omega) base w hB1 hbg ?_;intro w2 Z hZ HG2 hB2 HO2)
 have HZ:=HF.out Z hZ
 have HX:=Lib.hid HZ
 clear hZ HZ
 go_wp2_with fail
 go_ret
 exact ⟨_,rfl,HG2.out,HX.out.1,HX.out.2,hB2,fun k hk hne=>by
  have hk':k ≠ g:=fun e=>hne (by rw [e])
  exact (HO2.out k hk').trans (HO1.out k hk')⟩
theorem delete_od (base:Nat) (v:Value) (n i:Nat) (L:List Od) (w:World) (hown:w.ownsRow base 71 5 v n (odCells L)) (hb:base ≤ w.heap.size) (hi:i < n) :
  Calls Try.prog 65 #[v,.int .i64 i,.int .i64 ((i:Int) + 1)] w fun e w'=>∃ v',e=.returned v'∧w'.ownsRow base 71 5 v' (n - 1) (odCells (L.eraseIdx i))∧v'.ownBlock=v.ownBlock∧Below base w w'∧Only w w' v.ownBlock:=by
 obtain ⟨hl,⟨rfl,h0⟩ | ⟨g,c,cur,rfl,hbg,hg,hnc,hcm,hcs,hct⟩⟩:=hown
 ·omega
 ·have hL:L.length=n:=by rw [odCells_len] at hl;omega
  have hgb:Blk w g 71 cur.toList.toArray:=by rw [Array.toArray_toList];exact hg
  refine (delete_at base g n c i L cur.toList w hgb (by rw [Array.length_toList];exact hcs) hct hnc hcm hbg hb hi).mono ?_
  rintro e w' ⟨cur',rfl,h1,h2,h3,h4,h5⟩
  refine ⟨_,rfl,⟨?_,.inr ⟨g,c,cur'.toArray,rfl,hbg,h1,by omega,hcm,by simpa using h2,by simpa using h3⟩⟩,rfl,h4,h5⟩
  rw [odCells_len,List.length_eraseIdx_of_lt (by omega),hL]
end
section
open Go.RowKit
theorem odCells_set:∀ {M:List Od} {i:Nat} (x:Od),i < M.length→odCells (M.set i x)=(((((odCells M).set (i * 5) (.int .i64 x.id)).set (i * 5 + 1) (.int .i64 x.acc)).set (i * 5 + 2) (.int .i64 x.side)).set (i * 5 + 3) (.int .i64 x.price)).set (i * 5 + 4) (.int .i64 x.qty)
 | [],i,x,h=>by simp at h
 | o :: l,0,x,_=>by simp [odCells]
 | o :: l,i + 1,x,h=>by
  have ih:=odCells_set (M:=l) (i:=i) x (by simpa using h)
  rw [show (i + 1) * 5=i * 5 + 1 + 1 + 1 + 1 + 1 by omega]
  simp only [List.set_cons_succ,odCells,ih]
theorem row_set {M:List Od} {i:Nat} (x:Od) (sp:List Value) (h:i < M.length) :
  ((((((odCells M ++ sp).toArray.setIfInBounds (i * 5) (.int .i64 x.id)).setIfInBounds (i * 5 + 1) (.int .i64 x.acc)).setIfInBounds (i * 5 + 2) (.int .i64 x.side)).setIfInBounds (i * 5 + 3) (.int .i64 x.price)).setIfInBounds (i * 5 + 4) (.int .i64 x.qty))=(odCells (M.set i x) ++ sp).toArray:=by
 have hl:=odCells_len M
 rw [odCells_set x h]
 simp only [List.setIfInBounds_toArray]
 congr 1
 rw [List.set_append_left _ _ (by omega),List.set_append_left _ _ (by simp;omega),List.set_append_left _ _ (by simp;omega),List.set_append_left _ _ (by simp;omega),List.set_append_left _ _ (by simp;omega)]
theorem row_at {w:World} {g:Nat} {t:TypeId} {M:List Od} {sp:List Value} {i:Nat} {x:Od} (h:Blk w g t (odCells M ++ sp).toArray) (hx:M[i]?=some x) :
  (w.cell? ⟨g,i * 5,none⟩=some (.int .i64 x.id)∧w.cell? ⟨g,i * 5 + 1,none⟩=some (.int .i64 x.acc)∧w.cell? ⟨g,i * 5 + 2,none⟩=some (.int .i64 x.side)∧w.cell? ⟨g,i * 5 + 3,none⟩=some (.int .i64 x.price)∧w.cell? ⟨g,i * 5 + 4,none⟩=some (.int .i64 x.qty)) ∧
   (w.frozen? ⟨g,i * 5,none⟩=false∧w.frozen? ⟨g,i * 5 + 1,none⟩=false∧w.frozen? ⟨g,i * 5 + 2,none⟩=false∧w.frozen? ⟨g,i * 5 + 3,none⟩=false∧w.frozen? ⟨g,i * 5 + 4,none⟩=false):=by
 obtain ⟨h0,h1,h2,h3,h4⟩:=odCells_at hx
 have hl:∀ k v,(odCells M)[k]?=some v→w.cell? ⟨g,k,none⟩=some v:=by
  intro k v hk
  rw [h.cell]
  have:=(List.getElem?_eq_some_iff.1 hk).1
  simp only [List.getElem?_toArray]
  rw [List.getElem?_append_left this];exact hk
 exact ⟨⟨hl _ _ h0,hl _ _ h1,hl _ _ h2,hl _ _ h3,hl _ _ h4⟩,h.frozen _,h.frozen _,h.frozen _,h.frozen _,h.frozen _⟩
theorem only_refl (w:World) (b:Option Nat):Only w w b:=fun _ _ _=>rfl
theorem only_below {w w1 w2:World} {b:Option Nat} (h:Only w w1 b) (hs:w.heap.size ≤ w1.heap.size) (hb:Below w1.heap.size w1 w2):Only w w2 b:=fun k hk hn=>(hb.block k (by omega)).trans (h k hk hn)
theorem only_cell {w w1:World} {b:Option Nat} {k o:Nat} (h:Only w w1 b) (hk:k < w.heap.size) (hn:some k ≠ b):w1.cell? ⟨k,o,none⟩=w.cell? ⟨k,o,none⟩:=World.cell?_of_block (h k hk hn)
theorem only_set {w w1:World} {g:Nat} {p:Addr} {v:Value} (h:Only w w1 (some g)) (hp:p.block=g):Only w (w1.setCell p v) (some g):=fun k hk hn=>(Below.heap_setCell w1 p v k (fun e=>hn (by rw [e,hp]))).trans (h k hk hn)
theorem rows_of_cur {n c:Nat} {L:List Od} {cur:List Value} (hcl:cur.length=c * 5) (hnc:n ≤ c) (hcur:cur.take (n * 5)=odCells L):∃ sp,cur=odCells L ++ sp∧L.length=n∧sp.length=(c - n) * 5:=by
 have h1:L.length=n:=by
  have h:=congrArg List.length hcur
  rw [odCells_len,List.length_take] at h;omega
 refine ⟨cur.drop (n * 5),by rw [← hcur,List.take_append_drop],h1,?_⟩
 rw [List.length_drop,hcl];omega
theorem filter_keep {p:Od→Bool} {L:List Od} {b:Nat} {x:Od} (hx:L[b]?=some x) (hp:p x=false):(L.take (b + 1)).filter (fun y=>!p y)=(L.take b).filter (fun y=>!p y) ++ [x]:=by
 rw [List.take_add_one,hx];simp [hp]
theorem filter_drop {p:Od→Bool} {L:List Od} {b:Nat} {x:Od} (hx:L[b]?=some x) (hp:p x=true):(L.take (b + 1)).filter (fun y=>!p y)=(L.take b).filter (fun y=>!p y):=by
 rw [List.take_add_one,hx];simp [hp]
theorem idxOf_spec {p:Od→Bool} {L:List Od} {k:Nat} (h:idxOf p L=k):∃ x,L[k]?=some x∧p x=true∧(L.take k).filter (fun y=>!p y)=L.take k:=by
 unfold idxOf at h
 cases hf:L.findIdx? p with
 | none=>rw [hf] at h;simp only at h;omega
 | some j =>
  rw [hf] at h
  have hjk:j=k:=by
   have h':(j:Int)=(k:Int):=h
   omega
  subst hjk
  rw [List.findIdx?_eq_some_iff_getElem] at hf
  obtain ⟨h1,h2,h3⟩:=hf
  refine ⟨_,List.getElem?_eq_getElem h1,h2,List.filter_eq_self.2 fun y hy=>?_⟩
  obtain ⟨i,hi,rfl⟩:=List.mem_take_iff_getElem.1 hy
  have:=h3 i (by omega)
  simpa using this
theorem any_filter {p:Od→Bool} {L:List Od} (h:L.any p=false):L.filter (fun y=>!p y)=L:=by
 rw [List.any_eq_false] at h
 exact List.filter_eq_self.2 fun y hy=>by have:=h y hy;simpa using this
structure DelRow (w wr:World) (base g n:Nat) (L:List Od) (p:Od→Bool) (sp:List Value) (a b:Nat) (M:List Od):Prop where
 bel:Below base w wr
 only:Only w wr (some g)
 blk:Blk wr g 71 (odCells M ++ sp).toArray
 len:M.length=n
 lo:M.take a=(L.take b).filter (fun y=>!p y)
 hi:M.drop b=L.drop b
theorem DelRow.next {w wr w1:World} {base g n:Nat} {L:List Od} {p:Od→Bool} {sp:List Value} {a b:Nat} {M:List Od} (h:DelRow w wr base g n L p sp a b M) (hb:Below wr.heap.size wr w1) (hbase:base ≤ wr.heap.size) (hs:w.heap.size ≤ wr.heap.size):DelRow w w1 base g n L p sp a b M :=
 ⟨h.bel.trans (hb.mono hbase),only_below h.only hs hb,h.blk.below hb h.blk.lt,h.len,h.lo,h.hi⟩
theorem drop_succ {M L:List Od} {b:Nat} (h:M.drop b=L.drop b):M.drop (b + 1)=L.drop (b + 1):=by
 rw [← List.drop_drop,← List.drop_drop,h]
theorem drop_at {M L:List Od} {b:Nat} (h:M.drop b=L.drop b):M[b]?=L[b]?:=by
 have:=congrArg (fun l=>l[0]?) h
 simp only [List.getElem?_drop,Nat.add_zero] at this
 exact this
theorem DelRow.skip {w wr:World} {base g n:Nat} {L:List Od} {p:Od→Bool} {sp:List Value} {a b:Nat} {M:List Od} {x:Od} (h:DelRow w wr base g n L p sp a b M) (hx:L[b]?=some x) (hp:p x=true):DelRow w wr base g n L p sp a (b + 1) M :=
 ⟨h.bel,h.only,h.blk,h.len,by rw [filter_drop hx hp];exact h.lo,drop_succ h.hi⟩
theorem DelRow.keep {w wr:World} {base g n:Nat} {L:List Od} {p:Od→Bool} {sp:List Value} {a b:Nat} {M:List Od} {x:Od} (h:DelRow w wr base g n L p sp a b M) (hx:L[b]?=some x) (hp:p x=false) (hab:a < b) (hbn:b < n) (hbg:base ≤ g) :
  DelRow w (((((wr.setCell ⟨g,a * 5,none⟩ (.int .i64 x.id)).setCell ⟨g,a * 5 + 1,none⟩ (.int .i64 x.acc)).setCell ⟨g,a * 5 + 2,none⟩ (.int .i64 x.side)).setCell ⟨g,a * 5 + 3,none⟩ (.int .i64 x.price)).setCell ⟨g,a * 5 + 4,none⟩ (.int .i64 x.qty)) base g n L p sp (a + 1) (b + 1) (M.set a x):=by
 have hl:=h.len
 refine ⟨?_,?_,?_,by rw [List.length_set];exact hl,?_,?_⟩
 ·exact Below.setCell (Below.setCell (Below.setCell (Below.setCell (Below.setCell h.bel hbg _) hbg _) hbg _) hbg _) hbg _
 ·exact only_set (only_set (only_set (only_set (only_set h.only rfl) rfl) rfl) rfl) rfl
 ·have:=((((h.blk.set_ (a * 5) (.int .i64 x.id)).set_ (a * 5 + 1) (.int .i64 x.acc)).set_ (a * 5 + 2) (.int .i64 x.side)).set_ (a * 5 + 3) (.int .i64 x.price)).set_ (a * 5 + 4) (.int .i64 x.qty)
  rw [row_set x sp (by omega)] at this
  exact this
 ·rw [filter_keep hx hp,← h.lo,List.take_add_one]
  congr 1
  ·rw [List.take_set_of_le (Nat.le_refl _)]
  ·rw [List.getElem?_set_self (by omega)];rfl
 ·rw [List.drop_set_of_lt (by omega)];exact drop_succ h.hi
set_option maxHeartbeats 4000000 in
set_option maxRecDepth 100000 in
theorem delfunc_remove (base g n c:Nat) (L:List Od) (sp:List Value) (id:Int) (gp:Nat) (w:World) (hg:Blk w g 71 (odCells L ++ sp).toArray) (hL:L.length=n) (hsp:sp.length=(c - n) * 5) (hnc:n ≤ c) (hc:c ≤ maxLen) (hbg:base ≤ g) (hb:base ≤ w.heap.size)
  (hgp:gp < w.heap.size) (hne:gp ≠ g) (hp:w.cell? ⟨gp,0,none⟩=some (.int .i64 id)) :
  Calls Try.prog 142 #[.slice (some ⟨g,0,none⟩) n c,.func (.func 143) #[] #[.pointer (some ⟨gp,0,none⟩)]] w fun e w'=>∃ cur':List Value,e=.returned (.slice (some ⟨g,0,none⟩) (L.filter (fun y=>!hasId id y)).length c) ∧
   Blk w' g 71 cur'.toArray∧cur'.length=c * 5∧cur'.take ((L.filter (fun y=>!hasId id y)).length * 5)=odCells (L.filter (fun y=>!hasId id y))∧Below base w w'∧Only w w' (some g):=by
 have hgw:=hg.lt
 have HG:=Lib.hid hg
 have HL:=Lib.hid hL
 have HSP:=Lib.hid hsp
 have HP:=Lib.hid hp
 have hr:Rd w w.heap.size 5 (some ⟨g,0,none⟩) n c (odCells L):=⟨by rw [odCells_len,hL],hnc,hc,nofun,fun _=>⟨g,0,rfl,hgw,fun j u hj=>by
  rw [hg.cell,Nat.zero_add]
  have:=(List.getElem?_eq_some_iff.1 hj).1
  simp only [List.getElem?_toArray]
  rw [List.getElem?_append_left this];exact hj⟩⟩
 have HR:=Lib.hid hr
 unfold maxLen at hc
 clear hg hL hsp hr
 go_enter Try.func142,Try.ntmps142
 go_wp2_with fail
 refine (idx_remove (some ⟨g,0,none⟩) n c L id gp w.heap.size w HR.out (Nat.le_refl _) hgp hp).mono ?_
 rintro e w1 ⟨rfl,hb1⟩
 have HB1:=Lib.hid hb1
 clear hb1 hp
 rcases idxOf_lt (p:=hasId id) (L:=L) with ⟨h1,h2⟩ | ⟨⟨k,h1,hk⟩,h2⟩
 ·have HF:=Lib.hid (any_filter h2)
  rw [h1]
  clear h1 h2
  go_wp2_with fail
  go_ret
  rw [HF.out]
  refine ⟨_,by rw [HL.out];rfl,HG.out.below HB1.out HG.out.lt,?_,?_,HB1.out.mono hb,fun k hk _=>HB1.out.block k hk⟩
  ·rw [List.length_append,odCells_len,HL.out,HSP.out];omega
  ·rw [← odCells_len,List.take_left'];rfl
 ·obtain ⟨x0,hx0,hpx0,hlo⟩:=idxOf_spec h1
  have HX0:=Lib.hid hx0
  have HLO:=Lib.hid hlo
  have HPX:=Lib.hid hpx0
  have hk':k < n:=by rw [← HL.out];exact hk
  rw [h1]
  clear h1 h2 hx0 hlo hpx0 hk
  have hz1:¬ ((k:Int) = -1):=by omega
  have hz2:((k:Int) == -1)=false:=by simp
  go_wp2_with fail
  go_loopw [5,6] (fun i j wr=>∃ (a b:Nat) (M:List Od),i=.int .i64 a∧j=.int .i64 b∧a < b∧b ≤ n∧Hid (DelRow w wr base g n L (hasId id) sp a b M)) (fun _ j _=>n - (intOf j).toNat)
  case atStart =>
   refine ⟨k,k + 1,L,rfl,by go_num,by omega,by omega,Lib.hid ?_⟩
   have h0:DelRow w w base g n L (hasId id) sp k k L:=⟨(Below.refl _ _),only_refl _ _,HG.out,HL.out,HLO.out.symm,rfl⟩
   exact (h0.skip HX0.out HPX.out).next HB1.out hb (Nat.le_refl _)
  case round =>
   obtain ⟨a,b,M,rfl,rfl,hab,hbn,HD⟩:=hrel
   have hws:=HD.out.bel.size
   have hgr:=HD.out.blk.lt
   by_cases hlt:b < n
   ·obtain ⟨x,hx⟩:∃ x,L[b]?=some x:=⟨_,List.getElem?_eq_getElem (by rw [HL.out];exact hlt)⟩
    have hxm:M[b]?=some x:=(drop_at HD.out.hi).trans hx
    obtain ⟨⟨k0,k1,k2,k3,k4⟩,_⟩:=row_at HD.out.blk hxm
    have HX:=Lib.hid hx
    have HPr:=Lib.hid ((only_cell (o:=0) HD.out.only hgp (fun e=>hne (by injection e))).trans HP.out)
    clear hx hxm
    go_wp2_with fail
    refine (remove1_any x id gp _ (by simp;omega) ((World.cell?_alloc_lt (w:=wr) (a:=⟨gp,0,none⟩) (o:=_) (by show gp < _;omega)).trans HPr.out)).mono ?_
    rintro e w2 ⟨rfl,hb2⟩
    have hb3:Below wr.heap.size wr w2:=((Below.refl _ _).alloc (Nat.le_refl _) _).trans (hb2.mono (by simp))
    have HD2:=Lib.hid (HD.out.next hb3 (Nat.le_trans hb hws) hws)
    have hw2:wr.heap.size < w2.heap.size:=by have:=hb2.size;simp at this;omega
    have Bx:=(Blk.new wr 71 #[.int .i64 x.id,.int .i64 x.acc,.int .i64 x.side,.int .i64 x.price,.int .i64 x.qty]).below hb2 (by simp)
    clear hb2 hb3 HD
    obtain ⟨⟨l0,l1,l2,l3,l4⟩,_⟩:=Bx.c5
    clear k0 k1 k2 k3 k4 Bx
    rcases bool_cs (hasId id x) with hpx | hpx
    ·have HN:=Lib.hid (HD2.out.keep HX.out hpx hab hlt hbg)
     rw [hpx]
     clear hpx
     have hml:M.length=n:=HD2.out.len
     obtain ⟨y,hy⟩:∃ y,M[a]?=some y:=⟨_,List.getElem?_eq_getElem (by omega)⟩
     obtain ⟨⟨m0,m1,m2,m3,m4⟩,f0,f1,f2,f3,f4⟩:=row_at HD2.out.blk hy
     clear hy hml
     go_wp2_with fail
     go_roundw
     case rel=>exact ⟨a + 1,b + 1,_,by go_num,by go_num,by omega,by omega,HN⟩
     case measure=>simp [intOf];omega
    ·have HN:=Lib.hid (HD2.out.skip HX.out hpx)
     rw [hpx]
     clear hpx
     go_wp2_with fail
     go_roundw
     case rel=>exact ⟨a,b + 1,_,rfl,by go_num,by omega,by omega,HN⟩
     case measure=>simp [intOf];omega
   ·have hbe:b=n:=by omega
    have HF:=Lib.hid (show (L.filter (fun y=>!hasId id y)).length=a∧M.take a=L.filter (fun y=>!hasId id y) by
     have h1:=HD.out.lo
     rw [hbe,show L.take n=L from List.take_of_length_le (by rw [HL.out];exact Nat.le_refl _)] at h1
     refine ⟨?_,h1⟩
     have h2:=congrArg List.length h1
     rw [List.length_take,HD.out.len] at h2
     omega)
    have HBK:=Lib.hid HD.out.blk
    have HCL:=Lib.hid (show (odCells M ++ sp).length=c * 5 by rw [List.length_append,odCells_len,HD.out.len,HSP.out];omega)
    have HB:=Lib.hid HD.out.bel
    have HO:=Lib.hid HD.out.only
    have HTK:=Lib.hid (show ∀ Z:List Value,Z.length=(n - a) * 5→(splice (odCells M ++ sp) (a * 5) Z).take (a * 5)=odCells (M.take a) by
     intro Z _
     unfold splice
     rw [List.take_append_of_le_length (by rw [List.length_take,HCL.out];omega),List.take_take,Nat.min_self,List.take_append_of_le_length (by rw [odCells_len,HD.out.len];omega),odCells_take])
    have HFT:=Lib.hid (show a * 5 + (n - a) * 5 ≤ (odCells M ++ sp).length by rw [HCL.out];omega)
    subst hbe
    clear HD
    have d1:¬ (c=a):=by omega
    have d2:a ≤ b:=by omega
    have d3:(a:Int) ≤ (b:Int):=by omega
    have d4:a ≤ c:=by omega
    have d5:(a:Int) ≤ (c:Int):=by omega
    go_wp2_with (refine wpList_clearK rfl (.tmp 38) 60 rfl 71 5 40 elem_od _ zero_od (odCells_one _) g (a * 5) (b - a) (c - a) (by rfl) (by omega) (a * 5) rfl (odCells M ++ sp) 71 HBK.out HFT.out base w HB.out hbg ?_;intro w2 Z hZ HG2 hB2 HO2)
    have HZ:=Lib.hid hZ
    clear hZ
    go_wp2_with fail
    go_ret
    refine ⟨_,by rw [HF.out.1];rfl,HG2.out,?_,?_,hB2,fun k hk hn=>(HO2.out k (fun e=>hn (by rw [e]))).trans (HO.out k hk hn)⟩
    ·rw [length_splice _ _ _ (by rw [HZ.out];exact HFT.out),HCL.out]
    ·rw [HF.out.1,HTK.out Z HZ.out,HF.out.2]
theorem delfunc_remove_od (base:Nat) (v:Value) (n:Nat) (L:List Od) (id:Int) (gp:Nat) (w:World) (hown:w.ownsRow base 71 5 v n (odCells L)) (hb:base ≤ w.heap.size) (hgp:gp < w.heap.size) (hne:v.ownBlock ≠ some gp) (hp:w.cell? ⟨gp,0,none⟩=some (.int .i64 id)) :
  Calls Try.prog 142 #[v,.func (.func 143) #[] #[.pointer (some ⟨gp,0,none⟩)]] w fun e w'=>∃ v',e=.returned v'∧w'.ownsRow base 71 5 v' (L.filter (fun y=>!hasId id y)).length (odCells (L.filter (fun y=>!hasId id y)))∧v'.ownBlock=v.ownBlock∧Below base w w'∧Only w w' v.ownBlock:=by
 obtain ⟨hl,⟨rfl,h0⟩ | ⟨g,c,cur,rfl,hbg,hg,hnc,hcm,hcs,hct⟩⟩:=hown
 ·subst h0
  have hL:L = []:=List.eq_nil_of_length_eq_zero (by rw [odCells_len] at hl;omega)
  subst hL
  refine Calls.mono (R:=fun e w'=>e=.returned (.slice none 0 0)∧Below w.heap.size w w') ?_ ?_
  ·clear hl
   go_enter Try.func142,Try.ntmps142
   go_wp2_with fail
   refine (idx_remove none 0 0 [] id gp w.heap.size w (Rd.none_ _ _ _) (Nat.le_refl _) hgp hp).mono ?_
   rintro e w1 ⟨rfl,hb1⟩
   rw [show idxOf (hasId id) [] = -1 from rfl]
   go_wp2_with fail
   go_ret
   exact ⟨rfl,hb1⟩
  ·rintro e w' ⟨rfl,h⟩
   exact ⟨_,rfl,World.ownsRow_nil _ _ _ _,rfl,h.mono hb,fun k hk _=>h.block k hk⟩
 ·have hgb:Blk w g 71 cur.toList.toArray:=by rw [Array.toArray_toList];exact hg
  obtain ⟨sp,e1,e2,e3⟩:=rows_of_cur (L:=L) (cur:=cur.toList) (by rw [Array.length_toList];exact hcs) hnc hct
  rw [e1] at hgb
  refine (delfunc_remove base g n c L sp id gp w hgb e2 e3 hnc hcm hbg hb hgp (fun e=>hne (by rw [e];rfl)) hp).mono ?_
  rintro e w' ⟨cur',rfl,h1,h2,h3,h4,h5⟩
  have hle:(L.filter (fun y=>!hasId id y)).length ≤ n:=by rw [← e2];exact List.length_filter_le _ _
  exact ⟨_,rfl,⟨by rw [odCells_len],.inr ⟨g,c,cur'.toArray,rfl,hbg,h1,by omega,hcm,by simpa using h2,by simpa using h3⟩⟩,rfl,h4,h5⟩
end
section
open Go.RowKit
theorem find_at {L:List Od} {id:Int} {j:Nat} (h:(L.take j).all (fun y=>!hasId id y)=true):findO L id=findO (L.drop j) id:=by
 conv=>lhs;rw [← List.take_append_drop j L]
 unfold findO
 rw [List.find?_append,List.find?_eq_none.2 (fun y hy=>by
  rw [List.all_eq_true] at h
  have:=h y hy
  simp [hasId] at this
  simpa using this)]
 rfl
theorem find_here {L:List Od} {id:Int} {j:Nat} {x:Od} (hx:L[j]?=some x) (hp:hasId id x=true) (h:(L.take j).all (fun y=>!hasId id y)=true):findO L id=some x:=by
 rw [find_at h]
 obtain ⟨h1,h2⟩:=List.getElem?_eq_some_iff.1 hx
 rw [List.drop_eq_getElem_cons h1,h2]
 unfold findO
 rw [List.find?_cons_of_pos (by simpa [hasId] using hp)]
theorem find_none {L:List Od} {id:Int} (h:L.all (fun y=>!hasId id y)=true):findO L id=none:=by
 have:=find_at (L:=L) (id:=id) (j:=L.length) (by rw [List.take_length];exact h)
 rw [this,List.drop_length];rfl
def RetFind (w:World) (r:Od × Int) (e:Ending) (w':World):Prop:=e=.returned (.tuple #[.agg #[.int .i64 r.1.id,.int .i64 r.1.acc,.int .i64 r.1.side,.int .i64 r.1.price,.int .i64 r.1.qty],.int .i64 r.2])∧Below w.heap.size w w'
theorem retFind_mk {w w':World} {r:Od × Int} {o:Od} {n:Int} (h:r=(o,n)) (hb:Below w.heap.size w w'):RetFind w r (.returned (.tuple #[.agg #[.int .i64 o.id,.int .i64 o.acc,.int .i64 o.side,.int .i64 o.price,.int .i64 o.qty],.int .i64 n])) w':=by subst h;exact ⟨rfl,hb⟩
theorem post_name {P:Program} {f:Func} {Q:Ending→World→Prop} {x:Exit} {a:Act} {W:World} (h:∀ Z,Z=W→bodyPost P f Q x a Z):bodyPost P f Q x a W:=h W rfl
theorem calls_name {P:Program} {f:Nat} {args:Array Value} {W:World} {R:Ending→World→Prop} (h:∀ Z,Z=W→Calls P f args Z R):Calls P f args W R:=h W rfl
set_option maxHeartbeats 2000000 in
set_option maxRecDepth 100000 in
theorem find_bk (b:Bk) (id:Int) (A A':Option Addr) (c c' B:Nat) (w:World) (h:BkR w B A A' c c' b) (hB:B ≤ w.heap.size) (hl:b.bids.length ≤ 4000000000000) (hl':b.asks.length ≤ 4000000000000) :
  Calls Try.prog 69 #[.agg #[.slice A b.bids.length c,.slice A' b.asks.length c'],.int .i64 id] w (RetFind w (findOf b id)):=by
 have HE:=Lib.hid (show findOf b id=if bookErr b ≠ 0 then (zeroOd,bookErr b) else match findO (b.bids ++ b.asks) id with | some o=>(o,0) | none=>(zeroOd,5) from rfl)
 go_enter Try.func69,Try.ntmps69
 go_wp2_with fail
 obtain ⟨w2,hw2⟩:∃ x,x=(w.alloc (.cells #[.slice A b.bids.length c,.slice A' b.asks.length c'] 62)).alloc (.cells #[.int .i64 zeroOd.id,.int .i64 zeroOd.acc,.int .i64 zeroOd.side,.int .i64 zeroOd.price,.int .i64 zeroOd.qty] 71):=⟨_,rfl⟩
 have hb2:Below w.heap.size w w2:=by rw [hw2];exact ((Below.refl _ _).alloc (Nat.le_refl _) _).alloc (by simp) _
 have hs2:w2.heap.size=w.heap.size + 1 + 1:=by rw [hw2];simp
 have X1:Blk w2 w.heap.size 62 #[.slice A b.bids.length c,.slice A' b.asks.length c']:=by rw [hw2];exact (Blk.new w _ _).alloc _
 have X2:Blk w2 (w.heap.size + 1) 71 #[.int .i64 zeroOd.id,.int .i64 zeroOd.acc,.int .i64 zeroOd.side,.int .i64 zeroOd.price,.int .i64 zeroOd.qty]:=by
  have:=Blk.new (w.alloc (.cells #[.slice A b.bids.length c,.slice A' b.asks.length c'] 62)) 71 #[.int .i64 zeroOd.id,.int .i64 zeroOd.acc,.int .i64 zeroOd.side,.int .i64 zeroOd.price,.int .i64 zeroOd.qty]
  rw [World.size_alloc] at this
  rw [hw2];exact this
 simp only [zeroOd] at hw2
 rw [← hw2]
 simp only [zeroOd] at X2
 have hr:=h.below (hb2.mono hB)
 clear hw2
 refine (bookCheck_any b A A' c c' B w2 hr.l hr.r (by omega) (by omega) (by omega)).mono ?_
 rintro e w3 ⟨rfl,hb3⟩
 have hs3:=hb3.size
 obtain ⟨⟨kX10,kX11⟩,-⟩:=X1.c2
 obtain ⟨⟨kX20,kX21,kX22,kX23,kX24⟩,fX20,fX21,fX22,fX23,fX24⟩:=X2.c5
 clear kX10 kX11
 replace X1:=X1.below hb3 X1.lt
 obtain ⟨⟨kX10,kX11⟩,-⟩:=X1.c2
 clear kX20 kX21 kX22 kX23 kX24 fX20 fX21 fX22 fX23 fX24
 replace X2:=X2.below hb3 X2.lt
 obtain ⟨⟨kX20,kX21,kX22,kX23,kX24⟩,fX20,fX21,fX22,fX23,fX24⟩:=X2.c5
 have hbw3:=hb2.trans (hb3.mono (by omega))
 have hr3:=hr.below (hb3.mono (by omega))
 clear hb3 hr hb2
 by_cases he:bookErr b=0
 rotate_left
 ·have HE1:=Lib.hid (HE.out.trans (if_pos he))
  have he':(bookErr b != 0)=true:=by simpa using he
  clear he HE
  go_wp2_with fail
  refine bodyPost_ret (v:=.tuple #[.agg #[.int .i64 0,.int .i64 0,.int .i64 0,.int .i64 0,.int .i64 0],.int .i64 (bookErr b)]) (by simp [results,Try.results69,go_sem, *]) rfl ?_
  exact retFind_mk (o:=zeroOd) HE1.out (Below.setCell (Below.setCell (Below.setCell (Below.setCell (Below.setCell hbw3 (by dsimp only;omega) _) (by dsimp only;omega) _) (by dsimp only;omega) _) (by dsimp only;omega) _) (by dsimp only;omega) _)
 ·have HE1:=Lib.hid (HE.out.trans (if_neg (by omega)))
  have HBK:=Lib.hid (bookErr_ok.1 he)
  have hlen:=HBK.out.len
  rw [he]
  clear he HE
  go_wp2_with fail
  obtain ⟨w4,hw4⟩:∃ x,x=w3.alloc (.cells #[.slice A b.bids.length c,.slice A' b.asks.length c'] 60):=⟨_,rfl⟩
  have hb4:Below w3.heap.size w3 w4:=by rw [hw4];exact (Below.refl _ _).alloc (Nat.le_refl _) _
  have hs4:w4.heap.size=w3.heap.size + 1:=by rw [hw4];simp
  have X3:Blk w4 w3.heap.size 60 #[.slice A b.bids.length c,.slice A' b.asks.length c']:=by rw [hw4];exact Blk.new w3 _ _
  rw [← hw4]
  have hr4:=hr3.below (hb4.mono (by omega))
  clear kX10 kX11
  replace X1:=X1.below hb4 X1.lt
  obtain ⟨⟨kX10,kX11⟩,-⟩:=X1.c2
  clear kX20 kX21 kX22 kX23 kX24 fX20 fX21 fX22 fX23 fX24
  replace X2:=X2.below hb4 X2.lt
  obtain ⟨⟨kX20,kX21,kX22,kX23,kX24⟩,fX20,fX21,fX22,fX23,fX24⟩:=X2.c5
  clear hw4 hr3
  refine (concat_ods A A' b.bids.length c b.asks.length c' b.bids b.asks B w4 hr4.l hr4.r (by omega) w3.heap.size (by omega) X3.c2.1.1 X3.c2.1.2 (by omega)).mono ?_
  rintro e w5 ⟨v,rfl,hown,hb5⟩
  have hs5:=hb5.size
  clear kX10 kX11
  replace X1:=X1.below hb5 X1.lt
  obtain ⟨⟨kX10,kX11⟩,-⟩:=X1.c2
  clear kX20 kX21 kX22 kX23 kX24 fX20 fX21 fX22 fX23 fX24
  replace X2:=X2.below hb5 X2.lt
  obtain ⟨⟨kX20,kX21,kX22,kX23,kX24⟩,fX20,fX21,fX22,fX23,fX24⟩:=X2.c5
  have hbw5:=(hbw3.trans (hb4.mono (by omega))).trans (hb5.mono (by omega))
  obtain ⟨A1,c1,rfl⟩:=own_shape hown
  have hr5:=Rd.of_own hown
  have hle5:=hr5.le
  have hcap5:=hr5.cap
  have HL:=Lib.hid (rdo_len hr5)
  have HR5:=Lib.hid hr5
  have HX2:=Lib.hid X2
  clear hb4 hb5 X1 X3 hr4 hown hbw3 hr5 kX10 kX11 kX20 kX21 kX22 kX23 kX24 fX20 fX21 fX22 fX23 fX24 X2
  unfold maxLen at hcap5
  obtain ⟨n1,hn1⟩:∃ n,n=b.bids.length + b.asks.length:=⟨_,rfl⟩
  rw [← hn1] at HR5 HL hle5
  rw [← hn1]
  clear hn1
  go_wp2_with fail
  go_loopw [22] (fun i wr=>∃ j:Nat,j ≤ n1∧i=.int .i64 j∧Below w5.heap.size w5 wr∧Hid (((b.bids ++ b.asks).take j).all (fun y=>!hasId id y)=true)) (fun i _=>n1 - (intOf i).toNat)
  case atStart=>exact ⟨0,Nat.zero_le _,rfl,Below.refl _ _,rfl⟩
  case round =>
   obtain ⟨j,hj,rfl,hbr,HP⟩:=hrel
   have hws:=hbr.size
   have X2:=HX2.out.below hbr HX2.out.lt
   have hbwr:=hbw5.trans (hbr.mono (by omega))
   by_cases hlt:j < n1
   ·obtain ⟨bb,oo,x,rfl,hbb,hx,k0,k1,k2,k3,k4⟩:=od_at (HR5.out.below hbr) hlt
    have x1:bb < wr.heap.size:=by omega
    have x2:w.heap.size + 1 < wr.heap.size:=by omega
    have HX:=Lib.hid hx
    clear hx
    obtain ⟨⟨kX20,kX21,kX22,kX23,kX24⟩,fX20,fX21,fX22,fX23,fX24⟩:=X2.c5
    rcases (bool_cs (hasId id x)).symm with hp | hp
    ·have HF:=Lib.hid (show findOf b id=(x,0) by rw [HE1.out,find_here HX.out hp HP.out])
     have hp':(x.id == id)=true:=hp
     clear hp
     go_wp2_with fail
     refine post_name ?_
     intro Z hZ
     have XZ:Blk Z (w.heap.size + 1) 71 #[.int .i64 x.id,.int .i64 x.acc,.int .i64 x.side,.int .i64 x.price,.int .i64 x.qty]:=by rw [hZ];exact (((((X2.set_ 0 _).set_ 1 _).set_ 2 _).set_ 3 _).set_ 4 _).alloc _
     have hbZ:Below w.heap.size w Z:=by rw [hZ];exact (Below.setCell (Below.setCell (Below.setCell (Below.setCell (Below.setCell hbwr (by dsimp only;omega) _) (by dsimp only;omega) _) (by dsimp only;omega) _) (by dsimp only;omega) _) (by dsimp only;omega) _).alloc (by simp;omega) _
     clear hZ kX20 kX21 kX22 kX23 kX24 fX20 fX21 fX22 fX23 fX24 k0 k1 k2 k3 k4
     obtain ⟨⟨kXZ0,kXZ1,kXZ2,kXZ3,kXZ4⟩,-⟩:=XZ.c5
     refine bodyPost_ret (v:=.tuple #[.agg #[.int .i64 x.id,.int .i64 x.acc,.int .i64 x.side,.int .i64 x.price,.int .i64 x.qty],.int .i64 0]) (by simp [results,Try.results69,go_sem, *]) rfl ?_
     exact retFind_mk (o:=x) HF.out hbZ
    ·have HN:=Lib.hid (all_next (p:=hasId id) HX.out hp HP.out)
     have hp':(x.id == id)=false:=hp
     clear hp
     go_wp2_with fail
     go_roundw
     case rel=>exact ⟨j + 1,by omega,by go_num,hbr.alloc (by omega) _,HN⟩
     case measure=>simp [intOf];omega
   ·have hjn:j=n1:=by omega
    have HF:=Lib.hid (show findOf b id=(zeroOd,5) by
     rw [HE1.out,find_none (by have:=HP.out;rw [hjn,List.take_of_length_le (by rw [HL.out];exact Nat.le_refl _)] at this;exact this)])
    clear hjn
    obtain ⟨⟨kX20,kX21,kX22,kX23,kX24⟩,fX20,fX21,fX22,fX23,fX24⟩:=X2.c5
    go_wp2_with fail
    refine bodyPost_ret (v:=.tuple #[.agg #[.int .i64 0,.int .i64 0,.int .i64 0,.int .i64 0,.int .i64 0],.int .i64 (5)]) (by simp [results,Try.results69,go_sem, *]) rfl ?_
    exact retFind_mk (o:=zeroOd) HF.out (Below.setCell (Below.setCell (Below.setCell (Below.setCell (Below.setCell hbwr (by dsimp only;omega) _) (by dsimp only;omega) _) (by dsimp only;omega) _) (by dsimp only;omega) _) (by dsimp only;omega) _)
end
section
open Go.RowKit
def RetRem (w:World) (r:Bk × Od × Int) (e:Ending) (w':World):Prop:=∃ v,e=.returned (.tuple #[v,.agg #[.int .i64 r.2.1.id,.int .i64 r.2.1.acc,.int .i64 r.2.1.side,.int .i64 r.2.1.price,.int .i64 r.2.1.qty],.int .i64 r.2.2])∧OwnBk w' w.heap.size v r.1∧Below w.heap.size w w'
theorem retRem_mk {w w':World} {r:Bk × Od × Int} {b:Bk} {o:Od} {n:Int} {v:Value} (h:r=(b,o,n)) (ho:OwnBk w' w.heap.size v b) (hb:Below w.heap.size w w'):RetRem w r (.returned (.tuple #[v,.agg #[.int .i64 o.id,.int .i64 o.acc,.int .i64 o.side,.int .i64 o.price,.int .i64 o.qty],.int .i64 n])) w':=by subst h;exact ⟨v,rfl,ho,hb⟩
theorem find_pair (b:Bk) (id:Int):∃ o n,findOf b id=(o,n)∧(n=0→BookOk b∧o ∈ b.bids ++ b.asks∧o.id=id):=by
 unfold findOf
 split
 ·rename_i h;exact ⟨_,_,rfl,fun h'=>absurd h' h⟩
 ·rename_i h
  cases hf:findO (b.bids ++ b.asks) id with
  | none=>exact ⟨_,_,rfl,fun h'=>by omega⟩
  | some o=>exact ⟨o,0,rfl,fun _=>⟨bookErr_ok.1 (by omega),findO_some hf⟩⟩
theorem del_filter (id:Int) (L:List Od):L.filter (fun y=>!hasId id y)=delO id L:=rfl
set_option maxHeartbeats 4000000 in
set_option maxRecDepth 100000 in
theorem remove_bk (b:Bk) (id:Int) (A A':Option Addr) (c c' B:Nat) (w:World) (h:BkR w B A A' c c' b) (hB:B ≤ w.heap.size) (hl:b.bids.length ≤ 4000000000000) (hl':b.asks.length ≤ 4000000000000) :
  Calls Try.prog 68 #[.agg #[.slice A b.bids.length c,.slice A' b.asks.length c'],.int .i64 id] w (RetRem w (removeOf b id)):=by
 obtain ⟨o,ef,hfind,hfok⟩:=find_pair b id
 have HFI:=Lib.hid hfind
 have HFO:=Lib.hid hfok
 have HE:=Lib.hid (show removeOf b id=if ef ≠ 0 then (zeroBk,zeroOd,ef) else (setOwn b o.side (delO id (ownOf b o.side)),o,0) by unfold removeOf;rw [hfind])
 clear hfind hfok
 go_enter Try.func68,Try.ntmps68
 go_wp2_with fail
 refine calls_name ?_
 intro w2 hw2
 have hb2:Below w.heap.size w w2:=by rw [hw2];exact ((((Below.refl _ _).alloc (Nat.le_refl _) _).alloc (by simp) _).alloc (by simp;omega) _).alloc (by simp;omega) _
 have hs2:w2.heap.size=w.heap.size + 1 + 1 + 1 + 1:=by rw [hw2];simp
 have X1:Blk w2 w.heap.size 62 #[.slice A b.bids.length c,.slice A' b.asks.length c']:=by rw [hw2];exact (((Blk.new w _ _).alloc _).alloc _).alloc _
 have X2:Blk w2 (w.heap.size + 1) 3 #[.int .i64 id]:=by rw [hw2];exact ((Blk.new_at _ _ _ _ (by simp)).alloc _).alloc _
 have X3:Blk w2 (w.heap.size + 1 + 1) 62 #[.slice none 0 0,.slice none 0 0]:=by rw [hw2];exact (Blk.new_at _ _ _ _ (by simp)).alloc _
 have X4:Blk w2 (w.heap.size + 1 + 1 + 1) 71 #[.int .i64 0,.int .i64 0,.int .i64 0,.int .i64 0,.int .i64 0]:=by rw [hw2];exact Blk.new_at _ _ _ _ (by simp)
 have hr:=h.below (hb2.mono hB)
 clear hw2
 refine (find_bk b id A A' c c' B w2 hr (by omega) hl hl').mono ?_
 rw [HFI.out]
 rintro e w3 ⟨rfl,hb3⟩
 have hs3:=hb3.size
 obtain ⟨⟨kX10,kX11⟩,-⟩:=X1.c2
 clear kX10 kX11
 replace X1:=X1.below hb3 X1.lt
 obtain ⟨⟨kX10,kX11⟩,-⟩:=X1.c2
 replace X2:=X2.below hb3 X2.lt
 replace X3:=X3.below hb3 X3.lt
 replace X4:=X4.below hb3 X4.lt
 have hbw3:=hb2.trans (hb3.mono (by omega))
 have hr3:=hr.below (hb3.mono (by omega))
 clear hb3 hr hb2
 by_cases he:ef=0
 rotate_left
 ·have HE1:=Lib.hid (HE.out.trans (if_pos he))
  have he':(ef != 0)=true:=by simpa using he
  obtain ⟨⟨kX30,kX31⟩,fX30,fX31⟩:=X3.c2
  obtain ⟨⟨kX40,kX41,kX42,kX43,kX44⟩,fX40,fX41,fX42,fX43,fX44⟩:=X4.c5
  have x3:w.heap.size + 1 + 1 < w3.heap.size:=by omega
  have x4:w.heap.size + 1 + 1 + 1 < w3.heap.size:=by omega
  have x0:w.heap.size + 1 + 1 + 1 + 1 ≤ w3.heap.size:=by omega
  clear he HE HFI HFO hs2 hs3 hr3
  go_wp2_with fail
  refine post_name ?_
  intro Z hZ
  have XZ3:Blk Z (w.heap.size + 1 + 1) 62 #[.slice none 0 0,.slice none 0 0]:=by rw [hZ];exact (((((((X3.set_ 0 _).set_ 1 _).far (by simp) _).far (by simp) _).far (by simp) _).far (by simp) _).far (by simp) _).alloc _
  have XZ4:Blk Z (w.heap.size + 1 + 1 + 1) 71 #[.int .i64 0,.int .i64 0,.int .i64 0,.int .i64 0,.int .i64 0]:=by rw [hZ];exact (((((((X4.far (by simp) _).far (by simp) _).set_ 0 _).set_ 1 _).set_ 2 _).set_ 3 _).set_ 4 _).alloc _
  have hbZ:Below w.heap.size w Z:=by rw [hZ];exact (((((((hbw3.setCell (by dsimp only;omega) _).setCell (by dsimp only;omega) _).setCell (by dsimp only;omega) _).setCell (by dsimp only;omega) _).setCell (by dsimp only;omega) _).setCell (by dsimp only;omega) _).setCell (by dsimp only;omega) _).alloc (by simp;omega) _
  clear hZ kX30 kX31 fX30 fX31 kX40 kX41 kX42 kX43 kX44 fX40 fX41 fX42 fX43 fX44
  obtain ⟨⟨kXZ30,kXZ31⟩,-⟩:=XZ3.c2
  obtain ⟨⟨kXZ40,kXZ41,kXZ42,kXZ43,kXZ44⟩,-⟩:=XZ4.c5
  refine bodyPost_ret (v:=.tuple #[.agg #[.slice none 0 0,.slice none 0 0],.agg #[.int .i64 0,.int .i64 0,.int .i64 0,.int .i64 0,.int .i64 0],.int .i64 ef]) (by simp [results,Try.results68,go_sem, *]) rfl ?_
  exact retRem_mk (o:=zeroOd) HE1.out (ownBk_zero _ _) hbZ
 ·subst he
  obtain ⟨hbk,hom,-⟩:=HFO.out rfl
  have HE1:=Lib.hid (HE.out.trans (if_neg (by simp)))
  have HM:=Lib.hid (own_mem hbk hom)
  have hlen:=hbk.len
  clear hbk hom HE HFO
  have hs3':w.heap.size + 1 + 1 + 1 + 1 ≤ w3.heap.size:=by omega
  have x1:w.heap.size < w3.heap.size:=by omega
  go_wp2_with fail
  refine calls_name ?_
  intro w4 hw4
  have hb4:Below w3.heap.size w3 w4:=by rw [hw4];exact (Below.refl _ _).alloc (Nat.le_refl _) _
  have hs4:w4.heap.size=w3.heap.size + 1:=by rw [hw4];simp
  have X5:Blk w4 w3.heap.size 71 #[.int .i64 o.id,.int .i64 o.acc,.int .i64 o.side,.int .i64 o.price,.int .i64 o.qty]:=by rw [hw4];exact Blk.new w3 _ _
  have X1':=X1.below hb4 X1.lt
  have X2':=X2.below hb4 X2.lt
  have X3':=X3.below hb4 X3.lt
  have X4':=X4.below hb4 X4.lt
  have hr4:=hr3.below (hb4.mono (by omega))
  have hbw4:=hbw3.trans (hb4.mono (by omega))
  clear hw4 X1 X2 X3 X4 kX10 kX11 hr3 hbw3 x1
  refine (copy_bk b A A' c c' B w4 hr4 (by omega) (by omega) (by omega)).mono ?_
  rintro e w5 ⟨v1,v2,rfl,hv1,hv2,hd12,hb5⟩
  obtain ⟨P1,p1,rfl⟩:=own_shape hv1
  obtain ⟨P2,p2,rfl⟩:=own_shape hv2
  have hs5:=hb5.size
  have hbw5:=hbw4.trans (hb5.mono (by omega))
  have X1:=X1'.below hb5 X1'.lt
  have X2:=X2'.below hb5 X2'.lt
  have X3:=X3'.below hb5 X3'.lt
  have X4:=X4'.below hb5 X4'.lt
  replace X5:=X5.below hb5 X5.lt
  clear X1' X2' X3' X4' hr4 hbw4 hb4
  obtain ⟨⟨kX10,kX11⟩,fX10,fX11⟩:=X1.c2
  obtain ⟨⟨kX50,kX51,kX52,kX53,kX54⟩,-⟩:=X5.c5
  clear hb5
  go_wp2_with fail
  refine calls_name ?_
  intro w6 hw6
  have hs6:w6.heap.size=w5.heap.size:=by rw [hw6];simp
  have hbw6:Below w.heap.size w w6:=by rw [hw6];exact (hbw5.setCell (Nat.le_refl _) _).setCell (Nat.le_refl _) _
  have Y1:Blk w6 w.heap.size 62 #[.slice P1 b.bids.length p1,.slice P2 b.asks.length p2]:=by rw [hw6];exact (X1.set_ 0 _).set_ 1 _
  have Y2:Blk w6 (w.heap.size + 1) 3 #[.int .i64 id]:=by rw [hw6];exact (X2.far (by simp) _).far (by simp) _
  have Y3:Blk w6 (w.heap.size + 1 + 1) 62 #[.slice none 0 0,.slice none 0 0]:=by rw [hw6];exact (X3.far (by simp;omega) _).far (by simp;omega) _
  have Y4:Blk w6 (w.heap.size + 1 + 1 + 1) 71 #[.int .i64 0,.int .i64 0,.int .i64 0,.int .i64 0,.int .i64 0]:=by rw [hw6];exact (X4.far (by simp;omega) _).far (by simp;omega) _
  have Y5:Blk w6 w3.heap.size 71 #[.int .i64 o.id,.int .i64 o.acc,.int .i64 o.side,.int .i64 o.price,.int .i64 o.qty]:=by rw [hw6];exact (X5.far (by simp;omega) _).far (by simp;omega) _
  have R1:w6.ownsRow w4.heap.size 71 5 (.slice P1 b.bids.length p1) b.bids.length (odCells b.bids):=by rw [hw6];exact ownsRow_setCell_below (ownsRow_setCell_below hv1 (by dsimp only;omega) _) (by dsimp only;omega) _
  have R2:w6.ownsRow w4.heap.size 71 5 (.slice P2 b.asks.length p2) b.asks.length (odCells b.asks):=by rw [hw6];exact ownsRow_setCell_below (ownsRow_setCell_below hv2 (by dsimp only;omega) _) (by dsimp only;omega) _
  clear hw6 hv1 hv2 X1 X2 X3 X4 X5 kX10 kX11 fX10 fX11 kX50 kX51 kX52 kX53 kX54 hbw5
  have HX:=Lib.hid (rest_side o b)
  obtain ⟨⟨m0,m1⟩,-⟩:=Y1.c2
  by_cases hsd:o.side=1
  ·have hs1:(o.side == 1)=true:=by simpa using hsd
   have HY:=Lib.hid (HX.out.1 hsd)
   clear hsd HX
   refine (of_buy' w.heap.size o.side w6 _ _ m0 m1 hs1).mono ?_
   rintro e w7 ⟨rfl,hw7⟩
   have hs7:w7.heap.size=w6.heap.size:=by rw [hw7];rfl
   have V1:Blk w7 w.heap.size 62 #[.slice P1 b.bids.length p1,.slice P2 b.asks.length p2]:=by rw [hw7];exact Y1
   have V2:Blk w7 (w.heap.size + 1) 3 #[.int .i64 id]:=by rw [hw7];exact Y2
   have V3:Blk w7 (w.heap.size + 1 + 1) 62 #[.slice none 0 0,.slice none 0 0]:=by rw [hw7];exact Y3
   have V4:Blk w7 (w.heap.size + 1 + 1 + 1) 71 #[.int .i64 0,.int .i64 0,.int .i64 0,.int .i64 0,.int .i64 0]:=by rw [hw7];exact Y4
   have V5:Blk w7 w3.heap.size 71 #[.int .i64 o.id,.int .i64 o.acc,.int .i64 o.side,.int .i64 o.price,.int .i64 o.qty]:=by rw [hw7];exact Y5
   replace R1:w7.ownsRow w4.heap.size 71 5 (.slice P1 b.bids.length p1) b.bids.length (odCells b.bids):=by rw [hw7];exact own_drewN R1 1
   replace R2:w7.ownsRow w4.heap.size 71 5 (.slice P2 b.asks.length p2) b.asks.length (odCells b.asks):=by rw [hw7];exact own_drewN R2 1
   have hbw7:Below w.heap.size w w7:=by rw [hw7];exact below_drewN hbw6 1
   clear hw7 m0 m1 Y1 Y2 Y3 Y4 Y5 hbw6
   obtain ⟨n1,hn1⟩:∃ n,n=b.bids.length:=⟨_,rfl⟩
   obtain ⟨n2,hn2⟩:∃ n,n=b.asks.length:=⟨_,rfl⟩
   rw [← hn1] at R1 hd12
   rw [← hn2] at R2 hd12
   rw [← hn1,← hn2] at V1
   rw [← hn1,← hn2]
   clear hn1 hn2
   obtain ⟨⟨kV10,kV11⟩,fV10,fV11⟩:=V1.c2
   have kV20:=V2.cell 0
   have HR:=Lib.hid R1
   have HRx:=Lib.hid R2
   have HD12:=Lib.hid hd12
   clear hd12
   go_wp2_with fail
   refine (delfunc_remove_od w4.heap.size (.slice P1 n1 p1) n1 (b.bids) id (w.heap.size + 1) _ HR.out (by omega) (by omega) (fun e=>by have:=(World.ownsRow.lt HR.out _ e).1;omega) kV20).mono ?_
   rintro e w8 ⟨v',rfl,hown',hbk',hbl',honly'⟩
   rw [del_filter] at hown'
   obtain ⟨PN,pN,rfl⟩:=own_shape hown'
   have hs8:=hbl'.size
   have HRN:=Lib.hid hown'
   have HRX:=Lib.hid (own_only HRx.out honly' (fun g h e=>HD12.out _ e h))
   have hbw8:=hbw7.trans (hbl'.mono (by omega))
   have U1:=V1.below hbl' (by omega)
   have U3:=V3.below hbl' (by omega)
   have U4:=V4.below hbl' (by omega)
   have U5:=V5.below hbl' (by omega)
   clear hown' hbk' honly' hbl' V1 V2 V3 V4 V5 R1 R2 HR HRx hbw7 kV10 kV11 fV10 fV11 kV20
   obtain ⟨⟨kU10,kU11⟩,fU10,fU11⟩:=U1.c2
   go_wp2_with fail
   obtain ⟨w9,hw9⟩:∃ x,x=w8.setCell ⟨w.heap.size,0,none⟩ (.slice PN (delO id (b.bids)).length pN):=⟨_,rfl⟩
   rw [← hw9]
   have Z1:Blk w9 w.heap.size 62 #[(.slice PN (delO id b.bids).length pN),(.slice P2 n2 p2)]:=by rw [hw9];exact U1.set_ 0 _
   have Z3:Blk w9 (w.heap.size + 1 + 1) 62 #[.slice none 0 0,.slice none 0 0]:=by rw [hw9];exact U3.far (by simp;omega) _
   have Z4:Blk w9 (w.heap.size + 1 + 1 + 1) 71 #[.int .i64 0,.int .i64 0,.int .i64 0,.int .i64 0,.int .i64 0]:=by rw [hw9];exact U4.far (by simp;omega) _
   have Z5:Blk w9 w3.heap.size 71 #[.int .i64 o.id,.int .i64 o.acc,.int .i64 o.side,.int .i64 o.price,.int .i64 o.qty]:=by rw [hw9];exact U5.far (by simp;omega) _
   have hbw9:Below w.heap.size w w9:=by rw [hw9];exact hbw8.setCell (Nat.le_refl _) _
   have HR0:=Lib.hid (show w9.ownsRow w4.heap.size 71 5 (.slice PN (delO id (b.bids)).length pN) (delO id (b.bids)).length (odCells (delO id (b.bids))) by rw [hw9];exact ownsRow_setCell_below HRN.out (by dsimp only;omega) _)
   have HR1:=Lib.hid (show w9.ownsRow w4.heap.size 71 5 (.slice P2 n2 p2) _ _ by rw [hw9];exact ownsRow_setCell_below HRX.out (by dsimp only;omega) _)
   clear hw9 U1 U3 U4 U5 kU10 kU11 fU10 fU11 HRN HRX hbw8
   obtain ⟨⟨kZ10,kZ11⟩,-⟩:=Z1.c2
   obtain ⟨⟨kZ30,kZ31⟩,fZ30,fZ31⟩:=Z3.c2
   obtain ⟨⟨kZ40,kZ41,kZ42,kZ43,kZ44⟩,fZ40,fZ41,fZ42,fZ43,fZ44⟩:=Z4.c5
   obtain ⟨⟨kZ50,kZ51,kZ52,kZ53,kZ54⟩,-⟩:=Z5.c5
   have hz3:¬ (w.heap.size + 1 + 1=w3.heap.size):=by omega
   have hz4:¬ (w.heap.size + 1 + 1 + 1=w3.heap.size):=by omega
   go_region
   go_wp2_with fail
   refine post_name ?_
   intro Z hZ
   have XZ3:Blk Z (w.heap.size + 1 + 1) 62 #[(.slice PN (delO id b.bids).length pN),(.slice P2 n2 p2)]:=by rw [hZ];exact (((((((Z3.set_ 0 _).set_ 1 _).far (by simp) _).far (by simp) _).far (by simp) _).far (by simp) _).far (by simp) _).drewN 1
   have XZ4:Blk Z (w.heap.size + 1 + 1 + 1) 71 #[.int .i64 o.id,.int .i64 o.acc,.int .i64 o.side,.int .i64 o.price,.int .i64 o.qty]:=by rw [hZ];exact (((((((Z4.far (by simp) _).far (by simp) _).set_ 0 _).set_ 1 _).set_ 2 _).set_ 3 _).set_ 4 _).drewN 1
   have hbZ:Below w.heap.size w Z:=by rw [hZ];exact below_drewN (((((((hbw9.setCell (by dsimp only;omega) _).setCell (by dsimp only;omega) _).setCell (by dsimp only;omega) _).setCell (by dsimp only;omega) _).setCell (by dsimp only;omega) _).setCell (by dsimp only;omega) _).setCell (by dsimp only;omega) _) 1
   have hown:∀ {v:Value} {n:Nat} {xs:List Value},w9.ownsRow w4.heap.size 71 5 v n xs→Z.ownsRow w.heap.size 71 5 v n xs:=by
    intro v n xs hv
    rw [hZ]
    exact own_mono (own_drewN (ownsRow_setCell_below (ownsRow_setCell_below (ownsRow_setCell_below (ownsRow_setCell_below (ownsRow_setCell_below (ownsRow_setCell_below (ownsRow_setCell_below hv (by dsimp only;omega) _) (by dsimp only;omega) _) (by dsimp only;omega) _) (by dsimp only;omega) _) (by dsimp only;omega) _) (by dsimp only;omega) _) (by dsimp only;omega) _) 1) (by omega)
   clear hZ kZ10 kZ11 kZ30 kZ31 fZ30 fZ31 kZ40 kZ41 kZ42 kZ43 kZ44 fZ40 fZ41 fZ42 fZ43 fZ44 kZ50 kZ51 kZ52 kZ53 kZ54 hz3 hz4
   obtain ⟨⟨kXZ30,kXZ31⟩,-⟩:=XZ3.c2
   obtain ⟨⟨kXZ40,kXZ41,kXZ42,kXZ43,kXZ44⟩,-⟩:=XZ4.c5
   refine bodyPost_ret (v:=.tuple #[.agg #[(.slice PN (delO id b.bids).length pN),(.slice P2 n2 p2)],.agg #[.int .i64 o.id,.int .i64 o.acc,.int .i64 o.side,.int .i64 o.price,.int .i64 o.qty],.int .i64 0]) (by simp [results,Try.results68,go_sem, *]) rfl ?_
   refine retRem_mk (o:=o) (b:=mkB b (delO id (b.bids))) ?_ (ownBk_mk (hown HR0.out) (hown HR1.out)) hbZ
   rw [HE1.out,HY.out.2.1,HY.out.2.2]
  ·have hs1:(o.side == 1)=false:=by simpa using hsd
   have HY:=Lib.hid (HX.out.2 hsd)
   clear hsd HX
   refine (of_sell w.heap.size o.side w6 _ _ m0 m1 hs1).mono ?_
   rintro e w7 ⟨rfl,hw7⟩
   have hs7:w7.heap.size=w6.heap.size:=by rw [hw7];rfl
   have V1:Blk w7 w.heap.size 62 #[.slice P1 b.bids.length p1,.slice P2 b.asks.length p2]:=by rw [hw7];exact Y1
   have V2:Blk w7 (w.heap.size + 1) 3 #[.int .i64 id]:=by rw [hw7];exact Y2
   have V3:Blk w7 (w.heap.size + 1 + 1) 62 #[.slice none 0 0,.slice none 0 0]:=by rw [hw7];exact Y3
   have V4:Blk w7 (w.heap.size + 1 + 1 + 1) 71 #[.int .i64 0,.int .i64 0,.int .i64 0,.int .i64 0,.int .i64 0]:=by rw [hw7];exact Y4
   have V5:Blk w7 w3.heap.size 71 #[.int .i64 o.id,.int .i64 o.acc,.int .i64 o.side,.int .i64 o.price,.int .i64 o.qty]:=by rw [hw7];exact Y5
   replace R1:w7.ownsRow w4.heap.size 71 5 (.slice P1 b.bids.length p1) b.bids.length (odCells b.bids):=by rw [hw7];exact own_drewN R1 1
   replace R2:w7.ownsRow w4.heap.size 71 5 (.slice P2 b.asks.length p2) b.asks.length (odCells b.asks):=by rw [hw7];exact own_drewN R2 1
   have hbw7:Below w.heap.size w w7:=by rw [hw7];exact below_drewN hbw6 1
   clear hw7 m0 m1 Y1 Y2 Y3 Y4 Y5 hbw6
   obtain ⟨n1,hn1⟩:∃ n,n=b.bids.length:=⟨_,rfl⟩
   obtain ⟨n2,hn2⟩:∃ n,n=b.asks.length:=⟨_,rfl⟩
   rw [← hn1] at R1 hd12
   rw [← hn2] at R2 hd12
   rw [← hn1,← hn2] at V1
   rw [← hn1,← hn2]
   clear hn1 hn2
   obtain ⟨⟨kV10,kV11⟩,fV10,fV11⟩:=V1.c2
   have kV20:=V2.cell 0
   have HR:=Lib.hid R2
   have HRx:=Lib.hid R1
   have HD12:=Lib.hid hd12
   clear hd12
   go_wp2_with fail
   refine (delfunc_remove_od w4.heap.size (.slice P2 n2 p2) n2 (b.asks) id (w.heap.size + 1) _ HR.out (by omega) (by omega) (fun e=>by have:=(World.ownsRow.lt HR.out _ e).1;omega) kV20).mono ?_
   rintro e w8 ⟨v',rfl,hown',hbk',hbl',honly'⟩
   rw [del_filter] at hown'
   obtain ⟨PN,pN,rfl⟩:=own_shape hown'
   have hs8:=hbl'.size
   have HRN:=Lib.hid hown'
   have HRX:=Lib.hid (own_only HRx.out honly' (fun g h e=>HD12.out _ h e))
   have hbw8:=hbw7.trans (hbl'.mono (by omega))
   have U1:=V1.below hbl' (by omega)
   have U3:=V3.below hbl' (by omega)
   have U4:=V4.below hbl' (by omega)
   have U5:=V5.below hbl' (by omega)
   clear hown' hbk' honly' hbl' V1 V2 V3 V4 V5 R1 R2 HR HRx hbw7 kV10 kV11 fV10 fV11 kV20
   obtain ⟨⟨kU10,kU11⟩,fU10,fU11⟩:=U1.c2
   go_wp2_with fail
   obtain ⟨w9,hw9⟩:∃ x,x=w8.setCell ⟨w.heap.size,1,none⟩ (.slice PN (delO id (b.asks)).length pN):=⟨_,rfl⟩
   rw [← hw9]
   have Z1:Blk w9 w.heap.size 62 #[(.slice P1 n1 p1),(.slice PN (delO id b.asks).length pN)]:=by rw [hw9];exact U1.set_ 1 _
   have Z3:Blk w9 (w.heap.size + 1 + 1) 62 #[.slice none 0 0,.slice none 0 0]:=by rw [hw9];exact U3.far (by simp;omega) _
   have Z4:Blk w9 (w.heap.size + 1 + 1 + 1) 71 #[.int .i64 0,.int .i64 0,.int .i64 0,.int .i64 0,.int .i64 0]:=by rw [hw9];exact U4.far (by simp;omega) _
   have Z5:Blk w9 w3.heap.size 71 #[.int .i64 o.id,.int .i64 o.acc,.int .i64 o.side,.int .i64 o.price,.int .i64 o.qty]:=by rw [hw9];exact U5.far (by simp;omega) _
   have hbw9:Below w.heap.size w w9:=by rw [hw9];exact hbw8.setCell (Nat.le_refl _) _
   have HR0:=Lib.hid (show w9.ownsRow w4.heap.size 71 5 (.slice PN (delO id (b.asks)).length pN) (delO id (b.asks)).length (odCells (delO id (b.asks))) by rw [hw9];exact ownsRow_setCell_below HRN.out (by dsimp only;omega) _)
   have HR1:=Lib.hid (show w9.ownsRow w4.heap.size 71 5 (.slice P1 n1 p1) _ _ by rw [hw9];exact ownsRow_setCell_below HRX.out (by dsimp only;omega) _)
   clear hw9 U1 U3 U4 U5 kU10 kU11 fU10 fU11 HRN HRX hbw8
   obtain ⟨⟨kZ10,kZ11⟩,-⟩:=Z1.c2
   obtain ⟨⟨kZ30,kZ31⟩,fZ30,fZ31⟩:=Z3.c2
   obtain ⟨⟨kZ40,kZ41,kZ42,kZ43,kZ44⟩,fZ40,fZ41,fZ42,fZ43,fZ44⟩:=Z4.c5
   obtain ⟨⟨kZ50,kZ51,kZ52,kZ53,kZ54⟩,-⟩:=Z5.c5
   have hz3:¬ (w.heap.size + 1 + 1=w3.heap.size):=by omega
   have hz4:¬ (w.heap.size + 1 + 1 + 1=w3.heap.size):=by omega
   go_region
   go_wp2_with fail
   refine post_name ?_
   intro Z hZ
   have XZ3:Blk Z (w.heap.size + 1 + 1) 62 #[(.slice P1 n1 p1),(.slice PN (delO id b.asks).length pN)]:=by rw [hZ];exact (((((((Z3.set_ 0 _).set_ 1 _).far (by simp) _).far (by simp) _).far (by simp) _).far (by simp) _).far (by simp) _).drewN 1
   have XZ4:Blk Z (w.heap.size + 1 + 1 + 1) 71 #[.int .i64 o.id,.int .i64 o.acc,.int .i64 o.side,.int .i64 o.price,.int .i64 o.qty]:=by rw [hZ];exact (((((((Z4.far (by simp) _).far (by simp) _).set_ 0 _).set_ 1 _).set_ 2 _).set_ 3 _).set_ 4 _).drewN 1
   have hbZ:Below w.heap.size w Z:=by rw [hZ];exact below_drewN (((((((hbw9.setCell (by dsimp only;omega) _).setCell (by dsimp only;omega) _).setCell (by dsimp only;omega) _).setCell (by dsimp only;omega) _).setCell (by dsimp only;omega) _).setCell (by dsimp only;omega) _).setCell (by dsimp only;omega) _) 1
   have hown:∀ {v:Value} {n:Nat} {xs:List Value},w9.ownsRow w4.heap.size 71 5 v n xs→Z.ownsRow w.heap.size 71 5 v n xs:=by
    intro v n xs hv
    rw [hZ]
    exact own_mono (own_drewN (ownsRow_setCell_below (ownsRow_setCell_below (ownsRow_setCell_below (ownsRow_setCell_below (ownsRow_setCell_below (ownsRow_setCell_below (ownsRow_setCell_below hv (by dsimp only;omega) _) (by dsimp only;omega) _) (by dsimp only;omega) _) (by dsimp only;omega) _) (by dsimp only;omega) _) (by dsimp only;omega) _) (by dsimp only;omega) _) 1) (by omega)
   clear hZ kZ10 kZ11 kZ30 kZ31 fZ30 fZ31 kZ40 kZ41 kZ42 kZ43 kZ44 fZ40 fZ41 fZ42 fZ43 fZ44 kZ50 kZ51 kZ52 kZ53 kZ54 hz3 hz4
   obtain ⟨⟨kXZ30,kXZ31⟩,-⟩:=XZ3.c2
   obtain ⟨⟨kXZ40,kXZ41,kXZ42,kXZ43,kXZ44⟩,-⟩:=XZ4.c5
   refine bodyPost_ret (v:=.tuple #[.agg #[(.slice P1 n1 p1),(.slice PN (delO id b.asks).length pN)],.agg #[.int .i64 o.id,.int .i64 o.acc,.int .i64 o.side,.int .i64 o.price,.int .i64 o.qty],.int .i64 0]) (by simp [results,Try.results68,go_sem, *]) rfl ?_
   refine retRem_mk (o:=o) (b:=mkA b (delO id (b.asks))) ?_ (ownBk_mk (hown HR1.out) (hown HR0.out)) hbZ
   rw [HE1.out,HY.out.2.1,HY.out.2.2]
end
section
open Go.RowKit
structure OBk (w:World) (base:Nat) (A A':Option Addr) (c c':Nat) (b:Bk):Prop where
 l:w.ownsRow base 71 5 (.slice A b.bids.length c) b.bids.length (odCells b.bids)
 r:w.ownsRow base 71 5 (.slice A' b.asks.length c') b.asks.length (odCells b.asks)
theorem OwnBk.obk {w:World} {base:Nat} {v:Value} {b:Bk} (h:OwnBk w base v b):∃ A c A' c',v=.agg #[.slice A b.bids.length c,.slice A' b.asks.length c']∧OBk w base A A' c c' b:=by
 obtain ⟨A,c,A',c',rfl,h1,h2⟩:=h
 exact ⟨A,c,A',c',rfl,h1,h2⟩
theorem OBk.read {w:World} {base:Nat} {A A':Option Addr} {c c':Nat} {b:Bk} (h:OBk w base A A' c c' b):BkR w w.heap.size A A' c c' b:=⟨Rd.of_own h.l,Rd.of_own h.r⟩
theorem OBk.set {w:World} {base:Nat} {A A':Option Addr} {c c':Nat} {b:Bk} (h:OBk w base A A' c c' b) {a:Addr} (ha:a.block < base) (u:Value):OBk (w.setCell a u) base A A' c c' b:=⟨ownsRow_setCell_below h.l ha u,ownsRow_setCell_below h.r ha u⟩
theorem OBk.below {w w1:World} {base B:Nat} {A A':Option Addr} {c c':Nat} {b:Bk} (h:OBk w base A A' c c' b) (hb:Below B w w1) (hB:w.heap.size ≤ B):OBk w1 base A A' c c' b:=⟨own_below h.l hb hB,own_below h.r hb hB⟩
theorem OBk.alloc {w:World} {base:Nat} {A A':Option Addr} {c c':Nat} {b:Bk} (h:OBk w base A A' c c' b) (o:Obj):OBk (w.alloc o) base A A' c c' b:=⟨World.ownsRow.alloc h.l o,World.ownsRow.alloc h.r o⟩
theorem OBk.drewN {w:World} {base:Nat} {A A':Option Addr} {c c':Nat} {b:Bk} (h:OBk w base A A' c c' b) (q:Nat):OBk (w.drewN q) base A A' c c' b:=⟨own_drewN h.l q,own_drewN h.r q⟩
end
section
open Go.RowKit
def flCells:List Fl→List Value
 | []=>[]
 | f :: l=>.int .i64 f.maker :: .int .i64 f.taker :: .int .i64 f.macc :: .int .i64 f.tacc :: .int .i64 f.side :: .int .i64 f.price :: .int .i64 f.qty :: flCells l
theorem flCells_len:∀ L,(flCells L).length=L.length * 7
 | []=>rfl
 | o :: l=>by simp only [flCells,List.length_cons,flCells_len l];omega
theorem flCells_app (M:List Fl):∀ L,flCells (L ++ M)=flCells L ++ flCells M
 | []=>rfl
 | o :: l=>by simp only [List.cons_append,flCells,flCells_app M l]
theorem flCells_one:∀ (L:List Fl),∀ u ∈ flCells L,u.oneCell'=true
 | []=>by simp [flCells]
 | o :: l=>by
  intro u hu
  simp only [flCells,List.mem_cons] at hu
  rcases hu with rfl | rfl | rfl | rfl | rfl | rfl | rfl | hu
  ·rfl
  ·rfl
  ·rfl
  ·rfl
  ·rfl
  ·rfl
  ·rfl
  ·exact flCells_one l u hu
theorem flCells_at:∀ {L:List Fl} {i:Nat} {a:Fl},L[i]?=some a →
  (flCells L)[i * 7]?=some (.int .i64 a.maker)∧(flCells L)[i * 7 + 1]?=some (.int .i64 a.taker)∧(flCells L)[i * 7 + 2]?=some (.int .i64 a.macc)∧(flCells L)[i * 7 + 3]?=some (.int .i64 a.tacc)∧(flCells L)[i * 7 + 4]?=some (.int .i64 a.side)∧(flCells L)[i * 7 + 5]?=some (.int .i64 a.price)∧(flCells L)[i * 7 + 6]?=some (.int .i64 a.qty)
 | [],_,_,h=>by simp at h
 | o :: l,0,a,h=>by
  simp only [List.getElem?_cons_zero,Option.some.injEq] at h
  subst h;exact ⟨rfl,rfl,rfl,rfl,rfl,rfl,rfl⟩
 | o :: l,i + 1,a,h=>by
  simp only [List.getElem?_cons_succ] at h
  obtain ⟨h0,h1,h2,h3,h4,h5,h6⟩:=flCells_at h
  have e:∀ k,(i + 1) * 7 + k=i * 7 + k + 1 + 1 + 1 + 1 + 1 + 1 + 1:=by intro k;omega
  refine ⟨?_,?_,?_,?_,?_,?_,?_⟩
  ·rw [show (i + 1) * 7=i * 7 + 1 + 1 + 1 + 1 + 1 + 1 + 1 by omega];exact h0
  ·rw [e];exact h1
  ·rw [e];exact h2
  ·rw [e];exact h3
  ·rw [e];exact h4
  ·rw [e];exact h5
  ·rw [e];exact h6
theorem rdf_len {w:World} {B n c:Nat} {A:Option Addr} {L:List Fl} (h:Rd w B 7 A n c (flCells L)):L.length=n:=by have:=h.len;rw [flCells_len] at this;omega
theorem fl_at {w:World} {B n c:Nat} {A:Option Addr} {L:List Fl} (h:Rd w B 7 A n c (flCells L)) {i:Nat} (hi:i < n):∃ b o a,A=some ⟨b,o,none⟩∧b < B∧L[i]?=some a ∧
  w.cell? ⟨b,o + i * 7,none⟩=some (.int .i64 a.maker)∧w.cell? ⟨b,o + i * 7 + 1,none⟩=some (.int .i64 a.taker)∧w.cell? ⟨b,o + i * 7 + 2,none⟩=some (.int .i64 a.macc) ∧
   w.cell? ⟨b,o + i * 7 + 3,none⟩=some (.int .i64 a.tacc)∧w.cell? ⟨b,o + i * 7 + 4,none⟩=some (.int .i64 a.side)∧w.cell? ⟨b,o + i * 7 + 5,none⟩=some (.int .i64 a.price)∧w.cell? ⟨b,o + i * 7 + 6,none⟩=some (.int .i64 a.qty):=by
 have hl:=rdf_len h
 obtain ⟨b,o,e,hb,hc⟩:=h.at_ (by omega)
 have ha:L[i]?=some L[i]:=List.getElem?_eq_getElem (by omega)
 obtain ⟨h0,h1,h2,h3,h4,h5,h6⟩:=flCells_at ha
 refine ⟨b,o,_,e,hb,ha,hc _ _ h0,?_,?_,?_,?_,?_,?_⟩
 ·rw [Nat.add_assoc];exact hc _ _ h1
 ·rw [Nat.add_assoc];exact hc _ _ h2
 ·rw [Nat.add_assoc];exact hc _ _ h3
 ·rw [Nat.add_assoc];exact hc _ _ h4
 ·rw [Nat.add_assoc];exact hc _ _ h5
 ·rw [Nat.add_assoc];exact hc _ _ h6
theorem elem_fl:Elem Try.prog 83 87 7 56:=elem_mk Try.underlying83 (by kernel_rfl) (by decide)
theorem step_app {P:Program} {ops:Array Oper} {o:Oper} {a:Act} {w:World} {K:Act→World→Prop} {Q:Exit→Act→World→Prop} {X:Prop} (hgd:o.guard=none) (s x:Operand) (t:TypeId)
  (ho:o.op=.call { callee:=.builtin .append,args:=#[s,x],argTypes:=#[t,t] })
  (base e k bytes:Nat) (E:Elem P t e k bytes) (v:Value) (n:Nat) (xs:List Value) (hs:a.eval s=v) (hown:w.ownsRow base e k v n xs)
  (B:Nat) (A:Option Addr) (m c:Nat) (news:List Value) (hx:a.eval x=.slice A m c) (hr:Rd w B k A m c news) (h1:∀ u ∈ news,u.oneCell'=true)
  (hlen:n + m ≤ maxLen) (hbytes:(n + m) * bytes ≤ 140737488355328) (hbase:base ≤ w.heap.size)
  (h:∀ v' w',w'.ownsRow base e k v' (n + m) (xs ++ news)→Below base w w'→w.grownBy w' v.ownBlock→(v'.ownBlock=v.ownBlock∨v'.ownBlock=some w.heap.size)→K (a.put o.dst v') w') :
  if Region.wanted o (yielded ops a.tmps)=true then Oper.wp P o a w K Q else X:=by
 rw [if_pos (show Region.wanted o (yielded ops a.tmps)=true by simp [Region.wanted,hgd])]
 exact wp_app s x t ho base e k bytes E v n xs hs hown B A m c news hx hr h1 hlen hbytes hbase h
theorem rd_new {w:World} (cs:Array Value) (t:TypeId) (g k:Nat) (hg:g=w.heap.size) (hk:cs.size=k) (xs:List Value) (hx:cs.toList=xs):Rd (w.alloc (.cells cs t)) (g + 1) k (some ⟨g,0,none⟩) 1 1 xs:=by
 subst hg hx
 exact ⟨by simp [hk],Nat.le_refl _,by decide,nofun,fun _=>⟨_,_,rfl,by omega,fun j u hj=>by rw [World.cell?_alloc_new];simpa using hj⟩⟩
theorem grown_only {w w':World} {b:Option Nat} (h:w.grownBy w' b):Only w w' b:=fun k hk hn=>h.block k hk hn
end
section
open Go.RowKit
structure Tk (w wr:World) (base:Nat) (B1:Array Value) (o:Od) (Lo L0 M:List Od) (fs:List Fl) (left:Int) (NX:Nat) (vf vo vx:Value):Prop where
 bel:Below w.heap.size w wr
 one:Blk wr w.heap.size 62 B1
 two:Blk wr (w.heap.size + 1) 71 #[.int .i64 o.id,.int .i64 o.acc,.int .i64 o.side,.int .i64 o.price,.int .i64 o.qty]
 three:Blk wr (w.heap.size + 1 + 1) 62 #[.slice none 0 0,.slice none 0 0]
 low:w.heap.size + 1 + 1 < base
 high:base ≤ wr.heap.size
 rowO:wr.ownsRow base 71 5 vo Lo.length (odCells Lo)
 rowX:wr.ownsRow base 71 5 vx NX (odCells M)
 lenX:M.length=NX
 rowF:wr.ownsRow base 87 7 vf fs.length (flCells fs)
 ox:∀ k,vo.ownBlock=some k→vx.ownBlock ≠ some k
 fo:∀ k,vo.ownBlock=some k→vf.ownBlock ≠ some k
 fx:∀ k,vx.ownBlock=some k→vf.ownBlock ≠ some k
 side:SideOk (-o.side) M
 take:takeL o o.qty L0=((takeL o left M).1,fs ++ (takeL o left M).2.1,(takeL o left M).2.2)
 left_:0 ≤ left∧left ≤ o.qty
 cnt:fs.length + M.length ≤ 40∨left=0∧fs.length + M.length ≤ 41
theorem Tk.below {w wr w1:World} {base:Nat} {B1:Array Value} {o:Od} {Lo L0 M:List Od} {fs:List Fl} {left:Int} {NX:Nat} {vf vo vx:Value} (h:Tk w wr base B1 o Lo L0 M fs left NX vf vo vx) (hb:Below wr.heap.size wr w1):Tk w w1 base B1 o Lo L0 M fs left NX vf vo vx :=
 ⟨h.bel.trans (hb.mono h.bel.size),h.one.below hb h.one.lt,h.two.below hb h.two.lt,h.three.below hb h.three.lt,h.low,Nat.le_trans h.high hb.size,own_below h.rowO hb (Nat.le_refl _),own_below h.rowX hb (Nat.le_refl _),h.lenX,own_below h.rowF hb (Nat.le_refl _),h.ox,h.fo,h.fx,h.side,h.take,h.left_,h.cnt⟩
theorem tk_part {o x:Od} {l L0:List Od} {fs:List Fl} {left:Int} (h:takeL o o.qty L0=((takeL o left (x :: l)).1,fs ++ (takeL o left (x :: l)).2.1,(takeL o left (x :: l)).2.2)) (h1:0 < left) (h2:crossesB o x.price=true) (h3:x.acc ≠ o.acc) (h4:left < x.qty) :
  takeL o o.qty L0=((takeL o 0 ({ x with qty:=x.qty - left } :: l)).1,(fs ++ [fillOf o x left]) ++ (takeL o 0 ({ x with qty:=x.qty - left } :: l)).2.1,(takeL o 0 ({ x with qty:=x.qty - left } :: l)).2.2):=by
 rw [h,takeL_zero]
 have e:takeL o left (x :: l)=({ x with qty:=x.qty - left } :: l,[fillOf o x left],0,false):=by
  conv=>lhs;unfold takeL
  rw [if_neg (by omega),if_neg (by rw [h2];simp),if_neg h3,if_pos h4]
 rw [e];simp
theorem tk_all {o x:Od} {l L0:List Od} {fs:List Fl} {left:Int} (h:takeL o o.qty L0=((takeL o left (x :: l)).1,fs ++ (takeL o left (x :: l)).2.1,(takeL o left (x :: l)).2.2)) (h1:0 < left) (h2:crossesB o x.price=true) (h3:x.acc ≠ o.acc) (h4:x.qty ≤ left) :
  takeL o o.qty L0=((takeL o (left - x.qty) l).1,(fs ++ [fillOf o x x.qty]) ++ (takeL o (left - x.qty) l).2.1,(takeL o (left - x.qty) l).2.2):=by
 rw [h]
 have e:takeL o left (x :: l)=((takeL o (left - x.qty) l).1,fillOf o x x.qty :: (takeL o (left - x.qty) l).2.1,(takeL o (left - x.qty) l).2.2):=by
  conv=>lhs;unfold takeL
  rw [if_neg (by omega),if_neg (by rw [h2];simp),if_neg h3,if_neg (by omega)]
 rw [e];simp
theorem tk_end {o:Od} {M L0:List Od} {fs:List Fl} {left:Int} (h:takeL o o.qty L0=((takeL o left M).1,fs ++ (takeL o left M).2.1,(takeL o left M).2.2)) (he:left ≤ 0∨M = []∨∃ x l,M=x :: l∧crossesB o x.price=false):takeL o o.qty L0=(M,fs,left,false):=by
 rw [h]
 have e:takeL o left M=(M,[],left,false):=by
  rcases he with he | rfl | ⟨x,l,rfl,hc⟩
  ·cases M with
   | nil=>rfl
   | cons x l=>unfold takeL;rw [if_pos he]
  ·rfl
  ·unfold takeL
   split
   ·rfl
   ·rfl
 rw [e];simp
theorem tk_met {o x:Od} {l L0:List Od} {fs:List Fl} {left:Int} (h:takeL o o.qty L0=((takeL o left (x :: l)).1,fs ++ (takeL o left (x :: l)).2.1,(takeL o left (x :: l)).2.2)) (h1:0 < left) (h2:crossesB o x.price=true) (h3:x.acc=o.acc):takeL o o.qty L0=(x :: l,fs,left,true):=by
 rw [h]
 have e:takeL o left (x :: l)=(x :: l,[],left,true):=by unfold takeL;rw [if_neg (by omega),if_neg (by rw [h2];simp),if_pos h3]
 rw [e];simp
theorem head_c {w:World} {g:Nat} {t:TypeId} {x:Od} {l:List Od} {sp:List Value} (h:Blk w g t (odCells (x :: l) ++ sp).toArray) :
  (w.cell? ⟨g,0,none⟩=some (.int .i64 x.id)∧w.cell? ⟨g,1,none⟩=some (.int .i64 x.acc)∧w.cell? ⟨g,2,none⟩=some (.int .i64 x.side)∧w.cell? ⟨g,3,none⟩=some (.int .i64 x.price)∧w.cell? ⟨g,4,none⟩=some (.int .i64 x.qty)) ∧
   w.frozen? ⟨g,0,none⟩=false∧w.frozen? ⟨g,1,none⟩=false∧w.frozen? ⟨g,2,none⟩=false∧w.frozen? ⟨g,3,none⟩=false∧w.frozen? ⟨g,4,none⟩=false :=
 ⟨⟨h.cell 0,h.cell 1,h.cell 2,h.cell 3,h.cell 4⟩,h.frozen 0,h.frozen 1,h.frozen 2,h.frozen 3,h.frozen 4⟩
theorem row_cons {w:World} {base m c:Nat} {A:Option Addr} {x:Od} {l:List Od} (h:w.ownsRow base 71 5 (.slice A (m + 1) c) (m + 1) (odCells (x :: l))) :
  ∃ g sp,A=some ⟨g,0,none⟩∧base ≤ g∧Blk w g 71 (odCells (x :: l) ++ sp).toArray∧l.length=m∧m + 1 ≤ c∧c ≤ maxLen∧sp.length=(c - (m + 1)) * 5:=by
 obtain ⟨hl,⟨_,h0⟩ | ⟨g,cap,cur,hv,hbg,hg,hnc,hcm,hcs,hct⟩⟩:=h
 ·omega
 ·injection hv with e1 _ e3
  subst e1 e3
  obtain ⟨sp,e1,e2,e3⟩:=rows_of_cur (L:=x :: l) (cur:=cur.toList) (by rw [Array.length_toList];exact hcs) hnc hct
  have hgb:Blk w g 71 cur.toList.toArray:=by rw [Array.toArray_toList];exact hg
  rw [e1] at hgb
  exact ⟨g,sp,rfl,hbg,hgb,by simpa using e2,hnc,hcm,e3⟩
theorem wp_name {P:Program} {c:Code} {Q:Exit→Act→World→Prop} {a:Act} {W:World} (h:∀ Z,Z=W→Code.wp P c Q a Z):Code.wp P c Q a W:=h W rfl
theorem only_alloc_drew (w:World) (ob:Obj) (b:Option Nat):Only w ((w.alloc ob).drew) b:=fun k hk _=>Below.heap_alloc w ob k hk
theorem only_trans {w w1 w2:World} {b:Option Nat} (h:Only w w1 b) (hs:w.heap.size ≤ w1.heap.size) (g:Only w1 w2 b):Only w w2 b:=fun k hk hn=>(g k (by omega) hn).trans (h k hk hn)
theorem Rd.drew1 {w:World} {B k n c:Nat} {A:Option Addr} {xs:List Value} (h:Rd w B k A n c xs):Rd w.drew B k A n c xs:=h.drewN 1
theorem delete_first (base:Nat) (v:Value) (n:Nat) (x:Od) (L:List Od) (w:World) (hown:w.ownsRow base 71 5 v n (odCells (x :: L))) (hb:base ≤ w.heap.size) (hi:0 < n) :
  Calls Try.prog 65 #[v,.int .i64 0,.int .i64 1] w fun e w'=>∃ v',e=.returned v'∧w'.ownsRow base 71 5 v' (n - 1) (odCells L)∧v'.ownBlock=v.ownBlock∧Below base w w'∧Only w w' v.ownBlock :=
 delete_od base v n 0 (x :: L) w hown hb hi
theorem Blk.only {w w':World} {g:Nat} {t:TypeId} {cs:Array Value} {b:Option Nat} (h:Blk w g t cs) (ho:Only w w' b) (hne:some g ≠ b):Blk w' g t cs:=(ho g h.lt hne).trans h
theorem side_part {s:Int} {o x:Od} {l:List Od} {left:Int} (h:SideOk s (x :: l)) (h1:0 < left) (h2:crossesB o x.price=true) (h3:x.acc ≠ o.acc) (h4:left < x.qty):SideOk s ({ x with qty:=x.qty - left } :: l):=by
 have:=(takeL_side (o:=o) (left:=left) h).1
 unfold takeL at this
 rw [if_neg (by omega),if_neg (by rw [h2];simp),if_neg h3,if_pos h4] at this
 exact this
theorem tk_eq {o x:Od} {l L0:List Od} {fs:List Fl} (h:takeL o o.qty L0=((takeL o x.qty (x :: l)).1,fs ++ (takeL o x.qty (x :: l)).2.1,(takeL o x.qty (x :: l)).2.2)) (h1:0 < x.qty) (h2:crossesB o x.price=true) (h3:x.acc ≠ o.acc) :
  takeL o o.qty L0=((takeL o 0 l).1,(fs ++ [fillOf o x x.qty]) ++ (takeL o 0 l).2.1,(takeL o 0 l).2.2):=by
 have:=tk_all h h1 h2 h3 (Int.le_refl _)
 rw [Int.sub_self] at this
 exact this
theorem set4 (x:Od) (l:List Od) (sp:List Value) (q:Int):(odCells (x :: l) ++ sp).toArray.setIfInBounds 4 (.int .i64 q)=(odCells ({ x with qty:=q } :: l) ++ sp).toArray:=by
 simp [odCells]
theorem row_mk {w:World} {base g n c:Nat} {M:List Od} {sp:List Value} (h:Blk w g 71 (odCells M ++ sp).toArray) (hb:base ≤ g) (hn:M.length=n) (hnc:n ≤ c) (hc:c ≤ maxLen) (hs:sp.length=(c - n) * 5):w.ownsRow base 71 5 (.slice (some ⟨g,0,none⟩) n c) n (odCells M):=by
 refine ⟨by rw [odCells_len,hn],.inr ⟨g,c,_,rfl,hb,h,hnc,hc,?_,?_⟩⟩
 ·rw [List.size_toArray,List.length_append,odCells_len,hs,hn];omega
 ·rw [List.toList_toArray,List.take_append_of_le_length (by rw [odCells_len,hn];exact Nat.le_refl _),List.take_of_length_le (by rw [odCells_len,hn];exact Nat.le_refl _)]
def RetTake (w:World) (r:Bk × List Fl × Int × Bool × Int) (e:Ending) (w':World):Prop :=
 ∃ A c A' c' vf,e=.returned (.tuple #[.agg #[.slice A r.1.bids.length c,.slice A' r.1.asks.length c'],vf,.int .i64 r.2.2.1,.bool r.2.2.2.1,.int .i64 r.2.2.2.2])∧OBk w' w.heap.size A A' c c' r.1∧w'.ownsRow w.heap.size 87 7 vf r.2.1.length (flCells r.2.1) ∧
  (∀ k,(Value.slice A r.1.bids.length c).ownBlock=some k→(Value.slice A' r.1.asks.length c').ownBlock ≠ some k)∧Below w.heap.size w w'
theorem retTake_mk {w w':World} {r:Bk × List Fl × Int × Bool × Int} {x:Bk} {l:List Fl} {left:Int} {met:Bool} {n:Int} {A A':Option Addr} {c c' n1 n2 n3:Nat} {vf:Value} (h:r=(x,l,left,met,n)) (h1:x.bids.length=n1) (h2:x.asks.length=n2) (ho1:w'.ownsRow w.heap.size 71 5 (.slice A n1 c) n1 (odCells x.bids)) (ho2:w'.ownsRow w.heap.size 71 5 (.slice A' n2 c') n2 (odCells x.asks))
  (h3:l.length=n3) (hf:w'.ownsRow w.heap.size 87 7 vf n3 (flCells l)) (ha:∀ k,(Value.slice A n1 c).ownBlock=some k→(Value.slice A' n2 c').ownBlock ≠ some k) (hb:Below w.heap.size w w') :
  RetTake w r (.returned (.tuple #[.agg #[.slice A n1 c,.slice A' n2 c'],vf,.int .i64 left,.bool met,.int .i64 n])) w':=by subst h h1 h2 h3;exact ⟨A,c,A',c',vf,rfl,⟨ho1,ho2⟩,hf,ha,hb⟩
theorem take_side (o:Od) (b:Bk):(o.side=1→otherOf b o.side=b.asks∧∀ l,setOther b o.side l=mkA b l)∧(o.side ≠ 1→otherOf b o.side=b.bids∧∀ l,setOther b o.side l=mkB b l) :=
 ⟨fun h=>⟨if_pos h,fun _=>if_pos h⟩,fun h=>⟨if_neg h,fun _=>if_neg h⟩⟩
end
section
open Go.RowKit
structure Kept (S:List TypeId) (w w':World):Prop where
 size:w.heap.size ≤ w'.heap.size
 blk:∀ g t cs,Blk w g t cs→t ∉ S→Blk w' g t cs
section
variable {S T:List TypeId} {a b c:World}
theorem Kept.refl (S:List TypeId) (w:World):Kept S w w:=⟨Nat.le_refl _,fun _ _ _ h _=>h⟩
theorem Kept.trans (h:Kept S a b) (g:Kept S b c):Kept S a c:=⟨Nat.le_trans h.size g.size,fun x t cs hx ht=>g.blk x t cs (h.blk x t cs hx ht) ht⟩
theorem Kept.mono (h:Kept S a b) (hS:∀ t ∈ S,t ∈ T):Kept T a b:=⟨h.size,fun x t cs hx ht=>h.blk x t cs hx fun hs=>ht (hS t hs)⟩
theorem Kept.of_below (S:List TypeId) (h:Below a.heap.size a b):Kept S a b:=⟨h.size,fun _ _ _ hg _=>hg.below h hg.lt⟩
theorem Kept.below (h:Kept S a b) (g:Below b.heap.size b c):Kept S a c:=h.trans (.of_below S g)
theorem Kept.alloc (h:Kept S a b) (o:Obj):Kept S a (b.alloc o):=h.trans ⟨by simp,fun _ _ _ hg _=>hg.alloc o⟩
theorem Kept.drew (h:Kept S a b):Kept S a b.drew:=⟨h.size,h.blk⟩
theorem Kept.drewN (h:Kept S a b) (q:Nat):Kept S a (b.drewN q):=⟨h.size,h.blk⟩
theorem size_setCell (w:World) (p:Addr) (u:Value):(w.setCell p u).heap.size=w.heap.size:=by simp [World.setCell]
theorem Kept.set (h:Kept S a b) {g:Nat} {t:TypeId} {cs:Array Value} (hg:Blk b g t cs) (ht:t ∈ S) (i:Nat) (u:Value):Kept S a (b.setCell ⟨g,i,none⟩ u):=by
 refine h.trans ⟨by rw [size_setCell];exact Nat.le_refl _,fun x t' cs' hx ht'=>?_⟩
 by_cases e:x=g
 ·subst e
  unfold Blk at hg hx
  rw [hg] at hx
  injection hx with hx
  injection hx with _ hx
  subst hx
  exact absurd ht ht'
 ·exact hx.far e u
theorem Kept.only (h:Kept S a b) {e k n:Nat} {base:Nat} {v:Value} {xs:List Value} (hown:b.ownsRow base e k v n xs) (ho:Only b c v.ownBlock) (hs:b.heap.size ≤ c.heap.size) (he:e ∈ S):Kept S a c:=by
 refine h.trans ⟨hs,fun x t cs hx ht=>?_⟩
 refine hx.only ho fun hv=>?_
 obtain ⟨_,⟨rfl,_⟩ | ⟨g,cap,cur,rfl,_,hg,_⟩⟩:=hown
 ·simp [Value.ownBlock] at hv
 ·have:x=g:=by simpa [Value.ownBlock] using hv
  subst this
  unfold Blk at hx
  rw [hg] at hx
  injection hx with hx
  injection hx with _ hx
  subst hx
  exact absurd he ht
theorem Kept.grown (h:Kept S a b) {e k n:Nat} {base:Nat} {v:Value} {xs:List Value} (hown:b.ownsRow base e k v n xs) (hg:b.grownBy c v.ownBlock) (he:e ∈ S):Kept S a c:=h.only hown (grown_only hg) hg.size he
theorem Kept.own (h:Kept S a b) {e k n:Nat} {base:Nat} {v:Value} {xs:List Value} (ho:a.ownsRow base e k v n xs) (he:e ∉ S):b.ownsRow base e k v n xs:=by
 obtain ⟨hl,h1 | ⟨g,cap,cur,rfl,h1,h2,h3⟩⟩:=ho
 ·exact ⟨hl,.inl h1⟩
 ·exact ⟨hl,.inr ⟨g,cap,cur,rfl,h1,h.blk g e cur h2 he,h3⟩⟩
theorem Blk.kept {g:Nat} {t:TypeId} {cs:Array Value} (hb:Blk a g t cs) (h:Kept S a b) (ht:t ∉ S):Blk b g t cs:=h.blk g t cs hb ht
end
theorem own_store {w:World} {base e k n c g:Nat} {xs:List Value} (h:w.ownsRow base e k (.slice (some ⟨g,0,none⟩) n c) n xs) (j:Nat) (u:Value):(w.setCell ⟨g,j,none⟩ u).ownsRow base e k (.slice (some ⟨g,0,none⟩) n c) n (xs.set j u):=(h.stored j u).1
theorem own_blk {w:World} {base e k n c:Nat} {A:Option Addr} {xs:List Value} (h:w.ownsRow base e k (.slice A n c) n xs) (hn:0 < n):∃ g cs,A=some ⟨g,0,none⟩∧base ≤ g∧Blk w g e cs:=by
 obtain ⟨_,⟨hv,h0⟩ | ⟨g,cap,cur,hv,h1,h2,_⟩⟩:=h
 ·omega
 ·injection hv with hv _ _
  exact ⟨g,cur,hv,h1,h2⟩
end
section
open Go.RowKit
theorem Blk.c7 {w:World} {g:Nat} {t:TypeId} {a0 a1 a2 a3 a4 a5 a6:Value} (h:Blk w g t #[a0,a1,a2,a3,a4,a5,a6]) :
  (w.cell? ⟨g,0,none⟩=some a0∧w.cell? ⟨g,1,none⟩=some a1∧w.cell? ⟨g,2,none⟩=some a2∧w.cell? ⟨g,3,none⟩=some a3∧w.cell? ⟨g,4,none⟩=some a4∧w.cell? ⟨g,5,none⟩=some a5∧w.cell? ⟨g,6,none⟩=some a6) ∧
   w.frozen? ⟨g,0,none⟩=false∧w.frozen? ⟨g,1,none⟩=false∧w.frozen? ⟨g,2,none⟩=false∧w.frozen? ⟨g,3,none⟩=false∧w.frozen? ⟨g,4,none⟩=false∧w.frozen? ⟨g,5,none⟩=false∧w.frozen? ⟨g,6,none⟩=false :=
 ⟨⟨h.cell 0,h.cell 1,h.cell 2,h.cell 3,h.cell 4,h.cell 5,h.cell 6⟩,h.frozen 0,h.frozen 1,h.frozen 2,h.frozen 3,h.frozen 4,h.frozen 5,h.frozen 6⟩
theorem Blk.c8 {w:World} {g:Nat} {t:TypeId} {a0 a1 a2 a3 a4 a5 a6 a7:Value} (h:Blk w g t #[a0,a1,a2,a3,a4,a5,a6,a7]) :
  (w.cell? ⟨g,0,none⟩=some a0∧w.cell? ⟨g,1,none⟩=some a1∧w.cell? ⟨g,2,none⟩=some a2∧w.cell? ⟨g,3,none⟩=some a3∧w.cell? ⟨g,4,none⟩=some a4∧w.cell? ⟨g,5,none⟩=some a5∧w.cell? ⟨g,6,none⟩=some a6∧w.cell? ⟨g,7,none⟩=some a7) ∧
   w.frozen? ⟨g,0,none⟩=false∧w.frozen? ⟨g,1,none⟩=false∧w.frozen? ⟨g,2,none⟩=false∧w.frozen? ⟨g,3,none⟩=false∧w.frozen? ⟨g,4,none⟩=false∧w.frozen? ⟨g,5,none⟩=false∧w.frozen? ⟨g,6,none⟩=false∧w.frozen? ⟨g,7,none⟩=false :=
 ⟨⟨h.cell 0,h.cell 1,h.cell 2,h.cell 3,h.cell 4,h.cell 5,h.cell 6,h.cell 7⟩,h.frozen 0,h.frozen 1,h.frozen 2,h.frozen 3,h.frozen 4,h.frozen 5,h.frozen 6,h.frozen 7⟩
end
section
theorem come_ok {b x:Bk} {o:Od} {how left:Int} {l:List Fl} (h:comeOf b o how=(x,l,left,0)) :
  BookOk b∧ordErr o=0∧hasB b o.id=false∧(1 ≤ how∧how ≤ 4) ∧
  ∃ L rem,takeL o o.qty (otherOf b o.side)=(L,l,rem,false)∧(how=4→l = [])∧(how=3→rem=0) ∧
   ((rem=0∨how=2)∧x=setOther b o.side L∧left=rem∨0 < rem∧(how ≠ 2)∧(how ≠ 3)∧left=0∧restOf (setOther b o.side L) { o with qty:=rem }=(x,0)):=by
 unfold comeOf at h
 split at h
 ·rename_i h1;injection h with _ h;injection h with _ h;injection h with _ h;exact absurd h h1
 rename_i h1
 have hb:=bookErr_ok.1 (show bookErr b=0 by omega)
 split at h
 ·injection h with _ h;injection h with _ h;injection h with _ h;omega
 rename_i h2
 split at h
 ·injection h with _ h;injection h with _ h;injection h with _ h;omega
 rename_i h3
 split at h
 ·rename_i h4;injection h with _ h;injection h with _ h;injection h with _ h;exact absurd h h4
 rename_i h4
 have ho:ordErr o=0:=by
  by_cases ho:ordErr o=0
  ·exact ho
  ·unfold takeOf at h4
   rw [if_neg h1,if_pos ho] at h4
   simp only at h4
   exact absurd ho (by omega)
 obtain ⟨L,fl,rem,met,ht⟩:∃ L fl rem met,takeL o o.qty (otherOf b o.side)=(L,fl,rem,met):=⟨_,_,_,_,rfl⟩
 have hto:takeOf b o=(setOther b o.side L,fl,rem,met,0):=by
  unfold takeOf
  rw [if_neg h1,if_neg (by rw [ho];simp),ht]
 rw [hto] at h
 simp only at h
 have hso:=other_of hb o.side (ordErr_ok.1 ho).2.2.1
 have hq:∀ x ∈ otherOf b o.side,1 ≤ x.qty:=fun x hx=>(ordErr_ok.1 (hso.ok x hx)).2.2.2.2.1
 have hrem:=takeL_left (o:=o) (left:=o.qty) hq (by have:=(ordErr_ok.1 ho).2.2.2.2;omega)
 rw [ht] at hrem
 simp only at hrem
 split at h
 ·injection h with _ h;injection h with _ h;injection h with _ h;omega
 rename_i h5
 split at h
 ·injection h with _ h;injection h with _ h;injection h with _ h;omega
 rename_i h6
 have hmet:met=false:=by simpa using h6
 split at h
 ·injection h with _ h;injection h with _ h;injection h with _ h;omega
 rename_i h7
 have hl4:fl ≠ []→how ≠ 4:=fun hf h4=>h5 ⟨h4,.inl hf⟩
 refine ⟨hb,ho,by simpa using h2,by omega,L,rem,?_,?_⟩
 ·split at h
  ·injection h with _ h;injection h with e _;rw [ht,e,hmet]
  ·split at h
   ·rename_i h9;injection h with _ h;injection h with _ h;injection h with _ h;exact absurd h h9
   ·injection h with _ h;injection h with e _;rw [ht,e,hmet]
 ·have hfl:fl=l:=by
   split at h
   ·injection h with _ h;injection h with e _
   ·split at h
    ·rename_i h9;injection h with _ h;injection h with _ h;injection h with _ h;exact absurd h h9
    ·injection h with _ h;injection h with e _
  subst hfl
  refine ⟨fun h4=>by
   cases fl with
   | nil=>rfl
   | cons f fl=>exact absurd h4 (hl4 (by simp)),fun h3=>by
   by_cases hr:0 < rem
   ·exact absurd ⟨h3,hr⟩ h7
   ·omega,?_⟩
  split at h
  ·rename_i h8
   injection h with e1 h;injection h with _ h;injection h with e2 _
   exact .inl ⟨h8,e1.symm,e2.symm⟩
  ·rename_i h8
   split at h
   ·rename_i h9;injection h with _ h;injection h with _ h;injection h with _ h;exact absurd h h9
   rename_i h9
   injection h with e1 h;injection h with _ h;injection h with e2 _
   exact .inr ⟨by omega,by omega,fun e=>h7 ⟨e,by omega⟩,e2.symm,Prod.ext e1 (by simpa using h9)⟩
end
end Go.Proofs.Ytockodmbhnlheaa
