import Derived.Test.YtockodmbhnlheaaGreatDoorAF
import Derived.Lib.AppendZeros
import Derived.Laws.CopyOwn
import Derived.Lib.AppendZerosOnto
import Derived.Lib.Overlaps
import Derived.Laws.Externs
import Derived.Deep.RegionLaw
import Derived.Test.YtockodmbhnlheaaGreatDoorAG
namespace Go.Proofs.YtockodmbhnlheaaGreatDoor
section
open Go.RowKit
theorem zpM {P:Program} {t e tn k bytes:Nat} {kn:IntKind} (E:Elem P t e k bytes) (htn:P.underlying tn=some (.int kn)) (w:World) (n:Nat) (h0:0 < n) (h48:n * bytes ≤ 140737488355328) (hn:n ≤ maxLen) :
  ∃ c cur,(∀ ty,(Builtin.append_ #[t,tn] ty #[.slice none 0 0,.int .i64 n]).run P w=.ok (.slice (some ⟨w.heap.size,0,none⟩) n c) (w.drew.alloc (.cells cur e)))∧n ≤ c∧c ≤ maxLen∧cur.size=c * k:=by
 obtain ⟨i,z,hi,hz,hk,hb,hzk⟩:=E.hi;have hr:=fun ty=>Lib.run_append_nil_zeros (P:=P) w t tn ty e i z .i64 kn E.ht htn hi hz n h0 (by rw [hk];exact E.pos) (by unfold maxLen at hn;omega) (by rw [hb];omega);refine ⟨_,_,hr,grownCap_ge _ _ _ _,grownCap_le_maxLen _ _ _ _ hn,?_⟩;have:=grownCap_ge w n 0 e;simp only [Array.size_append,size_zeroCells,hzk,← Nat.add_mul];rw [Nat.add_sub_cancel' this]
set_option maxHeartbeats 400000 in
set_option maxRecDepth 100000 in
theorem zrt (n:Nat) (hn:n * 40 ≤ 140737488355328) (w:World) :
  Calls Tryz.prog 89 #[.slice none 0 0,.int .i64 n] w (zfY w 32 5 0 []):=by
 have hm:n ≤ maxLen:=by simp only [maxLen];omega
 by_cases h0:n=0
 ·subst h0;go_enter Tryz.func89,Tryz.ntmps89
  go_wp2_with fail
  go_ret;exact ⟨_,rfl,World.ownsRow_nil _ _ _ _,Below.refl _ _⟩
 ·obtain ⟨c,cur,hr,hc1,hc2,hc3⟩:=zpM (P:=Tryz.prog) zcS Tryz.underlying3 w n (by omega) hn hm;have HR:=zi hr;clear hr;go_enter Tryz.func89,Tryz.ntmps89
  go_wp2_with (at_builtin;refine Lib.wpList_append_run _ rfl _ _ _ _ rfl _ _ rfl rfl _ _ (HR.out _) ?_)
  go_ret;exact ⟨_,rfl,World.ownsRow_made _ _ _ (zl _) hc2 hc3,(zar (Below.refl _ _)).alloc (zl _) _⟩
set_option maxHeartbeats 2000000 in
set_option maxRecDepth 100000 in
theorem zhB (A A':Option Addr) (n c n' c':Nat) (L M:List Od) (B:Nat) (w:World) (h:Rd w B 5 A n c (zaa L)) (h':Rd w B 5 A' n' c' (zaa M)) (hB:B ≤ w.heap.size)
  (g:Nat) (hg:g < w.heap.size) (c0:w.cell? ⟨g,0,none⟩=some (.slice A n c)) (c1:w.cell? ⟨g,1,none⟩=some (.slice A' n' c')) (hb:(n + n') * 40 ≤ 140737488355328) :
  Calls Tryz.prog 67 #[.slice (some ⟨g,0,none⟩) 2 2] w (zfY w 32 5 (n + n') (zaa (L ++ M))):=by
 have HR:=zi h;have HR':=zi h';have hm:n + n' ≤ maxLen:=by simp only [maxLen];omega
 have HM:=zi hm;clear h h' hm;go_enter Tryz.func67,Tryz.ntmps67
 go_wp2_with fail
 go_loopw [11,3] (fun i s wr=>w=wr∧(i=.int .i64 0∧s=.int .i64 0∨i=.int .i64 1∧s=.int .i64 n∨i=.int .i64 2∧s=.int .i64 (n + n':Nat))) (fun i _ _=>2 - (intOf i).toNat)
 case atStart=>exact ⟨rfl,.inl ⟨rfl,rfl⟩⟩
 case round =>
  obtain ⟨rfl,⟨rfl,rfl⟩ | ⟨rfl,rfl⟩ | ⟨rfl,rfl⟩⟩:=hrel
  ·go_wp2_with fail
   go_roundw
   case rel=>exact ⟨(by first | rfl | trivial),.inr (.inl ⟨rfl,by go_num⟩)⟩
   case measure=>simp [intOf]
  ·go_wp2_with fail
   go_roundw
   case rel=>exact ⟨(by first | rfl | trivial),.inr (.inr ⟨rfl,by go_num⟩)⟩
   case measure=>simp [intOf]
  ·go_wp2_with fail
   refine (zrt (n + n') hb _).mono ?_;rintro e w1 ⟨v,rfl,hown,hbl⟩;have HO:=zi hown;clear hown;go_wp2_with fail
   go_loopw [27,6] (fun i v wr=>Below w.heap.size w wr∧(i=.int .i64 0∧Hid (wr.ownsRow w.heap.size 32 5 v 0 [])∨i=.int .i64 1∧Hid (wr.ownsRow w.heap.size 32 5 v n (zaa L))∨i=.int .i64 2∧Hid (wr.ownsRow w.heap.size 32 5 v (n + n') (zaa (L ++ M))))) (fun i _ _=>2 - (intOf i).toNat)
   case atStart=>exact ⟨hbl,.inl ⟨rfl,HO⟩⟩
   case round =>
    obtain ⟨hbr,⟨rfl,HV⟩ | ⟨rfl,HV⟩ | ⟨rfl,HV⟩⟩:=hrel
    ·have d0:=(hbr.cell (p:=⟨g,0,none⟩) hg).trans c0;go_wp2_with (at_builtin;refine zbe rfl _ _ _ rfl w.heap.size _ _ _ zcS _ _ _ rfl HV.out B A n c (zaa L) rfl (HR.out.below (hbr.mono hB)) (zbT _) (by have:=HM.out;omega) (by omega) hbr.size ?_;intro v' w' hown' hbel' _ _)
     have HO':=zi (by simpa using hown');go_roundw
     case rel=>exact ⟨hbr.trans hbel',.inr (.inl ⟨rfl,HO'⟩)⟩
     case measure=>simp [intOf]
    ·have d0:=(hbr.cell (p:=⟨g,1,none⟩) hg).trans c1;go_wp2_with (at_builtin;refine zbe rfl _ _ _ rfl w.heap.size _ _ _ zcS _ _ _ rfl HV.out B A' n' c' (zaa M) rfl (HR'.out.below (hbr.mono hB)) (zbT _) (by have:=HM.out;omega) (by omega) hbr.size ?_;intro v' w' hown' hbel' _ _)
     rw [← zek] at hown';have HO':=zi hown';go_roundw
     case rel=>exact ⟨hbr.trans hbel',.inr (.inr ⟨rfl,HO'⟩)⟩
     case measure=>simp [intOf]
    ·go_wp2_with fail
     go_ret;exact ⟨_,rfl,HV.out,hbr⟩
end
section
open Go.RowKit
section
variable {P:Program}
theorem zkU (w:World) (dT sT ty elem:TypeId) (k g off dLen dCap gs os sLen sCap N:Nat) (cur:List Value) (t:TypeId) (cs:List Value)
  (hu:P.underlying dT=some (.slice elem)) (hs:(P.info? elem).map (·.size)=some k) (hg:w.heap[g]?=some (.cells cur.toArray t (0,0)))
  (hN:N ≤ sLen∧N ≤ dLen∧(sLen ≤ N∨dLen ≤ N)) (hc:cs.length=N * k) (hsrc:∀ j v,cs[j]?=some v→w.cell? ⟨gs,os + j,none⟩=some v)
  (hfit:off + cs.length ≤ cur.length) (h1:∀ v ∈ cs,v.oneCell'=true) :
  (Builtin.copy_ #[dT,sT] ty #[.slice (some ⟨g,off,none⟩) dLen dCap,.slice (some ⟨gs,os,none⟩) sLen sCap]).run P w=.ok (goInt N) (w.setRow g (splice cur off cs).toArray):=by
 have hl:=run_loadCells_list (P:=P) w ⟨gs,os,none⟩ cs (fun j v hj=>by rw [Addr.add_lit];exact hsrc j v hj);have hst:=run_storeCells_at P g off t cs 0 cur.toArray w hg (by simpa using hfit) h1;have hm:Nat.min sLen dLen=N:=by simp only [Nat.min_def];split <;> omega
 cases hq:P.info? elem with
 | none=>simp [hq] at hs
 | some i =>
  have hi:i.size=k:=by simpa [hq] using hs
  simp [Builtin.copy_,run_underlying hu,Builtin.lenOf,Builtin.firstCells,sizeOf,typeInfo,hq,hi,hm,← hc,hl,hst,splice]
theorem zfr {w:World} {ops:Array Oper} {rest:List Oper} {o:Oper} {a:Act} {Q:Exit→Act→World→Prop} (hgd:o.guard=none) (d s:Operand) (dT sT:TypeId)
  (ho:o.op=.call { callee:=.builtin .copy,args:=#[d,s],argTypes:=#[dT,sT] }) (e k bytes:Nat) (E:Elem P dT e k bytes) (g off dLen dCap gs os sLen sCap:Nat)
  (hd:a.eval d=.slice (some ⟨g,off,none⟩) dLen dCap) (hs:a.eval s=.slice (some ⟨gs,os,none⟩) sLen sCap)
  (N OFF OS:Nat) (hN:off=OFF∧os=OS∧N ≤ sLen∧N ≤ dLen∧(sLen ≤ N∨dLen ≤ N)) (cur:List Value) (t:TypeId) (hg:w.heap[g]?=some (.cells cur.toArray t (0,0))) (cs:List Value) (hc:cs.length=N * k)
  (hsrc:∀ j v,cs[j]?=some v→w.cell? ⟨gs,OS + j,none⟩=some v) (hfit:OFF + cs.length ≤ cur.length) (h1:∀ v ∈ cs,v.oneCell'=true) (B:Nat) (w0:World) (hb:Below B w0 w) (hBg:B ≤ g)
  (h:∀ w',Hid (w'.heap[g]?=some (.cells (splice cur OFF cs).toArray t (0,0)))→Below B w0 w'→(∀ j,j ≠ g→w'.heap[j]?=w.heap[j]?)→wpList P ops Q rest (a.put o.dst (goInt N)) w'):wpList P ops Q (o :: rest) a w:=by
 obtain ⟨rfl,rfl,hN⟩:=hN;obtain ⟨i,z,hi,_,hk,_⟩:=E.hi;refine wpList_plain hgd fun K hK=>?_;have hrun:=zkU (P:=P) w dT sT o.type e k g off dLen dCap gs os sLen sCap N cur t cs E.ht (by rw [hi];simp [hk]) hg hN hc hsrc hfit h1;unfold Oper.wp;simp [execOp,ho,resolve,invoke,builtin,hd,hs,hrun,Result.andThen];exact hK _ _ (h _ (show _=_ from setRow_heap w g _ _ t _ hg) (below_setRow hb hBg _) fun j hj=>setRow_other w g j _ hj)
theorem zgj {ops:Array Oper} {o:Oper} {a:Act} {w:World} {K:Act→World→Prop} {Q:Exit→Act→World→Prop} {X:Prop} (hgd:o.guard=none) (d s:Operand) (dT sT:TypeId)
  (ho:o.op=.call { callee:=.builtin .copy,args:=#[d,s],argTypes:=#[dT,sT] }) (e k bytes:Nat) (E:Elem P dT e k bytes) (g off dLen dCap gs os sLen sCap:Nat)
  (hd:a.eval d=.slice (some ⟨g,off,none⟩) dLen dCap) (hs:a.eval s=.slice (some ⟨gs,os,none⟩) sLen sCap)
  (N OFF OS:Nat) (hN:off=OFF∧os=OS∧N ≤ sLen∧N ≤ dLen∧(sLen ≤ N∨dLen ≤ N)) (cur:List Value) (t:TypeId) (hg:w.heap[g]?=some (.cells cur.toArray t (0,0))) (cs:List Value) (hc:cs.length=N * k)
  (hsrc:∀ j v,cs[j]?=some v→w.cell? ⟨gs,OS + j,none⟩=some v) (hfit:OFF + cs.length ≤ cur.length) (h1:∀ v ∈ cs,v.oneCell'=true) (B:Nat) (w0:World) (hb:Below B w0 w) (hBg:B ≤ g)
  (h:∀ w',Hid (w'.heap[g]?=some (.cells (splice cur OFF cs).toArray t (0,0)))→Below B w0 w'→(∀ j,j ≠ g→w'.heap[j]?=w.heap[j]?)→K (a.put o.dst (goInt N)) w') :
  if Region.wanted o (yielded ops a.tmps)=true then Oper.wp P o a w K Q else X:=by
 obtain ⟨rfl,rfl,hN⟩:=hN;obtain ⟨i,z,hi,_,hk,_⟩:=E.hi;rw [if_pos (show Region.wanted o (yielded ops a.tmps)=true by simp [Region.wanted,hgd])];have hrun:=zkU (P:=P) w dT sT o.type e k g off dLen dCap gs os sLen sCap N cur t cs E.ht (by rw [hi];simp [hk]) hg hN hc hsrc hfit h1;unfold Oper.wp;simp [execOp,ho,resolve,invoke,builtin,hd,hs,hrun,Result.andThen];exact h _ (show _=_ from setRow_heap w g _ _ t _ hg) (below_setRow hb hBg _) fun j hj=>setRow_other w g j _ hj
end
theorem znQ {cur X D O:List Value} (hX:cur.take X.length=X) (_hl:X.length + O.length + D.length ≤ cur.length):(splice (splice cur X.length O) (X.length + O.length) D).take (X.length + O.length + D.length)=X ++ (O ++ D):=by
 have e1:splice cur X.length O=(X ++ O) ++ cur.drop (X.length + O.length):=by unfold splice;rw [hX];simp
 have e2:((X ++ O) ++ cur.drop (X.length + O.length)).take (X.length + O.length)=X ++ O:=by
  rw [List.take_append_of_le_length (by simp)];exact List.take_of_length_le (by simp)
 rw [e1];unfold splice;rw [e2,← List.append_assoc (X ++ O) D,List.take_append_of_le_length (by simp;omega)];rw [List.take_of_length_le (by simp;omega),List.append_assoc]
theorem zkV {cur X D O:List Value} (hX:cur.take X.length=X) (hl:X.length + O.length + D.length ≤ cur.length):(splice (splice cur (X.length + O.length) D) X.length O).take (X.length + O.length + D.length)=X ++ (O ++ D):=by
 have e1:(splice cur (X.length + O.length) D).take X.length=X:=by
  unfold splice;rw [List.take_append_of_le_length (by rw [List.length_take];omega),List.take_take,Nat.min_eq_left (by omega),hX]
 have e2:(splice cur (X.length + O.length) D).drop (X.length + O.length)=D ++ cur.drop (X.length + O.length + D.length):=by
  unfold splice;rw [List.drop_append_of_le_length (by rw [List.length_take];omega)];rw [List.drop_of_length_le (by rw [List.length_take];omega),List.nil_append]
 rw [show splice (splice cur (X.length + O.length) D) X.length O=(splice cur (X.length + O.length) D).take X.length ++ (O ++ (splice cur (X.length + O.length) D).drop (X.length + O.length)) from rfl,e1,e2];rw [← List.append_assoc,← List.append_assoc,List.take_append_of_le_length (by simp;omega),List.take_of_length_le (by simp;omega),List.append_assoc]
end
section
open Go.RowKit
def zbN (L:List Od) (i:Nat) (o:Od):List Od:=L.take i ++ o :: L.drop i
def Only (w w':World) (b:Option Nat):Prop:=∀ k,k < w.heap.size→some k ≠ b→w'.heap[k]?=w.heap[k]?
theorem ziO (L:List Od) (i:Nat) (o:Od):zaa (zbN L i o)=zaa (L.take i) ++ (zaa [o] ++ zaa (L.drop i)):=by
 unfold zbN;rw [zek,show o :: L.drop i = [o] ++ L.drop i from rfl,zek]
theorem zsX:(Tryz.prog.info? 32).map (·.size)=some 5:=by kernel_rfl
theorem zlJ (w:World):(Go.sizeOf 32).run Tryz.prog w=.ok 5 w:=by
 have h:=zsX;cases hq:Tryz.prog.info? 32 with
 | none=>simp [hq] at h
 | some i =>
  have hi:i.size=5:=by simpa [hq] using h
  simp [sizeOf,typeInfo,hq,hi]
theorem zjA (w:World) (vb b off lb cb vc:Nat) (cs cs':Array Value) (t t':TypeId) (hne:vb ≠ b) (h1:Blk w vb t cs) (h2:Blk w b t' cs') (h0:cs'.size ≠ 0) :
  (callFunc 170 #[.slice (some ⟨vb,0,none⟩) 1 vc,.slice (some ⟨b,off,none⟩) lb cb]).run Tryz.prog w=.ok (.value (.bool false)) w:=by
 unfold Blk at h1 h2;rw [run_callFunc_extern Tryz.func170 (by kernel_rfl) (by kernel_rfl) (by kernel_rfl) (e:=Extern.SlicesOverlaps.overlaps #[81,81] #[4]) (by kernel_rfl),
  Lib.run_overlaps_apart w 81 4 32 Tryz.underlying81 5 zlJ ⟨vb,0,none⟩ ⟨b,off,none⟩ 1 vc lb cb hne t t' cs.size cs'.size (by simp [World.shape?,h1]) (by simp [World.shape?,h2]) h0 (by simp [World.frozen?,h1]) (by simp [World.frozen?,h1])]
 rfl
set_option maxHeartbeats 1000000 in
set_option maxRecDepth 100000 in
theorem zov (base:Nat) (v:Value) (n:Nat) (L:List Od) (o:Od) (A:Option Addr) (c B:Nat) (w:World) (hown:w.ownsRow base 32 5 v n (zaa L)) (hb:base ≤ w.heap.size) (h:Rd w B 5 A 1 c (zaa [o])) (hm:(n + 1) * 40 ≤ 140737488355328) :
  Calls Tryz.prog 162 #[v,.int .i64 n,.slice A 1 c] w fun e w'=>∃ v',e=.returned v'∧w'.ownsRow base 32 5 v' (n + 1) (zaa (zbN L n o))∧Below base w w'∧Only w w' v.ownBlock:=by
 have hL:L.length=n:=by have:=hown.1;rw [zao] at this;omega
 have HI:=zi (show zaa L ++ zaa [o]=zaa (zbN L n o) by
  rw [← zek];unfold zbN;rw [List.take_of_length_le (by omega),List.drop_of_length_le (by omega)])
 clear hL;obtain ⟨A0,c0,rfl⟩:=zad hown;have hr:=Rd.of_own hown;have hle:=hr.le;have hcap:=hr.cap;simp only [maxLen] at hcap;obtain ⟨A1,hcut,_⟩:=zok zcS hr n (zl _);have HO:=zi hown;have HR:=zi h;clear hown h hr;go_enter Tryz.func162,Tryz.ntmps162
 go_wp2_with (at_builtin;refine zbe rfl _ _ _ rfl base _ _ _ zcS _ _ _ rfl HO.out B A 1 c (zaa [o]) rfl HR.out (zbT _) (by simp only [maxLen];omega) (by omega) hb ?_;intro v' w' hown' hbel' hgr _)
 go_ret;exact ⟨_,rfl,HI.out ▸ hown',hbel',hgr.block⟩
theorem zkW {cur:List Value} {n i:Nat} {L:List Od} (o:Od) (hc:cur.take (n * 5)=zaa L) (hn:n * 5 ≤ cur.length) (hi:i ≤ n):cur.take (i * 5)=zaa (L.take i)∧(zaa (L.take i)).length=i * 5∧(zaa (L.drop i)).length=(n - i) * 5∧(zaa [o]).length=5 ∧
  (∀ j v,(zaa (L.drop i))[j]?=some v→cur[i * 5 + j]?=some v)∧L.length=n:=by
 have hL:L.length=n:=by
  have:=congrArg List.length hc;rw [zao,List.length_take] at this;omega
 refine ⟨?_,?_,?_,rfl,?_,hL⟩
 ·rw [← zew,← hc,List.take_take,Nat.min_eq_left (by omega)]
 ·rw [zao,List.length_take];omega
 ·rw [zao,List.length_drop];omega
 ·intro j v hj;rw [← zgs,← hc,List.getElem?_drop,List.getElem?_take] at hj;split at hj
  ·exact hj
  ·cases hj
set_option maxHeartbeats 600000 in
set_option maxRecDepth 100000 in
theorem zl8 (base g n c i:Nat) (L:List Od) (o:Od) (cur:List Value) (vb vc:Nat) (tv:TypeId) (w:World) (hg:Blk w g 32 cur.toArray) (hcl:cur.length=c * 5) (hcur:cur.take (n * 5)=zaa L) (hnc:n + 1 ≤ c) (hc:c ≤ maxLen)
  (hb:base ≤ g) (hv:Blk w vb tv #[.int .i64 o.id,.int .i64 o.acc,.int .i64 o.side,.int .i64 o.price,.int .i64 o.qty]) (hne:vb ≠ g) (hin:i < n) :
  Calls Tryz.prog 162 #[.slice (some ⟨g,0,none⟩) n c,.int .i64 i,.slice (some ⟨vb,0,none⟩) 1 vc] w fun e w'=>∃ v',e=.returned v'∧w'.ownsRow base 32 5 v' (n + 1) (zaa (zbN L i o))∧Below base w w'∧Only w w' (some g):=by
 obtain ⟨hX,hXl,hDl,hOl,hsrc,hL⟩:=zkW o hcur (show n * 5 ≤ cur.length by omega) (Nat.le_of_lt hin);have HF:=zi (show (splice (splice cur ((i + 1) * 5) (zaa (L.drop i))) (i * 5) (zaa [o])).take ((n + 1) * 5)=zaa (zbN L i o) by
  have:=zkV (cur:=cur) (X:=zaa (L.take i)) (D:=zaa (L.drop i)) (O:=zaa [o]) (by rw [hXl];exact hX) (by rw [hXl,hDl,hOl];omega);rw [hXl,hDl,hOl,show i * 5 + 5=(i + 1) * 5 by omega,show (i + 1) * 5 + (n - i) * 5=(n + 1) * 5 by omega] at this;rw [this,ziO])
 have hov:∀ W lb cb,Blk W vb tv #[.int .i64 o.id,.int .i64 o.acc,.int .i64 o.side,.int .i64 o.price,.int .i64 o.qty]→Blk W g 32 cur.toArray→(callFunc 170 #[.slice (some ⟨vb,0,none⟩) 1 vc,.slice (some ⟨g,(i + 1) * 5,none⟩) lb cb]).run Tryz.prog W=.ok (.value (.bool false)) W:=fun W lb cb h1 h2 =>
  zjA W vb g _ lb cb vc _ _ _ _ hne h1 h2 (by rw [List.size_toArray];omega)
 have hov':=fun lb cb=>hov w lb cb hv hg;have HLI:=zi (show (zbN L i o).length=n + 1 by unfold zbN;simp;omega);have HOl:=zi hOl;have hBd:Below base w w.drew:=(zar (Below.refl _ _)).mono (Nat.le_trans hb (Nat.le_of_lt (Blk.lt hg)));have HG:=zi hg;have HV:=zi hv;have HS:=zi hsrc;have HC:=zi hcl;have HD:=zi hDl;have HCM:=zi hc;simp only [maxLen] at hc;clear hg hv hX hXl hsrc hcur hov hcl hDl hOl hL;have hw1:IntKind.i64.wrap ((i:Int) + 1)=(i:Int) + 1:=IntWalk.i64_in _ (by omega);have hw2:IntKind.i64.wrap ((n:Int) + 1)=(n:Int) + 1:=IntWalk.i64_in _ (by omega);have hz2:¬ ((i:Int)=(n:Int)):=by omega
 have htn:((i:Int) + 1).toNat=i + 1:=by omega
 have hb2:¬ (c=i + 1):=by omega
 have hb4:¬ (c=i):=by omega
 have hb3:(i:Int) ≤ (n:Int) + 1:=by omega
 have hb1:(0:Int) ≤ (i:Int) + 1:=by omega
 have hin2:i ≤ n:=by omega
 have hin3:(i:Int) ≤ (n:Int):=by omega
 go_enter Tryz.func162,Tryz.ntmps162
 go_wp2_with (simp only [hov'])
 have hsrc1:∀ j v,(zaa (L.drop i))[j]?=some v→w.drew.cell? ⟨g,i * 5 + j,none⟩=some v:=fun j v hj=>by
  have:=HS.out j v hj;rw [Blk.cell (show Blk w.drew g 32 cur.toArray from HG.out)];simpa using this
 have hfit1:(i + 1) * 5 + (zaa (L.drop i)).length ≤ cur.length:=by rw [HD.out,HC.out];omega
 have hg1:Hid (w.drew.heap[g]?=some (.cells cur.toArray 32 (0,0))):=HG;have hN1:(i + 1) * 5=(i + 1) * 5∧i * 5=i * 5∧n - i ≤ n + 1 - i∧n - i ≤ n + 1 - (i + 1)∧(n + 1 - i ≤ n - i∨n + 1 - (i + 1) ≤ n - i):=by omega
 go_region_law (refine zgj rfl _ _ 81 81 rfl 32 5 40 zcS g ((i + 1) * 5) (n + 1 - (i + 1)) (c - (i + 1)) g (i * 5) (n + 1 - i) (c - i) (by simp [Act.eval,Act.put]) (by simp [Act.eval,Act.put]) (n - i) ((i + 1) * 5) (i * 5) hN1 cur 32 hg1.out (zaa (L.drop i)) HD.out hsrc1 hfit1 (zbT _) base w hBd hb ?_;intro w2 HG2 hB2 hO2)
 have HO2:=zi hO2;have hN2:i * 5=i * 5∧0=0∧1 ≤ 1∧1 ≤ n + 1 - i∧(1 ≤ 1∨n + 1 - i ≤ 1):=by omega
 have hsrc2:∀ j v,(zaa [o])[j]?=some v→w2.cell? ⟨vb,0 + j,none⟩=some v:=fun j v hj=>by
  rw [Blk.cell (show Blk w2 vb tv #[.int .i64 o.id,.int .i64 o.acc,.int .i64 o.side,.int .i64 o.price,.int .i64 o.qty] from (HO2.out vb hne).trans HV.out),Nat.zero_add];simpa [zaa] using hj
 have hfit2:i * 5 + (zaa [o]).length ≤ (splice cur ((i + 1) * 5) (zaa (L.drop i))).length:=by rw [length_splice _ _ _ hfit1,HC.out,HOl.out];omega
 have HFT:=zi hfit2;have HS2:=zi hsrc2;clear hN2 hsrc2 hfit2 hO2 hN1 hsrc1 hg1 hov';go_wp2_with (refine zfr rfl (.tmp 80) (.tmp 81) 81 81 rfl 32 5 40 zcS g (i * 5) (n + 1 - i) (c - i) vb 0 1 vc (by rfl) (by rfl) 1 (i * 5) 0 ⟨rfl,rfl,zl _,by omega,by omega⟩ (splice cur ((i + 1) * 5) (zaa (L.drop i))) 32 HG2.out (zaa [o]) rfl HS2.out HFT.out (zbT _) base w hB2 hb ?_;intro w3 HG3 hB3 hO3)
 have HO3:=zi hO3;clear hO3;go_ret;refine ⟨_,rfl,⟨?_,.inr ⟨g,c,_,rfl,hb,HG3.out,hnc,HCM.out,?_,?_⟩⟩,hB3,fun k _ hk=>(HO3.out k (fun e=>hk (by rw [e]))).trans (HO2.out k (fun e=>hk (by rw [e])))⟩
 ·rw [zao,HLI.out]
 ·rw [List.size_toArray,length_splice _ _ _ HFT.out,length_splice _ _ _ hfit1,HC.out]
 ·exact HF.out
end
section
open Go.RowKit
theorem zhe {P:Program} {t e tn k bytes:Nat} {kn:IntKind} (E:Elem P t e k bytes) (htn:P.underlying tn=some (.int kn)) (w:World) (g c i m B:Nat) (cur:List Value) (hg:Blk w g e cur.toArray) (hcl:cur.length=c * k) (hic:i ≤ c) (hm:c < i + m)
  (h48:(i + m) * bytes ≤ 140737488355328) (hml:i + m ≤ maxLen) (hB:B ≤ w.heap.size) :
  ∃ (c':Nat) (ROW:List Value) (W:World),(∀ ty,(Builtin.append_ #[t,tn] ty #[.slice (some ⟨g,0,none⟩) i c,.int .i64 m]).run P w=.ok (.slice (some ⟨w.heap.size,0,none⟩) (i + m) c') W)∧i + m ≤ c'∧c' ≤ maxLen∧ROW.length=c' * k∧ROW.take (i * k)=cur.take (i * k) ∧
   Blk W w.heap.size e ROW.toArray∧Below B w W∧(∀ j,j < w.heap.size→W.heap[j]?=w.heap[j]?):=by
 obtain ⟨ii,z,hi,hz,hk,hb,hzk⟩:=E.hi;have hik:i * k ≤ cur.length:=by rw [hcl];exact Nat.mul_le_mul_right _ hic
 have hlen:(cur.take (i * k)).length=i * k:=by rw [List.length_take];omega
 have hold:(Builtin.firstCells ii.size i (.slice (some ⟨g,0,none⟩) i c)).run P w.drew=.ok (cur.take (i * k)).toArray w.drew:=by
  rw [hk];refine run_firstCells_some w.drew k i ⟨g,0,none⟩ i c _ hlen fun j v hj=>?_;rw [Addr.add_lit,Blk.cell (show Blk w.drew g e cur.toArray from hg)];rw [List.getElem?_take] at hj;split at hj
  ·simpa using hj
  ·cases hj
 have hm48:m * bytes ≤ (i + m) * bytes:=Nat.mul_le_mul_right _ (by omega);have hr:=fun ty=>Lib.run_append_grow_zeros (P:=P) w t tn ty e ii z .i64 kn E.ht htn hi hz (some ⟨g,0,none⟩) i c _ hold m (by omega) (by rw [hk];exact E.pos) (by omega) (by simp only [maxLen] at hml;omega) (by rw [hb];omega) (by rw [hb];exact growslice_fits hm h48);have hge:=grownCap_ge w (i + m) c e;refine ⟨_,(cur.take (i * k)) ++ ((Builtin.zeroCells z.cells m).toList ++ (Builtin.zeroCells z.cells (grownCap w (i + m) c e - (i + m))).toList),_,hr,hge,grownCap_le_maxLen _ _ _ _ hml,?_,?_,?_,?_,?_⟩
 ·simp only [List.length_append,hlen,Array.length_toList,size_zeroCells,hzk,← Nat.add_mul];rw [show i + (m + (grownCap w (i + m) c e - (i + m)))=grownCap w (i + m) c e by omega]
 ·rw [List.take_append_of_le_length (by omega)];exact List.take_of_length_le (by omega)
 ·unfold Blk;rw [show w.heap.size=w.drew.heap.size from rfl,heap_alloc_new];congr 2
  apply Array.toList_inj.1
  simp
 ·exact ((zar (Below.refl _ _)).alloc (zl _) _).mono hB
 ·intro j hj;exact heap_alloc_old w.drew _ (r:=j) hj
set_option maxHeartbeats 1000000 in
set_option maxRecDepth 100000 in
theorem zow (base g n c i:Nat) (L:List Od) (o:Od) (cur:List Value) (vb vc:Nat) (tv:TypeId) (w:World) (hg:Blk w g 32 cur.toArray) (hcl:cur.length=c * 5) (hcur:cur.take (n * 5)=zaa L) (hnc0:n ≤ c) (hnc:c < n + 1) (hc:c ≤ maxLen)
  (hb:base ≤ w.heap.size) (hv:Blk w vb tv #[.int .i64 o.id,.int .i64 o.acc,.int .i64 o.side,.int .i64 o.price,.int .i64 o.qty]) (_hne:vb ≠ g) (hin:i < n) (hm:(n + 1) * 40 ≤ 140737488355328) :
  Calls Tryz.prog 162 #[.slice (some ⟨g,0,none⟩) n c,.int .i64 i,.slice (some ⟨vb,0,none⟩) 1 vc] w fun e w'=>∃ v',e=.returned v'∧w'.ownsRow base 32 5 v' (n + 1) (zaa (zbN L i o))∧Below base w w'∧Only w w' (some g):=by
 obtain ⟨hX,hXl,hDl,hOl,hsrc,hL⟩:=zkW o hcur (show n * 5 ≤ cur.length by omega) (Nat.le_of_lt hin);obtain ⟨c',ROW,W1,hrz,hc1,hc2,hRl,hRX,hW1,hB1,hO1⟩:=zhe (P:=Tryz.prog) zcS Tryz.underlying3 w g c i (n + 1 - i) base cur hg hcl (by omega) (by omega) (by omega) (by simp only [maxLen];omega) hb;have hin1:i + (n + 1 - i)=n + 1:=by omega
 rw [hin1] at hrz hc1;rw [show ((n + 1 - i:Nat):Int)=(n:Int) + 1 - (i:Int) by omega] at hrz;clear hin1;have HF:=zi (show (splice (splice ROW (i * 5) (zaa [o])) ((i + 1) * 5) (zaa (L.drop i))).take ((n + 1) * 5)=zaa (zbN L i o) by
  have:=znQ (cur:=ROW) (X:=zaa (L.take i)) (D:=zaa (L.drop i)) (O:=zaa [o]) (by rw [hXl,hRX];exact hX) (by rw [hXl,hDl,hOl];omega);rw [hXl,hDl,hOl,show i * 5 + 5=(i + 1) * 5 by omega,show (i + 1) * 5 + (n - i) * 5=(n + 1) * 5 by omega] at this;rw [this,ziO])
 have HLI:=zi (show (zbN L i o).length=n + 1 by unfold zbN;simp;omega);have HS:=zi hsrc;have HD:=zi hDl;have HOl:=zi hOl;have HR:=zi hRl;have HC2:=zi hc2;have HBW:=zi hb;obtain ⟨G,hG⟩:∃ G,G=w.heap.size:=⟨_,rfl⟩;have HGG:=zi hG;have hgG:g < G:=by rw [hG];exact Blk.lt hg
 have hvG:vb < G:=by rw [hG];exact Blk.lt hv
 rw [← hG] at hW1 hO1 hrz hb;have HV1:=zi (show Blk W1 vb tv #[.int .i64 o.id,.int .i64 o.acc,.int .i64 o.side,.int .i64 o.price,.int .i64 o.qty] from (hO1 vb hvG).trans hv);have HG1:=zi (show Blk W1 g 32 cur.toArray from (hO1 g hgG).trans hg);have HW1:=zi hW1;have HO1:=zi hO1;have HRZ:=zi hrz;simp only [maxLen] at hc hc2;clear hg hv hX hXl hsrc hcur hcl hDl hOl hL hRl hRX hW1 hO1 hG hrz;have hw1:IntKind.i64.wrap ((i:Int) + 1)=(i:Int) + 1:=IntWalk.i64_in _ (by omega);have hw2:IntKind.i64.wrap ((n:Int) + 1)=(n:Int) + 1:=IntWalk.i64_in _ (by omega);have hw3:IntKind.i64.wrap ((n:Int) + 1 - (i:Int))=(n:Int) + 1 - (i:Int):=IntWalk.i64_in _ (by omega);have hz2:¬ ((i:Int)=(n:Int)):=by omega
 have htn:((i:Int) + 1).toNat=i + 1:=by omega
 have hb2:¬ (c'=i + 1):=by omega
 have hb4:¬ (c=i):=by omega
 have hb5:¬ (c'=i):=by omega
 have hb3:(i:Int) ≤ (n:Int) + 1:=by omega
 have hb1:(0:Int) ≤ (i:Int) + 1:=by omega
 have hin2:i ≤ n:=by omega
 have hin3:(i:Int) ≤ (n:Int):=by omega
 go_enter Tryz.func162,Tryz.ntmps162
 have hf1:i * 5 + (zaa [o]).length ≤ ROW.length:=by rw [HOl.out,HR.out];omega
 have HF1:=zi hf1;have HS1:=zi (show ∀ j v,(zaa [o])[j]?=some v→W1.cell? ⟨vb,0 + j,none⟩=some v from fun j v hj=>by
  rw [Blk.cell HV1.out,Nat.zero_add];simpa [zaa] using hj)
 clear hf1;go_wp2_with (first | (at_builtin;refine Lib.wpList_append_run _ rfl _ _ _ _ rfl _ _ rfl rfl _ _ (HRZ.out _) ?_) | (refine zfr rfl (.tmp 43) (.tmp 44) 81 81 rfl 32 5 40 zcS G (i * 5) (n + 1 - i) (c' - i) vb 0 1 vc (by rfl) (by rfl) 1 (i * 5) 0 ⟨rfl,rfl,zl _,by omega,by omega⟩ ROW 32 HW1.out (zaa [o]) rfl HS1.out HF1.out (zbT _) base w hB1 hb ?_;intro w2 HG2 hB2 hO2))
 have HG2':Hid (w2.drew.heap[G]?=some (.cells (splice ROW (i * 5) (zaa [o])).toArray 32 (0,0))):=HG2;have hg2:Blk w2.drew g 32 cur.toArray:=(hO2 g (by omega)).trans HG1.out;have hs2:∀ j v,(zaa (L.drop i))[j]?=some v→w2.drew.cell? ⟨g,i * 5 + j,none⟩=some v:=fun j v hj=>by
  have:=HS.out j v hj;rw [Blk.cell hg2];simpa using this
 have HS2:=zi hs2;have hf2:(i + 1) * 5 + (zaa (L.drop i)).length ≤ (splice ROW (i * 5) (zaa [o])).length:=by rw [length_splice _ _ _ HF1.out,HD.out,HR.out];omega
 have HF2:=zi hf2;have hBd:Below base w w2.drew:=hB2.trans ((zar (Below.refl _ _)).mono (Nat.le_trans HBW.out hB2.size));have HO2:=zi hO2;clear hg2 hs2 hf2 hO2;go_region_law (refine zgj rfl _ _ 81 81 rfl 32 5 40 zcS G ((i + 1) * 5) (n + 1 - (i + 1)) (c' - (i + 1)) g (i * 5) (n - i) (c - i) (by simp [Act.eval,Act.put]) (by simp [Act.eval,Act.put]) (n - i) ((i + 1) * 5) (i * 5) ⟨rfl,rfl,by omega,by omega,by omega⟩ (splice ROW (i * 5) (zaa [o])) 32 HG2'.out (zaa (L.drop i)) HD.out HS2.out HF2.out (zbT _) base w hBd hb ?_;intro w3 HG3 hB3 hO3)
 have HO3:=zi hO3;clear hO3;go_wp2_with fail
 go_ret;refine ⟨_,rfl,⟨?_,.inr ⟨G,c',_,rfl,hb,HG3.out,hc1,HC2.out,?_,?_⟩⟩,hB3,fun k hk _=>?_⟩
 ·rw [zao,HLI.out]
 ·rw [List.size_toArray,length_splice _ _ _ HF2.out,length_splice _ _ _ HF1.out,HR.out]
 ·exact HF.out
 ·have hkG:k < G:=by rw [HGG.out];exact hk
  exact ((HO3.out k (by omega)).trans (HO2.out k (by omega))).trans (HO1.out k hkG)
theorem zd4 (base:Nat) (v:Value) (n i:Nat) (L:List Od) (o:Od) (vb vc:Nat) (tv:TypeId) (w:World) (hown:w.ownsRow base 32 5 v n (zaa L)) (hb:base ≤ w.heap.size) (hv:Blk w vb tv #[.int .i64 o.id,.int .i64 o.acc,.int .i64 o.side,.int .i64 o.price,.int .i64 o.qty]) (hvc:1 ≤ vc) (hvc':vc ≤ maxLen) (hne:v.ownBlock ≠ some vb) (hi:i ≤ n) (hm:(n + 1) * 40 ≤ 140737488355328) :
  Calls Tryz.prog 162 #[v,.int .i64 i,.slice (some ⟨vb,0,none⟩) 1 vc] w fun e w'=>∃ v',e=.returned v'∧w'.ownsRow base 32 5 v' (n + 1) (zaa (zbN L i o))∧Below base w w'∧Only w w' v.ownBlock:=by
 by_cases hin:i=n
 ·subst hin;refine zov base v i L o (some ⟨vb,0,none⟩) vc w.heap.size w hown hb ⟨rfl,hvc,hvc',nofun,fun _=>⟨vb,0,rfl,Blk.lt hv,fun j u hj=>?_⟩⟩ hm;rw [Blk.cell hv,Nat.zero_add];simpa [zaa] using hj
 ·obtain ⟨hl,⟨rfl,h0⟩ | ⟨g,c,cur,rfl,hbg,hg,hnc,hcm,hcs,hct⟩⟩:=hown
  ·omega
  ·have hne':vb ≠ g:=fun e=>hne (by rw [e];rfl);have hgb:Blk w g 32 cur.toList.toArray:=by rw [Array.toArray_toList];exact hg
   by_cases hr:n + 1 ≤ c
   ·exact zl8 base g n c i L o cur.toList vb vc tv w hgb (by rw [Array.length_toList];exact hcs) hct hr hcm hbg hv hne' (by omega)
   ·exact zow base g n c i L o cur.toList vb vc tv w hgb (by rw [Array.length_toList];exact hcs) hct hnc (by omega) hcm hb hv hne' (by omega) hm
end
section
open Go.RowKit
structure BkR (w:World) (B:Nat) (A A':Option Addr) (c c':Nat) (b:Bk):Prop where
 l:Rd w B 5 A b.bids.length c (zaa b.bids)
 r:Rd w B 5 A' b.asks.length c' (zaa b.asks)
theorem BkR.below {w w':World} {B:Nat} {A A':Option Addr} {c c':Nat} {b:Bk} (h:BkR w B A A' c c' b) (hb:Below B w w'):BkR w' B A A' c c' b:=⟨h.l.below hb,h.r.below hb⟩
def zf0 (a b:Bk):Bool:=zdj a.bids b.bids && zdj a.asks b.asks
set_option maxHeartbeats 1000000 in
theorem zhf (b:Bk) (A A':Option Addr) (c c' B:Nat) (w:World) (h:BkR w B A A' c c' b) (hB:B ≤ w.heap.size) (hl:b.bids.length ≤ 3500000000000) (hl':b.asks.length ≤ 3500000000000) :
  Calls Tryz.prog 54 #[.agg #[.slice A b.bids.length c,.slice A' b.asks.length c']] w fun e w' =>
   ∃ v v',e=.returned (.agg #[v,v'])∧w'.ownsRow w.heap.size 32 5 v b.bids.length (zaa b.bids)∧w'.ownsRow w.heap.size 32 5 v' b.asks.length (zaa b.asks)∧(∀ k,v.ownBlock=some k→v'.ownBlock ≠ some k)∧Below w.heap.size w w':=by
 go_enter Tryz.func54,Tryz.ntmps54
 go_wp2_with fail
 obtain ⟨w2,hw2⟩:∃ x,x=(w.alloc (.cells #[.slice A b.bids.length c,.slice A' b.asks.length c'] 83)).alloc (.cells #[.slice none 0 0,.slice none 0 0] 83):=⟨_,rfl⟩;have hb2:Below w.heap.size w w2:=by rw [hw2];exact ((Below.refl _ _).alloc (zl _) _).alloc (by simp) _
 have hs2:w2.heap.size=w.heap.size + 1 + 1:=by rw [hw2];simp
 have B1:Blk w2 w.heap.size 83 #[.slice A b.bids.length c,.slice A' b.asks.length c']:=by rw [hw2];exact (Blk.new w _ _).alloc _
 have B2:Blk w2 (w.heap.size + 1) 83 #[.slice none 0 0,.slice none 0 0]:=by
  have:=Blk.new (w.alloc (.cells #[.slice A b.bids.length c,.slice A' b.asks.length c'] 83)) 83 #[.slice none 0 0,.slice none 0 0];rw [World.size_alloc] at this;rw [hw2];exact this
 rw [← hw2];have HB2:=zi hb2;have hr:=h.below (hb2.mono hB);have hBw:B ≤ w2.heap.size:=by omega
 have KS:Hid (∀ W,Below w2.heap.size w2 W→Below w.heap.size w W∧(W.cell? ⟨w.heap.size,0,none⟩=some (.slice A b.bids.length c)∧W.cell? ⟨w.heap.size,1,none⟩=some (.slice A' b.asks.length c'))):=by
  intro W hW;exact ⟨hb2.trans (hW.mono (by omega)),(B1.below hW (by omega)).c2.1⟩
 have KB:Hid (∀ W,Below w2.heap.size w2 W→((W.cell? ⟨w.heap.size + 1,0,none⟩=some (.slice none 0 0)∧W.cell? ⟨w.heap.size + 1,1,none⟩=some (.slice none 0 0))∧W.frozen? ⟨w.heap.size + 1,0,none⟩=false∧W.frozen? ⟨w.heap.size + 1,1,none⟩=false)):=by
  intro W hW;exact (B2.below hW (by omega)).c2
 have KT:Hid (∀ W v v',Below w2.heap.size w2 W →
   Below w.heap.size w ((W.setCell ⟨w.heap.size + 1,0,none⟩ v).setCell ⟨w.heap.size + 1,1,none⟩ v')∧(((W.setCell ⟨w.heap.size + 1,0,none⟩ v).setCell ⟨w.heap.size + 1,1,none⟩ v').cell? ⟨w.heap.size,0,none⟩=some (.slice A b.bids.length c)∧((W.setCell ⟨w.heap.size + 1,0,none⟩ v).setCell ⟨w.heap.size + 1,1,none⟩ v').cell? ⟨w.heap.size,1,none⟩=some (.slice A' b.asks.length c'))):=by
  intro W v v' hW';obtain ⟨hW,h1,h2⟩:=KS.out W hW';refine ⟨Below.setCell (Below.setCell hW (by simp) _) (by simp) _,?_,?_⟩
  ·simp [go_sem,h1]
  ·simp [go_sem,h2]
 have h22:Below w2.heap.size w2 w2:=Below.refl _ _;clear hw2 hb2 B1 B2;go_region_held3 (fun W=>Below w.heap.size w W∧(W.cell? ⟨w.heap.size,0,none⟩=some (.slice A b.bids.length c)∧W.cell? ⟨w.heap.size,1,none⟩=some (.slice A' b.asks.length c')))
  (first | (exact KS.out _ (by assumption)) | (exact KS.out _ (zar (by assumption))) | (exact KT.out _ _ _ (by assumption)))
  ((first
   | (go_at_call 70;go_split_ands;(with_reducible refine (zkP A b.bids.length c _ B _ (h.l.below (Below.mono (by assumption) hB)) (zbT _) (Nat.le_trans hB (Below.size (w:=w) (by assumption))) (by omega)).mono ?_);rintro e W' ⟨v,rfl,hown,hb⟩;obtain ⟨Ax,cx,rfl⟩:=zad hown;have hB2:=zbV (w0:=w2) hb (by first | assumption | exact zar (by assumption));have hB3:=KB.out _ hB2)
   | (go_at_call 70;go_split_ands;(with_reducible refine (zkP A' b.asks.length c' _ B _ (h.r.below (Below.mono (by assumption) hB)) (zbT _) (Nat.le_trans hB (Below.size (w:=w) (by assumption))) (by omega)).mono ?_);rintro e W' ⟨v,rfl,hown,hb⟩;obtain ⟨Ax,cx,rfl⟩:=zad hown;have hB2:=zbV (w0:=w2) hb (by first | assumption | exact zar (by assumption));have hB3:=KB.out _ hB2)))
 rename_i WA hbA AA cA hownA hBA _ _ _ _ _ _ _ _;have R2:W'.ownsRow w2.heap.size 32 5 (.slice Ax b.asks.length cx) b.asks.length (zaa b.asks):=zae hown hBA.size;have R1:W'.ownsRow w2.heap.size 32 5 (.slice AA b.bids.length cA) b.bids.length (zaa b.bids):=zae (zaf hownA hb (zl _)) (zl _);have D:∀ k,(Value.slice AA b.bids.length cA).ownBlock=some k→(Value.slice Ax b.asks.length cx).ownBlock ≠ some k:=fun k h1 h2=>by
  have:=(World.ownsRow.lt hownA k h1).2;have:=(World.ownsRow.lt hown k h2).1;omega
 have HR1:=zi R1;have HR2:=zi R2;have HD:=zi D;have HBW:=zi hB2;clear R1 R2 D hown hownA hb hbA hBA hB2;go_wp2_with fail
 refine bodyPost_ret (v:=.agg #[.slice AA b.bids.length cA,.slice Ax b.asks.length cx]) (by simp [results,Tryz.results54,go_sem, *]) rfl ?_;refine ⟨_,_,rfl,?_,?_,HD.out,(KT.out _ _ _ HBW.out).1⟩
 ·exact zae (base:=w2.heap.size) (ownsRow_setCell_below (ownsRow_setCell_below HR1.out (by simp;omega) _) (by simp;omega) _) (by omega)
 ·exact zae (base:=w2.heap.size) (ownsRow_setCell_below (ownsRow_setCell_below HR2.out (by simp;omega) _) (by simp;omega) _) (by omega)
end
section
open Go.RowKit
set_option maxHeartbeats 1000000 in
theorem zsY (a b:Bk) (A A' C C':Option Addr) (c c' k k' B:Nat) (w:World) (h:BkR w B A A' c c' a) (h':BkR w B C C' k k' b) (hB:B ≤ w.heap.size) :
  Calls Tryz.prog 34 #[.agg #[.slice A a.bids.length c,.slice A' a.asks.length c'],.agg #[.slice C b.bids.length k,.slice C' b.asks.length k']] w fun e w'=>e=.returned (.bool (zf0 a b))∧Below w.heap.size w w':=by
 have HE:=zi (show zf0 a b=(zdj a.bids b.bids && zdj a.asks b.asks) from rfl);go_enter Tryz.func34,Tryz.ntmps34
 go_wp2_with fail
 obtain ⟨w2,hw2⟩:∃ x,x=(w.alloc (.cells #[.slice A a.bids.length c,.slice A' a.asks.length c'] 83)).alloc (.cells #[.slice C b.bids.length k,.slice C' b.asks.length k'] 83):=⟨_,rfl⟩;have hb2:Below w.heap.size w w2:=by rw [hw2];exact ((Below.refl _ _).alloc (zl _) _).alloc (by simp) _
 have hs2:w2.heap.size=w.heap.size + 1 + 1:=by rw [hw2];simp
 have B1:Blk w2 w.heap.size 83 #[.slice A a.bids.length c,.slice A' a.asks.length c']:=by rw [hw2];exact (Blk.new w _ _).alloc _
 have B2:Blk w2 (w.heap.size + 1) 83 #[.slice C b.bids.length k,.slice C' b.asks.length k']:=by
  have:=Blk.new (w.alloc (.cells #[.slice A a.bids.length c,.slice A' a.asks.length c'] 83)) 83 #[.slice C b.bids.length k,.slice C' b.asks.length k'];rw [World.size_alloc] at this;rw [hw2];exact this
 rw [← hw2];have hr:=h.below (hb2.mono hB);have hr':=h'.below (hb2.mono hB);clear hw2;refine (zkQ A C a.bids.length c b.bids.length k a.bids b.bids B w2 hr.l hr'.l (by omega)).mono ?_;rintro e w3 ⟨rfl,hb3⟩;obtain ⟨⟨k0,k1⟩,_⟩:=(B1.below hb3 (by omega)).c2;obtain ⟨⟨l0,l1⟩,_⟩:=(B2.below hb3 (by omega)).c2;have hs3:=hb3.size;rcases zcr (zdj a.bids b.bids) with hp | hp
 ·have HE':=zi (show zf0 a b=false by rw [HE.out,hp];rfl);rw [hp];clear hp;go_wp2_with fail
  go_ret;exact ⟨zbl HE'.out.symm,hb2.trans (hb3.mono (by omega))⟩
 ·have HE':=zi (show zf0 a b=zdj a.asks b.asks by rw [HE.out,hp];rfl);rw [hp];clear hp;go_wp2_with fail
  refine (zkQ A' C' a.asks.length c' b.asks.length k' a.asks b.asks B w3 (hr.r.below (hb3.mono (by omega))) (hr'.r.below (hb3.mono (by omega))) (by omega)).mono ?_;rintro e w4 ⟨rfl,hb4⟩;go_wp2_with fail
  go_ret;exact ⟨zbl HE'.out.symm,(hb2.trans (hb3.mono (by omega))).trans (hb4.mono (by omega))⟩
theorem zru (b:Bk) (id:Int):(b.bids ++ b.asks).any (zbj id)=hasB b id:=by
 unfold hasB;congr 1
set_option maxHeartbeats 1000000 in
theorem zpN (b:Bk) (id:Int) (A A':Option Addr) (c c' B:Nat) (w:World) (h:BkR w B A A' c c' b) (hB:B ≤ w.heap.size) (hl:(b.bids.length + b.asks.length) * 40 ≤ 140737488355328) :
  Calls Tryz.prog 128 #[.agg #[.slice A b.bids.length c,.slice A' b.asks.length c'],.int .i64 id] w fun e w'=>e=.returned (.bool (hasB b id))∧Below w.heap.size w w':=by
 have HE:=zi (zru b id);go_enter Tryz.func128,Tryz.ntmps128
 go_wp2_with fail
 obtain ⟨w1,hw1⟩:∃ x,x=(w.alloc (.cells #[.slice A b.bids.length c,.slice A' b.asks.length c'] 83)).alloc (.cells #[.int .i64 id] 3):=⟨_,rfl⟩;have hb1:Below w.heap.size w w1:=by rw [hw1];exact ((Below.refl _ _).alloc (zl _) _).alloc (by simp) _
 have hs1:w1.heap.size=w.heap.size + 1 + 1:=by rw [hw1];simp
 have B2:Blk w1 (w.heap.size + 1) 3 #[.int .i64 id]:=by
  have:=Blk.new (w.alloc (.cells #[.slice A b.bids.length c,.slice A' b.asks.length c'] 83)) 3 #[.int .i64 id];rw [World.size_alloc] at this;rw [hw1];exact this
 rw [← hw1];obtain ⟨w2,hw2⟩:∃ x,x=w1.alloc (.cells #[.slice A b.bids.length c,.slice A' b.asks.length c'] 81):=⟨_,rfl⟩;have hb2:Below w.heap.size w w2:=by rw [hw2];exact hb1.alloc (by omega) _
 have hs2:w2.heap.size=w.heap.size + 1 + 1 + 1:=by rw [hw2];simp [hs1]
 have B3:Blk w2 (w.heap.size + 1 + 1) 81 #[.slice A b.bids.length c,.slice A' b.asks.length c']:=by
  have:=Blk.new w1 81 #[.slice A b.bids.length c,.slice A' b.asks.length c'];rw [hs1] at this;rw [hw2];exact this
 have B2':Blk w2 (w.heap.size + 1) 3 #[.int .i64 id]:=by rw [hw2];exact B2.alloc _
 rw [← hw2];have hr:=h.below (hb2.mono hB);clear hw1 hw2 B2 hb1;refine (zhB A A' b.bids.length c b.asks.length c' b.bids b.asks B w2 hr.l hr.r (by omega) (w.heap.size + 1 + 1) (by omega) B3.c2.1.1 B3.c2.1.2 hl).mono ?_;rintro e w3 ⟨v,rfl,hown,hb3⟩;obtain ⟨A1,c1,rfl⟩:=zad hown;have hr3:=Rd.of_own hown;have hs3:=hb3.size;have Bi:=B2'.below hb3 (by omega);have HB:=zi (hb2.trans (hb3.mono (by omega)));clear hown hb3 hb2 B3 B2';go_wp2_with fail
 refine (zl6 A1 (b.bids.length + b.asks.length) c1 (b.bids ++ b.asks) id (w.heap.size + 1) w3.heap.size w3 hr3 (zl _) (by omega) (Bi.cell 0)).mono ?_;rintro e w4 ⟨rfl,hb4⟩;go_wp2_with fail
 go_ret;exact ⟨zbl (by rw [← List.any_append];exact HE.out),HB.out.trans (hb4.mono (by omega))⟩
set_option maxHeartbeats 400000 in
theorem ztH (g:Nat) (w:World) (x y:Value) (_h0:w.cell? ⟨g,0,none⟩=some x) (_h1:w.cell? ⟨g,1,none⟩=some y) :
  Calls Tryz.prog 135 #[.pointer (some ⟨g,0,none⟩),.int .i64 1] w fun e w'=>e=.returned (.tuple #[.pointer (some ⟨g,0,none⟩),.pointer (some ⟨g,1,none⟩)])∧w'=w.drew:=by
 go_enter Tryz.func135,Tryz.ntmps135
 go_wp2_with fail
 go_region
 go_wp2_with fail
 go_ret2
 exact ⟨rfl,rfl⟩
set_option maxHeartbeats 400000 in
theorem zko (g:Nat) (s:Int) (w:World) (x y:Value) (_h0:w.cell? ⟨g,0,none⟩=some x) (_h1:w.cell? ⟨g,1,none⟩=some y) (hs:(s == 1)=false) :
  Calls Tryz.prog 135 #[.pointer (some ⟨g,0,none⟩),.int .i64 s] w fun e w'=>e=.returned (.tuple #[.pointer (some ⟨g,1,none⟩),.pointer (some ⟨g,0,none⟩)])∧w'=w.drew:=by
 go_enter Tryz.func135,Tryz.ntmps135
 go_wp2_with fail
 go_region
 go_wp2_with fail
 go_ret2
 exact ⟨rfl,rfl⟩
end
end Go.Proofs.YtockodmbhnlheaaGreatDoor
