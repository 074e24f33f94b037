/-
  Contracts of the program's functions, and plain facts, that the laws VenueKeeps, VenueOthers, VenueCancels, VenueCash, VenueReady rest on (joined texts): DStripW, DStripF, Tell, DMove, Fee, DFills, VenueOps, VenueOps2.
-/
import Derived.Test.YtockodmbhnlheaaM05
import Derived.Test.YtockodmbhnlheaaM06
import Derived.Test.YtockodmbhnlheaaM07
import Derived.Deep.RegionLaw
import Derived.Test.YtockodmbhnlheaaM01
import Derived.Test.YtockodmbhnlheaaProg
import Derived.Maps.AppendAt
import Derived.Laws.AppendOwnNone
import Derived.OwnWalk
import Derived.Test.YtockodmbhnlheaaM03
import Derived.Deep.RegionHeld3
import Derived.Test.YtockodmbhnlheaaM02
import Derived.Lib.AppendZeros
import Derived.Test.YtockodmbhnlheaaM04
import Derived.WalkKit
import Derived.WalkSpells
import Derived.WalkLawsBesides
import Derived.Lib.Hide
import Derived.Laws.CopyOwn
import Derived.Lib.AppendZerosOnto
import Derived.Lib.Overlaps
import Derived.Laws.Externs
import Derived.Maps.Own
import Derived.Maps.OwnOps
import Derived.Maps.Views
import Derived.Deep.QuietTactic
import Derived.BigQuiet
import Derived.Deep.Draws
import Derived.IntWalk
import Derived.Deep.DeepCutAuto
import Derived.RegionTactic
import Derived.ChangeAlike
namespace Go.Proofs.Ytockodmbhnlheaa
section
open Go.RowKit
structure Teller (w:World) (base D:Nat) (DA:Option Addr) (dc:Nat) (DM:Option Addr) (dk:Nat) (v:Vn) (E:List Ev) (vE:Value):Prop where
 blk:Blk w D 174 #[.slice DA v.accs.length dc,.slice DM v.mks.length dk,.int .i64 v.ins,.int .i64 v.resid,.int .i64 v.next,.int .i64 v.inn,.int .i64 v.out,vE]
 low:base ≤ D
 evs:w.ownsRow base 124 13 vE E.length (evCells E)
section
variable {w w':World} {base D dc dk:Nat} {DA DM:Option Addr} {v:Vn} {E:List Ev} {vE:Value}
theorem Teller.below (h:Teller w base D DA dc DM dk v E vE) (hb:Below w.heap.size w w'):Teller w' base D DA dc DM dk v E vE:=⟨h.blk.below hb h.blk.lt,h.low,own_below h.evs hb (Nat.le_refl _)⟩
theorem Teller.fr {S:List TypeId} {G:List Nat} (h:Teller w base D DA dc DM dk v E vE) (hf:Fr S G w w') (h1:174 ∉ S) (h2:124 ∉ S) (hG:∀ g ∈ G,∃ cs,Blk w g 71 cs):Teller w' base D DA dc DM dk v E vE:=by
 refine ⟨h.blk.fr hf h1 fun hm=>?_,h.low,hf.own h.evs h2 fun g hg hm=>?_⟩
 ·obtain ⟨cs,hb⟩:=hG D hm
  exact blk_ne h.blk hb (by decide) rfl
 ·obtain ⟨cs,hb⟩:=hG g hm
  exact own_blk_ne h.evs hb (by decide) hg
end
def RetTel (w:World) (base D:Nat) (DA:Option Addr) (dc:Nat) (DM:Option Addr) (dk:Nat) (v:Vn) (E:List Ev) (e:Ending) (w':World):Prop :=
 e=.returned (.tuple #[])∧(∃ vE,Teller w' base D DA dc DM dk v E vE)∧Below base w w'∧Kept [174,124] w w'
set_option maxHeartbeats 2000000 in
theorem tell_raw (base D:Nat) (DA:Option Addr) (dc:Nat) (DM:Option Addr) (dk:Nat) (v:Vn) (E0:List Ev) (vE:Value) (x:Ev) (w:World) (h:Teller w base D DA dc DM dk v E0 vE) (hb:base ≤ w.heap.size) (hl:E0.length ≤ 1000000) :
  Calls Try.prog 188 #[.pointer (some ⟨D,0,none⟩),.agg #[.int .i64 x.kind,.int .i64 x.err,.int .i64 x.market,.int .i64 x.id,.int .i64 x.acc,.int .i64 x.n,.int .i64 x.f.maker,.int .i64 x.f.taker,.int .i64 x.f.macc,.int .i64 x.f.tacc,.int .i64 x.f.side,.int .i64 x.f.price,.int .i64 x.f.qty]] w (RetTel w base D DA dc DM dk v (E0 ++ [x])):=by
 have HD:=Lib.hid h
 have hDl:=h.blk.lt
 obtain ⟨E,e,rfl⟩:=own_shape h.evs
 clear h
 go_enter Try.func188,Try.ntmps188
 go_wp2_with fail
 obtain ⟨W,hW⟩:∃ x',x'=w.alloc (.cells #[.int .i64 x.kind,.int .i64 x.err,.int .i64 x.market,.int .i64 x.id,.int .i64 x.acc,.int .i64 x.n,.int .i64 x.f.maker,.int .i64 x.f.taker,.int .i64 x.f.macc,.int .i64 x.f.tacc,.int .i64 x.f.side,.int .i64 x.f.price,.int .i64 x.f.qty] 124):=⟨_,rfl⟩
 have hbW:Below w.heap.size w W:=by rw [hW];exact (Below.refl _ _).alloc (Nat.le_refl _) _
 have hsW:W.heap.size=w.heap.size + 1:=by rw [hW];simp
 have X1:Blk W w.heap.size 124 #[.int .i64 x.kind,.int .i64 x.err,.int .i64 x.market,.int .i64 x.id,.int .i64 x.acc,.int .i64 x.n,.int .i64 x.f.maker,.int .i64 x.f.taker,.int .i64 x.f.macc,.int .i64 x.f.tacc,.int .i64 x.f.side,.int .i64 x.f.price,.int .i64 x.f.qty]:=by rw [hW];exact Blk.new w _ _
 rw [← hW]
 have HW:=Lib.hid (HD.out.below hbW)
 clear hW
 obtain ⟨⟨-,-,-,-,-,-,-,k7⟩,-,-,-,-,-,-,-,f7⟩:=HW.out.blk.c8
 have e0:=X1.cell 0
 have e1:=X1.cell 1
 have e2:=X1.cell 2
 have e3:=X1.cell 3
 have e4:=X1.cell 4
 have e5:=X1.cell 5
 have e6:=X1.cell 6
 have e7:=X1.cell 7
 have e8:=X1.cell 8
 have e9:=X1.cell 9
 have e10:=X1.cell 10
 have e11:=X1.cell 11
 have e12:=X1.cell 12
 have HNE:=Lib.hid (own_blk_ne HW.out.evs HW.out.blk (by decide))
 have KW:Hid (∀ ob W4,((W.alloc ob).drew).grownBy W4 (Value.slice E E0.length e).ownBlock→Blk W4 D 174 #[.slice DA v.accs.length dc,.slice DM v.mks.length dk,.int .i64 v.ins,.int .i64 v.resid,.int .i64 v.next,.int .i64 v.inn,.int .i64 v.out,.slice E E0.length e]):=fun ob W4 hg=>(show Blk ((W.alloc ob).drew) D _ _ from HW.out.blk.alloc ob).grown hg HNE.out
 go_wp2_with fail
 go_region_law (refine step_app rfl _ _ 114 rfl base 124 13 104 elem_ev (.slice E E0.length e) E0.length (evCells E0) (by simp [Act.eval]) (own_drewN (World.ownsRow.alloc HW.out.evs _) 1) (W.heap.size + 1) (some ⟨W.heap.size,0,none⟩) 1 1 (evCells [x]) (by simp [Act.eval]) (rd_new _ _ _ 13 rfl rfl _ rfl).drew1 (evCells_one _) (by simp only [maxLen];omega) (by omega) (by simp;omega) ?_;intro vE' W4 hown4 hbel4 hgrow hat;obtain ⟨E',e',rfl⟩:=own_shape hown4;have g7:=(KW.out _ _ hgrow).cell 7;have gf7:=(KW.out _ _ hgrow).frozen 7;simp only [List.getElem?_toArray,List.getElem?_cons_succ,List.getElem?_cons_zero] at g7)
 all_goals
  have hD4:=KW.out _ _ hgrow
  have hK4:Kept [174,124] W W4:=(((Kept.refl _ W).alloc _).drew).grown (own_drewN (World.ownsRow.alloc HW.out.evs _) 1) hgrow (by decide)
  have hK5:=hK4.set hD4 (by decide) 7 (.slice E' (E0.length + 1) e')
  have hK6:Kept [174] W4 (W4.setCell ⟨D,7,none⟩ (.slice E' (E0.length + 1) e')):=(Kept.refl _ W4).set hD4 (by decide) 7 _
  have hB4:Below base w W4:=(hbW.mono hb).trans ((below_drewN ((Below.refl _ W).alloc (by omega) _) 1).trans hbel4)
  have hev5:=hK6.own hown4 (by decide)
  rw [← evCells_app] at hev5
  go_end0
  refine ⟨rfl,⟨.slice E' (E0.length + 1) e',hD4.set_ 7 _,HW.out.low,?_⟩,hB4.setCell HW.out.low _,(Kept.of_below _ hbW).trans hK5⟩
  rw [List.length_append];exact hev5
structure Caps (w:World) (D gi gd gk:Nat) (id:Int) (i:Nat):Prop where
 who:Blk w gi 3 #[.int .i64 id]
 desk:Blk w gd 171 #[.pointer (some ⟨D,0,none⟩)]
 mkt:Blk w gk 3 #[.int .i64 i]
section
variable {w w':World} {D gi gd gk i:Nat} {id:Int}
theorem Caps.below (h:Caps w D gi gd gk id i) (hb:Below w.heap.size w w'):Caps w' D gi gd gk id i:=⟨h.who.below hb h.who.lt,h.desk.below hb h.desk.lt,h.mkt.below hb h.mkt.lt⟩
theorem Caps.fr {S:List TypeId} {G:List Nat} (h:Caps w D gi gd gk id i) (hf:Fr S G w w') (h1:3 ∉ S) (h2:171 ∉ S) (hG:∀ g ∈ G,∃ cs,Blk w g 71 cs):Caps w' D gi gd gk id i:=by
 refine ⟨h.who.fr hf h1 fun hm=>?_,h.desk.fr hf h2 fun hm=>?_,h.mkt.fr hf h1 fun hm=>?_⟩
 ·obtain ⟨cs,hb⟩:=hG _ hm;exact blk_ne h.who hb (by decide) rfl
 ·obtain ⟨cs,hb⟩:=hG _ hm;exact blk_ne h.desk hb (by decide) rfl
 ·obtain ⟨cs,hb⟩:=hG _ hm;exact blk_ne h.mkt hb (by decide) rfl
end
def hasAcc (id:Int) (x:Od):Bool:=decide (x.acc=id)
theorem gone_yes {i:Nat} {id:Int} {o:Od} (h:o.acc=id):goneEvs i id [o] = [⟨4,0,i,o.id,id,o.qty,zeroFl⟩]:=by unfold goneEvs;rw [List.filter_cons_of_pos (by simpa using h)];rfl
theorem gone_no {i:Nat} {id:Int} {o:Od} (h:¬ o.acc=id):goneEvs i id [o] = []:=by unfold goneEvs;rw [List.filter_cons_of_neg (by simpa using h)];rfl
theorem gone_app {i:Nat} {id:Int} {l m:List Od}:goneEvs i id (l ++ m)=goneEvs i id l ++ goneEvs i id m:=by unfold goneEvs;rw [List.filter_append,List.map_append]
theorem gone_next {i:Nat} {id:Int} {L:List Od} {j:Nat} {x:Od} (h:L[j]?=some x):goneEvs i id (L.take (j + 1))=goneEvs i id (L.take j) ++ goneEvs i id [x]:=by
 rw [List.take_add_one,h,← gone_app];rfl
theorem gone_all {i:Nat} {id:Int} {l:List Od} (h:l.all (fun y=>!hasAcc id y)=true):goneEvs i id l = []:=by
 unfold goneEvs
 rw [List.filter_eq_nil_iff.2,List.map_nil]
 intro x hx
 rw [List.all_eq_true] at h
 have:=h x hx
 simpa [hasAcc] using this
theorem gone_len {i:Nat} {id:Int} {l:List Od}:(goneEvs i id l).length ≤ l.length:=by unfold goneEvs;rw [List.length_map];exact List.length_filter_le _ _
set_option maxHeartbeats 1000000 in
theorem strip1_any (base D:Nat) (DA:Option Addr) (dc:Nat) (DM:Option Addr) (dk:Nat) (v:Vn) (E:List Ev) (vE:Value) (o:Od) (id:Int) (i gi gd gk:Nat) (w:World) (ht:Teller w base D DA dc DM dk v E vE) (hc:Caps w D gi gd gk id i) (hb:base ≤ w.heap.size) (hl:E.length ≤ 1000000) :
  Calls Try.prog 220 #[.agg #[.int .i64 o.id,.int .i64 o.acc,.int .i64 o.side,.int .i64 o.price,.int .i64 o.qty],.pointer (some ⟨gi,0,none⟩),.pointer (some ⟨gd,0,none⟩),.pointer (some ⟨gk,0,none⟩)] w fun e w' =>
   e=.returned (.bool (hasAcc id o))∧(∃ vE',Teller w' base D DA dc DM dk v (E ++ goneEvs i id [o]) vE')∧Below base w w'∧Fr [174,124] [] w w':=by
 have HT:=Lib.hid ht
 have HC:=Lib.hid hc
 have c1:=hc.who.cell 0
 have c2:=hc.desk.cell 0
 have c3:=hc.mkt.cell 0
 have y1:=hc.who.lt
 have y2:=hc.desk.lt
 have y3:=hc.mkt.lt
 simp only [List.getElem?_toArray,List.getElem?_cons_zero] at c1 c2 c3
 clear ht hc
 by_cases h:o.acc=id
 ·have h':(o.acc == id)=true:=by simpa using h
  have HE:=Lib.hid (gone_yes (i:=i) h)
  have HV:=Lib.hid (show hasAcc id o=true by simpa [hasAcc] using h)
  clear h
  go_enter Try.func220,Try.ntmps220
  go_wp2_with fail
  refine calls_name ?_
  intro W1 hW1
  have hB1:Below w.heap.size w W1:=by rw [hW1];exact (Below.refl _ _).alloc (Nat.le_refl _) _
  have X1:Blk W1 w.heap.size 71 #[.int .i64 o.id,.int .i64 o.acc,.int .i64 o.side,.int .i64 o.price,.int .i64 o.qty]:=by rw [hW1];exact Blk.new w _ _
  have hs1:=hB1.size
  have HC1:=Lib.hid (HC.out.below hB1)
  clear hW1 c1 c2 c3
  refine (tell_raw base D DA dc DM dk v E vE ⟨4,0,i,o.id,id,o.qty,zeroFl⟩ W1 (HT.out.below hB1) (by omega) hl).mono ?_
  rintro e W2 ⟨rfl,⟨vE2,ht2⟩,hL2,hK2⟩
  have X2:=X1.kept hK2 (by decide)
  have c1:=((HC1.out.who.kept hK2 (by decide))).cell 0
  have y4:=((HC1.out.who.kept hK2 (by decide))).lt
  have y5:=X2.lt
  have HT2:=Lib.hid ht2
  have HL2:=Lib.hid ((hB1.mono hb).trans hL2)
  have HF2:=Lib.hid ((Fr.of_below [174,124] [] hB1).trans (hK2.fr []))
  clear ht2 hL2 hK2 X1
  obtain ⟨⟨kX20,kX21,kX22,kX23,kX24⟩,-⟩:=X2.c5
  go_wp2_with fail
  go_ret
  exact ⟨ret_bb HV.out.symm,⟨vE2,by rw [HE.out];exact HT2.out⟩,HL2.out,HF2.out⟩
 ·have h':(o.acc == id)=false:=by simpa using h
  have HE:=Lib.hid (gone_no (i:=i) h)
  have HV:=Lib.hid (show hasAcc id o=false by simpa [hasAcc] using h)
  clear h
  go_enter Try.func220,Try.ntmps220
  go_wp2_with fail
  go_ret
  have hB1:Below w.heap.size w (w.alloc (.cells #[.int .i64 o.id,.int .i64 o.acc,.int .i64 o.side,.int .i64 o.price,.int .i64 o.qty] 71)):=(Below.refl _ _).alloc (Nat.le_refl _) _
  exact ⟨ret_bb HV.out.symm,⟨vE,by rw [HE.out,List.append_nil];exact HT.out.below hB1⟩,hB1.mono hb,Fr.of_below _ _ hB1⟩
end
section
open Go.RowKit
theorem one_blk {w:World} {g:Nat} {t:TypeId} {cs:Array Value} (h:Blk w g t cs):∀ x ∈ [g],∃ cs,Blk w x t cs:=by
 intro x hx
 rw [List.mem_singleton] at hx
 subst hx
 exact ⟨cs,h⟩
structure IxR (w wr:World) (base D:Nat) (DA:Option Addr) (dc:Nat) (DM:Option Addr) (dk:Nat) (v:Vn) (E:List Ev) (vE:Value) (gi gd gk:Nat) (id:Int) (i:Nat) (AO:Option Addr) (n cO:Nat) (L:List Od) (j:Nat):Prop where
 tel:Teller wr base D DA dc DM dk v E vE
 cap:Caps wr D gi gd gk id i
 own:wr.ownsRow base 71 5 (.slice AO n cO) n (odCells L)
 bel:Below base w wr
 fr:Fr [174,124] [] w wr
 all:(L.take j).all (fun y=>!hasAcc id y)=true
set_option maxHeartbeats 1000000 in
theorem idx_strip (base D:Nat) (DA:Option Addr) (dc:Nat) (DM:Option Addr) (dk:Nat) (v:Vn) (E:List Ev) (vE:Value) (AO:Option Addr) (n cO:Nat) (L:List Od) (id:Int) (i gi gd gk:Nat) (w:World) (hT:Teller w base D DA dc DM dk v E vE) (hC:Caps w D gi gd gk id i)
  (ho:w.ownsRow base 71 5 (.slice AO n cO) n (odCells L)) (hb:base ≤ w.heap.size) (hl:E.length ≤ 1000000) :
  Calls Try.prog 138 #[.slice AO n cO,.func (.func 220) #[] #[.pointer (some ⟨gi,0,none⟩),.pointer (some ⟨gd,0,none⟩),.pointer (some ⟨gk,0,none⟩)]] w fun e w'=>e=.returned (.int .i64 (idxOf (hasAcc id) L)) ∧
   (∃ vE',Teller w' base D DA dc DM dk v (E ++ goneEvs i id (L.take (idxOf (hasAcc id) L + 1).toNat)) vE')∧Below base w w'∧Fr [174,124] [] w w':=by
 have h:=Rd.of_own ho
 have hle:=h.le
 have hcap:=h.cap
 have HL:=Lib.hid (rdo_len h)
 have HR0:=Lib.hid (show IxR w w base D DA dc DM dk v E vE gi gd gk id i AO n cO L 0 from ⟨hT,hC,ho,Below.refl _ _,Fr.refl _ _ _,rfl⟩)
 unfold maxLen at hcap
 clear h hT hC ho
 go_enter Try.func138,Try.ntmps138
 go_wp2_with fail
 go_loopw [8] (fun q wr=>∃ (j:Nat) (vE1:Value),j ≤ n∧q=.int .i64 j∧Hid (IxR w wr base D DA dc DM dk v E vE1 gi gd gk id i AO n cO L j)) (fun q _=>n - (intOf q).toNat)
 case atStart=>exact ⟨0,vE,Nat.zero_le _,rfl,HR0⟩
 case round =>
  obtain ⟨j,vE1,hj,rfl,HR⟩:=hrel
  have hws:=HR.out.fr.size
  by_cases hlt:j < n
  ·obtain ⟨b,o',x,rfl,hbb,hx,k0,k1,k2,k3,k4⟩:=od_at (Rd.of_own HR.out.own) hlt
   have HX:=Lib.hid hx
   clear hx
   go_wp2_with fail
   refine (strip1_any base D DA dc DM dk v E vE1 x id i gi gd gk wr HR.out.tel HR.out.cap (by omega) hl).mono ?_
   rintro e w1 ⟨rfl,⟨vE2,ht2⟩,hL2,hF2⟩
   have HT2:=Lib.hid ht2
   have HL2:=Lib.hid (HR.out.bel.trans hL2)
   have HF2:=Lib.hid (HR.out.fr.trans hF2)
   have HC2:=Lib.hid (HR.out.cap.fr hF2 (by decide) (by decide) (by simp))
   have HO2:=Lib.hid (hF2.own HR.out.own (by decide) (by simp))
   clear ht2 hL2 hF2
   rcases bool_cs (hasAcc id x) with hp | hp
   ·have HG:=Lib.hid (gone_no (i:=i) (id:=id) (o:=x) (by simpa [hasAcc] using hp))
    have HN:=Lib.hid (show IxR w w1 base D DA dc DM dk v E vE2 gi gd gk id i (some ⟨b,o',none⟩) n cO L (j + 1) from ⟨by have:=HT2.out;rw [HG.out,List.append_nil] at this;exact this,HC2.out,HO2.out,HL2.out,HF2.out,all_next (p:=hasAcc id) HX.out hp HR.out.all⟩)
    rw [hp]
    go_wp2_with fail
    go_roundw
    case rel=>exact ⟨j + 1,vE2,by omega,by go_num,HN⟩
    case measure=>simp [intOf];omega
   ·have HE:=Lib.hid (idxOf_found (p:=hasAcc id) HX.out hp HR.out.all)
    have HG:=Lib.hid (show goneEvs i id (L.take (idxOf (hasAcc id) L + 1).toNat)=goneEvs i id [x] by
     rw [HE.out,show ((j:Int) + 1).toNat=j + 1 by omega,gone_next HX.out,gone_all HR.out.all,List.nil_append])
    rw [hp]
    go_wp2_with fail
    go_ret
    exact ⟨ret_ii HE.out.symm,⟨vE2,by rw [HG.out];exact HT2.out⟩,HL2.out,HF2.out⟩
  ·have hjn:j=n:=by omega
   have HE:=Lib.hid (idxOf_none (p:=hasAcc id) (L:=L) (by have:=HR.out.all;rw [hjn,List.take_of_length_le (by rw [HL.out];exact Nat.le_refl _)] at this;exact this))
   have HG:=Lib.hid (show goneEvs i id (L.take (idxOf (hasAcc id) L + 1).toNat) = [] by rw [HE.out];rfl)
   clear hjn
   go_wp2_with fail
   go_ret
   exact ⟨ret_ii HE.out.symm,⟨vE1,by rw [HG.out,List.append_nil];exact HR.out.tel⟩,HR.out.bel,HR.out.fr⟩
structure StrRow (w wr:World) (base D:Nat) (DA:Option Addr) (dc:Nat) (DM:Option Addr) (dk:Nat) (v:Vn) (E:List Ev) (id:Int) (i g n:Nat) (L:List Od) (sp:List Value) (a b t:Nat) (R:List Od) (vE:Value):Prop where
 tel:Teller wr base D DA dc DM dk v (E ++ goneEvs i id (L.take t)) vE
 bel:Below base w wr
 fr:Fr [174,124] [g] w wr
 blk:Blk wr g 71 (odCells R ++ sp).toArray
 len:R.length=n
 lo:R.take a=(L.take b).filter (fun y=>!hasAcc id y)
 hi:R.drop b=L.drop b
section
variable {w wr W1 w2:World} {base D dc dk i g n a b t:Nat} {DA DM:Option Addr} {v:Vn} {E:List Ev} {id:Int} {L R:List Od} {sp:List Value} {vE vE':Value} {x:Od}
theorem StrRow.next (h:StrRow w wr base D DA dc DM dk v E id i g n L sp a b b R vE) (hx:L[b]?=some x) (hb1:Below wr.heap.size wr W1) (hbase:base ≤ wr.heap.size) (hb:Below base W1 w2) (hf:Fr [174,124] [] W1 w2)
  (ht:Teller w2 base D DA dc DM dk v (E ++ goneEvs i id (L.take b) ++ goneEvs i id [x]) vE'):StrRow w w2 base D DA dc DM dk v E id i g n L sp a b (b + 1) R vE':=by
 refine ⟨?_,(h.bel.trans (hb1.mono hbase)).trans hb,(h.fr.below hb1).trans (hf.mono (fun _ h=>h) (by simp)),(h.blk.below hb1 h.blk.lt).fr hf (by decide) (by simp),h.len,h.lo,h.hi⟩
 rw [gone_next hx,← List.append_assoc];exact ht
theorem StrRow.skip (h:StrRow w wr base D DA dc DM dk v E id i g n L sp a b t R vE) (hx:L[b]?=some x) (hp:hasAcc id x=true):StrRow w wr base D DA dc DM dk v E id i g n L sp a (b + 1) t R vE :=
 ⟨h.tel,h.bel,h.fr,h.blk,h.len,by rw [filter_drop hx hp];exact h.lo,drop_succ h.hi⟩
theorem StrRow.keep (h:StrRow w wr base D DA dc DM dk v E id i g n L sp a b t R vE) (hx:L[b]?=some x) (hp:hasAcc id x=false) (hab:a < b) (hbn:b < n) (hbg:base ≤ g) :
  StrRow w (((((wr.setCell ⟨g,a * 5,none⟩ (.int .i64 x.id)).setCell ⟨g,a * 5 + 1,none⟩ (.int .i64 x.acc)).setCell ⟨g,a * 5 + 2,none⟩ (.int .i64 x.side)).setCell ⟨g,a * 5 + 3,none⟩ (.int .i64 x.price)).setCell ⟨g,a * 5 + 4,none⟩ (.int .i64 x.qty)) base D DA dc DM dk v E id i g n L sp (a + 1) (b + 1) t (R.set a x) vE:=by
 have hl:=h.len
 have hF:Fr [] [g] wr (((((wr.setCell ⟨g,a * 5,none⟩ (.int .i64 x.id)).setCell ⟨g,a * 5 + 1,none⟩ (.int .i64 x.acc)).setCell ⟨g,a * 5 + 2,none⟩ (.int .i64 x.side)).setCell ⟨g,a * 5 + 3,none⟩ (.int .i64 x.price)).setCell ⟨g,a * 5 + 4,none⟩ (.int .i64 x.qty)) :=
  (((((Fr.refl _ _ _).set h.blk (.inr (by simp)) _ _).set (h.blk.set_ _ _) (.inr (by simp)) _ _).set ((h.blk.set_ _ _).set_ _ _) (.inr (by simp)) _ _).set (((h.blk.set_ _ _).set_ _ _).set_ _ _) (.inr (by simp)) _ _).set ((((h.blk.set_ _ _).set_ _ _).set_ _ _).set_ _ _) (.inr (by simp)) _ _
 refine ⟨h.tel.fr hF (by simp) (by simp) (one_blk h.blk),?_,h.fr.trans (hF.mono (by simp) (fun _ h=>h)),?_,by rw [List.length_set];exact hl,?_,?_⟩
 ·exact Below.setCell (Below.setCell (Below.setCell (Below.setCell (Below.setCell h.bel hbg _) hbg _) hbg _) hbg _) hbg _
 ·have:=((((h.blk.set_ (a * 5) (.int .i64 x.id)).set_ (a * 5 + 1) (.int .i64 x.acc)).set_ (a * 5 + 2) (.int .i64 x.side)).set_ (a * 5 + 3) (.int .i64 x.price)).set_ (a * 5 + 4) (.int .i64 x.qty)
  rw [row_set x sp (by omega)] at this
  exact this
 ·rw [filter_keep hx hp,← h.lo,List.take_add_one]
  congr 1
  ·rw [List.take_set_of_le (Nat.le_refl _)]
  ·rw [List.getElem?_set_self (by omega)];rfl
 ·rw [List.drop_set_of_lt (by omega)];exact drop_succ h.hi
end
def RetStrip (w:World) (base D:Nat) (DA:Option Addr) (dc:Nat) (DM:Option Addr) (dk:Nat) (v:Vn) (E:List Ev) (id:Int) (i:Nat) (AO:Option Addr) (L:List Od) (e:Ending) (w':World):Prop :=
 ∃ c',e=.returned (.slice AO (notOf id L).length c')∧w'.ownsRow base 71 5 (.slice AO (notOf id L).length c') (notOf id L).length (odCells (notOf id L))∧(∃ vE',Teller w' base D DA dc DM dk v (E ++ goneEvs i id L) vE')∧Below base w w'∧Fr [174,124] (ab AO) w w'
set_option maxHeartbeats 4000000 in
set_option maxRecDepth 100000 in
theorem delfunc_strip (base D:Nat) (DA:Option Addr) (dc:Nat) (DM:Option Addr) (dk:Nat) (v:Vn) (E:List Ev) (vE:Value) (g n c:Nat) (L:List Od) (sp:List Value) (id:Int) (i gi gd gk:Nat) (w:World) (hT:Teller w base D DA dc DM dk v E vE) (hC:Caps w D gi gd gk id i)
  (hg:Blk w g 71 (odCells L ++ sp).toArray) (hL:L.length=n) (hsp:sp.length=(c - n) * 5) (hnc:n ≤ c) (hc:c ≤ maxLen) (hbg:base ≤ g) (hb:base ≤ w.heap.size) (hl:E.length + L.length ≤ 1000000) :
  Calls Try.prog 142 #[.slice (some ⟨g,0,none⟩) n c,.func (.func 220) #[] #[.pointer (some ⟨gi,0,none⟩),.pointer (some ⟨gd,0,none⟩),.pointer (some ⟨gk,0,none⟩)]] w (RetStrip w base D DA dc DM dk v E id i (some ⟨g,0,none⟩) L):=by
 have hgw:=hg.lt
 have hown:w.ownsRow base 71 5 (.slice (some ⟨g,0,none⟩) n c) n (odCells L):=by
  refine ⟨by rw [odCells_len,hL],.inr ⟨g,c,(odCells L ++ sp).toArray,rfl,hbg,hg,hnc,hc,?_,?_⟩⟩
  ·rw [List.size_toArray,List.length_append,odCells_len,hL,hsp];omega
  ·rw [List.toList_toArray,← hL,← odCells_len,List.take_left'];rfl
 have HO:=Lib.hid hown
 have HG:=Lib.hid hg
 have HL:=Lib.hid hL
 have HSP:=Lib.hid hsp
 have HC:=Lib.hid hC
 have HT:=Lib.hid hT
 unfold maxLen at hc
 clear hg hL hsp hown hT hC
 go_enter Try.func142,Try.ntmps142
 go_wp2_with fail
 refine (idx_strip base D DA dc DM dk v E vE (some ⟨g,0,none⟩) n c L id i gi gd gk w HT.out HC.out HO.out hb (by omega)).mono ?_
 rintro e w1 ⟨rfl,⟨vE1,ht1⟩,hL1,hF1⟩
 have HF1:=Lib.hid hF1
 have HL1:=Lib.hid hL1
 have hs1:=hF1.size
 have HG1:=Lib.hid (HG.out.fr hF1 (by decide) (by simp))
 have HO1:=Lib.hid (hF1.own HO.out (by decide) (by simp))
 have HC1:=Lib.hid (HC.out.fr hF1 (by decide) (by decide) (by simp))
 rcases idxOf_lt (p:=hasAcc id) (L:=L) with ⟨h1,h2⟩ | ⟨⟨k,h1,hk⟩,h2⟩
 ·have HF:=Lib.hid (show notOf id L=L from any_filter (p:=hasAcc id) h2)
  have HGE:=Lib.hid (show goneEvs i id L = [] from gone_all (by rw [List.any_eq_false] at h2;rw [List.all_eq_true];intro x hx;simpa using h2 x hx))
  rw [h1] at ht1
  have HT1:=Lib.hid (show Teller w1 base D DA dc DM dk v E vE1 by have:=ht1;rw [show goneEvs i id (L.take ((-1:Int) + 1).toNat) = [] from rfl,List.append_nil] at this;exact this)
  rw [h1]
  clear h1 h2 ht1 hL1 hF1
  go_wp2_with fail
  go_ret
  exact ⟨c,by rw [HF.out,HL.out];rfl,by rw [HF.out,HL.out];exact HO1.out,⟨vE1,by rw [HGE.out,List.append_nil];exact HT1.out⟩,HL1.out,HF1.out.mono (fun _ h=>h) (by simp)⟩
 ·obtain ⟨x0,hx0,hpx0,hlo⟩:=idxOf_spec h1
  have HX0:=Lib.hid hx0
  have HLO:=Lib.hid hlo
  have HPX:=Lib.hid hpx0
  have hk':k < n:=by rw [← HL.out];exact hk
  rw [h1,show ((k:Int) + 1).toNat=k + 1 by omega] at ht1
  have HS0:=Lib.hid (show StrRow w w1 base D DA dc DM dk v E id i g n L sp k (k + 1) (k + 1) L vE1 from
   StrRow.skip (x:=x0) ⟨ht1,hL1,hF1.mono (fun _ h=>h) (by simp),HG1.out,HL.out,hlo.symm,rfl⟩ hx0 hpx0)
  rw [h1]
  clear h1 h2 hx0 hlo hpx0 hk ht1 hL1 hF1
  have hz1:¬ ((k:Int) = -1):=by omega
  have hz2:((k:Int) == -1)=false:=by simp
  go_wp2_with fail
  go_loopw [5,6] (fun p q wr=>∃ (a b:Nat) (R:List Od) (vE2:Value),p=.int .i64 a∧q=.int .i64 b∧a < b∧b ≤ n∧Hid (StrRow w wr base D DA dc DM dk v E id i g n L sp a b b R vE2)) (fun _ q _=>n - (intOf q).toNat)
  case atStart=>exact ⟨k,k + 1,L,vE1,rfl,by go_num,by omega,by omega,HS0⟩
  case round =>
   obtain ⟨a,b,R,vE2,rfl,rfl,hab,hbn,HD⟩:=hrel
   have hws:=HD.out.fr.size
   have hgr:=HD.out.blk.lt
   by_cases hlt:b < n
   ·obtain ⟨x,hx⟩:∃ x,L[b]?=some x:=⟨_,List.getElem?_eq_getElem (by rw [HL.out];exact hlt)⟩
    have hxm:R[b]?=some x:=(drop_at HD.out.hi).trans hx
    obtain ⟨⟨k0,k1,k2,k3,k4⟩,_⟩:=row_at HD.out.blk hxm
    have HX:=Lib.hid hx
    have HCr:=Lib.hid (HC.out.fr HD.out.fr (by decide) (by decide) (one_blk HG.out))
    clear hx hxm
    go_wp2_with fail
    refine calls_name ?_
    intro W1 hW1
    have hB1:Below wr.heap.size wr W1:=by rw [hW1];exact (Below.refl _ _).alloc (Nat.le_refl _) _
    have X1:Blk W1 wr.heap.size 71 #[.int .i64 x.id,.int .i64 x.acc,.int .i64 x.side,.int .i64 x.price,.int .i64 x.qty]:=by rw [hW1];exact Blk.new wr _ _
    have hs2:=hB1.size
    have hlen:(E ++ goneEvs i id (L.take b)).length ≤ 1000000:=by
     have h1:=gone_len (i:=i) (id:=id) (l:=L.take b)
     rw [List.length_take] at h1
     rw [List.length_append];omega
    have HB1:=Lib.hid hB1
    clear hW1 hB1 k0 k1 k2 k3 k4
    refine (strip1_any base D DA dc DM dk v _ vE2 x id i gi gd gk W1 (HD.out.tel.below HB1.out) (HCr.out.below HB1.out) (by omega) hlen).mono ?_
    rintro e w2 ⟨rfl,⟨vE3,ht3⟩,hL3,hF3⟩
    have HD2:=Lib.hid (HD.out.next HX.out HB1.out (by omega) hL3 hF3 ht3)
    have X2:=X1.fr hF3 (by decide) (by simp)
    have y1:=X2.lt
    have y2:=HD2.out.blk.lt
    clear ht3 hL3 hF3 HD X1
    obtain ⟨⟨l0,l1,l2,l3,l4⟩,_⟩:=X2.c5
    rcases bool_cs (hasAcc id x) with hpx | hpx
    ·have HN:=Lib.hid (HD2.out.keep HX.out hpx hab hlt hbg)
     rw [hpx]
     clear hpx
     have hml:R.length=n:=HD2.out.len
     obtain ⟨y,hy⟩:∃ y,R[a]?=some y:=⟨_,List.getElem?_eq_getElem (by omega)⟩
     obtain ⟨⟨m0,m1,m2,m3,m4⟩,f0,f1,f2,f3,f4⟩:=row_at HD2.out.blk hy
     clear hy hml
     go_wp2_with fail
     go_roundw
     case rel=>exact ⟨a + 1,b + 1,_,_,by go_num,by go_num,by omega,by omega,HN⟩
     case measure=>simp [intOf];omega
    ·have HN:=Lib.hid (HD2.out.skip HX.out hpx)
     rw [hpx]
     clear hpx
     go_wp2_with fail
     go_roundw
     case rel=>exact ⟨a,b + 1,_,_,rfl,by go_num,by omega,by omega,HN⟩
     case measure=>simp [intOf];omega
   ·have hbe:b=n:=by omega
    have HF:=Lib.hid (show (notOf id L).length=a∧R.take a=notOf id L by
     have h1:=HD.out.lo
     rw [hbe,show L.take n=L from List.take_of_length_le (by rw [HL.out];exact Nat.le_refl _)] at h1
     refine ⟨?_,h1⟩
     have h2:=congrArg List.length h1
     rw [List.length_take,HD.out.len] at h2
     have h3:(L.filter (fun y=>!hasAcc id y)).length=(notOf id L).length:=rfl
     omega)
    have HBK:=Lib.hid HD.out.blk
    have HCL:=Lib.hid (show (odCells R ++ sp).length=c * 5 by rw [List.length_append,odCells_len,HD.out.len,HSP.out];omega)
    have HB:=Lib.hid HD.out.bel
    have HFr:=Lib.hid HD.out.fr
    have HTE:=Lib.hid (show Teller wr base D DA dc DM dk v (E ++ goneEvs i id L) vE2 by
     have:=HD.out.tel
     rw [hbe,show L.take n=L from List.take_of_length_le (by rw [HL.out];exact Nat.le_refl _)] at this;exact this)
    have HTK:=Lib.hid (show ∀ Z:List Value,Z.length=(n - a) * 5→(splice (odCells R ++ sp) (a * 5) Z).take (a * 5)=odCells (R.take a) by
     intro Z _
     unfold splice
     rw [List.take_append_of_le_length (by rw [List.length_take,HCL.out];omega),List.take_take,Nat.min_self,List.take_append_of_le_length (by rw [odCells_len,HD.out.len];omega),odCells_take])
    have HFT:=Lib.hid (show a * 5 + (n - a) * 5 ≤ (odCells R ++ sp).length by rw [HCL.out];omega)
    subst hbe
    clear HD
    have d1:¬ (c=a):=by omega
    have d2:a ≤ b:=by omega
    have d3:(a:Int) ≤ (b:Int):=by omega
    have d4:a ≤ c:=by omega
    have d5:(a:Int) ≤ (c:Int):=by omega
    go_wp2_with (refine wpList_clearK rfl (.tmp 38) 60 rfl 71 5 40 elem_od _ zero_od (odCells_one _) g (a * 5) (b - a) (c - a) (by rfl) (by omega) (a * 5) rfl (odCells R ++ sp) 71 HBK.out HFT.out base wr (Below.refl _ _) hbg ?_;intro w2 Z hZ HG2 hB2 HO2)
    have HZ:=Lib.hid hZ
    clear hZ
    have hF2:Fr [] [g] wr w2:=⟨hB2.size,fun y t cs hy _ hyg=>(HO2.out y (by simpa using hyg)).trans hy⟩
    have HT2:=Lib.hid (HTE.out.fr hF2 (by simp) (by simp) (one_blk HBK.out))
    have HF2:=Lib.hid (HFr.out.trans (hF2.mono (by simp) (fun _ h=>h)))
    clear hF2
    go_wp2_with fail
    go_ret
    refine ⟨c,by rw [HF.out.1];rfl,⟨by rw [odCells_len],.inr ⟨g,c,_,rfl,hbg,HG2.out,by rw [HF.out.1];omega,by unfold maxLen;omega,?_,?_⟩⟩,⟨vE2,HT2.out⟩,HB.out.trans hB2,HF2.out⟩
    ·rw [List.size_toArray,length_splice _ _ _ (by rw [HZ.out];exact HFT.out),HCL.out]
    ·rw [HF.out.1,List.toList_toArray,HTK.out Z HZ.out,HF.out.2]
theorem delfunc_row (base D:Nat) (DA:Option Addr) (dc:Nat) (DM:Option Addr) (dk:Nat) (v:Vn) (E:List Ev) (vE:Value) (AO:Option Addr) (c:Nat) (L:List Od) (id:Int) (i gi gd gk:Nat) (w:World) (hT:Teller w base D DA dc DM dk v E vE) (hC:Caps w D gi gd gk id i)
  (ho:w.ownsRow base 71 5 (.slice AO L.length c) L.length (odCells L)) (hb:base ≤ w.heap.size) (hl:E.length + L.length ≤ 1000000) :
  Calls Try.prog 142 #[.slice AO L.length c,.func (.func 220) #[] #[.pointer (some ⟨gi,0,none⟩),.pointer (some ⟨gd,0,none⟩),.pointer (some ⟨gk,0,none⟩)]] w (RetStrip w base D DA dc DM dk v E id i AO L):=by
 have HOW:=Lib.hid ho
 obtain ⟨hlen,⟨hv,h0⟩ | ⟨g,cap,cur,hv,hbg,hg,hnc,hcm,hcs,hct⟩⟩:=ho
 ·have h00:L = []:=List.length_eq_zero_iff.1 h0
  subst h00
  have HT:=Lib.hid hT
  have HC:=Lib.hid hC
  injection hv with hv1 hv2 hv3
  subst hv1
  subst hv3
  clear hT hC hlen h0
  go_enter Try.func142,Try.ntmps142
  go_wp2_with fail
  refine (idx_strip base D DA dc DM dk v E vE none 0 0 [] id i gi gd gk w HT.out HC.out HOW.out hb (by simpa using hl)).mono ?_
  rintro e w1 ⟨rfl,⟨vE1,ht1⟩,hL1,hF1⟩
  have HT1:=Lib.hid ht1
  have HO1:=Lib.hid (hF1.own HOW.out (by decide) (by simp))
  have hi1:idxOf (hasAcc id) [] = -1:=rfl
  rw [hi1]
  clear ht1 hi1
  go_wp2_with fail
  go_ret
  exact ⟨0,rfl,HO1.out,⟨vE1,HT1.out⟩,hL1,hF1.mono (fun _ h=>h) (by simp)⟩
 ·injection hv with hv1 hv2 hv3
  subst hv1
  subst hv3
  obtain ⟨sp,hsp,h1,h2⟩:=rows_of_cur (L:=L) (cur:=cur.toList) (n:=L.length) (c:=c) (by rw [Array.length_toList];exact hcs) hnc hct
  exact delfunc_strip base D DA dc DM dk v E vE g L.length c L sp id i gi gd gk w hT hC (by rw [← hsp,Array.toArray_toList];exact hg) rfl h2 hnc hcm hbg hb hl
end
section
open Go.RowKit
def RetTell (w:World) (base D:Nat) (ap:Bool) (d:Dk) (A:Option Addr) (c:Nat) (M:Option Addr) (k:Nat) (xs ys:List Value) (e:Ending) (w':World):Prop :=
 e=.returned (.tuple #[])∧(∃ vE,Desk w' base D ap d A c M k vE xs ys)∧Below base w w'∧Kept [174,124] w w'
set_option maxHeartbeats 2000000 in
theorem tell_dk (base D:Nat) (ap:Bool) (d:Dk) (A:Option Addr) (c:Nat) (M:Option Addr) (k:Nat) (vE:Value) (xs ys:List Value) (x:Ev) (w:World) (h:Desk w base D ap d A c M k vE xs ys) (hb:base ≤ w.heap.size) (hl:d.ev.length ≤ 1000000) :
  Calls Try.prog 188 #[.pointer (some ⟨D,0,none⟩),.agg #[.int .i64 x.kind,.int .i64 x.err,.int .i64 x.market,.int .i64 x.id,.int .i64 x.acc,.int .i64 x.n,.int .i64 x.f.maker,.int .i64 x.f.taker,.int .i64 x.f.macc,.int .i64 x.f.tacc,.int .i64 x.f.side,.int .i64 x.f.price,.int .i64 x.f.qty]] w (RetTell w base D ap (tell d x) A c M k xs ys):=by
 have HD:=Lib.hid h
 have hDl:=h.lt
 obtain ⟨E,e,rfl⟩:=h.form
 clear h
 go_enter Try.func188,Try.ntmps188
 go_wp2_with fail
 obtain ⟨W,hW⟩:∃ x',x'=w.alloc (.cells #[.int .i64 x.kind,.int .i64 x.err,.int .i64 x.market,.int .i64 x.id,.int .i64 x.acc,.int .i64 x.n,.int .i64 x.f.maker,.int .i64 x.f.taker,.int .i64 x.f.macc,.int .i64 x.f.tacc,.int .i64 x.f.side,.int .i64 x.f.price,.int .i64 x.f.qty] 124):=⟨_,rfl⟩
 have hbW:Below w.heap.size w W:=by rw [hW];exact (Below.refl _ _).alloc (Nat.le_refl _) _
 have hsW:W.heap.size=w.heap.size + 1:=by rw [hW];simp
 have X1:Blk W w.heap.size 124 #[.int .i64 x.kind,.int .i64 x.err,.int .i64 x.market,.int .i64 x.id,.int .i64 x.acc,.int .i64 x.n,.int .i64 x.f.maker,.int .i64 x.f.taker,.int .i64 x.f.macc,.int .i64 x.f.tacc,.int .i64 x.f.side,.int .i64 x.f.price,.int .i64 x.f.qty]:=by rw [hW];exact Blk.new w _ _
 rw [← hW]
 have HW:=Lib.hid (HD.out.below hbW)
 clear hW
 obtain ⟨⟨-,-,-,-,-,-,-,k7⟩,-,-,-,-,-,-,-,f7⟩:=HW.out.blk.c8
 have e0:=X1.cell 0
 have e1:=X1.cell 1
 have e2:=X1.cell 2
 have e3:=X1.cell 3
 have e4:=X1.cell 4
 have e5:=X1.cell 5
 have e6:=X1.cell 6
 have e7:=X1.cell 7
 have e8:=X1.cell 8
 have e9:=X1.cell 9
 have e10:=X1.cell 10
 have e11:=X1.cell 11
 have e12:=X1.cell 12
 have HNE:=Lib.hid (own_blk_ne HW.out.evs HW.out.blk (by decide))
 have KW:Hid (∀ ob W4,((W.alloc ob).drew).grownBy W4 (Value.slice E d.ev.length e).ownBlock→Blk W4 D 174 #[.slice A d.v.accs.length c,.slice M d.v.mks.length k,.int .i64 d.v.ins,.int .i64 d.v.resid,.int .i64 d.v.next,.int .i64 d.v.inn,.int .i64 d.v.out,.slice E d.ev.length e]):=fun ob W4 hg=>(show Blk ((W.alloc ob).drew) D _ _ from HW.out.blk.alloc ob).grown hg HNE.out
 go_wp2_with fail
 go_region_law (refine step_app rfl _ _ 114 rfl base 124 13 104 elem_ev (.slice E d.ev.length e) d.ev.length (evCells d.ev) (by simp [Act.eval]) (own_drewN (World.ownsRow.alloc HW.out.evs _) 1) (W.heap.size + 1) (some ⟨W.heap.size,0,none⟩) 1 1 (evCells [x]) (by simp [Act.eval]) (rd_new _ _ _ 13 rfl rfl _ rfl).drew1 (evCells_one _) (by simp only [maxLen];omega) (by omega) (by simp;omega) ?_;intro vE' W4 hown4 hbel4 hgrow hat;obtain ⟨E',e',rfl⟩:=own_shape hown4;have g7:=(KW.out _ _ hgrow).cell 7;have gf7:=(KW.out _ _ hgrow).frozen 7;simp only [List.getElem?_toArray,List.getElem?_cons_succ,List.getElem?_cons_zero] at g7)
 all_goals
  have hD4:=KW.out _ _ hgrow
  have hK4:Kept [174,124] W W4:=(((Kept.refl _ W).alloc _).drew).grown (own_drewN (World.ownsRow.alloc HW.out.evs _) 1) hgrow (by decide)
  have hK5:=hK4.set hD4 (by decide) 7 (.slice E' (d.ev.length + 1) e')
  have hK6:Kept [174] W4 (W4.setCell ⟨D,7,none⟩ (.slice E' (d.ev.length + 1) e')):=(Kept.refl _ W4).set hD4 (by decide) 7 _
  have hB4:Below base w W4:=(hbW.mono hb).trans ((below_drewN ((Below.refl _ W).alloc (by omega) _) 1).trans hbel4)
  have hev:(d.ev ++ [x]).length=d.ev.length + 1:=by simp
  have hev5:=hK6.own hown4 (by decide)
  rw [← evCells_app] at hev5
  go_end0
  refine ⟨rfl,⟨.slice E' (d.ev.length + 1) e',hD4.set_ 7 _,HW.out.low,HW.out.accs.kept hK5 (by decide) (by decide),HW.out.mks.kept hK5 (by decide) (by decide),?_⟩,hB4.setCell HW.out.low _,(Kept.of_below _ hbW).trans hK5⟩
  show World.ownsRow _ base 124 13 _ (d.ev ++ [x]).length (evCells (d.ev ++ [x]))
  rw [hev];exact hev5
end
section
open Go.RowKit
theorem OwnAc.put_bal {w:World} {base n c g i:Nat} {L:List Ac} {xs:List Value} {a:Ac} (h:OwnAc w base (some ⟨g,0,none⟩) n c L xs) (hi:L[i]?=some a) (b:Int) :
  OwnAc (w.setCell ⟨g,i * 3 + 1,none⟩ (.int .i64 b)) base (some ⟨g,0,none⟩) n c (L.set i { a with bal:=b }) (xs.set (i * 3 + 1) (.int .i64 b)):=by
 have hlen:=h.row.1
 have hil:=(List.getElem?_eq_some_iff.1 hi).1
 have hn:i < n:=by have:=h.len;omega
 have hk:∀ v n ys,w.ownsRow base 3 1 v n ys→(w.setCell ⟨g,i * 3 + 1,none⟩ (.int .i64 b)).ownsRow base 3 1 v n ys:=by
  intro v n ys hv
  obtain ⟨g',cs,e1,_,hb⟩:=own_blk h.row (by omega)
  injection e1 with e1
  injection e1 with e1
  subst e1
  exact ((Kept.refl [37] _).set hb (by decide) _ _).own hv (by decide)
 refine ⟨own_store h.row _ _,by rw [List.length_set];exact h.len,fun j x hx=>?_⟩
 by_cases e:j=i
 ·subst e
  rw [List.getElem?_set_self hil] at hx
  injection hx with hx
  subst hx
  obtain ⟨A2,c2,k1,k2,k3,k4,k5⟩:=h.cell j a hi
  refine ⟨A2,c2,?_,?_,?_,hk _ _ _ k4,k5⟩
  ·rw [getElem?_set_ne' (by omega)];exact k1
  ·rw [List.getElem?_set_self (by omega)]
  ·rw [getElem?_set_ne' (by omega)];exact k3
 ·rw [getElem?_set_ne' (Ne.symm e)] at hx
  obtain ⟨A2,c2,k1,k2,k3,k4,k5⟩:=h.cell j x hx
  refine ⟨A2,c2,?_,?_,?_,hk _ _ _ k4,k5⟩
  ·rw [getElem?_set_ne' (by omega)];exact k1
  ·rw [getElem?_set_ne' (by omega)];exact k2
  ·rw [getElem?_set_ne' (by omega)];exact k3
theorem desk_bal {w Z:World} {base D c k g i:Nat} {ap:Bool} {d:Dk} {M:Option Addr} {vE:Value} {xs ys:List Value} {a:Ac} {b:Int} {cs:Array Value} (h:Desk w base D ap d (some ⟨g,0,none⟩) c M k vE xs ys) (hi:d.v.accs[i]?=some a)
  (hg:Blk w g 37 cs) (hZ:Z=w.setCell ⟨g,i * 3 + 1,none⟩ (.int .i64 b)) :
  ∃ xs',Desk Z base D ap ⟨setAcc d.v i { a with bal:=b },d.ev⟩ (some ⟨g,0,none⟩) c M k vE xs' ys:=by
 have hK:Kept [37] w Z:=by rw [hZ];exact (Kept.refl _ _).set hg (by decide) _ _
 have hlen:(setAcc d.v i { a with bal:=b }).accs.length=d.v.accs.length:=by simp [setAcc]
 have hacc:=(h.accs.put_bal hi b).cast hlen.symm
 rw [← hZ] at hacc
 refine ⟨_,⟨?_,h.low,hacc,h.mks.kept hK (by decide) (by decide),hK.own h.evs (by decide)⟩⟩
 show Blk Z D 174 #[.slice _ (setAcc d.v i { a with bal:=b }).accs.length c,_,_,_,_,_,_,_]
 rw [hlen]
 exact h.blk.kept hK (by decide)
theorem move_eq {i:Nat} {n b e:Int} {d:Dk} {a:Ac} (ha:d.v.accs[i]?=some a) (h:addAll [a.bal,n]=(b,e)) :
  moveE i n d=okIf e (.ok (tell ⟨setAcc d.v i { a with bal:=b },d.ev⟩ ⟨5,0,0,0,a.id,n,zeroFl⟩)):=by
 unfold moveE
 rw [show accAt d.v i=a from getD_some ha,h]
set_option maxHeartbeats 2000000 in
set_option maxRecDepth 100000 in
theorem move_dk (base D:Nat) (ap:Bool) (d:Dk) (A:Option Addr) (c:Nat) (M:Option Addr) (k:Nat) (vE:Value) (xs ys:List Value) (i:Nat) (n:Int) (a:Ac) (w:World) (h:Desk w base D ap d A c M k vE xs ys) (hb:base ≤ w.heap.size)
  (ha:d.v.accs[i]?=some a) (hl:d.ev.length ≤ 1000000) :
  Calls Try.prog 186 #[.pointer (some ⟨D,0,none⟩),.int .i64 i,.int .i64 n] w (RetDk w base D ap A c M k [174,124] (D :: ab A) (moveE i n d)):=by
 have HD:=Lib.hid h
 have HI:=Lib.hid ha
 obtain ⟨b,en,hn⟩:∃ b en,addAll [a.bal,n]=(b,en):=⟨_,_,rfl⟩
 have HE:=Lib.hid (move_eq ha hn)
 have HN:=Lib.hid hn
 have hDl:=h.lt
 obtain ⟨⟨k0,-⟩,-⟩:=h.blk.c8
 obtain ⟨g,A2,c2,rfl,hg1,hg2,hin,⟨cs,hgB⟩,⟨q0,q1,q2⟩,⟨r0,r1,r2⟩,-,-⟩:=oac_at h.accs ha
 have HG:=Lib.hid hgB
 have hi0:(0:Int) ≤ (i:Int):=by omega
 have hi1:(i:Int) < (d.v.accs.length:Int):=by omega
 clear h hn ha hgB
 go_enter Try.func186,Try.ntmps186
 go_wp2_with fail
 refine (add_any _ _ _ [a.bal,n] _ _ (Rd.new w _ _ 2 rfl (by decide))).mono ?_
 rintro e w' ⟨rfl,rfl⟩
 rw [HN.out]
 by_cases he:en=0
 rotate_left
 ·have he':(en != 0)=true:=by simpa using he
  have HEE:=Lib.hid (show moveE i n d=.error en by rw [HE.out];unfold okIf;rw [if_pos he])
  have HNE:=Lib.hid he
  clear he
  go_wp2_with fail
  go_ret
  exact retDk_err HEE.out HNE.out ((Below.refl _ _).alloc hb _)
 ·subst he
  go_wp2_with fail
  refine calls_name ?_
  intro Z hZ
  obtain ⟨xs2,hd1⟩:=desk_bal HD.out HI.out HG.out (b:=b) rfl
  have hd2:=hd1.below ((Below.refl _ _).alloc (Nat.le_refl _) (Obj.cells #[.int .i64 a.bal,.int .i64 n] 3))
  rw [← hZ] at hd2
  have hLZ:Below base w Z:=by rw [hZ];exact ((Below.refl _ _).setCell hg1 _).alloc (by rw [size_setCell];exact hb) _
  have hFZ:Fr [174,124] (D :: ab (some ⟨g,0,none⟩)) w Z:=by rw [hZ];exact ((Fr.refl _ _ _).set HG.out (.inr (by simp [ab])) _ _).alloc _
  have HDZ:=Lib.hid hd2
  have hbZ:base ≤ Z.heap.size:=Nat.le_trans hb hFZ.size
  clear hd1 hd2 hZ k0 q0 q1 q2 r0 r1 r2
  refine (tell_dk base D ap _ _ c M k vE xs2 ys ⟨5,0,0,0,a.id,n,zeroFl⟩ Z HDZ.out hbZ hl).mono ?_
  rintro e W ⟨rfl,⟨vE',hd'⟩,hLW,hKW⟩
  have HDW:=Lib.hid hd'
  clear hd'
  go_wp2_with fail
  go_ret
  exact retDk_ok HE.out HDW.out (hLZ.trans hLW) (hFZ.trans (hKW.fr _))
end
section
open Go.RowKit
set_option maxHeartbeats 1000000 in
theorem fee_any (q p:Int) (w:World) :
  Calls Try.prog 45 #[.int .i64 q,.int .i64 p] w fun e w'=>e=.returned (.tuple #[.int .i64 (feeOf q p).1,.int .i64 (feeOf q p).2])∧w=w':=by
 rcases worth_cases q p with h | ⟨h,_,_,h1,h2⟩
 ·have HE:=Lib.hid (show (feeOf q p).1=0∧(feeOf q p).2=3 by unfold feeOf;rw [h];exact ⟨rfl,rfl⟩)
  have HW:=Lib.hid h
  clear h
  go_enter Try.func45,Try.ntmps45
  go_wp2_with fail
  refine (worth_any _ _ _).mono ?_
  rintro e w' ⟨rfl,rfl⟩
  rw [HW.out]
  go_wp2_with fail
  go_ret2
  exact ⟨by rw [HE.out.1,HE.out.2];rfl,rfl⟩
 ·obtain ⟨m,hm,hm1⟩:∃ m,max (q * p) (-(q * p))=m∧(q * p < -(q * p)∧m = -(q * p)∨-(q * p) ≤ q * p∧m=q * p):=⟨_,rfl,by omega⟩
  have HE:=Lib.hid (show feeOf q p=partOf m 5 10000 true by unfold feeOf;rw [h,if_neg (by simp)];show partOf (max (q * p) (-(q * p))) 5 10000 true=_;rw [hm])
  have HW:=Lib.hid h
  clear h hm
  rcases hm1 with ⟨h3,rfl⟩ | ⟨h3,rfl⟩
  all_goals
   go_enter Try.func45,Try.ntmps45
   go_wp2_with fail
   refine (worth_any _ _ _).mono ?_
   rintro e w' ⟨rfl,rfl⟩
   rw [HW.out]
   go_wp2_with fail
   refine (part_any _ _ _ _ _).mono ?_
   rintro e w' ⟨rfl,rfl⟩
   go_wp2_with fail
   go_ret2
   exact ⟨by rw [HE.out];rfl,rfl⟩
end
section
open Go.RowKit
theorem omk_at {w:World} {base m k:Nat} {ap:Bool} {M:Option Addr} {L:List Mk} {xs:List Value} (h:OwnMk w base ap M m k L xs) {i:Nat} {a:Mk} (hi:L[i]?=some a) :
  ∃ g A2 c2 A3 c3,M=some ⟨g,0,none⟩∧base ≤ g∧g < w.heap.size∧i < m∧(∃ cs,Blk w g 64 cs) ∧
   (w.cell? ⟨g,i * 4,none⟩=some (.slice A2 a.book.bids.length c2)∧w.cell? ⟨g,i * 4 + 1,none⟩=some (.slice A3 a.book.asks.length c3)∧w.cell? ⟨g,i * 4 + 2,none⟩=some (.int .i64 a.index)∧w.cell? ⟨g,i * 4 + 3,none⟩=some (.int .i64 a.last)) ∧
   (w.frozen? ⟨g,i * 4,none⟩=false∧w.frozen? ⟨g,i * 4 + 1,none⟩=false∧w.frozen? ⟨g,i * 4 + 2,none⟩=false∧w.frozen? ⟨g,i * 4 + 3,none⟩=false) ∧
   OBk w base A2 A3 c2 c3 a.book∧a.book.bids.length ≤ 4000000000000∧a.book.asks.length ≤ 4000000000000∧xs[i * 4]?=some (.slice A2 a.book.bids.length c2)∧xs[i * 4 + 1]?=some (.slice A3 a.book.asks.length c3):=by
 have hl:=h.len
 have hin:i < m:=by have:=(List.getElem?_eq_some_iff.1 hi).1;omega
 obtain ⟨A2,c2,A3,c3,k0,k1,k2,k3,k4,k5,k6⟩:=h.cell i a hi
 obtain ⟨g,cs,rfl,hb,hg⟩:=own_blk h.row (by omega)
 have hr:=Rd.of_own h.row
 obtain ⟨b,o,e,_,hc⟩:=hr.at_ (by omega)
 injection e with e
 injection e with e1 e2
 subst e1
 subst e2
 have c0:=hc _ _ k0
 have c1:=hc _ _ k1
 have c2':=hc _ _ k2
 have c3':=hc _ _ k3
 rw [Nat.zero_add] at c0
 rw [Nat.zero_add] at c1
 rw [Nat.zero_add] at c2'
 rw [Nat.zero_add] at c3'
 exact ⟨g,A2,c2,A3,c3,rfl,hb,hg.lt,hin,⟨cs,hg⟩,⟨c0,c1,c2',c3'⟩,⟨hg.frozen _,hg.frozen _,hg.frozen _,hg.frozen _⟩,k4,k5,k6,k0,k1⟩
theorem OwnMk.cast {w:World} {base m n k:Nat} {ap:Bool} {M:Option Addr} {L:List Mk} {xs:List Value} (h:OwnMk w base ap M m k L xs) (e:m=n):OwnMk w base ap M n k L xs:=by subst e;exact h
theorem OwnMk.drew1 {w:World} {base m k:Nat} {ap:Bool} {M:Option Addr} {L:List Mk} {xs:List Value} (h:OwnMk w base ap M m k L xs):OwnMk w.drew base ap M m k L xs:=h.mono (own_drewN h.row 1) fun _ _ _ hr=>own_drewN hr 1
theorem apart_set {xs:List Value} {i s:Nat} {u:Value} (h:Apart xs) (hs:2 ≤ s) (hs4:s < 4):Apart (xs.set (i * 4 + s) u):=by
 intro a s1 b t1 x y g h1 h2 hx hy hgx hgy
 rw [getElem?_set_ne' (by omega)] at hx
 rw [getElem?_set_ne' (by omega)] at hy
 exact h a s1 b t1 x y g h1 h2 hx hy hgx hgy
theorem OwnMk.put_num {w:World} {base m k g i s:Nat} {ap:Bool} {L:List Mk} {xs:List Value} {a a':Mk} {n:Int} (h:OwnMk w base ap (some ⟨g,0,none⟩) m k L xs) (hi:L[i]?=some a) (hb:a'.book=a.book)
  (hs:s=2∧a'.index=n∧a'.last=a.last∨s=3∧a'.last=n∧a'.index=a.index) :
  OwnMk (w.setCell ⟨g,i * 4 + s,none⟩ (.int .i64 n)) base ap (some ⟨g,0,none⟩) m k (L.set i a') (xs.set (i * 4 + s) (.int .i64 n)):=by
 have hlen:=h.row.1
 have hil:=(List.getElem?_eq_some_iff.1 hi).1
 have hn:i < m:=by have:=h.len;omega
 have hs4:2 ≤ s∧s < 4:=by omega
 have hk:∀ v n' ys,w.ownsRow base 71 5 v n' ys→(w.setCell ⟨g,i * 4 + s,none⟩ (.int .i64 n)).ownsRow base 71 5 v n' ys:=by
  intro v n' ys hv
  obtain ⟨g',cs,e1,_,hb⟩:=own_blk h.row (by omega)
  injection e1 with e1
  injection e1 with e1
  subst e1
  exact ((Kept.refl [64] _).set hb (by decide) _ _).own hv (by decide)
 refine ⟨own_store h.row _ _,by rw [List.length_set];exact h.len,fun j x hx=>?_,fun e=>apart_set (h.apart e) hs4.1 hs4.2⟩
 by_cases e:j=i
 ·subst e
  rw [List.getElem?_set_self hil] at hx
  injection hx with hx
  subst hx
  obtain ⟨A2,c2,A3,c3,k1,k2,k3,k4,k5,k6,k7⟩:=h.cell j a hi
  refine ⟨A2,c2,A3,c3,?_,?_,?_,?_,⟨?_,?_⟩,?_,?_⟩
  ·rw [getElem?_set_ne' (by omega),hb];exact k1
  ·rw [getElem?_set_ne' (by omega),hb];exact k2
  ·rcases hs with ⟨rfl,e1,e2⟩ | ⟨rfl,e1,e2⟩
   ·rw [List.getElem?_set_self (by omega),e1]
   ·rw [getElem?_set_ne' (by omega),e2];exact k3
  ·rcases hs with ⟨rfl,e1,e2⟩ | ⟨rfl,e1,e2⟩
   ·rw [getElem?_set_ne' (by omega),e2];exact k4
   ·rw [List.getElem?_set_self (by omega),e1]
  ·rw [hb];exact hk _ _ _ k5.l
  ·rw [hb];exact hk _ _ _ k5.r
  ·rw [hb];exact k6
  ·rw [hb];exact k7
 ·rw [getElem?_set_ne' (Ne.symm e)] at hx
  obtain ⟨A2,c2,A3,c3,k1,k2,k3,k4,k5,k6⟩:=h.cell j x hx
  refine ⟨A2,c2,A3,c3,?_,?_,?_,?_,⟨hk _ _ _ k5.l,hk _ _ _ k5.r⟩,k6⟩
  ·rw [getElem?_set_ne' (by omega)];exact k1
  ·rw [getElem?_set_ne' (by omega)];exact k2
  ·rw [getElem?_set_ne' (by omega)];exact k3
  ·rw [getElem?_set_ne' (by omega)];exact k4
theorem desk_num {w Z:World} {base D c k g i s:Nat} {ap:Bool} {d:Dk} {A:Option Addr} {vE:Value} {xs ys:List Value} {a a':Mk} {n:Int} {cs:Array Value} (h:Desk w base D ap d A c (some ⟨g,0,none⟩) k vE xs ys) (hi:d.v.mks[i]?=some a) (hb:a'.book=a.book)
  (hs:s=2∧a'.index=n∧a'.last=a.last∨s=3∧a'.last=n∧a'.index=a.index) (hg:Blk w g 64 cs) (hZ:Z=(w.setCell ⟨g,i * 4 + s,none⟩ (.int .i64 n)).drew∨Z=w.setCell ⟨g,i * 4 + s,none⟩ (.int .i64 n)) :
  ∃ ys',Desk Z base D ap ⟨setMk d.v i a',d.ev⟩ A c (some ⟨g,0,none⟩) k vE xs ys':=by
 have hlen:(setMk d.v i a').mks.length=d.v.mks.length:=by simp [setMk]
 have hmk:=(h.mks.put_num hi hb hs).cast hlen.symm
 rcases hZ with hZ | hZ
 ·have hK:Kept [64] w Z:=by rw [hZ];exact ((Kept.refl _ _).set hg (by decide) _ _).drew
  have hm2:=hmk.drew1
  rw [← hZ] at hm2
  refine ⟨_,⟨?_,h.low,h.accs.kept hK (by decide) (by decide),hm2,hK.own h.evs (by decide)⟩⟩
  show Blk Z D 174 #[_,.slice _ (setMk d.v i a').mks.length k,_,_,_,_,_,_]
  rw [hlen]
  exact h.blk.kept hK (by decide)
 ·have hK:Kept [64] w Z:=by rw [hZ];exact (Kept.refl _ _).set hg (by decide) _ _
  rw [← hZ] at hmk
  refine ⟨_,⟨?_,h.low,h.accs.kept hK (by decide) (by decide),hmk,hK.own h.evs (by decide)⟩⟩
  show Blk Z D 174 #[_,.slice _ (setMk d.v i a').mks.length k,_,_,_,_,_,_]
  rw [hlen]
  exact h.blk.kept hK (by decide)
theorem ab_acc {w:World} {base n c:Nat} {A:Option Addr} {L:List Ac} {xs:List Value} (h:OwnAc w base A n c L xs):∀ g ∈ ab A,(∃ cs,Blk w g 37 cs):=by
 intro g hg
 obtain ⟨_,h1 | ⟨g',cap,cur,hv,_,hb,_⟩⟩:=h.row
 ·obtain ⟨h1,_⟩:=h1
  injection h1 with h1
  subst h1;simp [ab] at hg
 ·injection hv with hv
  subst hv
  simp only [ab,Option.map_some,Option.toList_some,List.mem_singleton] at hg
  subst hg
  exact ⟨_,hb⟩
theorem ab_mk {w:World} {base n c:Nat} {ap:Bool} {A:Option Addr} {L:List Mk} {xs:List Value} (h:OwnMk w base ap A n c L xs):∀ g ∈ ab A,(∃ cs,Blk w g 64 cs):=by
 intro g hg
 obtain ⟨_,h1 | ⟨g',cap,cur,hv,_,hb,_⟩⟩:=h.row
 ·obtain ⟨h1,_⟩:=h1
  injection h1 with h1
  subst h1;simp [ab] at hg
 ·injection hv with hv
  subst hv
  simp only [ab,Option.map_some,Option.toList_some,List.mem_singleton] at hg
  subst hg
  exact ⟨_,hb⟩
theorem desk_far {w:World} {base base' D c k e sz n:Nat} {ap:Bool} {d:Dk} {A M:Option Addr} {vE v:Value} {xs ys zs:List Value} (h:Desk w base D ap d A c M k vE xs ys) (hv:w.ownsRow base' e sz v n zs)
  (h1:174 ≠ e) (h2:37 ≠ e) (h3:64 ≠ e):∀ g,v.ownBlock=some g→g ∉ D :: (ab A ++ ab M):=by
 intro g hg hm
 rcases List.mem_cons.1 hm with rfl | hm
 ·exact own_blk_ne hv h.blk h1 hg
 rcases List.mem_append.1 hm with hm | hm
 ·obtain ⟨cs,hb⟩:=ab_acc h.accs g hm
  exact own_blk_ne hv hb h2 hg
 ·obtain ⟨cs,hb⟩:=ab_mk h.mks g hm
  exact own_blk_ne hv hb h3 hg
theorem desk_far_blk {w:World} {base D c k g:Nat} {ap:Bool} {d:Dk} {A M:Option Addr} {vE:Value} {xs ys:List Value} {t:TypeId} {cs:Array Value} (h:Desk w base D ap d A c M k vE xs ys) (hb:Blk w g t cs)
  (h1:174 ≠ t) (h2:37 ≠ t) (h3:64 ≠ t):g ∉ D :: (ab A ++ ab M):=by
 intro hm
 rcases List.mem_cons.1 hm with rfl | hm
 ·exact blk_ne h.blk hb h1 rfl
 rcases List.mem_append.1 hm with hm | hm
 ·obtain ⟨cs,hc⟩:=ab_acc h.accs g hm
  exact blk_ne hc hb h2 rfl
 ·obtain ⟨cs,hc⟩:=ab_mk h.mks g hm
  exact blk_ne hc hb h3 rfl
theorem mem_dA {D:Nat} {A M:Option Addr}:∀ g ∈ D :: ab A,g ∈ D :: (ab A ++ ab M):=by
 intro g hg
 rcases List.mem_cons.1 hg with rfl | hg
 ·simp
 ·simp [hg]
end
section
def evFee (place:Bool) (x:Ev):Int:=if place then (feeOf x.f.qty x.f.price).1 else 0
def evMoney (place:Bool) (x:Ev) (id:Int):Int :=
 if x.kind=5 then (if id=x.acc then x.n else 0)
 else if x.kind=3∨x.kind=6 then (if id=x.f.macc then x.f.side * x.f.qty * x.f.price else 0) - (if id=x.f.tacc then x.f.side * x.f.qty * x.f.price + evFee place x else 0) else 0
def evPos (x:Ev) (mk:Nat) (id:Int):Int :=
 if (x.kind=3∨x.kind=6)∧x.market=mk then (if id=x.f.tacc then x.f.side * x.f.qty else 0) - (if id=x.f.macc then x.f.side * x.f.qty else 0) else 0
def moneySum (place:Bool) (E:List Ev) (id:Int):Int:=(E.map fun x=>evMoney place x id).sum
def posSumE (E:List Ev) (mk:Nat) (id:Int):Int:=(E.map fun x=>evPos x mk id).sum
theorem moneySum_app (place:Bool) (E F:List Ev) (id:Int):moneySum place (E ++ F) id=moneySum place E id + moneySum place F id:=by simp [moneySum]
theorem posSumE_app (E F:List Ev) (mk:Nat) (id:Int):posSumE (E ++ F) mk id=posSumE E mk id + posSumE F mk id:=by simp [posSumE]
structure FlOk (m:Nat) (x:Ev):Prop where
 market:∃ k:Nat,x.market=k∧k < m
 qty:1 ≤ x.f.qty∧x.f.qty ≤ 1000
 price:0 ≤ x.f.price∧x.f.price ≤ 10000
 side:x.f.side=1∨x.f.side = -1
 accs:(0 ≤ x.f.tacc∧x.f.tacc ≤ 7)∧(0 ≤ x.f.macc∧x.f.macc ≤ 7)
structure Step (place:Bool) (d d':Dk) (E:List Ev):Prop where
 ok:VOk d'.v
 ev:d'.ev=d.ev ++ E
 kinds:∀ x ∈ E,x.kind ≠ 1
 fills:∀ x ∈ E,x.kind=3∨x.kind=6→FlOk d.v.mks.length x
 moved:∀ x ∈ E,x.kind=5→(0 ≤ x.acc∧x.acc ≤ 7)∧(-3000000000000 ≤ x.n∧x.n ≤ 3000000000000)
 bal:∀ id,balOf d'.v.accs id=balOf d.v.accs id + moneySum place E id
 pos:∀ k id,posOf d'.v.accs k id=posOf d.v.accs k id + posSumE E k id
 len:d'.v.mks.length=d.v.mks.length
 there:∀ id,thereB d.v.accs id=true→thereB d'.v.accs id=true
 up:d.v.next ≤ d'.v.next∧d.v.inn ≤ d'.v.inn∧d.v.out ≤ d'.v.out
theorem Step.refl {place:Bool} {d:Dk} (h:VOk d.v):Step place d d [] :=
 ⟨h,by simp,by simp,by simp,by simp,fun id=>by simp [moneySum],fun k id=>by simp [posSumE],rfl,fun _ h=>h,⟨Int.le_refl _,Int.le_refl _,Int.le_refl _⟩⟩
theorem Step.trans {place:Bool} {a b c:Dk} {E F:List Ev} (h:Step place a b E) (g:Step place b c F):Step place a c (E ++ F):=by
 refine ⟨g.ok,by rw [g.ev,h.ev,List.append_assoc],?_,?_,?_,fun id=>?_,fun k id=>?_,g.len.trans h.len,fun id hi=>g.there id (h.there id hi),?_⟩
 ·intro x hx
  rcases List.mem_append.1 hx with hx | hx
  ·exact h.kinds x hx
  ·exact g.kinds x hx
 ·intro x hx
  rcases List.mem_append.1 hx with hx | hx
  ·exact h.fills x hx
  ·rw [← h.len];exact g.fills x hx
 ·intro x hx
  rcases List.mem_append.1 hx with hx | hx
  ·exact h.moved x hx
  ·exact g.moved x hx
 ·rw [g.bal,h.bal,moneySum_app];omega
 ·rw [g.pos,h.pos,posSumE_app];omega
 ·have:=h.up;have:=g.up;omega
theorem okIf_ok {e:Int} {α:Type} {x:Except Int α} {a:α} (h:okIf e x=.ok a):e=0∧x=.ok a:=by
 unfold okIf at h
 split at h
 ·cases h
 ·rename_i h1;exact ⟨by omega,h⟩
theorem bindE_ok {α β:Type} {x:Except Int α} {f:α→Except Int β} {b:β} (h:bindE x f=.ok b):∃ a,x=.ok a∧f a=.ok b:=by
 cases x with
 | error e=>cases h
 | ok a=>exact ⟨a,rfl,h⟩
theorem posOf_bal {L:List Ac} {m k:Nat} {a b:Ac} (h:AOk m L) (hk:L[k]?=some a) (he:b.id=a.id) (hp:b.pos=a.pos) (j:Nat) (id:Int):posOf (L.set k b) j id=posOf L j id:=by
 unfold posOf
 rw [accOf_set h hk he]
 by_cases hi:id=a.id
 ·rw [if_pos hi,hp,hi,accOf_at h.sorted hk]
 ·rw [if_neg hi]
theorem mkAt_some {v:Vn} {k:Nat} (h:k < v.mks.length):v.mks[k]?=some (mkAt v k):=by
 unfold mkAt;rw [List.getD,List.getElem?_eq_getElem h];rfl
theorem mkAt_ok {v:Vn} {k:Nat} (hv:VOk v) (h:k < v.mks.length):marketErr (mkAt v k)=0∧∀ o ∈ (mkAt v k).book.bids ++ (mkAt v k).book.asks,thereB v.accs o.acc=true∧o.id < v.next :=
 hv.mks _ (List.mem_of_getElem? (mkAt_some h))
theorem marketErr_ok {m:Mk}:marketErr m=0 ↔ BookOk m.book∧(1 ≤ m.index∧m.index ≤ 10000)∧0 ≤ m.last∧m.last ≤ 10000:=by
 unfold marketErr
 rw [← bookErr_ok]
 by_cases h1:bookErr m.book=0
 ·rw [if_neg (by omega)]
  by_cases h2:m.index < 1∨10000 < m.index∨m.last < 0∨10000 < m.last
  ·rw [if_pos h2];omega
  ·rw [if_neg h2];omega
 ·rw [if_pos h1];omega
theorem vok_mk {v:Vn} {k:Nat} {m:Mk} (h:VOk v) (h1:marketErr m=0) (h2:∀ o ∈ m.book.bids ++ m.book.asks,thereB v.accs o.acc=true∧o.id < v.next):VOk (setMk v k m):=by
 have hl:(setMk v k m).mks.length=v.mks.length:=by simp [setMk]
 refine ⟨by rw [hl];exact h.len,by rw [hl];exact h.accs,⟨h.nums.ins,h.nums.resid,h.nums.next,h.nums.inn,h.nums.out⟩,h.money,by rw [hl];exact h.pos,mok_set h.mks h1 h2⟩
theorem step_mk {place:Bool} {d:Dk} {k:Nat} {m:Mk} (h:VOk d.v) (h1:marketErr m=0) (h2:∀ o ∈ m.book.bids ++ m.book.asks,thereB d.v.accs o.acc=true∧o.id < d.v.next):Step place d ⟨setMk d.v k m,d.ev⟩ [] :=
 ⟨vok_mk h h1 h2,by simp,by simp,by simp,by simp,fun id=>by simp [moneySum,setMk],fun k id=>by simp [posSumE,setMk],by simp [setMk],fun _ h=>h,⟨Int.le_refl _,Int.le_refl _,Int.le_refl _⟩⟩
theorem step_tell {place:Bool} {d:Dk} {x:Ev} (h:VOk d.v) (hx:x.kind=2∨x.kind=4):Step place d (tell d x) [x]:=by
 refine ⟨h,rfl,?_,?_,?_,fun id=>?_,fun k id=>?_,rfl,fun _ h=>h,⟨Int.le_refl _,Int.le_refl _,Int.le_refl _⟩⟩
 ·intro y hy;simp at hy;subst hy;omega
 ·intro y hy;simp at hy;subst hy;omega
 ·intro y hy;simp at hy;subst hy;omega
 ·simp only [moneySum,List.map_cons,List.map_nil,List.sum_cons,List.sum_nil,evMoney]
  rw [if_neg (by omega),if_neg (by omega)];simp [tell]
 ·simp only [posSumE,List.map_cons,List.map_nil,List.sum_cons,List.sum_nil,evPos]
  rw [if_neg (by omega)];simp [tell]
theorem vok_trade {v v':Vn} {mk:Nat} {t m q p fee:Int} (h:VOk v) (hf:0 ≤ fee) (ht:TradeStep v v' mk t m q p fee):VOk v':=by
 obtain ⟨r1,r2,r3,r4⟩:=ht.rest
 obtain ⟨i1,i2⟩:=ht.ins
 have hn:=h.nums
 rw [isMoney_iff] at i2
 have:=hn.ins
 refine ⟨by rw [ht.mks];exact h.len,by rw [ht.mks];exact ht.accs,⟨by omega,by rw [r1];exact hn.resid,by rw [r2];exact hn.next,by rw [r3];exact hn.inn,by rw [r4];exact hn.out⟩,?_,fun k hk=>?_,?_⟩
 ·have:=h.money;have:=ht.bal;omega
 ·rw [ht.pos];exact h.pos k (by rw [ht.mks] at hk;exact hk)
 ·rw [ht.mks];exact mok_there h.mks (fun id hi=>by rw [there_map ht.ids];exact hi) (by rw [r2];exact Int.le_refl _)
theorem step_trade {place:Bool} {d:Dk} {v':Vn} {mk:Nat} {x:Ev} {fee:Int} (h:VOk d.v) (hf:0 ≤ fee) (hx:x.kind=3∨x.kind=6) (hm:x.market=mk) (hfee:fee=evFee place x) (hq:1 ≤ x.f.qty∧x.f.qty ≤ 1000) (hs:x.f.side=1∨x.f.side = -1) (hp:0 ≤ x.f.price∧x.f.price ≤ 10000)
  (ht:tradeE d.v mk x.f.tacc x.f.macc (x.f.side * x.f.qty) x.f.price fee=.ok v'):Step place d (tell ⟨v',d.ev⟩ x) [x]∧TradeStep d.v v' mk x.f.tacc x.f.macc (x.f.side * x.f.qty) x.f.price fee:=by
 have hst:=trade_step h.accs ht
 refine ⟨⟨vok_trade h hf hst,rfl,?_,?_,?_,fun id=>?_,fun k id=>?_,by show v'.mks.length=_;rw [hst.mks],fun id hi=>by show thereB v'.accs id=true;rw [there_map hst.ids];exact hi,?_⟩,hst⟩
 ·intro y hy;simp at hy;subst hy;omega
 ·intro y hy _
  simp at hy;subst hy
  obtain ⟨t1,t2⟩:=hst.there
  obtain ⟨a,ha,ea⟩:=there_iff.1 t1
  obtain ⟨b,hb,eb⟩:=there_iff.1 t2
  have k1:=(accCheck_ok (h.accs.ok a ha)).1
  have k2:=(accCheck_ok (h.accs.ok b hb)).1
  exact ⟨⟨mk,hm,hst.mkLt⟩,hq,hp,hs,by omega,by omega⟩
 ·intro y hy;simp at hy;subst hy;omega
 ·show balOf v'.accs id=_
  rw [hst.balOf]
  simp only [moneySum,List.map_cons,List.map_nil,List.sum_cons,List.sum_nil,evMoney]
  rw [if_neg (show ¬ x.kind=5 by omega),if_pos hx,hfee];omega
 ·show posOf v'.accs k id=_
  rw [hst.posOf]
  simp only [posSumE,List.map_cons,List.map_nil,List.sum_cons,List.sum_nil,evPos]
  by_cases hk:k=mk
  ·subst hk
   rw [if_pos (⟨hx,hm⟩:(x.kind=3∨x.kind=6)∧x.market = ↑k)]
   simp only [true_and];omega
  ·rw [if_neg (show ¬ (k=mk∧id=x.f.tacc) from fun h=>hk h.1),if_neg (show ¬ (k=mk∧id=x.f.macc) from fun h=>hk h.1),if_neg (show ¬ ((x.kind=3∨x.kind=6)∧x.market = ↑k) by omega)];omega
 ·obtain ⟨r1,r2,r3,r4⟩:=hst.rest
  show d.v.next ≤ v'.next∧d.v.inn ≤ v'.inn∧d.v.out ≤ v'.out
  omega
theorem fee_pos {q p:Int} (hq:1 ≤ q∧q ≤ 1000) (hp:0 ≤ p∧p ≤ 10000):(feeOf q p).2=0∧0 ≤ (feeOf q p).1∧(feeOf q p).1 ≤ 5000:=by
 have hb:=worth_bd (q:=q) (p:=p) (by omega) (by omega) (by omega) (by omega)
 have h0:0 ≤ q * p:=Int.mul_nonneg (by omega) (by omega)
 have hw:worthOf q p=(q * p,0):=by
  rcases worth_cases q p with h | h
  ·have:worthOk q p=true:=worthOk_iff.2 (by omega)
   unfold worthOf at h;rw [if_pos this] at h;injection h with _ h;omega
  ·exact h.1
 unfold feeOf
 rw [hw]
 simp only
 rw [if_neg (by omega),show max (q * p) (-(q * p))=q * p by omega,part_small hb (by omega)]
 refine ⟨rfl,?_,?_⟩ <;> simp only <;> omega
def fillEvs (mk:Nat) (l:List Fl):List Ev:=l.map fun f=>⟨3,0,mk,0,0,0,f⟩
theorem step_fills {place:Bool} {mk:Nat}:∀ {l:List Fl} {d d':Dk},VOk d.v→(∀ f ∈ l,(1 ≤ f.qty∧f.qty ≤ 1000)∧(f.side=1∨f.side = -1)∧(0 ≤ f.price∧f.price ≤ 10000))→mk < d.v.mks.length→fillsE mk (!place) l d=.ok d' →
  Step place d d' (fillEvs mk l)∧d'.v.accs.map (·.id)=d.v.accs.map (·.id)∧(∀ k,(mkAt d'.v k).book=(mkAt d.v k).book∧(mkAt d'.v k).index=(mkAt d.v k).index∧(k ≠ mk→mkAt d'.v k=mkAt d.v k))∧(d'.v.resid=d.v.resid∧d'.v.next=d.v.next∧d'.v.inn=d.v.inn∧d'.v.out=d.v.out)∧d.v.ins ≤ d'.v.ins∧(place=false→d'.v.ins=d.v.ins)∧(l = []→d'=d)
 | [],d,d',h,_,_,he=>by
  injection he with he;subst he
  exact ⟨Step.refl h,rfl,fun k=>⟨rfl,rfl,fun _=>rfl⟩,⟨rfl,rfl,rfl,rfl⟩,Int.le_refl _,fun _=>rfl,fun _=>rfl⟩
 | f :: l,d,d',h,hl,hmk,he=>by
  obtain ⟨f1,f2,f3⟩:=hl f (by simp)
  unfold fillsE at he
  obtain ⟨v1,h1,he⟩:=bindE_ok he
  have hfee:=fee_pos f1 f3
  have hfe:(if (!place)=true then 0 else (feeOf f.qty f.price).1)=evFee place ⟨3,0,mk,0,0,0,f⟩:=by cases place <;> rfl
  have hf0:0 ≤ evFee place ⟨3,0,mk,0,0,0,f⟩:=by unfold evFee;cases place <;> simp [hfee.2.1]
  rw [hfe] at h1
  obtain ⟨s1,t1⟩:=step_trade (place:=place) (d:=d) (x:=⟨3,0,mk,0,0,0,f⟩) h hf0 (.inl rfl) rfl rfl f1 f2 f3 h1
  have hm1:v1.mks=d.v.mks:=t1.mks
  have hat:mkAt v1 mk=mkAt d.v mk:=by unfold mkAt;rw [hm1]
  have hok:=mkAt_ok s1.ok (k:=mk) (by show mk < v1.mks.length;rw [hm1];exact hmk)
  have s2:=step_mk (place:=place) (d:=tell ⟨v1,d.ev⟩ ⟨3,0,mk,0,0,0,f⟩) (k:=mk) (m:={ mkAt v1 mk with last:=f.price }) s1.ok (by
   have:=marketErr_ok.1 hok.1
   exact marketErr_ok.2 ⟨this.1,this.2.1,f3⟩) hok.2
  obtain ⟨s3,i3,m3,r3,n3,p3,_⟩:=step_fills (place:=place) (mk:=mk) (l:=l) (d:=tell ⟨setMk v1 mk { mkAt v1 mk with last:=f.price },d.ev⟩ ⟨3,0,mk,0,0,0,f⟩) (d':=d') s2.ok (fun g hg=>hl g (by simp [hg])) (by simp only [tell,setMk,List.length_set];rw [hm1];exact hmk) he
  obtain ⟨q1,q2,q3,q4⟩:=t1.rest
  obtain ⟨i1,_⟩:=t1.ins
  refine ⟨?_,i3.trans t1.ids,fun k=>?_,⟨r3.1.trans q1,r3.2.1.trans q2,r3.2.2.1.trans q3,r3.2.2.2.trans q4⟩,?_,?_,nofun⟩
  ·have:=(s1.trans s2).trans s3
   simpa [fillEvs] using this
  ·obtain ⟨a1,a2,a3⟩:=m3 k
   have hs:∀ j,mkAt (setMk v1 mk { mkAt v1 mk with last:=f.price }) j=if j=mk then { mkAt v1 mk with last:=f.price } else mkAt d.v j:=by
    intro j
    show ((v1.mks.set mk _)[j]?).getD zeroMk=_
    rw [set_at (mkAt_some (v:=v1) (by rw [hm1];exact hmk)),hm1]
    by_cases hj:j=mk
    ·rw [if_pos hj,if_pos hj];rfl
    ·rw [if_neg hj,if_neg hj];rfl
   have a1':(mkAt d'.v k).book=(mkAt (setMk v1 mk { mkAt v1 mk with last:=f.price }) k).book:=a1
   have a2':(mkAt d'.v k).index=(mkAt (setMk v1 mk { mkAt v1 mk with last:=f.price }) k).index:=a2
   have a3':k ≠ mk→mkAt d'.v k=mkAt (setMk v1 mk { mkAt v1 mk with last:=f.price }) k:=a3
   rw [hs] at a1' a2' a3'
   by_cases hk:k=mk
   ·subst hk
    rw [if_pos rfl] at a1' a2'
    exact ⟨by rw [a1',hat],by rw [a2',hat],fun h=>absurd rfl h⟩
   ·rw [if_neg hk] at a1' a2' a3'
    exact ⟨a1',a2',a3'⟩
  ·have:v1.ins ≤ d'.v.ins:=n3
   omega
  ·intro hp
   have h2:d'.v.ins=v1.ins:=p3 hp
   subst hp
   have:evFee false ⟨3,0,mk,0,0,0,f⟩=0:=rfl
   omega
end
section
theorem takeL_fills {o:Od}:∀ {l:List Od} {left:Int},(∀ x ∈ l,1 ≤ x.qty)→0 ≤ left→(∀ f ∈ (takeL o left l).2.1,∃ x ∈ l,f.maker=x.id∧f.macc=x.acc∧f.price=x.price∧(1 ≤ f.qty∧f.qty ≤ x.qty)∧f.side=o.side∧f.tacc=o.acc∧x.acc ≠ o.acc) ∧
  qtySum (takeL o left l).2.1 + (takeL o left l).2.2.1=left
 | [],left,_,_=>by simp [takeL,qtySum]
 | x :: l,left,hq,h0=>by
  unfold takeL
  split
  ·simp [qtySum]
  split
  ·simp [qtySum]
  split
  ·simp [qtySum]
  rename_i h1 h2 h3
  split
  ·refine ⟨?_,by simp [qtySum,fillOf]⟩
   intro f hf
   simp only [List.mem_singleton] at hf
   subst hf
   exact ⟨x,by simp,rfl,rfl,rfl,by simp only [fillOf];omega,rfl,rfl,h3⟩
  ·obtain ⟨k1,k2⟩:=takeL_fills (o:=o) (l:=l) (left:=left - x.qty) (fun y hy=>hq y (by simp [hy])) (by omega)
   have hx:=hq x (by simp)
   refine ⟨?_,?_⟩
   ·intro f hf
    rcases List.mem_cons.1 hf with rfl | hf
    ·exact ⟨x,by simp,rfl,rfl,rfl,by simp only [fillOf];omega,rfl,rfl,h3⟩
    ·obtain ⟨y,hy,h⟩:=k1 f hf
     exact ⟨y,by simp [hy],h⟩
   ·simp only [qtySum,List.map_cons,List.sum_cons,fillOf] at k2 ⊢
    omega
theorem mem_setOther {b:Bk} {s:Int} {L:List Od} {y:Od} (h:y ∈ (setOther b s L).bids ++ (setOther b s L).asks):y ∈ b.bids ++ b.asks∨y ∈ L:=by
 unfold setOther at h
 split at h
 ·rcases List.mem_append.1 h with h | h
  ·exact .inl (by simp [h])
  ·exact .inr h
 ·rcases List.mem_append.1 h with h | h
  ·exact .inr h
  ·exact .inl (by simp [h])
theorem mem_setOwn {b:Bk} {s:Int} {L:List Od} {y:Od} (h:y ∈ (setOwn b s L).bids ++ (setOwn b s L).asks):y ∈ b.bids ++ b.asks∨y ∈ L:=by
 unfold setOwn at h
 split at h
 ·rcases List.mem_append.1 h with h | h
  ·exact .inr h
  ·exact .inl (by simp [h])
 ·rcases List.mem_append.1 h with h | h
  ·exact .inl (by simp [h])
  ·exact .inr h
theorem mem_other {b:Bk} {s:Int} {y:Od} (h:y ∈ otherOf b s):y ∈ b.bids ++ b.asks:=by
 unfold otherOf at h
 split at h <;> simp [h]
theorem take_book {b:Bk} {o:Od} {left:Int} (h:BookOk b) (hs:o.side=1∨o.side = -1):BookOk (setOther b o.side (takeL o left (otherOf b o.side)).1) ∧
  ∀ y ∈ (setOther b o.side (takeL o left (otherOf b o.side)).1).bids ++ (setOther b o.side (takeL o left (otherOf b o.side)).1).asks,∃ z ∈ b.bids ++ b.asks,sameBut z y:=by
 refine ⟨book_take h o hs left,fun y hy=>?_⟩
 rcases mem_setOther hy with hy | hy
 ·exact ⟨y,hy,rfl,rfl,rfl,rfl⟩
 ·obtain ⟨z,hz,hs,_⟩:=(takeL_side (o:=o) (left:=left) (other_of h o.side hs)).2.1 y hy
  exact ⟨z,mem_other hz,hs⟩
theorem come_more {b x:Bk} {o:Od} {how left:Int} {l:List Fl} (h:comeOf b o how=(x,l,left,0)) :
  BookOk x∧ordErr o=0∧(∀ y ∈ x.bids ++ x.asks,(∃ z ∈ b.bids ++ b.asks,sameBut z y)∨y.id=o.id∧y.acc=o.acc) ∧
   (∀ f ∈ l,∃ z ∈ b.bids ++ b.asks,f.maker=z.id∧f.macc=z.acc∧f.price=z.price∧(1 ≤ f.qty∧f.qty ≤ z.qty)∧f.side=o.side∧f.tacc=o.acc∧z.acc ≠ o.acc)∧0 ≤ left ∧
   (how ≠ 2→left=0)∧(0 ≤ qtySum l∧qtySum l + left ≤ o.qty)∧(how=4→l = []):=by
 obtain ⟨hb,ho,_,hh,L,rem,ht,h4,h3,hc⟩:=come_ok h
 have hs:=(ordErr_ok.1 ho).2.2.1
 have hq0:=(ordErr_ok.1 ho).2.2.2.2
 have hso:=other_of hb o.side hs
 have hq:∀ x ∈ otherOf b o.side,1 ≤ x.qty:=fun x hx=>(ordErr_ok.1 (hso.ok x hx)).2.2.2.2.1
 obtain ⟨f1,f2⟩:=takeL_fills (o:=o) (left:=o.qty) hq (by omega)
 obtain ⟨t1,t2⟩:=take_book (o:=o) (left:=o.qty) hb hs
 have hrem:=takeL_left (o:=o) (left:=o.qty) hq (by omega)
 rw [ht] at f1 f2 t1 t2 hrem
 simp only at f1 f2 t1 t2 hrem
 have f1':∀ f ∈ l,∃ z ∈ b.bids ++ b.asks,f.maker=z.id∧f.macc=z.acc∧f.price=z.price∧(1 ≤ f.qty∧f.qty ≤ z.qty)∧f.side=o.side∧f.tacc=o.acc∧z.acc ≠ o.acc:=fun f hf=>by
  obtain ⟨z,hz,h⟩:=f1 f hf
  exact ⟨z,mem_other hz,h⟩
 rcases hc with ⟨h5,rfl,rfl⟩ | ⟨h5,h6,h7,rfl,hr⟩
 ·exact ⟨t1,ho,fun y hy=>.inl (t2 y hy),f1',hrem.1,fun hn=>by rcases h5 with h5 | h5 <;> omega,by omega,h4⟩
 ·obtain ⟨r1,r2,r3,r4,r5,rfl⟩:=rest_ok hr
  have hx:=(rest_book r1 r2 r3 r4 (cross_all r1 (by exact hs) r5)).2
  refine ⟨hx,ho,fun y hy=>?_,f1',Int.le_refl _,fun _=>rfl,by omega,h4⟩
  rcases mem_setOwn hy with hy | hy
  ·exact .inl (t2 y hy)
  ·rcases mem_insO.1 hy with rfl | hy
   ·exact .inr ⟨rfl,rfl⟩
   ·exact .inl (t2 y (mem_own hy))
theorem move_ok {k:Nat} {n:Int} {d d':Dk} {a:Ac} (hk:d.v.accs[k]?=some a) (h:moveE k n d=.ok d') :
  isMoney n=true∧isMoney (a.bal + n)=true∧d'=tell ⟨setAcc d.v k { a with bal:=a.bal + n },d.ev⟩ ⟨5,0,0,0,a.id,n,zeroFl⟩:=by
 unfold moveE at h
 have hat:accAt d.v k=a:=getD_some hk
 rw [hat] at h
 obtain ⟨h1,h2⟩:=okIf_ok h
 obtain ⟨s,hs⟩:∃ s,addAll [a.bal,n]=(s,0):=⟨_,Prod.ext rfl h1⟩
 rw [hs] at h2
 injection h2 with h2
 obtain ⟨e1,e2⟩:=add_two hs
 have hm:=(addFrom_ok _ _ _ hs).2.1 n (by simp)
 subst e1
 exact ⟨hm,e2,h2.symm⟩
theorem sum_ins {α:Type} (f:α→Int) (L:List α) (k:Nat) (a:α):((L.take k ++ a :: L.drop k).map f).sum=(L.map f).sum + f a:=by
 have:(L.map f).sum=((L.take k).map f).sum + ((L.drop k).map f).sum:=by
  rw [← List.sum_append,← List.map_append,List.take_append_drop]
 rw [this,List.map_append,List.sum_append,List.map_cons,List.sum_cons];omega
theorem ins_spec {m:Nat} {L:List Ac} {a:Ac} (h:AOk m L) (ha:accCheck a.id a.bal a.pos m=0) (ht:thereB L a.id=false) :
  AOk m (insAcc L (placeOf L a.id) a)∧(insAcc L (placeOf L a.id) a)[placeOf L a.id]?=some a∧(∀ id,accOf (insAcc L (placeOf L a.id) a) id=if id=a.id then a else accOf L id) ∧
   (∀ id,thereB (insAcc L (placeOf L a.id) a) id=true ↔ id=a.id∨thereB L id=true):=by
 obtain ⟨k1,k2,k3⟩:=place_spec (id:=a.id) h.sorted
 have hmem:∀ x,x ∈ insAcc L (placeOf L a.id) a ↔ x=a∨x ∈ L:=by
  intro x
  unfold insAcc
  rw [List.mem_append,List.mem_cons]
  constructor
  ·rintro (h | h | h)
   ·exact .inr (List.mem_of_mem_take h)
   ·exact .inl h
   ·exact .inr (List.mem_of_mem_drop h)
  ·rintro (h | h)
   ·exact .inr (.inl h)
   ·rw [← List.take_append_drop (placeOf L a.id) L,List.mem_append] at h
    rcases h with h | h
    ·exact .inl h
    ·exact .inr (.inr h)
 have hok:AOk m (insAcc L (placeOf L a.id) a):=by
  refine ⟨fun x hx=>?_,?_⟩
  ·rcases (hmem x).1 hx with rfl | hx
   ·exact ha
   ·exact h.ok x hx
  ·unfold SortedA insAcc
   have hs:=h.sorted
   unfold SortedA at hs
   rw [← List.take_append_drop (placeOf L a.id) L] at hs
   obtain ⟨s1,s2,s3⟩:=List.pairwise_append.1 hs
   refine List.pairwise_append.2 ⟨s1,List.pairwise_cons.2 ⟨fun x hx=>?_,s2⟩,fun x hx y hy=>?_⟩
   ·have:=k3 x hx
    have hne:=there_not.1 ht x (List.mem_of_mem_drop hx)
    omega
   ·rcases List.mem_cons.1 hy with rfl | hy
    ·exact k2 x hx
    ·exact s3 x hx y hy
 have hat:(insAcc L (placeOf L a.id) a)[placeOf L a.id]?=some a:=by
  unfold insAcc
  rw [List.getElem?_append_right (by rw [List.length_take];omega),List.length_take,Nat.min_eq_left k1,Nat.sub_self];rfl
 refine ⟨hok,hat,fun id=>?_,fun id=>?_⟩
 ·by_cases hid:id=a.id
  ·rw [if_pos hid,hid];exact accOf_at hok.sorted hat
  ·rw [if_neg hid]
   cases hti:thereB L id with
   | false =>
    rw [accOf_none hti,accOf_none]
    refine there_not.2 fun x hx=>?_
    rcases (hmem x).1 hx with rfl | hx
    ·exact fun e=>hid e.symm
    ·exact there_not.1 hti x hx
   | true =>
    obtain ⟨c,hc,hci⟩:=place_there h.sorted hti
    have hm:c ∈ insAcc L (placeOf L a.id) a:=(hmem c).2 (.inr (List.mem_of_getElem? hc))
    obtain ⟨j,hj⟩:=List.mem_iff_getElem?.1 hm
    rw [← hci,accOf_at h.sorted hc,accOf_at hok.sorted hj]
 ·rw [there_iff,there_iff]
  constructor
  ·rintro ⟨x,hx,he⟩
   rcases (hmem x).1 hx with rfl | hx
   ·exact .inl he.symm
   ·exact .inr ⟨x,hx,he⟩
  ·rintro (he | ⟨x,hx,he⟩)
   ·exact ⟨a,(hmem a).2 (.inl rfl),he.symm⟩
   ·exact ⟨x,(hmem x).2 (.inr hx),he⟩
theorem getD_replicate (n k:Nat):(List.replicate n (0:Int)).getD k 0=0:=by
 rw [List.getD,List.getElem?_replicate];split <;> rfl
theorem posOk_replicate (n:Nat):posOk (List.replicate n 0)=true:=by
 simp only [posOk,List.all_eq_true]
 intro x hx
 rw [List.eq_of_mem_replicate hx];decide
theorem posOf_def (L:List Ac) (k:Nat) (id:Int):posOf L k id=(accOf L id).pos.getD k 0:=rfl
theorem move_vok {v:Vn} {k:Nat} {n:Int} {a:Ac} (hl:1 ≤ v.mks.length∧v.mks.length ≤ 2) (ha:AOk v.mks.length v.accs) (hn:NOk v) (hm:v.ins + v.resid + balSum v.accs + n=v.inn - v.out) (hp:∀ k,k < v.mks.length→posSum k v.accs=0) (hk:MOk v.accs v.next v.mks)
  (hat:v.accs[k]?=some a) (hb:isMoney (a.bal + n)=true):VOk (setAcc v k { a with bal:=a.bal + n }):=by
 have hc:=accCheck_ok (ha.ok a (List.mem_of_getElem? hat))
 have hids:(v.accs.set k { a with bal:=a.bal + n }).map (·.id)=v.accs.map (·.id):=ids_set hat rfl
 refine ⟨hl,aok_set ha hat rfl (accCheck_mk hc.1 hc.2.1 hc.2.2.1 (isMoney_iff.1 hb) hc.2.2.2.2),⟨hn.ins,hn.resid,hn.next,hn.inn,hn.out⟩,?_,fun j hj=>?_,mok_there hk (fun id hi=>by rw [← hi];exact there_map hids id) (Int.le_refl _)⟩
 ·show v.ins + v.resid + balSum (v.accs.set k _)=v.inn - v.out
  rw [balSum_set hat];simp only;omega
 ·show posSum j (v.accs.set k _)=0
  rw [posSum_set hat]
  have:=hp j hj
  simp only;omega
theorem evMoney_moved (place:Bool) (acc n id:Int):evMoney place ⟨5,0,0,0,acc,n,zeroFl⟩ id=if id=acc then n else 0:=by unfold evMoney;rw [if_pos rfl]
theorem evPos_moved (acc n id:Int) (k:Nat):evPos ⟨5,0,0,0,acc,n,zeroFl⟩ k id=0:=by unfold evPos;rw [if_neg (by simp)]
theorem cash_step {place:Bool} {c:Cm} {d d':Dk} (h:VOk d.v) (hc:cashE c d=.ok d'):∃ m,Step place d d' [⟨5,0,0,0,c.acc,m,zeroFl⟩]∧d'.v.mks=d.v.mks∧d'.v.ins=d.v.ins∧d'.v.resid=d.v.resid∧d'.v.next=d.v.next∧(1 ≤ c.n∧c.n ≤ 1000000000000)∧(0 ≤ c.acc∧c.acc ≤ 7) ∧
  (c.kind=1→m=c.n∧d'.v.inn=d.v.inn + c.n∧d'.v.out=d.v.out)∧(c.kind ≠ 1→m = -c.n∧d'.v.inn=d.v.inn∧d'.v.out=d.v.out + c.n∧thereB d.v.accs c.acc=true∧beginErr d'.v (accOf d'.v.accs c.acc)=0):=by
 unfold cashE at hc
 split at hc
 ·cases hc
 rename_i hn
 split at hc
 ·cases hc
 rename_i hacc
 have hnum:=h.nums
 have k1:=hnum.inn
 have k2:=hnum.out
 split at hc
 ·rename_i hk1
  obtain ⟨e1,hc⟩:=okIf_ok hc
  obtain ⟨s,hs⟩:∃ s,addAll [d.v.inn,c.n]=(s,0):=⟨_,Prod.ext rfl e1⟩
  rw [hs] at hc
  obtain ⟨s1,s2⟩:=add_two hs
  subst s1
  rw [isMoney_iff] at s2
  obtain ⟨L,hL⟩:∃ L,L=(if thereB d.v.accs c.acc=true then d.v.accs else insAcc d.v.accs (placeOf d.v.accs c.acc) ⟨c.acc,0,List.replicate d.v.mks.length 0⟩):=⟨_,rfl⟩
  rw [← hL] at hc
  have key:AOk d.v.mks.length L∧(∃ a,L[placeOf d.v.accs c.acc]?=some a∧a.id=c.acc)∧balSum L=balSum d.v.accs∧(∀ k,posSum k L=posSum k d.v.accs)∧(∀ id,balOf L id=balOf d.v.accs id)∧(∀ k id,posOf L k id=posOf d.v.accs k id)∧(∀ id,thereB d.v.accs id=true→thereB L id=true):=by
   cases ht:thereB d.v.accs c.acc with
   | true =>
    rw [ht,if_pos rfl] at hL
    subst hL
    exact ⟨h.accs,place_there h.accs.sorted ht,rfl,fun _=>rfl,fun _=>rfl,fun _ _=>rfl,fun _ h=>h⟩
   | false =>
    rw [ht,if_neg (by simp)] at hL
    obtain ⟨i1,i2,i3,i4⟩:=ins_spec (a:=⟨c.acc,0,List.replicate d.v.mks.length 0⟩) h.accs (accCheck_mk (by simp only;omega) (by have:=h.len;omega) (by simp) (by simp only;omega) (posOk_replicate _)) ht
    simp only at i1 i2 i3 i4
    rw [← hL] at i1 i2 i3 i4
    refine ⟨i1,⟨_,i2,rfl⟩,?_,fun k=>?_,fun id=>?_,fun k id=>?_,fun id hi=>(i4 id).2 (.inr hi)⟩
    ·rw [hL];unfold insAcc balSum;rw [sum_ins];simp
    ·rw [hL];unfold insAcc posSum;rw [sum_ins];simp only [getD_replicate];omega
    ·unfold balOf;rw [i3]
     by_cases hid:id=c.acc
     ·rw [if_pos hid,hid,accOf_none ht];rfl
     ·rw [if_neg hid]
    ·rw [posOf_def,posOf_def,i3]
     by_cases hid:id=c.acc
     ·rw [if_pos hid,hid,accOf_none ht];simp only [getD_replicate];rfl
     ·rw [if_neg hid]
  obtain ⟨a1,⟨a,a2,a3⟩,a4,a5,a6,a7,a8⟩:=key
  obtain ⟨m1,m2,rfl⟩:=move_ok (d:=⟨{ d.v with accs:=L,inn:=d.v.inn + c.n },d.ev⟩) a2 hc
  rw [isMoney_iff] at m1
  have hmoney:=h.money
  have hv:=move_vok (v:={ d.v with accs:=L,inn:=d.v.inn + c.n }) (n:=c.n) h.len a1 ⟨hnum.ins,hnum.resid,hnum.next,by simp only;omega,hnum.out⟩ (by simp only;omega) (fun k hk=>by rw [a5];exact h.pos k hk) (mok_there h.mks a8 (Int.le_refl _)) a2 m2
  refine ⟨c.n,⟨hv,by rw [← a3];rfl,by simp,by simp,?_,fun id=>?_,fun k id=>?_,rfl,fun id hi=>?_,?_⟩,rfl,rfl,rfl,rfl,by omega,by omega,fun _=>⟨rfl,rfl,rfl⟩,fun hk=>absurd hk1 hk⟩
  ·intro x hx _;simp only [List.mem_singleton] at hx;subst hx;simp only;omega
  ·show (accOf (L.set _ _) id).bal=_
   rw [accOf_set a1 a2 (b:={ a with bal:=a.bal + c.n }) rfl,← a6 id]
   simp only [moneySum,List.map_cons,List.map_nil,List.sum_cons,List.sum_nil,evMoney_moved]
   by_cases hid:id=c.acc
   ·rw [if_pos (hid.trans a3.symm),if_pos hid]
    unfold balOf
    rw [hid,← a3,accOf_at a1.sorted a2];simp only;omega
   ·rw [if_neg (by rw [a3];exact hid),if_neg hid];unfold balOf;omega
  ·show posOf (L.set _ _) k id=_
   rw [posOf_bal a1 a2 (b:={ a with bal:=a.bal + c.n }) rfl rfl,a7]
   simp [posSumE,evPos_moved]
  ·show thereB (L.set _ _) id=true
   rw [there_map (ids_set a2 (b:={ a with bal:=a.bal + c.n }) rfl)];exact a8 id hi
  ·simp only [tell,setAcc];omega
 ·rename_i hk1
  split at hc
  ·cases hc
  rename_i ht
  have ht:thereB d.v.accs c.acc=true:=by simpa using ht
  obtain ⟨e1,hc⟩:=okIf_ok hc
  obtain ⟨s,hs⟩:∃ s,addAll [d.v.out,c.n]=(s,0):=⟨_,Prod.ext rfl e1⟩
  rw [hs] at hc
  obtain ⟨s1,s2⟩:=add_two hs
  subst s1
  rw [isMoney_iff] at s2
  obtain ⟨d1,hc1,hc⟩:=bindE_ok hc
  obtain ⟨e2,hc⟩:=okIf_ok hc
  injection hc with hc
  subst hc
  obtain ⟨a,a2,a3⟩:=place_there h.accs.sorted ht
  obtain ⟨m1,m2,rfl⟩:=move_ok (d:=⟨{ d.v with out:=d.v.out + c.n },d.ev⟩) a2 hc1
  rw [isMoney_iff] at m1
  have hmoney:=h.money
  have hv:=move_vok (v:={ d.v with out:=d.v.out + c.n }) (n:=-c.n) h.len h.accs ⟨hnum.ins,hnum.resid,hnum.next,hnum.inn,by simp only;omega⟩ (by simp only;omega) h.pos h.mks a2 m2
  refine ⟨-c.n,⟨hv,by rw [← a3];rfl,by simp,by simp,?_,fun id=>?_,fun k id=>?_,rfl,fun id hi=>?_,?_⟩,rfl,rfl,rfl,rfl,by omega,by omega,fun hk=>absurd hk hk1,fun _=>⟨rfl,rfl,rfl,ht,?_⟩⟩
  ·intro x hx _;simp only [List.mem_singleton] at hx;subst hx;simp only;omega
  ·show (accOf (d.v.accs.set _ _) id).bal=_
   rw [accOf_set h.accs a2 (b:={ a with bal:=a.bal + -c.n }) rfl]
   simp only [moneySum,List.map_cons,List.map_nil,List.sum_cons,List.sum_nil,evMoney_moved]
   by_cases hid:id=c.acc
   ·rw [if_pos (hid.trans a3.symm),if_pos hid]
    unfold balOf
    rw [hid,← a3,accOf_at h.accs.sorted a2];simp only;omega
   ·rw [if_neg (by rw [a3];exact hid),if_neg hid];unfold balOf;omega
  ·show posOf (d.v.accs.set _ _) k id=_
   rw [posOf_bal h.accs a2 (b:={ a with bal:=a.bal + -c.n }) rfl rfl]
   simp [posSumE,evPos_moved]
  ·show thereB (d.v.accs.set _ _) id=true
   rw [there_map (ids_set a2 (b:={ a with bal:=a.bal + -c.n }) rfl)];exact hi
  ·simp only [tell,setAcc];omega
  ·have hat2:(d.v.accs.set (placeOf d.v.accs c.acc) { a with bal:=a.bal + -c.n })[placeOf d.v.accs c.acc]?=some { a with bal:=a.bal + -c.n }:=by rw [set_at a2,if_pos rfl]
   have e3:∀ v':Vn,v'.accs=d.v.accs.set (placeOf d.v.accs c.acc) { a with bal:=a.bal + -c.n }→accAt v' (placeOf d.v.accs c.acc) = { a with bal:=a.bal + -c.n }∧accOf v'.accs c.acc = { a with bal:=a.bal + -c.n }:=by
    intro v' hv'
    refine ⟨getD_some (by rw [hv'];exact hat2),?_⟩
    rw [hv']
    have:=accOf_at (aok_set h.accs a2 (b:={ a with bal:=a.bal + -c.n }) rfl (by
     have hcc:=accCheck_ok (h.accs.ok a (List.mem_of_getElem? a2))
     exact accCheck_mk hcc.1 hcc.2.1 hcc.2.2.1 (isMoney_iff.1 m2) hcc.2.2.2.2)).sorted hat2
    simp only [a3] at this
    rw [a3];exact this
   rw [(e3 _ rfl).1] at e2
   rw [(e3 _ rfl).2];exact e2
end
end Go.Proofs.Ytockodmbhnlheaa
