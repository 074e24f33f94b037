import Derived.Test.YtockodmbhnlheaaGreatDoorBC
import Derived.Test.YtockodmbhnlheaaGreatDoorBA
namespace Go.Proofs.YtockodmbhnlheaaGreatDoor
section
open Go.RowKit
structure Teller (w:World) (base D:Nat) (DA:Option Addr) (dc:Nat) (DM:Option Addr) (dk:Nat) (v:Vn) (E:List Ev) (vE:Value):Prop where
 blk:Blk w D 113 #[.slice DA v.accs.length dc,.slice DM v.mks.length dk,.int .i64 v.ins,.int .i64 v.resid,.int .i64 v.next,.int .i64 v.inn,.int .i64 v.out,vE]
 low:base ≤ D
 evs:w.ownsRow base 57 13 vE E.length (za4 E)
section
variable {w w':World} {base D dc dk:Nat} {DA DM:Option Addr} {v:Vn} {E:List Ev} {vE:Value}
theorem Teller.below (h:Teller w base D DA dc DM dk v E vE) (hb:Below w.heap.size w w'):Teller w' base D DA dc DM dk v E vE:=⟨h.blk.below hb h.blk.lt,h.low,zaf h.evs hb (zl _)⟩
theorem Teller.fr {S:List TypeId} {G:List Nat} (h:Teller w base D DA dc DM dk v E vE) (hf:Fr S G w w') (h1:113 ∉ S) (h2:57 ∉ S) (hG:∀ g ∈ G,∃ cs,Blk w g 32 cs):Teller w' base D DA dc DM dk v E vE:=by
 refine ⟨h.blk.fr hf h1 fun hm=>?_,h.low,hf.own h.evs h2 fun g hg hm=>?_⟩
 ·obtain ⟨cs,hb⟩:=hG D hm;exact zd1 h.blk hb (by decide) rfl
 ·obtain ⟨cs,hb⟩:=hG g hm;exact zcA h.evs hb (by decide) hg
end
def ztM (w:World) (base D:Nat) (DA:Option Addr) (dc:Nat) (DM:Option Addr) (dk:Nat) (v:Vn) (E:List Ev) (e:Ending) (w':World):Prop :=
 e=.returned (.tuple #[])∧(∃ vE,Teller w' base D DA dc DM dk v E vE)∧Below base w w'∧Kept [113,57] w w'
set_option maxHeartbeats 2000000 in
theorem zsa (base D:Nat) (DA:Option Addr) (dc:Nat) (DM:Option Addr) (dk:Nat) (v:Vn) (E0:List Ev) (vE:Value) (x:Ev) (w:World) (h:Teller w base D DA dc DM dk v E0 vE) (hb:base ≤ w.heap.size) (hl:E0.length ≤ 1000000) :
  Calls Tryz.prog 97 #[.pointer (some ⟨D,0,none⟩),.agg #[.int .i64 x.kind,.int .i64 x.err,.int .i64 x.market,.int .i64 x.id,.int .i64 x.acc,.int .i64 x.n,.int .i64 x.f.maker,.int .i64 x.f.taker,.int .i64 x.f.macc,.int .i64 x.f.tacc,.int .i64 x.f.side,.int .i64 x.f.price,.int .i64 x.f.qty]] w (ztM w base D DA dc DM dk v (E0 ++ [x])):=by
 have HD:=zi h;have hDl:=h.blk.lt;obtain ⟨E,e,rfl⟩:=zad h.evs;clear h;go_enter Tryz.func97,Tryz.ntmps97
 go_wp2_with fail
 obtain ⟨W,hW⟩:∃ x',x'=w.alloc (.cells #[.int .i64 x.kind,.int .i64 x.err,.int .i64 x.market,.int .i64 x.id,.int .i64 x.acc,.int .i64 x.n,.int .i64 x.f.maker,.int .i64 x.f.taker,.int .i64 x.f.macc,.int .i64 x.f.tacc,.int .i64 x.f.side,.int .i64 x.f.price,.int .i64 x.f.qty] 57):=⟨_,rfl⟩;have hbW:Below w.heap.size w W:=by rw [hW];exact (Below.refl _ _).alloc (zl _) _
 have hsW:W.heap.size=w.heap.size + 1:=by rw [hW];simp
 have X1:Blk W w.heap.size 57 #[.int .i64 x.kind,.int .i64 x.err,.int .i64 x.market,.int .i64 x.id,.int .i64 x.acc,.int .i64 x.n,.int .i64 x.f.maker,.int .i64 x.f.taker,.int .i64 x.f.macc,.int .i64 x.f.tacc,.int .i64 x.f.side,.int .i64 x.f.price,.int .i64 x.f.qty]:=by rw [hW];exact Blk.new w _ _
 rw [← hW];have HW:=zi (HD.out.below hbW);clear hW;obtain ⟨⟨-,-,-,-,-,-,-,k7⟩,-,-,-,-,-,-,-,f7⟩:=HW.out.blk.c8;have e0:=X1.cell 0;have e1:=X1.cell 1;have e2:=X1.cell 2;have e3:=X1.cell 3;have e4:=X1.cell 4;have e5:=X1.cell 5;have e6:=X1.cell 6;have e7:=X1.cell 7;have e8:=X1.cell 8;have e9:=X1.cell 9;have e10:=X1.cell 10;have e11:=X1.cell 11;have e12:=X1.cell 12;have HNE:=zi (zcA HW.out.evs HW.out.blk (by decide));have KW:Hid (∀ ob W4,((W.alloc ob).drew).grownBy W4 (Value.slice E E0.length e).ownBlock→Blk W4 D 113 #[.slice DA v.accs.length dc,.slice DM v.mks.length dk,.int .i64 v.ins,.int .i64 v.resid,.int .i64 v.next,.int .i64 v.inn,.int .i64 v.out,.slice E E0.length e]):=fun ob W4 hg=>(show Blk ((W.alloc ob).drew) D _ _ from HW.out.blk.alloc ob).grown hg HNE.out;go_wp2_with fail
 go_region_law (refine zdq rfl _ _ 52 rfl base 57 13 104 zn3 (.slice E E0.length e) E0.length (za4 E0) (by simp [Act.eval]) (zaz (World.ownsRow.alloc HW.out.evs _) 1) (W.heap.size + 1) (some ⟨W.heap.size,0,none⟩) 1 1 (za4 [x]) (by simp [Act.eval]) (zf5 _ _ _ 13 rfl rfl _ rfl).drew1 (zg7 _) (by simp only [maxLen];omega) (by omega) (by simp;omega) ?_;intro vE' W4 hown4 hbel4 hgrow hat;obtain ⟨E',e',rfl⟩:=zad hown4;have g7:=(KW.out _ _ hgrow).cell 7;have gf7:=(KW.out _ _ hgrow).frozen 7;simp only [List.getElem?_toArray,List.getElem?_cons_succ,List.getElem?_cons_zero] at g7)
 all_goals
  have hD4:=KW.out _ _ hgrow;have hK4:Kept [113,57] W W4:=(((Kept.refl _ W).alloc _).drew).grown (zaz (World.ownsRow.alloc HW.out.evs _) 1) hgrow (by decide);have hK5:=hK4.set hD4 (by decide) 7 (.slice E' (E0.length + 1) e');have hK6:Kept [113] W4 (W4.setCell ⟨D,7,none⟩ (.slice E' (E0.length + 1) e')):=(Kept.refl _ W4).set hD4 (by decide) 7 _;have hB4:Below base w W4:=(hbW.mono hb).trans ((zac ((Below.refl _ W).alloc (by omega) _) 1).trans hbel4);have hev5:=hK6.own hown4 (by decide);rw [← zg6] at hev5;go_end0
  refine ⟨rfl,⟨.slice E' (E0.length + 1) e',hD4.set_ 7 _,HW.out.low,?_⟩,hB4.setCell HW.out.low _,(Kept.of_below _ hbW).trans hK5⟩;rw [List.length_append];exact hev5
structure Caps (w:World) (D gi gd gk:Nat) (id:Int) (i:Nat):Prop where
 who:Blk w gi 3 #[.int .i64 id]
 desk:Blk w gd 111 #[.pointer (some ⟨D,0,none⟩)]
 mkt:Blk w gk 3 #[.int .i64 i]
section
variable {w w':World} {D gi gd gk i:Nat} {id:Int}
theorem Caps.below (h:Caps w D gi gd gk id i) (hb:Below w.heap.size w w'):Caps w' D gi gd gk id i:=⟨h.who.below hb h.who.lt,h.desk.below hb h.desk.lt,h.mkt.below hb h.mkt.lt⟩
theorem Caps.fr {S:List TypeId} {G:List Nat} (h:Caps w D gi gd gk id i) (hf:Fr S G w w') (h1:3 ∉ S) (h2:111 ∉ S) (hG:∀ g ∈ G,∃ cs,Blk w g 32 cs):Caps w' D gi gd gk id i:=by
 refine ⟨h.who.fr hf h1 fun hm=>?_,h.desk.fr hf h2 fun hm=>?_,h.mkt.fr hf h1 fun hm=>?_⟩
 ·obtain ⟨cs,hb⟩:=hG _ hm;exact zd1 h.who hb (by decide) rfl
 ·obtain ⟨cs,hb⟩:=hG _ hm;exact zd1 h.desk hb (by decide) rfl
 ·obtain ⟨cs,hb⟩:=hG _ hm;exact zd1 h.mkt hb (by decide) rfl
end
def zb1 (id:Int) (x:Od):Bool:=decide (x.acc=id)
theorem zsb {i:Nat} {id:Int} {o:Od} (h:o.acc=id):zaF i id [o] = [⟨4,0,i,o.id,id,o.qty,zba⟩]:=by unfold zaF;rw [List.filter_cons_of_pos (by simpa using h)];rfl
theorem zob {i:Nat} {id:Int} {o:Od} (h:¬ o.acc=id):zaF i id [o] = []:=by unfold zaF;rw [List.filter_cons_of_neg (by simpa using h)];rfl
theorem zsc {i:Nat} {id:Int} {l m:List Od}:zaF i id (l ++ m)=zaF i id l ++ zaF i id m:=by unfold zaF;rw [List.filter_append,List.map_append]
theorem zls {i:Nat} {id:Int} {L:List Od} {j:Nat} {x:Od} (h:L[j]?=some x):zaF i id (L.take (j + 1))=zaF i id (L.take j) ++ zaF i id [x]:=by
 rw [List.take_add_one,h,← zsc];rfl
theorem zmG {i:Nat} {id:Int} {l:List Od} (h:l.all (fun y=>!zb1 id y)=true):zaF i id l = []:=by
 unfold zaF;rw [List.filter_eq_nil_iff.2,List.map_nil];intro x hx;rw [List.all_eq_true] at h;have:=h x hx;simpa [zb1] using this
theorem zjn {i:Nat} {id:Int} {l:List Od}:(zaF i id l).length ≤ l.length:=by unfold zaF;rw [List.length_map];exact List.length_filter_le _ _
set_option maxHeartbeats 1000000 in
theorem zkd (base D:Nat) (DA:Option Addr) (dc:Nat) (DM:Option Addr) (dk:Nat) (v:Vn) (E:List Ev) (vE:Value) (o:Od) (id:Int) (i gi gd gk:Nat) (w:World) (ht:Teller w base D DA dc DM dk v E vE) (hc:Caps w D gi gd gk id i) (hb:base ≤ w.heap.size) (hl:E.length ≤ 1000000) :
  Calls Tryz.prog 142 #[.agg #[.int .i64 o.id,.int .i64 o.acc,.int .i64 o.side,.int .i64 o.price,.int .i64 o.qty],.pointer (some ⟨gi,0,none⟩),.pointer (some ⟨gd,0,none⟩),.pointer (some ⟨gk,0,none⟩)] w fun e w' =>
   e=.returned (.bool (zb1 id o))∧(∃ vE',Teller w' base D DA dc DM dk v (E ++ zaF i id [o]) vE')∧Below base w w'∧Fr [113,57] [] w w':=by
 have HT:=zi ht;have HC:=zi hc;have c1:=hc.who.cell 0;have c2:=hc.desk.cell 0;have c3:=hc.mkt.cell 0;have y1:=hc.who.lt;have y2:=hc.desk.lt;have y3:=hc.mkt.lt;simp only [List.getElem?_toArray,List.getElem?_cons_zero] at c1 c2 c3;clear ht hc;by_cases h:o.acc=id
 ·have h':(o.acc == id)=true:=by simpa using h
  have HE:=zi (zsb (i:=i) h);have HV:=zi (show zb1 id o=true by simpa [zb1] using h);clear h;go_enter Tryz.func142,Tryz.ntmps142
  go_wp2_with fail
  refine zak ?_;intro W1 hW1;have hB1:Below w.heap.size w W1:=by rw [hW1];exact (Below.refl _ _).alloc (zl _) _
  have X1:Blk W1 w.heap.size 32 #[.int .i64 o.id,.int .i64 o.acc,.int .i64 o.side,.int .i64 o.price,.int .i64 o.qty]:=by rw [hW1];exact Blk.new w _ _
  have hs1:=hB1.size;have HC1:=zi (HC.out.below hB1);clear hW1 c1 c2 c3;refine (zsa base D DA dc DM dk v E vE ⟨4,0,i,o.id,id,o.qty,zba⟩ W1 (HT.out.below hB1) (by omega) hl).mono ?_;rintro e W2 ⟨rfl,⟨vE2,ht2⟩,hL2,hK2⟩;have X2:=X1.kept hK2 (by decide);have c1:=((HC1.out.who.kept hK2 (by decide))).cell 0;have y4:=((HC1.out.who.kept hK2 (by decide))).lt;have y5:=X2.lt;have HT2:=zi ht2;have HL2:=zi ((hB1.mono hb).trans hL2);have HF2:=zi ((Fr.of_below [113,57] [] hB1).trans (hK2.fr []));clear ht2 hL2 hK2 X1;obtain ⟨⟨kX20,kX21,kX22,kX23,kX24⟩,-⟩:=X2.c5;go_wp2_with fail
  go_ret;exact ⟨zbl HV.out.symm,⟨vE2,by rw [HE.out];exact HT2.out⟩,HL2.out,HF2.out⟩
 ·have h':(o.acc == id)=false:=by simpa using h
  have HE:=zi (zob (i:=i) h);have HV:=zi (show zb1 id o=false by simpa [zb1] using h);clear h;go_enter Tryz.func142,Tryz.ntmps142
  go_wp2_with fail
  go_ret;have hB1:Below w.heap.size w (w.alloc (.cells #[.int .i64 o.id,.int .i64 o.acc,.int .i64 o.side,.int .i64 o.price,.int .i64 o.qty] 32)):=(Below.refl _ _).alloc (zl _) _;exact ⟨zbl HV.out.symm,⟨vE,by rw [HE.out,List.append_nil];exact HT.out.below hB1⟩,hB1.mono hb,Fr.of_below _ _ hB1⟩
end
section
theorem zim {d d':Dk} {E:List Ev} (h:Swept d d' E):d'.v.accs.length=d.v.accs.length:=by
 have e:=congrArg List.length h.ids;simpa only [List.length_map] using e
theorem zi4 {i:Nat} {id:Int} {l:List Od}:(zaF i id l).length ≤ l.length:=by unfold zaF;rw [List.length_map];exact List.length_filter_le _ _
theorem znA {id:Int} {i:Nat} {d:Dk} (h:VOk d.v) (hi:i < d.v.mks.length):(zcV id i d).ev.length ≤ d.ev.length + 40:=by
 have hm:=(za2.1 (zem h hi).1).1.len;have h1:=zi4 (i:=i) (id:=id) (l:=(mkAt d.v i).book.bids);have h2:=zi4 (i:=i) (id:=id) (l:=(mkAt d.v i).book.asks);show (d.ev ++ _ ++ _).length ≤ _;rw [List.length_append,List.length_append];omega
theorem zh0 {id:Int}:∀ {n i:Nat} {d:Dk},VOk d.v→i + n ≤ d.v.mks.length→(zc4 id n i d).ev.length ≤ d.ev.length + 40 * n
 | 0,i,d,_,_=>by show d.ev.length ≤ _;omega
 | n + 1,i,d,h,hl=>by
  have h1:=znA (id:=id) (i:=i) h (by omega);obtain ⟨s1,_⟩:=zjg (id:=id) (i:=i) h (by omega);have h2:=zh0 (id:=id) (n:=n) (i:=i + 1) (d:=zcV id i d) s1.step.ok (by rw [s1.step.len];omega);show (zc4 id n (i + 1) (zcV id i d)).ev.length ≤ _;omega
theorem zqN {id:Int} {d:Dk} (h:VOk d.v):(zcH id d).ev.length ≤ d.ev.length + 80:=by
 have h1:=zh0 (id:=id) (n:=d.v.mks.length) (i:=0) (d:=d) h (by omega);have h2:=h.len;show (zc4 id d.v.mks.length 0 d).ev.length ≤ _;omega
theorem zh1 {market:Nat} {id side price:Int}:∀ {fuel:Nat} {left:Int} {d d':Dk},zbA market id side price fuel left d=.ok d'→d'.ev.length ≤ d.ev.length + left.toNat
 | 0,left,d,d',h=>by injection h with h;subst h;omega
 | fuel + 1,left,d,d',h=>by
  unfold zbA at h;split at h
  ·injection h with h;subst h;omega
  rename_i hl;split at h
  ·cases h
  rename_i i y ho;obtain ⟨a,ha,hpa⟩:=zhL ho;have hat:zaR d.v i=a:=zaY ha;rw [hat] at h;obtain ⟨v1,_,h⟩:=zdo h;have hp0:a.pos.getD market 0 ≠ 0:=by intro e;rw [e] at hpa;omega
  have h2:=zh1 h;have hev:(tell ⟨v1,d.ev⟩ ⟨6,0,market,0,a.id,0,⟨0,0,a.id,id,side,price,min left (max (a.pos.getD market 0) (-a.pos.getD market 0))⟩⟩).ev.length=d.ev.length + 1:=by
   show (d.ev ++ [_]).length=_;rw [List.length_append];rfl
  rw [hev] at h2;omega
theorem zpb {k market:Nat} {marks:List Int} {d d':Dk} {a:Ac} (ha:d.v.accs[k]?=some a) (hm:market < d.v.mks.length) (hc:zce k market marks d=.ok d'):d'.ev.length ≤ d.ev.length + 1040:=by
 obtain ⟨m,hmk⟩:∃ m,d.v.mks[market]?=some m:=⟨_,List.getElem?_eq_getElem hm⟩;obtain ⟨price,e,hb⟩:∃ price e,zcd a marks market=(price,e):=⟨_,_,rfl⟩;rw [zld ha hb rfl] at hc;obtain ⟨_,hc⟩:=zcF hc;obtain ⟨x,l,left,met,te,ht⟩:∃ x l left met te,za1 m.book (zhi a price (a.pos.getD market 0))=(x,l,left,met,te):=⟨_,_,_,_,_,rfl⟩;rw [znZ hmk ht] at hc;obtain ⟨e2,hc⟩:=zcF hc;subst e2;obtain ⟨d1,h1,hc⟩:=zdo hc;have k1:=zfz h1;have k2:=zjS ht;have k3:=zh1 hc;obtain ⟨_,_,b3,_,_,b6,_⟩:=zgM ht;have hq:=(zaP.1 b3).2.2.2.2;have k4:d1.ev.length=d.ev.length + l.length:=k1;omega
theorem zlS {k n i:Nat} {marks:List Int} {d:Dk} {a:Ac} {p:Int} (ha:d.v.accs[k]?=some a) (hp:a.pos.getD i 0=p) :
  zbD k marks (n + 1) i d=if p=0 then zbD k marks n (i + 1) d else zby (zce k i marks d) fun d=>zbD k marks n (i + 1) d:=by
 have hat:zaR d.v k=a:=zaY ha;conv=>lhs;unfold zbD
 rw [hat,hp]
theorem zmH {k:Nat} {d:Dk} {a:Ac} {n:Int} (ha:d.v.accs[k]?=some a) (hn:min d.v.ins (-a.bal)=n) :
  zdn k d=if 0 < n then zc0 k n ⟨{ d.v with ins:=d.v.ins - n },d.ev⟩ else .ok d:=by
 have hat:zaR d.v k=a:=zaY ha;unfold zdn;rw [hat,hn]
theorem zqO {n k:Nat} {marks:List Int} {d:Dk} {a:Ac} {b g:Bool} {es:Int} (ha:d.v.accs[k]?=some a) (hs:zbF a marks=(b,g,es)) :
  zbL marks (n + 1) k d=okIf es (if g=true then zbL marks n (k + 1) d else zby (zbD k marks d.v.mks.length 0 (zcH a.id d)) fun d=>zby (zdn k d) fun d=>zbL marks n (k + 1) d):=by
 have hat:zaR d.v k=a:=zaY ha;conv=>lhs;unfold zbL
 rw [hat,hs]
theorem zqP {i:Nat} {n:Int} {d d':Dk} (h:zc0 i n d=.ok d'):d'.ev.length=d.ev.length + 1:=by
 unfold zc0 at h;obtain ⟨_,h⟩:=zcF h;injection h with h;subst h;show (d.ev ++ [_]).length=_;rw [List.length_append];rfl
structure Half (d d1:Dk) (n:Nat):Prop where
 ok:VOk d1.v
 accs:d1.v.accs.length=d.v.accs.length
 mks:d1.v.mks.length=d.v.mks.length
 ev:d1.ev.length ≤ d.ev.length + n
theorem zpc {id:Int} {d:Dk} (h:VOk d.v):Half d (zcH id d) 80∧(zcH id d).v.accs=d.v.accs:=by
 obtain ⟨E,s,a,_⟩:=zmm (id:=id) h;have h1:=zqN (id:=id) h;exact ⟨⟨s.step.ok,zim s,s.step.len,h1⟩,a⟩
theorem znB {k i n q:Nat} {marks:List Int} {d0 d d':Dk} {a:Ac} (h:Half d0 d n) (ha:d.v.accs[k]?=some a) (hi:i < d.v.mks.length) (hp:a.pos.getD i 0 ≠ 0) (hc:zce k i marks d=.ok d') (hq:n + 1040 ≤ q):Half d0 d' q:=by
 obtain ⟨E,s,_⟩:=zlb h.ok hi ha hp hc;have h1:=zpb ha hi hc;exact ⟨s.step.ok,(zim s).trans h.accs,s.step.len.trans h.mks,by have:=h.ev;omega⟩
theorem zpd {k n:Nat} {d0 d d':Dk} {a:Ac} (h:Half d0 d n) (ha:d.v.accs[k]?=some a) (hc:zdn k d=.ok d'):Half d0 d' (n + 1):=by
 obtain ⟨E,s,_⟩:=zmn h.ok ha hc;refine ⟨s.step.ok,(zim s).trans h.accs,s.step.len.trans h.mks,?_⟩;have h2:=h.ev;rw [zmH ha rfl] at hc;split at hc
 ·have:=zqP hc;have h3:d'.ev.length=d.ev.length + 1:=this;omega
 ·injection hc with hc;subst hc;omega
theorem Half.mono {d d1:Dk} {n m:Nat} (h:Half d d1 n) (hm:n ≤ m):Half d d1 m:=⟨h.ok,h.accs,h.mks,by have:=h.ev;omega⟩
theorem Half.trans {d d1 d2:Dk} {n m:Nat} (h:Half d d1 n) (g:Half d1 d2 m):Half d d2 (n + m):=⟨g.ok,g.accs.trans h.accs,g.mks.trans h.mks,by have:=h.ev;have:=g.ev;omega⟩
end
section
open Go.RowKit
theorem zmI {e:Int} (v:Vn) (A M:Option Addr) (c k:Nat) (B:Nat) (w:World) (hr:zcC v.accs v.next v.mks=e) (h:VnR w B A c M k v) (hB:B ≤ w.heap.size) (ha:AOk v.mks.length v.accs) :
  Calls Tryz.prog 50 #[.agg #[.slice A v.accs.length c,.slice M v.mks.length k,.int .i64 v.ins,.int .i64 v.resid,.int .i64 v.next,.int .i64 v.inn,.int .i64 v.out]] w fun e' w'=>e'=.returned (.int .i64 e)∧Below w.heap.size w w':=by rw [← hr];exact zmD v A M c k B w h hB ha
theorem zpe (w:World) (base m:Nat) (hb:base ≤ w.heap.size) (hm:m ≤ maxLen):(w.alloc (.cells (zdG m) 3)).ownsRow base 3 1 (.slice (some ⟨w.heap.size,0,none⟩) m m) m (ints (List.replicate m 0)) :=
 ⟨by simp [ints],.inr ⟨w.heap.size,m,zdG m,rfl,hb,Blk.new w _ _,zl _,hm,by rw [zjT,Nat.mul_one],by rw [zjU];exact List.take_of_length_le (by simp [ints])⟩⟩
def zpf (v:Vn):Prop:=¬ (v.mks.length < 1∨2 < v.mks.length∨8 < v.accs.length)∧¬ (v.ins < 0∨v.resid < 0∨v.next < 1∨100000 < v.next∨v.inn < 0∨v.out < 0∨zag v.inn=false∨zag v.out=false∨zag v.ins=false∨zag v.resid=false)
theorem zbE (w:World) (o:Obj):Below w.heap.size w (w.alloc o):=(Below.refl _ _).alloc (zl _) _
set_option maxHeartbeats 8000000 in
set_option maxRecDepth 100000 in
theorem zpg (v:Vn) (A M:Option Addr) (c k:Nat) (B:Nat) (w:World) (h:VnR w B A c M k v) (_hB:B ≤ w.heap.size) (hbad:¬ zpf v) :
  Calls Tryz.prog 27 #[.agg #[.slice A v.accs.length c,.slice M v.mks.length k,.int .i64 v.ins,.int .i64 v.resid,.int .i64 v.next,.int .i64 v.inn,.int .i64 v.out]] w fun e w'=>e=.returned (.int .i64 (zbi v))∧Below w.heap.size w w':=by
 have HV:=zi h;have HBAD:=zi hbad;have hcap:=h.mks.cap;have hle:=h.mks.le;have hcap2:=h.accs.cap;have hle2:=h.accs.le;unfold maxLen at hcap hcap2;clear h;by_cases c1:v.mks.length < 1∨2 < v.mks.length∨8 < v.accs.length
 ·have HE:=zi (zqw c1);rcases (show v.mks.length=0∨(1 ≤ v.mks.length∧2 < v.mks.length)∨(1 ≤ v.mks.length∧v.mks.length ≤ 2∧8 < v.accs.length) by omega) with h1 | ⟨h1,h2⟩ | ⟨h1,h2,h3⟩
  ·rw [h1];clear c1;go_enter Tryz.func27,Tryz.ntmps27
   go_wp2_with fail
   go_ret;exact ⟨zay HE.out.symm,zbE _ _⟩
  ·clear c1;go_enter Tryz.func27,Tryz.ntmps27
   go_wp2_with fail
   go_ret;exact ⟨zay HE.out.symm,zbE _ _⟩
  ·clear c1;go_enter Tryz.func27,Tryz.ntmps27
   go_wp2_with fail
   go_ret;exact ⟨zay HE.out.symm,zbE _ _⟩
 have HC1:=zi c1;obtain ⟨c2,c3,c4⟩:1 ≤ v.mks.length∧v.mks.length ≤ 2∧v.accs.length ≤ 8:=by omega
 clear c1;by_cases r:v.ins < 0∨v.resid < 0∨v.next < 1∨100000 < v.next∨v.inn < 0∨v.out < 0∨zag v.inn=false∨zag v.out=false∨zag v.ins=false∨zag v.resid=false
 ·have HE:=zi (zoX HC1.out r);rcases (show v.ins < 0∨(0 ≤ v.ins∧v.resid < 0)∨(0 ≤ v.ins∧0 ≤ v.resid∧v.next < 1)∨(0 ≤ v.ins∧0 ≤ v.resid∧1 ≤ v.next∧100000 < v.next)∨(0 ≤ v.ins∧0 ≤ v.resid∧1 ≤ v.next∧v.next ≤ 100000∧v.inn < 0)∨(0 ≤ v.ins∧0 ≤ v.resid∧1 ≤ v.next∧v.next ≤ 100000∧0 ≤ v.inn∧v.out < 0) ∨
    (0 ≤ v.ins∧0 ≤ v.resid∧1 ≤ v.next∧v.next ≤ 100000∧0 ≤ v.inn∧0 ≤ v.out) by omega) with h1 | ⟨h1,h2⟩ | ⟨h1,h2,h3⟩ | ⟨h1,h2,h3,h4⟩ | ⟨h1,h2,h3,h4,h5⟩ | ⟨h1,h2,h3,h4,h5,h6⟩ | ⟨h1,h2,h3,h4,h5,h6⟩
  ·skip;clear r;go_enter Tryz.func27,Tryz.ntmps27
   go_wp2_with fail
   go_ret;exact ⟨zay HE.out.symm,zbE _ _⟩
  ·skip;clear r;go_enter Tryz.func27,Tryz.ntmps27
   go_wp2_with fail
   go_ret;exact ⟨zay HE.out.symm,zbE _ _⟩
  ·skip;clear r;go_enter Tryz.func27,Tryz.ntmps27
   go_wp2_with fail
   go_ret;exact ⟨zay HE.out.symm,zbE _ _⟩
  ·skip;clear r;go_enter Tryz.func27,Tryz.ntmps27
   go_wp2_with fail
   go_ret;exact ⟨zay HE.out.symm,zbE _ _⟩
  ·skip;clear r;go_enter Tryz.func27,Tryz.ntmps27
   go_wp2_with fail
   go_ret;exact ⟨zay HE.out.symm,zbE _ _⟩
  ·skip;clear r;go_enter Tryz.func27,Tryz.ntmps27
   go_wp2_with fail
   go_ret;exact ⟨zay HE.out.symm,zbE _ _⟩
  ·have r':zag v.inn=false∨zag v.inn=true∧zag v.out=false∨zag v.inn=true∧zag v.out=true∧zag v.ins=false∨zag v.inn=true∧zag v.out=true∧zag v.ins=true∧zag v.resid=false:=by
    rcases r with r | r | r | r | r | r | r | r | r | r
    ·omega
    ·omega
    ·omega
    ·omega
    ·omega
    ·omega
    all_goals
     rcases zb5 (zag v.inn) with m1 | m1 <;> rcases zb5 (zag v.out) with m2 | m2 <;> rcases zb5 (zag v.ins) with m3 | m3 <;> simp_all
   clear r;rcases r' with m1 | ⟨m1,m2⟩ | ⟨m1,m2,m3⟩ | ⟨m1,m2,m3,m4⟩
   ·go_enter Tryz.func27,Tryz.ntmps27
    go_wp2_with fail
    refine (zaX _ _).mono ?_;rintro e w1 ⟨rfl,rfl⟩;go_wp2_with fail
    go_ret;exact ⟨zay HE.out.symm,zbE _ _⟩
   ·go_enter Tryz.func27,Tryz.ntmps27
    go_wp2_with fail
    refine (zaX _ _).mono ?_;rintro e w1 ⟨rfl,rfl⟩;go_wp2_with fail
    refine (zaX _ _).mono ?_;rintro e w1 ⟨rfl,rfl⟩;go_wp2_with fail
    go_ret;exact ⟨zay HE.out.symm,zbE _ _⟩
   ·go_enter Tryz.func27,Tryz.ntmps27
    go_wp2_with fail
    refine (zaX _ _).mono ?_;rintro e w1 ⟨rfl,rfl⟩;go_wp2_with fail
    refine (zaX _ _).mono ?_;rintro e w1 ⟨rfl,rfl⟩;go_wp2_with fail
    refine (zaX _ _).mono ?_;rintro e w1 ⟨rfl,rfl⟩;go_wp2_with fail
    go_ret;exact ⟨zay HE.out.symm,zbE _ _⟩
   ·go_enter Tryz.func27,Tryz.ntmps27
    go_wp2_with fail
    refine (zaX _ _).mono ?_;rintro e w1 ⟨rfl,rfl⟩;go_wp2_with fail
    refine (zaX _ _).mono ?_;rintro e w1 ⟨rfl,rfl⟩;go_wp2_with fail
    refine (zaX _ _).mono ?_;rintro e w1 ⟨rfl,rfl⟩;go_wp2_with fail
    refine (zaX _ _).mono ?_;rintro e w1 ⟨rfl,rfl⟩;go_wp2_with fail
    go_ret;exact ⟨zay HE.out.symm,zbE _ _⟩
 exact absurd ⟨HC1.out,r⟩ HBAD.out
end
end Go.Proofs.YtockodmbhnlheaaGreatDoor
