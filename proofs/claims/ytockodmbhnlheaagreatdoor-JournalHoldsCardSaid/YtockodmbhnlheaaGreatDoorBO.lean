import Derived.Test.YtockodmbhnlheaaGreatDoorBI
import Derived.Test.YtockodmbhnlheaaGreatDoorBJ
namespace Go.Proofs.YtockodmbhnlheaaGreatDoor
section
open Go.RowKit
def zdx (b:Bk):Nat→List Od
 | 0=>b.bids
 | _=>b.asks
def zhs (b:Bk) (l:List Od):Nat→Bk
 | 0=>⟨l,b.asks⟩
 | _=>⟨b.bids,l⟩
def zt2 (id:Int) (b:Bk):Nat→Bk
 | 0=>b
 | 1=>⟨zbu id b.bids,b.asks⟩
 | _=>⟨zbu id b.bids,zbu id b.asks⟩
def zpn (i:Nat) (id:Int) (b:Bk):Nat→List Ev
 | 0=>[]
 | 1=>zaF i id b.bids
 | _=>zaF i id b.bids ++ zaF i id b.asks
def zfD (id:Int) (m:Mk) (s:Nat):Mk:={ m with book:=zt2 id m.book s }
def zea (id:Int) (i:Nat) (m:Mk) (d:Dk) (s:Nat):Dk:=⟨zaD d.v i (zfD id m s),d.ev ++ zpn i id m.book s⟩
theorem zq0 {id:Int} {i:Nat} {m:Mk} {d:Dk} (h:d.v.mks[i]?=some m):zea id i m d 0=d:=by
 unfold zea;have:zaD d.v i (zfD id m 0)=d.v:=by
  unfold zaD;have:d.v.mks.set i (zfD id m 0)=d.v.mks:=by
   obtain ⟨h1,h2⟩:=List.getElem?_eq_some_iff.1 h;show d.v.mks.set i m=_;rw [← h2];exact List.set_getElem_self h1
  rw [this]
 rw [this];show (⟨d.v,d.ev ++ []⟩:Dk)=d;rw [List.append_nil]
theorem ziC {id:Int} {i s:Nat} {m:Mk} {d:Dk} (h:d.v.mks[i]?=some m):(zea id i m d s).v.mks[i]?=some (zfD id m s):=by
 show (d.v.mks.set i _)[i]?=_;rw [List.getElem?_set_self (List.getElem?_eq_some_iff.1 h).1]
theorem zlz {id:Int} {i s:Nat} {m:Mk} {d:Dk} (hs:s < 2) :
  zea id i m d (s + 1)=⟨zaD (zea id i m d s).v i { zfD id m s with book:=zhs (zfD id m s).book (zbu id (zdx (zfD id m s).book s)) s },(zea id i m d s).ev ++ zaF i id (zdx (zfD id m s).book s)⟩:=by
 have e:∀ x y:Mk,zaD (zaD d.v i x) i y=zaD d.v i y:=fun x y=>by unfold zaD;simp [List.set_set]
 rcases (show s=0∨s=1 by omega) with rfl | rfl
 ·show _=(⟨zaD (zaD d.v i _) i _,_⟩:Dk);rw [e];show (⟨_,d.ev ++ zaF i id m.book.bids⟩:Dk)=⟨_,d.ev ++ [] ++ zaF i id m.book.bids⟩;rw [List.append_nil];rfl
 ·show _=(⟨zaD (zaD d.v i _) i _,_⟩:Dk);rw [e];show (⟨_,d.ev ++ (zaF i id m.book.bids ++ zaF i id m.book.asks)⟩:Dk)=⟨_,d.ev ++ zaF i id m.book.bids ++ zaF i id m.book.asks⟩;rw [List.append_assoc];rfl
theorem zmO {id:Int} {i:Nat} {m:Mk} {d:Dk} (h:d.v.mks[i]?=some m):zea id i m d 2=zcV id i d:=by
 unfold zcV;rw [show mkAt d.v i=m from zaY h,List.append_assoc];rfl
theorem zsq {id:Int} {i s:Nat} {m:Mk} {d:Dk}:(zea id i m d s).ev.length ≤ d.ev.length + m.book.bids.length + m.book.asks.length:=by
 show (d.ev ++ zpn i id m.book s).length ≤ _;rw [List.length_append];have h1:=zjn (i:=i) (id:=id) (l:=m.book.bids);have h2:=zjn (i:=i) (id:=id) (l:=m.book.asks);unfold zpn;split
 ·simp only [List.length_nil];omega
 ·omega
 ·rw [List.length_append];omega
theorem zlA {id:Int} {m:Mk} {s:Nat} (hs:s < 2):(zdx (zfD id m s).book s).length ≤ m.book.bids.length + m.book.asks.length:=by
 rcases (show s=0∨s=1 by omega) with rfl | rfl
 ·show m.book.bids.length ≤ _;omega
 ·show m.book.asks.length ≤ _;omega
theorem zgX {w:World} {base k n c e:Nat} {AO:Option Addr} {xs:List Value} (h:w.ownsRow base e k (.slice AO n c) n xs):∀ g ∈ ab AO,∃ cs,Blk w g e cs:=by
 intro g hg;obtain ⟨_,⟨hv,_⟩ | ⟨g',cap,cur,hv,_,hb,_⟩⟩:=h
 ·injection hv with hv;subst hv;simp [ab] at hg
 ·injection hv with hv;subst hv;simp only [ab,Option.map_some,Option.toList_some,List.mem_singleton] at hg;subst hg;exact ⟨_,hb⟩
theorem ztQ {w:World} {base k n c e:Nat} {AO:Option Addr} {xs:List Value} (h:w.ownsRow base e k (.slice AO n c) n xs):∀ g ∈ ab AO,(Value.slice AO n c).ownBlock=some g:=by
 intro g hg;obtain ⟨_,⟨hv,_⟩ | ⟨g',cap,cur,hv,_,hb,_⟩⟩:=h
 ·injection hv with hv;subst hv;simp [ab] at hg
 ·injection hv with hv;subst hv;simp only [ab,Option.map_some,Option.toList_some,List.mem_singleton] at hg;subst hg;rfl
theorem zmP {w:World} {base m k gm i s:Nat} {Ls:List Mk} {xs:List Value} {a:Mk} {ap:Bool} (h:OwnMk w base ap (some ⟨gm,0,none⟩) m k Ls xs) (hi:Ls[i]?=some a) (hs:s < 2) :
  ∃ AO cO,xs[i * 4 + s]?=some (.slice AO (zdx a.book s).length cO)∧w.ownsRow base 32 5 (.slice AO (zdx a.book s).length cO) (zdx a.book s).length (zaa (zdx a.book s)) ∧
   w.cell? ⟨gm,i * 4 + s,none⟩=some (.slice AO (zdx a.book s).length cO)∧(∃ cs,Blk w gm 85 cs)∧base ≤ gm:=by
 obtain ⟨g,A2,c2,A3,c3,hg,hg1,-,-,hgB,⟨q0,q1,-,-⟩,-,hbk,-,-,hx0,hx1⟩:=zdK h hi;injection hg with hg;injection hg with hg;subst hg;rcases (show s=0∨s=1 by omega) with rfl | rfl
 ·exact ⟨A2,c2,hx0,hbk.l,q0,hgB,hg1⟩
 ·exact ⟨A3,c3,hx1,hbk.r,q1,hgB,hg1⟩
theorem zpo {xs:List Value} {p:Nat} {u u':Value} (h:zgQ xs) (hp:xs[p]?=some u) (hb:u'.ownBlock=u.ownBlock):zgQ (xs.set p u'):=by
 have hl:=(List.getElem?_eq_some_iff.1 hp).1;have key:∀ (q:Nat) (v:Value) (g:Nat),(xs.set p u')[q]?=some v→v.ownBlock=some g→∃ v':Value,xs[q]?=some v'∧v'.ownBlock=some g:=by
  intro q v g hv hg;by_cases e:p=q
  ·subst e;rw [List.getElem?_set_self hl] at hv;injection hv with hv;subst hv;exact ⟨u,hp,by rw [← hb];exact hg⟩
  ·rw [zab e] at hv;exact ⟨v,hv,hg⟩
 intro a s j t v v2 g hs ht hv hv2 hg hg2;obtain ⟨x,hx,hxg⟩:=key _ _ _ hv hg;obtain ⟨y,hy,hyg⟩:=key _ _ _ hv2 hg2;exact h a s j t x y g hs ht hx hy hxg hyg
theorem OwnMk.put_side {w w1:World} {base m k gm i s n cO c':Nat} {Ls:List Mk} {xs:List Value} {a:Mk} {AO:Option Addr} {l:List Od} (h:OwnMk w base true (some ⟨gm,0,none⟩) m k Ls xs) (hi:Ls[i]?=some a) (hs:s < 2) (hc:xs[i * 4 + s]?=some (.slice AO n cO))
  (hw:w.ownsRow base 32 5 (.slice AO n cO) n (zaa (zdx a.book s))) (hf:Fr [113,57] (ab AO) w w1) (ho:w1.ownsRow base 32 5 (.slice AO l.length c') l.length (zaa l)) (hl:l.length ≤ 4000000000000) :
  OwnMk (w1.setCell ⟨gm,i * 4 + s,none⟩ (.slice AO l.length c')) base true (some ⟨gm,0,none⟩) m k (Ls.set i { a with book:=zhs a.book l s }) (xs.set (i * 4 + s) (.slice AO l.length c')):=by
 have hlen:=h.row.1;have hil:=(List.getElem?_eq_some_iff.1 hi).1;have hn:i < m:=by have:=h.len;omega
 have hrow1:=hf.own h.row (by decide) fun g hg hm=>by obtain ⟨cs,hb⟩:=zgX hw g hm;exact zcA h.row hb (by decide) hg
 obtain ⟨gm',csm,e1,_,hbm⟩:=zdk hrow1 (by omega);injection e1 with e1;injection e1 with e1;subst e1;have hK:Kept [85] w1 (w1.setCell ⟨gm,i * 4 + s,none⟩ (.slice AO l.length c')):=(Kept.refl _ _).set hbm (by decide) _ _;have keep:∀ v n' ys j t,t < 2→(j=i→t ≠ s)→xs[j * 4 + t]?=some v→w.ownsRow base 32 5 v n' ys→(w1.setCell ⟨gm,i * 4 + s,none⟩ (.slice AO l.length c')).ownsRow base 32 5 v n' ys:=by
  intro v n' ys j t ht hne hx hv;refine hK.own (hf.own hv (by decide) fun g hg hm=>?_) (by decide);have:=h.apart rfl j t i s v _ g ht hs hx hc hg (ztQ hw g hm);exact hne this.1 this.2
 refine ⟨zcp hrow1 _ _,by rw [List.length_set];exact h.len,fun j b hb=>?_,fun _=>zpo (h.apart rfl) hc (by cases AO <;> rfl)⟩;by_cases e:j=i
 ·subst e;rw [List.getElem?_set_self hil] at hb;injection hb with hb;subst hb;obtain ⟨A2,c2,A3,c3,k1,k2,k3,k4,k5,k6,k7⟩:=h.cell j a hi;rcases (show s=0∨s=1 by omega) with rfl | rfl
  ·refine ⟨AO,c',A3,c3,?_,?_,?_,?_,⟨hK.own ho (by decide),keep _ _ _ j 1 (by omega) (by omega) k2 k5.r⟩,hl,k7⟩
   ·rw [Nat.add_zero,List.getElem?_set_self (by omega)];rfl
   ·rw [zab (by omega)];exact k2
   ·rw [zab (by omega)];exact k3
   ·rw [zab (by omega)];exact k4
  ·refine ⟨A2,c2,AO,c',?_,?_,?_,?_,⟨keep _ _ _ j 0 (by omega) (by omega) k1 k5.l,hK.own ho (by decide)⟩,k6,hl⟩
   ·rw [zab (by omega)];exact k1
   ·rw [List.getElem?_set_self (by omega)];rfl
   ·rw [zab (by omega)];exact k3
   ·rw [zab (by omega)];exact k4
 ·rw [zab (Ne.symm e)] at hb;obtain ⟨A2,c2,A3,c3,k1,k2,k3,k4,k5,k6⟩:=h.cell j b hb;refine ⟨A2,c2,A3,c3,?_,?_,?_,?_,⟨keep _ _ _ j 0 (by omega) (fun h=>absurd h e) k1 k5.l,keep _ _ _ j 1 (by omega) (fun h=>absurd h e) k2 k5.r⟩,k6⟩
  ·rw [zab (by omega)];exact k1
  ·rw [zab (by omega)];exact k2
  ·rw [zab (by omega)];exact k3
  ·rw [zab (by omega)];exact k4
theorem zlB {w w1 Z:World} {base D c k gm i s n cO c':Nat} {d:Dk} {A AO:Option Addr} {vE vE':Value} {xs ys:List Value} {a:Mk} {l:List Od} {E:List Ev} (h:Desk w base D true d A c (some ⟨gm,0,none⟩) k vE xs ys) (hi:d.v.mks[i]?=some a) (hs:s < 2) (hc:ys[i * 4 + s]?=some (.slice AO n cO))
  (hw:w.ownsRow base 32 5 (.slice AO n cO) n (zaa (zdx a.book s))) (hf:Fr [113,57] (ab AO) w w1) (ho:w1.ownsRow base 32 5 (.slice AO l.length c') l.length (zaa l)) (hl:l.length ≤ 4000000000000)
  (ht:Teller w1 base D A c (some ⟨gm,0,none⟩) k d.v (d.ev ++ E) vE') (hZ:Z=w1.setCell ⟨gm,i * 4 + s,none⟩ (.slice AO l.length c')) :
  Desk Z base D true ⟨zaD d.v i { a with book:=zhs a.book l s },d.ev ++ E⟩ A c (some ⟨gm,0,none⟩) k vE' xs (ys.set (i * 4 + s) (.slice AO l.length c'))∧Fr [113,57,32] (ab (some ⟨gm,0,none⟩)) w Z∧base ≤ gm:=by
 have hlen:(zaD d.v i { a with book:=zhs a.book l s }).mks.length=d.v.mks.length:=by simp [zaD]
 have hmk:=(h.mks.put_side hi hs hc hw hf ho hl).cast hlen.symm;have hrow1:=hf.own h.mks.row (by decide) fun g hg hm=>by obtain ⟨cs,hb⟩:=zgX hw g hm;exact zcA h.mks.row hb (by decide) hg
 obtain ⟨gm',csm,e1,hbm0,hbm⟩:=zdk hrow1 (by have:=(List.getElem?_eq_some_iff.1 hi).1;omega);injection e1 with e1;injection e1 with e1;subst e1;have hK:Kept [85] w1 Z:=by rw [hZ];exact (Kept.refl _ _).set hbm (by decide) _ _
 rw [← hZ] at hmk;refine ⟨⟨?_,h.low,?_,hmk,hK.own ht.evs (by decide)⟩,?_,hbm0⟩
 ·show Blk Z D 113 #[_,.slice _ (zaD d.v i { a with book:=zhs a.book l s }).mks.length k,_,_,_,_,_,_];rw [hlen];exact ht.blk.kept hK (by decide)
 ·have hfo:∀ e sz v n' zs,32 ≠ e→e ∉ [113,57]→w.ownsRow base e sz v n' zs→w1.ownsRow base e sz v n' zs:=fun e sz v n' zs he hS hv =>
   hf.own hv hS fun g hg hm=>by obtain ⟨cs,hb⟩:=zgX hw g hm;exact zcA hv hb he hg
  exact (h.accs.mono (hfo _ _ _ _ _ (by decide) (by decide) h.accs.row) fun _ _ _ hr=>hfo _ _ _ _ _ (by decide) (by decide) hr).kept hK (by decide) (by decide)
 ·refine Fr.trans (b:=w1) ⟨hf.size,fun g t cs hb ht' hg=>hf.blk g t cs hb (fun hm=>ht' (by rcases List.mem_cons.1 hm with rfl | hm <;> simp_all)) fun hm=>?_⟩ ?_
  ·obtain ⟨cs',hb'⟩:=zgX hw g hm;by_cases e:t=32
   ·exact ht' (by simp [e])
   ·exact zd1 hb hb' e rfl
  ·rw [hZ];exact (Fr.refl _ _ _).set hbm (.inr (by simp [ab])) _ _
theorem jx0 (a b:Value) (w:World):(Instr.index 217 (.agg #[a,b]) (.int .i64 0)).run Tryz.prog w=.ok a w:=by
 kernel_rfl
theorem jx1 (a b:Value) (w:World):(Instr.index 217 (.agg #[a,b]) (.int .i64 1)).run Tryz.prog w=.ok b w:=by
 kernel_rfl
structure SpR (w wr:World) (base D:Nat) (id:Int) (d:Dk) (A:Option Addr) (c:Nat) (M:Option Addr) (k:Nat) (bd bi:Nat) (i:Nat) (d1:Dk) (vE:Value) (xs ys:List Value):Prop where
 desk:Desk wr base D true d1 A c M k vE xs ys
 low:Below base w wr
 fr:Fr [113,57,32] (D :: (ab A ++ ab M)) w wr
 who:Blk wr bi 3 #[.int .i64 id]
 dp:Blk wr bd 111 #[.pointer (some ⟨D,0,none⟩)]
 ok:VOk d1.v
 eq:zc4 id (d.v.mks.length - i) i d1=zcH id d
 len:d1.v.mks.length=d.v.mks.length
 ev:d1.ev.length ≤ d.ev.length + 40 * i
structure SqR (w wr:World) (base D:Nat) (id:Int) (i:Nat) (m:Mk) (d1:Dk) (A:Option Addr) (c gm k:Nat) (bd bi gk s:Nat) (vE:Value) (xs ys:List Value):Prop where
 desk:Desk wr base D true (zea id i m d1 s) A c (some ⟨gm,0,none⟩) k vE xs ys
 low:Below base w wr
 fr:Fr [113,57,32] (D :: (ab A ++ ab (some ⟨gm,0,none⟩))) w wr
 cap:Caps wr D bi bd gk id i
set_option maxHeartbeats 4000000 in
set_option maxRecDepth 100000 in
theorem zsr (base D:Nat) (d:Dk) (A:Option Addr) (c:Nat) (M:Option Addr) (k:Nat) (vE:Value) (xs ys:List Value) (id:Int) (w:World) (h:Desk w base D true d A c M k vE xs ys) (hb:base ≤ w.heap.size) (hv:VOk d.v) (hl:d.ev.length ≤ 800000) :
  Calls Tryz.prog 106 #[.pointer (some ⟨D,0,none⟩),.int .i64 id] w fun e w'=>e=.returned (.tuple #[])∧(∃ vE xs ys,Desk w' base D true (zcH id d) A c M k vE xs ys)∧Below base w w'∧Fr [113,57,32] (D :: (ab A ++ ab M)) w w':=by
 have HD:=zi h;have HV:=zi hv;have hDl:=h.lt;obtain ⟨hm1,hm2⟩:=hv.len;obtain ⟨⟨-,k1,-⟩,-⟩:=h.blk.c8;clear h hv;go_enter Tryz.func106,Tryz.ntmps106
 go_wp2_with fail
 refine zbr ?_;intro W0 hW0;have hB0:Below w.heap.size w W0:=by rw [hW0];exact ((Below.refl _ _).alloc (zl _) _).alloc (by simp) _
 have X0:Blk W0 w.heap.size 111 #[.pointer (some ⟨D,0,none⟩)]:=by rw [hW0];exact (Blk.new w _ _).alloc _
 have X1:Blk W0 (w.heap.size + 1) 3 #[.int .i64 id]:=by rw [hW0];exact Blk.new_at _ _ _ _ (by simp)
 have HR0:=zi (show SpR w W0 base D id d A c M k w.heap.size (w.heap.size + 1) 0 d vE xs ys from ⟨HD.out.below hB0,hB0.mono hb,Fr.of_below _ _ hB0,X1,X0,HV.out,rfl,rfl,by omega⟩);clear hW0 k1 hB0 X0 X1;go_loopw [14] (fun q wr=>∃ (i:Nat) (d1:Dk) (vE1:Value) (xs1 ys1:List Value),i ≤ d.v.mks.length∧q=.int .i64 i∧Hid (SpR w wr base D id d A c M k w.heap.size (w.heap.size + 1) i d1 vE1 xs1 ys1)) (fun q _=>d.v.mks.length - (intOf q).toNat)
 case atStart=>exact ⟨0,d,vE,xs,ys,by omega,rfl,HR0⟩
 case round =>
  obtain ⟨wo,rfl⟩:∃ x,x=wr:=⟨wr,rfl⟩;obtain ⟨i,d1,vE1,xs1,ys1,hi,rfl,HR⟩:=hrel;have hws:=HR.out.fr.size;by_cases hlt:i < d.v.mks.length
  ·obtain ⟨m,hm⟩:∃ m,d1.v.mks[i]?=some m:=⟨_,List.getElem?_eq_getElem (by rw [HR.out.len];exact hlt)⟩;have HM:=zi hm;go_wp2_with fail
   refine zbr ?_;intro W1 hW1;have hB1:Below wo.heap.size wo W1:=by rw [hW1];exact (Below.refl _ _).alloc (zl _) _
   have G1:Blk W1 wo.heap.size 3 #[.int .i64 i]:=by rw [hW1];exact Blk.new wo _ _
   have HC1:=zi (show Caps W1 D (w.heap.size + 1) w.heap.size wo.heap.size id i from ⟨HR.out.who.below hB1 HR.out.who.lt,HR.out.dp.below hB1 HR.out.dp.lt,G1⟩);have HD1:=zi (HR.out.desk.below hB1);have hs1:=hB1.size;obtain ⟨gm,A2,c2,A3,c3,rfl,-,-,-,-,-⟩:=zdK HD1.out.mks hm;obtain ⟨⟨-,k1,-⟩,-⟩:=HD1.out.blk.c8;have c0:W1.cell? ⟨w.heap.size,0,none⟩=some (.pointer (some ⟨D,0,none⟩)):=HC1.out.desk.cell 0;have c1:W1.cell? ⟨wo.heap.size,0,none⟩=some (.int .i64 i):=G1.cell 0;have y1:=G1.lt;have y2:=HC1.out.desk.lt;have y3:D < W1.heap.size:=HD1.out.lt;have hi0:(0:Int) ≤ (i:Int):=by omega
   have hi1:(i:Int) < (d1.v.mks.length:Int):=by have:=HR.out.len;omega
   clear hW1 hm;go_wp2_with fail
   go_quiet (fail)
   refine zau ?_;intro W2 hW2;have hB2:Below W1.heap.size W1 W2:=by rw [hW2];exact zac (Below.refl _ _) _
   clear hW2;go_wp2_with fail
   go_quiet (fail)
   refine zau ?_;intro W3 hW3;have hB3:Below W1.heap.size W1 W3:=by rw [hW3];exact zac hB2 _
   have hs3:=hB3.size;have HQ0:=zi (show SqR w W3 base D id i m d1 A c gm k w.heap.size (w.heap.size + 1) wo.heap.size 0 vE1 xs1 ys1 from
    ⟨by rw [zq0 HM.out];exact HD1.out.below hB3,(HR.out.low.trans (hB1.mono (by omega))).trans (hB3.mono (by omega)),(HR.out.fr.below hB1).below hB3,HC1.out.below hB3⟩)
   clear hW3 hB2 hB3 k1 c0 c1 G1 hB1;go_wp2_with fail
   go_loopw [32] (fun q wi=>∃ (s:Nat) (vE2:Value) (xs2 ys2:List Value),s ≤ 2∧q=.int .i64 s∧Hid (SqR w wi base D id i m d1 A c gm k w.heap.size (w.heap.size + 1) wo.heap.size s vE2 xs2 ys2)) (fun q _=>2 - (intOf q).toNat)
   case atStart=>exact ⟨0,vE1,xs1,ys1,by omega,rfl,HQ0⟩
   case round =>
    obtain ⟨s,vE2,xs2,ys2,hs,rfl,HQ⟩:=hrel;have hbl:m.book.bids.length + m.book.asks.length ≤ 40:=(za2.1 (HR.out.ok.mks m (List.mem_of_getElem? HM.out)).1).1.len;have hbw:base ≤ wr.heap.size:=Nat.le_trans hb HQ.out.fr.size;have hE1:=HR.out.ev;have hE2:=zsq (id:=id) (i:=i) (s:=s) (m:=m) (d:=d1);by_cases hs2:s < 2
    ·rcases (show s=0∨s=1 by omega) with rfl | rfl
     ·skip;have hLl:=zlA (id:=id) (m:=m) (s:=0) (by omega);obtain ⟨AO,cO,hx,hown,hcell,⟨csm,hgm⟩,hbm⟩:=zmP (s:=0) HQ.out.desk.mks (ziC HM.out) (by omega);obtain ⟨L,hL⟩:∃ L,zdx (zfD id m 0).book 0=L:=⟨_,rfl⟩;rw [hL] at hx hown hcell hLl;have hcell':wr.cell? ⟨gm,i * 4,none⟩=some (.slice AO L.length cO):=hcell;have hgl:=hgm.lt;have HX:=zi hx;have HOW:=zi hown;have HGM:=zi hgm;have HL:=zi hL;have hEE:(zea id i m d1 0).ev.length + L.length ≤ 1000000:=by omega
      have hix:=jx0 (.pointer (some ⟨gm,i * 4,none⟩)) (.pointer (some ⟨gm,i * 4 + 1,none⟩)) wr;clear hcell hx hown hgm hL hE1 hE2;go_wp2_with fail
      refine (zi5 base D A c (some ⟨gm,0,none⟩) k (zea id i m d1 0).v (zea id i m d1 0).ev vE2 AO cO L id i (w.heap.size + 1) w.heap.size wo.heap.size wr ⟨HQ.out.desk.blk,HQ.out.desk.low,HQ.out.desk.evs⟩ HQ.out.cap HOW.out hbw hEE).mono ?_;rintro e w5 ⟨c',rfl,ho5,⟨vE5,ht5⟩,hL5,hF5⟩;have g5:=HGM.out.fr hF5 (by decide) (fun hm=>by obtain ⟨cs,hb⟩:=zgX HOW.out gm hm;exact zd1 HGM.out hb (by decide) rfl);have f5:=g5.frozen (i * 4);have z5:w5.cell? ⟨gm,i * 4,none⟩=some (.slice AO L.length cO):=(g5.cell _).trans ((HGM.out.cell _).symm.trans hcell');have g5l:=g5.lt;have hnl:(zbu id L).length ≤ 4000000000000:=by have:(zbu id L).length ≤ L.length:=List.length_filter_le _ _;omega
      obtain ⟨hdz,hfz,-⟩:=zlB HQ.out.desk (ziC HM.out) (by omega) HX.out (by rw [HL.out];exact HOW.out) hF5 ho5 hnl ht5 rfl;have HN:=zi (show SqR w (w5.setCell ⟨gm,i * 4,none⟩ (.slice AO (zbu id L).length c')) base D id i m d1 A c gm k w.heap.size (w.heap.size + 1) wo.heap.size (0 + 1) vE5 xs2 (ys2.set (i * 4 + 0) (.slice AO (zbu id L).length c')) from
       ⟨by rw [zlz (s:=0) (by omega),HL.out];exact hdz,(HQ.out.low.trans hL5).setCell hbm _,HQ.out.fr.trans (hfz.mono (fun _ h=>h) (by intro y hy;simp [hy])),
        (HQ.out.cap.fr hF5 (by decide) (by decide) (zgX HOW.out)).fr (((Kept.refl [85] _).set g5 (by decide) _ _).fr []) (by decide) (by decide) (by simp)⟩)
      clear hdz hfz ho5 ht5 hL5 hF5 hcell' g5;go_wp2_with fail
      go_roundw
      case rel=>exact ⟨0 + 1,vE5,xs2,_,by omega,by go_num,HN⟩
      case measure=>simp [intOf]
     ·skip;have hLl:=zlA (id:=id) (m:=m) (s:=1) (by omega);obtain ⟨AO,cO,hx,hown,hcell,⟨csm,hgm⟩,hbm⟩:=zmP (s:=1) HQ.out.desk.mks (ziC HM.out) (by omega);obtain ⟨L,hL⟩:∃ L,zdx (zfD id m 1).book 1=L:=⟨_,rfl⟩;rw [hL] at hx hown hcell hLl;have hcell':wr.cell? ⟨gm,i * 4 + 1,none⟩=some (.slice AO L.length cO):=hcell;have hgl:=hgm.lt;have HX:=zi hx;have HOW:=zi hown;have HGM:=zi hgm;have HL:=zi hL;have hEE:(zea id i m d1 1).ev.length + L.length ≤ 1000000:=by omega
      have hix:=jx1 (.pointer (some ⟨gm,i * 4,none⟩)) (.pointer (some ⟨gm,i * 4 + 1,none⟩)) wr;clear hcell hx hown hgm hL hE1 hE2;go_wp2_with fail
      refine (zi5 base D A c (some ⟨gm,0,none⟩) k (zea id i m d1 1).v (zea id i m d1 1).ev vE2 AO cO L id i (w.heap.size + 1) w.heap.size wo.heap.size wr ⟨HQ.out.desk.blk,HQ.out.desk.low,HQ.out.desk.evs⟩ HQ.out.cap HOW.out hbw hEE).mono ?_;rintro e w5 ⟨c',rfl,ho5,⟨vE5,ht5⟩,hL5,hF5⟩;have g5:=HGM.out.fr hF5 (by decide) (fun hm=>by obtain ⟨cs,hb⟩:=zgX HOW.out gm hm;exact zd1 HGM.out hb (by decide) rfl);have f5:=g5.frozen (i * 4 + 1);have z5:w5.cell? ⟨gm,i * 4 + 1,none⟩=some (.slice AO L.length cO):=(g5.cell _).trans ((HGM.out.cell _).symm.trans hcell');have g5l:=g5.lt;have hnl:(zbu id L).length ≤ 4000000000000:=by have:(zbu id L).length ≤ L.length:=List.length_filter_le _ _;omega
      obtain ⟨hdz,hfz,-⟩:=zlB HQ.out.desk (ziC HM.out) (by omega) HX.out (by rw [HL.out];exact HOW.out) hF5 ho5 hnl ht5 rfl;have HN:=zi (show SqR w (w5.setCell ⟨gm,i * 4 + 1,none⟩ (.slice AO (zbu id L).length c')) base D id i m d1 A c gm k w.heap.size (w.heap.size + 1) wo.heap.size (1 + 1) vE5 xs2 (ys2.set (i * 4 + 1) (.slice AO (zbu id L).length c')) from
       ⟨by rw [zlz (s:=1) (by omega),HL.out];exact hdz,(HQ.out.low.trans hL5).setCell hbm _,HQ.out.fr.trans (hfz.mono (fun _ h=>h) (by intro y hy;simp [hy])),
        (HQ.out.cap.fr hF5 (by decide) (by decide) (zgX HOW.out)).fr (((Kept.refl [85] _).set g5 (by decide) _ _).fr []) (by decide) (by decide) (by simp)⟩)
      clear hdz hfz ho5 ht5 hL5 hF5 hcell' g5;go_wp2_with fail
      go_roundw
      case rel=>exact ⟨1 + 1,vE5,xs2,_,by omega,by go_num,HN⟩
      case measure=>simp [intOf]
    ·obtain rfl:s=2:=by omega
     have HSA:=zi (zjg (id:=id) (i:=i) HR.out.ok (by rw [HR.out.len];exact hlt));have HN:=zi (show SpR w wr base D id d A c (some ⟨gm,0,none⟩) k w.heap.size (w.heap.size + 1) (i + 1) (zcV id i d1) vE2 xs2 ys2 from
      ⟨by rw [← zmO HM.out];exact HQ.out.desk,HQ.out.low,HQ.out.fr,HQ.out.cap.who,HQ.out.cap.desk,HSA.out.1.step.ok,by
       have:=HR.out.eq;rw [show d.v.mks.length - i=(d.v.mks.length - (i + 1)) + 1 by omega] at this;exact this,HSA.out.1.step.len.trans HR.out.len,by rw [← zmO HM.out];omega⟩)
     clear hE1 hE2;go_wp2_with fail
     go_roundw
     case rel=>exact ⟨i + 1,_,_,_,_,by omega,by go_num,HN⟩
     case measure=>simp [intOf];omega
  ·obtain rfl:i=d.v.mks.length:=by omega
   have HE:=zi (show d1=zcH id d by have:=HR.out.eq;rw [Nat.sub_self] at this;exact this);go_wp2_with fail
   go_end0
   exact ⟨rfl,⟨vE1,xs1,ys1,by rw [← HE.out];exact HR.out.desk⟩,HR.out.low,HR.out.fr⟩
end
section
open Go.RowKit
theorem zq1 {w Z:World} {base D c k:Nat} {ap:Bool} {d:Dk} {A M:Option Addr} {vE:Value} {xs ys:List Value} {n:Int} (h:Desk w base D ap d A c M k vE xs ys) (hZ:Z=w.setCell ⟨D,2,none⟩ (.int .i64 n)) :
  Desk Z base D ap ⟨{ d.v with ins:=n },d.ev⟩ A c M k vE xs ys:=by
 have hK:Kept [113] w Z:=by rw [hZ];exact (Kept.refl _ w).set h.blk (by decide) _ _
 refine ⟨?_,h.low,h.accs.kept hK (by decide) (by decide),h.mks.kept hK (by decide) (by decide),hK.own h.evs (by decide)⟩;rw [hZ];exact h.blk.set_ 2 _
theorem ztR (a b:Int):(if b < a then b else a)=min a b:=by split <;> omega
theorem zq2 {q n kk:Nat} {ms:List Int} {d1:Dk} {a:Ac} {b g:Bool} {es:Int} {R:Except Int Dk} (he:zbL ms q kk d1=R) (hn:q=n + 1) (ha:d1.v.accs[kk]?=some a) (hs:zbF a ms=(b,g,es)) :
  R=okIf es (if g=true then zbL ms n (kk + 1) d1 else zby (zbD kk ms d1.v.mks.length 0 (zcH a.id d1)) fun d=>zby (zdn kk d) fun d=>zbL ms n (kk + 1) d):=by
 subst hn;rw [← he];exact zqO ha hs
theorem zmQ {q n i k:Nat} {ms:List Int} {d3:Dk} {a:Ac} {p:Int} {R:Except Int Dk} (he:zbD k ms q i d3=R) (hn:q=n + 1) (ha:d3.v.accs[k]?=some a) (hp:a.pos.getD i 0=p) :
  R=if p=0 then zbD k ms n (i + 1) d3 else zby (zce k i ms d3) fun d=>zbD k ms n (i + 1) d:=by
 subst hn;rw [← he];exact zlS ha hp
structure SwR (w wr:World) (base D:Nat) (d:Dk) (A:Option Addr) (c:Nat) (M:Option Addr) (k:Nat) (ms:List Int) (Am:Option Addr) (cm kk:Nat) (d1:Dk) (vE:Value) (xs ys:List Value):Prop where
 desk:Desk wr base D true d1 A c M k vE xs ys
 low:Below base w wr
 fr:Fr [113,57,32] (D :: (ab A ++ ab M)) w wr
 own:wr.ownsRow w.heap.size 3 1 (.slice Am ms.length cm) ms.length (ints ms)
 half:Half d d1 (2200 * kk)
 eq:zbL ms (d.v.accs.length - kk) kk d1=zbL ms d.v.accs.length 0 d
structure SvR (w wr:World) (base D:Nat) (d:Dk) (A:Option Addr) (c:Nat) (M:Option Addr) (k:Nat) (ms:List Int) (Am:Option Addr) (cm kk:Nat) (id:Int) (d1:Dk) (i:Nat) (d3:Dk) (vE:Value) (xs ys:List Value):Prop where
 desk:Desk wr base D true d3 A c M k vE xs ys
 low:Below base w wr
 fr:Fr [113,57,32] (D :: (ab A ++ ab M)) w wr
 own:wr.ownsRow w.heap.size 3 1 (.slice Am ms.length cm) ms.length (ints ms)
 half:Half d d3 (2200 * kk + 80 + 1040 * i)
 eq:zbD kk ms (d.v.mks.length - i) i d3=zbD kk ms d.v.mks.length 0 (zcH id d1)
theorem zmR {w wr:World} {base D c k e sz n:Nat} {ap:Bool} {d:Dk} {A M:Option Addr} {vE v:Value} {xs ys zs:List Value} (h:Desk w base D ap d A c M k vE xs ys) (hv:wr.ownsRow w.heap.size e sz v n zs):∀ g,v.ownBlock=some g→g ∉ D :: (ab A ++ ab M) :=
 fun g hg=>zhr h g (zf9 hv g hg).1
set_option maxHeartbeats 4000000 in
set_option maxRecDepth 100000 in
theorem zss (base D:Nat) (d:Dk) (A:Option Addr) (c:Nat) (M:Option Addr) (k:Nat) (vE:Value) (xs ys:List Value) (w:World) (h:Desk w base D true d A c M k vE xs ys) (hb:base ≤ w.heap.size) (hv:VOk d.v) (hl:d.ev.length ≤ 700000) :
  Calls Tryz.prog 75 #[.pointer (some ⟨D,0,none⟩)] w (ze3 w base D true A c M k [113,57,32] (D :: (ab A ++ ab M)) (zed d)):=by
 have HD:=zi h;have HV:=zi hv;have hDl:=h.lt;obtain ⟨hm1,hm2⟩:=hv.len;have hal:d.v.accs.length ≤ 8:=zdZ hv.accs;obtain ⟨ms,em,hms⟩:∃ ms em,zbG d.v.mks=(ms,em):=⟨_,_,rfl⟩;have HE:=zi (show zed d=okIf em (zbL ms d.v.accs.length 0 d) by unfold zed;rw [hms]);have HM:=zi hms;obtain ⟨⟨-,k1,-⟩,-⟩:=h.blk.c8;clear h hv hms;go_enter Tryz.func75,Tryz.ntmps75
 go_wp2_with fail
 refine (zll _ _ _ _ _ w HM.out HD.out.mks.read (zl _)).mono ?_;rintro e W2 ⟨Am,cm,rfl,hown,hb2⟩;have HD2:=zi (HD.out.below hb2);have HO2:=zi hown;have HB2:=zi hb2;clear hown hb2 k1;by_cases he:em=0
 rotate_left
 ·have he':(em != 0)=true:=by simpa using he
  have HEE:=zi (show zed d=.error em by rw [HE.out];unfold okIf;rw [if_pos he]);have HN:=zi he;clear he;go_wp2_with fail
  go_ret;exact zaM HEE.out HN.out (HB2.out.mono hb)
 subst he;have HEE:=zi (show zed d=zbL ms d.v.accs.length 0 d by rw [HE.out];rfl);obtain ⟨⟨k0,-⟩,-⟩:=HD2.out.blk.c8;have y2:D < W2.heap.size:=HD2.out.lt;have HR0:=zi (show SwR w W2 base D d A c M k ms Am cm 0 d vE xs ys from ⟨HD2.out,HB2.out.mono hb,Fr.of_below _ _ HB2.out,HO2.out,⟨HV.out,rfl,rfl,by omega⟩,rfl⟩);go_wp2_with fail
 go_loopw [31] (fun q wr=>∃ (kk:Nat) (d1:Dk) (vE1:Value) (xs1 ys1:List Value),kk ≤ d.v.accs.length∧q=.int .i64 kk∧Hid (SwR w wr base D d A c M k ms Am cm kk d1 vE1 xs1 ys1)) (fun q _=>d.v.accs.length - (intOf q).toNat)
 case atStart=>exact ⟨0,d,vE,xs,ys,by omega,rfl,HR0⟩
 case round =>
  obtain ⟨wo,rfl⟩:∃ x,x=wr:=⟨wr,rfl⟩;obtain ⟨kk,d1,vE1,xs1,ys1,hkk,rfl,HR⟩:=hrel;have hws:=HR.out.fr.size;clear k0 y2;by_cases hlt:kk < d.v.accs.length
  ·obtain ⟨a,ha⟩:∃ a,d1.v.accs[kk]?=some a:=⟨_,List.getElem?_eq_getElem (by rw [HR.out.half.accs];exact hlt)⟩;obtain ⟨b,gg,es,hso⟩:∃ b gg es,zbF a ms=(b,gg,es):=⟨_,_,_,rfl⟩;obtain ⟨n,hn⟩:∃ n,d.v.accs.length - kk=n + 1:=⟨d.v.accs.length - kk - 1,by omega⟩;have HST:=zi (zq2 HR.out.eq hn ha hso);have HA:=zi ha;have HS:=zi hso;have HNN:=zi hn;obtain ⟨g,A2,c2,rfl,hg1,hg2,hin,-,⟨q0,q1,q2⟩,-,hpos,-⟩:=zeE HR.out.desk.accs ha;have HPO:=zi (Rd.of_own hpos);obtain ⟨⟨k0,-⟩,-⟩:=HR.out.desk.blk.c8;have y2:D < wo.heap.size:=HR.out.desk.lt;have hk0:(0:Int) ≤ (kk:Int):=by omega
   have hk1:(kk:Int) < (d1.v.accs.length:Int):=by omega
   have hal1:d1.v.accs.length ≤ 8:=by have:=HR.out.half.accs;omega
   clear ha hso hn hpos;go_wp2_with fail
   refine (zlm a A2 Am c2 ms.length cm ms wo.heap.size wo.heap.size wo HS.out HPO.out (zl _) (Rd.of_own HR.out.own) (zl _)).mono ?_;rintro e W3 ⟨rfl,hb3⟩;have HD3:=zi (HR.out.desk.below hb3);have HL3:=zi (HR.out.low.trans (hb3.mono (by omega)));have HF3:=zi (HR.out.fr.below hb3);have HO3:=zi (zaf HR.out.own hb3 (zl _));have hs3:=hb3.size;clear hb3 k0 q0 q1 q2;by_cases hes:es=0
   rotate_left
   ·have hes':(es != 0)=true:=by simpa using hes
    have HEE2:=zi (show zed d=.error es by rw [HEE.out,HST.out];unfold okIf;rw [if_pos hes]);have HN:=zi hes;clear hes;go_wp2_with fail
    go_ret;exact zaM HEE2.out HN.out HL3.out
   subst hes;rcases (zb5 gg) with rfl | rfl
   ·have HN:=zi (show SwR w W3 base D d (some ⟨g,0,none⟩) c M k ms Am cm (kk + 1) d1 vE1 xs1 ys1 from ⟨HD3.out,HL3.out,HF3.out,HO3.out,HR.out.half.mono (by omega),by
     rw [HST.out,show d.v.accs.length - (kk + 1)=n by have:=HNN.out;omega];rfl⟩)
    go_wp2_with fail
    go_roundw
    case rel=>exact ⟨kk + 1,_,_,_,_,by omega,by go_num,HN⟩
    case measure=>simp [intOf];omega
   ·have HST2:=zi (show zbL ms d.v.accs.length 0 d=zby (zbD kk ms d1.v.mks.length 0 (zcH a.id d1)) fun d=>zby (zdn kk d) fun d=>zbL ms n (kk + 1) d by rw [HST.out];rfl);obtain ⟨g',A4,c4,hg',-,hg4,-,-,⟨q0,q1,q2⟩,-,-⟩:=zeE HD3.out.accs HA.out;obtain rfl:g'=g:=by injection hg' with hg';injection hg' with hg';exact hg'.symm
    obtain ⟨⟨k0,-⟩,-⟩:=HD3.out.blk.c8;have y3:D < W3.heap.size:=HD3.out.lt;have hbw3:base ≤ W3.heap.size:=by omega
    have hev:d1.ev.length ≤ 800000:=by have:=HR.out.half.ev;omega
    clear hg';go_wp2_with fail
    refine (zsr base D d1 _ c M k vE1 xs1 ys1 a.id W3 HD3.out hbw3 HR.out.half.ok hev).mono ?_;rintro e W4 ⟨rfl,⟨vE4,xs4,ys4,hd4⟩,hL4,hF4⟩;have HHS:=zi (zpc (id:=a.id) HR.out.half.ok);have HQ0:=zi (show SvR w W4 base D d (some ⟨g',0,none⟩) c M k ms Am cm kk a.id d1 0 (zcH a.id d1) vE4 xs4 ys4 from
     ⟨hd4,HL3.out.trans hL4,HF3.out.trans hF4,hF4.own HO3.out (by decide) (zmR HD.out HO3.out),(HR.out.half.trans HHS.out.1).mono (by omega),rfl⟩)
    have HM1:=zi HR.out.half.mks;clear hd4 hL4 hF4 k0 q0 q1 q2;obtain ⟨⟨-,k1,-⟩,-⟩:=HQ0.out.desk.blk.c8;rw [show (zcH a.id d1).v.mks.length=d.v.mks.length from HHS.out.1.mks.trans HM1.out] at k1;have y4:D < W4.heap.size:=HQ0.out.desk.lt;go_wp2_with fail
    go_loopw [69] (fun q wi=>∃ (i:Nat) (d3:Dk) (vE3:Value) (xs3 ys3:List Value),i ≤ d.v.mks.length∧q=.int .i64 i∧Hid (SvR w wi base D d (some ⟨g',0,none⟩) c M k ms Am cm kk a.id d1 i d3 vE3 xs3 ys3)) (fun q _=>d.v.mks.length - (intOf q).toNat)
    case atStart=>exact ⟨0,_,_,_,_,by omega,rfl,HQ0⟩
    case round =>
     obtain ⟨wi,rfl⟩:∃ x,x=wr:=⟨wr,rfl⟩;obtain ⟨i,d3,vE3,xs3,ys3,hi,rfl,HQ⟩:=hrel;have hwi:=HQ.out.fr.size;have hkl:kk < d3.v.accs.length:=by rw [HQ.out.half.accs];exact hlt
     obtain ⟨a3,ha3⟩:∃ a,d3.v.accs[kk]?=some a:=⟨_,List.getElem?_eq_getElem hkl⟩;have HA3:=zi ha3;have hbwi:base ≤ wi.heap.size:=by omega
     have hk2:(kk:Int) < (d3.v.accs.length:Int):=by omega
     have y5:D < wi.heap.size:=HQ.out.desk.lt;clear k1;by_cases hli:i < d.v.mks.length
     ·obtain ⟨p,hpp⟩:∃ p,a3.pos.getD i 0=p:=⟨_,rfl⟩;obtain ⟨g8,B8,c8,b3,o3,hgg,hg8,hin8,⟨q0,q1,q2⟩,rfl,hb3,hz3,hpl3,⟨hy1,hy2⟩,hpc3,-⟩:=zhp HQ.out.desk ha3 HQ.out.half.ok.accs (mk:=i) (by rw [HQ.out.half.mks];exact hli);obtain rfl:g8=g':=by injection hgg with hgg;injection hgg with hgg;exact hgg.symm
      rw [hpp] at hz3 hy1 hy2;obtain ⟨⟨k0,-⟩,-⟩:=HQ.out.desk.blk.c8;obtain ⟨n2,hn2⟩:∃ n,d.v.mks.length - i=n + 1:=⟨d.v.mks.length - i - 1,by omega⟩;have HCS:=zi (zmQ HQ.out.eq hn2 ha3 hpp);have HN2:=zi (show d.v.mks.length - (i + 1)=n2 by omega);have hmi:(i:Int) < (a3.pos.length:Int):=by have:=HQ.out.half.mks;omega
      have hi0:(0:Int) ≤ (i:Int):=by omega
      have HPP:=zi hpp;have hev3:d3.ev.length ≤ 800000:=by have:=HQ.out.half.ev;omega
      clear ha3 hpp hpl3 hgg hn2;by_cases hp0:p=0
      ·have hp':(p == 0)=true:=by simpa using hp0
       have HN:=zi (show SvR w wi base D d (some ⟨g8,0,none⟩) c M k ms Am cm kk a.id d1 (i + 1) d3 vE3 xs3 ys3 from ⟨HQ.out.desk,HQ.out.low,HQ.out.fr,HQ.out.own,HQ.out.half.mono (by omega),by rw [HCS.out,HN2.out,if_pos hp0]⟩);clear hp0;go_wp2_with fail
       go_roundw
       case rel=>exact ⟨i + 1,_,_,_,_,by omega,by go_num,HN⟩
       case measure=>simp [intOf];omega
      ·have hp':(p == 0)=false:=by simpa using hp0
       have HP0:=zi hp0;have HCS2:=zi (HCS.out.trans (if_neg hp0));clear hp0;go_wp2_with fail
       refine (zqT base D d3 _ c M k vE3 xs3 ys3 kk i ms Am ms.length cm wi.heap.size a3 wi HQ.out.desk hbwi HQ.out.half.ok HA3.out (by rw [HQ.out.half.mks];exact hli) (Rd.of_own HQ.out.own) (zl _) hev3).mono ?_;intro e W5 hret;cases hcl:zce kk i ms d3 with
       | error m =>
        have HEE2:=zi (show zed d=.error m by rw [HEE.out,HST2.out,HM1.out,HCS2.out,hcl];rfl);rw [hcl] at hret;obtain ⟨hn,rfl,hL5⟩:=hret;have hn':(m != 0)=true:=by simpa using hn
        have HN:=zi hn;clear hcl hn;go_wp2_with fail
        go_ret;exact zaM HEE2.out HN.out (HQ.out.low.trans hL5)
       | ok d4 =>
        have HHC:=zi (znB (q:=2200 * kk + 80 + 1040 * (i + 1)) HQ.out.half HA3.out (by rw [HQ.out.half.mks];exact hli) (by rw [HPP.out];exact HP0.out) hcl (by omega));have HCS3:=zi (show zbD kk ms n2 (i + 1) d4=zbD kk ms d.v.mks.length 0 (zcH a.id d1) by rw [HCS2.out,hcl];rfl);rw [hcl] at hret;obtain ⟨rfl,⟨vE5,xs5,ys5,hd5⟩,hL5,hF5⟩:=hret;have HN:=zi (show SvR w W5 base D d (some ⟨g8,0,none⟩) c M k ms Am cm kk a.id d1 (i + 1) d4 vE5 xs5 ys5 from
         ⟨hd5,HQ.out.low.trans hL5,HQ.out.fr.trans (hF5.mono (by simp) (fun _ h=>h)),hF5.own HQ.out.own (by decide) (zmR HD.out HQ.out.own),HHC.out,by rw [HN2.out];exact HCS3.out⟩)
        clear hcl hd5 hL5 hF5;go_wp2_with fail
        go_roundw
        case rel=>exact ⟨i + 1,_,_,_,_,by omega,by go_num,HN⟩
        case measure=>simp [intOf];omega
     ·obtain rfl:i=d.v.mks.length:=by omega
      have HCD:=zi (show zbD kk ms d.v.mks.length 0 (zcH a.id d1)=.ok d3 by have:=HQ.out.eq;rw [Nat.sub_self] at this;exact this.symm);obtain ⟨g8,A8,c8,hgg,hg9,hg8,hin8,-,⟨q0,q1,q2⟩,-⟩:=zeE HQ.out.desk.accs ha3;obtain rfl:g8=g':=by injection hgg with hgg;injection hgg with hgg;exact hgg.symm
      obtain ⟨⟨k0,-,k2,-⟩,-⟩:=HQ.out.desk.blk.c8;obtain ⟨nn,hnn⟩:∃ n,min d3.v.ins (-a3.bal)=n:=⟨_,rfl⟩;have hbal:=(zaw (HQ.out.half.ok.accs.ok a3 (List.mem_of_getElem? ha3))).2.2.2.1;have hins:=HQ.out.half.ok.nums.ins;have HCV:=zi (zmH ha3 hnn);have HNN3:=zi hnn;have hnb:-1000000000000 ≤ nn∧nn ≤ 1000000000000:=by omega
      clear ha3 hgg hnn;go_wp2_with fail
      go_quiet (fail)
      refine zau ?_;intro W6 hW6;rw [ztR,HNN3.out];have hB6:Below wi.heap.size wi W6:=by rw [hW6];exact zac (Below.refl _ _) _
      have hs6:=hB6.size;have HD6:=zi (HQ.out.desk.below hB6);have HL6:=zi (HQ.out.low.trans (hB6.mono hbwi));have HF6:=zi (HQ.out.fr.below hB6);have HO6:=zi (zaf HQ.out.own hB6 (zl _));clear hW6 hB6 k0 k2 q0 q1 q2;obtain ⟨⟨-,-,k2,-⟩,-,-,f2,-⟩:=HD6.out.blk.c8;have y6:D < W6.heap.size:=HD6.out.lt;obtain ⟨hnb1,hnb2⟩:=hnb;by_cases hnp:0 < nn
      rotate_left
      ·have hnp':decide (0 < nn)=false:=decide_eq_false hnp;have HX:=zi (show zdn kk d3=.ok d3 from HCV.out.trans (if_neg hnp));have HN:=zi (show SwR w W6 base D d (some ⟨g8,0,none⟩) c M k ms Am cm (kk + 1) d3 vE3 xs3 ys3 from ⟨HD6.out,HL6.out,HF6.out,HO6.out,HQ.out.half.mono (by omega),by
        rw [HST2.out,HM1.out,HCD.out,show d.v.accs.length - (kk + 1)=n by have:=HNN.out;omega];show _=zby (zdn kk d3) _;rw [HX.out];rfl⟩)
       go_wp2_with fail
       go_roundw
       case rel=>exact ⟨kk + 1,_,_,_,_,by omega,by go_num,HN⟩
       case measure=>simp [intOf];omega
      ·have hnp':decide (0 < nn)=true:=decide_eq_true hnp;have HX:=zi (show zdn kk d3=zc0 kk nn ⟨{ d3.v with ins:=d3.v.ins - nn },d3.ev⟩ from HCV.out.trans (if_pos hnp));have hsub1:-1000000000000 ≤ d3.v.ins - nn:=by omega
       have hsub2:d3.v.ins - nn ≤ 1000000000000:=by omega
       have hi3:0 ≤ d3.v.ins∧d3.v.ins ≤ 1000000000000:=by omega
       obtain ⟨hi31,hi32⟩:=hi3;go_wp2_with fail
       refine zak ?_;intro W7 hW7;have HD7:=zi (zq1 HD6.out hW7);have hL7:Below base W6 W7:=by rw [hW7];exact (Below.refl _ _).setCell HD6.out.low _
       have hF7:Fr [113] [] W6 W7:=by rw [hW7];exact (Fr.refl _ _ _).set HD6.out.blk (.inl (by simp)) _ _
       have HL7:=zi (HL6.out.trans hL7);have HF7:=zi (HF6.out.trans (hF7.mono (by simp) (by simp)));have HO7:=zi (hF7.own HO6.out (by decide) (by simp));have hb7:base ≤ W7.heap.size:=Nat.le_trans (by omega) hF7.size;have hev7:d3.ev.length ≤ 1000000:=by have:=HQ.out.half.ev;omega
       clear hW7 hL7 hF7 k2 f2;refine (ziB base D true ⟨{ d3.v with ins:=d3.v.ins - nn },d3.ev⟩ _ c M k vE3 xs3 ys3 kk nn a3 W7 HD7.out hb7 HA3.out hev7).mono ?_;intro e W8 hret;cases hmv:zc0 kk nn ⟨{ d3.v with ins:=d3.v.ins - nn },d3.ev⟩ with
       | error m =>
        have HEE2:=zi (show zed d=.error m by
         rw [HEE.out,HST2.out,HM1.out,HCD.out];show zby (zdn kk d3) _=_;rw [HX.out,hmv];rfl)
        rw [hmv] at hret;obtain ⟨hn,rfl,hL8⟩:=hret;have hn':(m != 0)=true:=by simpa using hn
        have HN:=zi hn;clear hmv hn;go_wp2_with fail
        go_ret;exact zaM HEE2.out HN.out (HL7.out.trans hL8)
       | ok d4 =>
        have HHC:=zi (zpd HQ.out.half HA3.out (HX.out.trans hmv));have HX4:=zi (HX.out.trans hmv);rw [hmv] at hret;obtain ⟨rfl,⟨vE8,xs8,ys8,hd8⟩,hL8,hF8⟩:=hret;have HN:=zi (show SwR w W8 base D d (some ⟨g8,0,none⟩) c M k ms Am cm (kk + 1) d4 vE8 xs8 ys8 from
         ⟨hd8,HL7.out.trans hL8,HF7.out.trans (hF8.mono (by simp) zeF),hF8.own HO7.out (by decide) (fun g hg hm=>zmR HD.out HO7.out g hg (zeF g hm)),HHC.out.mono (by omega),by
          rw [HST2.out,HM1.out,HCD.out,show d.v.accs.length - (kk + 1)=n by have:=HNN.out;omega];show _=zby (zdn kk d3) _;rw [HX4.out];rfl⟩)
        clear hmv hd8 hL8 hF8;go_wp2_with fail
        go_roundw
        case rel=>exact ⟨kk + 1,_,_,_,_,by omega,by go_num,HN⟩
        case measure=>simp [intOf];omega
  ·obtain rfl:kk=d.v.accs.length:=by omega
   have HX:=zi (show zed d=.ok d1 by rw [HEE.out,← HR.out.eq,Nat.sub_self];rfl);go_wp2_with fail
   go_ret;exact zd8 HX.out HR.out.desk HR.out.low HR.out.fr
end
end Go.Proofs.YtockodmbhnlheaaGreatDoor
