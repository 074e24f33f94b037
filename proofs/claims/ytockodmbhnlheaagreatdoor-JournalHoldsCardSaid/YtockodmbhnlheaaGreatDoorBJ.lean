import Derived.Test.YtockodmbhnlheaaGreatDoorBD
import Derived.Test.YtockodmbhnlheaaGreatDoorBF
import Derived.Test.YtockodmbhnlheaaGreatDoorBE
namespace Go.Proofs.YtockodmbhnlheaaGreatDoor
section
open Go.RowKit
theorem zpj {r:Bk × Od × Int} (b:Bk) (id:Int) (A A':Option Addr) (c c' B:Nat) (w:World) (hr:zbk b id=r) (h:BkR w B A A' c c' b) (hB:B ≤ w.heap.size) (hl:b.bids.length ≤ 4000000000000) (hl':b.asks.length ≤ 4000000000000) :
  Calls Tryz.prog 101 #[.agg #[.slice A b.bids.length c,.slice A' b.asks.length c'],.int .i64 id] w (zmt w r):=by
 rw [← hr];exact zqe b id A A' c c' B w h hB hl hl'
theorem zmK {x:Bk} {l:List Fl} {left:Int} {e':Int} (b:Bk) (o:Od) (how:Int) (A A':Option Addr) (c c' B:Nat) (w:World) (hr:zcs b o how=(x,l,left,e')) (h:BkR w B A A' c c' b) (hB:B ≤ w.heap.size) (hl:b.bids.length ≤ 4000000000000) (hl':b.asks.length ≤ 4000000000000) :
  Calls Tryz.prog 98 #[.agg #[.slice A b.bids.length c,.slice A' b.asks.length c'],.agg #[.int .i64 o.id,.int .i64 o.acc,.int .i64 o.side,.int .i64 o.price,.int .i64 o.qty],.int .i64 how] w (zky w (x,l,left,e')):=by
 rw [← hr];exact ztm b o how A A' c c' B w h hB hl hl'
end
section
open Go.RowKit
theorem OwnMk.put_book {w:World} {base m k g i:Nat} {ap:Bool} {L:List Mk} {xs:List Value} {a:Mk} {b:Bk} {A' A'':Option Addr} {c' c'':Nat} (h:OwnMk w base ap (some ⟨g,0,none⟩) m k L xs) (hi:L[i]?=some a)
  (ho:OBk w base A' A'' c' c'' b) (hl:b.bids.length ≤ 4000000000000∧b.asks.length ≤ 4000000000000) (hap:ap=true→zgQ ((xs.set (i * 4) (.slice A' b.bids.length c')).set (i * 4 + 1) (.slice A'' b.asks.length c''))) :
  OwnMk ((w.setCell ⟨g,i * 4,none⟩ (.slice A' b.bids.length c')).setCell ⟨g,i * 4 + 1,none⟩ (.slice A'' b.asks.length c'')) base ap (some ⟨g,0,none⟩) m k (L.set i { a with book:=b })
   ((xs.set (i * 4) (.slice A' b.bids.length c')).set (i * 4 + 1) (.slice A'' b.asks.length c'')):=by
 have hlen:=h.row.1;have hil:=(List.getElem?_eq_some_iff.1 hi).1;have hn:i < m:=by have:=h.len;omega
 have hk:∀ v n' ys,w.ownsRow base 32 5 v n' ys→((w.setCell ⟨g,i * 4,none⟩ (.slice A' b.bids.length c')).setCell ⟨g,i * 4 + 1,none⟩ (.slice A'' b.asks.length c'')).ownsRow base 32 5 v n' ys:=by
  intro v n' ys hv;obtain ⟨g',cs,e1,_,hb⟩:=zdk h.row (by omega);injection e1 with e1;injection e1 with e1;subst e1;exact (((Kept.refl [85] _).set hb (by decide) _ _).set (hb.set_ _ _) (by decide) _ _).own hv (by decide)
 refine ⟨zcp (zcp h.row _ _) _ _,by rw [List.length_set];exact h.len,fun j x hx=>?_,hap⟩;by_cases e:j=i
 ·subst e;rw [List.getElem?_set_self hil] at hx;injection hx with hx;subst hx;obtain ⟨A2,c2,A3,c3,k1,k2,k3,k4,k5,k6,k7⟩:=h.cell j a hi;refine ⟨A',c',A'',c'',?_,?_,?_,?_,⟨hk _ _ _ ho.l,hk _ _ _ ho.r⟩,hl.1,hl.2⟩
  ·rw [zab (by omega),List.getElem?_set_self (by omega)]
  ·rw [List.getElem?_set_self (by rw [List.length_set];omega)]
  ·rw [zab (by omega),zab (by omega)];exact k3
  ·rw [zab (by omega),zab (by omega)];exact k4
 ·rw [zab (Ne.symm e)] at hx;obtain ⟨A2,c2,A3,c3,k1,k2,k3,k4,k5,k6⟩:=h.cell j x hx;refine ⟨A2,c2,A3,c3,?_,?_,?_,?_,⟨hk _ _ _ k5.l,hk _ _ _ k5.r⟩,k6⟩
  ·rw [zab (by omega),zab (by omega)];exact k1
  ·rw [zab (by omega),zab (by omega)];exact k2
  ·rw [zab (by omega),zab (by omega)];exact k3
  ·rw [zab (by omega),zab (by omega)];exact k4
theorem zgV {w Z:World} {base D c k g i:Nat} {ap:Bool} {d:Dk} {A:Option Addr} {vE:Value} {xs ys:List Value} {a:Mk} {b:Bk} {A' A'':Option Addr} {c' c'':Nat} {cs:Array Value} (h:Desk w base D ap d A c (some ⟨g,0,none⟩) k vE xs ys) (hi:d.v.mks[i]?=some a)
  (ho:OBk w base A' A'' c' c'' b) (hl:b.bids.length ≤ 4000000000000∧b.asks.length ≤ 4000000000000) (hap:ap=true→zgQ ((ys.set (i * 4) (.slice A' b.bids.length c')).set (i * 4 + 1) (.slice A'' b.asks.length c''))) (hg:Blk w g 85 cs)
  (hZ:Z=((w.setCell ⟨g,i * 4,none⟩ (.slice A' b.bids.length c')).setCell ⟨g,i * 4 + 1,none⟩ (.slice A'' b.asks.length c'')).drew) :
  Desk Z base D ap ⟨zaD d.v i { a with book:=b },d.ev⟩ A c (some ⟨g,0,none⟩) k vE xs ((ys.set (i * 4) (.slice A' b.bids.length c')).set (i * 4 + 1) (.slice A'' b.asks.length c'')):=by
 have hlen:(zaD d.v i { a with book:=b }).mks.length=d.v.mks.length:=by simp [zaD]
 have hmk:=(h.mks.put_book hi ho hl hap).cast hlen.symm;have hK:Kept [85] w Z:=by rw [hZ];exact (((Kept.refl _ _).set hg (by decide) _ _).set (hg.set_ _ _) (by decide) _ _).drew
 have hm2:=hmk.drew1;rw [← hZ] at hm2;refine ⟨?_,h.low,h.accs.kept hK (by decide) (by decide),hm2,hK.own h.evs (by decide)⟩;show Blk Z D 113 #[_,.slice _ (zaD d.v i { a with book:=b }).mks.length k,_,_,_,_,_,_];rw [hlen];exact h.blk.kept hK (by decide)
theorem Desk.weak {w:World} {base D c k:Nat} {ap:Bool} {d:Dk} {A M:Option Addr} {vE:Value} {xs ys:List Value} (h:Desk w base D ap d A c M k vE xs ys):Desk w base D false d A c M k vE xs ys:=⟨h.blk,h.low,h.accs,h.mks.weak,h.evs⟩
theorem znD {b x:Bk} {id n:Int} {o:Od} (h:zbk b id=(x,o,n)) (h1:b.bids.length ≤ 4000000000000) (h2:b.asks.length ≤ 4000000000000):x.bids.length ≤ 4000000000000∧x.asks.length ≤ 4000000000000:=by
 unfold zbk at h;split at h
 ·injection h with h _;subst h;exact ⟨Nat.zero_le _,Nat.zero_le _⟩
 ·injection h with h _;subst h;unfold zbI zcn;have hd:∀ l:List Od,(delO id l).length ≤ l.length:=fun l=>by unfold delO;exact List.length_filter_le _ _
  have:=hd b.bids;have:=hd b.asks;split <;> simp only <;> omega
theorem zkB {c:Cm} {d:Dk} {j:Nat} {m:Mk} {x:Bk} {o:Od} {e:Int} (hm:d.v.mks[j]?=some m) (hr:zbk m.book c.n=(x,o,e)) :
  zc9 c d j (d.v.mks.drop j)=if e=0∧o.acc=c.acc then .ok (tell ⟨zaD d.v j { m with book:=x },d.ev⟩ ⟨4,0,j,o.id,o.acc,o.qty,zba⟩) else zc9 c d (j + 1) (d.v.mks.drop (j + 1)):=by
 obtain ⟨h1,h2⟩:=List.getElem?_eq_some_iff.1 hm;rw [List.drop_eq_getElem_cons h1,h2];conv=>lhs;unfold zc9
 rw [hr]
set_option maxHeartbeats 4000000 in
set_option maxRecDepth 100000 in
theorem zqQ (base D:Nat) (d:Dk) (A:Option Addr) (c:Nat) (M:Option Addr) (k:Nat) (vE:Value) (xs ys:List Value) (cm:Cm) (w:World) (h:Desk w base D false d A c M k vE xs ys) (hb:base ≤ w.heap.size) (hl:d.ev.length ≤ 900000) (hm2:d.v.mks.length ≤ 2) :
  Calls Tryz.prog 73 #[.pointer (some ⟨D,0,none⟩),.agg #[.int .i64 cm.kind,.int .i64 cm.acc,.int .i64 cm.market,.int .i64 cm.n,.int .i64 cm.o.id,.int .i64 cm.o.acc,.int .i64 cm.o.side,.int .i64 cm.o.price,.int .i64 cm.o.qty,.int .i64 cm.how,.bool cm.reduce]] w (ze3 w base D false A c M k [113,57] (D :: (ab A ++ ab M)) (zc9 cm d 0 d.v.mks)):=by
 have HD:=zi h;have hDl:=h.lt;obtain ⟨⟨-,k1,-⟩,-⟩:=h.blk.c8;clear h;go_enter Tryz.func73,Tryz.ntmps73
 go_wp2_with fail
 refine zbr ?_;intro W0 hW0;have hB0:Below w.heap.size w W0:=by rw [hW0];exact (Below.refl _ _).alloc (zl _) _
 have hs0:W0.heap.size=w.heap.size + 1:=by rw [hW0];simp
 have X0:Blk W0 w.heap.size 34 #[.int .i64 cm.kind,.int .i64 cm.acc,.int .i64 cm.market,.int .i64 cm.n,.int .i64 cm.o.id,.int .i64 cm.o.acc,.int .i64 cm.o.side,.int .i64 cm.o.price,.int .i64 cm.o.qty,.int .i64 cm.how,.bool cm.reduce]:=by rw [hW0];exact Blk.new w _ _
 have HD0:=zi (HD.out.below hB0);clear hW0 k1;go_loopw [16] (fun i wr=>∃ (j:Nat),j ≤ d.v.mks.length∧i=.int .i64 j∧Below W0.heap.size W0 wr∧Hid (zc9 cm d j (d.v.mks.drop j)=zc9 cm d 0 d.v.mks)) (fun i _=>d.v.mks.length - (intOf i).toNat)
 case atStart=>exact ⟨0,by omega,rfl,Below.refl _ _,zi (by rw [List.drop_zero])⟩
 case round =>
  obtain ⟨j,hj,rfl,hbr,HS⟩:=hrel;have hws:=hbr.size;have HDr:=zi (HD0.out.below hbr);have X1:=X0.below hbr X0.lt;by_cases hlt:j < d.v.mks.length
  ·obtain ⟨m,hm⟩:∃ m,d.v.mks[j]?=some m:=⟨_,List.getElem?_eq_getElem hlt⟩;obtain ⟨x,o,er,hr⟩:∃ x o er,zbk m.book cm.n=(x,o,er):=⟨_,_,_,rfl⟩;have HM:=zi hm;have HR:=zi hr;have HST:=zi ((zkB (c:=cm) hm hr).symm.trans HS.out);obtain ⟨g,A2,c2,A3,c3,rfl,hg1,hg2,hin,-,⟨q0,q1,q2,q3⟩,-,hbk,hl1,hl2,-⟩:=zdK HDr.out.mks hm;have HBK:=zi hbk;have x3:wr.cell? ⟨w.heap.size,3,none⟩=some (.int .i64 cm.n):=X1.cell 3;have y1:=X1.lt;clear hm hr hbk;go_wp2_with fail
   refine zak ?_;intro W2 hW2;have hB2:Below wr.heap.size wr W2:=by rw [hW2];exact (Below.refl _ _).alloc (zl _) _
   have hs2:=hB2.size;clear hW2 x3 q0 q1 q2 q3;refine (zpj m.book cm.n A2 A3 c2 c3 W2.heap.size W2 HR.out ((OBk.below HBK.out hB2 (zl _)).read) (zl _) hl1 hl2).mono ?_;rintro e W3 ⟨v3,rfl,hown3,hb3⟩;obtain ⟨P,pc,P',pc',rfl,hobk3⟩:=hown3.obk;have hB3:=hB2.trans (hb3.mono hs2);have hs3:=hb3.size;have X3:=X1.below hB3 X1.lt;have HD3:=zi (HDr.out.below hB3);have HB3:=zi (hB0.trans ((hbr.trans (hB3.mono hws)).mono (by omega)));have HO3:=zi hobk3;have y2:=X3.lt;have x1:W3.cell? ⟨w.heap.size,1,none⟩=some (.int .i64 cm.acc):=X3.cell 1;clear hobk3 hown3 hb3;by_cases he:er=0∧o.acc=cm.acc
   ·have HE:=zi (HST.out.symm.trans (if_pos he));obtain ⟨rfl,he2⟩:=he;have he':(o.acc == cm.acc)=true:=by simpa using he2
    clear he2;go_wp2_with fail
    refine zbr ?_;intro W4 hW4;have hB4:Below W3.heap.size W3 W4:=by rw [hW4];exact ((Below.refl _ _).alloc (zl _) _).alloc (by simp) _
    have V7:Blk W4 W3.heap.size 83 #[.slice P x.bids.length pc,.slice P' x.asks.length pc']:=by rw [hW4];exact (Blk.new W3 _ _).alloc _
    have V8:Blk W4 (W3.heap.size + 1) 32 #[.int .i64 o.id,.int .i64 o.acc,.int .i64 o.side,.int .i64 o.price,.int .i64 o.qty]:=by rw [hW4];exact Blk.new_at _ _ _ _ (by simp)
    have hs4:=hB4.size;have HD4:=zi (HD3.out.below hB4);have HB4:=zi (HB3.out.trans (hB4.mono (by omega)));have HO4:=zi (OBk.below HO3.out hB4 (zl _));clear hW4 hB4 x1;obtain ⟨⟨-,k1,-⟩,-⟩:=HD4.out.blk.c8;obtain ⟨g',A4,c4,A5,c5,hg',hg4,hg5,-,⟨cs,hgB⟩,⟨q0,q1,q2,q3⟩,⟨r0,r1,r2,r3⟩,-⟩:=zdK HD4.out.mks HM.out;obtain rfl:g'=g:=by injection hg' with hg';injection hg' with hg';exact hg'.symm
    have HG:=zi hgB;have hi0:(0:Int) ≤ (j:Int):=by omega
    have hi1:(j:Int) < (d.v.mks.length:Int):=by omega
    have y4:D < W4.heap.size:=HD4.out.lt;have y7:=V7.lt;have y8:=V8.lt;clear hg' hgB;obtain ⟨⟨kV70,kV71⟩,-⟩:=V7.c2;go_wp2_with fail
    go_region
    refine zau ?_;intro Z hZ;have HLN:=zi (znD HR.out hl1 hl2);have HDZ:=zi (zgV HD4.out HM.out ⟨zae HO4.out.l (by omega),zae HO4.out.r (by omega)⟩ HLN.out (by simp) HG.out hZ);have hFZ:Fr [113,57] (D :: (ab A ++ ab (some ⟨g',0,none⟩))) W4 Z:=by rw [hZ];exact (((Fr.refl _ _ _).set HG.out (.inr (by simp [ab])) _ _).set (HG.out.set_ _ _) (.inr (by simp [ab])) _ _).drewN 1
    have hLZ:Below base W4 Z:=by rw [hZ];exact zac (((Below.refl _ _).setCell hg4 _).setCell hg4 _) 1
    have Z8:=V8.fr hFZ (by decide) (zbS HD4.out V8 (by decide) (by decide) (by decide));have hbZ:base ≤ Z.heap.size:=Nat.le_trans (by omega) hFZ.size;clear hZ q0 q1 q2 q3 r0 r1 r2 r3 k1 kV70 kV71 V7 V8;obtain ⟨⟨kZ80,kZ81,kZ82,kZ83,kZ84⟩,-⟩:=Z8.c5;have y9:=Z8.lt;go_wp2_with fail
    refine (zeo base D false _ A c _ k vE xs _ ⟨4,0,j,o.id,o.acc,o.qty,zba⟩ Z HDZ.out hbZ (by show d.ev.length ≤ 1000000;omega)).mono ?_;rintro e W5 ⟨rfl,⟨vE5,hd5⟩,hL5,hK5⟩;have HD5:=zi hd5;have HL5:=zi (((HB4.out.mono hb).trans hLZ).trans hL5);have HF5:=zi (((Fr.of_below [113,57] (D :: (ab A ++ ab (some ⟨g',0,none⟩))) HB4.out).trans hFZ).trans (hK5.fr _));clear hd5 hL5 hK5 hLZ hFZ kZ80 kZ81 kZ82 kZ83 kZ84;go_wp2_with fail
    go_ret;exact zd8 HE.out HD5.out HL5.out HF5.out
   ·have HE:=zi (show zc9 cm d (j + 1) (d.v.mks.drop (j + 1))=zc9 cm d 0 d.v.mks from (if_neg he).symm.trans HST.out);have hc:(er == 0)=false∨(er == 0)=true∧(o.acc == cm.acc)=false:=by
     by_cases h1:er=0
     ·exact .inr ⟨by simpa using h1,by simpa using fun h2=>he ⟨h1,h2⟩⟩
     ·exact .inl (by simpa using h1)
    clear he;rcases hc with h1 | ⟨h1,h2⟩;all_goals
     go_wp2_with fail
     go_roundw
     case rel=>exact ⟨j + 1,by omega,by go_num,hbr.trans ((((hB3.mono (zl _)).alloc (by omega) _).alloc (by simp;omega) _).mono hws),HE⟩
     case measure=>simp [intOf];omega
  ·obtain rfl:j=d.v.mks.length:=by omega
   have HE:=zi (show zc9 cm d 0 d.v.mks=.error 5 by rw [← HS.out,List.drop_length];rfl);go_wp2_with fail
   go_ret;exact zaM HE.out (by omega) (((Below.refl _ _).trans (hB0.mono hb)).trans (hbr.mono (by omega)))
end
section
open Go.RowKit
theorem zqR {x:Bk} {l:List Fl} {left:Int} {met:Bool} {e':Int} (b:Bk) (o:Od) (A A':Option Addr) (c c' B:Nat) (w:World) (hr:za1 b o=(x,l,left,met,e')) (h:BkR w B A A' c c' b) (hB:B ≤ w.heap.size) (hl:b.bids.length ≤ 4000000000000) (hl':b.asks.length ≤ 4000000000000) :
  Calls Tryz.prog 129 #[.agg #[.slice A b.bids.length c,.slice A' b.asks.length c'],.agg #[.int .i64 o.id,.int .i64 o.acc,.int .i64 o.side,.int .i64 o.price,.int .i64 o.qty]] w (zhl w (x,l,left,met,e')):=by
 rw [← hr];exact zn9 b o A A' c c' B w h hB hl hl'
theorem zmL {n e':Int} (a:Ac) (A A':Option Addr) (c n' c':Nat) (marks:List Int) (market:Int) (B B':Nat) (w:World) (hr:zcd a marks market=(n,e')) (h:Rd w B 1 A a.pos.length c (ints a.pos)) (hB:B ≤ w.heap.size) (h':Rd w B' 1 A' n' c' (ints marks)) (hB':B' ≤ w.heap.size) :
  Calls Tryz.prog 143 #[.agg #[.int .i64 a.id,.int .i64 a.bal,.slice A a.pos.length c],.slice A' n' c',.int .i64 market] w fun e w'=>e=.returned (.tuple #[.int .i64 n,.int .i64 e'])∧Below w.heap.size w w':=by
 have:=zmo a A A' c n' c' marks market B B' w h hB h' hB';rw [hr] at this;exact this
theorem zf9 {w:World} {base e k n:Nat} {v:Value} {xs:List Value} (h:w.ownsRow base e k v n xs):∀ g,v.ownBlock=some g→base ≤ g∧g < w.heap.size:=by
 intro g hg;obtain ⟨_,⟨rfl,_⟩ | ⟨g',cap,cur,rfl,hb,hx,_⟩⟩:=h
 ·simp [Value.ownBlock] at hg
 ·have:g'=g:=by simpa [Value.ownBlock] using hg
  subst this;exact ⟨hb,Blk.lt hx⟩
theorem zpk {w w':World} {base base' m k i c c':Nat} {M A A':Option Addr} {L:List Mk} {xs:List Value} {b:Bk} (h:OwnMk w base true M m k L xs) (hi:i < m) (hw:w.heap.size ≤ base') (ho:OBk w' base' A A' c c' b)
  (hne:∀ g,(Value.slice A b.bids.length c).ownBlock=some g→(Value.slice A' b.asks.length c').ownBlock ≠ some g):zgQ ((xs.set (i * 4) (.slice A b.bids.length c)).set (i * 4 + 1) (.slice A' b.asks.length c')):=by
 have hlen:=h.row.1;have key:∀ a s u g,s < 2→((xs.set (i * 4) (Value.slice A b.bids.length c)).set (i * 4 + 1) (.slice A' b.asks.length c'))[a * 4 + s]?=some u→u.ownBlock=some g →
   (a=i∧s=0∧u=.slice A b.bids.length c∧base' ≤ g)∨(a=i∧s=1∧u=.slice A' b.asks.length c'∧base' ≤ g)∨(xs[a * 4 + s]?=some u∧g < w.heap.size):=by
  intro a s u g hs hu hg;by_cases e0:a * 4 + s=i * 4
  ·rw [e0,zab (by omega),List.getElem?_set_self (by omega)] at hu;injection hu with hu;subst hu;exact .inl ⟨by omega,by omega,rfl,(zf9 ho.l g hg).1⟩
  by_cases e1:a * 4 + s=i * 4 + 1
  ·rw [e1,List.getElem?_set_self (by rw [List.length_set];omega)] at hu;injection hu with hu;subst hu;exact .inr (.inl ⟨by omega,by omega,rfl,(zf9 ho.r g hg).1⟩)
  rw [zab (by omega),zab (by omega)] at hu;refine .inr (.inr ⟨hu,?_⟩);have ha:a < L.length:=by
   have:=(List.getElem?_eq_some_iff.1 hu).1;have:=h.len;omega
  obtain ⟨A2,c2,A3,c3,k1,k2,k3,k4,k5,k6⟩:=h.cell a _ (List.getElem?_eq_getElem ha);rcases (show s=0∨s=1 by omega) with rfl | rfl
  ·rw [Nat.add_zero,k1] at hu;injection hu with hu;subst hu;exact (zf9 k5.l g hg).2
  ·rw [k2] at hu;injection hu with hu;subst hu;exact (zf9 k5.r g hg).2
 intro a s j t u v g hs ht hu hv hgu hgv;rcases key a s u g hs hu hgu with ⟨a1,a2,a3,a4⟩ | ⟨a1,a2,a3,a4⟩ | ⟨a3,a4⟩ <;> rcases key j t v g ht hv hgv with ⟨b1,b2,b3,b4⟩ | ⟨b1,b2,b3,b4⟩ | ⟨b3,b4⟩
 ·exact ⟨by omega,by omega⟩
 ·subst a3;subst b3;exact absurd hgv (hne g hgu)
 ·omega
 ·subst a3;subst b3;exact absurd hgu (hne g hgv)
 ·exact ⟨by omega,by omega⟩
 ·omega
 ·omega
 ·omega
 ·exact h.apart rfl a s j t u v g hs ht a3 b3 hgu hgv
theorem zhr {w:World} {base D c k:Nat} {ap:Bool} {d:Dk} {A M:Option Addr} {vE:Value} {xs ys:List Value} (h:Desk w base D ap d A c M k vE xs ys):∀ g,w.heap.size ≤ g→g ∉ D :: (ab A ++ ab M):=by
 intro g hg hm;rcases List.mem_cons.1 hm with rfl | hm
 ·have:=h.lt;omega
 rcases List.mem_append.1 hm with hm | hm
 ·obtain ⟨cs,hb⟩:=zmy h.accs g hm;have:=Blk.lt hb;omega
 ·obtain ⟨cs,hb⟩:=zo0 h.mks g hm;have:=Blk.lt hb;omega
theorem zqS (a b:Int):(if (if b < -b then -b else b) < a then (if b < -b then -b else b) else a)=min a (max b (-b)):=by
 by_cases h1:b < -b
 ·rw [if_pos h1];split <;> omega
 ·rw [if_neg h1];split <;> omega
structure ClR (w wr:World) (base D:Nat) (d:Dk) (A:Option Addr) (c:Nat) (M:Option Addr) (k:Nat) (i mk:Nat) (marks:List Int) (id side price:Int) (fuel:Nat) (left:Int) (d1:Dk) (vE:Value) (xs ys:List Value):Prop where
 desk:Desk wr base D true d1 A c M k vE xs ys
 low:Below base w wr
 fr:Fr [113,57] (D :: (ab A ++ ab M)) w wr
 ok:AOk d1.v.mks.length d1.v.accs
 mks:mk < d1.v.mks.length
 eq:zbA mk id side price fuel left d1=zce i mk marks d
 bd:0 ≤ left∧left ≤ 1000∧left.toNat ≤ fuel
 len:d1.ev.length + left.toNat ≤ 890000
theorem zsh {w wr W:World} {base D c k i mk f:Nat} {d d2:Dk} {A M:Option Addr} {marks:List Int} {id side price left1 n:Int} {vE1 vE2:Value} {xs1 ys1 xs2 ys2:List Value} {v':Vn} {a2id:Int} {x:Ev} (h:ClR w wr base D d A c M k i mk marks id side price (f + 1) left1 d2 vE1 xs1 ys1)
  (ht:TradeStep d2.v v' mk id a2id (side * n) price 0) (hn:1 ≤ n∧n ≤ left1) (he:zce i mk marks d=zbA mk id side price f (left1 - n) (tell ⟨v',d2.ev⟩ x)) (hd:Desk W base D true (tell ⟨v',d2.ev⟩ x) A c M k vE2 xs2 ys2)
  (hL:Below base w W) (hF:Fr [113,57] (D :: (ab A ++ ab M)) w W):ClR w W base D d A c M k i mk marks id side price f (left1 - n) (tell ⟨v',d2.ev⟩ x) vE2 xs2 ys2:=by
 have hb:=h.bd;have hl:=h.len;refine ⟨hd,hL,hF,?_,?_,he.symm,by omega,?_⟩
 ·show AOk v'.mks.length v'.accs;rw [ht.mks];exact ht.accs
 ·show mk < v'.mks.length;rw [ht.mks];exact h.mks
 ·show (d2.ev ++ [x]).length + _ ≤ _;rw [List.length_append];simp only [List.length_cons,List.length_nil];omega
set_option maxHeartbeats 4000000 in
set_option maxRecDepth 100000 in
theorem zqT (base D:Nat) (d:Dk) (A:Option Addr) (c:Nat) (M:Option Addr) (k:Nat) (vE:Value) (xs ys:List Value) (i mk:Nat) (marks:List Int) (Am:Option Addr) (nm cm B:Nat) (a:Ac) (w:World) (h:Desk w base D true d A c M k vE xs ys) (hb:base ≤ w.heap.size)
  (hv:VOk d.v) (ha:d.v.accs[i]?=some a) (hm:mk < d.v.mks.length) (hmr:Rd w B 1 Am nm cm (ints marks)) (hB:B ≤ w.heap.size) (hl:d.ev.length ≤ 800000) :
  Calls Tryz.prog 107 #[.pointer (some ⟨D,0,none⟩),.int .i64 i,.int .i64 mk,.slice Am nm cm] w (ze3 w base D true A c M k [113,57] (D :: (ab A ++ ab M)) (zce i mk marks d)):=by
 have HD:=zi h;have HV:=zi hv;have HA:=zi ha;have HMR:=zi hmr;have HID:=zi (zd2 hv.accs a (List.mem_of_getElem? ha));have hDl:=h.lt;obtain ⟨price,en,hbk⟩:∃ price en,zcd a marks mk=(price,en):=⟨_,_,rfl⟩;obtain ⟨p,hpp⟩:∃ p,a.pos.getD mk 0=p:=⟨_,rfl⟩;have HE:=zi (zld (d:=d) ha hbk hpp);have HBK:=zi hbk;obtain ⟨g,A2,c2,b2,o2,rfl,hg2,hin,⟨q0,q1,q2⟩,rfl,hb2,hz,hpl,⟨hz1,hz2⟩,hpc,hrd⟩:=zhp h ha hv.accs hm;rw [hpp] at hz hz1 hz2;have HRD:=zi hrd;obtain ⟨⟨k0,-⟩,-⟩:=h.blk.c8;have hmn:(mk:Int) < (a.pos.length:Int):=by omega
 have hi0:(0:Int) ≤ (i:Int):=by omega
 have hi1:(i:Int) < (d.v.accs.length:Int):=by omega
 have hm0:(0:Int) ≤ (mk:Int):=by omega
 clear h hv ha hmr hbk hpp hrd hpl;go_enter Tryz.func107,Tryz.ntmps107
 go_wp2_with fail
 refine zak ?_;intro W1 hW1;have hB1:Below w.heap.size w W1:=by rw [hW1];exact (Below.refl _ _).alloc (zl _) _
 have hs1:W1.heap.size=w.heap.size + 1:=by rw [hW1];simp
 have X1:Blk W1 w.heap.size 78 #[.int .i64 a.id,.int .i64 a.bal,.slice (some ⟨b2,o2,none⟩) a.pos.length c2]:=by rw [hW1];exact Blk.new w _ _
 clear hW1 k0 q0 q1 q2;refine (zmL a _ Am c2 nm cm marks mk w.heap.size B W1 HBK.out (HRD.out.below hB1) (by omega) (HMR.out.below (hB1.mono hB)) (by omega)).mono ?_;rintro e W2 ⟨rfl,hb2'⟩;have hB2:=hB1.trans (hb2'.mono (by omega));have hs2:=hb2'.size;have X2:=X1.below hb2' (by omega);have hz':W2.cell? ⟨b2,o2 + mk,none⟩=some (.int .i64 p):=(hB2.cell (p:=⟨b2,_,none⟩) hb2).trans hz;clear hB1 hb2' X1 hz;by_cases he:en=0
 rotate_left
 ·have he':(en != 0)=true:=by simpa using he
  have HEE:=zi (show zce i mk marks d=.error en by rw [HE.out];unfold okIf;rw [if_pos he]);have HN:=zi he;clear he;go_wp2_with fail
  go_ret;exact zaM HEE.out HN.out (hB2.mono hb)
 subst he;have HEE:=zi (show zce i mk marks d=zgN a price p mk d by rw [HE.out];rfl);have y1:=X2.lt;have y2:b2 < W2.heap.size:=by omega
 obtain ⟨⟨kX20,kX21,kX22⟩,-⟩:=X2.c3;go_wp2_with fail
 go_quiet (fail)
 refine zau ?_;intro W3 hW3;have hB3:Below w.heap.size w W3:=by rw [hW3];exact zac hB2 _
 have hs3:W2.heap.size ≤ W3.heap.size:=by rw [hW3];exact zl _
 have X3:Blk W3 w.heap.size 78 #[.int .i64 a.id,.int .i64 a.bal,.slice (some ⟨b2,o2,none⟩) a.pos.length c2]:=by rw [hW3];exact Blk.drewN X2 _
 clear hW3 kX20 kX21 kX22 X2 hz' hB2 y1 y2;apply_assumption
 go_upto_if 47 with (fail)
 go_cut [12,13] (fun s l wx=>s=.int .i64 (zeU p)∧l=.int .i64 (max p (-p))∧W3=wx)
 case first =>
  by_cases hp:p < 0
  ·have hp':decide (p < 0)=true:=decide_eq_true hp;have HP:=zi hp;go_wp2_with fail
   go_meet
   exact ⟨by unfold zeU;rw [if_pos HP.out],by rw [Int.max_eq_right (by have:=HP.out;omega)],rfl⟩
  ·have hp':decide (p < 0)=false:=decide_eq_false hp;have HP:=zi hp;go_wp2_with fail
   go_meet
   exact ⟨by unfold zeU;rw [if_neg (by have:=HP.out;omega)],by rw [Int.max_eq_left (by have:=HP.out;omega)],rfl⟩
 case rest =>
  obtain ⟨rfl,rfl,rfl⟩:=hcut;obtain ⟨m,hmk⟩:∃ m,d.v.mks[mk]?=some m:=⟨_,List.getElem?_eq_getElem hm⟩;obtain ⟨sd,hsd⟩:∃ sd,zeU p=sd:=⟨_,rfl⟩;obtain ⟨q,hq⟩:∃ q,max p (-p)=q:=⟨_,rfl⟩;obtain ⟨x,l,left,met,te,htk⟩:∃ x l left met te,za1 m.book (zhi a price p)=(x,l,left,met,te):=⟨_,_,_,_,_,rfl⟩;have HRE:=zi (HEE.out.trans (znZ hmk htk));have HM:=zi hmk;have HTC:=zi htk;have HTK:=zi (show za1 m.book ⟨100000,a.id,sd,price,q⟩=(x,l,left,met,te) by rw [← htk,← hsd,← hq];rfl);have HSD:=zi hsd;rw [hsd,hq];clear hmk htk hsd hq;obtain ⟨⟨kX30,kX31,kX32⟩,-⟩:=X3.c3;go_wp2_with fail
  refine zbr ?_;intro W4 hW4;have hB4:Below w.heap.size w W4:=by rw [hW4];exact hB3.alloc (by omega) _
  have hs4:W3.heap.size < W4.heap.size:=by rw [hW4];simp
  have X4:Blk W4 W3.heap.size 32 #[.int .i64 100000,.int .i64 a.id,.int .i64 sd,.int .i64 price,.int .i64 q]:=by rw [hW4];exact Blk.new W3 _ _
  have V1:Blk W4 w.heap.size 78 #[.int .i64 a.id,.int .i64 a.bal,.slice (some ⟨b2,o2,none⟩) a.pos.length c2]:=by rw [hW4];exact X3.alloc _
  have HD4:=zi (HD.out.below hB4);clear hW4 kX30 kX31 kX32 X3 hB3;obtain ⟨⟨-,k1,-⟩,-⟩:=HD4.out.blk.c8;obtain ⟨g3,A3,c3,A4,c4,rfl,hg3,hg4,hin4,-,⟨r0,r1,-,-⟩,-,hbk,hl1,hl2,-⟩:=zdK HD4.out.mks HM.out;have HBK4:=zi hbk.read;have hm1:(mk:Int) < (d.v.mks.length:Int):=by omega
  have y1:D < W4.heap.size:=HD4.out.lt;have y2:W3.heap.size < W4.heap.size:=by omega
  have y3:w.heap.size < W4.heap.size:=by omega
  have h00:Below W4.heap.size W4 W4:=Below.refl _ _;have KS:Hid (∀ W,Below W4.heap.size W4 W→Below W4.heap.size W4 W∧W.cell? ⟨D,1,none⟩=some (.slice (some ⟨g3,0,none⟩) d.v.mks.length k)∧W.cell? ⟨g3,mk * 4,none⟩=some (.slice A3 m.book.bids.length c3)∧W.cell? ⟨g3,mk * 4 + 1,none⟩=some (.slice A4 m.book.asks.length c4) ∧
    W.cell? ⟨W3.heap.size,0,none⟩=some (.int .i64 100000)∧W.cell? ⟨W3.heap.size,1,none⟩=some (.int .i64 a.id)∧W.cell? ⟨W3.heap.size,2,none⟩=some (.int .i64 sd)∧W.cell? ⟨W3.heap.size,3,none⟩=some (.int .i64 price)∧W.cell? ⟨W3.heap.size,4,none⟩=some (.int .i64 q)):=by
   intro W hW;obtain ⟨⟨-,k1,-⟩,-⟩:=(HD4.out.below hW).blk.c8;obtain ⟨⟨z0,z1,z2,z3,z4⟩,-⟩:=(X4.below hW X4.lt).c5;exact ⟨hW,k1,(hW.cell (p:=⟨g3,_,none⟩) hg4).trans r0,(hW.cell (p:=⟨g3,_,none⟩) hg4).trans r1,z0,z1,z2,z3,z4⟩
  clear k1 r0 r1 hbk;go_region_held3 (fun W=>Below W4.heap.size W4 W∧W.cell? ⟨D,1,none⟩=some (.slice (some ⟨g3,0,none⟩) d.v.mks.length k)∧W.cell? ⟨g3,mk * 4,none⟩=some (.slice A3 m.book.bids.length c3)∧W.cell? ⟨g3,mk * 4 + 1,none⟩=some (.slice A4 m.book.asks.length c4) ∧
    W.cell? ⟨W3.heap.size,0,none⟩=some (.int .i64 100000)∧W.cell? ⟨W3.heap.size,1,none⟩=some (.int .i64 a.id)∧W.cell? ⟨W3.heap.size,2,none⟩=some (.int .i64 sd)∧W.cell? ⟨W3.heap.size,3,none⟩=some (.int .i64 price)∧W.cell? ⟨W3.heap.size,4,none⟩=some (.int .i64 q))
   (first | exact KS.out _ (by assumption) | exact KS.out _ (zaE (by assumption)) | exact KS.out _ (Below.alloc (by assumption) (Below.size (by assumption)) _) | exact KS.out _ (zaE (Below.alloc (by assumption) (Below.size (by assumption)) _)) | exact KS.out _ (Below.setCell (Below.setCell (by first | assumption | exact Below.alloc (by assumption) (by assumption) _) (by dsimp only;omega) _) (by dsimp only;omega) _))
   ((go_at_call 129;go_split_ands;(with_reducible refine (zqR m.book ⟨100000,a.id,sd,price,q⟩ A3 A4 c3 c4 W4.heap.size _ HTK.out (HBK4.out.below (by assumption)) (Below.size (by assumption)) hl1 hl2).mono ?_);rintro e W5 ⟨P,pc,P',pc',vf,rfl,hobk,hrow,hne,hb5⟩;obtain ⟨AL,cL,rfl⟩:=zad hrow;have hB5:=zb2 (w0:=W4) hb5 (by assumption);have hs5:=hB5.size;try have z1:=(Blk.drewN (Blk.new W4 83 #[.slice none 0 0,.slice none 0 0]) 1).below hb5 (by simp);try have z2:=z1.lt;try obtain ⟨⟨z3,z4⟩,z5,z6⟩:=z1.c2))
  all_goals
   have hbW:base ≤ W4.heap.size:=Nat.le_trans hb hB4.size;refine zau ?_;intro W6 hW6;have hB6:Below W4.heap.size W4 W6:=by rw [hW6];first | exact hB5.alloc hs5 _ | exact (hB5.setCell (by dsimp only;omega) _).setCell (by dsimp only;omega) _
   have HO6:Hid (OBk W6 W4.heap.size P P' pc pc' x):=by
    rw [hW6];first
     | exact ⟨zae (World.ownsRow.alloc hobk.l _) (zl _),zae (World.ownsRow.alloc hobk.r _) (zl _)⟩
     | exact ⟨zae (ownsRow_setCell_below (ownsRow_setCell_below hobk.l (by simp) _) (by simp) _) (by simp),zae (ownsRow_setCell_below (ownsRow_setCell_below hobk.r (by simp) _) (by simp) _) (by simp)⟩
   have HR6:Hid (W6.ownsRow W4.heap.size 55 7 (.slice AL l.length cL) l.length (zaJ l)):=by
    rw [hW6];first
     | exact zae (World.ownsRow.alloc hrow _) (zl _)
     | exact zae (ownsRow_setCell_below (ownsRow_setCell_below hrow (by simp) _) (by simp) _) (by simp)
   first
    | have X6:Blk W6 W5.heap.size 83 #[.slice P x.bids.length pc,.slice P' x.asks.length pc']:=by rw [hW6];exact Blk.new W5 _ _
    | have X6:Blk W6 W4.heap.size 83 #[.slice P x.bids.length pc,.slice P' x.asks.length pc']:=by rw [hW6];exact (z1.set_ 0 _).set_ 1 _
   have HNE:=zi hne;have V6:=V1.below hB6 y3;have HD6:=zi (HD4.out.below hB6);have HL6:=zi (hB4.trans (hB6.mono (by omega)));have hs6:=hB6.size;clear hW6 KS h00 hne hobk hrow;by_cases he:te=0
   rotate_left
   ·have he':(te != 0)=true:=by simpa using he
    have HEE2:=zi (show zce i mk marks d=.error te by rw [HRE.out];unfold okIf;rw [if_pos he]);have HN:=zi he;clear he;go_wp2_with fail
    go_ret;exact zaM HEE2.out HN.out (HL6.out.mono hb)
   subst he;have HP:=zi (zp4 HV.out HA.out HM.out HTC.out);obtain ⟨g',A5,c5,A6,c6,hg',hg5,hg6,hin6,⟨cs,hgB⟩,⟨q0,q1,q2,q3⟩,⟨r0,r1,r2,r3⟩,-⟩:=zdK HD6.out.mks HM.out;obtain rfl:g'=g3:=by injection hg' with hg';injection hg' with hg';exact hg'.symm
   have HG:=zi hgB;obtain ⟨⟨-,k1,-⟩,-⟩:=HD6.out.blk.c8;have y4:D < W6.heap.size:=HD6.out.lt;have y7:=X6.lt;clear hg' hgB;obtain ⟨⟨kX60,kX61⟩,-⟩:=X6.c2;go_wp2_with fail
   go_region
   refine zau ?_;intro Z hZ;have HAP:=zi (zpk HD4.out.mks hm (zl _) HO6.out HNE.out);have HDZ:=zi (zgV HD6.out HM.out ⟨zae HO6.out.l hbW,zae HO6.out.r hbW⟩ HP.out.lens (fun _=>HAP.out) HG.out hZ);have hFZ:Fr [113,57] (D :: (ab (some ⟨g,0,none⟩) ++ ab (some ⟨g',0,none⟩))) W6 Z:=by rw [hZ];exact (((Fr.refl _ _ _).set HG.out (.inr (by simp [ab])) _ _).set (HG.out.set_ _ _) (.inr (by simp [ab])) _ _).drewN 1
   have hLZ:Below base W6 Z:=by rw [hZ];exact zac (((Below.refl _ _).setCell hg5 _).setCell hg5 _) 1
   have HRZ:=zi (hFZ.own HR6.out (by decide) (zdr HD6.out HR6.out (by decide) (by decide) (by decide)));have VZ:=V6.fr hFZ (by decide) (zhr HD.out _ (zl _));have HLZ:=zi ((HL6.out.mono hb).trans hLZ);have HFZ:=zi ((Fr.of_below _ _ HL6.out).trans hFZ);have hbZ:base ≤ Z.heap.size:=Nat.le_trans (by omega) hFZ.size;clear hZ hFZ hLZ k1 q0 q1 q2 q3 r0 r1 r2 r3 kX60 kX61 X6 V6 V1;go_wp2_with fail
   refine (zjm base D true ⟨zaD d.v mk { m with book:=x },d.ev⟩ _ c _ k vE xs _ mk true l W4.heap.size AL cL Z HDZ.out hbZ HP.out.ok.accs (by have:=HP.out.cnt;show d.ev.length + _ ≤ _;omega) HP.out.fl HRZ.out).mono ?_;intro e W7 hret;cases hfl:zbz mk true l ⟨zaD d.v mk { m with book:=x },d.ev⟩ with
   | error n =>
    have HEE2:=zi (show zce i mk marks d=.error n by rw [HRE.out,hfl];rfl);rw [hfl] at hret;obtain ⟨hn,rfl,hL7⟩:=hret;have hn':(n != 0)=true:=by simpa using hn
    have HN:=zi hn;clear hfl hn;go_wp2_with fail
    go_ret;exact zaM HEE2.out HN.out (HLZ.out.trans hL7)
   | ok d1 =>
    obtain ⟨hk1,hk2⟩:=zoJ HP.out.ok HP.out.fs (by show mk < (d.v.mks.set mk _).length;rw [List.length_set];exact hm) hfl;have hk3:=zfz hfl;have HEE2:Hid (zbA mk a.id sd price left.toNat left d1=zce i mk marks d):=zi (by rw [HRE.out,hfl,← HSD.out];rfl);rw [hfl] at hret;obtain ⟨rfl,⟨vE7,xs7,ys7,hd7⟩,hL7,hF7⟩:=hret;have V7:=zi (VZ.fr hF7 (by decide) (zhr HD.out _ (zl _)));have HR0:=zi (show ClR w W7 base D d (some ⟨g,0,none⟩) c (some ⟨g',0,none⟩) k i mk marks a.id sd price left.toNat left d1 vE7 xs7 ys7 from ⟨hd7,HLZ.out.trans hL7,HFZ.out.trans hF7,hk1.accs,by rw [hk2];show mk < (d.v.mks.set mk _).length;rw [List.length_set];exact hm,HEE2.out,⟨HP.out.left.1,HP.out.left.2,zl _⟩,by have h1:=HP.out.left;have h2:=HP.out.cnt;have h3:d1.ev.length=d.ev.length + l.length:=hk3;omega⟩);clear hfl hk1 hk2 hk3 hd7 hL7 hF7 VZ;go_wp2_with fail
    go_loopw [13] (fun n wr=>∃ (fuel:Nat) (left1:Int) (d2:Dk) (vE1:Value) (xs1 ys1:List Value),n=.int .i64 left1∧Hid (ClR w wr base D d (some ⟨g,0,none⟩) c (some ⟨g',0,none⟩) k i mk marks a.id sd price fuel left1 d2 vE1 xs1 ys1) ∧
      Hid (Blk wr w.heap.size 78 #[.int .i64 a.id,.int .i64 a.bal,.slice (some ⟨b2,o2,none⟩) a.pos.length c2])) (fun n _=>(intOf n).toNat)
    case atStart=>exact ⟨left.toNat,left,d1,vE7,xs7,ys7,rfl,HR0,V7⟩
    case round =>
     obtain ⟨fuel,left1,d2,vE1,xs1,ys1,rfl,HR,HV1⟩:=hrel;have hbr:base ≤ wr.heap.size:=Nat.le_trans hb HR.out.fr.size;have hDr:=HR.out.desk.lt;have hvr:=HV1.out.lt;obtain ⟨hl0,hl1000,hlf⟩:=HR.out.bd;by_cases hlt:0 < left1
     ·obtain ⟨f,rfl⟩:∃ f,fuel=f + 1:=⟨fuel - 1,by omega⟩;have HLT:=zi hlt;have HLF:=zi hlf;clear hlf;go_wp2_with fail
      refine (zr7 base D true d2 _ c _ k vE1 xs1 ys1 mk sd wr HR.out.desk HR.out.ok (by rw [← HSD.out];exact zlc p) HR.out.mks).mono ?_;rintro e W8 ⟨rfl,hb8⟩;have HD8:=zi (HR.out.desk.below (hb8.mono (zl _)));have HL8:=zi (HR.out.low.trans (hb8.mono hbr));have HF8:=zi (HR.out.fr.below hb8);have V8:=HV1.out.below hb8 hvr;have hs8:=hb8.size;cases ho:zd7 d2.v mk sd with
      | none =>
       have HE9:=zi (HR.out.eq.symm.trans (zp5 HLT.out HLF.out ho));simp only [zf8];go_wp2_with fail
       go_ret;exact zaM HE9.out (by omega) HL8.out
      | some bq =>
       obtain ⟨i2,x2⟩:=bq;obtain ⟨a2,ha2,hpos⟩:=zhL ho;obtain ⟨g8,B8,c8,b3,o3,hgg,hg8,hin8,⟨q0,q1,q2⟩,rfl,hb3,hz3,hpl3,⟨hy1,hy2⟩,hpc3,-⟩:=zhp HD8.out ha2 HR.out.ok HR.out.mks;obtain rfl:g8=g:=by injection hgg with hgg;injection hgg with hgg;exact hgg.symm
       obtain ⟨p2,hp2⟩:∃ p2,a2.pos.getD mk 0=p2:=⟨_,rfl⟩;rw [hp2] at hz3 hy1 hy2 hpos;obtain ⟨nn,hnn⟩:∃ n,min left1 (max p2 (-p2))=n:=⟨_,rfl⟩;have hp0:p2 ≠ 0:=by intro e;rw [e,Int.zero_mul] at hpos;omega
       have hnb:1 ≤ nn∧nn ≤ 1000∧nn ≤ left1:=by omega
       have HST:=zi (HR.out.eq.symm.trans (zp6 HLT.out HLF.out ho ha2 hp2.symm hnn.symm));have HA2:=zi ha2;have HNN:=zi hnn;have hi2n:decide ((i2:Int) < 0)=false:=decide_eq_false (by omega);have hi20:(0:Int) ≤ (i2:Int):=by omega
       have hi21:(i2:Int) < (d2.v.accs.length:Int):=by omega
       have hmn2:(mk:Int) < (a2.pos.length:Int):=by have:=HR.out.mks;omega
       obtain ⟨hn1,hn2,hn3⟩:=hnb;obtain ⟨⟨k0,-⟩,-⟩:=HD8.out.blk.c8;have y8:D < W8.heap.size:=HD8.out.lt;clear ho ha2 hpos hp2 hnn hpl3 hgg hp0;simp only [zf8];go_wp2_with fail
       refine zbr ?_;intro W9 hW9;have hB9:Below W8.heap.size W8 W9:=by rw [hW9];exact (Below.refl _ _).alloc (zl _) _
       have X9:Blk W9 W8.heap.size 78 #[.int .i64 a2.id,.int .i64 a2.bal,.slice (some ⟨b3,o3,none⟩) a2.pos.length c8]:=by rw [hW9];exact Blk.new W8 _ _
       have V9:=V8.below hB9 (by omega);have hs9:=hB9.size;have HD9:=zi (HD8.out.below hB9);have HL9:=zi (HL8.out.trans (hB9.mono (by omega)));have HF9:=zi (HF8.out.below hB9);have hz9:W9.cell? ⟨b3,o3 + mk,none⟩=some (.int .i64 p2):=(hB9.cell (p:=⟨b3,_,none⟩) hb3).trans hz3;have y9:=X9.lt;clear hW9 k0 q0 q1 q2 hz3;obtain ⟨⟨kX90,kX91,kX92⟩,-⟩:=X9.c3;go_wp2_with fail
       go_quiet (fail)
       refine zau ?_;intro W10 hW10;rw [zqS,HNN.out];generalize (if p2 < -p2 then -p2 else p2)=mx;have hB10:Below W9.heap.size W9 W10:=by rw [hW10];exact zac (Below.refl _ _) _
       have X10:=X9.below hB10 y9;have V10:=V9.below hB10 (by omega);have hs10:=hB10.size;have HD10:=zi (HD9.out.below hB10);have HL10:=zi (HL9.out.trans (hB10.mono (by omega)));have HF10:=zi (HF9.out.below hB10);have hsn:-1000 ≤ sd * nn∧sd * nn ≤ 1000:=by
        rcases zlc p with e | e <;> rw [HSD.out] at e <;> rw [e] <;> omega
       have HSN:=zi hsn;obtain ⟨hsn1,hsn2⟩:=hsn;have hAI:=zi (zd2 HR.out.ok a2 (List.mem_of_getElem? HA2.out));have y10:=X10.lt;have y11:=V10.lt;have v0:W10.cell? ⟨w.heap.size,0,none⟩=some (.int .i64 a.id):=V10.cell 0;clear hW10 hB10 kX90 kX91 kX92 X9 hz9;obtain ⟨⟨kX100,kX101,kX102⟩,-⟩:=X10.c3;go_wp2_with fail
       refine (zjk base D true d2 _ c _ k vE1 xs1 ys1 mk a.id a2.id (sd * nn) price 0 W10 HD10.out (by omega) HR.out.ok HID.out hAI.out HSN.out).mono ?_;intro e W11 hret;cases htr:zcD d2.v mk a.id a2.id (sd * nn) price 0 with
       | error n =>
        have HEE3:=zi (show zce i mk marks d=.error n by rw [HST.out,htr];rfl);rw [htr] at hret;obtain ⟨hn,rfl,hL11⟩:=hret;have hn':(n != 0)=true:=by simpa using hn
        have HN:=zi hn;clear htr hn;go_wp2_with fail
        go_ret;exact zaM HEE3.out HN.out (HL10.out.trans hL11)
       | ok v' =>
        have HEE3:=zi (show zce i mk marks d=zbA mk a.id sd price f (left1 - nn) (tell ⟨v',d2.ev⟩ ⟨6,0,mk,0,a2.id,0,⟨0,0,a2.id,a.id,sd,price,nn⟩⟩) by rw [HST.out,htr];rfl);have HTS:=zi (zgl HR.out.ok htr);rw [htr] at hret;obtain ⟨rfl,⟨vE11,xs11,ys11,hd11⟩,hL11,hF11⟩:=hret;have HD11:=zi hd11;have HL11:=zi (HL10.out.trans hL11);have HF11:=zi (HF10.out.trans (hF11.mono (by simp) zeF));have X11:=X10.fr hF11 (by simp) (fun h=>zhr HD8.out _ (zl _) (zeF _ h));have V11:=V10.fr hF11 (by simp) (fun h=>zhr HD.out _ (zl _) (zeF _ h));have hs11:=hF11.size;have hb11:base ≤ W11.heap.size:=by omega
        have hle:d2.ev.length ≤ 1000000:=by have:=HR.out.len;omega
        have v1:W11.cell? ⟨w.heap.size,0,none⟩=some (.int .i64 a.id):=V11.cell 0;have x1:W11.cell? ⟨W8.heap.size,0,none⟩=some (.int .i64 a2.id):=X11.cell 0;have y12:=X11.lt;have y13:=V11.lt;clear htr hd11 hL11 hF11 X10 V10 v0 kX100 kX101 kX102;go_wp2_with fail
        refine (zeo base D true ⟨v',d2.ev⟩ _ c _ k vE11 xs11 ys11 ⟨6,0,mk,0,a2.id,0,⟨0,0,a2.id,a.id,sd,price,nn⟩⟩ W11 HD11.out hb11 hle).mono ?_;rintro e W12 ⟨rfl,⟨vE12,hd12⟩,hL12,hK12⟩;have HN:=zi (zsh HR.out HTS.out ⟨hn1,hn3⟩ HEE3.out hd12 (HL11.out.trans hL12) (HF11.out.trans (hK12.fr _)));have HV12:=zi (V11.fr (hK12.fr []) (by decide) (by simp));clear hd12 hL12 hK12 v1 x1 X11 V11;go_wp2_with fail
        go_roundw
        case rel=>exact ⟨f,_,_,_,_,_,rfl,HN,HV12⟩
        case measure=>simp [intOf];omega
     ·have HEX:=zi (HR.out.eq.symm.trans (zrF (by omega)));go_wp2_with fail
      go_ret;exact zd8 HEX.out HR.out.desk HR.out.low HR.out.fr
end
end Go.Proofs.YtockodmbhnlheaaGreatDoor
