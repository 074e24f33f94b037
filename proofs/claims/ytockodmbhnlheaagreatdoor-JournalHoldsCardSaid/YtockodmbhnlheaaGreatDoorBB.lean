import Derived.Test.YtockodmbhnlheaaGreatDoorAY
namespace Go.Proofs.YtockodmbhnlheaaGreatDoor
section
open Go.RowKit
def zj8 (w:World) (r:List Ac × Int × Int) (e:Ending) (w':World):Prop :=
 ∃ A c xs,e=.returned (.tuple #[.slice A r.1.length c,.int .i64 r.2.1,.int .i64 r.2.2])∧OwnAc w' w.heap.size A r.1.length c r.1 xs∧Below w.heap.size w w'
def zsI (w:World) (base g o:Nat) (a:Ac):Prop :=
 ∃ A c,w.cell? ⟨g,o,none⟩=some (.int .i64 a.id)∧w.cell? ⟨g,o + 1,none⟩=some (.int .i64 a.bal)∧w.cell? ⟨g,o + 2,none⟩=some (.slice A a.pos.length c) ∧
  w.ownsRow base 3 1 (.slice A a.pos.length c) a.pos.length (ints a.pos)∧a.pos.length * 8 ≤ 140737488355328
def OutO (wr:World) (base n c:Nat) (A:Option Addr) (done:List Ac):Prop :=
 n=0∧done = []∧A=none∧c=0∨∃ g cur,A=some ⟨g,0,none⟩∧base ≤ g∧wr.heap[g]?=some (.cells cur 78 (0,0))∧n * 3 ≤ cur.size∧(∀ i a,done[i]?=some a→zsI wr base g (i * 3) a)∧cur.size=c * 3∧n ≤ c∧c ≤ maxLen
theorem zfg (w:World) (base:Nat):OwnAc w base none 0 0 [] []:=⟨World.ownsRow_nil _ _ _ _,rfl,fun i a h=>by simp at h⟩
theorem OutO.own {w:World} {base n c:Nat} {A:Option Addr} {done:List Ac} (h:OutO w base n c A done) (hd:done.length=n):∃ xs,OwnAc w base A n c done xs:=by
 rcases h with ⟨rfl,rfl,rfl,rfl⟩ | ⟨g,cur,rfl,hb,hg,hn,hc,hs,hnc,hm⟩
 ·exact ⟨_,zfg _ _⟩
 ·have hblk:Blk w g 78 cur:=hg;refine ⟨cur.toList.take (n * 3),⟨⟨by rw [List.length_take,Array.length_toList];omega,.inr ⟨g,c,cur,rfl,hb,hg,hnc,hm,hs,rfl⟩⟩,hd,fun i a ha=>?_⟩⟩;have hi:i < n:=by have:=(List.getElem?_eq_some_iff.1 ha).1;omega
  obtain ⟨A2,c2,h0,h1,h2,h3,h4⟩:=hc i a ha;rw [hblk.cell] at h0;rw [hblk.cell] at h1;rw [hblk.cell] at h2;refine ⟨A2,c2,?_,?_,?_,h3,h4⟩
  ·rw [List.getElem?_take_of_lt (by omega)];simpa using h0
  ·rw [List.getElem?_take_of_lt (by omega)];simpa using h1
  ·rw [List.getElem?_take_of_lt (by omega)];simpa using h2
theorem zqE {wr X:World} {base n c1 g j B2 c3:Nat} {cur bx:Array Value} {done:List Ac} {a:Ac} {A3:Option Addr} {v:Value} {o:Obj} (hg1:base ≤ g) (hgl:g < wr.heap.size) (hX:Below wr.heap.size wr X) (hgX:Blk X g 78 cur)
  (hBX:Blk X wr.heap.size 78 bx) (hcur:cur.size=c1 * 3∧n ≤ c1∧c1 ≤ maxLen)
  (hsz:n * 3 ≤ cur.size) (hlt:j < n) (hd:done.length=j) (hdone:∀ i a,done[i]?=some a→zsI wr base g (i * 3) a) (hown:X.ownsRow B2 3 1 (.slice A3 a.pos.length c3) a.pos.length (ints a.pos)) (hB2:base ≤ B2)
  (hlen:a.pos.length * 8 ≤ 140737488355328) :
  OutO (((((X.setCell ⟨wr.heap.size,1,none⟩ v).setCell ⟨g,j * 3,none⟩ (.int .i64 a.id)).setCell ⟨g,j * 3 + 1,none⟩ (.int .i64 a.bal)).setCell ⟨g,j * 3 + 2,none⟩ (.slice A3 a.pos.length c3)).alloc o) base n c1 (some ⟨g,0,none⟩) (done ++ [a]):=by
 have hne:g ≠ wr.heap.size:=by omega
 have hZ:=((((hgX.far (p:=⟨wr.heap.size,1,none⟩) hne v).set_ (j * 3) (.int .i64 a.id)).set_ (j * 3 + 1) (.int .i64 a.bal)).set_ (j * 3 + 2) (.slice A3 a.pos.length c3)).alloc o;have hK:Kept [78] X (((((X.setCell ⟨wr.heap.size,1,none⟩ v).setCell ⟨g,j * 3,none⟩ (.int .i64 a.id)).setCell ⟨g,j * 3 + 1,none⟩ (.int .i64 a.bal)).setCell ⟨g,j * 3 + 2,none⟩ (.slice A3 a.pos.length c3)).alloc o):=by
  refine Kept.alloc ?_ o;exact ((((Kept.refl _ X).set hBX (by decide) _ _).set (hgX.far (p:=⟨wr.heap.size,1,none⟩) hne v) (by decide) _ _).set ((hgX.far (p:=⟨wr.heap.size,1,none⟩) hne v).set_ _ _) (by decide) _ _).set (((hgX.far (p:=⟨wr.heap.size,1,none⟩) hne v).set_ _ _).set_ _ _) (by decide) _ _
 have hO:=zae (hK.own hown (by decide)) hB2;generalize (((((X.setCell ⟨wr.heap.size,1,none⟩ v).setCell ⟨g,j * 3,none⟩ (.int .i64 a.id)).setCell ⟨g,j * 3 + 1,none⟩ (.int .i64 a.bal)).setCell ⟨g,j * 3 + 2,none⟩ (.slice A3 a.pos.length c3)).alloc o)=Z at *;refine .inr ⟨g,_,rfl,hg1,hZ,by simpa using hsz,fun i b hb=>?_,by simpa using hcur.1,hcur.2.1,hcur.2.2⟩;have h3:j * 3 + 2 < cur.size:=by omega
 by_cases hi:i < j
 ·rw [List.getElem?_append_left (by omega)] at hb;obtain ⟨A2,c2,h0,h1,h2,h5,h6⟩:=hdone i b hb;have hcell:∀ m,m < 3→Z.cell? ⟨g,i * 3 + m,none⟩=wr.cell? ⟨g,i * 3 + m,none⟩:=by
   intro m hm;rw [hZ.cell,zoR (by omega),← hgX.cell];exact hX.cell (p:=⟨g,i * 3 + m,none⟩) hgl
  exact ⟨A2,c2,(hcell 0 (by omega)).trans h0,(hcell 1 (by omega)).trans h1,(hcell 2 (by omega)).trans h2,hK.own (zaf h5 hX (zl _)) (by decide),h6⟩
 ·rw [List.getElem?_append_right (by omega)] at hb;have hij:i - done.length=0:=by
   rcases Nat.eq_zero_or_pos (i - done.length) with h0 | h0
   ·exact h0
   ·rw [List.getElem?_eq_none (by simp;omega)] at hb;cases hb
  rw [hij] at hb;simp at hb;subst hb;obtain rfl:i=j:=by omega
  obtain ⟨e0,e1,e2⟩:=ztd (x:=.int .i64 a.id) (y:=.int .i64 a.bal) (z:=.slice A3 a.pos.length c3) h3;exact ⟨A3,c3,by rw [hZ.cell];exact e0,by rw [hZ.cell];exact e1,by rw [hZ.cell];exact e2,hO,hlen⟩
set_option maxHeartbeats 2000000 in
theorem zo1 (A:Option Addr) (n c:Nat) (L:List Ac) (market mark rate:Int) (w:World) (h:RdL ze0 w w.heap.size A n c L) :
  Calls Tryz.prog 103 #[.slice A n c,.int .i64 market,.int .i64 mark,.int .i64 rate] w (zj8 w (zbQ L market mark rate)):=by
 have hl:=h.len;have hle:=h.le;have hcap:=h.cap;unfold maxLen at hcap;by_cases h8:8 < n
 ·have HE:=zi (show zbQ L market mark rate=([],0,2) by unfold zbQ;rw [if_pos (by omega)]);clear hl;go_enter Tryz.func103,Tryz.ntmps103
  go_wp2_with fail
  go_ret3
  rw [HE.out];exact ⟨none,0,_,rfl,zfg _ _,Below.refl _ _⟩
 ·have HE:=zi (show zdz market mark rate [] 0 (L.drop 0)=zbQ L market mark rate by unfold zbQ;rw [if_neg (by omega)];rfl);have HL:=zi hl;clear hl;obtain ⟨xs,hx,hx1⟩:=h.flat (by decide);go_enter Tryz.func103,Tryz.ntmps103
  go_wp2_with fail
  refine (zjy _ _ _ xs _ _ hx hx1 (zl _) (by omega)).mono ?_;rintro e w1 ⟨v1,rfl,hown,hb1⟩;obtain ⟨A1,c1,rfl⟩:=zad hown;have HV:=zi (Rd.of_own hown);have hout:OutO w1 w.heap.size n c1 A1 []:=by
   obtain ⟨_,⟨hv,hn⟩ | ⟨g,cap,cur,hv,h1,h2,h3,h5,h4,_⟩⟩:=hown
   ·injection hv with hv1 _ hv3;exact .inl ⟨hn,rfl,hv1,hv3⟩
   ·injection hv with hA _ hC;subst hC;exact .inr ⟨g,cur,hA,h1,h2,by rw [h4];exact Nat.mul_le_mul_right _ h3,by simp,h4,h3,h5⟩
  have HO:=zi hout;clear hout hx hx1 hown;go_wp2_with fail
  go_loopw [12,24] (fun s i wr=>∃ (j:Nat) (left:Int) (done:List Ac),j ≤ n∧s=.int .i64 left∧i=.int .i64 j∧Below w.heap.size w wr∧(-100000 * (j:Int) ≤ left∧left ≤ 100000 * (j:Int)) ∧
    Hid (done.length=j)∧Hid (zdz market mark rate done left (L.drop j)=zbQ L market mark rate)∧Hid (OutO wr w.heap.size n c1 A1 done)) (fun _ i _=>n - (intOf i).toNat)
  case atStart=>exact ⟨0,0,[],Nat.zero_le _,rfl,rfl,hb1,by omega,rfl,HE,HO⟩
  case round =>
   obtain ⟨j,left,done,hj,rfl,rfl,hbr,hleft,HD,HS,HO⟩:=hrel;by_cases hlt:j < n
   ·obtain ⟨b,o,a,rfl,hb,ha,A2,c2,k0,k1,k2,k3,k4⟩:=zfZ (h.below hbr) hlt;have HA:=zi ha;clear ha;have hbr':b < wr.heap.size:=by have:=hbr.size;omega
    obtain ⟨p,ep,hp⟩:∃ p ep,pays a market mark rate=(p,ep):=⟨_,_,rfl⟩;have HP:=zi (show zdl a.id a.bal a.pos market mark rate=(p,ep) from hp);have hst:=znq (market:=market) (mark:=mark) (rate:=rate) (left:=left) (done:=done) HA.out;rw [HS.out,hp] at hst;have HT:=zi hst;clear hst hp;by_cases he:ep=0
    ·subst he;obtain ⟨hp1,hp2⟩:=zsO HP.out;have hbal:=(zaw (zkn HP.out).1).2.2.2.1;obtain ⟨q,eq,hq⟩:∃ q eq,zaB [a.bal,-p]=(q,eq):=⟨_,_,rfl⟩;have HQ:=zi hq;have HT2:=zi (HT.out.trans (if_neg (by simp)));clear HT hq;go_wp2_with fail
     refine (zmc _ _ _ _ _ _ _ _ _ _ _ (k3.alloc hbr.size _) (by have:=hbr.size;simp;omega)).mono ?_;rintro e w2 ⟨rfl,hb2⟩;rw [HP.out];have hB2:=(Blk.new wr 78 #[.int .i64 a.id,.int .i64 a.bal,.slice A2 a.pos.length c2]).below hb2 (by simp);obtain ⟨⟨q0,q1,q2⟩,p0,p1,p2⟩:=hB2.c3;have hbw2:Below wr.heap.size wr w2:=((Below.refl _ _).alloc (zl _) _).trans (hb2.mono (by simp));have hz2:wr.heap.size < w2.heap.size:=zrw hb2;go_wp2_with fail
     refine (zg2 _ _ _ _ _ _ _ _ (k3.below (hbw2.mono hbr.size)) (by have:=hbr.size;omega) k4).mono ?_;rintro e w3 ⟨A3,c3,rfl,hown3,hb3⟩;have hB3:=hB2.below hb3 hz2;clear q0 q1 q2 p0 p1 p2;obtain ⟨⟨q0,q1,q2⟩,p0,p1,p2⟩:=hB3.c3;have hz3:wr.heap.size < w3.heap.size:=by have:=hb3.size;omega
     go_wp2_with fail
     obtain ⟨X,hX⟩:∃ X,X=((w3.setCell ⟨wr.heap.size,0,none⟩ (.int .i64 a.id)).setCell ⟨wr.heap.size,1,none⟩ (.int .i64 a.bal)).setCell ⟨wr.heap.size,2,none⟩ (.slice A3 a.pos.length c3):=⟨_,rfl⟩;rw [← hX];have hBX:Blk X wr.heap.size 78 #[.int .i64 a.id,.int .i64 a.bal,.slice A3 a.pos.length c3]:=by
      rw [hX];exact ((hB3.set_ 0 _).set_ 1 _).set_ 2 _
     have hXw:Below wr.heap.size wr X:=by
      rw [hX];exact (((hbw2.trans (hb3.mono (by omega))).setCell (zl _) _).setCell (zl _) _).setCell (zl _) _
     have hXo:X.ownsRow w2.heap.size 3 1 (.slice A3 a.pos.length c3) a.pos.length (ints a.pos):=by
      rw [hX];exact ownsRow_setCell_below (ownsRow_setCell_below (ownsRow_setCell_below hown3 hz2 _) hz2 _) hz2 _
     have hXs:w3.heap.size=X.heap.size:=by rw [hX];simp [World.setCell]
     rw [hXs] at hz3;have HXs:=zi hXs;clear hX hb3 hown3 hB3 hB2 q0 q1 q2 p0 p1 p2 hXs k0 k1 k2;refine (zdX _ _ _ [a.bal,-p] _ _ (Rd.new_at X _ _ _ 2 HXs.out rfl (by decide))).mono ?_;rintro e w' ⟨rfl,rfl⟩;rw [HQ.out,HXs.out];obtain ⟨⟨q0,q1,q2⟩,p0,p1,p2⟩:=hBX.c3;by_cases heq:eq=0
     ·subst heq;have HE2:=zi (show zdz market mark rate (done ++ [{ a with bal:=q }]) (left + p) (L.drop (j + 1))=zbQ L market mark rate by rw [HT2.out,HQ.out,if_neg (by simp)]);clear HT2;rcases HO.out with ⟨h0,_⟩ | ⟨g,cur,rfl,hg1,hg2,hg3,hg4,hg5⟩
      ·omega
      have HCUR:=zi hg5;have HBX:=zi hBX;clear hg5;have hgl:g < wr.heap.size:=Blk.lt (t:=78) (cs:=cur) hg2;have hgX:=(hXw.block g hgl).trans hg2;have HG:=zi hg4;obtain ⟨u0,u1,u2,⟨r0,r1,r2⟩,t0,t1,t2⟩:=row3 hgX hg3 hlt;have HgX:=zi hgX;have Hg2:=zi hg2;clear hgX hg2 hg4;have hgX':g < X.heap.size:=by omega
      go_wp2_with fail
      clear r0 r1 r2 t0 t1 t2 u0 u1 u2 q0 q1 q2 p0 p1 p2;go_roundw
      case rel =>
       refine ⟨j + 1,left + p,_,by omega,rfl,by go_num,hbr.trans ?_,by omega,?_,HE2,?_⟩
       ·have h1:=hXw.size;have h2:=hbr.size;exact (((((hXw.mono hbr.size).setCell (p:=⟨wr.heap.size,1,none⟩) hbr.size _).setCell (p:=⟨g,j * 3,none⟩) hg1 _).setCell (p:=⟨g,j * 3 + 1,none⟩) hg1 _).setCell (p:=⟨g,j * 3 + 2,none⟩) hg1 _).alloc (by simp [World.setCell];omega) _
       ·show _=_;rw [List.length_append,HD.out];rfl
       ·exact zqE (a:={ a with bal:=q }) hg1 hgl hXw HgX.out HBX.out HCUR.out hg3 hlt HD.out HG.out hXo (by have:=hbr.size;omega) k4
      case measure=>simp [intOf];omega
     ·have HE2:=zi (show zbQ L market mark rate=([],0,eq) by rw [HT2.out,HQ.out,if_pos heq]);have heq':(eq != 0)=true:=by simpa using heq
      clear heq HT2;go_wp2_with fail
      go_ret3
      rw [HE2.out];refine ⟨none,0,_,rfl,zfg _ _,hbr.trans ?_⟩;exact ((hXw.mono hbr.size).setCell (p:=⟨wr.heap.size,1,none⟩) hbr.size _).alloc (by have h1:=hXw.size;have h2:=hbr.size;simp [World.setCell];omega) _
    ·have HE2:=zi (HT.out.trans (if_pos he));have he':(ep != 0)=true:=by simpa using he
     clear he HT;go_wp2_with fail
     refine (zmc _ _ _ _ _ _ _ _ _ _ _ (k3.alloc hbr.size _) (by have:=hbr.size;simp;omega)).mono ?_;rintro e w2 ⟨rfl,hb2⟩;rw [HP.out];go_wp2_with fail
     go_ret3
     rw [HE2.out];exact ⟨none,0,_,rfl,zfg _ _,hbr.trans (((Below.refl _ _).alloc hbr.size _).trans (hb2.mono (by have:=hbr.size;simp;omega)))⟩
   ·have hjn:j=n:=by omega
    have HE2:=zi (show zbQ L market mark rate=(done,left,0) by
     rw [← HS.out,List.drop_eq_nil_of_le (by have:=HL.out;omega)];rfl)
    have HDn:=zi (HD.out.trans hjn);clear hjn HS HE;go_wp2_with fail
    go_ret3
    rw [HE2.out];obtain ⟨xs2,hown2⟩:=HO.out.own HDn.out;exact ⟨A1,c1,xs2,zsP HDn.out.symm,hown2.cast HDn.out.symm,hbr⟩
end
section
open Go.RowKit
def zcx (a b:Mk):Bool:=decide (a.index=b.index) && decide (a.last=b.last) && zf0 a.book b.book
def zcR (a b:Vn):Bool:=decide (a.ins=b.ins) && decide (a.resid=b.resid) && decide (a.next=b.next) && decide (a.inn=b.inn) && decide (a.out=b.out) && zbp zcw a.accs b.accs && zbp zcx a.mks b.mks
theorem zo2 (a b:Ac):zcw a b=true ↔ a=b:=by
 cases a;cases b;simp only [zcw,eqI,Bool.and_eq_true,decide_eq_true_eq,Ac.mk.injEq,and_assoc]
theorem zo3 (a b:Bk):zf0 a b=true ↔ a=b:=by
 cases a;cases b;simp only [zf0,zdj,Bool.and_eq_true,decide_eq_true_eq,Bk.mk.injEq]
theorem zo4 (a b:Mk):zcx a b=true ↔ a=b:=by
 cases a;cases b;simp only [zcx,Bool.and_eq_true,decide_eq_true_eq,Mk.mk.injEq,zo3];constructor
 ·rintro ⟨⟨h1,h2⟩,h3⟩;exact ⟨h3,h1,h2⟩
 ·rintro ⟨h3,h1,h2⟩;exact ⟨⟨h1,h2⟩,h3⟩
theorem zo5 (a b:Vn):zcR a b=true ↔ a=b:=by
 cases a;cases b;simp only [zcR,Bool.and_eq_true,decide_eq_true_eq,Vn.mk.injEq,zgP zo2,zgP zo4];constructor
 ·rintro ⟨⟨⟨⟨⟨⟨h1,h2⟩,h3⟩,h4⟩,h5⟩,h6⟩,h7⟩;exact ⟨h6,h7,h1,h2,h3,h4,h5⟩
 ·rintro ⟨h6,h7,h1,h2,h3,h4,h5⟩;exact ⟨⟨⟨⟨⟨⟨h1,h2⟩,h3⟩,h4⟩,h5⟩,h6⟩,h7⟩
theorem zj9 {w W:World} {B c c':Nat} {A A':Option Addr} {b:Bk} (h:BkR w B A A' c c' b) (hB:B ≤ w.heap.size) (hb:Below w.heap.size w W):BkR W w.heap.size A A' c c' b:=h.mono hB fun bb o hbb=>hb.cell (p:=⟨bb,o,none⟩) (by dsimp only;omega)
theorem zci {a b:Bool} (h:a=b):Ending.returned (.bool a)=.returned (.bool b):=by rw [h]
set_option maxHeartbeats 1000000 in
theorem znz (A A':Option Addr) (n n' c c':Nat) (L M:List Ac) (B B':Nat) (w:World) (h:RdL ze0 w B A n c L) (h':RdL ze0 w B' A' n' c' M) (hB:B ≤ w.heap.size) (hB':B' ≤ w.heap.size) :
  Calls Tryz.prog 30 #[.slice A n c,.slice A' n' c',.func (.func 31) #[] #[]] w fun e w'=>e=.returned (.bool (zbp zcw L M))∧Below w.heap.size w w':=by
 have hle:=h.le;have hcap:=h.cap;unfold maxLen at hcap;by_cases hn:n=n'
 ·subst hn;have HL:=zi h.len;have HL':=zi h'.len;go_enter Tryz.func30,Tryz.ntmps30
  go_wp2_with fail
  go_loopw [17] (fun i wr=>∃ (j:Nat),j ≤ n∧i=.int .i64 j∧Below w.heap.size w wr∧Hid (zbp zcw (L.drop j) (M.drop j)=zbp zcw L M)) (fun i _=>n - (intOf i).toNat)
  case atStart=>exact ⟨0,Nat.zero_le _,rfl,Below.refl _ _,rfl⟩
  case round =>
   obtain ⟨j,hj,rfl,hbr,HT⟩:=hrel;have hws:=hbr.size;by_cases hlt:j < n
   ·obtain ⟨b,o,a,rfl,hb,ha,A2,c2,k0,k1,k2,k3,k4⟩:=zfZ (h.below (hbr.mono hB)) hlt;obtain ⟨b',o',a',rfl,hb',ha',A2',c2',k0',k1',k2',k3',k4'⟩:=zfZ (h'.below (hbr.mono hB')) hlt;have HS:=zi (HT.out.symm.trans (zhO ha ha'));have x1:b < wr.heap.size:=by omega
    have x2:b' < wr.heap.size:=by omega
    clear ha ha';go_wp2_with fail
    refine (zrK a a' _ _ _ _ _ _ _ ((k3.alloc (by omega) _).alloc (by simp;omega) _) ((k3'.alloc (by omega) _).alloc (by simp;omega) _) (by simp;omega) (by simp;omega)).mono ?_;rintro e w2 ⟨rfl,hb2⟩;have hb3:Below w.heap.size w w2:=((hbr.alloc hws _).alloc (by simp;omega) _).trans (hb2.mono (by simp;omega));rcases zb5 (zcw a a') with m1 | m1;rotate_left
    ·have HE:=zi (show zbp zcw L M=false by rw [HS.out,m1];rfl);go_wp2_with fail
     go_ret;exact ⟨zci (by rw [HE.out]),hb3⟩
    ·have HE:=zi (show zbp zcw (L.drop (j + 1)) (M.drop (j + 1))=zbp zcw L M by rw [HS.out,m1];rfl);clear hb2;go_wp2_with fail
     go_roundw
     case rel=>exact ⟨j + 1,by omega,by go_num,hb3,HE⟩
     case measure=>simp [intOf];omega
   ·have hjn:j=n:=by omega
    have HE:=zi (show zbp zcw L M=true by
     have:=HT.out;rw [hjn,List.drop_eq_nil_of_le (by have:=HL.out;omega),List.drop_eq_nil_of_le (by have:=HL'.out;omega)] at this;rw [← this];rfl)
    clear hjn;go_wp2_with fail
    go_ret;exact ⟨zci (by rw [HE.out]),hbr⟩
 ·have HE:=zi (zgO (f:=zcw) (L:=L) (M:=M) (by rw [h.len,h'.len];exact hn));have hne:((n:Int) != (n':Int))=true:=by simp;omega
  go_enter Tryz.func30,Tryz.ntmps30
  go_wp2_with fail
  go_ret;exact ⟨zci (by rw [HE.out]),Below.refl _ _⟩
set_option maxHeartbeats 1000000 in
theorem zqF (a b:Mk) (A A' C C':Option Addr) (c c' k k' B B':Nat) (w:World) (h:BkR w B A A' c c' a.book) (h':BkR w B' C C' k k' b.book) (hB:B ≤ w.heap.size) (hB':B' ≤ w.heap.size) :
  Calls Tryz.prog 33 #[.agg #[.slice A a.book.bids.length c,.slice A' a.book.asks.length c',.int .i64 a.index,.int .i64 a.last],.agg #[.slice C b.book.bids.length k,.slice C' b.book.asks.length k',.int .i64 b.index,.int .i64 b.last]] w fun e w'=>e=.returned (.bool (zcx a b))∧Below w.heap.size w w':=by
 by_cases h1:a.index=b.index
 ·by_cases h2:a.last=b.last
  ·have HE:=zi (show zcx a b=zf0 a.book b.book by simp [zcx,h1,h2]);have H:=zi h;have H':=zi h';clear h h';go_enter Tryz.func33,Tryz.ntmps33
   go_wp2_with fail
   refine (zsY a.book b.book A A' C C' c c' k k' w.heap.size _ (zj9 H.out hB (((Below.refl _ _).alloc (zl _) _).alloc (by simp) _)) (zj9 H'.out hB' (((Below.refl _ _).alloc (zl _) _).alloc (by simp) _)) (by simp;omega)).mono ?_;rintro e w1 ⟨rfl,hb1⟩;go_wp2_with fail
   go_ret;exact ⟨zci HE.out.symm,(((Below.refl _ _).alloc (zl _) _).alloc (by simp) _).trans (hb1.mono (by simp;omega))⟩
  ·have HE:=zi (show zcx a b=false by simp [zcx,h2]);have e1:(a.last == b.last)=false:=by simpa using h2
   clear h h' h2;go_enter Tryz.func33,Tryz.ntmps33
   go_wp2_with fail
   go_ret;exact ⟨zci HE.out.symm,((Below.refl _ _).alloc (zl _) _).alloc (by simp) _⟩
 ·have HE:=zi (show zcx a b=false by simp [zcx,h1]);have e1:(a.index == b.index)=false:=by simpa using h1
  clear h h' h1;go_enter Tryz.func33,Tryz.ntmps33
  go_wp2_with fail
  go_ret;exact ⟨zci HE.out.symm,((Below.refl _ _).alloc (zl _) _).alloc (by simp) _⟩
set_option maxHeartbeats 1000000 in
theorem zo6 (A A':Option Addr) (n n' c c':Nat) (L M:List Mk) (B B':Nat) (w:World) (h:RdL shMk w B A n c L) (h':RdL shMk w B' A' n' c' M) (hB:B ≤ w.heap.size) (hB':B' ≤ w.heap.size) :
  Calls Tryz.prog 32 #[.slice A n c,.slice A' n' c',.func (.func 33) #[] #[]] w fun e w'=>e=.returned (.bool (zbp zcx L M))∧Below w.heap.size w w':=by
 have hle:=h.le;have hcap:=h.cap;unfold maxLen at hcap;by_cases hn:n=n'
 ·subst hn;have HL:=zi h.len;have HL':=zi h'.len;go_enter Tryz.func32,Tryz.ntmps32
  go_wp2_with fail
  go_loopw [17] (fun i wr=>∃ (j:Nat),j ≤ n∧i=.int .i64 j∧Below w.heap.size w wr∧Hid (zbp zcx (L.drop j) (M.drop j)=zbp zcx L M)) (fun i _=>n - (intOf i).toNat)
  case atStart=>exact ⟨0,Nat.zero_le _,rfl,Below.refl _ _,rfl⟩
  case round =>
   obtain ⟨j,hj,rfl,hbr,HT⟩:=hrel;have hws:=hbr.size;by_cases hlt:j < n
   ·obtain ⟨b,o,a,rfl,hb,ha,A2,c2,A3,c3,k0,k1,k2,k3,k4,-⟩:=zjX (h.below (hbr.mono hB)) hlt;obtain ⟨b',o',a',rfl,hb',ha',A2',c2',A3',c3',k0',k1',k2',k3',k4',-⟩:=zjX (h'.below (hbr.mono hB')) hlt;have HS:=zi (HT.out.symm.trans (zhO ha ha'));have x1:b < wr.heap.size:=by omega
    have x2:b' < wr.heap.size:=by omega
    clear ha ha';go_wp2_with fail
    refine (zqF a a' _ _ _ _ _ _ _ _ wr.heap.size wr.heap.size _ (zj9 k4 (by omega) (((Below.refl _ _).alloc (zl _) _).alloc (by simp) _)) (zj9 k4' (by omega) (((Below.refl _ _).alloc (zl _) _).alloc (by simp) _)) (by simp;omega) (by simp;omega)).mono ?_;rintro e w2 ⟨rfl,hb2⟩;have hb3:Below w.heap.size w w2:=((hbr.alloc hws _).alloc (by simp;omega) _).trans (hb2.mono (by simp;omega));rcases zb5 (zcx a a') with m1 | m1;rotate_left
    ·have HE:=zi (show zbp zcx L M=false by rw [HS.out,m1];rfl);go_wp2_with fail
     go_ret;exact ⟨zci (by rw [HE.out]),hb3⟩
    ·have HE:=zi (show zbp zcx (L.drop (j + 1)) (M.drop (j + 1))=zbp zcx L M by rw [HS.out,m1];rfl);clear hb2;go_wp2_with fail
     go_roundw
     case rel=>exact ⟨j + 1,by omega,by go_num,hb3,HE⟩
     case measure=>simp [intOf];omega
   ·have hjn:j=n:=by omega
    have HE:=zi (show zbp zcx L M=true by
     have:=HT.out;rw [hjn,List.drop_eq_nil_of_le (by have:=HL.out;omega),List.drop_eq_nil_of_le (by have:=HL'.out;omega)] at this;rw [← this];rfl)
    clear hjn;go_wp2_with fail
    go_ret;exact ⟨zci (by rw [HE.out]),hbr⟩
 ·have HE:=zi (zgO (f:=zcx) (L:=L) (M:=M) (by rw [h.len,h'.len];exact hn));have hne:((n:Int) != (n':Int))=true:=by simp;omega
  go_enter Tryz.func32,Tryz.ntmps32
  go_wp2_with fail
  go_ret;exact ⟨zci (by rw [HE.out]),Below.refl _ _⟩
set_option maxHeartbeats 2000000 in
theorem zqG (a b:Vn) (A M A' M':Option Addr) (c k c' k' B B':Nat) (w:World) (h:VnR w B A c M k a) (h':VnR w B' A' c' M' k' b) (hB:B ≤ w.heap.size) (hB':B' ≤ w.heap.size) :
  Calls Tryz.prog 15 #[.agg #[.slice A a.accs.length c,.slice M a.mks.length k,.int .i64 a.ins,.int .i64 a.resid,.int .i64 a.next,.int .i64 a.inn,.int .i64 a.out],.agg #[.slice A' b.accs.length c',.slice M' b.mks.length k',.int .i64 b.ins,.int .i64 b.resid,.int .i64 b.next,.int .i64 b.inn,.int .i64 b.out]] w fun e w'=>e=.returned (.bool (zcR a b))∧Below w.heap.size w w':=by
 have HB1:Hid (∀ o o',Below w.heap.size w ((w.alloc o).alloc o')):=fun o o'=>((Below.refl _ _).alloc (zl _) _).alloc (by simp) _;by_cases h1:a.ins=b.ins
 rotate_left
 ·skip;have HE:=zi (show zcR a b=false by simp [zcR,h1]);have e1:(a.ins == b.ins)=false:=by simpa using h1
  clear h h' h1;go_enter Tryz.func15,Tryz.ntmps15
  go_wp2_with fail
  go_ret;exact ⟨zci HE.out.symm,HB1.out _ _⟩
 have g1:(a.ins == b.ins)=true:=by simpa using h1
 have H1:=zi h1;clear h1;by_cases h1:a.resid=b.resid
 rotate_left
 ·skip;have HE:=zi (show zcR a b=false by simp [zcR,h1]);have e1:(a.resid == b.resid)=false:=by simpa using h1
  clear h h' h1;go_enter Tryz.func15,Tryz.ntmps15
  go_wp2_with fail
  go_ret;exact ⟨zci HE.out.symm,HB1.out _ _⟩
 have g2:(a.resid == b.resid)=true:=by simpa using h1
 have H2:=zi h1;clear h1;by_cases h1:a.next=b.next
 rotate_left
 ·skip;have HE:=zi (show zcR a b=false by simp [zcR,h1]);have e1:(a.next == b.next)=false:=by simpa using h1
  clear h h' h1;go_enter Tryz.func15,Tryz.ntmps15
  go_wp2_with fail
  go_ret;exact ⟨zci HE.out.symm,HB1.out _ _⟩
 have g3:(a.next == b.next)=true:=by simpa using h1
 have H3:=zi h1;clear h1;by_cases h1:a.inn=b.inn
 rotate_left
 ·skip;have HE:=zi (show zcR a b=false by simp [zcR,h1]);have e1:(a.inn == b.inn)=false:=by simpa using h1
  clear h h' h1;go_enter Tryz.func15,Tryz.ntmps15
  go_wp2_with fail
  go_ret;exact ⟨zci HE.out.symm,HB1.out _ _⟩
 have g4:(a.inn == b.inn)=true:=by simpa using h1
 have H4:=zi h1;clear h1;by_cases h1:a.out=b.out
 rotate_left
 ·skip;have HE:=zi (show zcR a b=false by simp [zcR,h1]);have e1:(a.out == b.out)=false:=by simpa using h1
  clear h h' h1;go_enter Tryz.func15,Tryz.ntmps15
  go_wp2_with fail
  go_ret;exact ⟨zci HE.out.symm,HB1.out _ _⟩
 have g5:(a.out == b.out)=true:=by simpa using h1
 have HE:=zi (show zcR a b=(zbp zcw a.accs b.accs && zbp zcx a.mks b.mks) by simp [zcR,H1.out,H2.out,H3.out,H4.out,h1]);clear h1;have H:=zi h;have H':=zi h';clear h h';go_enter Tryz.func15,Tryz.ntmps15
 go_wp2_with fail
 refine (znz A A' _ _ c c' a.accs b.accs B B' _ (H.out.accs.below ((HB1.out _ _).mono hB)) (H'.out.accs.below ((HB1.out _ _).mono hB')) (by simp;omega) (by simp;omega)).mono ?_;rintro e w1 ⟨rfl,hb1⟩;have hB1:=(HB1.out _ _).trans (hb1.mono (by simp;omega));have X1:=((Blk.new w 25 #[.slice A a.accs.length c,.slice M a.mks.length k,.int .i64 a.ins,.int .i64 a.resid,.int .i64 a.next,.int .i64 a.inn,.int .i64 a.out]).alloc (.cells #[.slice A' b.accs.length c',.slice M' b.mks.length k',.int .i64 b.ins,.int .i64 b.resid,.int .i64 b.next,.int .i64 b.inn,.int .i64 b.out] 25)).below hb1 (by simp;omega);have Y1:=(Blk.new_at (w.alloc (.cells #[.slice A a.accs.length c,.slice M a.mks.length k,.int .i64 a.ins,.int .i64 a.resid,.int .i64 a.next,.int .i64 a.inn,.int .i64 a.out] 25)) 25 #[.slice A' b.accs.length c',.slice M' b.mks.length k',.int .i64 b.ins,.int .i64 b.resid,.int .i64 b.next,.int .i64 b.inn,.int .i64 b.out] (w.heap.size + 1) (by simp)).below hb1 (by simp)
 have hs1:w.heap.size + 2 ≤ w1.heap.size:=by have:=hb1.size;simpa using this
 have x1:w1.cell? ⟨w.heap.size,1,none⟩=some (.slice M a.mks.length k):=X1.cell 1;have y1:w1.cell? ⟨w.heap.size + 1,1,none⟩=some (.slice M' b.mks.length k'):=Y1.cell 1;have z1:=X1.lt;have z2:=Y1.lt;clear hb1 X1 Y1;rcases zb5 (zbp zcw a.accs b.accs) with m1 | m1;rotate_left
 ·have HE2:=zi (show zcR a b=false by rw [HE.out,m1];rfl);rw [m1];go_wp2_with fail
  go_ret;exact ⟨zci HE2.out.symm,hB1⟩
 ·have HE2:=zi (show zcR a b=zbp zcx a.mks b.mks by rw [HE.out,m1];rfl);rw [m1];go_wp2_with fail
  refine (zo6 M M' _ _ k k' a.mks b.mks B B' w1 (H.out.mks.below (hB1.mono hB)) (H'.out.mks.below (hB1.mono hB')) (by omega) (by omega)).mono ?_;rintro e w2 ⟨rfl,hb2⟩;go_wp2_with fail
  go_ret;exact ⟨zci HE2.out.symm,hB1.trans (hb2.mono (by omega))⟩
end
end Go.Proofs.YtockodmbhnlheaaGreatDoor
