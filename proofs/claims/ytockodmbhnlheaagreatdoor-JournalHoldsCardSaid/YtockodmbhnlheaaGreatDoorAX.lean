import Derived.Test.YtockodmbhnlheaaGreatDoorAS
import Derived.Deep.Slices
namespace Go.Proofs.YtockodmbhnlheaaGreatDoor
section
open Go.RowKit
theorem zhZ:∀ {L:List Mk} {j:Nat} {m:Mk} {n e:Int},(∀ x ∈ L.take j,zaN x=0)→L[j]?=some m→za9 m=(n,e)→e ≠ 0→zdg L=([],e)
 | x :: l,0,m,n,e,_,hm,h1,h2=>by
  simp only [List.getElem?_cons_zero,Option.some.injEq] at hm;subst hm;unfold zdg;rw [h1,if_pos h2]
 | x :: l,j + 1,m,n,e,hj,hm,h1,h2=>by
  simp only [List.getElem?_cons_succ] at hm;have h0:zaN x=0:=hj x (by simp);have ih:=zhZ (L:=l) (j:=j) (fun y hy=>hj y (by simp [hy])) hm h1 h2;unfold zdg;rw [ih];have:(za9 x).2=0:=by unfold za9;rw [if_neg (by omega)]
  rw [if_neg (by omega)];simp [h2]
def zjj (w:World) (r:List Int × Int) (e:Ending) (w':World):Prop:=∃ A c,e=.returned (.tuple #[.slice A r.1.length c,.int .i64 r.2])∧w'.ownsRow w.heap.size 3 1 (.slice A r.1.length c) r.1.length (ints r.1)∧Below w.heap.size w w'
theorem zfT {w w':World} {r:List Int × Int} {l:List Int} {A:Option Addr} {n c:Nat} {e:Int} (h:r=(l,e)) (hl:l.length=n) (ho:w'.ownsRow w.heap.size 3 1 (.slice A n c) n (ints l)) (hb:Below w.heap.size w w') :
  zjj w r (.returned (.tuple #[.slice A n c,.int .i64 e])) w':=by subst h hl;exact ⟨A,c,rfl,ho,hb⟩
theorem zqm (m:Mk):∃ n e,za9 m=(n,e):=⟨_,_,rfl⟩
theorem zqn {m:Mk} {n:Int} (h:za9 m=(n,0)):zaN m=0∧n=ze1 m:=by
 unfold za9 at h;split at h
 ·injection h with _ h;exact absurd h ‹_›
 ·injection h with h _;exact ⟨by omega,h.symm⟩
theorem zhn:∀ {L:List Mk},(∀ m ∈ L,zaN m=0)→zdg L=(L.map ze1,0)
 | [],_=>rfl
 | m :: l,h=>by
  have h0:zaN m=0:=h m (by simp);unfold zdg;rw [zhn fun x hx=>h x (by simp [hx])];have:za9 m=(ze1 m,0):=by unfold za9;rw [if_neg (by omega)]
  rw [this];rfl
set_option maxHeartbeats 2000000 in
theorem zqo (A:Option Addr) (n c:Nat) (L:List Mk) (B:Nat) (w:World) (h:RdL shMk w B A n c L) (hB:B ≤ w.heap.size) :
  Calls Tryz.prog 104 #[.slice A n c] w (zjj w (zbG L)):=by
 have HL:=zi h.len;have hle:=h.le;have hcap:=h.cap;unfold maxLen at hcap;have hn:n < 1∨2 < n∨1 ≤ n∧n ≤ 2:=by omega
 rcases hn with hn | hn | ⟨hn1,hn2⟩
 ·have HE:=zi (show zbG L=([],2) by unfold zbG;rw [if_pos (by have:=HL.out;omega)]);obtain rfl:n=0:=by omega
  go_enter Tryz.func104,Tryz.ntmps104
  go_wp2_with fail
  go_ret2
  exact zfT HE.out rfl (World.ownsRow_nil _ _ _ _) (Below.refl _ _)
 ·have HE:=zi (show zbG L=([],2) by unfold zbG;rw [if_pos (by have:=HL.out;omega)]);have hn':¬ n < 1:=by omega
  go_enter Tryz.func104,Tryz.ntmps104
  go_wp2_with fail
  go_ret2
  exact zfT HE.out rfl (World.ownsRow_nil _ _ _ _) (Below.refl _ _)
 ·have HE:=zi (show zbG L=zdg L by unfold zbG;rw [if_neg (by have:=HL.out;omega)]);go_enter Tryz.func104,Tryz.ntmps104
  go_wp2_with fail
  go_loopw [4,19] (fun l i wr=>∃ (j:Nat),j ≤ n∧i=.int .i64 j∧Hid (wr.ownsRow w.heap.size 3 1 l j (ints ((L.take j).map ze1)))∧Below w.heap.size w wr∧Hid (∀ x ∈ L.take j,zaN x=0)) (fun _ i _=>n - (intOf i).toNat)
  case atStart=>exact ⟨0,Nat.zero_le _,rfl,World.ownsRow_nil _ _ _ _,Below.refl _ _,zi (by simp)⟩
  case round =>
   obtain ⟨j,hj,rfl,HO,hbr,HJ⟩:=hrel;have hws:=hbr.size;obtain ⟨Av,cv,rfl⟩:=zad HO.out;by_cases hlt:j < n
   ·obtain ⟨bb,oo,m,rfl,hbB,hm,A2,c2,A3,c3,k0,k1,k2,k3,hbk,hl1,hl2⟩:=zjX (h.below (hbr.mono hB)) hlt;have HM:=zi hm;have x1:bb < wr.heap.size:=by omega
    obtain ⟨z,e,hz⟩:=zqm m;have HZ:=zi hz;clear hm hz;go_wp2_with fail
    have hba:Below wr.heap.size wr (wr.alloc (.cells #[.slice A2 m.book.bids.length c2,.slice A3 m.book.asks.length c3,.int .i64 m.index,.int .i64 m.last] 85)):=(Below.refl _ _).alloc (zl _) _;refine (zmf m A2 A3 c2 c3 B _ (hbk.l.below (hba.mono (by omega))) (hbk.r.below (hba.mono (by omega))) (by simp;omega) hl1 hl2).mono ?_;rintro en w2 ⟨rfl,hb2⟩;rw [HZ.out];have hbw:=hba.trans (hb2.mono (by simp));have hs2:=hbw.size;clear hb2 hba k0 k1 k2 k3;by_cases he:e=0
    ·subst he;have HOK:=zi (zqn HZ.out);have HO2:=zi (zaf HO.out hbw (zl _));go_wp2_with (at_builtin;go_must (refine zbe rfl _ _ _ rfl w.heap.size _ _ _ zhw _ j (ints ((L.take j).map ze1)) rfl (HO2.out.alloc _) (w2.heap.size + 1) _ _ _ [.int .i64 z] rfl (Rd.new w2 #[.int .i64 z] 3 1 rfl (by decide)) (zhx [z]) (by simp only [maxLen];omega) (by omega) (by simp;omega) ?_);intro v' w4 hown hbel hg _)
     have hb4:Below w.heap.size w w4:=hbr.trans ((hbw.mono (by omega)).trans (((Below.refl _ _).alloc (by omega) _).trans hbel));have HO4:=zi (show w4.ownsRow w.heap.size 3 1 v' (j + 1) (ints ((L.take (j + 1)).map ze1)) by
      have e:ints ((L.take j).map ze1) ++ [.int .i64 z]=ints ((L.take (j + 1)).map ze1):=by
       rw [List.take_add_one,HM.out];simp [ints,HOK.out.2]
      rw [← e];exact hown)
     clear hown hbel hg;go_wp2_with fail
     go_roundw
     case rel=>exact ⟨j + 1,by omega,by go_num,HO4,hb4,zi (by
      intro x hx;rw [List.take_add_one,HM.out,List.mem_append] at hx;rcases hx with hx | hx
      ·exact HJ.out x hx
      ·simp only [Option.toList_some,List.mem_singleton] at hx;subst hx;exact HOK.out.1)⟩
     case measure=>simp [intOf];omega
    ·have he':(e != 0)=true:=by simpa using he
     have HE2:=zi (show zbG L=([],e) by rw [HE.out];exact zhZ HJ.out HM.out HZ.out he);clear he;go_wp2_with fail
     go_ret2
     exact zfT HE2.out rfl (World.ownsRow_nil _ _ _ _) (hbr.trans (hbw.mono (by omega)))
   ·have hjn:j=n:=by omega
    have HE2:=zi (show zbG L=(L.map ze1,0) by
     rw [HE.out];refine zhn fun x hx=>HJ.out x ?_;rw [hjn,List.take_of_length_le (by rw [HL.out];exact zl _)];exact hx)
    have HO2:=zi (show wr.ownsRow w.heap.size 3 1 (.slice Av j cv) j (ints (L.map ze1)) by
     have:=HO.out;rw [List.take_of_length_le (by rw [HL.out];omega)] at this;exact this)
    have HLN:=zi (show (L.map ze1).length=j by rw [List.length_map,HL.out,hjn]);clear hjn;go_wp2_with fail
    go_ret2
    exact zfT HE2.out HLN.out HO2.out hbr
end
section
open Go.RowKit
structure Av where
 id:Int
 bal:Int
 A:Option Addr
 n:Nat
 c:Nat
def zah:List Av→List Value
 | []=>[]
 | o :: l=>.int .i64 o.id :: .int .i64 o.bal :: .slice o.A o.n o.c :: zah l
theorem zdS:∀ L,(zah L).length=L.length * 3
 | []=>rfl
 | o :: l=>by simp only [zah,List.length_cons,zdS l];omega
theorem zeV (M:List Av):∀ L,zah (L ++ M)=zah L ++ zah M
 | []=>rfl
 | o :: l=>by simp only [List.cons_append,zah,zeV M l]
theorem zij:∀ (L:List Av) (k:Nat),(zah L).take (k * 3)=zah (L.take k)
 | [],k=>by simp [zah]
 | o :: l,0=>by simp [zah]
 | o :: l,k + 1=>by
  rw [show (k + 1) * 3=k * 3 + 1 + 1 + 1 by omega];simp only [zah,List.take_succ_cons,zij l k]
theorem zik:∀ (L:List Av) (k:Nat),(zah L).drop (k * 3)=zah (L.drop k)
 | [],k=>by simp [zah]
 | o :: l,0=>by simp [zah]
 | o :: l,k + 1=>by
  rw [show (k + 1) * 3=k * 3 + 1 + 1 + 1 by omega];simp only [zah,List.drop_succ_cons,zik l k]
theorem zgn:∀ {L:List Av} {i:Nat} {a:Av},L[i]?=some a→(zah L)[i * 3]?=some (.int .i64 a.id)∧(zah L)[i * 3 + 1]?=some (.int .i64 a.bal)∧(zah L)[i * 3 + 2]?=some (.slice a.A a.n a.c)
 | [],_,_,h=>by simp at h
 | o :: l,0,a,h=>by
  simp only [List.getElem?_cons_zero,Option.some.injEq] at h;subst h;exact ⟨rfl,rfl,rfl⟩
 | o :: l,i + 1,a,h=>by
  simp only [List.getElem?_cons_succ] at h;rw [show (i + 1) * 3=i * 3 + 1 + 1 + 1 by omega];exact zgn h
theorem zep:∀ (L:List Av),∀ u ∈ zah L,u.oneCell'=true
 | []=>by simp [zah]
 | o :: l=>by
  intro u hu;simp only [zah,List.mem_cons] at hu;rcases hu with rfl | rfl | rfl | hu;all_goals first | rfl | exact zep l u hu
def zdt (L:List Av) (i:Nat) (o:Av):List Av:=L.take i ++ o :: L.drop i
theorem zi0 (L:List Av) (i:Nat) (o:Av):zah (zdt L i o)=zah (L.take i) ++ (zah [o] ++ zah (L.drop i)):=by
 unfold zdt;rw [zeV,show o :: L.drop i = [o] ++ L.drop i from rfl,zeV]
theorem zte:(Tryz.prog.info? 78).map (·.size)=some 3:=by kernel_rfl
theorem zlO (w:World):(Go.sizeOf 78).run Tryz.prog w=.ok 3 w:=by
 have h:=zte;cases hq:Tryz.prog.info? 78 with
 | none=>simp [hq] at h
 | some i =>
  have hi:i.size=3:=by simpa [hq] using h
  simp [sizeOf,typeInfo,hq,hi]
theorem zj1 (w:World) (vb b off lb cb vc:Nat) (cs cs':Array Value) (t t':TypeId) (hne:vb ≠ b) (h1:Blk w vb t cs) (h2:Blk w b t' cs') (h0:cs'.size ≠ 0) :
  (callFunc 125 #[.slice (some ⟨vb,0,none⟩) 1 vc,.slice (some ⟨b,off,none⟩) lb cb]).run Tryz.prog w=.ok (.value (.bool false)) w:=by
 unfold Blk at h1 h2;rw [run_callFunc_extern Tryz.func125 (by kernel_rfl) (by kernel_rfl) (by kernel_rfl) (e:=Extern.SlicesOverlaps.overlaps #[22,22] #[4]) (by kernel_rfl),
  Lib.run_overlaps_apart w 22 4 78 Tryz.underlying22 3 zlO ⟨vb,0,none⟩ ⟨b,off,none⟩ 1 vc lb cb hne t t' cs.size cs'.size (by simp [World.shape?,h1]) (by simp [World.shape?,h2]) h0 (by simp [World.frozen?,h1]) (by simp [World.frozen?,h1])]
 rfl
set_option maxHeartbeats 1000000 in
set_option maxRecDepth 100000 in
theorem znr (base:Nat) (v:Value) (n:Nat) (L:List Av) (o:Av) (A:Option Addr) (c B:Nat) (w:World) (hown:w.ownsRow base 78 3 v n (zah L)) (hb:base ≤ w.heap.size) (h:Rd w B 3 A 1 c (zah [o])) (hm:(n + 1) * 40 ≤ 140737488355328) :
  Calls Tryz.prog 93 #[v,.int .i64 n,.slice A 1 c] w fun e w'=>∃ v',e=.returned v'∧w'.ownsRow base 78 3 v' (n + 1) (zah (zdt L n o))∧Below base w w'∧Only w w' v.ownBlock:=by
 have hL:L.length=n:=by have:=hown.1;rw [zdS] at this;omega
 have HI:=zi (show zah L ++ zah [o]=zah (zdt L n o) by
  rw [← zeV];unfold zdt;rw [List.take_of_length_le (by omega),List.drop_of_length_le (by omega)])
 clear hL;obtain ⟨A0,c0,rfl⟩:=zad hown;have hr:=Rd.of_own hown;have hle:=hr.le;have hcap:=hr.cap;simp only [maxLen] at hcap;obtain ⟨A1,hcut,_⟩:=zok zev hr n (zl _);have HO:=zi hown;have HR:=zi h;clear hown h hr;go_enter Tryz.func93,Tryz.ntmps93
 go_wp2_with (at_builtin;refine zbe rfl _ _ _ rfl base _ _ _ zev _ _ _ rfl HO.out B A 1 c (zah [o]) rfl HR.out (zep _) (by simp only [maxLen];omega) (by omega) hb ?_;intro v' w' hown' hbel' hgr _)
 go_ret;exact ⟨_,rfl,HI.out ▸ hown',hbel',hgr.block⟩
theorem zj2 {cur:List Value} {n i:Nat} {L:List Av} (o:Av) (hc:cur.take (n * 3)=zah L) (hn:n * 3 ≤ cur.length) (hi:i ≤ n):cur.take (i * 3)=zah (L.take i)∧(zah (L.take i)).length=i * 3∧(zah (L.drop i)).length=(n - i) * 3∧(zah [o]).length=3 ∧
  (∀ j v,(zah (L.drop i))[j]?=some v→cur[i * 3 + j]?=some v)∧L.length=n:=by
 have hL:L.length=n:=by
  have:=congrArg List.length hc;rw [zdS,List.length_take] at this;omega
 refine ⟨?_,?_,?_,rfl,?_,hL⟩
 ·rw [← zij,← hc,List.take_take,Nat.min_eq_left (by omega)]
 ·rw [zdS,List.length_take];omega
 ·rw [zdS,List.length_drop];omega
 ·intro j v hj;rw [← zik,← hc,List.getElem?_drop,List.getElem?_take] at hj;split at hj
  ·exact hj
  ·cases hj
set_option maxHeartbeats 600000 in
set_option maxRecDepth 100000 in
theorem zlP (base g n c i:Nat) (L:List Av) (o:Av) (cur:List Value) (vb vc:Nat) (tv:TypeId) (w:World) (hg:Blk w g 78 cur.toArray) (hcl:cur.length=c * 3) (hcur:cur.take (n * 3)=zah L) (hnc:n + 1 ≤ c) (hc:c ≤ maxLen)
  (hb:base ≤ g) (hv:Blk w vb tv #[.int .i64 o.id,.int .i64 o.bal,.slice o.A o.n o.c]) (hne:vb ≠ g) (hin:i < n) :
  Calls Tryz.prog 93 #[.slice (some ⟨g,0,none⟩) n c,.int .i64 i,.slice (some ⟨vb,0,none⟩) 1 vc] w fun e w'=>∃ v',e=.returned v'∧w'.ownsRow base 78 3 v' (n + 1) (zah (zdt L i o))∧Below base w w'∧Only w w' (some g):=by
 obtain ⟨hX,hXl,hDl,hOl,hsrc,hL⟩:=zj2 o hcur (show n * 3 ≤ cur.length by omega) (Nat.le_of_lt hin);have HF:=zi (show (splice (splice cur ((i + 1) * 3) (zah (L.drop i))) (i * 3) (zah [o])).take ((n + 1) * 3)=zah (zdt L i o) by
  have:=zkV (cur:=cur) (X:=zah (L.take i)) (D:=zah (L.drop i)) (O:=zah [o]) (by rw [hXl];exact hX) (by rw [hXl,hDl,hOl];omega);rw [hXl,hDl,hOl,show i * 3 + 3=(i + 1) * 3 by omega,show (i + 1) * 3 + (n - i) * 3=(n + 1) * 3 by omega] at this;rw [this,zi0])
 have hov:∀ W lb cb,Blk W vb tv #[.int .i64 o.id,.int .i64 o.bal,.slice o.A o.n o.c]→Blk W g 78 cur.toArray→(callFunc 125 #[.slice (some ⟨vb,0,none⟩) 1 vc,.slice (some ⟨g,(i + 1) * 3,none⟩) lb cb]).run Tryz.prog W=.ok (.value (.bool false)) W:=fun W lb cb h1 h2 =>
  zj1 W vb g _ lb cb vc _ _ _ _ hne h1 h2 (by rw [List.size_toArray];omega)
 have hov':=fun lb cb=>hov w lb cb hv hg;have HLI:=zi (show (zdt L i o).length=n + 1 by unfold zdt;simp;omega);have HOl:=zi hOl;have hBd:Below base w w.drew:=(zar (Below.refl _ _)).mono (Nat.le_trans hb (Nat.le_of_lt (Blk.lt hg)));have HG:=zi hg;have HV:=zi hv;have HS:=zi hsrc;have HC:=zi hcl;have HD:=zi hDl;have HCM:=zi hc;simp only [maxLen] at hc;clear hg hv hX hXl hsrc hcur hov hcl hDl hOl hL;have hw1:IntKind.i64.wrap ((i:Int) + 1)=(i:Int) + 1:=IntWalk.i64_in _ (by omega);have hw2:IntKind.i64.wrap ((n:Int) + 1)=(n:Int) + 1:=IntWalk.i64_in _ (by omega);have hz2:¬ ((i:Int)=(n:Int)):=by omega
 have htn:((i:Int) + 1).toNat=i + 1:=by omega
 have hb2:¬ (c=i + 1):=by omega
 have hb4:¬ (c=i):=by omega
 have hb3:(i:Int) ≤ (n:Int) + 1:=by omega
 have hb1:(0:Int) ≤ (i:Int) + 1:=by omega
 have hin2:i ≤ n:=by omega
 have hin3:(i:Int) ≤ (n:Int):=by omega
 go_enter Tryz.func93,Tryz.ntmps93
 go_wp2_with (simp only [hov'])
 have hsrc1:∀ j v,(zah (L.drop i))[j]?=some v→w.drew.cell? ⟨g,i * 3 + j,none⟩=some v:=fun j v hj=>by
  have:=HS.out j v hj;rw [Blk.cell (show Blk w.drew g 78 cur.toArray from HG.out)];simpa using this
 have hfit1:(i + 1) * 3 + (zah (L.drop i)).length ≤ cur.length:=by rw [HD.out,HC.out];omega
 have hg1:Hid (w.drew.heap[g]?=some (.cells cur.toArray 78 (0,0))):=HG;have hN1:(i + 1) * 3=(i + 1) * 3∧i * 3=i * 3∧n - i ≤ n + 1 - i∧n - i ≤ n + 1 - (i + 1)∧(n + 1 - i ≤ n - i∨n + 1 - (i + 1) ≤ n - i):=by omega
 go_region_law (refine zgj rfl _ _ 22 22 rfl 78 3 40 zev g ((i + 1) * 3) (n + 1 - (i + 1)) (c - (i + 1)) g (i * 3) (n + 1 - i) (c - i) (by simp [Act.eval,Act.put]) (by simp [Act.eval,Act.put]) (n - i) ((i + 1) * 3) (i * 3) hN1 cur 78 hg1.out (zah (L.drop i)) HD.out hsrc1 hfit1 (zep _) base w hBd hb ?_;intro w2 HG2 hB2 hO2)
 have HO2:=zi hO2;have hN2:i * 3=i * 3∧0=0∧1 ≤ 1∧1 ≤ n + 1 - i∧(1 ≤ 1∨n + 1 - i ≤ 1):=by omega
 have hsrc2:∀ j v,(zah [o])[j]?=some v→w2.cell? ⟨vb,0 + j,none⟩=some v:=fun j v hj=>by
  rw [Blk.cell (show Blk w2 vb tv #[.int .i64 o.id,.int .i64 o.bal,.slice o.A o.n o.c] from (HO2.out vb hne).trans HV.out),Nat.zero_add];simpa [zah] using hj
 have hfit2:i * 3 + (zah [o]).length ≤ (splice cur ((i + 1) * 3) (zah (L.drop i))).length:=by rw [length_splice _ _ _ hfit1,HC.out,HOl.out];omega
 have HFT:=zi hfit2;have HS2:=zi hsrc2;clear hN2 hsrc2 hfit2 hO2 hN1 hsrc1 hg1 hov';go_wp2_with (refine zfr rfl (.tmp 80) (.tmp 81) 22 22 rfl 78 3 40 zev g (i * 3) (n + 1 - i) (c - i) vb 0 1 vc (by rfl) (by rfl) 1 (i * 3) 0 ⟨rfl,rfl,zl _,by omega,by omega⟩ (splice cur ((i + 1) * 3) (zah (L.drop i))) 78 HG2.out (zah [o]) rfl HS2.out HFT.out (zep _) base w hB2 hb ?_;intro w3 HG3 hB3 hO3)
 have HO3:=zi hO3;clear hO3;go_ret;refine ⟨_,rfl,⟨?_,.inr ⟨g,c,_,rfl,hb,HG3.out,hnc,HCM.out,?_,?_⟩⟩,hB3,fun k _ hk=>(HO3.out k (fun e=>hk (by rw [e]))).trans (HO2.out k (fun e=>hk (by rw [e])))⟩
 ·rw [zdS,HLI.out]
 ·rw [List.size_toArray,length_splice _ _ _ HFT.out,length_splice _ _ _ hfit1,HC.out]
 ·exact HF.out
set_option maxHeartbeats 1000000 in
set_option maxRecDepth 100000 in
theorem zns (base g n c i:Nat) (L:List Av) (o:Av) (cur:List Value) (vb vc:Nat) (tv:TypeId) (w:World) (hg:Blk w g 78 cur.toArray) (hcl:cur.length=c * 3) (hcur:cur.take (n * 3)=zah L) (hnc0:n ≤ c) (hnc:c < n + 1) (hc:c ≤ maxLen)
  (hb:base ≤ w.heap.size) (hv:Blk w vb tv #[.int .i64 o.id,.int .i64 o.bal,.slice o.A o.n o.c]) (_hne:vb ≠ g) (hin:i < n) (hm:(n + 1) * 40 ≤ 140737488355328) :
  Calls Tryz.prog 93 #[.slice (some ⟨g,0,none⟩) n c,.int .i64 i,.slice (some ⟨vb,0,none⟩) 1 vc] w fun e w'=>∃ v',e=.returned v'∧w'.ownsRow base 78 3 v' (n + 1) (zah (zdt L i o))∧Below base w w'∧Only w w' (some g):=by
 obtain ⟨hX,hXl,hDl,hOl,hsrc,hL⟩:=zj2 o hcur (show n * 3 ≤ cur.length by omega) (Nat.le_of_lt hin);obtain ⟨c',ROW,W1,hrz,hc1,hc2,hRl,hRX,hW1,hB1,hO1⟩:=zhe (P:=Tryz.prog) zev Tryz.underlying3 w g c i (n + 1 - i) base cur hg hcl (by omega) (by omega) (by omega) (by simp only [maxLen];omega) hb;have hin1:i + (n + 1 - i)=n + 1:=by omega
 rw [hin1] at hrz hc1;rw [show ((n + 1 - i:Nat):Int)=(n:Int) + 1 - (i:Int) by omega] at hrz;clear hin1;have HF:=zi (show (splice (splice ROW (i * 3) (zah [o])) ((i + 1) * 3) (zah (L.drop i))).take ((n + 1) * 3)=zah (zdt L i o) by
  have:=znQ (cur:=ROW) (X:=zah (L.take i)) (D:=zah (L.drop i)) (O:=zah [o]) (by rw [hXl,hRX];exact hX) (by rw [hXl,hDl,hOl];omega);rw [hXl,hDl,hOl,show i * 3 + 3=(i + 1) * 3 by omega,show (i + 1) * 3 + (n - i) * 3=(n + 1) * 3 by omega] at this;rw [this,zi0])
 have HLI:=zi (show (zdt L i o).length=n + 1 by unfold zdt;simp;omega);have HS:=zi hsrc;have HD:=zi hDl;have HOl:=zi hOl;have HR:=zi hRl;have HC2:=zi hc2;have HBW:=zi hb;obtain ⟨G,hG⟩:∃ G,G=w.heap.size:=⟨_,rfl⟩;have HGG:=zi hG;have hgG:g < G:=by rw [hG];exact Blk.lt hg
 have hvG:vb < G:=by rw [hG];exact Blk.lt hv
 rw [← hG] at hW1 hO1 hrz hb;have HV1:=zi (show Blk W1 vb tv #[.int .i64 o.id,.int .i64 o.bal,.slice o.A o.n o.c] from (hO1 vb hvG).trans hv);have HG1:=zi (show Blk W1 g 78 cur.toArray from (hO1 g hgG).trans hg);have HW1:=zi hW1;have HO1:=zi hO1;have HRZ:=zi hrz;simp only [maxLen] at hc hc2;clear hg hv hX hXl hsrc hcur hcl hDl hOl hL hRl hRX hW1 hO1 hG hrz;have hw1:IntKind.i64.wrap ((i:Int) + 1)=(i:Int) + 1:=IntWalk.i64_in _ (by omega);have hw2:IntKind.i64.wrap ((n:Int) + 1)=(n:Int) + 1:=IntWalk.i64_in _ (by omega);have hw3:IntKind.i64.wrap ((n:Int) + 1 - (i:Int))=(n:Int) + 1 - (i:Int):=IntWalk.i64_in _ (by omega);have hz2:¬ ((i:Int)=(n:Int)):=by omega
 have htn:((i:Int) + 1).toNat=i + 1:=by omega
 have hb2:¬ (c'=i + 1):=by omega
 have hb4:¬ (c=i):=by omega
 have hb5:¬ (c'=i):=by omega
 have hb3:(i:Int) ≤ (n:Int) + 1:=by omega
 have hb1:(0:Int) ≤ (i:Int) + 1:=by omega
 have hin2:i ≤ n:=by omega
 have hin3:(i:Int) ≤ (n:Int):=by omega
 go_enter Tryz.func93,Tryz.ntmps93
 have hf1:i * 3 + (zah [o]).length ≤ ROW.length:=by rw [HOl.out,HR.out];omega
 have HF1:=zi hf1;have HS1:=zi (show ∀ j v,(zah [o])[j]?=some v→W1.cell? ⟨vb,0 + j,none⟩=some v from fun j v hj=>by
  rw [Blk.cell HV1.out,Nat.zero_add];simpa [zah] using hj)
 clear hf1;go_wp2_with (first | (at_builtin;refine Lib.wpList_append_run _ rfl _ _ _ _ rfl _ _ rfl rfl _ _ (HRZ.out _) ?_) | (refine zfr rfl (.tmp 43) (.tmp 44) 22 22 rfl 78 3 40 zev G (i * 3) (n + 1 - i) (c' - i) vb 0 1 vc (by rfl) (by rfl) 1 (i * 3) 0 ⟨rfl,rfl,zl _,by omega,by omega⟩ ROW 78 HW1.out (zah [o]) rfl HS1.out HF1.out (zep _) base w hB1 hb ?_;intro w2 HG2 hB2 hO2))
 have HG2':Hid (w2.drew.heap[G]?=some (.cells (splice ROW (i * 3) (zah [o])).toArray 78 (0,0))):=HG2;have hg2:Blk w2.drew g 78 cur.toArray:=(hO2 g (by omega)).trans HG1.out;have hs2:∀ j v,(zah (L.drop i))[j]?=some v→w2.drew.cell? ⟨g,i * 3 + j,none⟩=some v:=fun j v hj=>by
  have:=HS.out j v hj;rw [Blk.cell hg2];simpa using this
 have HS2:=zi hs2;have hf2:(i + 1) * 3 + (zah (L.drop i)).length ≤ (splice ROW (i * 3) (zah [o])).length:=by rw [length_splice _ _ _ HF1.out,HD.out,HR.out];omega
 have HF2:=zi hf2;have hBd:Below base w w2.drew:=hB2.trans ((zar (Below.refl _ _)).mono (Nat.le_trans HBW.out hB2.size));have HO2:=zi hO2;clear hg2 hs2 hf2 hO2;go_region_law (refine zgj rfl _ _ 22 22 rfl 78 3 40 zev G ((i + 1) * 3) (n + 1 - (i + 1)) (c' - (i + 1)) g (i * 3) (n - i) (c - i) (by simp [Act.eval,Act.put]) (by simp [Act.eval,Act.put]) (n - i) ((i + 1) * 3) (i * 3) ⟨rfl,rfl,by omega,by omega,by omega⟩ (splice ROW (i * 3) (zah [o])) 78 HG2'.out (zah (L.drop i)) HD.out HS2.out HF2.out (zep _) base w hBd hb ?_;intro w3 HG3 hB3 hO3)
 have HO3:=zi hO3;clear hO3;go_wp2_with fail
 go_ret;refine ⟨_,rfl,⟨?_,.inr ⟨G,c',_,rfl,hb,HG3.out,hc1,HC2.out,?_,?_⟩⟩,hB3,fun k hk _=>?_⟩
 ·rw [zdS,HLI.out]
 ·rw [List.size_toArray,length_splice _ _ _ HF2.out,length_splice _ _ _ HF1.out,HR.out]
 ·exact HF.out
 ·have hkG:k < G:=by rw [HGG.out];exact hk
  exact ((HO3.out k (by omega)).trans (HO2.out k (by omega))).trans (HO1.out k hkG)
theorem zoS (base:Nat) (v:Value) (n i:Nat) (L:List Av) (o:Av) (vb vc:Nat) (tv:TypeId) (w:World) (hown:w.ownsRow base 78 3 v n (zah L)) (hb:base ≤ w.heap.size) (hv:Blk w vb tv #[.int .i64 o.id,.int .i64 o.bal,.slice o.A o.n o.c]) (hvc:1 ≤ vc) (hvc':vc ≤ maxLen) (hne:v.ownBlock ≠ some vb) (hi:i ≤ n) (hm:(n + 1) * 40 ≤ 140737488355328) :
  Calls Tryz.prog 93 #[v,.int .i64 i,.slice (some ⟨vb,0,none⟩) 1 vc] w fun e w'=>∃ v',e=.returned v'∧w'.ownsRow base 78 3 v' (n + 1) (zah (zdt L i o))∧Below base w w'∧Only w w' v.ownBlock:=by
 by_cases hin:i=n
 ·subst hin;refine znr base v i L o (some ⟨vb,0,none⟩) vc w.heap.size w hown hb ⟨rfl,hvc,hvc',nofun,fun _=>⟨vb,0,rfl,Blk.lt hv,fun j u hj=>?_⟩⟩ hm;rw [Blk.cell hv,Nat.zero_add];simpa [zah] using hj
 ·obtain ⟨hl,⟨rfl,h0⟩ | ⟨g,c,cur,rfl,hbg,hg,hnc,hcm,hcs,hct⟩⟩:=hown
  ·omega
  ·have hne':vb ≠ g:=fun e=>hne (by rw [e];rfl);have hgb:Blk w g 78 cur.toList.toArray:=by rw [Array.toArray_toList];exact hg
   by_cases hr:n + 1 ≤ c
   ·exact zlP base g n c i L o cur.toList vb vc tv w hgb (by rw [Array.length_toList];exact hcs) hct hr hcm hbg hv hne' (by omega)
   ·exact zns base g n c i L o cur.toList vb vc tv w hgb (by rw [Array.length_toList];exact hcs) hct hnc (by omega) hcm hb hv hne' (by omega) hm
end
section
open Go.ChangeShapes Go.WideShapes Go.ChangeAt Go.RowKit
theorem zeW {α:Type} (Q:Nat→α→Prop):∀ n,(∀ i,i < n→∃ a,Q i a)→∃ L:List α,L.length=n∧∀ i a,L[i]?=some a→Q i a
 | 0,_=>⟨[],rfl,by simp⟩
 | n + 1,h=>by
  obtain ⟨L,hl,hL⟩:=zeW Q n fun i hi=>h i (by omega);obtain ⟨a,ha⟩:=h n (by omega);refine ⟨L ++ [a],by simp [hl],fun i b hb=>?_⟩;by_cases hi:i < n
  ·rw [List.getElem?_append_left (by omega)] at hb;exact hL i b hb
  ·have hlt:=(List.getElem?_eq_some_iff.1 hb).1;simp [hl] at hlt;obtain rfl:i=n:=by omega
   rw [List.getElem?_append_right (by omega)] at hb;simp [hl] at hb;subst hb;exact ha
theorem zg8 {H:Type} {P:Program} {e:TypeId} {y:Nat}:∀ {ds:List (DataW H)} {d:DataW H},d ∈ ds→y ∈ d.weights P e→y ∈ DataW.weightsAll P e ds
 | [],_,h,_=>by cases h
 | d' :: ds,d,h,hy=>by
  rw [DataW.weightsAll,List.mem_append];rcases List.mem_cons.1 h with rfl | h
  ·exact .inl hy
  ·exact .inr (zg8 h hy)
section
variable {H:Type} {enc:TypeId × Value→H} {W:World}
theorem zbX {fuel:Nat} {cs:List Value} {x:DataW H × List MemPlace} (h:DataW.trod enc Tryz.prog W 0 (fun _=>true) true fuel 3 cs=some x):∃ z,cs = [.int .i64 z]∧zcf z:=by
 obtain ⟨z,h1,_,h3⟩:=DataW.trod_int Tryz.underlying3 h;exact ⟨z,h1,zjc h3⟩
set_option maxRecDepth 100000 in
theorem zqp {fuel:Nat} {cs:List Value} {x:DataW H × List MemPlace} (h:DataW.trod enc Tryz.prog W 0 (fun _=>true) true fuel 76 cs=some x)
  (hs:∀ y ∈ x.1.weights Tryz.prog 76,y ≤ reachBytes) :
  ∃ A n c l,cs = [.slice A n c]∧Rd W W.heap.size 1 A n c (ints l)∧c * 8 ≤ reachBytes∧∀ z ∈ l,zcf z:=by
 rcases open_ints Tryz.underlying76 Tryz.underlying3 (by kernel_rfl) h with ⟨hcs,hx⟩ | ⟨ad,n,c,zs,hcs,_,hl,hm,hz,hx,hcell,hwz⟩
 ·exact ⟨none,0,0,[],hcs,Rd.none_ _ _ _,by simp,by simp⟩
 ·simp only [if_true] at hz;refine ⟨some ad,n,c,zs.take n,hcs,⟨by simp [ints];omega,hl,hm,nofun,fun hn=>?_⟩,?_,fun z hz'=>zjc (hwz z (List.mem_of_mem_take hz'))⟩
  ·have h0:=hcell 0 (by omega);rw [show ad.add 0=ad by simp [Addr.add]] at h0;have hsp:ad.spot=none:=zey h0;refine ⟨ad.block,ad.off,?_,zfw h0,fun j u hj=>?_⟩
   ·obtain ⟨b,o,sp⟩:=ad;simp only at hsp;subst hsp;rfl
   ·have hj':j < n:=by have:=(List.getElem?_eq_some_iff.1 hj).1;simp [ints] at this;omega
    rw [zcv hsp (hcell j (by omega))];simp [ints,hj'] at hj;obtain ⟨z,hz',rfl⟩:=hj;rw [List.getD,hz'];rfl
  ·subst hx;have hb:=hs (((lits .i64 (zs.take n):List (DataW H)).length + (lits .i64 (zs.drop n):List (DataW H)).length) * 8) (by
    simp only [DataW.weights,Tryz.underlying76];rw [show Tryz.prog.bytesOf 3=8 by kernel_rfl];simp)
   simp [lits] at hb;omega
structure FitAc (a:Ac):Prop where
 id:zcf a.id
 bal:zcf a.bal
 pos:∀ z ∈ a.pos,zcf z
set_option maxRecDepth 100000 in
theorem zrP {fuel:Nat} {cs:List Value} {x:DataW H × List MemPlace} (h:DataW.trod enc Tryz.prog W 0 (fun _=>true) true fuel 78 cs=some x)
  (hs:∀ y ∈ x.1.weights Tryz.prog 78,y ≤ reachBytes) :
  ∃ (a:Ac) (A:Option Addr) (c:Nat),cs = [.int .i64 a.id,.int .i64 a.bal,.slice A a.pos.length c]∧Rd W W.heap.size 1 A a.pos.length c (ints a.pos)∧c * 8 ≤ reachBytes∧FitAc a:=by
 obtain ⟨xs,m,_,hx,hlen,hxl,hf⟩:=DataW.trod_struct Tryz.underlying78 h;rw [show Tryz.prog.cellsOf 78=3 by kernel_rfl] at hlen;have h0:DataW.trod enc Tryz.prog W 0 (fun _=>true) true m 3 ((cs.drop 0).take (Tryz.prog.cellsOf 3))=xs[0]?:=hf 0 _ rfl;have h1:DataW.trod enc Tryz.prog W 0 (fun _=>true) true m 3 ((cs.drop 1).take (Tryz.prog.cellsOf 3))=xs[1]?:=hf 1 _ rfl;have h2:DataW.trod enc Tryz.prog W 0 (fun _=>true) true m 76 ((cs.drop 2).take (Tryz.prog.cellsOf 76))=xs[2]?:=hf 2 _ rfl;rw [show Tryz.prog.cellsOf 3=1 by kernel_rfl] at h0 h1;rw [show Tryz.prog.cellsOf 76=1 by kernel_rfl] at h2;match cs,hlen,xs,hxl with
 | [c0,c1,c2],_,[y0,y1,y2],_ =>
  obtain ⟨z0,e0,i0⟩:=zbX (x:=y0) (by simpa using h0);obtain ⟨z1,e1,i1⟩:=zbX (x:=y1) (by simpa using h1);have hs2:∀ y ∈ y2.1.weights Tryz.prog 76,y ≤ reachBytes:=by
   intro y hy;refine hs y ?_;subst hx;simp only [DataW.weights,Tryz.underlying78];simp [DataW.weightsEach,hy]
  obtain ⟨A,n,c,l,e2,r2,s2,i2⟩:=zqp (x:=y2) (by simpa using h2) hs2;obtain rfl:l.length=n:=r2.ofInts;injection e0 with e0 _;injection e1 with e1 _;injection e2 with e2 _;subst e0 e1 e2;exact ⟨⟨z0,z1,l⟩,A,c,rfl,r2,s2,⟨i0,i1,i2⟩⟩
theorem zqq {fuel:Nat} {cs:List Value} {x:DataW H × List MemPlace} (h:DataW.trod enc Tryz.prog W 0 (fun _=>true) true fuel 22 cs=some x)
  (hs:∀ y ∈ x.1.weights Tryz.prog 22,y ≤ reachBytes) :
  ∃ A n c L,cs = [.slice A n c]∧RdL ze0 W W.heap.size A n c L∧c * 40 ≤ reachBytes∧∀ a ∈ L,FitAc a:=by
 rcases Go.Deep.open_slice Tryz.underlying22 h with ⟨hcs,hx⟩ | ⟨ad,n,c,m,f,D,Pl,hcs,_,hl,hm,hmm,hx,hi⟩
 ·exact ⟨none,0,0,[],hcs,RdL.none_ _ _ _,by simp,by simp⟩
 ·simp only [if_true] at hmm;subst hmm;rw [show Tryz.prog.cellsOf 78=3 by kernel_rfl] at hi;have hw:∀ i,i < n→∀ y ∈ (D i).weights Tryz.prog 78,y ≤ reachBytes:=by
   intro i hin y hy;refine hs y ?_;subst hx;simp only [DataW.weights,Tryz.underlying22];refine List.mem_cons_of_mem _ (List.mem_append_left _ (zg8 (d:=D i) ?_ hy));exact List.mem_map.2 ⟨i,List.mem_range.2 hin,rfl⟩
  have hel:∀ i,i < n→∃ a:Ac,FitAc a∧∃ A2 c2,W.cell? (ad.add (i * 3))=some (.int .i64 a.id)∧W.cell? ((ad.add (i * 3)).add 1)=some (.int .i64 a.bal)∧W.cell? ((ad.add (i * 3)).add 2)=some (.slice A2 a.pos.length c2) ∧
    Rd W W.heap.size 1 A2 a.pos.length c2 (ints a.pos)∧a.pos.length * 8 ≤ 140737488355328:=by
   intro i hin;obtain ⟨cs',hc,ht⟩:=hi i (by omega);obtain ⟨_,hcl,hat⟩:=World.cells?_some hc;obtain ⟨a,A2,c2,he,hr,hc2,hfit⟩:=zrP ht (hw i hin);subst he;have e0:=hat 0 (by omega);rw [show (ad.add (i * 3)).add 0=ad.add (i * 3) by simp [Addr.add]] at e0;have hle:=hr.le;exact ⟨a,hfit,A2,c2,e0,hat 1 (by omega),hat 2 (by omega),hr,by have:reachBytes=140737488351232:=rfl;omega⟩
  obtain ⟨L,hL,hall⟩:=zeW _ n hel;refine ⟨some ad,n,m,L,hcs,⟨hL,hl,hm,nofun,fun hn=>?_⟩,?_,fun a ha=>?_⟩
  ·obtain ⟨a,_,_,_,k0,_⟩:=hel 0 hn;rw [show ad.add (0 * 3)=ad by simp [Addr.add]] at k0;have hsp:=zey k0;refine ⟨ad.block,ad.off,?_,zfw k0,fun i a ha=>?_⟩
   ·obtain ⟨b,o,sp⟩:=ad;simp only at hsp;subst hsp;rfl
   ·obtain ⟨_,A2,c2,k0,k1,k2,k3,k4⟩:=hall i a ha;have hb:∀ q,(ad.add q).block=ad.block∧(ad.add q).off=ad.off + q∧(ad.add q).spot=none:=by
     intro q;unfold Addr.add;split
     ·rename_i h0;subst h0;exact ⟨rfl,rfl,hsp⟩
     ·exact ⟨rfl,rfl,rfl⟩
    obtain ⟨b1,b2,b3⟩:=hb (i * 3);have e0:=zcv hsp k0;have e1:=zcv b3 k1;have e2:=zcv b3 k2;rw [b1,b2] at e1 e2;exact ⟨A2,c2,e0,e1,e2,k3,k4⟩
  ·subst hx;have hb:=hs ((((List.range n).map D).length + ((List.range (m - n)).map fun j=>D (n + j)).length) * 40) (by
    simp only [DataW.weights,Tryz.underlying22];rw [show Tryz.prog.bytesOf 78=40 by kernel_rfl];simp)
   simp at hb;rw [show n + (m - n)=m by omega] at hb;exact hb
  ·obtain ⟨i,hi⟩:=List.mem_iff_getElem?.1 ha;exact (hall i a hi).1
end
end
end Go.Proofs.YtockodmbhnlheaaGreatDoor
