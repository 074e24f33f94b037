import Derived.Test.YtockodmbhnlheaaGreatDoorBT
import Derived.Test.YtockodmbhnlheaaGreatDoorBA
namespace Go.Proofs.YtockodmbhnlheaaGreatDoor
section
open Go.RowKit
def eqU (xs ys:List UInt8):Bool:=decide (xs=ys)
theorem ztt {xs ys:List UInt8}:eqU xs ys=true ↔ xs=ys:=by simp [eqU]
theorem ztu {xs ys:List UInt8} (h:xs.length ≠ ys.length):eqU xs ys=false:=by simp [eqU];rintro rfl;exact h rfl
theorem ztT {xs ys:List UInt8} {j:Nat} {a b:UInt8} (ha:xs[j]?=some a) (hb:ys[j]?=some b) (h:(a.toNat:Int) ≠ b.toNat):eqU xs ys=false:=by
 simp [eqU];rintro rfl;rw [ha] at hb;exact h (by rw [Option.some.inj hb])
theorem ztU {xs ys:List UInt8} (hl:xs.length=ys.length) (h:xs.take xs.length=ys.take xs.length):eqU xs ys=true:=by
 rw [ztt];rwa [List.take_length,hl,List.take_length] at h
theorem zpt {xs ys:List UInt8} {j:Nat} {a b:UInt8} (ha:xs[j]?=some a) (hb:ys[j]?=some b) (h:(a.toNat:Int)=b.toNat) (ht:xs.take j=ys.take j):xs.take (j + 1)=ys.take (j + 1):=by
 rw [List.take_add_one,List.take_add_one,ht,ha,hb,UInt8.toNat_inj.1 (by omega:a.toNat=b.toNat)]
set_option maxHeartbeats 1000000 in
theorem zmY (A A':Option Addr) (n c n' c':Nat) (xs ys:List UInt8) (B B':Nat) (w:World) (h:Rd w B 1 A n c (u8s xs)) (h':Rd w B' 1 A' n' c' (u8s ys)) :
  Calls Tryz.prog 26 #[.slice A n c,.slice A' n' c'] w fun e w'=>e=.returned (.bool (eqU xs ys))∧∃ q,w'=w.drewN q:=by
 have hcap:=h.cap;have hle:=h.le;have hl:=h.ofU8;have hl':=h'.ofU8;unfold maxLen at hcap;by_cases hn:n=n'
 ·subst hn;have HL:=zi hl;have HL':=zi hl';clear hl hl';go_enter Tryz.func26,Tryz.ntmps26
  go_wp2_with fail
  go_loopw [13] (fun i wr=>∃ (j q:Nat),j ≤ n∧i=.int .i64 j∧wr=w.drewN q∧Hid (xs.take j=ys.take j)) (fun i _=>n - (intOf i).toNat)
  case atStart=>exact ⟨0,0,Nat.zero_le _,rfl,rfl,rfl⟩
  case round =>
   obtain ⟨j,q,hj,rfl,rfl,HT⟩:=hrel;by_cases hlt:j < n
   ·obtain ⟨b,o,rfl,_,z,hz,hc⟩:=h.u8 hlt;obtain ⟨b',o',rfl,_,z',hz',hc'⟩:=h'.u8 hlt;have hb0:(0:Int) ≤ (j:Int):=by omega
    have hb1:(j:Int) < (n:Int):=by omega
    by_cases hzz:(z.toNat:Int)=z'.toNat
    ·have HN:=zi (zpt hz hz' hzz HT.out);rw [← hzz] at hc';clear hz hz' hzz;generalize (z.toNat:Int)=zz at hc hc';go_wp2_with fail
     go_quiet (fail)
     go_wp2_with fail
     go_roundw
     case rel=>exact ⟨j + 1,_,by omega,by go_num,rfl,HN⟩
     case measure=>simp [intOf];omega
    ·have HN:=zi (ztT hz hz' hzz);clear hz hz';generalize (z.toNat:Int)=zz at hc hzz;generalize (z'.toNat:Int)=zz' at hc' hzz;have hne:(zz != zz')=true:=by simpa using hzz
     go_wp2_with fail
     go_quiet (fail)
     go_wp2_with fail
     go_ret;exact ⟨zbl (by rw [HN.out]),_,World.drewN_drewN _ _ _⟩
   ·have HE:=zi (ztU (xs:=xs) (ys:=ys) (by rw [HL.out,HL'.out]) (by rw [HL.out,← (show j=n by omega)];exact HT.out));go_wp2_with fail
    go_ret;exact ⟨zbl (by rw [HE.out]),_,rfl⟩
 ·have HE:=zi (ztu (xs:=xs) (ys:=ys) (by omega));have hne:((n:Int) != (n':Int))=true:=by simp;omega
  clear hl hl';go_enter Tryz.func26,Tryz.ntmps26
  go_wp2_with fail
  go_ret;exact ⟨zbl (by rw [HE.out]),0,rfl⟩
theorem zeR:Elem Tryz.prog 28 5 1 1:=zei Tryz.underlying28 (by kernel_rfl) (by decide)
def RetB (w:World) (n:Nat) (xs:List UInt8) (e:Ending) (w':World):Prop :=
 ∃ v,e=.returned v∧w'.ownsRow w.heap.size 5 1 v n (u8s xs)∧Below w.heap.size w w'
set_option maxHeartbeats 400000 in
theorem zgF (A:Option Addr) (n c:Nat) (xs:List UInt8) (B:Nat) (w:World) (h:Rd w B 1 A n c (u8s xs)) (hB:B ≤ w.heap.size) (hb:n ≤ 140737488355328) :
  Calls Tryz.prog 21 #[.slice A n c] w (RetB w n xs):=by
 have q:∀ (w:World) (a:Option Addr) (n c n' c':Nat),(binOp .eql 28 (.slice a n c) (.slice none n' c')).run Tryz.prog w=.ok (.bool a.isNone) w:=fun w a n c n' c'=>Lib.run_eql_slice_nil w _ _ a n c n' c' Tryz.underlying28;cases A with
 | none =>
  have h0:=h.nil rfl;have hle:=h.le;obtain rfl:n=0:=by omega
  have hx:xs = []:=List.eq_nil_of_length_eq_zero h.ofU8;subst hx h0;go_enter Tryz.func21,Tryz.ntmps21
  go_wp2_with fail
  go_ret;exact ⟨_,rfl,World.ownsRow_nil _ _ _ _,Below.refl _ _⟩
 | some ad =>
  have HR:=zi h;have hle:=h.le;have hcap:=h.cap;clear h;go_enter Tryz.func21,Tryz.ntmps21
  go_wp2_with (at_builtin;refine zbe rfl _ _ _ rfl w.heap.size _ _ _ zeR _ _ _ rfl (World.ownsRow_made w #[] 0 (zl _) (Nat.zero_le _) rfl) B (some ad) n c (u8s xs) rfl (HR.out.alloc hB _) (zht _) (by simp only [maxLen] at hcap ⊢;omega) (by omega) (by simp) ?_;intro v' w' hown hbel hg _)
  go_ret;exact ⟨_,rfl,by simpa using hown,((Below.refl _ _).alloc (zl _) _).trans hbel⟩
theorem zpu {P:Program} {t e tn k bytes:Nat} {kn:IntKind} (E:Elem P t e k bytes) (htn:P.underlying tn=some (.int kn)) (w:World) (n:Nat) (h0:0 < n) (h48:n * bytes ≤ 140737488355328) (hn:n ≤ maxLen) :
  ∃ c cur,(∀ ty,(Builtin.append_ #[t,tn] ty #[.slice none 0 0,.int .i64 n]).run P w=.ok (.slice (some ⟨w.heap.size,0,none⟩) n c) (w.drew.alloc (.cells cur e)))∧n ≤ c∧c ≤ maxLen∧cur.size=c * k:=by
 obtain ⟨i,z,hi,hz,hk,hb,hzk⟩:=E.hi;have hr:=fun ty=>Lib.run_append_nil_zeros (P:=P) w t tn ty e i z .i64 kn E.ht htn hi hz n h0 (by rw [hk];exact E.pos) (by unfold maxLen at hn;omega) (by rw [hb];omega);refine ⟨_,_,hr,grownCap_ge _ _ _ _,grownCap_le_maxLen _ _ _ _ hn,?_⟩;have:=grownCap_ge w n 0 e;simp only [Array.size_append,size_zeroCells,hzk,← Nat.add_mul];rw [Nat.add_sub_cancel' this]
set_option maxHeartbeats 400000 in
set_option maxRecDepth 100000 in
theorem ztv (n:Nat) (hn:n ≤ 140737488355328) (w:World) :
  Calls Tryz.prog 41 #[.slice none 0 0,.int .i64 n] w (RetB w 0 []):=by
 have hm:n ≤ maxLen:=by simp only [maxLen];omega
 by_cases h0:n=0
 ·subst h0;go_enter Tryz.func41,Tryz.ntmps41
  go_wp2_with fail
  go_ret;exact ⟨_,rfl,World.ownsRow_nil _ _ _ _,Below.refl _ _⟩
 ·obtain ⟨c,cur,hr,hc1,hc2,hc3⟩:=zpu (P:=Tryz.prog) zeR Tryz.underlying3 w n (by omega) (by omega) hm;have HR:=zi hr;clear hr;go_enter Tryz.func41,Tryz.ntmps41
  go_wp2_with (at_builtin;refine Lib.wpList_append_run _ rfl _ _ _ _ rfl _ _ rfl rfl _ _ (HR.out _) ?_)
  go_ret;exact ⟨_,rfl,World.ownsRow_made _ _ _ (zl _) hc2 hc3,(zac (Below.refl _ _) 1).alloc (zl _) _⟩
set_option maxHeartbeats 2000000 in
set_option maxRecDepth 100000 in
theorem zrb (A A':Option Addr) (n c n' c':Nat) (L M:List UInt8) (B:Nat) (w:World) (h:Rd w B 1 A n c (u8s L)) (h':Rd w B 1 A' n' c' (u8s M)) (hB:B ≤ w.heap.size)
  (g:Nat) (hg:g < w.heap.size) (c0:w.cell? ⟨g,0,none⟩=some (.slice A n c)) (c1:w.cell? ⟨g,1,none⟩=some (.slice A' n' c')) (hb:n + n' ≤ 140737488355328) :
  Calls Tryz.prog 22 #[.slice (some ⟨g,0,none⟩) 2 2] w (RetB w (n + n') (L ++ M)):=by
 have HR:=zi h;have HR':=zi h';have hm:n + n' ≤ maxLen:=by simp only [maxLen];omega
 have HM:=zi hm;clear h h' hm;go_enter Tryz.func22,Tryz.ntmps22
 go_wp2_with fail
 go_loopw [11,3] (fun i s wr=>w=wr∧(i=.int .i64 0∧s=.int .i64 0∨i=.int .i64 1∧s=.int .i64 n∨i=.int .i64 2∧s=.int .i64 (n + n':Nat))) (fun i _ _=>2 - (intOf i).toNat)
 case atStart=>exact ⟨rfl,.inl ⟨rfl,rfl⟩⟩
 case round =>
  obtain ⟨rfl,⟨rfl,rfl⟩ | ⟨rfl,rfl⟩ | ⟨rfl,rfl⟩⟩:=hrel
  ·go_wp2_with fail
   go_roundw
   case rel=>exact ⟨(by first | rfl | trivial),.inr (.inl ⟨rfl,by go_num⟩)⟩
   case measure=>simp [intOf]
  ·go_wp2_with fail
   go_roundw
   case rel=>exact ⟨(by first | rfl | trivial),.inr (.inr ⟨rfl,by go_num⟩)⟩
   case measure=>simp [intOf]
  ·go_wp2_with fail
   refine (ztv (n + n') hb _).mono ?_;rintro e w1 ⟨v,rfl,hown,hbl⟩;have HO:=zi hown;clear hown;go_wp2_with fail
   go_loopw [27,6] (fun i v wr=>Below w.heap.size w wr∧(i=.int .i64 0∧Hid (wr.ownsRow w.heap.size 5 1 v 0 [])∨i=.int .i64 1∧Hid (wr.ownsRow w.heap.size 5 1 v n (u8s L))∨i=.int .i64 2∧Hid (wr.ownsRow w.heap.size 5 1 v (n + n') (u8s (L ++ M))))) (fun i _ _=>2 - (intOf i).toNat)
   case atStart=>exact ⟨hbl,.inl ⟨rfl,HO⟩⟩
   case round =>
    obtain ⟨hbr,⟨rfl,HV⟩ | ⟨rfl,HV⟩ | ⟨rfl,HV⟩⟩:=hrel
    ·have d0:=(hbr.cell (p:=⟨g,0,none⟩) hg).trans c0;go_wp2_with (at_builtin;refine zbe rfl _ _ _ rfl w.heap.size _ _ _ zeR _ _ _ rfl HV.out B A n c (u8s L) rfl (HR.out.below (hbr.mono hB)) (zht _) (by have:=HM.out;omega) (by omega) hbr.size ?_;intro v' w' hown' hbel' _ _)
     have HO':=zi (by simpa using hown');go_roundw
     case rel=>exact ⟨hbr.trans hbel',.inr (.inl ⟨rfl,HO'⟩)⟩
     case measure=>simp [intOf]
    ·have d0:=(hbr.cell (p:=⟨g,1,none⟩) hg).trans c1;go_wp2_with (at_builtin;refine zbe rfl _ _ _ rfl w.heap.size _ _ _ zeR _ _ _ rfl HV.out B A' n' c' (u8s M) rfl (HR'.out.below (hbr.mono hB)) (zht _) (by have:=HM.out;omega) (by omega) hbr.size ?_;intro v' w' hown' hbel' _ _)
     rw [← ziD] at hown';have HO':=zi hown';go_roundw
     case rel=>exact ⟨hbr.trans hbel',.inr (.inr ⟨rfl,HO'⟩)⟩
     case measure=>simp [intOf]
    ·go_wp2_with fail
     go_ret;exact ⟨_,rfl,HV.out,hbr⟩
end
section
open Go.RowKit
theorem zlF (c:UInt8):∀ s:List UInt8,(Lib.index s [c] = -1∧c ∉ s)∨∃ p r,s=p ++ c :: r∧c ∉ p∧Lib.index s [c]=p.length
 | []=>.inl ⟨by rw [Lib.index];simp,by simp⟩
 | b :: l=>by
  by_cases h:b=c
  ·subst h;exact .inr ⟨[],l,rfl,by simp,by rw [zgu];rfl⟩
  ·have e:=zic l h;have hn:∀ p,c ∉ p→c ∉ b :: p:=fun p hp=>by simp only [List.mem_cons,not_or];exact ⟨fun e=>h e.symm,hp⟩
   rcases zlF c l with ⟨h1,h2⟩ | ⟨p,r,h1,h2,h3⟩
   ·exact .inl ⟨by rw [e,h1];rfl,hn _ h2⟩
   ·refine .inr ⟨b :: p,r,by rw [h1];rfl,hn _ h2,?_⟩;have:¬ (Lib.index l [c] == -1)=true:=by rw [h3,beq_iff_eq];omega
    rw [e,if_neg this,h3,List.length_cons];omega
theorem ztw (c:UInt8) (s:List UInt8):(Lib.cut s [c]=(s,[],false)∧spl c s = [s])∨∃ p r,Lib.cut s [c]=(p,r,true)∧s=p ++ c :: r∧spl c s=p :: spl c r:=by
 rcases zlF c s with ⟨h1,h2⟩ | ⟨p,r,h1,h2,h3⟩
 ·exact .inl ⟨by unfold Lib.cut;rw [h1,if_neg (by omega)],ziz c s h2⟩
 ·refine .inr ⟨p,r,?_,h1,by rw [h1];exact zhh c r p h2⟩;unfold Lib.cut;rw [h3,if_pos (by omega),Int.toNat_natCast,h1];simp
theorem zoe (l:List UInt8) (hl:l.length ≤ 1000000) (w:World) (h:Env w):Calls Tryz.prog 24 #[.string (bs l),.string (bs [10])] w fun e w' =>
  ((e=.returned (.tuple #[.string (bs l),.string (bs []),.bool false])∧spl 10 l = [l])∨∃ p r,e=.returned (.tuple #[.string (bs p),.string (bs r),.bool true])∧l=p ++ 10 :: r∧spl 10 l=p :: spl 10 r)∧∃ q,w'=w.drewN q:=by
 obtain ⟨m,hm⟩:=h.max;refine (Any.strings_Cut Tryz.lays145 (bs l) (bs [10]) m w (by rw [zcP];omega) hm).mono ?_;rintro e w' ⟨he,hw⟩;refine ⟨?_,hw⟩;rw [zcX,zcX] at he;rcases ztw 10 l with ⟨h1,h2⟩ | ⟨p,r,h1,h2,h3⟩
 ·rw [h1] at he;exact .inl ⟨he,h2⟩
 ·rw [h1] at he;exact .inr ⟨p,r,he,h2,h3⟩
def zaU:List Cm→List Value
 | []=>[]
 | c :: l=>.int .i64 c.kind :: .int .i64 c.acc :: .int .i64 c.market :: .int .i64 c.n :: .int .i64 c.o.id :: .int .i64 c.o.acc :: .int .i64 c.o.side :: .int .i64 c.o.price :: .int .i64 c.o.qty :: .int .i64 c.how :: .bool c.reduce :: zaU l
theorem zeY:∀ L,(zaU L).length=L.length * 11
 | []=>rfl
 | o :: l=>by simp only [zaU,List.length_cons,zeY l];omega
theorem zeZ (M:List Cm):∀ L,zaU (L ++ M)=zaU L ++ zaU M
 | []=>rfl
 | o :: l=>by simp only [List.cons_append,zaU,zeZ M l]
theorem zfU:∀ (L:List Cm),∀ u ∈ zaU L,u.oneCell'=true
 | [],u,h=>by cases h
 | o :: l,u,h=>by
  simp only [zaU,List.mem_cons] at h;rcases h with rfl | rfl | rfl | rfl | rfl | rfl | rfl | rfl | rfl | rfl | rfl | h;all_goals first | rfl | exact zfU l u h
theorem zkE:Elem Tryz.prog 26 34 11 88:=zei Tryz.underlying26 (by kernel_rfl) (by decide)
theorem zpv (p r:List UInt8) (l:List Cm):zdu (p :: spl 10 r) l=if (zaG p).2 ≠ 0 then ([],(zaG p).2) else if 60 < l.length + 1 then ([],2) else zdu (spl 10 r) (l ++ [(zaG p).1]):=by
 obtain ⟨q,r',e⟩:∃ q r',spl 10 r=q :: r':=by
  cases h:spl 10 r with
  | nil=>exact absurd h (zib 10 r)
  | cons a b=>exact ⟨a,b,rfl⟩
 rw [e];exact zhR p q r' l
set_option maxHeartbeats 2000000 in
set_option maxRecDepth 100000 in
theorem zmZ (s:List UInt8) (hs:s.length ≤ 1000000) (w:World) (he:Env w) :
  Calls Tryz.prog 23 #[.string (bs s)] w fun e w'=>∃ v L k,e=.returned (.tuple #[v,.int .i64 k])∧zb0 s=(L,k)∧w'.ownsRow w.heap.size 34 11 v L.length (zaU L)∧Below w.heap.size w w':=by
 have HE:=zi he;clear he;go_enter Tryz.func23,Tryz.ntmps23
 go_wp2_with fail
 go_loopw [0,4] (fun v0 v4 wr=>∃ (t:List UInt8) (l:List Cm),v0=.string (bs t)∧t.length ≤ 1000000∧l.length ≤ 60∧Hid (zdu (spl 10 t) l=zb0 s)∧Hid (wr.ownsRow w.heap.size 34 11 v4 l.length (zaU l))∧Below w.heap.size w wr)
  (fun v0 _ _=>match v0 with | .string b=>b.size | _=>0)
 case atStart=>exact ⟨s,[],rfl,hs,by simp,zi rfl,zi (World.ownsRow_nil _ _ _ _),Below.refl _ _⟩
 case round =>
  obtain ⟨t,l,rfl,ht,hl,HC,HO,hbr⟩:=hrel;have hsr:=hbr.size;have HB:=zi hbr;clear hbr;by_cases h0:t = []
  ·have d0:((bs t).toList == [])=true:=by rw [zcY];exact decide_eq_true h0
   have d1:((bs t).toList != [])=false:=by rw [bne,d0];rfl
   have HR:=zi (show zb0 s=(l,0) by rw [← HC.out,h0];rfl);clear h0;go_wp2_with fail
   go_ret2
   exact ⟨_,l,0,rfl,HR.out,HO.out,HB.out⟩
  ·have d0:((bs t).toList == [])=false:=by rw [zcY];exact decide_eq_false h0
   have d1:((bs t).toList != [])=true:=by rw [bne,d0];rfl
   have HT0:=zi h0;clear h0;go_wp2_with fail
   refine (zoe t ht wr (HE.out.next HB.out)).mono ?_;rintro e w1 ⟨hcut,q,rfl⟩;rcases hcut with ⟨rfl,h1⟩ | ⟨p,r,rfl,h1,h2⟩
   ·have HR:=zi (show zb0 s=([],13) by
     rw [← HC.out,h1];unfold zdu;rw [if_neg HT0.out])
    clear h1 d0 d1;go_wp2_with fail
    go_ret2
    exact ⟨_,[],13,rfl,HR.out,World.ownsRow_nil _ _ _ _,zac HB.out q⟩
   ·have HS:=zi (show (if (zaG p).2 ≠ 0 then ([],(zaG p).2) else if 60 < l.length + 1 then ([],2) else zdu (spl 10 r) (l ++ [(zaG p).1]))=zb0 s by rw [← HC.out,h2,zpv]);have hr:r.length + 1 ≤ t.length:=by rw [h1,List.length_append,List.length_cons];omega
    clear h1 h2 HC d0 d1 HT0;have HB1:=zi (zac HB.out q);go_wp2_with fail
    refine (zir p (wr.drewN q) (HE.out.next HB1.out)).mono ?_;rintro e w2 ⟨x,k,rfl,hp,hb2⟩;have HP:=zi hp;have HO2:=zi (zaf (zaz HO.out q) hb2 (zl _));have hs2:=hb2.size;have HB2:=zi (HB1.out.trans (hb2.mono HB1.out.size));clear hb2 hp HO HB HB1;unfold cmV;go_upto_region 7 with (fail)
    refine zaQ ?_;intro w3 hw3;have hs3:w.heap.size ≤ w2.heap.size:=HB2.out.size;have X3:Blk w3 w2.heap.size 34 #[.int .i64 x.kind,.int .i64 x.acc,.int .i64 x.market,.int .i64 x.n,.int .i64 x.o.id,.int .i64 x.o.acc,.int .i64 x.o.side,.int .i64 x.o.price,.int .i64 x.o.qty,.int .i64 x.how,.bool x.reduce]:=by rw [hw3];exact Blk.new w2 _ _
    have HB3:Hid (Below w.heap.size w w3):=by rw [hw3];exact zi (HB2.out.alloc hs3 _)
    have HO3:Hid (w3.ownsRow w.heap.size 34 11 u4 l.length (zaU l)):=by rw [hw3];exact zi (World.ownsRow.alloc HO2.out _)
    clear hw3 HO2 HB2;have hs3':=HB3.out.size;obtain ⟨⟨v0,v1,v2,v3,v4,v5,v6,v7,v8,v9,v10⟩,-⟩:=zaS X3;by_cases h5:k=0
    rotate_left
    ·have HR:=zi (show zb0 s=([],k) by rw [← HS.out,HP.out,if_pos h5]);have d5:(k != 0)=true:=by simpa using h5
     clear h5;go_wp2_with fail
     go_ret2
     exact ⟨_,[],k,rfl,HR.out,World.ownsRow_nil _ _ _ _,HB3.out⟩
    have HS2:=zi (show (if 60 < l.length + 1 then ([],2) else zdu (spl 10 r) (l ++ [x]))=zb0 s by rw [← HS.out,HP.out,h5];rfl);subst h5;by_cases h6:60 < l.length + 1
    ·have HR:=zi (show zb0 s=([],2) by rw [← HS2.out,if_pos h6]);go_wp2_with (at_builtin;refine zbe rfl _ _ _ rfl w.heap.size 34 11 88 zkE u4 l.length (zaU l) rfl (World.ownsRow.alloc HO3.out _) (w3.heap.size + 1) (some ⟨w3.heap.size,0,none⟩) 1 1 (zaU [x]) rfl (zer _ _ _ 11 rfl rfl _ rfl) (zfU [x]) (by unfold maxLen;omega) (by omega) (by simp;omega) ?_;intro v5 w5 hown5 hbel5 hgr5 hat5;obtain ⟨A5,c5,rfl⟩:=zad hown5;have HO5:=zi hown5;clear hown5 hgr5 hat5)
     have hb5:=HB3.out.trans (((Below.refl w3.heap.size w3).alloc (zl _) (.cells #[.int .i64 x.kind,.int .i64 x.acc,.int .i64 x.market,.int .i64 x.n,.int .i64 x.o.id,.int .i64 x.o.acc,.int .i64 x.o.side,.int .i64 x.o.price,.int .i64 x.o.qty,.int .i64 x.how,.bool x.reduce] 34)).mono hs3' |>.trans hbel5);go_ret2
     exact ⟨_,[],2,rfl,HR.out,World.ownsRow_nil _ _ _ _,hb5⟩
    ·have HC2:=zi (show zdu (spl 10 r) (l ++ [x])=zb0 s by rw [← HS2.out,if_neg h6]);go_wp2_with (at_builtin;refine zbe rfl _ _ _ rfl w.heap.size 34 11 88 zkE u4 l.length (zaU l) rfl (World.ownsRow.alloc HO3.out _) (w3.heap.size + 1) (some ⟨w3.heap.size,0,none⟩) 1 1 (zaU [x]) rfl (zer _ _ _ 11 rfl rfl _ rfl) (zfU [x]) (by unfold maxLen;omega) (by omega) (by simp;omega) ?_;intro v5 w5 hown5 hbel5 hgr5 hat5;obtain ⟨A5,c5,rfl⟩:=zad hown5;have HO5:=zi hown5;clear hown5 hgr5 hat5)
     have hb5:=HB3.out.trans (((Below.refl w3.heap.size w3).alloc (zl _) (.cells #[.int .i64 x.kind,.int .i64 x.acc,.int .i64 x.market,.int .i64 x.n,.int .i64 x.o.id,.int .i64 x.o.acc,.int .i64 x.o.side,.int .i64 x.o.price,.int .i64 x.o.qty,.int .i64 x.how,.bool x.reduce] 34)).mono hs3' |>.trans hbel5);have HO6:=zi (show w5.ownsRow w.heap.size 34 11 (.slice A5 (l.length + 1) c5) (l ++ [x]).length (zaU (l ++ [x])) by rw [zeZ,List.length_append];exact HO5.out);go_roundw
     case rel=>exact ⟨r,l ++ [x],rfl,by omega,by simp;omega,HC2,HO6,hb5⟩
     case measure=>show (bs r).size < (bs t).size;rw [zcP,zcP];omega
end
end Go.Proofs.YtockodmbhnlheaaGreatDoor
