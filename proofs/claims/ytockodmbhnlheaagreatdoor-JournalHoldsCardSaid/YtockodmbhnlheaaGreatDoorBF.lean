import Derived.Test.YtockodmbhnlheaaGreatDoorBA
namespace Go.Proofs.YtockodmbhnlheaaGreatDoor
section
open Go.RowKit
def zf8:Option (Nat × Int)→Int
 | none=>-1
 | some (i,_)=>i
theorem zkb {L:List Ac} {mk j:Nat} {side:Int} {a:Ac} {best:Option (Nat × Int)} (ha:L[j]?=some a) :
  zdC mk side best j (L.drop j)=zdC mk side (if 0 < a.pos.getD mk 0 * side∧(∀ q ∈ best,q.2 < a.pos.getD mk 0 * side) then some (j,a.pos.getD mk 0 * side) else best) (j + 1) (L.drop (j + 1)):=by
 obtain ⟨h1,h2⟩:=List.getElem?_eq_some_iff.1 ha;rw [List.drop_eq_getElem_cons h1,h2];rfl
structure OtR (w wr:World) (L:List Ac) (mk:Nat) (side:Int) (j:Nat) (best:Option (Nat × Int)):Prop where
 low:Below w.heap.size w wr
 eq:zdC mk side best j (L.drop j)=zdC mk side none 0 L
 val:∀ q ∈ best,∃ a,L[q.1]?=some a∧q.2=a.pos.getD mk 0 * side
theorem zqJ {w wr W:World} {L:List Ac} {mk j:Nat} {side z:Int} {best:Option (Nat × Int)} {a:Ac} (h:OtR w wr L mk side j best) (ha:L[j]?=some a) (hb:Below wr.heap.size wr W) (hz:z=a.pos.getD mk 0)
  (hc:¬ (0 < z * side∧∀ q ∈ best,q.2 < z * side)):OtR w W L mk side (j + 1) best:=by
 refine ⟨h.low.trans (hb.mono h.low.size),?_,h.val⟩;rw [← h.eq,zkb ha,← hz,if_neg hc]
theorem zoa {w wr W:World} {L:List Ac} {mk j:Nat} {side z:Int} {best:Option (Nat × Int)} {a:Ac} (h:OtR w wr L mk side j best) (ha:L[j]?=some a) (hb:Below wr.heap.size wr W) (hz:z=a.pos.getD mk 0)
  (hc:0 < z * side∧∀ q ∈ best,q.2 < z * side):OtR w W L mk side (j + 1) (some (j,z * side)):=by
 refine ⟨h.low.trans (hb.mono h.low.size),?_,?_⟩
 ·rw [← h.eq,zkb ha,← hz,if_pos hc]
 ·intro q hq;simp only [Option.mem_def,Option.some.injEq] at hq;subst hq;exact ⟨a,ha,by rw [hz]⟩
theorem zhp {w:World} {base D c k mk i:Nat} {ap:Bool} {d:Dk} {A M:Option Addr} {vE:Value} {xs ys:List Value} {a:Ac} (h:Desk w base D ap d A c M k vE xs ys) (hi:d.v.accs[i]?=some a) (ha:AOk d.v.mks.length d.v.accs) (hm:mk < d.v.mks.length) :
  ∃ g A2 c2 b o,A=some ⟨g,0,none⟩∧g < w.heap.size∧i < d.v.accs.length∧(w.cell? ⟨g,i * 3,none⟩=some (.int .i64 a.id)∧w.cell? ⟨g,i * 3 + 1,none⟩=some (.int .i64 a.bal)∧w.cell? ⟨g,i * 3 + 2,none⟩=some (.slice A2 a.pos.length c2)) ∧
   A2=some ⟨b,o,none⟩∧b < w.heap.size∧w.cell? ⟨b,o + mk,none⟩=some (.int .i64 (a.pos.getD mk 0))∧a.pos.length=d.v.mks.length∧(-1000 ≤ a.pos.getD mk 0∧a.pos.getD mk 0 ≤ 1000)∧a.pos.length ≤ c2∧Rd w w.heap.size 1 A2 a.pos.length c2 (ints a.pos):=by
 obtain ⟨g,A2,c2,rfl,hg1,hg2,hin,-,hq,-,hpos,-⟩:=zeE h.accs hi;have hl:=(zaw (ha.ok a (List.mem_of_getElem? hi))).2.2.1;have hr:=Rd.of_own hpos;obtain ⟨b,o,e,hb,z,hz,hc⟩:=hr.int (show mk < a.pos.length by omega);have hz':a.pos.getD mk 0=z:=by simp [List.getD,hz]
 exact ⟨g,A2,c2,b,o,rfl,hg2,hin,hq,e,hb,by rw [hz'];exact hc,by omega,zp2 ha hi mk,hr.le,hr⟩
set_option maxHeartbeats 4000000 in
set_option maxRecDepth 100000 in
theorem zr7 (base D:Nat) (ap:Bool) (d:Dk) (A:Option Addr) (c:Nat) (M:Option Addr) (k:Nat) (vE:Value) (xs ys:List Value) (mk:Nat) (side:Int) (w:World) (h:Desk w base D ap d A c M k vE xs ys)
  (ha:AOk d.v.mks.length d.v.accs) (hs:side=1∨side = -1) (hm:mk < d.v.mks.length) :
  Calls Tryz.prog 144 #[.pointer (some ⟨D,0,none⟩),.int .i64 mk,.int .i64 side] w fun e w'=>e=.returned (.int .i64 (zf8 (zd7 d.v mk side)))∧Below w.heap.size w w':=by
 have HD:=zi h;have HA:=zi ha;have HS:=zi hs;have hDl:=h.lt;have hl8:=zdZ ha;obtain ⟨⟨k0,-⟩,-⟩:=h.blk.c8;have HR0:=zi (show OtR w w d.v.accs mk side 0 none from ⟨Below.refl _ _,rfl,by simp⟩);have hmk0:(0:Int) ≤ (mk:Int):=by omega
 clear h ha hs;go_enter Tryz.func144,Tryz.ntmps144
 go_wp2_with fail
 go_loopw [7,17] (fun b i wr=>∃ (j:Nat) (best:Option (Nat × Int)),j ≤ d.v.accs.length∧i=.int .i64 j∧b=.int .i64 (zf8 best)∧Hid (OtR w wr d.v.accs mk side j best)) (fun _ i _=>d.v.accs.length - (intOf i).toNat)
 case atStart=>exact ⟨0,none,Nat.zero_le _,rfl,rfl,HR0⟩
 case round =>
  obtain ⟨j,best,hj,rfl,rfl,HR⟩:=hrel;have hws:=HR.out.low.size;by_cases hlt:j < d.v.accs.length
  ·obtain ⟨a,ha⟩:∃ a,d.v.accs[j]?=some a:=⟨_,List.getElem?_eq_getElem hlt⟩;have HDr:=zi (HD.out.below HR.out.low);have HAA:=zi ha;obtain ⟨g,A2,c2,b,o,rfl,hg2,hin,⟨q0,q1,q2⟩,rfl,hb,hz,hpl,⟨hz1,hz2⟩,hpc,-⟩:=zhp HDr.out ha HA.out hm;obtain ⟨n,hn⟩:∃ n,n=a.pos.length:=⟨_,rfl⟩;obtain ⟨z,hzz⟩:∃ z,z=a.pos.getD mk 0:=⟨_,rfl⟩;rw [← hn] at q2 hpc;rw [← hzz] at hz hz1 hz2;have HZ:=zi hzz;have hmn:(mk:Int) < (n:Int):=by omega
   have hsz:-1000 ≤ z * side∧z * side ≤ 1000:=by rcases HS.out with e | e <;> rw [e] <;> omega
   obtain ⟨hsz1,hsz2⟩:=hsz;have y1:D < wr.heap.size:=HDr.out.lt;have hi1:(j:Int) < (d.v.accs.length:Int):=by omega
   obtain ⟨⟨d0,-⟩,-⟩:=HDr.out.blk.c8;clear ha hpl hn hzz k0;by_cases hp:0 < z * side
   rotate_left
   ·have hp':decide (0 < z * side)=false:=decide_eq_false hp;have HN:∀ W,Below wr.heap.size wr W→Hid (OtR w W d.v.accs mk side (j + 1) best):=fun W hW=>zi (zqJ HR.out HAA.out hW HZ.out (fun h=>hp h.1));go_wp2_with fail
    go_roundw
    case rel=>exact ⟨j + 1,best,by omega,by go_num,rfl,HN _ ((Below.refl _ _).alloc (zl _) _)⟩
    case measure=>simp [intOf];omega
   ·have hp':decide (0 < z * side)=true:=decide_eq_true hp;cases hbe:best with
    | none =>
     subst hbe;have HN:∀ W,Below wr.heap.size wr W→Hid (OtR w W d.v.accs mk side (j + 1) (some (j,z * side))):=fun W hW=>zi (zoa HR.out HAA.out hW HZ.out ⟨hp,by simp⟩);simp only [zf8];go_wp2_with fail
     go_roundw
     case rel=>exact ⟨j + 1,_,by omega,by go_num,rfl,HN _ ((Below.refl _ _).alloc (zl _) _)⟩
     case measure=>simp [intOf];omega
    | some bq =>
     subst hbe;obtain ⟨i2,x⟩:=bq;obtain ⟨a2,ha2,hx⟩:=HR.out.val _ rfl;simp only at ha2 hx;have HA2:=zi ha2;obtain ⟨g',B2,e2,b2,o2,hgg,hg2',hin',⟨r0,r1,r2⟩,rfl,hb2,hz',hpl',⟨hy1,hy2⟩,hpc',-⟩:=zhp HDr.out ha2 HA.out hm;obtain rfl:g'=g:=by injection hgg with hgg;injection hgg with hgg;exact hgg.symm
     obtain ⟨n2,hn2⟩:∃ n,n=a2.pos.length:=⟨_,rfl⟩;obtain ⟨z2,hzz2⟩:∃ z,z=a2.pos.getD mk 0:=⟨_,rfl⟩;rw [← hn2] at r2 hpc';rw [← hzz2] at hz' hy1 hy2 hx;have hmn2:(mk:Int) < (n2:Int):=by omega
     have hi2:(i2:Int) < (d.v.accs.length:Int):=by omega
     have hi20:(0:Int) ≤ (i2:Int):=by omega
     have hi2n:decide ((i2:Int) < 0)=false:=decide_eq_false (by omega);subst hx;have hsz':-1000 ≤ z2 * side∧z2 * side ≤ 1000:=by rcases HS.out with e | e <;> rw [e] <;> omega
     obtain ⟨hsz1',hsz2'⟩:=hsz';simp only [zf8];clear ha2 hpl' hn2 hzz2 hgg;by_cases hq:z2 * side < z * side
     ·have hq':decide (z2 * side < z * side)=true:=decide_eq_true hq;have HN:∀ W,Below wr.heap.size wr W→Hid (OtR w W d.v.accs mk side (j + 1) (some (j,z * side))):=fun W hW=>zi (zoa HR.out HAA.out hW HZ.out ⟨hp,by intro q hq2;simp only [Option.mem_def,Option.some.injEq] at hq2;subst hq2;exact hq⟩);go_wp2_with fail
      go_roundw
      case rel=>exact ⟨j + 1,_,by omega,by go_num,rfl,HN _ ((Below.refl _ _).alloc (zl _) _)⟩
      case measure=>simp [intOf];omega
     ·have hq':decide (z2 * side < z * side)=false:=decide_eq_false hq;have HN:∀ W,Below wr.heap.size wr W→Hid (OtR w W d.v.accs mk side (j + 1) (some (i2,z2 * side))):=fun W hW=>zi (zqJ HR.out HAA.out hW HZ.out (fun h=>hq (h.2 _ rfl)));go_wp2_with fail
      go_roundw
      case rel=>exact ⟨j + 1,_,by omega,by go_num,rfl,HN _ ((Below.refl _ _).alloc (zl _) _)⟩
      case measure=>simp [intOf];omega
  ·obtain rfl:j=d.v.accs.length:=by omega
   have e:zf8 best=zf8 (zd7 d.v mk side):=by
    have:=HR.out.eq;rw [List.drop_length] at this;unfold zd7;rw [← this];rfl
   have HE:=zi e;clear e;go_wp2_with fail
   go_ret;exact ⟨zay HE.out,HR.out.low⟩
end
section
def zqK (c:Cm):List UInt8:=(zaI c).1 ++ [10]
def zal (cs:List Cm):List UInt8:=(cs.map zqK).flatten
theorem zdT (a b:List Cm):zal (a ++ b)=zal a ++ zal b:=by simp [zal]
theorem zeX (c:Cm):zal [c]=(zaI c).1 ++ [10]:=by simp [zal,zqK]
structure GoodC (c:Cm):Prop where
 ok:(zaI c).2=0
 fit:FitC c
theorem GoodC.back {c:Cm} (h:GoodC c):zaG (zaI c).1=(c,0)∧(10:UInt8) ∉ (zaI c).1∧(zaI c).1.length ≤ 176:=by
 obtain ⟨h1,h2⟩:=zmC h.ok;have:=zj0 h1 h.fit;rwa [← h2] at this
theorem zg9:∀ {cs:List Cm},(∀ c ∈ cs,GoodC c)→(zal cs).length ≤ cs.length * 177
 | [],_=>by simp [zal]
 | c :: cs,h=>by
  have h1:=(h c List.mem_cons_self).back.2.2;have h2:=zg9 (cs:=cs) (fun x hx=>h x (List.mem_cons_of_mem _ hx));have e:zal (c :: cs)=(zaI c).1 ++ [10] ++ zal cs:=by rw [← zeX,← zdT];rfl
  rw [e,List.length_append,List.length_append,List.length_cons,List.length_cons,List.length_nil];omega
theorem zlq:∀ {cs:List Cm},(∀ c ∈ cs,GoodC c)→spl 10 (zal cs)=cs.map (fun c=>(zaI c).1) ++ [[]]
 | [],_=>rfl
 | c :: cs,h=>by
  have h1:=(h c List.mem_cons_self).back.2.1;have e:zal (c :: cs)=(zaI c).1 ++ 10 :: zal cs:=by
   have:zal (c :: cs)=zal [c] ++ zal cs:=by rw [← zdT];rfl
   rw [this,zeX];simp
  rw [e,zhh 10 _ _ h1,zlq (fun x hx=>h x (List.mem_cons_of_mem _ hx))];rfl
theorem zkc:∀ {cs:List Cm} {l:List Cm},(∀ c ∈ cs,GoodC c)→l.length + cs.length ≤ 60→runP (cs.map fun c=>(zaI c).1) l=(l ++ cs,0)
 | [],l,_,_=>by simp [runP]
 | c :: cs,l,h,hl=>by
  have h1:=(h c List.mem_cons_self).back.1;simp only [List.length_cons] at hl;rw [List.map_cons,zln,h1,if_neg (by simp),if_neg (by omega),zkc (fun x hx=>h x (List.mem_cons_of_mem _ hx)) (by simp;omega)];simp
theorem zhT {cs:List Cm} (h:∀ c ∈ cs,GoodC c) (hl:cs.length ≤ 60):zb0 (zal cs)=(cs,0):=by
 unfold zb0;rw [zlq h,zny,zkc h (by simpa using hl)];simp
theorem zlr:∀ {cs:List Cm} {l:List Cm} {s:List UInt8} (k:Nat),(∀ c ∈ cs,GoodC c)→l.length + cs.length ≤ 60 →
  ∃ m,m ≤ cs.length∧recP (spl 10 ((zal cs).take k)) l s=(l ++ cs.take m,s ++ zal (cs.take m))
 | [],l,s,k,_,_=>⟨0,zl _,by simp [zal,spl,recP]⟩
 | c :: cs,l,s,k,h,hl=>by
  obtain ⟨h1,h2,-⟩:=(h c List.mem_cons_self).back;simp only [List.length_cons] at hl;have e:zal (c :: cs)=(zaI c).1 ++ 10 :: zal cs:=by
   have:zal (c :: cs)=zal [c] ++ zal cs:=by rw [← zdT];rfl
   rw [this,zeX];simp
  by_cases hk:k ≤ (zaI c).1.length
  ·refine ⟨0,Nat.zero_le _,?_⟩;have e2:(zal (c :: cs)).take k=(zaI c).1.take k:=by rw [e,List.take_append_of_le_length hk]
   rw [e2,ziz 10 _ (fun hm=>h2 (List.mem_of_mem_take hm))];simp [recP,zal]
  ·obtain ⟨j,hj⟩:∃ j,k=(zaI c).1.length + (j + 1):=⟨k - (zaI c).1.length - 1,by omega⟩;have e2:(zal (c :: cs)).take k=(zaI c).1 ++ 10 :: (zal cs).take j:=by
    rw [e,hj,List.take_length_add_append,List.take_succ_cons]
   obtain ⟨m,hm,hr⟩:=zlr (cs:=cs) (l:=l ++ [c]) (s:=s ++ (zaI c).1 ++ [10]) j (fun x hx=>h x (List.mem_cons_of_mem _ hx)) (by simp;omega);refine ⟨m + 1,by simp;omega,?_⟩;obtain ⟨q,r,eq⟩:∃ q r,spl 10 ((zal cs).take j)=q :: r:=by
    cases hh:spl 10 ((zal cs).take j) with
    | nil=>exact absurd hh (zib 10 _)
    | cons a b=>exact ⟨a,b,rfl⟩
   rw [e2,zhh 10 _ _ h2,eq];show (if l.length < 60∧(zaG (zaI c).1).2=0 then recP (q :: r) (l ++ [(zaG (zaI c).1).1]) (s ++ (zaI c).1 ++ [10]) else (l,s))=_;rw [h1,if_pos ⟨by omega,rfl⟩,← eq,hr,List.take_succ_cons];have e3:zal (c :: cs.take m)=(zaI c).1 ++ [10] ++ zal (cs.take m):=by rw [← zeX,← zdT];rfl
   rw [e3];simp
theorem zgU {cs:List Cm} (h:∀ c ∈ cs,GoodC c) (n:Nat):∀ c ∈ cs.take n,GoodC c:=fun c hc=>h c (List.mem_of_mem_take hc)
theorem zqL {cs:List Cm} (h:∀ c ∈ cs,GoodC c) (n:Nat):∀ c ∈ cs.drop n,GoodC c:=fun c hc=>h c (List.mem_of_mem_drop hc)
def zck (cs:List Cm) (sy:Nat):Dsk:=⟨zal (cs.take sy),zal (cs.drop sy)⟩
theorem zhq {cs:List Cm} (h:∀ c ∈ cs,GoodC c) (hl:cs.length ≤ 30) (sy:Nat):dErr (zck cs sy)=0∧(zck cs sy).safe.length + (zck cs sy).wait.length ≤ cs.length * 177:=by
 have h1:=zg9 h;have e:zal cs=zal (cs.take sy) ++ zal (cs.drop sy):=by rw [← zdT,List.take_append_drop]
 rw [e,List.length_append] at h1;refine ⟨zfI.2 ⟨by show (zal (cs.take sy)).length + (zal (cs.drop sy)).length ≤ 20000;omega,?_⟩,h1⟩;show (zb0 (zal (cs.take sy))).2=0;rw [zhT (zgU h sy) (by rw [List.length_take];omega)]
theorem zr8 {cs:List Cm} {c:Cm} (h:∀ c ∈ cs,GoodC c) (hl:cs.length ≤ 29) (sy:Nat) (hsy:sy ≤ cs.length) (hc:FitC c) :
  (putD (zck cs sy) c).2=(zaI c).2∧((zaI c).2=0→(putD (zck cs sy) c).1=zck (cs ++ [c]) sy):=by
 obtain ⟨h1,h2⟩:=zhq h (by omega) sy;by_cases hp:(zaI c).2=0
 ·have hg:GoodC c:=⟨hp,hc⟩;have h3:=hg.back.2.2;rw [ztj h1 hp (by omega)];refine ⟨hp.symm,fun _=>?_⟩;unfold zck;rw [List.take_append_of_le_length hsy,List.drop_append_of_le_length hsy,zdT,zeX,List.append_assoc]
 ·unfold putD;rw [if_neg (by omega),if_pos hp];exact ⟨rfl,fun e=>absurd e hp⟩
theorem zqM {cs:List Cm} (h:∀ c ∈ cs,GoodC c) (hl:cs.length ≤ 30):zgT (zck cs 0)=(zck cs cs.length,0):=by
 have h1:=(zhq h hl 0).1;have h2:=(zhq h hl cs.length).1;have e:zck cs cs.length=⟨(zck cs 0).safe ++ (zck cs 0).wait,[]⟩:=by
  unfold zck;simp [zal]
 rw [e] at h2 ⊢;exact zr5 h1 h2
theorem zpa (c:Cm) (h:(zaI c).2 ≠ 0):(zaI c).2=4∨(zaI c).2=3:=by
 unfold zaI at h ⊢;by_cases h0:za0 c ≠ 0
 ·rw [if_pos h0];show za0 c=4∨za0 c=3;unfold za0 at h0 ⊢;split
  ·exact .inl rfl
  ·rename_i h1;rw [if_neg h1] at h0;split
   ·exact .inl rfl
   ·rename_i h2;rw [if_neg h2] at h0;split
    ·rename_i h3;rw [if_pos h3] at h0;exact absurd rfl h0
    ·exact .inr rfl
 ·rw [if_neg h0] at h;exact absurd rfl h
theorem zr9 {cs:List Cm} (h:∀ c ∈ cs,GoodC c) (hl:cs.length ≤ 30) {sy:Nat} (hsy:sy ≤ cs.length) (k:Nat) (hk:k ≤ (zck cs sy).wait.length) :
  ∃ d2 n,zho (zck cs sy) k=(d2,0)∧sy ≤ n∧n ≤ cs.length∧zcW d2=(⟨zal (cs.take n),[]⟩,cs.take n,0) ∧
   zcW ⟨zal (cs.take n),[]⟩=(⟨zal (cs.take n),[]⟩,cs.take n,0)∧dErr ⟨zal (cs.take n),[]⟩=0:=by
 obtain ⟨h1,h2⟩:=zhq h hl sy;have hs:=zhT (zgU h sy) (by rw [List.length_take];omega);obtain ⟨m,hm,hr⟩:=zlr (cs:=cs.drop sy) (l:=cs.take sy) (s:=zal (cs.take sy)) k (zqL h sy) (by rw [List.length_take,List.length_drop];omega);rw [List.length_drop] at hm;have ht:cs.take sy ++ (cs.drop sy).take m=cs.take (sy + m):=by rw [List.take_add]
 rw [ht,← zdT,ht] at hr;have hs2:=zhT (zgU h (sy + m)) (by rw [List.length_take];omega);have hlen:=zg9 (zgU h (sy + m));rw [List.length_take] at hlen;have hlen2:(zal (cs.take (sy + m))).length ≤ 20000:=by omega
 have hE2:dErr ⟨zal (cs.take (sy + m)),[]⟩=0:=zfI.2 ⟨by simpa using hlen2,by show (zb0 _).2=0;rw [hs2]⟩;refine ⟨⟨zal (cs.take sy),(zal (cs.drop sy)).take k⟩,sy + m,?_,by omega,by omega,?_,?_,hE2⟩
 ·unfold zho;rw [if_neg (by omega),if_neg (by omega),Int.toNat_natCast];rfl
 ·have hE:dErr ⟨zal (cs.take sy),(zal (cs.drop sy)).take k⟩=0:=by
   rw [zfI] at h1 ⊢;refine ⟨?_,h1.2⟩;have:((zal (cs.drop sy)).take k).length ≤ (zal (cs.drop sy)).length:=by rw [List.length_take];omega
   have h3:=h1.1;show (zal (cs.take sy)).length + ((zal (cs.drop sy)).take k).length ≤ 20000;have h4:(zal (cs.take sy)).length + (zal (cs.drop sy)).length ≤ 20000:=h3;omega
  unfold zcW;rw [if_neg (by omega)];show ((⟨(recP _ (zb0 (zal (cs.take sy))).1 (zal (cs.take sy))).2,[]⟩:Dsk),(recP _ (zb0 (zal (cs.take sy))).1 (zal (cs.take sy))).1,(0:Int))=_;rw [hs,hr]
 ·unfold zcW;rw [if_neg (by omega)];show ((⟨(recP (spl 10 []) (zb0 (zal (cs.take (sy + m)))).1 (zal (cs.take (sy + m)))).2,[]⟩:Dsk),(recP (spl 10 []) (zb0 (zal (cs.take (sy + m)))).1 (zal (cs.take (sy + m)))).1,(0:Int))=_;rw [hs2];rfl
end
end Go.Proofs.YtockodmbhnlheaaGreatDoor
