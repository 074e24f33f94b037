import Derived.Test.YtockodmbhnlheaaGreatDoorBA
namespace Go.Proofs.YtockodmbhnlheaaGreatDoor
section
open Go.RowKit
def FlDk (f:Fl):Prop:=(0 ≤ f.tacc∧f.tacc ≤ 7)∧(0 ≤ f.macc∧f.macc ≤ 7)∧(-1000 ≤ f.side * f.qty∧f.side * f.qty ≤ 1000)
structure FlR (w wr:World) (base D:Nat) (ap:Bool) (d:Dk) (A:Option Addr) (c:Nat) (M:Option Addr) (k:Nat) (mk:Nat) (free:Bool) (l:List Fl) (base':Nat) (AL:Option Addr) (cL:Nat) (j:Nat) (d1:Dk) (vE:Value) (xs ys:List Value):Prop where
 desk:Desk wr base D ap d1 A c M k vE xs ys
 low:Below base w wr
 fr:Fr [113,57] (D :: (ab A ++ ab M)) w wr
 ok:AOk d1.v.mks.length d1.v.accs
 eq:zbz mk free (l.drop j) d1=zbz mk free l d
 len:d1.ev.length=d.ev.length + j
 own:wr.ownsRow base' 55 7 (.slice AL l.length cL) l.length (zaJ l)
theorem zka {mk:Nat} {free:Bool} {f:Fl} {l:List Fl} {d:Dk} {j:Nat} (h:l[j]?=some f) :
  zbz mk free (l.drop j) d=zby (zcD d.v mk f.tacc f.macc (f.side * f.qty) f.price (if free then 0 else (zdB f.qty f.price).1)) fun v =>
   zbz mk free (l.drop (j + 1)) (tell ⟨zaD v mk { mkAt v mk with last:=f.price },d.ev⟩ ⟨3,0,mk,0,0,0,f⟩):=by
 obtain ⟨h1,h2⟩:=List.getElem?_eq_some_iff.1 h;rw [List.drop_eq_getElem_cons h1,h2];rfl
theorem zmF {w wr W4:World} {base D c k:Nat} {ap:Bool} {d:Dk} {A M:Option Addr} {mk:Nat} {free:Bool} {l:List Fl} {base':Nat} {AL:Option Addr} {cL j:Nat} {d1:Dk} {vE1 vE4:Value} {xs1 ys1 xs4 ys4:List Value} {v':Vn} {f:Fl} {fee:Int} {m:Mk}
  (hr:FlR w wr base D ap d A c M k mk free l base' AL cL j d1 vE1 xs1 ys1) (ht:TradeStep d1.v v' mk f.tacc f.macc (f.side * f.qty) f.price fee) (hm:v'.mks[mk]?=some m)
  (he:zbz mk free l d=zbz mk free (l.drop (j + 1)) (tell ⟨zaD v' mk { mkAt v' mk with last:=f.price },d1.ev⟩ ⟨3,0,mk,0,0,0,f⟩))
  (hd:Desk W4 base D ap (tell ⟨zaD v' mk { m with last:=f.price },d1.ev⟩ ⟨3,0,mk,0,0,0,f⟩) A c M k vE4 xs4 ys4) (hL:Below base w W4) (hF:Fr [113,57] (D :: (ab A ++ ab M)) w W4)
  (ho:W4.ownsRow base' 55 7 (.slice AL l.length cL) l.length (zaJ l)) :
  FlR w W4 base D ap d A c M k mk free l base' AL cL (j + 1) (tell ⟨zaD v' mk { m with last:=f.price },d1.ev⟩ ⟨3,0,mk,0,0,0,f⟩) vE4 xs4 ys4:=by
 have hat:mkAt v' mk=m:=zaY hm;rw [hat] at he;refine ⟨hd,hL,hF,?_,he.symm,?_,ho⟩
 ·show AOk (v'.mks.set mk _).length v'.accs;rw [List.length_set,ht.mks];exact ht.accs
 ·show (d1.ev ++ [_]).length=_;rw [List.length_append,hr.len];simp only [List.length_cons,List.length_nil];omega
set_option maxHeartbeats 4000000 in
set_option maxRecDepth 100000 in
theorem zjm (base D:Nat) (ap:Bool) (d:Dk) (A:Option Addr) (c:Nat) (M:Option Addr) (k:Nat) (vE:Value) (xs ys:List Value) (mk:Nat) (free:Bool) (l:List Fl) (base':Nat) (AL:Option Addr) (cL:Nat) (w:World)
  (h:Desk w base D ap d A c M k vE xs ys) (hb:base ≤ w.heap.size) (ha:AOk d.v.mks.length d.v.accs) (hl:d.ev.length + l.length ≤ 900000) (hf:∀ f ∈ l,FlDk f)
  (ho:w.ownsRow base' 55 7 (.slice AL l.length cL) l.length (zaJ l)) :
  Calls Tryz.prog 99 #[.pointer (some ⟨D,0,none⟩),.int .i64 mk,.slice AL l.length cL,.bool free] w
   (ze3 w base D ap A c M k [113,57] (D :: (ab A ++ ab M)) (zbz mk free l d)):=by
 have HF:=zi hf;have HR0:=zi (show FlR w w base D ap d A c M k mk free l base' AL cL 0 d vE xs ys from ⟨h,Below.refl _ _,Fr.refl _ _ _,ha,rfl,rfl,ho⟩);clear h ha hf ho;rcases zb5 free with rfl | rfl
 ·skip;go_enter Tryz.func99,Tryz.ntmps99
  go_wp2_with fail
  go_loopw [15] (fun i wr=>∃ (j:Nat) (d1:Dk) (vE1:Value) (xs1 ys1:List Value),j ≤ l.length∧i=.int .i64 j∧Hid (FlR w wr base D ap d A c M k mk true l base' AL cL j d1 vE1 xs1 ys1)) (fun i _=>l.length - (intOf i).toNat)
  case atStart=>exact ⟨0,d,vE,xs,ys,by omega,rfl,HR0⟩
  case round =>
   obtain ⟨j,d1,vE1,xs1,ys1,hj,rfl,HR⟩:=hrel;have hDl:=HR.out.desk.lt;have hbr:base ≤ wr.heap.size:=Nat.le_trans hb HR.out.fr.size;by_cases hlt:j < l.length
   ·obtain ⟨bb,oo,f,rfl,hbB,hx,k0,k1,k2,k3,k4,k5,k6⟩:=zoM (Rd.of_own HR.out.own) hlt;have hfok:=HF.out f (List.mem_of_getElem? hx);obtain ⟨ht,hm,hq1,hq2⟩:=hfok;have HT:=zi ht;have HM:=zi hm;have HX:=zi hx;obtain ⟨fee,fe,hfee⟩:∃ fee fe,zdB f.qty f.price=(fee,fe):=⟨_,_,rfl⟩;have hst:=zka (mk:=mk) (free:=true) (d:=d1) hx;rw [HR.out.eq,hfee] at hst;have HST:=zi (show zbz mk true l d=zby (zcD d1.v mk f.tacc f.macc (f.side * f.qty) f.price 0) _ from hst);have HFE:=zi hfee;clear ht hm hx hst hfee;go_wp2_with fail
    skip;refine zak ?_;intro W1 hW1;have hB1:Below wr.heap.size wr W1:=by rw [hW1];exact (Below.refl _ _).alloc (zl _) _
    have hs1:W1.heap.size=wr.heap.size + 1:=by rw [hW1];simp
    have X1:Blk W1 wr.heap.size 55 #[.int .i64 f.maker,.int .i64 f.taker,.int .i64 f.macc,.int .i64 f.tacc,.int .i64 f.side,.int .i64 f.price,.int .i64 f.qty]:=by rw [hW1];exact Blk.new wr _ _
    have HD1:=zi (HR.out.desk.below hB1);have HL1:=zi (HR.out.low.trans (hB1.mono hbr));have HF1:=zi (HR.out.fr.below hB1);have HO1:=zi (zaf HR.out.own hB1 (zl _));clear hW1 hB1 k0 k1 k2 k3 k4 k5 k6;refine (zjk base D ap d1 A c M k vE1 xs1 ys1 mk f.tacc f.macc (f.side * f.qty) f.price 0 W1 HD1.out (by omega) HR.out.ok HT.out HM.out (by omega)).mono ?_;intro e W2 hret;cases htr:zcD d1.v mk f.tacc f.macc (f.side * f.qty) f.price 0 with
    | error n =>
     have HE:=zi (show zbz mk true l d=.error n by rw [HST.out,htr];rfl);rw [htr] at hret;obtain ⟨hn,rfl,hL2⟩:=hret;have hn':(n != 0)=true:=by simpa using hn
     have HN:=zi hn;clear htr hn;go_wp2_with fail
     go_ret;exact zaM HE.out HN.out (HL1.out.trans hL2)
    | ok v' =>
     have HE:=zi (show zbz mk true l d=zbz mk true (l.drop (j + 1)) (tell ⟨zaD v' mk { mkAt v' mk with last:=f.price },d1.ev⟩ ⟨3,0,mk,0,0,0,f⟩) by rw [HST.out,htr];rfl);have HTS:=zi (zgl HR.out.ok htr);rw [htr] at hret;obtain ⟨rfl,⟨vE2,xs2,ys2,hd2⟩,hL2,hF2⟩:=hret;have HD2:=zi hd2;have HL2:=zi (HL1.out.trans hL2);have HF2:=zi (HF1.out.trans (hF2.mono (by simp) zeF));have HO2:=zi (hF2.own HO1.out (by simp) (fun g hg h=>zdr HD1.out HO1.out (by decide) (by decide) (by decide) g hg (zeF g h)));have X2:=X1.fr hF2 (by simp) (fun h=>zbS HD1.out X1 (by decide) (by decide) (by decide) (zeF _ h));clear htr hd2 hL2 hF2 X1;obtain ⟨m,hm⟩:∃ m,v'.mks[mk]?=some m:=⟨_,List.getElem?_eq_getElem (by rw [HTS.out.mks];exact HTS.out.mkLt)⟩;have HMM:=zi hm;obtain ⟨⟨-,k1,-⟩,-⟩:=HD2.out.blk.c8;obtain ⟨g,A2,c2,A3,c3,rfl,hg1,hg2,hin,⟨cs,hgB⟩,⟨q0,q1,q2,q3⟩,⟨r0,r1,r2,r3⟩,-⟩:=zdK HD2.out.mks hm;have HG:=zi hgB;have hi0:(0:Int) ≤ (mk:Int):=by omega
     have hi1:(mk:Int) < (v'.mks.length:Int):=by have:mk < v'.mks.length:=hin;omega
     have x5:=X2.cell 5;have y1:D < W2.heap.size:=HD2.out.lt;have y2:=X2.lt;clear hm hgB;go_wp2_with fail
     go_region
     refine zau ?_;intro Z hZ;obtain ⟨ys3,hd3⟩:=zjl HD2.out (a:=m) (a':={ m with last:=f.price }) HMM.out rfl (.inr ⟨rfl,rfl,rfl⟩) HG.out (.inl hZ);have HD3:=zi hd3;have hF3:Fr [113,57] (D :: (ab A ++ ab (some ⟨g,0,none⟩))) W2 Z:=by rw [hZ];exact ((Fr.refl _ _ _).set HG.out (.inr (by simp [ab])) _ _).drewN 1
     have HL3:=zi (show Below base w Z by rw [hZ];exact zac (HL2.out.setCell hg1 _) 1);have X3:=X2.fr hF3 (by simp) (zbS HD2.out X2 (by decide) (by decide) (by decide));have HO3:=zi (hF3.own HO2.out (by simp) (zdr HD2.out HO2.out (by decide) (by decide) (by decide)));have HF3:=zi (HF2.out.trans hF3);have hbZ:base ≤ Z.heap.size:=Nat.le_trans hb HF3.out.size;have hlen1:d1.ev.length ≤ 1000000:=by have:=HR.out.len;omega
     clear hd3 hF3 hZ k1 q0 q1 q2 q3 r0 r1 r2 r3 x5 X2;obtain ⟨⟨x0,x1,x2,x3,x4,x5,x6⟩,-⟩:=X3.c7;go_wp2_with fail
     refine (zeo base D ap _ A c _ k vE2 xs2 ys3 ⟨3,0,mk,0,0,0,f⟩ Z HD3.out hbZ hlen1).mono ?_;rintro e W4 ⟨rfl,⟨vE4,hd4⟩,hL4,hK4⟩;have HN:=zi (zmF HR.out HTS.out HMM.out HE.out hd4 (HL3.out.trans hL4) (HF3.out.trans (hK4.fr _)) ((hK4.fr _).own HO3.out (by decide) (zdr HD3.out HO3.out (by decide) (by decide) (by decide))));clear hd4 hL4 hK4 x0 x1 x2 x3 x4 x5 x6 X3;go_wp2_with fail
     go_roundw
     case rel=>exact ⟨j + 1,_,_,_,_,by omega,by go_num,HN⟩
     case measure=>simp [intOf];omega
   ·obtain rfl:j=l.length:=by omega
    go_wp2_with fail
    go_ret;exact zd8 (d':=d1) (by rw [← HR.out.eq,List.drop_length];rfl) HR.out.desk HR.out.low HR.out.fr
 ·skip;go_enter Tryz.func99,Tryz.ntmps99
  go_wp2_with fail
  go_loopw [15] (fun i wr=>∃ (j:Nat) (d1:Dk) (vE1:Value) (xs1 ys1:List Value),j ≤ l.length∧i=.int .i64 j∧Hid (FlR w wr base D ap d A c M k mk false l base' AL cL j d1 vE1 xs1 ys1)) (fun i _=>l.length - (intOf i).toNat)
  case atStart=>exact ⟨0,d,vE,xs,ys,by omega,rfl,HR0⟩
  case round =>
   obtain ⟨j,d1,vE1,xs1,ys1,hj,rfl,HR⟩:=hrel;have hDl:=HR.out.desk.lt;have hbr:base ≤ wr.heap.size:=Nat.le_trans hb HR.out.fr.size;by_cases hlt:j < l.length
   ·obtain ⟨bb,oo,f,rfl,hbB,hx,k0,k1,k2,k3,k4,k5,k6⟩:=zoM (Rd.of_own HR.out.own) hlt;have hfok:=HF.out f (List.mem_of_getElem? hx);obtain ⟨ht,hm,hq1,hq2⟩:=hfok;have HT:=zi ht;have HM:=zi hm;have HX:=zi hx;obtain ⟨fee,fe,hfee⟩:∃ fee fe,zdB f.qty f.price=(fee,fe):=⟨_,_,rfl⟩;have hst:=zka (mk:=mk) (free:=false) (d:=d1) hx;rw [HR.out.eq,hfee] at hst;have HST:=zi (show zbz mk false l d=zby (zcD d1.v mk f.tacc f.macc (f.side * f.qty) f.price fee) _ from hst);have HFE:=zi hfee;clear ht hm hx hst hfee;go_wp2_with fail
    (refine (zs0 _ _ _).mono ?_;rintro e w' ⟨rfl,rfl⟩;rw [HFE.out];go_wp2_with fail)
    refine zak ?_;intro W1 hW1;have hB1:Below wr.heap.size wr W1:=by rw [hW1];exact (Below.refl _ _).alloc (zl _) _
    have hs1:W1.heap.size=wr.heap.size + 1:=by rw [hW1];simp
    have X1:Blk W1 wr.heap.size 55 #[.int .i64 f.maker,.int .i64 f.taker,.int .i64 f.macc,.int .i64 f.tacc,.int .i64 f.side,.int .i64 f.price,.int .i64 f.qty]:=by rw [hW1];exact Blk.new wr _ _
    have HD1:=zi (HR.out.desk.below hB1);have HL1:=zi (HR.out.low.trans (hB1.mono hbr));have HF1:=zi (HR.out.fr.below hB1);have HO1:=zi (zaf HR.out.own hB1 (zl _));clear hW1 hB1 k0 k1 k2 k3 k4 k5 k6;refine (zjk base D ap d1 A c M k vE1 xs1 ys1 mk f.tacc f.macc (f.side * f.qty) f.price fee W1 HD1.out (by omega) HR.out.ok HT.out HM.out (by omega)).mono ?_;intro e W2 hret;cases htr:zcD d1.v mk f.tacc f.macc (f.side * f.qty) f.price fee with
    | error n =>
     have HE:=zi (show zbz mk false l d=.error n by rw [HST.out,htr];rfl);rw [htr] at hret;obtain ⟨hn,rfl,hL2⟩:=hret;have hn':(n != 0)=true:=by simpa using hn
     have HN:=zi hn;clear htr hn;go_wp2_with fail
     go_ret;exact zaM HE.out HN.out (HL1.out.trans hL2)
    | ok v' =>
     have HE:=zi (show zbz mk false l d=zbz mk false (l.drop (j + 1)) (tell ⟨zaD v' mk { mkAt v' mk with last:=f.price },d1.ev⟩ ⟨3,0,mk,0,0,0,f⟩) by rw [HST.out,htr];rfl);have HTS:=zi (zgl HR.out.ok htr);rw [htr] at hret;obtain ⟨rfl,⟨vE2,xs2,ys2,hd2⟩,hL2,hF2⟩:=hret;have HD2:=zi hd2;have HL2:=zi (HL1.out.trans hL2);have HF2:=zi (HF1.out.trans (hF2.mono (by simp) zeF));have HO2:=zi (hF2.own HO1.out (by simp) (fun g hg h=>zdr HD1.out HO1.out (by decide) (by decide) (by decide) g hg (zeF g h)));have X2:=X1.fr hF2 (by simp) (fun h=>zbS HD1.out X1 (by decide) (by decide) (by decide) (zeF _ h));clear htr hd2 hL2 hF2 X1;obtain ⟨m,hm⟩:∃ m,v'.mks[mk]?=some m:=⟨_,List.getElem?_eq_getElem (by rw [HTS.out.mks];exact HTS.out.mkLt)⟩;have HMM:=zi hm;obtain ⟨⟨-,k1,-⟩,-⟩:=HD2.out.blk.c8;obtain ⟨g,A2,c2,A3,c3,rfl,hg1,hg2,hin,⟨cs,hgB⟩,⟨q0,q1,q2,q3⟩,⟨r0,r1,r2,r3⟩,-⟩:=zdK HD2.out.mks hm;have HG:=zi hgB;have hi0:(0:Int) ≤ (mk:Int):=by omega
     have hi1:(mk:Int) < (v'.mks.length:Int):=by have:mk < v'.mks.length:=hin;omega
     have x5:=X2.cell 5;have y1:D < W2.heap.size:=HD2.out.lt;have y2:=X2.lt;clear hm hgB;go_wp2_with fail
     go_region
     refine zau ?_;intro Z hZ;obtain ⟨ys3,hd3⟩:=zjl HD2.out (a:=m) (a':={ m with last:=f.price }) HMM.out rfl (.inr ⟨rfl,rfl,rfl⟩) HG.out (.inl hZ);have HD3:=zi hd3;have hF3:Fr [113,57] (D :: (ab A ++ ab (some ⟨g,0,none⟩))) W2 Z:=by rw [hZ];exact ((Fr.refl _ _ _).set HG.out (.inr (by simp [ab])) _ _).drewN 1
     have HL3:=zi (show Below base w Z by rw [hZ];exact zac (HL2.out.setCell hg1 _) 1);have X3:=X2.fr hF3 (by simp) (zbS HD2.out X2 (by decide) (by decide) (by decide));have HO3:=zi (hF3.own HO2.out (by simp) (zdr HD2.out HO2.out (by decide) (by decide) (by decide)));have HF3:=zi (HF2.out.trans hF3);have hbZ:base ≤ Z.heap.size:=Nat.le_trans hb HF3.out.size;have hlen1:d1.ev.length ≤ 1000000:=by have:=HR.out.len;omega
     clear hd3 hF3 hZ k1 q0 q1 q2 q3 r0 r1 r2 r3 x5 X2;obtain ⟨⟨x0,x1,x2,x3,x4,x5,x6⟩,-⟩:=X3.c7;go_wp2_with fail
     refine (zeo base D ap _ A c _ k vE2 xs2 ys3 ⟨3,0,mk,0,0,0,f⟩ Z HD3.out hbZ hlen1).mono ?_;rintro e W4 ⟨rfl,⟨vE4,hd4⟩,hL4,hK4⟩;have HN:=zi (zmF HR.out HTS.out HMM.out HE.out hd4 (HL3.out.trans hL4) (HF3.out.trans (hK4.fr _)) ((hK4.fr _).own HO3.out (by decide) (zdr HD3.out HO3.out (by decide) (by decide) (by decide))));clear hd4 hL4 hK4 x0 x1 x2 x3 x4 x5 x6 X3;go_wp2_with fail
     go_roundw
     case rel=>exact ⟨j + 1,_,_,_,_,by omega,by go_num,HN⟩
     case measure=>simp [intOf];omega
   ·obtain rfl:j=l.length:=by omega
    go_wp2_with fail
    go_ret;exact zd8 (d':=d1) (by rw [← HR.out.eq,List.drop_length];rfl) HR.out.desk HR.out.low HR.out.fr
end
end Go.Proofs.YtockodmbhnlheaaGreatDoor
