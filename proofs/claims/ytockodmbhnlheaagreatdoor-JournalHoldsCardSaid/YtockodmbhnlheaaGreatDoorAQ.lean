import Derived.Test.YtockodmbhnlheaaGreatDoorAP
import Derived.Laws.MakeOwn
namespace Go.Proofs.YtockodmbhnlheaaGreatDoor
section
open Go.RowKit
theorem zoI {r q t:Int} (ht:r.tdiv q=t) (hr:-2000000000000 ≤ r∧r ≤ 2000000000000) :
  (-2000000000000 ≤ t∧t ≤ 2000000000000)∧(-2000000000000 ≤ q * t∧q * t ≤ 2000000000000)∧zlX r q=if r - q * t < 0 then (if 0 < q then -t + 1 else -t - 1) else -t:=by
 subst ht;have e3:(r.tdiv q).natAbs ≤ r.natAbs:=by rw [Int.natAbs_tdiv];exact Nat.div_le_self _ _
 have e4:(q * r.tdiv q).natAbs ≤ r.natAbs:=by
  rw [Int.natAbs_mul,Int.natAbs_tdiv];exact Nat.mul_div_le _ _
 refine ⟨by omega,by omega,?_⟩;unfold zlX;rw [Int.neg_tdiv,Int.mul_neg,← Int.sub_eq_add_neg]
set_option maxHeartbeats 2000000 in
theorem zmo (a:Ac) (A A':Option Addr) (c n' c':Nat) (marks:List Int) (market:Int) (B B':Nat) (w:World) (h:Rd w B 1 A a.pos.length c (ints a.pos)) (hB:B ≤ w.heap.size) (h':Rd w B' 1 A' n' c' (ints marks)) (hB':B' ≤ w.heap.size) :
  Calls Tryz.prog 143 #[.agg #[.int .i64 a.id,.int .i64 a.bal,.slice A a.pos.length c],.slice A' n' c',.int .i64 market] w fun e w' =>
   e=.returned (.tuple #[.int .i64 (zcd a marks market).1,.int .i64 (zcd a marks market).2])∧Below w.heap.size w w':=by
 obtain ⟨n,en,hn⟩:∃ n en,zbv a marks=(n,en):=⟨_,_,rfl⟩;have HN:=zi hn;have HML:=zi h'.ofInts;have HS:=zi (show zcd a marks market=if en ≠ 0 then (0,en) else if market < 0∨(n':Int) ≤ market then (0,5) else if a.pos.getD market.toNat 0=0 then (0,12)
   else (max 1 (min (zlX (n - a.pos.getD market.toNat 0 * marks.getD market.toNat 0) (a.pos.getD market.toNat 0)) 10000),0) by unfold zcd;rw [hn,HML.out])
 clear hn;go_enter Tryz.func143,Tryz.ntmps143
 go_wp2_with fail
 refine (zjG a _ _ _ _ _ marks _ _ _ (h.alloc hB _) (by simp;omega) (h'.alloc hB' _) (by simp;omega)).mono ?_;rw [HN.out];rintro e w1 ⟨rfl,hb1⟩;have B1:=(Blk.new w 78 #[.int .i64 a.id,.int .i64 a.bal,.slice A a.pos.length c]).below hb1 (by simp);have hw1:w.heap.size < w1.heap.size:=by have:=hb1.size;simp at this;omega
 have h9:Below w.heap.size w w1:=((Below.refl _ _).alloc (zl _) _).trans (hb1.mono (by simp));have ra:=h.below (h9.mono hB);have rm:=h'.below (h9.mono hB');clear hb1;by_cases hen:en=0
 ·subst hen;have HS2:=zi (HS.out.trans (if_neg (by simp)));by_cases hmk:market < 0∨(n':Int) ≤ market
  ·have HE:=zi (HS2.out.trans (if_pos hmk));rcases hmk with hmk | hmk;all_goals
    go_wp2_with fail
    go_ret2
    exact ⟨za6 (by rw [HE.out]),h9⟩
  ·have HS3:=zi (HS2.out.trans (if_neg hmk));obtain ⟨k,rfl⟩:∃ k:Nat,market=k:=⟨market.toNat,by omega⟩;rw [Int.toNat_natCast] at HS3;obtain ⟨k1,k2,k3,k4⟩:=zpS HN.out;obtain ⟨g1,g2,g3,g4,g5⟩:=zaw k1;have hkn:k < n':=by omega
   have hml:=HML.out;have hkp:k < a.pos.length:=by omega
   obtain ⟨b,o,rfl,hb,q,hq,hc⟩:=ra.int hkp;obtain ⟨b',o',rfl,hb',mk,hm,hc'⟩:=rm.int hkn;have hq1:=ze7 g5 hq;have hm1:=k4 mk (List.mem_of_getElem? hm);have e1:a.pos.getD k 0=q:=by simp [List.getD,hq]
   have e2:marks.getD k 0=mk:=by simp [List.getD,hm]
   rw [e1,e2] at HS3;have hn2:=zaK.1 k3;have hkn2:(k:Int) < (n':Int):=by omega
   have hkp2:(k:Int) < (a.pos.length:Int):=by omega
   obtain ⟨⟨b0,b1,b2⟩,_⟩:=B1.c3;clear hmk hq hm e1 e2 k1 k2 k3 k4 g1 g2 g3 g4 g5 hml;by_cases hq0:q=0
   ·have HE:=zi (HS3.out.trans (if_pos hq0));subst hq0;go_wp2_with fail
    go_ret2
    exact ⟨za6 (by rw [HE.out]),h9⟩
   ·have HS4:=zi (HS3.out.trans (if_neg hq0));obtain ⟨w1',w2'⟩:=zhu hq1.1 hq1.2 hm1.1 hm1.2;obtain ⟨r,hr⟩:∃ r,r=n - q * mk:=⟨_,rfl⟩;have hrb:-2000000000000 ≤ n - q * mk∧n - q * mk ≤ 2000000000000:=by omega
    have HR:=zi hr;obtain ⟨t,ht⟩:∃ t,(n - q * mk).tdiv q=t:=⟨_,rfl⟩;obtain ⟨⟨t1,t2⟩,⟨t3,t4⟩,ht5⟩:=zoI ht hrb;rw [ht5] at HS4;have hq2:(q == 0)=false:=by simpa using hq0
    obtain ⟨hq3,hq4⟩:=hq1;obtain ⟨hr1,hr2⟩:=hrb;obtain ⟨hn3,hn4⟩:=hn2;have hqt:q * -t = -(q * t):=Int.mul_neg q t;clear hr ht5;by_cases hneg:n - q * mk - q * t < 0
    ·have hneg2:n - q * mk + -(q * t) < 0:=by omega
     by_cases hqp:0 < q
     ·have HE:=zi (HS4.out.trans (by rw [if_pos hneg,if_pos hqp]));go_wp2_with fail
      all_goals (go_ret2;exact ⟨za6 (by rw [HE.out];congr 1;omega),h9⟩)
     ·have HE:=zi (HS4.out.trans (by rw [if_pos hneg,if_neg hqp]));have hqn:q ≤ 0:=by omega
      go_wp2_with fail
      all_goals (go_ret2;exact ⟨za6 (by rw [HE.out];congr 1;omega),h9⟩)
    ·have HE:=zi (HS4.out.trans (by rw [if_neg hneg]));have hneg2:0 ≤ n - q * mk + -(q * t):=by omega
     have hneg3:0 ≤ n - q * mk - q * t:=by omega
     clear hneg;go_wp2_with fail
     all_goals (go_ret2;exact ⟨za6 (by rw [HE.out];congr 1;omega),h9⟩)
 ·have HS2:=zi (HS.out.trans (if_pos hen));have hen1:(en != 0)=true:=by simpa using hen
  clear hen;go_wp2_with fail
  go_ret2
  exact ⟨za6 (by rw [HS2.out]),h9⟩
end
section
theorem zig {o:Od}:∀ {l:List Od} {left:Int},(zan o left l).2.1.length ≤ l.length
 | [],left=>by simp [zan]
 | x :: l,left=>by
  unfold zan;split
  ·simp
  split
  ·simp
  split
  ·simp
  split
  ·simp
  ·have k:=zig (o:=o) (l:=l) (left:=left - x.qty);simp only [List.length_cons];omega
theorem zjS {b x:Bk} {o:Od} {l:List Fl} {left:Int} {met:Bool} (h:za1 b o=(x,l,left,met,0)):l.length ≤ 40:=by
 have hb:=(zgM h).1;unfold za1 at h;split at h
 ·rename_i h1;injection h with _ h;injection h with _ h;injection h with _ h;injection h with _ h;exact absurd h h1
 split at h
 ·rename_i h2;injection h with _ h;injection h with _ h;injection h with _ h;injection h with _ h;exact absurd h h2
 injection h with _ h;injection h with e2 _;rw [← e2];have:=zig (o:=o) (l:=zap b o.side) (left:=o.qty);have hl:=hb.len;have:(zap b o.side).length ≤ 40:=by unfold zap;split <;> omega
 omega
def zeU (p:Int):Int:=if p < 0 then 1 else -1
def zhi (a:Ac) (price p:Int):Od:=⟨100000,a.id,zeU p,price,max p (-p)⟩
theorem zlc (p:Int):zeU p=1∨zeU p = -1:=by unfold zeU;split <;> omega
def zgN (a:Ac) (price p:Int) (market:Nat) (d:Dk):Except Int Dk :=
 let t:=za1 (mkAt d.v market).book (zhi a price p)
 okIf t.2.2.2.2 (zby (zbz market true t.2.1 ⟨zaD d.v market { mkAt d.v market with book:=t.1 },d.ev⟩) fun d =>
  zbA market a.id (zeU p) price t.2.2.1.toNat t.2.2.1 d)
theorem zld {k market:Nat} {marks:List Int} {d:Dk} {a:Ac} {price e p:Int} (ha:d.v.accs[k]?=some a) (hb:zcd a marks market=(price,e)) (hp:a.pos.getD market 0=p) :
  zce k market marks d=okIf e (zgN a price p market d):=by
 have hat:zaR d.v k=a:=zaY ha;show okIf (zcd (zaR d.v k) marks market).2 _=_;rw [hat,hb];subst hp;rfl
theorem znZ {a:Ac} {price p:Int} {market:Nat} {d:Dk} {m:Mk} {x:Bk} {l:List Fl} {left:Int} {met:Bool} {e:Int} (hm:d.v.mks[market]?=some m) (ht:za1 m.book (zhi a price p)=(x,l,left,met,e)) :
  zgN a price p market d=okIf e (zby (zbz market true l ⟨zaD d.v market { m with book:=x },d.ev⟩) fun d=>zbA market a.id (zeU p) price left.toNat left d):=by
 have hat:mkAt d.v market=m:=zaY hm;unfold zgN;rw [hat,ht]
structure ClosePre (d:Dk) (market:Nat) (m:Mk) (x:Bk) (l:List Fl) (left price:Int):Prop where
 lens:x.bids.length ≤ 4000000000000∧x.asks.length ≤ 4000000000000
 cnt:l.length ≤ 40
 fl:∀ f ∈ l,((0 ≤ f.tacc∧f.tacc ≤ 7)∧(0 ≤ f.macc∧f.macc ≤ 7)∧(-1000 ≤ f.side * f.qty∧f.side * f.qty ≤ 1000))
 left:0 ≤ left∧left ≤ 1000
 price:1 ≤ price∧price ≤ 10000
 ok:VOk (zaD d.v market { m with book:=x })
 fs:∀ f ∈ l,(1 ≤ f.qty∧f.qty ≤ 1000)∧(f.side=1∨f.side = -1)∧(0 ≤ f.price∧f.price ≤ 10000)
theorem zp4 {d:Dk} {k market:Nat} {m:Mk} {a:Ac} {x:Bk} {l:List Fl} {left price p:Int} {met:Bool} (h:VOk d.v) (_:d.v.accs[k]?=some a) (hm:d.v.mks[market]?=some m) (ht:za1 m.book (zhi a price p)=(x,l,left,met,0)) :
  ClosePre d market m x l left price:=by
 obtain ⟨b1,b2,b3,b4,b5,b6,b7⟩:=zgM ht;have hop:=zaP.1 b3;have hid:0 ≤ a.id∧a.id ≤ 7:=hop.2.1;have hat:mkAt d.v market=m:=zaY hm;have hlt:market < d.v.mks.length:=(List.getElem?_eq_some_iff.1 hm).1;obtain ⟨m1,m2⟩:=zem h hlt;rw [hat] at m1 m2;have hmo:=za2.1 m1;have s1:=zfc (place:=false) (d:=d) (k:=market) (m:={ m with book:=x }) h (za2.2 ⟨b2,hmo.2⟩) (fun y hy=>by
  obtain ⟨z,hz,g1,g2,_⟩:=b4 y hy;rw [← g1,← g2];exact m2 z hz)
 have hfo:=zhH b1 hop.2.2.1 b5;refine ⟨?_,zjS ht,fun f hf=>?_,?_,hop.2.2.2.1,s1.ok,hfo⟩
 ·have:=b2.len;omega
 ·obtain ⟨z,hz,_,g2,_,_,g5,g6,_⟩:=b5 f hf;obtain ⟨q1,q2,_⟩:=hfo f hf;have hz':=zaP.1 (ziw b1 hz).2;have ht':f.tacc=a.id:=g6;refine ⟨by omega,by omega,?_⟩;rcases q2 with q2 | q2 <;> rw [q2] <;> omega
 ·have:=hop.2.2.2.2.2;omega
theorem zoJ {mk:Nat}:∀ {l:List Fl} {d d':Dk},VOk d.v→(∀ f ∈ l,(1 ≤ f.qty∧f.qty ≤ 1000)∧(f.side=1∨f.side = -1)∧(0 ≤ f.price∧f.price ≤ 10000))→mk < d.v.mks.length→zbz mk true l d=.ok d'→VOk d'.v∧d'.v.mks.length=d.v.mks.length:=by
 intro l d d' h hl hm he;obtain ⟨s,_⟩:=zfx (place:=false) h hl hm he;exact ⟨s.ok,s.len⟩
theorem zfz {mk:Nat} {free:Bool}:∀ {l:List Fl} {d d':Dk},zbz mk free l d=.ok d'→d'.ev.length=d.ev.length + l.length
 | [],d,d',h=>by injection h with h;subst h;simp
 | f :: l,d,d',h=>by
  obtain ⟨v,_,h2⟩:=zdo h;have:=zfz h2;rw [this];show (d.ev ++ [_]).length + _=_;rw [List.length_append,List.length_cons];simp only [List.length_cons,List.length_nil];omega
theorem zrF {market fuel:Nat} {id side price left:Int} {d:Dk} (h:left ≤ 0):zbA market id side price fuel left d=.ok d:=by
 cases fuel with
 | zero=>rfl
 | succ n=>unfold zbA;rw [if_pos h]
theorem zp5 {market fuel:Nat} {id side price left:Int} {d:Dk} (h:0 < left) (hf:left.toNat ≤ fuel) (ho:zd7 d.v market side=none):zbA market id side price fuel left d=.error 4:=by
 cases fuel with
 | zero=>omega
 | succ n=>unfold zbA;rw [if_neg (by omega),ho]
theorem zp6 {market fuel:Nat} {id side price left:Int} {d:Dk} {i:Nat} {x:Int} {c:Ac} {n p:Int} (h:0 < left) (_:left.toNat ≤ fuel + 1) (ho:zd7 d.v market side=some (i,x)) (hc:d.v.accs[i]?=some c) (hp:p=c.pos.getD market 0) (hn:n=min left (max p (-p))) :
  zbA market id side price (fuel + 1) left d=zby (zcD d.v market id c.id (side * n) price 0) fun v=>zbA market id side price fuel (left - n) (tell ⟨v,d.ev⟩ ⟨6,0,market,0,c.id,0,⟨0,0,c.id,id,side,price,n⟩⟩):=by
 have hat:zaR d.v i=c:=zaY hc;conv=>lhs;unfold zbA
 rw [if_neg (by omega),ho];simp only [hat];rw [hn,hp]
end
section
def zhN (c:Cm) (v:Vn):Od:=⟨v.next,c.acc,c.o.side,c.o.price,c.o.qty⟩
def ztL (c:Cm) (v:Vn) (p:Int):Od:=⟨v.next,c.acc,c.o.side,c.o.price,min c.o.qty (max p (-p))⟩
def zbW (c:Cm) (mk:Nat) (d:Dk):Dk:=tell ⟨{ d.v with next:=d.v.next + 1 },d.ev⟩ ⟨2,0,mk,d.v.next,c.acc,0,zba⟩
theorem zmp {c:Cm} {d:Dk} {mk:Nat} (hm:mk=c.market.toNat) :
  zcE c d=if zax (zhN c d.v) ≠ 0 then .error (zax (zhN c d.v)) else if c.reduce=true∧c.how ≠ 2 then .error 4
   else if zas d.v.accs c.acc=false∨c.market < 0∨(d.v.mks.length:Int) ≤ c.market then .error 5
   else if d.v.next=100000 then .error 7
   else if c.reduce=true∧0 ≤ (zaR d.v (zam d.v.accs c.acc)).pos.getD mk 0 * c.o.side then .error 12
   else zfu c (if c.reduce then ztL c d.v ((zaR d.v (zam d.v.accs c.acc)).pos.getD mk 0) else zhN c d.v) (zam d.v.accs c.acc) mk (zbW c mk d):=by
 subst hm;rfl
def zbU (c:Cm) (o:Od) (mk:Nat) (left:Int) (d:Dk):Dk:=if 0 < left then tell d ⟨4,0,mk,o.id,c.acc,left,zba⟩ else d
def zeD (c:Cm) (o:Od) (k mk:Nat) (l:List Fl) (left:Int) (d:Dk):Except Int Dk :=
 let d2:=zbU c o mk left d
 if c.reduce then .ok d2
 else okIf (zaZ (zaR d2.v k) mk (o.side * (o.qty - left - zbg l)) o.price 0).2 (okIf (zb9 d2.v (zaZ (zaR d2.v k) mk (o.side * (o.qty - left - zbg l)) o.price 0).1) (.ok d2))
theorem zmq {c:Cm} {o:Od} {k mk:Nat} {d:Dk} {m:Mk} {x:Bk} {l:List Fl} {left te:Int} (hm:d.v.mks[mk]?=some m) (ht:zcs m.book o c.how=(x,l,left,te)) :
  zfu c o k mk d=okIf te (zby (zbz mk false l ⟨zaD d.v mk { m with book:=x },d.ev⟩) (zeD c o k mk l left)):=by
 have hat:mkAt d.v mk=m:=zaY hm;unfold zfu;rw [hat,ht];rfl
theorem zrG {c:Cm} {o:Od} {k mk:Nat} {d:Dk} {l:List Fl} {left:Int} (hr:c.reduce=true):zeD c o k mk l left d=.ok (zbU c o mk left d):=by unfold zeD;simp only [hr,if_true]
theorem zoK {c:Cm} {o:Od} {k mk:Nat} {d d2:Dk} {l:List Fl} {left te:Int} {a x:Ac} (hr:c.reduce=false) (hd:zbU c o mk left d=d2) (ha:d2.v.accs[k]?=some a) (ht:zaZ a mk (o.side * (o.qty - left - zbg l)) o.price 0=(x,te)) :
  zeD c o k mk l left d=okIf te (okIf (zb9 d2.v x) (.ok d2)):=by
 have hat:zaR d2.v k=a:=zaY ha;unfold zeD;simp only [hd,hat,ht];rw [hr];rfl
theorem zp7 {c:Cm} {o:Od} {mk:Nat} {left:Int} {d:Dk}:(zbU c o mk left d).v=d.v:=by unfold zbU;split <;> rfl
theorem zoL {b x:Bk} {o:Od} {how left:Int} {l:List Fl} (h:zcs b o how=(x,l,left,0)):l.length ≤ 40:=by
 obtain ⟨hb,ho,_,hh,L,rem,ht,_⟩:=znP h;have:=zig (o:=o) (l:=zap b o.side) (left:=o.qty);rw [ht] at this;have hl:=hb.len;have h2:(zap b o.side).length ≤ 40:=by unfold zap;split <;> omega
 have h3:l.length ≤ (zap b o.side).length:=this;omega
structure ComePre (d:Dk) (mk:Nat) (m:Mk) (o:Od) (x:Bk) (l:List Fl) (left:Int):Prop where
 lens:x.bids.length ≤ 4000000000000∧x.asks.length ≤ 4000000000000
 cnt:l.length ≤ 40
 fl:∀ f ∈ l,((0 ≤ f.tacc∧f.tacc ≤ 7)∧(0 ≤ f.macc∧f.macc ≤ 7)∧(-1000 ≤ f.side * f.qty∧f.side * f.qty ≤ 1000))
 fs:∀ f ∈ l,(1 ≤ f.qty∧f.qty ≤ 1000)∧(f.side=1∨f.side = -1)∧(0 ≤ f.price∧f.price ≤ 10000)
 lef:0 ≤ left∧left ≤ 1000
 sum:0 ≤ zbg l∧zbg l + left ≤ o.qty
 ord:zax o=0
 ok:VOk (zaD d.v mk { m with book:=x })
theorem zmr {d:Dk} {mk:Nat} {m:Mk} {o:Od} {x:Bk} {l:List Fl} {how left:Int} (h:VOk d.v) (hm:d.v.mks[mk]?=some m) (ha:zas d.v.accs o.acc=true) (hi:o.id < d.v.next) (ht:zcs m.book o how=(x,l,left,0)):ComePre d mk m o x l left:=by
 obtain ⟨hb,ho,hy,hf,hl0,hl2,hq,_⟩:=zk3 ht;have hop:=zaP.1 ho;have hat:mkAt d.v mk=m:=zaY hm;have hlt:mk < d.v.mks.length:=(List.getElem?_eq_some_iff.1 hm).1;have hbk:=(za2.1 (zem h hlt).1).1;rw [hat] at hbk;obtain ⟨m1,m2⟩:=znX h hlt hb ha hi (by rw [hat];exact hy);rw [hat] at m1;have s1:=zfc (place:=true) (d:=d) (k:=mk) (m:={ m with book:=x }) h m1 m2;have hfo:=zhH hbk hop.2.2.1 hf;refine ⟨by have:=hb.len;omega,zoL ht,fun f hf'=>?_,hfo,?_,hq,ho,s1.ok⟩
 ·obtain ⟨z,hz,_,g2,_,_,g5,g6,_⟩:=hf f hf';obtain ⟨q1,q2,_⟩:=hfo f hf';have hz':=zaP.1 (ziw hbk hz).2;have h1:=hop.2.1;refine ⟨by omega,by omega,?_⟩;rcases q2 with q2 | q2 <;> rw [q2] <;> omega
 ·have:=hop.2.2.2.2;omega
theorem ziW {mk:Nat} {l:List Fl} {d d':Dk} (h:VOk d.v) (hl:∀ f ∈ l,(1 ≤ f.qty∧f.qty ≤ 1000)∧(f.side=1∨f.side = -1)∧(0 ≤ f.price∧f.price ≤ 10000)) (hm:mk < d.v.mks.length) (he:zbz mk false l d=.ok d') :
  VOk d'.v∧d'.v.mks.length=d.v.mks.length∧d'.v.accs.length=d.v.accs.length:=by
 obtain ⟨s,i,_⟩:=zfx (place:=true) h hl hm he;refine ⟨s.ok,s.len,?_⟩;have e:=congrArg List.length i;simpa only [List.length_map] using e
theorem zms {c:Cm} {mk:Nat} {d:Dk} (h:VOk d.v) (hn:d.v.next ≠ 100000):VOk (zbW c mk d).v :=
 ⟨h.len,h.accs,⟨h.nums.ins,h.nums.resid,by have:=h.nums.next;simp only [zbW,tell];omega,h.nums.inn,h.nums.out⟩,h.money,h.pos,zfa h.mks (fun _ h=>h) (by simp only [zbW,tell];omega)⟩
theorem zno {l:List Fl} {j:Nat} {f:Fl} (h:l[j]?=some f):zbg (l.take (j + 1))=zbg (l.take j) + f.qty:=by
 unfold zbg;rw [List.take_add_one,h];simp
theorem zp8 {l:List Fl} (h:∀ f ∈ l,1 ≤ f.qty∧f.qty ≤ 1000):0 ≤ zbg l∧zbg l ≤ 1000 * l.length:=by
 induction l with
 | nil=>simp [zbg]
 | cons f l ih =>
  have h1:=h f (by simp);obtain ⟨h2,h3⟩:=ih fun g hg=>h g (by simp [hg]);simp only [zbg,List.map_cons,List.sum_cons,List.length_cons] at *;omega
end
section
open Go.RowKit
def zdG (k:Nat):Array Value:=(ints (List.replicate k 0)).toArray
theorem zjT (k:Nat):(zdG k).size=k:=by simp [zdG,ints]
theorem zjU (k:Nat):(zdG k).toList=ints (List.replicate k 0):=by simp [zdG]
theorem zrH:(Tryz.prog.info? 3).map (fun i=>(i.zero,i.size,i.bytes))=some (some (.int .i64 0),1,8):=by kernel_rfl
theorem zle (k:Nat) (hk:k ≤ 1000000) (w:World):(Instr.makeSlice 76 (.int .i64 (k:Int)) (.int .i64 (k:Int))).run Tryz.prog w=.ok (.slice (some ⟨w.heap.size,0,none⟩) k k) (w.alloc (.cells (zdG k) 3)):=by
 have hi:=zrH;cases h:Tryz.prog.info? 3 with
 | none=>rw [h] at hi;cases hi
 | some i =>
  rw [h] at hi;simp only [Option.map_some,Option.some.injEq,Prod.mk.injEq] at hi;obtain ⟨h1,h2,h3⟩:=hi;have hr:=run_make (P:=Tryz.prog) (w:=w) 76 3 i (.int .i64 0) Tryz.underlying76 h h1 .i64 .i64 k k (by omega) (by omega) (by rw [h3];omega) (by omega);rw [hr,h2];simp only [Int.toNat_natCast,Nat.mul_one];have:madeCells (Value.cells (.int .i64 0)) k=zdG k:=by
   apply Array.ext
   ·simp [madeCells,zdG,ints]
   ·intro j h1 h2;simp [madeCells,zdG,ints,Value.cells,Nat.mod_one]
  rw [this]
end
section
def rejB (ev:List Ev):Bool:=match ev with
 | [x]=>decide (x.kind=1)
 | _=>false
def zf4 (c:Cm):Bool:=decide (c.kind=3)
theorem zp9 {c:Cm} {d d':Dk} (h:VOk d.v) (hc:zcM c d=.ok d'):∃ E,Step (zf4 c) d d' E∧d'.v.next ≤ d.v.next + 1:=by
 unfold zcM at hc;split at hc
 ·rename_i hk;obtain ⟨m,s,_,_,_,hn,_⟩:=zpX (place:=zf4 c) h hc;exact ⟨_,s,by omega⟩
 rename_i h1;split at hc
 ·rename_i hk;obtain ⟨b,l,left,hcm,_,_,_,_,s,hn,_⟩:=zrD h hc;have:zf4 c=true:=by unfold zf4;simp [hk]
  rw [this];exact ⟨_,s,by omega⟩
 rename_i h2;split at hc
 ·obtain ⟨j,x,o,_,_,_,_,_,rfl,s⟩:=znm (place:=zf4 c) h hc;exact ⟨_,s,by simp only [tell,zaD];omega⟩
 rename_i h3;split at hc
 ·obtain ⟨E,s,_,hn,_⟩:=znn (place:=zf4 c) h hc;exact ⟨E,s,by omega⟩
 rename_i h4;split at hc
 ·rename_i hk;obtain ⟨_,E,s,_,_⟩:=zoH h hc;have:zf4 c=false:=by unfold zf4;simp [hk]
  rw [this];exact ⟨E,s.step,by have:=s.nums.2.1;omega⟩
 ·cases hc
theorem zt0 {v w:Vn} {c:Cm} {ev:List Ev} (h:doOf v c=(w,ev,0)):VOk v∧((∃ e,zcM c ⟨v,[]⟩=.error e∧w=v∧ev = [zlY e])∨zcM c ⟨v,[]⟩=.ok ⟨w,ev⟩):=by
 unfold doOf at h;split at h
 ·rename_i h1;injection h with _ h;injection h with _ h;exact absurd h h1
 rename_i h1;refine ⟨zfQ.1 (by omega),?_⟩;split at h
 ·rename_i d hd;injection h with e1 h;injection h with e2 _;right;rw [hd,← e1,← e2]
 ·rename_i e he;injection h with e1 h;injection h with e2 _;exact .inl ⟨e,he,e1.symm,e2.symm⟩
theorem zrI {place:Bool} {d d':Dk} {E:List Ev} (h:Step place d d' E):rejB E=false:=by
 unfold rejB;split
 ·rename_i x;have:=h.kinds x (by simp);simpa using this
 ·rfl
theorem zqa {v w:Vn} {c:Cm} {ev:List Ev} (h:doOf v c=(w,ev,0)) :
  VOk v∧VOk w∧(v.next ≤ w.next∧w.next ≤ v.next + 1)∧v.inn ≤ w.inn∧v.out ≤ w.out∧(rejB ev=true→w=v):=by
 obtain ⟨h1,⟨e,_,rfl,rfl⟩ | h2⟩:=zt0 h
 ·exact ⟨h1,h1,by omega,Int.le_refl _,Int.le_refl _,fun _=>rfl⟩
 ·obtain ⟨E,s,hn⟩:=zp9 (d:=⟨v,[]⟩) h1 h2;have he:ev=E:=by have:=s.ev;simpa using this
  subst he;have hu:=s.up;simp only at hu hn;exact ⟨h1,s.ok,⟨hu.1,hn⟩,hu.2.1,hu.2.2,fun hr=>by rw [zrI s] at hr;cases hr⟩
end
section
def zbp {α:Type} (f:α→α→Bool):List α→List α→Bool
 | [],[]=>true
 | a :: L,b :: M=>f a b && zbp f L M
 | _,_=>false
section
variable {α:Type} {f:α→α→Bool}
theorem zgO:∀ {L M:List α},L.length ≠ M.length→zbp f L M=false
 | [],[],h=>absurd rfl h
 | _ :: _,[],_=>rfl
 | [],_ :: _,_=>rfl
 | a :: L,b :: M,h=>by simp only [zbp];rw [zgO (L:=L) (M:=M) (by simpa using h)];simp
theorem zhO:∀ {L M:List α} {j:Nat} {a b:α},L[j]?=some a→M[j]?=some b→zbp f (L.drop j) (M.drop j)=(f a b && zbp f (L.drop (j + 1)) (M.drop (j + 1)))
 | [],_,_,_,_,h,_=>by simp at h
 | _ :: _,[],_,_,_,_,h=>by simp at h
 | x :: L,y :: M,0,a,b,h,h'=>by simp at h h';subst h h';rfl
 | x :: L,y :: M,j + 1,a,b,h,h'=>by
  have:=zhO (L:=L) (M:=M) (j:=j) (a:=a) (b:=b) (by simpa using h) (by simpa using h');simpa using this
theorem zgP (hf:∀ a b,f a b=true ↔ a=b):∀ {L M:List α},zbp f L M=true ↔ L=M
 | [],[]=>by simp [zbp]
 | _ :: _,[]=>by simp [zbp]
 | [],_ :: _=>by simp [zbp]
 | a :: L,b :: M=>by
  simp only [zbp,Bool.and_eq_true,List.cons.injEq];rw [zgP hf,hf]
end
end
end Go.Proofs.YtockodmbhnlheaaGreatDoor
