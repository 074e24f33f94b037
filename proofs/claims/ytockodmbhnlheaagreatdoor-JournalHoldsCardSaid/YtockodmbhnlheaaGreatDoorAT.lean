import Derived.Test.YtockodmbhnlheaaGreatDoorAS
import Derived.Laws.StructEq
namespace Go.Proofs.YtockodmbhnlheaaGreatDoor
section
open Go.RowKit
theorem zrL {L:List Ac} {id:Int} {i:Nat} (hi:i ≤ L.length) (h1:∀ a ∈ L.take i,a.id < id) (h2:∀ a ∈ L.drop i,id ≤ a.id):zam L id=i:=by
 unfold zam;conv=>lhs;rw [← List.take_append_drop i L]
 rw [List.filter_append,List.length_append,List.filter_eq_self.2 (fun a ha=>by simpa using h1 a ha),List.filter_eq_nil_iff.2 (fun a ha=>by have:=h2 a ha;simp only [decide_eq_true_eq];omega),List.length_take,List.length_nil];omega
theorem zta {L:List Ac} {id:Int} {h:Nat} {a:Ac} (hs:zcO L) (ha:L[h]?=some a) (hlt:a.id < id):∀ x ∈ L.take (h + 1),x.id < id:=by
 intro x hx;obtain ⟨i,hi⟩:=List.mem_iff_getElem?.1 hx;rw [List.getElem?_take] at hi;split at hi
 ·rename_i hlt2;obtain ⟨k1,k2⟩:=List.getElem?_eq_some_iff.1 hi;obtain ⟨k3,k4⟩:=List.getElem?_eq_some_iff.1 ha;by_cases e:i=h
  ·subst e;rw [hi] at ha;injection ha with ha;rw [ha];exact hlt
  ·have:=List.pairwise_iff_getElem.1 hs i h k1 k3 (by omega);rw [k2,k4] at this;omega
 ·cases hi
theorem zn4 {L:List Ac} {id:Int} {h:Nat} {a:Ac} (hs:zcO L) (ha:L[h]?=some a) (hge:id ≤ a.id):∀ x ∈ L.drop h,id ≤ x.id:=by
 intro x hx;obtain ⟨i,hi⟩:=List.mem_iff_getElem?.1 hx;rw [List.getElem?_drop] at hi;obtain ⟨k1,k2⟩:=List.getElem?_eq_some_iff.1 hi;obtain ⟨k3,k4⟩:=List.getElem?_eq_some_iff.1 ha;by_cases e:i=0
 ·subst e;rw [Nat.add_zero] at hi;rw [hi] at ha;injection ha with ha;rw [ha];exact hge
 ·have:=List.pairwise_iff_getElem.1 hs h (h + i) k3 k1 (by omega);rw [k2,k4] at this;omega
theorem zrM {L:List Ac} {id:Int} {i:Nat} {a:Ac} (h1:∀ a ∈ L.take i,a.id < id) (ha:L[i]?=some a) (hs:zcO L) (h2:id ≤ a.id):zas L id=decide (a.id=id):=by
 rw [Bool.eq_iff_iff,zc5,decide_eq_true_eq];constructor
 ·rintro ⟨x,hx,rfl⟩;rw [← List.take_append_drop i L,List.mem_append] at hx;rcases hx with hx | hx
  ·have:=h1 x hx;omega
  ·have h3:=zn4 hs ha (Int.le_refl a.id) x hx;omega
 ·intro e;exact ⟨a,List.mem_of_getElem? ha,e⟩
theorem zqj {L:List Ac} {id:Int} {i:Nat} (h1:∀ a ∈ L.take i,a.id < id) (hi:L.length ≤ i):zas L id=false:=by
 refine zez.2 fun a ha e=>?_;have:=h1 a (by rw [List.take_of_length_le hi];exact ha);omega
theorem zmw {i j:Int} {b c:Bool} (h:i=j) (h':b=c):Ending.returned (.tuple #[.int .i64 i,.bool b])=.returned (.tuple #[.int .i64 j,.bool c]):=by rw [h,h']
set_option maxHeartbeats 400000 in
theorem zn5 (a:Ac) (A:Option Addr) (n c:Nat) (id:Int) (w:World) (h1:0 ≤ a.id∧a.id ≤ 7) (h2:0 ≤ id∧id ≤ 7) :
  Calls Tryz.prog 91 #[.agg #[.int .i64 a.id,.int .i64 a.bal,.slice A n c],.int .i64 id] w fun e w'=>e=.returned (.int .i64 (a.id - id))∧Below w.heap.size w w':=by
 obtain ⟨h3,h4⟩:=h1;obtain ⟨h5,h6⟩:=h2;go_enter Tryz.func91,Tryz.ntmps91
 go_wp2_with fail
 go_ret;exact ⟨rfl,(Below.refl _ _).alloc (zl _) _⟩
set_option maxHeartbeats 2000000 in
set_option maxRecDepth 100000 in
theorem znp (A:Option Addr) (n c:Nat) (L:List Ac) (id:Int) (B:Nat) (w:World) (h:RdL ze0 w B A n c L) (hB:B ≤ w.heap.size) (hs:zcO L) (hid:∀ a ∈ L,0 ≤ a.id∧a.id ≤ 7) (hi:0 ≤ id∧id ≤ 7) (hn:n ≤ 8) :
  Calls Tryz.prog 90 #[.slice A n c,.int .i64 id,.func (.func 91) #[] #[]] w fun e w'=>e=.returned (.tuple #[.int .i64 (zam L id),.bool (zas L id)])∧Below w.heap.size w w':=by
 have HL:=zi h.len;have HS:=zi hs;have HID:=zi hid;have HI:=zi hi;clear hs hid hi;go_enter Tryz.func90,Tryz.ntmps90
 go_wp2_with fail
 go_loopw [9,10] (fun i j wr=>∃ (a b:Nat),i=.int .i64 a∧j=.int .i64 b∧a ≤ b∧b ≤ n∧Hid (∀ x ∈ L.take a,x.id < id)∧Hid (∀ x ∈ L.drop b,id ≤ x.id)∧Below w.heap.size w wr) (fun i j _=>(intOf j - intOf i).toNat)
 case atStart=>exact ⟨0,n,rfl,rfl,Nat.zero_le _,zl _,zi (by simp),zi (by rw [List.drop_of_length_le (by rw [HL.out];exact zl _)];simp),Below.refl _ _⟩
 case round =>
  obtain ⟨a,b,rfl,rfl,hab,hbn,HLO,HHI,hbr⟩:=hrel;have hws:=hbr.size;by_cases hlt:a < b
  ·obtain ⟨m,hm⟩:∃ m,m=(a + b) / 2:=⟨_,rfl⟩;have hm1:a ≤ m:=by omega
   have hm2:m < b:=by omega
   have hmi:((a:Int) + (b:Int)) / 2=(m:Int):=by omega
   obtain ⟨bb,oo,x,rfl,hbB,hx,A2,c2,k0,k1,k2,k3,k4⟩:=zfZ (h.below (hbr.mono hB)) (show m < n by omega);have hxid:=HID.out x (List.mem_of_getElem? hx);have HX:=zi hx;have hi0:=HI.out;have x1:bb < wr.heap.size:=by omega
   clear hm hx;go_wp2_with fail
   refine (zn5 x _ _ _ id _ hxid hi0).mono ?_;rintro e w2 ⟨rfl,hb2⟩;have hbw:=hbr.trans (hb2.mono hws);clear hb2 k0 k1 k2 k3;by_cases hd:x.id < id
   ·have d1:decide (x.id - id < 0)=true:=decide_eq_true (by omega);have d2:x.id - id < 0:=by omega
    have HN:=zi (zta HS.out HX.out hd);clear hd hmi;go_wp2_with fail
    go_roundw
    case rel=>exact ⟨m + 1,b,by go_num,rfl,by omega,hbn,HN,HHI,hbw⟩
    case measure=>simp [intOf];omega
   ·have d1:decide (x.id - id < 0)=false:=decide_eq_false (by omega);have d2:¬ x.id - id < 0:=by omega
    have HN:=zi (zn4 (id:=id) HS.out HX.out (by omega));clear hd hmi;go_wp2_with fail
    go_roundw
    case rel=>exact ⟨a,m,rfl,rfl,by omega,by omega,HLO,HN,hbw⟩
    case measure=>simp [intOf];omega
  ·obtain rfl:b=a:=by omega
   have HP:=zi (zrL (by rw [HL.out];exact hbn) HLO.out HHI.out);by_cases hn1:b < n
   ·obtain ⟨bb,oo,x,rfl,hbB,hx,A2,c2,k0,k1,k2,k3,k4⟩:=zfZ (h.below (hbr.mono hB)) hn1;have hxid:=HID.out x (List.mem_of_getElem? hx);have hge:=HHI.out x (List.mem_iff_getElem?.2 ⟨0,by rw [List.getElem?_drop,Nat.add_zero];exact hx⟩);have HT:=zi (zrM HLO.out hx HS.out hge);have hi0:=HI.out;have x1:bb < wr.heap.size:=by omega
    clear hx;go_wp2_with fail
    refine (zn5 x _ _ _ id _ hxid hi0).mono ?_;rintro e w2 ⟨rfl,hb2⟩;have hbw:=hbr.trans (hb2.mono hws);clear hb2 k0 k1 k2 k3;by_cases hd:x.id=id
    ·have d1:(x.id - id == 0)=true:=by simp;omega
     have HT2:=zi (HT.out.trans (decide_eq_true hd));clear hd HT;go_wp2_with fail
     go_ret2
     exact ⟨zmw (by rw [HP.out]) HT2.out.symm,hbw⟩
    ·have d1:(x.id - id == 0)=false:=by simp;omega
     have HT2:=zi (HT.out.trans (decide_eq_false hd));clear hd HT;go_wp2_with fail
     go_ret2
     exact ⟨zmw (by rw [HP.out]) HT2.out.symm,hbw⟩
   ·have HT:=zi (zqj HLO.out (by rw [HL.out];omega));go_wp2_with fail
    go_ret2
    exact ⟨zmw (by rw [HP.out]) HT.out.symm,hbr⟩
set_option maxHeartbeats 1000000 in
theorem zdH (v:Vn) (A M:Option Addr) (c k:Nat) (id:Int) (B:Nat) (w:World) (h:RdL ze0 w B A v.accs.length c v.accs) (hB:B ≤ w.heap.size) (hs:zcO v.accs) (hid:∀ a ∈ v.accs,0 ≤ a.id∧a.id ≤ 7) (hi:0 ≤ id∧id ≤ 7) (hn:v.accs.length ≤ 8) :
  Calls Tryz.prog 68 #[.agg #[.slice A v.accs.length c,.slice M v.mks.length k,.int .i64 v.ins,.int .i64 v.resid,.int .i64 v.next,.int .i64 v.inn,.int .i64 v.out],.int .i64 id] w fun e w'=>e=.returned (.tuple #[.int .i64 (zam v.accs id),.bool (zas v.accs id)])∧Below w.heap.size w w':=by
 have HS:=zi hs;have HID:=zi hid;have HI:=zi hi;clear hs hid hi;go_enter Tryz.func68,Tryz.ntmps68
 go_wp2_with fail
 refine (znp _ _ _ _ _ B _ (h.alloc hB _) (by simp;omega) HS.out HID.out HI.out hn).mono ?_;rintro e w2 ⟨rfl,hb2⟩;go_wp2_with fail
 go_ret2
 exact ⟨rfl,((Below.refl _ _).alloc (zl _) _).trans (hb2.mono (by simp))⟩
end
section
open Go.RowKit
theorem zfB {P:Program} {t:TypeId} {fs:Array Field} (h:P.underlying t=some (.struct fs)):P.fieldsOf t=fs:=by unfold Program.fieldsOf;rw [h]
theorem zcc {P:Program} {t:TypeId} {k:IntKind} (h:P.underlying t=some (.int k)) (cs:Array Value) (off:Nat) (v:Value) (hv:cs[off]?=some v) (w:World):(part t cs off).run P w=.ok v w:=by
 simp [part,isAgg,run_underlying h,Result.andThen,hv]
theorem zlN {P:Program} {t:TypeId} (h:P.underlying t=some .bool) (cs:Array Value) (off:Nat) (v:Value) (hv:cs[off]?=some v) (w:World):(part t cs off).run P w=.ok v w:=by
 simp [part,isAgg,go_sem,run_underlying h,hv]
theorem zrN (a b:Od) (w:World):(Op.equalIn 9999 32 (.agg #[.int .i64 a.id,.int .i64 a.acc,.int .i64 a.side,.int .i64 a.price,.int .i64 a.qty]) (.agg #[.int .i64 b.id,.int .i64 b.acc,.int .i64 b.side,.int .i64 b.price,.int .i64 b.qty])).run Tryz.prog w=.ok (zhm.sameOdB a b) w:=by
 rw [run_equalIn_struct w 9998 _ _ _ (by rw [zfB Tryz.underlying32];exact Tryz.underlying32) (by kernel_rfl),zfB Tryz.underlying32];have hi:=Tryz.underlying3;have p0:∀ (x0 x1 x2 x3 x4:Int) w,(part 3 #[.int .i64 x0,.int .i64 x1,.int .i64 x2,.int .i64 x3,.int .i64 x4] 0).run Tryz.prog w=.ok (.int .i64 x0) w:=fun _ _ _ _ _ w=>zcc hi _ 0 _ rfl w;have p1:∀ (x0 x1 x2 x3 x4:Int) w,(part 3 #[.int .i64 x0,.int .i64 x1,.int .i64 x2,.int .i64 x3,.int .i64 x4] 1).run Tryz.prog w=.ok (.int .i64 x1) w:=fun _ _ _ _ _ w=>zcc hi _ 1 _ rfl w;have p2:∀ (x0 x1 x2 x3 x4:Int) w,(part 3 #[.int .i64 x0,.int .i64 x1,.int .i64 x2,.int .i64 x3,.int .i64 x4] 2).run Tryz.prog w=.ok (.int .i64 x2) w:=fun _ _ _ _ _ w=>zcc hi _ 2 _ rfl w;have p3:∀ (x0 x1 x2 x3 x4:Int) w,(part 3 #[.int .i64 x0,.int .i64 x1,.int .i64 x2,.int .i64 x3,.int .i64 x4] 3).run Tryz.prog w=.ok (.int .i64 x3) w:=fun _ _ _ _ _ w=>zcc hi _ 3 _ rfl w
 have p4:∀ (x0 x1 x2 x3 x4:Int) w,(part 3 #[.int .i64 x0,.int .i64 x1,.int .i64 x2,.int .i64 x3,.int .i64 x4] 4).run Tryz.prog w=.ok (.int .i64 x4) w:=fun _ _ _ _ _ w=>zcc hi _ 4 _ rfl w;have he:=fun (x y:Int) w=>run_equalIn_int w 9997 3 .i64 .i64 x y hi;simp only [Op.eqFields];rw [if_pos (by decide),if_pos (by decide),if_pos (by decide),if_pos (by decide),if_pos (by decide)];simp only [Sem.run_bind,p0,p1,p2,p3,p4,Result.andThen_ok,he,Sem.run_ite,Sem.run_pure];rw [show zhm.sameOdB a b=(a.id == b.id && (a.acc == b.acc && (a.side == b.side && (a.price == b.price && a.qty == b.qty)))) by unfold zhm.sameOdB;rw [Bool.eq_iff_iff];simp];obtain ⟨c_id,h_id⟩:∃ c,(a.id == b.id)=c:=⟨_,rfl⟩;obtain ⟨c_acc,h_acc⟩:∃ c,(a.acc == b.acc)=c:=⟨_,rfl⟩;obtain ⟨c_side,h_side⟩:∃ c,(a.side == b.side)=c:=⟨_,rfl⟩;obtain ⟨c_price,h_price⟩:∃ c,(a.price == b.price)=c:=⟨_,rfl⟩;obtain ⟨c_qty,h_qty⟩:∃ c,(a.qty == b.qty)=c:=⟨_,rfl⟩
 simp only [h_id,h_acc,h_side,h_price,h_qty];cases c_id <;> cases c_acc <;> cases c_side <;> cases c_price <;> cases c_qty <;> rfl
set_option maxRecDepth 100000 in
theorem ztb (a b:Cm) (w:World):(Op.equalIn 10000 34 (.agg #[.int .i64 a.kind,.int .i64 a.acc,.int .i64 a.market,.int .i64 a.n,.int .i64 a.o.id,.int .i64 a.o.acc,.int .i64 a.o.side,.int .i64 a.o.price,.int .i64 a.o.qty,.int .i64 a.how,.bool a.reduce]) (.agg #[.int .i64 b.kind,.int .i64 b.acc,.int .i64 b.market,.int .i64 b.n,.int .i64 b.o.id,.int .i64 b.o.acc,.int .i64 b.o.side,.int .i64 b.o.price,.int .i64 b.o.qty,.int .i64 b.how,.bool b.reduce])).run Tryz.prog w=.ok (eqCm a b) w:=by
 rw [run_equalIn_struct w 9999 _ _ _ (by rw [zfB Tryz.underlying34];exact Tryz.underlying34) (by kernel_rfl),zfB Tryz.underlying34];have hi:=Tryz.underlying3;have hb:=Tryz.underlying4;have p0:∀ (x0 x1 x2 x3 x4 x5 x6 x7 x8 x9:Int) (y:Bool) w,(part 3 #[.int .i64 x0,.int .i64 x1,.int .i64 x2,.int .i64 x3,.int .i64 x4,.int .i64 x5,.int .i64 x6,.int .i64 x7,.int .i64 x8,.int .i64 x9,.bool y] 0).run Tryz.prog w=.ok (.int .i64 x0) w:=fun _ _ _ _ _ _ _ _ _ _ _ w=>zcc hi _ 0 _ rfl w;have p1:∀ (x0 x1 x2 x3 x4 x5 x6 x7 x8 x9:Int) (y:Bool) w,(part 3 #[.int .i64 x0,.int .i64 x1,.int .i64 x2,.int .i64 x3,.int .i64 x4,.int .i64 x5,.int .i64 x6,.int .i64 x7,.int .i64 x8,.int .i64 x9,.bool y] 1).run Tryz.prog w=.ok (.int .i64 x1) w:=fun _ _ _ _ _ _ _ _ _ _ _ w=>zcc hi _ 1 _ rfl w;have p2:∀ (x0 x1 x2 x3 x4 x5 x6 x7 x8 x9:Int) (y:Bool) w,(part 3 #[.int .i64 x0,.int .i64 x1,.int .i64 x2,.int .i64 x3,.int .i64 x4,.int .i64 x5,.int .i64 x6,.int .i64 x7,.int .i64 x8,.int .i64 x9,.bool y] 2).run Tryz.prog w=.ok (.int .i64 x2) w:=fun _ _ _ _ _ _ _ _ _ _ _ w=>zcc hi _ 2 _ rfl w
 have p3:∀ (x0 x1 x2 x3 x4 x5 x6 x7 x8 x9:Int) (y:Bool) w,(part 3 #[.int .i64 x0,.int .i64 x1,.int .i64 x2,.int .i64 x3,.int .i64 x4,.int .i64 x5,.int .i64 x6,.int .i64 x7,.int .i64 x8,.int .i64 x9,.bool y] 3).run Tryz.prog w=.ok (.int .i64 x3) w:=fun _ _ _ _ _ _ _ _ _ _ _ w=>zcc hi _ 3 _ rfl w;have p9:∀ (x0 x1 x2 x3 x4 x5 x6 x7 x8 x9:Int) (y:Bool) w,(part 3 #[.int .i64 x0,.int .i64 x1,.int .i64 x2,.int .i64 x3,.int .i64 x4,.int .i64 x5,.int .i64 x6,.int .i64 x7,.int .i64 x8,.int .i64 x9,.bool y] 9).run Tryz.prog w=.ok (.int .i64 x9) w:=fun _ _ _ _ _ _ _ _ _ _ _ w=>zcc hi _ 9 _ rfl w;have pb:∀ (x0 x1 x2 x3 x4 x5 x6 x7 x8 x9:Int) (y:Bool) w,(part 4 #[.int .i64 x0,.int .i64 x1,.int .i64 x2,.int .i64 x3,.int .i64 x4,.int .i64 x5,.int .i64 x6,.int .i64 x7,.int .i64 x8,.int .i64 x9,.bool y] 10).run Tryz.prog w=.ok (.bool y) w:=fun _ _ _ _ _ _ _ _ _ _ _ w=>zlN hb _ 10 _ rfl w;have po:∀ (x0 x1 x2 x3 x4 x5 x6 x7 x8 x9:Int) (y:Bool) w,(part 32 #[.int .i64 x0,.int .i64 x1,.int .i64 x2,.int .i64 x3,.int .i64 x4,.int .i64 x5,.int .i64 x6,.int .i64 x7,.int .i64 x8,.int .i64 x9,.bool y] 4).run Tryz.prog w=.ok (.agg #[.int .i64 x4,.int .i64 x5,.int .i64 x6,.int .i64 x7,.int .i64 x8]) w:=fun x0 x1 x2 x3 x4 x5 x6 x7 x8 x9 y w=>by
  have hz:(sizeOf 32).run Tryz.prog w=.ok 5 w:=by kernel_rfl
  simp only [part,isAgg,Sem.run_bind,run_underlying Tryz.underlying32,Result.andThen_ok,Sem.run_pure,if_true,hz];rfl
 have he:=fun (x y:Int) w=>run_equalIn_int w 9998 3 .i64 .i64 x y hi;have heb:=fun (x y:Bool) w=>run_equalIn_bool' (w:=w) 9998 4 x y hb;have heo:=zrN a.o b.o;simp only [Op.eqFields];rw [if_pos (by decide),if_pos (by decide),if_pos (by decide),if_pos (by decide),if_pos (by decide),if_pos (by decide),if_pos (by decide)];simp only [Sem.run_bind,p0,p1,p2,p3,p9,pb,po,Result.andThen_ok,he,heb,heo,Sem.run_ite,Sem.run_pure];rw [show eqCm a b=(a.kind == b.kind && (a.acc == b.acc && (a.market == b.market && (a.n == b.n && (zhm.sameOdB a.o b.o && (a.how == b.how && a.reduce == b.reduce)))))) by unfold eqCm zhm.sameOdB;rw [Bool.eq_iff_iff];simp [and_assoc]];obtain ⟨c_kind,h_kind⟩:∃ c,(a.kind == b.kind)=c:=⟨_,rfl⟩;obtain ⟨c_acc,h_acc⟩:∃ c,(a.acc == b.acc)=c:=⟨_,rfl⟩;obtain ⟨c_market,h_market⟩:∃ c,(a.market == b.market)=c:=⟨_,rfl⟩;obtain ⟨c_n,h_n⟩:∃ c,(a.n == b.n)=c:=⟨_,rfl⟩;obtain ⟨c_how,h_how⟩:∃ c,(a.how == b.how)=c:=⟨_,rfl⟩
 obtain ⟨c_reduce,h_reduce⟩:∃ c,(a.reduce == b.reduce)=c:=⟨_,rfl⟩;obtain ⟨c_o,h_o⟩:∃ c,zhm.sameOdB a.o b.o=c:=⟨_,rfl⟩;simp only [h_kind,h_acc,h_market,h_n,h_how,h_reduce,h_o];cases c_kind <;> cases c_acc <;> cases c_market <;> cases c_n <;> cases c_how <;> cases c_reduce <;> cases c_o <;> rfl
theorem zdI (a b:Cm) (w:World):(binOp .neq 34 (.agg #[.int .i64 a.kind,.int .i64 a.acc,.int .i64 a.market,.int .i64 a.n,.int .i64 a.o.id,.int .i64 a.o.acc,.int .i64 a.o.side,.int .i64 a.o.price,.int .i64 a.o.qty,.int .i64 a.how,.bool a.reduce]) (.agg #[.int .i64 b.kind,.int .i64 b.acc,.int .i64 b.market,.int .i64 b.n,.int .i64 b.o.id,.int .i64 b.o.acc,.int .i64 b.o.side,.int .i64 b.o.price,.int .i64 b.o.qty,.int .i64 b.how,.bool b.reduce])).run Tryz.prog w=.ok (.bool (!eqCm a b)) w:=by
 rw [run_neq_struct,ztb];rfl
end
end Go.Proofs.YtockodmbhnlheaaGreatDoor
