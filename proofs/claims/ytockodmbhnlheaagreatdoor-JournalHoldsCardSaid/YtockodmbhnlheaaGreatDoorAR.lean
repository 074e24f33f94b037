import Derived.Test.YtockodmbhnlheaaGreatDoorAO
import Derived.Test.YtockodmbhnlheaaGreatDoorAJ
namespace Go.Proofs.YtockodmbhnlheaaGreatDoor
section
open Go.RowKit
theorem zn0 {L:List Od} {id:Int} {j:Nat} (h:(L.take j).all (fun y=>!zbj id y)=true):zfn L id=zfn (L.drop j) id:=by
 conv=>lhs;rw [← List.take_append_drop j L]
 unfold zfn;rw [List.find?_append,List.find?_eq_none.2 (fun y hy=>by
  rw [List.all_eq_true] at h;have:=h y hy;simp [zbj] at this;simpa using this)]
 rfl
theorem zqb {L:List Od} {id:Int} {j:Nat} {x:Od} (hx:L[j]?=some x) (hp:zbj id x=true) (h:(L.take j).all (fun y=>!zbj id y)=true):zfn L id=some x:=by
 rw [zn0 h];obtain ⟨h1,h2⟩:=List.getElem?_eq_some_iff.1 hx;rw [List.drop_eq_getElem_cons h1,h2];unfold zfn;rw [List.find?_cons_of_pos (by simpa [zbj] using hp)]
theorem zqc {L:List Od} {id:Int} (h:L.all (fun y=>!zbj id y)=true):zfn L id=none:=by
 have:=zn0 (L:=L) (id:=id) (j:=L.length) (by rw [List.take_length];exact h);rw [this,List.drop_length];rfl
def zn1 (w:World) (r:Od × Int) (e:Ending) (w':World):Prop:=e=.returned (.tuple #[.agg #[.int .i64 r.1.id,.int .i64 r.1.acc,.int .i64 r.1.side,.int .i64 r.1.price,.int .i64 r.1.qty],.int .i64 r.2])∧Below w.heap.size w w'
theorem zhP {w w':World} {r:Od × Int} {o:Od} {n:Int} (h:r=(o,n)) (hb:Below w.heap.size w w'):zn1 w r (.returned (.tuple #[.agg #[.int .i64 o.id,.int .i64 o.acc,.int .i64 o.side,.int .i64 o.price,.int .i64 o.qty],.int .i64 n])) w':=by subst h;exact ⟨rfl,hb⟩
theorem zaq {P:Program} {f:Func} {Q:Ending→World→Prop} {x:Exit} {a:Act} {W:World} (h:∀ Z,Z=W→bodyPost P f Q x a Z):bodyPost P f Q x a W:=h W rfl
theorem zak {P:Program} {f:Nat} {args:Array Value} {W:World} {R:Ending→World→Prop} (h:∀ Z,Z=W→Calls P f args Z R):Calls P f args W R:=h W rfl
set_option maxHeartbeats 2000000 in
set_option maxRecDepth 100000 in
theorem zs8 (b:Bk) (id:Int) (A A':Option Addr) (c c' B:Nat) (w:World) (h:BkR w B A A' c c' b) (hB:B ≤ w.heap.size) (hl:b.bids.length ≤ 4000000000000) (hl':b.asks.length ≤ 4000000000000) :
  Calls Tryz.prog 134 #[.agg #[.slice A b.bids.length c,.slice A' b.asks.length c'],.int .i64 id] w (zn1 w (zec b id)):=by
 have HE:=zi (show zec b id=if zav b ≠ 0 then (zbs,zav b) else match zfn (b.bids ++ b.asks) id with | some o=>(o,0) | none=>(zbs,5) from rfl);go_enter Tryz.func134,Tryz.ntmps134
 go_wp2_with fail
 obtain ⟨w2,hw2⟩:∃ x,x=(w.alloc (.cells #[.slice A b.bids.length c,.slice A' b.asks.length c'] 83)).alloc (.cells #[.int .i64 zbs.id,.int .i64 zbs.acc,.int .i64 zbs.side,.int .i64 zbs.price,.int .i64 zbs.qty] 32):=⟨_,rfl⟩;have hb2:Below w.heap.size w w2:=by rw [hw2];exact ((Below.refl _ _).alloc (zl _) _).alloc (by simp) _
 have hs2:w2.heap.size=w.heap.size + 1 + 1:=by rw [hw2];simp
 have X1:Blk w2 w.heap.size 83 #[.slice A b.bids.length c,.slice A' b.asks.length c']:=by rw [hw2];exact (Blk.new w _ _).alloc _
 have X2:Blk w2 (w.heap.size + 1) 32 #[.int .i64 zbs.id,.int .i64 zbs.acc,.int .i64 zbs.side,.int .i64 zbs.price,.int .i64 zbs.qty]:=by
  have:=Blk.new (w.alloc (.cells #[.slice A b.bids.length c,.slice A' b.asks.length c'] 83)) 32 #[.int .i64 zbs.id,.int .i64 zbs.acc,.int .i64 zbs.side,.int .i64 zbs.price,.int .i64 zbs.qty];rw [World.size_alloc] at this;rw [hw2];exact this
 simp only [zbs] at hw2;rw [← hw2];simp only [zbs] at X2;have hr:=h.below (hb2.mono hB);clear hw2;refine (zdv b A A' c c' B w2 hr.l hr.r (by omega) (by omega) (by omega)).mono ?_;rintro e w3 ⟨rfl,hb3⟩;have hs3:=hb3.size;obtain ⟨⟨kX10,kX11⟩,-⟩:=X1.c2;obtain ⟨⟨kX20,kX21,kX22,kX23,kX24⟩,fX20,fX21,fX22,fX23,fX24⟩:=X2.c5;clear kX10 kX11;replace X1:=X1.below hb3 X1.lt;obtain ⟨⟨kX10,kX11⟩,-⟩:=X1.c2;clear kX20 kX21 kX22 kX23 kX24 fX20 fX21 fX22 fX23 fX24;replace X2:=X2.below hb3 X2.lt;obtain ⟨⟨kX20,kX21,kX22,kX23,kX24⟩,fX20,fX21,fX22,fX23,fX24⟩:=X2.c5;have hbw3:=hb2.trans (hb3.mono (by omega));have hr3:=hr.below (hb3.mono (by omega));clear hb3 hr hb2;by_cases he:zav b=0
 rotate_left
 ·have HE1:=zi (HE.out.trans (if_pos he));have he':(zav b != 0)=true:=by simpa using he
  clear he HE;go_wp2_with fail
  refine bodyPost_ret (v:=.tuple #[.agg #[.int .i64 0,.int .i64 0,.int .i64 0,.int .i64 0,.int .i64 0],.int .i64 (zav b)]) (by simp [results,Tryz.results134,go_sem, *]) rfl ?_;exact zhP (o:=zbs) HE1.out (Below.setCell (Below.setCell (Below.setCell (Below.setCell (Below.setCell hbw3 (by dsimp only;omega) _) (by dsimp only;omega) _) (by dsimp only;omega) _) (by dsimp only;omega) _) (by dsimp only;omega) _)
 ·have HE1:=zi (HE.out.trans (if_neg (by omega)));have HBK:=zi (zb6.1 he);have hlen:=HBK.out.len;rw [he];clear he HE;go_wp2_with fail
  obtain ⟨w4,hw4⟩:∃ x,x=w3.alloc (.cells #[.slice A b.bids.length c,.slice A' b.asks.length c'] 81):=⟨_,rfl⟩;have hb4:Below w3.heap.size w3 w4:=by rw [hw4];exact (Below.refl _ _).alloc (zl _) _
  have hs4:w4.heap.size=w3.heap.size + 1:=by rw [hw4];simp
  have X3:Blk w4 w3.heap.size 81 #[.slice A b.bids.length c,.slice A' b.asks.length c']:=by rw [hw4];exact Blk.new w3 _ _
  rw [← hw4];have hr4:=hr3.below (hb4.mono (by omega));clear kX10 kX11;replace X1:=X1.below hb4 X1.lt;obtain ⟨⟨kX10,kX11⟩,-⟩:=X1.c2;clear kX20 kX21 kX22 kX23 kX24 fX20 fX21 fX22 fX23 fX24;replace X2:=X2.below hb4 X2.lt;obtain ⟨⟨kX20,kX21,kX22,kX23,kX24⟩,fX20,fX21,fX22,fX23,fX24⟩:=X2.c5;clear hw4 hr3;refine (zhB A A' b.bids.length c b.asks.length c' b.bids b.asks B w4 hr4.l hr4.r (by omega) w3.heap.size (by omega) X3.c2.1.1 X3.c2.1.2 (by omega)).mono ?_;rintro e w5 ⟨v,rfl,hown,hb5⟩;have hs5:=hb5.size;clear kX10 kX11;replace X1:=X1.below hb5 X1.lt;obtain ⟨⟨kX10,kX11⟩,-⟩:=X1.c2;clear kX20 kX21 kX22 kX23 kX24 fX20 fX21 fX22 fX23 fX24;replace X2:=X2.below hb5 X2.lt;obtain ⟨⟨kX20,kX21,kX22,kX23,kX24⟩,fX20,fX21,fX22,fX23,fX24⟩:=X2.c5;have hbw5:=(hbw3.trans (hb4.mono (by omega))).trans (hb5.mono (by omega));obtain ⟨A1,c1,rfl⟩:=zad hown;have hr5:=Rd.of_own hown;have hle5:=hr5.le;have hcap5:=hr5.cap
  have HL:=zi (zdW hr5);have HR5:=zi hr5;have HX2:=zi X2;clear hb4 hb5 X1 X3 hr4 hown hbw3 hr5 kX10 kX11 kX20 kX21 kX22 kX23 kX24 fX20 fX21 fX22 fX23 fX24 X2;unfold maxLen at hcap5;obtain ⟨n1,hn1⟩:∃ n,n=b.bids.length + b.asks.length:=⟨_,rfl⟩;rw [← hn1] at HR5 HL hle5;rw [← hn1];clear hn1;go_wp2_with fail
  go_loopw [22] (fun i wr=>∃ j:Nat,j ≤ n1∧i=.int .i64 j∧Below w5.heap.size w5 wr∧Hid (((b.bids ++ b.asks).take j).all (fun y=>!zbj id y)=true)) (fun i _=>n1 - (intOf i).toNat)
  case atStart=>exact ⟨0,Nat.zero_le _,rfl,Below.refl _ _,rfl⟩
  case round =>
   obtain ⟨j,hj,rfl,hbr,HP⟩:=hrel;have hws:=hbr.size;have X2:=HX2.out.below hbr HX2.out.lt;have hbwr:=hbw5.trans (hbr.mono (by omega));by_cases hlt:j < n1
   ·obtain ⟨bb,oo,x,rfl,hbb,hx,k0,k1,k2,k3,k4⟩:=zdU (HR5.out.below hbr) hlt;have x1:bb < wr.heap.size:=by omega
    have x2:w.heap.size + 1 < wr.heap.size:=by omega
    have HX:=zi hx;clear hx;obtain ⟨⟨kX20,kX21,kX22,kX23,kX24⟩,fX20,fX21,fX22,fX23,fX24⟩:=X2.c5;rcases (zcr (zbj id x)).symm with hp | hp
    ·have HF:=zi (show zec b id=(x,0) by rw [HE1.out,zqb HX.out hp HP.out]);have hp':(x.id == id)=true:=hp;clear hp;go_wp2_with fail
     refine zaq ?_;intro Z hZ;have XZ:Blk Z (w.heap.size + 1) 32 #[.int .i64 x.id,.int .i64 x.acc,.int .i64 x.side,.int .i64 x.price,.int .i64 x.qty]:=by rw [hZ];exact (((((X2.set_ 0 _).set_ 1 _).set_ 2 _).set_ 3 _).set_ 4 _).alloc _
     have hbZ:Below w.heap.size w Z:=by rw [hZ];exact (Below.setCell (Below.setCell (Below.setCell (Below.setCell (Below.setCell hbwr (by dsimp only;omega) _) (by dsimp only;omega) _) (by dsimp only;omega) _) (by dsimp only;omega) _) (by dsimp only;omega) _).alloc (by simp;omega) _
     clear hZ kX20 kX21 kX22 kX23 kX24 fX20 fX21 fX22 fX23 fX24 k0 k1 k2 k3 k4;obtain ⟨⟨kXZ0,kXZ1,kXZ2,kXZ3,kXZ4⟩,-⟩:=XZ.c5;refine bodyPost_ret (v:=.tuple #[.agg #[.int .i64 x.id,.int .i64 x.acc,.int .i64 x.side,.int .i64 x.price,.int .i64 x.qty],.int .i64 0]) (by simp [results,Tryz.results134,go_sem, *]) rfl ?_;exact zhP (o:=x) HF.out hbZ
    ·have HN:=zi (zgt (p:=zbj id) HX.out hp HP.out);have hp':(x.id == id)=false:=hp;clear hp;go_wp2_with fail
     go_roundw
     case rel=>exact ⟨j + 1,by omega,by go_num,hbr.alloc (by omega) _,HN⟩
     case measure=>simp [intOf];omega
   ·have hjn:j=n1:=by omega
    have HF:=zi (show zec b id=(zbs,5) by
     rw [HE1.out,zqc (by have:=HP.out;rw [hjn,List.take_of_length_le (by rw [HL.out];exact zl _)] at this;exact this)])
    clear hjn;obtain ⟨⟨kX20,kX21,kX22,kX23,kX24⟩,fX20,fX21,fX22,fX23,fX24⟩:=X2.c5;go_wp2_with fail
    refine bodyPost_ret (v:=.tuple #[.agg #[.int .i64 0,.int .i64 0,.int .i64 0,.int .i64 0,.int .i64 0],.int .i64 (5)]) (by simp [results,Tryz.results134,go_sem, *]) rfl ?_;exact zhP (o:=zbs) HF.out (Below.setCell (Below.setCell (Below.setCell (Below.setCell (Below.setCell hbwr (by dsimp only;omega) _) (by dsimp only;omega) _) (by dsimp only;omega) _) (by dsimp only;omega) _) (by dsimp only;omega) _)
end
section
open Go.RowKit
def zmt (w:World) (r:Bk × Od × Int) (e:Ending) (w':World):Prop:=∃ v,e=.returned (.tuple #[v,.agg #[.int .i64 r.2.1.id,.int .i64 r.2.1.acc,.int .i64 r.2.1.side,.int .i64 r.2.1.price,.int .i64 r.2.1.qty],.int .i64 r.2.2])∧OwnBk w' w.heap.size v r.1∧Below w.heap.size w w'
theorem zih {w w':World} {r:Bk × Od × Int} {b:Bk} {o:Od} {n:Int} {v:Value} (h:r=(b,o,n)) (ho:OwnBk w' w.heap.size v b) (hb:Below w.heap.size w w'):zmt w r (.returned (.tuple #[v,.agg #[.int .i64 o.id,.int .i64 o.acc,.int .i64 o.side,.int .i64 o.price,.int .i64 o.qty],.int .i64 n])) w':=by subst h;exact ⟨v,rfl,ho,hb⟩
theorem zqd (b:Bk) (id:Int):∃ o n,zec b id=(o,n)∧(n=0→BookOk b∧o ∈ b.bids ++ b.asks∧o.id=id):=by
 unfold zec;split
 ·rename_i h;exact ⟨_,_,rfl,fun h'=>absurd h' h⟩
 ·rename_i h;cases hf:zfn (b.bids ++ b.asks) id with
  | none=>exact ⟨_,_,rfl,fun h'=>by omega⟩
  | some o=>exact ⟨o,0,rfl,fun _=>⟨zb6.1 (by omega),zjx hf⟩⟩
theorem zjV (id:Int) (L:List Od):L.filter (fun y=>!zbj id y)=delO id L:=rfl
set_option maxHeartbeats 4000000 in
set_option maxRecDepth 100000 in
theorem zqe (b:Bk) (id:Int) (A A':Option Addr) (c c' B:Nat) (w:World) (h:BkR w B A A' c c' b) (hB:B ≤ w.heap.size) (hl:b.bids.length ≤ 4000000000000) (hl':b.asks.length ≤ 4000000000000) :
  Calls Tryz.prog 101 #[.agg #[.slice A b.bids.length c,.slice A' b.asks.length c'],.int .i64 id] w (zmt w (zbk b id)):=by
 obtain ⟨o,ef,hfind,hfok⟩:=zqd b id;have HFI:=zi hfind;have HFO:=zi hfok;have HE:=zi (show zbk b id=if ef ≠ 0 then (zaH,zbs,ef) else (zbI b o.side (delO id (zcn b o.side)),o,0) by unfold zbk;rw [hfind]);clear hfind hfok;go_enter Tryz.func101,Tryz.ntmps101
 go_wp2_with fail
 refine zak ?_;intro w2 hw2;have hb2:Below w.heap.size w w2:=by rw [hw2];exact ((((Below.refl _ _).alloc (zl _) _).alloc (by simp) _).alloc (by simp;omega) _).alloc (by simp;omega) _
 have hs2:w2.heap.size=w.heap.size + 1 + 1 + 1 + 1:=by rw [hw2];simp
 have X1:Blk w2 w.heap.size 83 #[.slice A b.bids.length c,.slice A' b.asks.length c']:=by rw [hw2];exact (((Blk.new w _ _).alloc _).alloc _).alloc _
 have X2:Blk w2 (w.heap.size + 1) 3 #[.int .i64 id]:=by rw [hw2];exact ((Blk.new_at _ _ _ _ (by simp)).alloc _).alloc _
 have X3:Blk w2 (w.heap.size + 1 + 1) 83 #[.slice none 0 0,.slice none 0 0]:=by rw [hw2];exact (Blk.new_at _ _ _ _ (by simp)).alloc _
 have X4:Blk w2 (w.heap.size + 1 + 1 + 1) 32 #[.int .i64 0,.int .i64 0,.int .i64 0,.int .i64 0,.int .i64 0]:=by rw [hw2];exact Blk.new_at _ _ _ _ (by simp)
 have hr:=h.below (hb2.mono hB);clear hw2;refine (zs8 b id A A' c c' B w2 hr (by omega) hl hl').mono ?_;rw [HFI.out];rintro e w3 ⟨rfl,hb3⟩;have hs3:=hb3.size;obtain ⟨⟨kX10,kX11⟩,-⟩:=X1.c2;clear kX10 kX11;replace X1:=X1.below hb3 X1.lt;obtain ⟨⟨kX10,kX11⟩,-⟩:=X1.c2;replace X2:=X2.below hb3 X2.lt;replace X3:=X3.below hb3 X3.lt;replace X4:=X4.below hb3 X4.lt;have hbw3:=hb2.trans (hb3.mono (by omega));have hr3:=hr.below (hb3.mono (by omega));clear hb3 hr hb2;by_cases he:ef=0
 rotate_left
 ·have HE1:=zi (HE.out.trans (if_pos he));have he':(ef != 0)=true:=by simpa using he
  obtain ⟨⟨kX30,kX31⟩,fX30,fX31⟩:=X3.c2;obtain ⟨⟨kX40,kX41,kX42,kX43,kX44⟩,fX40,fX41,fX42,fX43,fX44⟩:=X4.c5;have x3:w.heap.size + 1 + 1 < w3.heap.size:=by omega
  have x4:w.heap.size + 1 + 1 + 1 < w3.heap.size:=by omega
  have x0:w.heap.size + 1 + 1 + 1 + 1 ≤ w3.heap.size:=by omega
  clear he HE HFI HFO hs2 hs3 hr3;go_wp2_with fail
  refine zaq ?_;intro Z hZ;have XZ3:Blk Z (w.heap.size + 1 + 1) 83 #[.slice none 0 0,.slice none 0 0]:=by rw [hZ];exact (((((((X3.set_ 0 _).set_ 1 _).far (by simp) _).far (by simp) _).far (by simp) _).far (by simp) _).far (by simp) _).alloc _
  have XZ4:Blk Z (w.heap.size + 1 + 1 + 1) 32 #[.int .i64 0,.int .i64 0,.int .i64 0,.int .i64 0,.int .i64 0]:=by rw [hZ];exact (((((((X4.far (by simp) _).far (by simp) _).set_ 0 _).set_ 1 _).set_ 2 _).set_ 3 _).set_ 4 _).alloc _
  have hbZ:Below w.heap.size w Z:=by rw [hZ];exact (((((((hbw3.setCell (by dsimp only;omega) _).setCell (by dsimp only;omega) _).setCell (by dsimp only;omega) _).setCell (by dsimp only;omega) _).setCell (by dsimp only;omega) _).setCell (by dsimp only;omega) _).setCell (by dsimp only;omega) _).alloc (by simp;omega) _
  clear hZ kX30 kX31 fX30 fX31 kX40 kX41 kX42 kX43 kX44 fX40 fX41 fX42 fX43 fX44;obtain ⟨⟨kXZ30,kXZ31⟩,-⟩:=XZ3.c2;obtain ⟨⟨kXZ40,kXZ41,kXZ42,kXZ43,kXZ44⟩,-⟩:=XZ4.c5;refine bodyPost_ret (v:=.tuple #[.agg #[.slice none 0 0,.slice none 0 0],.agg #[.int .i64 0,.int .i64 0,.int .i64 0,.int .i64 0,.int .i64 0],.int .i64 ef]) (by simp [results,Tryz.results101,go_sem, *]) rfl ?_;exact zih (o:=zbs) HE1.out (zjO _ _) hbZ
 ·subst he;obtain ⟨hbk,hom,-⟩:=HFO.out rfl;have HE1:=zi (HE.out.trans (if_neg (by simp)));have HM:=zi (ziw hbk hom);have hlen:=hbk.len;clear hbk hom HE HFO;have hs3':w.heap.size + 1 + 1 + 1 + 1 ≤ w3.heap.size:=by omega
  have x1:w.heap.size < w3.heap.size:=by omega
  go_wp2_with fail
  refine zak ?_;intro w4 hw4;have hb4:Below w3.heap.size w3 w4:=by rw [hw4];exact (Below.refl _ _).alloc (zl _) _
  have hs4:w4.heap.size=w3.heap.size + 1:=by rw [hw4];simp
  have X5:Blk w4 w3.heap.size 32 #[.int .i64 o.id,.int .i64 o.acc,.int .i64 o.side,.int .i64 o.price,.int .i64 o.qty]:=by rw [hw4];exact Blk.new w3 _ _
  have X1':=X1.below hb4 X1.lt;have X2':=X2.below hb4 X2.lt;have X3':=X3.below hb4 X3.lt;have X4':=X4.below hb4 X4.lt;have hr4:=hr3.below (hb4.mono (by omega));have hbw4:=hbw3.trans (hb4.mono (by omega));clear hw4 X1 X2 X3 X4 kX10 kX11 hr3 hbw3 x1;refine (zhf b A A' c c' B w4 hr4 (by omega) (by omega) (by omega)).mono ?_;rintro e w5 ⟨v1,v2,rfl,hv1,hv2,hd12,hb5⟩;obtain ⟨P1,p1,rfl⟩:=zad hv1;obtain ⟨P2,p2,rfl⟩:=zad hv2;have hs5:=hb5.size;have hbw5:=hbw4.trans (hb5.mono (by omega));have X1:=X1'.below hb5 X1'.lt;have X2:=X2'.below hb5 X2'.lt;have X3:=X3'.below hb5 X3'.lt;have X4:=X4'.below hb5 X4'.lt;replace X5:=X5.below hb5 X5.lt;clear X1' X2' X3' X4' hr4 hbw4 hb4;obtain ⟨⟨kX10,kX11⟩,fX10,fX11⟩:=X1.c2;obtain ⟨⟨kX50,kX51,kX52,kX53,kX54⟩,-⟩:=X5.c5;clear hb5;go_wp2_with fail
  refine zak ?_;intro w6 hw6;have hs6:w6.heap.size=w5.heap.size:=by rw [hw6];simp
  have hbw6:Below w.heap.size w w6:=by rw [hw6];exact (hbw5.setCell (zl _) _).setCell (zl _) _
  have Y1:Blk w6 w.heap.size 83 #[.slice P1 b.bids.length p1,.slice P2 b.asks.length p2]:=by rw [hw6];exact (X1.set_ 0 _).set_ 1 _
  have Y2:Blk w6 (w.heap.size + 1) 3 #[.int .i64 id]:=by rw [hw6];exact (X2.far (by simp) _).far (by simp) _
  have Y3:Blk w6 (w.heap.size + 1 + 1) 83 #[.slice none 0 0,.slice none 0 0]:=by rw [hw6];exact (X3.far (by simp;omega) _).far (by simp;omega) _
  have Y4:Blk w6 (w.heap.size + 1 + 1 + 1) 32 #[.int .i64 0,.int .i64 0,.int .i64 0,.int .i64 0,.int .i64 0]:=by rw [hw6];exact (X4.far (by simp;omega) _).far (by simp;omega) _
  have Y5:Blk w6 w3.heap.size 32 #[.int .i64 o.id,.int .i64 o.acc,.int .i64 o.side,.int .i64 o.price,.int .i64 o.qty]:=by rw [hw6];exact (X5.far (by simp;omega) _).far (by simp;omega) _
  have R1:w6.ownsRow w4.heap.size 32 5 (.slice P1 b.bids.length p1) b.bids.length (zaa b.bids):=by rw [hw6];exact ownsRow_setCell_below (ownsRow_setCell_below hv1 (by dsimp only;omega) _) (by dsimp only;omega) _
  have R2:w6.ownsRow w4.heap.size 32 5 (.slice P2 b.asks.length p2) b.asks.length (zaa b.asks):=by rw [hw6];exact ownsRow_setCell_below (ownsRow_setCell_below hv2 (by dsimp only;omega) _) (by dsimp only;omega) _
  clear hw6 hv1 hv2 X1 X2 X3 X4 X5 kX10 kX11 fX10 fX11 kX50 kX51 kX52 kX53 kX54 hbw5;have HX:=zi (zk8 o b);obtain ⟨⟨m0,m1⟩,-⟩:=Y1.c2;by_cases hsd:o.side=1
  ·have hs1:(o.side == 1)=true:=by simpa using hsd
   have HY:=zi (HX.out.1 hsd);clear hsd HX;refine (zkx w.heap.size o.side w6 _ _ m0 m1 hs1).mono ?_;rintro e w7 ⟨rfl,hw7⟩;have hs7:w7.heap.size=w6.heap.size:=by rw [hw7];rfl
   have V1:Blk w7 w.heap.size 83 #[.slice P1 b.bids.length p1,.slice P2 b.asks.length p2]:=by rw [hw7];exact Y1
   have V2:Blk w7 (w.heap.size + 1) 3 #[.int .i64 id]:=by rw [hw7];exact Y2
   have V3:Blk w7 (w.heap.size + 1 + 1) 83 #[.slice none 0 0,.slice none 0 0]:=by rw [hw7];exact Y3
   have V4:Blk w7 (w.heap.size + 1 + 1 + 1) 32 #[.int .i64 0,.int .i64 0,.int .i64 0,.int .i64 0,.int .i64 0]:=by rw [hw7];exact Y4
   have V5:Blk w7 w3.heap.size 32 #[.int .i64 o.id,.int .i64 o.acc,.int .i64 o.side,.int .i64 o.price,.int .i64 o.qty]:=by rw [hw7];exact Y5
   replace R1:w7.ownsRow w4.heap.size 32 5 (.slice P1 b.bids.length p1) b.bids.length (zaa b.bids):=by rw [hw7];exact zaz R1 1
   replace R2:w7.ownsRow w4.heap.size 32 5 (.slice P2 b.asks.length p2) b.asks.length (zaa b.asks):=by rw [hw7];exact zaz R2 1
   have hbw7:Below w.heap.size w w7:=by rw [hw7];exact zac hbw6 1
   clear hw7 m0 m1 Y1 Y2 Y3 Y4 Y5 hbw6;obtain ⟨n1,hn1⟩:∃ n,n=b.bids.length:=⟨_,rfl⟩;obtain ⟨n2,hn2⟩:∃ n,n=b.asks.length:=⟨_,rfl⟩;rw [← hn1] at R1 hd12;rw [← hn2] at R2 hd12;rw [← hn1,← hn2] at V1;rw [← hn1,← hn2];clear hn1 hn2;obtain ⟨⟨kV10,kV11⟩,fV10,fV11⟩:=V1.c2;have kV20:=V2.cell 0;have HR:=zi R1;have HRx:=zi R2;have HD12:=zi hd12;clear hd12;go_wp2_with fail
   refine (zgd w4.heap.size (.slice P1 n1 p1) n1 (b.bids) id (w.heap.size + 1) _ HR.out (by omega) (by omega) (fun e=>by have:=(World.ownsRow.lt HR.out _ e).1;omega) kV20).mono ?_;rintro e w8 ⟨v',rfl,hown',hbk',hbl',honly'⟩;rw [zjV] at hown';obtain ⟨PN,pN,rfl⟩:=zad hown';have hs8:=hbl'.size;have HRN:=zi hown';have HRX:=zi (zaO HRx.out honly' (fun g h e=>HD12.out _ e h));have hbw8:=hbw7.trans (hbl'.mono (by omega));have U1:=V1.below hbl' (by omega);have U3:=V3.below hbl' (by omega);have U4:=V4.below hbl' (by omega);have U5:=V5.below hbl' (by omega);clear hown' hbk' honly' hbl' V1 V2 V3 V4 V5 R1 R2 HR HRx hbw7 kV10 kV11 fV10 fV11 kV20;obtain ⟨⟨kU10,kU11⟩,fU10,fU11⟩:=U1.c2;go_wp2_with fail
   obtain ⟨w9,hw9⟩:∃ x,x=w8.setCell ⟨w.heap.size,0,none⟩ (.slice PN (delO id (b.bids)).length pN):=⟨_,rfl⟩;rw [← hw9];have Z1:Blk w9 w.heap.size 83 #[(.slice PN (delO id b.bids).length pN),(.slice P2 n2 p2)]:=by rw [hw9];exact U1.set_ 0 _
   have Z3:Blk w9 (w.heap.size + 1 + 1) 83 #[.slice none 0 0,.slice none 0 0]:=by rw [hw9];exact U3.far (by simp;omega) _
   have Z4:Blk w9 (w.heap.size + 1 + 1 + 1) 32 #[.int .i64 0,.int .i64 0,.int .i64 0,.int .i64 0,.int .i64 0]:=by rw [hw9];exact U4.far (by simp;omega) _
   have Z5:Blk w9 w3.heap.size 32 #[.int .i64 o.id,.int .i64 o.acc,.int .i64 o.side,.int .i64 o.price,.int .i64 o.qty]:=by rw [hw9];exact U5.far (by simp;omega) _
   have hbw9:Below w.heap.size w w9:=by rw [hw9];exact hbw8.setCell (zl _) _
   have HR0:=zi (show w9.ownsRow w4.heap.size 32 5 (.slice PN (delO id (b.bids)).length pN) (delO id (b.bids)).length (zaa (delO id (b.bids))) by rw [hw9];exact ownsRow_setCell_below HRN.out (by dsimp only;omega) _);have HR1:=zi (show w9.ownsRow w4.heap.size 32 5 (.slice P2 n2 p2) _ _ by rw [hw9];exact ownsRow_setCell_below HRX.out (by dsimp only;omega) _);clear hw9 U1 U3 U4 U5 kU10 kU11 fU10 fU11 HRN HRX hbw8;obtain ⟨⟨kZ10,kZ11⟩,-⟩:=Z1.c2;obtain ⟨⟨kZ30,kZ31⟩,fZ30,fZ31⟩:=Z3.c2;obtain ⟨⟨kZ40,kZ41,kZ42,kZ43,kZ44⟩,fZ40,fZ41,fZ42,fZ43,fZ44⟩:=Z4.c5;obtain ⟨⟨kZ50,kZ51,kZ52,kZ53,kZ54⟩,-⟩:=Z5.c5;have hz3:¬ (w.heap.size + 1 + 1=w3.heap.size):=by omega
   have hz4:¬ (w.heap.size + 1 + 1 + 1=w3.heap.size):=by omega
   go_region
   go_wp2_with fail
   refine zaq ?_;intro Z hZ;have XZ3:Blk Z (w.heap.size + 1 + 1) 83 #[(.slice PN (delO id b.bids).length pN),(.slice P2 n2 p2)]:=by rw [hZ];exact (((((((Z3.set_ 0 _).set_ 1 _).far (by simp) _).far (by simp) _).far (by simp) _).far (by simp) _).far (by simp) _).drewN 1
   have XZ4:Blk Z (w.heap.size + 1 + 1 + 1) 32 #[.int .i64 o.id,.int .i64 o.acc,.int .i64 o.side,.int .i64 o.price,.int .i64 o.qty]:=by rw [hZ];exact (((((((Z4.far (by simp) _).far (by simp) _).set_ 0 _).set_ 1 _).set_ 2 _).set_ 3 _).set_ 4 _).drewN 1
   have hbZ:Below w.heap.size w Z:=by rw [hZ];exact zac (((((((hbw9.setCell (by dsimp only;omega) _).setCell (by dsimp only;omega) _).setCell (by dsimp only;omega) _).setCell (by dsimp only;omega) _).setCell (by dsimp only;omega) _).setCell (by dsimp only;omega) _).setCell (by dsimp only;omega) _) 1
   have hown:∀ {v:Value} {n:Nat} {xs:List Value},w9.ownsRow w4.heap.size 32 5 v n xs→Z.ownsRow w.heap.size 32 5 v n xs:=by
    intro v n xs hv;rw [hZ];exact zae (zaz (ownsRow_setCell_below (ownsRow_setCell_below (ownsRow_setCell_below (ownsRow_setCell_below (ownsRow_setCell_below (ownsRow_setCell_below (ownsRow_setCell_below hv (by dsimp only;omega) _) (by dsimp only;omega) _) (by dsimp only;omega) _) (by dsimp only;omega) _) (by dsimp only;omega) _) (by dsimp only;omega) _) (by dsimp only;omega) _) 1) (by omega)
   clear hZ kZ10 kZ11 kZ30 kZ31 fZ30 fZ31 kZ40 kZ41 kZ42 kZ43 kZ44 fZ40 fZ41 fZ42 fZ43 fZ44 kZ50 kZ51 kZ52 kZ53 kZ54 hz3 hz4;obtain ⟨⟨kXZ30,kXZ31⟩,-⟩:=XZ3.c2;obtain ⟨⟨kXZ40,kXZ41,kXZ42,kXZ43,kXZ44⟩,-⟩:=XZ4.c5;refine bodyPost_ret (v:=.tuple #[.agg #[(.slice PN (delO id b.bids).length pN),(.slice P2 n2 p2)],.agg #[.int .i64 o.id,.int .i64 o.acc,.int .i64 o.side,.int .i64 o.price,.int .i64 o.qty],.int .i64 0]) (by simp [results,Tryz.results101,go_sem, *]) rfl ?_;refine zih (o:=o) (b:=mkB b (delO id (b.bids))) ?_ (zdP (hown HR0.out) (hown HR1.out)) hbZ;rw [HE1.out,HY.out.2.1,HY.out.2.2]
  ·have hs1:(o.side == 1)=false:=by simpa using hsd
   have HY:=zi (HX.out.2 hsd);clear hsd HX;refine (zko w.heap.size o.side w6 _ _ m0 m1 hs1).mono ?_;rintro e w7 ⟨rfl,hw7⟩;have hs7:w7.heap.size=w6.heap.size:=by rw [hw7];rfl
   have V1:Blk w7 w.heap.size 83 #[.slice P1 b.bids.length p1,.slice P2 b.asks.length p2]:=by rw [hw7];exact Y1
   have V2:Blk w7 (w.heap.size + 1) 3 #[.int .i64 id]:=by rw [hw7];exact Y2
   have V3:Blk w7 (w.heap.size + 1 + 1) 83 #[.slice none 0 0,.slice none 0 0]:=by rw [hw7];exact Y3
   have V4:Blk w7 (w.heap.size + 1 + 1 + 1) 32 #[.int .i64 0,.int .i64 0,.int .i64 0,.int .i64 0,.int .i64 0]:=by rw [hw7];exact Y4
   have V5:Blk w7 w3.heap.size 32 #[.int .i64 o.id,.int .i64 o.acc,.int .i64 o.side,.int .i64 o.price,.int .i64 o.qty]:=by rw [hw7];exact Y5
   replace R1:w7.ownsRow w4.heap.size 32 5 (.slice P1 b.bids.length p1) b.bids.length (zaa b.bids):=by rw [hw7];exact zaz R1 1
   replace R2:w7.ownsRow w4.heap.size 32 5 (.slice P2 b.asks.length p2) b.asks.length (zaa b.asks):=by rw [hw7];exact zaz R2 1
   have hbw7:Below w.heap.size w w7:=by rw [hw7];exact zac hbw6 1
   clear hw7 m0 m1 Y1 Y2 Y3 Y4 Y5 hbw6;obtain ⟨n1,hn1⟩:∃ n,n=b.bids.length:=⟨_,rfl⟩;obtain ⟨n2,hn2⟩:∃ n,n=b.asks.length:=⟨_,rfl⟩;rw [← hn1] at R1 hd12;rw [← hn2] at R2 hd12;rw [← hn1,← hn2] at V1;rw [← hn1,← hn2];clear hn1 hn2;obtain ⟨⟨kV10,kV11⟩,fV10,fV11⟩:=V1.c2;have kV20:=V2.cell 0;have HR:=zi R2;have HRx:=zi R1;have HD12:=zi hd12;clear hd12;go_wp2_with fail
   refine (zgd w4.heap.size (.slice P2 n2 p2) n2 (b.asks) id (w.heap.size + 1) _ HR.out (by omega) (by omega) (fun e=>by have:=(World.ownsRow.lt HR.out _ e).1;omega) kV20).mono ?_;rintro e w8 ⟨v',rfl,hown',hbk',hbl',honly'⟩;rw [zjV] at hown';obtain ⟨PN,pN,rfl⟩:=zad hown';have hs8:=hbl'.size;have HRN:=zi hown';have HRX:=zi (zaO HRx.out honly' (fun g h e=>HD12.out _ h e));have hbw8:=hbw7.trans (hbl'.mono (by omega));have U1:=V1.below hbl' (by omega);have U3:=V3.below hbl' (by omega);have U4:=V4.below hbl' (by omega);have U5:=V5.below hbl' (by omega);clear hown' hbk' honly' hbl' V1 V2 V3 V4 V5 R1 R2 HR HRx hbw7 kV10 kV11 fV10 fV11 kV20;obtain ⟨⟨kU10,kU11⟩,fU10,fU11⟩:=U1.c2;go_wp2_with fail
   obtain ⟨w9,hw9⟩:∃ x,x=w8.setCell ⟨w.heap.size,1,none⟩ (.slice PN (delO id (b.asks)).length pN):=⟨_,rfl⟩;rw [← hw9];have Z1:Blk w9 w.heap.size 83 #[(.slice P1 n1 p1),(.slice PN (delO id b.asks).length pN)]:=by rw [hw9];exact U1.set_ 1 _
   have Z3:Blk w9 (w.heap.size + 1 + 1) 83 #[.slice none 0 0,.slice none 0 0]:=by rw [hw9];exact U3.far (by simp;omega) _
   have Z4:Blk w9 (w.heap.size + 1 + 1 + 1) 32 #[.int .i64 0,.int .i64 0,.int .i64 0,.int .i64 0,.int .i64 0]:=by rw [hw9];exact U4.far (by simp;omega) _
   have Z5:Blk w9 w3.heap.size 32 #[.int .i64 o.id,.int .i64 o.acc,.int .i64 o.side,.int .i64 o.price,.int .i64 o.qty]:=by rw [hw9];exact U5.far (by simp;omega) _
   have hbw9:Below w.heap.size w w9:=by rw [hw9];exact hbw8.setCell (zl _) _
   have HR0:=zi (show w9.ownsRow w4.heap.size 32 5 (.slice PN (delO id (b.asks)).length pN) (delO id (b.asks)).length (zaa (delO id (b.asks))) by rw [hw9];exact ownsRow_setCell_below HRN.out (by dsimp only;omega) _);have HR1:=zi (show w9.ownsRow w4.heap.size 32 5 (.slice P1 n1 p1) _ _ by rw [hw9];exact ownsRow_setCell_below HRX.out (by dsimp only;omega) _);clear hw9 U1 U3 U4 U5 kU10 kU11 fU10 fU11 HRN HRX hbw8;obtain ⟨⟨kZ10,kZ11⟩,-⟩:=Z1.c2;obtain ⟨⟨kZ30,kZ31⟩,fZ30,fZ31⟩:=Z3.c2;obtain ⟨⟨kZ40,kZ41,kZ42,kZ43,kZ44⟩,fZ40,fZ41,fZ42,fZ43,fZ44⟩:=Z4.c5;obtain ⟨⟨kZ50,kZ51,kZ52,kZ53,kZ54⟩,-⟩:=Z5.c5;have hz3:¬ (w.heap.size + 1 + 1=w3.heap.size):=by omega
   have hz4:¬ (w.heap.size + 1 + 1 + 1=w3.heap.size):=by omega
   go_region
   go_wp2_with fail
   refine zaq ?_;intro Z hZ;have XZ3:Blk Z (w.heap.size + 1 + 1) 83 #[(.slice P1 n1 p1),(.slice PN (delO id b.asks).length pN)]:=by rw [hZ];exact (((((((Z3.set_ 0 _).set_ 1 _).far (by simp) _).far (by simp) _).far (by simp) _).far (by simp) _).far (by simp) _).drewN 1
   have XZ4:Blk Z (w.heap.size + 1 + 1 + 1) 32 #[.int .i64 o.id,.int .i64 o.acc,.int .i64 o.side,.int .i64 o.price,.int .i64 o.qty]:=by rw [hZ];exact (((((((Z4.far (by simp) _).far (by simp) _).set_ 0 _).set_ 1 _).set_ 2 _).set_ 3 _).set_ 4 _).drewN 1
   have hbZ:Below w.heap.size w Z:=by rw [hZ];exact zac (((((((hbw9.setCell (by dsimp only;omega) _).setCell (by dsimp only;omega) _).setCell (by dsimp only;omega) _).setCell (by dsimp only;omega) _).setCell (by dsimp only;omega) _).setCell (by dsimp only;omega) _).setCell (by dsimp only;omega) _) 1
   have hown:∀ {v:Value} {n:Nat} {xs:List Value},w9.ownsRow w4.heap.size 32 5 v n xs→Z.ownsRow w.heap.size 32 5 v n xs:=by
    intro v n xs hv;rw [hZ];exact zae (zaz (ownsRow_setCell_below (ownsRow_setCell_below (ownsRow_setCell_below (ownsRow_setCell_below (ownsRow_setCell_below (ownsRow_setCell_below (ownsRow_setCell_below hv (by dsimp only;omega) _) (by dsimp only;omega) _) (by dsimp only;omega) _) (by dsimp only;omega) _) (by dsimp only;omega) _) (by dsimp only;omega) _) (by dsimp only;omega) _) 1) (by omega)
   clear hZ kZ10 kZ11 kZ30 kZ31 fZ30 fZ31 kZ40 kZ41 kZ42 kZ43 kZ44 fZ40 fZ41 fZ42 fZ43 fZ44 kZ50 kZ51 kZ52 kZ53 kZ54 hz3 hz4;obtain ⟨⟨kXZ30,kXZ31⟩,-⟩:=XZ3.c2;obtain ⟨⟨kXZ40,kXZ41,kXZ42,kXZ43,kXZ44⟩,-⟩:=XZ4.c5;refine bodyPost_ret (v:=.tuple #[.agg #[(.slice P1 n1 p1),(.slice PN (delO id b.asks).length pN)],.agg #[.int .i64 o.id,.int .i64 o.acc,.int .i64 o.side,.int .i64 o.price,.int .i64 o.qty],.int .i64 0]) (by simp [results,Tryz.results101,go_sem, *]) rfl ?_;refine zih (o:=o) (b:=mkA b (delO id (b.asks))) ?_ (zdP (hown HR1.out) (hown HR0.out)) hbZ;rw [HE1.out,HY.out.2.1,HY.out.2.2]
end
section
open Go.RowKit
structure OBk (w:World) (base:Nat) (A A':Option Addr) (c c':Nat) (b:Bk):Prop where
 l:w.ownsRow base 32 5 (.slice A b.bids.length c) b.bids.length (zaa b.bids)
 r:w.ownsRow base 32 5 (.slice A' b.asks.length c') b.asks.length (zaa b.asks)
theorem OwnBk.obk {w:World} {base:Nat} {v:Value} {b:Bk} (h:OwnBk w base v b):∃ A c A' c',v=.agg #[.slice A b.bids.length c,.slice A' b.asks.length c']∧OBk w base A A' c c' b:=by
 obtain ⟨A,c,A',c',rfl,h1,h2⟩:=h;exact ⟨A,c,A',c',rfl,h1,h2⟩
theorem OBk.read {w:World} {base:Nat} {A A':Option Addr} {c c':Nat} {b:Bk} (h:OBk w base A A' c c' b):BkR w w.heap.size A A' c c' b:=⟨Rd.of_own h.l,Rd.of_own h.r⟩
theorem OBk.set {w:World} {base:Nat} {A A':Option Addr} {c c':Nat} {b:Bk} (h:OBk w base A A' c c' b) {a:Addr} (ha:a.block < base) (u:Value):OBk (w.setCell a u) base A A' c c' b:=⟨ownsRow_setCell_below h.l ha u,ownsRow_setCell_below h.r ha u⟩
theorem OBk.below {w w1:World} {base B:Nat} {A A':Option Addr} {c c':Nat} {b:Bk} (h:OBk w base A A' c c' b) (hb:Below B w w1) (hB:w.heap.size ≤ B):OBk w1 base A A' c c' b:=⟨zaf h.l hb hB,zaf h.r hb hB⟩
theorem OBk.alloc {w:World} {base:Nat} {A A':Option Addr} {c c':Nat} {b:Bk} (h:OBk w base A A' c c' b) (o:Obj):OBk (w.alloc o) base A A' c c' b:=⟨World.ownsRow.alloc h.l o,World.ownsRow.alloc h.r o⟩
theorem OBk.drewN {w:World} {base:Nat} {A A':Option Addr} {c c':Nat} {b:Bk} (h:OBk w base A A' c c' b) (q:Nat):OBk (w.drewN q) base A A' c c' b:=⟨zaz h.l q,zaz h.r q⟩
end
section
open Go.RowKit
def zaJ:List Fl→List Value
 | []=>[]
 | f :: l=>.int .i64 f.maker :: .int .i64 f.taker :: .int .i64 f.macc :: .int .i64 f.tacc :: .int .i64 f.side :: .int .i64 f.price :: .int .i64 f.qty :: zaJ l
theorem ziX:∀ L,(zaJ L).length=L.length * 7
 | []=>rfl
 | o :: l=>by simp only [zaJ,List.length_cons,ziX l];omega
theorem zdQ (M:List Fl):∀ L,zaJ (L ++ M)=zaJ L ++ zaJ M
 | []=>rfl
 | o :: l=>by simp only [List.cons_append,zaJ,zdQ M l]
theorem zdR:∀ (L:List Fl),∀ u ∈ zaJ L,u.oneCell'=true
 | []=>by simp [zaJ]
 | o :: l=>by
  intro u hu;simp only [zaJ,List.mem_cons] at hu;rcases hu with rfl | rfl | rfl | rfl | rfl | rfl | rfl | hu
  ·rfl
  ·rfl
  ·rfl
  ·rfl
  ·rfl
  ·rfl
  ·rfl
  ·exact zdR l u hu
theorem zjW:∀ {L:List Fl} {i:Nat} {a:Fl},L[i]?=some a →
  (zaJ L)[i * 7]?=some (.int .i64 a.maker)∧(zaJ L)[i * 7 + 1]?=some (.int .i64 a.taker)∧(zaJ L)[i * 7 + 2]?=some (.int .i64 a.macc)∧(zaJ L)[i * 7 + 3]?=some (.int .i64 a.tacc)∧(zaJ L)[i * 7 + 4]?=some (.int .i64 a.side)∧(zaJ L)[i * 7 + 5]?=some (.int .i64 a.price)∧(zaJ L)[i * 7 + 6]?=some (.int .i64 a.qty)
 | [],_,_,h=>by simp at h
 | o :: l,0,a,h=>by
  simp only [List.getElem?_cons_zero,Option.some.injEq] at h;subst h;exact ⟨rfl,rfl,rfl,rfl,rfl,rfl,rfl⟩
 | o :: l,i + 1,a,h=>by
  simp only [List.getElem?_cons_succ] at h;obtain ⟨h0,h1,h2,h3,h4,h5,h6⟩:=zjW h;have e:∀ k,(i + 1) * 7 + k=i * 7 + k + 1 + 1 + 1 + 1 + 1 + 1 + 1:=by intro k;omega
  refine ⟨?_,?_,?_,?_,?_,?_,?_⟩
  ·rw [show (i + 1) * 7=i * 7 + 1 + 1 + 1 + 1 + 1 + 1 + 1 by omega];exact h0
  ·rw [e];exact h1
  ·rw [e];exact h2
  ·rw [e];exact h3
  ·rw [e];exact h4
  ·rw [e];exact h5
  ·rw [e];exact h6
theorem zs9 {w:World} {B n c:Nat} {A:Option Addr} {L:List Fl} (h:Rd w B 7 A n c (zaJ L)):L.length=n:=by have:=h.len;rw [ziX] at this;omega
theorem zoM {w:World} {B n c:Nat} {A:Option Addr} {L:List Fl} (h:Rd w B 7 A n c (zaJ L)) {i:Nat} (hi:i < n):∃ b o a,A=some ⟨b,o,none⟩∧b < B∧L[i]?=some a ∧
  w.cell? ⟨b,o + i * 7,none⟩=some (.int .i64 a.maker)∧w.cell? ⟨b,o + i * 7 + 1,none⟩=some (.int .i64 a.taker)∧w.cell? ⟨b,o + i * 7 + 2,none⟩=some (.int .i64 a.macc) ∧
   w.cell? ⟨b,o + i * 7 + 3,none⟩=some (.int .i64 a.tacc)∧w.cell? ⟨b,o + i * 7 + 4,none⟩=some (.int .i64 a.side)∧w.cell? ⟨b,o + i * 7 + 5,none⟩=some (.int .i64 a.price)∧w.cell? ⟨b,o + i * 7 + 6,none⟩=some (.int .i64 a.qty):=by
 have hl:=zs9 h;obtain ⟨b,o,e,hb,hc⟩:=h.at_ (by omega);have ha:L[i]?=some L[i]:=List.getElem?_eq_getElem (by omega);obtain ⟨h0,h1,h2,h3,h4,h5,h6⟩:=zjW ha;refine ⟨b,o,_,e,hb,ha,hc _ _ h0,?_,?_,?_,?_,?_,?_⟩
 ·rw [Nat.add_assoc];exact hc _ _ h1
 ·rw [Nat.add_assoc];exact hc _ _ h2
 ·rw [Nat.add_assoc];exact hc _ _ h3
 ·rw [Nat.add_assoc];exact hc _ _ h4
 ·rw [Nat.add_assoc];exact hc _ _ h5
 ·rw [Nat.add_assoc];exact hc _ _ h6
theorem zgq:Elem Tryz.prog 154 55 7 56:=zei Tryz.underlying154 (by kernel_rfl) (by decide)
theorem zdq {P:Program} {ops:Array Oper} {o:Oper} {a:Act} {w:World} {K:Act→World→Prop} {Q:Exit→Act→World→Prop} {X:Prop} (hgd:o.guard=none) (s x:Operand) (t:TypeId)
  (ho:o.op=.call { callee:=.builtin .append,args:=#[s,x],argTypes:=#[t,t] })
  (base e k bytes:Nat) (E:Elem P t e k bytes) (v:Value) (n:Nat) (xs:List Value) (hs:a.eval s=v) (hown:w.ownsRow base e k v n xs)
  (B:Nat) (A:Option Addr) (m c:Nat) (news:List Value) (hx:a.eval x=.slice A m c) (hr:Rd w B k A m c news) (h1:∀ u ∈ news,u.oneCell'=true)
  (hlen:n + m ≤ maxLen) (hbytes:(n + m) * bytes ≤ 140737488355328) (hbase:base ≤ w.heap.size)
  (h:∀ v' w',w'.ownsRow base e k v' (n + m) (xs ++ news)→Below base w w'→w.grownBy w' v.ownBlock→(v'.ownBlock=v.ownBlock∨v'.ownBlock=some w.heap.size)→K (a.put o.dst v') w') :
  if Region.wanted o (yielded ops a.tmps)=true then Oper.wp P o a w K Q else X:=by
 rw [if_pos (show Region.wanted o (yielded ops a.tmps)=true by simp [Region.wanted,hgd])];exact zl2 s x t ho base e k bytes E v n xs hs hown B A m c news hx hr h1 hlen hbytes hbase h
theorem zf5 {w:World} (cs:Array Value) (t:TypeId) (g k:Nat) (hg:g=w.heap.size) (hk:cs.size=k) (xs:List Value) (hx:cs.toList=xs):Rd (w.alloc (.cells cs t)) (g + 1) k (some ⟨g,0,none⟩) 1 1 xs:=by
 subst hg hx;exact ⟨by simp [hk],zl _,by decide,nofun,fun _=>⟨_,_,rfl,by omega,fun j u hj=>by rw [World.cell?_alloc_new];simpa using hj⟩⟩
theorem zch {w w':World} {b:Option Nat} (h:w.grownBy w' b):Only w w' b:=fun k hk hn=>h.block k hk hn
end
section
open Go.RowKit
structure Tk (w wr:World) (base:Nat) (B1:Array Value) (o:Od) (Lo L0 M:List Od) (fs:List Fl) (left:Int) (NX:Nat) (vf vo vx:Value):Prop where
 bel:Below w.heap.size w wr
 one:Blk wr w.heap.size 83 B1
 two:Blk wr (w.heap.size + 1) 32 #[.int .i64 o.id,.int .i64 o.acc,.int .i64 o.side,.int .i64 o.price,.int .i64 o.qty]
 three:Blk wr (w.heap.size + 1 + 1) 83 #[.slice none 0 0,.slice none 0 0]
 low:w.heap.size + 1 + 1 < base
 high:base ≤ wr.heap.size
 rowO:wr.ownsRow base 32 5 vo Lo.length (zaa Lo)
 rowX:wr.ownsRow base 32 5 vx NX (zaa M)
 lenX:M.length=NX
 rowF:wr.ownsRow base 55 7 vf fs.length (zaJ fs)
 ox:∀ k,vo.ownBlock=some k→vx.ownBlock ≠ some k
 fo:∀ k,vo.ownBlock=some k→vf.ownBlock ≠ some k
 fx:∀ k,vx.ownBlock=some k→vf.ownBlock ≠ some k
 side:SideOk (-o.side) M
 take:zan o o.qty L0=((zan o left M).1,fs ++ (zan o left M).2.1,(zan o left M).2.2)
 left_:0 ≤ left∧left ≤ o.qty
 cnt:fs.length + M.length ≤ 40∨left=0∧fs.length + M.length ≤ 41
theorem Tk.below {w wr w1:World} {base:Nat} {B1:Array Value} {o:Od} {Lo L0 M:List Od} {fs:List Fl} {left:Int} {NX:Nat} {vf vo vx:Value} (h:Tk w wr base B1 o Lo L0 M fs left NX vf vo vx) (hb:Below wr.heap.size wr w1):Tk w w1 base B1 o Lo L0 M fs left NX vf vo vx :=
 ⟨h.bel.trans (hb.mono h.bel.size),h.one.below hb h.one.lt,h.two.below hb h.two.lt,h.three.below hb h.three.lt,h.low,Nat.le_trans h.high hb.size,zaf h.rowO hb (zl _),zaf h.rowX hb (zl _),h.lenX,zaf h.rowF hb (zl _),h.ox,h.fo,h.fx,h.side,h.take,h.left_,h.cnt⟩
theorem zn2 {o x:Od} {l L0:List Od} {fs:List Fl} {left:Int} (h:zan o o.qty L0=((zan o left (x :: l)).1,fs ++ (zan o left (x :: l)).2.1,(zan o left (x :: l)).2.2)) (h1:0 < left) (h2:zbc o x.price=true) (h3:x.acc ≠ o.acc) (h4:left < x.qty) :
  zan o o.qty L0=((zan o 0 ({ x with qty:=x.qty - left } :: l)).1,(fs ++ [zbw o x left]) ++ (zan o 0 ({ x with qty:=x.qty - left } :: l)).2.1,(zan o 0 ({ x with qty:=x.qty - left } :: l)).2.2):=by
 rw [h,zor];have e:zan o left (x :: l)=({ x with qty:=x.qty - left } :: l,[zbw o x left],0,false):=by
  conv=>lhs;unfold zan
  rw [if_neg (by omega),if_neg (by rw [h2];simp),if_neg h3,if_pos h4]
 rw [e];simp
theorem zmu {o x:Od} {l L0:List Od} {fs:List Fl} {left:Int} (h:zan o o.qty L0=((zan o left (x :: l)).1,fs ++ (zan o left (x :: l)).2.1,(zan o left (x :: l)).2.2)) (h1:0 < left) (h2:zbc o x.price=true) (h3:x.acc ≠ o.acc) (h4:x.qty ≤ left) :
  zan o o.qty L0=((zan o (left - x.qty) l).1,(fs ++ [zbw o x x.qty]) ++ (zan o (left - x.qty) l).2.1,(zan o (left - x.qty) l).2.2):=by
 rw [h];have e:zan o left (x :: l)=((zan o (left - x.qty) l).1,zbw o x x.qty :: (zan o (left - x.qty) l).2.1,(zan o (left - x.qty) l).2.2):=by
  conv=>lhs;unfold zan
  rw [if_neg (by omega),if_neg (by rw [h2];simp),if_neg h3,if_neg (by omega)]
 rw [e];simp
theorem zhj {o:Od} {M L0:List Od} {fs:List Fl} {left:Int} (h:zan o o.qty L0=((zan o left M).1,fs ++ (zan o left M).2.1,(zan o left M).2.2)) (he:left ≤ 0∨M = []∨∃ x l,M=x :: l∧zbc o x.price=false):zan o o.qty L0=(M,fs,left,false):=by
 rw [h];have e:zan o left M=(M,[],left,false):=by
  rcases he with he | rfl | ⟨x,l,rfl,hc⟩
  ·cases M with
   | nil=>rfl
   | cons x l=>unfold zan;rw [if_pos he]
  ·rfl
  ·unfold zan;split
   ·rfl
   ·rfl
 rw [e];simp
theorem zqf {o x:Od} {l L0:List Od} {fs:List Fl} {left:Int} (h:zan o o.qty L0=((zan o left (x :: l)).1,fs ++ (zan o left (x :: l)).2.1,(zan o left (x :: l)).2.2)) (h1:0 < left) (h2:zbc o x.price=true) (h3:x.acc=o.acc):zan o o.qty L0=(x :: l,fs,left,true):=by
 rw [h];have e:zan o left (x :: l)=(x :: l,[],left,true):=by unfold zan;rw [if_neg (by omega),if_neg (by rw [h2];simp),if_pos h3]
 rw [e];simp
theorem zcj {w:World} {g:Nat} {t:TypeId} {x:Od} {l:List Od} {sp:List Value} (h:Blk w g t (zaa (x :: l) ++ sp).toArray) :
  (w.cell? ⟨g,0,none⟩=some (.int .i64 x.id)∧w.cell? ⟨g,1,none⟩=some (.int .i64 x.acc)∧w.cell? ⟨g,2,none⟩=some (.int .i64 x.side)∧w.cell? ⟨g,3,none⟩=some (.int .i64 x.price)∧w.cell? ⟨g,4,none⟩=some (.int .i64 x.qty)) ∧
   w.frozen? ⟨g,0,none⟩=false∧w.frozen? ⟨g,1,none⟩=false∧w.frozen? ⟨g,2,none⟩=false∧w.frozen? ⟨g,3,none⟩=false∧w.frozen? ⟨g,4,none⟩=false :=
 ⟨⟨h.cell 0,h.cell 1,h.cell 2,h.cell 3,h.cell 4⟩,h.frozen 0,h.frozen 1,h.frozen 2,h.frozen 3,h.frozen 4⟩
theorem zmv {w:World} {base m c:Nat} {A:Option Addr} {x:Od} {l:List Od} (h:w.ownsRow base 32 5 (.slice A (m + 1) c) (m + 1) (zaa (x :: l))) :
  ∃ g sp,A=some ⟨g,0,none⟩∧base ≤ g∧Blk w g 32 (zaa (x :: l) ++ sp).toArray∧l.length=m∧m + 1 ≤ c∧c ≤ maxLen∧sp.length=(c - (m + 1)) * 5:=by
 obtain ⟨hl,⟨_,h0⟩ | ⟨g,cap,cur,hv,hbg,hg,hnc,hcm,hcs,hct⟩⟩:=h
 ·omega
 ·injection hv with e1 _ e3;subst e1 e3;obtain ⟨sp,e1,e2,e3⟩:=zg1 (L:=x :: l) (cur:=cur.toList) (by rw [Array.length_toList];exact hcs) hnc hct;have hgb:Blk w g 32 cur.toList.toArray:=by rw [Array.toArray_toList];exact hg
  rw [e1] at hgb;exact ⟨g,sp,rfl,hbg,hgb,by simpa using e2,hnc,hcm,e3⟩
theorem zbr {P:Program} {c:Code} {Q:Exit→Act→World→Prop} {a:Act} {W:World} (h:∀ Z,Z=W→Code.wp P c Q a Z):Code.wp P c Q a W:=h W rfl
theorem zaT (w:World) (ob:Obj) (b:Option Nat):Only w ((w.alloc ob).drew) b:=fun k hk _=>Below.heap_alloc w ob k hk
theorem zcy {w w1 w2:World} {b:Option Nat} (h:Only w w1 b) (hs:w.heap.size ≤ w1.heap.size) (g:Only w1 w2 b):Only w w2 b:=fun k hk hn=>(g k (by omega) hn).trans (h k hk hn)
theorem Rd.drew1 {w:World} {B k n c:Nat} {A:Option Addr} {xs:List Value} (h:Rd w B k A n c xs):Rd w.drew B k A n c xs:=h.drewN 1
theorem zfA (base:Nat) (v:Value) (n:Nat) (x:Od) (L:List Od) (w:World) (hown:w.ownsRow base 32 5 v n (zaa (x :: L))) (hb:base ≤ w.heap.size) (hi:0 < n) :
  Calls Tryz.prog 159 #[v,.int .i64 0,.int .i64 1] w fun e w'=>∃ v',e=.returned v'∧w'.ownsRow base 32 5 v' (n - 1) (zaa L)∧v'.ownBlock=v.ownBlock∧Below base w w'∧Only w w' v.ownBlock :=
 zpQ base v n 0 (x :: L) w hown hb hi
theorem Blk.only {w w':World} {g:Nat} {t:TypeId} {cs:Array Value} {b:Option Nat} (h:Blk w g t cs) (ho:Only w w' b) (hne:some g ≠ b):Blk w' g t cs:=(ho g h.lt hne).trans h
theorem zlf {s:Int} {o x:Od} {l:List Od} {left:Int} (h:SideOk s (x :: l)) (h1:0 < left) (h2:zbc o x.price=true) (h3:x.acc ≠ o.acc) (h4:left < x.qty):SideOk s ({ x with qty:=x.qty - left } :: l):=by
 have:=(zgi (o:=o) (left:=left) h).1;unfold zan at this;rw [if_neg (by omega),if_neg (by rw [h2];simp),if_neg h3,if_pos h4] at this;exact this
theorem zsH {o x:Od} {l L0:List Od} {fs:List Fl} (h:zan o o.qty L0=((zan o x.qty (x :: l)).1,fs ++ (zan o x.qty (x :: l)).2.1,(zan o x.qty (x :: l)).2.2)) (h1:0 < x.qty) (h2:zbc o x.price=true) (h3:x.acc ≠ o.acc) :
  zan o o.qty L0=((zan o 0 l).1,(fs ++ [zbw o x x.qty]) ++ (zan o 0 l).2.1,(zan o 0 l).2.2):=by
 have:=zmu h h1 h2 h3 (Int.le_refl _);rw [Int.sub_self] at this;exact this
theorem set4 (x:Od) (l:List Od) (sp:List Value) (q:Int):(zaa (x :: l) ++ sp).toArray.setIfInBounds 4 (.int .i64 q)=(zaa ({ x with qty:=q } :: l) ++ sp).toArray:=by
 simp [zaa]
theorem zhk {w:World} {base g n c:Nat} {M:List Od} {sp:List Value} (h:Blk w g 32 (zaa M ++ sp).toArray) (hb:base ≤ g) (hn:M.length=n) (hnc:n ≤ c) (hc:c ≤ maxLen) (hs:sp.length=(c - n) * 5):w.ownsRow base 32 5 (.slice (some ⟨g,0,none⟩) n c) n (zaa M):=by
 refine ⟨by rw [zao,hn],.inr ⟨g,c,_,rfl,hb,h,hnc,hc,?_,?_⟩⟩
 ·rw [List.size_toArray,List.length_append,zao,hs,hn];omega
 ·rw [List.toList_toArray,List.take_append_of_le_length (by rw [zao,hn];exact zl _),List.take_of_length_le (by rw [zao,hn];exact zl _)]
def zhl (w:World) (r:Bk × List Fl × Int × Bool × Int) (e:Ending) (w':World):Prop :=
 ∃ A c A' c' vf,e=.returned (.tuple #[.agg #[.slice A r.1.bids.length c,.slice A' r.1.asks.length c'],vf,.int .i64 r.2.2.1,.bool r.2.2.2.1,.int .i64 r.2.2.2.2])∧OBk w' w.heap.size A A' c c' r.1∧w'.ownsRow w.heap.size 55 7 vf r.2.1.length (zaJ r.2.1) ∧
  (∀ k,(Value.slice A r.1.bids.length c).ownBlock=some k→(Value.slice A' r.1.asks.length c').ownBlock ≠ some k)∧Below w.heap.size w w'
theorem zcz {w w':World} {r:Bk × List Fl × Int × Bool × Int} {x:Bk} {l:List Fl} {left:Int} {met:Bool} {n:Int} {A A':Option Addr} {c c' n1 n2 n3:Nat} {vf:Value} (h:r=(x,l,left,met,n)) (h1:x.bids.length=n1) (h2:x.asks.length=n2) (ho1:w'.ownsRow w.heap.size 32 5 (.slice A n1 c) n1 (zaa x.bids)) (ho2:w'.ownsRow w.heap.size 32 5 (.slice A' n2 c') n2 (zaa x.asks))
  (h3:l.length=n3) (hf:w'.ownsRow w.heap.size 55 7 vf n3 (zaJ l)) (ha:∀ k,(Value.slice A n1 c).ownBlock=some k→(Value.slice A' n2 c').ownBlock ≠ some k) (hb:Below w.heap.size w w') :
  zhl w r (.returned (.tuple #[.agg #[.slice A n1 c,.slice A' n2 c'],vf,.int .i64 left,.bool met,.int .i64 n])) w':=by subst h h1 h2 h3;exact ⟨A,c,A',c',vf,rfl,⟨ho1,ho2⟩,hf,ha,hb⟩
theorem zlg (o:Od) (b:Bk):(o.side=1→zap b o.side=b.asks∧∀ l,zcl b o.side l=mkA b l)∧(o.side ≠ 1→zap b o.side=b.bids∧∀ l,zcl b o.side l=mkB b l) :=
 ⟨fun h=>⟨if_pos h,fun _=>if_pos h⟩,fun h=>⟨if_neg h,fun _=>if_neg h⟩⟩
end
end Go.Proofs.YtockodmbhnlheaaGreatDoor
