import Derived.Test.YtockodmbhnlheaaGreatDoorAV
import Derived.Test.YtockodmbhnlheaaGreatDoorAW
namespace Go.Proofs.YtockodmbhnlheaaGreatDoor
section
open Go.RowKit
theorem zn9 (b:Bk) (o:Od) (A A':Option Addr) (c c' B:Nat) (w:World) (h:BkR w B A A' c c' b) (hB:B ≤ w.heap.size) (hl:b.bids.length ≤ 4000000000000) (hl':b.asks.length ≤ 4000000000000) :
  Calls Tryz.prog 129 #[.agg #[.slice A b.bids.length c,.slice A' b.asks.length c'],.agg #[.int .i64 o.id,.int .i64 o.acc,.int .i64 o.side,.int .i64 o.price,.int .i64 o.qty]] w (zhl w (za1 b o)):=by
 by_cases hsd:o.side=1
 ·exact zrO b o A A' c c' B w h hB hl hl' hsd
 ·exact zql b o A A' c c' B w h hB hl hl' hsd
set_option maxHeartbeats 400000 in
theorem zdc (n:Int) (w:World) :
  Calls Tryz.prog 127 #[.int .i64 n] w fun e w'=>e=.returned (.tuple #[.agg #[.slice none 0 0,.slice none 0 0],.slice none 0 0,.int .i64 0,.int .i64 n])∧Below w.heap.size w w':=by
 go_enter Tryz.func127,Tryz.ntmps127
 go_wp2_with fail
 refine bodyPost_ret (v:=.tuple #[.agg #[.slice none 0 0,.slice none 0 0],.slice none 0 0,.int .i64 0,.int .i64 n]) (by simp [results,Tryz.results127,go_sem]) rfl ⟨rfl,?_⟩;first | exact (Below.refl _ _).alloc (zl _) _ | exact (((Below.refl _ _).alloc (zl _) _).setCell (zl _) _).setCell (zl _) _
def zky (w:World) (r:Bk × List Fl × Int × Int) (e:Ending) (w':World):Prop :=
 ∃ A c A' c' vf,e=.returned (.tuple #[.agg #[.slice A r.1.bids.length c,.slice A' r.1.asks.length c'],vf,.int .i64 r.2.2.1,.int .i64 r.2.2.2])∧OBk w' w.heap.size A A' c c' r.1∧w'.ownsRow w.heap.size 55 7 vf r.2.1.length (zaJ r.2.1)∧Below w.heap.size w w'
theorem za7 {w w':World} {r:Bk × List Fl × Int × Int} {x:Bk} {l:List Fl} {left:Int} {n:Int} {A A':Option Addr} {c c' n1 n2 n3:Nat} {vf:Value} (h:r=(x,l,left,n)) (h1:x.bids.length=n1) (h2:x.asks.length=n2) (ho1:w'.ownsRow w.heap.size 32 5 (.slice A n1 c) n1 (zaa x.bids)) (ho2:w'.ownsRow w.heap.size 32 5 (.slice A' n2 c') n2 (zaa x.asks))
  (h3:l.length=n3) (hf:w'.ownsRow w.heap.size 55 7 vf n3 (zaJ l)) (hb:Below w.heap.size w w') :
  zky w r (.returned (.tuple #[.agg #[.slice A n1 c,.slice A' n2 c'],vf,.int .i64 left,.int .i64 n])) w':=by subst h h1 h2 h3;exact ⟨A,c,A',c',vf,rfl,⟨ho1,ho2⟩,hf,hb⟩
theorem zr6 (b:Bk) (o:Od):∃ x l left met e,za1 b o=(x,l,left,met,e):=⟨_,_,_,_,_,rfl⟩
theorem zo9 {b x:Bk} {o:Od} {l:List Fl} {left:Int} {met:Bool} (h:za1 b o=(x,l,left,met,0)):BookOk x∧(0 ≤ left∧left ≤ 1000):=by
 unfold za1 at h;split at h
 ·rename_i h1;injection h with _ h;injection h with _ h;injection h with _ h;injection h with _ h;exact absurd h h1
 rename_i h1;split at h
 ·rename_i h2;injection h with _ h;injection h with _ h;injection h with _ h;injection h with _ h;exact absurd h h2
 rename_i h2;have hb:=zb6.1 (show zav b=0 by omega);have ho:=zaP.1 (show zax o=0 by omega);have hs:=ho.2.2.1;have hso:=zex hb o.side hs;have hq:∀ x ∈ zap b o.side,1 ≤ x.qty:=fun x hx=>(zaP.1 (hso.ok x hx)).2.2.2.2.1;have hrem:=zfp (o:=o) (left:=o.qty) hq (by omega);injection h with e1 h;injection h with _ h;injection h with e3 _;rw [e3] at hrem;exact ⟨by rw [← e1];exact zkS hb o hs o.qty,by omega⟩
theorem zfh {w:World} {base e k n:Nat} {v:Value} {xs:List Value} (h:w.ownsRow base e k v n xs) {p:Addr} (hp:∀ g,v.ownBlock=some g→g=p.block→False) (u:Value):(w.setCell p u).ownsRow base e k v n xs :=
 zaO h (zdb (g:=p.block) (zco w _) rfl) (fun g h1 e=>hp g h1 (by injection e with e;exact e.symm))
theorem zmE {x':Bk} {e':Int} (b:Bk) (o:Od) (A A':Option Addr) (c c' B:Nat) (w:World) (hr:zbJ b o=(x',e')) (h:BkR w B A A' c c' b) (hB:B ≤ w.heap.size) (hl:b.bids.length ≤ 4000000000000) (hl':b.asks.length ≤ 4000000000000) :
  Calls Tryz.prog 130 #[.agg #[.slice A b.bids.length c,.slice A' b.asks.length c'],.agg #[.int .i64 o.id,.int .i64 o.acc,.int .i64 o.side,.int .i64 o.price,.int .i64 o.qty]] w (ziA w (x',e')):=by
 rw [← hr];exact zs7 b o A A' c c' B w h hB hl hl'
theorem zlp (b:Bk) (o:Od):∃ x e,zbJ b o=(x,e):=⟨_,_,rfl⟩
theorem zqI {b:Bk} (h:BookOk b):b.bids.length ≤ 4000000000000∧b.asks.length ≤ 4000000000000:=by have:=h.len;omega
set_option maxHeartbeats 8000000 in
set_option maxRecDepth 100000 in
theorem ztm (b:Bk) (o:Od) (how:Int) (A A':Option Addr) (c c' B:Nat) (w:World) (h:BkR w B A A' c c' b) (hB:B ≤ w.heap.size) (hl:b.bids.length ≤ 4000000000000) (hl':b.asks.length ≤ 4000000000000) :
  Calls Tryz.prog 98 #[.agg #[.slice A b.bids.length c,.slice A' b.asks.length c'],.agg #[.int .i64 o.id,.int .i64 o.acc,.int .i64 o.side,.int .i64 o.price,.int .i64 o.qty],.int .i64 how] w (zky w (zcs b o how)):=by
 obtain ⟨tx,tl,tleft,tmet,te,htake⟩:=zr6 b o;have HTK:=zi htake;have HE:=zi (show zcs b o how=if zav b ≠ 0 then (zaH,[],0,zav b) else if hasB b o.id then (zaH,[],0,6) else if how < 1∨4 < how then (zaH,[],0,4)
  else if te ≠ 0 then (zaH,[],0,te) else if how=4∧(tl ≠ []∨tmet=true) then (zaH,[],0,9) else if tmet then (zaH,[],0,11) else if how=3∧0 < tleft then (zaH,[],0,10)
  else if tleft=0∨how=2 then (tx,tl,tleft,0) else if (zbJ tx { o with qty:=tleft }).2 ≠ 0 then (zaH,[],0,(zbJ tx { o with qty:=tleft }).2) else ((zbJ tx { o with qty:=tleft }).1,tl,0,0) by unfold zcs;rw [htake])
 clear htake;go_enter Tryz.func98,Tryz.ntmps98
 go_wp2_with fail
 refine zak ?_;intro w2 hw2;have hbw:Below w.heap.size w w2:=by rw [hw2];exact (((Below.refl _ _).alloc (zl _) _).alloc (by simp) _).alloc (by simp;omega) _
 have hs2:w2.heap.size=w.heap.size + 1 + 1 + 1:=by rw [hw2];simp
 have X1:Blk w2 w.heap.size 83 #[.slice A b.bids.length c,.slice A' b.asks.length c']:=by rw [hw2];exact ((Blk.new w _ _).alloc _).alloc _
 have X2:Blk w2 (w.heap.size + 1) 32 #[.int .i64 o.id,.int .i64 o.acc,.int .i64 o.side,.int .i64 o.price,.int .i64 o.qty]:=by rw [hw2];exact (Blk.new_at _ _ _ _ (by simp)).alloc _
 have X3:Blk w2 (w.heap.size + 1 + 1) 83 #[.slice none 0 0,.slice none 0 0]:=by rw [hw2];exact Blk.new_at _ _ _ _ (by simp)
 have hr:=h.below (hbw.mono hB);clear hw2;refine (zdv b A A' c c' B w2 hr.l hr.r (by omega) hl hl').mono ?_;rintro e w3 ⟨rfl,hb3⟩;have hs3:=hb3.size;obtain ⟨⟨kX10,kX11⟩,-⟩:=X1.c2;obtain ⟨⟨kX20,kX21,kX22,kX23,kX24⟩,-⟩:=X2.c5;obtain ⟨⟨kX30,kX31⟩,fX30,fX31⟩:=X3.c2;clear kX10 kX11;replace X1:=X1.below hb3 X1.lt;obtain ⟨⟨kX10,kX11⟩,-⟩:=X1.c2;clear kX20 kX21 kX22 kX23 kX24;replace X2:=X2.below hb3 X2.lt;obtain ⟨⟨kX20,kX21,kX22,kX23,kX24⟩,-⟩:=X2.c5;clear kX30 kX31 fX30 fX31;replace X3:=X3.below hb3 X3.lt;obtain ⟨⟨kX30,kX31⟩,fX30,fX31⟩:=X3.c2;replace hbw:=hbw.trans (hb3.mono (by omega));replace hr:=hr.below (hb3.mono (by omega));clear hb3;by_cases he:zav b=0
 rotate_left
 ·have HE1:=zi (HE.out.trans (if_pos he));have he':(zav b != 0)=true:=by simpa using he
  clear he HE;go_wp2_with fail
  refine zak ?_;intro wq hwq;have Xq3:Blk wq (w.heap.size + 1 + 1) 83 #[.slice none 0 0,.slice none 0 0]:=by rw [hwq];first | exact X3 | exact X3.alloc _ | exact (X3.far (by simp;omega) _).far (by simp;omega) _
  have hbq:Below w.heap.size w wq:=by rw [hwq];first | exact hbw | exact hbw.alloc (by omega) _ | exact (hbw.setCell (by dsimp only;omega) _).setCell (by dsimp only;omega) _
  have hsq:w3.heap.size ≤ wq.heap.size:=by rw [hwq];simp
  clear hwq kX30 kX31 fX30 fX31;refine (zdc (zav b) wq).mono ?_;rintro e wf ⟨rfl,hbf⟩;have hsf:=hbf.size;replace Xq3:=Xq3.below hbf Xq3.lt;replace hbq:=hbq.trans (hbf.mono (by omega));obtain ⟨⟨kXq30,kXq31⟩,fXq30,fXq31⟩:=Xq3.c2;clear hbf;go_wp2_with fail
  refine zaq ?_;intro Z hZ;have XZ3:Blk Z (w.heap.size + 1 + 1) 83 #[.slice none 0 0,.slice none 0 0]:=by rw [hZ];exact (Xq3.set_ 0 _).set_ 1 _
  have hbZ:Below w.heap.size w Z:=by rw [hZ];exact (hbq.setCell (by dsimp only;omega) _).setCell (by dsimp only;omega) _
  clear hZ kXq30 kXq31 fXq30 fXq31;obtain ⟨⟨kXZ30,kXZ31⟩,-⟩:=XZ3.c2;refine bodyPost_ret (v:=.tuple #[.agg #[.slice none 0 0,.slice none 0 0],.slice none 0 0,.int .i64 0,.int .i64 (zav b)]) (by simp [results,Tryz.results98,go_sem, *]) rfl ?_;exact za7 (x:=zaH) (l:=[]) HE1.out rfl rfl (World.ownsRow_nil _ _ _ _) (World.ownsRow_nil _ _ _ _) rfl (World.ownsRow_nil _ _ _ _) hbZ
 have HE1:=zi (HE.out.trans (if_neg (by omega)));have HBK:=zi (zb6.1 he);have hlen:=HBK.out.len;rw [he];clear he HE;go_wp2_with fail
 refine (zpN b o.id A A' c c' B w3 hr (by omega) (by omega)).mono ?_;rintro e w4 ⟨rfl,hb4⟩;have hs4:=hb4.size;clear kX10 kX11;replace X1:=X1.below hb4 X1.lt;obtain ⟨⟨kX10,kX11⟩,-⟩:=X1.c2;clear kX20 kX21 kX22 kX23 kX24;replace X2:=X2.below hb4 X2.lt;obtain ⟨⟨kX20,kX21,kX22,kX23,kX24⟩,-⟩:=X2.c5;clear kX30 kX31 fX30 fX31;replace X3:=X3.below hb4 X3.lt;obtain ⟨⟨kX30,kX31⟩,fX30,fX31⟩:=X3.c2;replace hbw:=hbw.trans (hb4.mono (by omega));replace hr:=hr.below (hb4.mono (by omega));clear hb4;rcases (zcr (hasB b o.id)).symm with hh | hh
 ·have HE2:=zi (HE1.out.trans (if_pos hh));rw [hh];clear hh HE1;go_wp2_with fail
  refine zak ?_;intro wq hwq;have Xq3:Blk wq (w.heap.size + 1 + 1) 83 #[.slice none 0 0,.slice none 0 0]:=by rw [hwq];first | exact X3 | exact X3.alloc _ | exact (X3.far (by simp;omega) _).far (by simp;omega) _
  have hbq:Below w.heap.size w wq:=by rw [hwq];first | exact hbw | exact hbw.alloc (by omega) _ | exact (hbw.setCell (by dsimp only;omega) _).setCell (by dsimp only;omega) _
  have hsq:w4.heap.size ≤ wq.heap.size:=by rw [hwq];simp
  clear hwq kX30 kX31 fX30 fX31;refine (zdc (6) wq).mono ?_;rintro e wf ⟨rfl,hbf⟩;have hsf:=hbf.size;replace Xq3:=Xq3.below hbf Xq3.lt;replace hbq:=hbq.trans (hbf.mono (by omega));obtain ⟨⟨kXq30,kXq31⟩,fXq30,fXq31⟩:=Xq3.c2;clear hbf;go_wp2_with fail
  refine zaq ?_;intro Z hZ;have XZ3:Blk Z (w.heap.size + 1 + 1) 83 #[.slice none 0 0,.slice none 0 0]:=by rw [hZ];exact (Xq3.set_ 0 _).set_ 1 _
  have hbZ:Below w.heap.size w Z:=by rw [hZ];exact (hbq.setCell (by dsimp only;omega) _).setCell (by dsimp only;omega) _
  clear hZ kXq30 kXq31 fXq30 fXq31;obtain ⟨⟨kXZ30,kXZ31⟩,-⟩:=XZ3.c2;refine bodyPost_ret (v:=.tuple #[.agg #[.slice none 0 0,.slice none 0 0],.slice none 0 0,.int .i64 0,.int .i64 (6)]) (by simp [results,Tryz.results98,go_sem, *]) rfl ?_;exact za7 (x:=zaH) (l:=[]) HE2.out rfl rfl (World.ownsRow_nil _ _ _ _) (World.ownsRow_nil _ _ _ _) rfl (World.ownsRow_nil _ _ _ _) hbZ
 have HE2:=zi (HE1.out.trans (if_neg (by rw [hh];simp)));rw [hh];clear hh HE1;by_cases hw:how < 1∨4 < how
 ·have HE3:=zi (HE2.out.trans (if_pos hw));have hw':how < 1∨1 ≤ how∧4 < how:=by omega
  clear hw HE2;rcases hw' with h1 | ⟨h1,h2⟩
  ·skip;go_wp2_with fail
   refine zak ?_;intro wq hwq;have Xq3:Blk wq (w.heap.size + 1 + 1) 83 #[.slice none 0 0,.slice none 0 0]:=by rw [hwq];first | exact X3 | exact X3.alloc _ | exact (X3.far (by simp;omega) _).far (by simp;omega) _
   have hbq:Below w.heap.size w wq:=by rw [hwq];first | exact hbw | exact hbw.alloc (by omega) _ | exact (hbw.setCell (by dsimp only;omega) _).setCell (by dsimp only;omega) _
   have hsq:w4.heap.size ≤ wq.heap.size:=by rw [hwq];simp
   clear hwq kX30 kX31 fX30 fX31;refine (zdc (4) wq).mono ?_;rintro e wf ⟨rfl,hbf⟩;have hsf:=hbf.size;replace Xq3:=Xq3.below hbf Xq3.lt;replace hbq:=hbq.trans (hbf.mono (by omega));obtain ⟨⟨kXq30,kXq31⟩,fXq30,fXq31⟩:=Xq3.c2;clear hbf;go_wp2_with fail
   refine zaq ?_;intro Z hZ;have XZ3:Blk Z (w.heap.size + 1 + 1) 83 #[.slice none 0 0,.slice none 0 0]:=by rw [hZ];exact (Xq3.set_ 0 _).set_ 1 _
   have hbZ:Below w.heap.size w Z:=by rw [hZ];exact (hbq.setCell (by dsimp only;omega) _).setCell (by dsimp only;omega) _
   clear hZ kXq30 kXq31 fXq30 fXq31;obtain ⟨⟨kXZ30,kXZ31⟩,-⟩:=XZ3.c2;refine bodyPost_ret (v:=.tuple #[.agg #[.slice none 0 0,.slice none 0 0],.slice none 0 0,.int .i64 0,.int .i64 (4)]) (by simp [results,Tryz.results98,go_sem, *]) rfl ?_;exact za7 (x:=zaH) (l:=[]) HE3.out rfl rfl (World.ownsRow_nil _ _ _ _) (World.ownsRow_nil _ _ _ _) rfl (World.ownsRow_nil _ _ _ _) hbZ
  ·skip;go_wp2_with fail
   refine zak ?_;intro wq hwq;have Xq3:Blk wq (w.heap.size + 1 + 1) 83 #[.slice none 0 0,.slice none 0 0]:=by rw [hwq];first | exact X3 | exact X3.alloc _ | exact (X3.far (by simp;omega) _).far (by simp;omega) _
   have hbq:Below w.heap.size w wq:=by rw [hwq];first | exact hbw | exact hbw.alloc (by omega) _ | exact (hbw.setCell (by dsimp only;omega) _).setCell (by dsimp only;omega) _
   have hsq:w4.heap.size ≤ wq.heap.size:=by rw [hwq];simp
   clear hwq kX30 kX31 fX30 fX31;refine (zdc (4) wq).mono ?_;rintro e wf ⟨rfl,hbf⟩;have hsf:=hbf.size;replace Xq3:=Xq3.below hbf Xq3.lt;replace hbq:=hbq.trans (hbf.mono (by omega));obtain ⟨⟨kXq30,kXq31⟩,fXq30,fXq31⟩:=Xq3.c2;clear hbf;go_wp2_with fail
   refine zaq ?_;intro Z hZ;have XZ3:Blk Z (w.heap.size + 1 + 1) 83 #[.slice none 0 0,.slice none 0 0]:=by rw [hZ];exact (Xq3.set_ 0 _).set_ 1 _
   have hbZ:Below w.heap.size w Z:=by rw [hZ];exact (hbq.setCell (by dsimp only;omega) _).setCell (by dsimp only;omega) _
   clear hZ kXq30 kXq31 fXq30 fXq31;obtain ⟨⟨kXZ30,kXZ31⟩,-⟩:=XZ3.c2;refine bodyPost_ret (v:=.tuple #[.agg #[.slice none 0 0,.slice none 0 0],.slice none 0 0,.int .i64 0,.int .i64 (4)]) (by simp [results,Tryz.results98,go_sem, *]) rfl ?_;exact za7 (x:=zaH) (l:=[]) HE3.out rfl rfl (World.ownsRow_nil _ _ _ _) (World.ownsRow_nil _ _ _ _) rfl (World.ownsRow_nil _ _ _ _) hbZ
 have HE3:=zi (HE2.out.trans (if_neg hw));obtain ⟨hw1,hw2⟩:1 ≤ how∧how ≤ 4:=by omega
 clear hw HE2;go_wp2_with fail
 refine (zn9 b o A A' c c' B w4 hr (by omega) hl hl').mono ?_;rw [HTK.out];rintro e w5 ⟨P,p,P',p',vf,rfl,hobk,hrow,-,hb5⟩;have hs5:=hb5.size;replace X1:=X1.below hb5 X1.lt;clear kX20 kX21 kX22 kX23 kX24;replace X2:=X2.below hb5 X2.lt;obtain ⟨⟨kX20,kX21,kX22,kX23,kX24⟩,-⟩:=X2.c5;clear kX30 kX31 fX30 fX31;replace X3:=X3.below hb5 X3.lt;obtain ⟨⟨kX30,kX31⟩,fX30,fX31⟩:=X3.c2;replace hbw:=hbw.trans (hb5.mono (by omega));clear hb5 hr kX10 kX11;have x2:w.heap.size + 1 < w5.heap.size:=by omega
 have x3':w.heap.size + 1 + 1 < w5.heap.size:=by omega
 obtain ⟨AF,cF,rfl⟩:=zad hrow;have HOB:=zi hobk;have HRW:=zi hrow;clear hobk hrow;by_cases het:te=0
 rotate_left
 ·have HE4:=zi (HE3.out.trans (if_pos het));have he':(te != 0)=true:=by simpa using het
  clear het HE3;go_wp2_with fail
  refine zak ?_;intro wq hwq;have Xq3:Blk wq (w.heap.size + 1 + 1) 83 #[.slice none 0 0,.slice none 0 0]:=by rw [hwq];first | exact X3 | exact X3.alloc _ | exact (X3.far (by simp;omega) _).far (by simp;omega) _
  have hbq:Below w.heap.size w wq:=by rw [hwq];first | exact hbw | exact hbw.alloc (by omega) _ | exact (hbw.setCell (by dsimp only;omega) _).setCell (by dsimp only;omega) _
  have hsq:w5.heap.size ≤ wq.heap.size:=by rw [hwq];simp
  clear hwq kX30 kX31 fX30 fX31;refine (zdc (te) wq).mono ?_;rintro e wf ⟨rfl,hbf⟩;have hsf:=hbf.size;replace Xq3:=Xq3.below hbf Xq3.lt;replace hbq:=hbq.trans (hbf.mono (by omega));obtain ⟨⟨kXq30,kXq31⟩,fXq30,fXq31⟩:=Xq3.c2;clear hbf;go_wp2_with fail
  refine zaq ?_;intro Z hZ;have XZ3:Blk Z (w.heap.size + 1 + 1) 83 #[.slice none 0 0,.slice none 0 0]:=by rw [hZ];exact (Xq3.set_ 0 _).set_ 1 _
  have hbZ:Below w.heap.size w Z:=by rw [hZ];exact (hbq.setCell (by dsimp only;omega) _).setCell (by dsimp only;omega) _
  clear hZ kXq30 kXq31 fXq30 fXq31;obtain ⟨⟨kXZ30,kXZ31⟩,-⟩:=XZ3.c2;refine bodyPost_ret (v:=.tuple #[.agg #[.slice none 0 0,.slice none 0 0],.slice none 0 0,.int .i64 0,.int .i64 (te)]) (by simp [results,Tryz.results98,go_sem, *]) rfl ?_;exact za7 (x:=zaH) (l:=[]) HE4.out rfl rfl (World.ownsRow_nil _ _ _ _) (World.ownsRow_nil _ _ _ _) rfl (World.ownsRow_nil _ _ _ _) hbZ
 have HE4:=zi (HE3.out.trans (if_neg (by omega)));subst het;have HTF:=zi (zo9 HTK.out);obtain ⟨tl0,tl1⟩:=HTF.out.2;clear HE3;have HLN:=zi (zqI HTF.out.1);have hnl:tl.length=0∨0 < tl.length:=by omega
 by_cases hp:how=4∧(tl ≠ []∨tmet=true)
 ·have HE5:=zi (HE4.out.trans (if_pos hp));obtain ⟨hp4,hp5⟩:=hp;have hq4:(how == 4)=true:=by simpa using hp4
  clear HE4;have hp6:(0 < tl.length∨tl.length=0∧tmet=true):=by
   rcases hnl with h0 | h0
   ·rcases hp5 with h | h
    ·exact absurd (List.eq_nil_of_length_eq_zero h0) h
    ·exact .inr ⟨h0,h⟩
   ·exact .inl h0
  clear hp5 hnl;rcases hp6 with h0 | ⟨h0,rfl⟩
  ·have d1:decide ((0:Int) < (tl.length:Int))=true:=decide_eq_true (by omega);have d2:decide (0 < tl.length)=true:=decide_eq_true h0;clear h0 hp4;go_wp2_with fail
   refine zak ?_;intro wq hwq;have Xq3:Blk wq (w.heap.size + 1 + 1) 83 #[.slice none 0 0,.slice none 0 0]:=by rw [hwq];first | exact X3 | exact X3.alloc _ | exact (X3.far (by simp;omega) _).far (by simp;omega) _
   have hbq:Below w.heap.size w wq:=by rw [hwq];first | exact hbw | exact hbw.alloc (by omega) _ | exact (hbw.setCell (by dsimp only;omega) _).setCell (by dsimp only;omega) _
   have hsq:w5.heap.size ≤ wq.heap.size:=by rw [hwq];simp
   clear hwq kX30 kX31 fX30 fX31;refine (zdc (9) wq).mono ?_;rintro e wf ⟨rfl,hbf⟩;have hsf:=hbf.size;replace Xq3:=Xq3.below hbf Xq3.lt;replace hbq:=hbq.trans (hbf.mono (by omega));obtain ⟨⟨kXq30,kXq31⟩,fXq30,fXq31⟩:=Xq3.c2;clear hbf;go_wp2_with fail
   refine zaq ?_;intro Z hZ;have XZ3:Blk Z (w.heap.size + 1 + 1) 83 #[.slice none 0 0,.slice none 0 0]:=by rw [hZ];exact (Xq3.set_ 0 _).set_ 1 _
   have hbZ:Below w.heap.size w Z:=by rw [hZ];exact (hbq.setCell (by dsimp only;omega) _).setCell (by dsimp only;omega) _
   clear hZ kXq30 kXq31 fXq30 fXq31;obtain ⟨⟨kXZ30,kXZ31⟩,-⟩:=XZ3.c2;refine bodyPost_ret (v:=.tuple #[.agg #[.slice none 0 0,.slice none 0 0],.slice none 0 0,.int .i64 0,.int .i64 (9)]) (by simp [results,Tryz.results98,go_sem, *]) rfl ?_;exact za7 (x:=zaH) (l:=[]) HE5.out rfl rfl (World.ownsRow_nil _ _ _ _) (World.ownsRow_nil _ _ _ _) rfl (World.ownsRow_nil _ _ _ _) hbZ
  ·have d1:decide ((0:Int) < (tl.length:Int))=false:=decide_eq_false (by omega);have d2:decide (0 < tl.length)=false:=decide_eq_false (by omega);clear h0 hp4;go_wp2_with fail
   refine zak ?_;intro wq hwq;have Xq3:Blk wq (w.heap.size + 1 + 1) 83 #[.slice none 0 0,.slice none 0 0]:=by rw [hwq];first | exact X3 | exact X3.alloc _ | exact (X3.far (by simp;omega) _).far (by simp;omega) _
   have hbq:Below w.heap.size w wq:=by rw [hwq];first | exact hbw | exact hbw.alloc (by omega) _ | exact (hbw.setCell (by dsimp only;omega) _).setCell (by dsimp only;omega) _
   have hsq:w5.heap.size ≤ wq.heap.size:=by rw [hwq];simp
   clear hwq kX30 kX31 fX30 fX31;refine (zdc (9) wq).mono ?_;rintro e wf ⟨rfl,hbf⟩;have hsf:=hbf.size;replace Xq3:=Xq3.below hbf Xq3.lt;replace hbq:=hbq.trans (hbf.mono (by omega));obtain ⟨⟨kXq30,kXq31⟩,fXq30,fXq31⟩:=Xq3.c2;clear hbf;go_wp2_with fail
   refine zaq ?_;intro Z hZ;have XZ3:Blk Z (w.heap.size + 1 + 1) 83 #[.slice none 0 0,.slice none 0 0]:=by rw [hZ];exact (Xq3.set_ 0 _).set_ 1 _
   have hbZ:Below w.heap.size w Z:=by rw [hZ];exact (hbq.setCell (by dsimp only;omega) _).setCell (by dsimp only;omega) _
   clear hZ kXq30 kXq31 fXq30 fXq31;obtain ⟨⟨kXZ30,kXZ31⟩,-⟩:=XZ3.c2;refine bodyPost_ret (v:=.tuple #[.agg #[.slice none 0 0,.slice none 0 0],.slice none 0 0,.int .i64 0,.int .i64 (9)]) (by simp [results,Tryz.results98,go_sem, *]) rfl ?_;exact za7 (x:=zaH) (l:=[]) HE5.out rfl rfl (World.ownsRow_nil _ _ _ _) (World.ownsRow_nil _ _ _ _) rfl (World.ownsRow_nil _ _ _ _) hbZ
 have HE5:=zi (HE4.out.trans (if_neg hp));clear HE4;have hp7:(how == 4)=false∨(how == 4)=true∧tl.length=0∧tmet=false:=by
  by_cases h4:how=4
  ·right;have h5:¬ (tl ≠ []∨tmet=true):=fun h=>hp ⟨h4,h⟩;simp only [not_or,Classical.not_not,Bool.not_eq_true] at h5;exact ⟨by simpa using h4,by rw [h5.1];rfl,h5.2⟩
  ·exact .inl (by simpa using h4)
 clear hp hnl;rcases hp7 with hq4 | ⟨hq4,h0,rfl⟩
 ·rcases (zcr tmet).symm with rfl | rfl
  ·have HE6:=zi (HE5.out.trans (if_pos rfl));clear HE5;go_wp2_with fail
   refine zak ?_;intro wq hwq;have Xq3:Blk wq (w.heap.size + 1 + 1) 83 #[.slice none 0 0,.slice none 0 0]:=by rw [hwq];first | exact X3 | exact X3.alloc _ | exact (X3.far (by simp;omega) _).far (by simp;omega) _
   have hbq:Below w.heap.size w wq:=by rw [hwq];first | exact hbw | exact hbw.alloc (by omega) _ | exact (hbw.setCell (by dsimp only;omega) _).setCell (by dsimp only;omega) _
   have hsq:w5.heap.size ≤ wq.heap.size:=by rw [hwq];simp
   clear hwq kX30 kX31 fX30 fX31;refine (zdc (11) wq).mono ?_;rintro e wf ⟨rfl,hbf⟩;have hsf:=hbf.size;replace Xq3:=Xq3.below hbf Xq3.lt;replace hbq:=hbq.trans (hbf.mono (by omega));obtain ⟨⟨kXq30,kXq31⟩,fXq30,fXq31⟩:=Xq3.c2;clear hbf;go_wp2_with fail
   refine zaq ?_;intro Z hZ;have XZ3:Blk Z (w.heap.size + 1 + 1) 83 #[.slice none 0 0,.slice none 0 0]:=by rw [hZ];exact (Xq3.set_ 0 _).set_ 1 _
   have hbZ:Below w.heap.size w Z:=by rw [hZ];exact (hbq.setCell (by dsimp only;omega) _).setCell (by dsimp only;omega) _
   clear hZ kXq30 kXq31 fXq30 fXq31;obtain ⟨⟨kXZ30,kXZ31⟩,-⟩:=XZ3.c2;refine bodyPost_ret (v:=.tuple #[.agg #[.slice none 0 0,.slice none 0 0],.slice none 0 0,.int .i64 0,.int .i64 (11)]) (by simp [results,Tryz.results98,go_sem, *]) rfl ?_;exact za7 (x:=zaH) (l:=[]) HE6.out rfl rfl (World.ownsRow_nil _ _ _ _) (World.ownsRow_nil _ _ _ _) rfl (World.ownsRow_nil _ _ _ _) hbZ
  ·have HE6:=zi (HE5.out.trans (if_neg (by simp)));clear HE5;by_cases h3:how=3∧0 < tleft
   ·have HE7:=zi (HE6.out.trans (if_pos h3));obtain ⟨h31,h32⟩:=h3;have hq3:(how == 3)=true:=by simpa using h31
    clear HE6 h31;go_wp2_with fail
    refine zak ?_;intro wq hwq;have Xq3:Blk wq (w.heap.size + 1 + 1) 83 #[.slice none 0 0,.slice none 0 0]:=by rw [hwq];first | exact X3 | exact X3.alloc _ | exact (X3.far (by simp;omega) _).far (by simp;omega) _
    have hbq:Below w.heap.size w wq:=by rw [hwq];first | exact hbw | exact hbw.alloc (by omega) _ | exact (hbw.setCell (by dsimp only;omega) _).setCell (by dsimp only;omega) _
    have hsq:w5.heap.size ≤ wq.heap.size:=by rw [hwq];simp
    clear hwq kX30 kX31 fX30 fX31;refine (zdc (10) wq).mono ?_;rintro e wf ⟨rfl,hbf⟩;have hsf:=hbf.size;replace Xq3:=Xq3.below hbf Xq3.lt;replace hbq:=hbq.trans (hbf.mono (by omega));obtain ⟨⟨kXq30,kXq31⟩,fXq30,fXq31⟩:=Xq3.c2;clear hbf;go_wp2_with fail
    refine zaq ?_;intro Z hZ;have XZ3:Blk Z (w.heap.size + 1 + 1) 83 #[.slice none 0 0,.slice none 0 0]:=by rw [hZ];exact (Xq3.set_ 0 _).set_ 1 _
    have hbZ:Below w.heap.size w Z:=by rw [hZ];exact (hbq.setCell (by dsimp only;omega) _).setCell (by dsimp only;omega) _
    clear hZ kXq30 kXq31 fXq30 fXq31;obtain ⟨⟨kXZ30,kXZ31⟩,-⟩:=XZ3.c2;refine bodyPost_ret (v:=.tuple #[.agg #[.slice none 0 0,.slice none 0 0],.slice none 0 0,.int .i64 0,.int .i64 (10)]) (by simp [results,Tryz.results98,go_sem, *]) rfl ?_;exact za7 (x:=zaH) (l:=[]) HE7.out rfl rfl (World.ownsRow_nil _ _ _ _) (World.ownsRow_nil _ _ _ _) rfl (World.ownsRow_nil _ _ _ _) hbZ
   have HE7:=zi (HE6.out.trans (if_neg h3));have h3':(how == 3)=false∨(how == 3)=true∧¬ 0 < tleft:=by
    by_cases h:how=3
    ·exact .inr ⟨by simpa using h,fun hl=>h3 ⟨h,hl⟩⟩
    ·exact .inl (by simpa using h)
   clear HE6 h3;by_cases h8:tleft=0∨how=2
   ·have HE8:=zi (HE7.out.trans (if_pos h8));have h8':(tleft == 0)=true∨(tleft == 0)=false∧(how == 2)=true:=by
     by_cases h:tleft=0
     ·exact .inl (by simpa using h)
     ·rcases h8 with h8 | h8
      ·exact absurd h8 h
      ·exact .inr ⟨by simpa using h,by simpa using h8⟩
    clear h8 HE7;rcases h3' with hq3 | ⟨hq3,hq3'⟩
    ·rcases h8' with h8' | ⟨h8',h9'⟩
     ·skip;go_wp2_with fail
      refine zaq ?_;intro Z hZ;have XZ3:Blk Z (w.heap.size + 1 + 1) 83 #[.slice P tx.bids.length p,.slice P' tx.asks.length p']:=by rw [hZ];exact ((X3.set_ 0 _).set_ 1 _).alloc _
      have hbZ:Below w.heap.size w Z:=by rw [hZ];exact ((hbw.setCell (by dsimp only;omega) _).setCell (by dsimp only;omega) _).alloc (by simp;omega) _
      have hk:∀ {e k n:Nat} {v:Value} {xs:List Value},w5.ownsRow w4.heap.size e k v n xs→Z.ownsRow w.heap.size e k v n xs:=by
       intro e k n v xs hv;rw [hZ];exact zae (World.ownsRow.alloc (ownsRow_setCell_below (ownsRow_setCell_below hv (by dsimp only;omega) _) (by dsimp only;omega) _) _) (by omega)
      clear hZ kX30 kX31 fX30 fX31;obtain ⟨⟨kXZ30,kXZ31⟩,-⟩:=XZ3.c2;refine bodyPost_ret (v:=.tuple #[.agg #[.slice P tx.bids.length p,.slice P' tx.asks.length p'],.slice AF tl.length cF,.int .i64 tleft,.int .i64 0]) (by simp [results,Tryz.results98,go_sem, *]) rfl ?_;exact za7 (x:=tx) (l:=tl) HE8.out rfl rfl (hk HOB.out.l) (hk HOB.out.r) rfl (hk HRW.out) hbZ
     ·skip;go_wp2_with fail
      refine zaq ?_;intro Z hZ;have XZ3:Blk Z (w.heap.size + 1 + 1) 83 #[.slice P tx.bids.length p,.slice P' tx.asks.length p']:=by rw [hZ];exact ((X3.set_ 0 _).set_ 1 _).alloc _
      have hbZ:Below w.heap.size w Z:=by rw [hZ];exact ((hbw.setCell (by dsimp only;omega) _).setCell (by dsimp only;omega) _).alloc (by simp;omega) _
      have hk:∀ {e k n:Nat} {v:Value} {xs:List Value},w5.ownsRow w4.heap.size e k v n xs→Z.ownsRow w.heap.size e k v n xs:=by
       intro e k n v xs hv;rw [hZ];exact zae (World.ownsRow.alloc (ownsRow_setCell_below (ownsRow_setCell_below hv (by dsimp only;omega) _) (by dsimp only;omega) _) _) (by omega)
      clear hZ kX30 kX31 fX30 fX31;obtain ⟨⟨kXZ30,kXZ31⟩,-⟩:=XZ3.c2;refine bodyPost_ret (v:=.tuple #[.agg #[.slice P tx.bids.length p,.slice P' tx.asks.length p'],.slice AF tl.length cF,.int .i64 tleft,.int .i64 0]) (by simp [results,Tryz.results98,go_sem, *]) rfl ?_;exact za7 (x:=tx) (l:=tl) HE8.out rfl rfl (hk HOB.out.l) (hk HOB.out.r) rfl (hk HRW.out) hbZ
    ·rcases h8' with h8' | ⟨h8',h9'⟩
     ·skip;go_wp2_with fail
      refine zaq ?_;intro Z hZ;have XZ3:Blk Z (w.heap.size + 1 + 1) 83 #[.slice P tx.bids.length p,.slice P' tx.asks.length p']:=by rw [hZ];exact ((X3.set_ 0 _).set_ 1 _).alloc _
      have hbZ:Below w.heap.size w Z:=by rw [hZ];exact ((hbw.setCell (by dsimp only;omega) _).setCell (by dsimp only;omega) _).alloc (by simp;omega) _
      have hk:∀ {e k n:Nat} {v:Value} {xs:List Value},w5.ownsRow w4.heap.size e k v n xs→Z.ownsRow w.heap.size e k v n xs:=by
       intro e k n v xs hv;rw [hZ];exact zae (World.ownsRow.alloc (ownsRow_setCell_below (ownsRow_setCell_below hv (by dsimp only;omega) _) (by dsimp only;omega) _) _) (by omega)
      clear hZ kX30 kX31 fX30 fX31;obtain ⟨⟨kXZ30,kXZ31⟩,-⟩:=XZ3.c2;refine bodyPost_ret (v:=.tuple #[.agg #[.slice P tx.bids.length p,.slice P' tx.asks.length p'],.slice AF tl.length cF,.int .i64 tleft,.int .i64 0]) (by simp [results,Tryz.results98,go_sem, *]) rfl ?_;exact za7 (x:=tx) (l:=tl) HE8.out rfl rfl (hk HOB.out.l) (hk HOB.out.r) rfl (hk HRW.out) hbZ
     ·skip;go_wp2_with fail
      refine zaq ?_;intro Z hZ;have XZ3:Blk Z (w.heap.size + 1 + 1) 83 #[.slice P tx.bids.length p,.slice P' tx.asks.length p']:=by rw [hZ];exact ((X3.set_ 0 _).set_ 1 _).alloc _
      have hbZ:Below w.heap.size w Z:=by rw [hZ];exact ((hbw.setCell (by dsimp only;omega) _).setCell (by dsimp only;omega) _).alloc (by simp;omega) _
      have hk:∀ {e k n:Nat} {v:Value} {xs:List Value},w5.ownsRow w4.heap.size e k v n xs→Z.ownsRow w.heap.size e k v n xs:=by
       intro e k n v xs hv;rw [hZ];exact zae (World.ownsRow.alloc (ownsRow_setCell_below (ownsRow_setCell_below hv (by dsimp only;omega) _) (by dsimp only;omega) _) _) (by omega)
      clear hZ kX30 kX31 fX30 fX31;obtain ⟨⟨kXZ30,kXZ31⟩,-⟩:=XZ3.c2;refine bodyPost_ret (v:=.tuple #[.agg #[.slice P tx.bids.length p,.slice P' tx.asks.length p'],.slice AF tl.length cF,.int .i64 tleft,.int .i64 0]) (by simp [results,Tryz.results98,go_sem, *]) rfl ?_;exact za7 (x:=tx) (l:=tl) HE8.out rfl rfl (hk HOB.out.l) (hk HOB.out.r) rfl (hk HRW.out) hbZ
   have HE8:=zi (HE7.out.trans (if_neg h8));have h8':(tleft == 0)=false∧(how == 2)=false:=⟨by simp;omega,by simp;omega⟩;have htp:0 < tleft:=by omega
   obtain ⟨h8a,h8b⟩:=h8';have hq3:(how == 3)=false:=by
    rcases h3' with h | ⟨_,h⟩
    ·exact h
    ·exact absurd htp h
   clear h3' h8 HE7;obtain ⟨rx,re,hrest⟩:=zlp tx { o with qty:=tleft };have HE9:=zi (show zcs b o how=if re ≠ 0 then (zaH,[],0,re) else (rx,tl,0,0) by rw [HE8.out,hrest]);have HRS:=zi hrest;have fX24:=X2.frozen 4;clear hrest HE8;go_wp2_with fail
   refine zak ?_;intro w6 hw6;have hs6:w6.heap.size=w5.heap.size + 1:=by rw [hw6];simp
   have V3:Blk w6 (w.heap.size + 1 + 1) 83 #[.slice none 0 0,.slice none 0 0]:=by rw [hw6];exact (X3.far (by simp) _).alloc _
   have V12:Blk w6 w5.heap.size 83 #[.slice P tx.bids.length p,.slice P' tx.asks.length p']:=by rw [hw6];exact Blk.new_at _ _ _ _ (by simp)
   have hb6:Below w.heap.size w w6:=by rw [hw6];exact (hbw.setCell (by dsimp only;omega) _).alloc (by simp;omega) _
   have HO6:OBk w6 w4.heap.size P P' p p' tx:=by rw [hw6];exact (HOB.out.set (by dsimp only;omega) _).alloc _
   have HR6:w6.ownsRow w4.heap.size 55 7 (.slice AF tl.length cF) tl.length (zaJ tl):=by rw [hw6];exact World.ownsRow.alloc (ownsRow_setCell_below HRW.out (by dsimp only;omega) _) _
   have HFB:=zi (fun g h=>World.ownsRow.lt HRW.out g h);clear hw6 X3 X2 kX20 kX21 kX22 kX23 kX24 fX24 kX30 kX31 fX30 fX31 HOB HRW;refine (zmE tx { o with qty:=tleft } P P' p p' w6.heap.size w6 HRS.out HO6.read (zl _) HLN.out.1 HLN.out.2).mono ?_;rintro e w7 ⟨v,rfl,hown,hb7⟩;obtain ⟨Q,q,Q',q',rfl,H7⟩:=hown.obk;have hs7:=hb7.size;have X3:=V3.below hb7 V3.lt;replace V12:=V12.below hb7 V12.lt;have hbw:=hb6.trans (hb7.mono (by omega));have HR7:=zi (zaf HR6 hb7 (zl _));clear hown hb7 V3 HO6 HR6 hb6;obtain ⟨⟨kX30,kX31⟩,fX30,fX31⟩:=X3.c2;obtain ⟨⟨kV120,kV121⟩,fV120,fV121⟩:=V12.c2;have x12:w5.heap.size < w7.heap.size:=by omega
   by_cases her:re=0
   rotate_left
   ·have HEA:=zi (HE9.out.trans (if_pos her));have her':(re != 0)=true:=by simpa using her
    clear her HE9;go_wp2_with fail
    refine zak ?_;intro wq hwq;have Xq3:Blk wq (w.heap.size + 1 + 1) 83 #[.slice none 0 0,.slice none 0 0]:=by rw [hwq];first | exact X3 | exact X3.alloc _ | exact (X3.far (by simp;omega) _).far (by simp;omega) _
    have hbq:Below w.heap.size w wq:=by rw [hwq];first | exact hbw | exact hbw.alloc (by omega) _ | exact (hbw.setCell (by dsimp only;omega) _).setCell (by dsimp only;omega) _
    have hsq:w7.heap.size ≤ wq.heap.size:=by rw [hwq];simp
    clear hwq kX30 kX31 fX30 fX31;refine (zdc (re) wq).mono ?_;rintro e wf ⟨rfl,hbf⟩;have hsf:=hbf.size;replace Xq3:=Xq3.below hbf Xq3.lt;replace hbq:=hbq.trans (hbf.mono (by omega));obtain ⟨⟨kXq30,kXq31⟩,fXq30,fXq31⟩:=Xq3.c2;clear hbf;go_wp2_with fail
    refine zaq ?_;intro Z hZ;have XZ3:Blk Z (w.heap.size + 1 + 1) 83 #[.slice none 0 0,.slice none 0 0]:=by rw [hZ];exact (Xq3.set_ 0 _).set_ 1 _
    have hbZ:Below w.heap.size w Z:=by rw [hZ];exact (hbq.setCell (by dsimp only;omega) _).setCell (by dsimp only;omega) _
    clear hZ kXq30 kXq31 fXq30 fXq31;obtain ⟨⟨kXZ30,kXZ31⟩,-⟩:=XZ3.c2;refine bodyPost_ret (v:=.tuple #[.agg #[.slice none 0 0,.slice none 0 0],.slice none 0 0,.int .i64 0,.int .i64 (re)]) (by simp [results,Tryz.results98,go_sem, *]) rfl ?_;exact za7 (x:=zaH) (l:=[]) HEA.out rfl rfl (World.ownsRow_nil _ _ _ _) (World.ownsRow_nil _ _ _ _) rfl (World.ownsRow_nil _ _ _ _) hbZ
   ·have HEA:=zi (HE9.out.trans (if_neg (by omega)));subst her;clear HE9;have hne:¬ (w.heap.size + 1 + 1=w5.heap.size):=by omega
    go_wp2_with fail
    refine zaq ?_;intro Z hZ;have XZ3:Blk Z (w.heap.size + 1 + 1) 83 #[.slice Q rx.bids.length q,.slice Q' rx.asks.length q']:=by rw [hZ];exact (((X3.far (by simp;omega) _).far (by simp;omega) _).set_ 0 _).set_ 1 _
    have hbZ:Below w.heap.size w Z:=by rw [hZ];exact (((hbw.setCell (by dsimp only;omega) _).setCell (by dsimp only;omega) _).setCell (by dsimp only;omega) _).setCell (by dsimp only;omega) _
    have hk:∀ {e k n B:Nat} {v:Value} {xs:List Value},w5.heap.size < B→w7.ownsRow B e k v n xs→Z.ownsRow w.heap.size e k v n xs:=by
     intro e k n B v xs hB hv;rw [hZ];exact zae (ownsRow_setCell_below (ownsRow_setCell_below (ownsRow_setCell_below (ownsRow_setCell_below hv (by dsimp only;omega) _) (by dsimp only;omega) _) (by dsimp only;omega) _) (by dsimp only;omega) _) (by omega)
    have hk2:Z.ownsRow w.heap.size 55 7 (.slice AF tl.length cF) tl.length (zaJ tl):=by
     rw [hZ];exact zae (zfh (zfh (zfh (zfh HR7.out (fun g h e=>by have:=HFB.out g h;dsimp only at e;omega) _) (fun g h e=>by have:=HFB.out g h;dsimp only at e;omega) _) (fun g h e=>by have:=HFB.out g h;dsimp only at e;omega) _) (fun g h e=>by have:=HFB.out g h;dsimp only at e;omega) _) (by omega)
    clear hZ kX30 kX31 fX30 fX31 kV120 kV121 fV120 fV121;obtain ⟨⟨kXZ30,kXZ31⟩,-⟩:=XZ3.c2;refine bodyPost_ret (v:=.tuple #[.agg #[.slice Q rx.bids.length q,.slice Q' rx.asks.length q'],.slice AF tl.length cF,.int .i64 0,.int .i64 0]) (by simp [results,Tryz.results98,go_sem, *]) rfl ?_;exact za7 (x:=rx) (l:=tl) HEA.out rfl rfl (hk (by omega) H7.l) (hk (by omega) H7.r) rfl hk2 hbZ
 ·have d1:decide ((0:Int) < (tl.length:Int))=false:=decide_eq_false (by omega);have d2:decide (0 < tl.length)=false:=decide_eq_false (by omega);have HE6:=zi (HE5.out.trans (if_neg (by simp)));clear HE5 h0;by_cases h3:how=3∧0 < tleft
  ·have HE7:=zi (HE6.out.trans (if_pos h3));obtain ⟨h31,h32⟩:=h3;have hq3:(how == 3)=true:=by simpa using h31
   clear HE6 h31;go_wp2_with fail
   refine zak ?_;intro wq hwq;have Xq3:Blk wq (w.heap.size + 1 + 1) 83 #[.slice none 0 0,.slice none 0 0]:=by rw [hwq];first | exact X3 | exact X3.alloc _ | exact (X3.far (by simp;omega) _).far (by simp;omega) _
   have hbq:Below w.heap.size w wq:=by rw [hwq];first | exact hbw | exact hbw.alloc (by omega) _ | exact (hbw.setCell (by dsimp only;omega) _).setCell (by dsimp only;omega) _
   have hsq:w5.heap.size ≤ wq.heap.size:=by rw [hwq];simp
   clear hwq kX30 kX31 fX30 fX31;refine (zdc (10) wq).mono ?_;rintro e wf ⟨rfl,hbf⟩;have hsf:=hbf.size;replace Xq3:=Xq3.below hbf Xq3.lt;replace hbq:=hbq.trans (hbf.mono (by omega));obtain ⟨⟨kXq30,kXq31⟩,fXq30,fXq31⟩:=Xq3.c2;clear hbf;go_wp2_with fail
   refine zaq ?_;intro Z hZ;have XZ3:Blk Z (w.heap.size + 1 + 1) 83 #[.slice none 0 0,.slice none 0 0]:=by rw [hZ];exact (Xq3.set_ 0 _).set_ 1 _
   have hbZ:Below w.heap.size w Z:=by rw [hZ];exact (hbq.setCell (by dsimp only;omega) _).setCell (by dsimp only;omega) _
   clear hZ kXq30 kXq31 fXq30 fXq31;obtain ⟨⟨kXZ30,kXZ31⟩,-⟩:=XZ3.c2;refine bodyPost_ret (v:=.tuple #[.agg #[.slice none 0 0,.slice none 0 0],.slice none 0 0,.int .i64 0,.int .i64 (10)]) (by simp [results,Tryz.results98,go_sem, *]) rfl ?_;exact za7 (x:=zaH) (l:=[]) HE7.out rfl rfl (World.ownsRow_nil _ _ _ _) (World.ownsRow_nil _ _ _ _) rfl (World.ownsRow_nil _ _ _ _) hbZ
  have HE7:=zi (HE6.out.trans (if_neg h3));have h3':(how == 3)=false∨(how == 3)=true∧¬ 0 < tleft:=by
   by_cases h:how=3
   ·exact .inr ⟨by simpa using h,fun hl=>h3 ⟨h,hl⟩⟩
   ·exact .inl (by simpa using h)
  clear HE6 h3;by_cases h8:tleft=0∨how=2
  ·have HE8:=zi (HE7.out.trans (if_pos h8));have h8':(tleft == 0)=true∨(tleft == 0)=false∧(how == 2)=true:=by
    by_cases h:tleft=0
    ·exact .inl (by simpa using h)
    ·rcases h8 with h8 | h8
     ·exact absurd h8 h
     ·exact .inr ⟨by simpa using h,by simpa using h8⟩
   clear h8 HE7;rcases h3' with hq3 | ⟨hq3,hq3'⟩
   ·rcases h8' with h8' | ⟨h8',h9'⟩
    ·skip;go_wp2_with fail
     refine zaq ?_;intro Z hZ;have XZ3:Blk Z (w.heap.size + 1 + 1) 83 #[.slice P tx.bids.length p,.slice P' tx.asks.length p']:=by rw [hZ];exact ((X3.set_ 0 _).set_ 1 _).alloc _
     have hbZ:Below w.heap.size w Z:=by rw [hZ];exact ((hbw.setCell (by dsimp only;omega) _).setCell (by dsimp only;omega) _).alloc (by simp;omega) _
     have hk:∀ {e k n:Nat} {v:Value} {xs:List Value},w5.ownsRow w4.heap.size e k v n xs→Z.ownsRow w.heap.size e k v n xs:=by
      intro e k n v xs hv;rw [hZ];exact zae (World.ownsRow.alloc (ownsRow_setCell_below (ownsRow_setCell_below hv (by dsimp only;omega) _) (by dsimp only;omega) _) _) (by omega)
     clear hZ kX30 kX31 fX30 fX31;obtain ⟨⟨kXZ30,kXZ31⟩,-⟩:=XZ3.c2;refine bodyPost_ret (v:=.tuple #[.agg #[.slice P tx.bids.length p,.slice P' tx.asks.length p'],.slice AF tl.length cF,.int .i64 tleft,.int .i64 0]) (by simp [results,Tryz.results98,go_sem, *]) rfl ?_;exact za7 (x:=tx) (l:=tl) HE8.out rfl rfl (hk HOB.out.l) (hk HOB.out.r) rfl (hk HRW.out) hbZ
    ·skip;go_wp2_with fail
     refine zaq ?_;intro Z hZ;have XZ3:Blk Z (w.heap.size + 1 + 1) 83 #[.slice P tx.bids.length p,.slice P' tx.asks.length p']:=by rw [hZ];exact ((X3.set_ 0 _).set_ 1 _).alloc _
     have hbZ:Below w.heap.size w Z:=by rw [hZ];exact ((hbw.setCell (by dsimp only;omega) _).setCell (by dsimp only;omega) _).alloc (by simp;omega) _
     have hk:∀ {e k n:Nat} {v:Value} {xs:List Value},w5.ownsRow w4.heap.size e k v n xs→Z.ownsRow w.heap.size e k v n xs:=by
      intro e k n v xs hv;rw [hZ];exact zae (World.ownsRow.alloc (ownsRow_setCell_below (ownsRow_setCell_below hv (by dsimp only;omega) _) (by dsimp only;omega) _) _) (by omega)
     clear hZ kX30 kX31 fX30 fX31;obtain ⟨⟨kXZ30,kXZ31⟩,-⟩:=XZ3.c2;refine bodyPost_ret (v:=.tuple #[.agg #[.slice P tx.bids.length p,.slice P' tx.asks.length p'],.slice AF tl.length cF,.int .i64 tleft,.int .i64 0]) (by simp [results,Tryz.results98,go_sem, *]) rfl ?_;exact za7 (x:=tx) (l:=tl) HE8.out rfl rfl (hk HOB.out.l) (hk HOB.out.r) rfl (hk HRW.out) hbZ
   ·rcases h8' with h8' | ⟨h8',h9'⟩
    ·skip;go_wp2_with fail
     refine zaq ?_;intro Z hZ;have XZ3:Blk Z (w.heap.size + 1 + 1) 83 #[.slice P tx.bids.length p,.slice P' tx.asks.length p']:=by rw [hZ];exact ((X3.set_ 0 _).set_ 1 _).alloc _
     have hbZ:Below w.heap.size w Z:=by rw [hZ];exact ((hbw.setCell (by dsimp only;omega) _).setCell (by dsimp only;omega) _).alloc (by simp;omega) _
     have hk:∀ {e k n:Nat} {v:Value} {xs:List Value},w5.ownsRow w4.heap.size e k v n xs→Z.ownsRow w.heap.size e k v n xs:=by
      intro e k n v xs hv;rw [hZ];exact zae (World.ownsRow.alloc (ownsRow_setCell_below (ownsRow_setCell_below hv (by dsimp only;omega) _) (by dsimp only;omega) _) _) (by omega)
     clear hZ kX30 kX31 fX30 fX31;obtain ⟨⟨kXZ30,kXZ31⟩,-⟩:=XZ3.c2;refine bodyPost_ret (v:=.tuple #[.agg #[.slice P tx.bids.length p,.slice P' tx.asks.length p'],.slice AF tl.length cF,.int .i64 tleft,.int .i64 0]) (by simp [results,Tryz.results98,go_sem, *]) rfl ?_;exact za7 (x:=tx) (l:=tl) HE8.out rfl rfl (hk HOB.out.l) (hk HOB.out.r) rfl (hk HRW.out) hbZ
    ·skip;go_wp2_with fail
     refine zaq ?_;intro Z hZ;have XZ3:Blk Z (w.heap.size + 1 + 1) 83 #[.slice P tx.bids.length p,.slice P' tx.asks.length p']:=by rw [hZ];exact ((X3.set_ 0 _).set_ 1 _).alloc _
     have hbZ:Below w.heap.size w Z:=by rw [hZ];exact ((hbw.setCell (by dsimp only;omega) _).setCell (by dsimp only;omega) _).alloc (by simp;omega) _
     have hk:∀ {e k n:Nat} {v:Value} {xs:List Value},w5.ownsRow w4.heap.size e k v n xs→Z.ownsRow w.heap.size e k v n xs:=by
      intro e k n v xs hv;rw [hZ];exact zae (World.ownsRow.alloc (ownsRow_setCell_below (ownsRow_setCell_below hv (by dsimp only;omega) _) (by dsimp only;omega) _) _) (by omega)
     clear hZ kX30 kX31 fX30 fX31;obtain ⟨⟨kXZ30,kXZ31⟩,-⟩:=XZ3.c2;refine bodyPost_ret (v:=.tuple #[.agg #[.slice P tx.bids.length p,.slice P' tx.asks.length p'],.slice AF tl.length cF,.int .i64 tleft,.int .i64 0]) (by simp [results,Tryz.results98,go_sem, *]) rfl ?_;exact za7 (x:=tx) (l:=tl) HE8.out rfl rfl (hk HOB.out.l) (hk HOB.out.r) rfl (hk HRW.out) hbZ
  have HE8:=zi (HE7.out.trans (if_neg h8));have h8':(tleft == 0)=false∧(how == 2)=false:=⟨by simp;omega,by simp;omega⟩;have htp:0 < tleft:=by omega
  obtain ⟨h8a,h8b⟩:=h8';have hq3:(how == 3)=false:=by
   rcases h3' with h | ⟨_,h⟩
   ·exact h
   ·exact absurd htp h
  clear h3' h8 HE7;obtain ⟨rx,re,hrest⟩:=zlp tx { o with qty:=tleft };have HE9:=zi (show zcs b o how=if re ≠ 0 then (zaH,[],0,re) else (rx,tl,0,0) by rw [HE8.out,hrest]);have HRS:=zi hrest;have fX24:=X2.frozen 4;clear hrest HE8;go_wp2_with fail
  refine zak ?_;intro w6 hw6;have hs6:w6.heap.size=w5.heap.size + 1:=by rw [hw6];simp
  have V3:Blk w6 (w.heap.size + 1 + 1) 83 #[.slice none 0 0,.slice none 0 0]:=by rw [hw6];exact (X3.far (by simp) _).alloc _
  have V12:Blk w6 w5.heap.size 83 #[.slice P tx.bids.length p,.slice P' tx.asks.length p']:=by rw [hw6];exact Blk.new_at _ _ _ _ (by simp)
  have hb6:Below w.heap.size w w6:=by rw [hw6];exact (hbw.setCell (by dsimp only;omega) _).alloc (by simp;omega) _
  have HO6:OBk w6 w4.heap.size P P' p p' tx:=by rw [hw6];exact (HOB.out.set (by dsimp only;omega) _).alloc _
  have HR6:w6.ownsRow w4.heap.size 55 7 (.slice AF tl.length cF) tl.length (zaJ tl):=by rw [hw6];exact World.ownsRow.alloc (ownsRow_setCell_below HRW.out (by dsimp only;omega) _) _
  have HFB:=zi (fun g h=>World.ownsRow.lt HRW.out g h);clear hw6 X3 X2 kX20 kX21 kX22 kX23 kX24 fX24 kX30 kX31 fX30 fX31 HOB HRW;refine (zmE tx { o with qty:=tleft } P P' p p' w6.heap.size w6 HRS.out HO6.read (zl _) HLN.out.1 HLN.out.2).mono ?_;rintro e w7 ⟨v,rfl,hown,hb7⟩;obtain ⟨Q,q,Q',q',rfl,H7⟩:=hown.obk;have hs7:=hb7.size;have X3:=V3.below hb7 V3.lt;replace V12:=V12.below hb7 V12.lt;have hbw:=hb6.trans (hb7.mono (by omega));have HR7:=zi (zaf HR6 hb7 (zl _));clear hown hb7 V3 HO6 HR6 hb6;obtain ⟨⟨kX30,kX31⟩,fX30,fX31⟩:=X3.c2;obtain ⟨⟨kV120,kV121⟩,fV120,fV121⟩:=V12.c2;have x12:w5.heap.size < w7.heap.size:=by omega
  by_cases her:re=0
  rotate_left
  ·have HEA:=zi (HE9.out.trans (if_pos her));have her':(re != 0)=true:=by simpa using her
   clear her HE9;go_wp2_with fail
   refine zak ?_;intro wq hwq;have Xq3:Blk wq (w.heap.size + 1 + 1) 83 #[.slice none 0 0,.slice none 0 0]:=by rw [hwq];first | exact X3 | exact X3.alloc _ | exact (X3.far (by simp;omega) _).far (by simp;omega) _
   have hbq:Below w.heap.size w wq:=by rw [hwq];first | exact hbw | exact hbw.alloc (by omega) _ | exact (hbw.setCell (by dsimp only;omega) _).setCell (by dsimp only;omega) _
   have hsq:w7.heap.size ≤ wq.heap.size:=by rw [hwq];simp
   clear hwq kX30 kX31 fX30 fX31;refine (zdc (re) wq).mono ?_;rintro e wf ⟨rfl,hbf⟩;have hsf:=hbf.size;replace Xq3:=Xq3.below hbf Xq3.lt;replace hbq:=hbq.trans (hbf.mono (by omega));obtain ⟨⟨kXq30,kXq31⟩,fXq30,fXq31⟩:=Xq3.c2;clear hbf;go_wp2_with fail
   refine zaq ?_;intro Z hZ;have XZ3:Blk Z (w.heap.size + 1 + 1) 83 #[.slice none 0 0,.slice none 0 0]:=by rw [hZ];exact (Xq3.set_ 0 _).set_ 1 _
   have hbZ:Below w.heap.size w Z:=by rw [hZ];exact (hbq.setCell (by dsimp only;omega) _).setCell (by dsimp only;omega) _
   clear hZ kXq30 kXq31 fXq30 fXq31;obtain ⟨⟨kXZ30,kXZ31⟩,-⟩:=XZ3.c2;refine bodyPost_ret (v:=.tuple #[.agg #[.slice none 0 0,.slice none 0 0],.slice none 0 0,.int .i64 0,.int .i64 (re)]) (by simp [results,Tryz.results98,go_sem, *]) rfl ?_;exact za7 (x:=zaH) (l:=[]) HEA.out rfl rfl (World.ownsRow_nil _ _ _ _) (World.ownsRow_nil _ _ _ _) rfl (World.ownsRow_nil _ _ _ _) hbZ
  ·have HEA:=zi (HE9.out.trans (if_neg (by omega)));subst her;clear HE9;have hne:¬ (w.heap.size + 1 + 1=w5.heap.size):=by omega
   go_wp2_with fail
   refine zaq ?_;intro Z hZ;have XZ3:Blk Z (w.heap.size + 1 + 1) 83 #[.slice Q rx.bids.length q,.slice Q' rx.asks.length q']:=by rw [hZ];exact (((X3.far (by simp;omega) _).far (by simp;omega) _).set_ 0 _).set_ 1 _
   have hbZ:Below w.heap.size w Z:=by rw [hZ];exact (((hbw.setCell (by dsimp only;omega) _).setCell (by dsimp only;omega) _).setCell (by dsimp only;omega) _).setCell (by dsimp only;omega) _
   have hk:∀ {e k n B:Nat} {v:Value} {xs:List Value},w5.heap.size < B→w7.ownsRow B e k v n xs→Z.ownsRow w.heap.size e k v n xs:=by
    intro e k n B v xs hB hv;rw [hZ];exact zae (ownsRow_setCell_below (ownsRow_setCell_below (ownsRow_setCell_below (ownsRow_setCell_below hv (by dsimp only;omega) _) (by dsimp only;omega) _) (by dsimp only;omega) _) (by dsimp only;omega) _) (by omega)
   have hk2:Z.ownsRow w.heap.size 55 7 (.slice AF tl.length cF) tl.length (zaJ tl):=by
    rw [hZ];exact zae (zfh (zfh (zfh (zfh HR7.out (fun g h e=>by have:=HFB.out g h;dsimp only at e;omega) _) (fun g h e=>by have:=HFB.out g h;dsimp only at e;omega) _) (fun g h e=>by have:=HFB.out g h;dsimp only at e;omega) _) (fun g h e=>by have:=HFB.out g h;dsimp only at e;omega) _) (by omega)
   clear hZ kX30 kX31 fX30 fX31 kV120 kV121 fV120 fV121;obtain ⟨⟨kXZ30,kXZ31⟩,-⟩:=XZ3.c2;refine bodyPost_ret (v:=.tuple #[.agg #[.slice Q rx.bids.length q,.slice Q' rx.asks.length q'],.slice AF tl.length cF,.int .i64 0,.int .i64 0]) (by simp [results,Tryz.results98,go_sem, *]) rfl ?_;exact za7 (x:=rx) (l:=tl) HEA.out rfl rfl (hk (by omega) H7.l) (hk (by omega) H7.r) rfl hk2 hbZ
end
end Go.Proofs.YtockodmbhnlheaaGreatDoor
