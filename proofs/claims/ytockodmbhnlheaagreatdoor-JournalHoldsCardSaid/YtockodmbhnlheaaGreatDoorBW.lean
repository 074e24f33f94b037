import Derived.Test.YtockodmbhnlheaaGreatDoorBV
namespace Go.Proofs.YtockodmbhnlheaaGreatDoor
section
open Go.RowKit
theorem zlI {P:Program} {ops:Array Oper} {o:Oper} {a:Act} {w:World} {K:Act→World→Prop} {Q:Exit→Act→World→Prop} {X:Prop} (hgd:o.guard=none) (s x:Operand) (t u:TypeId)
  (ho:o.op=.call { callee:=.builtin .append,args:=#[s,x],argTypes:=#[t,u] })
  (base e:Nat) (hu:P.underlying u=some .string) (E:Elem P t e 1 1) (hz:∀ i,P.info? e=some i→i.zero=some (.int .u8 0)) (v:Value) (n:Nat) (xs:List UInt8) (hs:a.eval s=v) (hown:w.ownsRow base e 1 v n (u8s xs))
  (l:List UInt8) (hx:a.eval x=.string (bs l)) (hbytes:n + l.length ≤ 140737488355328) (hbase:base ≤ w.heap.size)
  (h:∀ v' w',w'.ownsRow base e 1 v' (n + l.length) (u8s (xs ++ l))→Below base w w'→w.grownBy w' v.ownBlock→K (a.put o.dst v') w') :
  if Region.wanted o (yielded ops a.tmps)=true then Oper.wp P o a w K Q else X:=by
 have hw:Region.wanted o (yielded ops a.tmps)=true:=by simp [Region.wanted,hgd]
 rw [if_pos hw];obtain ⟨i,z,hi,hz',hsize,hby,hzs⟩:=E.hi;obtain ⟨v',w',hrun,h2,h3,-⟩:=Lib.run_append_own_string (P:=P) w base t u o.type e i E.ht hu hi (hz i hi) hsize hby v n (u8s xs) hown (bs l) (by rw [zcP];unfold maxLen;omega) (by rw [zcP];omega) hbase;rw [zcP,zts,← ziD] at h2;unfold Oper.wp execOp;simp only [ho,resolve,invoke,builtin,Sem.run_bind,Sem.run_pure,Result.andThen_ok,List.map_toArray,List.map_cons,List.map_nil,hs,hx,hrun];exact h v' w' h2 (zhc hown h3 hbase) h3
theorem zof:∀ i,Tryz.prog.info? 5=some i→i.zero=some (.int .u8 0):=by
 have h:(Tryz.prog.info? 5).map (·.zero)=some (some (.int .u8 0)):=by kernel_rfl
 intro i hi;rw [hi] at h;simpa using h
theorem zrd {c:Cm} {t:List UInt8} {k:Int} (h:zaI c=(t,k)) (hf:FitC c) (hk:k=0):t.length ≤ 176:=by
 obtain ⟨h1,h2⟩:=zmC (c:=c) (by rw [h];exact hk);rw [h] at h2;dsimp only at h2;rw [h2];exact (zj0 h1 hf).2.2
theorem zaL {w0 W:World} (h:Below w0.heap.size w0 W) (o:Obj):Below w0.heap.size w0 (W.alloc o):=h.alloc h.size o
theorem zog {w:World} {g:Nat} {t:TypeId} {u:Value} (h:Blk w g t #[u]):Rd w (g + 1) 1 (some ⟨g,0,none⟩) 1 1 [u] :=
 ⟨rfl,zl _,by decide,nofun,fun _=>⟨_,_,rfl,by omega,fun j u' hj=>by
  have h0:=h.cell 0;cases j with
  | zero=>simp only [List.getElem?_cons_zero,Option.some.injEq] at hj;subst hj;simpa using h0
  | succ j=>simp at hj⟩⟩
set_option maxHeartbeats 2000000 in
set_option maxRecDepth 100000 in
theorem zha (d:Dsk) (cm:Cm) (A A':Option Addr) (c c' B:Nat) (w:World) (h:DkR w B A A' c c' d) (hB:B ≤ w.heap.size) (he:Env w) (hf:FitC cm) :
  Calls Tryz.prog 5 #[.agg #[.slice A d.safe.length c,.slice A' d.wait.length c'],.agg #[.int .i64 cm.kind,.int .i64 cm.acc,.int .i64 cm.market,.int .i64 cm.n,.int .i64 cm.o.id,.int .i64 cm.o.acc,.int .i64 cm.o.side,.int .i64 cm.o.price,.int .i64 cm.o.qty,.int .i64 cm.how,.bool cm.reduce]] w (zm1 w (putD d cm)):=by
 have HE:=zi he;have HR:=zi h;have HF:=zi hf;obtain ⟨t,k,hpr⟩:∃ t k,zaI cm=(t,k):=⟨_,_,rfl⟩;have HP:=zi (fun w he=>zlV cm w he hf);have HD:=zi (show putD d cm=if dErr d ≠ 0 then (zcq,dErr d) else if (zaI cm).2 ≠ 0 then (zcq,(zaI cm).2)
  else if 20000 < d.safe.length + d.wait.length + (zaI cm).1.length + 1 then (zcq,7) else (⟨d.safe,d.wait ++ (zaI cm).1 ++ [10]⟩,0) from rfl)
 have HTL:=zi (fun hk=>zrd hpr hf hk);rw [hpr] at HP HD;dsimp only at HP HD;have HOK:=zi (fun hz=>(zfI (d:=d)).1 hz);have hcap:=h.s.cap;have hle:=h.s.le;have hcap':=h.t.cap;have hle':=h.t.le;simp only [maxLen] at hcap hcap';clear he h hf hpr;go_enter Tryz.func5,Tryz.ntmps5
 go_upto_region 1 with (fail)
 refine zaQ ?_;intro w1 hw1;have X1:Blk w1 w.heap.size 30 #[.slice A d.safe.length c,.slice A' d.wait.length c']:=by rw [hw1];exact ((Blk.new w _ _).alloc _).alloc _
 have X3:Blk w1 (w.heap.size + 1) 34 #[.int .i64 cm.kind,.int .i64 cm.acc,.int .i64 cm.market,.int .i64 cm.n,.int .i64 cm.o.id,.int .i64 cm.o.acc,.int .i64 cm.o.side,.int .i64 cm.o.price,.int .i64 cm.o.qty,.int .i64 cm.how,.bool cm.reduce]:=by
  rw [hw1];refine Blk.alloc ?_ _;have:=Blk.new (w.alloc (.cells #[.slice A d.safe.length c,.slice A' d.wait.length c'] 30)) 34 #[.int .i64 cm.kind,.int .i64 cm.acc,.int .i64 cm.market,.int .i64 cm.n,.int .i64 cm.o.id,.int .i64 cm.o.acc,.int .i64 cm.o.side,.int .i64 cm.o.price,.int .i64 cm.o.qty,.int .i64 cm.how,.bool cm.reduce];simpa using this
 have X2:Blk w1 (w.heap.size + 1 + 1) 30 #[.slice none 0 0,.slice none 0 0]:=by
  rw [hw1];have:=Blk.new ((w.alloc (.cells #[.slice A d.safe.length c,.slice A' d.wait.length c'] 30)).alloc (.cells #[.int .i64 cm.kind,.int .i64 cm.acc,.int .i64 cm.market,.int .i64 cm.n,.int .i64 cm.o.id,.int .i64 cm.o.acc,.int .i64 cm.o.side,.int .i64 cm.o.price,.int .i64 cm.o.qty,.int .i64 cm.how,.bool cm.reduce] 34)) 30 #[.slice none 0 0,.slice none 0 0];simpa using this
 have HB1:Hid (Below w.heap.size w w1):=by rw [hw1];exact zi ((((Below.refl _ _).alloc (zl _) _).alloc (by simp) _).alloc (by simp;omega) _)
 clear hw1;obtain ⟨k0,k1⟩:=zaV X1;go_wp2_with fail
 refine (zeh d A A' c c' B w1 (HR.out.below (HB1.out.mono hB)) (Nat.le_trans hB HB1.out.size) (HE.out.next HB1.out)).mono ?_;rintro e w2 ⟨rfl,hb2⟩;clear k0 k1;replace X1:=X1.below hb2 X1.lt;replace X2:=X2.below hb2 X2.lt;replace X3:=X3.below hb2 X3.lt;have HB2:=zi (HB1.out.trans (hb2.mono HB1.out.size));clear hb2 HB1;by_cases h0:dErr d=0
 rotate_left
 ·have HZ:=zi (HD.out.trans (if_pos h0));have d0:(dErr d != 0)=true:=by simpa using h0
  clear HD HOK h0 X1 X3;obtain ⟨⟨m0,m1⟩,f0,f1⟩:=zc6 X2;generalize dErr d=k at HZ d0;go_wp2_with fail
  refine zaA ?_;intro Z hZ;obtain ⟨XZ,hbZ⟩:=zeb X2 HB2.out (by omega) (.slice none 0 0) (.slice none 0 0);rw [← hZ] at XZ hbZ;clear hZ m0 m1 f0 f1;obtain ⟨z0,z1⟩:=zaV XZ;refine bodyPost_ret (v:=.tuple #[.agg #[.slice none 0 0,.slice none 0 0],.int .i64 k]) (by simp [results,Tryz.results5,go_sem, *]) rfl ?_;exact ⟨_,k,rfl,by rw [HZ.out],by rw [HZ.out];exact zc1 _ _,hbZ⟩
 have HZ:=zi (HD.out.trans (if_neg (by omega)));obtain ⟨hlen,-⟩:=HOK.out h0;rw [h0];clear HD HOK h0;obtain ⟨⟨v0,v1,v2,v3,v4,v5,v6,v7,v8,v9,v10⟩,-⟩:=zaS X3;go_wp2_with fail
 refine (HP.out w2 (HE.out.next HB2.out)).mono ?_;rintro e w3 ⟨rfl,hb3⟩;clear v0 v1 v2 v3 v4 v5 v6 v7 v8 v9 v10;replace X1:=X1.below hb3 X1.lt;replace X2:=X2.below hb3 X2.lt;have HB3:=zi (HB2.out.trans (hb3.mono HB2.out.size));clear hb3 HB2 X3;have hs3:=HB3.out.size;have hx1:=X1.lt;have hx2:=X2.lt;obtain ⟨⟨m0,m1⟩,f0,f1⟩:=zc6 X2;by_cases h1:k=0
 rotate_left
 ·have HZ2:=zi (HZ.out.trans (if_pos h1));have d0:(k != 0)=true:=by simpa using h1
  clear HZ h1 X1;go_wp2_with fail
  refine zaA ?_;intro Z hZ;obtain ⟨XZ,hbZ⟩:=zeb X2 HB3.out (by omega) (.slice none 0 0) (.slice none 0 0);rw [← hZ] at XZ hbZ;clear hZ m0 m1 f0 f1;obtain ⟨z0,z1⟩:=zaV XZ;refine bodyPost_ret (v:=.tuple #[.agg #[.slice none 0 0,.slice none 0 0],.int .i64 k]) (by simp [results,Tryz.results5,go_sem, *]) rfl ?_;exact ⟨_,k,rfl,by rw [HZ2.out],by rw [HZ2.out];exact zc1 _ _,hbZ⟩
 have HZ2:=zi (HZ.out.trans (if_neg (by omega)));have htl:=HTL.out h1;subst h1;clear HZ;have ht:=zcP t;obtain ⟨k0,k1⟩:=zaV X1;by_cases h2:20000 < d.safe.length + d.wait.length + t.length + 1
 ·have HZ3:=zi (HZ2.out.trans (if_pos h2));have d0:20000 ≤ (d.safe.length:Int) + d.wait.length + t.length:=by omega
  clear HZ2;go_wp2_with fail
  refine zaA ?_;intro Z hZ;obtain ⟨XZ,hbZ⟩:=zeb X2 HB3.out (by omega) (.slice none 0 0) (.slice none 0 0);rw [← hZ] at XZ hbZ;clear hZ m0 m1 f0 f1;obtain ⟨z0,z1⟩:=zaV XZ;refine bodyPost_ret (v:=.tuple #[.agg #[.slice none 0 0,.slice none 0 0],.int .i64 7]) (by simp [results,Tryz.results5,go_sem, *]) rfl ?_;exact ⟨_,7,rfl,by rw [HZ3.out],by rw [HZ3.out];exact zc1 _ _,hbZ⟩
 have HZ3:=zi (HZ2.out.trans (if_neg h2));have d0:¬ 20000 ≤ (d.safe.length:Int) + d.wait.length + t.length:=by omega
 clear HZ2;have HRD:=zi (HR.out.below (HB3.out.mono hB));have hB3:B ≤ w3.heap.size:=by omega
 have KS:Hid (∀ W,Below w3.heap.size w3 W→W.cell? ⟨w.heap.size,0,none⟩=some (.slice A d.safe.length c)∧W.cell? ⟨w.heap.size,1,none⟩=some (.slice A' d.wait.length c')):=zi fun W hW=>zaV (X1.below hW hx1);have HXA:=zi (fun W hW=>X2.below (w1:=W) hW hx2);go_upto_region 9 with (fail)
 clear X1 X2 m0 m1 f0 f1 HR;have h33:Below w3.heap.size w3 w3:=Below.refl _ _;have KT:Hid (∀ W v v',Below w3.heap.size w3 W→((W.setCell ⟨w.heap.size + 1 + 1,0,none⟩ v).setCell ⟨w.heap.size + 1 + 1,1,none⟩ v').cell? ⟨w.heap.size,0,none⟩=some (.slice A d.safe.length c)∧((W.setCell ⟨w.heap.size + 1 + 1,0,none⟩ v).setCell ⟨w.heap.size + 1 + 1,1,none⟩ v').cell? ⟨w.heap.size,1,none⟩=some (.slice A' d.wait.length c')):=by
  refine zi fun W v v' hW=>?_;obtain ⟨h1,h2⟩:=KS.out W hW;have n1:¬ w.heap.size + 1 + 1=w.heap.size:=by omega
  exact ⟨by simp [go_sem,h1],by simp [go_sem,h2]⟩
 go_wp2_with fail
 go_region_held3 (fun W=>W.cell? ⟨w.heap.size,0,none⟩=some (.slice A d.safe.length c)∧W.cell? ⟨w.heap.size,1,none⟩=some (.slice A' d.wait.length c'))
  (first | (exact KS.out _ (by first | assumption | exact zai (by assumption) | exact zaL (by assumption) _ | exact zaL (zai (by assumption)) _ | exact zai (zaL (by assumption) _))) | (exact KT.out _ _ _ (by assumption)))
  ((first
   | (go_at_call 21;go_split_ands;(with_reducible refine (zgF A d.safe.length c d.safe B _ (HRD.out.s.below (Below.mono (by first | assumption | exact zai (by assumption) | exact zaL (by assumption) _ | exact zaL (zai (by assumption)) _ | exact zai (zaL (by assumption) _)) hB3)) (Nat.le_trans hB3 (Below.size (w:=w3) (by first | assumption | exact zai (by assumption) | exact zaL (by assumption) _ | exact zaL (zai (by assumption)) _ | exact zai (zaL (by assumption) _)))) (by omega)).mono ?_);rintro e WA ⟨vA,rfl,hownA,hbA⟩;obtain ⟨AA,cA,rfl⟩:=zad hownA;have hXA:=zfV (w0:=w3) hbA (by first | assumption | exact zai (by assumption) | exact zaL (by assumption) _ | exact zaL (zai (by assumption)) _ | exact zai (zaL (by assumption) _));(first | (have hrow:=(Blk.new _ _ _).below hbA (by simp)) | (have hrow:=(zfj (Blk.new _ _ _)).below hbA (by simp)) | skip))
   | (go_at_call 21;go_split_ands;(with_reducible refine (zgF A' d.wait.length c' d.wait B _ (HRD.out.t.below (Below.mono (by first | assumption | exact zai (by assumption) | exact zaL (by assumption) _ | exact zaL (zai (by assumption)) _ | exact zai (zaL (by assumption) _)) hB3)) (Nat.le_trans hB3 (Below.size (w:=w3) (by first | assumption | exact zai (by assumption) | exact zaL (by assumption) _ | exact zaL (zai (by assumption)) _ | exact zai (zaL (by assumption) _)))) (by omega)).mono ?_);rintro e WB ⟨vB,rfl,hownB,hbB⟩;obtain ⟨AB,cB,rfl⟩:=zad hownB;have hXB:=zfV (w0:=w3) hbB (by first | assumption | exact zai (by assumption) | exact zaL (by assumption) _ | exact zaL (zai (by assumption)) _ | exact zai (zaL (by assumption) _));have hOB:=zae (base':=WA.heap.size) hownB (by simp);have hsB:WA.heap.size ≤ WB.heap.size:=Nat.le_trans (by simp) hbB.size;have hAB:Below WA.heap.size WA WB:=(by first | with_reducible exact hbB | exact ((Below.refl _ _).alloc (zl _) _).trans (hbB.mono (by simp)));(first | (have hrow0:=Blk.new WA 5 #[.int .u8 10];have hrow:=hrow0.below hbB hrow0.lt;have hne:(Value.slice AB d.wait.length cB).ownBlock ≠ some WA.heap.size:=fun e=>by have h1:=(World.ownsRow.lt hownB _ e).1;have h2:=hrow0.lt;omega) | (have hne:=(fun e=>by have h1:=(World.ownsRow.lt hownB _ e).1;have h2:=hrow.lt;omega:(Value.slice AB d.wait.length cB).ownBlock ≠ some w3.heap.size);replace hrow:=hrow.below hbB hrow.lt) | skip))
   | (refine zlI rfl (.tmp 42) (.tmp 43) 28 9 rfl WA.heap.size 5 Tryz.underlying9 zeR zof (.slice AB d.wait.length cB) d.wait.length d.wait (by simp [Act.eval]) (by first | with_reducible exact hOB | with_reducible exact World.ownsRow.alloc hOB _) t (by simp [Act.eval]) (by omega) (by first | with_reducible exact hsB | (simp;omega)) ?_;intro vS wS hownS hbS hgrS;obtain ⟨AS,cS,rfl⟩:=zad hownS;have hXS:=Below.trans (B:=w3.heap.size) (by first | assumption | exact zai (by assumption) | exact zaL (by assumption) _ | exact zaL (zai (by assumption)) _ | exact zai (zaL (by assumption) _):Below w3.heap.size w3 _) (hbS.mono hXA.size);have hsS:WA.heap.size ≤ wS.heap.size:=Nat.le_trans (by first | with_reducible exact hsB | (simp;omega)) hbS.size;have hAS:Below WA.heap.size WA wS:=(by first | with_reducible exact hAB.trans hbS | with_reducible exact (hAB.alloc hsB _).trans hbS);(first | (have hrow0:=Blk.new WB 5 #[.int .u8 10];have hrow:=zbC hrow0 hgrS (zfi hOB (zl _))) | (replace hrow:=zbC hrow hgrS hne) | skip))
   | (refine zgW rfl (.tmp 44) (.tmp 45) 28 rfl WA.heap.size 5 1 1 zeR (.slice AS (d.wait.length + t.length) cS) (d.wait.length + t.length) (u8s (d.wait ++ t)) (by simp [Act.eval]) (by first | with_reducible exact hownS | with_reducible exact World.ownsRow.alloc hownS _) (_ + 1) (some ⟨_,0,none⟩) 1 1 (u8s [10]) rfl (by first | exact zog hrow | exact zog (Blk.new _ _ _)) (zht _) (by unfold maxLen;omega) (by omega) (by first | with_reducible exact hsS | (simp;omega)) ?_;intro vN wN hownN hbN hgrN hatN;obtain ⟨AN,cN,rfl⟩:=zad hownN;have hXN:=Below.trans (B:=w3.heap.size) (by first | assumption | exact zai (by assumption) | exact zaL (by assumption) _ | exact zaL (zai (by assumption)) _ | exact zai (zaL (by assumption) _):Below w3.heap.size w3 _) (hbN.mono hXA.size);have hAN:Below WA.heap.size WA wN:=(by first | with_reducible exact hAS.trans hbN | with_reducible exact (hAS.alloc hsS _).trans hbN);have hZN:=HXA.out wN hXN;have hB3':=zc6 hZN)
   | fail "none"))
 all_goals
  have HBN:=zi (HB3.out.trans (hXN.mono hs3));have O1:wN.ownsRow w3.heap.size 5 1 (.slice AA d.safe.length cA) d.safe.length (u8s d.safe):=zae (zaf hownA hAN (zl _)) (by simp);have O2:wN.ownsRow w3.heap.size 5 1 (.slice AN (d.wait.length + t.length + 1) cN) (d.wait.length + t.length + 1) (u8s (d.wait ++ t ++ [10])):=by rw [ziD];exact zae hownN hXA.size
  have HP1:=zi (zdd (g:=w.heap.size + 1 + 1) O1 (fun e=>by have:=(World.ownsRow.lt O1 _ e).1;omega) (.slice AA d.safe.length cA) (.slice AN (d.wait.length + t.length + 1) cN));have HP2:=zi (zdd (g:=w.heap.size + 1 + 1) O2 (fun e=>by have:=(World.ownsRow.lt O2 _ e).1;omega) (.slice AA d.safe.length cA) (.slice AN (d.wait.length + t.length + 1) cN));have HXN:=zi hZN;clear O1 O2 hownA hownB hownS hownN hXA hXB hXS hXN hAB hAS hAN hZN hB3' hbA hbB hbS hbN hgrS hgrN hatN hOB hsB hsS KT KS HXA HRD HP;go_wp2_with fail
  refine zaA ?_;intro Z hZ;obtain ⟨XZ,hbZ⟩:=zeb HXN.out HBN.out (by omega) (.slice AA d.safe.length cA) (.slice AN (d.wait.length + t.length + 1) cN);have HOZ:=HP1.out;have HOZ2:=HP2.out;rw [← hZ] at XZ hbZ HOZ HOZ2;clear hZ;obtain ⟨z0,z1⟩:=zaV XZ;refine bodyPost_ret (v:=.tuple #[.agg #[.slice AA d.safe.length cA,.slice AN (d.wait.length + t.length + 1) cN],.int .i64 0]) (by simp [results,Tryz.results5,go_sem, *]) rfl ?_;exact ⟨_,0,rfl,by rw [HZ3.out],by rw [HZ3.out];exact zfM (zae HOZ hs3) (zae HOZ2 hs3),hbZ⟩
end
section
open Go.RowKit
theorem zre {p r:List UInt8} {l:List Cm} {s:List UInt8}:recP (p :: spl 10 r) l s=if l.length < 60∧(zaG p).2=0 then recP (spl 10 r) (l ++ [(zaG p).1]) (s ++ p ++ [10]) else (l,s):=by
 obtain ⟨q,r',e⟩:∃ q r',spl 10 r=q :: r':=by
  cases h:spl 10 r with
  | nil=>exact absurd h (zib 10 r)
  | cons a b=>exact ⟨a,b,rfl⟩
 rw [e];rfl
theorem zrf {ps:List (List UInt8)} {l:List Cm} {s:List UInt8} (h:¬ l.length < 60):recP ps l s=(l,s):=by
 match ps with
 | []=>rfl
 | [_]=>rfl
 | p :: q :: r=>show (if _ then _ else _)=_;rw [if_neg (fun e=>h e.1)]
theorem zm5:∀ (ps:List (List UInt8)) (l:List Cm),l.length ≤ 60→(zdu ps l).1.length ≤ 60
 | [],l,h=>h
 | [p],l,h=>by unfold zdu;split <;> simp [h]
 | p :: q :: r,l,h=>by
  rw [zhR];split
  ·simp
  ·split
   ·simp
   ·exact zm5 _ _ (by simp;omega)
theorem zda {w:World} {base e k n g:Nat} {v:Value} {xs:List Value} {t:TypeId} {cs:Array Value} (h:w.ownsRow base e k v n xs) (hb:Blk w g t cs) (hne:e ≠ t):v.ownBlock ≠ some g:=by
 obtain ⟨-,⟨rfl,-⟩ | ⟨g',cap,cur,rfl,-,h2,-⟩⟩:=h
 ·simp [Value.ownBlock]
 ·intro e1;have e2:g'=g:=by simpa [Value.ownBlock] using e1
  subst e2;unfold Blk at hb;rw [h2] at hb;injection hb with hb;injection hb with _ hb _;exact hne hb
theorem zjr {w:World} {base e k n base' e' k' n':Nat} {v v':Value} {xs xs':List Value} (h:w.ownsRow base e k v n xs) (h':w.ownsRow base' e' k' v' n' xs') (hne:e ≠ e'):∀ j,v'.ownBlock=some j→v.ownBlock ≠ some j:=by
 intro j hj;obtain ⟨-,⟨rfl,-⟩ | ⟨g',cap,cur,rfl,-,h2,-⟩⟩:=h'
 ·simp [Value.ownBlock] at hj
 ·have e2:g'=j:=by simpa [Value.ownBlock] using hj
  subst e2;exact zda h (t:=e') (cs:=cur) h2 hne
theorem zhU {w w':World} {base e k n:Nat} {v:Value} {xs:List Value} {b:Option Nat} (h:w.ownsRow base e k v n xs) (hg:w.grownBy w' b) (hne:∀ j,b=some j→v.ownBlock ≠ some j):w'.ownsRow base e k v n xs:=by
 obtain ⟨hl,h0 | ⟨g,cap,cur,rfl,h1,h2,h3⟩⟩:=h
 ·exact ⟨hl,.inl h0⟩
 ·exact ⟨hl,.inr ⟨g,cap,cur,rfl,h1,zbC (t:=e) (cs:=cur) h2 hg (fun e1=>hne g e1 rfl),h3⟩⟩
theorem znJ {P:Program} {w:World} {ops:Array Oper} {rest:List Oper} {o:Oper} {a:Act} {Q:Exit→Act→World→Prop} (hgd:o.guard=none) (s x:Operand) (t u:TypeId)
  (ho:o.op=.call { callee:=.builtin .append,args:=#[s,x],argTypes:=#[t,u] })
  (base e:Nat) (hu:P.underlying u=some .string) (E:Elem P t e 1 1) (hz:∀ i,P.info? e=some i→i.zero=some (.int .u8 0)) (v:Value) (n:Nat) (xs:List UInt8) (hs:a.eval s=v) (hown:w.ownsRow base e 1 v n (u8s xs))
  (l:List UInt8) (hx:a.eval x=.string (bs l)) (hbytes:n + l.length ≤ 140737488355328) (hbase:base ≤ w.heap.size)
  (h:∀ v' w',w'.ownsRow base e 1 v' (n + l.length) (u8s (xs ++ l))→Below base w w'→w.grownBy w' v.ownBlock→wpList P ops Q rest (a.put o.dst v') w') :
  wpList P ops Q (o :: rest) a w:=by
 refine wpList_plain hgd fun K hK=>?_;have:=zlI (ops:=ops) (K:=K) (Q:=Q) (X:=True) hgd s x t u ho base e hu E hz v n xs hs hown l hx hbytes hbase (fun v' w' h1 h2 h3=>hK _ _ (h v' w' h1 h2 h3));rwa [if_pos (show Region.wanted o (yielded ops a.tmps)=true by simp [Region.wanted,hgd])] at this
def ztW (w:World) (r:Dsk × List Cm × Int) (e:Ending) (w':World):Prop :=
 ∃ v u k,e=.returned (.tuple #[v,u,.int .i64 k])∧r.2.2=k∧OwnDk w' w.heap.size v r.1∧w'.ownsRow w.heap.size 34 11 u r.2.1.length (zaU r.2.1)∧Below w.heap.size w w'
set_option maxHeartbeats 4000000 in
set_option maxRecDepth 100000 in
theorem zfW (d:Dsk) (A A':Option Addr) (c c' B:Nat) (w:World) (h:DkR w B A A' c c' d) (hB:B ≤ w.heap.size) (he:Env w) :
  Calls Tryz.prog 8 #[.agg #[.slice A d.safe.length c,.slice A' d.wait.length c']] w (ztW w (zcW d)):=by
 have HE:=zi he;have HR:=zi h;have HD:=zi (show zcW d=if dErr d ≠ 0 then (zcq,[],dErr d) else (⟨(recP (spl 10 d.wait) (zb0 d.safe).1 d.safe).2,[]⟩,(recP (spl 10 d.wait) (zb0 d.safe).1 d.safe).1,0) from rfl);have HOK:=zi (fun hz=>(zfI (d:=d)).1 hz);have hcap:=h.s.cap;have hle:=h.s.le;have hcap':=h.t.cap;have hle':=h.t.le;simp only [maxLen] at hcap hcap';clear he h;go_enter Tryz.func8,Tryz.ntmps8
 go_upto_region 1 with (fail)
 refine zaQ ?_;intro w1 hw1;have X1:Blk w1 w.heap.size 30 #[.slice A d.safe.length c,.slice A' d.wait.length c']:=by rw [hw1];exact (Blk.new w _ _).alloc _
 have X2:Blk w1 (w.heap.size + 1) 30 #[.slice none 0 0,.slice none 0 0]:=by rw [hw1];have:=Blk.new (w.alloc (.cells #[.slice A d.safe.length c,.slice A' d.wait.length c'] 30)) 30 #[.slice none 0 0,.slice none 0 0];simpa using this
 have HB1:Hid (Below w.heap.size w w1):=by rw [hw1];exact zi (((Below.refl _ _).alloc (zl _) _).alloc (by simp) _)
 clear hw1;obtain ⟨k0,k1⟩:=zaV X1;go_wp2_with fail
 refine (zeh d A A' c c' B w1 (HR.out.below (HB1.out.mono hB)) (Nat.le_trans hB HB1.out.size) (HE.out.next HB1.out)).mono ?_;rintro e w2 ⟨rfl,hb2⟩;clear k0 k1;replace X1:=X1.below hb2 X1.lt;replace X2:=X2.below hb2 X2.lt;have HB2:=zi (HB1.out.trans (hb2.mono HB1.out.size));clear hb2 HB1;have hs2:=HB2.out.size;obtain ⟨k0,k1⟩:=zaV X1;have hx1:=X1.lt;have hx2:=X2.lt;by_cases h0:dErr d=0
 rotate_left
 ·have HZ:=zi (HD.out.trans (if_pos h0));have d0:(dErr d != 0)=true:=by simpa using h0
  clear HD HOK h0;obtain ⟨⟨m0,m1⟩,f0,f1⟩:=zc6 X2;generalize dErr d=k at HZ d0;go_wp2_with fail
  refine zaA ?_;intro Z hZ;obtain ⟨XZ,hbZ⟩:=zeb X2 HB2.out (Nat.le_succ _) (.slice none 0 0) (.slice none 0 0);rw [← hZ] at XZ hbZ;clear hZ m0 m1 f0 f1;obtain ⟨z0,z1⟩:=zaV XZ;refine bodyPost_ret (v:=.tuple #[.agg #[.slice none 0 0,.slice none 0 0],.slice none 0 0,.int .i64 k]) (by simp [results,Tryz.results8,go_sem, *]) rfl ?_;exact ⟨_,_,k,rfl,by rw [HZ.out],by rw [HZ.out];exact zc1 _ _,by rw [HZ.out];exact World.ownsRow_nil _ _ _ _,hbZ⟩
 have HZ:=zi (HD.out.trans (if_neg (by omega)));obtain ⟨hlen,hok⟩:=HOK.out h0;rw [h0];have HOK2:=zi hok;clear HD HOK h0 hok;have hconv:=zeI (HR.out.s.below (HB2.out.mono hB));go_wp2_with fail
 refine (zmZ d.safe (by omega) w2 (HE.out.next HB2.out)).mono ?_;rintro e w3 ⟨v6,L,k,rfl,hk,hown6,hb3⟩;obtain ⟨A6',c6',rfl⟩:=zad hown6;have HK:=zi (show zb0 d.safe=(L,k) from hk);have hL60:L.length ≤ 60:=by
  have:=zm5 (spl 10 d.safe) [] (by simp);have e:zdu (spl 10 d.safe) []=(L,k):=hk;rw [e] at this;exact this
 have HC3:=zi (zae (base':=w.heap.size) hown6 hs2);have HB3:=zi (HB2.out.trans (hb3.mono hs2));clear k0 k1 hconv hk;replace X1:=X1.below hb3 X1.lt;replace X2:=X2.below hb3 X2.lt;have hge6:∀ j,(Value.slice A6' L.length c6').ownBlock=some j→w2.heap.size ≤ j:=fun j e=>(World.ownsRow.lt hown6 j e).1;have HG6:=zi hge6;have hs3:=hb3.size;clear hb3 hown6 hge6;obtain ⟨k0,k1⟩:=zaV X1;go_wp2_with fail
 refine (zgF A d.safe.length c d.safe B w3 (HR.out.s.below (HB3.out.mono hB)) (by omega) (by omega)).mono ?_;rintro e w4 ⟨v8,rfl,hown8,hb4⟩;obtain ⟨A8',c8',rfl⟩:=zad hown8;have HC4:=zi (zaf HC3.out hb4 (zl _));have HO4:=zi (zae (base':=w.heap.size) hown8 (by omega));have HG8:=zi (fun j e=>(World.ownsRow.lt hown8 j e).1);have HB4:=zi (HB3.out.trans (hb4.mono (by omega)));clear k0 k1;replace X1:=X1.below hb4 X1.lt;replace X2:=X2.below hb4 X2.lt;have hs4:=hb4.size;clear hb4 hown8 HC3;obtain ⟨k0,k1⟩:=zaV X1;have hconv:=zeI (HR.out.t.below (HB4.out.mono hB));have HX4:=zi X2;have HZ0:=zi (show zcW d=(⟨(recP (spl 10 d.wait) L d.safe).2,[]⟩,(recP (spl 10 d.wait) L d.safe).1,0) by rw [HZ.out,HK.out]);clear HZ HK HOK2 HR HG6 HG8 HB2 HB3;go_wp2_with fail
 clear k0 k1 hconv X1 X2;go_loopw [6,8,9] (fun v6 v8 v9 wr=>∃ (l:List Cm) (s t:List UInt8) (A6:Option Addr) (c6:Nat) (A8:Option Addr) (c8:Nat),v6=.slice A6 l.length c6∧v8=.slice A8 s.length c8∧v9=.string (bs t)∧s.length + t.length ≤ 20000∧l.length ≤ 60 ∧
  Hid (recP (spl 10 t) l s=recP (spl 10 d.wait) L d.safe)∧Hid (wr.ownsRow w.heap.size 34 11 (.slice A6 l.length c6) l.length (zaU l))∧Hid (wr.ownsRow w.heap.size 5 1 (.slice A8 s.length c8) s.length (u8s s))∧Hid (Below w.heap.size w wr) ∧
  Hid (Blk wr (w.heap.size + 1) 30 #[.slice none 0 0,.slice none 0 0])) (fun _ _ v9 _=>match v9 with | .string b=>b.size | _=>0)
 case atStart=>exact ⟨L,d.safe,d.wait,A6',c6',A8',c8',rfl,rfl,rfl,by omega,hL60,zi rfl,HC4,HO4,HB4,HX4⟩
 case round =>
  obtain ⟨l,s,t,A6,c6,A8,c8,rfl,rfl,rfl,ht,hl,HRC,HC,HO,HBr,HXr⟩:=hrel;clear HC4 HO4 HB4 HX4;have hsr:=HBr.out.size;by_cases h6:l.length < 60
  rotate_left
  ·have HF:=zi (show zcW d=(⟨s,[]⟩,l,0) by rw [HZ0.out,← HRC.out,zrf h6]);go_upto_region 13 with (fail)
   refine zaQ ?_;intro wE hwE;have HXE:=zi (show Blk wE (w.heap.size + 1) 30 #[.slice none 0 0,.slice none 0 0] by rw [hwE];exact HXr.out);have HOE:Hid (wE.ownsRow w.heap.size 5 1 (.slice A8 s.length c8) s.length (u8s s)):=by rw [hwE];exact zi HO.out
   have HCE:Hid (wE.ownsRow w.heap.size 34 11 (.slice A6 l.length c6) l.length (zaU l)):=by rw [hwE];exact zi HC.out
   have HBE:Hid (Below w.heap.size w wE):=by rw [hwE];exact zi HBr.out
   have HNE:=zi (zda HOE.out HXE.out (by decide));have HN6:=zi (zda HCE.out HXE.out (by decide));clear hwE;obtain ⟨⟨m0,m1⟩,f0,f1⟩:=zc6 HXE.out;have hxe:=HXE.out.lt;go_wp2_with fail
   refine zaA ?_;intro Z hZ;obtain ⟨XZ,hbZ⟩:=zeb HXE.out HBE.out (Nat.le_succ _) (.slice A8 s.length c8) (.slice none 0 0);have HOZ:=zdd (g:=w.heap.size + 1) HOE.out HNE.out (.slice A8 s.length c8) (.slice none 0 0);have HCZ:=zd9 (zd9 HCE.out (p:=⟨w.heap.size + 1,0,none⟩) HN6.out (.slice A8 s.length c8)) (p:=⟨w.heap.size + 1,1,none⟩) HN6.out (.slice none 0 0);rw [← hZ] at XZ hbZ HOZ HCZ;clear hZ m0 m1 f0 f1;obtain ⟨z0,z1⟩:=zaV XZ;refine bodyPost_ret (v:=.tuple #[.agg #[.slice A8 s.length c8,.slice none 0 0],.slice A6 l.length c6,.int .i64 0]) (by simp [results,Tryz.results8,go_sem, *]) rfl ?_;exact ⟨_,_,0,rfl,by rw [HF.out],by rw [HF.out];exact zfM HOZ (World.ownsRow_nil _ _ _ _),by rw [HF.out];exact HCZ,hbZ⟩
  go_wp2_with fail
  refine (zoe t (by omega) wr (HE.out.next HBr.out)).mono ?_;rintro e w5 ⟨hcut,q,rfl⟩;have HB5:=zi (zac HBr.out q);have HC5:=zi (zaz HC.out q);have HO5:=zi (zaz HO.out q);have HX5:=zi (HXr.out.drewN q);have hs5:=HB5.out.size;clear HC HO HBr HXr;rcases hcut with ⟨rfl,h1⟩ | ⟨p,r,rfl,h1,h2⟩
  ·have HF:=zi (show zcW d=(⟨s,[]⟩,l,0) by rw [HZ0.out,← HRC.out,h1];rfl);clear h1;go_wp2_with fail
   refine (zir t (wr.drewN q) (HE.out.next HB5.out)).mono ?_;rintro e w6 ⟨x,k,rfl,-,hb6⟩;have HB6:=zi (HB5.out.trans (hb6.mono hs5));have HC6:=zi (zaf HC5.out hb6 (zl _));have HO6:=zi (zaf HO5.out hb6 (zl _));have HX6:=zi (HX5.out.below hb6 HX5.out.lt);have hs6:=HB6.out.size;clear hb6 HB5 HC5 HO5 HX5;unfold cmV;go_upto_region 13 with (fail)
   refine zaQ ?_;intro wE hwE;have HXE:=zi (show Blk wE (w.heap.size + 1) 30 #[.slice none 0 0,.slice none 0 0] by rw [hwE];exact (HX6.out.alloc _));have HOE:Hid (wE.ownsRow w.heap.size 5 1 (.slice A8 s.length c8) s.length (u8s s)):=by rw [hwE];exact zi (World.ownsRow.alloc HO6.out _)
   have HCE:Hid (wE.ownsRow w.heap.size 34 11 (.slice A6 l.length c6) l.length (zaU l)):=by rw [hwE];exact zi (World.ownsRow.alloc HC6.out _)
   have HBE:Hid (Below w.heap.size w wE):=by rw [hwE];exact zi (HB6.out.alloc hs6 _)
   have HNE:=zi (zda HOE.out HXE.out (by decide));have HN6:=zi (zda HCE.out HXE.out (by decide));clear hwE;obtain ⟨⟨m0,m1⟩,f0,f1⟩:=zc6 HXE.out;have hxe:=HXE.out.lt;go_wp2_with fail
   refine zaA ?_;intro Z hZ;obtain ⟨XZ,hbZ⟩:=zeb HXE.out HBE.out (Nat.le_succ _) (.slice A8 s.length c8) (.slice none 0 0);have HOZ:=zdd (g:=w.heap.size + 1) HOE.out HNE.out (.slice A8 s.length c8) (.slice none 0 0);have HCZ:=zd9 (zd9 HCE.out (p:=⟨w.heap.size + 1,0,none⟩) HN6.out (.slice A8 s.length c8)) (p:=⟨w.heap.size + 1,1,none⟩) HN6.out (.slice none 0 0);rw [← hZ] at XZ hbZ HOZ HCZ;clear hZ m0 m1 f0 f1;obtain ⟨z0,z1⟩:=zaV XZ;refine bodyPost_ret (v:=.tuple #[.agg #[.slice A8 s.length c8,.slice none 0 0],.slice A6 l.length c6,.int .i64 0]) (by simp [results,Tryz.results8,go_sem, *]) rfl ?_;exact ⟨_,_,0,rfl,by rw [HF.out],by rw [HF.out];exact zfM HOZ (World.ownsRow_nil _ _ _ _),by rw [HF.out];exact HCZ,hbZ⟩
  ·have HS:=zi (show (if l.length < 60∧(zaG p).2=0 then recP (spl 10 r) (l ++ [(zaG p).1]) (s ++ p ++ [10]) else (l,s))=recP (spl 10 d.wait) L d.safe by rw [← HRC.out,h2,zre]);have hr:t.length=p.length + r.length + 1:=by rw [h1,List.length_append,List.length_cons];omega
   clear h1 h2 HRC;go_wp2_with fail
   refine (zir p (wr.drewN q) (HE.out.next HB5.out)).mono ?_;rintro e w6 ⟨x,k,rfl,hp,hb6⟩;have HP:=zi hp;have HB6:=zi (HB5.out.trans (hb6.mono hs5));have HC6:=zi (zaf HC5.out hb6 (zl _));have HO6:=zi (zaf HO5.out hb6 (zl _));have HX6:=zi (HX5.out.below hb6 HX5.out.lt);have hs6:=HB6.out.size;clear hb6 HB5 HC5 HO5 HX5 hp;unfold cmV;by_cases h5:k=0
   rotate_left
   ·have HF:=zi (show zcW d=(⟨s,[]⟩,l,0) by rw [HZ0.out,← HS.out,HP.out,if_neg (fun e=>h5 e.2)]);have d5:(k != 0)=true:=by simpa using h5
    clear h5;go_upto_region 13 with (fail)
    refine zaQ ?_;intro wE hwE;have HXE:=zi (show Blk wE (w.heap.size + 1) 30 #[.slice none 0 0,.slice none 0 0] by rw [hwE];exact (HX6.out.alloc _));have HOE:Hid (wE.ownsRow w.heap.size 5 1 (.slice A8 s.length c8) s.length (u8s s)):=by rw [hwE];exact zi (World.ownsRow.alloc HO6.out _)
    have HCE:Hid (wE.ownsRow w.heap.size 34 11 (.slice A6 l.length c6) l.length (zaU l)):=by rw [hwE];exact zi (World.ownsRow.alloc HC6.out _)
    have HBE:Hid (Below w.heap.size w wE):=by rw [hwE];exact zi (HB6.out.alloc hs6 _)
    have HNE:=zi (zda HOE.out HXE.out (by decide));have HN6:=zi (zda HCE.out HXE.out (by decide));clear hwE;obtain ⟨⟨m0,m1⟩,f0,f1⟩:=zc6 HXE.out;have hxe:=HXE.out.lt;go_wp2_with fail
    refine zaA ?_;intro Z hZ;obtain ⟨XZ,hbZ⟩:=zeb HXE.out HBE.out (Nat.le_succ _) (.slice A8 s.length c8) (.slice none 0 0);have HOZ:=zdd (g:=w.heap.size + 1) HOE.out HNE.out (.slice A8 s.length c8) (.slice none 0 0);have HCZ:=zd9 (zd9 HCE.out (p:=⟨w.heap.size + 1,0,none⟩) HN6.out (.slice A8 s.length c8)) (p:=⟨w.heap.size + 1,1,none⟩) HN6.out (.slice none 0 0);rw [← hZ] at XZ hbZ HOZ HCZ;clear hZ m0 m1 f0 f1;obtain ⟨z0,z1⟩:=zaV XZ;refine bodyPost_ret (v:=.tuple #[.agg #[.slice A8 s.length c8,.slice none 0 0],.slice A6 l.length c6,.int .i64 0]) (by simp [results,Tryz.results8,go_sem, *]) rfl ?_;exact ⟨_,_,0,rfl,by rw [HF.out],by rw [HF.out];exact zfM HOZ (World.ownsRow_nil _ _ _ _),by rw [HF.out];exact HCZ,hbZ⟩
   have HS2:=zi (show recP (spl 10 r) (l ++ [x]) (s ++ p ++ [10])=recP (spl 10 d.wait) L d.safe by rw [← HS.out,HP.out,if_pos ⟨h6,h5⟩]);subst h5;clear HS HP;go_upto_region 10 with (fail)
   refine zaQ ?_;intro w7 hw7;have X7:Blk w7 w6.heap.size 34 #[.int .i64 x.kind,.int .i64 x.acc,.int .i64 x.market,.int .i64 x.n,.int .i64 x.o.id,.int .i64 x.o.acc,.int .i64 x.o.side,.int .i64 x.o.price,.int .i64 x.o.qty,.int .i64 x.how,.bool x.reduce]:=by rw [hw7];exact Blk.new w6 _ _
   have HB7:Hid (Below w.heap.size w w7):=by rw [hw7];exact zi (HB6.out.alloc hs6 _)
   have HC7:Hid (w7.ownsRow w.heap.size 34 11 (.slice A6 l.length c6) l.length (zaU l)):=by rw [hw7];exact zi (World.ownsRow.alloc HC6.out _)
   have HO7:Hid (w7.ownsRow w.heap.size 5 1 (.slice A8 s.length c8) s.length (u8s s)):=by rw [hw7];exact zi (World.ownsRow.alloc HO6.out _)
   have HX7:=zi (show Blk w7 (w.heap.size + 1) 30 #[.slice none 0 0,.slice none 0 0] by rw [hw7];exact HX6.out.alloc _);clear hw7 HB6 HC6 HO6 HX6;have hs7:=HB7.out.size;obtain ⟨⟨v0,v1,v2,v3,v4,v5,v6,v7,v8,v9,v10⟩,-⟩:=zaS X7;go_upto_region 12 with (at_builtin;refine zbe rfl _ _ _ rfl w.heap.size 34 11 88 zkE (.slice A6 l.length c6) l.length (zaU l) rfl (World.ownsRow.alloc HC7.out _) (w7.heap.size + 1) (some ⟨w7.heap.size,0,none⟩) 1 1 (zaU [x]) rfl (zer _ _ _ 11 rfl rfl _ rfl) (zfU [x]) (by unfold maxLen;omega) (by omega) (by simp;omega) ?_;intro u8 w8 hown8 hbel8 hgr8 hat8;obtain ⟨A6n,c6n,rfl⟩:=zad hown8)
   rw [← zeZ] at hown8;have HC8:=zi hown8;have HO8:=zi (zhU (World.ownsRow.alloc HO7.out _) hgr8 (zjr HO7.out HC7.out (by decide)));have HX8:=zi (zbC (HX7.out.alloc _) hgr8 (zda HC7.out HX7.out (by decide)));have HB8:=zi ((HB7.out.alloc hs7 _).trans hbel8);clear hown8 hbel8 hgr8 hat8 HC7 HO7 HX7 HB7 v0 v1 v2 v3 v4 v5 v6 v7 v8 v9 v10 X7;have hs8:=HB8.out.size;go_wp2_with (first
    | (at_builtin;refine znJ rfl _ _ _ _ rfl w.heap.size 5 Tryz.underlying9 zeR zof (.slice A8 s.length c8) s.length s rfl HO8.out p rfl (by omega) hs8 ?_;intro v9 w9 hown9 hbel9 hgr9;have hs9:=hbel9.size;obtain ⟨A9,c9,rfl⟩:=zad hown9)
    | (at_builtin;refine zbe rfl _ _ _ rfl w.heap.size 5 1 1 zeR (.slice A9 (s.length + p.length) c9) (s.length + p.length) (u8s (s ++ p)) rfl (World.ownsRow.alloc hown9 _) (w9.heap.size + 1) (some ⟨w9.heap.size,0,none⟩) 1 1 (u8s [10]) rfl (zer _ _ _ 1 rfl rfl _ rfl) (zht _) (by unfold maxLen;omega) (by omega) (by simp;omega) ?_;intro vA wA hownA hbelA hgrA hatA;obtain ⟨AA,cA,rfl⟩:=zad hownA))
   have HOA:=zi (show wA.ownsRow w.heap.size 5 1 (.slice AA (s.length + p.length + 1) cA) (s ++ p ++ [10]).length (u8s (s ++ p ++ [10])) by rw [ziD,List.length_append,List.length_append];exact hownA);have HC9:=zhU HC8.out hgr9 (zjr HC8.out HO8.out (by decide));have HCA:=zi (zhU (World.ownsRow.alloc HC9 _) hgrA (zjr HC9 hown9 (by decide)));have HX9:=zbC HX8.out hgr9 (zda HO8.out HX8.out (by decide));have HXA:=zi (zbC (HX9.alloc _) hgrA (zda hown9 HX9 (by decide)));have HBA:=zi (((HB8.out.trans hbel9).alloc (by omega) _).trans hbelA);have HCA2:=zi (show wA.ownsRow w.heap.size 34 11 (.slice A6n (l ++ [x]).length c6n) (l ++ [x]).length (zaU (l ++ [x])) by rw [List.length_append];exact HCA.out);have HOA2:=zi (show wA.ownsRow w.heap.size 5 1 (.slice AA (s ++ p ++ [10]).length cA) (s ++ p ++ [10]).length (u8s (s ++ p ++ [10])) by have:=HOA.out;rw [List.length_append,List.length_append] at this ⊢;exact this)
   clear hownA hown9 hgr9 hgrA hbel9 hbelA hatA HC9 HX9 HOA HCA;go_roundw
   case rel=>exact ⟨l ++ [x],s ++ p ++ [10],r,A6n,c6n,AA,cA,by rw [List.length_append];rfl,by rw [List.length_append,List.length_append];rfl,rfl,by simp;omega,by simp;omega,HS2,HCA2,HOA2,HBA,HXA⟩
   case measure=>show (bs r).size < (bs t).size;rw [zcP,zcP];omega
end
end Go.Proofs.YtockodmbhnlheaaGreatDoor
