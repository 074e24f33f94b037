import Derived.Test.YtockodmbhnlheaaGreatDoorAB
import Derived.Maps.Own
import Derived.Maps.OwnOps
import Derived.Maps.Views
import Derived.Test.YtockodmbhnlheaaGreatDoorAA
namespace Go.Proofs.YtockodmbhnlheaaGreatDoor
section
open Go.RowKit Go.Maps
theorem zpG {x:Int} (h1:-9223372036854775808 ≤ x) (h2:x ≤ 9223372036854775807):(Lit.int .i64 x).wf=true:=by
 simp [Lit.wf,IntKind.min,IntKind.max,IntKind.signed,IntKind.bits];omega
def ziv:List Int→DataW Unit
 | []=>.map []
 | x :: l=>(ziv l).put (.int .i64 x) (.lit (.bool true))
theorem zkN:∀ l:List Int,IsMap (ziv l)
 | []=>isMap_empty
 | _ :: l=>(zkN l).put _ _
theorem zl4 (x:Int):∀ l:List Int,(ziv l).atKey (.int .i64 x) (.lit (.bool false))=.lit (.bool (decide (x ∈ l)))
 | []=>by simp [ziv];rfl
 | y :: l=>by
  unfold ziv;by_cases h:x=y
  ·subst h;rw [atKey_put_same (zkN l) (show WideAt.IsKeyLit (.int .i64 x) from trivial)];simp
  ·rw [atKey_put_other (by intro e;injection e with _ e;exact h e)];rw [zl4 x l];simp [h]
def Seen (w:World) (b n:Nat) (l:List Int):Prop:=w.ownsMap Tryz.prog 3 (plainElem (H:=Unit) Tryz.prog 4) b n (ziv l)
theorem Seen.made (w:World):Seen (w.alloc (.map #[] 0)) w.heap.size 0 []:=World.ownsMap_made _ _ _ _
theorem Seen.lt {w:World} {b n:Nat} {l:List Int} (h:Seen w b n l):b < w.heap.size:=World.ownsMap.lt h
theorem Seen.kept {w w':World} {b n:Nat} {l:List Int} {row:Option Nat} (h:Seen w b n l) (hg:w.grownBy w' row) (hne:some b ≠ row):Seen w' b n l:=World.ownsMap.kept h hg hne
theorem Seen.below {w w':World} {b n B:Nat} {l:List Int} (h:Seen w b n l) (hb:Below B w w') (hB:b < B):Seen w' b n l:=by
 obtain ⟨es,clock,h1,h2⟩:=h;exact ⟨es,clock,(hb.block b hB).trans h1,h2⟩
set_option maxRecDepth 100000 in
theorem Seen.look {w:World} {b n:Nat} {l:List Int} (h:Seen w b n l) (x:Int) (hx:-9223372036854775808 ≤ x∧x ≤ 9223372036854775807) :
  (Instr.lookup 192 (.map (some b)) (.int .i64 x) false).run Tryz.prog w=.ok (.bool (decide (x ∈ l))) w:=by
 have hz:(zeroValue 4).run Tryz.prog w=.ok (.bool false) w:=by kernel_rfl
 obtain ⟨v,ps,hrun,hv⟩:=World.ownsMap.lookup (R:=plainElem (H:=Unit) Tryz.prog 4) h (int_keyed Tryz.underlying3) Tryz.underlying192 hz (plainElem_bool Tryz.underlying4 false) (keyOf_int_mk Tryz.underlying3 (zpG hx.1 hx.2));rw [zl4] at hv;have:v=.bool (decide (x ∈ l)):=by
  unfold plainElem at hv;rw [Tryz.underlying4] at hv;cases v <;> simp at hv;rename_i c;obtain ⟨hv,_⟩:=hv;cases c <;> simp_all
 rw [← this];exact hrun
set_option maxRecDepth 100000 in
theorem Seen.put {w:World} {b n:Nat} {l:List Int} (h:Seen w b n l) (x:Int) (hx:-9223372036854775808 ≤ x∧x ≤ 9223372036854775807) (hn:n < maxLen) :
  ∃ w',(Instr.mapUpdate 192 (.map (some b)) (.int .i64 x) (.bool true)).run Tryz.prog w=.ok () w'∧Seen w' b (n + 1) (x :: l)∧w.grownBy w' (some b) :=
 World.ownsMap.update h (int_keyed Tryz.underlying3) Tryz.underlying192 hn (keyOf_int_mk Tryz.underlying3 (zpG hx.1 hx.2)) (plainElem_bool Tryz.underlying4 true)
theorem zrp (w:World):(Instr.makeMap 192 none).run Tryz.prog w=.ok (.map (some w.heap.size)) (w.alloc (.map #[] 0)):=run_makeMap _ w
end
section
open Go.RowKit
structure Shape (α:Type) where
 k:Nat
 R:World→Nat→Nat→Nat→α→Prop
 move:∀ {w w':World} {B B' b o b' o':Nat} {a:α},R w B b o a→(∀ j,j < k→w'.cell? ⟨b',o' + j,none⟩=w.cell? ⟨b,o + j,none⟩)→B ≤ B' →
  (∀ b o,b < B→w'.cell? ⟨b,o,none⟩=w.cell? ⟨b,o,none⟩)→R w' B' b' o' a
 cells:∀ {w:World} {B b o:Nat} {a:α},R w B b o a→∀ j,j < k→∃ u,w.cell? ⟨b,o + j,none⟩=some u∧u.oneCell'=true
structure RdL {α:Type} (S:Shape α) (w:World) (B:Nat) (A:Option Addr) (n c:Nat) (L:List α):Prop where
 len:L.length=n
 le:n ≤ c
 cap:c ≤ maxLen
 nil:A=none→c=0
 at_:0 < n→∃ b o,A=some ⟨b,o,none⟩∧b < B∧∀ i a,L[i]?=some a→S.R w B b (o + i * S.k) a
section
variable {α:Type} {S:Shape α} {w w':World} {B B' n c:Nat} {A:Option Addr} {L:List α}
theorem RdL.none_ (S:Shape α) (w:World) (B:Nat):RdL S w B none 0 0 []:=⟨rfl,zl _,by simp,fun _=>rfl,fun h=>absurd h (by omega)⟩
theorem RdL.mono (h:RdL S w B A n c L) (hB:B ≤ B') (hk:∀ b o,b < B→w'.cell? ⟨b,o,none⟩=w.cell? ⟨b,o,none⟩):RdL S w' B' A n c L :=
 ⟨h.len,h.le,h.cap,h.nil,fun hn=>by
  obtain ⟨b,o,e,hb,hc⟩:=h.at_ hn;exact ⟨b,o,e,by omega,fun i a ha=>S.move (hc i a ha) (fun j _=>hk _ _ hb) hB hk⟩⟩
theorem RdL.below (h:RdL S w B A n c L) (hb:Below B w w'):RdL S w' B A n c L:=h.mono (zl _) fun _ _ hp=>hb.cell (p:=⟨_,_,_⟩) hp
theorem RdL.up (h:RdL S w B A n c L) (hB:B ≤ B'):RdL S w B' A n c L:=h.mono hB fun _ _ _=>rfl
theorem RdL.drewN (h:RdL S w B A n c L) (q:Nat):RdL S (w.drewN q) B A n c L:=h.mono (zl _) fun _ _ _=>rfl
theorem RdL.alloc (h:RdL S w B A n c L) (hB:B ≤ w.heap.size) (o:Obj):RdL S (w.alloc o) B A n c L :=
 h.mono (zl _) fun b o' hb=>World.cell?_alloc_lt (w:=w) (a:=⟨b,o',none⟩) (o:=o) (by show b < _;omega)
theorem RdL.one (h:RdL S w B A n c L) {i:Nat} (hi:i < n):∃ b o a,A=some ⟨b,o,none⟩∧b < B∧L[i]?=some a∧S.R w B b (o + i * S.k) a:=by
 obtain ⟨b,o,e,hb,hc⟩:=h.at_ (by omega);have hl:=h.len;have ha:L[i]?=some L[i]:=List.getElem?_eq_getElem (by omega);exact ⟨b,o,_,e,hb,ha,hc i _ ha⟩
theorem RdL.flat (h:RdL S w B A n c L) (hk:0 < S.k):∃ xs,Rd w B S.k A n c xs∧∀ u ∈ xs,u.oneCell'=true:=by
 rcases Nat.eq_zero_or_pos n with h0 | h0
 ·subst h0;exact ⟨[],⟨by simp,h.le,h.cap,h.nil,fun h=>absurd h (by omega)⟩,by simp⟩
 ·obtain ⟨b,o,e,hb,hc⟩:=h.at_ h0;have hl:=h.len;have hcell:∀ m,m < n * S.k→∃ u,w.cell? ⟨b,o + m,none⟩=some u∧u.oneCell'=true:=by
   intro m hm;have hi:m / S.k < n:=(Nat.div_lt_iff_lt_mul hk).2 hm;obtain ⟨u,hu⟩:=S.cells (hc (m / S.k) L[m / S.k] (List.getElem?_eq_getElem (by omega))) (m % S.k) (Nat.mod_lt _ hk);refine ⟨u,?_⟩;have e1:o + m / S.k * S.k + m % S.k=o + m:=by have:=Nat.div_add_mod' m S.k;omega
   rw [e1] at hu;exact hu
  refine ⟨(List.range (n * S.k)).map fun m=>(w.cell? ⟨b,o + m,none⟩).getD undef,⟨by simp,h.le,h.cap,h.nil,fun _=>⟨b,o,e,hb,fun j u hj=>?_⟩⟩,?_⟩
  ·have hj':j < n * S.k:=by have:=(List.getElem?_eq_some_iff.1 hj).1;simpa using this
   obtain ⟨v,hv,_⟩:=hcell j hj';simp [List.getElem?_range hj',hv] at hj;rw [hv,hj]
  ·intro u hu;simp only [List.mem_map,List.mem_range] at hu;obtain ⟨m,hm,rfl⟩:=hu;obtain ⟨v,hv,h1⟩:=hcell m hm;rw [hv];exact h1
end
def RAcc (w:World) (B b o:Nat) (a:Ac):Prop :=
 ∃ A c,w.cell? ⟨b,o,none⟩=some (.int .i64 a.id)∧w.cell? ⟨b,o + 1,none⟩=some (.int .i64 a.bal)∧w.cell? ⟨b,o + 2,none⟩=some (.slice A a.pos.length c) ∧
  Rd w B 1 A a.pos.length c (ints a.pos)∧a.pos.length * 8 ≤ 140737488355328
def ze0:Shape Ac where
 k:=3
 R:=RAcc
 move:=by
  intro w w' B B' b o b' o' a h hc hB hk;obtain ⟨A,c,h0,h1,h2,h3,h4⟩:=h;exact ⟨A,c,(hc 0 (by omega)).trans h0,(hc 1 (by omega)).trans h1,(hc 2 (by omega)).trans h2,h3.mono hB hk,h4⟩
 cells:=by
  intro w B b o a h j hj;obtain ⟨A,c,h0,h1,h2,_⟩:=h;rcases (show j=0∨j=1∨j=2 by omega) with rfl | rfl | rfl
  ·exact ⟨_,h0,rfl⟩
  ·exact ⟨_,h1,rfl⟩
  ·exact ⟨_,h2,rfl⟩
theorem zfZ {w:World} {B n c:Nat} {A:Option Addr} {L:List Ac} (h:RdL ze0 w B A n c L) {i:Nat} (hi:i < n):∃ b o a,A=some ⟨b,o,none⟩∧b < B∧L[i]?=some a ∧
  ∃ A2 c2,w.cell? ⟨b,o + i * 3,none⟩=some (.int .i64 a.id)∧w.cell? ⟨b,o + i * 3 + 1,none⟩=some (.int .i64 a.bal)∧w.cell? ⟨b,o + i * 3 + 2,none⟩=some (.slice A2 a.pos.length c2) ∧
   Rd w B 1 A2 a.pos.length c2 (ints a.pos)∧a.pos.length * 8 ≤ 140737488355328:=by
 obtain ⟨b,o,a,h1,h2,h3,h4⟩:=h.one hi;exact ⟨b,o,a,h1,h2,h3,h4⟩
def RAccN (w:World) (g o:Nat) (a:Ac):Prop :=
 ∃ A c,w.cell? ⟨g,o,none⟩=some (.int .i64 a.id)∧w.cell? ⟨g,o + 1,none⟩=some (.int .i64 a.bal)∧w.cell? ⟨g,o + 2,none⟩=some (.slice A a.pos.length c) ∧
  Rd w w.heap.size 1 A a.pos.length c (ints a.pos)∧a.pos.length * 8 ≤ 140737488355328∧∀ ad,A=some ad→ad.block ≠ g
theorem RAccN.plain {w:World} {g o:Nat} {a:Ac} (h:RAccN w g o a):RAcc w w.heap.size g o a:=by
 obtain ⟨A,c,h0,h1,h2,h3,h4,_⟩:=h;exact ⟨A,c,h0,h1,h2,h3,h4⟩
theorem RAccN.move {w w':World} {g o:Nat} {a:Ac} (h:RAccN w g o a) (hs:w.heap.size ≤ w'.heap.size) (hc:∀ j,j < 3→w'.cell? ⟨g,o + j,none⟩=w.cell? ⟨g,o + j,none⟩)
  (hk:∀ b o,b < w.heap.size→b ≠ g→w'.cell? ⟨b,o,none⟩=w.cell? ⟨b,o,none⟩):RAccN w' g o a:=by
 obtain ⟨A,c,h0,h1,h2,h3,h4,h5⟩:=h;exact ⟨A,c,(hc 0 (by omega)).trans h0,(hc 1 (by omega)).trans h1,(hc 2 (by omega)).trans h2,h3.mono_ne hs h5 hk,h4,h5⟩
theorem zev:Elem Tryz.prog 22 78 3 40:=zei Tryz.underlying22 (by kernel_rfl) (by decide)
end
section
open Go.RowKit
theorem Blk.c7 {w:World} {g:Nat} {t:TypeId} {a0 a1 a2 a3 a4 a5 a6:Value} (h:Blk w g t #[a0,a1,a2,a3,a4,a5,a6]) :
  (w.cell? ⟨g,0,none⟩=some a0∧w.cell? ⟨g,1,none⟩=some a1∧w.cell? ⟨g,2,none⟩=some a2∧w.cell? ⟨g,3,none⟩=some a3∧w.cell? ⟨g,4,none⟩=some a4∧w.cell? ⟨g,5,none⟩=some a5∧w.cell? ⟨g,6,none⟩=some a6) ∧
   w.frozen? ⟨g,0,none⟩=false∧w.frozen? ⟨g,1,none⟩=false∧w.frozen? ⟨g,2,none⟩=false∧w.frozen? ⟨g,3,none⟩=false∧w.frozen? ⟨g,4,none⟩=false∧w.frozen? ⟨g,5,none⟩=false∧w.frozen? ⟨g,6,none⟩=false :=
 ⟨⟨h.cell 0,h.cell 1,h.cell 2,h.cell 3,h.cell 4,h.cell 5,h.cell 6⟩,h.frozen 0,h.frozen 1,h.frozen 2,h.frozen 3,h.frozen 4,h.frozen 5,h.frozen 6⟩
theorem Blk.c8 {w:World} {g:Nat} {t:TypeId} {a0 a1 a2 a3 a4 a5 a6 a7:Value} (h:Blk w g t #[a0,a1,a2,a3,a4,a5,a6,a7]) :
  (w.cell? ⟨g,0,none⟩=some a0∧w.cell? ⟨g,1,none⟩=some a1∧w.cell? ⟨g,2,none⟩=some a2∧w.cell? ⟨g,3,none⟩=some a3∧w.cell? ⟨g,4,none⟩=some a4∧w.cell? ⟨g,5,none⟩=some a5∧w.cell? ⟨g,6,none⟩=some a6∧w.cell? ⟨g,7,none⟩=some a7) ∧
   w.frozen? ⟨g,0,none⟩=false∧w.frozen? ⟨g,1,none⟩=false∧w.frozen? ⟨g,2,none⟩=false∧w.frozen? ⟨g,3,none⟩=false∧w.frozen? ⟨g,4,none⟩=false∧w.frozen? ⟨g,5,none⟩=false∧w.frozen? ⟨g,6,none⟩=false∧w.frozen? ⟨g,7,none⟩=false :=
 ⟨⟨h.cell 0,h.cell 1,h.cell 2,h.cell 3,h.cell 4,h.cell 5,h.cell 6,h.cell 7⟩,h.frozen 0,h.frozen 1,h.frozen 2,h.frozen 3,h.frozen 4,h.frozen 5,h.frozen 6,h.frozen 7⟩
end
section
open Go.RowKit
set_option maxHeartbeats 400000 in
theorem zjy (A:Option Addr) (n c:Nat) (xs:List Value) (B:Nat) (w:World) (h:Rd w B 3 A n c xs) (h1:∀ u ∈ xs,u.oneCell'=true) (hB:B ≤ w.heap.size) (hb:n * 40 ≤ 140737488355328) :
  Calls Tryz.prog 51 #[.slice A n c] w (zfY w 78 3 n xs):=by
 have q:∀ (w:World) (a:Option Addr) (n c n' c':Nat),(binOp .eql 22 (.slice a n c) (.slice none n' c')).run Tryz.prog w=.ok (.bool a.isNone) w:=fun w a n c n' c'=>Lib.run_eql_slice_nil w _ _ a n c n' c' Tryz.underlying22;cases A with
 | none =>
  have h0:=h.nil rfl;have hle:=h.le;obtain rfl:n=0:=by omega
  have hx:xs = []:=List.eq_nil_of_length_eq_zero (by simpa using h.len);subst hx h0;go_enter Tryz.func51,Tryz.ntmps51
  go_wp2_with fail
  go_ret;exact ⟨_,rfl,World.ownsRow_nil _ _ _ _,Below.refl _ _⟩
 | some ad =>
  have HR:=zi h;have hle:=h.le;have hcap:=h.cap;clear h;go_enter Tryz.func51,Tryz.ntmps51
  go_wp2_with (at_builtin;refine zbe rfl _ _ _ rfl w.heap.size _ _ _ zev _ _ _ rfl (World.ownsRow_made w #[] 0 (zl _) (Nat.zero_le _) rfl) B (some ad) n c xs rfl (HR.out.alloc hB _) h1 (by simp only [maxLen] at hcap ⊢;omega) (by omega) (by simp) ?_;intro v' w' hown hbel hg _)
  go_ret;exact ⟨_,rfl,by simpa using hown,((Below.refl _ _).alloc (zl _) _).trans hbel⟩
end
end Go.Proofs.YtockodmbhnlheaaGreatDoor
