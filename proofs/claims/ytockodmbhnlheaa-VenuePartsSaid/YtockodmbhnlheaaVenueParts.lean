/-
  THE LAW VenueParts: holds for every input, with no condition. (Joined texts: RowV, VenueLaws2, EvEq, EvEqS, EsEq, EsCat, CutL, VPartsW, VenueParts.)
-/
import Derived.Test.YtockodmbhnlheaaProg
import Derived.Maps.AppendAt
import Derived.Laws.AppendOwnNone
import Derived.OwnWalk
import Derived.Deep.RegionHeld3
import Derived.Lib.AppendZeros
import Derived.Laws.CopyOwn
import Derived.Lib.AppendZerosOnto
import Derived.Lib.Overlaps
import Derived.Laws.Externs
import Derived.Deep.RegionLaw
import Derived.Maps.Own
import Derived.Maps.OwnOps
import Derived.Maps.Views
import Derived.WalkKit
import Derived.Deep.Draws
import Derived.IntWalk
import Derived.Test.YtockodmbhnlheaaRows
import Derived.ProofKit
import Derived.OpenShut
import Derived.SizedLaws
import Derived.Deep.Slices
import Derived.Deep.QuietTactic
import Derived.BigQuiet
import Derived.Deep.DeepCutAuto
import Derived.WalkSpells
import Derived.WalkLawsBesides
import Derived.Lib.Hide
import Derived.Test.YtockodmbhnlheaaM01
import Derived.Test.YtockodmbhnlheaaM02
import Derived.Test.YtockodmbhnlheaaM03
import Derived.Test.YtockodmbhnlheaaM04
import Derived.Test.YtockodmbhnlheaaM05
import Derived.Test.YtockodmbhnlheaaM06
import Derived.Test.YtockodmbhnlheaaM07
import Derived.Test.YtockodmbhnlheaaM08
import Derived.Test.YtockodmbhnlheaaM09
import Derived.Test.YtockodmbhnlheaaM10
import Derived.Test.YtockodmbhnlheaaM11
import Derived.Test.YtockodmbhnlheaaM12
import Derived.Test.YtockodmbhnlheaaM13
import Derived.Test.YtockodmbhnlheaaM14
import Derived.Test.YtockodmbhnlheaaM15
import Derived.Test.YtockodmbhnlheaaM16
import Derived.Test.YtockodmbhnlheaaM17
import Derived.Test.YtockodmbhnlheaaM18
import Derived.Test.YtockodmbhnlheaaM19
import Derived.Laws.MakeOwn
import Derived.KernelRfl
import Derived.RegionTactic
import Derived.ChangeAlike
import Derived.JoinedOf
namespace Go.Proofs.Ytockodmbhnlheaa
section
open Go.ChangeShapes Go.WideShapes Go.ChangeAt Go.RowKit
section
variable {H:Type} {enc:TypeId × Value→H} {W:World}
theorem core_cms {fuel:Nat} {cs:List Value} {x:DataW H × List MemPlace} (h:DataW.trod enc Try.prog W 0 (fun _=>true) true fuel 138 cs=some x)
  (hs:∀ y ∈ x.1.weights Try.prog 138,y ≤ reachBytes) :
  ∃ A n c L,cs = [.slice A n c]∧RdL shCm W W.heap.size A n c L∧c * 88 ≤ reachBytes∧∀ a ∈ L,FitCm a:=by
 rcases Go.Deep.open_slice Try.underlying138 h with ⟨hcs,hx⟩ | ⟨ad,n,c,m,f,D,Pl,hcs,_,hl,hm,hmm,hx,hi⟩
 ·exact ⟨none,0,0,[],hcs,RdL.none_ _ _ _,by simp,by simp⟩
 ·simp only [if_true] at hmm
  subst hmm
  rw [show Try.prog.cellsOf 113=11 by kernel_rfl] at hi
  have hel:∀ i,i < n→∃ a:Cm,FitCm a∧∀ j u,[.int .i64 a.kind,.int .i64 a.acc,.int .i64 a.market,.int .i64 a.n,.int .i64 a.o.id,.int .i64 a.o.acc,.int .i64 a.o.side,.int .i64 a.o.price,.int .i64 a.o.qty,.int .i64 a.how,.bool a.reduce][j]?=some u→W.cell? ((ad.add (i * 11)).add j)=some u:=by
   intro i hin
   obtain ⟨cs',hc,ht⟩:=hi i (by omega)
   obtain ⟨_,hcl,hat⟩:=World.cells?_some hc
   obtain ⟨a,he,hfit⟩:=core_cm ht
   refine ⟨a,hfit,fun j u hu=>?_⟩
   have hj:j < 11:=by have:=(List.getElem?_eq_some_iff.1 hu).1;simpa using this
   rw [hat j hj,he];exact hu
  obtain ⟨L,hL,hall⟩:=exists_list _ n hel
  refine ⟨some ad,n,m,L,hcs,⟨hL,hl,hm,nofun,fun hn=>?_⟩,?_,fun a ha=>?_⟩
  ·obtain ⟨a,_,kk⟩:=hel 0 hn
   have k0:=kk 0 _ rfl
   rw [show (ad.add (0 * 11)).add 0=ad by simp [Addr.add]] at k0
   have hsp:=spot_of_cell k0
   refine ⟨ad.block,ad.off,?_,lt_of_cell k0,fun i a ha=>?_⟩
   ·obtain ⟨b,o,sp⟩:=ad;simp only at hsp;subst hsp;rfl
   ·obtain ⟨_,kk⟩:=hall i a ha
    obtain ⟨b1,b2,b3⟩:=addr_add ad hsp (i * 11)
    have e:∀ j u,[.int .i64 a.kind,.int .i64 a.acc,.int .i64 a.market,.int .i64 a.n,.int .i64 a.o.id,.int .i64 a.o.acc,.int .i64 a.o.side,.int .i64 a.o.price,.int .i64 a.o.qty,.int .i64 a.how,.bool a.reduce][j]?=some u→W.cell? ⟨ad.block,ad.off + i * 11 + j,none⟩=some u:=by
     intro j u hu
     have:=add_of_cell b3 (kk j u hu)
     rw [b1,b2] at this;exact this
    exact ⟨e 0 _ rfl,e 1 _ rfl,e 2 _ rfl,e 3 _ rfl,e 4 _ rfl,e 5 _ rfl,e 6 _ rfl,e 7 _ rfl,e 8 _ rfl,e 9 _ rfl,e 10 _ rfl⟩
  ·subst hx
   have hb:=hs ((((List.range n).map D).length + ((List.range (m - n)).map fun j=>D (n + j)).length) * 88) (by
    simp only [DataW.weights,Try.underlying138]
    rw [show Try.prog.bytesOf 113=88 by kernel_rfl]
    simp)
   simp at hb
   rw [show n + (m - n)=m by omega] at hb
   exact hb
  ·obtain ⟨i,hi⟩:=List.mem_iff_getElem?.1 ha
   exact (hall i a hi).1
set_option maxRecDepth 100000 in
theorem opens_commands {base:Nat} {v:Value} {d:DataW H} {p:List MemPlace} (hv:Value.okWide Try.prog W .any base 138 v) (h:DataW.Trod enc Try.prog W 0 (fun _=>true) true 138 v d p)
  (hs:∀ x ∈ d.weights Try.prog 138,x ≤ reachBytes) :
  ∃ A n c L,v=.slice A n c∧RdL shCm W W.heap.size A n c L∧c * 88 ≤ reachBytes∧∀ a ∈ L,FitCm a:=by
 obtain ⟨A,n,c,rfl⟩:=okWide_slice Try.underlying138 hv
 obtain ⟨fuel,hf⟩:=h
 obtain ⟨A',n',c',L,hcs,hr⟩:=core_cms hf hs
 simp [Value.cells] at hcs
 obtain ⟨rfl,rfl,rfl⟩:=hcs
 exact ⟨_,_,_,L,rfl,hr⟩
end
end
section
theorem runFrom_app {l2:List Cm}:∀ {l1:List Cm} {v:Vn} {out:List (List Ev)} {w:Vn} {ev:List (List Ev)},runFrom v out (l1 ++ l2)=(w,ev,0) →
  ∃ y a,runFrom v out l1=(y,a,0)∧runFrom y a l2=(w,ev,0)
 | [],v,out,w,ev,h=>⟨v,out,rfl,h⟩
 | c :: l1,v,out,w,ev,h=>by
  simp only [List.cons_append,runFrom] at h ⊢
  split at h
  ·rename_i h1;injection h with _ h;injection h with _ h;exact absurd h h1
  ·rename_i h1
   rw [if_neg h1]
   exact runFrom_app h
theorem runFrom_shift:∀ (l:List Cm) (v:Vn) (out:List (List Ev)),runFrom v out l=if (runFrom v [] l).2.2=0 then ((runFrom v [] l).1,out ++ (runFrom v [] l).2.1,0) else (zeroVn,[],(runFrom v [] l).2.2)
 | [],v,out=>by simp [runFrom]
 | c :: l,v,out=>by
  have e1:=runFrom_shift l (doOf v c).1 (out ++ [(doOf v c).2.1])
  have e2:=runFrom_shift l (doOf v c).1 ([] ++ [(doOf v c).2.1])
  by_cases h:(doOf v c).2.2 ≠ 0
  ·simp only [runFrom,if_pos h]
   rw [if_neg h]
  ·simp only [runFrom,if_neg h]
   rw [e1,e2]
   by_cases h2:(runFrom (doOf v c).1 [] l).2.2=0
   ·rw [if_pos h2,if_pos h2,if_pos rfl];simp
   ·rw [if_neg h2,if_neg h2,if_neg h2]
theorem runFrom_len:∀ {l:List Cm} {v:Vn} {out:List (List Ev)},(runFrom v out l).2.2=0→(runFrom v out l).2.1.length=out.length + l.length
 | [],v,out,_=>rfl
 | c :: l,v,out,h=>by
  by_cases h1:(doOf v c).2.2 ≠ 0
  ·simp only [runFrom,if_pos h1] at h;exact absurd h h1
  ·simp only [runFrom,if_neg h1] at h ⊢
   rw [runFrom_len h];simp;omega
theorem runFrom_out {l:List Cm} {v:Vn} {out:List (List Ev)} {w:Vn} {ev:List (List Ev)} (h:runFrom v out l=(w,ev,0)):∃ b,runFrom v [] l=(w,b,0)∧ev=out ++ b∧b.length=l.length:=by
 have hs:=runFrom_shift l v out
 rw [h] at hs
 split at hs
 ·rename_i h1
  injection hs with e1 hs;injection hs with e2 _
  refine ⟨(runFrom v [] l).2.1,?_,e2,?_⟩
  ·exact Prod.ext e1.symm (Prod.ext rfl h1)
  ·rw [runFrom_len h1];simp
 ·rename_i h1
  injection hs with _ hs;injection hs with _ hs;exact absurd hs.symm h1
theorem runFrom_vok:∀ {l:List Cm} {v:Vn} {out:List (List Ev)} {w:Vn} {ev:List (List Ev)},VOk v→runFrom v out l=(w,ev,0)→VOk w
 | [],v,out,w,ev,hv,h=>by injection h with e1 _;rw [← e1];exact hv
 | c :: l,v,out,w,ev,hv,h=>by
  unfold runFrom at h
  split at h
  ·rename_i h1;injection h with _ h;injection h with _ h;exact absurd h h1
  ·rename_i h1
   obtain ⟨x,y,e,hd⟩:∃ x y e,doOf v c=(x,y,e):=⟨_,_,_,rfl⟩
   rw [hd] at h h1
   simp only at h h1
   have:e=0:=by omega
   subst this
   exact runFrom_vok (keeps_law hd).2.1 h
theorem parts_run {v w:Vn} {l1 l2:List Cm} {ev:List (List Ev)} (h:runOf v (l1 ++ l2)=(w,ev,0)) :
  ∃ y a b,runOf v l1=(y,a,0)∧runOf y l2=(w,b,0)∧ev=a ++ b:=by
 unfold runOf at h
 split at h
 ·rename_i h1;injection h with _ h;injection h with _ h;exact absurd h h1
 rename_i h1
 split at h
 ·injection h with _ h;injection h with _ h;omega
 rename_i h2
 rw [List.length_append] at h2
 obtain ⟨y,a,k1,k2⟩:=runFrom_app h
 obtain ⟨b,m1,m2,_⟩:=runFrom_out k2
 have hy:=runFrom_vok (venueErr_ok.1 (by omega)) k1
 refine ⟨y,a,b,?_,?_,m2⟩
 ·unfold runOf;rw [if_neg h1,if_neg (by omega)];exact k1
 ·unfold runOf;rw [if_neg (by rw [venueErr_ok.2 hy];simp),if_neg (by omega)];exact m1
end
section
open Go.RowKit
def sameFl (a b:Fl):Bool:=a.maker == b.maker && a.taker == b.taker && a.macc == b.macc && a.tacc == b.tacc && a.side == b.side && a.price == b.price && a.qty == b.qty
def sameEv (a b:Ev):Bool:=a.kind == b.kind && a.err == b.err && a.market == b.market && a.id == b.id && a.acc == b.acc && a.n == b.n && sameFl a.f b.f
theorem sameFl_iff {a b:Fl}:sameFl a b=true ↔ a=b:=by
 constructor
 ·intro h
  simp only [sameFl,Bool.and_eq_true,beq_iff_eq] at h
  obtain ⟨⟨⟨⟨⟨⟨h1,h2⟩,h3⟩,h4⟩,h5⟩,h6⟩,h7⟩:=h
  exact Fl.ext' h1 h2 h3 h4 h5 h6 h7
 ·intro h;subst h;simp [sameFl]
theorem sameEv_iff {a b:Ev}:sameEv a b=true ↔ a=b:=by
 constructor
 ·intro h
  simp only [sameEv,Bool.and_eq_true,beq_iff_eq] at h
  obtain ⟨⟨⟨⟨⟨⟨h1,h2⟩,h3⟩,h4⟩,h5⟩,h6⟩,h7⟩:=h
  obtain ⟨a1,a2,a3,a4,a5,a6,a7⟩:=a
  obtain ⟨b1,b2,b3,b4,b5,b6,b7⟩:=b
  simp only at h1 h2 h3 h4 h5 h6 h7
  rw [h1,h2,h3,h4,h5,h6,sameFl_iff.1 h7]
 ·intro h;subst h;simp [sameEv,sameFl]
set_option maxRecDepth 100000 in
theorem eqIn_fl (a b:Fl) (w:World):(Op.equalIn 9999 87 (.agg #[.int .i64 a.maker,.int .i64 a.taker,.int .i64 a.macc,.int .i64 a.tacc,.int .i64 a.side,.int .i64 a.price,.int .i64 a.qty]) (.agg #[.int .i64 b.maker,.int .i64 b.taker,.int .i64 b.macc,.int .i64 b.tacc,.int .i64 b.side,.int .i64 b.price,.int .i64 b.qty])).run Try.prog w=.ok (sameFl a b) w:=by
 rw [run_equalIn_struct w 9998 _ _ _ (by rw [fieldsOf_of Try.underlying87];exact Try.underlying87) (by kernel_rfl),fieldsOf_of Try.underlying87]
 have hi:=Try.underlying3
 have p0:∀ (x0 x1 x2 x3 x4 x5 x6:Int) w,(part 3 #[.int .i64 x0,.int .i64 x1,.int .i64 x2,.int .i64 x3,.int .i64 x4,.int .i64 x5,.int .i64 x6] 0).run Try.prog w=.ok (.int .i64 x0) w:=fun _ _ _ _ _ _ _ w=>run_part_int hi _ 0 _ rfl w
 have p1:∀ (x0 x1 x2 x3 x4 x5 x6:Int) w,(part 3 #[.int .i64 x0,.int .i64 x1,.int .i64 x2,.int .i64 x3,.int .i64 x4,.int .i64 x5,.int .i64 x6] 1).run Try.prog w=.ok (.int .i64 x1) w:=fun _ _ _ _ _ _ _ w=>run_part_int hi _ 1 _ rfl w
 have p2:∀ (x0 x1 x2 x3 x4 x5 x6:Int) w,(part 3 #[.int .i64 x0,.int .i64 x1,.int .i64 x2,.int .i64 x3,.int .i64 x4,.int .i64 x5,.int .i64 x6] 2).run Try.prog w=.ok (.int .i64 x2) w:=fun _ _ _ _ _ _ _ w=>run_part_int hi _ 2 _ rfl w
 have p3:∀ (x0 x1 x2 x3 x4 x5 x6:Int) w,(part 3 #[.int .i64 x0,.int .i64 x1,.int .i64 x2,.int .i64 x3,.int .i64 x4,.int .i64 x5,.int .i64 x6] 3).run Try.prog w=.ok (.int .i64 x3) w:=fun _ _ _ _ _ _ _ w=>run_part_int hi _ 3 _ rfl w
 have p4:∀ (x0 x1 x2 x3 x4 x5 x6:Int) w,(part 3 #[.int .i64 x0,.int .i64 x1,.int .i64 x2,.int .i64 x3,.int .i64 x4,.int .i64 x5,.int .i64 x6] 4).run Try.prog w=.ok (.int .i64 x4) w:=fun _ _ _ _ _ _ _ w=>run_part_int hi _ 4 _ rfl w
 have p5:∀ (x0 x1 x2 x3 x4 x5 x6:Int) w,(part 3 #[.int .i64 x0,.int .i64 x1,.int .i64 x2,.int .i64 x3,.int .i64 x4,.int .i64 x5,.int .i64 x6] 5).run Try.prog w=.ok (.int .i64 x5) w:=fun _ _ _ _ _ _ _ w=>run_part_int hi _ 5 _ rfl w
 have p6:∀ (x0 x1 x2 x3 x4 x5 x6:Int) w,(part 3 #[.int .i64 x0,.int .i64 x1,.int .i64 x2,.int .i64 x3,.int .i64 x4,.int .i64 x5,.int .i64 x6] 6).run Try.prog w=.ok (.int .i64 x6) w:=fun _ _ _ _ _ _ _ w=>run_part_int hi _ 6 _ rfl w
 have he:=fun (x y:Int) w=>run_equalIn_int w 9997 3 .i64 .i64 x y hi
 simp only [Op.eqFields]
 rw [if_pos (by decide),if_pos (by decide),if_pos (by decide),if_pos (by decide),if_pos (by decide),if_pos (by decide),if_pos (by decide)]
 simp only [Sem.run_bind,p0,p1,p2,p3,p4,p5,p6,Result.andThen_ok,he,Sem.run_ite,Sem.run_pure]
 unfold sameFl
 obtain ⟨c_maker,h_maker⟩:∃ c,(a.maker == b.maker)=c:=⟨_,rfl⟩
 obtain ⟨c_taker,h_taker⟩:∃ c,(a.taker == b.taker)=c:=⟨_,rfl⟩
 obtain ⟨c_macc,h_macc⟩:∃ c,(a.macc == b.macc)=c:=⟨_,rfl⟩
 obtain ⟨c_tacc,h_tacc⟩:∃ c,(a.tacc == b.tacc)=c:=⟨_,rfl⟩
 obtain ⟨c_side,h_side⟩:∃ c,(a.side == b.side)=c:=⟨_,rfl⟩
 obtain ⟨c_price,h_price⟩:∃ c,(a.price == b.price)=c:=⟨_,rfl⟩
 obtain ⟨c_qty,h_qty⟩:∃ c,(a.qty == b.qty)=c:=⟨_,rfl⟩
 simp only [h_maker,h_taker,h_macc,h_tacc,h_side,h_price,h_qty]
 cases c_maker <;> cases c_taker <;> cases c_macc <;> cases c_tacc <;> cases c_side <;> cases c_price <;> cases c_qty <;> rfl
set_option maxRecDepth 100000 in
theorem eqIn_ev (a b:Ev) (w:World):(Op.equalIn 10000 124 (.agg #[.int .i64 a.kind,.int .i64 a.err,.int .i64 a.market,.int .i64 a.id,.int .i64 a.acc,.int .i64 a.n,.int .i64 a.f.maker,.int .i64 a.f.taker,.int .i64 a.f.macc,.int .i64 a.f.tacc,.int .i64 a.f.side,.int .i64 a.f.price,.int .i64 a.f.qty]) (.agg #[.int .i64 b.kind,.int .i64 b.err,.int .i64 b.market,.int .i64 b.id,.int .i64 b.acc,.int .i64 b.n,.int .i64 b.f.maker,.int .i64 b.f.taker,.int .i64 b.f.macc,.int .i64 b.f.tacc,.int .i64 b.f.side,.int .i64 b.f.price,.int .i64 b.f.qty])).run Try.prog w=.ok (sameEv a b) w:=by
 rw [run_equalIn_struct w 9999 _ _ _ (by rw [fieldsOf_of Try.underlying124];exact Try.underlying124) (by kernel_rfl),fieldsOf_of Try.underlying124]
 have hi:=Try.underlying3
 have hr:=Try.underlying22
 have p0:∀ (x0 x1 x2 x3 x4 x5 x6 x7 x8 x9 x10 x11 x12:Int) w,(part 3 #[.int .i64 x0,.int .i64 x1,.int .i64 x2,.int .i64 x3,.int .i64 x4,.int .i64 x5,.int .i64 x6,.int .i64 x7,.int .i64 x8,.int .i64 x9,.int .i64 x10,.int .i64 x11,.int .i64 x12] 0).run Try.prog w=.ok (.int .i64 x0) w:=fun _ _ _ _ _ _ _ _ _ _ _ _ _ w=>run_part_int hi _ 0 _ rfl w
 have p1:∀ (x0 x1 x2 x3 x4 x5 x6 x7 x8 x9 x10 x11 x12:Int) w,(part 22 #[.int .i64 x0,.int .i64 x1,.int .i64 x2,.int .i64 x3,.int .i64 x4,.int .i64 x5,.int .i64 x6,.int .i64 x7,.int .i64 x8,.int .i64 x9,.int .i64 x10,.int .i64 x11,.int .i64 x12] 1).run Try.prog w=.ok (.int .i64 x1) w:=fun _ _ _ _ _ _ _ _ _ _ _ _ _ w=>run_part_int hr _ 1 _ rfl w
 have p2:∀ (x0 x1 x2 x3 x4 x5 x6 x7 x8 x9 x10 x11 x12:Int) w,(part 3 #[.int .i64 x0,.int .i64 x1,.int .i64 x2,.int .i64 x3,.int .i64 x4,.int .i64 x5,.int .i64 x6,.int .i64 x7,.int .i64 x8,.int .i64 x9,.int .i64 x10,.int .i64 x11,.int .i64 x12] 2).run Try.prog w=.ok (.int .i64 x2) w:=fun _ _ _ _ _ _ _ _ _ _ _ _ _ w=>run_part_int hi _ 2 _ rfl w
 have p3:∀ (x0 x1 x2 x3 x4 x5 x6 x7 x8 x9 x10 x11 x12:Int) w,(part 3 #[.int .i64 x0,.int .i64 x1,.int .i64 x2,.int .i64 x3,.int .i64 x4,.int .i64 x5,.int .i64 x6,.int .i64 x7,.int .i64 x8,.int .i64 x9,.int .i64 x10,.int .i64 x11,.int .i64 x12] 3).run Try.prog w=.ok (.int .i64 x3) w:=fun _ _ _ _ _ _ _ _ _ _ _ _ _ w=>run_part_int hi _ 3 _ rfl w
 have p4:∀ (x0 x1 x2 x3 x4 x5 x6 x7 x8 x9 x10 x11 x12:Int) w,(part 3 #[.int .i64 x0,.int .i64 x1,.int .i64 x2,.int .i64 x3,.int .i64 x4,.int .i64 x5,.int .i64 x6,.int .i64 x7,.int .i64 x8,.int .i64 x9,.int .i64 x10,.int .i64 x11,.int .i64 x12] 4).run Try.prog w=.ok (.int .i64 x4) w:=fun _ _ _ _ _ _ _ _ _ _ _ _ _ w=>run_part_int hi _ 4 _ rfl w
 have p5:∀ (x0 x1 x2 x3 x4 x5 x6 x7 x8 x9 x10 x11 x12:Int) w,(part 3 #[.int .i64 x0,.int .i64 x1,.int .i64 x2,.int .i64 x3,.int .i64 x4,.int .i64 x5,.int .i64 x6,.int .i64 x7,.int .i64 x8,.int .i64 x9,.int .i64 x10,.int .i64 x11,.int .i64 x12] 5).run Try.prog w=.ok (.int .i64 x5) w:=fun _ _ _ _ _ _ _ _ _ _ _ _ _ w=>run_part_int hi _ 5 _ rfl w
 have pf:∀ (x0 x1 x2 x3 x4 x5 x6 x7 x8 x9 x10 x11 x12:Int) w,(part 87 #[.int .i64 x0,.int .i64 x1,.int .i64 x2,.int .i64 x3,.int .i64 x4,.int .i64 x5,.int .i64 x6,.int .i64 x7,.int .i64 x8,.int .i64 x9,.int .i64 x10,.int .i64 x11,.int .i64 x12] 6).run Try.prog w=.ok (.agg #[.int .i64 x6,.int .i64 x7,.int .i64 x8,.int .i64 x9,.int .i64 x10,.int .i64 x11,.int .i64 x12]) w:=fun x0 x1 x2 x3 x4 x5 x6 x7 x8 x9 x10 x11 x12 w=>by
  have hz:(sizeOf 87).run Try.prog w=.ok 7 w:=by kernel_rfl
  simp only [part,isAgg,Sem.run_bind,run_underlying Try.underlying87,Result.andThen_ok,Sem.run_pure,if_true,hz]
  rfl
 have he:=fun (x y:Int) w=>run_equalIn_int w 9998 3 .i64 .i64 x y hi
 have her:=fun (x y:Int) w=>run_equalIn_int w 9998 22 .i64 .i64 x y hr
 have hef:=eqIn_fl a.f b.f
 simp only [Op.eqFields]
 rw [if_pos (by decide),if_pos (by decide),if_pos (by decide),if_pos (by decide),if_pos (by decide),if_pos (by decide),if_pos (by decide)]
 simp only [Sem.run_bind,p0,p1,p2,p3,p4,p5,pf,Result.andThen_ok,he,her,hef,Sem.run_ite,Sem.run_pure]
 unfold sameEv
 obtain ⟨c_kind,h_kind⟩:∃ c,(a.kind == b.kind)=c:=⟨_,rfl⟩
 obtain ⟨c_err,h_err⟩:∃ c,(a.err == b.err)=c:=⟨_,rfl⟩
 obtain ⟨c_market,h_market⟩:∃ c,(a.market == b.market)=c:=⟨_,rfl⟩
 obtain ⟨c_id,h_id⟩:∃ c,(a.id == b.id)=c:=⟨_,rfl⟩
 obtain ⟨c_acc,h_acc⟩:∃ c,(a.acc == b.acc)=c:=⟨_,rfl⟩
 obtain ⟨c_n,h_n⟩:∃ c,(a.n == b.n)=c:=⟨_,rfl⟩
 obtain ⟨c_f,h_f⟩:∃ c,sameFl a.f b.f=c:=⟨_,rfl⟩
 simp only [h_kind,h_err,h_market,h_id,h_acc,h_n,h_f]
 cases c_kind <;> cases c_err <;> cases c_market <;> cases c_id <;> cases c_acc <;> cases c_n <;> cases c_f <;> rfl
theorem run_neq_ev (a b:Ev) (w:World):(binOp .neq 124 (.agg #[.int .i64 a.kind,.int .i64 a.err,.int .i64 a.market,.int .i64 a.id,.int .i64 a.acc,.int .i64 a.n,.int .i64 a.f.maker,.int .i64 a.f.taker,.int .i64 a.f.macc,.int .i64 a.f.tacc,.int .i64 a.f.side,.int .i64 a.f.price,.int .i64 a.f.qty]) (.agg #[.int .i64 b.kind,.int .i64 b.err,.int .i64 b.market,.int .i64 b.id,.int .i64 b.acc,.int .i64 b.n,.int .i64 b.f.maker,.int .i64 b.f.taker,.int .i64 b.f.macc,.int .i64 b.f.tacc,.int .i64 b.f.side,.int .i64 b.f.price,.int .i64 b.f.qty])).run Try.prog w=.ok (.bool (!sameEv a b)) w:=by
 rw [run_neq_struct,eqIn_ev];rfl
end
section
open Go.RowKit
theorem rde_len {w:World} {B n c:Nat} {A:Option Addr} {L:List Ev} (h:Rd w B 13 A n c (evCells L)):L.length=n:=by
 have h1:=h.len
 rw [evCells_len] at h1
 omega
instance:DecidableEq Ev:=fun _ _=>decidable_of_iff _ sameEv_iff
def sameEvs (L M:List Ev):Bool:=decide (L=M)
theorem sameEvs_len {L M:List Ev} (h:L.length ≠ M.length):sameEvs L M=false:=by
 unfold sameEvs;exact decide_eq_false fun e=>h (by rw [e])
theorem sameEvs_at {L M:List Ev} {j:Nat} {x y:Ev} (hx:L[j]?=some x) (hy:M[j]?=some y) (h:sameEv x y=false):sameEvs L M=false:=by
 unfold sameEvs
 refine decide_eq_false fun e=>?_
 subst e
 rw [hx] at hy;injection hy with hy
 rw [sameEv_iff.2 hy] at h;cases h
theorem take_nextE {L M:List Ev} {j:Nat} {x y:Ev} (hx:L[j]?=some x) (hy:M[j]?=some y) (h:sameEv x y=true) (ht:L.take j=M.take j):L.take (j + 1)=M.take (j + 1):=by
 rw [List.take_add_one,List.take_add_one,hx,hy,ht,sameEv_iff.1 h]
set_option maxHeartbeats 1000000 in
theorem equal_evs (A A':Option Addr) (n c n' c':Nat) (L M:List Ev) (B:Nat) (w:World) (h:Rd w B 13 A n c (evCells L)) (h':Rd w B 13 A' n' c' (evCells M)) (hB:B ≤ w.heap.size) :
  Calls Try.prog 127 #[.slice A n c,.slice A' n' c'] w fun e w'=>e=.returned (.bool (sameEvs L M))∧Below w.heap.size w w':=by
 have hle:=h.le
 have hcap:=h.cap
 have hle':=h'.le
 have hcap':=h'.cap
 have HL:=Lib.hid (rde_len h)
 have HM:=Lib.hid (rde_len h')
 have q:=run_neq_ev
 unfold maxLen at hcap hcap'
 by_cases hnn:n=n'
 ·subst hnn
  go_enter Try.func127,Try.ntmps127
  go_wp2_with fail
  go_loopw [13] (fun i wr=>∃ j:Nat,j ≤ n∧i=.int .i64 j∧Below w.heap.size w wr∧Hid (L.take j=M.take j)) (fun i _=>n - (intOf i).toNat)
  case atStart=>exact ⟨0,Nat.zero_le _,rfl,Below.refl _ _,Lib.hid (by simp)⟩
  case round =>
   obtain ⟨j,hj,rfl,hbr,HP⟩:=hrel
   have hws:=hbr.size
   by_cases hlt:j < n
   ·obtain ⟨b,o,x,rfl,hb,hx,hce⟩:=ev_at (h.below (hbr.mono hB)) hlt
    have k0:=hce 0 _ rfl
    have k1:=hce 1 _ rfl
    have k2:=hce 2 _ rfl
    have k3:=hce 3 _ rfl
    have k4:=hce 4 _ rfl
    have k5:=hce 5 _ rfl
    have k6:=hce 6 _ rfl
    have k7:=hce 7 _ rfl
    have k8:=hce 8 _ rfl
    have k9:=hce 9 _ rfl
    have k10:=hce 10 _ rfl
    have k11:=hce 11 _ rfl
    have k12:=hce 12 _ rfl
    obtain ⟨b',o',y,rfl,hb',hy,hcf⟩:=ev_at (h'.below (hbr.mono hB)) hlt
    have l0:=hcf 0 _ rfl
    have l1:=hcf 1 _ rfl
    have l2:=hcf 2 _ rfl
    have l3:=hcf 3 _ rfl
    have l4:=hcf 4 _ rfl
    have l5:=hcf 5 _ rfl
    have l6:=hcf 6 _ rfl
    have l7:=hcf 7 _ rfl
    have l8:=hcf 8 _ rfl
    have l9:=hcf 9 _ rfl
    have l10:=hcf 10 _ rfl
    have l11:=hcf 11 _ rfl
    have l12:=hcf 12 _ rfl
    rw [Nat.add_zero] at k0 l0
    have HX:=Lib.hid hx
    have HY:=Lib.hid hy
    clear hx hy hce hcf
    go_wp2_with fail
    go_region
    rcases bool_cs (sameEv x y) with hp | hp
    ·have HN:=Lib.hid (sameEvs_at HX.out HY.out hp)
     rw [hp]
     go_wp2_with fail
     go_ret
     exact ⟨ret_bb HN.out.symm,(by first | exact below_drew hbr | exact below_drewN hbr _)⟩
    ·have HN:=Lib.hid (take_nextE HX.out HY.out hp HP.out)
     rw [hp]
     go_wp2_with fail
     go_roundw
     case rel=>exact ⟨j + 1,by omega,by go_num,(by first | exact below_drew hbr | exact below_drewN hbr _),HN⟩
     case measure=>simp [intOf];omega
   ·have hjn:j=n:=by omega
    have HE:=Lib.hid (show sameEvs L M=true by
     have:=HP.out
     rw [hjn,List.take_of_length_le (by rw [HL.out];exact Nat.le_refl _),List.take_of_length_le (by rw [HM.out];exact Nat.le_refl _)] at this
     exact decide_eq_true this)
    clear hjn
    go_wp2_with fail
    go_ret
    exact ⟨ret_bb HE.out.symm,hbr⟩
 ·have HE:=Lib.hid (sameEvs_len (L:=L) (M:=M) (by rw [HL.out,HM.out];exact hnn))
  go_enter Try.func127,Try.ntmps127
  go_wp2_with fail
  go_ret
  exact ⟨ret_bb HE.out.symm,Below.refl _ _⟩
end
section
open Go.RowKit
theorem es_at {w:World} {B n c:Nat} {A:Option Addr} {L:List (List Ev)} (h:RdL shEs w B A n c L) {i:Nat} (hi:i < n):∃ b o l,A=some ⟨b,o,none⟩∧b < B∧L[i]?=some l ∧
  ∃ A2 c2,w.cell? ⟨b,o + i,none⟩=some (.slice A2 l.length c2)∧Rd w B 13 A2 l.length c2 (evCells l):=by
 obtain ⟨b,o,l,h1,h2,h3,A2,c2,h4,h5⟩:=h.one hi
 exact ⟨b,o,l,h1,h2,h3,A2,c2,by rw [← h4];show _=w.cell? ⟨b,o + i * 1,none⟩;rw [Nat.mul_one],h5⟩
set_option maxHeartbeats 1000000 in
theorem parts1_any (A A':Option Addr) (c c':Nat) (L M:List Ev) (B:Nat) (w:World) (h:Rd w B 13 A L.length c (evCells L)) (h':Rd w B 13 A' M.length c' (evCells M)) (hB:B ≤ w.heap.size) :
  Calls Try.prog 126 #[.slice A L.length c,.slice A' M.length c'] w fun e w'=>e=.returned (.bool (sameEvs L M))∧Below w.heap.size w w':=by
 go_enter Try.func126,Try.ntmps126
 go_wp2_with fail
 refine (equal_evs A A' _ c _ c' L M B _ h h' hB).mono ?_
 rintro e w1 ⟨rfl,hb1⟩
 go_wp2_with fail
 go_ret
 exact ⟨rfl,hb1⟩
def sameEss (L M:List (List Ev)):Bool:=alikeL sameEvs L M
theorem sameEss_iff {L M:List (List Ev)}:sameEss L M=true ↔ L=M:=alike_iff (fun a b=>by unfold sameEvs;simp)
set_option maxHeartbeats 1000000 in
theorem eqfunc_es (A A':Option Addr) (n n' c c':Nat) (L M:List (List Ev)) (B:Nat) (w:World) (h:RdL shEs w B A n c L) (h':RdL shEs w B A' n' c' M) (hB:B ≤ w.heap.size) :
  Calls Try.prog 124 #[.slice A n c,.slice A' n' c',.func (.func 126) #[] #[]] w fun e w'=>e=.returned (.bool (sameEss L M))∧Below w.heap.size w w':=by
 have hle:=h.le
 have hcap:=h.cap
 unfold maxLen at hcap
 by_cases hn:n=n'
 ·subst hn
  have HL:=Lib.hid h.len
  have HL':=Lib.hid h'.len
  go_enter Try.func124,Try.ntmps124
  go_wp2_with fail
  go_loopw [17] (fun i wr=>∃ (j:Nat),j ≤ n∧i=.int .i64 j∧Below w.heap.size w wr∧Hid (sameEss (L.drop j) (M.drop j)=sameEss L M)) (fun i _=>n - (intOf i).toNat)
  case atStart=>exact ⟨0,Nat.zero_le _,rfl,Below.refl _ _,rfl⟩
  case round =>
   obtain ⟨j,hj,rfl,hbr,HT⟩:=hrel
   have hws:=hbr.size
   by_cases hlt:j < n
   ·obtain ⟨b,o,a,rfl,hb,ha,A2,c2,k0,k1⟩:=es_at (h.below (hbr.mono hB)) hlt
    obtain ⟨b',o',a',rfl,hb',ha',A2',c2',k0',k1'⟩:=es_at (h'.below (hbr.mono hB)) hlt
    have HS:=Lib.hid (HT.out.symm.trans (alike_at (f:=sameEvs) ha ha'))
    have x1:b < wr.heap.size:=by omega
    have x2:b' < wr.heap.size:=by omega
    have HK:=Lib.hid k1
    have HK':=Lib.hid k1'
    clear ha ha' k1 k1'
    go_wp2_with fail
    refine (parts1_any A2 A2' c2 c2' a a' B wr HK.out HK'.out (by omega)).mono ?_
    rintro e w2 ⟨rfl,hb2⟩
    have hb3:Below w.heap.size w w2:=hbr.trans (hb2.mono hws)
    rcases bool_cs' (sameEvs a a') with m1 | m1
    rotate_left
    ·have HE:=Lib.hid (show sameEss L M=false by rw [HS.out,m1];rfl)
     rw [m1]
     go_wp2_with fail
     go_ret
     exact ⟨ret_bb' (by rw [HE.out]),hb3⟩
    ·have HE:=Lib.hid (show sameEss (L.drop (j + 1)) (M.drop (j + 1))=sameEss L M by rw [HS.out,m1];rfl)
     clear hb2
     rw [m1]
     go_wp2_with fail
     go_roundw
     case rel=>exact ⟨j + 1,by omega,by go_num,hb3,HE⟩
     case measure=>simp [intOf];omega
   ·have hjn:j=n:=by omega
    have HE:=Lib.hid (show sameEss L M=true by
     have:=HT.out
     rw [hjn,List.drop_eq_nil_of_le (by have:=HL.out;omega),List.drop_eq_nil_of_le (by have:=HL'.out;omega)] at this
     rw [← this];rfl)
    clear hjn
    go_wp2_with fail
    go_ret
    exact ⟨ret_bb' (by rw [HE.out]),hbr⟩
 ·have HE:=Lib.hid (show sameEss L M=false from alike_len (f:=sameEvs) (L:=L) (M:=M) (by rw [h.len,h'.len];exact hn))
  have hne:((n:Int) != (n':Int))=true:=by simp;omega
  go_enter Try.func124,Try.ntmps124
  go_wp2_with fail
  go_ret
  exact ⟨ret_bb' (by rw [HE.out]),Below.refl _ _⟩
end
section
open Go.RowKit
set_option maxHeartbeats 400000 in
set_option maxRecDepth 100000 in
theorem grow_nil_es (n:Nat) (hn:n * 24 ≤ 140737488355328) (w:World) :
  Calls Try.prog 162 #[.slice none 0 0,.int .i64 n] w (RetRow w 114 1 0 []):=by
 have hm:n ≤ maxLen:=by simp only [maxLen];omega
 by_cases h0:n=0
 ·subst h0
  go_enter Try.func162,Try.ntmps162
  go_wp2_with fail
  go_ret
  exact ⟨_,rfl,World.ownsRow_nil _ _ _ _,Below.refl _ _⟩
 ·obtain ⟨c,cur,hr,hc1,hc2,hc3⟩:=app_zeros (P:=Try.prog) elem_es Try.underlying3 w n (by omega) hn hm
  have HR:=Lib.hid hr
  clear hr
  go_enter Try.func162,Try.ntmps162
  go_wp2_with (at_builtin;refine Lib.wpList_append_run _ rfl _ _ _ _ rfl _ _ rfl rfl _ _ (HR.out _) ?_)
  go_ret
  exact ⟨_,rfl,World.ownsRow_made _ _ _ (Nat.le_refl _) hc2 hc3,(below_drew (Below.refl _ _)).alloc (Nat.le_refl _) _⟩
set_option maxHeartbeats 2000000 in
set_option maxRecDepth 100000 in
theorem concat_es (A A':Option Addr) (n c n' c':Nat) (Z Z':List Value) (B:Nat) (w:World) (h:Rd w B 1 A n c Z) (h':Rd w B 1 A' n' c' Z') (hB:B ≤ w.heap.size)
  (g:Nat) (hg:g < w.heap.size) (c0:w.cell? ⟨g,0,none⟩=some (.slice A n c)) (c1:w.cell? ⟨g,1,none⟩=some (.slice A' n' c')) (hb:(n + n') * 24 ≤ 140737488355328) (hz:∀ u ∈ Z,u.oneCell'=true) (hz':∀ u ∈ Z',u.oneCell'=true) :
  Calls Try.prog 125 #[.slice (some ⟨g,0,none⟩) 2 2] w (RetRow w 114 1 (n + n') (Z ++ Z')):=by
 have HR:=Lib.hid h
 have HR':=Lib.hid h'
 have HZ:=Lib.hid hz
 have HZ':=Lib.hid hz'
 have hm:n + n' ≤ maxLen:=by simp only [maxLen];omega
 have HM:=Lib.hid hm
 clear h h' hm hz hz'
 go_enter Try.func125,Try.ntmps125
 go_wp2_with fail
 go_loopw [11,3] (fun i s wr=>w=wr∧(i=.int .i64 0∧s=.int .i64 0∨i=.int .i64 1∧s=.int .i64 n∨i=.int .i64 2∧s=.int .i64 (n + n':Nat))) (fun i _ _=>2 - (intOf i).toNat)
 case atStart=>exact ⟨rfl,.inl ⟨rfl,rfl⟩⟩
 case round =>
  obtain ⟨rfl,⟨rfl,rfl⟩ | ⟨rfl,rfl⟩ | ⟨rfl,rfl⟩⟩:=hrel
  ·go_wp2_with fail
   go_roundw
   case rel=>exact ⟨(by first | rfl | trivial),.inr (.inl ⟨rfl,by go_num⟩)⟩
   case measure=>simp [intOf]
  ·go_wp2_with fail
   go_roundw
   case rel=>exact ⟨(by first | rfl | trivial),.inr (.inr ⟨rfl,by go_num⟩)⟩
   case measure=>simp [intOf]
  ·go_wp2_with fail
   refine (grow_nil_es (n + n') hb _).mono ?_
   rintro e w1 ⟨v,rfl,hown,hbl⟩
   have HO:=Lib.hid hown
   clear hown
   go_wp2_with fail
   go_loopw [27,6] (fun i v wr=>Below w.heap.size w wr∧(i=.int .i64 0∧Hid (wr.ownsRow w.heap.size 114 1 v 0 [])∨i=.int .i64 1∧Hid (wr.ownsRow w.heap.size 114 1 v n Z)∨i=.int .i64 2∧Hid (wr.ownsRow w.heap.size 114 1 v (n + n') (Z ++ Z')))) (fun i _ _=>2 - (intOf i).toNat)
   case atStart=>exact ⟨hbl,.inl ⟨rfl,HO⟩⟩
   case round =>
    obtain ⟨hbr,⟨rfl,HV⟩ | ⟨rfl,HV⟩ | ⟨rfl,HV⟩⟩:=hrel
    ·have d0:=(hbr.cell (p:=⟨g,0,none⟩) hg).trans c0
     go_wp2_with (at_builtin;refine wpList_app rfl _ _ _ rfl w.heap.size _ _ _ elem_es _ _ _ rfl HV.out B A n c Z rfl (HR.out.below (hbr.mono hB)) HZ.out (by have:=HM.out;omega) (by omega) hbr.size ?_;intro v' w' hown' hbel' _ _)
     have HO':=Lib.hid (by simpa using hown')
     go_roundw
     case rel=>exact ⟨hbr.trans hbel',.inr (.inl ⟨rfl,HO'⟩)⟩
     case measure=>simp [intOf]
    ·have d0:=(hbr.cell (p:=⟨g,1,none⟩) hg).trans c1
     go_wp2_with (at_builtin;refine wpList_app rfl _ _ _ rfl w.heap.size _ _ _ elem_es _ _ _ rfl HV.out B A' n' c' Z' rfl (HR'.out.below (hbr.mono hB)) HZ'.out (by have:=HM.out;omega) (by omega) hbr.size ?_;intro v' w' hown' hbel' _ _)
     have HO':=Lib.hid hown'
     go_roundw
     case rel=>exact ⟨hbr.trans hbel',.inr (.inr ⟨rfl,HO'⟩)⟩
     case measure=>simp [intOf]
    ·go_wp2_with fail
     go_ret
     exact ⟨_,rfl,HV.out,hbr⟩
end
section
open Go.RowKit
theorem rdL_sliced {α:Type} {S:Shape α} {w:World} {B n c:Nat} {A:Option Addr} {L:List α} (h:RdL S w B A n c L) (lo hi:Nat) (h1:lo ≤ hi) (h2:hi ≤ n) :
  ∃ A',sliced A lo hi c S.k=.slice A' (hi - lo) (c - lo)∧RdL S w B A' (hi - lo) (c - lo) ((L.drop lo).take (hi - lo)):=by
 have hle:=h.le
 have hcap:=h.cap
 refine ⟨_,rfl,⟨?_,by omega,by omega,?_,fun hn=>?_⟩⟩
 ·rw [List.length_take,List.length_drop,h.len];omega
 ·intro hA
  by_cases hc:c=lo
  ·omega
  ·simp [hc] at hA
   have:=h.nil hA
   omega
 ·obtain ⟨b,o,rfl,hb,hcell⟩:=h.at_ (by omega)
  have hc:¬ c=lo:=by omega
  refine ⟨b,o + lo * S.k,?_,hb,fun j u hj=>?_⟩
  ·simp only [hc,if_false,Option.map_some,Option.some.injEq]
   unfold Addr.add
   by_cases h0:lo * S.k=0
   ·simp [h0]
   ·simp [h0]
  ·have hj':j < hi - lo:=by
    have:=(List.getElem?_eq_some_iff.1 hj).1
    rw [List.length_take] at this
    omega
   rw [List.getElem?_take_of_lt hj',List.getElem?_drop] at hj
   rw [Nat.add_assoc,← Nat.add_mul]
   exact hcell _ _ hj
theorem elem_cm:Elem Try.prog 138 113 11 88:=elem_mk Try.underlying138 (by kernel_rfl) (by decide)
theorem cutL_h {w:World} {B n c:Nat} {A:Option Addr} {L:List Cm} (h:RdL shCm w B A n c L) (hi:Nat) (h2:hi ≤ n) :
  ∃ A',(∀ w',(Instr.slice 138 (.slice A n c) none (some (.int .i64 hi)) none).run Try.prog w'=.ok (.slice A' hi c) w')∧RdL shCm w B A' hi c (L.take hi):=by
 obtain ⟨A',h3,h4⟩:=rdL_sliced h 0 hi (by omega) h2
 refine ⟨A',fun w'=>?_,by simpa using h4⟩
 have hle:=h.le
 rw [run_slice_h _ _ _ _ _ (elem_elem elem_cm) .i64 hi (by omega) (by omega),elem_size elem_cm]
 simp only [Result.andThen,Int.toNat_natCast]
 have h5:sliced A 0 hi c 11=.slice A' (hi - 0) (c - 0):=h3
 rw [h5];simp
theorem cutL_l {w:World} {B n c:Nat} {A:Option Addr} {L:List Cm} (h:RdL shCm w B A n c L) (lo:Nat) (h2:lo ≤ n) :
  ∃ A',(∀ w',(Instr.slice 138 (.slice A n c) (some (.int .i64 lo)) none none).run Try.prog w'=.ok (.slice A' (n - lo) (c - lo)) w')∧RdL shCm w B A' (n - lo) (c - lo) (L.drop lo):=by
 obtain ⟨A',h3,h4⟩:=rdL_sliced h lo n h2 (Nat.le_refl _)
 refine ⟨A',fun w'=>?_,?_⟩
 ·rw [run_slice_l _ _ _ _ _ (elem_elem elem_cm) .i64 lo (by omega) (by omega),elem_size elem_cm]
  simp only [Result.andThen,Int.toNat_natCast]
  have h5:sliced A lo n c 11=.slice A' (n - lo) (c - lo):=h3
  rw [h5]
 ·rw [List.take_of_length_le (by rw [List.length_drop,h.len];exact Nat.le_refl _)] at h4
  exact h4
end
section
open Go.RowKit
theorem vrun_refP {r:Vn × List (List Ev) × Int} (v:Vn) (l:List Cm) (A M S:Option Addr) (c k n cs:Nat) (B B':Nat) (w:World) (hr:runOf v l=r) (h:VnR w B A c M k v) (hB:B ≤ w.heap.size) (hl:RdL shCm w B' S n cs l) (hB':B' ≤ w.heap.size) :
  Calls Try.prog 123 #[.agg #[.slice A v.accs.length c,.slice M v.mks.length k,.int .i64 v.ins,.int .i64 v.resid,.int .i64 v.next,.int .i64 v.inn,.int .i64 v.out],.slice S n cs] w (RetRun w r):=by rw [← hr];exact vrun_any v l A M S c k n cs B B' w h hB hl hB'
theorem runFrom_lenP:∀ {l:List Cm} {v:Vn} {out:List (List Ev)} {w:Vn} {ev:List (List Ev)},runFrom v out l=(w,ev,0)→ev.length=out.length + l.length
 | [],v,out,w,ev,h=>by simp only [runFrom] at h;injection h with _ h;injection h with h _;rw [← h];simp
 | c :: l,v,out,w,ev,h=>by
  unfold runFrom at h
  split at h
  ·rename_i h1;injection h with _ h;injection h with _ h;exact absurd h h1
  ·have:=runFrom_lenP h
   rw [this];simp only [List.length_append,List.length_cons,List.length_nil];omega
theorem runOf_lenP {v w:Vn} {l:List Cm} {ev:List (List Ev)} (h:runOf v l=(w,ev,0)):l.length ≤ 60∧ev.length=l.length:=by
 unfold runOf at h
 split at h
 ·rename_i h1;injection h with _ h;injection h with _ h;exact absurd h h1
 split at h
 ·injection h with _ h;injection h with _ h;cases h
 ·exact ⟨by omega,by have:=runFrom_lenP h;simpa using this⟩
theorem new7 {w Z:World} {o:Array Value} (hZ:Z=w.alloc (.cells o 111)):Blk Z w.heap.size 111 o∧Below w.heap.size w Z:=by
 rw [hZ];exact ⟨Blk.new w _ _,(Below.refl _ _).alloc (Nat.le_refl _) _⟩
def EsEl (w:World) (B:Nat) (L:List (List Ev)) (zs:List Value):Prop:=zs.length=L.length∧∀ (i:Nat) (l:List Ev),L[i]?=some l→∃ (A:Option Addr) (c:Nat),zs[i]?=some (Value.slice A l.length c)∧Rd w B 13 A l.length c (evCells l)
theorem EsEl.below {w w':World} {B:Nat} {L:List (List Ev)} {zs:List Value} (h:EsEl w B L zs) (hb:Below B w w'):EsEl w' B L zs :=
 ⟨h.1,fun i l hi=>by obtain ⟨A,c,h1,h2⟩:=h.2 i l hi;exact ⟨A,c,h1,h2.below hb⟩⟩
theorem EsEl.up {w:World} {B B':Nat} {L:List (List Ev)} {zs:List Value} (h:EsEl w B L zs) (hb:B ≤ B'):EsEl w B' L zs :=
 ⟨h.1,fun i l hi=>by obtain ⟨A,c,h1,h2⟩:=h.2 i l hi;exact ⟨A,c,h1,h2.up hb⟩⟩
theorem EsEl.app {w:World} {B:Nat} {L M:List (List Ev)} {zs ys:List Value} (h:EsEl w B L zs) (h':EsEl w B M ys):EsEl w B (L ++ M) (zs ++ ys):=by
 refine ⟨by rw [List.length_append,List.length_append,h.1,h'.1],fun i l hi=>?_⟩
 by_cases hl:i < L.length
 ·rw [List.getElem?_append_left hl] at hi
  rw [List.getElem?_append_left (by rw [h.1];exact hl)]
  exact h.2 i l hi
 ·rw [List.getElem?_append_right (by omega)] at hi
  rw [List.getElem?_append_right (by rw [h.1];omega),h.1]
  exact h'.2 _ l hi
theorem EsEl.read {w:World} {B n c:Nat} {A:Option Addr} {L:List (List Ev)} {zs:List Value} (h:EsEl w B L zs) (hr:Rd w B 1 A n c zs):RdL shEs w B A n c L:=by
 have hn:=hr.len
 refine ⟨by rw [← h.1,hn,Nat.mul_one],hr.le,hr.cap,hr.nil,fun h0=>?_⟩
 obtain ⟨b,o,e,hb,hc⟩:=hr.at_ h0
 refine ⟨b,o,e,hb,fun i a ha=>?_⟩
 obtain ⟨A2,c2,k1,k2⟩:=h.2 i a ha
 refine ⟨A2,c2,?_,k2⟩
 show w.cell? ⟨b,o + i * 1,none⟩=_
 rw [Nat.mul_one];exact hc _ _ k1
theorem OwnEs.el {w:World} {base n c:Nat} {A:Option Addr} {L:List (List Ev)} {zs:List Value} (h:OwnEs w base (.slice A n c) n L zs):EsEl w w.heap.size L zs:=by
 have h1:=(Rd.of_own h.row).len
 refine ⟨by rw [h1,h.len,Nat.mul_one],fun i l hi=>?_⟩
 obtain ⟨A2,c2,k1,k2⟩:=h.cell i l hi
 exact ⟨A2,c2,k1,Rd.of_own k2⟩
theorem OwnEs.fr {S:List TypeId} {G:List Nat} {w w':World} {base n:Nat} {v:Value} {L:List (List Ev)} {zs:List Value} (h:OwnEs w base v n L zs) (hF:Fr S G w w') (h1:114 ∉ S) (h2:124 ∉ S) (hG:∀ g ∈ G,g < base):OwnEs w' base v n L zs :=
 ⟨hF.own h.row h1 (fun g hg hm=>by have:=(World.ownsRow.lt h.row g hg).1;have:=hG g hm;omega),h.len,fun i l hi=>by
  obtain ⟨A,c,h0,h3⟩:=h.cell i l hi
  exact ⟨A,c,h0,hF.own h3 h2 fun g hg hm=>by have:=(World.ownsRow.lt h3 g hg).1;have:=hG g hm;omega⟩,h.one⟩
set_option maxHeartbeats 16000000 in
set_option maxRecDepth 100000 in
theorem venueParts_walk (V:Vn) (A:Option Addr) (c:Nat) (M:Option Addr) (k:Nat) (S:Option Addr) (n cs:Nat) (L:List Cm) (z:Int) (w:World) (h:VnR w w.heap.size A c M k V) (hl:RdL shCm w w.heap.size S n cs L) :
  Calls Try.prog 29 #[.agg #[.slice A V.accs.length c,.slice M V.mks.length k,.int .i64 V.ins,.int .i64 V.resid,.int .i64 V.next,.int .i64 V.inn,.int .i64 V.out],.slice S n cs,.int .i64 z] w fun e w'=>e=.returned (.bool true)∧Below w.heap.size w w':=by
 have HV:=Lib.hid h
 have HL:=Lib.hid hl
 have hle:=hl.le
 have hcap:=hl.cap
 unfold maxLen at hcap
 have hLn:=hl.len
 obtain ⟨U,es,er,hrun⟩:∃ U es er,runOf V L=(U,es,er):=⟨_,_,_,rfl⟩
 have HRUN:=Lib.hid hrun
 clear h hl hrun
 go_enter Try.func29,Try.ntmps29
 go_wp2_with fail
 refine calls_name ?_
 intro W0 hW0
 have hB0:Below w.heap.size w W0:=by rw [hW0];exact (Below.refl _ _).alloc (Nat.le_refl _) _
 have X0:Blk W0 w.heap.size 111 #[.slice A V.accs.length c,.slice M V.mks.length k,.int .i64 V.ins,.int .i64 V.resid,.int .i64 V.next,.int .i64 V.inn,.int .i64 V.out]:=by rw [hW0];exact Blk.new w _ _
 have hs0:W0.heap.size=w.heap.size + 1:=by rw [hW0];simp
 clear hW0
 refine (vrun_refP V L A M S c k n cs w.heap.size w.heap.size W0 HRUN.out (HV.out.below hB0) (by omega) (HL.out.below hB0) (by omega)).mono ?_
 rintro e W1 ⟨A1,c1,M1,k1,E1,n1,rfl,⟨xs1,ha1⟩,⟨ys1,hm1⟩,⟨zs1,he1⟩,hb1⟩
 have hs1:=hb1.size
 go_wp2_with fail
 refine calls_name ?_
 intro W2 hW2
 have hB2:Below W1.heap.size W1 W2:=by rw [hW2];exact (Below.refl _ _).alloc (Nat.le_refl _) _
 have Y2:Blk W2 W1.heap.size 111 #[.slice A1 U.accs.length c1,.slice M1 U.mks.length k1,.int .i64 U.ins,.int .i64 U.resid,.int .i64 U.next,.int .i64 U.inn,.int .i64 U.out]:=by rw [hW2];exact Blk.new W1 _ _
 have hs2:=hB2.size
 clear hW2
 refine (opened_any W2).mono ?_
 rintro e W3 ⟨rfl,hb3⟩
 have hs3:=hb3.size
 have hB13:Below W1.heap.size W1 W3:=hB2.trans (hb3.mono hs2)
 have hB3:Below w.heap.size w W3:=hB0.trans ((hb1.mono (by omega)).trans (hB13.mono (by omega)))
 have X3:=X0.below (hb1.trans (hB13.mono hs1)) X0.lt
 have Y3:=Y2.below hb3 Y2.lt
 have HU3:=Lib.hid (show VnR W3 W3.heap.size A1 c1 M1 k1 U from ⟨(ha1.below hB13).read,(hm1.below hB13).read⟩)
 have HE3:=Lib.hid (show RdL shEs W3 W3.heap.size E1 es.length n1 es from (he1.below hB13).read)
 have HV3:=Lib.hid (HV.out.below hB3)
 have HL3:=Lib.hid (HL.out.below hB3)
 clear ha1 hm1 he1 hb1 hb3 hB13 hB2 hB0 X0 Y2
 by_cases he:er=0
 rotate_left
 ·have he':(er != 0)=true:=by simpa using he
  clear he
  go_wp2_with fail
  refine (opened_any W3).mono ?_
  rintro e W4 ⟨rfl,hb4⟩
  go_wp2_with fail
  go_ret
  exact ⟨rfl,hB3.trans (hb4.mono (by omega))⟩
 subst he
 have hl60:=(runOf_lenP HRUN.out).1
 have HELN:=Lib.hid (runOf_lenP HRUN.out).2
 have hn60:n ≤ 60:=by omega
 have hkz0:=Int.emod_nonneg z (show ((n:Int) + 1) ≠ 0 by omega)
 have hkz1:=Int.emod_lt_of_pos z (show 0 < ((n:Int) + 1) by omega)
 obtain ⟨kk,hkk⟩:∃ kk:Nat,z % ((n:Int) + 1)=kk:=⟨(z % ((n:Int) + 1)).toNat,by omega⟩
 have hkn:kk ≤ n:=by omega
 have HKK:=Lib.hid hkk
 clear hkk hkz0 hkz1
 go_wp2_with fail
 refine (atk_any z ((n:Int) + 1) W3 (by omega) (by omega)).mono ?_
 rintro e w4 ⟨rfl,rfl⟩
 rw [HKK.out]
 obtain ⟨y,la,lb,hy1,hy2,hy3⟩:=parts_run (l1:=L.take kk) (l2:=L.drop kk) (by rw [List.take_append_drop];exact HRUN.out)
 have HY1:=Lib.hid hy1
 have HY2:=Lib.hid hy2
 have HY3:=Lib.hid hy3
 obtain ⟨S1,hc1,hr1⟩:=cutL_h HL3.out kk hkn
 obtain ⟨S2,hc2,hr2⟩:=cutL_l HL3.out kk hkn
 have HR1:=Lib.hid (RdL.up hr1 (show _ ≤ W3.heap.size by omega))
 have HR2:=Lib.hid (RdL.up hr2 (show _ ≤ W3.heap.size by omega))
 have HVU:=Lib.hid (HV3.out.up (show _ ≤ W3.heap.size by omega))
 have x3:=X3.lt
 clear hy1 hy2 hy3 hr1 hr2
 have x5:=X3.lt
 have KS5:Hid (∀ W,Below W3.heap.size W3 W→Below W3.heap.size W3 W∧W.cell? ⟨w.heap.size,0,none⟩=some (.slice A V.accs.length c)∧W.cell? ⟨w.heap.size,1,none⟩=some (.slice M V.mks.length k)∧W.cell? ⟨w.heap.size,2,none⟩=some (.int .i64 V.ins)∧W.cell? ⟨w.heap.size,3,none⟩=some (.int .i64 V.resid)∧W.cell? ⟨w.heap.size,4,none⟩=some (.int .i64 V.next)∧W.cell? ⟨w.heap.size,5,none⟩=some (.int .i64 V.inn)∧W.cell? ⟨w.heap.size,6,none⟩=some (.int .i64 V.out)):=by
  intro W hW
  obtain ⟨⟨k0,k1,k2,k3,k4,k5,k6⟩,-⟩:=(X3.below hW x5).c7
  exact ⟨hW,k0,k1,k2,k3,k4,k5,k6⟩
 have KT5:Hid (∀ W v0 v1 v2 v3 v4 v5 v6,Below W3.heap.size W3 W→Below W3.heap.size W3 (((((((W.setCell ⟨W3.heap.size,0,none⟩ v0).setCell ⟨W3.heap.size,1,none⟩ v1).setCell ⟨W3.heap.size,2,none⟩ v2).setCell ⟨W3.heap.size,3,none⟩ v3).setCell ⟨W3.heap.size,4,none⟩ v4).setCell ⟨W3.heap.size,5,none⟩ v5).setCell ⟨W3.heap.size,6,none⟩ v6)∧(((((((W.setCell ⟨W3.heap.size,0,none⟩ v0).setCell ⟨W3.heap.size,1,none⟩ v1).setCell ⟨W3.heap.size,2,none⟩ v2).setCell ⟨W3.heap.size,3,none⟩ v3).setCell ⟨W3.heap.size,4,none⟩ v4).setCell ⟨W3.heap.size,5,none⟩ v5).setCell ⟨W3.heap.size,6,none⟩ v6).cell? ⟨w.heap.size,0,none⟩=some (.slice A V.accs.length c)∧(((((((W.setCell ⟨W3.heap.size,0,none⟩ v0).setCell ⟨W3.heap.size,1,none⟩ v1).setCell ⟨W3.heap.size,2,none⟩ v2).setCell ⟨W3.heap.size,3,none⟩ v3).setCell ⟨W3.heap.size,4,none⟩ v4).setCell ⟨W3.heap.size,5,none⟩ v5).setCell ⟨W3.heap.size,6,none⟩ v6).cell? ⟨w.heap.size,1,none⟩=some (.slice M V.mks.length k)∧(((((((W.setCell ⟨W3.heap.size,0,none⟩ v0).setCell ⟨W3.heap.size,1,none⟩ v1).setCell ⟨W3.heap.size,2,none⟩ v2).setCell ⟨W3.heap.size,3,none⟩ v3).setCell ⟨W3.heap.size,4,none⟩ v4).setCell ⟨W3.heap.size,5,none⟩ v5).setCell ⟨W3.heap.size,6,none⟩ v6).cell? ⟨w.heap.size,2,none⟩=some (.int .i64 V.ins)∧(((((((W.setCell ⟨W3.heap.size,0,none⟩ v0).setCell ⟨W3.heap.size,1,none⟩ v1).setCell ⟨W3.heap.size,2,none⟩ v2).setCell ⟨W3.heap.size,3,none⟩ v3).setCell ⟨W3.heap.size,4,none⟩ v4).setCell ⟨W3.heap.size,5,none⟩ v5).setCell ⟨W3.heap.size,6,none⟩ v6).cell? ⟨w.heap.size,3,none⟩=some (.int .i64 V.resid)∧(((((((W.setCell ⟨W3.heap.size,0,none⟩ v0).setCell ⟨W3.heap.size,1,none⟩ v1).setCell ⟨W3.heap.size,2,none⟩ v2).setCell ⟨W3.heap.size,3,none⟩ v3).setCell ⟨W3.heap.size,4,none⟩ v4).setCell ⟨W3.heap.size,5,none⟩ v5).setCell ⟨W3.heap.size,6,none⟩ v6).cell? ⟨w.heap.size,4,none⟩=some (.int .i64 V.next)∧(((((((W.setCell ⟨W3.heap.size,0,none⟩ v0).setCell ⟨W3.heap.size,1,none⟩ v1).setCell ⟨W3.heap.size,2,none⟩ v2).setCell ⟨W3.heap.size,3,none⟩ v3).setCell ⟨W3.heap.size,4,none⟩ v4).setCell ⟨W3.heap.size,5,none⟩ v5).setCell ⟨W3.heap.size,6,none⟩ v6).cell? ⟨w.heap.size,5,none⟩=some (.int .i64 V.inn)∧(((((((W.setCell ⟨W3.heap.size,0,none⟩ v0).setCell ⟨W3.heap.size,1,none⟩ v1).setCell ⟨W3.heap.size,2,none⟩ v2).setCell ⟨W3.heap.size,3,none⟩ v3).setCell ⟨W3.heap.size,4,none⟩ v4).setCell ⟨W3.heap.size,5,none⟩ v5).setCell ⟨W3.heap.size,6,none⟩ v6).cell? ⟨w.heap.size,6,none⟩=some (.int .i64 V.out)):=fun W v0 v1 v2 v3 v4 v5 v6 hW=>KS5.out _ (((((((hW.setCell (Nat.le_refl _) _).setCell (Nat.le_refl _) _).setCell (Nat.le_refl _) _).setCell (Nat.le_refl _) _).setCell (Nat.le_refl _) _).setCell (Nat.le_refl _) _).setCell (Nat.le_refl _) _)
 have KZ5:Hid (∀ Wn,Below ((W3.alloc (.cells #[.slice none 0 0,.slice none 0 0,.int .i64 0,.int .i64 0,.int .i64 0,.int .i64 0,.int .i64 0] 111)).drew).heap.size ((W3.alloc (.cells #[.slice none 0 0,.slice none 0 0,.int .i64 0,.int .i64 0,.int .i64 0,.int .i64 0,.int .i64 0] 111)).drew) Wn→Blk Wn W3.heap.size 111 #[.slice none 0 0,.slice none 0 0,.int .i64 0,.int .i64 0,.int .i64 0,.int .i64 0,.int .i64 0]):=fun Wn hb=>(Blk.drewN (Blk.new W3 _ _) 1).below hb (by simp)
 have h50:Below W3.heap.size W3 W3:=Below.refl _ _
 go_upto_region 5 with (fail)
 go_cut [10,11,9] (fun vp ve vr wx=>∃ gO A5 c5 M5 k5 E5 n5,vp=.pointer (some ⟨gO,0,none⟩)∧ve=.slice E5 la.length n5∧vr=.int .i64 0∧Below W3.heap.size W3 wx∧Hid (Blk wx gO 111 #[.slice A5 y.accs.length c5,.slice M5 y.mks.length k5,.int .i64 y.ins,.int .i64 y.resid,.int .i64 y.next,.int .i64 y.inn,.int .i64 y.out])∧Hid (∃ base xs ys zs,OwnAc wx base A5 y.accs.length c5 y.accs xs∧OwnMk wx base false M5 y.mks.length k5 y.mks ys∧OwnEs wx base (.slice E5 la.length n5) la.length la zs))
 case first =>
  go_region_held3 (fun W=>Below W3.heap.size W3 W∧W.cell? ⟨w.heap.size,0,none⟩=some (.slice A V.accs.length c)∧W.cell? ⟨w.heap.size,1,none⟩=some (.slice M V.mks.length k)∧W.cell? ⟨w.heap.size,2,none⟩=some (.int .i64 V.ins)∧W.cell? ⟨w.heap.size,3,none⟩=some (.int .i64 V.resid)∧W.cell? ⟨w.heap.size,4,none⟩=some (.int .i64 V.next)∧W.cell? ⟨w.heap.size,5,none⟩=some (.int .i64 V.inn)∧W.cell? ⟨w.heap.size,6,none⟩=some (.int .i64 V.out))
   (with_reducible (first | exact KS5.out _ (by assumption) | exact KT5.out _ _ _ _ _ _ _ _ (by assumption) | exact KS5.out _ (dk_drew (by assumption)) | exact KS5.out _ (Below.alloc (by assumption) (Below.size (by assumption)) _) | exact KS5.out _ (dk_drew (Below.alloc (by assumption) (Below.size (by assumption)) _))))
   ((go_at_call 123;go_split_ands;(with_reducible refine (vrun_refP V _ A M S1 c k kk cs W3.heap.size W3.heap.size _ HY1.out (HVU.out.below (by assumption)) (Below.size (by assumption)) (HR1.out.below (by assumption)) (Below.size (by assumption))).mono ?_);rintro e W8 ⟨A5,c5,M5,k5,E5,n5,rfl,⟨xs5,ha5⟩,⟨ys5,hm5⟩,⟨zs5,he5⟩,hb8⟩;have hB8:=dk_next (w0:=W3) hb8 (by assumption);have hs8:=hB8.size;try (with_reducible have z1:=KZ5.out _ hb8);try have z2:=z1.lt;try obtain ⟨⟨z3,z4,z5,z6,z7,z8,z9⟩,y1,y2,y3,y4,y5,y6,y7⟩:=z1.c7))
  all_goals
   refine exit_name ?_
   intro W9 hW9
  ·obtain ⟨hX,hL⟩:=new7 hW9
   have hB9:Below W3.heap.size W3 W9:=hB8.trans (hL.mono hs8)
   have HO9:Hid (Blk W9 W8.heap.size 111 #[.slice A5 y.accs.length c5,.slice M5 y.mks.length k5,.int .i64 y.ins,.int .i64 y.resid,.int .i64 y.next,.int .i64 y.inn,.int .i64 y.out]):=hX
   have HR9:Hid (∃ base xs ys zs,OwnAc W9 base A5 y.accs.length c5 y.accs xs∧OwnMk W9 base false M5 y.mks.length k5 y.mks ys∧OwnEs W9 base (.slice E5 la.length n5) la.length la zs):=⟨_,xs5,ys5,zs5,ha5.below hL,hm5.below hL,he5.below hL⟩
   clear hW9 hX hL
   go_wp2_with fail
   go_meet
   exact ⟨_,A5,c5,M5,k5,E5,n5,rfl,rfl,rfl,hB9,HO9,HR9⟩
  ·obtain ⟨hX,_,hL⟩:=put7 z1 hW9
   have hF:Fr [] [W3.heap.size] W8 W9:=by rw [hW9];exact fr_set7 z1
   have hB9:Below W3.heap.size W3 W9:=hB8.trans (hL _ (Nat.le_refl _))
   have HO9:Hid (Blk W9 W3.heap.size 111 #[.slice A5 y.accs.length c5,.slice M5 y.mks.length k5,.int .i64 y.ins,.int .i64 y.resid,.int .i64 y.next,.int .i64 y.inn,.int .i64 y.out]):=hX
   have HR9:Hid (∃ base xs ys zs,OwnAc W9 base A5 y.accs.length c5 y.accs xs∧OwnMk W9 base false M5 y.mks.length k5 y.mks ys∧OwnEs W9 base (.slice E5 la.length n5) la.length la zs):=⟨_,xs5,ys5,zs5,ha5.fr hF (by simp) (by simp) (by simp),hm5.fr hF (by simp) (by simp) (by simp),he5.fr hF (by simp) (by simp) (by simp)⟩
   clear hW9 hX hL hF
   go_wp2_with fail
   go_meet
   exact ⟨_,A5,c5,M5,k5,E5,n5,rfl,rfl,rfl,hB9,HO9,HR9⟩
 case rest =>
 obtain ⟨gO,A5,c5,M5,k5,E5,n5,rfl,rfl,rfl,hB5,HO5,HR5⟩:=hcut
 obtain ⟨W5,rfl⟩:∃ W,W=wc:=⟨wc,rfl⟩
 have hs5:=hB5.size
 have HR2':=Lib.hid (RdL.up (HR2.out.below hB5) hs5)
 have HVY:Hid (VnR W5 W5.heap.size A5 c5 M5 k5 y):=by
  obtain ⟨_,_,_,_,h1,h2,_⟩:=HR5.out
  exact ⟨h1.read,h2.read⟩
 have HEL5:Hid (∃ zs,Rd W5 W5.heap.size 1 E5 la.length n5 zs∧(∀ u ∈ zs,u.oneCell'=true)∧EsEl W5 W5.heap.size la zs):=by
  obtain ⟨_,_,_,zs,_,_,h3⟩:=HR5.out
  exact ⟨zs,Rd.of_own h3.row,h3.one,h3.el⟩
 have X5:=HO5.out
 clear KS5 KT5 KZ5 h50 HR5 HR1 HVU hc1
 have x6:=X5.lt
 have KS6:Hid (∀ W,Below W5.heap.size W5 W→Below W5.heap.size W5 W∧W.cell? ⟨gO,0,none⟩=some (.slice A5 y.accs.length c5)∧W.cell? ⟨gO,1,none⟩=some (.slice M5 y.mks.length k5)∧W.cell? ⟨gO,2,none⟩=some (.int .i64 y.ins)∧W.cell? ⟨gO,3,none⟩=some (.int .i64 y.resid)∧W.cell? ⟨gO,4,none⟩=some (.int .i64 y.next)∧W.cell? ⟨gO,5,none⟩=some (.int .i64 y.inn)∧W.cell? ⟨gO,6,none⟩=some (.int .i64 y.out)):=by
  intro W hW
  obtain ⟨⟨k0,k1,k2,k3,k4,k5,k6⟩,-⟩:=(X5.below hW x6).c7
  exact ⟨hW,k0,k1,k2,k3,k4,k5,k6⟩
 have KT6:Hid (∀ W v0 v1 v2 v3 v4 v5 v6,Below W5.heap.size W5 W→Below W5.heap.size W5 (((((((W.setCell ⟨W5.heap.size,0,none⟩ v0).setCell ⟨W5.heap.size,1,none⟩ v1).setCell ⟨W5.heap.size,2,none⟩ v2).setCell ⟨W5.heap.size,3,none⟩ v3).setCell ⟨W5.heap.size,4,none⟩ v4).setCell ⟨W5.heap.size,5,none⟩ v5).setCell ⟨W5.heap.size,6,none⟩ v6)∧(((((((W.setCell ⟨W5.heap.size,0,none⟩ v0).setCell ⟨W5.heap.size,1,none⟩ v1).setCell ⟨W5.heap.size,2,none⟩ v2).setCell ⟨W5.heap.size,3,none⟩ v3).setCell ⟨W5.heap.size,4,none⟩ v4).setCell ⟨W5.heap.size,5,none⟩ v5).setCell ⟨W5.heap.size,6,none⟩ v6).cell? ⟨gO,0,none⟩=some (.slice A5 y.accs.length c5)∧(((((((W.setCell ⟨W5.heap.size,0,none⟩ v0).setCell ⟨W5.heap.size,1,none⟩ v1).setCell ⟨W5.heap.size,2,none⟩ v2).setCell ⟨W5.heap.size,3,none⟩ v3).setCell ⟨W5.heap.size,4,none⟩ v4).setCell ⟨W5.heap.size,5,none⟩ v5).setCell ⟨W5.heap.size,6,none⟩ v6).cell? ⟨gO,1,none⟩=some (.slice M5 y.mks.length k5)∧(((((((W.setCell ⟨W5.heap.size,0,none⟩ v0).setCell ⟨W5.heap.size,1,none⟩ v1).setCell ⟨W5.heap.size,2,none⟩ v2).setCell ⟨W5.heap.size,3,none⟩ v3).setCell ⟨W5.heap.size,4,none⟩ v4).setCell ⟨W5.heap.size,5,none⟩ v5).setCell ⟨W5.heap.size,6,none⟩ v6).cell? ⟨gO,2,none⟩=some (.int .i64 y.ins)∧(((((((W.setCell ⟨W5.heap.size,0,none⟩ v0).setCell ⟨W5.heap.size,1,none⟩ v1).setCell ⟨W5.heap.size,2,none⟩ v2).setCell ⟨W5.heap.size,3,none⟩ v3).setCell ⟨W5.heap.size,4,none⟩ v4).setCell ⟨W5.heap.size,5,none⟩ v5).setCell ⟨W5.heap.size,6,none⟩ v6).cell? ⟨gO,3,none⟩=some (.int .i64 y.resid)∧(((((((W.setCell ⟨W5.heap.size,0,none⟩ v0).setCell ⟨W5.heap.size,1,none⟩ v1).setCell ⟨W5.heap.size,2,none⟩ v2).setCell ⟨W5.heap.size,3,none⟩ v3).setCell ⟨W5.heap.size,4,none⟩ v4).setCell ⟨W5.heap.size,5,none⟩ v5).setCell ⟨W5.heap.size,6,none⟩ v6).cell? ⟨gO,4,none⟩=some (.int .i64 y.next)∧(((((((W.setCell ⟨W5.heap.size,0,none⟩ v0).setCell ⟨W5.heap.size,1,none⟩ v1).setCell ⟨W5.heap.size,2,none⟩ v2).setCell ⟨W5.heap.size,3,none⟩ v3).setCell ⟨W5.heap.size,4,none⟩ v4).setCell ⟨W5.heap.size,5,none⟩ v5).setCell ⟨W5.heap.size,6,none⟩ v6).cell? ⟨gO,5,none⟩=some (.int .i64 y.inn)∧(((((((W.setCell ⟨W5.heap.size,0,none⟩ v0).setCell ⟨W5.heap.size,1,none⟩ v1).setCell ⟨W5.heap.size,2,none⟩ v2).setCell ⟨W5.heap.size,3,none⟩ v3).setCell ⟨W5.heap.size,4,none⟩ v4).setCell ⟨W5.heap.size,5,none⟩ v5).setCell ⟨W5.heap.size,6,none⟩ v6).cell? ⟨gO,6,none⟩=some (.int .i64 y.out)):=fun W v0 v1 v2 v3 v4 v5 v6 hW=>KS6.out _ (((((((hW.setCell (Nat.le_refl _) _).setCell (Nat.le_refl _) _).setCell (Nat.le_refl _) _).setCell (Nat.le_refl _) _).setCell (Nat.le_refl _) _).setCell (Nat.le_refl _) _).setCell (Nat.le_refl _) _)
 have KZ6:Hid (∀ Wn,Below ((W5.alloc (.cells #[.slice none 0 0,.slice none 0 0,.int .i64 0,.int .i64 0,.int .i64 0,.int .i64 0,.int .i64 0] 111)).drew).heap.size ((W5.alloc (.cells #[.slice none 0 0,.slice none 0 0,.int .i64 0,.int .i64 0,.int .i64 0,.int .i64 0,.int .i64 0] 111)).drew) Wn→Blk Wn W5.heap.size 111 #[.slice none 0 0,.slice none 0 0,.int .i64 0,.int .i64 0,.int .i64 0,.int .i64 0,.int .i64 0]):=fun Wn hb=>(Blk.drewN (Blk.new W5 _ _) 1).below hb (by simp)
 have h60:Below W5.heap.size W5 W5:=Below.refl _ _
 go_upto_region 6 with (fail)
 go_cut [12,13,14] (fun vp ve vr wx=>∃ gO A6 c6 M6 k6 E6 n6,vp=.pointer (some ⟨gO,0,none⟩)∧ve=.slice E6 lb.length n6∧vr=.int .i64 0∧Below W5.heap.size W5 wx∧Hid (Blk wx gO 111 #[.slice A6 U.accs.length c6,.slice M6 U.mks.length k6,.int .i64 U.ins,.int .i64 U.resid,.int .i64 U.next,.int .i64 U.inn,.int .i64 U.out])∧Hid (∃ base xs ys zs,OwnAc wx base A6 U.accs.length c6 U.accs xs∧OwnMk wx base false M6 U.mks.length k6 U.mks ys∧OwnEs wx base (.slice E6 lb.length n6) lb.length lb zs))
 case first =>
  go_region_held3 (fun W=>Below W5.heap.size W5 W∧W.cell? ⟨gO,0,none⟩=some (.slice A5 y.accs.length c5)∧W.cell? ⟨gO,1,none⟩=some (.slice M5 y.mks.length k5)∧W.cell? ⟨gO,2,none⟩=some (.int .i64 y.ins)∧W.cell? ⟨gO,3,none⟩=some (.int .i64 y.resid)∧W.cell? ⟨gO,4,none⟩=some (.int .i64 y.next)∧W.cell? ⟨gO,5,none⟩=some (.int .i64 y.inn)∧W.cell? ⟨gO,6,none⟩=some (.int .i64 y.out))
   (with_reducible (first | exact KS6.out _ (by assumption) | exact KT6.out _ _ _ _ _ _ _ _ (by assumption) | exact KS6.out _ (dk_drew (by assumption)) | exact KS6.out _ (Below.alloc (by assumption) (Below.size (by assumption)) _) | exact KS6.out _ (dk_drew (Below.alloc (by assumption) (Below.size (by assumption)) _))))
   ((go_at_call 123;go_split_ands;(with_reducible refine (vrun_refP y _ A5 M5 S2 c5 k5 (n - kk) (cs - kk) W5.heap.size W5.heap.size _ HY2.out (HVY.out.below (by assumption)) (Below.size (by assumption)) (HR2'.out.below (by assumption)) (Below.size (by assumption))).mono ?_);rintro e W8 ⟨A6,c6,M6,k6,E6,n6,rfl,⟨xs6,ha6⟩,⟨ys6,hm6⟩,⟨zs6,he6⟩,hb8⟩;have hB8:=dk_next (w0:=W5) hb8 (by assumption);have hs8:=hB8.size;try (with_reducible have z1:=KZ6.out _ hb8);try have z2:=z1.lt;try obtain ⟨⟨z3,z4,z5,z6,z7,z8,z9⟩,y1,y2,y3,y4,y5,y6,y7⟩:=z1.c7))
  all_goals
   refine exit_name ?_
   intro W9 hW9
  ·obtain ⟨hX,hL⟩:=new7 hW9
   have hB9:Below W5.heap.size W5 W9:=hB8.trans (hL.mono hs8)
   have HO9:Hid (Blk W9 W8.heap.size 111 #[.slice A6 U.accs.length c6,.slice M6 U.mks.length k6,.int .i64 U.ins,.int .i64 U.resid,.int .i64 U.next,.int .i64 U.inn,.int .i64 U.out]):=hX
   have HR9:Hid (∃ base xs ys zs,OwnAc W9 base A6 U.accs.length c6 U.accs xs∧OwnMk W9 base false M6 U.mks.length k6 U.mks ys∧OwnEs W9 base (.slice E6 lb.length n6) lb.length lb zs):=⟨_,xs6,ys6,zs6,ha6.below hL,hm6.below hL,he6.below hL⟩
   clear hW9 hX hL
   go_wp2_with fail
   go_meet
   exact ⟨_,A6,c6,M6,k6,E6,n6,rfl,rfl,rfl,hB9,HO9,HR9⟩
  ·obtain ⟨hX,_,hL⟩:=put7 z1 hW9
   have hF:Fr [] [W5.heap.size] W8 W9:=by rw [hW9];exact fr_set7 z1
   have hB9:Below W5.heap.size W5 W9:=hB8.trans (hL _ (Nat.le_refl _))
   have HO9:Hid (Blk W9 W5.heap.size 111 #[.slice A6 U.accs.length c6,.slice M6 U.mks.length k6,.int .i64 U.ins,.int .i64 U.resid,.int .i64 U.next,.int .i64 U.inn,.int .i64 U.out]):=hX
   have HR9:Hid (∃ base xs ys zs,OwnAc W9 base A6 U.accs.length c6 U.accs xs∧OwnMk W9 base false M6 U.mks.length k6 U.mks ys∧OwnEs W9 base (.slice E6 lb.length n6) lb.length lb zs):=⟨_,xs6,ys6,zs6,ha6.fr hF (by simp) (by simp) (by simp),hm6.fr hF (by simp) (by simp) (by simp),he6.fr hF (by simp) (by simp) (by simp)⟩
   clear hW9 hX hL hF
   go_wp2_with fail
   go_meet
   exact ⟨_,A6,c6,M6,k6,E6,n6,rfl,rfl,rfl,hB9,HO9,HR9⟩
 case rest =>
 obtain ⟨gQ,A6,c6,M6,k6,E6,n6,rfl,rfl,rfl,hB6,HO6,HR6⟩:=hcut
 obtain ⟨W6,rfl⟩:∃ W,W=wc:=⟨wc,rfl⟩
 have hs6:=hB6.size
 have HVQ:Hid (VnR W6 W6.heap.size A6 c6 M6 k6 U):=by
  obtain ⟨_,_,_,_,h1,h2,_⟩:=HR6.out
  exact ⟨h1.read,h2.read⟩
 obtain ⟨zs6,hz1,hz2,hz3⟩:∃ zs,Rd W6 W6.heap.size 1 E6 lb.length n6 zs∧(∀ u ∈ zs,u.oneCell'=true)∧EsEl W6 W6.heap.size lb zs:=by
  obtain ⟨_,_,_,zs,_,_,h3⟩:=HR6.out
  exact ⟨zs,Rd.of_own h3.row,h3.one,h3.el⟩
 obtain ⟨zs5,hv1,hv2,hv3⟩:=HEL5.out
 have HZ1:=Lib.hid hz1
 have HZ3:=Lib.hid hz3
 have HW1:=Lib.hid (Rd.up (hv1.below hB6) hs6)
 have HW3:=Lib.hid ((hv3.below hB6).up hs6)
 have HSAME:=Lib.hid (show sameVn U U=true from (sameVn_iff _ _).2 rfl)
 have hB36:Below W3.heap.size W3 W6:=hB5.trans (hB6.mono hs5)
 have Y6:=Y3.below hB36 Y3.lt
 have Q6:=HO6.out
 have y6:=Y6.lt
 have q6:=Q6.lt
 have HLEN:Hid (la.length + lb.length=es.length):=by rw [HY3.out,List.length_append];exact rfl
 have hes:la.length + lb.length ≤ 60:=by have:=HLEN.out;have:=HELN.out;omega
 clear KS6 KT6 KZ6 h60 HR6 HR2 HR2' hc2 hz1 hz3 hv1 hv3 X5 X3
 obtain ⟨⟨kY60,kY61,kY62,kY63,kY64,kY65,kY66⟩,-⟩:=Y6.c7
 obtain ⟨⟨kQ60,kQ61,kQ62,kQ63,kQ64,kQ65,kQ66⟩,-⟩:=Q6.c7
 go_wp2_with fail
 refine (vsame_ref U U A1 M1 A6 M6 c1 k1 c6 k6 W3.heap.size W6.heap.size W6 HSAME.out (HU3.out.below hB36) HVQ.out (by omega) (Nat.le_refl _)).mono ?_
 rintro e W7 ⟨rfl,hb7⟩
 have hs7:=hb7.size
 go_wp2_with fail
 refine calls_name ?_
 intro W8 hW8
 have hB78:Below W7.heap.size W7 W8:=by rw [hW8];exact (Below.refl _ _).alloc (Nat.le_refl _) _
 have Z8:Blk W8 W7.heap.size 139 #[.slice E5 la.length n5,.slice E6 lb.length n6]:=by rw [hW8];exact Blk.new W7 _ _
 have hs8:=hB78.size
 have hB68:=hb7.trans (hB78.mono hs7)
 clear hW8
 refine (concat_es E5 E6 la.length n5 lb.length n6 zs5 zs6 W6.heap.size W8 (HW1.out.below hB68) (HZ1.out.below hB68) (by omega) _ Z8.lt Z8.c2.1.1 Z8.c2.1.2 (by omega) hv2 hz2).mono ?_
 rintro e W9 ⟨v9,rfl,hown,hb9⟩
 obtain ⟨A9,c9,rfl⟩:=own_shape hown
 have hs9:=hb9.size
 have hB69:=hB68.trans (hb9.mono (by omega))
 have HCAT:=Lib.hid (EsEl.read (((HW3.out.app HZ3.out).below hB69).up (show _ ≤ W9.heap.size by omega)) (Rd.of_own hown))
 have HEE:=Lib.hid (show sameEss es (la ++ lb)=true from sameEss_iff.2 HY3.out)
 clear hown hb9 Z8 hB78
 go_wp2_with fail
 refine (eqfunc_es E1 A9 es.length (la.length + lb.length) n1 c9 es (la ++ lb) W9.heap.size W9 ((HE3.out.below (hB36.trans (hB69.mono (by omega)))).up (by omega)) HCAT.out (Nat.le_refl _)).mono ?_
 rw [HEE.out]
 rintro e W10 ⟨rfl,hb10⟩
 go_wp2_with fail
 go_ret
 exact ⟨rfl,hB3.trans ((hB36.trans ((hB69.trans (hb10.mono (by omega))).mono (by omega))).mono (by omega))⟩
end
section
open Go.ChangeShapes Go.WideShapes Go.ChangeAt Go.RowKit
set_option maxRecDepth 100000 in
theorem venueParts_lifted (os:Os) (started:os.Started) (H:Type) (enc:TypeId × Value→H) :
  ReturnsInHanded {} Try.checked os 29 .any (Rows.venuePartsSpec.pre6 enc Try.prog Try.f29 Rows.venuePartsRow.domain false) (Rows.venuePartsSpec.post enc Try.prog Try.f29 false true false false):=by
 refine returnsInHanded_of_change_sized (C:=Try.checked) row_own started (by kernel_rfl) Try.func29
  (ChangeSpec.witness6 (enc:=enc) (C:=Try.checked) false ⟨#[],#[.agg #[.slice none 0 0,.slice none 0 0,.int .i64 0,.int .i64 0,.int .i64 0,.int .i64 0,.int .i64 0],.slice none 0 0,.int .i64 0],[]⟩ 8 (by kernel_rfl) (by kernel_rfl) (by kernel_rfl) (by kernel_rfl)) ?_
 intro W base args ds gs before hval0 hW hcnd hsz _
 have hval:∀ (j:Nat) t v,Try.f29.params[j]?=some t→args[j]?=some v→Value.okWide Try.prog W .any base t v:=hval0
 have hW':=hW
 obtain ⟨p,q,hA0,hV,rfl,hfz,hnd⟩:=hW
 have hA:DataW.TrodAll enc Try.prog W 0 (fun _=>true) true Try.f29.params.toList args.toList ds p:=hA0
 obtain ⟨rfl,rfl⟩:=trodVars_none hV
 have hkeep:=fun W' (bel:Below W.heap.size W W')=>trodAll_below row_laidOut bel (by kernel_rfl) hA
 rw [Try.params29] at hA hval
 obtain ⟨v0,vs0,d0,ds0,p0,q0,hargs,rfl,rfl,h0,tl0⟩:=trodAll_cons hA
 obtain ⟨v1,vs1,d1,ds1,p1,q1,rfl,rfl,rfl,h1,tl1⟩:=trodAll_cons tl0
 obtain ⟨v2,vs2,d2,ds2,p2,q2,rfl,rfl,rfl,h2,tl2⟩:=trodAll_cons tl1
 obtain ⟨rfl,rfl,rfl⟩:=trodAll_nil tl2
 obtain rfl:args = #[v0,v1,v2]:=by cases args;simp_all
 clear hargs
 have hs0:(DataW.weightsEach Try.prog (Try.f29.params.toList ++ Rows.venuePartsSpec.plain.varTypes Try.prog) ([d0,d1,d2] ++ [])).all (· ≤ reachBytes)=true:=hsz
 rw [show Rows.venuePartsSpec.plain.varTypes Try.prog = [] from rfl,List.append_nil,List.append_nil] at hs0
 have hsz':(DataW.weightsEach Try.prog Try.f29.params.toList [d0,d1,d2]).all (· ≤ reachBytes)=true:=hs0
 rw [Try.params29] at hsz'
 obtain ⟨y0,t0⟩:=weights_head hsz'
 obtain ⟨y1,t1⟩:=weights_head t0
 obtain ⟨y2,t2⟩:=weights_head t1
 obtain ⟨V0,A0,c0,M0,k0,rfl,r0,s0,i0⟩:=opens_venue (hval 0 111 v0 rfl rfl) h0 y0
 obtain ⟨A1,n1,c1,L1,rfl,r1,s1,i1⟩:=opens_commands (hval 1 138 v1 rfl rfl) h1 y1
 obtain ⟨z2,rfl,i2⟩:=opens_int (hval 2 3 v2 rfl rfl) h2
 refine (venueParts_walk V0 A0 c0 M0 k0 A1 n1 c1 L1 z2 W r0 r1).mono fun e W' ⟨he,bel⟩=>?_
 subst he
 exact ⟨_,rfl,_,_,_,[],_,[],hW',trodAll_mk1 (shut_bool Try.underlying4 _),hkeep W' bel,rfl,bel.frame _,fun h=>by cases h⟩
set_option maxHeartbeats 4000000 in
theorem venueParts_closed:joinedFacts Try.prog 29 Try.f29 Rows.venuePartsSpec Rows.venuePartsRow=true :=
 joined_mk _ _ _ _ _ (by as_aux_lemma=>kernel_rfl) closed_laid closed_mapsRowed (by as_aux_lemma=>kernel_rfl) (by as_aux_lemma=>kernel_rfl) (by as_aux_lemma=>kernel_rfl) closed_stops (by as_aux_lemma=>kernel_rfl) closed_stopKnobs (by as_aux_lemma=>kernel_rfl) (by as_aux_lemma=>kernel_rfl) (by as_aux_lemma=>kernel_rfl) (by as_aux_lemma=>kernel_rfl) (by as_aux_lemma=>kernel_rfl) (by as_aux_lemma=>kernel_rfl) (by as_aux_lemma=>kernel_rfl) (by as_aux_lemma=>kernel_rfl) (by as_aux_lemma=>kernel_rfl) (by as_aux_lemma=>kernel_rfl) (by as_aux_lemma=>kernel_rfl) (by as_aux_lemma=>kernel_rfl) (by as_aux_lemma=>kernel_rfl) closed_plainKeys (by as_aux_lemma=>kernel_rfl) closed_stopsHeard closed_mayEnter closed_lifted closed_make (by as_aux_lemma=>kernel_rfl) (by as_aux_lemma=>kernel_rfl) (by as_aux_lemma=>kernel_rfl) (by as_aux_lemma=>kernel_rfl)
set_option maxHeartbeats 4000000 in
theorem venueParts_over:Rows.venuePartsRow.holds Try.pinned (OpenSpec.ofChange Rows.venuePartsSpec) :=
 OpenClaim.holds_of_wide 29 Try.f29 rfl rfl rfl rfl rfl rfl rfl ⟨rfl,rfl,rfl,rfl,rfl⟩ rfl rfl rfl rfl rfl (by as_aux_lemma=>kernel_rfl) Try.func29 venueParts_closed
  (of_decide_eq_true (by as_aux_lemma=>kernel_rfl)) (by unfold Func.isWrapper;first | (rw [if_pos (by decide +kernel)];as_aux_lemma=>kernel_rfl) | (rw [if_neg (by decide +kernel)];exact ⟨rfl,rfl⟩))
  (fun os started H enc _=>venueParts_lifted os started H enc)
theorem venueParts_proved:Rows.VenuePartsSaid:=venueParts_over
#print axioms venueParts_proved
end
end Go.Proofs.Ytockodmbhnlheaa
