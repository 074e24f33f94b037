/-
  journal.Put, walked.
-/
import Derived.Test.YtockodmbhnlheaaDoorJCrash
namespace Go.Proofs.YtockodmbhnlheaaDoor
open Go.RowKit

/-- a call of a Go function, as one step of a region that draws. -/
theorem step_callD {P : Program} {ops : Array Oper} {o : Oper} {a : Act} {w : World} {K : Act → World → Prop} {Q : Exit → Act → World → Prop} {X : Prop} (hgd : o.guard = none) (f : FuncId) (args : Array Value)
    (hrun : (execOp a.eval o).run P w = .ok (.enter f args) w) (post : Ending → World → Prop) (hc : Calls P f args w post) (h : ∀ e w', post e w' → ∃ v, e = .returned v ∧ K (a.put o.dst v) w') :
    if Region.wanted o (yielded ops a.tmps) = true then Oper.wp P o a w K Q else X := by
  have hw : Region.wanted o (yielded ops a.tmps) = true := by simp [Region.wanted, hgd]
  rw [if_pos hw]
  unfold Oper.wp
  rw [hrun, Oper.upon_enter]
  refine hc.mono fun e w' hp => ?_
  obtain ⟨v, rfl, hk⟩ := h e w' hp
  exact hk
/-- a string onto a row of bytes of the call's own, as one step. -/
theorem step_strD {P : Program} {ops : Array Oper} {o : Oper} {a : Act} {w : World} {K : Act → World → Prop} {Q : Exit → Act → World → Prop} {X : Prop} (hgd : o.guard = none) (s x : Operand) (t u : TypeId)
    (ho : o.op = .call { callee := .builtin .append, args := #[s, x], argTypes := #[t, u] })
    (base e : Nat) (hu : P.underlying u = some .string) (E : Elem P t e 1 1) (hz : ∀ i, P.info? e = some i → i.zero = some (.int .u8 0)) (v : Value) (n : Nat) (xs : List UInt8) (hs : a.eval s = v) (hown : w.ownsRow base e 1 v n (u8s xs))
    (l : List UInt8) (hx : a.eval x = .string (bs l)) (hbytes : n + l.length ≤ 140737488355328) (hbase : base ≤ w.heap.size)
    (h : ∀ v' w', w'.ownsRow base e 1 v' (n + l.length) (u8s (xs ++ l)) → Below base w w' → w.grownBy w' v.ownBlock → K (a.put o.dst v') w') :
    if Region.wanted o (yielded ops a.tmps) = true then Oper.wp P o a w K Q else X := by
  have hw : Region.wanted o (yielded ops a.tmps) = true := by simp [Region.wanted, hgd]
  rw [if_pos hw]
  obtain ⟨i, z, hi, hz', hsize, hby, hzs⟩ := E.hi
  obtain ⟨v', w', hrun, h2, h3, -⟩ := Lib.run_append_own_string (P := P) w base t u o.type e i E.ht hu hi (hz i hi) hsize hby v n (u8s xs) hown (bs l) (by rw [bs_size]; unfold maxLen; omega) (by rw [bs_size]; omega) hbase
  rw [bs_size, u8s_str, ← u8s_app] at h2
  unfold Oper.wp execOp
  simp only [ho, resolve, invoke, builtin, Sem.run_bind, Sem.run_pure, Result.andThen_ok, List.map_toArray, List.map_cons, List.map_nil, hs, hx, hrun]
  exact h v' w' h2 (below_of_grown hown h3 hbase) h3
theorem zero_u8 : ∀ i, Tryd.prog.info? 5 = some i → i.zero = some (.int .u8 0) := by
  have h : (Tryd.prog.info? 5).map (·.zero) = some (some (.int .u8 0)) := by kernel_rfl
  intro i hi
  rw [hi] at h
  simpa using h
theorem print_len {c : Cm} {t : List UInt8} {k : Int} (h : printOf c = (t, k)) (hf : FitC c) (hk : k = 0) : t.length ≤ 176 := by
  obtain ⟨h1, h2⟩ := print_ok (c := c) (by rw [h]; exact hk)
  rw [h] at h2
  dsimp only at h2
  rw [h2]; exact (back_print h1 hf).2.2
theorem below_allocD {w0 W : World} (h : Below w0.heap.size w0 W) (o : Obj) : Below w0.heap.size w0 (W.alloc o) := h.alloc h.size o
theorem rd_blkD {w : World} {g : Nat} {t : TypeId} {u : Value} (h : Blk w g t #[u]) : Rd w (g + 1) 1 (some ⟨g, 0, none⟩) 1 1 [u] :=
  ⟨rfl, Nat.le_refl _, by decide, nofun, fun _ => ⟨_, _, rfl, by omega, fun j u' hj => by
    have h0 := h.cell 0
    cases j with
    | zero => simp only [List.getElem?_cons_zero, Option.some.injEq] at hj; subst hj; simpa using h0
    | succ j => simp at hj⟩⟩
set_option maxHeartbeats 2000000 in
set_option maxRecDepth 100000 in
theorem putDisk_any (d : Dsk) (cm : Cm) (A A' : Option Addr) (c c' B : Nat) (w : World) (h : DkR w B A A' c c' d) (hB : B ≤ w.heap.size) (he : Env w) (hf : FitC cm) :
    Calls Tryd.prog 11 #[.agg #[.slice A d.safe.length c, .slice A' d.wait.length c'], .agg #[.int .i64 cm.kind, .int .i64 cm.acc, .int .i64 cm.market, .int .i64 cm.n, .int .i64 cm.o.id, .int .i64 cm.o.acc, .int .i64 cm.o.side, .int .i64 cm.o.price, .int .i64 cm.o.qty, .int .i64 cm.how, .bool cm.reduce]] w (RetDsk w (putD d cm)) := by
  have HE := Lib.hid he
  have HR := Lib.hid h
  have HF := Lib.hid hf
  obtain ⟨t, k, hpr⟩ : ∃ t k, printOf cm = (t, k) := ⟨_, _, rfl⟩
  have HP := Lib.hid (fun w he => textPrint_any cm w he hf)
  have HD := Lib.hid (show putD d cm = if dErr d ≠ 0 then (noDsk, dErr d) else if (printOf cm).2 ≠ 0 then (noDsk, (printOf cm).2)
    else if 20000 < d.safe.length + d.wait.length + (printOf cm).1.length + 1 then (noDsk, 7) else (⟨d.safe, d.wait ++ (printOf cm).1 ++ [10]⟩, 0) from rfl)
  have HTL := Lib.hid (fun hk => print_len hpr hf hk)
  rw [hpr] at HP HD
  dsimp only at HP HD
  have HOK := Lib.hid (fun hz => (dErr_ok (d := d)).1 hz)
  have hcap := h.s.cap
  have hle := h.s.le
  have hcap' := h.t.cap
  have hle' := h.t.le
  simp only [maxLen] at hcap hcap'
  clear he h hf hpr
  go_enter Tryd.func11, Tryd.ntmps11
  go_upto_region 1 with (fail)
  refine wp_nameT ?_
  intro w1 hw1
  have X1 : Blk w1 w.heap.size 36 #[.slice A d.safe.length c, .slice A' d.wait.length c'] := by rw [hw1]; exact ((Blk.new w _ _).alloc _).alloc _
  have X3 : Blk w1 (w.heap.size + 1) 25 #[.int .i64 cm.kind, .int .i64 cm.acc, .int .i64 cm.market, .int .i64 cm.n, .int .i64 cm.o.id, .int .i64 cm.o.acc, .int .i64 cm.o.side, .int .i64 cm.o.price, .int .i64 cm.o.qty, .int .i64 cm.how, .bool cm.reduce] := by
    rw [hw1]
    refine Blk.alloc ?_ _
    have := Blk.new (w.alloc (.cells #[.slice A d.safe.length c, .slice A' d.wait.length c'] 36)) 25 #[.int .i64 cm.kind, .int .i64 cm.acc, .int .i64 cm.market, .int .i64 cm.n, .int .i64 cm.o.id, .int .i64 cm.o.acc, .int .i64 cm.o.side, .int .i64 cm.o.price, .int .i64 cm.o.qty, .int .i64 cm.how, .bool cm.reduce]
    simpa using this
  have X2 : Blk w1 (w.heap.size + 1 + 1) 36 #[.slice none 0 0, .slice none 0 0] := by
    rw [hw1]
    have := Blk.new ((w.alloc (.cells #[.slice A d.safe.length c, .slice A' d.wait.length c'] 36)).alloc (.cells #[.int .i64 cm.kind, .int .i64 cm.acc, .int .i64 cm.market, .int .i64 cm.n, .int .i64 cm.o.id, .int .i64 cm.o.acc, .int .i64 cm.o.side, .int .i64 cm.o.price, .int .i64 cm.o.qty, .int .i64 cm.how, .bool cm.reduce] 25)) 36 #[.slice none 0 0, .slice none 0 0]
    simpa using this
  have HB1 : Hid (Below w.heap.size w w1) := by rw [hw1]; exact Lib.hid ((((Below.refl _ _).alloc (Nat.le_refl _) _).alloc (by simp) _).alloc (by simp; omega) _)
  clear hw1
  obtain ⟨k0, k1⟩ := bl_c2 X1
  go_wp2_with fail
  refine (diskCheck_any d A A' c c' B w1 (HR.out.below (HB1.out.mono hB)) (Nat.le_trans hB HB1.out.size) (HE.out.next HB1.out)).mono ?_
  rintro e w2 ⟨rfl, hb2⟩
  clear k0 k1
  replace X1 := X1.below hb2 X1.lt
  replace X2 := X2.below hb2 X2.lt
  replace X3 := X3.below hb2 X3.lt
  have HB2 := Lib.hid (HB1.out.trans (hb2.mono HB1.out.size))
  clear hb2 HB1
  by_cases h0 : dErr d = 0
  rotate_left
  · have HZ := Lib.hid (HD.out.trans (if_pos h0))
    have d0 : (dErr d != 0) = true := by simpa using h0
    clear HD HOK h0 X1 X3
    obtain ⟨⟨m0, m1⟩, f0, f1⟩ := bl_c2f X2
    generalize dErr d = k at HZ d0
    go_wp2_with fail
    refine exit_nameT ?_
    intro Z hZ
    obtain ⟨XZ, hbZ⟩ := set2w X2 HB2.out (by omega) (.slice none 0 0) (.slice none 0 0)
    rw [← hZ] at XZ hbZ
    clear hZ m0 m1 f0 f1
    obtain ⟨z0, z1⟩ := bl_c2 XZ
    refine bodyPost_ret (v := .tuple #[.agg #[.slice none 0 0, .slice none 0 0], .int .i64 k]) (by simp [results, Tryd.results11, go_sem, *]) rfl ?_
    exact ⟨_, k, rfl, by rw [HZ.out], by rw [HZ.out]; exact ownDk_zero _ _, hbZ⟩
  have HZ := Lib.hid (HD.out.trans (if_neg (by omega)))
  obtain ⟨hlen, -⟩ := HOK.out h0
  rw [h0]
  clear HD HOK h0
  obtain ⟨⟨v0, v1, v2, v3, v4, v5, v6, v7, v8, v9, v10⟩, -⟩ := bl_c11 X3
  go_wp2_with fail
  refine (HP.out w2 (HE.out.next HB2.out)).mono ?_
  rintro e w3 ⟨rfl, hb3⟩
  clear v0 v1 v2 v3 v4 v5 v6 v7 v8 v9 v10
  replace X1 := X1.below hb3 X1.lt
  replace X2 := X2.below hb3 X2.lt
  have HB3 := Lib.hid (HB2.out.trans (hb3.mono HB2.out.size))
  clear hb3 HB2 X3
  have hs3 := HB3.out.size
  have hx1 := X1.lt
  have hx2 := X2.lt
  obtain ⟨⟨m0, m1⟩, f0, f1⟩ := bl_c2f X2
  by_cases h1 : k = 0
  rotate_left
  · have HZ2 := Lib.hid (HZ.out.trans (if_pos h1))
    have d0 : (k != 0) = true := by simpa using h1
    clear HZ h1 X1
    go_wp2_with fail
    refine exit_nameT ?_
    intro Z hZ
    obtain ⟨XZ, hbZ⟩ := set2w X2 HB3.out (by omega) (.slice none 0 0) (.slice none 0 0)
    rw [← hZ] at XZ hbZ
    clear hZ m0 m1 f0 f1
    obtain ⟨z0, z1⟩ := bl_c2 XZ
    refine bodyPost_ret (v := .tuple #[.agg #[.slice none 0 0, .slice none 0 0], .int .i64 k]) (by simp [results, Tryd.results11, go_sem, *]) rfl ?_
    exact ⟨_, k, rfl, by rw [HZ2.out], by rw [HZ2.out]; exact ownDk_zero _ _, hbZ⟩
  have HZ2 := Lib.hid (HZ.out.trans (if_neg (by omega)))
  have htl := HTL.out h1
  subst h1
  clear HZ
  have ht := bs_size t
  obtain ⟨k0, k1⟩ := bl_c2 X1
  by_cases h2 : 20000 < d.safe.length + d.wait.length + t.length + 1
  · have HZ3 := Lib.hid (HZ2.out.trans (if_pos h2))
    have d0 : 20000 ≤ (d.safe.length : Int) + d.wait.length + t.length := by omega
    clear HZ2
    go_wp2_with fail
    refine exit_nameT ?_
    intro Z hZ
    obtain ⟨XZ, hbZ⟩ := set2w X2 HB3.out (by omega) (.slice none 0 0) (.slice none 0 0)
    rw [← hZ] at XZ hbZ
    clear hZ m0 m1 f0 f1
    obtain ⟨z0, z1⟩ := bl_c2 XZ
    refine bodyPost_ret (v := .tuple #[.agg #[.slice none 0 0, .slice none 0 0], .int .i64 7]) (by simp [results, Tryd.results11, go_sem, *]) rfl ?_
    exact ⟨_, 7, rfl, by rw [HZ3.out], by rw [HZ3.out]; exact ownDk_zero _ _, hbZ⟩
  have HZ3 := Lib.hid (HZ2.out.trans (if_neg h2))
  have d0 : ¬ 20000 ≤ (d.safe.length : Int) + d.wait.length + t.length := by omega
  clear HZ2
  have HRD := Lib.hid (HR.out.below (HB3.out.mono hB))
  have hB3 : B ≤ w3.heap.size := by omega
  have KS : Hid (∀ W, Below w3.heap.size w3 W → W.cell? ⟨w.heap.size, 0, none⟩ = some (.slice A d.safe.length c) ∧ W.cell? ⟨w.heap.size, 1, none⟩ = some (.slice A' d.wait.length c')) := Lib.hid fun W hW => bl_c2 (X1.below hW hx1)
  have HXA := Lib.hid (fun W hW => X2.below (w1 := W) hW hx2)
  go_upto_region 9 with (fail)
  clear X1 X2 m0 m1 f0 f1 HR
  have h33 : Below w3.heap.size w3 w3 := Below.refl _ _
  have KT : Hid (∀ W v v', Below w3.heap.size w3 W → ((W.setCell ⟨w.heap.size + 1 + 1, 0, none⟩ v).setCell ⟨w.heap.size + 1 + 1, 1, none⟩ v').cell? ⟨w.heap.size, 0, none⟩ = some (.slice A d.safe.length c) ∧ ((W.setCell ⟨w.heap.size + 1 + 1, 0, none⟩ v).setCell ⟨w.heap.size + 1 + 1, 1, none⟩ v').cell? ⟨w.heap.size, 1, none⟩ = some (.slice A' d.wait.length c')) := by
    refine Lib.hid fun W v v' hW => ?_
    obtain ⟨h1, h2⟩ := KS.out W hW
    have n1 : ¬ w.heap.size + 1 + 1 = w.heap.size := by omega
    exact ⟨by simp [go_sem, h1], by simp [go_sem, h2]⟩
  go_wp2_with fail
  go_region_held3 (fun W => W.cell? ⟨w.heap.size, 0, none⟩ = some (.slice A d.safe.length c) ∧ W.cell? ⟨w.heap.size, 1, none⟩ = some (.slice A' d.wait.length c'))
    (first | (exact KS.out _ (by first | assumption | exact below_drewT (by assumption) | exact below_allocD (by assumption) _ | exact below_allocD (below_drewT (by assumption)) _ | exact below_drewT (below_allocD (by assumption) _))) | (exact KT.out _ _ _ (by assumption)))
    ((first
      | (go_at_call 23; go_split_ands; (with_reducible refine (clone_u8 A d.safe.length c d.safe B _ (HRD.out.s.below (Below.mono (by first | assumption | exact below_drewT (by assumption) | exact below_allocD (by assumption) _ | exact below_allocD (below_drewT (by assumption)) _ | exact below_drewT (below_allocD (by assumption) _)) hB3)) (Nat.le_trans hB3 (Below.size (w := w3) (by first | assumption | exact below_drewT (by assumption) | exact below_allocD (by assumption) _ | exact below_allocD (below_drewT (by assumption)) _ | exact below_drewT (below_allocD (by assumption) _)))) (by omega)).mono ?_); rintro e WA ⟨vA, rfl, hownA, hbA⟩; obtain ⟨AA, cA, rfl⟩ := own_shape hownA; have hXA := below_nextD (w0 := w3) hbA (by first | assumption | exact below_drewT (by assumption) | exact below_allocD (by assumption) _ | exact below_allocD (below_drewT (by assumption)) _ | exact below_drewT (below_allocD (by assumption) _)); (first | (have hrow := (Blk.new _ _ _).below hbA (by simp)) | (have hrow := (blk_drewT (Blk.new _ _ _)).below hbA (by simp)) | skip))
      | (go_at_call 23; go_split_ands; (with_reducible refine (clone_u8 A' d.wait.length c' d.wait B _ (HRD.out.t.below (Below.mono (by first | assumption | exact below_drewT (by assumption) | exact below_allocD (by assumption) _ | exact below_allocD (below_drewT (by assumption)) _ | exact below_drewT (below_allocD (by assumption) _)) hB3)) (Nat.le_trans hB3 (Below.size (w := w3) (by first | assumption | exact below_drewT (by assumption) | exact below_allocD (by assumption) _ | exact below_allocD (below_drewT (by assumption)) _ | exact below_drewT (below_allocD (by assumption) _)))) (by omega)).mono ?_); rintro e WB ⟨vB, rfl, hownB, hbB⟩; obtain ⟨AB, cB, rfl⟩ := own_shape hownB; have hXB := below_nextD (w0 := w3) hbB (by first | assumption | exact below_drewT (by assumption) | exact below_allocD (by assumption) _ | exact below_allocD (below_drewT (by assumption)) _ | exact below_drewT (below_allocD (by assumption) _)); have hOB := own_mono (base' := WA.heap.size) hownB (by simp); have hsB : WA.heap.size ≤ WB.heap.size := Nat.le_trans (by simp) hbB.size; have hAB : Below WA.heap.size WA WB := (by first | with_reducible exact hbB | exact ((Below.refl _ _).alloc (Nat.le_refl _) _).trans (hbB.mono (by simp))); (first | (have hrow0 := Blk.new WA 5 #[.int .u8 10]; have hrow := hrow0.below hbB hrow0.lt; have hne : (Value.slice AB d.wait.length cB).ownBlock ≠ some WA.heap.size := fun e => by have h1 := (World.ownsRow.lt hownB _ e).1; have h2 := hrow0.lt; omega) | (have hne := (fun e => by have h1 := (World.ownsRow.lt hownB _ e).1; have h2 := hrow.lt; omega : (Value.slice AB d.wait.length cB).ownBlock ≠ some w3.heap.size); replace hrow := hrow.below hbB hrow.lt) | skip))
      | (refine step_strD rfl (.tmp 42) (.tmp 43) 33 9 rfl WA.heap.size 5 Tryd.underlying9 elem_u8 zero_u8 (.slice AB d.wait.length cB) d.wait.length d.wait (by simp [Act.eval]) (by first | with_reducible exact hOB | with_reducible exact World.ownsRow.alloc hOB _) t (by simp [Act.eval]) (by omega) (by first | with_reducible exact hsB | (simp; omega)) ?_; intro vS wS hownS hbS hgrS; obtain ⟨AS, cS, rfl⟩ := own_shape hownS; have hXS := Below.trans (B := w3.heap.size) (by first | assumption | exact below_drewT (by assumption) | exact below_allocD (by assumption) _ | exact below_allocD (below_drewT (by assumption)) _ | exact below_drewT (below_allocD (by assumption) _) : Below w3.heap.size w3 _) (hbS.mono hXA.size); have hsS : WA.heap.size ≤ wS.heap.size := Nat.le_trans (by first | with_reducible exact hsB | (simp; omega)) hbS.size; have hAS : Below WA.heap.size WA wS := (by first | with_reducible exact hAB.trans hbS | with_reducible exact (hAB.alloc hsB _).trans hbS); (first | (have hrow0 := Blk.new WB 5 #[.int .u8 10]; have hrow := blk_grown hrow0 hgrS (own_ltT hOB (Nat.le_refl _))) | (replace hrow := blk_grown hrow hgrS hne) | skip))
      | (refine step_appT rfl (.tmp 44) (.tmp 45) 33 rfl WA.heap.size 5 1 1 elem_u8 (.slice AS (d.wait.length + t.length) cS) (d.wait.length + t.length) (u8s (d.wait ++ t)) (by simp [Act.eval]) (by first | with_reducible exact hownS | with_reducible exact World.ownsRow.alloc hownS _) (_ + 1) (some ⟨_, 0, none⟩) 1 1 (u8s [10]) rfl (by first | exact rd_blkD hrow | exact rd_blkD (Blk.new _ _ _)) (u8s_one _) (by unfold maxLen; omega) (by omega) (by first | with_reducible exact hsS | (simp; omega)) ?_; intro vN wN hownN hbN hgrN hatN; obtain ⟨AN, cN, rfl⟩ := own_shape hownN; have hXN := Below.trans (B := w3.heap.size) (by first | assumption | exact below_drewT (by assumption) | exact below_allocD (by assumption) _ | exact below_allocD (below_drewT (by assumption)) _ | exact below_drewT (below_allocD (by assumption) _) : Below w3.heap.size w3 _) (hbN.mono hXA.size); have hAN : Below WA.heap.size WA wN := (by first | with_reducible exact hAS.trans hbN | with_reducible exact (hAS.alloc hsS _).trans hbN); have hZN := HXA.out wN hXN; have hB3' := bl_c2f hZN)
      | fail "none"))
  all_goals
    have HBN := Lib.hid (HB3.out.trans (hXN.mono hs3))
    have O1 : wN.ownsRow w3.heap.size 5 1 (.slice AA d.safe.length cA) d.safe.length (u8s d.safe) := own_mono (own_below hownA hAN (Nat.le_refl _)) (by simp)
    have O2 : wN.ownsRow w3.heap.size 5 1 (.slice AN (d.wait.length + t.length + 1) cN) (d.wait.length + t.length + 1) (u8s (d.wait ++ t ++ [10])) := by rw [u8s_app]; exact own_mono hownN hXA.size
    have HP1 := Lib.hid (own_far2 (g := w.heap.size + 1 + 1) O1 (fun e => by have := (World.ownsRow.lt O1 _ e).1; omega) (.slice AA d.safe.length cA) (.slice AN (d.wait.length + t.length + 1) cN))
    have HP2 := Lib.hid (own_far2 (g := w.heap.size + 1 + 1) O2 (fun e => by have := (World.ownsRow.lt O2 _ e).1; omega) (.slice AA d.safe.length cA) (.slice AN (d.wait.length + t.length + 1) cN))
    have HXN := Lib.hid hZN
    clear O1 O2 hownA hownB hownS hownN hXA hXB hXS hXN hAB hAS hAN hZN hB3' hbA hbB hbS hbN hgrS hgrN hatN hOB hsB hsS KT KS HXA HRD HP
    go_wp2_with fail
    refine exit_nameT ?_
    intro Z hZ
    obtain ⟨XZ, hbZ⟩ := set2w HXN.out HBN.out (by omega) (.slice AA d.safe.length cA) (.slice AN (d.wait.length + t.length + 1) cN)
    have HOZ := HP1.out
    have HOZ2 := HP2.out
    rw [← hZ] at XZ hbZ HOZ HOZ2
    clear hZ
    obtain ⟨z0, z1⟩ := bl_c2 XZ
    refine bodyPost_ret (v := .tuple #[.agg #[.slice AA d.safe.length cA, .slice AN (d.wait.length + t.length + 1) cN], .int .i64 0]) (by simp [results, Tryd.results11, go_sem, *]) rfl ?_
    exact ⟨_, 0, rfl, by rw [HZ3.out], by rw [HZ3.out]; exact ownDk_mk (own_mono HOZ hs3) (own_mono HOZ2 hs3), hbZ⟩
end Go.Proofs.YtockodmbhnlheaaDoor
