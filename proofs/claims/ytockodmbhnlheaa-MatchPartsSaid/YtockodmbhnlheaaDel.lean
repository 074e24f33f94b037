/-
  slices.Delete of one element at []api.Order, on an own row; append and clear at several cells an element.
-/
import Derived.Test.YtockodmbhnlheaaIns3
namespace Go.Proofs.Ytockodmbhnlheaa
open Go.RowKit

section
variable {P : Program}
/-- append where there is room, in a block that is known whole; the source may lie in it. -/
theorem step_appK {ops : Array Oper} {o : Oper} {a : Act} {w : World} {K : Act → World → Prop} {Q : Exit → Act → World → Prop} {X : Prop} (hgd : o.guard = none) (s x : Operand) (t : TypeId)
    (ho : o.op = .call { callee := .builtin .append, args := #[s, x], argTypes := #[t, t] }) (e k bytes : Nat) (E : Elem P t e k bytes) (g n cap : Nat)
    (hs : a.eval s = .slice (some ⟨g, 0, none⟩) n cap) (ad : Addr) (m c : Nat) (hx : a.eval x = .slice (some ad) m c) (news : List Value) (hl : news.length = m * k) (hc : ∀ j u, news[j]? = some u → w.cell? (ad.add j) = some u) (h1 : ∀ u ∈ news, u.oneCell' = true)
    (hroom : n + m ≤ cap) (cur : List Value) (hg : w.heap[g]? = some (.cells cur.toArray e (0, 0))) (hfit : n * k + news.length ≤ cur.length) (B : Nat) (w0 : World) (hb : Below B w0 w) (hBg : B ≤ g)
    (h : ∀ w', Hid (w'.heap[g]? = some (.cells (splice cur (n * k) news).toArray e (0, 0))) → Below B w0 w' → Hid (∀ j, j ≠ g → w'.heap[j]? = w.heap[j]?) → K (a.put o.dst (.slice (some ⟨g, 0, none⟩) (n + m) cap)) w') :
    if Region.wanted o (yielded ops a.tmps) = true then Oper.wp P o a w K Q else X := by
  obtain ⟨i, z, hi, _, hk, _⟩ := E.hi
  rw [if_pos (show Region.wanted o (yielded ops a.tmps) = true by simp [Region.wanted, hgd])]
  subst hk
  have hrun := run_append_room (P := P) w t o.type e i E.ht hi g n cap cur.toArray hg ad m c news hl hc h1 hroom (by simpa using hfit)
  unfold Oper.wp
  simp [execOp, ho, resolve, invoke, builtin, hs, hx, hrun, Result.andThen]
  exact h _ (show _ = _ by simpa [splice] using setRow_heap w g _ _ e _ hg) (below_setRow hb hBg _) (fun j hj => setRow_other w g j _ hj)

/-- clear at several cells. -/
theorem run_clearK {t e k bytes : Nat} (E : Elem P t e k bytes) (zs : List Value) (hz : (P.info? e).map (fun i => i.zero.map (fun z => z.cells.toList)) = some (some zs)) (h1 : ∀ u ∈ zs, u.oneCell' = true) (w : World) (g off n c : Nat) (hn : 0 < n) (cur : List Value) (tg : TypeId)
    (hg : w.heap[g]? = some (.cells cur.toArray tg (0, 0))) (hfit : off + n * k ≤ cur.length) (ty : TypeId) :
    ∃ Z, Z.length = n * k ∧ (Builtin.clear_ #[t] ty #[.slice (some ⟨g, off, none⟩) n c]).run P w = .ok (.tuple #[]) (w.setRow g (splice cur off Z).toArray) := by
  obtain ⟨i, z, hi, hz0, hk, _, hzk⟩ := E.hi
  have hzc : z.cells.toList = zs := by rw [hi, Option.map_some, hz0, Option.map_some] at hz; injection hz with hz; injection hz
  have hzv : (zeroValue e).run P w = .ok z w := by simp [zeroValue, typeInfo, hi, hz0]
  have hlen : (Builtin.zeroCells z.cells n).toList.length = n * k := by rw [Array.length_toList, size_zeroCells, hzk]
  have hone : ∀ u ∈ (Builtin.zeroCells z.cells n).toList, u.oneCell' = true := by
    intro u hu
    simp only [Builtin.zeroCells, Array.toList_map, List.mem_map, Array.toList_range, List.mem_range] at hu
    obtain ⟨j, hj, rfl⟩ := hu
    have hpos := E.pos
    have hlt : j % z.cells.size < z.cells.size := Nat.mod_lt _ (by omega)
    refine h1 _ ?_
    rw [← hzc, getElem!_pos z.cells _ hlt]
    exact Array.getElem_mem_toList hlt
  have hst := run_storeCells_at (P := P) g off tg (Builtin.zeroCells z.cells n).toList 0 cur.toArray w hg (by simpa [hlen] using hfit) hone
  refine ⟨(Builtin.zeroCells z.cells n).toList, hlen, ?_⟩
  obtain ⟨m, rfl⟩ : ∃ m, n = m + 1 := ⟨n - 1, by omega⟩
  simp only [Nat.add_zero] at hst
  simp [Builtin.clear_, run_underlying E.ht, hzv, hst, splice]
theorem wpList_clearK {w : World} {ops : Array Oper} {rest : List Oper} {o : Oper} {a : Act} {Q : Exit → Act → World → Prop} (hgd : o.guard = none) (x : Operand) (t : TypeId)
    (ho : o.op = .call { callee := .builtin .clear, args := #[x], argTypes := #[t] }) (e k bytes : Nat) (E : Elem P t e k bytes) (zs : List Value) (hz : (P.info? e).map (fun i => i.zero.map (fun z => z.cells.toList)) = some (some zs)) (h1 : ∀ u ∈ zs, u.oneCell' = true) (g off n c : Nat)
    (hx : a.eval x = .slice (some ⟨g, off, none⟩) n c) (hn : 0 < n) (OFF : Nat) (ho2 : off = OFF) (cur : List Value) (tg : TypeId) (hg : w.heap[g]? = some (.cells cur.toArray tg (0, 0))) (hfit : OFF + n * k ≤ cur.length) (B : Nat) (w0 : World) (hb : Below B w0 w) (hBg : B ≤ g)
    (h : ∀ w' Z, Z.length = n * k → Hid (w'.heap[g]? = some (.cells (splice cur OFF Z).toArray tg (0, 0))) → Below B w0 w' → Hid (∀ j, j ≠ g → w'.heap[j]? = w.heap[j]?) → wpList P ops Q rest (a.put o.dst (.tuple #[])) w') : wpList P ops Q (o :: rest) a w := by
  subst ho2
  refine wpList_plain hgd fun K hK => ?_
  obtain ⟨Z, hZ, hrun⟩ := run_clearK E zs hz h1 w g off n c hn cur tg hg hfit o.type
  unfold Oper.wp
  simp [execOp, ho, resolve, invoke, builtin, hx, hrun, Result.andThen]
  exact hK _ _ (h _ Z hZ (show _ = _ from setRow_heap w g _ _ tg _ hg) (below_setRow hb hBg _) fun j hj => setRow_other w g j _ hj)
end
theorem zero_od : (Try.prog.info? 71).map (fun i => i.zero.map (fun z => z.cells.toList)) = some (some (odCells [zeroOd])) := by kernel_rfl

theorem odCells_erase (L : List Od) (i : Nat) : odCells (L.take i) ++ odCells (L.drop (i + 1)) = odCells (L.eraseIdx i) := by
  rw [← odCells_app, List.eraseIdx_eq_take_drop_succ]

set_option maxHeartbeats 2000000 in
set_option maxRecDepth 100000 in
theorem delete_at (base g n c i : Nat) (L : List Od) (cur : List Value) (w : World) (hg : Blk w g 71 cur.toArray) (hcl : cur.length = c * 5) (hcur : cur.take (n * 5) = odCells L) (hnc : n ≤ c) (hc : c ≤ maxLen)
    (hbg : base ≤ g) (hb : base ≤ w.heap.size) (hi : i < n) :
    Calls Try.prog 65 #[.slice (some ⟨g, 0, none⟩) n c, .int .i64 i, .int .i64 ((i : Int) + 1)] w fun e w' => ∃ cur' : List Value, e = .returned (.slice (some ⟨g, 0, none⟩) (n - 1) c) ∧
      Blk w' g 71 cur'.toArray ∧ cur'.length = c * 5 ∧ cur'.take ((n - 1) * 5) = odCells (L.eraseIdx i) ∧ Below base w w' ∧ Only w w' (some g) := by
  have hL : L.length = n := by
    have h := congrArg List.length hcur
    rw [odCells_len, List.length_take] at h; omega
  -- the cells that are moved
  obtain ⟨news, hnews⟩ : ∃ news, news = odCells (L.drop (i + 1)) := ⟨_, rfl⟩
  have hlen : news.length = (n - (i + 1)) * 5 := by rw [hnews, odCells_len, List.length_drop, hL]
  have hget : ∀ t u, news[t]? = some u → cur[(i + 1) * 5 + t]? = some u := by
    intro t u hu
    have ht := (List.getElem?_eq_some_iff.1 hu).1
    rw [hnews, ← odCells_drop, ← hcur, List.getElem?_drop, List.getElem?_take] at hu
    split at hu
    · exact hu
    · cases hu
  obtain ⟨ad, hA, hsrc⟩ : ∃ ad : Addr, (if c = i + 1 then (some ⟨g, 0, none⟩ : Option Addr) else some ⟨g, (i + 1) * 5, none⟩) = some ad ∧ Hid (∀ t u, news[t]? = some u → w.drew.cell? (ad.add t) = some u) := by
    by_cases h : c = i + 1
    · refine ⟨⟨g, 0, none⟩, by simp [h], fun t u hu => ?_⟩
      have h0 : news.length = 0 := by rw [hlen]; omega
      rw [List.length_eq_zero_iff.1 h0] at hu
      simp at hu
    · refine ⟨⟨g, (i + 1) * 5, none⟩, by simp [h], fun t u hu => ?_⟩
      rw [Addr.add_lit, Blk.cell (show Blk w.drew g 71 cur.toArray from hg)]
      simpa using hget t u hu
  have h1 : Hid (∀ u ∈ news, u.oneCell' = true) := by rw [hnews]; exact odCells_one _
  have hfit : i * 5 + news.length ≤ cur.length := by rw [hlen, hcl]; omega
  have HF := Lib.hid (show ∀ Z : List Value, Z.length = 5 → (splice (splice cur (i * 5) news) ((n - 1) * 5) Z).length = c * 5 ∧ (splice (splice cur (i * 5) news) ((n - 1) * 5) Z).take ((n - 1) * 5) = odCells (L.eraseIdx i) by
    intro Z hZ
    have hl1 : (splice cur (i * 5) news).length = c * 5 := by rw [length_splice _ _ _ hfit, hcl]
    refine ⟨by rw [length_splice _ _ _ (by rw [hl1, hZ]; omega), hl1], ?_⟩
    have e1 : (splice (splice cur (i * 5) news) ((n - 1) * 5) Z).take ((n - 1) * 5) = (splice cur (i * 5) news).take ((n - 1) * 5) := by
      unfold splice
      rw [List.take_append_of_le_length (by simp only [List.length_take, List.length_append, List.length_drop]; omega), List.take_take, Nat.min_self]
    rw [e1]
    unfold splice
    have e2 : cur.take (i * 5) = odCells (L.take i) := by
      rw [← odCells_take, ← hcur, List.take_take, Nat.min_eq_left (by omega)]
    rw [e2, ← List.append_assoc, List.take_append_of_le_length (by rw [List.length_append, hlen, odCells_len, List.length_take]; omega), List.take_of_length_le (by rw [List.length_append, hlen, odCells_len, List.length_take]; omega), hnews, odCells_erase])
  have HG := Lib.hid (show w.drew.heap[g]? = some (.cells cur.toArray 71 (0, 0)) from hg)
  have HL := Lib.hid hlen
  have HFIT := Lib.hid hfit
  have HS := Lib.hid (show (splice cur (i * 5) news).length = c * 5 by rw [length_splice _ _ _ hfit, hcl])
  have hBd : Below base w w.drew := (below_drew (Below.refl _ _)).mono hb
  clear hg hcl hcur hL hnews hlen hget hfit
  unfold maxLen at hc
  have b1 : ¬ (c = i) := by omega
  have b2 : ¬ (c = n - 1) := by omega
  have b3 : ¬ ((i : Int) = (i : Int) + 1) := by omega
  have b4 : (0 : Int) ≤ (i : Int) + 1 := by omega
  have b5 : (i : Int) + 1 ≤ (n : Int) := by omega
  have b6 : ((i : Int) + 1).toNat = i + 1 := by omega
  have b7 : i + (n - (i + 1)) = n - 1 := by omega
  have c1 : i ≤ c := by omega
  have c2 : (i : Int) ≤ (c : Int) := by omega
  have c3 : i + 1 ≤ n := by omega
  have c4 : i ≤ i + 1 := by omega
  have b8 : n - (n - 1) = 1 := by omega
  go_enter Try.func65, Try.ntmps65
  go_wp2_with fail
  go_region_law (refine step_appK rfl (.tmp 22) (.tmp 25) 60 rfl 71 5 40 elem_od g i c (by simp [Act.eval, Act.put]) ad (n - (i + 1)) (c - (i + 1)) (by simp [Act.eval, Act.put]) news HL.out hsrc.out h1.out (by omega) cur HG.out HFIT.out base w hBd hbg ?_; intro w1 HG1 hB1 HO1)
  go_wp2_with (refine wpList_clearK rfl (.tmp 31) 60 rfl 71 5 40 elem_od _ zero_od (odCells_one _) g ((n - 1) * 5) 1 (c - (n - 1)) (by rfl) (by omega) ((n - 1) * 5) rfl (splice cur (i * 5) news) 71 HG1.out (by rw [HS.out]; omega) base w hB1 hbg ?_; intro w2 Z hZ HG2 hB2 HO2)
  have HZ := HF.out Z hZ
  have HX := Lib.hid HZ
  clear hZ HZ
  go_wp2_with fail
  go_ret
  exact ⟨_, rfl, HG2.out, HX.out.1, HX.out.2, hB2, fun k hk hne => by
    have hk' : k ≠ g := fun e => hne (by rw [e])
    exact (HO2.out k hk').trans (HO1.out k hk')⟩

/-- slices.Delete(s, i, i + 1) at an own row. -/
theorem delete_od (base : Nat) (v : Value) (n i : Nat) (L : List Od) (w : World) (hown : w.ownsRow base 71 5 v n (odCells L)) (hb : base ≤ w.heap.size) (hi : i < n) :
    Calls Try.prog 65 #[v, .int .i64 i, .int .i64 ((i : Int) + 1)] w fun e w' => ∃ v', e = .returned v' ∧ w'.ownsRow base 71 5 v' (n - 1) (odCells (L.eraseIdx i)) ∧ v'.ownBlock = v.ownBlock ∧ Below base w w' ∧ Only w w' v.ownBlock := by
  obtain ⟨hl, ⟨rfl, h0⟩ | ⟨g, c, cur, rfl, hbg, hg, hnc, hcm, hcs, hct⟩⟩ := hown
  · omega
  · have hL : L.length = n := by rw [odCells_len] at hl; omega
    have hgb : Blk w g 71 cur.toList.toArray := by rw [Array.toArray_toList]; exact hg
    refine (delete_at base g n c i L cur.toList w hgb (by rw [Array.length_toList]; exact hcs) hct hnc hcm hbg hb hi).mono ?_
    rintro e w' ⟨cur', rfl, h1, h2, h3, h4, h5⟩
    refine ⟨_, rfl, ⟨?_, .inr ⟨g, c, cur'.toArray, rfl, hbg, h1, by omega, hcm, by simpa using h2, by simpa using h3⟩⟩, rfl, h4, h5⟩
    rw [odCells_len, List.length_eraseIdx_of_lt (by omega), hL]
end Go.Proofs.Ytockodmbhnlheaa
