/-
  slices.Insert of one element at []api.Order: a new row; all roads joined.
-/
import Derived.Test.YtockodmbhnlheaaIns2
namespace Go.Proofs.Ytockodmbhnlheaa
open Go.RowKit

theorem app_zeros_onto {P : Program} {t e tn k bytes : Nat} {kn : IntKind} (E : Elem P t e k bytes) (htn : P.underlying tn = some (.int kn)) (w : World) (g c i m B : Nat) (cur : List Value) (hg : Blk w g e cur.toArray) (hcl : cur.length = c * k) (hic : i ≤ c) (hm : c < i + m)
    (h48 : (i + m) * bytes ≤ 140737488355328) (hml : i + m ≤ maxLen) (hB : B ≤ w.heap.size) :
    ∃ (c' : Nat) (ROW : List Value) (W : World), (∀ ty, (Builtin.append_ #[t, tn] ty #[.slice (some ⟨g, 0, none⟩) i c, .int .i64 m]).run P w = .ok (.slice (some ⟨w.heap.size, 0, none⟩) (i + m) c') W) ∧ i + m ≤ c' ∧ c' ≤ maxLen ∧ ROW.length = c' * k ∧ ROW.take (i * k) = cur.take (i * k) ∧
      Blk W w.heap.size e ROW.toArray ∧ Below B w W ∧ (∀ j, j < w.heap.size → W.heap[j]? = w.heap[j]?) := by
  obtain ⟨ii, z, hi, hz, hk, hb, hzk⟩ := E.hi
  have hik : i * k ≤ cur.length := by rw [hcl]; exact Nat.mul_le_mul_right _ hic
  have hlen : (cur.take (i * k)).length = i * k := by rw [List.length_take]; omega
  have hold : (Builtin.firstCells ii.size i (.slice (some ⟨g, 0, none⟩) i c)).run P w.drew = .ok (cur.take (i * k)).toArray w.drew := by
    rw [hk]
    refine run_firstCells_some w.drew k i ⟨g, 0, none⟩ i c _ hlen fun j v hj => ?_
    rw [Addr.add_lit, Blk.cell (show Blk w.drew g e cur.toArray from hg)]
    rw [List.getElem?_take] at hj
    split at hj
    · simpa using hj
    · cases hj
  have hm48 : m * bytes ≤ (i + m) * bytes := Nat.mul_le_mul_right _ (by omega)
  have hr := fun ty => Lib.run_append_grow_zeros (P := P) w t tn ty e ii z .i64 kn E.ht htn hi hz (some ⟨g, 0, none⟩) i c _ hold m (by omega) (by rw [hk]; exact E.pos) (by omega) (by simp only [maxLen] at hml; omega) (by rw [hb]; omega) (by rw [hb]; exact growslice_fits hm h48)
  have hge := grownCap_ge w (i + m) c e
  refine ⟨_, (cur.take (i * k)) ++ ((Builtin.zeroCells z.cells m).toList ++ (Builtin.zeroCells z.cells (grownCap w (i + m) c e - (i + m))).toList), _, hr, hge, grownCap_le_maxLen _ _ _ _ hml, ?_, ?_, ?_, ?_, ?_⟩
  · simp only [List.length_append, hlen, Array.length_toList, size_zeroCells, hzk, ← Nat.add_mul]
    rw [show i + (m + (grownCap w (i + m) c e - (i + m))) = grownCap w (i + m) c e by omega]
  · rw [List.take_append_of_le_length (by omega)]; exact List.take_of_length_le (by omega)
  · unfold Blk
    rw [show w.heap.size = w.drew.heap.size from rfl, heap_alloc_new]
    congr 2
    apply Array.toList_inj.1
    simp
  · exact ((below_drew (Below.refl _ _)).alloc (Nat.le_refl _) _).mono hB
  · intro j hj
    exact heap_alloc_old w.drew _ (r := j) hj

set_option maxHeartbeats 1000000 in
set_option maxRecDepth 100000 in
theorem insert_new (base g n c i : Nat) (L : List Od) (o : Od) (cur : List Value) (vb vc : Nat) (tv : TypeId) (w : World) (hg : Blk w g 71 cur.toArray) (hcl : cur.length = c * 5) (hcur : cur.take (n * 5) = odCells L) (hnc0 : n ≤ c) (hnc : c < n + 1) (hc : c ≤ maxLen)
    (hb : base ≤ w.heap.size) (hv : Blk w vb tv #[.int .i64 o.id, .int .i64 o.acc, .int .i64 o.side, .int .i64 o.price, .int .i64 o.qty]) (hne : vb ≠ g) (hin : i < n) (hm : (n + 1) * 40 ≤ 140737488355328) :
    Calls Try.prog 140 #[.slice (some ⟨g, 0, none⟩) n c, .int .i64 i, .slice (some ⟨vb, 0, none⟩) 1 vc] w fun e w' => ∃ v', e = .returned v' ∧ w'.ownsRow base 71 5 v' (n + 1) (odCells (insAt L i o)) ∧ Below base w w' ∧ Only w w' (some g) := by
  obtain ⟨hX, hXl, hDl, hOl, hsrc, hL⟩ := ins_cells o hcur (show n * 5 ≤ cur.length by omega) (Nat.le_of_lt hin)
  obtain ⟨c', ROW, W1, hrz, hc1, hc2, hRl, hRX, hW1, hB1, hO1⟩ := app_zeros_onto (P := Try.prog) elem_od Try.underlying3 w g c i (n + 1 - i) base cur hg hcl (by omega) (by omega) (by omega) (by simp only [maxLen]; omega) hb
  have hin1 : i + (n + 1 - i) = n + 1 := by omega
  rw [hin1] at hrz hc1
  rw [show ((n + 1 - i : Nat) : Int) = (n : Int) + 1 - (i : Int) by omega] at hrz
  clear hin1
  have HF := Lib.hid (show (splice (splice ROW (i * 5) (odCells [o])) ((i + 1) * 5) (odCells (L.drop i))).take ((n + 1) * 5) = odCells (insAt L i o) by
    have := ins_new (cur := ROW) (X := odCells (L.take i)) (D := odCells (L.drop i)) (O := odCells [o]) (by rw [hXl, hRX]; exact hX) (by rw [hXl, hDl, hOl]; omega)
    rw [hXl, hDl, hOl, show i * 5 + 5 = (i + 1) * 5 by omega, show (i + 1) * 5 + (n - i) * 5 = (n + 1) * 5 by omega] at this
    rw [this, odCells_ins])
  have HLI := Lib.hid (show (insAt L i o).length = n + 1 by unfold insAt; simp; omega)
  have HS := Lib.hid hsrc
  have HD := Lib.hid hDl
  have HOl := Lib.hid hOl
  have HR := Lib.hid hRl
  have HC2 := Lib.hid hc2
  have HBW := Lib.hid hb
  obtain ⟨G, hG⟩ : ∃ G, G = w.heap.size := ⟨_, rfl⟩
  have HGG := Lib.hid hG
  have hgG : g < G := by rw [hG]; exact Blk.lt hg
  have hvG : vb < G := by rw [hG]; exact Blk.lt hv
  rw [← hG] at hW1 hO1 hrz hb
  have HV1 := Lib.hid (show Blk W1 vb tv #[.int .i64 o.id, .int .i64 o.acc, .int .i64 o.side, .int .i64 o.price, .int .i64 o.qty] from (hO1 vb hvG).trans hv)
  have HG1 := Lib.hid (show Blk W1 g 71 cur.toArray from (hO1 g hgG).trans hg)
  have HW1 := Lib.hid hW1
  have HO1 := Lib.hid hO1
  have HRZ := Lib.hid hrz
  simp only [maxLen] at hc hc2
  clear hg hv hX hXl hsrc hcur hcl hDl hOl hL hRl hRX hW1 hO1 hG hrz
  have hw1 : IntKind.i64.wrap ((i : Int) + 1) = (i : Int) + 1 := IntWalk.i64_in _ (by omega)
  have hw2 : IntKind.i64.wrap ((n : Int) + 1) = (n : Int) + 1 := IntWalk.i64_in _ (by omega)
  have hw3 : IntKind.i64.wrap ((n : Int) + 1 - (i : Int)) = (n : Int) + 1 - (i : Int) := IntWalk.i64_in _ (by omega)
  have hz2 : ¬ ((i : Int) = (n : Int)) := by omega
  have htn : ((i : Int) + 1).toNat = i + 1 := by omega
  have hb2 : ¬ (c' = i + 1) := by omega
  have hb4 : ¬ (c = i) := by omega
  have hb5 : ¬ (c' = i) := by omega
  have hb3 : (i : Int) ≤ (n : Int) + 1 := by omega
  have hb1 : (0 : Int) ≤ (i : Int) + 1 := by omega
  have hin2 : i ≤ n := by omega
  have hin3 : (i : Int) ≤ (n : Int) := by omega
  go_enter Try.func140, Try.ntmps140
  have hf1 : i * 5 + (odCells [o]).length ≤ ROW.length := by rw [HOl.out, HR.out]; omega
  have HF1 := Lib.hid hf1
  have HS1 := Lib.hid (show ∀ j v, (odCells [o])[j]? = some v → W1.cell? ⟨vb, 0 + j, none⟩ = some v from fun j v hj => by
    rw [Blk.cell HV1.out, Nat.zero_add]
    simpa [odCells] using hj)
  clear hf1
  go_wp2_with (first | (at_builtin; refine Lib.wpList_append_run _ rfl _ _ _ _ rfl _ _ rfl rfl _ _ (HRZ.out _) ?_) | (refine wpList_copyK rfl (.tmp 43) (.tmp 44) 60 60 rfl 71 5 40 elem_od G (i * 5) (n + 1 - i) (c' - i) vb 0 1 vc (by rfl) (by rfl) 1 (i * 5) 0 ⟨rfl, rfl, Nat.le_refl _, by omega, by omega⟩ ROW 71 HW1.out (odCells [o]) rfl HS1.out HF1.out (odCells_one _) base w hB1 hb ?_; intro w2 HG2 hB2 hO2))
  have HG2' : Hid (w2.drew.heap[G]? = some (.cells (splice ROW (i * 5) (odCells [o])).toArray 71 (0, 0))) := HG2
  have hg2 : Blk w2.drew g 71 cur.toArray := (hO2 g (by omega)).trans HG1.out
  have hs2 : ∀ j v, (odCells (L.drop i))[j]? = some v → w2.drew.cell? ⟨g, i * 5 + j, none⟩ = some v := fun j v hj => by
    have := HS.out j v hj
    rw [Blk.cell hg2]
    simpa using this
  have HS2 := Lib.hid hs2
  have hf2 : (i + 1) * 5 + (odCells (L.drop i)).length ≤ (splice ROW (i * 5) (odCells [o])).length := by rw [length_splice _ _ _ HF1.out, HD.out, HR.out]; omega
  have HF2 := Lib.hid hf2
  have hBd : Below base w w2.drew := hB2.trans ((below_drew (Below.refl _ _)).mono (Nat.le_trans HBW.out hB2.size))
  have HO2 := Lib.hid hO2
  clear hg2 hs2 hf2 hO2
  go_region_law (refine step_copyK rfl _ _ 60 60 rfl 71 5 40 elem_od G ((i + 1) * 5) (n + 1 - (i + 1)) (c' - (i + 1)) g (i * 5) (n - i) (c - i) (by simp [Act.eval, Act.put]) (by simp [Act.eval, Act.put]) (n - i) ((i + 1) * 5) (i * 5) ⟨rfl, rfl, by omega, by omega, by omega⟩ (splice ROW (i * 5) (odCells [o])) 71 HG2'.out (odCells (L.drop i)) HD.out HS2.out HF2.out (odCells_one _) base w hBd hb ?_; intro w3 HG3 hB3 hO3)
  have HO3 := Lib.hid hO3
  clear hO3
  go_wp2_with fail
  go_ret
  refine ⟨_, rfl, ⟨?_, .inr ⟨G, c', _, rfl, hb, HG3.out, hc1, HC2.out, ?_, ?_⟩⟩, hB3, fun k hk _ => ?_⟩
  · rw [odCells_len, HLI.out]
  · rw [List.size_toArray, length_splice _ _ _ HF2.out, length_splice _ _ _ HF1.out, HR.out]
  · exact HF.out
  · have hkG : k < G := by rw [HGG.out]; exact hk
    exact ((HO3.out k (by omega)).trans (HO2.out k (by omega))).trans (HO1.out k hkG)

/-- slices.Insert(v, i, o) at an own row. -/
theorem insert_od (base : Nat) (v : Value) (n i : Nat) (L : List Od) (o : Od) (vb vc : Nat) (tv : TypeId) (w : World) (hown : w.ownsRow base 71 5 v n (odCells L)) (hb : base ≤ w.heap.size) (hv : Blk w vb tv #[.int .i64 o.id, .int .i64 o.acc, .int .i64 o.side, .int .i64 o.price, .int .i64 o.qty]) (hvc : 1 ≤ vc) (hvc' : vc ≤ maxLen) (hne : v.ownBlock ≠ some vb) (hi : i ≤ n) (hm : (n + 1) * 40 ≤ 140737488355328) :
    Calls Try.prog 140 #[v, .int .i64 i, .slice (some ⟨vb, 0, none⟩) 1 vc] w fun e w' => ∃ v', e = .returned v' ∧ w'.ownsRow base 71 5 v' (n + 1) (odCells (insAt L i o)) ∧ Below base w w' ∧ Only w w' v.ownBlock := by
  by_cases hin : i = n
  · subst hin
    refine insert_end base v i L o (some ⟨vb, 0, none⟩) vc w.heap.size w hown hb ⟨rfl, hvc, hvc', nofun, fun _ => ⟨vb, 0, rfl, Blk.lt hv, fun j u hj => ?_⟩⟩ hm
    rw [Blk.cell hv, Nat.zero_add]
    simpa [odCells] using hj
  · obtain ⟨hl, ⟨rfl, h0⟩ | ⟨g, c, cur, rfl, hbg, hg, hnc, hcm, hcs, hct⟩⟩ := hown
    · omega
    · have hne' : vb ≠ g := fun e => hne (by rw [e]; rfl)
      have hgb : Blk w g 71 cur.toList.toArray := by rw [Array.toArray_toList]; exact hg
      by_cases hr : n + 1 ≤ c
      · exact insert_shift base g n c i L o cur.toList vb vc tv w hgb (by rw [Array.length_toList]; exact hcs) hct hr hcm hbg hv hne' (by omega)
      · exact insert_new base g n c i L o cur.toList vb vc tv w hgb (by rw [Array.length_toList]; exact hcs) hct hnc (by omega) hcm hb hv hne' (by omega) hm
end Go.Proofs.Ytockodmbhnlheaa
