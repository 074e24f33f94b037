/-
  slices.Insert of one element at []api.Order: the walks.
-/
import Derived.Test.YtockodmbhnlheaaIns
import Derived.Deep.RegionLaw
namespace Go.Proofs.Ytockodmbhnlheaa
open Go.RowKit

def insAt (L : List Od) (i : Nat) (o : Od) : List Od := L.take i ++ o :: L.drop i
/-- of the blocks that stood only one may have turned. -/
def Only (w w' : World) (b : Option Nat) : Prop := ∀ k, k < w.heap.size → some k ≠ b → w'.heap[k]? = w.heap[k]?
theorem odCells_ins (L : List Od) (i : Nat) (o : Od) : odCells (insAt L i o) = odCells (L.take i) ++ (odCells [o] ++ odCells (L.drop i)) := by
  unfold insAt
  rw [odCells_app, show o :: L.drop i = [o] ++ L.drop i from rfl, odCells_app]
theorem size_od : (Try.prog.info? 71).map (·.size) = some 5 := by kernel_rfl
theorem run_sizeOf_od (w : World) : (Go.sizeOf 71).run Try.prog w = .ok 5 w := by
  have h := size_od
  cases hq : Try.prog.info? 71 with
  | none => simp [hq] at h
  | some i =>
    have hi : i.size = 5 := by simpa [hq] using h
    simp [sizeOf, typeInfo, hq, hi]
theorem run_overlaps_od (w : World) (vb b off lb cb vc : Nat) (cs cs' : Array Value) (t t' : TypeId) (hne : vb ≠ b) (h1 : Blk w vb t cs) (h2 : Blk w b t' cs') (h0 : cs'.size ≠ 0) :
    (callFunc 164 #[.slice (some ⟨vb, 0, none⟩) 1 vc, .slice (some ⟨b, off, none⟩) lb cb]).run Try.prog w = .ok (.value (.bool false)) w := by
  unfold Blk at h1 h2
  rw [run_callFunc_extern Try.func164 (by kernel_rfl) (by kernel_rfl) (by kernel_rfl) (e := Extern.SlicesOverlaps.overlaps #[60, 60] #[4]) (by kernel_rfl),
    Lib.run_overlaps_apart w 60 4 71 Try.underlying60 5 run_sizeOf_od ⟨vb, 0, none⟩ ⟨b, off, none⟩ 1 vc lb cb hne t t' cs.size cs'.size (by simp [World.shape?, h1]) (by simp [World.shape?, h2]) h0 (by simp [World.frozen?, h1]) (by simp [World.frozen?, h1])]
  rfl

set_option maxHeartbeats 1000000 in
set_option maxRecDepth 100000 in
theorem insert_end (base : Nat) (v : Value) (n : Nat) (L : List Od) (o : Od) (A : Option Addr) (c B : Nat) (w : World) (hown : w.ownsRow base 71 5 v n (odCells L)) (hb : base ≤ w.heap.size) (h : Rd w B 5 A 1 c (odCells [o])) (hm : (n + 1) * 40 ≤ 140737488355328) :
    Calls Try.prog 140 #[v, .int .i64 n, .slice A 1 c] w fun e w' => ∃ v', e = .returned v' ∧ w'.ownsRow base 71 5 v' (n + 1) (odCells (insAt L n o)) ∧ Below base w w' ∧ Only w w' v.ownBlock := by
  have hL : L.length = n := by have := hown.1; rw [odCells_len] at this; omega
  have HI := Lib.hid (show odCells L ++ odCells [o] = odCells (insAt L n o) by
    rw [← odCells_app]; unfold insAt; rw [List.take_of_length_le (by omega), List.drop_of_length_le (by omega)])
  clear hL
  obtain ⟨A0, c0, rfl⟩ := own_shape hown
  have hr := Rd.of_own hown
  have hle := hr.le
  have hcap := hr.cap
  simp only [maxLen] at hcap
  obtain ⟨A1, hcut, _⟩ := cut_l elem_od hr n (Nat.le_refl _)
  have HO := Lib.hid hown
  have HR := Lib.hid h
  clear hown h hr
  go_enter Try.func140, Try.ntmps140
  go_wp2_with (at_builtin; refine wpList_app rfl _ _ _ rfl base _ _ _ elem_od _ _ _ rfl HO.out B A 1 c (odCells [o]) rfl HR.out (odCells_one _) (by simp only [maxLen]; omega) (by omega) hb ?_; intro v' w' hown' hbel' hgr _)
  go_ret
  exact ⟨_, rfl, HI.out ▸ hown', hbel', hgr.block⟩

theorem ins_cells {cur : List Value} {n i : Nat} {L : List Od} (o : Od) (hc : cur.take (n * 5) = odCells L) (hn : n * 5 ≤ cur.length) (hi : i ≤ n) : cur.take (i * 5) = odCells (L.take i) ∧ (odCells (L.take i)).length = i * 5 ∧ (odCells (L.drop i)).length = (n - i) * 5 ∧ (odCells [o]).length = 5 ∧
    (∀ j v, (odCells (L.drop i))[j]? = some v → cur[i * 5 + j]? = some v) ∧ L.length = n := by
  have hL : L.length = n := by
    have := congrArg List.length hc
    rw [odCells_len, List.length_take] at this; omega
  refine ⟨?_, ?_, ?_, rfl, ?_, hL⟩
  · rw [← odCells_take, ← hc, List.take_take, Nat.min_eq_left (by omega)]
  · rw [odCells_len, List.length_take]; omega
  · rw [odCells_len, List.length_drop]; omega
  · intro j v hj
    rw [← odCells_drop, ← hc, List.getElem?_drop, List.getElem?_take] at hj
    split at hj
    · exact hj
    · cases hj

set_option maxHeartbeats 600000 in
set_option maxRecDepth 100000 in
theorem insert_shift (base g n c i : Nat) (L : List Od) (o : Od) (cur : List Value) (vb vc : Nat) (tv : TypeId) (w : World) (hg : Blk w g 71 cur.toArray) (hcl : cur.length = c * 5) (hcur : cur.take (n * 5) = odCells L) (hnc : n + 1 ≤ c) (hc : c ≤ maxLen)
    (hb : base ≤ g) (hv : Blk w vb tv #[.int .i64 o.id, .int .i64 o.acc, .int .i64 o.side, .int .i64 o.price, .int .i64 o.qty]) (hne : vb ≠ g) (hin : i < n) :
    Calls Try.prog 140 #[.slice (some ⟨g, 0, none⟩) n c, .int .i64 i, .slice (some ⟨vb, 0, none⟩) 1 vc] w fun e w' => ∃ v', e = .returned v' ∧ w'.ownsRow base 71 5 v' (n + 1) (odCells (insAt L i o)) ∧ Below base w w' ∧ Only w w' (some g) := by
  obtain ⟨hX, hXl, hDl, hOl, hsrc, hL⟩ := ins_cells o hcur (show n * 5 ≤ cur.length by omega) (Nat.le_of_lt hin)
  have HF := Lib.hid (show (splice (splice cur ((i + 1) * 5) (odCells (L.drop i))) (i * 5) (odCells [o])).take ((n + 1) * 5) = odCells (insAt L i o) by
    have := ins_shift (cur := cur) (X := odCells (L.take i)) (D := odCells (L.drop i)) (O := odCells [o]) (by rw [hXl]; exact hX) (by rw [hXl, hDl, hOl]; omega)
    rw [hXl, hDl, hOl, show i * 5 + 5 = (i + 1) * 5 by omega, show (i + 1) * 5 + (n - i) * 5 = (n + 1) * 5 by omega] at this
    rw [this, odCells_ins])
  have hov : ∀ W lb cb, Blk W vb tv #[.int .i64 o.id, .int .i64 o.acc, .int .i64 o.side, .int .i64 o.price, .int .i64 o.qty] → Blk W g 71 cur.toArray → (callFunc 164 #[.slice (some ⟨vb, 0, none⟩) 1 vc, .slice (some ⟨g, (i + 1) * 5, none⟩) lb cb]).run Try.prog W = .ok (.value (.bool false)) W := fun W lb cb h1 h2 =>
    run_overlaps_od W vb g _ lb cb vc _ _ _ _ hne h1 h2 (by rw [List.size_toArray]; omega)
  have hov' := fun lb cb => hov w lb cb hv hg
  have HLI := Lib.hid (show (insAt L i o).length = n + 1 by unfold insAt; simp; omega)
  have HOl := Lib.hid hOl
  have hBd : Below base w w.drew := (below_drew (Below.refl _ _)).mono (Nat.le_trans hb (Nat.le_of_lt (Blk.lt hg)))
  have HG := Lib.hid hg
  have HV := Lib.hid hv
  have HS := Lib.hid hsrc
  have HC := Lib.hid hcl
  have HD := Lib.hid hDl
  have HCM := Lib.hid hc
  simp only [maxLen] at hc
  clear hg hv hX hXl hsrc hcur hov hcl hDl hOl hL
  have hw1 : IntKind.i64.wrap ((i : Int) + 1) = (i : Int) + 1 := IntWalk.i64_in _ (by omega)
  have hw2 : IntKind.i64.wrap ((n : Int) + 1) = (n : Int) + 1 := IntWalk.i64_in _ (by omega)
  have hz2 : ¬ ((i : Int) = (n : Int)) := by omega
  have htn : ((i : Int) + 1).toNat = i + 1 := by omega
  have hb2 : ¬ (c = i + 1) := by omega
  have hb4 : ¬ (c = i) := by omega
  have hb3 : (i : Int) ≤ (n : Int) + 1 := by omega
  have hb1 : (0 : Int) ≤ (i : Int) + 1 := by omega
  have hin2 : i ≤ n := by omega
  have hin3 : (i : Int) ≤ (n : Int) := by omega
  go_enter Try.func140, Try.ntmps140
  go_wp2_with (simp only [hov'])
  have hsrc1 : ∀ j v, (odCells (L.drop i))[j]? = some v → w.drew.cell? ⟨g, i * 5 + j, none⟩ = some v := fun j v hj => by
    have := HS.out j v hj
    rw [Blk.cell (show Blk w.drew g 71 cur.toArray from HG.out)]
    simpa using this
  have hfit1 : (i + 1) * 5 + (odCells (L.drop i)).length ≤ cur.length := by rw [HD.out, HC.out]; omega
  have hg1 : Hid (w.drew.heap[g]? = some (.cells cur.toArray 71 (0, 0))) := HG
  have hN1 : (i + 1) * 5 = (i + 1) * 5 ∧ i * 5 = i * 5 ∧ n - i ≤ n + 1 - i ∧ n - i ≤ n + 1 - (i + 1) ∧ (n + 1 - i ≤ n - i ∨ n + 1 - (i + 1) ≤ n - i) := by omega
  go_region_law (refine step_copyK rfl _ _ 60 60 rfl 71 5 40 elem_od g ((i + 1) * 5) (n + 1 - (i + 1)) (c - (i + 1)) g (i * 5) (n + 1 - i) (c - i) (by simp [Act.eval, Act.put]) (by simp [Act.eval, Act.put]) (n - i) ((i + 1) * 5) (i * 5) hN1 cur 71 hg1.out (odCells (L.drop i)) HD.out hsrc1 hfit1 (odCells_one _) base w hBd hb ?_; intro w2 HG2 hB2 hO2)
  have HO2 := Lib.hid hO2
  have hN2 : i * 5 = i * 5 ∧ 0 = 0 ∧ 1 ≤ 1 ∧ 1 ≤ n + 1 - i ∧ (1 ≤ 1 ∨ n + 1 - i ≤ 1) := by omega
  have hsrc2 : ∀ j v, (odCells [o])[j]? = some v → w2.cell? ⟨vb, 0 + j, none⟩ = some v := fun j v hj => by
    rw [Blk.cell (show Blk w2 vb tv #[.int .i64 o.id, .int .i64 o.acc, .int .i64 o.side, .int .i64 o.price, .int .i64 o.qty] from (HO2.out vb hne).trans HV.out), Nat.zero_add]
    simpa [odCells] using hj
  have hfit2 : i * 5 + (odCells [o]).length ≤ (splice cur ((i + 1) * 5) (odCells (L.drop i))).length := by rw [length_splice _ _ _ hfit1, HC.out, HOl.out]; omega
  have HFT := Lib.hid hfit2
  have HS2 := Lib.hid hsrc2
  clear hN2 hsrc2 hfit2 hO2 hN1 hsrc1 hg1 hov'
  go_wp2_with (refine wpList_copyK rfl (.tmp 80) (.tmp 81) 60 60 rfl 71 5 40 elem_od g (i * 5) (n + 1 - i) (c - i) vb 0 1 vc (by rfl) (by rfl) 1 (i * 5) 0 ⟨rfl, rfl, Nat.le_refl _, by omega, by omega⟩ (splice cur ((i + 1) * 5) (odCells (L.drop i))) 71 HG2.out (odCells [o]) rfl HS2.out HFT.out (odCells_one _) base w hB2 hb ?_; intro w3 HG3 hB3 hO3)
  have HO3 := Lib.hid hO3
  clear hO3
  go_ret
  refine ⟨_, rfl, ⟨?_, .inr ⟨g, c, _, rfl, hb, HG3.out, hnc, HCM.out, ?_, ?_⟩⟩, hB3, fun k _ hk => (HO3.out k (fun e => hk (by rw [e]))).trans (HO2.out k (fun e => hk (by rw [e])))⟩
  · rw [odCells_len, HLI.out]
  · rw [List.size_toArray, length_splice _ _ _ HFT.out, length_splice _ _ _ hfit1, HC.out]
  · exact HF.out
end Go.Proofs.Ytockodmbhnlheaa
