/-
  ARGUMENTS THAT ARE ACCOUNTS, opened to cells.
-/
import Derived.Test.YtockodmbhnlheaaRow
import Derived.Test.YtockodmbhnlheaaShape
import Derived.Deep.Slices
namespace Go.Proofs.Ytockodmbhnlheaa
open Go.ChangeShapes Go.WideShapes Go.ChangeAt Go.RowKit

theorem exists_list {α : Type} (Q : Nat → α → Prop) : ∀ n, (∀ i, i < n → ∃ a, Q i a) → ∃ L : List α, L.length = n ∧ ∀ i a, L[i]? = some a → Q i a
  | 0, _ => ⟨[], rfl, by simp⟩
  | n + 1, h => by
    obtain ⟨L, hl, hL⟩ := exists_list Q n fun i hi => h i (by omega)
    obtain ⟨a, ha⟩ := h n (by omega)
    refine ⟨L ++ [a], by simp [hl], fun i b hb => ?_⟩
    by_cases hi : i < n
    · rw [List.getElem?_append_left (by omega)] at hb; exact hL i b hb
    · have hlt := (List.getElem?_eq_some_iff.1 hb).1
      simp [hl] at hlt
      obtain rfl : i = n := by omega
      rw [List.getElem?_append_right (by omega)] at hb
      simp [hl] at hb
      subst hb; exact ha
theorem weights_all {H : Type} {P : Program} {e : TypeId} {y : Nat} : ∀ {ds : List (DataW H)} {d : DataW H}, d ∈ ds → y ∈ d.weights P e → y ∈ DataW.weightsAll P e ds
  | [], _, h, _ => by cases h
  | d' :: ds, d, h, hy => by
    rw [DataW.weightsAll, List.mem_append]
    rcases List.mem_cons.1 h with rfl | h
    · exact .inl hy
    · exact .inr (weights_all h hy)

section
variable {H : Type} {enc : TypeId × Value → H} {W : World}

theorem core_int {fuel : Nat} {cs : List Value} {x : DataW H × List MemPlace} (h : DataW.trod enc Try.prog W 0 (fun _ => true) true fuel 3 cs = some x) : ∃ z, cs = [.int .i64 z] ∧ inI64 z := by
  obtain ⟨z, h1, _, h3⟩ := DataW.trod_int Try.underlying3 h
  exact ⟨z, h1, inI64_of h3⟩

set_option maxRecDepth 100000 in
theorem core_ints {fuel : Nat} {cs : List Value} {x : DataW H × List MemPlace} (h : DataW.trod enc Try.prog W 0 (fun _ => true) true fuel 24 cs = some x)
    (hs : ∀ y ∈ x.1.weights Try.prog 24, y ≤ reachBytes) :
    ∃ A n c l, cs = [.slice A n c] ∧ Rd W W.heap.size 1 A n c (ints l) ∧ c * 8 ≤ reachBytes ∧ ∀ z ∈ l, inI64 z := by
  rcases open_ints Try.underlying24 Try.underlying3 (by kernel_rfl) h with ⟨hcs, hx⟩ | ⟨ad, n, c, zs, hcs, _, hl, hm, hz, hx, hcell, hwz⟩
  · exact ⟨none, 0, 0, [], hcs, Rd.none_ _ _ _, by simp, by simp⟩
  · simp only [if_true] at hz
    refine ⟨some ad, n, c, zs.take n, hcs, ⟨by simp [ints]; omega, hl, hm, nofun, fun hn => ?_⟩, ?_, fun z hz' => inI64_of (hwz z (List.mem_of_mem_take hz'))⟩
    · have h0 := hcell 0 (by omega)
      rw [show ad.add 0 = ad by simp [Addr.add]] at h0
      have hsp : ad.spot = none := spot_of_cell h0
      refine ⟨ad.block, ad.off, ?_, lt_of_cell h0, fun j u hj => ?_⟩
      · obtain ⟨b, o, sp⟩ := ad; simp only at hsp; subst hsp; rfl
      · have hj' : j < n := by have := (List.getElem?_eq_some_iff.1 hj).1; simp [ints] at this; omega
        rw [add_of_cell hsp (hcell j (by omega))]
        simp [ints, hj'] at hj
        obtain ⟨z, hz', rfl⟩ := hj
        rw [List.getD, hz']; rfl
    · subst hx
      have hb := hs (((lits .i64 (zs.take n) : List (DataW H)).length + (lits .i64 (zs.drop n) : List (DataW H)).length) * 8) (by
        simp only [DataW.weights, Try.underlying24]
        rw [show Try.prog.bytesOf 3 = 8 by kernel_rfl]
        simp)
      simp [lits] at hb
      omega

/-- an account that came in. -/
structure FitAc (a : Ac) : Prop where
  id : inI64 a.id
  bal : inI64 a.bal
  pos : ∀ z ∈ a.pos, inI64 z

set_option maxRecDepth 100000 in
theorem core_acc {fuel : Nat} {cs : List Value} {x : DataW H × List MemPlace} (h : DataW.trod enc Try.prog W 0 (fun _ => true) true fuel 37 cs = some x)
    (hs : ∀ y ∈ x.1.weights Try.prog 37, y ≤ reachBytes) :
    ∃ (a : Ac) (A : Option Addr) (c : Nat), cs = [.int .i64 a.id, .int .i64 a.bal, .slice A a.pos.length c] ∧ Rd W W.heap.size 1 A a.pos.length c (ints a.pos) ∧ c * 8 ≤ reachBytes ∧ FitAc a := by
  obtain ⟨xs, m, _, hx, hlen, hxl, hf⟩ := DataW.trod_struct Try.underlying37 h
  rw [show Try.prog.cellsOf 37 = 3 by kernel_rfl] at hlen
  have h0 : DataW.trod enc Try.prog W 0 (fun _ => true) true m 3 ((cs.drop 0).take (Try.prog.cellsOf 3)) = xs[0]? := hf 0 _ rfl
  have h1 : DataW.trod enc Try.prog W 0 (fun _ => true) true m 3 ((cs.drop 1).take (Try.prog.cellsOf 3)) = xs[1]? := hf 1 _ rfl
  have h2 : DataW.trod enc Try.prog W 0 (fun _ => true) true m 24 ((cs.drop 2).take (Try.prog.cellsOf 24)) = xs[2]? := hf 2 _ rfl
  rw [show Try.prog.cellsOf 3 = 1 by kernel_rfl] at h0 h1
  rw [show Try.prog.cellsOf 24 = 1 by kernel_rfl] at h2
  match cs, hlen, xs, hxl with
  | [c0, c1, c2], _, [y0, y1, y2], _ =>
    obtain ⟨z0, e0, i0⟩ := core_int (x := y0) (by simpa using h0)
    obtain ⟨z1, e1, i1⟩ := core_int (x := y1) (by simpa using h1)
    have hs2 : ∀ y ∈ y2.1.weights Try.prog 24, y ≤ reachBytes := by
      intro y hy
      refine hs y ?_
      subst hx
      simp only [DataW.weights, Try.underlying37]
      simp [DataW.weightsEach, hy]
    obtain ⟨A, n, c, l, e2, r2, s2, i2⟩ := core_ints (x := y2) (by simpa using h2) hs2
    obtain rfl : l.length = n := r2.ofInts
    injection e0 with e0 _
    injection e1 with e1 _
    injection e2 with e2 _
    subst e0 e1 e2
    exact ⟨⟨z0, z1, l⟩, A, c, rfl, r2, s2, ⟨i0, i1, i2⟩⟩

theorem core_accs {fuel : Nat} {cs : List Value} {x : DataW H × List MemPlace} (h : DataW.trod enc Try.prog W 0 (fun _ => true) true fuel 39 cs = some x)
    (hs : ∀ y ∈ x.1.weights Try.prog 39, y ≤ reachBytes) :
    ∃ A n c L, cs = [.slice A n c] ∧ RdL shAcc W W.heap.size A n c L ∧ c * 40 ≤ reachBytes ∧ ∀ a ∈ L, FitAc a := by
  rcases Go.Deep.open_slice Try.underlying39 h with ⟨hcs, hx⟩ | ⟨ad, n, c, m, f, D, Pl, hcs, _, hl, hm, hmm, hx, hi⟩
  · exact ⟨none, 0, 0, [], hcs, RdL.none_ _ _ _, by simp, by simp⟩
  · simp only [if_true] at hmm
    subst hmm
    rw [show Try.prog.cellsOf 37 = 3 by kernel_rfl] at hi
    have hw : ∀ i, i < n → ∀ y ∈ (D i).weights Try.prog 37, y ≤ reachBytes := by
      intro i hin y hy
      refine hs y ?_
      subst hx
      simp only [DataW.weights, Try.underlying39]
      refine List.mem_cons_of_mem _ (List.mem_append_left _ (weights_all (d := D i) ?_ hy))
      exact List.mem_map.2 ⟨i, List.mem_range.2 hin, rfl⟩
    have hel : ∀ i, i < n → ∃ a : Ac, FitAc a ∧ ∃ A2 c2, W.cell? (ad.add (i * 3)) = some (.int .i64 a.id) ∧ W.cell? ((ad.add (i * 3)).add 1) = some (.int .i64 a.bal) ∧ W.cell? ((ad.add (i * 3)).add 2) = some (.slice A2 a.pos.length c2) ∧
        Rd W W.heap.size 1 A2 a.pos.length c2 (ints a.pos) ∧ a.pos.length * 8 ≤ 140737488355328 := by
      intro i hin
      obtain ⟨cs', hc, ht⟩ := hi i (by omega)
      obtain ⟨_, hcl, hat⟩ := World.cells?_some hc
      obtain ⟨a, A2, c2, he, hr, hc2, hfit⟩ := core_acc ht (hw i hin)
      subst he
      have e0 := hat 0 (by omega)
      rw [show (ad.add (i * 3)).add 0 = ad.add (i * 3) by simp [Addr.add]] at e0
      have hle := hr.le
      exact ⟨a, hfit, A2, c2, e0, hat 1 (by omega), hat 2 (by omega), hr, by have : reachBytes = 140737488351232 := rfl; omega⟩
    obtain ⟨L, hL, hall⟩ := exists_list _ n hel
    refine ⟨some ad, n, m, L, hcs, ⟨hL, hl, hm, nofun, fun hn => ?_⟩, ?_, fun a ha => ?_⟩
    · obtain ⟨a, _, _, _, k0, _⟩ := hel 0 hn
      rw [show ad.add (0 * 3) = ad by simp [Addr.add]] at k0
      have hsp := spot_of_cell k0
      refine ⟨ad.block, ad.off, ?_, lt_of_cell k0, fun i a ha => ?_⟩
      · obtain ⟨b, o, sp⟩ := ad; simp only at hsp; subst hsp; rfl
      · obtain ⟨_, A2, c2, k0, k1, k2, k3, k4⟩ := hall i a ha
        have hb : ∀ q, (ad.add q).block = ad.block ∧ (ad.add q).off = ad.off + q ∧ (ad.add q).spot = none := by
          intro q; unfold Addr.add; split
          · rename_i h0; subst h0; exact ⟨rfl, rfl, hsp⟩
          · exact ⟨rfl, rfl, rfl⟩
        obtain ⟨b1, b2, b3⟩ := hb (i * 3)
        have e0 := add_of_cell hsp k0
        have e1 := add_of_cell b3 k1
        have e2 := add_of_cell b3 k2
        rw [b1, b2] at e1 e2
        exact ⟨A2, c2, e0, e1, e2, k3, k4⟩
    · subst hx
      have hb := hs ((((List.range n).map D).length + ((List.range (m - n)).map fun j => D (n + j)).length) * 40) (by
        simp only [DataW.weights, Try.underlying39]
        rw [show Try.prog.bytesOf 37 = 40 by kernel_rfl]
        simp)
      simp at hb
      rw [show n + (m - n) = m by omega] at hb
      exact hb
    · obtain ⟨i, hi⟩ := List.mem_iff_getElem?.1 ha
      exact (hall i a hi).1

set_option maxRecDepth 100000 in
theorem opens_account {base : Nat} {v : Value} {d : DataW H} {p : List MemPlace} (hv : Value.okWide Try.prog W .any base 37 v) (h : DataW.Trod enc Try.prog W 0 (fun _ => true) true 37 v d p)
    (hs : ∀ x ∈ d.weights Try.prog 37, x ≤ reachBytes) :
    ∃ (a : Ac) (A : Option Addr) (c : Nat), v = .agg #[.int .i64 a.id, .int .i64 a.bal, .slice A a.pos.length c] ∧ Rd W W.heap.size 1 A a.pos.length c (ints a.pos) ∧ c * 8 ≤ reachBytes ∧ FitAc a := by
  obtain ⟨cs, rfl, _⟩ := okWide_struct Try.underlying37 hv
  obtain ⟨fuel, hf⟩ := h
  obtain ⟨a, A, c, hcs, hr, hc, hi⟩ := core_acc hf hs
  refine ⟨a, A, c, ?_, hr, hc, hi⟩
  obtain ⟨l⟩ := cs
  simp only [Value.cells] at hcs
  rw [← hcs]

set_option maxRecDepth 100000 in
theorem opens_accounts {base : Nat} {v : Value} {d : DataW H} {p : List MemPlace} (hv : Value.okWide Try.prog W .any base 39 v) (h : DataW.Trod enc Try.prog W 0 (fun _ => true) true 39 v d p)
    (hs : ∀ x ∈ d.weights Try.prog 39, x ≤ reachBytes) :
    ∃ A n c L, v = .slice A n c ∧ RdL shAcc W W.heap.size A n c L ∧ c * 40 ≤ reachBytes ∧ ∀ a ∈ L, FitAc a := by
  obtain ⟨A, n, c, rfl⟩ := okWide_slice Try.underlying39 hv
  obtain ⟨fuel, hf⟩ := h
  obtain ⟨A', n', c', L, hcs, hr⟩ := core_accs hf hs
  simp [Value.cells] at hcs
  obtain ⟨rfl, rfl, rfl⟩ := hcs
  exact ⟨_, _, _, L, rfl, hr⟩

end
end Go.Proofs.Ytockodmbhnlheaa
