/-
  ARGUMENTS THAT ARE ORDERS, BOOKS, MARKETS, opened to cells.
-/
import Derived.Test.YtockodmbhnlheaaRowA
import Derived.Test.YtockodmbhnlheaaOrd
import Derived.Test.YtockodmbhnlheaaRiskPure
namespace Go.Proofs.Ytockodmbhnlheaa
open Go.ChangeShapes Go.WideShapes Go.ChangeAt Go.RowKit

structure FitOd (o : Od) : Prop where
  id : inI64 o.id
  acc : inI64 o.acc
  side : inI64 o.side
  price : inI64 o.price
  qty : inI64 o.qty

section
variable {H : Type} {enc : TypeId × Value → H} {W : World}

set_option maxRecDepth 100000 in
theorem core_order {fuel : Nat} {cs : List Value} {x : DataW H × List MemPlace} (h : DataW.trod enc Try.prog W 0 (fun _ => true) true fuel 71 cs = some x) :
    ∃ o : Od, cs = [.int .i64 o.id, .int .i64 o.acc, .int .i64 o.side, .int .i64 o.price, .int .i64 o.qty] ∧ FitOd o := by
  obtain ⟨xs, m, _, hx, hlen, hxl, hf⟩ := DataW.trod_struct Try.underlying71 h
  rw [show Try.prog.cellsOf 71 = 5 by kernel_rfl] at hlen
  have h0 : DataW.trod enc Try.prog W 0 (fun _ => true) true m 3 ((cs.drop 0).take (Try.prog.cellsOf 3)) = xs[0]? := hf 0 _ rfl
  have h1 : DataW.trod enc Try.prog W 0 (fun _ => true) true m 3 ((cs.drop 1).take (Try.prog.cellsOf 3)) = xs[1]? := hf 1 _ rfl
  have h2 : DataW.trod enc Try.prog W 0 (fun _ => true) true m 3 ((cs.drop 2).take (Try.prog.cellsOf 3)) = xs[2]? := hf 2 _ rfl
  have h3 : DataW.trod enc Try.prog W 0 (fun _ => true) true m 3 ((cs.drop 3).take (Try.prog.cellsOf 3)) = xs[3]? := hf 3 _ rfl
  have h4 : DataW.trod enc Try.prog W 0 (fun _ => true) true m 3 ((cs.drop 4).take (Try.prog.cellsOf 3)) = xs[4]? := hf 4 _ rfl
  rw [show Try.prog.cellsOf 3 = 1 by kernel_rfl] at h0 h1 h2 h3 h4
  match cs, hlen, xs, hxl with
  | [c0, c1, c2, c3, c4], _, [y0, y1, y2, y3, y4], _ =>
    obtain ⟨z0, e0, i0⟩ := core_int (x := y0) (by simpa using h0)
    obtain ⟨z1, e1, i1⟩ := core_int (x := y1) (by simpa using h1)
    obtain ⟨z2, e2, i2⟩ := core_int (x := y2) (by simpa using h2)
    obtain ⟨z3, e3, i3⟩ := core_int (x := y3) (by simpa using h3)
    obtain ⟨z4, e4, i4⟩ := core_int (x := y4) (by simpa using h4)
    injection e0 with e0 _
    injection e1 with e1 _
    injection e2 with e2 _
    injection e3 with e3 _
    injection e4 with e4 _
    subst e0 e1 e2 e3 e4
    exact ⟨⟨z0, z1, z2, z3, z4⟩, rfl, ⟨i0, i1, i2, i3, i4⟩⟩

theorem odCells_of {L : List Od} {f : Nat → Option Value} (hf : ∀ i a, L[i]? = some a → f (i * 5) = some (.int .i64 a.id) ∧ f (i * 5 + 1) = some (.int .i64 a.acc) ∧ f (i * 5 + 2) = some (.int .i64 a.side) ∧ f (i * 5 + 3) = some (.int .i64 a.price) ∧ f (i * 5 + 4) = some (.int .i64 a.qty)) :
    ∀ j u, (odCells L)[j]? = some u → f j = some u := by
  intro j u hj
  have hlt : j < L.length * 5 := by rw [← odCells_len]; exact (List.getElem?_eq_some_iff.1 hj).1
  have hi : j / 5 < L.length := by omega
  have ha : L[j / 5]? = some L[j / 5] := List.getElem?_eq_getElem hi
  obtain ⟨k0, k1, k2, k3, k4⟩ := odCells_at ha
  obtain ⟨m0, m1, m2, m3, m4⟩ := hf _ _ ha
  have hm : j = j / 5 * 5 ∨ j = j / 5 * 5 + 1 ∨ j = j / 5 * 5 + 2 ∨ j = j / 5 * 5 + 3 ∨ j = j / 5 * 5 + 4 := by omega
  generalize j / 5 = i at *
  rcases hm with e | e | e | e | e <;> subst e
  · rw [m0, ← k0, hj]
  · rw [m1, ← k1, hj]
  · rw [m2, ← k2, hj]
  · rw [m3, ← k3, hj]
  · rw [m4, ← k4, hj]

theorem core_orders {fuel : Nat} {cs : List Value} {x : DataW H × List MemPlace} (h : DataW.trod enc Try.prog W 0 (fun _ => true) true fuel 60 cs = some x)
    (hs : ∀ y ∈ x.1.weights Try.prog 60, y ≤ reachBytes) :
    ∃ A n c L, cs = [.slice A n c] ∧ Rd W W.heap.size 5 A n c (odCells L) ∧ c * 40 ≤ reachBytes ∧ ∀ a ∈ L, FitOd a := by
  rcases Go.Deep.open_slice Try.underlying60 h with ⟨hcs, hx⟩ | ⟨ad, n, c, m, f, D, Pl, hcs, _, hl, hm, hmm, hx, hi⟩
  · exact ⟨none, 0, 0, [], hcs, Rd.none_ _ _ _, by simp, by simp⟩
  · simp only [if_true] at hmm
    subst hmm
    rw [show Try.prog.cellsOf 71 = 5 by kernel_rfl] at hi
    have hel : ∀ i, i < n → ∃ a : Od, FitOd a ∧ W.cell? (ad.add (i * 5)) = some (.int .i64 a.id) ∧ W.cell? ((ad.add (i * 5)).add 1) = some (.int .i64 a.acc) ∧ W.cell? ((ad.add (i * 5)).add 2) = some (.int .i64 a.side) ∧
        W.cell? ((ad.add (i * 5)).add 3) = some (.int .i64 a.price) ∧ W.cell? ((ad.add (i * 5)).add 4) = some (.int .i64 a.qty) := by
      intro i hin
      obtain ⟨cs', hc, ht⟩ := hi i (by omega)
      obtain ⟨_, hcl, hat⟩ := World.cells?_some hc
      obtain ⟨a, he, hfit⟩ := core_order ht
      subst he
      have e0 := hat 0 (by omega)
      rw [show (ad.add (i * 5)).add 0 = ad.add (i * 5) by simp [Addr.add]] at e0
      exact ⟨a, hfit, e0, hat 1 (by omega), hat 2 (by omega), hat 3 (by omega), hat 4 (by omega)⟩
    obtain ⟨L, hL, hall⟩ := exists_list _ n hel
    refine ⟨some ad, n, m, L, hcs, ⟨by rw [odCells_len, hL], hl, hm, nofun, fun hn => ?_⟩, ?_, fun a ha => ?_⟩
    · obtain ⟨a, _, k0, _⟩ := hel 0 hn
      rw [show ad.add (0 * 5) = ad by simp [Addr.add]] at k0
      have hsp := spot_of_cell k0
      refine ⟨ad.block, ad.off, ?_, lt_of_cell k0, ?_⟩
      · obtain ⟨b, o, sp⟩ := ad; simp only at hsp; subst hsp; rfl
      · refine odCells_of (f := fun j => W.cell? ⟨ad.block, ad.off + j, none⟩) fun i a ha => ?_
        obtain ⟨_, k0, k1, k2, k3, k4⟩ := hall i a ha
        have hb : ∀ q, (ad.add q).block = ad.block ∧ (ad.add q).off = ad.off + q ∧ (ad.add q).spot = none := by
          intro q; unfold Addr.add; split
          · rename_i h0; subst h0; exact ⟨rfl, rfl, hsp⟩
          · exact ⟨rfl, rfl, rfl⟩
        obtain ⟨b1, b2, b3⟩ := hb (i * 5)
        have e0 := add_of_cell hsp k0
        have e1 := add_of_cell b3 k1
        have e2 := add_of_cell b3 k2
        have e3 := add_of_cell b3 k3
        have e4 := add_of_cell b3 k4
        rw [b1, b2] at e1 e2 e3 e4
        exact ⟨e0, e1, e2, e3, e4⟩
    · subst hx
      have hb := hs ((((List.range n).map D).length + ((List.range (m - n)).map fun j => D (n + j)).length) * 40) (by
        simp only [DataW.weights, Try.underlying60]
        rw [show Try.prog.bytesOf 71 = 40 by kernel_rfl]
        simp)
      simp at hb
      rw [show n + (m - n) = m by omega] at hb
      exact hb
    · obtain ⟨i, hi⟩ := List.mem_iff_getElem?.1 ha
      exact (hall i a hi).1

structure FitBk (b : Bk) : Prop where
  bids : ∀ o ∈ b.bids, FitOd o
  asks : ∀ o ∈ b.asks, FitOd o

set_option maxRecDepth 100000 in
theorem core_book {fuel : Nat} {cs : List Value} {x : DataW H × List MemPlace} (h : DataW.trod enc Try.prog W 0 (fun _ => true) true fuel 62 cs = some x)
    (hs : ∀ y ∈ x.1.weights Try.prog 62, y ≤ reachBytes) :
    ∃ (b : Bk) (A A' : Option Addr) (c c' : Nat), cs = [.slice A b.bids.length c, .slice A' b.asks.length c'] ∧ Rd W W.heap.size 5 A b.bids.length c (odCells b.bids) ∧ Rd W W.heap.size 5 A' b.asks.length c' (odCells b.asks) ∧
      (c * 40 ≤ reachBytes ∧ c' * 40 ≤ reachBytes) ∧ FitBk b := by
  obtain ⟨xs, m, _, hx, hlen, hxl, hf⟩ := DataW.trod_struct Try.underlying62 h
  rw [show Try.prog.cellsOf 62 = 2 by kernel_rfl] at hlen
  have h0 : DataW.trod enc Try.prog W 0 (fun _ => true) true m 60 ((cs.drop 0).take (Try.prog.cellsOf 60)) = xs[0]? := hf 0 _ rfl
  have h1 : DataW.trod enc Try.prog W 0 (fun _ => true) true m 60 ((cs.drop 1).take (Try.prog.cellsOf 60)) = xs[1]? := hf 1 _ rfl
  rw [show Try.prog.cellsOf 60 = 1 by kernel_rfl] at h0 h1
  match cs, hlen, xs, hxl with
  | [c0, c1], _, [y0, y1], _ =>
    have hs0 : ∀ y ∈ y0.1.weights Try.prog 60, y ≤ reachBytes := by
      intro y hy
      refine hs y ?_
      subst hx
      simp only [DataW.weights, Try.underlying62]
      simp [DataW.weightsEach, hy]
    have hs1 : ∀ y ∈ y1.1.weights Try.prog 60, y ≤ reachBytes := by
      intro y hy
      refine hs y ?_
      subst hx
      simp only [DataW.weights, Try.underlying62]
      simp [DataW.weightsEach, hy]
    obtain ⟨A, n, c, L, e0, r0, s0, i0⟩ := core_orders (x := y0) (by simpa using h0) hs0
    obtain ⟨A', n', c', L', e1, r1, s1, i1⟩ := core_orders (x := y1) (by simpa using h1) hs1
    obtain rfl : L.length = n := rdo_len r0
    obtain rfl : L'.length = n' := rdo_len r1
    injection e0 with e0 _
    injection e1 with e1 _
    subst e0 e1
    exact ⟨⟨L, L'⟩, A, A', c, c', rfl, r0, r1, ⟨s0, s1⟩, ⟨i0, i1⟩⟩

set_option maxRecDepth 100000 in
theorem core_market {fuel : Nat} {cs : List Value} {x : DataW H × List MemPlace} (h : DataW.trod enc Try.prog W 0 (fun _ => true) true fuel 64 cs = some x)
    (hs : ∀ y ∈ x.1.weights Try.prog 64, y ≤ reachBytes) :
    ∃ (m : Mk) (A A' : Option Addr) (c c' : Nat), cs = [.slice A m.book.bids.length c, .slice A' m.book.asks.length c', .int .i64 m.index, .int .i64 m.last] ∧ Rd W W.heap.size 5 A m.book.bids.length c (odCells m.book.bids) ∧ Rd W W.heap.size 5 A' m.book.asks.length c' (odCells m.book.asks) ∧
      (c * 40 ≤ reachBytes ∧ c' * 40 ≤ reachBytes) ∧ FitBk m.book ∧ inI64 m.index ∧ inI64 m.last := by
  obtain ⟨xs, m, _, hx, hlen, hxl, hf⟩ := DataW.trod_struct Try.underlying64 h
  rw [show Try.prog.cellsOf 64 = 4 by kernel_rfl] at hlen
  have h0 : DataW.trod enc Try.prog W 0 (fun _ => true) true m 62 ((cs.drop 0).take (Try.prog.cellsOf 62)) = xs[0]? := hf 0 _ rfl
  have h1 : DataW.trod enc Try.prog W 0 (fun _ => true) true m 3 ((cs.drop 2).take (Try.prog.cellsOf 3)) = xs[1]? := hf 1 _ rfl
  have h2 : DataW.trod enc Try.prog W 0 (fun _ => true) true m 3 ((cs.drop 3).take (Try.prog.cellsOf 3)) = xs[2]? := hf 2 _ rfl
  rw [show Try.prog.cellsOf 3 = 1 by kernel_rfl] at h1 h2
  rw [show Try.prog.cellsOf 62 = 2 by kernel_rfl] at h0
  match cs, hlen, xs, hxl with
  | [c0, c1, c2, c3], _, [y0, y1, y2], _ =>
    have hs0 : ∀ y ∈ y0.1.weights Try.prog 62, y ≤ reachBytes := by
      intro y hy
      refine hs y ?_
      subst hx
      simp only [DataW.weights, Try.underlying64]
      simp [DataW.weightsEach, hy]
    obtain ⟨b, A, A', c, c', e0, r0, r1, s0, i0⟩ := core_book (x := y0) (by simpa using h0) hs0
    obtain ⟨z1, e1, i1⟩ := core_int (x := y1) (by simpa using h1)
    obtain ⟨z2, e2, i2⟩ := core_int (x := y2) (by simpa using h2)
    injection e0 with e0 e0'
    injection e0' with e0' _
    injection e1 with e1 _
    injection e2 with e2 _
    subst e0 e0' e1 e2
    exact ⟨⟨b, z1, z2⟩, A, A', c, c', rfl, r0, r1, s0, i0, i1, i2⟩

set_option maxRecDepth 100000 in
theorem opens_order {base : Nat} {v : Value} {d : DataW H} {p : List MemPlace} (hv : Value.okWide Try.prog W .any base 71 v) (h : DataW.Trod enc Try.prog W 0 (fun _ => true) true 71 v d p) :
    ∃ o : Od, v = .agg #[.int .i64 o.id, .int .i64 o.acc, .int .i64 o.side, .int .i64 o.price, .int .i64 o.qty] ∧ FitOd o := by
  obtain ⟨cs, rfl, _⟩ := okWide_struct Try.underlying71 hv
  obtain ⟨fuel, hf⟩ := h
  obtain ⟨o, hcs, hi⟩ := core_order hf
  refine ⟨o, ?_, hi⟩
  obtain ⟨l⟩ := cs
  simp only [Value.cells] at hcs
  rw [← hcs]
set_option maxRecDepth 100000 in
theorem opens_book {base : Nat} {v : Value} {d : DataW H} {p : List MemPlace} (hv : Value.okWide Try.prog W .any base 62 v) (h : DataW.Trod enc Try.prog W 0 (fun _ => true) true 62 v d p)
    (hs : ∀ x ∈ d.weights Try.prog 62, x ≤ reachBytes) :
    ∃ (b : Bk) (A A' : Option Addr) (c c' : Nat), v = .agg #[.slice A b.bids.length c, .slice A' b.asks.length c'] ∧ Rd W W.heap.size 5 A b.bids.length c (odCells b.bids) ∧ Rd W W.heap.size 5 A' b.asks.length c' (odCells b.asks) ∧
      (c * 40 ≤ reachBytes ∧ c' * 40 ≤ reachBytes) ∧ FitBk b := by
  obtain ⟨cs, rfl, _⟩ := okWide_struct Try.underlying62 hv
  obtain ⟨fuel, hf⟩ := h
  obtain ⟨b, A, A', c, c', hcs, hr⟩ := core_book hf hs
  refine ⟨b, A, A', c, c', ?_, hr⟩
  obtain ⟨l⟩ := cs
  simp only [Value.cells] at hcs
  rw [← hcs]
set_option maxRecDepth 100000 in
theorem opens_market {base : Nat} {v : Value} {d : DataW H} {p : List MemPlace} (hv : Value.okWide Try.prog W .any base 64 v) (h : DataW.Trod enc Try.prog W 0 (fun _ => true) true 64 v d p)
    (hs : ∀ x ∈ d.weights Try.prog 64, x ≤ reachBytes) :
    ∃ (m : Mk) (A A' : Option Addr) (c c' : Nat), v = .agg #[.slice A m.book.bids.length c, .slice A' m.book.asks.length c', .int .i64 m.index, .int .i64 m.last] ∧ Rd W W.heap.size 5 A m.book.bids.length c (odCells m.book.bids) ∧ Rd W W.heap.size 5 A' m.book.asks.length c' (odCells m.book.asks) ∧
      (c * 40 ≤ reachBytes ∧ c' * 40 ≤ reachBytes) ∧ FitBk m.book ∧ inI64 m.index ∧ inI64 m.last := by
  obtain ⟨cs, rfl, _⟩ := okWide_struct Try.underlying64 hv
  obtain ⟨fuel, hf⟩ := h
  obtain ⟨m, A, A', c, c', hcs, hr⟩ := core_market hf hs
  refine ⟨m, A, A', c, c', ?_, hr⟩
  obtain ⟨l⟩ := cs
  simp only [Value.cells] at hcs
  rw [← hcs]
theorem len_of_reach {A : Option Addr} {B n c : Nat} {xs : List Value} (h : Rd W B 5 A n c xs) (hc : c * 40 ≤ reachBytes) : n ≤ 4000000000000 ∧ n * 40 ≤ 140737488355328 := by
  have := h.le
  have : reachBytes = 140737488351232 := rfl
  omega

end
end Go.Proofs.Ytockodmbhnlheaa
