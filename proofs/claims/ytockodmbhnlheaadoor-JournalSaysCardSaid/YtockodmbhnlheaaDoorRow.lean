/-
  FROM A WALK TO A ROW: each argument is opened to cells; behind the call each reads as it did, since nothing that was there has turned.
-/
import Derived.Test.YtockodmbhnlheaaDoorRows
import Derived.Test.YtockodmbhnlheaaDoorMem
import Derived.WalkKit
import Derived.ProofKit
import Derived.OpenShut
import Derived.SizedLaws
namespace Go.Proofs.YtockodmbhnlheaaDoor
open Go.ChangeShapes Go.WideShapes Go.ChangeAt Go.RowKit

theorem row_own : ownKnob Tryd.prog.godebug = none := by kernel_rfl
theorem row_laidOut : laidOutB Tryd.prog = true := by kernel_rfl

section
variable {H : Type} {enc : TypeId × Value → H} {P : Program}

theorem trodAll_below (hl : laidOutB P = true) {W W' : World} (bel : Below W.heap.size W W') : ∀ {ts : List TypeId} {vs : List Value} {ds : List (DataW H)} {p : List MemPlace},
    ts.all (fun t => P.readableRec t && decide (t < P.types.size)) = true → DataW.TrodAll enc P W 0 (fun _ => true) true ts vs ds p →
    DataW.TrodAll enc P W' 0 (fun b => decide (b < W.heap.size)) true ts vs ds p
  | [], [], [], _, _, h => h
  | t :: ts, v :: vs, d :: ds, ps, ht, h => by
    obtain ⟨p, q, h1, h2, rfl⟩ := h
    simp only [List.all_cons, Bool.and_eq_true, decide_eq_true_eq] at ht
    obtain ⟨⟨hr, hs⟩, ht⟩ := ht
    exact ⟨p, q, Below.trod hl hr hs h1 bel (by obtain ⟨m, hm⟩ := h1; exact DataW.trod_lt m _ _ _ hm), trodAll_below hl bel ht h2, rfl⟩
  | [], [], _ :: _, _, _, h | [], _ :: _, _, _, _, h | _ :: _, [], _, _, _, h | _ :: _, _ :: _, [], _, _, h => h.elim

/-- what is said of the weights of all arguments holds of those of the first, and of the others. -/
theorem weights_head {t : TypeId} {ts : List TypeId} {d : DataW H} {ds : List (DataW H)} (h : (DataW.weightsEach P (t :: ts) (d :: ds)).all (· ≤ reachBytes) = true) :
    (∀ x ∈ d.weights P t, x ≤ reachBytes) ∧ (DataW.weightsEach P ts ds).all (· ≤ reachBytes) = true := by
  rw [show DataW.weightsEach P (t :: ts) (d :: ds) = d.weights P t ++ DataW.weightsEach P ts ds by rw [DataW.weightsEach]] at h
  simp only [List.all_append, Bool.and_eq_true, List.all_eq_true, decide_eq_true_eq] at h ⊢
  exact h

def inI64 (z : Int) : Prop := -9223372036854775808 ≤ z ∧ z ≤ 9223372036854775807
theorem inI64_of {z : Int} (h : (Lit.int .i64 z).wf = true) : inI64 z := by
  unfold inI64; exact bounds_i64 h

set_option maxRecDepth 100000 in
theorem opens_int {W : World} {base : Nat} {v : Value} {d : DataW H} {p : List MemPlace} (hv : Value.okWide Tryd.prog W .any base 3 v) (h : DataW.Trod enc Tryd.prog W 0 (fun _ => true) true 3 v d p) :
    ∃ z, v = .int .i64 z ∧ inI64 z := by
  obtain ⟨z, rfl, rfl, rfl, wz⟩ := open_int Tryd.underlying3 hv h
  exact ⟨z, rfl, inI64_of wz⟩

set_option maxRecDepth 100000 in
theorem opens_bool {W : World} {base : Nat} {v : Value} {d : DataW H} {p : List MemPlace} (hv : Value.okWide Tryd.prog W .any base 4 v) (h : DataW.Trod enc Tryd.prog W 0 (fun _ => true) true 4 v d p) : ∃ z, v = .bool z := by
  obtain ⟨z, rfl, _⟩ := open_bool Tryd.underlying4 hv h
  exact ⟨z, rfl⟩
theorem add_of_cell {W : World} {a : Addr} {i : Nat} {u : Value} (hs : a.spot = none) (h : W.cell? (a.add i) = some u) : W.cell? ⟨a.block, a.off + i, none⟩ = some u := by
  obtain ⟨b, o, s⟩ := a
  simp only at hs; subst hs
  unfold Addr.add at h
  by_cases h0 : i = 0
  · subst h0; simpa using h
  · simpa [h0] using h
theorem lt_of_cell {W : World} {a : Addr} {u : Value} (h : W.cell? a = some u) : a.block < W.heap.size := by
  rcases Nat.lt_or_ge a.block W.heap.size with h0 | h0
  · exact h0
  · simp [World.cell?, Array.getElem?_eq_none h0] at h
theorem spot_of_cell {W : World} {a : Addr} {u : Value} (h : W.cell? a = some u) : a.spot = none := World.cell?_spot h

set_option maxRecDepth 100000 in
theorem opens_ints {W : World} {base : Nat} {v : Value} {d : DataW H} {p : List MemPlace} (hv : Value.okWide Tryd.prog W .any base 59 v) (h : DataW.Trod enc Tryd.prog W 0 (fun _ => true) true 59 v d p)
    (hs : ∀ x ∈ d.weights Tryd.prog 59, x ≤ reachBytes) :
    ∃ A n c l, v = .slice A n c ∧ Rd W W.heap.size 1 A n c (ints l) ∧ c * 8 ≤ reachBytes ∧ ∀ z ∈ l, inI64 z := by
  obtain ⟨A, n, c, rfl⟩ := okWide_slice Tryd.underlying59 hv
  obtain ⟨fuel, hf⟩ := h
  have hlt := fun x hx => DataW.trod_lt fuel _ _ _ hf x hx
  rcases open_ints Tryd.underlying59 Tryd.underlying3 (by kernel_rfl) hf with ⟨hcs, hx⟩ | ⟨x, m, c', zs, hcs, _, hl, hm, hz, hx, hcell, hwz⟩
  · simp [Value.cells] at hcs
    obtain ⟨rfl, rfl, rfl⟩ := hcs
    exact ⟨none, 0, 0, [], rfl, Rd.none_ _ _ _, by simp, by simp⟩
  · simp [Value.cells] at hcs
    obtain ⟨rfl, rfl, rfl⟩ := hcs
    simp only [if_true] at hz
    refine ⟨some x, n, c, zs.take n, rfl, ⟨by simp [ints]; omega, hl, hm, nofun, fun hn => ?_⟩, ?_, fun z hz' => inI64_of (hwz z (List.mem_of_mem_take hz'))⟩
    · have h0 := hcell 0 (by omega)
      rw [show x.add 0 = x by simp [Addr.add]] at h0
      have hsp : x.spot = none := by simpa [Addr.add] using spot_of_cell h0
      refine ⟨x.block, x.off, ?_, ?_, fun j u hj => ?_⟩
      · obtain ⟨b, o, sp⟩ := x; simp only at hsp; subst hsp; rfl
      · exact lt_of_cell h0
      · have hj' : j < n := by have := (List.getElem?_eq_some_iff.1 hj).1; simp [ints] at this; omega
        have hc := add_of_cell hsp (hcell j (by omega))
        rw [hc]
        simp [ints, hj'] at hj
        obtain ⟨z, hz', rfl⟩ := hj
        rw [List.getD, hz']; rfl
    · have h1 := (Prod.mk.injEq ..).mp hx
      rw [h1.1] at hs
      have hb := hs (((lits .i64 (zs.take n) : List (DataW H)).length + (lits .i64 (zs.drop n) : List (DataW H)).length) * 8) (by
        simp only [DataW.weights, Tryd.underlying59]
        rw [show Tryd.prog.bytesOf 3 = 8 by kernel_rfl]
        simp)
      simp [lits] at hb
      omega

end
end Go.Proofs.YtockodmbhnlheaaDoor
