/-
  slices.Reverse at []int, on a row of the call's own: the contract of the kit's shelf, in the words of this family.
-/
import Derived.Test.YtockodmbhnlheaaShelfRev
import Derived.Test.YtockodmbhnlheaaApp
import Derived.Laws.IdiomCopy
namespace Go.Proofs.Ytockodmbhnlheaa
open Go.RowKit

theorem below_setCells {base b : Nat} (hb : base ≤ b) : ∀ (vs : List Value) (o : Nat) (a w : World), Below base a w → Below base a (w.setCells b o vs)
  | [], _, _, _, h => h
  | v :: vs, o, a, w, h => by
    unfold World.setCells
    exact below_setCells hb vs (o + 1) a _ (h.setCell (p := ⟨b, o, none⟩) hb v)

theorem size_setCells (b : Nat) : ∀ (vs : List Value) (o : Nat) (w : World), (w.setCells b o vs).heap.size = w.heap.size
  | [], _, _ => rfl
  | v :: vs, o, w => by
    unfold World.setCells
    rw [size_setCells b vs (o + 1) _]
    simp [World.setCell]

theorem reverse_own (base : Nat) (A : Option Addr) (n c : Nat) (xs : List Int) (w : World) (hown : w.ownsRow base 3 1 (.slice A n c) n (ints xs)) :
    Calls Try.prog 37 #[.slice A n c] w fun e w' => e = .returned (.tuple #[]) ∧ Below base w w' ∧ Rd w' w'.heap.size 1 A n c (ints xs.reverse) := by
  have hrd := Rd.of_own hown
  have hl := hrd.ofInts
  rcases Nat.eq_zero_or_pos n with h0 | h0
  · subst h0
    refine (Try.slices_Reverse_int_empty A c w).mono ?_
    rintro e w' ⟨rfl, rfl⟩
    obtain rfl : xs = [] := List.eq_nil_of_length_eq_zero hl
    exact ⟨rfl, Below.refl _ _, hrd⟩
  · obtain ⟨hlen, ⟨hv, hn⟩ | ⟨g, cap, cur, hv, hbase, hh, hnc, hcm, hcs, htake⟩⟩ := hown
    · omega
    · injection hv with hA _ hc
      subst hA hc
      have hcell : ∀ j, j < xs.length → w.cell? ⟨g, 0 + j, none⟩ = some (.int .i64 (xs.getD j 0)) := by
        intro j hj
        obtain ⟨b, o, hA, _, h1⟩ := hrd.one (j := j) (ints_get (List.getElem?_eq_getElem hj))
        injection hA with hA
        injection hA with hb ho
        subst hb ho
        rw [h1, List.getD, List.getElem?_eq_getElem hj]; rfl
      have hfr : ∀ j, j < n → w.frozen? ⟨g, 0 + j, none⟩ = false := by
        intro j _
        simp [World.frozen?, hh]
      have hcm' : n ≤ 9223372036854775807 := by simp only [maxLen] at hcm; omega
      refine (Try.slices_Reverse_int_cells g 0 n c xs w (by omega) hcm' hcell hfr).mono ?_
      rintro e w' ⟨rfl, q, rfl⟩
      rw [List.take_of_length_le (by omega)]
      refine ⟨rfl, below_setCells hbase _ _ _ _ (below_drewN (Below.refl _ _) _), ⟨by simp [ints, hl], hnc, hcm, nofun, fun _ => ⟨g, 0, rfl, ?_, fun j u hj => ?_⟩⟩⟩
      · rw [size_setCells]
        obtain ⟨b, o, hA, hb, _⟩ := hrd.at_ h0
        injection hA with hA
        injection hA with hb' _
        subst hb'
        exact hb
      · have hj' : j < (xs.reverse.map (Value.int .i64)).length := by have := (List.getElem?_eq_some_iff.1 hj).1; simpa [ints] using this
        have hin := World.cell?_setCells_in g (xs.reverse.map (Value.int .i64)) 0 (w.drewN q) (fun i hi => by
          have hi' : i < xs.length := by simpa using hi
          have := hcell i hi'
          show (w.cell? ⟨g, 0 + i, none⟩).isSome = true
          rw [this]; rfl) j hj'
        rw [hin, ← hj]
        simp only [ints]
        rw [List.getElem?_eq_getElem hj']

end Go.Proofs.Ytockodmbhnlheaa
