/-
  THE WALK of the closure of MatchParts: how much of a maker.
-/
import Derived.Test.YtockodmbhnlheaaCatF
namespace Go.Proofs.Ytockodmbhnlheaa
open Go.RowKit

theorem ofL_snoc {L : List Fl} {j : Nat} {f : Fl} {id : Int} (h : L[j]? = some f) : ofL (L.take (j + 1)) id = ofL (L.take j) id + (if f.maker = id then f.qty else 0) := by
  rw [List.take_add_one, h, Option.toList_some, ofL_append]; simp [ofL]
theorem ofL_bd {id : Int} : ∀ {L : List Fl}, (∀ f ∈ L, 0 ≤ f.qty ∧ f.qty ≤ 1000) → 0 ≤ ofL L id ∧ ofL L id ≤ 1000 * L.length
  | [], _ => by simp [ofL]
  | f :: l, h => by
    have h1 := h f (by simp)
    have h2 := ofL_bd (id := id) (L := l) fun g hg => h g (by simp [hg])
    simp only [ofL, List.length_cons]
    split <;> omega
set_option maxHeartbeats 1000000 in
theorem of_any (A : Option Addr) (n c : Nat) (L : List Fl) (id : Int) (B : Nat) (w : World) (h : Rd w B 7 A n c (flCells L)) (hB : B ≤ w.heap.size) (hn : n ≤ 1000) (hq : ∀ f ∈ L, 0 ≤ f.qty ∧ f.qty ≤ 1000) :
    Calls Try.prog 72 #[.slice A n c, .int .i64 id] w fun e w' => e = .returned (.int .i64 (ofL L id)) ∧ Below w.heap.size w w' := by
  have hle := h.le
  have hcap := h.cap
  have HL := Lib.hid (rdf_len h)
  have HQ := Lib.hid hq
  have HBD : Hid (∀ j, 0 ≤ ofL (L.take j) id ∧ ofL (L.take j) id ≤ 1000000) := fun j => by
    have h1 := ofL_bd (id := id) (L := L.take j) fun f hf => HQ.out f (List.mem_of_mem_take hf)
    have h2 : (L.take j).length ≤ n := by rw [List.length_take, HL.out]; omega
    omega
  clear hq
  unfold maxLen at hcap
  go_enter Try.func72, Try.ntmps72
  go_wp2_with fail
  go_loopw [5, 10] (fun s i wr => ∃ (j : Nat) (z : Int), j ≤ n ∧ i = .int .i64 j ∧ s = .int .i64 z ∧ 0 ≤ z ∧ z ≤ 1000000 ∧ Hid (z = ofL (L.take j) id) ∧ Below w.heap.size w wr) (fun _ i _ => n - (intOf i).toNat)
  case atStart => exact ⟨0, 0, Nat.zero_le _, rfl, rfl, by omega, by omega, Lib.hid rfl, Below.refl _ _⟩
  case round =>
    obtain ⟨j, z, hj, rfl, rfl, hz0, hz1, HZ, hbr⟩ := hrel
    have hws := hbr.size
    by_cases hlt : j < n
    · obtain ⟨bb, oo, f, rfl, hb, hf, k0, k1, k2, k3, k4, k5, k6⟩ := fl_at (h.below (hbr.mono hB)) hlt
      have x1 : bb < wr.heap.size := by omega
      have hfq := HQ.out f (List.mem_of_getElem? hf)
      obtain ⟨hb0, hb1⟩ := HBD.out (j + 1)
      by_cases hm : f.maker = id
      · have HN := Lib.hid (show z + f.qty = ofL (L.take (j + 1)) id by rw [HZ.out, ofL_snoc hf, if_pos hm])
        have hb2 : z + f.qty ≤ 1000000 := by rw [HN.out]; exact hb1
        have hm' : (f.maker == id) = true := by simpa using hm
        clear hf hm hb0 hb1
        go_wp2_with fail
        go_roundw
        case rel => exact ⟨j + 1, _, by omega, by go_num, rfl, by omega, by omega, HN, hbr.alloc (by omega) _⟩
        case measure => simp [intOf]; omega
      · have HN := Lib.hid (show z = ofL (L.take (j + 1)) id by rw [HZ.out, ofL_snoc hf, if_neg hm]; omega)
        have hm' : (f.maker == id) = false := by simpa using hm
        clear hf hm hb0 hb1
        go_wp2_with fail
        go_roundw
        case rel => exact ⟨j + 1, _, by omega, by go_num, rfl, by omega, by omega, HN, hbr.alloc (by omega) _⟩
        case measure => simp [intOf]; omega
    · have hjn : j = n := by omega
      have HE := Lib.hid (show z = ofL L id by rw [HZ.out, hjn, List.take_of_length_le (by rw [HL.out]; exact Nat.le_refl _)])
      clear hjn
      go_wp2_with fail
      go_ret
      exact ⟨ret_ii HE.out, hbr⟩
end Go.Proofs.Ytockodmbhnlheaa
