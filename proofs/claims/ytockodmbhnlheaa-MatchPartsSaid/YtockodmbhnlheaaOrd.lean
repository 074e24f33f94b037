/-
  ORDERS IN MEMORY: five cells an order.
-/
import Derived.Test.YtockodmbhnlheaaBookPure
import Derived.Test.YtockodmbhnlheaaMore
import Derived.IntWalk
namespace Go.Proofs.Ytockodmbhnlheaa
open Go.RowKit

def odCells : List Od → List Value
  | [] => []
  | o :: l => .int .i64 o.id :: .int .i64 o.acc :: .int .i64 o.side :: .int .i64 o.price :: .int .i64 o.qty :: odCells l
theorem odCells_len : ∀ L, (odCells L).length = L.length * 5
  | [] => rfl
  | o :: l => by simp only [odCells, List.length_cons, odCells_len l]; omega
theorem odCells_app (M : List Od) : ∀ L, odCells (L ++ M) = odCells L ++ odCells M
  | [] => rfl
  | o :: l => by simp only [List.cons_append, odCells, odCells_app M l]
theorem odCells_take : ∀ (L : List Od) (k : Nat), (odCells L).take (k * 5) = odCells (L.take k)
  | [], k => by simp [odCells]
  | o :: l, 0 => by simp [odCells]
  | o :: l, k + 1 => by
    rw [show (k + 1) * 5 = k * 5 + 1 + 1 + 1 + 1 + 1 by omega]
    simp only [odCells, List.take_succ_cons, odCells_take l k]
theorem odCells_drop : ∀ (L : List Od) (k : Nat), (odCells L).drop (k * 5) = odCells (L.drop k)
  | [], k => by simp [odCells]
  | o :: l, 0 => by simp [odCells]
  | o :: l, k + 1 => by
    rw [show (k + 1) * 5 = k * 5 + 1 + 1 + 1 + 1 + 1 by omega]
    simp only [odCells, List.drop_succ_cons, odCells_drop l k]
theorem odCells_at : ∀ {L : List Od} {i : Nat} {a : Od}, L[i]? = some a →
    (odCells L)[i * 5]? = some (.int .i64 a.id) ∧ (odCells L)[i * 5 + 1]? = some (.int .i64 a.acc) ∧ (odCells L)[i * 5 + 2]? = some (.int .i64 a.side) ∧ (odCells L)[i * 5 + 3]? = some (.int .i64 a.price) ∧ (odCells L)[i * 5 + 4]? = some (.int .i64 a.qty)
  | [], _, _, h => by simp at h
  | o :: l, 0, a, h => by
    simp only [List.getElem?_cons_zero, Option.some.injEq] at h
    subst h; exact ⟨rfl, rfl, rfl, rfl, rfl⟩
  | o :: l, i + 1, a, h => by
    simp only [List.getElem?_cons_succ] at h
    obtain ⟨h0, h1, h2, h3, h4⟩ := odCells_at h
    refine ⟨?_, ?_, ?_, ?_, ?_⟩
    · rw [show (i + 1) * 5 = i * 5 + 1 + 1 + 1 + 1 + 1 by omega]; exact h0
    · rw [show (i + 1) * 5 + 1 = i * 5 + 1 + 1 + 1 + 1 + 1 + 1 by omega]; exact h1
    · rw [show (i + 1) * 5 + 2 = i * 5 + 2 + 1 + 1 + 1 + 1 + 1 by omega]; exact h2
    · rw [show (i + 1) * 5 + 3 = i * 5 + 3 + 1 + 1 + 1 + 1 + 1 by omega]; exact h3
    · rw [show (i + 1) * 5 + 4 = i * 5 + 4 + 1 + 1 + 1 + 1 + 1 by omega]; exact h4
theorem odCells_one : ∀ (L : List Od), ∀ u ∈ odCells L, u.oneCell' = true
  | [] => by simp [odCells]
  | o :: l => by
    intro u hu
    simp only [odCells, List.mem_cons] at hu
    rcases hu with rfl | rfl | rfl | rfl | rfl | hu
    · rfl
    · rfl
    · rfl
    · rfl
    · rfl
    · exact odCells_one l u hu

section
variable {w : World} {B n c : Nat} {A : Option Addr} {L : List Od}
theorem rdo_len (h : Rd w B 5 A n c (odCells L)) : L.length = n := by have := h.len; rw [odCells_len] at this; omega
theorem od_at (h : Rd w B 5 A n c (odCells L)) {i : Nat} (hi : i < n) : ∃ b o a, A = some ⟨b, o, none⟩ ∧ b < B ∧ L[i]? = some a ∧
    w.cell? ⟨b, o + i * 5, none⟩ = some (.int .i64 a.id) ∧ w.cell? ⟨b, o + i * 5 + 1, none⟩ = some (.int .i64 a.acc) ∧ w.cell? ⟨b, o + i * 5 + 2, none⟩ = some (.int .i64 a.side) ∧
      w.cell? ⟨b, o + i * 5 + 3, none⟩ = some (.int .i64 a.price) ∧ w.cell? ⟨b, o + i * 5 + 4, none⟩ = some (.int .i64 a.qty) := by
  have hl := rdo_len h
  obtain ⟨b, o, e, hb, hc⟩ := h.at_ (by omega)
  have ha : L[i]? = some L[i] := List.getElem?_eq_getElem (by omega)
  obtain ⟨h0, h1, h2, h3, h4⟩ := odCells_at ha
  exact ⟨b, o, _, e, hb, ha, hc _ _ h0, by rw [Nat.add_assoc]; exact hc _ _ h1, by rw [Nat.add_assoc]; exact hc _ _ h2, by rw [Nat.add_assoc]; exact hc _ _ h3, by rw [Nat.add_assoc]; exact hc _ _ h4⟩
end
theorem elem_od : Elem Try.prog 60 71 5 40 := elem_mk Try.underlying60 (by kernel_rfl) (by decide)
theorem Blk.c5 {w : World} {g : Nat} {t : TypeId} {a b c d e : Value} (h : Blk w g t #[a, b, c, d, e]) :
    (w.cell? ⟨g, 0, none⟩ = some a ∧ w.cell? ⟨g, 1, none⟩ = some b ∧ w.cell? ⟨g, 2, none⟩ = some c ∧ w.cell? ⟨g, 3, none⟩ = some d ∧ w.cell? ⟨g, 4, none⟩ = some e) ∧
      w.frozen? ⟨g, 0, none⟩ = false ∧ w.frozen? ⟨g, 1, none⟩ = false ∧ w.frozen? ⟨g, 2, none⟩ = false ∧ w.frozen? ⟨g, 3, none⟩ = false ∧ w.frozen? ⟨g, 4, none⟩ = false :=
  ⟨⟨h.cell 0, h.cell 1, h.cell 2, h.cell 3, h.cell 4⟩, h.frozen 0, h.frozen 1, h.frozen 2, h.frozen 3, h.frozen 4⟩
theorem Blk.c2 {w : World} {g : Nat} {t : TypeId} {a b : Value} (h : Blk w g t #[a, b]) :
    (w.cell? ⟨g, 0, none⟩ = some a ∧ w.cell? ⟨g, 1, none⟩ = some b) ∧ w.frozen? ⟨g, 0, none⟩ = false ∧ w.frozen? ⟨g, 1, none⟩ = false :=
  ⟨⟨h.cell 0, h.cell 1⟩, h.frozen 0, h.frozen 1⟩
theorem rd_one_od (w : World) (o : Od) (g : Nat) (hg : g = w.heap.size) : Rd (w.alloc (.cells #[.int .i64 o.id, .int .i64 o.acc, .int .i64 o.side, .int .i64 o.price, .int .i64 o.qty] 71)) (g + 1) 5 (some ⟨g, 0, none⟩) 1 1 (odCells [o]) := by
  subst hg
  exact ⟨rfl, Nat.le_refl _, by decide, nofun, fun _ => ⟨_, _, rfl, by omega, fun j u hj => by rw [World.cell?_alloc_new]; simpa [odCells] using hj⟩⟩

set_option maxHeartbeats 1000000 in
theorem ordErr_any (o : Od) (w : World) :
    Calls Try.prog 85 #[.agg #[.int .i64 o.id, .int .i64 o.acc, .int .i64 o.side, .int .i64 o.price, .int .i64 o.qty]] w fun e w' => e = .returned (.int .i64 (ordErr o)) ∧ Below w.heap.size w w' := by
  by_cases h5 : o.id < 1 ∨ 100000 < o.id ∨ o.acc < 0 ∨ 8 ≤ o.acc
  · have HE := Lib.hid (show ordErr o = 5 by unfold ordErr; rw [if_pos h5])
    have h0 : o.id < 1 ∨ 1 ≤ o.id ∧ 100000 < o.id ∨ 1 ≤ o.id ∧ o.id ≤ 100000 ∧ o.acc < 0 ∨ 1 ≤ o.id ∧ o.id ≤ 100000 ∧ 0 ≤ o.acc ∧ 8 ≤ o.acc := by omega
    clear h5
    rcases h0 with h1 | ⟨h1, h2⟩ | ⟨h1, h2, h3⟩ | ⟨h1, h2, h3, h4⟩
    all_goals
      go_enter Try.func85, Try.ntmps85
      go_wp2_with fail
      go_ret
      exact ⟨ret_ii HE.out.symm, (Below.refl _ _).alloc (Nat.le_refl _) _⟩
  · obtain ⟨⟨h1, h2⟩, h3, h4⟩ : (1 ≤ o.id ∧ o.id ≤ 100000) ∧ 0 ≤ o.acc ∧ o.acc < 8 := by omega
    by_cases h6 : o.side ≠ 1 ∧ o.side ≠ -1
    · have HE := Lib.hid (show ordErr o = 4 by unfold ordErr; rw [if_neg h5, if_pos h6])
      obtain ⟨h7, h8⟩ := h6
      have h7' : (o.side != 1) = true := by simpa using h7
      have h8' : (o.side != -1) = true := by simpa using h8
      clear h5 h7 h8
      go_enter Try.func85, Try.ntmps85
      go_wp2_with fail
      go_ret
      exact ⟨ret_ii HE.out.symm, (Below.refl _ _).alloc (Nat.le_refl _) _⟩
    · have hs : ((o.side != 1) = false) ∨ ((o.side != 1) = true ∧ (o.side != -1) = false) := by
        by_cases a1 : o.side = 1
        · exact .inl (by simpa using a1)
        · exact .inr ⟨by simpa using a1, by simp; omega⟩
      by_cases h9 : o.price < 1 ∨ 10000 < o.price ∨ o.qty < 1 ∨ 1000 < o.qty
      · have HE := Lib.hid (show ordErr o = 3 by unfold ordErr; rw [if_neg h5, if_neg h6, if_pos h9])
        have h0 : o.price < 1 ∨ 1 ≤ o.price ∧ 10000 < o.price ∨ 1 ≤ o.price ∧ o.price ≤ 10000 ∧ o.qty < 1 ∨ 1 ≤ o.price ∧ o.price ≤ 10000 ∧ 1 ≤ o.qty ∧ 1000 < o.qty := by omega
        clear h5 h6 h9
        rcases hs with hs | ⟨hs, hs'⟩
        all_goals
          rcases h0 with g1 | ⟨g1, g2⟩ | ⟨g1, g2, g3⟩ | ⟨g1, g2, g3, g4⟩
          all_goals
            go_enter Try.func85, Try.ntmps85
            go_wp2_with fail
            go_ret
            exact ⟨ret_ii HE.out.symm, (Below.refl _ _).alloc (Nat.le_refl _) _⟩
      · have HE := Lib.hid (show ordErr o = 0 by unfold ordErr; rw [if_neg h5, if_neg h6, if_neg h9])
        obtain ⟨g1, g2, g3, g4⟩ : 1 ≤ o.price ∧ o.price ≤ 10000 ∧ 1 ≤ o.qty ∧ o.qty ≤ 1000 := by omega
        clear h5 h6 h9
        rcases hs with hs | ⟨hs, hs'⟩
        all_goals
          go_enter Try.func85, Try.ntmps85
          go_wp2_with fail
          go_ret
          exact ⟨ret_ii HE.out.symm, (Below.refl _ _).alloc (Nat.le_refl _) _⟩

set_option maxHeartbeats 1000000 in
theorem ahead_any (a b : Od) (w : World) :
    Calls Try.prog 83 #[.agg #[.int .i64 a.id, .int .i64 a.acc, .int .i64 a.side, .int .i64 a.price, .int .i64 a.qty], .agg #[.int .i64 b.id, .int .i64 b.acc, .int .i64 b.side, .int .i64 b.price, .int .i64 b.qty]] w fun e w' => e = .returned (.bool (aheadB a b)) ∧ Below w.heap.size w w' := by
  by_cases h : a.price = b.price
  · have HE := Lib.hid (show aheadB a b = decide (a.id < b.id) by unfold aheadB; rw [if_pos h])
    have h' : (a.price != b.price) = false := by simpa using h
    clear h
    go_enter Try.func83, Try.ntmps83
    go_wp2_with fail
    go_ret
    exact ⟨ret_bb HE.out.symm, ((Below.refl _ _).alloc (Nat.le_refl _) _).alloc (by simp) _⟩
  · have h' : (a.price != b.price) = true := by simpa using h
    have HE := Lib.hid (show aheadB a b = (decide (b.price < a.price) == (a.side == 1)) by
      unfold aheadB
      rw [if_neg h]
      by_cases hs : a.side = 1
      · simp [hs]
      · rw [if_neg hs]
        have hs' : (a.side == 1) = false := by simpa using hs
        rw [hs']
        by_cases hp : b.price < a.price
        · simp [hp]; omega
        · simp [hp]; omega)
    clear h
    go_enter Try.func83, Try.ntmps83
    go_wp2_with fail
    go_ret
    exact ⟨ret_bb HE.out.symm, ((Below.refl _ _).alloc (Nat.le_refl _) _).alloc (by simp) _⟩

set_option maxHeartbeats 1000000 in
theorem crosses_any (o : Od) (p : Int) (w : World) :
    Calls Try.prog 137 #[.agg #[.int .i64 o.id, .int .i64 o.acc, .int .i64 o.side, .int .i64 o.price, .int .i64 o.qty], .int .i64 p] w fun e w' => e = .returned (.bool (crossesB o p)) ∧ Below w.heap.size w w' := by
  by_cases h : o.side = 1
  · have HE := Lib.hid (show crossesB o p = decide (p ≤ o.price) by unfold crossesB; rw [if_pos h])
    have h' : (o.side == 1) = true := by simpa using h
    clear h
    go_enter Try.func137, Try.ntmps137
    go_wp2_with fail
    go_ret
    exact ⟨ret_bb HE.out.symm, (Below.refl _ _).alloc (Nat.le_refl _) _⟩
  · have HE := Lib.hid (show crossesB o p = decide (o.price ≤ p) by unfold crossesB; rw [if_neg h])
    have h' : (o.side == 1) = false := by simpa using h
    clear h
    go_enter Try.func137, Try.ntmps137
    go_wp2_with fail
    go_ret
    exact ⟨ret_bb HE.out.symm, (Below.refl _ _).alloc (Nat.le_refl _) _⟩

end Go.Proofs.Ytockodmbhnlheaa
