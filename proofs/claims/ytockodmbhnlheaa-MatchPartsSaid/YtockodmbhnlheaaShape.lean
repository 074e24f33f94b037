/-
  SLICES OF STRUCTS: an element reads, cell by cell, at its place; what it leads to (a slice in a field) reads below the bound.
-/
import Derived.Test.YtockodmbhnlheaaApp
import Derived.Test.YtockodmbhnlheaaPure
namespace Go.Proofs.Ytockodmbhnlheaa
open Go.RowKit

/-- how an element of k cells reads at block b from offset o on; what it leads to lies below B. -/
structure Shape (α : Type) where
  k : Nat
  R : World → Nat → Nat → Nat → α → Prop
  move : ∀ {w w' : World} {B B' b o b' o' : Nat} {a : α}, R w B b o a → (∀ j, j < k → w'.cell? ⟨b', o' + j, none⟩ = w.cell? ⟨b, o + j, none⟩) → B ≤ B' →
    (∀ b o, b < B → w'.cell? ⟨b, o, none⟩ = w.cell? ⟨b, o, none⟩) → R w' B' b' o' a
  cells : ∀ {w : World} {B b o : Nat} {a : α}, R w B b o a → ∀ j, j < k → ∃ u, w.cell? ⟨b, o + j, none⟩ = some u ∧ u.oneCell' = true

/-- the slice '.slice A n c' reads as the list L. -/
structure RdL {α : Type} (S : Shape α) (w : World) (B : Nat) (A : Option Addr) (n c : Nat) (L : List α) : Prop where
  len : L.length = n
  le : n ≤ c
  cap : c ≤ maxLen
  nil : A = none → c = 0
  at_ : 0 < n → ∃ b o, A = some ⟨b, o, none⟩ ∧ b < B ∧ ∀ i a, L[i]? = some a → S.R w B b (o + i * S.k) a

section
variable {α : Type} {S : Shape α} {w w' : World} {B B' n c : Nat} {A : Option Addr} {L : List α}
theorem RdL.none_ (S : Shape α) (w : World) (B : Nat) : RdL S w B none 0 0 [] := ⟨rfl, Nat.le_refl _, by simp, fun _ => rfl, fun h => absurd h (by omega)⟩
theorem RdL.mono (h : RdL S w B A n c L) (hB : B ≤ B') (hk : ∀ b o, b < B → w'.cell? ⟨b, o, none⟩ = w.cell? ⟨b, o, none⟩) : RdL S w' B' A n c L :=
  ⟨h.len, h.le, h.cap, h.nil, fun hn => by
    obtain ⟨b, o, e, hb, hc⟩ := h.at_ hn
    exact ⟨b, o, e, by omega, fun i a ha => S.move (hc i a ha) (fun j _ => hk _ _ hb) hB hk⟩⟩
theorem RdL.below (h : RdL S w B A n c L) (hb : Below B w w') : RdL S w' B A n c L := h.mono (Nat.le_refl _) fun _ _ hp => hb.cell (p := ⟨_, _, _⟩) hp
theorem RdL.up (h : RdL S w B A n c L) (hB : B ≤ B') : RdL S w B' A n c L := h.mono hB fun _ _ _ => rfl
theorem RdL.drewN (h : RdL S w B A n c L) (q : Nat) : RdL S (w.drewN q) B A n c L := h.mono (Nat.le_refl _) fun _ _ _ => rfl
theorem RdL.alloc (h : RdL S w B A n c L) (hB : B ≤ w.heap.size) (o : Obj) : RdL S (w.alloc o) B A n c L :=
  h.mono (Nat.le_refl _) fun b o' hb => World.cell?_alloc_lt (w := w) (a := ⟨b, o', none⟩) (o := o) (by show b < _; omega)
theorem RdL.one (h : RdL S w B A n c L) {i : Nat} (hi : i < n) : ∃ b o a, A = some ⟨b, o, none⟩ ∧ b < B ∧ L[i]? = some a ∧ S.R w B b (o + i * S.k) a := by
  obtain ⟨b, o, e, hb, hc⟩ := h.at_ (by omega)
  have hl := h.len
  have ha : L[i]? = some L[i] := List.getElem?_eq_getElem (by omega)
  exact ⟨b, o, _, e, hb, ha, hc i _ ha⟩

/-- as a flat list of cells. -/
theorem RdL.flat (h : RdL S w B A n c L) (hk : 0 < S.k) : ∃ xs, Rd w B S.k A n c xs ∧ ∀ u ∈ xs, u.oneCell' = true := by
  rcases Nat.eq_zero_or_pos n with h0 | h0
  · subst h0
    exact ⟨[], ⟨by simp, h.le, h.cap, h.nil, fun h => absurd h (by omega)⟩, by simp⟩
  · obtain ⟨b, o, e, hb, hc⟩ := h.at_ h0
    have hl := h.len
    have hcell : ∀ m, m < n * S.k → ∃ u, w.cell? ⟨b, o + m, none⟩ = some u ∧ u.oneCell' = true := by
      intro m hm
      have hi : m / S.k < n := (Nat.div_lt_iff_lt_mul hk).2 hm
      obtain ⟨u, hu⟩ := S.cells (hc (m / S.k) L[m / S.k] (List.getElem?_eq_getElem (by omega))) (m % S.k) (Nat.mod_lt _ hk)
      refine ⟨u, ?_⟩
      have e1 : o + m / S.k * S.k + m % S.k = o + m := by have := Nat.div_add_mod' m S.k; omega
      rw [e1] at hu
      exact hu
    refine ⟨(List.range (n * S.k)).map fun m => (w.cell? ⟨b, o + m, none⟩).getD undef, ⟨by simp, h.le, h.cap, h.nil, fun _ => ⟨b, o, e, hb, fun j u hj => ?_⟩⟩, ?_⟩
    · have hj' : j < n * S.k := by have := (List.getElem?_eq_some_iff.1 hj).1; simpa using this
      obtain ⟨v, hv, _⟩ := hcell j hj'
      simp [List.getElem?_range hj', hv] at hj
      rw [hv, hj]
    · intro u hu
      simp only [List.mem_map, List.mem_range] at hu
      obtain ⟨m, hm, rfl⟩ := hu
      obtain ⟨v, hv, h1⟩ := hcell m hm
      rw [hv]; exact h1

/-- from a flat list that reads there now: each element's cells are those that it had. -/
theorem RdL.of_flat {B2 : Nat} {A2 : Option Addr} {c2 : Nat} {xs : List Value} (h : RdL S w B A n c L) (hx : Rd w B S.k A n c xs) (h2 : Rd w' B2 S.k A2 n c2 xs) (hB : B ≤ B2) (hk : ∀ b o, b < B → w'.cell? ⟨b, o, none⟩ = w.cell? ⟨b, o, none⟩) :
    RdL S w' B2 A2 n c2 L :=
  ⟨h.len, h2.le, h2.cap, h2.nil, fun hn => by
    obtain ⟨b, o, e, hb, hc⟩ := h.at_ hn
    obtain ⟨b1, o1, e1, _, hc1⟩ := hx.at_ hn
    obtain ⟨b2, o2, e2, hb2, hc2⟩ := h2.at_ hn
    rw [e] at e1
    injection e1 with e1
    injection e1 with e3 e4
    subst e3 e4
    refine ⟨b2, o2, e2, hb2, fun i a ha => S.move (hc i a ha) (fun j hj => ?_) hB hk⟩
    have hi : i < n := by have := (List.getElem?_eq_some_iff.1 ha).1; have := h.len; omega
    have hm : i * S.k + j < xs.length := by
      rw [hx.len]
      calc i * S.k + j < i * S.k + S.k := by omega
        _ = (i + 1) * S.k := by rw [Nat.add_mul, Nat.one_mul]
        _ ≤ n * S.k := Nat.mul_le_mul_right _ (by omega)
    have hg := List.getElem?_eq_getElem hm
    rw [Nat.add_assoc, Nat.add_assoc, hc2 _ _ hg, hc1 _ _ hg]⟩
end

/-! ### accounts -/
def RAcc (w : World) (B b o : Nat) (a : Ac) : Prop :=
  ∃ A c, w.cell? ⟨b, o, none⟩ = some (.int .i64 a.id) ∧ w.cell? ⟨b, o + 1, none⟩ = some (.int .i64 a.bal) ∧ w.cell? ⟨b, o + 2, none⟩ = some (.slice A a.pos.length c) ∧
    Rd w B 1 A a.pos.length c (ints a.pos) ∧ a.pos.length * 8 ≤ 140737488355328

def shAcc : Shape Ac where
  k := 3
  R := RAcc
  move := by
    intro w w' B B' b o b' o' a h hc hB hk
    obtain ⟨A, c, h0, h1, h2, h3, h4⟩ := h
    exact ⟨A, c, (hc 0 (by omega)).trans h0, (hc 1 (by omega)).trans h1, (hc 2 (by omega)).trans h2, h3.mono hB hk, h4⟩
  cells := by
    intro w B b o a h j hj
    obtain ⟨A, c, h0, h1, h2, _⟩ := h
    rcases (show j = 0 ∨ j = 1 ∨ j = 2 by omega) with rfl | rfl | rfl
    · exact ⟨_, h0, rfl⟩
    · exact ⟨_, h1, rfl⟩
    · exact ⟨_, h2, rfl⟩

theorem acc_at {w : World} {B n c : Nat} {A : Option Addr} {L : List Ac} (h : RdL shAcc w B A n c L) {i : Nat} (hi : i < n) : ∃ b o a, A = some ⟨b, o, none⟩ ∧ b < B ∧ L[i]? = some a ∧
    ∃ A2 c2, w.cell? ⟨b, o + i * 3, none⟩ = some (.int .i64 a.id) ∧ w.cell? ⟨b, o + i * 3 + 1, none⟩ = some (.int .i64 a.bal) ∧ w.cell? ⟨b, o + i * 3 + 2, none⟩ = some (.slice A2 a.pos.length c2) ∧
      Rd w B 1 A2 a.pos.length c2 (ints a.pos) ∧ a.pos.length * 8 ≤ 140737488355328 := by
  obtain ⟨b, o, a, h1, h2, h3, h4⟩ := h.one hi
  exact ⟨b, o, a, h1, h2, h3, h4⟩
/-- an account in a row of block g that is still written: its positions lie elsewhere. -/
def RAccN (w : World) (g o : Nat) (a : Ac) : Prop :=
  ∃ A c, w.cell? ⟨g, o, none⟩ = some (.int .i64 a.id) ∧ w.cell? ⟨g, o + 1, none⟩ = some (.int .i64 a.bal) ∧ w.cell? ⟨g, o + 2, none⟩ = some (.slice A a.pos.length c) ∧
    Rd w w.heap.size 1 A a.pos.length c (ints a.pos) ∧ a.pos.length * 8 ≤ 140737488355328 ∧ ∀ ad, A = some ad → ad.block ≠ g
theorem RAccN.plain {w : World} {g o : Nat} {a : Ac} (h : RAccN w g o a) : RAcc w w.heap.size g o a := by
  obtain ⟨A, c, h0, h1, h2, h3, h4, _⟩ := h
  exact ⟨A, c, h0, h1, h2, h3, h4⟩
theorem RAccN.move {w w' : World} {g o : Nat} {a : Ac} (h : RAccN w g o a) (hs : w.heap.size ≤ w'.heap.size) (hc : ∀ j, j < 3 → w'.cell? ⟨g, o + j, none⟩ = w.cell? ⟨g, o + j, none⟩)
    (hk : ∀ b o, b < w.heap.size → b ≠ g → w'.cell? ⟨b, o, none⟩ = w.cell? ⟨b, o, none⟩) : RAccN w' g o a := by
  obtain ⟨A, c, h0, h1, h2, h3, h4, h5⟩ := h
  exact ⟨A, c, (hc 0 (by omega)).trans h0, (hc 1 (by omega)).trans h1, (hc 2 (by omega)).trans h2, h3.mono_ne hs h5 hk, h4, h5⟩
theorem elem_acc : Elem Try.prog 39 37 3 40 := elem_mk Try.underlying39 (by kernel_rfl) (by decide)

end Go.Proofs.Ytockodmbhnlheaa
