/-
  FILLS IN MEMORY: seven cells a fill; append as a step of a region that draws.
-/
import Derived.Test.YtockodmbhnlheaaMatchPure
import Derived.Test.YtockodmbhnlheaaShelved
namespace Go.Proofs.Ytockodmbhnlheaa
open Go.RowKit

def flCells : List Fl → List Value
  | [] => []
  | f :: l => .int .i64 f.maker :: .int .i64 f.taker :: .int .i64 f.macc :: .int .i64 f.tacc :: .int .i64 f.side :: .int .i64 f.price :: .int .i64 f.qty :: flCells l
theorem flCells_len : ∀ L, (flCells L).length = L.length * 7
  | [] => rfl
  | o :: l => by simp only [flCells, List.length_cons, flCells_len l]; omega
theorem flCells_app (M : List Fl) : ∀ L, flCells (L ++ M) = flCells L ++ flCells M
  | [] => rfl
  | o :: l => by simp only [List.cons_append, flCells, flCells_app M l]
theorem flCells_one : ∀ (L : List Fl), ∀ u ∈ flCells L, u.oneCell' = true
  | [] => by simp [flCells]
  | o :: l => by
    intro u hu
    simp only [flCells, List.mem_cons] at hu
    rcases hu with rfl | rfl | rfl | rfl | rfl | rfl | rfl | hu
    · rfl
    · rfl
    · rfl
    · rfl
    · rfl
    · rfl
    · rfl
    · exact flCells_one l u hu
theorem flCells_at : ∀ {L : List Fl} {i : Nat} {a : Fl}, L[i]? = some a →
    (flCells L)[i * 7]? = some (.int .i64 a.maker) ∧ (flCells L)[i * 7 + 1]? = some (.int .i64 a.taker) ∧ (flCells L)[i * 7 + 2]? = some (.int .i64 a.macc) ∧ (flCells L)[i * 7 + 3]? = some (.int .i64 a.tacc) ∧ (flCells L)[i * 7 + 4]? = some (.int .i64 a.side) ∧ (flCells L)[i * 7 + 5]? = some (.int .i64 a.price) ∧ (flCells L)[i * 7 + 6]? = some (.int .i64 a.qty)
  | [], _, _, h => by simp at h
  | o :: l, 0, a, h => by
    simp only [List.getElem?_cons_zero, Option.some.injEq] at h
    subst h; exact ⟨rfl, rfl, rfl, rfl, rfl, rfl, rfl⟩
  | o :: l, i + 1, a, h => by
    simp only [List.getElem?_cons_succ] at h
    obtain ⟨h0, h1, h2, h3, h4, h5, h6⟩ := flCells_at h
    have e : ∀ k, (i + 1) * 7 + k = i * 7 + k + 1 + 1 + 1 + 1 + 1 + 1 + 1 := by intro k; omega
    refine ⟨?_, ?_, ?_, ?_, ?_, ?_, ?_⟩
    · rw [show (i + 1) * 7 = i * 7 + 1 + 1 + 1 + 1 + 1 + 1 + 1 by omega]; exact h0
    · rw [e]; exact h1
    · rw [e]; exact h2
    · rw [e]; exact h3
    · rw [e]; exact h4
    · rw [e]; exact h5
    · rw [e]; exact h6
theorem rdf_len {w : World} {B n c : Nat} {A : Option Addr} {L : List Fl} (h : Rd w B 7 A n c (flCells L)) : L.length = n := by have := h.len; rw [flCells_len] at this; omega
theorem fl_at {w : World} {B n c : Nat} {A : Option Addr} {L : List Fl} (h : Rd w B 7 A n c (flCells L)) {i : Nat} (hi : i < n) : ∃ b o a, A = some ⟨b, o, none⟩ ∧ b < B ∧ L[i]? = some a ∧
    w.cell? ⟨b, o + i * 7, none⟩ = some (.int .i64 a.maker) ∧ w.cell? ⟨b, o + i * 7 + 1, none⟩ = some (.int .i64 a.taker) ∧ w.cell? ⟨b, o + i * 7 + 2, none⟩ = some (.int .i64 a.macc) ∧
      w.cell? ⟨b, o + i * 7 + 3, none⟩ = some (.int .i64 a.tacc) ∧ w.cell? ⟨b, o + i * 7 + 4, none⟩ = some (.int .i64 a.side) ∧ w.cell? ⟨b, o + i * 7 + 5, none⟩ = some (.int .i64 a.price) ∧ w.cell? ⟨b, o + i * 7 + 6, none⟩ = some (.int .i64 a.qty) := by
  have hl := rdf_len h
  obtain ⟨b, o, e, hb, hc⟩ := h.at_ (by omega)
  have ha : L[i]? = some L[i] := List.getElem?_eq_getElem (by omega)
  obtain ⟨h0, h1, h2, h3, h4, h5, h6⟩ := flCells_at ha
  refine ⟨b, o, _, e, hb, ha, hc _ _ h0, ?_, ?_, ?_, ?_, ?_, ?_⟩
  · rw [Nat.add_assoc]; exact hc _ _ h1
  · rw [Nat.add_assoc]; exact hc _ _ h2
  · rw [Nat.add_assoc]; exact hc _ _ h3
  · rw [Nat.add_assoc]; exact hc _ _ h4
  · rw [Nat.add_assoc]; exact hc _ _ h5
  · rw [Nat.add_assoc]; exact hc _ _ h6
theorem elem_fl : Elem Try.prog 83 87 7 56 := elem_mk Try.underlying83 (by kernel_rfl) (by decide)

theorem step_app {P : Program} {ops : Array Oper} {o : Oper} {a : Act} {w : World} {K : Act → World → Prop} {Q : Exit → Act → World → Prop} {X : Prop} (hgd : o.guard = none) (s x : Operand) (t : TypeId)
    (ho : o.op = .call { callee := .builtin .append, args := #[s, x], argTypes := #[t, t] })
    (base e k bytes : Nat) (E : Elem P t e k bytes) (v : Value) (n : Nat) (xs : List Value) (hs : a.eval s = v) (hown : w.ownsRow base e k v n xs)
    (B : Nat) (A : Option Addr) (m c : Nat) (news : List Value) (hx : a.eval x = .slice A m c) (hr : Rd w B k A m c news) (h1 : ∀ u ∈ news, u.oneCell' = true)
    (hlen : n + m ≤ maxLen) (hbytes : (n + m) * bytes ≤ 140737488355328) (hbase : base ≤ w.heap.size)
    (h : ∀ v' w', w'.ownsRow base e k v' (n + m) (xs ++ news) → Below base w w' → w.grownBy w' v.ownBlock → (v'.ownBlock = v.ownBlock ∨ v'.ownBlock = some w.heap.size) → K (a.put o.dst v') w') :
    if Region.wanted o (yielded ops a.tmps) = true then Oper.wp P o a w K Q else X := by
  rw [if_pos (show Region.wanted o (yielded ops a.tmps) = true by simp [Region.wanted, hgd])]
  exact wp_app s x t ho base e k bytes E v n xs hs hown B A m c news hx hr h1 hlen hbytes hbase h
theorem rd_new {w : World} (cs : Array Value) (t : TypeId) (g k : Nat) (hg : g = w.heap.size) (hk : cs.size = k) (xs : List Value) (hx : cs.toList = xs) : Rd (w.alloc (.cells cs t)) (g + 1) k (some ⟨g, 0, none⟩) 1 1 xs := by
  subst hg hx
  exact ⟨by simp [hk], Nat.le_refl _, by decide, nofun, fun _ => ⟨_, _, rfl, by omega, fun j u hj => by rw [World.cell?_alloc_new]; simpa using hj⟩⟩
theorem grown_only {w w' : World} {b : Option Nat} (h : w.grownBy w' b) : Only w w' b := fun k hk hn => h.block k hk hn
end Go.Proofs.Ytockodmbhnlheaa
