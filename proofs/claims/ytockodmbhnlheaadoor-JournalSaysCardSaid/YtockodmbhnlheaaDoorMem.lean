/-
  WORDS FOR MEMORY: a slice that came in (or goes from call to call) reads as a list of cells.
-/
import Derived.WalkKit
import Derived.Deep.Draws
namespace Go.Proofs.YtockodmbhnlheaaDoor
open Go.RowKit

theorem ret_bb {a b : Bool} (h : a = b) : Ending.returned (.bool a) = .returned (.bool b) := by rw [h]
theorem ret_ii {a b : Int} (h : a = b) : Ending.returned (.int .i64 a) = .returned (.int .i64 b) := by rw [h]
theorem pair_ii {a b c d : Int} (h : (a, b) = (c, d)) : Ending.returned (.tuple #[.int .i64 a, .int .i64 b]) = .returned (.tuple #[.int .i64 c, .int .i64 d]) := by
  injection h with h1 h2; rw [h1, h2]

theorem ret_sii {A : Option Addr} {n n' c : Nat} {x y : Int} (h : n = n') : Ending.returned (.tuple #[.slice A n c, .int .i64 x, .int .i64 y]) = .returned (.tuple #[.slice A n' c, .int .i64 x, .int .i64 y]) := by rw [h]

/-- numbers as values. -/
def ints (l : List Int) : List Value := l.map (Value.int .i64)
theorem ints_length (l : List Int) : (ints l).length = l.length := by simp [ints]
theorem ints_get {l : List Int} {j : Nat} {z : Int} (h : l[j]? = some z) : (ints l)[j]? = some (.int .i64 z) := by simp [ints, h]

/-- The slice '.slice A n c' reads, in the world w, as the cells xs, k to an element; they lie below block B. -/
structure Rd (w : World) (B k : Nat) (A : Option Addr) (n c : Nat) (xs : List Value) : Prop where
  len : xs.length = n * k
  le : n ≤ c
  cap : c ≤ maxLen
  nil : A = none → c = 0
  at_ : 0 < n → ∃ b o, A = some ⟨b, o, none⟩ ∧ b < B ∧ ∀ j u, xs[j]? = some u → w.cell? ⟨b, o + j, none⟩ = some u

/-- behind a call that has turned nothing: all old cells, all old marks. -/
theorem bcell {W w1 : World} (hb : Below W.heap.size W w1) : (∀ b o, b < W.heap.size → w1.cell? ⟨b, o, none⟩ = W.cell? ⟨b, o, none⟩) ∧ (∀ b o, b < W.heap.size → w1.frozen? ⟨b, o, none⟩ = W.frozen? ⟨b, o, none⟩) :=
  ⟨fun b o h => hb.cell (p := ⟨b, o, none⟩) h, fun b o h => hb.frozen (p := ⟨b, o, none⟩) h⟩
/-- a block that is known whole; its cells, its marks. -/
def Blk (w : World) (g : Nat) (t : TypeId) (cs : Array Value) : Prop := w.heap[g]? = some (.cells cs t (0, 0))
theorem Blk.cell {w : World} {g : Nat} {t : TypeId} {cs : Array Value} (h : Blk w g t cs) (i : Nat) : w.cell? ⟨g, i, none⟩ = cs[i]? := by unfold Blk at h; simp [World.cell?, h]
theorem Blk.frozen {w : World} {g : Nat} {t : TypeId} {cs : Array Value} (h : Blk w g t cs) (i : Nat) : w.frozen? ⟨g, i, none⟩ = false := by unfold Blk at h; simp [World.frozen?, h]
theorem Blk.lt {w : World} {g : Nat} {t : TypeId} {cs : Array Value} (h : Blk w g t cs) : g < w.heap.size := by
  rcases Nat.lt_or_ge g w.heap.size with h0 | h0
  · exact h0
  · unfold Blk at h; rw [Array.getElem?_eq_none h0] at h; cases h
theorem Blk.below {w w1 : World} {g B : Nat} {t : TypeId} {cs : Array Value} (h : Blk w g t cs) (hb : Below B w w1) (hg : g < B) : Blk w1 g t cs := (hb.block g hg).trans h
theorem Blk.new (w : World) (t : TypeId) (cs : Array Value) : Blk (w.alloc (.cells cs t)) w.heap.size t cs := by
  show (w.heap.push _)[w.heap.size]? = _
  simp
theorem Blk.alloc {w : World} {g : Nat} {t : TypeId} {cs : Array Value} (h : Blk w g t cs) (o : Obj) : Blk (w.alloc o) g t cs := (Below.heap_alloc w o g h.lt).trans h
theorem Blk.drewN {w : World} {g : Nat} {t : TypeId} {cs : Array Value} (h : Blk w g t cs) (q : Nat) : Blk (w.drewN q) g t cs := h
theorem Blk.set_ {w : World} {g : Nat} {t : TypeId} {cs : Array Value} (h : Blk w g t cs) (i : Nat) (u : Value) : Blk (w.setCell ⟨g, i, none⟩ u) g t (cs.setIfInBounds i u) := by
  unfold Blk at h ⊢
  simp [World.setCell, Array.getElem?_modify, h]
theorem Blk.far {w : World} {g : Nat} {t : TypeId} {cs : Array Value} (h : Blk w g t cs) {p : Addr} (hp : g ≠ p.block) (u : Value) : Blk (w.setCell p u) g t cs := (Below.heap_setCell w p u g hp).trans h
theorem Blk.c3 {w : World} {g : Nat} {t : TypeId} {a b c : Value} (h : Blk w g t #[a, b, c]) :
    (w.cell? ⟨g, 0, none⟩ = some a ∧ w.cell? ⟨g, 1, none⟩ = some b ∧ w.cell? ⟨g, 2, none⟩ = some c) ∧ w.frozen? ⟨g, 0, none⟩ = false ∧ w.frozen? ⟨g, 1, none⟩ = false ∧ w.frozen? ⟨g, 2, none⟩ = false :=
  ⟨⟨h.cell 0, h.cell 1, h.cell 2⟩, h.frozen 0, h.frozen 1, h.frozen 2⟩
theorem below_drewN {B : Nat} {a w : World} (h : Below B a w) (n : Nat) : Below B a (w.drewN n) := h.trans ⟨rfl, rfl, rfl, Nat.le_refl _, fun _ _ => rfl⟩

section
variable {w w' : World} {B B' k n c : Nat} {A : Option Addr} {xs : List Value}
theorem Rd.none_ (w : World) (B k : Nat) : Rd w B k none 0 0 [] := ⟨by simp, Nat.le_refl _, by simp, fun _ => rfl, fun h => absurd h (by omega)⟩
theorem Rd.mono (h : Rd w B k A n c xs) (hB : B ≤ B') (hk : ∀ b o, b < B → w'.cell? ⟨b, o, none⟩ = w.cell? ⟨b, o, none⟩) : Rd w' B' k A n c xs :=
  ⟨h.len, h.le, h.cap, h.nil, fun hn => by
    obtain ⟨b, o, e, hb, hc⟩ := h.at_ hn
    exact ⟨b, o, e, by omega, fun j u hu => (hk _ _ hb).trans (hc j u hu)⟩⟩
theorem Rd.mono_ne {g : Nat} (h : Rd w B k A n c xs) (hB : B ≤ B') (hne : ∀ ad, A = some ad → ad.block ≠ g) (hk : ∀ b o, b < B → b ≠ g → w'.cell? ⟨b, o, none⟩ = w.cell? ⟨b, o, none⟩) : Rd w' B' k A n c xs :=
  ⟨h.len, h.le, h.cap, h.nil, fun hn => by
    obtain ⟨b, o, e, hb, hc⟩ := h.at_ hn
    exact ⟨b, o, e, by omega, fun j u hu => (hk _ _ hb (hne _ e)).trans (hc j u hu)⟩⟩
theorem Rd.below (h : Rd w B k A n c xs) (hb : Below B w w') : Rd w' B k A n c xs := h.mono (Nat.le_refl _) fun _ _ hp => hb.cell (p := ⟨_, _, _⟩) hp
theorem Rd.drewN (h : Rd w B k A n c xs) (q : Nat) : Rd (w.drewN q) B k A n c xs := h.mono (Nat.le_refl _) fun _ _ _ => rfl
theorem Rd.up (h : Rd w B k A n c xs) (hB : B ≤ B') : Rd w B' k A n c xs := h.mono hB fun _ _ _ => rfl
theorem Rd.alloc (h : Rd w B k A n c xs) (hB : B ≤ w.heap.size) (o : Obj) : Rd (w.alloc o) B k A n c xs :=
  h.mono (Nat.le_refl _) fun b o' hb => World.cell?_alloc_lt (w := w) (a := ⟨b, o', none⟩) (o := o) (by show b < _; omega)
theorem Rd.new (w : World) (cs : Array Value) (t : TypeId) (n : Nat) (hn : cs.size = n) (hc : n ≤ maxLen) : Rd (w.alloc (.cells cs t)) (w.heap.size + 1) 1 (some ⟨w.heap.size, 0, none⟩) n n cs.toList :=
  ⟨by simp [hn], Nat.le_refl _, hc, nofun, fun _ => ⟨_, _, rfl, by omega, fun j u hj => by rw [World.cell?_alloc_new]; simpa using hj⟩⟩
theorem Rd.new_at (w : World) (cs : Array Value) (t : TypeId) (g n : Nat) (hg : g = w.heap.size) (hn : cs.size = n) (hc : n ≤ maxLen) : Rd (w.alloc (.cells cs t)) (g + 1) 1 (some ⟨g, 0, none⟩) n n cs.toList := by
  subst hg; exact Rd.new w cs t n hn hc
/-- one cell. -/
theorem Rd.one (h : Rd w B k A n c xs) {j : Nat} {u : Value} (hj : xs[j]? = some u) : ∃ b o, A = some ⟨b, o, none⟩ ∧ b < B ∧ w.cell? ⟨b, o + j, none⟩ = some u := by
  have hl : j < xs.length := (List.getElem?_eq_some_iff.1 hj).1
  have hn : 0 < n := by
    rcases Nat.eq_zero_or_pos n with h0 | h0
    · have := h.len; simp [h0] at this; simp [this] at hl
    · exact h0
  obtain ⟨b, o, e, hb, hc⟩ := h.at_ hn
  exact ⟨b, o, e, hb, hc j u hj⟩
theorem Rd.ofInts {l : List Int} (h : Rd w B 1 A n c (ints l)) : l.length = n := by have := h.len; simpa [ints] using this
theorem Rd.int {l : List Int} (h : Rd w B 1 A n c (ints l)) {j : Nat} (hj : j < n) : ∃ b o, A = some ⟨b, o, none⟩ ∧ b < B ∧ ∃ z, l[j]? = some z ∧ w.cell? ⟨b, o + j, none⟩ = some (.int .i64 z) := by
  have hl := h.ofInts
  have hz : l[j]? = some l[j] := List.getElem?_eq_getElem (by omega)
  obtain ⟨b, o, e, hb, hc⟩ := h.one (ints_get hz)
  exact ⟨b, o, e, hb, _, hz, hc⟩
end

end Go.Proofs.YtockodmbhnlheaaDoor
