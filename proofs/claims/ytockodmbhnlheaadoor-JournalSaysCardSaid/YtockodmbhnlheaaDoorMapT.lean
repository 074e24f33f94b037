/-
  TWO SMALL MAPS, written out by the code: a number's word (buy, sell), a word's number.
-/
import Derived.Test.YtockodmbhnlheaaDoorTextEnv
import Derived.Maps.Own
import Derived.Maps.OwnSet
import Derived.Maps.Views
import Derived.Maps.StringElems
import Derived.StringKeys
namespace Go.Proofs.YtockodmbhnlheaaDoor
open Go.RowKit Go.Maps

/-- block b of w: a map of words by number: at 1, if p; at -1, if q. -/
def TwoW (x y : List UInt8) (w : World) (b : Nat) (p q : Bool) : Prop :=
  ∃ D : DataW Unit, w.ownsMap Tryd.prog 3 (plainElem (H := Unit) Tryd.prog 9) b (p.toNat + q.toNat) D ∧ (p = true → ∀ z, D.atKey (.int .i64 1) z = .lit (.string x)) ∧ (q = true → ∀ z, D.atKey (.int .i64 (-1)) z = .lit (.string y))
theorem TwoW.made (x y : List UInt8) (w : World) : TwoW x y (w.alloc (.map #[] 0)) w.heap.size false false := ⟨.map [], World.ownsMap_made _ _ _ _, nofun, nofun⟩
theorem TwoW.lt {x y : List UInt8} {w : World} {b : Nat} {p q : Bool} (h : TwoW x y w b p q) : b < w.heap.size := by obtain ⟨D, h1, _⟩ := h; exact h1.lt
theorem TwoW.below {x y : List UInt8} {w w' : World} {b B : Nat} {p q : Bool} (h : TwoW x y w b p q) (hb : Below B w w') (hB : b < B) : TwoW x y w' b p q := by
  obtain ⟨D, ⟨es, clock, h1, h2⟩, h3⟩ := h
  exact ⟨D, ⟨es, clock, (hb.block b hB).trans h1, h2⟩, h3⟩
theorem wf_1 : (Lit.int .i64 1).wf = true := by decide
theorem wf_m1 : (Lit.int .i64 (-1)).wf = true := by decide
set_option maxRecDepth 100000 in
theorem TwoW.put1 {x y : List UInt8} (hx : (bs x).size ≤ maxLen) {w : World} {b : Nat} {q : Bool} (h : TwoW x y w b false q) :
    ∃ w', (Instr.mapUpdate 78 (.map (some b)) (.int .i64 1) (.string (bs x))).run Tryd.prog w = .ok () w' ∧ TwoW x y w' b true q ∧ w.grownBy w' (some b) := by
  obtain ⟨D, h1, h2, h3⟩ := h
  obtain ⟨w', r1, r2, r3⟩ := World.ownsMap.update h1 (int_keyed Tryd.underlying3) Tryd.underlying78 (by cases q <;> decide) (keyOf_int_mk Tryd.underlying3 wf_1) (plainElem_string Tryd.underlying9 hx)
  have hT := h1.tidy (int_keyed Tryd.underlying3)
  refine ⟨w', r1, ⟨_, r2.mono (by cases q <;> decide), fun _ z => ?_, fun hq z => ?_⟩, r3⟩
  · rw [atKey_put_same hT.isMap (show WideAt.IsKeyLit (.int .i64 1) from trivial), bs_data]
  · rw [atKey_put_other (by intro e; injection e with _ e; exact absurd e (by decide))]; exact h3 hq z
set_option maxRecDepth 100000 in
theorem TwoW.put2 {x y : List UInt8} (hy : (bs y).size ≤ maxLen) {w : World} {b : Nat} {p : Bool} (h : TwoW x y w b p false) :
    ∃ w', (Instr.mapUpdate 78 (.map (some b)) (.int .i64 (-1)) (.string (bs y))).run Tryd.prog w = .ok () w' ∧ TwoW x y w' b p true ∧ w.grownBy w' (some b) := by
  obtain ⟨D, h1, h2, h3⟩ := h
  obtain ⟨w', r1, r2, r3⟩ := World.ownsMap.update h1 (int_keyed Tryd.underlying3) Tryd.underlying78 (by cases p <;> decide) (keyOf_int_mk Tryd.underlying3 wf_m1) (plainElem_string Tryd.underlying9 hy)
  have hT := h1.tidy (int_keyed Tryd.underlying3)
  refine ⟨w', r1, ⟨_, r2.mono (by cases p <;> decide), fun hp z => ?_, fun _ z => ?_⟩, r3⟩
  · rw [atKey_put_other (by intro e; injection e with _ e; exact absurd e (by decide))]; exact h2 hp z
  · rw [atKey_put_same hT.isMap (show WideAt.IsKeyLit (.int .i64 (-1)) from trivial), bs_data]
set_option maxRecDepth 100000 in
theorem TwoW.look {x y : List UInt8} {w : World} {b : Nat} (h : TwoW x y w b true true) (n : Int) (hn : n = 1 ∨ n = -1) :
    (Instr.lookup 78 (.map (some b)) (.int .i64 n) false).run Tryd.prog w = .ok (.string (bs (if n = 1 then x else y))) w := by
  have hz : (zeroValue 9).run Tryd.prog w = .ok (.string ⟨#[]⟩) w := by kernel_rfl
  obtain ⟨D, h1, h2, h3⟩ := h
  obtain ⟨v, ps, hrun, hv⟩ := World.ownsMap.lookup h1 (int_keyed Tryd.underlying3) Tryd.underlying78 hz (plainElem_string Tryd.underlying9 (by decide)) (keyOf_int_mk Tryd.underlying3 (a := n) (by rcases hn with rfl | rfl <;> decide))
  have hv' : plainElem (H := Unit) Tryd.prog 9 v = some (.lit (.string (if n = 1 then x else y)), ps) := by
    rcases hn with rfl | rfl
    · rw [hv, h2 rfl]; rfl
    · rw [hv, h3 rfl]; rfl
  obtain ⟨s, rfl, hs, _⟩ := plainElem_string_inv Tryd.underlying9 hv'
  injection hs with hs _
  injection hs with hs
  injection hs with hs
  rw [hs, bs_eta]; exact hrun

/-- block b of w: a map of numbers by word: at x stands 1, if p; at y -1, if q. -/
def TwoN (x y : List UInt8) (w : World) (b : Nat) (p q : Bool) : Prop :=
  ∃ D : DataW Unit, w.ownsMap Tryd.prog 9 (plainElem (H := Unit) Tryd.prog 3) b (p.toNat + q.toNat) D ∧ (p = true → ∀ z, D.atKey (.string x) z = .lit (.int .i64 1)) ∧ (q = true → ∀ z, D.atKey (.string y) z = .lit (.int .i64 (-1)))
theorem TwoN.made (x y : List UInt8) (w : World) : TwoN x y (w.alloc (.map #[] 0)) w.heap.size false false := ⟨.map [], World.ownsMap_made _ _ _ _, nofun, nofun⟩
theorem TwoN.lt {x y : List UInt8} {w : World} {b : Nat} {p q : Bool} (h : TwoN x y w b p q) : b < w.heap.size := by obtain ⟨D, h1, _⟩ := h; exact h1.lt
theorem TwoN.below {x y : List UInt8} {w w' : World} {b B : Nat} {p q : Bool} (h : TwoN x y w b p q) (hb : Below B w w') (hB : b < B) : TwoN x y w' b p q := by
  obtain ⟨D, ⟨es, clock, h1, h2⟩, h3⟩ := h
  exact ⟨D, ⟨es, clock, (hb.block b hB).trans h1, h2⟩, h3⟩
theorem keyOf_bs {x : List UInt8} (hx : (bs x).size ≤ maxLen) : keyOf Tryd.prog 9 (.string (bs x)) = some (.string x) := by
  have :=Go.WideMaps.keyOf_string_mk (P := Tryd.prog) (k := 9) Tryd.underlying9 hx
  rwa [bs_data] at this
set_option maxRecDepth 100000 in
theorem TwoN.put1 {x y : List UInt8} (hx : (bs x).size ≤ maxLen) (hne : x ≠ y) {w : World} {b : Nat} {q : Bool} (h : TwoN x y w b false q) :
    ∃ w', (Instr.mapUpdate 88 (.map (some b)) (.string (bs x)) (.int .i64 1)).run Tryd.prog w = .ok () w' ∧ TwoN x y w' b true q ∧ w.grownBy w' (some b) := by
  obtain ⟨D, h1, h2, h3⟩ := h
  obtain ⟨w', r1, r2, r3⟩ := World.ownsMap.update h1 (string_keyed Tryd.underlying9) Tryd.underlying88 (by cases q <;> decide) (keyOf_bs hx) (plainElem_int Tryd.underlying3 wf_1)
  have hT := h1.tidy (string_keyed Tryd.underlying9)
  refine ⟨w', r1, ⟨_, r2.mono (by cases q <;> decide), fun _ z => ?_, fun hq z => ?_⟩, r3⟩
  · rw [atKey_put_same hT.isMap (show WideAt.IsKeyLit (.string x) from trivial)]
  · rw [atKey_put_other (by intro e; injection e with e; exact hne e.symm)]; exact h3 hq z
set_option maxRecDepth 100000 in
theorem TwoN.put2 {x y : List UInt8} (hy : (bs y).size ≤ maxLen) (hne : x ≠ y) {w : World} {b : Nat} {p : Bool} (h : TwoN x y w b p false) :
    ∃ w', (Instr.mapUpdate 88 (.map (some b)) (.string (bs y)) (.int .i64 (-1))).run Tryd.prog w = .ok () w' ∧ TwoN x y w' b p true ∧ w.grownBy w' (some b) := by
  obtain ⟨D, h1, h2, h3⟩ := h
  obtain ⟨w', r1, r2, r3⟩ := World.ownsMap.update h1 (string_keyed Tryd.underlying9) Tryd.underlying88 (by cases p <;> decide) (keyOf_bs hy) (plainElem_int Tryd.underlying3 wf_m1)
  have hT := h1.tidy (string_keyed Tryd.underlying9)
  refine ⟨w', r1, ⟨_, r2.mono (by cases p <;> decide), fun hp z => ?_, fun _ z => ?_⟩, r3⟩
  · rw [atKey_put_other (by intro e; injection e with e; exact hne e)]; exact h2 hp z
  · rw [atKey_put_same hT.isMap (show WideAt.IsKeyLit (.string y) from trivial)]
set_option maxRecDepth 100000 in
theorem TwoN.look {x y : List UInt8} {w : World} {b : Nat} (h : TwoN x y w b true true) (s : List UInt8) (hs : (bs s).size ≤ maxLen) (hn : s = x ∨ s = y) :
    (Instr.lookup 88 (.map (some b)) (.string (bs s)) false).run Tryd.prog w = .ok (.int .i64 (if s = x then 1 else -1)) w := by
  have hz : (zeroValue 3).run Tryd.prog w = .ok (.int .i64 0) w := by kernel_rfl
  obtain ⟨D, h1, h2, h3⟩ := h
  obtain ⟨c, hrun, hat, _⟩ := h1.lookup_int (string_keyed Tryd.underlying9) Tryd.underlying88 Tryd.underlying3 hz (keyOf_bs hs)
  have : c = if s = x then 1 else -1 := by
    by_cases e : s = x
    · rw [e, h2 rfl] at hat
      injection hat with hat
      injection hat with _ hat
      rw [if_pos e, hat]
    · rw [hn.resolve_left e, h3 rfl] at hat
      injection hat with hat
      injection hat with _ hat
      rw [if_neg e, hat]
  rw [← this]; exact hrun
end Go.Proofs.YtockodmbhnlheaaDoor
