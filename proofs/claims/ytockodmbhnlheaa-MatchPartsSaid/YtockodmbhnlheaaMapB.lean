/-
  A SET OF NUMBERS: map[int]bool, made by the call: what is looked up in it, what is put into it.
-/
import Derived.Test.YtockodmbhnlheaaMore
import Derived.Maps.Own
import Derived.Maps.OwnOps
import Derived.Maps.Views
namespace Go.Proofs.Ytockodmbhnlheaa
open Go.RowKit Go.Maps

theorem wf_i64 {x : Int} (h1 : -9223372036854775808 ≤ x) (h2 : x ≤ 9223372036854775807) : (Lit.int .i64 x).wf = true := by
  simp [Lit.wf, IntKind.min, IntKind.max, IntKind.signed, IntKind.bits]; omega
def seenD : List Int → DataW Unit
  | [] => .map []
  | x :: l => (seenD l).put (.int .i64 x) (.lit (.bool true))
theorem seenD_map : ∀ l : List Int, IsMap (seenD l)
  | [] => isMap_empty
  | _ :: l => (seenD_map l).put _ _
theorem seenD_at (x : Int) : ∀ l : List Int, (seenD l).atKey (.int .i64 x) (.lit (.bool false)) = .lit (.bool (decide (x ∈ l)))
  | [] => by simp [seenD]; rfl
  | y :: l => by
    unfold seenD
    by_cases h : x = y
    · subst h
      rw [atKey_put_same (seenD_map l) (show WideAt.IsKeyLit (.int .i64 x) from trivial)]; simp
    · rw [atKey_put_other (by intro e; injection e with _ e; exact h e)]
      rw [seenD_at x l]
      simp [h]

/-- block b of w is a set of at most n numbers: these. -/
def Seen (w : World) (b n : Nat) (l : List Int) : Prop := w.ownsMap Try.prog 3 (plainElem (H := Unit) Try.prog 4) b n (seenD l)
theorem Seen.made (w : World) : Seen (w.alloc (.map #[] 0)) w.heap.size 0 [] := World.ownsMap_made _ _ _ _
theorem Seen.lt {w : World} {b n : Nat} {l : List Int} (h : Seen w b n l) : b < w.heap.size := World.ownsMap.lt h
theorem Seen.kept {w w' : World} {b n : Nat} {l : List Int} {row : Option Nat} (h : Seen w b n l) (hg : w.grownBy w' row) (hne : some b ≠ row) : Seen w' b n l := World.ownsMap.kept h hg hne
theorem Seen.below {w w' : World} {b n B : Nat} {l : List Int} (h : Seen w b n l) (hb : Below B w w') (hB : b < B) : Seen w' b n l := by
  obtain ⟨es, clock, h1, h2⟩ := h
  exact ⟨es, clock, (hb.block b hB).trans h1, h2⟩
set_option maxRecDepth 100000 in
theorem Seen.look {w : World} {b n : Nat} {l : List Int} (h : Seen w b n l) (x : Int) (hx : -9223372036854775808 ≤ x ∧ x ≤ 9223372036854775807) :
    (Instr.lookup 149 (.map (some b)) (.int .i64 x) false).run Try.prog w = .ok (.bool (decide (x ∈ l))) w := by
  have hz : (zeroValue 4).run Try.prog w = .ok (.bool false) w := by kernel_rfl
  obtain ⟨v, ps, hrun, hv⟩ := World.ownsMap.lookup (R := plainElem (H := Unit) Try.prog 4) h (int_keyed Try.underlying3) Try.underlying149 hz (plainElem_bool Try.underlying4 false) (keyOf_int_mk Try.underlying3 (wf_i64 hx.1 hx.2))
  rw [seenD_at] at hv
  have : v = .bool (decide (x ∈ l)) := by
    unfold plainElem at hv
    rw [Try.underlying4] at hv
    cases v <;> simp at hv
    rename_i c
    obtain ⟨hv, _⟩ := hv
    cases c <;> simp_all
  rw [← this]; exact hrun
set_option maxRecDepth 100000 in
theorem Seen.put {w : World} {b n : Nat} {l : List Int} (h : Seen w b n l) (x : Int) (hx : -9223372036854775808 ≤ x ∧ x ≤ 9223372036854775807) (hn : n < maxLen) :
    ∃ w', (Instr.mapUpdate 149 (.map (some b)) (.int .i64 x) (.bool true)).run Try.prog w = .ok () w' ∧ Seen w' b (n + 1) (x :: l) ∧ w.grownBy w' (some b) :=
  World.ownsMap.update h (int_keyed Try.underlying3) Try.underlying149 hn (keyOf_int_mk Try.underlying3 (wf_i64 hx.1 hx.2)) (plainElem_bool Try.underlying4 true)
theorem make_set (w : World) : (Instr.makeMap 149 none).run Try.prog w = .ok (.map (some w.heap.size)) (w.alloc (.map #[] 0)) := run_makeMap _ w

end Go.Proofs.Ytockodmbhnlheaa
