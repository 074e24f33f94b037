/-
  MORE WORDS FOR MEMORY.
-/
import Derived.Test.YtockodmbhnlheaaSlc
namespace Go.Proofs.Ytockodmbhnlheaa
open Go.RowKit

theorem own_lit_at {base e k : Nat} (W : World) (cs : Array Value) (g n : Nat) (hg : g = W.heap.size) (hb : base ≤ W.heap.size) (hm : n ≤ maxLen) (hs : cs.size = n * k) :
    (W.alloc (.cells cs e)).ownsRow base e k (.slice (some ⟨g, 0, none⟩) n n) n cs.toList := by
  subst hg; exact World.ownsRow_lit W cs n hb hm hs
theorem Blk.new_at (w : World) (t : TypeId) (cs : Array Value) (g : Nat) (hg : g = w.heap.size) : Blk (w.alloc (.cells cs t)) g t cs := by
  subst hg; exact Blk.new w t cs
theorem ret_quiet {P : Program} {f : FuncId} {args : Array Value} {w : World} {v : Value} (h : Calls P f args w fun e w' => e = .returned v ∧ w = w') : Calls P f args w fun e w' => e = .returned v ∧ Below w.heap.size w w' :=
  h.mono fun _ _ ⟨h1, h2⟩ => ⟨h1, h2 ▸ Below.refl _ _⟩

theorem quiet_left {P : Program} {f : FuncId} {args : Array Value} {w : World} {n : Nat} {v : Value}
    (h : Calls P f args (w.drewN n) fun e w' => e = .returned v ∧ w.drewN n = w') : Calls P f args (w.drewN n) fun e w'' => e = .returned v ∧ ∃ m, w'' = w.drewN m :=
  h.mono fun _ _ ⟨he, hm⟩ => ⟨he, n, hm.symm⟩
theorem quiet_add_left {P : Program} {f : FuncId} {args : Array Value} {w : World} {a n : Nat} {v : Value}
    (h : Calls P f args (w.drewN (a + n)) fun e w' => e = .returned v ∧ w.drewN (a + n) = w') : Calls P f args (w.drewN (a + n)) fun e w'' => e = .returned v ∧ ∃ m, w'' = w.drewN (a + m) :=
  h.mono fun _ _ ⟨he, hm⟩ => ⟨he, n, hm.symm⟩

theorem rd_new3 (w : World) (cs : Array Value) (t : TypeId) (g : Nat) (hg : g = w.heap.size) (hn : cs.size = 3) : Rd (w.alloc (.cells cs t)) (g + 1) 3 (some ⟨g, 0, none⟩) 1 1 cs.toList := by
  subst hg
  exact ⟨by simp [hn], Nat.le_refl _, by decide, nofun, fun _ => ⟨_, _, rfl, by omega, fun j u hj => by rw [World.cell?_alloc_new]; simpa using hj⟩⟩

end Go.Proofs.Ytockodmbhnlheaa
