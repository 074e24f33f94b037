/-
  make([]int, n): n zeros in a new block.
-/
import Derived.Test.YtockodmbhnlheaaMore
import Derived.Laws.MakeOwn
namespace Go.Proofs.Ytockodmbhnlheaa
open Go.RowKit

def zeros (k : Nat) : Array Value := (ints (List.replicate k 0)).toArray
theorem zeros_size (k : Nat) : (zeros k).size = k := by simp [zeros, ints]
theorem zeros_list (k : Nat) : (zeros k).toList = ints (List.replicate k 0) := by simp [zeros]
theorem info_int : (Try.prog.info? 3).map (fun i => (i.zero, i.size, i.bytes)) = some (some (.int .i64 0), 1, 8) := by kernel_rfl
theorem run_zeros (k : Nat) (hk : k ≤ 1000000) (w : World) : (Instr.makeSlice 24 (.int .i64 (k : Int)) (.int .i64 (k : Int))).run Try.prog w = .ok (.slice (some ⟨w.heap.size, 0, none⟩) k k) (w.alloc (.cells (zeros k) 3)) := by
  have hi := info_int
  cases h : Try.prog.info? 3 with
  | none => rw [h] at hi; cases hi
  | some i =>
    rw [h] at hi
    simp only [Option.map_some, Option.some.injEq, Prod.mk.injEq] at hi
    obtain ⟨h1, h2, h3⟩ := hi
    have hr := run_make (P := Try.prog) (w := w) 24 3 i (.int .i64 0) Try.underlying24 h h1 .i64 .i64 k k (by omega) (by omega) (by rw [h3]; omega) (by omega)
    rw [hr, h2]
    simp only [Int.toNat_natCast, Nat.mul_one]
    have : madeCells (Value.cells (.int .i64 0)) k = zeros k := by
      apply Array.ext
      · simp [madeCells, zeros, ints]
      · intro j h1 h2
        simp [madeCells, zeros, ints, Value.cells, Nat.mod_one]
    rw [this]
theorem rd_zeros (w : World) (k g : Nat) (hg : g = w.heap.size) (hk : k ≤ maxLen) : Rd (w.alloc (.cells (zeros k) 3)) (g + 1) 1 (some ⟨g, 0, none⟩) k k (ints (List.replicate k 0)) := by
  have := Rd.new_at w (zeros k) 3 g k hg (zeros_size k) hk
  rwa [zeros_list] at this

end Go.Proofs.Ytockodmbhnlheaa
