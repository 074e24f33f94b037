/-
  text.kinds, text.hows: the words.
-/
import Derived.Test.YtockodmbhnlheaaDoorTextPut
namespace Go.Proofs.YtockodmbhnlheaaDoor
open Go.RowKit

theorem run_index_arr {P : Program} {t e : TypeId} {n : Nat} (h : P.underlying t = some (.array n e)) (he : P.underlying e = some .string) (hz : ∀ w, (sizeOf e).run P w = .ok 1 w) (cs : Array Value) (k : Nat) (hk : k < n) (v : Value) (hv : cs[k]? = some v) (w : World) : (Instr.index t (.agg cs) (.int .i64 (k : Int))).run P w = .ok v w := by
  unfold Instr.index
  simp [asIntOf, go_sem, run_underlying h, Result.andThen, hz, hk, hv, isAgg, run_underlying he]
theorem kinds_any (w : World) : Calls Tryd.prog 27 #[] w fun e w' => e = .returned (.agg #[.string (bs []), .string (bs wDeposit), .string (bs wWithdraw), .string (bs wPlace), .string (bs wCancel), .string (bs wIndex), .string (bs wFund), .string (bs wSweep)]) ∧ Below w.heap.size w w' := by
  go_enter Tryd.func27, Tryd.ntmps27
  go_wp2_with fail
  refine bodyPost_ret (v := .agg #[.string (bs []), .string (bs wDeposit), .string (bs wWithdraw), .string (bs wPlace), .string (bs wCancel), .string (bs wIndex), .string (bs wFund), .string (bs wSweep)]) (by simp [results, Tryd.results27, go_sem]; exact ⟨rfl, rfl, rfl, rfl, rfl, rfl, rfl, rfl⟩) rfl ⟨rfl, ?_⟩
  exact (Below.refl _ _).alloc (Nat.le_refl _) _
theorem hows_any (w : World) : Calls Tryd.prog 30 #[] w fun e w' => e = .returned (.agg #[.string (bs []), .string (bs wLimit), .string (bs wNow), .string (bs wWhole), .string (bs wPost)]) ∧ Below w.heap.size w w' := by
  go_enter Tryd.func30, Tryd.ntmps30
  go_wp2_with fail
  refine bodyPost_ret (v := .agg #[.string (bs []), .string (bs wLimit), .string (bs wNow), .string (bs wWhole), .string (bs wPost)]) (by simp [results, Tryd.results30, go_sem]; exact ⟨rfl, rfl, rfl, rfl, rfl⟩) rfl ⟨rfl, ?_⟩
  exact (Below.refl _ _).alloc (Nat.le_refl _) _
theorem run_kinds (k : Nat) (hk : k < 8) (w : World) : (Instr.index 56 (.agg #[.string (bs []), .string (bs wDeposit), .string (bs wWithdraw), .string (bs wPlace), .string (bs wCancel), .string (bs wIndex), .string (bs wFund), .string (bs wSweep)]) (.int .i64 (k : Int))).run Tryd.prog w = .ok (.string (bs (kindW k))) w := by
  refine run_index_arr Tryd.underlying56 Tryd.underlying9 (fun _ => by kernel_rfl) _ k hk _ ?_ w
  obtain rfl | rfl | rfl | rfl | rfl | rfl | rfl | rfl : k = 0 ∨ k = 1 ∨ k = 2 ∨ k = 3 ∨ k = 4 ∨ k = 5 ∨ k = 6 ∨ k = 7 := by omega
  all_goals rfl
theorem run_hows (k : Nat) (hk : k < 5) (w : World) : (Instr.index 62 (.agg #[.string (bs []), .string (bs wLimit), .string (bs wNow), .string (bs wWhole), .string (bs wPost)]) (.int .i64 (k : Int))).run Tryd.prog w = .ok (.string (bs (howW k))) w := by
  refine run_index_arr Tryd.underlying62 Tryd.underlying9 (fun _ => by kernel_rfl) _ k hk _ ?_ w
  obtain rfl | rfl | rfl | rfl | rfl : k = 0 ∨ k = 1 ∨ k = 2 ∨ k = 3 ∨ k = 4 := by omega
  all_goals rfl
end Go.Proofs.YtockodmbhnlheaaDoor
