/-
  THE WALK over the document's OwnAccount.
-/
import Derived.Test.YtockodmbhnlheaaRefFix
import Derived.Test.YtockodmbhnlheaaAcc
import Derived.Test.YtockodmbhnlheaaMore
namespace Go.Proofs.Ytockodmbhnlheaa
open Go.RowKit

set_option maxHeartbeats 1000000 in
theorem rown_any (id bal : Int) (A : Option Addr) (n c : Nat) (l : List Int) (B : Nat) (w : World) (h : Rd w B 1 A n c (ints l)) (hB : B ≤ w.heap.size) (hb : n * 8 ≤ 140737488355328) :
    Calls Try.prog 44 #[.agg #[.int .i64 id, .int .i64 bal, .slice A n c]] w (RetAcc w id bal n (ints l)) := by
  have hle := h.le
  have hcap := h.cap
  have HR := Lib.hid h
  clear h
  go_enter Try.func44, Try.ntmps44
  go_wp2_with (at_builtin; go_must (refine wpList_app rfl _ _ _ rfl (w.heap.size + 1 + 1) _ _ _ elem_int _ 0 [] rfl (own_lit_at ((w.alloc _).alloc _) #[] _ 0 (by simp) (by simp) (by decide) rfl) B _ n c (ints l) rfl (((HR.out.alloc hB _).alloc (by simp; omega) _).alloc (by simp; omega) _) (one_ints l) (by simp only [maxLen] at hcap ⊢; omega) (by omega) (by simp) ?_); intro v' w1 hown hbel hg _; rw [Nat.zero_add, List.nil_append] at hown; obtain ⟨A1, c1, rfl⟩ := own_shape hown; clear hg; have kk := ((((Blk.new w 37 #[.int .i64 id, .int .i64 bal, .slice A n c]).alloc (.cells #[.int .i64 0, .int .i64 0, .slice none 0 0] 37)).alloc (.cells #[] 3)).below hbel (by omega)).c3; have jj := (((Blk.new_at (w.alloc (.cells #[.int .i64 id, .int .i64 bal, .slice A n c] 37)) 37 #[.int .i64 0, .int .i64 0, .slice none 0 0] (w.heap.size + 1) (by simp)).alloc (.cells #[] 3)).below hbel (by omega)).c3; obtain ⟨⟨k0, k1, k2⟩, f0, f1, f2⟩ := kk; obtain ⟨⟨j0, j1, j2⟩, g0, g1, g2⟩ := jj; have hz : w.heap.size + 1 + 1 < w1.heap.size := by have := hbel.size; simp at this; omega)
  refine bodyPost_ret (v := .agg #[.int .i64 id, .int .i64 bal, .slice A1 n c1]) (by simp [results, Try.results44, go_sem, *]) rfl ?_
  refine ⟨A1, c1, rfl, own_mono (base := w.heap.size + 1 + 1) ?_ (by omega), ?_⟩
  · repeat (first | exact hown | refine ownsRow_setCell_below ?_ (by simp <;> omega) _)
  · have h0 : Below w.heap.size w w1 := ((((Below.refl _ _).alloc (Nat.le_refl _) _).alloc (by simp) _).alloc (by simp; omega) _).trans (hbel.mono (by omega))
    repeat (first | exact h0 | refine Below.setCell ?_ (by simp) _)

end Go.Proofs.Ytockodmbhnlheaa
