/-
  tollboothlaw.spelt, walked.
-/
import Derived.Test.YtockodmbhnlheaaDoorTextParse
namespace Go.Proofs.YtockodmbhnlheaaDoor
open Go.RowKit

theorem spelt_print : printOf ⟨3, 3, 1, 0, ⟨0, 0, -1, 7, 2⟩, 2, true⟩ = ([112, 108, 97, 99, 101, 32, 51, 32, 49, 32, 115, 101, 108, 108, 32, 50, 32, 55, 32, 110, 111, 119, 32, 114, 101, 100, 117, 99, 101], 0) := by decide +kernel
theorem spelt_parse : parseOf [105, 110, 100, 101, 120, 32, 49, 32, 53, 48] = (⟨5, 0, 1, 50, ⟨0, 0, 0, 0, 0⟩, 0, false⟩, 0) := by kernel_rfl
theorem spelt_fit : FitC ⟨3, 3, 1, 0, ⟨0, 0, -1, 7, 2⟩, 2, true⟩ := ⟨by constructor <;> decide, by constructor <;> decide, by constructor <;> decide, by constructor <;> decide, by constructor <;> decide⟩
set_option maxHeartbeats 1000000 in
set_option maxRecDepth 100000 in
theorem spelt_any (w : World) (he : Env w) : Calls Tryd.prog 8 #[] w fun e w' => e = .returned (.bool true) ∧ Below w.heap.size w w' := by
  have HE := Lib.hid he
  clear he
  go_enter Tryd.func8, Tryd.ntmps8
  go_wp2_with fail
  refine (textPrint_any ⟨3, 3, 1, 0, ⟨0, 0, -1, 7, 2⟩, 2, true⟩ w HE.out spelt_fit).mono ?_
  rintro e w1 ⟨rfl, hb1⟩
  rw [spelt_print]
  have HB1 := Lib.hid hb1
  clear hb1
  go_wp2_with fail
  refine (parse_any [105, 110, 100, 101, 120, 32, 49, 32, 53, 48] w1 (HE.out.next HB1.out)).mono ?_
  rintro e w2 ⟨x, k, rfl, hp, hb2⟩
  rw [spelt_parse] at hp
  injection hp with h1 h2
  subst h1 h2
  have HB2 := Lib.hid (HB1.out.trans (hb2.mono HB1.out.size))
  have hs2 := HB2.out.size
  clear hb2
  unfold cmV
  go_upto_region 3 with (fail)
  refine wp_nameT ?_
  intro w3 hw3
  have X3 : Blk w3 w2.heap.size 25 #[.int .i64 5, .int .i64 0, .int .i64 1, .int .i64 50, .int .i64 0, .int .i64 0, .int .i64 0, .int .i64 0, .int .i64 0, .int .i64 0, .bool false] := by rw [hw3]; exact Blk.new w2 _ _
  have HB3 : Hid (Below w.heap.size w w3) := by rw [hw3]; exact Lib.hid (HB2.out.alloc hs2 _)
  clear hw3
  obtain ⟨⟨v0, v1, v2, v3, v4, v5, v6, v7, v8, v9, v10⟩, -⟩ := bl_c11 X3
  have q := fun w => run_eql_cm ⟨5, 0, 1, 50, ⟨0, 0, 0, 0, 0⟩, 0, false⟩ ⟨5, 0, 1, 50, ⟨0, 0, 0, 0, 0⟩, 0, false⟩ w
  rw [show eqCm ⟨5, 0, 1, 50, ⟨0, 0, 0, 0, 0⟩, 0, false⟩ ⟨5, 0, 1, 50, ⟨0, 0, 0, 0, 0⟩, 0, false⟩ = true by decide] at q
  dsimp only at q
  have d : ((bs [112, 108, 97, 99, 101, 32, 51, 32, 49, 32, 115, 101, 108, 108, 32, 50, 32, 55, 32, 110, 111, 119, 32, 114, 101, 100, 117, 99, 101]).toList == [112, 108, 97, 99, 101, 32, 51, 32, 49, 32, 115, 101, 108, 108, 32, 50, 32, 55, 32, 110, 111, 119, 32, 114, 101, 100, 117, 99, 101]) = true := by rw [bs_cmpL]; exact decide_eq_true rfl
  go_wp2_with fail
  go_ret
  exact ⟨rfl, HB3.out⟩
end Go.Proofs.YtockodmbhnlheaaDoor
