/-
  The document's number, walked.
-/
import Derived.Test.YtockodmbhnlheaaDoorRefEnv
import Derived.Test.YtockodmbhnlheaaDoorTextNum
namespace Go.Proofs.YtockodmbhnlheaaDoor
open Go.RowKit

set_option maxHeartbeats 1000000 in
set_option maxRecDepth 100000 in
theorem number_any (l : List UInt8) (hl : l.length ≤ 281474976710656) (w : World) (he : Env w) :
    Calls Tryd.prog 43 #[.string (bs l)] w fun e w' => (∃ n, e = .returned (.tuple #[.int .i64 n, .bool (numOf l).isSome]) ∧ ∀ v, numOf l = some v → n = v) ∧ Below w.heap.size w w' := by
  have HE := Lib.hid he
  have HP := Lib.hid (parseInt_any l hl w he)
  clear he
  go_enter Tryd.func43, Tryd.ntmps43
  go_wp2_with fail
  refine HP.out.mono ?_
  rintro e w2 ⟨hat, hb2⟩
  have hs2 := hb2.size
  rcases hat with ⟨v, hv, rfl⟩ | ⟨hv, z, t, p, rfl⟩
  · have hvb := Lib.atoiAll_bounds hv
    have HI := Lib.hid (format_any v hvb w2 (HE.out.next hb2))
    by_cases hw : Lib.itoa v = l
    · have HNO := Lib.hid ((numOf_ne hv).trans (if_pos hw))
      have hc : ((bs (Lib.itoa v)).toList == (bs l).toList) = true := by rw [bs_cmp]; exact decide_eq_true hw
      clear hw hv
      go_wp2_with (go_at_call 45; refine HI.out.mono ?_; rintro e w3 ⟨rfl, hb3⟩)
      go_ret2
      rw [HNO.out]
      exact ⟨⟨_, rfl, fun v' h => by injection h⟩, hb2.trans (hb3.mono hs2)⟩
    · have HNO := Lib.hid ((numOf_ne hv).trans (if_neg hw))
      have hc : ((bs (Lib.itoa v)).toList == (bs l).toList) = false := by rw [bs_cmp]; exact decide_eq_false hw
      clear hw hv
      go_wp2_with (go_at_call 45; refine HI.out.mono ?_; rintro e w3 ⟨rfl, hb3⟩)
      go_ret2
      rw [HNO.out]
      exact ⟨⟨_, rfl, fun v' h => by cases h⟩, hb2.trans (hb3.mono hs2)⟩
  · have HNO := Lib.hid (numOf_bad hv)
    clear hv
    go_wp2_with fail
    go_ret2
    rw [HNO.out]
    exact ⟨⟨_, rfl, fun v' h => by cases h⟩, hb2⟩
end Go.Proofs.YtockodmbhnlheaaDoor
