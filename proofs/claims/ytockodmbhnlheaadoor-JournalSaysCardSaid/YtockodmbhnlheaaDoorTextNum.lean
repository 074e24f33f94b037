/-
  text.numbers, walked.
-/
import Derived.Test.YtockodmbhnlheaaDoorTextPrint
namespace Go.Proofs.YtockodmbhnlheaaDoor
open Go.RowKit

def numsOf : List (List UInt8) → Option (List Int)
  | [] => some []
  | l :: r => match numOf l, numsOf r with
    | some a, some b => some (a :: b)
    | _, _ => none
theorem numsOf_app : ∀ (L : List (List UInt8)) (N : List Int) (l : List UInt8) (v : Int), numsOf L = some N → numOf l = some v → numsOf (L ++ [l]) = some (N ++ [v])
  | [], N, l, v, h, hv => by
    injection h with h; subst h
    show (match numOf l, numsOf [] with
      | some a, some b => some (a :: b)
      | _, _ => none) = _
    rw [hv]; rfl
  | x :: L, N, l, v, h, hv => by
    unfold numsOf at h
    split at h
    · rename_i a b ha hb
      injection h with h; subst h
      have ih := numsOf_app L b l v hb hv
      show (match numOf x, numsOf (L ++ [l]) with
        | some a, some b => some (a :: b)
        | _, _ => none) = _
      rw [ha, ih]; rfl
    · cases h
theorem numsOf_no : ∀ (L : List (List UInt8)) (l : List UInt8), l ∈ L → numOf l = none → numsOf L = none
  | x :: L, l, h, hv => by
    unfold numsOf
    rcases List.mem_cons.1 h with rfl | h
    · rw [hv]
    · rw [numsOf_no L l h hv]; split <;> simp_all
theorem bs_cmp (a b : List UInt8) : ((bs a).toList == (bs b).toList) = decide (a = b) := by
  rw [Lib.toList_data, Lib.toList_data, bs_data, bs_data, Bool.eq_iff_iff]; simp
theorem bs_cmpL (a b : List UInt8) : ((bs a).toList == b) = decide (a = b) := by
  rw [Lib.toList_data, bs_data, Bool.eq_iff_iff]; simp
theorem numOf_ne {l : List UInt8} {v : Int} (h : Lib.atoiAll l = .ok v) : numOf l = if Lib.itoa v = l then some v else none := by unfold numOf; rw [h]
theorem numOf_bad {l : List UInt8} (h : ∀ v, Lib.atoiAll l ≠ .ok v) : numOf l = none := by
  unfold numOf
  split
  · rename_i v hv; exact absurd hv (h v)
  · rfl

set_option maxHeartbeats 1000000 in
set_option maxRecDepth 100000 in
theorem numbers_any (L : List (List UInt8)) (A : Option Addr) (n c B : Nat) (w : World) (hr : Rd w B 1 A n c (strs L)) (hB : B ≤ w.heap.size) (he : Env w) (hn : L.length ≤ 40000) (hl : ∀ l ∈ L, l.length ≤ 281474976710656) :
    Calls Tryd.prog 35 #[.slice A n c] w fun e w' => ∃ v N, e = .returned (.tuple #[v, .bool (numsOf L).isSome]) ∧ N = (numsOf L).getD [] ∧ w'.ownsRow w.heap.size 3 1 v N.length (ints N) ∧ Below w.heap.size w w' := by
  have hlen : L.length = n := by have := hr.len; rw [strs_len] at this; omega
  have HR := Lib.hid hr
  have HE := Lib.hid he
  have HL := Lib.hid hl
  have HN := Lib.hid hlen
  have hn' : n ≤ 40000 := by omega
  clear hr he hl hlen hn
  go_enter Tryd.func35, Tryd.ntmps35
  go_wp2_with fail
  go_loopw [11, 4] (fun vi v4 wr => ∃ (j : Nat) (N : List Int), j ≤ n ∧ vi = .int .i64 j ∧ Hid (numsOf (L.take j) = some N) ∧ Hid (N.length = j) ∧ Hid (wr.ownsRow w.heap.size 3 1 v4 j (ints N)) ∧ Below w.heap.size w wr) (fun vi _ _ => n - (intOf vi).toNat)
  case atStart => exact ⟨0, [], by omega, rfl, Lib.hid rfl, Lib.hid rfl, Lib.hid (World.ownsRow_nil _ _ _ _), Below.refl _ _⟩
  case round =>
    obtain ⟨j, N, hj, rfl, HV, HNL, HO, hbr⟩ := hrel
    have hsr := hbr.size
    by_cases hlt : j < n
    · obtain ⟨x, hx⟩ : ∃ x, L[j]? = some x := ⟨_, List.getElem?_eq_getElem (by rw [HN.out]; exact hlt)⟩
      obtain ⟨b, o, rfl, hb, kx⟩ := (HR.out.below (hbr.mono hB)).one (strs_at hx)
      have HX := Lib.hid hx
      have hxm := Lib.hid (List.mem_of_getElem? hx)
      clear hx
      go_wp2_with fail
      refine (atoi_any x (HL.out x hxm.out) _ (HE.out.next hbr)).mono ?_
      rintro e w2 ⟨hat, hb2⟩
      have hs2 := hb2.size
      have hbr2 := hbr.trans (hb2.mono hsr)
      have HO2 := Lib.hid (own_below HO.out hb2 (Nat.le_refl _))
      clear HO hb2 kx
      rcases hat with ⟨v, hv, rfl⟩ | ⟨hv, z, t, p, rfl⟩
      · have hvb := Lib.atoiAll_bounds hv
        have HI := Lib.hid (itoa_any v hvb w2 (HE.out.next hbr2))
        by_cases hw : Lib.itoa v = x
        · have HNO := Lib.hid ((numOf_ne hv).trans (if_pos hw))
          have hc : ((bs (Lib.itoa v)).toList == (bs x).toList) = true := by rw [bs_cmp]; exact decide_eq_true hw
          have HV2 := Lib.hid (show numsOf (L.take (j + 1)) = some (N ++ [v]) by rw [List.take_add_one, HX.out]; exact numsOf_app _ _ _ _ HV.out HNO.out)
          have HNL2 := Lib.hid (show (N ++ [v]).length = j + 1 by rw [List.length_append, HNL.out]; rfl)
          clear hw hv
          go_wp2_with (first
            | (go_at_call 29; refine HI.out.mono ?_; rintro e w3 ⟨rfl, hb3⟩; have HO3 := Lib.hid (own_below HO2.out hb3 (Nat.le_refl _)))
            | (at_builtin; refine wpList_app rfl _ _ _ rfl w.heap.size 3 1 8 elem_int u4 j (ints N) rfl (World.ownsRow.alloc HO3.out _) (w3.heap.size + 1) (some ⟨w3.heap.size, 0, none⟩) 1 1 (ints [v]) rfl (rd_newT _ _ _ 1 rfl rfl _ rfl) (one_ints [v]) (by unfold maxLen; omega) (by omega) (by have := hb3.size; simp; omega) ?_; intro v5 w5 hown5 hbel5 hgr5 hat5))
          have HO5 := Lib.hid (show w5.ownsRow w.heap.size 3 1 v5 (j + 1) (ints (N ++ [v])) by rw [show ints (N ++ [v]) = ints N ++ ints [v] by simp [ints]]; exact hown5)
          have hb5 := (hbr2.trans (hb3.mono (by omega))).trans (((Below.refl w3.heap.size w3).alloc (Nat.le_refl _) (.cells #[.int .i64 v] 3)).mono (by have := hb3.size; omega) |>.trans hbel5)
          go_roundw
          case rel => exact ⟨j + 1, N ++ [v], by omega, by go_num, HV2, HNL2, HO5, hb5⟩
          case measure => simp [intOf]; omega
        · have HNO := Lib.hid (numsOf_no L x hxm.out ((numOf_ne hv).trans (if_neg hw)))
          have hc : ((bs (Lib.itoa v)).toList == (bs x).toList) = false := by rw [bs_cmp]; exact decide_eq_false hw
          clear hw hv
          go_wp2_with (go_at_call 29; refine HI.out.mono ?_; rintro e w3 ⟨rfl, hb3⟩)
          go_ret2
          rw [HNO.out]
          exact ⟨_, [], rfl, rfl, World.ownsRow_nil _ _ _ _, hbr2.trans (hb3.mono (by omega))⟩
      · have HNO := Lib.hid (numsOf_no L x hxm.out (numOf_bad hv))
        clear hv
        go_wp2_with fail
        go_ret2
        rw [HNO.out]
        exact ⟨_, [], rfl, rfl, World.ownsRow_nil _ _ _ _, hbr2⟩
    · have hjn : j = n := by omega
      have HNO := Lib.hid (show numsOf L = some N by have := HV.out; rwa [hjn, List.take_of_length_le (by rw [HN.out]; exact Nat.le_refl _)] at this)
      have HO2 := Lib.hid (show wr.ownsRow w.heap.size 3 1 u4 N.length (ints N) by rw [HNL.out]; exact HO.out)
      clear hjn
      go_wp2_with fail
      go_ret2
      rw [HNO.out]
      exact ⟨_, N, rfl, rfl, HO2.out, hbr⟩
end Go.Proofs.YtockodmbhnlheaaDoor
