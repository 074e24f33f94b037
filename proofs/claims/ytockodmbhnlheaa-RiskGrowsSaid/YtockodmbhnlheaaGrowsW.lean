/-
  THE WALK of the law RiskGrows.
-/
import Derived.Test.YtockodmbhnlheaaWeighed
import Derived.Test.YtockodmbhnlheaaRefOwn
import Derived.Test.YtockodmbhnlheaaAt
import Derived.RegionTactic
import Derived.Deep.DeepCutAuto
namespace Go.Proofs.Ytockodmbhnlheaa
open Go.RowKit

set_option maxRecDepth 100000 in
set_option maxHeartbeats 2000000 in
theorem grows_err (a : Ac) (A A2 : Option Addr) (c n2 c2 : Nat) (marks : List Int) (market more : Int) (x y em : Int) (w : World) (ha : Rd w w.heap.size 1 A a.pos.length c (ints a.pos)) (hm : Rd w w.heap.size 1 A2 n2 c2 (ints marks)) (hx : marginsOf a marks = (x, y, em))
    (hbad : (em != 0) = true ∨ (em != 0) = false ∧ market < 0 ∨ (em != 0) = false ∧ 0 ≤ market ∧ (a.pos.length : Int) ≤ market) :
    Calls Try.prog 12 #[.agg #[.int .i64 a.id, .int .i64 a.bal, .slice A a.pos.length c], .slice A2 n2 c2, .int .i64 market, .int .i64 more] w fun e w' => e = .returned (.bool true) ∧ Below w.heap.size w w' := by
  have HX := Lib.hid hx
  clear hx
  rcases hbad with h1 | ⟨h1, h2⟩ | ⟨h1, h2, h3⟩
  all_goals
    go_enter Try.func12, Try.ntmps12
    go_wp2_with fail
    refine (margins_any a _ _ _ _ _ marks _ _ _ (ha.alloc (Nat.le_refl _) _) (by simp) (hm.alloc (Nat.le_refl _) _) (by simp)).mono ?_
    rw [HX.out]
    rintro e w1 ⟨rfl, hb1⟩
    have hs1 : w.heap.size < w1.heap.size := by have := hb1.size; simp at this; omega
    have h91 : Below w.heap.size w w1 := ((Below.refl _ _).alloc (Nat.le_refl _) _).trans (hb1.mono (by simp))
    have B1 := (Blk.new w 37 #[.int .i64 a.id, .int .i64 a.bal, .slice A a.pos.length c]).below hb1 (by simp)
    clear hb1
    go_wp2_with fail
    refine (weighed_any _).mono ?_
    rintro e w2 ⟨rfl, hb2⟩
    obtain ⟨⟨b0, b1, b2⟩, _⟩ := (B1.below hb2 hs1).c3
    go_wp2_with fail
    refine (weighed_any _).mono ?_
    rintro e w3 ⟨rfl, hb3⟩
    go_wp2_with fail
    go_ret
    exact ⟨rfl, (h91.trans (hb2.mono (by omega))).trans (hb3.mono (by have := hb2.size; omega))⟩

theorem margins_at (id bal : Int) (l : List Int) (A A' : Option Addr) (n c n' c' : Nat) (marks : List Int) (B B' : Nat) (w : World) (h : Rd w B 1 A n c (ints l)) (hB : B ≤ w.heap.size) (h' : Rd w B' 1 A' n' c' (ints marks)) (hB' : B' ≤ w.heap.size) :
    Calls Try.prog 56 #[.agg #[.int .i64 id, .int .i64 bal, .slice A n c], .slice A' n' c'] w fun e w' =>
      e = .returned (.tuple #[.int .i64 (marginsOf ⟨id, bal, l⟩ marks).1, .int .i64 (marginsOf ⟨id, bal, l⟩ marks).2.1, .int .i64 (marginsOf ⟨id, bal, l⟩ marks).2.2]) ∧ Below w.heap.size w w' := by
  have := h.ofInts
  subst this
  exact margins_any ⟨id, bal, l⟩ A A' c n' c' marks B B' w h hB h' hB'
/-- the first j ones turned. -/
def turned (l : List Int) (j : Nat) : List Int := (l.take j).map (fun n => -n) ++ l.drop j
theorem turned_len (l : List Int) (j : Nat) (h : j ≤ l.length) : (turned l j).length = l.length := by simp [turned]; omega
theorem turned_get {l : List Int} {j : Nat} {z : Int} (hz : l[j]? = some z) : (turned l j)[j]? = some z := by
  have hj := (List.getElem?_eq_some_iff.1 hz).1
  unfold turned
  rw [List.getElem?_append_right (by simp; omega)]
  simp [Nat.min_eq_left (Nat.le_of_lt hj), hz]
theorem turned_set {l : List Int} {j : Nat} {z : Int} (hz : l[j]? = some z) : (turned l j).set j (-z) = turned l (j + 1) := by
  obtain ⟨hj, he⟩ := List.getElem?_eq_some_iff.1 hz
  unfold turned
  rw [List.set_append_right _ _ (by simp; omega), List.drop_eq_getElem_cons hj, he, List.take_add_one, hz]
  simp [Nat.min_eq_left (Nat.le_of_lt hj)]
theorem turned_all (l : List Int) : turned l l.length = l.map (fun n => -n) := by simp [turned]


set_option maxRecDepth 100000 in
set_option maxHeartbeats 4000000 in
theorem grows_ok (a : Ac) (A A2 : Option Addr) (c n2 c2 : Nat) (marks : List Int) (k : Nat) (more x y : Int) (w : World) (ha : Rd w w.heap.size 1 A a.pos.length c (ints a.pos)) (hm : Rd w w.heap.size 1 A2 n2 c2 (ints marks)) (hx : marginsOf a marks = (x, y, 0)) (hk : k < a.pos.length) :
    Calls Try.prog 12 #[.agg #[.int .i64 a.id, .int .i64 a.bal, .slice A a.pos.length c], .slice A2 n2 c2, .int .i64 k, .int .i64 more] w fun e w' => e = .returned (.bool true) ∧ Below w.heap.size w w' := by
  have HX := Lib.hid hx
  obtain ⟨_, ⟨hl1, hl2⟩, hl3, _, hpo⟩ := accCheck_ok (margins_ok hx).1
  have hn2 : a.pos.length ≤ 2 := by omega
  have hlen : a.pos.length * 8 ≤ 140737488355328 := by omega
  have HPO := Lib.hid hpo
  have hki : (k : Int) < (a.pos.length : Int) := by omega
  clear hx hpo hl3 hl1 hl2
  go_enter Try.func12, Try.ntmps12
  go_wp2_with fail
  refine (margins_any a _ _ _ _ _ marks _ _ _ (ha.alloc (Nat.le_refl _) _) (by simp) (hm.alloc (Nat.le_refl _) _) (by simp)).mono ?_
  rw [HX.out]
  rintro e w1 ⟨rfl, hb1⟩
  have hs1 : w.heap.size < w1.heap.size := by have := hb1.size; simp at this; omega
  have h91 : Below w.heap.size w w1 := ((Below.refl _ _).alloc (Nat.le_refl _) _).trans (hb1.mono (by simp))
  have B1 := (Blk.new w 37 #[.int .i64 a.id, .int .i64 a.bal, .slice A a.pos.length c]).below hb1 (by simp)
  clear hb1
  go_wp2_with fail
  refine (weighed_any _).mono ?_
  rintro e w2 ⟨rfl, hb2⟩
  have B2 := B1.below hb2 hs1
  have h92 := h91.trans (hb2.mono (by omega))
  have hs2 : w.heap.size < w2.heap.size := by have := hb2.size; omega
  obtain ⟨⟨b0, b1, b2⟩, _⟩ := B2.c3
  clear hb2 B1 h91 hs1
  go_wp2_with fail
  refine (rown_any _ _ _ _ _ _ _ _ (ha.below h92) (by omega) hlen).mono ?_
  rintro e w3 ⟨A3, c3, rfl, hown3, hb3⟩
  obtain ⟨g3, hA3, hg3⟩ : ∃ g3, A3 = some ⟨g3, 0, none⟩ ∧ w2.heap.size ≤ g3 := by
    obtain ⟨_, ⟨_, hn⟩ | ⟨g, cap, cur, hv, h1, _⟩⟩ := hown3
    · omega
    · injection hv with hA; exact ⟨g, hA, h1⟩
  subst hA3
  have hg4 : g3 < w3.heap.size := (hown3.lt g3 rfl).2
  have B3 := B2.below hb3 hs2
  have h93 := h92.trans (hb3.mono (by omega))
  have hs3 : w2.heap.size ≤ w3.heap.size := hb3.size
  clear b0 b1 b2 B2 hb3
  go_wp2_with fail
  have C4 := Blk.new w3 37 #[.int .i64 a.id, .int .i64 a.bal, .slice (some ⟨g3, 0, none⟩) a.pos.length c3]
  have B4 := B3.alloc (.cells #[.int .i64 a.id, .int .i64 a.bal, .slice (some ⟨g3, 0, none⟩) a.pos.length c3] 37)
  have O4 := World.ownsRow.alloc hown3 (.cells #[.int .i64 a.id, .int .i64 a.bal, .slice (some ⟨g3, 0, none⟩) a.pos.length c3] 37)
  have h94 : Below w.heap.size w _ := h93.alloc (o := .cells #[.int .i64 a.id, .int .i64 a.bal, .slice (some ⟨g3, 0, none⟩) a.pos.length c3] 37) (by omega)
  obtain ⟨W, hW⟩ : ∃ W, W = w3.alloc (.cells #[.int .i64 a.id, .int .i64 a.bal, .slice (some ⟨g3, 0, none⟩) a.pos.length c3] 37) := ⟨_, rfl⟩
  rw [← hW] at C4 B4 O4 h94
  have hsW : W.heap.size = w3.heap.size + 1 := by rw [hW]; simp
  rw [← hW]
  have HSW := Lib.hid hsW
  clear hW hsW hown3 B3 h93
  go_loopw [13, 49] (fun _ i wr => ∃ j : Nat, j ≤ a.pos.length ∧ i = .int .i64 j ∧ Hid (wr.heap.size = W.heap.size) ∧ Below w.heap.size w wr ∧ Blk wr w.heap.size 37 #[.int .i64 a.id, .int .i64 a.bal, .slice A a.pos.length c] ∧
      Blk wr w3.heap.size 37 #[.int .i64 a.id, .int .i64 a.bal, .slice (some ⟨g3, 0, none⟩) a.pos.length c3] ∧ Hid (wr.ownsRow w2.heap.size 3 1 (.slice (some ⟨g3, 0, none⟩) a.pos.length c3) a.pos.length (ints (turned a.pos j)))) (fun _ i _ => a.pos.length - (intOf i).toNat)
  case atStart => exact ⟨0, Nat.zero_le _, rfl, rfl, h94, B4, C4, O4⟩
  case round =>
    obtain ⟨j, hj, rfl, HS, hbr, Br, Cr, HO⟩ := hrel
    by_cases hlt : j < a.pos.length
    · have hz : a.pos[j]? = some a.pos[j] := List.getElem?_eq_getElem hlt
      obtain ⟨z, hz0⟩ : ∃ z, a.pos[j]? = some z := ⟨_, hz⟩
      have hzb := posOk_get HPO.out hz0
      have hk3 := HO.out.cellAt j (by omega)
      rw [ints_get (turned_get hz0)] at hk3
      have hf3 := HO.out.frozenAt j
      have HZ := Lib.hid hz0
      obtain ⟨⟨c0, c1, c2⟩, _⟩ := Cr.c3
      have x1 : (0 : Int) ≤ (j : Int) := by omega
      have x2 : (j : Int) < (a.pos.length : Int) := by omega
      have hg5 : g3 ≠ w3.heap.size := by omega
      have hg6 : g3 ≠ w.heap.size := by omega
      clear hz hz0
      go_wp2_with fail
      go_region
      have HO2 := Lib.hid (World.ownsRow.stored HO.out j (.int .i64 (-z))).1
      have HS2 := Lib.hid (show ((wr.setCell ⟨g3, j, none⟩ (.int .i64 (-z))).drew).heap.size = W.heap.size by rw [← HS.out]; simp [World.setCell, World.drew])
      have Br2 := (Br.far (p := ⟨g3, j, none⟩) (by show w.heap.size ≠ g3; omega) (.int .i64 (-z))).drewN 1
      have Cr2 := (Cr.far (p := ⟨g3, j, none⟩) (by show w3.heap.size ≠ g3; omega) (.int .i64 (-z))).drewN 1
      have hbr2 := below_drewN (hbr.setCell (p := ⟨g3, j, none⟩) (by show w.heap.size ≤ g3; omega) (.int .i64 (-z))) 1
      have HO3 := Lib.hid (show ((wr.setCell ⟨g3, j, none⟩ (.int .i64 (-z))).drew).ownsRow w2.heap.size 3 1 (.slice (some ⟨g3, 0, none⟩) a.pos.length c3) a.pos.length (ints (turned a.pos (j + 1))) by
        rw [← turned_set HZ.out]
        have := HO2.out
        rw [show (ints (turned a.pos j)).set j (.int .i64 (-z)) = ints ((turned a.pos j).set j (-z)) by simp [ints, List.map_set]] at this
        exact this)
      go_wp2_with fail
      go_roundw
      case rel => exact ⟨j + 1, by omega, by go_num, HS2, hbr2, Br2, Cr2, HO3⟩
      case measure => simp [intOf]; omega
    · obtain rfl : j = a.pos.length := by omega
      have hsw := HS.out
      rw [HSW.out] at hsw
      have hw0 : w.heap.size < wr.heap.size := by omega
      have hw3 : w3.heap.size < wr.heap.size := by omega
      have hg3w : w2.heap.size ≤ wr.heap.size := by omega
      have HSZ := Lib.hid hsw
      have ro := Rd.of_own HO.out
      rw [turned_all] at ro
      obtain ⟨z, hz⟩ : ∃ z, a.pos[k]? = some z := ⟨_, List.getElem?_eq_getElem hk⟩
      obtain ⟨hzb1, hzb2⟩ := posOk_get HPO.out hz
      have HZ := Lib.hid hz
      have hgz : a.pos.getD k 0 = z := by simp [List.getD, hz]
      have HGZ := Lib.hid hgz
      obtain ⟨⟨c0, c1, c2⟩, _⟩ := Cr.c3
      obtain ⟨⟨b0, b1, b2⟩, _⟩ := Br.c3
      have d1 : ¬ (a.pos.length : Int) < (a.pos.length : Int) := by omega
      clear hz hgz HS hsw
      go_wp2_with fail
      refine (margins_at a.id a.bal (a.pos.map fun n => -n) _ _ _ _ _ _ marks _ _ _ ro (Nat.le_refl _) (hm.below hbr) (by omega)).mono ?_
      rw [grows1 HX.out]
      rintro e w5 ⟨rfl, hb5⟩
      have B5 := Br.below hb5 hw0
      have h95 := hbr.trans (hb5.mono (by omega))
      have hs5 := hb5.size
      have ra5 := ha.below h95
      have v1 : (x != x) = false := by simp
      have v2 : (y != y) = false := by simp
      obtain ⟨bq, oq, hA, hbq, hcq⟩ := ra5.one (ints_get HZ.out)
      subst hA
      clear hb5 Br Cr ro c0 c1 c2 b0 b1 b2 hbr d1
      obtain ⟨⟨b0, b1, b2⟩, _⟩ := B5.c3
      have HM : Hid (z < -z ∧ z < 0 ∨ -z ≤ z ∧ 0 ≤ z) := by show _ ∨ _; omega
      rcases HM.out with ⟨hz1, hz2⟩ | ⟨hz1, hz2⟩
      · skip
        go_wp2_with fail
        refine (rown_any _ _ _ _ _ _ _ _ ra5 (by omega) hlen).mono ?_
        rintro e w6 ⟨A6, c6, rfl, hown6, hb6⟩
        obtain ⟨g6, hA6, hg6⟩ : ∃ g6, A6 = some ⟨g6, 0, none⟩ ∧ w5.heap.size ≤ g6 := by
          obtain ⟨_, ⟨_, hn⟩ | ⟨g, cap, cur, hv, h1, _⟩⟩ := hown6
          · omega
          · injection hv with hA; exact ⟨g, hA, h1⟩
        subst hA6
        have hg7 : g6 < w6.heap.size := (hown6.lt g6 rfl).2
        have h96 := h95.trans (hb6.mono (by omega))
        have hs6 := hb6.size
        have O6 := World.ownsRow.alloc hown6 (.cells #[.int .i64 a.id, .int .i64 a.bal, .slice (some ⟨g6, 0, none⟩) a.pos.length c6] 37)
        have C6 := Blk.new w6 37 #[.int .i64 a.id, .int .i64 a.bal, .slice (some ⟨g6, 0, none⟩) a.pos.length c6]
        have h97 := h96.alloc (o := .cells #[.int .i64 a.id, .int .i64 a.bal, .slice (some ⟨g6, 0, none⟩) a.pos.length c6] 37) (by omega)
        clear hb6 b0 b1 b2 hcq hown6
        go_wp2_with fail
        obtain ⟨W6, hW6⟩ : ∃ W, W = w6.alloc (.cells #[.int .i64 a.id, .int .i64 a.bal, .slice (some ⟨g6, 0, none⟩) a.pos.length c6] 37) := ⟨_, rfl⟩
        have hs7 : W6.heap.size = w6.heap.size + 1 := by rw [hW6]; simp
        have HS7 := Lib.hid hs7
        rw [← hW6] at O6 C6 h97
        rw [← hW6]
        clear hW6 hs7
        refine (atk_any _ _ _ (by omega) (by omega)).mono ?_
        rintro e w' ⟨rfl, rfl⟩
        have hd1 := Int.emod_nonneg more (show 1000 + z + 1 ≠ 0 by omega)
        have hd2 := Int.emod_lt_of_pos more (show 0 < 1000 + z + 1 by omega)
        have hk6 := O6.cellAt k (by omega)
        rw [ints_get HZ.out] at hk6
        have hf6 := O6.frozenAt k
        have hgw : g6 ≠ w6.heap.size := by omega
        have HO6 := Lib.hid O6
        obtain ⟨⟨c0, c1, c2⟩, _⟩ := C6.c3
        generalize more % (1000 + z + 1) = d at *
        clear O6
        go_wp2_with fail
        have O8 := (World.ownsRow.stored HO6.out k (.int .i64 (z + -d))).1
        have C8 := C6.far (p := ⟨g6, k, none⟩) (by show w6.heap.size ≠ g6; omega) (.int .i64 (z + -d))
        have h98 := h97.setCell (p := ⟨g6, k, none⟩) (by show w.heap.size ≤ g6; omega) (.int .i64 (z + -d))
        obtain ⟨Y, hY⟩ : ∃ Y, Y = W6.setCell ⟨g6, k, none⟩ (.int .i64 (z + -d)) := ⟨_, rfl⟩
        have hYs : Y.heap.size = w6.heap.size + 1 := by rw [hY]; simpa [World.setCell] using HS7.out
        rw [← hY] at O8 C8 h98
        rw [← hY]
        rw [show (ints a.pos).set k (.int .i64 (z + -d)) = ints (a.pos.set k (z + -d)) by simp [ints, List.map_set]] at O8
        have r8 := Rd.of_own O8
        have HYS := Lib.hid hYs
        clear hY hYs O8
        refine (margins_at a.id a.bal (a.pos.set k (z + -d)) _ _ _ _ _ _ marks _ _ _ r8 (Nat.le_refl _) (hm.below h98) (by have := HYS.out; omega)).mono ?_
        obtain ⟨p, q, hpq, hp1, hq1⟩ := grows2 (d := -d) HX.out hk (by rw [HGZ.out]; omega) (by rw [HGZ.out]; omega)
        rw [HGZ.out] at hpq
        rw [hpq]
        rintro e w9 ⟨rfl, hb9⟩
        clear hpq c0 c1 c2
        go_wp2_with fail
        go_ret
        exact ⟨rfl, h98.trans (hb9.mono (by have := HYS.out; omega))⟩
      · skip
        go_wp2_with fail
        refine (rown_any _ _ _ _ _ _ _ _ ra5 (by omega) hlen).mono ?_
        rintro e w6 ⟨A6, c6, rfl, hown6, hb6⟩
        obtain ⟨g6, hA6, hg6⟩ : ∃ g6, A6 = some ⟨g6, 0, none⟩ ∧ w5.heap.size ≤ g6 := by
          obtain ⟨_, ⟨_, hn⟩ | ⟨g, cap, cur, hv, h1, _⟩⟩ := hown6
          · omega
          · injection hv with hA; exact ⟨g, hA, h1⟩
        subst hA6
        have hg7 : g6 < w6.heap.size := (hown6.lt g6 rfl).2
        have h96 := h95.trans (hb6.mono (by omega))
        have hs6 := hb6.size
        have O6 := World.ownsRow.alloc hown6 (.cells #[.int .i64 a.id, .int .i64 a.bal, .slice (some ⟨g6, 0, none⟩) a.pos.length c6] 37)
        have C6 := Blk.new w6 37 #[.int .i64 a.id, .int .i64 a.bal, .slice (some ⟨g6, 0, none⟩) a.pos.length c6]
        have h97 := h96.alloc (o := .cells #[.int .i64 a.id, .int .i64 a.bal, .slice (some ⟨g6, 0, none⟩) a.pos.length c6] 37) (by omega)
        clear hb6 b0 b1 b2 hcq hown6
        go_wp2_with fail
        obtain ⟨W6, hW6⟩ : ∃ W, W = w6.alloc (.cells #[.int .i64 a.id, .int .i64 a.bal, .slice (some ⟨g6, 0, none⟩) a.pos.length c6] 37) := ⟨_, rfl⟩
        have hs7 : W6.heap.size = w6.heap.size + 1 := by rw [hW6]; simp
        have HS7 := Lib.hid hs7
        rw [← hW6] at O6 C6 h97
        rw [← hW6]
        clear hW6 hs7
        refine (atk_any _ _ _ (by omega) (by omega)).mono ?_
        rintro e w' ⟨rfl, rfl⟩
        have hd1 := Int.emod_nonneg more (show 1000 - z + 1 ≠ 0 by omega)
        have hd2 := Int.emod_lt_of_pos more (show 0 < 1000 - z + 1 by omega)
        have hk6 := O6.cellAt k (by omega)
        rw [ints_get HZ.out] at hk6
        have hf6 := O6.frozenAt k
        have hgw : g6 ≠ w6.heap.size := by omega
        have HO6 := Lib.hid O6
        obtain ⟨⟨c0, c1, c2⟩, _⟩ := C6.c3
        generalize more % (1000 - z + 1) = d at *
        clear O6
        go_wp2_with fail
        have O8 := (World.ownsRow.stored HO6.out k (.int .i64 (z + d))).1
        have C8 := C6.far (p := ⟨g6, k, none⟩) (by show w6.heap.size ≠ g6; omega) (.int .i64 (z + d))
        have h98 := h97.setCell (p := ⟨g6, k, none⟩) (by show w.heap.size ≤ g6; omega) (.int .i64 (z + d))
        obtain ⟨Y, hY⟩ : ∃ Y, Y = W6.setCell ⟨g6, k, none⟩ (.int .i64 (z + d)) := ⟨_, rfl⟩
        have hYs : Y.heap.size = w6.heap.size + 1 := by rw [hY]; simpa [World.setCell] using HS7.out
        rw [← hY] at O8 C8 h98
        rw [← hY]
        rw [show (ints a.pos).set k (.int .i64 (z + d)) = ints (a.pos.set k (z + d)) by simp [ints, List.map_set]] at O8
        have r8 := Rd.of_own O8
        have HYS := Lib.hid hYs
        clear hY hYs O8
        refine (margins_at a.id a.bal (a.pos.set k (z + d)) _ _ _ _ _ _ marks _ _ _ r8 (Nat.le_refl _) (hm.below h98) (by have := HYS.out; omega)).mono ?_
        obtain ⟨p, q, hpq, hp1, hq1⟩ := grows2 (d := d) HX.out hk (by rw [HGZ.out]; omega) (by rw [HGZ.out]; omega)
        rw [HGZ.out] at hpq
        rw [hpq]
        rintro e w9 ⟨rfl, hb9⟩
        clear hpq c0 c1 c2
        go_wp2_with fail
        go_ret
        exact ⟨rfl, h98.trans (hb9.mono (by have := HYS.out; omega))⟩

theorem riskGrows_walk (a : Ac) (A : Option Addr) (c : Nat) (A2 : Option Addr) (n2 c2 : Nat) (marks : List Int) (market more : Int) (w : World) (ha : Rd w w.heap.size 1 A a.pos.length c (ints a.pos)) (hm : Rd w w.heap.size 1 A2 n2 c2 (ints marks)) :
    Calls Try.prog 12 #[.agg #[.int .i64 a.id, .int .i64 a.bal, .slice A a.pos.length c], .slice A2 n2 c2, .int .i64 market, .int .i64 more] w fun e w' => e = .returned (.bool true) ∧ Below w.heap.size w w' := by
  obtain ⟨x, y, em, hx⟩ : ∃ x y em, marginsOf a marks = (x, y, em) := ⟨_, _, _, rfl⟩
  by_cases he : em = 0
  · by_cases h1 : market < 0
    · exact grows_err a A A2 c n2 c2 marks market more x y em w ha hm hx (.inr (.inl ⟨by simpa using he, h1⟩))
    · by_cases h2 : (a.pos.length : Int) ≤ market
      · exact grows_err a A A2 c n2 c2 marks market more x y em w ha hm hx (.inr (.inr ⟨by simpa using he, by omega, h2⟩))
      · obtain ⟨k, rfl⟩ : ∃ k : Nat, market = k := ⟨market.toNat, by omega⟩
        subst he
        exact grows_ok a A A2 c n2 c2 marks k more x y w ha hm hx (by omega)
  · exact grows_err a A A2 c n2 c2 marks market more x y em w ha hm hx (.inl (by simpa using he))

end Go.Proofs.Ytockodmbhnlheaa
