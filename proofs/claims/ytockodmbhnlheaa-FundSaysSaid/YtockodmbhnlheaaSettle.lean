/-
  THE WALK of fund.Settle.
-/
import Derived.Test.YtockodmbhnlheaaPays
import Derived.Test.YtockodmbhnlheaaCloneA
namespace Go.Proofs.Ytockodmbhnlheaa
open Go.RowKit

/-- accounts handed back, or an error. -/
def RetSettle (w : World) (r : List Ac × Int × Int) (e : Ending) (w' : World) : Prop :=
  ∃ A c, e = .returned (.tuple #[.slice A r.1.length c, .int .i64 r.2.1, .int .i64 r.2.2]) ∧ RdL shAcc w' w'.heap.size A r.1.length c r.1 ∧ Below w.heap.size w w'

/-- the row that is being filled. -/
def Out (wr : World) (base n : Nat) (A : Option Addr) (done : List Ac) : Prop :=
  n = 0 ∧ done = [] ∨ ∃ g cur, A = some ⟨g, 0, none⟩ ∧ base ≤ g ∧ wr.heap[g]? = some (.cells cur 37 (0, 0)) ∧ n * 3 ≤ cur.size ∧ ∀ i a, done[i]? = some a → RAccN wr g (i * 3) a

theorem settle_step {market mark rate left : Int} {done : List Ac} {L : List Ac} {j : Nat} {a : Ac} (ha : L[j]? = some a) : settleAcc market mark rate done left (L.drop j) =
    if (pays a market mark rate).2 ≠ 0 then ([], 0, (pays a market mark rate).2)
    else if (addAll [a.bal, -(pays a market mark rate).1]).2 ≠ 0 then ([], 0, (addAll [a.bal, -(pays a market mark rate).1]).2)
    else settleAcc market mark rate (done ++ [{ a with bal := (addAll [a.bal, -(pays a market mark rate).1]).1 }]) (left + (pays a market mark rate).1) (L.drop (j + 1)) := by
  have hj := (List.getElem?_eq_some_iff.1 ha).1
  rw [List.drop_eq_getElem_cons hj, (List.getElem?_eq_some_iff.1 ha).2]
  rfl
/-- three cells of a row that is there. -/
theorem row3 {w : World} {g : Nat} {t : TypeId} {cur : Array Value} {n j : Nat} (h : w.heap[g]? = some (.cells cur t (0, 0))) (hn : n * 3 ≤ cur.size) (hj : j < n) :
    ∃ u0 u1 u2, (w.cell? ⟨g, j * 3, none⟩ = some u0 ∧ w.cell? ⟨g, j * 3 + 1, none⟩ = some u1 ∧ w.cell? ⟨g, j * 3 + 2, none⟩ = some u2) ∧
      w.frozen? ⟨g, j * 3, none⟩ = false ∧ w.frozen? ⟨g, j * 3 + 1, none⟩ = false ∧ w.frozen? ⟨g, j * 3 + 2, none⟩ = false := by
  have hb : Blk w g t cur := h
  have h3 : j * 3 + 2 < cur.size := by omega
  exact ⟨cur[j * 3], cur[j * 3 + 1], cur[j * 3 + 2], ⟨by rw [hb.cell]; exact Array.getElem?_eq_getElem (by omega), by rw [hb.cell]; exact Array.getElem?_eq_getElem (by omega), by rw [hb.cell]; exact Array.getElem?_eq_getElem (by omega)⟩,
    hb.frozen _, hb.frozen _, hb.frozen _⟩

theorem set3_other {cur : Array Value} {j m : Nat} {x y z : Value} (h : m < j ∨ j + 2 < m) : (((cur.setIfInBounds j x).setIfInBounds (j + 1) y).setIfInBounds (j + 2) z)[m]? = cur[m]? := by
  rw [Array.getElem?_setIfInBounds_ne (by omega), Array.getElem?_setIfInBounds_ne (by omega), Array.getElem?_setIfInBounds_ne (by omega)]
theorem set3_at {cur : Array Value} {j : Nat} {x y z : Value} (h : j + 2 < cur.size) :
    (((cur.setIfInBounds j x).setIfInBounds (j + 1) y).setIfInBounds (j + 2) z)[j]? = some x ∧ (((cur.setIfInBounds j x).setIfInBounds (j + 1) y).setIfInBounds (j + 2) z)[j + 1]? = some y ∧
      (((cur.setIfInBounds j x).setIfInBounds (j + 1) y).setIfInBounds (j + 2) z)[j + 2]? = some z := by
  refine ⟨?_, ?_, ?_⟩
  · rw [Array.getElem?_setIfInBounds_ne (by omega), Array.getElem?_setIfInBounds_ne (by omega), Array.getElem?_setIfInBounds_self_of_lt (by omega)]
  · rw [Array.getElem?_setIfInBounds_ne (by omega), Array.getElem?_setIfInBounds_self_of_lt (by simp; omega)]
  · rw [Array.getElem?_setIfInBounds_self_of_lt (by simp; omega)]

/-- one account more. -/
theorem out_step {wr X : World} {base n g j B2 c3 : Nat} {cur : Array Value} {done : List Ac} {a : Ac} {A3 : Option Addr} {v : Value} {o : Obj} (hg1 : base ≤ g) (hgl : g < wr.heap.size) (hX : Below wr.heap.size wr X) (hgX : Blk X g 37 cur)
    (hsz : n * 3 ≤ cur.size) (hlt : j < n) (hd : done.length = j) (hdone : ∀ i a, done[i]? = some a → RAccN wr g (i * 3) a) (hown : X.ownsRow B2 3 1 (.slice A3 a.pos.length c3) a.pos.length (ints a.pos)) (hB2 : wr.heap.size < B2)
    (hlen : a.pos.length * 8 ≤ 140737488355328) :
    Out (((((X.setCell ⟨wr.heap.size, 1, none⟩ v).setCell ⟨g, j * 3, none⟩ (.int .i64 a.id)).setCell ⟨g, j * 3 + 1, none⟩ (.int .i64 a.bal)).setCell ⟨g, j * 3 + 2, none⟩ (.slice A3 a.pos.length c3)).alloc o) base n (some ⟨g, 0, none⟩) (done ++ [a]) := by
  have hne : g ≠ wr.heap.size := by omega
  have hZ := ((((hgX.far (p := ⟨wr.heap.size, 1, none⟩) hne v).set_ (j * 3) (.int .i64 a.id)).set_ (j * 3 + 1) (.int .i64 a.bal)).set_ (j * 3 + 2) (.slice A3 a.pos.length c3)).alloc o
  have hO := World.ownsRow.alloc (ownsRow_setCell_below (ownsRow_setCell_below (ownsRow_setCell_below (ownsRow_setCell_below hown (a := ⟨wr.heap.size, 1, none⟩) hB2 v) (a := ⟨g, j * 3, none⟩) (by show g < B2; omega) (.int .i64 a.id)) (a := ⟨g, j * 3 + 1, none⟩) (by show g < B2; omega) (.int .i64 a.bal)) (a := ⟨g, j * 3 + 2, none⟩) (by show g < B2; omega) (.slice A3 a.pos.length c3)) o
  have hsX : wr.heap.size ≤ X.heap.size := hX.size
  have hother : ∀ b o', b < wr.heap.size → b ≠ g → (((((X.setCell ⟨wr.heap.size, 1, none⟩ v).setCell ⟨g, j * 3, none⟩ (.int .i64 a.id)).setCell ⟨g, j * 3 + 1, none⟩ (.int .i64 a.bal)).setCell ⟨g, j * 3 + 2, none⟩ (.slice A3 a.pos.length c3)).alloc o).cell? ⟨b, o', none⟩ = wr.cell? ⟨b, o', none⟩ := by
    intro b o' hb hbg
    refine World.cell?_of_block ?_
    show _ = wr.heap[b]?
    rw [Below.heap_alloc _ _ _ (by simp [World.setCell]; omega), Below.heap_setCell _ _ _ _ hbg, Below.heap_setCell _ _ _ _ hbg, Below.heap_setCell _ _ _ _ hbg, Below.heap_setCell _ _ _ _ (by show b ≠ wr.heap.size; omega)]
    exact hX.block b hb
  have hsize : wr.heap.size ≤ (((((X.setCell ⟨wr.heap.size, 1, none⟩ v).setCell ⟨g, j * 3, none⟩ (.int .i64 a.id)).setCell ⟨g, j * 3 + 1, none⟩ (.int .i64 a.bal)).setCell ⟨g, j * 3 + 2, none⟩ (.slice A3 a.pos.length c3)).alloc o).heap.size := by
    simp [World.setCell]; omega
  generalize (((((X.setCell ⟨wr.heap.size, 1, none⟩ v).setCell ⟨g, j * 3, none⟩ (.int .i64 a.id)).setCell ⟨g, j * 3 + 1, none⟩ (.int .i64 a.bal)).setCell ⟨g, j * 3 + 2, none⟩ (.slice A3 a.pos.length c3)).alloc o) = Z at *
  refine .inr ⟨g, _, rfl, hg1, hZ, by simpa using hsz, fun i b hb => ?_⟩
  have h3 : j * 3 + 2 < cur.size := by omega
  by_cases hi : i < j
  · rw [List.getElem?_append_left (by omega)] at hb
    refine (hdone i b hb).move hsize (fun m hm => ?_) hother
    rw [hZ.cell, set3_other (by omega), ← hgX.cell]
    exact hX.cell (p := ⟨g, i * 3 + m, none⟩) hgl
  · rw [List.getElem?_append_right (by omega)] at hb
    have hij : i - done.length = 0 := by
      rcases Nat.eq_zero_or_pos (i - done.length) with h0 | h0
      · exact h0
      · rw [List.getElem?_eq_none (by simp; omega)] at hb; cases hb
    rw [hij] at hb
    simp at hb
    subst hb
    obtain rfl : i = j := by omega
    obtain ⟨e0, e1, e2⟩ := set3_at (x := .int .i64 a.id) (y := .int .i64 a.bal) (z := .slice A3 a.pos.length c3) h3
    refine ⟨A3, c3, by rw [hZ.cell]; exact e0, by rw [hZ.cell]; exact e1, by rw [hZ.cell]; exact e2, Rd.of_own hO, hlen, fun ad hA => ?_⟩
    have := (hO.lt ad.block (by rw [hA]; rfl)).1
    omega

set_option maxHeartbeats 2000000 in
theorem settle_any (A : Option Addr) (n c : Nat) (L : List Ac) (market mark rate : Int) (w : World) (h : RdL shAcc w w.heap.size A n c L) :
    Calls Try.prog 40 #[.slice A n c, .int .i64 market, .int .i64 mark, .int .i64 rate] w (RetSettle w (settleOf L market mark rate)) := by
  have hl := h.len
  have hle := h.le
  have hcap := h.cap
  unfold maxLen at hcap
  by_cases h8 : 8 < n
  · have HE := Lib.hid (show settleOf L market mark rate = ([], 0, 2) by unfold settleOf; rw [if_pos (by omega)])
    clear hl
    go_enter Try.func40, Try.ntmps40
    go_wp2_with fail
    go_ret3
    rw [HE.out]
    exact ⟨none, 0, rfl, RdL.none_ _ _ _, Below.refl _ _⟩
  · have HE := Lib.hid (show settleAcc market mark rate [] 0 (L.drop 0) = settleOf L market mark rate by unfold settleOf; rw [if_neg (by omega)]; rfl)
    have HL := Lib.hid hl
    clear hl
    obtain ⟨xs, hx, hx1⟩ := h.flat (by decide)
    go_enter Try.func40, Try.ntmps40
    go_wp2_with fail
    refine (clone_accs _ _ _ xs _ _ hx hx1 (Nat.le_refl _) (by omega)).mono ?_
    rintro e w1 ⟨v1, rfl, hown, hb1⟩
    obtain ⟨A1, c1, rfl⟩ := own_shape hown
    have HV := Lib.hid (Rd.of_own hown)
    have hout : Out w1 w.heap.size n A1 [] := by
      obtain ⟨_, ⟨_, hn⟩ | ⟨g, cap, cur, hv, h1, h2, h3, _, h4, _⟩⟩ := hown
      · exact .inl ⟨hn, rfl⟩
      · injection hv with hA
        exact .inr ⟨g, cur, hA, h1, h2, by rw [h4]; exact Nat.mul_le_mul_right _ h3, by simp⟩
    have HO := Lib.hid hout
    clear hout hx hx1 hown
    go_wp2_with fail
    go_loopw [12, 24] (fun s i wr => ∃ (j : Nat) (left : Int) (done : List Ac), j ≤ n ∧ s = .int .i64 left ∧ i = .int .i64 j ∧ Below w.heap.size w wr ∧ (-100000 * (j : Int) ≤ left ∧ left ≤ 100000 * (j : Int)) ∧
        Hid (done.length = j) ∧ Hid (settleAcc market mark rate done left (L.drop j) = settleOf L market mark rate) ∧ Hid (Out wr w.heap.size n A1 done)) (fun _ i _ => n - (intOf i).toNat)
    case atStart => exact ⟨0, 0, [], Nat.zero_le _, rfl, rfl, hb1, by omega, rfl, HE, HO⟩
    case round =>
      obtain ⟨j, left, done, hj, rfl, rfl, hbr, hleft, HD, HS, HO⟩ := hrel
      by_cases hlt : j < n
      · obtain ⟨b, o, a, rfl, hb, ha, A2, c2, k0, k1, k2, k3, k4⟩ := acc_at (h.below hbr) hlt
        have HA := Lib.hid ha
        clear ha
        have hbr' : b < wr.heap.size := by have := hbr.size; omega
        obtain ⟨p, ep, hp⟩ : ∃ p ep, pays a market mark rate = (p, ep) := ⟨_, _, rfl⟩
        have HP := Lib.hid (show paysOf a.id a.bal a.pos market mark rate = (p, ep) from hp)
        have hst := settle_step (market := market) (mark := mark) (rate := rate) (left := left) (done := done) HA.out
        rw [HS.out, hp] at hst
        have HT := Lib.hid hst
        clear hst hp
        by_cases he : ep = 0
        · subst he
          obtain ⟨hp1, hp2⟩ := pays_bd HP.out
          have hbal := (accCheck_ok (pays_ok HP.out).1).2.2.2.1
          obtain ⟨q, eq, hq⟩ : ∃ q eq, addAll [a.bal, -p] = (q, eq) := ⟨_, _, rfl⟩
          have HQ := Lib.hid hq
          have HT2 := Lib.hid (HT.out.trans (if_neg (by simp)))
          clear HT hq
          go_wp2_with fail
          refine (pays_any _ _ _ _ _ _ _ _ _ _ _ (k3.alloc hbr.size _) (by have := hbr.size; simp; omega)).mono ?_
          rintro e w2 ⟨rfl, hb2⟩
          rw [HP.out]
          have hB2 := (Blk.new wr 37 #[.int .i64 a.id, .int .i64 a.bal, .slice A2 a.pos.length c2]).below hb2 (by simp)
          obtain ⟨⟨q0, q1, q2⟩, p0, p1, p2⟩ := hB2.c3
          have hbw2 : Below wr.heap.size wr w2 := ((Below.refl _ _).alloc (Nat.le_refl _) _).trans (hb2.mono (by simp))
          have hz2 : wr.heap.size < w2.heap.size := size_two hb2
          go_wp2_with fail
          refine (accCopy_any _ _ _ _ _ _ _ _ (k3.below (hbw2.mono hbr.size)) (by have := hbr.size; omega) k4).mono ?_
          rintro e w3 ⟨A3, c3, rfl, hown3, hb3⟩
          have hB3 := hB2.below hb3 hz2
          clear q0 q1 q2 p0 p1 p2
          obtain ⟨⟨q0, q1, q2⟩, p0, p1, p2⟩ := hB3.c3
          have hz3 : wr.heap.size < w3.heap.size := by have := hb3.size; omega
          go_wp2_with fail
          obtain ⟨X, hX⟩ : ∃ X, X = ((w3.setCell ⟨wr.heap.size, 0, none⟩ (.int .i64 a.id)).setCell ⟨wr.heap.size, 1, none⟩ (.int .i64 a.bal)).setCell ⟨wr.heap.size, 2, none⟩ (.slice A3 a.pos.length c3) := ⟨_, rfl⟩
          rw [← hX]
          have hBX : Blk X wr.heap.size 37 #[.int .i64 a.id, .int .i64 a.bal, .slice A3 a.pos.length c3] := by
            rw [hX]; exact ((hB3.set_ 0 _).set_ 1 _).set_ 2 _
          have hXw : Below wr.heap.size wr X := by
            rw [hX]; exact (((hbw2.trans (hb3.mono (by omega))).setCell (Nat.le_refl _) _).setCell (Nat.le_refl _) _).setCell (Nat.le_refl _) _
          have hXo : X.ownsRow w2.heap.size 3 1 (.slice A3 a.pos.length c3) a.pos.length (ints a.pos) := by
            rw [hX]; exact ownsRow_setCell_below (ownsRow_setCell_below (ownsRow_setCell_below hown3 hz2 _) hz2 _) hz2 _
          have hXs : w3.heap.size = X.heap.size := by rw [hX]; simp [World.setCell]
          rw [hXs] at hz3
          have HXs := Lib.hid hXs
          clear hX hb3 hown3 hB3 hB2 q0 q1 q2 p0 p1 p2 hXs k0 k1 k2
          refine (add_any _ _ _ [a.bal, -p] _ _ (Rd.new_at X _ _ _ 2 HXs.out rfl (by decide))).mono ?_
          rintro e w' ⟨rfl, rfl⟩
          rw [HQ.out, HXs.out]
          obtain ⟨⟨q0, q1, q2⟩, p0, p1, p2⟩ := hBX.c3
          by_cases heq : eq = 0
          · subst heq
            have HE2 := Lib.hid (show settleAcc market mark rate (done ++ [{ a with bal := q }]) (left + p) (L.drop (j + 1)) = settleOf L market mark rate by rw [HT2.out, HQ.out, if_neg (by simp)])
            clear HT2
            rcases HO.out with ⟨h0, _⟩ | ⟨g, cur, rfl, hg1, hg2, hg3, hg4⟩
            · omega
            have hgl : g < wr.heap.size := Blk.lt (t := 37) (cs := cur) hg2
            have hgX := (hXw.block g hgl).trans hg2
            have HG := Lib.hid hg4
            obtain ⟨u0, u1, u2, ⟨r0, r1, r2⟩, t0, t1, t2⟩ := row3 hgX hg3 hlt
            have HgX := Lib.hid hgX
            have Hg2 := Lib.hid hg2
            clear hgX hg2 hg4
            have hgX' : g < X.heap.size := by omega
            go_wp2_with fail
            clear r0 r1 r2 t0 t1 t2 u0 u1 u2 q0 q1 q2 p0 p1 p2
            go_roundw
            case rel =>
              refine ⟨j + 1, left + p, _, by omega, rfl, by go_num, hbr.trans ?_, by omega, ?_, HE2, ?_⟩
              · have h1 := hXw.size
                have h2 := hbr.size
                exact (((((hXw.mono hbr.size).setCell (p := ⟨wr.heap.size, 1, none⟩) hbr.size _).setCell (p := ⟨g, j * 3, none⟩) hg1 _).setCell (p := ⟨g, j * 3 + 1, none⟩) hg1 _).setCell (p := ⟨g, j * 3 + 2, none⟩) hg1 _).alloc (by simp [World.setCell]; omega) _
              · show _ = _
                rw [List.length_append, HD.out]; rfl
              · exact out_step (a := { a with bal := q }) hg1 hgl hXw HgX.out hg3 hlt HD.out HG.out hXo hz2 k4
            case measure => simp [intOf]; omega
          · have HE2 := Lib.hid (show settleOf L market mark rate = ([], 0, eq) by rw [HT2.out, HQ.out, if_pos heq])
            have heq' : (eq != 0) = true := by simpa using heq
            clear heq HT2
            go_wp2_with fail
            go_ret3
            rw [HE2.out]
            refine ⟨none, 0, rfl, RdL.none_ _ _ _, hbr.trans ?_⟩
            exact ((hXw.mono hbr.size).setCell (p := ⟨wr.heap.size, 1, none⟩) hbr.size _).alloc (by have h1 := hXw.size; have h2 := hbr.size; simp [World.setCell]; omega) _
        · have HE2 := Lib.hid (HT.out.trans (if_pos he))
          have he' : (ep != 0) = true := by simpa using he
          clear he HT
          go_wp2_with fail
          refine (pays_any _ _ _ _ _ _ _ _ _ _ _ (k3.alloc hbr.size _) (by have := hbr.size; simp; omega)).mono ?_
          rintro e w2 ⟨rfl, hb2⟩
          rw [HP.out]
          go_wp2_with fail
          go_ret3
          rw [HE2.out]
          exact ⟨none, 0, rfl, RdL.none_ _ _ _, hbr.trans (((Below.refl _ _).alloc hbr.size _).trans (hb2.mono (by have := hbr.size; simp; omega)))⟩
      · have hjn : j = n := by omega
        have HE2 := Lib.hid (show settleOf L market mark rate = (done, left, 0) by
          rw [← HS.out, List.drop_eq_nil_of_le (by have := HL.out; omega)]; rfl)
        have HDn := Lib.hid (HD.out.trans hjn)
        clear hjn HS HE
        go_wp2_with fail
        go_ret3
        rw [HE2.out]
        refine ⟨A1, c1, ret_sii HDn.out.symm, ⟨rfl, by rw [HDn.out]; exact HV.out.le, HV.out.cap, HV.out.nil, fun hn => ?_⟩, hbr⟩
        rcases HO.out with ⟨h0, h1⟩ | ⟨g, cur, hA, _, hg2, _, hg4⟩
        · rw [h1] at hn; exact absurd hn (by simp)
        · exact ⟨g, 0, hA, Blk.lt (t := 37) (cs := cur) hg2, fun i a ha => by rw [Nat.zero_add]; exact (hg4 i a ha).plain⟩

end Go.Proofs.Ytockodmbhnlheaa
