/-
  THE WALK of book.side: a side of a book is checked.
-/
import Derived.Test.YtockodmbhnlheaaOrd
import Derived.Test.YtockodmbhnlheaaMapB
import Derived.Deep.RegionHeld3
import Derived.Deep.QuietTactic
import Derived.BigQuiet
import Derived.Deep.DeepCutAuto
namespace Go.Proofs.Ytockodmbhnlheaa
open Go.RowKit

theorem below_next {w0 W W' : World} (hb : Below W.heap.size W W') (h : Below w0.heap.size w0 W) : Below w0.heap.size w0 W' := h.trans (hb.mono h.size)
theorem below_drew {w0 W : World} (h : Below w0.heap.size w0 W) : Below w0.heap.size w0 W.drew := below_drewN h 1

/-- what is left to check at the j-th order. -/
def sideAt (s : Int) (L : List Od) (seen : List Int) (j : Nat) : Int := sideErr s (if j = 0 then none else L[j - 1]?) (((L.take j).map Od.id).reverse ++ seen) (L.drop j)
theorem sideAt_zero (s : Int) (L : List Od) (seen : List Int) : sideAt s L seen 0 = sideErr s none seen L := by simp [sideAt]
theorem sideAt_step {s : Int} {L : List Od} {seen : List Int} {j : Nat} {o : Od} (h : L[j]? = some o) :
    sideAt s L seen j = if ordErr o ≠ 0 then ordErr o else if o.side ≠ s ∨ (∃ q ∈ (if j = 0 then none else L[j - 1]?), aheadB q o = false) then 4 else if o.id ∈ ((L.take j).map Od.id).reverse ++ seen then 6 else sideAt s L seen (j + 1) := by
  obtain ⟨h1, h2⟩ := List.getElem?_eq_some_iff.1 h
  have hd : L.drop j = o :: L.drop (j + 1) := by rw [List.drop_eq_getElem_cons h1, h2]
  have e : sideAt s L seen (j + 1) = sideErr s (some o) (o.id :: (((L.take j).map Od.id).reverse ++ seen)) (L.drop (j + 1)) := by
    unfold sideAt
    rw [if_neg (by omega), Nat.add_sub_cancel, h, List.take_add_one, h]
    simp
  rw [e]
  unfold sideAt
  rw [hd]
  rfl
theorem sideAt_end {s : Int} {L : List Od} {seen : List Int} {j : Nat} (h : L.length ≤ j) : sideAt s L seen j = 0 := by
  unfold sideAt; rw [List.drop_eq_nil_of_le h]; rfl

/-- what a side's check ends in: where it is right, the set holds its numbers too. -/
def RetSide (w : World) (m k : Nat) (L : List Od) (seen : List Int) (r : Int) (e : Ending) (w' : World) : Prop :=
  e = .returned (.int .i64 r) ∧ w.grownBy w' (some m) ∧ (r = 0 → Seen w' m (k + L.length) ((L.map Od.id).reverse ++ seen))

theorem grown_below {w w1 w2 : World} {m : Nat} (h : w.grownBy w1 (some m)) (hb : Below w1.heap.size w1 w2) : w.grownBy w2 (some m) :=
  ⟨hb.os.trans h.os, hb.tape.trans h.tape, hb.output.trans h.output, Nat.le_trans h.size hb.size, fun i hi hn => (hb.block i (Nat.lt_of_lt_of_le hi h.size)).trans (h.block i hi hn)⟩
theorem grown_grown {w w1 w2 : World} {m : Nat} (h : w.grownBy w1 (some m)) (hg : w1.grownBy w2 (some m)) : w.grownBy w2 (some m) :=
  ⟨hg.os.trans h.os, hg.tape.trans h.tape, hg.output.trans h.output, Nat.le_trans h.size hg.size, fun i hi hn => (hg.block i (Nat.lt_of_lt_of_le hi h.size) hn).trans (h.block i hi hn)⟩
theorem rd_grown {w w1 : World} {m B k n c : Nat} {A : Option Addr} {xs : List Value} (h : Rd w B k A n c xs) (hg : w.grownBy w1 (some m)) (hm : B ≤ m) (hB : B ≤ w.heap.size) : Rd w1 B k A n c xs :=
  h.mono (Nat.le_refl _) fun b o hb => World.cell?_of_block (hg.block b (by omega) (fun e => by injection e; omega))

theorem bool_cs (b : Bool) : b = false ∨ b = true := by cases b <;> simp
theorem mem_or (x : Int) (l : List Int) : decide (x ∈ l) = false ∧ x ∉ l ∨ decide (x ∈ l) = true ∧ x ∈ l := by by_cases h : x ∈ l <;> simp [h]


set_option maxRecDepth 100000 in
set_option maxHeartbeats 4000000 in
theorem side_any (A : Option Addr) (n c : Nat) (L : List Od) (s : Int) (m k : Nat) (seen : List Int) (B : Nat) (w : World) (h : Rd w B 5 A n c (odCells L)) (hB : B ≤ m) (hs : Seen w m k seen) (hk : k ≤ 1000) (hn : n ≤ 1000) :
    Calls Try.prog 132 #[.slice A n c, .int .i64 s, .map (some m)] w (RetSide w m k L seen (sideErr s none seen L)) := by
  have hmw := hs.lt
  have HL := Lib.hid (rdo_len h)
  have HE := Lib.hid (sideAt_zero s L seen)
  go_enter Try.func132, Try.ntmps132
  go_wp2_with fail
  go_loopw [12] (fun i wr => ∃ j : Nat, j ≤ n ∧ i = .int .i64 j ∧ w.grownBy wr (some m) ∧ Hid (Seen wr m (k + j) (((L.take j).map Od.id).reverse ++ seen)) ∧ Hid (sideAt s L seen j = sideErr s none seen L)) (fun i _ => n - (intOf i).toNat)
  case atStart => exact ⟨0, Nat.zero_le _, rfl, World.grownBy.refl w _, hs, HE⟩
  case round =>
    obtain ⟨j, hj, rfl, hg, HS, HT⟩ := hrel
    have hws := hg.size
    by_cases hlt : j < n
    · have hr := rd_grown h hg hB (by omega)
      obtain ⟨b, o, x, rfl, hb, hx, k0, k1, k2, k3, k4⟩ := od_at hr hlt
      have HD := Lib.hid (HT.out.symm.trans (sideAt_step hx))
      have HX := Lib.hid hx
      have x1 : b < wr.heap.size := by omega
      clear hx
      go_wp2_with fail
      refine (ordErr_any x _).mono ?_
      rintro e w1 ⟨rfl, hb1⟩
      have hb2 : Below wr.heap.size wr w1 := ((Below.refl _ _).alloc (Nat.le_refl _) _).trans (hb1.mono (by simp))
      have hg1 : w.grownBy w1 (some m) := grown_below hg hb2
      have Bx := (Blk.new wr 71 #[.int .i64 x.id, .int .i64 x.acc, .int .i64 x.side, .int .i64 x.price, .int .i64 x.qty]).below hb1 (by simp)
      have hw1 : wr.heap.size < w1.heap.size := by have := hb1.size; simp at this; omega
      have HS1 := Lib.hid (HS.out.below hb2 HS.out.lt)
      have hr1 := hr.below (hb2.mono (by omega))
      clear k0 k1 k2 k3 k4 hb1 hr
      by_cases he : ordErr x = 0
      · have HD2 := Lib.hid (HD.out.trans (if_neg (by omega)))
        obtain ⟨⟨hi1, hi2⟩, _⟩ := ordErr_ok.1 he
        have HZ := Lib.hid he
        have he' : (ordErr x != 0) = false := by simpa using he
        clear he HD
        obtain ⟨⟨b0, b1, b2, b3, b4⟩, _⟩ := Bx.c5
        by_cases hside : x.side = s
        · have hs' : (x.side != s) = false := by simpa using hside
          have HSD := Lib.hid hside
          clear hside
          by_cases hj0 : j = 0
          · subst hj0
            have HD4 := Lib.hid (show sideErr s none seen L = if x.id ∈ ((L.take 0).map Od.id).reverse ++ seen then 6 else sideAt s L seen (0 + 1) by
              rw [HD2.out, if_neg]
              rintro (h | ⟨q, hq, _⟩)
              · exact h HSD.out
              · simp at hq)
            go_wp2_with fail
            go_quiet (fail)
            obtain ⟨W', hW⟩ : ∃ W', W' = w1.drewN nq := ⟨_, rfl⟩
            rw [← hW]
            have hB : Below w1.heap.size w1 W' := by rw [hW]; exact below_drewN (Below.refl _ _) _
            clear hW b0 b1 b2 b3 b4
            obtain ⟨⟨b0, b1, b2, b3, b4⟩, _⟩ := (Bx.below hB hw1).c5
            have HS2 := Lib.hid (HS1.out.below hB HS1.out.lt)
            have hB2 : Below wr.heap.size wr W' := hb2.trans (hB.mono (by omega))
            have hg3 : w.grownBy W' (some m) := grown_below hg hb2 |> fun h => grown_below h hB
            have hl := HS2.out.look x.id (by omega)
            rcases mem_or x.id (((L.take (0)).map Od.id).reverse ++ seen) with ⟨hm1, hm2⟩ | ⟨hm1, hm2⟩
            · obtain ⟨w2, hrun, hs2, hg2⟩ := HS2.out.put x.id (by omega) (by unfold maxLen; omega)
              have HS3 := Lib.hid (show Seen w2 m (k + (0 + 1)) (((L.take (0 + 1)).map Od.id).reverse ++ seen) by
                rw [List.take_add_one, HX.out]
                have := hs2
                simp only [Option.toList, List.map_append, List.map_cons, List.map_nil, List.reverse_append, List.reverse_cons, List.reverse_nil, List.nil_append, List.cons_append]
                rw [← Nat.add_assoc]; exact this)
              have HE2 := Lib.hid (show sideAt s L seen (0 + 1) = sideErr s none seen L by rw [HD4.out, if_neg hm2])
              have hg4 : w.grownBy w2 (some m) := grown_grown hg3 hg2
              rw [hm1] at hl
              clear hm1 hm2 hs2 hg2
              go_wp2_with fail
              go_roundw
              case rel => exact ⟨0 + 1, by omega, by go_num, hg4, HS3, HE2⟩
              case measure => simp [intOf]; omega
            · have HE2 := Lib.hid (show sideErr s none seen L = 6 by rw [HD4.out, if_pos hm2])
              rw [hm1] at hl
              clear hm1 hm2
              go_wp2_with fail
              go_ret
              exact ⟨ret_ii HE2.out.symm, hg3, fun h => by rw [HE2.out] at h; omega⟩
          · obtain ⟨jj, rfl⟩ : ∃ jj, j = jj + 1 := ⟨j - 1, by omega⟩
            obtain ⟨b', o', q, hA, hb', hq, q0, q1, q2, q3, q4⟩ := od_at hr1 (show jj < n by omega)
            cases hA
            have HD3 := Lib.hid (show sideErr s none seen L = if aheadB q x = false then 4 else if x.id ∈ ((L.take (jj + 1)).map Od.id).reverse ++ seen then 6 else sideAt s L seen (jj + 1 + 1) by
              rw [HD2.out]
              by_cases ha : aheadB q x = false
              · rw [if_pos ha, if_pos (.inr ⟨q, by rw [if_neg (by omega), Nat.add_sub_cancel]; exact hq, ha⟩)]
              · rw [if_neg ha, if_neg]
                rintro (h | ⟨q', hq', h⟩)
                · exact h HSD.out
                · rw [if_neg (by omega), Nat.add_sub_cancel, hq] at hq'
                  injection hq' with hq'
                  rw [hq'] at ha; exact ha h)
            clear hq
            have h11 : Below w1.heap.size w1 w1 := Below.refl _ _
            have x2 : b < w1.heap.size := by omega
            have KS : Hid (∀ W, Below w1.heap.size w1 W → Below w1.heap.size w1 W ∧ (W.cell? ⟨wr.heap.size, 0, none⟩ = some (.int .i64 x.id) ∧ W.cell? ⟨wr.heap.size, 1, none⟩ = some (.int .i64 x.acc) ∧ W.cell? ⟨wr.heap.size, 2, none⟩ = some (.int .i64 x.side) ∧ W.cell? ⟨wr.heap.size, 3, none⟩ = some (.int .i64 x.price) ∧ W.cell? ⟨wr.heap.size, 4, none⟩ = some (.int .i64 x.qty)) ∧
              (W.cell? ⟨b, o + jj * 5, none⟩ = some (.int .i64 q.id) ∧ W.cell? ⟨b, o + jj * 5 + 1, none⟩ = some (.int .i64 q.acc) ∧ W.cell? ⟨b, o + jj * 5 + 2, none⟩ = some (.int .i64 q.side) ∧ W.cell? ⟨b, o + jj * 5 + 3, none⟩ = some (.int .i64 q.price) ∧ W.cell? ⟨b, o + jj * 5 + 4, none⟩ = some (.int .i64 q.qty))) := by
              intro W hW
              exact ⟨hW, (Bx.below hW hw1).c5.1, (hW.cell (p := ⟨b, _, none⟩) x2).trans q0, (hW.cell (p := ⟨b, _, none⟩) x2).trans q1, (hW.cell (p := ⟨b, _, none⟩) x2).trans q2, (hW.cell (p := ⟨b, _, none⟩) x2).trans q3, (hW.cell (p := ⟨b, _, none⟩) x2).trans q4⟩
            have i1 : IntKind.i64.wrap ((jj : Int) + 1 - 1) = (jj : Int) := by rw [show (jj : Int) + 1 - 1 = (jj : Int) by omega]; exact IntWalk.i64_in _ (by omega)
            have i2 : (0 : Int) ≤ (jj : Int) := by omega
            have i3 : (jj : Int) < (n : Int) := by omega
            have i4 : decide ((0 : Int) < (jj : Int) + 1) = true := by simp
            have i5 : IntKind.i64.wrap (jj : Int) = (jj : Int) := IntWalk.i64_in _ (by omega)
            go_wp2_with fail
            go_region_held3 (fun W => Below w1.heap.size w1 W ∧ (W.cell? ⟨wr.heap.size, 0, none⟩ = some (.int .i64 x.id) ∧ W.cell? ⟨wr.heap.size, 1, none⟩ = some (.int .i64 x.acc) ∧ W.cell? ⟨wr.heap.size, 2, none⟩ = some (.int .i64 x.side) ∧ W.cell? ⟨wr.heap.size, 3, none⟩ = some (.int .i64 x.price) ∧ W.cell? ⟨wr.heap.size, 4, none⟩ = some (.int .i64 x.qty)) ∧
              (W.cell? ⟨b, o + jj * 5, none⟩ = some (.int .i64 q.id) ∧ W.cell? ⟨b, o + jj * 5 + 1, none⟩ = some (.int .i64 q.acc) ∧ W.cell? ⟨b, o + jj * 5 + 2, none⟩ = some (.int .i64 q.side) ∧ W.cell? ⟨b, o + jj * 5 + 3, none⟩ = some (.int .i64 q.price) ∧ W.cell? ⟨b, o + jj * 5 + 4, none⟩ = some (.int .i64 q.qty)))
              (first | (exact KS.out _ (by assumption)) | (exact KS.out _ (below_drew (by assumption))))
              ((first | (go_at_call 83; go_split_ands; (with_reducible refine (ahead_any q x _).mono ?_); rintro e W' ⟨rfl, hb⟩; have hB := below_next hb (by assumption))))
            go_split_ands
            clear KS b0 b1 b2 b3 b4 q0 q1 q2 q3 q4 i1 i2 i3 i4 i5
            rcases bool_cs (aheadB q x) with ha | ha
            · have HE2 := Lib.hid (show sideErr s none seen L = 4 by rw [HD3.out, if_pos ha])
              have hg3 : w.grownBy W' (some m) := grown_below hg1 hB
              rw [ha]
              go_wp2_with fail
              go_ret
              exact ⟨ret_ii HE2.out.symm, hg3, fun h => by rw [HE2.out] at h; omega⟩
            · have HD4 := Lib.hid (HD3.out.trans (if_neg (by rw [ha]; simp)))
              rw [ha]
              have HS2 := Lib.hid (HS1.out.below hB HS1.out.lt)
              have hB2 : Below wr.heap.size wr W' := hb2.trans (hB.mono (by omega))
              have hg3 : w.grownBy W' (some m) := grown_below hg hb2 |> fun h => grown_below h hB
              have hl := HS2.out.look x.id (by omega)
              rcases mem_or x.id (((L.take (jj + 1)).map Od.id).reverse ++ seen) with ⟨hm1, hm2⟩ | ⟨hm1, hm2⟩
              · obtain ⟨w2, hrun, hs2, hg2⟩ := HS2.out.put x.id (by omega) (by unfold maxLen; omega)
                have HS3 := Lib.hid (show Seen w2 m (k + (jj + 1 + 1)) (((L.take (jj + 1 + 1)).map Od.id).reverse ++ seen) by
                  rw [List.take_add_one, HX.out]
                  have := hs2
                  simp only [Option.toList, List.map_append, List.map_cons, List.map_nil, List.reverse_append, List.reverse_cons, List.reverse_nil, List.nil_append, List.cons_append]
                  rw [← Nat.add_assoc]; exact this)
                have HE2 := Lib.hid (show sideAt s L seen (jj + 1 + 1) = sideErr s none seen L by rw [HD4.out, if_neg hm2])
                have hg4 : w.grownBy w2 (some m) := grown_grown hg3 hg2
                rw [hm1] at hl
                clear hm1 hm2 hs2 hg2
                go_wp2_with fail
                go_roundw
                case rel => exact ⟨jj + 1 + 1, by omega, by go_num, hg4, HS3, HE2⟩
                case measure => simp [intOf]; omega
              · have HE2 := Lib.hid (show sideErr s none seen L = 6 by rw [HD4.out, if_pos hm2])
                rw [hm1] at hl
                clear hm1 hm2
                go_wp2_with fail
                go_ret
                exact ⟨ret_ii HE2.out.symm, hg3, fun h => by rw [HE2.out] at h; omega⟩
        · have HE2 := Lib.hid (show sideErr s none seen L = 4 by rw [HD2.out, if_pos (.inl hside)])
          have hs' : (x.side != s) = true := by simpa using hside
          clear hside
          go_wp2_with fail
          go_quiet (fail)
          go_wp2_with fail
          go_ret
          exact ⟨ret_ii HE2.out.symm, grown_below hg1 (below_drewN (Below.refl _ _) _), fun h => by rw [HE2.out] at h; omega⟩
      · have HE2 := Lib.hid (show sideErr s none seen L = ordErr x by rw [HD.out, if_pos he])
        have HN := Lib.hid he
        have he' : (ordErr x != 0) = true := by simpa using he
        clear he
        go_wp2_with fail
        go_ret
        exact ⟨ret_ii HE2.out.symm, hg1, fun h => absurd (HE2.out.symm.trans h) HN.out⟩
    · have hjn : j = n := by omega
      have hjl : L.length = j := by have := HL.out; omega
      have HE2 := Lib.hid (show sideErr s none seen L = 0 by rw [← HT.out, sideAt_end (by omega)])
      have HSE := Lib.hid (show Seen wr m (k + L.length) ((L.map Od.id).reverse ++ seen) by
        have := HS.out
        rw [← hjl, List.take_length] at this
        exact this)
      clear hjn hjl
      go_wp2_with fail
      go_ret
      exact ⟨ret_ii HE2.out.symm, hg, fun _ => HSE.out⟩

end Go.Proofs.Ytockodmbhnlheaa
