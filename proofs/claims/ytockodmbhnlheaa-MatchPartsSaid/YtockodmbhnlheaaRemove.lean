/-
  book.Best, Remove.
-/
import Derived.Test.YtockodmbhnlheaaFind
namespace Go.Proofs.Ytockodmbhnlheaa
open Go.RowKit

def RetBest (w : World) (r : Int × Int × Int) (e : Ending) (w' : World) : Prop := e = .returned (.tuple #[.int .i64 r.1, .int .i64 r.2.1, .int .i64 r.2.2]) ∧ Below w.heap.size w w'
theorem retBest_mk {w w' : World} {r : Int × Int × Int} {a b c : Int} (h : r = (a, b, c)) (hb : Below w.heap.size w w') : RetBest w r (.returned (.tuple #[.int .i64 a, .int .i64 b, .int .i64 c])) w' := by subst h; exact ⟨rfl, hb⟩
theorem head_at {L : List Od} {x : Od} (h : L[0]? = some x) : headPrice L = x.price := by
  cases L with
  | nil => simp at h
  | cons y l => simp at h; subst h; rfl
theorem head_none {L : List Od} (h : L.length = 0) : headPrice L = 0 := by
  rw [List.eq_nil_of_length_eq_zero h]; rfl

set_option maxHeartbeats 2000000 in
theorem best_bk (b : Bk) (A A' : Option Addr) (c c' B : Nat) (w : World) (h : BkR w B A A' c c' b) (hB : B ≤ w.heap.size) (hl : b.bids.length ≤ 4000000000000) (hl' : b.asks.length ≤ 4000000000000) :
    Calls Try.prog 82 #[.agg #[.slice A b.bids.length c, .slice A' b.asks.length c']] w (RetBest w (bestOf b)) := by
  have HE := Lib.hid (show bestOf b = if bookErr b ≠ 0 then (0, 0, bookErr b) else (headPrice b.bids, headPrice b.asks, 0) from rfl)
  go_enter Try.func82, Try.ntmps82
  go_wp2_with fail
  refine calls_name ?_
  intro w2 hw2
  have hb2 : Below w.heap.size w w2 := by rw [hw2]; exact (Below.refl _ _).alloc (Nat.le_refl _) _
  have hs2 : w2.heap.size = w.heap.size + 1 := by rw [hw2]; simp
  have X1 : Blk w2 w.heap.size 62 #[.slice A b.bids.length c, .slice A' b.asks.length c'] := by rw [hw2]; exact Blk.new w _ _
  have hr := h.below (hb2.mono hB)
  clear hw2
  refine (bookCheck_any b A A' c c' B w2 hr.l hr.r (by omega) (by omega) (by omega)).mono ?_
  rintro e w3 ⟨rfl, hb3⟩
  have hs3 := hb3.size
  obtain ⟨⟨kX10, kX11⟩, -⟩ := X1.c2
  clear kX10 kX11
  replace X1 := X1.below hb3 X1.lt
  obtain ⟨⟨kX10, kX11⟩, -⟩ := X1.c2
  have hbw3 := hb2.trans (hb3.mono (by omega))
  have hr3 := hr.below (hb3.mono (by omega))
  clear hb3 hr hb2 X1
  by_cases he : bookErr b = 0
  rotate_left
  · have HE1 := Lib.hid (HE.out.trans (if_pos he))
    have he' : (bookErr b != 0) = true := by simpa using he
    clear he HE
    go_wp2_with fail
    go_ret3
    exact retBest_mk HE1.out hbw3
  · have HE1 := Lib.hid (HE.out.trans (if_neg (by omega)))
    rw [he]
    clear he HE
    have hlen : ∀ n : Nat, n = 0 ∨ 0 < n := by omega
    by_cases h1 : b.bids.length = 0
    · have HH := Lib.hid (head_none h1)
      have d1 : ¬ 0 < b.bids.length := by omega
      clear h1
      by_cases h2 : b.asks.length = 0
      · have HE2 := Lib.hid (HE1.out.trans (by rw [HH.out, head_none h2]))
        have d2 : ¬ 0 < b.asks.length := by omega
        clear h2
        go_wp2_with fail
        go_ret3
        exact retBest_mk HE2.out hbw3
      · have d2 : 0 < b.asks.length := by omega
        have d3 : (0 : Int) < (b.asks.length : Int) := by omega
        obtain ⟨g2, o2, y, rfl, hg2, hy, _, _, _, k2, _⟩ := od_at hr3.r d2
        rw [Nat.zero_mul, Nat.add_zero] at k2
        have HE2 := Lib.hid (HE1.out.trans (by rw [HH.out, head_at hy]))
        clear h2 hy
        go_wp2_with fail
        go_ret3
        exact retBest_mk HE2.out hbw3
    · have d1 : 0 < b.bids.length := by omega
      have d1' : (0 : Int) < (b.bids.length : Int) := by omega
      obtain ⟨g1, o1, x, rfl, hg1, hx, _, _, _, k1, _⟩ := od_at hr3.l d1
      rw [Nat.zero_mul, Nat.add_zero] at k1
      have HH := Lib.hid (head_at hx)
      clear h1 hx
      by_cases h2 : b.asks.length = 0
      · have HE2 := Lib.hid (HE1.out.trans (by rw [HH.out, head_none h2]))
        have d2 : ¬ 0 < b.asks.length := by omega
        clear h2
        go_wp2_with fail
        go_ret3
        exact retBest_mk HE2.out hbw3
      · have d2 : 0 < b.asks.length := by omega
        have d3 : (0 : Int) < (b.asks.length : Int) := by omega
        obtain ⟨g2, o2, y, rfl, hg2, hy, _, _, _, k2, _⟩ := od_at hr3.r d2
        rw [Nat.zero_mul, Nat.add_zero] at k2
        have HE2 := Lib.hid (HE1.out.trans (by rw [HH.out, head_at hy]))
        clear h2 hy
        go_wp2_with fail
        go_ret3
        exact retBest_mk HE2.out hbw3

def RetRem (w : World) (r : Bk × Od × Int) (e : Ending) (w' : World) : Prop := ∃ v, e = .returned (.tuple #[v, .agg #[.int .i64 r.2.1.id, .int .i64 r.2.1.acc, .int .i64 r.2.1.side, .int .i64 r.2.1.price, .int .i64 r.2.1.qty], .int .i64 r.2.2]) ∧ OwnBk w' w.heap.size v r.1 ∧ Below w.heap.size w w'
theorem retRem_mk {w w' : World} {r : Bk × Od × Int} {b : Bk} {o : Od} {n : Int} {v : Value} (h : r = (b, o, n)) (ho : OwnBk w' w.heap.size v b) (hb : Below w.heap.size w w') : RetRem w r (.returned (.tuple #[v, .agg #[.int .i64 o.id, .int .i64 o.acc, .int .i64 o.side, .int .i64 o.price, .int .i64 o.qty], .int .i64 n])) w' := by subst h; exact ⟨v, rfl, ho, hb⟩
theorem find_pair (b : Bk) (id : Int) : ∃ o n, findOf b id = (o, n) ∧ (n = 0 → BookOk b ∧ o ∈ b.bids ++ b.asks ∧ o.id = id) := by
  unfold findOf
  split
  · rename_i h; exact ⟨_, _, rfl, fun h' => absurd h' h⟩
  · rename_i h
    cases hf : findO (b.bids ++ b.asks) id with
    | none => exact ⟨_, _, rfl, fun h' => by omega⟩
    | some o => exact ⟨o, 0, rfl, fun _ => ⟨bookErr_ok.1 (by omega), findO_some hf⟩⟩
theorem del_filter (id : Int) (L : List Od) : L.filter (fun y => !hasId id y) = delO id L := rfl

set_option maxHeartbeats 4000000 in
set_option maxRecDepth 100000 in
theorem remove_bk (b : Bk) (id : Int) (A A' : Option Addr) (c c' B : Nat) (w : World) (h : BkR w B A A' c c' b) (hB : B ≤ w.heap.size) (hl : b.bids.length ≤ 4000000000000) (hl' : b.asks.length ≤ 4000000000000) :
    Calls Try.prog 68 #[.agg #[.slice A b.bids.length c, .slice A' b.asks.length c'], .int .i64 id] w (RetRem w (removeOf b id)) := by
  obtain ⟨o, ef, hfind, hfok⟩ := find_pair b id
  have HFI := Lib.hid hfind
  have HFO := Lib.hid hfok
  have HE := Lib.hid (show removeOf b id = if ef ≠ 0 then (zeroBk, zeroOd, ef) else (setOwn b o.side (delO id (ownOf b o.side)), o, 0) by unfold removeOf; rw [hfind])
  clear hfind hfok
  go_enter Try.func68, Try.ntmps68
  go_wp2_with fail
  refine calls_name ?_
  intro w2 hw2
  have hb2 : Below w.heap.size w w2 := by rw [hw2]; exact ((((Below.refl _ _).alloc (Nat.le_refl _) _).alloc (by simp) _).alloc (by simp; omega) _).alloc (by simp; omega) _
  have hs2 : w2.heap.size = w.heap.size + 1 + 1 + 1 + 1 := by rw [hw2]; simp
  have X1 : Blk w2 w.heap.size 62 #[.slice A b.bids.length c, .slice A' b.asks.length c'] := by rw [hw2]; exact (((Blk.new w _ _).alloc _).alloc _).alloc _
  have X2 : Blk w2 (w.heap.size + 1) 3 #[.int .i64 id] := by rw [hw2]; exact ((Blk.new_at _ _ _ _ (by simp)).alloc _).alloc _
  have X3 : Blk w2 (w.heap.size + 1 + 1) 62 #[.slice none 0 0, .slice none 0 0] := by rw [hw2]; exact (Blk.new_at _ _ _ _ (by simp)).alloc _
  have X4 : Blk w2 (w.heap.size + 1 + 1 + 1) 71 #[.int .i64 0, .int .i64 0, .int .i64 0, .int .i64 0, .int .i64 0] := by rw [hw2]; exact Blk.new_at _ _ _ _ (by simp)
  have hr := h.below (hb2.mono hB)
  clear hw2
  refine (find_bk b id A A' c c' B w2 hr (by omega) hl hl').mono ?_
  rw [HFI.out]
  rintro e w3 ⟨rfl, hb3⟩
  have hs3 := hb3.size
  obtain ⟨⟨kX10, kX11⟩, -⟩ := X1.c2
  clear kX10 kX11
  replace X1 := X1.below hb3 X1.lt
  obtain ⟨⟨kX10, kX11⟩, -⟩ := X1.c2
  replace X2 := X2.below hb3 X2.lt
  replace X3 := X3.below hb3 X3.lt
  replace X4 := X4.below hb3 X4.lt
  have hbw3 := hb2.trans (hb3.mono (by omega))
  have hr3 := hr.below (hb3.mono (by omega))
  clear hb3 hr hb2
  by_cases he : ef = 0
  rotate_left
  · have HE1 := Lib.hid (HE.out.trans (if_pos he))
    have he' : (ef != 0) = true := by simpa using he
    obtain ⟨⟨kX30, kX31⟩, fX30, fX31⟩ := X3.c2
    obtain ⟨⟨kX40, kX41, kX42, kX43, kX44⟩, fX40, fX41, fX42, fX43, fX44⟩ := X4.c5
    have x3 : w.heap.size + 1 + 1 < w3.heap.size := by omega
    have x4 : w.heap.size + 1 + 1 + 1 < w3.heap.size := by omega
    have x0 : w.heap.size + 1 + 1 + 1 + 1 ≤ w3.heap.size := by omega
    clear he HE HFI HFO hs2 hs3 hr3
    go_wp2_with fail
    refine post_name ?_
    intro Z hZ
    have XZ3 : Blk Z (w.heap.size + 1 + 1) 62 #[.slice none 0 0, .slice none 0 0] := by rw [hZ]; exact (((((((X3.set_ 0 _).set_ 1 _).far (by simp) _).far (by simp) _).far (by simp) _).far (by simp) _).far (by simp) _).alloc _
    have XZ4 : Blk Z (w.heap.size + 1 + 1 + 1) 71 #[.int .i64 0, .int .i64 0, .int .i64 0, .int .i64 0, .int .i64 0] := by rw [hZ]; exact (((((((X4.far (by simp) _).far (by simp) _).set_ 0 _).set_ 1 _).set_ 2 _).set_ 3 _).set_ 4 _).alloc _
    have hbZ : Below w.heap.size w Z := by rw [hZ]; exact (((((((hbw3.setCell (by dsimp only; omega) _).setCell (by dsimp only; omega) _).setCell (by dsimp only; omega) _).setCell (by dsimp only; omega) _).setCell (by dsimp only; omega) _).setCell (by dsimp only; omega) _).setCell (by dsimp only; omega) _).alloc (by simp; omega) _
    clear hZ kX30 kX31 fX30 fX31 kX40 kX41 kX42 kX43 kX44 fX40 fX41 fX42 fX43 fX44
    obtain ⟨⟨kXZ30, kXZ31⟩, -⟩ := XZ3.c2
    obtain ⟨⟨kXZ40, kXZ41, kXZ42, kXZ43, kXZ44⟩, -⟩ := XZ4.c5
    refine bodyPost_ret (v := .tuple #[.agg #[.slice none 0 0, .slice none 0 0], .agg #[.int .i64 0, .int .i64 0, .int .i64 0, .int .i64 0, .int .i64 0], .int .i64 ef]) (by simp [results, Try.results68, go_sem, *]) rfl ?_
    exact retRem_mk (o := zeroOd) HE1.out (ownBk_zero _ _) hbZ
  · subst he
    obtain ⟨hbk, hom, -⟩ := HFO.out rfl
    have HE1 := Lib.hid (HE.out.trans (if_neg (by simp)))
    have HM := Lib.hid (own_mem hbk hom)
    have hlen := hbk.len
    clear hbk hom HE HFO
    have hs3' : w.heap.size + 1 + 1 + 1 + 1 ≤ w3.heap.size := by omega
    have x1 : w.heap.size < w3.heap.size := by omega
    go_wp2_with fail
    refine calls_name ?_
    intro w4 hw4
    have hb4 : Below w3.heap.size w3 w4 := by rw [hw4]; exact (Below.refl _ _).alloc (Nat.le_refl _) _
    have hs4 : w4.heap.size = w3.heap.size + 1 := by rw [hw4]; simp
    have X5 : Blk w4 w3.heap.size 71 #[.int .i64 o.id, .int .i64 o.acc, .int .i64 o.side, .int .i64 o.price, .int .i64 o.qty] := by rw [hw4]; exact Blk.new w3 _ _
    have X1' := X1.below hb4 X1.lt
    have X2' := X2.below hb4 X2.lt
    have X3' := X3.below hb4 X3.lt
    have X4' := X4.below hb4 X4.lt
    have hr4 := hr3.below (hb4.mono (by omega))
    have hbw4 := hbw3.trans (hb4.mono (by omega))
    clear hw4 X1 X2 X3 X4 kX10 kX11 hr3 hbw3 x1
    refine (copy_bk b A A' c c' B w4 hr4 (by omega) (by omega) (by omega)).mono ?_
    rintro e w5 ⟨v1, v2, rfl, hv1, hv2, hd12, hb5⟩
    obtain ⟨P1, p1, rfl⟩ := own_shape hv1
    obtain ⟨P2, p2, rfl⟩ := own_shape hv2
    have hs5 := hb5.size
    have hbw5 := hbw4.trans (hb5.mono (by omega))
    have X1 := X1'.below hb5 X1'.lt
    have X2 := X2'.below hb5 X2'.lt
    have X3 := X3'.below hb5 X3'.lt
    have X4 := X4'.below hb5 X4'.lt
    replace X5 := X5.below hb5 X5.lt
    clear X1' X2' X3' X4' hr4 hbw4 hb4
    obtain ⟨⟨kX10, kX11⟩, fX10, fX11⟩ := X1.c2
    obtain ⟨⟨kX50, kX51, kX52, kX53, kX54⟩, -⟩ := X5.c5
    clear hb5
    go_wp2_with fail
    refine calls_name ?_
    intro w6 hw6
    have hs6 : w6.heap.size = w5.heap.size := by rw [hw6]; simp
    have hbw6 : Below w.heap.size w w6 := by rw [hw6]; exact (hbw5.setCell (Nat.le_refl _) _).setCell (Nat.le_refl _) _
    have Y1 : Blk w6 w.heap.size 62 #[.slice P1 b.bids.length p1, .slice P2 b.asks.length p2] := by rw [hw6]; exact (X1.set_ 0 _).set_ 1 _
    have Y2 : Blk w6 (w.heap.size + 1) 3 #[.int .i64 id] := by rw [hw6]; exact (X2.far (by simp) _).far (by simp) _
    have Y3 : Blk w6 (w.heap.size + 1 + 1) 62 #[.slice none 0 0, .slice none 0 0] := by rw [hw6]; exact (X3.far (by simp; omega) _).far (by simp; omega) _
    have Y4 : Blk w6 (w.heap.size + 1 + 1 + 1) 71 #[.int .i64 0, .int .i64 0, .int .i64 0, .int .i64 0, .int .i64 0] := by rw [hw6]; exact (X4.far (by simp; omega) _).far (by simp; omega) _
    have Y5 : Blk w6 w3.heap.size 71 #[.int .i64 o.id, .int .i64 o.acc, .int .i64 o.side, .int .i64 o.price, .int .i64 o.qty] := by rw [hw6]; exact (X5.far (by simp; omega) _).far (by simp; omega) _
    have R1 : w6.ownsRow w4.heap.size 71 5 (.slice P1 b.bids.length p1) b.bids.length (odCells b.bids) := by rw [hw6]; exact ownsRow_setCell_below (ownsRow_setCell_below hv1 (by dsimp only; omega) _) (by dsimp only; omega) _
    have R2 : w6.ownsRow w4.heap.size 71 5 (.slice P2 b.asks.length p2) b.asks.length (odCells b.asks) := by rw [hw6]; exact ownsRow_setCell_below (ownsRow_setCell_below hv2 (by dsimp only; omega) _) (by dsimp only; omega) _
    clear hw6 hv1 hv2 X1 X2 X3 X4 X5 kX10 kX11 fX10 fX11 kX50 kX51 kX52 kX53 kX54 hbw5
    have HX := Lib.hid (rest_side o b)
    obtain ⟨⟨m0, m1⟩, -⟩ := Y1.c2
    by_cases hsd : o.side = 1
    · have hs1 : (o.side == 1) = true := by simpa using hsd
      have HY := Lib.hid (HX.out.1 hsd)
      clear hsd HX
      refine (of_buy' w.heap.size o.side w6 _ _ m0 m1 hs1).mono ?_
      rintro e w7 ⟨rfl, hw7⟩
      have hs7 : w7.heap.size = w6.heap.size := by rw [hw7]; rfl
      have V1 : Blk w7 w.heap.size 62 #[.slice P1 b.bids.length p1, .slice P2 b.asks.length p2] := by rw [hw7]; exact Y1
      have V2 : Blk w7 (w.heap.size + 1) 3 #[.int .i64 id] := by rw [hw7]; exact Y2
      have V3 : Blk w7 (w.heap.size + 1 + 1) 62 #[.slice none 0 0, .slice none 0 0] := by rw [hw7]; exact Y3
      have V4 : Blk w7 (w.heap.size + 1 + 1 + 1) 71 #[.int .i64 0, .int .i64 0, .int .i64 0, .int .i64 0, .int .i64 0] := by rw [hw7]; exact Y4
      have V5 : Blk w7 w3.heap.size 71 #[.int .i64 o.id, .int .i64 o.acc, .int .i64 o.side, .int .i64 o.price, .int .i64 o.qty] := by rw [hw7]; exact Y5
      replace R1 : w7.ownsRow w4.heap.size 71 5 (.slice P1 b.bids.length p1) b.bids.length (odCells b.bids) := by rw [hw7]; exact own_drewN R1 1
      replace R2 : w7.ownsRow w4.heap.size 71 5 (.slice P2 b.asks.length p2) b.asks.length (odCells b.asks) := by rw [hw7]; exact own_drewN R2 1
      have hbw7 : Below w.heap.size w w7 := by rw [hw7]; exact below_drewN hbw6 1
      clear hw7 m0 m1 Y1 Y2 Y3 Y4 Y5 hbw6
      obtain ⟨n1, hn1⟩ : ∃ n, n = b.bids.length := ⟨_, rfl⟩
      obtain ⟨n2, hn2⟩ : ∃ n, n = b.asks.length := ⟨_, rfl⟩
      rw [← hn1] at R1 hd12
      rw [← hn2] at R2 hd12
      rw [← hn1, ← hn2] at V1
      rw [← hn1, ← hn2]
      clear hn1 hn2
      obtain ⟨⟨kV10, kV11⟩, fV10, fV11⟩ := V1.c2
      have kV20 := V2.cell 0
      have HR := Lib.hid R1
      have HRx := Lib.hid R2
      have HD12 := Lib.hid hd12
      clear hd12
      go_wp2_with fail
      refine (delfunc_remove_od w4.heap.size (.slice P1 n1 p1) n1 (b.bids) id (w.heap.size + 1) _ HR.out (by omega) (by omega) (fun e => by have := (World.ownsRow.lt HR.out _ e).1; omega) kV20).mono ?_
      rintro e w8 ⟨v', rfl, hown', hbk', hbl', honly'⟩
      rw [del_filter] at hown'
      obtain ⟨PN, pN, rfl⟩ := own_shape hown'
      have hs8 := hbl'.size
      have HRN := Lib.hid hown'
      have HRX := Lib.hid (own_only HRx.out honly' (fun g h e => HD12.out _ e h))
      have hbw8 := hbw7.trans (hbl'.mono (by omega))
      have U1 := V1.below hbl' (by omega)
      have U3 := V3.below hbl' (by omega)
      have U4 := V4.below hbl' (by omega)
      have U5 := V5.below hbl' (by omega)
      clear hown' hbk' honly' hbl' V1 V2 V3 V4 V5 R1 R2 HR HRx hbw7 kV10 kV11 fV10 fV11 kV20
      obtain ⟨⟨kU10, kU11⟩, fU10, fU11⟩ := U1.c2
      go_wp2_with fail
      obtain ⟨w9, hw9⟩ : ∃ x, x = w8.setCell ⟨w.heap.size, 0, none⟩ (.slice PN (delO id (b.bids)).length pN) := ⟨_, rfl⟩
      rw [← hw9]
      have Z1 : Blk w9 w.heap.size 62 #[(.slice PN (delO id b.bids).length pN), (.slice P2 n2 p2)] := by rw [hw9]; exact U1.set_ 0 _
      have Z3 : Blk w9 (w.heap.size + 1 + 1) 62 #[.slice none 0 0, .slice none 0 0] := by rw [hw9]; exact U3.far (by simp; omega) _
      have Z4 : Blk w9 (w.heap.size + 1 + 1 + 1) 71 #[.int .i64 0, .int .i64 0, .int .i64 0, .int .i64 0, .int .i64 0] := by rw [hw9]; exact U4.far (by simp; omega) _
      have Z5 : Blk w9 w3.heap.size 71 #[.int .i64 o.id, .int .i64 o.acc, .int .i64 o.side, .int .i64 o.price, .int .i64 o.qty] := by rw [hw9]; exact U5.far (by simp; omega) _
      have hbw9 : Below w.heap.size w w9 := by rw [hw9]; exact hbw8.setCell (Nat.le_refl _) _
      have HR0 := Lib.hid (show w9.ownsRow w4.heap.size 71 5 (.slice PN (delO id (b.bids)).length pN) (delO id (b.bids)).length (odCells (delO id (b.bids))) by rw [hw9]; exact ownsRow_setCell_below HRN.out (by dsimp only; omega) _)
      have HR1 := Lib.hid (show w9.ownsRow w4.heap.size 71 5 (.slice P2 n2 p2) _ _ by rw [hw9]; exact ownsRow_setCell_below HRX.out (by dsimp only; omega) _)
      clear hw9 U1 U3 U4 U5 kU10 kU11 fU10 fU11 HRN HRX hbw8
      obtain ⟨⟨kZ10, kZ11⟩, -⟩ := Z1.c2
      obtain ⟨⟨kZ30, kZ31⟩, fZ30, fZ31⟩ := Z3.c2
      obtain ⟨⟨kZ40, kZ41, kZ42, kZ43, kZ44⟩, fZ40, fZ41, fZ42, fZ43, fZ44⟩ := Z4.c5
      obtain ⟨⟨kZ50, kZ51, kZ52, kZ53, kZ54⟩, -⟩ := Z5.c5
      have hz3 : ¬ (w.heap.size + 1 + 1 = w3.heap.size) := by omega
      have hz4 : ¬ (w.heap.size + 1 + 1 + 1 = w3.heap.size) := by omega
      go_region
      go_wp2_with fail
      refine post_name ?_
      intro Z hZ
      have XZ3 : Blk Z (w.heap.size + 1 + 1) 62 #[(.slice PN (delO id b.bids).length pN), (.slice P2 n2 p2)] := by rw [hZ]; exact (((((((Z3.set_ 0 _).set_ 1 _).far (by simp) _).far (by simp) _).far (by simp) _).far (by simp) _).far (by simp) _).drewN 1
      have XZ4 : Blk Z (w.heap.size + 1 + 1 + 1) 71 #[.int .i64 o.id, .int .i64 o.acc, .int .i64 o.side, .int .i64 o.price, .int .i64 o.qty] := by rw [hZ]; exact (((((((Z4.far (by simp) _).far (by simp) _).set_ 0 _).set_ 1 _).set_ 2 _).set_ 3 _).set_ 4 _).drewN 1
      have hbZ : Below w.heap.size w Z := by rw [hZ]; exact below_drewN (((((((hbw9.setCell (by dsimp only; omega) _).setCell (by dsimp only; omega) _).setCell (by dsimp only; omega) _).setCell (by dsimp only; omega) _).setCell (by dsimp only; omega) _).setCell (by dsimp only; omega) _).setCell (by dsimp only; omega) _) 1
      have hown : ∀ {v : Value} {n : Nat} {xs : List Value}, w9.ownsRow w4.heap.size 71 5 v n xs → Z.ownsRow w.heap.size 71 5 v n xs := by
        intro v n xs hv
        rw [hZ]
        exact own_mono (own_drewN (ownsRow_setCell_below (ownsRow_setCell_below (ownsRow_setCell_below (ownsRow_setCell_below (ownsRow_setCell_below (ownsRow_setCell_below (ownsRow_setCell_below hv (by dsimp only; omega) _) (by dsimp only; omega) _) (by dsimp only; omega) _) (by dsimp only; omega) _) (by dsimp only; omega) _) (by dsimp only; omega) _) (by dsimp only; omega) _) 1) (by omega)
      clear hZ kZ10 kZ11 kZ30 kZ31 fZ30 fZ31 kZ40 kZ41 kZ42 kZ43 kZ44 fZ40 fZ41 fZ42 fZ43 fZ44 kZ50 kZ51 kZ52 kZ53 kZ54 hz3 hz4
      obtain ⟨⟨kXZ30, kXZ31⟩, -⟩ := XZ3.c2
      obtain ⟨⟨kXZ40, kXZ41, kXZ42, kXZ43, kXZ44⟩, -⟩ := XZ4.c5
      refine bodyPost_ret (v := .tuple #[.agg #[(.slice PN (delO id b.bids).length pN), (.slice P2 n2 p2)], .agg #[.int .i64 o.id, .int .i64 o.acc, .int .i64 o.side, .int .i64 o.price, .int .i64 o.qty], .int .i64 0]) (by simp [results, Try.results68, go_sem, *]) rfl ?_
      refine retRem_mk (o := o) (b := mkB b (delO id (b.bids))) ?_ (ownBk_mk (hown HR0.out) (hown HR1.out)) hbZ
      rw [HE1.out, HY.out.2.1, HY.out.2.2]
    · have hs1 : (o.side == 1) = false := by simpa using hsd
      have HY := Lib.hid (HX.out.2 hsd)
      clear hsd HX
      refine (of_sell w.heap.size o.side w6 _ _ m0 m1 hs1).mono ?_
      rintro e w7 ⟨rfl, hw7⟩
      have hs7 : w7.heap.size = w6.heap.size := by rw [hw7]; rfl
      have V1 : Blk w7 w.heap.size 62 #[.slice P1 b.bids.length p1, .slice P2 b.asks.length p2] := by rw [hw7]; exact Y1
      have V2 : Blk w7 (w.heap.size + 1) 3 #[.int .i64 id] := by rw [hw7]; exact Y2
      have V3 : Blk w7 (w.heap.size + 1 + 1) 62 #[.slice none 0 0, .slice none 0 0] := by rw [hw7]; exact Y3
      have V4 : Blk w7 (w.heap.size + 1 + 1 + 1) 71 #[.int .i64 0, .int .i64 0, .int .i64 0, .int .i64 0, .int .i64 0] := by rw [hw7]; exact Y4
      have V5 : Blk w7 w3.heap.size 71 #[.int .i64 o.id, .int .i64 o.acc, .int .i64 o.side, .int .i64 o.price, .int .i64 o.qty] := by rw [hw7]; exact Y5
      replace R1 : w7.ownsRow w4.heap.size 71 5 (.slice P1 b.bids.length p1) b.bids.length (odCells b.bids) := by rw [hw7]; exact own_drewN R1 1
      replace R2 : w7.ownsRow w4.heap.size 71 5 (.slice P2 b.asks.length p2) b.asks.length (odCells b.asks) := by rw [hw7]; exact own_drewN R2 1
      have hbw7 : Below w.heap.size w w7 := by rw [hw7]; exact below_drewN hbw6 1
      clear hw7 m0 m1 Y1 Y2 Y3 Y4 Y5 hbw6
      obtain ⟨n1, hn1⟩ : ∃ n, n = b.bids.length := ⟨_, rfl⟩
      obtain ⟨n2, hn2⟩ : ∃ n, n = b.asks.length := ⟨_, rfl⟩
      rw [← hn1] at R1 hd12
      rw [← hn2] at R2 hd12
      rw [← hn1, ← hn2] at V1
      rw [← hn1, ← hn2]
      clear hn1 hn2
      obtain ⟨⟨kV10, kV11⟩, fV10, fV11⟩ := V1.c2
      have kV20 := V2.cell 0
      have HR := Lib.hid R2
      have HRx := Lib.hid R1
      have HD12 := Lib.hid hd12
      clear hd12
      go_wp2_with fail
      refine (delfunc_remove_od w4.heap.size (.slice P2 n2 p2) n2 (b.asks) id (w.heap.size + 1) _ HR.out (by omega) (by omega) (fun e => by have := (World.ownsRow.lt HR.out _ e).1; omega) kV20).mono ?_
      rintro e w8 ⟨v', rfl, hown', hbk', hbl', honly'⟩
      rw [del_filter] at hown'
      obtain ⟨PN, pN, rfl⟩ := own_shape hown'
      have hs8 := hbl'.size
      have HRN := Lib.hid hown'
      have HRX := Lib.hid (own_only HRx.out honly' (fun g h e => HD12.out _ h e))
      have hbw8 := hbw7.trans (hbl'.mono (by omega))
      have U1 := V1.below hbl' (by omega)
      have U3 := V3.below hbl' (by omega)
      have U4 := V4.below hbl' (by omega)
      have U5 := V5.below hbl' (by omega)
      clear hown' hbk' honly' hbl' V1 V2 V3 V4 V5 R1 R2 HR HRx hbw7 kV10 kV11 fV10 fV11 kV20
      obtain ⟨⟨kU10, kU11⟩, fU10, fU11⟩ := U1.c2
      go_wp2_with fail
      obtain ⟨w9, hw9⟩ : ∃ x, x = w8.setCell ⟨w.heap.size, 1, none⟩ (.slice PN (delO id (b.asks)).length pN) := ⟨_, rfl⟩
      rw [← hw9]
      have Z1 : Blk w9 w.heap.size 62 #[(.slice P1 n1 p1), (.slice PN (delO id b.asks).length pN)] := by rw [hw9]; exact U1.set_ 1 _
      have Z3 : Blk w9 (w.heap.size + 1 + 1) 62 #[.slice none 0 0, .slice none 0 0] := by rw [hw9]; exact U3.far (by simp; omega) _
      have Z4 : Blk w9 (w.heap.size + 1 + 1 + 1) 71 #[.int .i64 0, .int .i64 0, .int .i64 0, .int .i64 0, .int .i64 0] := by rw [hw9]; exact U4.far (by simp; omega) _
      have Z5 : Blk w9 w3.heap.size 71 #[.int .i64 o.id, .int .i64 o.acc, .int .i64 o.side, .int .i64 o.price, .int .i64 o.qty] := by rw [hw9]; exact U5.far (by simp; omega) _
      have hbw9 : Below w.heap.size w w9 := by rw [hw9]; exact hbw8.setCell (Nat.le_refl _) _
      have HR0 := Lib.hid (show w9.ownsRow w4.heap.size 71 5 (.slice PN (delO id (b.asks)).length pN) (delO id (b.asks)).length (odCells (delO id (b.asks))) by rw [hw9]; exact ownsRow_setCell_below HRN.out (by dsimp only; omega) _)
      have HR1 := Lib.hid (show w9.ownsRow w4.heap.size 71 5 (.slice P1 n1 p1) _ _ by rw [hw9]; exact ownsRow_setCell_below HRX.out (by dsimp only; omega) _)
      clear hw9 U1 U3 U4 U5 kU10 kU11 fU10 fU11 HRN HRX hbw8
      obtain ⟨⟨kZ10, kZ11⟩, -⟩ := Z1.c2
      obtain ⟨⟨kZ30, kZ31⟩, fZ30, fZ31⟩ := Z3.c2
      obtain ⟨⟨kZ40, kZ41, kZ42, kZ43, kZ44⟩, fZ40, fZ41, fZ42, fZ43, fZ44⟩ := Z4.c5
      obtain ⟨⟨kZ50, kZ51, kZ52, kZ53, kZ54⟩, -⟩ := Z5.c5
      have hz3 : ¬ (w.heap.size + 1 + 1 = w3.heap.size) := by omega
      have hz4 : ¬ (w.heap.size + 1 + 1 + 1 = w3.heap.size) := by omega
      go_region
      go_wp2_with fail
      refine post_name ?_
      intro Z hZ
      have XZ3 : Blk Z (w.heap.size + 1 + 1) 62 #[(.slice P1 n1 p1), (.slice PN (delO id b.asks).length pN)] := by rw [hZ]; exact (((((((Z3.set_ 0 _).set_ 1 _).far (by simp) _).far (by simp) _).far (by simp) _).far (by simp) _).far (by simp) _).drewN 1
      have XZ4 : Blk Z (w.heap.size + 1 + 1 + 1) 71 #[.int .i64 o.id, .int .i64 o.acc, .int .i64 o.side, .int .i64 o.price, .int .i64 o.qty] := by rw [hZ]; exact (((((((Z4.far (by simp) _).far (by simp) _).set_ 0 _).set_ 1 _).set_ 2 _).set_ 3 _).set_ 4 _).drewN 1
      have hbZ : Below w.heap.size w Z := by rw [hZ]; exact below_drewN (((((((hbw9.setCell (by dsimp only; omega) _).setCell (by dsimp only; omega) _).setCell (by dsimp only; omega) _).setCell (by dsimp only; omega) _).setCell (by dsimp only; omega) _).setCell (by dsimp only; omega) _).setCell (by dsimp only; omega) _) 1
      have hown : ∀ {v : Value} {n : Nat} {xs : List Value}, w9.ownsRow w4.heap.size 71 5 v n xs → Z.ownsRow w.heap.size 71 5 v n xs := by
        intro v n xs hv
        rw [hZ]
        exact own_mono (own_drewN (ownsRow_setCell_below (ownsRow_setCell_below (ownsRow_setCell_below (ownsRow_setCell_below (ownsRow_setCell_below (ownsRow_setCell_below (ownsRow_setCell_below hv (by dsimp only; omega) _) (by dsimp only; omega) _) (by dsimp only; omega) _) (by dsimp only; omega) _) (by dsimp only; omega) _) (by dsimp only; omega) _) (by dsimp only; omega) _) 1) (by omega)
      clear hZ kZ10 kZ11 kZ30 kZ31 fZ30 fZ31 kZ40 kZ41 kZ42 kZ43 kZ44 fZ40 fZ41 fZ42 fZ43 fZ44 kZ50 kZ51 kZ52 kZ53 kZ54 hz3 hz4
      obtain ⟨⟨kXZ30, kXZ31⟩, -⟩ := XZ3.c2
      obtain ⟨⟨kXZ40, kXZ41, kXZ42, kXZ43, kXZ44⟩, -⟩ := XZ4.c5
      refine bodyPost_ret (v := .tuple #[.agg #[(.slice P1 n1 p1), (.slice PN (delO id b.asks).length pN)], .agg #[.int .i64 o.id, .int .i64 o.acc, .int .i64 o.side, .int .i64 o.price, .int .i64 o.qty], .int .i64 0]) (by simp [results, Try.results68, go_sem, *]) rfl ?_
      refine retRem_mk (o := o) (b := mkA b (delO id (b.asks))) ?_ (ownBk_mk (hown HR1.out) (hown HR0.out)) hbZ
      rw [HE1.out, HY.out.2.1, HY.out.2.2]
end Go.Proofs.Ytockodmbhnlheaa
